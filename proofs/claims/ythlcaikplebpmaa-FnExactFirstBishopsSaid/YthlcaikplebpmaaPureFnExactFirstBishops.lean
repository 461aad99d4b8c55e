/- For every board and number FirstBishops returns what the reference returns, in memory of its own, and leaves its board as it was: no condition but that the arguments can be read. -/
import Derived.Test.YthlcaikplebpmaaPx0
import Derived.Test.YthlcaikplebpmaaQ5d21c5e0d1
import Derived.Test.YthlcaikplebpmaaQ068efbf923
import Derived.Test.YthlcaikplebpmaaQb269d509c4
import Derived.Test.YthlcaikplebpmaaQ53cef9bec4
import Derived.Test.YthlcaikplebpmaaQ494f91a220
import Derived.Test.YthlcaikplebpmaaQ2ab41e0ecc
import Derived.Test.YthlcaikplebpmaaQ5439fa8678
import Derived.Test.YthlcaikplebpmaaQ8e32b397f7
import Derived.Test.YthlcaikplebpmaaQ08368c3b8d
namespace Go.Proofs.Ythlcaikplebpmaa.P
open Go.RowKit Go.Proofs.YthlcaikplebpmaaW.PrintWords Go.Proofs.YthlcaikplebpmaaW.PrintLast Go.Proofs.YthlcaikplebpmaaW.PrintMore
set_option linter.unusedVariables false
set_option linter.unusedSimpArgs false
theorem w64 (n : Int) (h : -9223372036854775808 ≤ n) (h2 : n ≤ 9223372036854775807) : wrap64 n = n := by unfold wrap64; omega
theorem rd_nat (l : List Int) (i : Nat) (h : i < l.length) : rd l (i : Int) = l[i] := by
  unfold rd; simp [List.getD_eq_getElem?_getD, List.getElem?_eq_getElem h]
theorem drop_cons (l : List Int) (i : Nat) (h : i < l.length) : l.drop i = l[i] :: l.drop (i + 1) := List.drop_eq_getElem_cons h
theorem ev_get {α : Type} {g : Nat → Option α} {r : α} (h : Ev g r) : ∃ K, ∀ k, K ≤ k → g k = some r := h
theorem take_set_succ {α : Type} (l : List α) (i : Nat) (x : α) (h : i < l.length) : (l.set i x).take (i + 1) = l.take i ++ [x] := by
  rw [List.take_add_one, List.take_set_of_le (Nat.le_refl _)]
  simp [h]
theorem toIntS_l0 (x0 : List Int) (hl : x0.length ≤ 1152921504606846976) : ∀ (d i : Nat) (x3 : List Int) (k : Nat), x0.length - i = d → i ≤ x0.length → x3.length = x0.length → d < k →
    laws_toIntS.l0 k x0 x3 (i : Int) = some (x3.take i ++ x0.drop i) := by
  intro d
  induction d with
  | zero =>
    intro i x3 k hd hi hx hk
    obtain ⟨k, rfl⟩ : ∃ m, k = m + 1 := ⟨k - 1, by omega⟩
    rw [laws_toIntS.l0, if_neg (by omega)]
    have : i = x0.length := by omega
    subst this
    simp [← hx]
  | succ d ih =>
    intro i x3 k hd hi hx hk
    obtain ⟨k, rfl⟩ : ∃ m, k = m + 1 := ⟨k - 1, by omega⟩
    have h1 : i < x0.length := by omega
    rw [laws_toIntS.l0, if_pos (by omega), if_pos (by omega), if_pos (by omega), w64 _ (by omega) (by omega)]
    have := ih (i + 1) (x3.set i (rd x0 i)) k (by omega) (by omega) (by simp [hx]) (by omega)
    rw [show ((i : Int) + 1) = ((i + 1 : Nat) : Int) by omega, show (i : Int).toNat = i by omega, this, rd_nat _ _ h1, drop_cons x0 i h1]
    congr 1
    rw [take_set_succ _ _ _ (by omega)]
    simp
theorem toIntS_ev (l : List Int) (hl : l.length ≤ 35184372088832) : Ev (fun k => laws_toIntS.f k l) l := by
  refine ⟨l.length + 1, fun k hk => ?_⟩
  simp only [laws_toIntS.f]
  rw [if_pos (by omega), if_pos (by omega)]
  have := toIntS_l0 l (by omega) l.length 0 (List.replicate l.length 0) k (by omega) (by omega) (by simp) (by omega)
  simpa using this
theorem eqIntS_l0 (a b : List Int) (hl : a.length = b.length) (hb : a.length ≤ 1152921504606846976) : ∀ (d i : Nat) (k : Nat), a.length - i = d → i ≤ a.length → d < k →
    laws_eqIntS.l0 k a b (i : Int) = some (decide (a.drop i = b.drop i)) := by
  intro d
  induction d with
  | zero =>
    intro i k hd hi hk
    obtain ⟨k, rfl⟩ : ∃ m, k = m + 1 := ⟨k - 1, by omega⟩
    rw [laws_eqIntS.l0, if_neg (by omega)]
    simp [List.drop_eq_nil_of_le (show a.length ≤ i by omega), List.drop_eq_nil_of_le (show b.length ≤ i by omega)]
  | succ d ih =>
    intro i k hd hi hk
    obtain ⟨k, rfl⟩ : ∃ m, k = m + 1 := ⟨k - 1, by omega⟩
    have h1 : i < a.length := by omega
    rw [laws_eqIntS.l0, if_pos (by omega), if_pos (by omega), if_pos (by omega), w64 _ (by omega) (by omega), rd_nat _ _ h1, rd_nat _ _ (show i < b.length by omega)]
    rw [show ((i : Int) + 1) = ((i + 1 : Nat) : Int) by omega, ih (i + 1) k (by omega) (by omega) (by omega)]
    rw [drop_cons a i h1, drop_cons b i (by omega)]
    generalize a.drop (i + 1) = ta, b.drop (i + 1) = tb
    by_cases h : a[i] = b[i]
    · simp [h]
    · simp [h]
theorem eqIntS_ev (a b : List Int) (hb : a.length ≤ 1152921504606846976) : Ev (fun k => laws_eqIntS.f k a b) (decide (a = b)) := by
  refine ⟨a.length + 1, fun k hk => ?_⟩
  simp only [laws_eqIntS.f]
  by_cases h : a.length = b.length
  · rw [if_pos (by omega)]
    have := eqIntS_l0 a b h hb a.length 0 k (by omega) (by omega) (by omega)
    simpa using this
  · rw [if_neg (by omega)]
    congr 1
    symm
    apply decide_eq_false
    intro e
    exact h (by rw [e])
def marks (n : Nat) (k : Int) : List Int := (List.range n).map fun (i : Nat) => k + (i : Int)
theorem marks_length (n : Nat) (k : Int) : (marks n k).length = n := by simp [marks]
theorem marks_succ (n : Nat) (k : Int) : marks (n + 1) k = k :: marks n (k + 1) := by
  unfold marks
  rw [List.range_succ_eq_map, List.map_cons, List.map_map]
  congr 1
  · simp
  · apply List.map_congr_left
    intro a _
    simp
    omega
theorem markIntS_l0 : ∀ (d i : Nat) (x0 : List Int) (x1 : Int) (k : Nat), x0.length - i = d → i ≤ x0.length → d < k → x0.length ≤ 1152921504606846976 → 0 ≤ x1 → x1 + d ≤ 4611686018427387904 →
    laws_markIntS.l0 k x0 x1 (i : Int) = some (x1 + d, x0.take i ++ marks d x1) := by
  intro d
  induction d with
  | zero =>
    intro i x0 x1 k hd hi hk hb h0 h1
    obtain ⟨k, rfl⟩ : ∃ m, k = m + 1 := ⟨k - 1, by omega⟩
    rw [laws_markIntS.l0, if_neg (by omega)]
    have : i = x0.length := by omega
    subst this
    simp [marks]
  | succ d ih =>
    intro i x0 x1 k hd hi hk hb h0 h1
    obtain ⟨k, rfl⟩ : ∃ m, k = m + 1 := ⟨k - 1, by omega⟩
    rw [laws_markIntS.l0, if_pos (by omega), if_pos (by omega), w64 _ (by omega) (by omega), w64 _ (by omega) (by omega)]
    rw [show ((i : Int) + 1) = ((i + 1 : Nat) : Int) by omega, show (i : Int).toNat = i by omega]
    rw [ih (i + 1) (x0.set i x1) (x1 + 1) k (by simp; omega) (by simp; omega) (by omega) (by simpa using hb) (by omega) (by omega)]
    rw [marks_succ]
    congr 2
    · omega
    · rw [take_set_succ _ _ _ (by omega)]
      simp
theorem markIntS_ev (l : List Int) (k1 : Int) (hb : l.length ≤ 1152921504606846976) (h0 : 0 ≤ k1) (h1 : k1 + l.length ≤ 4611686018427387904) : Ev (fun k => laws_markIntS.f k l k1) (k1 + l.length, marks l.length k1) := by
  refine ⟨l.length + 1, fun k hk => ?_⟩
  simp only [laws_markIntS.f]
  have := markIntS_l0 l.length 0 l k1 k (by omega) (by omega) (by omega) hb h0 h1
  simpa using this
theorem heldIntS_l0 (n : Nat) (k0 : Int) (hb : n ≤ 1152921504606846976) (h0 : 0 ≤ k0) (h1 : k0 + n ≤ 4611686018427387904) : ∀ (d i : Nat) (k : Nat), n - i = d → i ≤ n → d < k →
    laws_heldIntS.l0 k (marks n k0) (k0 + i) (i : Int) = some (k0 + n) := by
  intro d
  induction d with
  | zero =>
    intro i k hd hi hk
    obtain ⟨k, rfl⟩ : ∃ m, k = m + 1 := ⟨k - 1, by omega⟩
    rw [laws_heldIntS.l0, if_neg (by rw [marks_length]; omega)]
    congr 1; omega
  | succ d ih =>
    intro i k hd hi hk
    obtain ⟨k, rfl⟩ : ∃ m, k = m + 1 := ⟨k - 1, by omega⟩
    have h2 : i < (marks n k0).length := by rw [marks_length]; omega
    rw [laws_heldIntS.l0, if_pos (by rw [marks_length]; omega), if_pos (by omega), rd_nat _ _ h2, if_pos (by simp [marks]), w64 _ (by omega) (by omega), w64 _ (by omega) (by omega)]
    have := ih (i + 1) k (by omega) (by omega) (by omega)
    rw [show ((i : Int) + 1) = ((i + 1 : Nat) : Int) by omega, show (k0 + (i : Int) + 1) = k0 + ((i + 1 : Nat) : Int) by omega]
    exact this
theorem heldIntS_ev (n : Nat) (k0 : Int) (hb : n ≤ 1152921504606846976) (h0 : 0 ≤ k0) (h1 : k0 + n ≤ 4611686018427387904) : Ev (fun k => laws_heldIntS.f k (marks n k0) k0) (k0 + n) := by
  refine ⟨n + 1, fun k hk => ?_⟩
  simp only [laws_heldIntS.f]
  have := heldIntS_l0 n k0 hb h0 h1 n 0 k (by omega) (by omega) (by omega)
  simpa using this
def inB (n lo hi : Int) : Bool := decide (lo ≤ n ∧ n ≤ hi)
theorem l1In_eq (a b c : Int) : spec_l1In.f a b c = some (inB a b c) := by
  unfold spec_l1In.f inB
  by_cases h : a ≥ b
  · rw [if_pos h]; congr 1; simp; omega
  · rw [if_neg h]; congr 1; symm; apply decide_eq_false; omega
theorem within_eq (a b c : Int) : impl_within.f a b c = some (inB a b c) := by
  unfold impl_within.f inB
  by_cases h : b ≤ a
  · rw [if_pos h]; congr 1; simp; omega
  · rw [if_neg h]; congr 1; symm; apply decide_eq_false; omega
def allIn (l : List Int) (lo hi : Int) : Bool := l.all fun x => inB x lo hi
theorem l1All_l0 (lo hi : Int) (l : List Int) (hb : l.length ≤ 1152921504606846976) : ∀ (d i : Nat) (k : Nat), l.length - i = d → i ≤ l.length → d < k →
    spec_l1All.l0 k lo hi l (l.length : Int) (i : Int) = some (allIn (l.drop i) lo hi) := by
  intro d
  induction d with
  | zero =>
    intro i k hd hi' hk
    obtain ⟨k, rfl⟩ : ∃ m, k = m + 1 := ⟨k - 1, by omega⟩
    rw [spec_l1All.l0, if_neg (by omega), List.drop_eq_nil_of_le (by omega)]
    rfl
  | succ d ih =>
    intro i k hd hi' hk
    obtain ⟨k, rfl⟩ : ∃ m, k = m + 1 := ⟨k - 1, by omega⟩
    have h1 : i < l.length := by omega
    rw [spec_l1All.l0, if_pos (by omega), if_pos (by omega), if_pos (by omega), l1In_eq, Option.bind_some, w64 _ (by omega) (by omega), rd_nat _ _ h1]
    rw [show ((i : Int) + 1) = ((i + 1 : Nat) : Int) by omega, ih (i + 1) k (by omega) (by omega) (by omega), drop_cons l i h1]
    unfold allIn
    rw [List.all_cons]
    generalize l.drop (i + 1) = tl
    by_cases h : inB l[i] lo hi = true
    · rw [if_pos h, h]; simp
    · rw [if_neg h]; simp at h; rw [h]; simp
theorem l1All_ev (l : List Int) (lo hi : Int) (hb : l.length ≤ 1152921504606846976) : Ev (fun k => spec_l1All.f k l lo hi) (allIn l lo hi) := by
  refine ⟨l.length + 1, fun k hk => ?_⟩
  simp only [spec_l1All.f]
  have := l1All_l0 lo hi l hb l.length 0 k (by omega) (by omega) (by omega)
  simpa using this
end Go.Proofs.Ythlcaikplebpmaa.P
namespace Go.Proofs.Ythlcaikplebpmaa.P
open Go.RowKit Go.Proofs.YthlcaikplebpmaaW.PrintWords Go.Proofs.YthlcaikplebpmaaW.PrintLast Go.Proofs.YthlcaikplebpmaaW.PrintMore
set_option linter.unusedVariables false
set_option linter.unusedSimpArgs false
theorem boardB_iff (r c : Int) (l : List Int) : boardB r c l = true ↔ (1 ≤ r ∧ r ≤ 6) ∧ (1 ≤ c ∧ c ≤ 6) ∧ (l.length : Int) = r ∧ ∀ m ∈ l, 0 ≤ m ∧ m ≤ 2 ^ c.toNat - 1 := by
  unfold boardB
  simp only [Bool.and_eq_true, decide_eq_true_eq, List.all_eq_true]
  constructor
  · rintro ⟨⟨⟨a, b⟩, c⟩, d⟩; exact ⟨a, b, c, d⟩
  · rintro ⟨a, b, c, d⟩; exact ⟨⟨⟨a, b⟩, c⟩, d⟩
theorem shl_one (c : Int) (h0 : 0 ≤ c) (h1 : c ≤ 62) : shl .i64 1 c = 2 ^ c.toNat := by
  unfold shl
  rw [Int.one_mul, Nat.min_eq_left (show c.toNat ≤ IntKind.i64.bits by have : IntKind.i64.bits = 64 := rfl; omega)]
  rw [i64_w, w64]
  · have : (0 : Int) ≤ 2 ^ c.toNat := Int.le_of_lt (Int.pow_pos (by decide))
    omega
  · have h : (2 : Int) ^ c.toNat ≤ 2 ^ 62 := by
      have := Nat.pow_le_pow_right (show 0 < 2 by decide) (show c.toNat ≤ 62 by omega)
      exact_mod_cast this
    have e : (2 : Int) ^ 62 = 4611686018427387904 := by decide
    omega
theorem pow_le6 (c : Int) (h1 : c ≤ 6) : (2 : Int) ^ c.toNat ≤ 64 := by
  have := Nat.pow_le_pow_right (show 0 < 2 by decide) (show c.toNat ≤ 6 by omega)
  have h : (2 : Int) ^ c.toNat ≤ 2 ^ 6 := by exact_mod_cast this
  exact h
theorem pow_pos2 (c : Int) : (1 : Int) ≤ 2 ^ c.toNat := by
  have : (0 : Int) < 2 ^ c.toNat := Int.pow_pos (by decide)
  omega
theorem boSide_eq (a : Int) : spec_boSide.f a = some (inB a 1 6) := by
  simp only [spec_boSide.f, l1In_eq, Option.bind_some]
theorem boGood_ev (r c : Int) (l : List Int) (hb : l.length ≤ 1152921504606846976) : Ev (fun k => spec_boGood.f k r c l) (boardB r c l) := by
  by_cases h1 : 1 ≤ r ∧ r ≤ 6
  · by_cases h2 : 1 ≤ c ∧ c ≤ 6
    · by_cases h3 : (l.length : Int) = r
      · obtain ⟨K, hK⟩ := ev_get (l1All_ev l 0 (2 ^ c.toNat - 1) hb)
        refine ⟨K, fun k hk => ?_⟩
        have hp := pow_le6 c h2.2
        have hp2 := pow_pos2 c
        simp only [spec_boGood.f, boSide_eq, Option.bind_some]
        rw [if_pos (by simpa [inB] using h1), if_pos (by simpa [inB] using h2), if_pos h3, if_pos (by omega), shl_one c (by omega) (by omega), w64 _ (by omega) (by omega), hK k hk, Option.bind_some]
        congr 1
        unfold boardB allIn inB
        simp [h1, h2, h3]
      · refine ⟨0, fun k hk => ?_⟩
        simp only [spec_boGood.f, boSide_eq, Option.bind_some]
        rw [if_pos (by simpa [inB] using h1), if_pos (by simpa [inB] using h2), if_neg h3]
        congr 1; unfold boardB; simp [h3]
    · refine ⟨0, fun k hk => ?_⟩
      simp only [spec_boGood.f, boSide_eq, Option.bind_some]
      rw [if_pos (by simpa [inB] using h1), if_neg (by simpa [inB] using h2)]
      congr 1; unfold boardB; rw [decide_eq_false h2]; simp
  · refine ⟨0, fun k hk => ?_⟩
    simp only [spec_boGood.f, boSide_eq, Option.bind_some]
    rw [if_neg (by simpa [inB] using h1)]
    congr 1; unfold boardB; rw [decide_eq_false h1]; simp
theorem szBoard_eq (r c : Int) (l : List Int) (left : Int) (h0 : 0 ≤ left) (h1 : left ≤ 1048576) (hl : l.length ≤ maxLen) : laws_szBoard.f r c l left = some (if left - l.length < 0 then -1 else left - l.length) := by
  simp only [laws_szBoard.f, laws_szIntS.f]
  simp only [maxLen] at hl
  rw [w64 _ (by omega) (by omega)]
  split
  · simp only [Option.bind_some]; simp
  · simp only [Option.bind_some]; simp [*]
theorem toBoard_ev (r c : Int) (l : List Int) (hl : l.length ≤ 35184372088832) : Ev (fun k => laws_toBoard.f k r c l) (r, c, l) := by
  obtain ⟨K, hK⟩ := ev_get (toIntS_ev l hl)
  refine ⟨K, fun k hk => ?_⟩
  simp only [laws_toBoard.f, hK k hk, Option.bind_some]
theorem eqBoard_ev (r c : Int) (l : List Int) (hb : l.length ≤ 1152921504606846976) : Ev (fun k => laws_eqBoard.f k r c l r c l) true := by
  obtain ⟨K, hK⟩ := ev_get (eqIntS_ev l l hb)
  refine ⟨K, fun k hk => ?_⟩
  simp only [laws_eqBoard.f, hK k hk, Option.bind_some, if_true, decide_true]
theorem markBoard_ev (r c : Int) (l : List Int) (hb : l.length ≤ 1152921504606846976) : Ev (fun k => laws_markBoard.f k r c l 1) (1 + l.length, marks l.length 1) := by
  obtain ⟨K, hK⟩ := ev_get (markIntS_ev l 1 hb (by omega) (by omega))
  refine ⟨K, fun k hk => ?_⟩
  simp only [laws_markBoard.f, hK k hk, Option.bind_some]
end Go.Proofs.Ythlcaikplebpmaa.P
namespace Go.Proofs.Ythlcaikplebpmaa.P
open Go.RowKit Go.Proofs.YthlcaikplebpmaaW.PrintWords Go.Proofs.YthlcaikplebpmaaW.PrintLast Go.Proofs.YthlcaikplebpmaaW.PrintMore
set_option linter.unusedVariables false
set_option linter.unusedSimpArgs false
theorem rdL_mid (a b : List (List Int)) (l : List Int) : rd_L1 (a ++ l :: b) (a.length : Int) = l := by
  unfold rd_L1; simp
theorem rdL_nat (s : List (List Int)) (i : Nat) (h : i < s.length) : rd_L1 s (i : Int) = s[i] := by
  unfold rd_L1; simp [List.getD_eq_getElem?_getD, List.getElem?_eq_getElem h]
def total : List (List Int) → Nat
  | [] => 0
  | l :: s => l.length + total s
theorem total_le {s : List (List Int)} {c : Nat} (h : ∀ l ∈ s, l.length ≤ c) : total s ≤ c * s.length := by
  induction s with
  | nil => simp [total]
  | cons x s ih =>
    have h1 := h x (List.mem_cons_self ..)
    have h2 := ih (fun l hl => h l (List.mem_cons_of_mem _ hl))
    simp only [total, List.length_cons, Nat.mul_succ]
    omega
def marksS : List (List Int) → Int → List (List Int)
  | [], _ => []
  | l :: s, k => marks l.length k :: marksS s (k + l.length)
theorem eqIntSS_l0 : ∀ (rest rest2 done done2 : List (List Int)), rest.length = rest2.length → done.length = done2.length → (done ++ rest).length ≤ 1152921504606846976 → (∀ l ∈ rest, l.length ≤ 1152921504606846976) →
    Ev (fun k => laws_eqIntSS.l0 k (done ++ rest) (done2 ++ rest2) (done.length : Int)) (decide (rest = rest2)) := by
  intro rest
  induction rest with
  | nil =>
    intro rest2 done done2 h1 h2 hb hl
    refine ⟨1, fun k hk => ?_⟩
    obtain ⟨k, rfl⟩ : ∃ m, k = m + 1 := ⟨k - 1, by omega⟩
    simp only [laws_eqIntSS.l0]
    obtain rfl : rest2 = [] := List.length_eq_zero_iff.1 (by simpa using h1.symm)
    rw [if_neg (by simp)]; simp
  | cons l rest ih =>
    intro rest2 done done2 h1 h2 hb hl
    obtain ⟨l2, rest2, rfl⟩ : ∃ y t, rest2 = y :: t := by
      cases rest2 with
      | nil => simp at h1
      | cons y t => exact ⟨y, t, rfl⟩
    simp only [List.length_append, List.length_cons] at hb h1
    obtain ⟨K1, h3⟩ := ev_get (eqIntS_ev l l2 (hl l (List.mem_cons_self ..)))
    obtain ⟨K2, h4⟩ := ev_get (ih rest2 (done ++ [l]) (done2 ++ [l2]) (by omega) (by simp; omega) (by simp; omega) (fun l hm => hl l (List.mem_cons_of_mem _ hm)))
    refine ⟨K1 + K2 + 1, fun k hk => ?_⟩
    obtain ⟨k, rfl⟩ : ∃ m, k = m + 1 := ⟨k - 1, by omega⟩
    simp only [laws_eqIntSS.l0]
    have e : rd_L1 (done2 ++ l2 :: rest2) (done.length : Int) = l2 := by rw [h2]; exact rdL_mid _ _ _
    rw [if_pos (by simp; omega), if_pos (by omega), if_pos (by simp; omega), rdL_mid, e, h3 k (by omega), Option.bind_some, w64 _ (by omega) (by omega)]
    have h5 := h4 k (by omega)
    simp only [List.append_assoc, List.singleton_append, List.length_append, List.length_cons, List.length_nil] at h5
    by_cases h : l = l2
    · rw [if_pos (by simpa using h)]
      refine h5.trans ?_
      simp [h]
    · rw [if_neg (by simpa using h)]
      simp [h]
theorem eqIntSS_ev (a b : List (List Int)) (hb : a.length ≤ 1152921504606846976) (hl : ∀ l ∈ a, l.length ≤ 1152921504606846976) : Ev (fun k => laws_eqIntSS.f k a b) (decide (a = b)) := by
  by_cases h : a.length = b.length
  · obtain ⟨K, hK⟩ := ev_get (eqIntSS_l0 a b [] [] h rfl (by simpa using hb) hl)
    refine ⟨K, fun k hk => ?_⟩
    simp only [laws_eqIntSS.f]
    rw [if_pos (by omega)]
    simpa using hK k hk
  · refine ⟨0, fun k hk => ?_⟩
    simp only [laws_eqIntSS.f]
    rw [if_neg (by omega)]
    congr 1; symm; apply decide_eq_false
    exact fun e => h (by rw [e])
theorem markIntSS_l0 : ∀ (rest done : List (List Int)) (x1 : Int), (done ++ rest).length ≤ 1152921504606846976 → total rest ≤ 1152921504606846976 → 0 ≤ x1 → x1 + total rest ≤ 4611686018427387904 →
    Ev (fun k => laws_markIntSS.l0 k (done ++ rest) x1 (done.length : Int)) (x1 + total rest, done ++ marksS rest x1) := by
  intro rest
  induction rest with
  | nil =>
    intro done x1 hb ht h0 h1
    refine ⟨1, fun k hk => ?_⟩
    obtain ⟨k, rfl⟩ : ∃ m, k = m + 1 := ⟨k - 1, by omega⟩
    simp only [laws_markIntSS.l0]
    rw [if_neg (by simp)]
    simp [total, marksS]
  | cons l rest ih =>
    intro done x1 hb ht h0 h1
    simp only [List.length_append, List.length_cons, total] at hb ht h1
    obtain ⟨K1, h3⟩ := ev_get (markIntS_ev l x1 (by omega) h0 (by omega))
    obtain ⟨K2, h4⟩ := ev_get (ih (done ++ [marks l.length x1]) (x1 + l.length) (by simp; omega) (by omega) (by omega) (by omega))
    refine ⟨K1 + K2 + 1, fun k hk => ?_⟩
    obtain ⟨k, rfl⟩ : ∃ m, k = m + 1 := ⟨k - 1, by omega⟩
    simp only [laws_markIntSS.l0]
    rw [if_pos (by simp; omega), if_pos (by omega), rdL_mid, h3 k (by omega), Option.bind_some, w64 _ (by omega) (by omega), show ((done.length : Int)).toNat = done.length by omega, List.set_append_right _ _ (Nat.le_refl _), Nat.sub_self, List.set_cons_zero]
    have h5 := h4 k (by omega)
    simp only [List.append_assoc, List.singleton_append, List.length_append, List.length_cons, List.length_nil] at h5
    refine h5.trans ?_
    simp only [total, marksS, Option.some.injEq, Prod.mk.injEq, and_true]
    omega
theorem markIntSS_ev (s : List (List Int)) (k0 : Int) (hb : s.length ≤ 1152921504606846976) (ht : total s ≤ 1152921504606846976) (h0 : 0 ≤ k0) (h1 : k0 + total s ≤ 4611686018427387904) :
    Ev (fun k => laws_markIntSS.f k s k0) (k0 + total s, marksS s k0) := by
  have := markIntSS_l0 s [] k0 (by simpa using hb) ht h0 h1
  simpa [laws_markIntSS.f] using this
theorem heldIntSS_l0 : ∀ (rest done : List (List Int)) (x1 : Int), (done ++ rest).length ≤ 1152921504606846976 → total rest ≤ 1152921504606846976 → 0 ≤ x1 → x1 + total rest ≤ 4611686018427387904 →
    Ev (fun k => laws_heldIntSS.l0 k (done ++ marksS rest x1) x1 (done.length : Int)) (x1 + total rest) := by
  intro rest
  induction rest with
  | nil =>
    intro done x1 hb ht h0 h1
    refine ⟨1, fun k hk => ?_⟩
    obtain ⟨k, rfl⟩ : ∃ m, k = m + 1 := ⟨k - 1, by omega⟩
    show laws_heldIntSS.l0 (k + 1) (done ++ []) x1 (done.length : Int) = _
    simp only [laws_heldIntSS.l0]
    rw [if_neg (by simp)]
    simp [total]
  | cons l rest ih =>
    intro done x1 hb ht h0 h1
    simp only [List.length_append, List.length_cons, total] at hb ht h1
    obtain ⟨K1, h3⟩ := ev_get (heldIntS_ev l.length x1 (by omega) h0 (by omega))
    obtain ⟨K2, h4⟩ := ev_get (ih (done ++ [marks l.length x1]) (x1 + l.length) (by simp; omega) (by omega) (by omega) (by omega))
    refine ⟨K1 + K2 + 1, fun k hk => ?_⟩
    obtain ⟨k, rfl⟩ : ∃ m, k = m + 1 := ⟨k - 1, by omega⟩
    show laws_heldIntSS.l0 (k + 1) (done ++ marks l.length x1 :: marksS rest (x1 + l.length)) x1 (done.length : Int) = _
    simp only [laws_heldIntSS.l0]
    rw [if_pos (by simp; omega), if_pos (by omega), rdL_mid, h3 k (by omega), Option.bind_some, if_neg (by omega), w64 _ (by omega) (by omega)]
    have h5 := h4 k (by omega)
    simp only [List.append_assoc, List.singleton_append, List.length_append, List.length_cons, List.length_nil] at h5
    refine h5.trans ?_
    simp only [total, Option.some.injEq]
    omega
theorem heldIntSS_ev (s : List (List Int)) (k0 : Int) (hb : s.length ≤ 1152921504606846976) (ht : total s ≤ 1152921504606846976) (h0 : 0 ≤ k0) (h1 : k0 + total s ≤ 4611686018427387904) :
    Ev (fun k => laws_heldIntSS.f k (marksS s k0) k0) (k0 + total s) := by
  have := heldIntSS_l0 s [] k0 (by simpa using hb) ht h0 h1
  simpa [laws_heldIntSS.f] using this
end Go.Proofs.Ythlcaikplebpmaa.P
namespace Go.Proofs.Ythlcaikplebpmaa.P
open Go.RowKit Go.Proofs.YthlcaikplebpmaaW.PrintWords Go.Proofs.YthlcaikplebpmaaW.PrintLast Go.Proofs.YthlcaikplebpmaaW.PrintMore
set_option linter.unusedVariables false
set_option linter.unusedSimpArgs false
/-- A mask has a column. -/
def hasM (m : Int) (j : Int) : Bool := Int.tmod (shr .i64 m j) 2 == 1
theorem has_bits : ∀ m : Fin 64, ∀ c : Fin 6, (Go.bits .and .i64 (shr .i64 (m.val : Int) (c.val : Int)) 1 == 1) = hasM (m.val : Int) (c.val : Int) := by decide +kernel
theorem has_bits' (m c : Int) (h0 : 0 ≤ m) (h1 : m ≤ 63) (h2 : 0 ≤ c) (h3 : c ≤ 5) : (Go.bits .and .i64 (shr .i64 m c) 1 == 1) = hasM m c := by
  have h := has_bits ⟨m.toNat, by omega⟩ ⟨c.toNat, by omega⟩
  simp only [show ((m.toNat : Nat) : Int) = m by omega, show ((c.toNat : Nat) : Int) = c by omega] at h
  exact h
/-- The board has the cell. -/
def hasC (l : List Int) (i j : Int) : Bool := hasM (rd l i) j
theorem board_row {r c : Int} {l : List Int} (h : boardB r c l = true) {i : Int} (h0 : 0 ≤ i) (h1 : i < r) : 0 ≤ rd l i ∧ rd l i ≤ 63 := by
  obtain ⟨hr, hc, hl, hm⟩ := (boardB_iff r c l).1 h
  have hp6 := pow_le6 c hc.2
  have hx : i.toNat < l.length := by omega
  have := hm l[i.toNat] (List.getElem_mem hx)
  have e : rd l i = l[i.toNat] := by
    have := rd_nat l i.toNat hx
    rwa [show ((i.toNat : Nat) : Int) = i by omega] at this
  rw [e]; omega
theorem boHas_eq {r c : Int} {l : List Int} (h : boardB r c l = true) {i j : Int} (h0 : 0 ≤ i) (h1 : i < r) (h2 : 0 ≤ j) : spec_boHas.f r c l i j = some (hasC l i j) := by
  obtain ⟨hr, hc, hl, hm⟩ := (boardB_iff r c l).1 h
  simp only [spec_boHas.f]
  rw [if_pos h0, if_pos (by omega), if_pos h2]
  rfl
theorem has_eq {r c : Int} {l : List Int} (h : boardB r c l = true) {i j : Int} (h0 : 0 ≤ i) (h1 : i < r) (h2 : 0 ≤ j) (h3 : j < c) : impl_Board_has.f r c l i j = some (hasC l i j) := by
  obtain ⟨hr, hc, hl, hm⟩ := (boardB_iff r c l).1 h
  have hb := board_row h h0 h1
  simp only [impl_Board_has.f]
  rw [if_pos h0, if_pos (by omega), if_pos h2, has_bits' _ _ hb.1 hb.2 h2 (by omega)]
  rfl
theorem crange'_step (s n : Nat) (h : s < n) : List.range' s (n - s) = s :: List.range' (s + 1) (n - (s + 1)) := by
  rw [show n - s = (n - (s + 1)) + 1 by omega, List.range'_succ]
def cellRow (l : List Int) (i C j : Nat) : List (List Int) := (List.range' j (C - j)).flatMap fun (j : Nat) => if hasC l (i : Int) (j : Int) = true then [[(i : Int), (j : Int)]] else []
def cellsFrom (l : List Int) (R C i : Nat) : List (List Int) := (List.range' i (R - i)).flatMap fun (i : Nat) => cellRow l i C 0
theorem cellRow_step (l : List Int) (i C j : Nat) (h : j < C) : cellRow l i C j = (if hasC l (i : Int) (j : Int) = true then [[(i : Int), (j : Int)]] else []) ++ cellRow l i C (j + 1) := by
  unfold cellRow
  rw [crange'_step j C h, List.flatMap_cons]
theorem cellRow_nil (l : List Int) (i C j : Nat) (h : C ≤ j) : cellRow l i C j = [] := by
  unfold cellRow
  rw [show C - j = 0 by omega]; rfl
theorem cellsFrom_step (l : List Int) (R C i : Nat) (h : i < R) : cellsFrom l R C i = cellRow l i C 0 ++ cellsFrom l R C (i + 1) := by
  unfold cellsFrom
  rw [crange'_step i R h, List.flatMap_cons]
theorem cellsFrom_nil (l : List Int) (R C i : Nat) (h : R ≤ i) : cellsFrom l R C i = [] := by
  unfold cellsFrom
  rw [show R - i = 0 by omega]; rfl
theorem cellRow_len (l : List Int) (i C : Nat) : ∀ (d j : Nat), C - j = d → (cellRow l i C j).length ≤ d
  | 0, j, h => by rw [cellRow_nil l i C j (by omega)]; simp
  | d + 1, j, h => by
    rw [cellRow_step l i C j (by omega), List.length_append]
    have := cellRow_len l i C d (j + 1) (by omega)
    split <;> simp <;> omega
theorem cellsFrom_len (l : List Int) (R C : Nat) : ∀ (d i : Nat), R - i = d → (cellsFrom l R C i).length ≤ d * C
  | 0, i, h => by rw [cellsFrom_nil l R C i (by omega)]; simp
  | d + 1, i, h => by
    rw [cellsFrom_step l R C i (by omega), List.length_append, Nat.succ_mul]
    have := cellsFrom_len l R C d (i + 1) (by omega)
    have := cellRow_len l i C C 0 (by omega)
    omega
theorem cellRow_mem (l : List Int) (i C j : Nat) (x : List Int) : x ∈ cellRow l i C j ↔ ∃ q, j ≤ q ∧ q < C ∧ hasC l (i : Int) (q : Int) = true ∧ x = [(i : Int), (q : Int)] := by
  unfold cellRow
  rw [List.mem_flatMap]
  constructor
  · rintro ⟨q, hq, hx⟩
    rw [List.mem_range'_1] at hq
    split at hx
    · rename_i hh
      exact ⟨q, by omega, by omega, hh, by simpa using hx⟩
    · cases hx
  · rintro ⟨q, h1, h2, h3, rfl⟩
    refine ⟨q, by rw [List.mem_range'_1]; omega, ?_⟩
    rw [if_pos h3]; simp
theorem cellsFrom_mem (l : List Int) (R C i : Nat) (x : List Int) : x ∈ cellsFrom l R C i ↔ ∃ p q, i ≤ p ∧ p < R ∧ q < C ∧ hasC l (p : Int) (q : Int) = true ∧ x = [(p : Int), (q : Int)] := by
  unfold cellsFrom
  rw [List.mem_flatMap]
  constructor
  · rintro ⟨p, hp, hx⟩
    rw [List.mem_range'_1] at hp
    obtain ⟨q, _, h2, h3, h4⟩ := (cellRow_mem l p C 0 x).1 hx
    exact ⟨p, q, by omega, by omega, h2, h3, h4⟩
  · rintro ⟨p, q, h1, h2, h3, h4, h5⟩
    exact ⟨p, by rw [List.mem_range'_1]; omega, (cellRow_mem l p C 0 x).2 ⟨q, by omega, h3, h4, h5⟩⟩
def cells (r c : Int) (l : List Int) : List (List Int) := cellsFrom l r.toNat c.toNat 0
/-- Two numbers from 0 to 5. -/
def Cell6 (x : List Int) : Prop := ∃ p q : Int, x = [p, q] ∧ (0 ≤ p ∧ p ≤ 5) ∧ (0 ≤ q ∧ q ≤ 5)
theorem cells_cell {r c : Int} {l : List Int} (h : boardB r c l = true) {x : List Int} (hx : x ∈ cells r c l) : Cell6 x := by
  obtain ⟨hr, hc, _, _⟩ := (boardB_iff r c l).1 h
  obtain ⟨p, q, _, h2, h3, _, rfl⟩ := (cellsFrom_mem l _ _ _ x).1 hx
  exact ⟨p, q, rfl, by omega, by omega⟩
theorem cells_len {r c : Int} {l : List Int} (h : boardB r c l = true) : (cells r c l).length ≤ 36 := by
  obtain ⟨hr, hc, _, _⟩ := (boardB_iff r c l).1 h
  have := cellsFrom_len l r.toNat c.toNat r.toNat 0 (by omega)
  have h2 : r.toNat * c.toNat ≤ 6 * 6 := Nat.mul_le_mul (by omega) (by omega)
  unfold cells; omega
theorem boCells_ev {r c : Int} {l : List Int} (h : boardB r c l = true) : Ev (fun k => spec_boCells.f k r c l) (cells r c l) := by
  obtain ⟨hr, hc, hl, hm⟩ := (boardB_iff r c l).1 h
  obtain ⟨R, rfl⟩ : ∃ R : Nat, r = R := ⟨r.toNat, by omega⟩
  obtain ⟨C, rfl⟩ : ∃ C : Nat, c = C := ⟨c.toNat, by omega⟩
  have hout : ∀ (d i : Nat) (acc : List (List Int)), R - i = d → i ≤ R → acc.length ≤ 6 * i → Ev (fun k => spec_boCells.l0 k acc (i : Int) (R : Int) (C : Int) l) (acc ++ cellsFrom l R C i) := by
    intro d
    induction d with
    | zero =>
      intro i acc hd hi ha
      refine ⟨1, fun k hk => ?_⟩
      obtain ⟨k, rfl⟩ : ∃ m, k = m + 1 := ⟨k - 1, by omega⟩
      dsimp only
      rw [spec_boCells.l0, if_neg (by omega), cellsFrom_nil l R C i (by omega), List.append_nil]
    | succ d ih =>
      intro i acc hd hi ha
      have hin : ∀ (e j : Nat) (acc : List (List Int)), C - j = e → j ≤ C → acc.length ≤ 6 * i + j → Ev (fun k => spec_boCells.l1 k acc (i : Int) (j : Int) (R : Int) (C : Int) l) (acc ++ cellRow l i C j ++ cellsFrom l R C (i + 1)) := by
        intro e
        induction e with
        | zero =>
          intro j acc he hj ha
          obtain ⟨K, hK⟩ := ev_get (ih (i + 1) acc (by omega) (by omega) (by omega))
          refine ⟨K + 1, fun k hk => ?_⟩
          obtain ⟨k, rfl⟩ : ∃ m, k = m + 1 := ⟨k - 1, by omega⟩
          dsimp only
          rw [spec_boCells.l1, if_neg (by omega), cellRow_nil l i C j (by omega), List.append_nil, w64 _ (by omega) (by omega), show ((i : Int) + 1) = ((i + 1 : Nat) : Int) by omega]
          exact hK k (by omega)
        | succ e ihe =>
          intro j acc he hj ha
          obtain ⟨K1, h1⟩ := ev_get (ihe (j + 1) (acc ++ [[(i : Int), (j : Int)]]) (by omega) (by omega) (by simp; omega))
          obtain ⟨K2, h2⟩ := ev_get (ihe (j + 1) acc (by omega) (by omega) (by omega))
          refine ⟨K1 + K2 + 1, fun k hk => ?_⟩
          obtain ⟨k, rfl⟩ : ∃ m, k = m + 1 := ⟨k - 1, by omega⟩
          dsimp only
          rw [spec_boCells.l1, if_pos (by omega), boHas_eq h (by omega) (by omega) (by omega), Option.bind_some, if_pos (show acc.length < 5864062014805 by omega), w64 ((j : Int) + 1) (by omega) (by omega), show ((j : Int) + 1) = ((j + 1 : Nat) : Int) by omega, h1 k (by omega), h2 k (by omega), cellRow_step l i C j (by omega)]
          by_cases hh : hasC l (i : Int) (j : Int) = true
          · rw [if_pos hh, if_pos hh]; simp [List.append_assoc]
          · rw [if_neg hh, if_neg hh]; simp
      obtain ⟨K, hK⟩ := ev_get (hin C 0 acc (by omega) (by omega) (by omega))
      refine ⟨K + 1, fun k hk => ?_⟩
      obtain ⟨k, rfl⟩ : ∃ m, k = m + 1 := ⟨k - 1, by omega⟩
      dsimp only
      rw [spec_boCells.l0, if_pos (by omega), cellsFrom_step l R C i (by omega), ← List.append_assoc]
      exact hK k (by omega)
  obtain ⟨K, hK⟩ := ev_get (hout R 0 [] (by omega) (by omega) (by simp))
  refine ⟨K, fun k hk => ?_⟩
  simp only [spec_boCells.f]
  simpa [cells] using hK k hk
theorem CellsOf_ev (r c : Int) (l : List Int) : Ev (fun k => impl_CellsOf.f k r c l) (if boardB r c l = true then (cells r c l, true) else ([], false)) := by
  by_cases h0 : ¬ boardB r c l = true
  · refine ⟨0, fun k hk => ?_⟩
    simp only [impl_CellsOf.f, impl_IsBoard.f, Option.bind_some, if_neg h0]
  have h := Classical.not_not.1 h0
  rw [if_pos h]
  obtain ⟨hr, hc, hl, hm⟩ := (boardB_iff r c l).1 h
  obtain ⟨R, rfl⟩ : ∃ R : Nat, r = R := ⟨r.toNat, by omega⟩
  obtain ⟨C, rfl⟩ : ∃ C : Nat, c = C := ⟨c.toNat, by omega⟩
  have hout : ∀ (d i : Nat) (acc : List (List Int)), R - i = d → i ≤ R → acc.length ≤ 6 * i → Ev (fun k => impl_CellsOf.l0 k acc (R : Int) (i : Int) (R : Int) (C : Int) l) (acc ++ cellsFrom l R C i, true) := by
    intro d
    induction d with
    | zero =>
      intro i acc hd hi ha
      refine ⟨1, fun k hk => ?_⟩
      obtain ⟨k, rfl⟩ : ∃ m, k = m + 1 := ⟨k - 1, by omega⟩
      dsimp only
      rw [impl_CellsOf.l0, if_neg (by omega), cellsFrom_nil l R C i (by omega), List.append_nil]
    | succ d ih =>
      intro i acc hd hi ha
      have hin : ∀ (e j : Nat) (acc : List (List Int)), C - j = e → j ≤ C → acc.length ≤ 6 * i + j → Ev (fun k => impl_CellsOf.l1 k acc (i : Int) (R : Int) (i : Int) (C : Int) (j : Int) (R : Int) (C : Int) l) (acc ++ cellRow l i C j ++ cellsFrom l R C (i + 1), true) := by
        intro e
        induction e with
        | zero =>
          intro j acc he hj ha
          obtain ⟨K, hK⟩ := ev_get (ih (i + 1) acc (by omega) (by omega) (by omega))
          refine ⟨K + 1, fun k hk => ?_⟩
          obtain ⟨k, rfl⟩ : ∃ m, k = m + 1 := ⟨k - 1, by omega⟩
          dsimp only
          rw [impl_CellsOf.l1, if_neg (by omega), cellRow_nil l i C j (by omega), List.append_nil, w64 _ (by omega) (by omega), show ((i : Int) + 1) = ((i + 1 : Nat) : Int) by omega]
          exact hK k (by omega)
        | succ e ihe =>
          intro j acc he hj ha
          obtain ⟨K1, h1⟩ := ev_get (ihe (j + 1) (acc ++ [[(i : Int), (j : Int)]]) (by omega) (by omega) (by simp; omega))
          obtain ⟨K2, h2⟩ := ev_get (ihe (j + 1) acc (by omega) (by omega) (by omega))
          refine ⟨K1 + K2 + 1, fun k hk => ?_⟩
          obtain ⟨k, rfl⟩ : ∃ m, k = m + 1 := ⟨k - 1, by omega⟩
          dsimp only
          rw [impl_CellsOf.l1, if_pos (by omega), has_eq h (by omega) (by omega) (by omega) (by omega), Option.bind_some, if_pos (show acc.length < 5864062014805 by omega), w64 ((j : Int) + 1) (by omega) (by omega), show ((j : Int) + 1) = ((j + 1 : Nat) : Int) by omega, h1 k (by omega), h2 k (by omega), cellRow_step l i C j (by omega)]
          by_cases hh : hasC l (i : Int) (j : Int) = true
          · rw [if_pos hh, if_pos hh]; simp [List.append_assoc]
          · rw [if_neg hh, if_neg hh]; simp
      obtain ⟨K, hK⟩ := ev_get (hin C 0 acc (by omega) (by omega) (by omega))
      refine ⟨K + 1, fun k hk => ?_⟩
      obtain ⟨k, rfl⟩ : ∃ m, k = m + 1 := ⟨k - 1, by omega⟩
      dsimp only
      rw [impl_CellsOf.l0, if_pos (by omega), cellsFrom_step l R C i (by omega), ← List.append_assoc]
      exact hK k (by omega)
  obtain ⟨K, hK⟩ := ev_get (hout R 0 [] (by omega) (by omega) (by simp))
  refine ⟨K, fun k hk => ?_⟩
  simp only [impl_CellsOf.f, impl_IsBoard.f, Option.bind_some, if_pos h]
  simpa [cells] using hK k hk
theorem rd0 (p q : Int) : rd [p, q] 0 = p := by simp [rd]
theorem rd1 (p q : Int) : rd [p, q] 1 = q := by simp [rd]
def attackB (x y : List Int) : Bool := decide ((rd x 0 - rd y 0).natAbs = (rd x 1 - rd y 1).natAbs)
theorem bAbs_eq (n : Int) (h : -1000 ≤ n) (h2 : n ≤ 1000) : spec_l1Abs.f n = some (n.natAbs : Int) := by
  unfold spec_l1Abs.f spec_l1Most.f
  rw [w64 _ (by omega) (by omega)]
  split
  · simp only [Option.bind_some]; congr 1; omega
  · simp only [Option.bind_some]; congr 1; omega
theorem biAttack_eq {x y : List Int} (hx : Cell6 x) (hy : Cell6 y) : spec_biAttack.f x y = some (attackB x y) := by
  obtain ⟨p, q, rfl, h1, h2⟩ := hx
  obtain ⟨p', q', rfl, h3, h4⟩ := hy
  simp only [spec_biAttack.f, rd0, rd1]
  rw [if_pos (by simp), if_pos (by simp), w64 _ (by omega) (by omega), bAbs_eq _ (by omega) (by omega), Option.bind_some, if_pos (by simp), if_pos (by simp), w64 _ (by omega) (by omega), bAbs_eq _ (by omega) (by omega), Option.bind_some]
  congr 1
  unfold attackB
  rw [Bool.eq_iff_iff, beq_iff_eq, decide_eq_true_iff, rd0, rd1, rd0, rd1]
  omega
theorem biDisturb0_eq {x y : List Int} (hx : Cell6 x) (hy : Cell6 y) : spec_biDisturb.f x y 0 = some (attackB x y) := by
  simp only [spec_biDisturb.f, biAttack_eq hx hy, Option.bind_some, if_true]
theorem asBishops_eq {x y : List Int} (hx : Cell6 x) (hy : Cell6 y) : impl_asBishops.f x y = some (!attackB x y) := by
  obtain ⟨p, q, rfl, h1, h2⟩ := hx
  obtain ⟨p', q', rfl, h3, h4⟩ := hy
  simp only [impl_asBishops.f, rd0, rd1]
  rw [if_pos (by simp), if_pos (by simp), if_pos (by simp), if_pos (by simp), w64 _ (by omega) (by omega), w64 _ (by omega) (by omega), w64 _ (by omega) (by omega), w64 _ (by omega) (by omega)]
  unfold attackB
  simp only [rd0, rd1]
  by_cases h : p + q = p' + q'
  · rw [if_pos h]; congr 1; rw [decide_eq_true (by omega)]; rfl
  · rw [if_neg h]; congr 1
    rw [Bool.eq_iff_iff, bne_iff_ne, Bool.not_eq_true', decide_eq_false_iff_not]
    omega
end Go.Proofs.Ythlcaikplebpmaa.P
namespace Go.Proofs.Ythlcaikplebpmaa.P
open Go.RowKit Go.Proofs.YthlcaikplebpmaaW.PrintWords Go.Proofs.YthlcaikplebpmaaW.PrintLast Go.Proofs.YthlcaikplebpmaaW.PrintMore
set_option linter.unusedVariables false
set_option linter.unusedSimpArgs false
section
variable {σ : Type} (D : List Int → List Int → Bool)
def clash (list : List (List Int)) (x : List Int) : Bool := list.any fun y => D y x
/-- What is told list by list, in order. -/
def goL (cb : σ → List (List Int) → Bool × σ) (most : Nat) : List (List Int) → List (List Int) → Bool × σ → Bool × σ
  | [], _, r => r
  | x :: rest, list, r => if r.1 = true then (if clash D list x = true then goL cb most rest list r else goL cb most rest list (if list.length + 1 = most then cb r.2 (list ++ [x]) else goL cb most rest (list ++ [x]) (cb r.2 (list ++ [x])))) else r
theorem goL_stop (cb : σ → List (List Int) → Bool × σ) (most : Nat) (suf list : List (List Int)) (s : σ) : goL D cb most suf list (false, s) = (false, s) := by
  cases suf with
  | nil => rfl
  | cons x rest => rw [goL, if_neg (by simp)]
/-- The first list of k that goes on a list. -/
def firstL (k : Nat) : List (List Int) → List (List Int) → Option (List (List Int))
  | [], _ => none
  | x :: rest, list => if clash D list x = true then firstL k rest list else match (if list.length + 1 = k then some (list ++ [x]) else firstL k rest (list ++ [x])) with
    | some o => some o
    | none => firstL k rest list
theorem firstL_few (k : Nat) : ∀ suf list, list.length < k → suf.length < k - list.length → firstL D k suf list = none
  | [], _, _, _ => rfl
  | x :: rest, list, hl, h => by
    rw [List.length_cons] at h
    rw [firstL]
    have h1 := firstL_few k rest list hl (by omega)
    split
    · exact h1
    · rw [if_neg (by omega), firstL_few k rest (list ++ [x]) (by rw [List.length_append, List.length_singleton]; omega) (by rw [List.length_append, List.length_singleton]; omega)]
      exact h1
/-- The finder. -/
def cbF (k : Nat) (s : Option (List (List Int))) (l : List (List Int)) : Bool × Option (List (List Int)) := if l.length < k then (true, s) else (false, some l)
def outF (o : Option (List (List Int))) : Bool × Option (List (List Int)) := match o with
  | some l => (false, some l)
  | none => (true, none)
theorem goL_first (k : Nat) : ∀ suf list, list.length < k → goL D (cbF k) k suf list (true, none) = outF (firstL D k suf list)
  | [], _, _ => rfl
  | x :: rest, list, hl => by
    rw [goL, if_pos rfl, firstL]
    by_cases hc : clash D list x = true
    · rw [if_pos hc, if_pos hc]
      exact goL_first k rest list hl
    · rw [if_neg hc, if_neg hc]
      by_cases hk : list.length + 1 = k
      · rw [if_pos hk, if_pos hk]
        have : cbF k none (list ++ [x]) = (false, some (list ++ [x])) := by
          unfold cbF
          rw [if_neg (by rw [List.length_append, List.length_singleton]; omega)]
        show goL D (cbF k) k rest list (cbF k none (list ++ [x])) = _
        rw [this, goL_stop]
        rfl
      · rw [if_neg hk, if_neg hk]
        have : cbF k none (list ++ [x]) = (true, none) := by
          unfold cbF
          rw [if_pos (by rw [List.length_append, List.length_singleton]; omega)]
        show goL D (cbF k) k rest list (goL D (cbF k) k rest (list ++ [x]) (cbF k none (list ++ [x]))) = _
        rw [this, goL_first k rest (list ++ [x]) (by rw [List.length_append, List.length_singleton]; omega)]
        cases h : firstL D k rest (list ++ [x]) with
        | some o => exact goL_stop D _ _ _ _ _
        | none => exact goL_first k rest list hl
end
end Go.Proofs.Ythlcaikplebpmaa.P
namespace Go.Proofs.Ythlcaikplebpmaa.P
open Go.RowKit Go.Proofs.YthlcaikplebpmaaW.PrintWords Go.Proofs.YthlcaikplebpmaaW.PrintLast Go.Proofs.YthlcaikplebpmaaW.PrintMore
set_option linter.unusedVariables false
set_option linter.unusedSimpArgs false
theorem evs {α : Type} {g g' : Nat → Option α} {r : α} (K : Nat) (h : Ev g' r) (hs : ∀ k, K ≤ k → g (k + 1) = g' k) : Ev g r := by
  obtain ⟨K2, h2⟩ := ev_get h
  refine ⟨K + K2 + 1, fun k hk => ?_⟩
  obtain ⟨k, rfl⟩ : ∃ m, k = m + 1 := ⟨k - 1, by omega⟩
  rw [hs k (by omega)]
  exact h2 k (by omega)
theorem evl {α : Type} {g : Nat → Option α} {r : α} (hs : ∀ k, g (k + 1) = some r) : Ev g r := by
  refine ⟨1, fun k hk => ?_⟩
  obtain ⟨k, rfl⟩ : ∃ m, k = m + 1 := ⟨k - 1, by omega⟩
  exact hs k
theorem at_next {i n : Nat} (h : i < n) (hn : n ≤ 1000) : n - (i + 1) = n - i - 1 ∧ i + 1 ≤ n ∧ ((i : Int) < (n : Int) ∧ 0 ≤ (i : Int) ∧ wrap64 ((i : Int) + 1) = ((i + 1 : Nat) : Int)) := by
  refine ⟨by omega, by omega, by omega, by omega, ?_⟩
  rw [w64 _ (by omega) (by omega)]; omega
section
variable (D : List Int → List Int → Bool) (are : FnT38)
theorem hit_eq (all : List (List Int)) (i : Nat) (hi : i < all.length) (y : List Int) (hD : are y (all.getD i []) = some (!D y (all.getD i []))) : impl_Board_lists_1_1.f y are all (i : Int) = some (D y (all.getD i [])) := by
  have e : rd_L1 all (i : Int) = all.getD i [] := by rw [rdL_nat _ _ hi, List.getD_eq_getElem?_getD, List.getElem?_eq_getElem hi]; rfl
  unfold impl_Board_lists_1_1.f
  rw [if_pos (by omega), if_pos (by omega), e]
  show ((are y (all.getD i [])).bind fun t => some (!t)) = _
  rw [hD, Option.bind_some, Bool.not_not]
theorem index_ev (g : FnT57) (p : List Int → Bool) (q : List (List Int)) (hq : q.length ≤ 1000) (hg : ∀ y ∈ q, g y = some (p y)) : ∀ (d j : Nat), q.length - j = d → j ≤ q.length →
    ∃ t : Int, Ev (fun k => slices_IndexFunc_int_int_191.l0 k q g (q.length : Int) (j : Int)) t ∧ decide (t ≥ 0) = (q.drop j).any p := by
  intro d
  induction d with
  | zero =>
    intro j hd hj
    have hle : q.length ≤ j := Nat.sub_eq_zero_iff_le.1 hd
    refine ⟨-1, evl (fun k => ?_), ?_⟩
    · rw [slices_IndexFunc_int_int_191.l0, if_neg (by omega)]
    · rw [List.drop_eq_nil_of_le hle]; rfl
  | succ d ih =>
    intro j hd hj
    have hj2 : j < q.length := Nat.lt_of_sub_eq_succ hd
    obtain ⟨g0, g2, g4⟩ := at_next hj2 hq
    have hrd : rd_L1 q (j : Int) = q[j] := rdL_nat _ _ hj2
    have hgj := hg q[j] (List.getElem_mem hj2)
    have hdr : q.drop j = q[j] :: q.drop (j + 1) := List.drop_eq_getElem_cons hj2
    rw [hdr, List.any_cons]
    by_cases hp : p q[j] = true
    · refine ⟨(j : Int), evl (fun k => ?_), ?_⟩
      · rw [slices_IndexFunc_int_int_191.l0, if_pos g4.1, if_pos g4.2.1, if_pos g4.1, hrd]
        show ((g q[j]).bind _) = _
        rw [hgj, Option.bind_some, if_pos hp]
      · rw [hp]; simp
    · obtain ⟨t, ht, e⟩ := ih (j + 1) (by rw [g0, hd]; rfl) g2
      refine ⟨t, evs 0 ht (fun k hk => ?_), ?_⟩
      · rw [slices_IndexFunc_int_int_191.l0, if_pos g4.1, if_pos g4.2.1, if_pos g4.1, hrd]
        show ((g q[j]).bind _) = _
        rw [hgj, Option.bind_some, if_neg hp, g4.2.2]
      · rw [e]; simp only [Bool.not_eq_true] at hp; rw [hp]; rfl
theorem contains_ev (g : FnT57) (p : List Int → Bool) (q : List (List Int)) (hq : q.length ≤ 1000) (hg : ∀ y ∈ q, g y = some (p y)) : Ev (fun k => slices_ContainsFunc_int_int_120.f k q g) (q.any p) := by
  obtain ⟨t, ht, e⟩ := index_ev g p q hq hg q.length 0 rfl (Nat.zero_le _)
  obtain ⟨K, hK⟩ := ev_get ht
  refine ⟨K, fun k hk => ?_⟩
  have := hK k hk
  unfold slices_ContainsFunc_int_int_120.f slices_IndexFunc_int_int_191.f
  rw [show ((0 : Nat) : Int) = 0 from rfl] at this
  show (slices_IndexFunc_int_int_191.l0 k q g (q.length : Int) 0).bind _ = _
  rw [this, Option.bind_some, e, List.drop_zero]
variable {σ : Type} (cbO : σ → List (List Int) → Option (Bool × σ)) (cb : σ → List (List Int) → Bool × σ)
theorem list_f (most : Int) (all : List (List Int)) (k : Nat) (fr : Int) (q : List (List Int)) (s : σ) (r : Bool × σ) (h : cbO s q = some r) :
    impl_Board_lists_1.f are most all cbO (k + 1) fr q s = if (q.length : Int) = most then some r else impl_Board_lists_1.l0 are most all cbO k fr q r.1 r.2 := by
  rw [impl_Board_lists_1.f, h, Option.bind_some]
theorem list_end (most : Int) (all : List (List Int)) (k : Nat) (i : Int) (q : List (List Int)) (g : Bool) (s : σ) (h : ¬ i < (all.length : Int)) :
    impl_Board_lists_1.l0 are most all cbO (k + 1) i q g s = some (g, s) := by
  rw [impl_Board_lists_1.l0, if_neg h]
theorem list_stop (most : Int) (all : List (List Int)) (k : Nat) (i : Int) (q : List (List Int)) (s : σ) (h : i < (all.length : Int)) :
    impl_Board_lists_1.l0 are most all cbO (k + 1) i q false s = some (false, s) := by
  rw [impl_Board_lists_1.l0, if_pos h, if_neg (by simp)]
theorem list_hit (most : Int) (all : List (List Int)) (k : Nat) (i : Int) (q : List (List Int)) (s : σ) (h : i < (all.length : Int)) (h0 : 0 ≤ i) (hc : slices_ContainsFunc_int_int_120.f k q (fun x => impl_Board_lists_1_1.f x are all i) = some true) :
    impl_Board_lists_1.l0 are most all cbO (k + 1) i q true s = impl_Board_lists_1.l0 are most all cbO k (wrap64 (i + 1)) q true s := by
  rw [impl_Board_lists_1.l0, if_pos h, if_pos rfl, if_pos h0, hc, Option.bind_some, if_pos rfl]
theorem list_go (most : Int) (all : List (List Int)) (k : Nat) (i : Int) (q : List (List Int)) (s : σ) (r : Bool × σ) (h : i < (all.length : Int)) (h0 : 0 ≤ i) (hq : q.length < 5864062014805) (hc : slices_ContainsFunc_int_int_120.f k q (fun x => impl_Board_lists_1_1.f x are all i) = some false) (hf : impl_Board_lists_1.f are most all cbO k (wrap64 (i + 1)) (q ++ [all.getD i.toNat []]) s = some r) :
    impl_Board_lists_1.l0 are most all cbO (k + 1) i q true s = impl_Board_lists_1.l0 are most all cbO k (wrap64 (i + 1)) q r.1 r.2 := by
  rw [impl_Board_lists_1.l0, if_pos h, if_pos rfl, if_pos h0, hc, Option.bind_some, if_neg (by simp), if_pos hq, hf, Option.bind_some]
variable {D are cbO cb}
end
end Go.Proofs.Ythlcaikplebpmaa.P
namespace Go.Proofs.Ythlcaikplebpmaa.P
open Go.RowKit Go.Proofs.YthlcaikplebpmaaW.PrintWords Go.Proofs.YthlcaikplebpmaaW.PrintLast Go.Proofs.YthlcaikplebpmaaW.PrintMore
set_option linter.unusedVariables false
set_option linter.unusedSimpArgs false
theorem goL_keep {σ : Type} {D : List Int → List Int → Bool} {cb : σ → List (List Int) → Bool × σ} (I : σ → Prop) (hI : ∀ s l, I s → (cb s l).1 = true → I (cb s l).2) (most : Nat) : ∀ (suf list : List (List Int)) (r : Bool × σ), (r.1 = true → I r.2) → (goL D cb most suf list r).1 = true → I (goL D cb most suf list r).2
  | [], list, r, hr => hr
  | x :: rest, list, r, hr => by
    rw [goL]
    by_cases h1 : r.1 = true
    · rw [if_pos h1]
      by_cases h2 : clash D list x = true
      · rw [if_pos h2]; exact goL_keep I hI most rest list r hr
      · rw [if_neg h2]
        refine goL_keep I hI most rest list _ ?_
        by_cases h3 : list.length + 1 = most
        · rw [if_pos h3]; exact hI _ _ (hr h1)
        · rw [if_neg h3]; exact goL_keep I hI most rest (list ++ [x]) _ (hI _ _ (hr h1))
    · rw [if_neg h1]; exact hr
section
variable {σ : Type} {D : List Int → List Int → Bool} {are : FnT38} {cbO : σ → List (List Int) → Option (Bool × σ)} {cb : σ → List (List Int) → Bool × σ} {I : σ → Prop}
theorem loop2_ev (most : Nat) (all : List (List Int)) (hall : all.length ≤ 1000) (hare : ∀ y ∈ all, ∀ x ∈ all, are y x = some (!D y x)) (hcb : ∀ s l, I s → l.length ≤ 1000 → (∀ y ∈ l, y ∈ all) → cbO s l = some (cb s l)) (hI : ∀ s l, I s → (cb s l).1 = true → I (cb s l).2) : ∀ (d i : Nat) (q : List (List Int)) (r : Bool × σ), all.length - i = d → i ≤ all.length → q.length ≤ i → (∀ y ∈ q, y ∈ all) → (r.1 = true → I r.2) →
    Ev (fun k => impl_Board_lists_1.l0 are (most : Int) all cbO k (i : Int) q r.1 r.2) (goL D cb most (all.drop i) q r) := by
  intro d
  induction d with
  | zero =>
    intro i q r hd hi hq hm hr
    have hle : all.length ≤ i := Nat.sub_eq_zero_iff_le.1 hd
    rw [List.drop_eq_nil_of_le hle]
    exact evl (fun k => list_end _ _ _ _ _ _ _ _ _ (by omega))
  | succ d ih =>
    intro i q r hd hi hq hm hr
    have hi2 : i < all.length := Nat.lt_of_sub_eq_succ hd
    obtain ⟨g0, g2, g4⟩ := at_next hi2 hall
    have g1 : all.length - (i + 1) = d := by rw [g0, hd]; rfl
    have hdr : all.drop i = all.getD i [] :: all.drop (i + 1) := by rw [List.drop_eq_getElem_cons hi2, List.getD_eq_getElem?_getD, List.getElem?_eq_getElem hi2]; rfl
    have hx : all.getD i [] ∈ all := by rw [List.getD_eq_getElem?_getD, List.getElem?_eq_getElem hi2]; exact List.getElem_mem hi2
    have hc := contains_ev (fun x => impl_Board_lists_1_1.f x are all (i : Int)) (fun y => D y (all.getD i [])) q (by omega) (fun y hy => hit_eq D are all i hi2 y (hare y (hm y hy) _ hx))
    obtain ⟨K1, h1⟩ := ev_get hc
    rw [hdr]
    obtain ⟨g, s⟩ := r
    cases g with
    | false =>
      rw [goL_stop]
      exact evl (fun k => list_stop _ _ _ _ _ _ _ _ g4.1)
    | true =>
      rw [goL, if_pos rfl]
      have hs : I s := hr rfl
      by_cases hcl : clash D q (all.getD i []) = true
      · rw [if_pos hcl]
        refine evs K1 (ih (i + 1) q (true, s) g1 g2 (by omega) hm (fun _ => hs)) (fun k hk => ?_)
        have h1 := h1 k hk
        unfold clash at hcl
        rw [hcl] at h1
        rw [list_hit _ _ _ _ _ _ _ _ g4.1 g4.2.1 h1, g4.2.2]
      · rw [if_neg hcl]
        have hm2 : ∀ y ∈ q ++ [all.getD i []], y ∈ all := by
          intro y hy
          rcases List.mem_append.1 hy with hy | hy
          · exact hm y hy
          · rw [List.mem_singleton.1 hy]; exact hx
        have hl2 : (q ++ [all.getD i []]).length = q.length + 1 := by rw [List.length_append, List.length_singleton]
        have hcb2 := hcb s (q ++ [all.getD i []]) hs (by rw [hl2]; omega) hm2
        have hI2 : (cb s (q ++ [all.getD i []])).1 = true → I (cb s (q ++ [all.getD i []])).2 := hI s _ hs
        -- the call
        have hf : Ev (fun k => impl_Board_lists_1.f are (most : Int) all cbO k ((i + 1 : Nat) : Int) (q ++ [all.getD i []]) s) (if q.length + 1 = most then cb s (q ++ [all.getD i []]) else goL D cb most (all.drop (i + 1)) (q ++ [all.getD i []]) (cb s (q ++ [all.getD i []]))) := by
          by_cases hk : q.length + 1 = most
          · rw [if_pos hk]
            exact evl (fun k => by rw [list_f are cbO _ _ _ _ _ _ _ hcb2, if_pos (by rw [hl2]; omega)])
          · rw [if_neg hk]
            exact evs 0 (ih (i + 1) (q ++ [all.getD i []]) (cb s (q ++ [all.getD i []])) g1 g2 (by omega) hm2 hI2) (fun k _ => by rw [list_f are cbO _ _ _ _ _ _ _ hcb2, if_neg (by rw [hl2]; omega)])
        have hI3 : (if q.length + 1 = most then cb s (q ++ [all.getD i []]) else goL D cb most (all.drop (i + 1)) (q ++ [all.getD i []]) (cb s (q ++ [all.getD i []]))).1 = true → I (if q.length + 1 = most then cb s (q ++ [all.getD i []]) else goL D cb most (all.drop (i + 1)) (q ++ [all.getD i []]) (cb s (q ++ [all.getD i []]))).2 := by
          by_cases hk : q.length + 1 = most
          · rw [if_pos hk]; exact hI2
          · rw [if_neg hk]; exact goL_keep I hI most _ _ _ hI2
        obtain ⟨K2, h2⟩ := ev_get hf
        refine evs (K1 + K2) (ih (i + 1) q _ g1 g2 (by omega) hm hI3) (fun k hk => ?_)
        have h1 := h1 k (Nat.le_trans (Nat.le_add_right K1 K2) hk)
        have h2 := h2 k (Nat.le_trans (Nat.le_add_left K2 K1) hk)
        unfold clash at hcl
        simp only [Bool.not_eq_true] at hcl
        rw [hcl] at h1
        rw [list_go are cbO _ _ _ _ _ _ _ g4.1 g4.2.1 (by omega) h1 (by rw [g4.2.2]; exact h2), g4.2.2]
theorem lists12_ev (most : Nat) (all : List (List Int)) (hall : all.length ≤ 1000) (hare : ∀ y ∈ all, ∀ x ∈ all, are y x = some (!D y x)) (hcb : ∀ s l, I s → l.length ≤ 1000 → (∀ y ∈ l, y ∈ all) → cbO s l = some (cb s l)) (hI : ∀ s l, I s → (cb s l).1 = true → I (cb s l).2) (s : σ) (hs : I s) :
    Ev (fun k => impl_Board_lists_1.f are (most : Int) all cbO k 0 [] s) (if 0 = most then cb s [] else goL D cb most all [] (cb s [])) := by
  have hcb0 := hcb s [] hs (by simp) (fun y hy => by simp at hy)
  by_cases hk : 0 = most
  · rw [if_pos hk]
    exact evl (fun k => by rw [list_f are cbO _ _ _ _ _ _ _ hcb0, if_pos (by rw [← hk]; rfl)])
  · rw [if_neg hk]
    have h := loop2_ev most all hall hare hcb hI all.length 0 [] (cb s []) rfl (Nat.zero_le _) (Nat.zero_le _) (fun y hy => by simp at hy) (hI s [] hs)
    rw [List.drop_zero] at h
    exact evs 0 h (fun k _ => by rw [list_f are cbO _ _ _ _ _ _ _ hcb0, if_neg (by intro e; apply hk; have : ((0 : Nat) : Int) = (most : Int) := e; omega)]; rfl)
end
theorem lists2_ev {σ : Type} {D : List Int → List Int → Bool} {are : FnT38} {cbO : σ → List (List Int) → Option (Bool × σ)} {cb : σ → List (List Int) → Bool × σ} {I : σ → Prop} {r c : Int} {l : List Int} (h : boardB r c l = true) (most : Nat) (hare : ∀ y x, Cell6 y → Cell6 x → are y x = some (!D y x)) (hcb : ∀ s q, I s → q.length ≤ 1000 → (∀ y ∈ q, Cell6 y) → cbO s q = some (cb s q)) (hI : ∀ s l, I s → (cb s l).1 = true → I (cb s l).2) (s : σ) (hs : I s) :
    Ev (fun k => impl_Board_lists.f k r c l (most : Int) are cbO s) (if 0 = most then cb s [] else goL D cb most (cells r c l) [] (cb s [])) := by
  obtain ⟨K1, h1⟩ := ev_get (CellsOf_ev r c l)
  rw [if_pos h] at h1
  obtain ⟨K2, h2⟩ := ev_get (lists12_ev (D := D) (are := are) (cbO := cbO) (cb := cb) (I := I) most (cells r c l) (Nat.le_trans (cells_len h) (by decide)) (fun y hy x hx => hare y x (cells_cell h hy) (cells_cell h hx)) (fun s q i1 i2 i3 => hcb s q i1 i2 (fun y hy => cells_cell h (i3 y hy))) hI s hs)
  refine ⟨K1 + K2, fun k hk => ?_⟩
  show ((impl_CellsOf.f k r c l).bind _) = _
  rw [h1 k (by omega), Option.bind_some]
  exact h2 k (by omega)
end Go.Proofs.Ythlcaikplebpmaa.P
namespace Go.Proofs.Ythlcaikplebpmaa.P
open Go.RowKit Go.Proofs.YthlcaikplebpmaaW.PrintWords Go.Proofs.YthlcaikplebpmaaW.PrintLast Go.Proofs.YthlcaikplebpmaaW.PrintMore
set_option linter.unusedVariables false
set_option linter.unusedSimpArgs false
def resF (o : Option (List (List Int))) : List (List Int) × Bool := (o.getD [], o.isSome)
theorem firstL_cons (D : List Int → List Int → Bool) (k : Nat) (x : List Int) (rest list : List (List Int)) : firstL D k (x :: rest) list = if clash D list x = true then firstL D k rest list else match (if list.length + 1 = k then some (list ++ [x]) else firstL D k rest (list ++ [x])) with
    | some l => some l
    | none => firstL D k rest list := rfl
theorem firstL_some (D : List Int → List Int → Bool) (k : Nat) : ∀ suf list o, firstL D k suf list = some o → ∃ s, s.Sublist suf ∧ o = list ++ s
  | [], list, o, h => by simp [firstL] at h
  | x :: rest, list, o, h => by
    rw [firstL_cons] at h
    by_cases hc : clash D list x = true
    · rw [if_pos hc] at h
      obtain ⟨s, h1, h2⟩ := firstL_some D k rest list o h
      exact ⟨s, List.Sublist.cons x h1, h2⟩
    · rw [if_neg hc] at h
      by_cases hk : list.length + 1 = k
      · rw [if_pos hk] at h
        obtain rfl := Option.some.inj h
        exact ⟨[x], List.Sublist.cons_cons x (List.nil_sublist _), rfl⟩
      · rw [if_neg hk] at h
        cases hf : firstL D k rest (list ++ [x]) with
        | some l =>
          rw [hf] at h
          obtain rfl := Option.some.inj h
          obtain ⟨s, h1, h2⟩ := firstL_some D k rest (list ++ [x]) l hf
          exact ⟨x :: s, List.Sublist.cons_cons x h1, by rw [h2, List.append_assoc]; rfl⟩
        | none =>
          rw [hf] at h
          obtain ⟨s, h1, h2⟩ := firstL_some D k rest list o h
          exact ⟨s, List.Sublist.cons x h1, h2⟩
section
variable (all : List (List Int)) (kd : Int)
theorem bf_f0 (k : Nat) (q : List (List Int)) (fr : Int) : spec_biFirst.f all kd (k + 1) q fr 0 = some (q, true) := by rw [spec_biFirst.f, if_pos rfl]
theorem bf_f (k : Nat) (q : List (List Int)) (fr kk : Int) (h : kk ≠ 0) : spec_biFirst.f all kd (k + 1) q fr kk = spec_biFirst.l0 all kd k q fr kk := by rw [spec_biFirst.f, if_neg h]
theorem bf_none (k : Nat) (q : List (List Int)) (i kk : Int) (h : ¬ wrap64 (i + kk) ≤ (all.length : Int)) : spec_biFirst.l0 all kd (k + 1) q i kk = some ([], false) := by rw [spec_biFirst.l0, if_neg h]
theorem bf_at (k : Nat) (q : List (List Int)) (i kk : Int) (h : wrap64 (i + kk) ≤ (all.length : Int)) (h0 : 0 ≤ i) (h1 : i < (all.length : Int)) : spec_biFirst.l0 all kd (k + 1) q i kk = spec_biFirst.l1 all kd k q i kk true 0 := by rw [spec_biFirst.l0, if_pos h, if_pos h0, if_pos h1]
theorem bf_more (k : Nat) (q : List (List Int)) (i kk j : Int) (t : Bool) (h : j < (q.length : Int)) (h0 : 0 ≤ j) (ht : spec_biDisturb.f (all.getD i.toNat []) (q.getD j.toNat []) kd = some t) : spec_biFirst.l1 all kd (k + 1) q i kk true j = spec_biFirst.l1 all kd k q i kk (!t) (wrap64 (j + 1)) := by rw [spec_biFirst.l1, if_pos h, if_pos h0, if_pos rfl, ht, Option.bind_some]
theorem bf_skip (k : Nat) (q : List (List Int)) (i kk j : Int) (h : j < (q.length : Int)) (h0 : 0 ≤ j) : spec_biFirst.l1 all kd (k + 1) q i kk false j = spec_biFirst.l1 all kd k q i kk false (wrap64 (j + 1)) := by rw [spec_biFirst.l1, if_pos h, if_pos h0, if_neg (by simp)]
theorem bf_bad (k : Nat) (q : List (List Int)) (i kk j : Int) (h : ¬ j < (q.length : Int)) : spec_biFirst.l1 all kd (k + 1) q i kk false j = spec_biFirst.l0 all kd k q (wrap64 (i + 1)) kk := by rw [spec_biFirst.l1, if_neg h, if_neg (by simp)]
theorem bf_rec (k : Nat) (q : List (List Int)) (i kk j : Int) (r : List (List Int) × Bool) (h : ¬ j < (q.length : Int)) (hq : q.length < 5864062014805) (hf : spec_biFirst.f all kd k (q ++ [all.getD i.toNat []]) (wrap64 (i + 1)) (wrap64 (kk - 1)) = some r) : spec_biFirst.l1 all kd (k + 1) q i kk true j = if r.2 = true then some (r.1, true) else spec_biFirst.l0 all kd k q (wrap64 (i + 1)) kk := by rw [spec_biFirst.l1, if_neg h, if_pos rfl, if_pos hq, hf, Option.bind_some]
variable {all kd} {D : List Int → List Int → Bool}
theorem bf_loop (i : Nat) (hi : i < all.length) (kk : Int) (q : List (List Int)) (hq : q.length ≤ 1000) (hd : ∀ y ∈ q, spec_biDisturb.f (all.getD i []) y kd = some (D y (all.getD i []))) (r : List (List Int) × Bool) : ∀ (d j : Nat) (b : Bool), q.length - j = d → j ≤ q.length →
    Ev (fun k => spec_biFirst.l1 all kd k q (i : Int) kk (b && !((q.drop j).any fun y => D y (all.getD i []))) (q.length : Int)) r → Ev (fun k => spec_biFirst.l1 all kd k q (i : Int) kk b (j : Int)) r := by
  intro d
  induction d with
  | zero =>
    intro j b h1 h2 h
    have hj : j = q.length := by omega
    subst hj
    rw [List.drop_length, List.any_nil, Bool.not_false, Bool.and_true] at h
    exact h
  | succ d ih =>
    intro j b h1 h2 h
    have hj : j < q.length := Nat.lt_of_sub_eq_succ h1
    obtain ⟨g0, g2, g4⟩ := at_next hj hq
    have hx : q.getD j [] ∈ q := by rw [List.getD_eq_getElem?_getD, List.getElem?_eq_getElem hj]; exact List.getElem_mem hj
    have hdr : q.drop j = q.getD j [] :: q.drop (j + 1) := by rw [List.drop_eq_getElem_cons hj, List.getD_eq_getElem?_getD, List.getElem?_eq_getElem hj]; rfl
    rw [hdr, List.any_cons] at h
    cases b with
    | false =>
      refine evs 0 (ih (j + 1) false (by rw [g0, h1]; rfl) g2 (by rw [Bool.false_and] at h ⊢; exact h)) (fun k _ => ?_)
      rw [bf_skip _ _ _ _ _ _ _ g4.1 g4.2.1, g4.2.2]
    | true =>
      refine evs 0 (ih (j + 1) (!D (q.getD j []) (all.getD i [])) (by rw [g0, h1]; rfl) g2 (by rw [Bool.true_and, Bool.not_or] at h; exact h)) (fun k _ => ?_)
      rw [bf_more _ _ _ _ _ _ _ (D (q.getD j []) (all.getD i [])) g4.1 g4.2.1 (by exact hd _ hx), g4.2.2]
theorem bf_sum {i k' n : Nat} (hi : i ≤ n) (hn : n ≤ 1000) (hk : k' ≤ 1000) : wrap64 ((i : Int) + (k' : Int)) = ((i + k' : Nat) : Int) ∧ (1 ≤ k' → wrap64 ((k' : Int) - 1) = ((k' - 1 : Nat) : Int)) := by
  refine ⟨?_, fun h => ?_⟩
  · rw [w64 _ (by omega) (by omega)]; omega
  · rw [w64 _ (by omega) (by omega)]; omega
theorem bf_ev (hall : all.length ≤ 1000) (hd : ∀ y ∈ all, ∀ x ∈ all, spec_biDisturb.f x y kd = some (D y x)) : ∀ (d i : Nat) (q : List (List Int)) (k' : Nat), all.length - i = d → i ≤ all.length → q.length ≤ i → (∀ y ∈ q, y ∈ all) → 1 ≤ k' → k' ≤ 1000 →
    Ev (fun k => spec_biFirst.l0 all kd k q (i : Int) (k' : Int)) (resF (firstL D (q.length + k') (all.drop i) q)) := by
  intro d
  induction d with
  | zero =>
    intro i q k' h1 h2 h3 h4 h5 h6
    obtain ⟨e1, e2⟩ := bf_sum h2 hall h6
    have hle : all.length ≤ i := Nat.sub_eq_zero_iff_le.1 h1
    rw [List.drop_eq_nil_of_le hle]
    exact evl (fun k => bf_none _ _ _ _ _ _ (by rw [e1]; omega))
  | succ d ih =>
    intro i q k' h1 h2 h3 h4 h5 h6
    obtain ⟨e1, e2⟩ := bf_sum h2 hall h6
    have hi2 : i < all.length := Nat.lt_of_sub_eq_succ h1
    by_cases hs : i + k' ≤ all.length
    case neg =>
      rw [firstL_few D (q.length + k') (all.drop i) q (by omega) (by rw [List.length_drop]; omega)]
      exact evl (fun k => bf_none _ _ _ _ _ _ (by rw [e1]; omega))
    obtain ⟨g0, g2, g4⟩ := at_next hi2 hall
    have g1 : all.length - (i + 1) = d := by rw [g0, h1]; rfl
    have hdr : all.drop i = all.getD i [] :: all.drop (i + 1) := by rw [List.drop_eq_getElem_cons hi2, List.getD_eq_getElem?_getD, List.getElem?_eq_getElem hi2]; rfl
    have hx : all.getD i [] ∈ all := by rw [List.getD_eq_getElem?_getD, List.getElem?_eq_getElem hi2]; exact List.getElem_mem hi2
    refine evs 0 (?_ : Ev (fun k => spec_biFirst.l1 all kd k q (i : Int) (k' : Int) true ((0 : Nat) : Int)) _) (fun k _ => bf_at all kd k q _ _ (by rw [e1]; omega) g4.2.1 g4.1)
    refine bf_loop i hi2 (k' : Int) q (by omega) (fun y hy => hd y (h4 y hy) _ hx) _ q.length 0 true (Nat.sub_zero _) (Nat.zero_le _) ?_
    rw [List.drop_zero, Bool.true_and, hdr, firstL_cons]
    have hc : (q.any fun y => D y (all.getD i [])) = clash D q (all.getD i []) := rfl
    rw [hc]
    by_cases hcl : clash D q (all.getD i []) = true
    · rw [if_pos hcl, hcl]
      refine evs 0 (ih (i + 1) q k' g1 g2 (by omega) h4 h5 h6) (fun k _ => ?_)
      rw [Bool.not_true, bf_bad _ _ _ _ _ _ _ (by omega), g4.2.2]
    · rw [if_neg hcl]
      simp only [Bool.not_eq_true] at hcl
      rw [hcl, Bool.not_false]
      have hm2 : ∀ y ∈ q ++ [all.getD i []], y ∈ all := by
        intro y hy
        rcases List.mem_append.1 hy with hy | hy
        · exact h4 y hy
        · rw [List.mem_singleton.1 hy]; exact hx
      have hl2 : (q ++ [all.getD i []]).length = q.length + 1 := by rw [List.length_append, List.length_singleton]
      have hf : Ev (fun k => spec_biFirst.f all kd k (q ++ [all.getD i []]) ((i + 1 : Nat) : Int) ((k' - 1 : Nat) : Int)) (resF (if q.length + 1 = q.length + k' then some (q ++ [all.getD i []]) else firstL D (q.length + k') (all.drop (i + 1)) (q ++ [all.getD i []]))) := by
        by_cases hk : k' = 1
        · subst hk
          rw [if_pos rfl]
          exact evl (fun k => bf_f0 all kd k _ _)
        · rw [if_neg (by omega)]
          have h := ih (i + 1) (q ++ [all.getD i []]) (k' - 1) g1 g2 (by rw [hl2]; omega) hm2 (by omega) (by omega)
          rw [hl2, show q.length + 1 + (k' - 1) = q.length + k' by omega] at h
          exact evs 0 h (fun k _ => bf_f all kd k _ _ _ (by omega))
      generalize (if q.length + 1 = q.length + k' then some (q ++ [all.getD i []]) else firstL D (q.length + k') (all.drop (i + 1)) (q ++ [all.getD i []])) = o at hf
      obtain ⟨K2, h2'⟩ := ev_get hf
      have hstep : ∀ k, K2 ≤ k → spec_biFirst.l1 all kd (k + 1) q (i : Int) (k' : Int) true (q.length : Int) = if (resF o).2 = true then some ((resF o).1, true) else spec_biFirst.l0 all kd k q ((i + 1 : Nat) : Int) (k' : Int) := fun k hk => by
        have h2 := h2' k hk
        rw [bf_rec _ _ _ _ _ _ _ (resF o) (by omega) (by omega) (by rw [g4.2.2, e2 h5]; exact h2), g4.2.2]
      cases o with
      | some l =>
        refine ⟨K2 + 1, fun k hk => ?_⟩
        obtain ⟨k, rfl⟩ : ∃ m, k = m + 1 := ⟨k - 1, by omega⟩
        exact hstep k (by omega)
      | none => exact evs K2 (ih (i + 1) q k' g1 g2 (by omega) h4 h5 h6) (fun k hk => hstep k hk)
theorem biFirst_ev (hall : all.length ≤ 1000) (hd : ∀ y ∈ all, ∀ x ∈ all, spec_biDisturb.f x y kd = some (D y x)) (k' : Nat) (hk : k' ≤ 1000) :
    Ev (fun k => spec_biFirst.f all kd k [] 0 (k' : Int)) (resF (if 0 = k' then some [] else firstL D k' all [])) := by
  by_cases h0 : 0 = k'
  · subst h0
    rw [if_pos rfl]
    exact evl (fun k => bf_f0 all kd k _ _)
  · rw [if_neg h0]
    have h := bf_ev hall hd all.length 0 [] k' (Nat.sub_zero _) (Nat.zero_le _) (Nat.zero_le _) (fun y hy => by simp at hy) (by omega) hk
    rw [List.drop_zero, List.length_nil, Nat.zero_add] at h
    exact evs 0 h (fun k _ => bf_f all kd k _ _ _ (by omega))
end
end Go.Proofs.Ythlcaikplebpmaa.P
namespace Go.Proofs.Ythlcaikplebpmaa.P
open Go.RowKit Go.Proofs.YthlcaikplebpmaaW.PrintWords Go.Proofs.YthlcaikplebpmaaW.PrintLast Go.Proofs.YthlcaikplebpmaaW.PrintMore
set_option linter.unusedVariables false
set_option linter.unusedSimpArgs false
def tab (m : Nat) (f : Nat → Int) : List Int := (List.range (m + 1)).map f
theorem tab_len (m : Nat) (f : Nat → Int) : (tab m f).length = m + 1 := by simp [tab]
theorem tab_get (m : Nat) (f : Nat → Int) (i : Nat) (h : i < (tab m f).length) : (tab m f)[i] = f i := by simp [tab]
theorem tab_rd (m : Nat) (f : Nat → Int) (i : Nat) (h : i ≤ m) : rd (tab m f) (i : Int) = f i := by
  rw [rd_nat _ _ (by rw [tab_len]; omega), tab_get]
theorem tab_set (m : Nat) (f : Nat → Int) (i : Nat) (v : Int) : (tab m f).set i v = tab m (fun k => if k = i then v else f k) := by
  apply List.ext_getElem
  · simp [tab]
  · intro k h1 h2
    rw [tab_get, List.getElem_set]
    by_cases e : i = k
    · subst e; simp
    · rw [if_neg e, if_neg (fun h => e h.symm), tab_get]
theorem tab_congr {m : Nat} {f g : Nat → Int} (h : ∀ k, k ≤ m → f k = g k) : tab m f = tab m g := by
  apply List.ext_getElem
  · simp [tab]
  · intro k h1 h2
    rw [tab_get, tab_get]
    exact h k (by rw [tab_len] at h1; omega)
theorem tab_repl (m : Nat) : List.replicate (m + 1) (0 : Int) = tab m (fun _ => 0) := by
  apply List.ext_getElem
  · simp [tab]
  · intro k h1 h2
    rw [tab_get, List.getElem_replicate]
def orb (t c : Int) : Int := Go.bits .or .i64 t (shl .i64 1 c)
def pop (t : Int) : Nat := ((List.range 6).filter fun (c : Nat) => hasM t (c : Int)).length
theorem orb_fin : ∀ t : Fin 64, ∀ c : Fin 6, hasM (t.val : Int) (c.val : Int) = false → (0 ≤ orb (t.val : Int) (c.val : Int) ∧ orb (t.val : Int) (c.val : Int) ≤ 63) ∧ pop (orb (t.val : Int) (c.val : Int)) = pop (t.val : Int) + 1 := by decide +kernel
theorem orb_form : ∀ t : Fin 64, ∀ c : Fin 6, Go.bits .or .i64 (t.val : Int) (wrap64 (2 ^ min ((c.val : Nat) : Int).toNat 64)) = orb (t.val : Int) (c.val : Int) := by decide +kernel
theorem orb_cols : ∀ t : Fin 64, ∀ c : Fin 6, ∀ C : Fin 7, t.val < 2 ^ C.val → c.val < C.val → orb (t.val : Int) (c.val : Int) < ((2 ^ C.val : Nat) : Int) := by decide +kernel
theorem pop_cols : ∀ t : Fin 64, ∀ C : Fin 7, t.val < 2 ^ C.val → pop (t.val : Int) ≤ C.val := by decide +kernel
theorem pop_zero : pop 0 = 0 := by decide +kernel
/-- A mask of columns that are less than C. -/
def Cols (C : Nat) (t : Int) : Prop := 0 ≤ t ∧ t ≤ 63 ∧ t < ((2 ^ C : Nat) : Int)
theorem cols_zero (C : Nat) : Cols C 0 := ⟨by omega, by omega, by exact_mod_cast Nat.pos_of_ne_zero (by simp)⟩
theorem cols_pop {C : Nat} (hC : C ≤ 6) {t : Int} (h : Cols C t) : pop t ≤ C := by
  have := pop_cols ⟨t.toNat, by have := h.1; have := h.2.1; omega⟩ ⟨C, by omega⟩ (by have := h.1; have := h.2.2; simp only; omega)
  simpa only [show ((t.toNat : Nat) : Int) = t by have := h.1; omega] using this
theorem cols_orb {C : Nat} (hC : C ≤ 6) {t : Int} (h : Cols C t) {c : Nat} (hc : c < C) (hf : hasM t (c : Int) = false) : Cols C (orb t (c : Int)) ∧ pop (orb t (c : Int)) = pop t + 1 := by
  have e : ((t.toNat : Nat) : Int) = t := by have := h.1; omega
  have h1 := orb_fin ⟨t.toNat, by have := h.1; have := h.2.1; omega⟩ ⟨c, by omega⟩ (by simpa only [e] using hf)
  have h2 := orb_cols ⟨t.toNat, by have := h.1; have := h.2.1; omega⟩ ⟨c, by omega⟩ ⟨C, by omega⟩ (by have := h.1; have := h.2.2; simp only; omega) hc
  simp only [e] at h1 h2
  exact ⟨⟨h1.1.1, h1.1.2, h2⟩, h1.2⟩
theorem orb_more {C : Nat} (hC : C ≤ 6) {t : Int} (h : Cols C t) {c : Nat} (hc : c < C) : Go.bits .or .i64 t (wrap64 (2 ^ min ((c : Nat) : Int).toNat 64)) = orb t (c : Int) := by
  have e : ((t.toNat : Nat) : Int) = t := by have := h.1; omega
  have h1 := orb_form ⟨t.toNat, by have := h.1; have := h.2.1; omega⟩ ⟨c, by omega⟩
  simpa only [e] using h1
def sumTo (f : Nat → Nat) : Nat → Nat
  | 0 => 0
  | n + 1 => sumTo f n + f n
def freeB (l : List Int) (r c : Nat) (t : Int) : Bool := hasC l (r : Int) (c : Int) && !hasM t (c : Int)
def ways (l : List Int) (C : Nat) : Nat → Nat → Int → Nat → Nat
  | 0, _, _, k => if k = 0 then 1 else 0
  | d + 1, r, t, k => ways l C d (r + 1) t k + sumTo (fun c => if freeB l r c t = true then (if k = 0 then 0 else ways l C d (r + 1) (orb t (c : Int)) (k - 1)) else 0) C
def term (l : List Int) (C d r : Nat) (t : Int) (k c : Nat) : Nat := if freeB l r c t = true then (if k = 0 then 0 else ways l C d (r + 1) (orb t (c : Int)) (k - 1)) else 0
theorem ways_succ (l : List Int) (C d r : Nat) (t : Int) (k : Nat) : ways l C (d + 1) r t k = ways l C d (r + 1) t k + sumTo (term l C d r t k) C := rfl
theorem sumTo_le {f : Nat → Nat} {b : Nat} (h : ∀ c, f c ≤ b) : ∀ n, sumTo f n ≤ n * b
  | 0 => by simp [sumTo]
  | n + 1 => by have := sumTo_le h n; have := h n; rw [sumTo, Nat.succ_mul]; omega
theorem ways_le (l : List Int) {C : Nat} (hC : C ≤ 6) : ∀ (d r : Nat) (t : Int) (k : Nat), ways l C d r t k ≤ 7 ^ d
  | 0, _, _, k => by unfold ways; split <;> omega
  | d + 1, r, t, k => by
    rw [ways_succ]
    have h1 := ways_le l hC d (r + 1) t k
    have h2 := sumTo_le (f := term l C d r t k) (b := 7 ^ d) (fun c => by
      unfold term
      split
      · split
        · omega
        · exact ways_le l hC d _ _ _
      · omega) C
    have h3 : C * 7 ^ d ≤ 6 * 7 ^ d := Nat.mul_le_mul_right _ hC
    rw [Nat.pow_succ]
    omega
theorem sumTo_pos {f : Nat → Nat} : ∀ {n : Nat}, 0 < sumTo f n → ∃ c, c < n ∧ 0 < f c
  | 0, h => by simp [sumTo] at h
  | n + 1, h => by
    rw [sumTo] at h
    by_cases h1 : 0 < f n
    · exact ⟨n, by omega, h1⟩
    · obtain ⟨c, hc, hf⟩ := sumTo_pos (f := f) (n := n) (by omega)
      exact ⟨c, by omega, hf⟩
theorem ways_pos (l : List Int) {C : Nat} (hC : C ≤ 6) : ∀ (d r : Nat) (t : Int) (k : Nat), Cols C t → 0 < ways l C d r t k → k ≤ d ∧ k + pop t ≤ C
  | 0, _, t, k, ht, h => by
    unfold ways at h
    split at h
    · have := cols_pop hC ht; omega
    · omega
  | d + 1, r, t, k, ht, h => by
    rw [ways_succ] at h
    by_cases h1 : 0 < ways l C d (r + 1) t k
    · have := ways_pos l hC d (r + 1) t k ht h1; omega
    · obtain ⟨c, hc, hf⟩ := sumTo_pos (f := term l C d r t k) (n := C) (by omega)
      unfold term at hf
      split at hf
      · rename_i hfree
        split at hf
        · omega
        · unfold freeB at hfree
          rw [Bool.and_eq_true, Bool.not_eq_true'] at hfree
          have h2 := cols_orb hC ht hc hfree.2
          have := ways_pos l hC d (r + 1) (orb t (c : Int)) (k - 1) h2.1 hf
          omega
      · omega
section
variable {l : List Int} {R C m : Nat} (hR : R ≤ 6) (hC : C ≤ 6) (hl : l.length = R) (hm : m = min R C)
theorem spec_l0 (w : Nat → Int) (hw : ∀ k, 0 ≤ w k ∧ w k ≤ 1000000) (r t : Int) (res : List Int) (hm6 : m ≤ 6)
    (hrec : Ev (fun k => spec_roWays.l1 k r t (tab m w) 0 (R : Int) (C : Int) l) res) : ∀ (d i : Nat), m + 1 - i = d → i ≤ m + 1 →
    Ev (fun k => spec_roWays.l0 k r t (tab m (fun k => if k < i then w k else 0)) (tab m w) ((tab m w).length : Int) (i : Int) (R : Int) (C : Int) l) res := by
  intro d
  induction d with
  | zero =>
    intro i hd hi
    obtain ⟨K, hK⟩ := ev_get hrec
    refine ⟨K + 1, fun k hk => ?_⟩
    obtain ⟨k, rfl⟩ : ∃ m, k = m + 1 := ⟨k - 1, by omega⟩
    dsimp only
    rw [spec_roWays.l0, tab_len, if_neg (by omega), tab_congr (g := w) (fun k hk => by rw [if_pos (by omega)])]
    exact hK k (by omega)
  | succ d ih =>
    intro i hd hi
    obtain ⟨K, hK⟩ := ev_get (ih (i + 1) (by omega) (by omega))
    refine ⟨K + 1, fun k hk => ?_⟩
    obtain ⟨k, rfl⟩ : ∃ m, k = m + 1 := ⟨k - 1, by omega⟩
    dsimp only
    have h1 := hw i
    rw [spec_roWays.l0, if_pos (by rw [tab_len]; omega), if_pos (by omega), if_pos (by rw [tab_len]; omega), if_pos (by rw [tab_len]; omega), tab_rd _ _ i (by omega), tab_rd _ _ i (by omega), if_neg (by omega), w64 _ (by omega) (by omega), w64 _ (by omega) (by omega), show ((i : Nat) : Int).toNat = i by omega, tab_set, tab_congr (g := fun k => if k < i + 1 then w k else 0) (fun k hk => by
      by_cases e : k = i
      · subst e; rw [if_pos rfl, if_pos (by omega)]; omega
      · rw [if_neg e]
        by_cases e2 : k < i
        · rw [if_pos e2, if_pos (by omega)]
        · rw [if_neg e2, if_neg (by omega)])]
    exact hK k (by omega)
theorem spec_l2 (hm6 : m ≤ 6) (b w : Nat → Int) (hb : ∀ k, 0 ≤ b k ∧ b k ≤ 1000000) (hw : ∀ k, 0 ≤ w k ∧ w k ≤ 1000000) (hpos : ∀ k, 0 < w k → k + 1 ≤ m) (r t : Int) (c : Nat) (hc : c ≤ 100) (res : List Int)
    (hrec : Ev (fun k => spec_roWays.l1 k r t (tab m (fun k => b k + if k = 0 then 0 else w (k - 1))) ((c + 1 : Nat) : Int) (R : Int) (C : Int) l) res) : ∀ (d i : Nat), m + 1 - i = d → i ≤ m + 1 →
    Ev (fun k => spec_roWays.l2 k r t (tab m (fun k => b k + if k = 0 ∨ i < k then 0 else w (k - 1))) (c : Int) (tab m w) ((tab m w).length : Int) (i : Int) (R : Int) (C : Int) l) res := by
  intro d
  induction d with
  | zero =>
    intro i hd hi
    obtain ⟨K, hK⟩ := ev_get hrec
    refine ⟨K + 1, fun k hk => ?_⟩
    obtain ⟨k, rfl⟩ : ∃ m, k = m + 1 := ⟨k - 1, by omega⟩
    dsimp only
    rw [spec_roWays.l2, tab_len, if_neg (by omega), w64 _ (by omega) (by omega), tab_congr (g := fun k => b k + if k = 0 then 0 else w (k - 1)) (fun k hk => by
      by_cases e : k = 0
      · rw [if_pos (Or.inl e), if_pos e]
      · rw [if_neg (by omega), if_neg e])]
    exact hK k (by omega)
  | succ d ih =>
    intro i hd hi
    obtain ⟨K, hK⟩ := ev_get (ih (i + 1) (by omega) (by omega))
    refine ⟨K + 1, fun k hk => ?_⟩
    obtain ⟨k, rfl⟩ : ∃ m, k = m + 1 := ⟨k - 1, by omega⟩
    dsimp only
    have h1 := hw i
    have h2 := hb (i + 1)
    rw [spec_roWays.l2, if_pos (by rw [tab_len]; omega), if_pos (by omega), if_pos (by rw [tab_len]; omega), tab_rd _ _ i (by omega), w64 ((i : Int) + 1) (by omega) (by omega), show (i : Int) + 1 = ((i + 1 : Nat) : Int) by omega]
    by_cases hp : w i > 0
    · have h3 := hpos i hp
      rw [if_pos hp, if_pos (by omega), if_pos (by rw [tab_len]; omega), tab_rd _ _ (i + 1) (by omega), if_pos (Or.inr (by omega)), w64 _ (by omega) (by omega), show (((i + 1 : Nat) : Nat) : Int).toNat = i + 1 by omega, tab_set, tab_congr (g := fun k => b k + if k = 0 ∨ i + 1 < k then 0 else w (k - 1)) (fun k hk => by
        by_cases e : k = i + 1
        · subst e; rw [if_pos rfl, if_neg (by omega)]; simp
        · rw [if_neg e]
          by_cases e2 : k = 0 ∨ i < k
          · rw [if_pos e2, if_pos (by omega)]
          · rw [if_neg e2, if_neg (by omega)])]
      exact hK k (by omega)
    · rw [if_neg hp, tab_congr (g := fun k => b k + if k = 0 ∨ i + 1 < k then 0 else w (k - 1)) (fun k hk => by
        by_cases e : k = i + 1
        · subst e; rw [if_pos (Or.inr (by omega)), if_neg (by omega)]; simp; omega
        · by_cases e2 : k = 0 ∨ i < k
          · rw [if_pos e2, if_pos (by omega)]
          · rw [if_neg e2, if_neg (by omega)])]
      exact hK k (by omega)
theorem ways_small (l : List Int) {C : Nat} (hC : C ≤ 6) (d r : Nat) (t : Int) (k : Nat) (hd : d ≤ 6) : ways l C d r t k ≤ 117649 :=
  Nat.le_trans (ways_le l hC d r t k) (Nat.le_trans (Nat.pow_le_pow_right (by omega) hd) (by decide))
theorem sum_small (l : List Int) {C : Nat} (hC : C ≤ 6) (d r : Nat) (t : Int) (k c : Nat) (hc : c ≤ C) (hd : d ≤ 5) : sumTo (term l C d r t k) c ≤ 117649 := by
  have h := sumTo_le (f := term l C d r t k) (b := 16807) (fun c => by
    unfold term
    split
    · split
      · omega
      · exact Nat.le_trans (ways_le l hC d _ _ _) (Nat.le_trans (Nat.pow_le_pow_right (by omega) hd) (by decide))
    · omega) c
  have : c * 16807 ≤ 6 * 16807 := Nat.mul_le_mul_right _ (by omega)
  omega
include hR hC hl hm
theorem spec_l1 (d r : Nat) (hrd : r + d + 1 = R) (t : Int) (ht : Cols C t)
    (IH : ∀ t', Cols C t' → Ev (fun k => spec_roWays.f k (R : Int) (C : Int) l ((r + 1 : Nat) : Int) t') (tab m (fun k => (ways l C d (r + 1) t' k : Int)))) : ∀ (e c : Nat), C - c = e → c ≤ C →
    Ev (fun k => spec_roWays.l1 k (r : Int) t (tab m (fun k => (ways l C d (r + 1) t k : Int) + (sumTo (term l C d r t k) c : Int))) (c : Int) (R : Int) (C : Int) l) (tab m (fun k => (ways l C (d + 1) r t k : Int))) := by
  intro e
  induction e with
  | zero =>
    intro c he hc
    refine ⟨1, fun k hk => ?_⟩
    obtain ⟨k, rfl⟩ : ∃ m, k = m + 1 := ⟨k - 1, by omega⟩
    dsimp only
    obtain rfl : c = C := by omega
    rw [spec_roWays.l1, if_neg (by omega)]
    exact congrArg some (tab_congr (fun k hk => by rw [ways_succ]; omega))
  | succ e ih =>
    intro c he hc
    have hc1 : c < C := by omega
    have h2 := ih (c + 1) (by omega) (by omega)
    have hhas : spec_boHas.f (R : Int) (C : Int) l (r : Int) (c : Int) = some (hasC l (r : Int) (c : Int)) := by
      simp only [spec_boHas.f]
      rw [if_pos (by omega), if_pos (by omega), if_pos (by omega)]
      rfl
    have skip : freeB l r c t = false → ∀ k, spec_roWays.l1 k (r : Int) t (tab m (fun k => (ways l C d (r + 1) t k : Int) + (sumTo (term l C d r t k) (c + 1) : Int))) ((c + 1 : Nat) : Int) (R : Int) (C : Int) l = spec_roWays.l1 k (r : Int) t (tab m (fun k => (ways l C d (r + 1) t k : Int) + (sumTo (term l C d r t k) c : Int))) ((c + 1 : Nat) : Int) (R : Int) (C : Int) l := by
      intro hf k
      rw [tab_congr (g := fun k => (ways l C d (r + 1) t k : Int) + (sumTo (term l C d r t k) c : Int)) (fun k hk => by
        rw [sumTo, term, if_neg (by rw [hf]; simp)]; omega)]
    by_cases hh : hasC l (r : Int) (c : Int) = true
    case neg =>
      have hf : freeB l r c t = false := by unfold freeB; rw [Bool.not_eq_true] at hh; rw [hh]; rfl
      obtain ⟨K, hK⟩ := ev_get h2
      refine ⟨K + 2, fun k hk => ?_⟩
      obtain ⟨k, rfl⟩ : ∃ m, k = m + 2 := ⟨k - 2, by omega⟩
      dsimp only
      rw [spec_roWays.l1, if_pos (by omega), hhas, Option.bind_some, if_neg hh, spec_roWays.j2, if_pos rfl, w64 _ (by omega) (by omega), show (c : Int) + 1 = ((c + 1 : Nat) : Int) by omega, ← skip hf]
      exact hK k (by omega)
    by_cases hb : hasM t (c : Int) = true
    · have hf : freeB l r c t = false := by unfold freeB; rw [hb]; simp
      obtain ⟨K, hK⟩ := ev_get h2
      refine ⟨K + 2, fun k hk => ?_⟩
      obtain ⟨k, rfl⟩ : ∃ m, k = m + 2 := ⟨k - 2, by omega⟩
      dsimp only
      have hb' : (Int.tmod (shr .i64 t (c : Int)) 2 == 1) = true := hb
      rw [spec_roWays.l1, if_pos (by omega), hhas, Option.bind_some, if_pos hh, if_pos (by omega), hb', spec_roWays.j2, if_pos rfl, w64 _ (by omega) (by omega), show (c : Int) + 1 = ((c + 1 : Nat) : Int) by omega, ← skip hf]
      exact hK k (by omega)
    · have hb1 : hasM t (c : Int) = false := by simpa using hb
      have hf : freeB l r c t = true := by unfold freeB; rw [hh, hb1]; rfl
      have hco := cols_orb hC ht hc1 hb1
      obtain ⟨K1, k1⟩ := ev_get (IH _ hco.1)
      obtain ⟨K2, k2⟩ := ev_get (spec_l2 (l := l) (R := R) (C := C) (m := m) (by omega) (fun k => (ways l C d (r + 1) t k : Int) + (sumTo (term l C d r t k) c : Int)) (fun k => (ways l C d (r + 1) (orb t (c : Int)) k : Int))
        (fun k => by have := ways_small l hC d (r + 1) t k (by omega); have := sum_small l hC d r t k c (by omega) (by omega); omega)
        (fun k => by have := ways_small l hC d (r + 1) (orb t (c : Int)) k (by omega); omega)
        (fun k hk => by have := ways_pos l hC d (r + 1) (orb t (c : Int)) k hco.1 (by omega); omega) (r : Int) t c (by omega) _ (by
          have e : (fun k => (ways l C d (r + 1) t k : Int) + (sumTo (term l C d r t k) (c + 1) : Int)) = (fun k => (ways l C d (r + 1) t k : Int) + (sumTo (term l C d r t k) c : Int) + (if k = 0 then 0 else (ways l C d (r + 1) (orb t (c : Int)) (k - 1) : Int))) := by
            funext k
            rw [sumTo]
            have : term l C d r t k c = if k = 0 then 0 else ways l C d (r + 1) (orb t (c : Int)) (k - 1) := by unfold term; rw [if_pos hf]
            rw [this]
            split <;> omega
          rw [e] at h2
          exact h2) (m + 1) 0 (by omega) (by omega))
      refine ⟨K1 + K2 + 2, fun k hk => ?_⟩
      obtain ⟨k, rfl⟩ : ∃ m, k = m + 2 := ⟨k - 2, by omega⟩
      dsimp only
      have hb' : (Int.tmod (shr .i64 t (c : Int)) 2 == 1) = false := hb1
      have k1' := k1 k (by omega)
      rw [spec_roWays.l1, if_pos (by omega), hhas, Option.bind_some, if_pos hh, if_pos (by omega), hb', spec_roWays.j2, if_neg (by simp), if_pos (by omega), w64 ((r : Int) + 1) (by omega) (by omega), show (r : Int) + 1 = ((r + 1 : Nat) : Int) by omega]
      show (spec_roWays.f k (R : Int) (C : Int) l ((r + 1 : Nat) : Int) (orb t (c : Int))).bind _ = _
      rw [k1', Option.bind_some]
      refine Eq.trans ?_ (k2 k (by omega))
      congr 1
      exact tab_congr (fun k hk => by
        by_cases e : k = 0
        · rw [if_pos (Or.inl e)]; omega
        · rw [if_pos (Or.inr (by omega))]; omega)
theorem roWays_ev : ∀ (d r : Nat) (t : Int), r + d = R → Cols C t → Ev (fun k => spec_roWays.f k (R : Int) (C : Int) l (r : Int) t) (tab m (fun k => (ways l C d r t k : Int))) := by
  have hle : spec_l1Least.f (R : Int) (C : Int) = some (m : Int) := by
    unfold spec_l1Least.f
    by_cases h : (R : Int) < (C : Int)
    · rw [if_pos h]; congr 1; omega
    · rw [if_neg h]; congr 1; omega
  intro d
  induction d with
  | zero =>
    intro r t hr ht
    refine ⟨1, fun k hk => ?_⟩
    obtain ⟨k, rfl⟩ : ∃ m, k = m + 1 := ⟨k - 1, by omega⟩
    dsimp only
    rw [spec_roWays.f, hle, Option.bind_some, w64 _ (by omega) (by omega), if_pos (by omega), show ((m : Int) + 1).toNat = m + 1 by omega, if_pos (by omega), Option.bind_some, if_pos (by omega), if_pos (by simp), tab_repl]
    congr 1
    rw [show (0 : Int).toNat = 0 from rfl, tab_set]
    exact tab_congr (fun k hk => by unfold ways; split <;> simp)
  | succ d ih =>
    intro r t hr ht
    obtain ⟨K1, k1⟩ := ev_get (ih (r + 1) t (by omega) ht)
    have h0 := spec_l1 hR hC hl hm d r (by omega) t ht (fun t' ht' => ih (r + 1) t' (by omega) ht') C 0 (by omega) (by omega)
    have e : (fun k => (ways l C d (r + 1) t k : Int) + (sumTo (term l C d r t k) 0 : Int)) = fun k => (ways l C d (r + 1) t k : Int) := by
      funext k; rw [sumTo]; omega
    rw [e] at h0
    obtain ⟨K2, k2⟩ := ev_get (spec_l0 (l := l) (R := R) (C := C) (m := m) (fun k => (ways l C d (r + 1) t k : Int)) (fun k => by have := ways_small l hC d (r + 1) t k (by omega); omega) (r : Int) t _ (by omega) h0 (m + 1) 0 (by omega) (by omega))
    refine ⟨K1 + K2 + 1, fun k hk => ?_⟩
    obtain ⟨k, rfl⟩ : ∃ m, k = m + 1 := ⟨k - 1, by omega⟩
    dsimp only
    rw [spec_roWays.f, hle, Option.bind_some, w64 _ (by omega) (by omega), if_pos (by omega), show ((m : Int) + 1).toNat = m + 1 by omega, if_pos (by omega), Option.bind_some, if_neg (by omega), w64 ((r : Int) + 1) (by omega) (by omega), show (r : Int) + 1 = ((r + 1 : Nat) : Int) by omega, k1 k (by omega), Option.bind_some, tab_repl, tab_congr (g := fun k => if k < 0 then (ways l C d (r + 1) t k : Int) else 0) (fun k hk => by rw [if_neg (by omega)])]
    exact k2 k (by omega)
omit hR hC hl hm
end
end Go.Proofs.Ythlcaikplebpmaa.P
namespace Go.Proofs.Ythlcaikplebpmaa.P
open Go.RowKit Go.Proofs.YthlcaikplebpmaaW.PrintWords Go.Proofs.YthlcaikplebpmaaW.PrintLast Go.Proofs.YthlcaikplebpmaaW.PrintMore
set_option linter.unusedVariables false
set_option linter.unusedSimpArgs false
def cnt (p : List Int) : Nat := (p.filter fun x => x != -1).length
theorem rooks_l0 (p : List Int) (hp : p.length ≤ 100) : ∀ (d i : Nat), p.length - i = d → i ≤ p.length →
    Ev (fun k => impl_rooks.l0 k (cnt (p.take i) : Int) p (p.length : Int) (i : Int)) (cnt p : Int) := by
  intro d
  induction d with
  | zero =>
    intro i hd hi
    refine ⟨1, fun k hk => ?_⟩
    obtain ⟨k, rfl⟩ : ∃ m, k = m + 1 := ⟨k - 1, by omega⟩
    dsimp only
    rw [impl_rooks.l0, if_neg (by omega), List.take_of_length_le (by omega)]
  | succ d ih =>
    intro i hd hi
    have h1 : i < p.length := by omega
    obtain ⟨K, hK⟩ := ev_get (ih (i + 1) (by omega) (by omega))
    refine ⟨K + 1, fun k hk => ?_⟩
    obtain ⟨k, rfl⟩ : ∃ m, k = m + 1 := ⟨k - 1, by omega⟩
    dsimp only
    have hc : cnt (p.take i) ≤ i := by
      unfold cnt
      have := List.length_filter_le (fun x => x != -1) (p.take i)
      rw [List.length_take] at this
      omega
    have hs : cnt (p.take (i + 1)) = cnt (p.take i) + if p[i] = -1 then 0 else 1 := by
      unfold cnt
      rw [← List.take_append_getElem h1, List.filter_append, List.length_append]
      by_cases e : p[i] = -1 <;> simp [e]
    have hk' := hK k (by omega)
    rw [hs] at hk'
    rw [impl_rooks.l0, if_pos (by omega), if_pos (by omega), if_pos (by omega), rd_nat p i h1, w64 ((i : Int) + 1) (by omega) (by omega), show (i : Int) + 1 = ((i + 1 : Nat) : Int) by omega, w64 _ (by omega) (by omega)]
    by_cases e : p[i] = -1
    · rw [if_pos e]; rw [if_pos e] at hk'; exact hk'
    · rw [if_neg e]; rw [if_neg e] at hk'; exact hk'
theorem rooks_ev (p : List Int) (hp : p.length ≤ 100) : Ev (fun k => impl_rooks.f k p) (cnt p : Int) := rooks_l0 p hp p.length 0 (by omega) (by omega)
def gain (l : List Int) (C d r : Nat) (t : Int) (k : Nat) : Nat := if pop t ≤ k then ways l C d r t (k - pop t) else 0
def gterm (l : List Int) (C d r : Nat) (t : Int) (k c : Nat) : Nat := if freeB l r c t = true then gain l C d (r + 1) (orb t (c : Int)) k else 0
theorem sumTo_congr {f g : Nat → Nat} : ∀ {n : Nat}, (∀ c, c < n → f c = g c) → sumTo f n = sumTo g n
  | 0, _ => rfl
  | n + 1, h => by rw [sumTo, sumTo, sumTo_congr (fun c hc => h c (by omega)), h n (by omega)]
theorem sumTo_zero (n : Nat) : sumTo (fun _ => 0) n = 0 := by
  induction n with
  | zero => rfl
  | succ n ih => rw [sumTo, ih]
theorem gain_succ (l : List Int) {C : Nat} (hC : C ≤ 6) (d r : Nat) (t : Int) (ht : Cols C t) (k : Nat) : gain l C (d + 1) r t k = gain l C d (r + 1) t k + sumTo (gterm l C d r t k) C := by
  have hg : ∀ c, c < C → gterm l C d r t k c = if pop t ≤ k then term l C d r t (k - pop t) c else 0 := by
    intro c hc
    unfold gterm term
    by_cases hf : freeB l r c t = true
    · have hb : hasM t (c : Int) = false := by
        unfold freeB at hf
        rw [Bool.and_eq_true, Bool.not_eq_true'] at hf
        exact hf.2
      rw [if_pos hf, if_pos hf, gain, (cols_orb hC ht hc hb).2]
      by_cases h1 : pop t + 1 ≤ k
      · rw [if_pos h1, if_pos (by omega), if_neg (by omega), show k - (pop t + 1) = k - pop t - 1 by omega]
      · rw [if_neg h1]
        by_cases h2 : pop t ≤ k
        · rw [if_pos h2, if_pos (by omega)]
        · rw [if_neg h2]
    · rw [if_neg hf, if_neg hf]; split <;> rfl
  rw [sumTo_congr hg]
  unfold gain
  by_cases h : pop t ≤ k
  · simp only [if_pos h]
    exact ways_succ _ _ _ _ _ _
  · simp only [if_neg h]
    rw [sumTo_zero]
theorem gain_le (l : List Int) {C : Nat} (hC : C ≤ 6) (d r : Nat) (t : Int) (k : Nat) : gain l C d r t k ≤ 7 ^ d := by
  unfold gain
  split
  · exact ways_le l hC _ _ _ _
  · exact Nat.zero_le _
theorem gsum_le (l : List Int) {C : Nat} (hC : C ≤ 6) (d r : Nat) (t : Int) (k c : Nat) : sumTo (gterm l C d r t k) c ≤ c * 7 ^ d :=
  sumTo_le (fun c => by unfold gterm; split; exact gain_le l hC _ _ _ _; exact Nat.zero_le _) c
theorem cnt_set (p : List Int) (r : Nat) (v : Int) (h : r < p.length) : cnt ((p.set r v).take (r + 1)) = cnt (p.take r) + if v = -1 then 0 else 1 := by
  unfold cnt
  rw [take_set_succ p r v h, List.filter_append, List.length_append]
  by_cases e : v = -1 <;> simp [e]
section
variable {l : List Int} {R C m : Nat} (hR : R ≤ 6) (hC : C ≤ 6) (hl : l.length = R) (hm : m = min R C) (hmask : ∀ i : Nat, i < R → 0 ≤ rd l (i : Int) ∧ rd l (i : Int) ≤ 63)
include hR hC hl hm hmask
omit hR hm in
theorem skips_eq {r c : Nat} (hr : r < R) (hc : c < C) {t : Int} (ht : Cols C t) : impl_Board_walk_1.skips (R : Int) (C : Int) l (r : Int) t (c : Int) = some (!freeB l r c t) := by
  have hh : impl_Board_has.f (R : Int) (C : Int) l (r : Int) (c : Int) = some (hasC l (r : Int) (c : Int)) := by
    have hb := hmask r hr
    simp only [impl_Board_has.f]
    rw [if_pos (by omega), if_pos (by omega), if_pos (by omega), has_bits' _ _ hb.1 hb.2 (by omega) (by omega)]
    rfl
  unfold impl_Board_walk_1.skips
  rw [if_pos (by omega), hh, Option.bind_some, has_bits' t _ ht.1 ht.2.1 (by omega) (by omega)]
  unfold freeB
  cases hasC l (r : Int) (c : Int) <;> cases hasM t (c : Int) <;> rfl
theorem walk_ev : ∀ (d r : Nat) (t : Int) (p : List Int) (g : Nat → Int), r + d = R → Cols C t → p.length = R → cnt (p.take r) = pop t → (∀ k, 0 ≤ g k ∧ g k + ((7 ^ d : Nat) : Int) ≤ 1000000) →
    ∃ p' : List Int, p'.length = R ∧ p'.take r = p.take r ∧ Ev (fun k => impl_Board_walk_1.f k (R : Int) (C : Int) l (r : Int) t p (tab m g)) (p', tab m (fun k => g k + (gain l C d r t k : Int))) := by
  intro d
  induction d with
  | zero =>
    intro r t p g hr ht hp hcnt hg
    refine ⟨p, hp, rfl, ?_⟩
    obtain ⟨K, hK⟩ := ev_get (rooks_ev p (by omega))
    have hcp : cnt p = pop t := by rw [← hcnt, List.take_of_length_le (by omega)]
    have h1 : pop t ≤ m := by
      have h2 := cols_pop hC ht
      have h3 : cnt p ≤ p.length := List.length_filter_le _ _
      omega
    refine ⟨K + 1, fun k hk => ?_⟩
    obtain ⟨k, rfl⟩ : ∃ m, k = m + 1 := ⟨k - 1, by omega⟩
    dsimp only
    have h4 := hg (pop t)
    rw [impl_Board_walk_1.f, if_pos (by omega), impl_Board_numbers_1.f, hK k (by omega), Option.bind_some, hcp, if_pos (by omega), if_pos (by rw [tab_len]; omega), tab_rd _ _ _ h1, w64 _ (by omega) (by omega), Int.toNat_natCast, tab_set, Option.bind_some]
    refine congrArg (fun z => some (p, z)) (tab_congr (fun k hk => ?_))
    by_cases e : k = pop t
    · subst e; rw [if_pos rfl, gain, if_pos (Nat.le_refl _), Nat.sub_self]; rfl
    · rw [if_neg e, gain]
      by_cases e2 : pop t ≤ k
      · rw [if_pos e2, ways, if_neg (by omega)]; omega
      · rw [if_neg e2]; omega
  | succ d ih =>
    intro r t p g hr ht hp hcnt hg
    have hrR : r < R := by omega
    have hp7 : 7 ^ (d + 1) = 7 * 7 ^ d := by rw [Nat.pow_succ, Nat.mul_comm]
    have hcast : ((7 ^ (d + 1) : Nat) : Int) = 7 * ((7 ^ d : Nat) : Int) := by rw [hp7]; push_cast; rfl
    -- the columns from c on
    have loop : ∀ (e c : Nat), C - c = e → c ≤ C → ∀ p1 : List Int, p1.length = R → p1.take r = p.take r →
        ∃ p' : List Int, p'.length = R ∧ p'.take r = p.take r ∧ Ev (fun k => impl_Board_walk_1.l0 k (R : Int) (C : Int) l (r : Int) t p1 (tab m (fun k => g k + (gain l C d (r + 1) t k : Int) + (sumTo (gterm l C d r t k) c : Int))) (c : Int)) (p', tab m (fun k => g k + (gain l C (d + 1) r t k : Int))) := by
      intro e
      induction e with
      | zero =>
        intro c he hc p1 hp1 ht1
        obtain rfl : c = C := by omega
        refine ⟨p1, hp1, ht1, 1, fun k hk => ?_⟩
        obtain ⟨k, rfl⟩ : ∃ m, k = m + 1 := ⟨k - 1, by omega⟩
        dsimp only
        rw [impl_Board_walk_1.l0, if_neg (by omega)]
        exact congrArg (fun z => some (p1, z)) (tab_congr (fun k hk => by rw [gain_succ l hC d r t ht k]; omega))
      | succ e ihe =>
        intro c he hc p1 hp1 ht1
        have hc1 : c < C := by omega
        have hsk := skips_eq hC hl hmask hrR hc1 ht
        by_cases hf : freeB l r c t = true
        · have hb : hasM t (c : Int) = false := by
            unfold freeB at hf
            rw [Bool.and_eq_true, Bool.not_eq_true'] at hf
            exact hf.2
          have hco := cols_orb hC ht hc1 hb
          obtain ⟨p2, hp2, ht2, hev⟩ := ih (r + 1) (orb t (c : Int)) (p1.set r (c : Int)) (fun k => g k + (gain l C d (r + 1) t k : Int) + (sumTo (gterm l C d r t k) c : Int)) (by omega) hco.1 (by rw [List.length_set]; exact hp1) (by rw [cnt_set p1 r _ (by omega), ht1, hcnt, hco.2, if_neg (by omega)]) (fun k => by
            have h1 := hg k
            have h2 := gain_le l hC d (r + 1) t k
            have h3 := gsum_le l hC d r t k c
            have h4 : c * 7 ^ d ≤ 5 * 7 ^ d := Nat.mul_le_mul_right _ (by omega)
            rw [hcast] at h1
            omega)
          have ht3 : p2.take r = p.take r := by
            have := congrArg (List.take r) ht2
            rw [List.take_take, List.take_take, Nat.min_eq_left (by omega), List.take_set_of_le (Nat.le_refl r)] at this
            rw [this, ht1]
          obtain ⟨p3, hp3, ht4, hev2⟩ := ihe (c + 1) (by omega) (by omega) p2 hp2 ht3
          refine ⟨p3, hp3, ht4, ?_⟩
          obtain ⟨K1, k1⟩ := ev_get hev
          obtain ⟨K2, k2⟩ := ev_get hev2
          refine ⟨K1 + K2 + 1, fun k hk => ?_⟩
          obtain ⟨k, rfl⟩ : ∃ m, k = m + 1 := ⟨k - 1, by omega⟩
          dsimp only
          have hmo : impl_Board_walk_1.more t (c : Int) = orb t (c : Int) := by unfold impl_Board_walk_1.more; rw [if_pos (by omega)]; exact orb_more hC ht hc1
          rw [impl_Board_walk_1.l0, if_pos (by omega), hsk, Option.bind_some, hf, if_neg (by simp), if_pos (by omega), if_pos (by omega), hmo, Int.toNat_natCast, w64 ((r : Int) + 1) (by omega) (by omega), show (r : Int) + 1 = ((r + 1 : Nat) : Int) by omega, k1 k (by omega), Option.bind_some, w64 ((c : Int) + 1) (by omega) (by omega), show (c : Int) + 1 = ((c + 1 : Nat) : Int) by omega]
          refine Eq.trans ?_ (k2 k (by omega))
          congr 1
          exact tab_congr (fun k hk => by
            have : gterm l C d r t k c = gain l C d (r + 1) (orb t (c : Int)) k := by unfold gterm; rw [if_pos hf]
            rw [sumTo, this]; omega)
        · have hf' : freeB l r c t = false := by simpa using hf
          obtain ⟨p3, hp3, ht4, hev2⟩ := ihe (c + 1) (by omega) (by omega) p1 hp1 ht1
          refine ⟨p3, hp3, ht4, ?_⟩
          obtain ⟨K2, k2⟩ := ev_get hev2
          refine ⟨K2 + 1, fun k hk => ?_⟩
          obtain ⟨k, rfl⟩ : ∃ m, k = m + 1 := ⟨k - 1, by omega⟩
          dsimp only
          rw [impl_Board_walk_1.l0, if_pos (by omega), hsk, Option.bind_some, hf', if_pos (show (!false) = true from rfl), w64 ((c : Int) + 1) (by omega) (by omega), show (c : Int) + 1 = ((c + 1 : Nat) : Int) by omega]
          refine Eq.trans ?_ (k2 k (by omega))
          congr 1
          exact tab_congr (fun k hk => by
            have : gterm l C d r t k c = 0 := by unfold gterm; rw [if_neg hf]
            rw [sumTo, this]; omega)
    -- no rook in this row
    obtain ⟨p2, hp2, ht2, hev⟩ := ih (r + 1) t (p.set r (-1)) g (by omega) ht (by rw [List.length_set]; exact hp) (by rw [cnt_set p r _ (by omega), hcnt, if_pos rfl]; omega) (fun k => by
      have h1 := hg k
      rw [hcast] at h1
      have : (0 : Int) ≤ ((7 ^ d : Nat) : Int) := by omega
      omega)
    have ht3 : p2.take r = p.take r := by
      have := congrArg (List.take r) ht2
      rw [List.take_take, List.take_take, Nat.min_eq_left (by omega), List.take_set_of_le (Nat.le_refl r)] at this
      exact this
    obtain ⟨p3, hp3, ht4, hev2⟩ := loop C 0 (by omega) (by omega) p2 hp2 ht3
    refine ⟨p3, hp3, ht4, ?_⟩
    obtain ⟨K1, k1⟩ := ev_get hev
    obtain ⟨K2, k2⟩ := ev_get hev2
    refine ⟨K1 + K2 + 2, fun k hk => ?_⟩
    obtain ⟨k, rfl⟩ : ∃ m, k = m + 2 := ⟨k - 2, by omega⟩
    dsimp only
    have hs0 : impl_Board_walk_1.skips (R : Int) (C : Int) l (r : Int) t (-1) = some false := by unfold impl_Board_walk_1.skips; rw [if_neg (by omega)]
    have hm0 : impl_Board_walk_1.more t (-1) = t := by unfold impl_Board_walk_1.more; rw [if_neg (by omega)]
    rw [impl_Board_walk_1.f, if_neg (by omega), impl_Board_walk_1.l0, if_pos (by omega), hs0, Option.bind_some, if_neg (by simp), if_pos (by omega), if_pos (by omega), hm0, Int.toNat_natCast, w64 ((r : Int) + 1) (by omega) (by omega), show (r : Int) + 1 = ((r + 1 : Nat) : Int) by omega, k1 k (by omega), Option.bind_some, w64 ((-1 : Int) + 1) (by omega) (by omega)]
    refine Eq.trans ?_ (k2 k (by omega))
    show impl_Board_walk_1.l0 k _ _ _ _ _ p2 _ (-1 + 1) = impl_Board_walk_1.l0 k _ _ _ _ _ p2 _ ((0 : Nat) : Int)
    congr 1
    exact tab_congr (fun k hk => by rw [sumTo]; omega)
end
end Go.Proofs.Ythlcaikplebpmaa.P
namespace Go.Proofs.Ythlcaikplebpmaa.P
open Go.RowKit Go.Proofs.YthlcaikplebpmaaW.PrintWords Go.Proofs.YthlcaikplebpmaaW.PrintLast Go.Proofs.YthlcaikplebpmaaW.PrintMore
set_option linter.unusedVariables false
set_option linter.unusedSimpArgs false
/-- A row of the product is added to out, from place i + k on. -/
def addR (i : Nat) (x : Int) : Nat → List Int → List Int → List Int
  | _, [], out => out
  | k, y :: ys, out => addR i x (k + 1) ys (out.set (i + k) (wrap64 (rd out ((i + k : Nat) : Int) + wrap64 (x * y))))
theorem addR_length (i : Nat) (x : Int) : ∀ ys k out, (addR i x k ys out).length = out.length
  | [], _, _ => rfl
  | y :: ys, k, out => by rw [addR, addR_length i x ys, List.length_set]
def mulR (b : List Int) : Nat → List Int → List Int → List Int
  | _, [], out => out
  | i, x :: xs, out => mulR b (i + 1) xs (addR i x 0 b out)
theorem mulR_length (b : List Int) : ∀ xs i out, (mulR b i xs out).length = out.length
  | [], _, _ => rfl
  | x :: xs, i, out => by rw [mulR, mulR_length b xs, addR_length]
theorem evb {α : Type} {g g' : Nat → Option α} {r : α} (K : Nat) (h : Ev g' r) (hs : ∀ k, K ≤ k → g (k + 1) = g' k) : Ev g r := by
  obtain ⟨K2, h2⟩ := ev_get h
  refine ⟨K + K2 + 1, fun k hk => ?_⟩
  obtain ⟨k, rfl⟩ : ∃ m, k = m + 1 := ⟨k - 1, by omega⟩
  rw [hs k (by omega)]
  exact h2 k (by omega)
theorem evz {α : Type} {g : Nat → Option α} {r : α} (hs : ∀ k, g (k + 1) = some r) : Ev g r := by
  refine ⟨1, fun k hk => ?_⟩
  obtain ⟨k, rfl⟩ : ∃ m, k = m + 1 := ⟨k - 1, by omega⟩
  exact hs k
def prodL (a b : List Int) : List Int := mulR b 0 a (List.replicate (a.length + b.length - 1) 0)
theorem prodL_length (a b : List Int) : (prodL a b).length = a.length + b.length - 1 := by unfold prodL; rw [mulR_length, List.length_replicate]
def In64 (y : Int) : Prop := -9223372036854775808 ≤ y ∧ y < 9223372036854775808
theorem wrap_in {y : Int} (h : In64 y) : wrap64 y = y := w64 y h.1 (by have := h.2; omega)
theorem addR_one : ∀ (ys pre : List Int), (∀ y ∈ ys, In64 y) → addR 0 1 pre.length ys (pre ++ List.replicate ys.length 0) = pre ++ ys
  | [], pre, _ => by simp [addR]
  | y :: ys, pre, h => by
    have hy := h y (List.mem_cons_self ..)
    have e := addR_one ys (pre ++ [y]) (fun z hz => h z (List.mem_cons_of_mem _ hz))
    rw [List.length_append, List.length_singleton] at e
    rw [addR, Nat.zero_add, List.length_cons, List.replicate_succ]
    have h1 : rd (pre ++ 0 :: List.replicate ys.length 0) (pre.length : Int) = 0 := by
      rw [rd_nat _ _ (by simp)]; simp
    have h2 : (pre ++ 0 :: List.replicate ys.length 0).set pre.length y = (pre ++ [y]) ++ List.replicate ys.length 0 := by
      rw [List.set_append_right _ _ (Nat.le_refl _), Nat.sub_self, List.set_cons_zero, List.append_assoc]; rfl
    rw [h1, Int.one_mul, wrap_in hy, Int.zero_add, wrap_in hy, h2, e, List.append_assoc]; rfl
theorem mulR_one : ∀ (xs pre : List Int), (∀ y ∈ xs, In64 y) → mulR [1] pre.length xs (pre ++ List.replicate xs.length 0) = pre ++ xs
  | [], pre, _ => by simp [mulR]
  | x :: xs, pre, h => by
    have hy := h x (List.mem_cons_self ..)
    have e := mulR_one xs (pre ++ [x]) (fun z hz => h z (List.mem_cons_of_mem _ hz))
    rw [List.length_append, List.length_singleton] at e
    simp only [mulR, addR, List.length_cons, List.replicate_succ, Nat.add_zero]
    have h1 : rd (pre ++ 0 :: List.replicate xs.length 0) (pre.length : Int) = 0 := by
      rw [rd_nat _ _ (by simp)]; simp
    have h2 : (pre ++ 0 :: List.replicate xs.length 0).set pre.length x = (pre ++ [x]) ++ List.replicate xs.length 0 := by
      rw [List.set_append_right _ _ (Nat.le_refl _), Nat.sub_self, List.set_cons_zero, List.append_assoc]; rfl
    rw [h1, Int.mul_one, wrap_in hy, Int.zero_add, wrap_in hy, h2, e, List.append_assoc]; rfl
theorem prod_one_left (n : List Int) (h : ∀ y ∈ n, In64 y) (hn : n ≠ []) : prodL [1] n = n := by
  have hl : 0 < n.length := List.length_pos_iff.2 hn
  have e := addR_one n [] h
  unfold prodL
  rw [mulR, mulR, List.length_singleton, show 1 + n.length - 1 = n.length by omega]
  simpa using e
theorem prod_one_right (n : List Int) (h : ∀ y ∈ n, In64 y) (hn : n ≠ []) : prodL n [1] = n := by
  have hl : 0 < n.length := List.length_pos_iff.2 hn
  have e := mulR_one n [] h
  unfold prodL
  rw [List.length_singleton, show n.length + 1 - 1 = n.length by omega]
  simpa using e
/-- Without zeros at the end. -/
def short (l : List Int) : Nat → List Int
  | 0 => []
  | n + 1 => if rd l (n : Int) = 0 then short l n else l.take (n + 1)
theorem short_take (l : List Int) : ∀ n, n ≤ l.length → short (l.take n) n = short l n
  | 0, _ => rfl
  | n + 1, h => by
    have e : rd (l.take (n + 1)) (n : Int) = rd l (n : Int) := by
      rw [rd_nat _ _ (by rw [List.length_take]; omega), rd_nat _ _ (by omega)]; simp
    have ih := short_take l n (by omega)
    have ih2 := short_take (l.take (n + 1)) n (by rw [List.length_take]; omega)
    rw [List.take_take, Nat.min_eq_left (by omega)] at ih2
    rw [short, short, e, ← ih2, ih, List.take_take, Nat.min_self]
end Go.Proofs.Ythlcaikplebpmaa.P
namespace Go.Proofs.Ythlcaikplebpmaa.P
open Go.RowKit Go.Proofs.YthlcaikplebpmaaW.PrintWords Go.Proofs.YthlcaikplebpmaaW.PrintLast Go.Proofs.YthlcaikplebpmaaW.PrintMore
set_option linter.unusedVariables false
set_option linter.unusedSimpArgs false
/-- The places of a colour, row by row. -/
def cellsQ (R C q : Nat) : List (Nat × Nat) := (List.range R).flatMap fun r => ((List.range C).filter fun c => (r + c) % 2 = q).map fun c => (r, c)
def upN (R C q : Nat) : List Nat := (List.range (R + C)).filter fun s => (cellsQ R C q).any fun x => x.1 + x.2 == s
def downN (R C q : Nat) : List Nat := (List.range (R + C)).filter fun s => (cellsQ R C q).any fun x => x.1 + C == s + x.2 + 1
def upL (R C q : Nat) : List Int := (upN R C q).map fun (s : Nat) => (s : Int)
def downL (R C q : Nat) : List Int := (downN R C q).map fun (s : Nat) => (s : Int)
/-- The place on two diagonals, if there is one. -/
def crossN (R C u d : Nat) : Option (Nat × Nat) := if C ≤ u + d + 1 ∧ (u + d + 1 - C) % 2 = 0 ∧ (u + d + 1 - C) / 2 < R ∧ (u + d + 1 - C) / 2 ≤ u ∧ u - (u + d + 1 - C) / 2 < C then some ((u + d + 1 - C) / 2, u - (u + d + 1 - C) / 2) else none
def idx : List Nat → Nat → Nat
  | [], _ => 0
  | x :: l, s => if x = s then 0 else idx l s + 1
/-- The cells of one row of a colour board, with their columns. -/
def rowQ (R C q i : Nat) : List ((Nat × Nat) × Nat) := ((cellsQ R C q).filter fun x => idx (upN R C q) (x.1 + x.2) == i).map fun x => (x, idx (downN R C q) (x.1 + C - 1 - x.2))
def rowX (R C q i : Nat) : List ((Nat × Nat) × Nat) := (List.range (downN R C q).length).filterMap fun k => (crossN R C ((upN R C q).getD i 0) ((downN R C q).getD k 0)).map fun x => (x, k)
theorem row_eq : ∀ R : Fin 7, ∀ C : Fin 7, ∀ q : Fin 2, ∀ i : Fin 6, i.val < (upN R.val C.val q.val).length → rowQ R.val C.val q.val i.val = rowX R.val C.val q.val i.val := by decide +kernel
theorem lines_len : ∀ R : Fin 7, ∀ C : Fin 7, ∀ q : Fin 2, (upN R.val C.val q.val).length ≤ 6 ∧ (downN R.val C.val q.val).length ≤ 6 ∧ ((upN R.val C.val q.val).length = 0 ↔ (downN R.val C.val q.val).length = 0) := by decide +kernel
theorem idx_ok : ∀ R : Fin 7, ∀ C : Fin 7, ∀ q : Fin 2, ∀ x ∈ cellsQ R.val C.val q.val, idx (upN R.val C.val q.val) (x.1 + x.2) < (upN R.val C.val q.val).length ∧ idx (downN R.val C.val q.val) (x.1 + C.val - 1 - x.2) < (downN R.val C.val q.val).length ∧ x.1 < R.val ∧ x.2 < C.val ∧ (x.1 + x.2) % 2 = q.val := by decide +kernel
/-- A mask of the columns that f holds. -/
def mk (f : Nat → Bool) : Nat → Int
  | 0 => 0
  | j + 1 => mk f j + if f j = true then ((2 ^ j : Nat) : Int) else 0
theorem mk_nat (f : Nat → Bool) : ∀ j, ∃ m : Nat, mk f j = (m : Int) ∧ m < 2 ^ j
  | 0 => ⟨0, rfl, by decide⟩
  | j + 1 => by
    obtain ⟨m, e, h⟩ := mk_nat f j
    have e2 : 2 ^ (j + 1) = 2 ^ j + 2 ^ j := by rw [Nat.pow_succ]; omega
    simp only [mk, e]
    split
    · exact ⟨m + 2 ^ j, by omega, by omega⟩
    · exact ⟨m, by omega, by omega⟩
def sumL : List Int → Int
  | [] => 0
  | x :: l => x + sumL l
theorem sumL_append : ∀ a b, sumL (a ++ b) = sumL a + sumL b
  | [], b => by simp [sumL]
  | x :: a, b => by simp only [List.cons_append, sumL, sumL_append a b]; omega
/-- Of places with columns: the bits of those that the board holds. -/
def bits (l : List Int) (xs : List ((Nat × Nat) × Nat)) : Int := sumL (xs.map fun x => if hasC l (x.1.1 : Int) (x.1.2 : Int) = true then ((2 ^ x.2 : Nat) : Int) else 0)
def crossB (R C : Nat) (l : List Int) (u d : Nat) : Bool := (crossN R C u d).any fun x => hasC l (x.1 : Int) (x.2 : Int)
theorem fm_one {α β : Type} (g : α → Option β) (a : α) : [a].filterMap g = (g a).toList := by
  rw [List.filterMap_cons]
  cases g a <;> rfl
theorem mk_bits (R C : Nat) (l : List Int) (u : Nat) (D : List Nat) : ∀ n, mk (fun k => crossB R C l u (D.getD k 0)) n = bits l ((List.range n).filterMap fun k => (crossN R C u (D.getD k 0)).map fun x => (x, k))
  | 0 => rfl
  | n + 1 => by
    rw [List.range_succ, List.filterMap_append]
    unfold bits
    rw [List.map_append, sumL_append]
    have := mk_bits R C l u D n
    unfold bits at this
    rw [← this, mk]
    congr 1
    rw [fm_one]
    unfold crossB
    rcases h : crossN R C u (D.getD n 0) with _ | x
    · rfl
    · simp only [Option.any_some, Option.map_some, Option.toList_some, List.map_cons, List.map_nil, sumL, Int.add_zero]
/-- The cells of the colour board. -/
def colL (R C q : Nat) (l : List Int) : List Int := (upN R C q).map fun u => mk (fun k => crossB R C l u ((downN R C q).getD k 0)) (downN R C q).length
theorem colL_length (R C q : Nat) (l : List Int) : (colL R C q l).length = (upN R C q).length := by simp [colL]
theorem colL_getD {R C q : Nat} (l : List Int) (hR : R ≤ 6) (hC : C ≤ 6) (hq : q ≤ 1) {i : Nat} (hi : i < (upN R C q).length) : (colL R C q l).getD i 0 = bits l (rowQ R C q i) := by
  have hl := (lines_len ⟨R, by omega⟩ ⟨C, by omega⟩ ⟨q, by omega⟩).1
  simp only at hl
  have h := row_eq ⟨R, by omega⟩ ⟨C, by omega⟩ ⟨q, by omega⟩ ⟨i, by omega⟩ hi
  simp only at h
  rw [h]
  unfold colL rowX
  rw [List.getD_eq_getElem?_getD, List.getElem?_map, List.getElem?_eq_getElem hi]
  simp only [Option.map_some, Option.getD_some]
  rw [mk_bits]
  have : (upN R C q).getD i 0 = (upN R C q)[i] := by rw [List.getD_eq_getElem?_getD, List.getElem?_eq_getElem hi, Option.getD_some]
  rw [this]
theorem colL_board {R C q : Nat} (l : List Int) (hR : R ≤ 6) (hC : C ≤ 6) (hq : q ≤ 1) (hn : (upN R C q).length ≠ 0) : boardB ((upN R C q).length : Int) ((downN R C q).length : Int) (colL R C q l) = true := by
  have hl := lines_len ⟨R, by omega⟩ ⟨C, by omega⟩ ⟨q, by omega⟩
  simp only at hl
  rw [boardB_iff]
  refine ⟨by omega, by omega, by rw [colL_length], fun m hm => ?_⟩
  unfold colL at hm
  rw [List.mem_map] at hm
  obtain ⟨u, _, rfl⟩ := hm
  obtain ⟨m, e, h⟩ := mk_nat (fun k => crossB R C l u ((downN R C q).getD k 0)) (downN R C q).length
  rw [e, Int.toNat_natCast]
  have e2 : (2 : Int) ^ (downN R C q).length = ((2 ^ (downN R C q).length : Nat) : Int) := by simp
  rw [e2]
  omega
def pairsAll (R C : Nat) : List (Nat × Nat) := (List.range R).flatMap fun r => (List.range C).map fun c => (r, c)
theorem pairs_q : ∀ R : Fin 7, ∀ C : Fin 7, ∀ q : Fin 2, (pairsAll R.val C.val).filter (fun x => decide ((x.1 + x.2) % 2 = q.val)) = cellsQ R.val C.val q.val := by decide +kernel
theorem pairs_len : ∀ R : Fin 7, ∀ C : Fin 7, (pairsAll R.val C.val).length ≤ 36 := by decide +kernel
theorem cells_pairs (R C : Nat) (l : List Int) : cells (R : Int) (C : Int) l = ((pairsAll R C).filter fun x => hasC l (x.1 : Int) (x.2 : Int)).map fun x => [(x.1 : Int), (x.2 : Int)] := by
  unfold cells cellsFrom pairsAll cellRow
  simp only [Int.toNat_natCast, Nat.sub_zero, List.range_eq_range']
  rw [List.filter_flatMap, List.map_flatMap]
  congr 1
  funext r
  generalize List.range' 0 C = cs
  induction cs with
  | nil => rfl
  | cons c cs ih =>
    rw [List.flatMap_cons, List.map_cons, ih, List.filter_cons]
    by_cases h : hasC l (r : Int) (c : Int) = true
    · rw [if_pos h, if_pos h]; rfl
    · rw [if_neg h, if_neg h]; rfl
def stepQ (R C q : Nat) (L : List Int) (x : Nat × Nat) : List Int := if (x.1 + x.2) % 2 = q then L.set (idx (upN R C q) (x.1 + x.2)) (L.getD (idx (upN R C q) (x.1 + x.2)) 0 + ((2 ^ idx (downN R C q) (x.1 + C - 1 - x.2) : Nat) : Int)) else L
theorem stepQ_length (R C q : Nat) (L : List Int) (x : Nat × Nat) : (stepQ R C q L x).length = L.length := by unfold stepQ; split <;> simp
theorem foldQ_length (R C q : Nat) : ∀ (xs : List (Nat × Nat)) (L : List Int), (xs.foldl (stepQ R C q) L).length = L.length
  | [], L => rfl
  | x :: xs, L => by rw [List.foldl_cons, foldQ_length R C q xs, stepQ_length]
theorem stepQ_getD (R C q : Nat) (L : List Int) (x : Nat × Nat) (i : Nat) (hi : i < L.length) : (stepQ R C q L x).getD i 0 = L.getD i 0 + if (x.1 + x.2) % 2 = q ∧ idx (upN R C q) (x.1 + x.2) = i then ((2 ^ idx (downN R C q) (x.1 + C - 1 - x.2) : Nat) : Int) else 0 := by
  unfold stepQ
  by_cases h1 : (x.1 + x.2) % 2 = q
  · rw [if_pos h1]
    by_cases h2 : idx (upN R C q) (x.1 + x.2) = i
    · rw [if_pos ⟨h1, h2⟩, h2]
      simp [List.getD_eq_getElem?_getD, List.getElem?_set, hi]
    · rw [if_neg (fun h => h2 h.2)]
      simp [List.getD_eq_getElem?_getD, List.getElem?_set, h2]
  · rw [if_neg h1, if_neg (fun h => h1 h.1)]; omega
theorem fold_bits (R C q : Nat) (l : List Int) (i : Nat) : ∀ (ps : List (Nat × Nat)) (L : List Int), i < L.length → ((ps.filter fun x => hasC l (x.1 : Int) (x.2 : Int)).foldl (stepQ R C q) L).getD i 0 = L.getD i 0 + bits l (((ps.filter fun x => decide ((x.1 + x.2) % 2 = q)).filter fun x => idx (upN R C q) (x.1 + x.2) == i).map fun x => (x, idx (downN R C q) (x.1 + C - 1 - x.2)))
  | [], L, hi => by simp [bits, sumL]
  | x :: ps, L, hi => by
    have hl := stepQ_length R C q L x
    have hs := stepQ_getD R C q L x i hi
    have ih1 := fold_bits R C q l i ps L hi
    have ih2 := fold_bits R C q l i ps (stepQ R C q L x) (by omega)
    rw [List.filter_cons]
    by_cases h1 : hasC l (x.1 : Int) (x.2 : Int) = true
    · rw [if_pos h1, List.foldl_cons, ih2, hs, List.filter_cons]
      by_cases h2 : (x.1 + x.2) % 2 = q
      · rw [if_pos (decide_eq_true h2), List.filter_cons]
        by_cases h3 : idx (upN R C q) (x.1 + x.2) = i
        · rw [if_pos ⟨h2, h3⟩, if_pos (beq_iff_eq.2 h3), List.map_cons]
          unfold bits
          rw [List.map_cons, sumL, if_pos h1]
          dsimp only
          omega
        · rw [if_neg (fun h => h3 h.2), if_neg (fun h => h3 (beq_iff_eq.1 h))]; omega
      · rw [if_neg (fun h => h2 h.1), if_neg (fun h => h2 (of_decide_eq_true h))]; omega
    · rw [if_neg h1, ih1, List.filter_cons]
      by_cases h2 : (x.1 + x.2) % 2 = q
      · rw [if_pos (decide_eq_true h2), List.filter_cons]
        by_cases h3 : idx (upN R C q) (x.1 + x.2) = i
        · rw [if_pos (beq_iff_eq.2 h3), List.map_cons]
          unfold bits
          rw [List.map_cons, sumL, if_neg h1]
          omega
        · rw [if_neg (fun h => h3 (beq_iff_eq.1 h))]
      · rw [if_neg (fun h => h2 (of_decide_eq_true h))]
/-- Cell by cell comes to the same as line by line. -/
theorem fold_colL {R C q : Nat} (l : List Int) (hR : R ≤ 6) (hC : C ≤ 6) (hq : q ≤ 1) : ((pairsAll R C).filter fun x => hasC l (x.1 : Int) (x.2 : Int)).foldl (stepQ R C q) (List.replicate (upN R C q).length 0) = colL R C q l := by
  have hlen := foldQ_length R C q ((pairsAll R C).filter fun x => hasC l (x.1 : Int) (x.2 : Int)) (List.replicate (upN R C q).length 0)
  rw [List.length_replicate] at hlen
  refine List.ext_getElem (by rw [hlen, colL_length]) (fun i h1 h2 => ?_)
  have hi : i < (upN R C q).length := by omega
  have a := fold_bits R C q l i (pairsAll R C) (List.replicate (upN R C q).length 0) (by simpa using hi)
  have b := colL_getD l hR hC hq hi
  have p := pairs_q ⟨R, by omega⟩ ⟨C, by omega⟩ ⟨q, by omega⟩
  simp only at p
  rw [p] at a
  have c0 : (List.replicate (upN R C q).length (0 : Int)).getD i 0 = 0 := by simp [List.getD_eq_getElem?_getD, hi]
  rw [c0, Int.zero_add] at a
  unfold rowQ at b
  rw [← b] at a
  simpa [List.getD_eq_getElem?_getD, List.getElem?_eq_getElem h1, List.getElem?_eq_getElem h2] using a
end Go.Proofs.Ythlcaikplebpmaa.P
namespace Go.Proofs.Ythlcaikplebpmaa.P
open Go.RowKit Go.Proofs.YthlcaikplebpmaaW.PrintWords Go.Proofs.YthlcaikplebpmaaW.PrintLast Go.Proofs.YthlcaikplebpmaaW.PrintMore
set_option linter.unusedVariables false
set_option linter.unusedSimpArgs false
theorem diag_l (l : List Int) : ∀ k, (∀ q u d n i R C, impl_Board_diagonals.l0 k q u d n i R C l = impl_Board_diagonals.l0 k q u d n i R C []) ∧ (∀ q u d b n i m j R C, impl_Board_diagonals.l1 k q u d b n i m j R C l = impl_Board_diagonals.l1 k q u d b n i m j R C []) := by
  intro k
  induction k with
  | zero => exact ⟨fun _ _ _ _ _ _ _ => rfl, fun _ _ _ _ _ _ _ _ _ _ => rfl⟩
  | succ k ih =>
    refine ⟨fun q u d n i R C => ?_, fun q u d b n i m j R C => ?_⟩
    · unfold impl_Board_diagonals.l0
      rw [ih.2]
    · unfold impl_Board_diagonals.l1
      simp only [fun q u d b n i m j R C => ih.2 q u d b n i m j R C, fun q u d n i R C => ih.1 q u d n i R C]
theorem diag_ok : ∀ R : Fin 7, ∀ C : Fin 7, ∀ q : Fin 2, impl_Board_diagonals.f 60 (R.val : Int) (C.val : Int) [] (q.val : Int) = some (upL R.val C.val q.val, downL R.val C.val q.val) := by decide +kernel
theorem diag_ev (R C q : Nat) (hR : R ≤ 6) (hC : C ≤ 6) (hq : q ≤ 1) (l : List Int) : Ev (fun k => impl_Board_diagonals.f k (R : Int) (C : Int) l (q : Int)) (upL R C q, downL R C q) := by
  refine Ev.of (impl_Board_diagonals.mono _ _ _ _) (k := 60) ?_
  have h := diag_ok ⟨R, by omega⟩ ⟨C, by omega⟩ ⟨q, by omega⟩
  simp only at h
  rw [← h]
  exact (diag_l l 60).1 _ _ _ _ _ _ _
theorem lines_l (l : List Int) : ∀ k, (∀ q u d i R C, spec_biLines.l0 k q u d i R C l = spec_biLines.l0 k q u d i R C []) ∧ (∀ q u d i j R C, spec_biLines.l1 k q u d i j R C l = spec_biLines.l1 k q u d i j R C []) := by
  intro k
  induction k with
  | zero => exact ⟨fun _ _ _ _ _ _ => rfl, fun _ _ _ _ _ _ _ => rfl⟩
  | succ k ih =>
    refine ⟨fun q u d i R C => ?_, fun q u d i j R C => ?_⟩
    · unfold spec_biLines.l0
      rw [ih.2]
    · unfold spec_biLines.l1
      simp only [spec_biDiagonals.f, fun q u d i j R C => ih.2 q u d i j R C, fun q u d i R C => ih.1 q u d i R C]
theorem lines_ok : ∀ R : Fin 7, ∀ C : Fin 7, ∀ q : Fin 2, spec_biLines.f 60 (R.val : Int) (C.val : Int) [] (q.val : Int) = some (upL R.val C.val q.val, downL R.val C.val q.val) := by decide +kernel
theorem lines_ev (R C q : Nat) (hR : R ≤ 6) (hC : C ≤ 6) (hq : q ≤ 1) (l : List Int) : Ev (fun k => spec_biLines.f k (R : Int) (C : Int) l (q : Int)) (upL R C q, downL R C q) := by
  refine Ev.of (spec_biLines.mono _ _ _ _) (k := 60) ?_
  have h := lines_ok ⟨R, by omega⟩ ⟨C, by omega⟩ ⟨q, by omega⟩
  simp only at h
  rw [← h]
  exact (lines_l l 60).1 _ _ _ _ _ _
theorem upL_length (R C q : Nat) : (upL R C q).length = (upN R C q).length := by simp [upL]
theorem downL_length (R C q : Nat) : (downL R C q).length = (downN R C q).length := by simp [downL]
theorem upN_small : ∀ R : Fin 7, ∀ C : Fin 7, ∀ q : Fin 2, (∀ x ∈ upN R.val C.val q.val, x < 12) ∧ (∀ x ∈ downN R.val C.val q.val, x < 12) := by decide +kernel
theorem up_at {R C q : Nat} (hR : R ≤ 6) (hC : C ≤ 6) (hq : q ≤ 1) {i : Nat} (hi : i < (upN R C q).length) : rd (upL R C q) (i : Int) = ((upN R C q).getD i 0 : Nat) ∧ (upN R C q).getD i 0 < 12 := by
  have h := (upN_small ⟨R, by omega⟩ ⟨C, by omega⟩ ⟨q, by omega⟩).1 _ (List.getElem_mem hi)
  refine ⟨?_, by rw [List.getD_eq_getElem?_getD, List.getElem?_eq_getElem hi]; exact h⟩
  rw [rd_nat _ _ (by rw [upL_length]; exact hi)]
  simp [upL, hi, List.getD_eq_getElem?_getD]
theorem down_at {R C q : Nat} (hR : R ≤ 6) (hC : C ≤ 6) (hq : q ≤ 1) {i : Nat} (hi : i < (downN R C q).length) : rd (downL R C q) (i : Int) = ((downN R C q).getD i 0 : Nat) ∧ (downN R C q).getD i 0 < 12 := by
  have h := (upN_small ⟨R, by omega⟩ ⟨C, by omega⟩ ⟨q, by omega⟩).2 _ (List.getElem_mem hi)
  refine ⟨?_, by rw [List.getD_eq_getElem?_getD, List.getElem?_eq_getElem hi]; exact h⟩
  rw [rd_nat _ _ (by rw [downL_length]; exact hi)]
  simp [downL, hi, List.getD_eq_getElem?_getD]
def crossV (R C u d : Nat) : Int × Int × Bool := (impl_Board_crossing.f (R : Int) (C : Int) [] (u : Int) (d : Int)).getD (0, 0, false)
theorem cross_ok : ∀ R : Fin 7, ∀ C : Fin 7, ∀ u : Fin 12, ∀ d : Fin 12, impl_Board_crossing.f (R.val : Int) (C.val : Int) [] (u.val : Int) (d.val : Int) = some (crossV R.val C.val u.val d.val) ∧ crossN R.val C.val u.val d.val = (if (crossV R.val C.val u.val d.val).2.2 = true then some ((crossV R.val C.val u.val d.val).1.toNat, (crossV R.val C.val u.val d.val).2.1.toNat) else none) ∧ ((crossV R.val C.val u.val d.val).2.2 = true → (0 ≤ (crossV R.val C.val u.val d.val).1 ∧ (crossV R.val C.val u.val d.val).1 < R.val) ∧ (0 ≤ (crossV R.val C.val u.val d.val).2.1 ∧ (crossV R.val C.val u.val d.val).2.1 < C.val)) := by decide +kernel
theorem cross_eq {R C u d : Nat} (hR : R ≤ 6) (hC : C ≤ 6) (hu : u < 12) (hd : d < 12) (l : List Int) : impl_Board_crossing.f (R : Int) (C : Int) l (u : Int) (d : Int) = some (crossV R C u d) := (cross_ok ⟨R, by omega⟩ ⟨C, by omega⟩ ⟨u, hu⟩ ⟨d, hd⟩).1
end Go.Proofs.Ythlcaikplebpmaa.P
namespace Go.Proofs.Ythlcaikplebpmaa.P
open Go.RowKit Go.Proofs.YthlcaikplebpmaaW.PrintWords Go.Proofs.YthlcaikplebpmaaW.PrintLast Go.Proofs.YthlcaikplebpmaaW.PrintMore
set_option linter.unusedVariables false
set_option linter.unusedSimpArgs false
theorem or_add' : ∀ r : Fin 6, ∀ m : Fin 64, m.val < 2 ^ r.val → Go.bits .or .i64 (m.val : Int) (shl .i64 1 (r.val : Int)) = ((m.val + 2 ^ r.val : Nat) : Int) := by decide +kernel
theorem mk_or (f : Nat → Bool) (j : Nat) (hj : j < 6) (h : f j = true) : Go.bits .or .i64 (mk f j) (shl .i64 1 (j : Int)) = mk f (j + 1) := by
  obtain ⟨m, e, hm⟩ := mk_nat f j
  have h64 : 2 ^ j ≤ 2 ^ 5 := Nat.pow_le_pow_right (by omega) (by omega)
  have := or_add' ⟨j, hj⟩ ⟨m, by omega⟩ hm
  simp only at this
  rw [mk, if_pos h, e, this]
  omega
theorem mk_same (f : Nat → Bool) (j : Nat) (h : f j = false) : mk f (j + 1) = mk f j := by
  rw [mk, if_neg (by simp [h])]; omega
theorem rd_set_same (L : List Int) (i : Nat) (v : Int) (h : i < L.length) : rd (L.set i v) (i : Int) = v := by
  rw [rd_nat _ _ (by simpa using h)]; simp
theorem col_in {R C q : Nat} {l : List Int} (h : boardB (R : Int) (C : Int) l = true) (hR : R ≤ 6) (hC : C ≤ 6) (hq : q ≤ 1) (n R' C' : Int) (i : Nat) (hi : i < (upN R C q).length) (L : List Int) (hL : L.length = (upN R C q).length) (res : Int × Int × List Int × Bool)
    (hn : Ev (fun k => impl_Board_coloured.l0 k (downL R C q) (upL R C q) n ((i + 1 : Nat) : Int) (R : Int) (C : Int) l R' C' (L.set i (mk (fun k => crossB R C l ((upN R C q).getD i 0) ((downN R C q).getD k 0)) (downN R C q).length))) res) :
    ∀ (d j : Nat), (downN R C q).length - j = d → j ≤ (downN R C q).length →
    Ev (fun k => impl_Board_coloured.l1 k (downL R C q) (i : Int) (((upN R C q).getD i 0 : Nat) : Int) (upL R C q) n (i : Int) (downL R C q) ((downN R C q).length : Int) (j : Int) (R : Int) (C : Int) l R' C' (L.set i (mk (fun k => crossB R C l ((upN R C q).getD i 0) ((downN R C q).getD k 0)) j))) res := by
  have hlen := lines_len ⟨R, by omega⟩ ⟨C, by omega⟩ ⟨q, by omega⟩
  simp only at hlen
  obtain ⟨hu1, hu2⟩ := up_at hR hC hq hi
  have hb := (boardB_iff _ _ _).1 h
  intro d
  induction d with
  | zero =>
    intro j hd hj
    have : j = (downN R C q).length := by omega
    subst this
    obtain ⟨K, hK⟩ := ev_get hn
    refine ⟨K + 1, fun k hk => ?_⟩
    obtain ⟨k, rfl⟩ : ∃ m, k = m + 1 := ⟨k - 1, by omega⟩
    have e := hK k (by omega)
    rw [show ((i + 1 : Nat) : Int) = (i : Int) + 1 by omega] at e
    dsimp only
    rw [impl_Board_coloured.l1, if_neg (by omega), w64 _ (by omega) (by omega)]
    exact e
  | succ d ih =>
    intro j hd hj
    have hj2 : j < (downN R C q).length := by omega
    obtain ⟨hd1, hd2⟩ := down_at hR hC hq hj2
    obtain ⟨K, hK⟩ := ev_get (ih (j + 1) (by omega) (by omega))
    refine ⟨K + 1, fun k hk => ?_⟩
    obtain ⟨k, rfl⟩ : ∃ m, k = m + 1 := ⟨k - 1, by omega⟩
    have e := hK k (by omega)
    rw [show ((j + 1 : Nat) : Int) = (j : Int) + 1 by omega] at e
    have hc := cross_eq hR hC hu2 hd2 l
    have ho := cross_ok ⟨R, by omega⟩ ⟨C, by omega⟩ ⟨_, hu2⟩ ⟨_, hd2⟩
    simp only at ho
    obtain ⟨_, ho1, ho2⟩ := ho
    dsimp only
    rw [impl_Board_coloured.l1, if_pos (by omega), if_pos (by omega), if_pos (by rw [downL_length]; omega), hd1, hc, Option.bind_some]
    rw [w64 ((j : Int) + 1) (by omega) (by omega)]
    cases ht : (crossV R C ((upN R C q).getD i 0) ((downN R C q).getD j 0)).2.2 with
    | false =>
      rw [ht] at ho1
      rw [if_neg (by simp)]
      rw [mk_same _ _ (by show crossB R C l _ _ = false; simp only [crossB, ho1]; rfl)] at e
      exact e
    | true =>
      rw [ht] at ho1 ho2
      obtain ⟨hx, hy⟩ := ho2 rfl
      rw [if_pos rfl, has_eq h hx.1 hx.2 hy.1 hy.2, Option.bind_some]
      have hcb : crossB R C l ((upN R C q).getD i 0) ((downN R C q).getD j 0) = hasC l (crossV R C ((upN R C q).getD i 0) ((downN R C q).getD j 0)).1 (crossV R C ((upN R C q).getD i 0) ((downN R C q).getD j 0)).2.1 := by
        simp only [crossB, ho1, if_true, Option.any_some]
        rw [Int.toNat_of_nonneg hx.1, Int.toNat_of_nonneg hy.1]
      by_cases hh : hasC l (crossV R C ((upN R C q).getD i 0) ((downN R C q).getD j 0)).1 (crossV R C ((upN R C q).getD i 0) ((downN R C q).getD j 0)).2.1 = true
      · rw [if_pos hh, if_pos (by omega), if_pos (by rw [List.length_set]; omega), rd_set_same _ _ _ (by omega), Int.toNat_natCast, List.set_set, mk_or _ _ (by omega) (by show crossB R C l _ _ = true; rw [hcb]; exact hh)]
        exact e
      · rw [if_neg hh]
        rw [mk_same _ _ (by show crossB R C l _ _ = false; rw [hcb]; simpa using hh)] at e
        exact e
theorem col_out {R C q : Nat} {l : List Int} (h : boardB (R : Int) (C : Int) l = true) (hR : R ≤ 6) (hC : C ≤ 6) (hq : q ≤ 1) (R' C' : Int) : ∀ (d i : Nat), (upN R C q).length - i = d → i ≤ (upN R C q).length →
    Ev (fun k => impl_Board_coloured.l0 k (downL R C q) (upL R C q) ((upN R C q).length : Int) (i : Int) (R : Int) (C : Int) l R' C' ((colL R C q l).take i ++ List.replicate ((upN R C q).length - i) 0)) (R', C', colL R C q l, true) := by
  have hlen := lines_len ⟨R, by omega⟩ ⟨C, by omega⟩ ⟨q, by omega⟩
  simp only at hlen
  intro d
  induction d with
  | zero =>
    intro i hd hi
    have : i = (upN R C q).length := by omega
    subst this
    refine ⟨1, fun k hk => ?_⟩
    obtain ⟨k, rfl⟩ : ∃ m, k = m + 1 := ⟨k - 1, by omega⟩
    dsimp only
    rw [impl_Board_coloured.l0, if_neg (by omega), Nat.sub_self, List.replicate_zero, List.append_nil, List.take_of_length_le (by rw [colL_length]; omega)]
  | succ d ih =>
    intro i hd hi
    have hi2 : i < (upN R C q).length := by omega
    obtain ⟨hu1, hu2⟩ := up_at hR hC hq hi2
    have hcl := colL_length R C q l
    have hLl : ((colL R C q l).take i ++ List.replicate ((upN R C q).length - i) (0 : Int)).length = (upN R C q).length := by simp [hcl]; omega
    have hrep : List.replicate ((upN R C q).length - i) (0 : Int) = 0 :: List.replicate ((upN R C q).length - (i + 1)) 0 := by
      rw [show (upN R C q).length - i = (upN R C q).length - (i + 1) + 1 by omega, List.replicate_succ]
    have htl : ((colL R C q l).take i).length = i := by rw [List.length_take, hcl]; omega
    have hset : ∀ v : Int, ((colL R C q l).take i ++ List.replicate ((upN R C q).length - i) (0 : Int)).set i v = (colL R C q l).take i ++ v :: List.replicate ((upN R C q).length - (i + 1)) 0 := by
      intro v
      rw [hrep, List.set_append_right _ _ (by omega), htl, Nat.sub_self, List.set_cons_zero]
    have hnext : (colL R C q l).take (i + 1) ++ List.replicate ((upN R C q).length - (i + 1)) 0 = ((colL R C q l).take i ++ List.replicate ((upN R C q).length - i) (0 : Int)).set i (mk (fun k => crossB R C l ((upN R C q).getD i 0) ((downN R C q).getD k 0)) (downN R C q).length) := by
      rw [hset, List.take_succ_eq_append_getElem (by omega), List.append_assoc]
      congr 1
      simp only [List.singleton_append, colL, List.getElem_map, List.getD_eq_getElem?_getD, List.getElem?_eq_getElem hi2, Option.getD_some]
    have hih := ih (i + 1) (by omega) (by omega)
    rw [hnext] at hih
    have hin := col_in h hR hC hq ((upN R C q).length : Int) R' C' i hi2 _ hLl _ hih (downN R C q).length 0 (by omega) (by omega)
    have h0 : ((colL R C q l).take i ++ List.replicate ((upN R C q).length - i) (0 : Int)).set i (mk (fun k => crossB R C l ((upN R C q).getD i 0) ((downN R C q).getD k 0)) 0) = (colL R C q l).take i ++ List.replicate ((upN R C q).length - i) (0 : Int) := by
      rw [hset, hrep]; rfl
    rw [h0] at hin
    obtain ⟨K, hK⟩ := ev_get hin
    refine ⟨K + 1, fun k hk => ?_⟩
    obtain ⟨k, rfl⟩ : ∃ m, k = m + 1 := ⟨k - 1, by omega⟩
    dsimp only
    rw [impl_Board_coloured.l0, if_pos (by omega), if_pos (by omega), if_pos (by rw [upL_length]; omega), hu1, downL_length]
    exact hK k (by omega)
def colR (R C q : Nat) (l : List Int) : Int × Int × List Int × Bool := if (upN R C q).length = 0 then (0, 0, [], false) else (((upN R C q).length : Int), ((downN R C q).length : Int), colL R C q l, true)
theorem coloured_ev {R C q : Nat} {l : List Int} (h : boardB (R : Int) (C : Int) l = true) (hR : R ≤ 6) (hC : C ≤ 6) (hq : q ≤ 1) : Ev (fun k => impl_Board_coloured.f k (R : Int) (C : Int) l (q : Int)) (colR R C q l) := by
  have hlen := lines_len ⟨R, by omega⟩ ⟨C, by omega⟩ ⟨q, by omega⟩
  simp only at hlen
  obtain ⟨K1, h1⟩ := ev_get (diag_ev R C q hR hC hq l)
  obtain ⟨K2, h2⟩ := ev_get (col_out h hR hC hq ((upN R C q).length : Int) ((downN R C q).length : Int) (upN R C q).length 0 (by omega) (by omega))
  unfold colR
  by_cases h0 : (upN R C q).length = 0
  · rw [if_pos h0]
    refine ⟨K1, fun k hk => ?_⟩
    simp only [impl_Board_coloured.f, h1 k (by omega), Option.bind_some, upL_length, h0]
    rfl
  · rw [if_neg h0]
    refine ⟨K1 + K2, fun k hk => ?_⟩
    have e := h2 k (by omega)
    simp only [impl_Board_coloured.f, h1 k (by omega), Option.bind_some, upL_length, downL_length, impl_newBoard.f]
    rw [if_neg (by omega), if_pos (by omega), if_pos (by omega)]
    simp only [Option.bind_some, Int.toNat_natCast]
    simpa using e
end Go.Proofs.Ythlcaikplebpmaa.P
namespace Go.Proofs.Ythlcaikplebpmaa.P
open Go.RowKit Go.Proofs.YthlcaikplebpmaaW.PrintWords Go.Proofs.YthlcaikplebpmaaW.PrintLast Go.Proofs.YthlcaikplebpmaaW.PrintMore
set_option linter.unusedVariables false
set_option linter.unusedSimpArgs false
theorem mem_cellsQ {R C q : Nat} {x : Nat × Nat} (h1 : x.1 < R) (h2 : x.2 < C) (h3 : (x.1 + x.2) % 2 = q) : x ∈ cellsQ R C q := by
  unfold cellsQ
  rw [List.mem_flatMap]
  exact ⟨x.1, List.mem_range.2 h1, List.mem_map.2 ⟨x.2, List.mem_filter.2 ⟨List.mem_range.2 h2, by simpa using h3⟩, rfl⟩⟩
theorem parity (r c q : Nat) (hr : r ≤ 6) (hc : c ≤ 6) : Int.tmod (wrap64 ((r : Int) + (c : Int))) 2 = (q : Int) ↔ (r + c) % 2 = q := by
  rw [w64 _ (by omega) (by omega), Int.tmod_eq_emod_of_nonneg (by omega)]
  omega
theorem biPlace_l0 (L : List Nat) (s : Nat) (hs : L.length ≤ 100) : ∀ (d i : Nat), L.length - i = d → i + idx (L.drop i) s < L.length →
    Ev (fun k => spec_biPlace.l0 k (s : Int) (L.map fun (z : Nat) => (z : Int)) (L.length : Int) (i : Int)) ((i + idx (L.drop i) s : Nat) : Int) := by
  intro d
  induction d with
  | zero => intro i hd hi; omega
  | succ d ih =>
    intro i hd hi
    have hi2 : i < L.length := by omega
    have hdr : L.drop i = L[i] :: L.drop (i + 1) := List.drop_eq_getElem_cons hi2
    have hrd : rd (L.map fun (z : Nat) => (z : Int)) (i : Int) = (L[i] : Int) := by rw [rd_nat _ _ (by simpa using hi2)]; simp
    rw [hdr, idx] at hi ⊢
    by_cases h : L[i] = s
    · rw [if_pos h]
      refine ⟨1, fun k hk => ?_⟩
      obtain ⟨k, rfl⟩ : ∃ m, k = m + 1 := ⟨k - 1, by omega⟩
      dsimp only
      rw [spec_biPlace.l0, if_pos (by omega), if_pos (by omega), if_pos (by simpa using hi2), hrd, if_pos (by omega)]; rfl
    · rw [if_neg h] at hi ⊢
      obtain ⟨K, hK⟩ := ev_get (ih (i + 1) (by omega) (by omega))
      refine ⟨K + 1, fun k hk => ?_⟩
      obtain ⟨k, rfl⟩ : ∃ m, k = m + 1 := ⟨k - 1, by omega⟩
      dsimp only
      rw [spec_biPlace.l0, if_pos (by omega), if_pos (by omega), if_pos (by simpa using hi2), hrd, if_neg (by omega), w64 _ (by omega) (by omega), show (i : Int) + 1 = ((i + 1 : Nat) : Int) by omega, hK k (by omega)]
      congr 2
      omega
theorem biPlace_ev (L : List Nat) (s : Nat) (hs : L.length ≤ 100) (h : idx L s < L.length) : Ev (fun k => spec_biPlace.f k (L.map fun (z : Nat) => (z : Int)) (s : Int)) (idx L s : Int) := by
  obtain ⟨K, hK⟩ := ev_get (biPlace_l0 L s hs L.length 0 (by omega) (by simpa using h))
  refine ⟨K, fun k hk => ?_⟩
  have := hK k hk
  simpa [spec_biPlace.f] using this
def pairL (ps : List (Nat × Nat)) : List (List Int) := ps.map fun x => [(x.1 : Int), (x.2 : Int)]
theorem pairL_at (ps : List (Nat × Nat)) (i : Nat) (h : i < ps.length) : rd_L1 (pairL ps) (i : Int) = [(ps[i].1 : Int), (ps[i].2 : Int)] := by
  rw [rdL_nat _ _ (by simpa [pairL] using h)]; simp [pairL]
theorem biBoard_end (k : Nat) (x1 : Int) (x5 x6 : List Int) (x24 : List (List Int)) (x25 x26 a b : Int) (l : List Int) (c d : Int) (out : List Int) (h : ¬ x26 < x25) : spec_biBoard.l0 (k + 1) x1 x5 x6 x24 x25 x26 a b l c d out = some (c, d, out) := by
  rw [spec_biBoard.l0, if_neg h]
theorem biBoard_other (k : Nat) (x1 : Int) (x5 x6 : List Int) (x24 : List (List Int)) (x25 x26 a b : Int) (l : List Int) (c d : Int) (out : List Int) (u v : Int) (h1 : x26 < x25) (h2 : 0 ≤ x26) (h3 : x26 < (x24.length : Int)) (hrow : rd_L1 x24 x26 = [u, v]) (hp : ¬ Int.tmod (wrap64 (u + v)) 2 = x1) :
    spec_biBoard.l0 (k + 1) x1 x5 x6 x24 x25 x26 a b l c d out = spec_biBoard.l0 k x1 x5 x6 x24 x25 (wrap64 (x26 + 1)) a b l c d out := by
  rw [spec_biBoard.l0, if_pos h1, if_pos h2, if_pos h3, hrow, if_pos (by simp), if_pos (by simp), rd0, rd1, if_neg hp]
theorem biBoard_step (k : Nat) (x1 : Int) (x5 x6 : List Int) (x24 : List (List Int)) (x25 x26 a b : Int) (l : List Int) (c d : Int) (out : List Int) (u v e f t s : Int) (h1 : x26 < x25) (h2 : 0 ≤ x26) (h3 : x26 < (x24.length : Int)) (hrow : rd_L1 x24 x26 = [u, v]) (hp : Int.tmod (wrap64 (u + v)) 2 = x1) (hd : spec_biDiagonals.f a b l u v = some (e, f)) (f1 : spec_biPlace.f k x5 e = some t) (ht0 : 0 ≤ t) (ht1 : t < (out.length : Int)) (f2 : spec_biPlace.f k x6 f = some s) (hs : 0 ≤ s) :
    spec_biBoard.l0 (k + 1) x1 x5 x6 x24 x25 x26 a b l c d out = spec_biBoard.l0 k x1 x5 x6 x24 x25 (wrap64 (x26 + 1)) a b l c d (out.set t.toNat (wrap64 (rd out t + shl .i64 1 s))) := by
  rw [spec_biBoard.l0, if_pos h1, if_pos h2, if_pos h3, hrow, if_pos (by simp), if_pos (by simp), rd0, rd1, if_pos hp, hd, Option.bind_some, f1, Option.bind_some, if_pos ht0, if_pos ht1, f2, Option.bind_some, if_pos hs]
/-- What one place adds. -/
theorem stepQ_at {R C q : Nat} (hR : R ≤ 6) (hC : C ≤ 6) (hq : q ≤ 1) {r c i : Nat} {out : List Int} (hx : r < R ∧ c < C) (hp : (r + c) % 2 = q) (ho : out.length = (upN R C q).length) (hi : i ≤ 36) (hb : ∀ j, j < out.length → 0 ≤ out.getD j 0 ∧ out.getD j 0 ≤ 64 * (i : Int)) :
    (idx (upN R C q) (r + c) < (upN R C q).length ∧ idx (downN R C q) (r + C - 1 - c) < (downN R C q).length) ∧ stepQ R C q out (r, c) = out.set ((idx (upN R C q) (r + c) : Nat) : Int).toNat (wrap64 (rd out ((idx (upN R C q) (r + c) : Nat) : Int) + shl .i64 1 ((idx (downN R C q) (r + C - 1 - c) : Nat) : Int))) ∧ (∀ j, j < (stepQ R C q out (r, c)).length → 0 ≤ (stepQ R C q out (r, c)).getD j 0 ∧ (stepQ R C q out (r, c)).getD j 0 ≤ 64 * ((i + 1 : Nat) : Int)) := by
  have hlen := lines_len ⟨R, by omega⟩ ⟨C, by omega⟩ ⟨q, by omega⟩
  simp only at hlen
  have hok := idx_ok ⟨R, by omega⟩ ⟨C, by omega⟩ ⟨q, by omega⟩ (r, c) (mem_cellsQ hx.1 hx.2 hp)
  simp only at hok
  obtain ⟨h1, h2, _⟩ := hok
  have hpw : 2 ^ idx (downN R C q) (r + C - 1 - c) ≤ 2 ^ 5 := Nat.pow_le_pow_right (by omega) (by omega)
  have hz : (0 : Int) ≤ ((2 ^ idx (downN R C q) (r + C - 1 - c) : Nat) : Int) ∧ ((2 ^ idx (downN R C q) (r + C - 1 - c) : Nat) : Int) ≤ 32 := ⟨Int.natCast_nonneg _, by exact_mod_cast hpw⟩
  refine ⟨⟨h1, h2⟩, ?_, fun j hj => ?_⟩
  · have hrd : rd out ((idx (upN R C q) (r + c) : Nat) : Int) = out.getD (idx (upN R C q) (r + c)) 0 := by
      rw [rd_nat _ _ (by omega)]; simp [List.getD_eq_getElem?_getD, List.getElem?_eq_getElem (show idx (upN R C q) (r + c) < out.length by omega)]
    have hbd := hb (idx (upN R C q) (r + c)) (by omega)
    have hsh : shl .i64 1 ((idx (downN R C q) (r + C - 1 - c) : Nat) : Int) = ((2 ^ idx (downN R C q) (r + C - 1 - c) : Nat) : Int) := by
      rw [shl_one _ (by omega) (by omega), Int.toNat_natCast]; simp
    unfold stepQ
    rw [if_pos hp, hrd, hsh, Int.toNat_natCast]
    show out.set (idx (upN R C q) (r + c)) (out.getD (idx (upN R C q) (r + c)) 0 + ((2 ^ idx (downN R C q) (r + C - 1 - c) : Nat) : Int)) = _
    generalize ((2 ^ idx (downN R C q) (r + C - 1 - c) : Nat) : Int) = z at hz ⊢
    rw [w64 _ (by omega) (by omega)]
  · rw [stepQ_length] at hj
    rw [stepQ_getD R C q out (r, c) j hj]
    have := hb j hj
    by_cases hh : (r + c) % 2 = q ∧ idx (upN R C q) (r + c) = j
    · rw [if_pos hh]
      show 0 ≤ out.getD j 0 + ((2 ^ idx (downN R C q) (r + C - 1 - c) : Nat) : Int) ∧ out.getD j 0 + ((2 ^ idx (downN R C q) (r + C - 1 - c) : Nat) : Int) ≤ 64 * ((i + 1 : Nat) : Int)
      generalize ((2 ^ idx (downN R C q) (r + C - 1 - c) : Nat) : Int) = z at hz ⊢
      omega
    · rw [if_neg hh]
      omega
theorem bi_diag (R C r c : Nat) (l : List Int) (hR : R ≤ 6) (hC : C ≤ 6) (hr : r < R) (hc : c < C) : spec_biDiagonals.f (R : Int) (C : Int) l (r : Int) (c : Int) = some (((r + c : Nat) : Int), ((r + C - 1 - c : Nat) : Int)) := by
  unfold spec_biDiagonals.f
  rw [w64 ((r : Int) + (c : Int)) (by omega) (by omega), w64 ((r : Int) - (c : Int)) (by omega) (by omega), w64 ((r : Int) - (c : Int) + (C : Int)) (by omega) (by omega), w64 ((r : Int) - (c : Int) + (C : Int) - 1) (by omega) (by omega), show (r : Int) + (c : Int) = ((r + c : Nat) : Int) by omega, show (r : Int) - (c : Int) + (C : Int) - 1 = ((r + C - 1 - c : Nat) : Int) by omega]
theorem ev_succ {α : Type} {g g' : Nat → Option α} {r : α} (K : Nat) (h : Ev g' r) (hs : ∀ k, K ≤ k → g (k + 1) = g' k) : Ev g r := by
  obtain ⟨K2, h2⟩ := ev_get h
  refine ⟨K + K2 + 1, fun k hk => ?_⟩
  obtain ⟨k, rfl⟩ : ∃ m, k = m + 1 := ⟨k - 1, by omega⟩
  rw [hs k (by omega)]
  exact h2 k (by omega)
theorem ev_last {α : Type} {g : Nat → Option α} {r : α} (hs : ∀ k, g (k + 1) = some r) : Ev g r := by
  refine ⟨1, fun k hk => ?_⟩
  obtain ⟨k, rfl⟩ : ∃ m, k = m + 1 := ⟨k - 1, by omega⟩
  exact hs k
theorem at_more {i n : Nat} (h : i < n) (hn : n ≤ 36) : n - (i + 1) = n - i - 1 ∧ i + 1 ≤ n ∧ i ≤ 36 ∧ ((i : Int) < (n : Int) ∧ 0 ≤ (i : Int) ∧ wrap64 ((i : Int) + 1) = ((i + 1 : Nat) : Int)) := by
  refine ⟨by omega, by omega, by omega, by omega, by omega, ?_⟩
  rw [w64 _ (by omega) (by omega)]; omega
theorem up_more {out : List Int} {i : Nat} (hb : ∀ j, j < out.length → 0 ≤ out.getD j 0 ∧ out.getD j 0 ≤ 64 * (i : Int)) : ∀ j, j < out.length → 0 ≤ out.getD j 0 ∧ out.getD j 0 ≤ 64 * ((i + 1 : Nat) : Int) := fun j hj => by have := hb j hj; omega
theorem biBoard_loop {R C q : Nat} (hR : R ≤ 6) (hC : C ≤ 6) (hq : q ≤ 1) (l : List Int) (ps : List (Nat × Nat)) (hps : ∀ x ∈ ps, x.1 < R ∧ x.2 < C) (hn : ps.length ≤ 36) : ∀ (d i : Nat) (out : List Int), ps.length - i = d → i ≤ ps.length → out.length = (upN R C q).length → (∀ j, j < out.length → 0 ≤ out.getD j 0 ∧ out.getD j 0 ≤ 64 * (i : Int)) →
    Ev (fun k => spec_biBoard.l0 k (q : Int) (upL R C q) (downL R C q) (pairL ps) (ps.length : Int) (i : Int) (R : Int) (C : Int) l ((upN R C q).length : Int) ((downN R C q).length : Int) out) (((upN R C q).length : Int), ((downN R C q).length : Int), (ps.drop i).foldl (stepQ R C q) out) := by
  have hlen : (upN R C q).length ≤ 100 ∧ (downN R C q).length ≤ 100 := by
    have hlen := lines_len ⟨R, by omega⟩ ⟨C, by omega⟩ ⟨q, by omega⟩
    simp only at hlen
    exact ⟨Nat.le_trans hlen.1 (by decide), Nat.le_trans hlen.2.1 (by decide)⟩
  intro d
  induction d with
  | zero =>
    intro i out hd hi ho hb
    have hle : ps.length ≤ i := Nat.sub_eq_zero_iff_le.1 hd
    refine ev_last (fun k => ?_)
    rw [biBoard_end _ _ _ _ _ _ _ _ _ _ _ _ _ (by exact_mod_cast Nat.not_lt.2 hle), List.drop_eq_nil_of_le hle]
    rfl
  | succ d ih =>
    intro i out hd hi ho hb
    have hi2 : i < ps.length := Nat.lt_of_sub_eq_succ hd
    obtain ⟨g0, g2, g36, g4⟩ := at_more hi2 hn
    have g1 : ps.length - (i + 1) = d := by rw [g0, hd]; rfl
    have hx := hps ps[i] (List.getElem_mem hi2)
    have hdr : ps.drop i = ps[i] :: ps.drop (i + 1) := List.drop_eq_getElem_cons hi2
    have hrow := pairL_at ps i hi2
    have hpl : (pairL ps).length = ps.length := by simp [pairL]
    have g5 : (i : Int) < ((pairL ps).length : Int) := by rw [hpl]; exact g4.1
    generalize ps[i] = x at hx hdr hrow
    obtain ⟨r, c⟩ := x
    dsimp only at hx hrow
    have hpar := parity r c q (Nat.le_trans (Nat.le_of_lt hx.1) hR) (Nat.le_trans (Nat.le_of_lt hx.2) hC)
    rw [hdr, List.foldl_cons]
    by_cases hp : (r + c) % 2 = q
    · obtain ⟨⟨h1, h2⟩, hst, hb2⟩ := stepQ_at hR hC hq hx hp ho g36 hb
      obtain ⟨K1, e1⟩ := ev_get (biPlace_ev (upN R C q) (r + c) hlen.1 h1)
      obtain ⟨K2, e2⟩ := ev_get (biPlace_ev (downN R C q) (r + C - 1 - c) hlen.2 h2)
      have g7 : ((idx (upN R C q) (r + c) : Nat) : Int) < (out.length : Int) := by rw [ho]; exact_mod_cast h1
      refine ev_succ (K1 + K2) (ih (i + 1) (stepQ R C q out (r, c)) g1 g2 (by rw [stepQ_length]; exact ho) hb2) (fun k hk => ?_)
      have f1 : spec_biPlace.f k (upL R C q) _ = _ := e1 k (Nat.le_trans (Nat.le_add_right K1 K2) hk)
      have f2 : spec_biPlace.f k (downL R C q) _ = _ := e2 k (Nat.le_trans (Nat.le_add_left K2 K1) hk)
      clear e1 e2 ih
      rw [biBoard_step k _ _ _ _ _ _ _ _ _ _ _ _ _ _ _ _ _ _ g4.1 g4.2.1 g5 hrow (hpar.2 hp) (bi_diag R C r c l hR hC hx.1 hx.2) f1 (Int.natCast_nonneg _) g7 f2 (Int.natCast_nonneg _), ← hst, g4.2.2]
    · have hst : stepQ R C q out (r, c) = out := by unfold stepQ; rw [if_neg hp]
      rw [hst]
      refine ev_succ 0 (ih (i + 1) out g1 g2 ho (up_more hb)) (fun k hk => ?_)
      rw [biBoard_other k _ _ _ _ _ _ _ _ _ _ _ _ _ _ g4.1 g4.2.1 g5 hrow (fun h => hp (hpar.1 h)), g4.2.2]
theorem pairsAll_mem {R C : Nat} {x : Nat × Nat} (h : x ∈ pairsAll R C) : x.1 < R ∧ x.2 < C := by
  unfold pairsAll at h
  rw [List.mem_flatMap] at h
  obtain ⟨r, hr, h⟩ := h
  obtain ⟨c, hc, rfl⟩ := List.mem_map.1 h
  exact ⟨List.mem_range.1 hr, List.mem_range.1 hc⟩
theorem biBoard_ev {R C q : Nat} {l : List Int} (h : boardB (R : Int) (C : Int) l = true) (hR : R ≤ 6) (hC : C ≤ 6) (hq : q ≤ 1) : Ev (fun k => spec_biBoard.f k (R : Int) (C : Int) l (q : Int)) (((upN R C q).length : Int), ((downN R C q).length : Int), colL R C q l) := by
  have hlen := lines_len ⟨R, by omega⟩ ⟨C, by omega⟩ ⟨q, by omega⟩
  simp only at hlen
  have hpl := pairs_len ⟨R, by omega⟩ ⟨C, by omega⟩
  simp only at hpl
  obtain ⟨K1, h1⟩ := ev_get (lines_ev R C q hR hC hq l)
  obtain ⟨K2, h2⟩ := ev_get (boCells_ev h)
  have hfl : ((pairsAll R C).filter fun x => hasC l (x.1 : Int) (x.2 : Int)).length ≤ 36 := Nat.le_trans (List.length_filter_le _ _) hpl
  obtain ⟨K3, h3⟩ := ev_get (biBoard_loop hR hC hq l ((pairsAll R C).filter fun x => hasC l (x.1 : Int) (x.2 : Int)) (fun x hx => pairsAll_mem (List.mem_filter.1 hx).1) hfl _ 0 (List.replicate (upN R C q).length 0) rfl (by omega) (by simp) (fun j hj => by
    rw [List.length_replicate] at hj
    simp [List.getD_eq_getElem?_getD, hj]))
  rw [List.drop_zero, fold_colL l hR hC hq] at h3
  refine ⟨K1 + K2 + K3, fun k hk => ?_⟩
  have e3 := h3 k (by omega)
  simp only [spec_biBoard.f, h1 k (by omega), h2 k (by omega), Option.bind_some, upL_length, downL_length, spec_boEmpty.f]
  rw [if_pos (by omega), if_pos (by omega), Option.bind_some, Int.toNat_natCast, cells_pairs]
  have hpl2 : (((pairsAll R C).filter fun x => hasC l (x.1 : Int) (x.2 : Int)).map fun x => [(x.1 : Int), (x.2 : Int)]) = pairL ((pairsAll R C).filter fun x => hasC l (x.1 : Int) (x.2 : Int)) := rfl
  rw [hpl2, show (pairL ((pairsAll R C).filter fun x => hasC l (x.1 : Int) (x.2 : Int))).length = ((pairsAll R C).filter fun x => hasC l (x.1 : Int) (x.2 : Int)).length by simp [pairL]]
  exact e3
end Go.Proofs.Ythlcaikplebpmaa.P
namespace Go.Proofs.Ythlcaikplebpmaa.P
open Go.RowKit Go.Proofs.YthlcaikplebpmaaW.PrintWords Go.Proofs.YthlcaikplebpmaaW.PrintLast Go.Proofs.YthlcaikplebpmaaW.PrintMore
set_option linter.unusedVariables false
set_option linter.unusedSimpArgs false
def num (l : List Int) (R C : Nat) : List Int := tab (min R C) (fun k => (ways l C R 0 0 k : Int))
theorem ways_k0 (l : List Int) (C : Nat) : ∀ (d r : Nat) (t : Int), P.ways l C d r t 0 = 1
  | 0, _, _ => rfl
  | d + 1, r, t => by
    rw [ways_succ, ways_k0 l C d]
    have : sumTo (term l C d r t 0) C = sumTo (fun _ => 0) C := sumTo_congr (fun c _ => by unfold term; split <;> rfl)
    rw [this, sumTo_zero]
theorem num_one (l : List Int) (R C : Nat) (h : min R C = 0) : num l R C = [1] := by
  unfold num
  rw [h]
  simp [tab, ways_k0]
theorem specNum_ev {l : List Int} {R C : Nat} (hR : R ≤ 6) (hC : C ≤ 6) (hl : l.length = R) : Ev (fun k => spec_roNumbers.f k (R : Int) (C : Int) l) (num l R C) := by
  obtain ⟨K, hK⟩ := ev_get (roWays_ev hR hC hl rfl R 0 0 (by omega) (cols_zero C))
  refine ⟨K, fun k hk => ?_⟩
  simp only [spec_roNumbers.f]
  have := hK k hk
  rw [show ((0 : Nat) : Int) = 0 from rfl] at this
  rw [this]; rfl
theorem implNum_ev {l : List Int} {R C : Nat} (hR : R ≤ 6) (hC : C ≤ 6) (hl : l.length = R) (hmask : ∀ i : Nat, i < R → 0 ≤ rd l (i : Int) ∧ rd l (i : Int) ≤ 63) : Ev (fun k => impl_Board_numbers.f k (R : Int) (C : Int) l) (num l R C) := by
  obtain ⟨p', _, _, h⟩ := walk_ev hR hC hl rfl hmask R 0 0 (List.replicate R 0) (fun _ => 0) (by omega) (cols_zero C) (by simp) (by rw [pop_zero]; rfl) (fun k => by
    have : 7 ^ R ≤ 7 ^ 6 := Nat.pow_le_pow_right (by omega) hR
    have e : (7 : Nat) ^ 6 = 117649 := by decide
    omega)
  obtain ⟨K, hK⟩ := ev_get h
  have hm : mn (R : Int) (C : Int) = ((min R C : Nat) : Int) := by unfold mn; split <;> omega
  refine ⟨K, fun k hk => ?_⟩
  simp only [impl_Board_numbers.f, hm]
  rw [w64 _ (by omega) (by omega), if_pos (by omega), if_pos (by omega), show (((min R C : Nat) : Int) + 1).toNat = min R C + 1 by omega, tab_repl]
  simp only [impl_Board_walk.f]
  have := hK k hk
  rw [show ((0 : Nat) : Int) = 0 from rfl] at this
  rw [if_pos (by omega), if_pos (by omega), Int.toNat_natCast, this, Option.bind_some]
  refine congrArg some (tab_congr (fun k hk => ?_))
  rw [gain, pop_zero, if_pos (Nat.zero_le _), Nat.sub_zero]; omega
theorem prod_l1_end (k : Nat) (b out a : List Int) (i x n m : Int) (j : Int) (h : ¬ j < m) : impl_product.l1 (k + 1) b out i x a n i b m j = impl_product.l0 k b out a n (wrap64 (i + 1)) := by
  rw [impl_product.l1, if_neg h]
theorem prod_l1_step (k : Nat) (b out a : List Int) (i x n m : Int) (j : Int) (h : j < m) (h0 : 0 ≤ j) (h1 : j < (b.length : Int)) (h2 : 0 ≤ wrap64 (i + j)) (h3 : wrap64 (i + j) < (out.length : Int)) : impl_product.l1 (k + 1) b out i x a n i b m j = impl_product.l1 k b (out.set (wrap64 (i + j)).toNat (wrap64 (rd out (wrap64 (i + j)) + wrap64 (x * rd b j)))) i x a n i b m (wrap64 (j + 1)) := by
  rw [impl_product.l1, if_pos h, if_pos h0, if_pos h1, if_pos h2, if_pos h3]
theorem prod_l0_step (k : Nat) (b out a : List Int) (n i : Int) (h : i < n) (h0 : 0 ≤ i) (h1 : i < (a.length : Int)) : impl_product.l0 (k + 1) b out a n i = impl_product.l1 k b out i (rd a i) a n i b (b.length : Int) 0 := by
  rw [impl_product.l0, if_pos h, if_pos h0, if_pos h1]
theorem prod_l0_end (k : Nat) (b out a : List Int) (n i : Int) (h : ¬ i < n) : impl_product.l0 (k + 1) b out a n i = some out := by
  rw [impl_product.l0, if_neg h]
theorem prod_in (b a : List Int) (hb : b.length ≤ 100) (i : Nat) (hi : i ≤ 100) (x n : Int) (res : List Int) : ∀ (d j : Nat) (out : List Int), b.length - j = d → j ≤ b.length → i + b.length ≤ out.length →
    Ev (fun k => impl_product.l0 k b (addR i x j (b.drop j) out) a n ((i + 1 : Nat) : Int)) res → Ev (fun k => impl_product.l1 k b out (i : Int) x a n (i : Int) b (b.length : Int) (j : Int)) res := by
  intro d
  induction d with
  | zero =>
    intro j out hd hj ho hev
    rw [List.drop_eq_nil_of_le (by omega), addR] at hev
    refine evb 0 hev (fun k _ => ?_)
    rw [prod_l1_end _ _ _ _ _ _ _ _ _ (by omega), w64 _ (by omega) (by omega), show (i : Int) + 1 = ((i + 1 : Nat) : Int) by omega]
  | succ d ih =>
    intro j out hd hj ho hev
    have hj2 : j < b.length := by omega
    have hdr : b.drop j = b[j] :: b.drop (j + 1) := List.drop_eq_getElem_cons hj2
    have hw : wrap64 ((i : Int) + (j : Int)) = ((i + j : Nat) : Int) := by rw [w64 _ (by omega) (by omega)]; omega
    have hw2 : wrap64 ((j : Int) + 1) = ((j + 1 : Nat) : Int) := by rw [w64 _ (by omega) (by omega)]; omega
    rw [hdr, addR] at hev
    refine evb 0 (ih (j + 1) (out.set (i + j) (wrap64 (rd out ((i + j : Nat) : Int) + wrap64 (x * b[j])))) (by omega) (by omega) (by rw [List.length_set]; exact ho) hev) (fun k _ => ?_)
    rw [prod_l1_step _ _ _ _ _ _ _ _ _ (by omega) (by omega) (by omega) (by rw [hw]; omega) (by rw [hw]; omega), hw, hw2, Int.toNat_natCast, rd_nat b j hj2]
theorem prod_out (b a : List Int) (hb : b.length ≤ 100) (ha : a.length ≤ 100) : ∀ (d i : Nat) (out : List Int), a.length - i = d → i ≤ a.length → out.length = a.length + b.length - 1 →
    Ev (fun k => impl_product.l0 k b out a (a.length : Int) (i : Int)) (mulR b i (a.drop i) out) := by
  intro d
  induction d with
  | zero =>
    intro i out hd hi ho
    rw [List.drop_eq_nil_of_le (by omega), mulR]
    exact evz (fun k => prod_l0_end _ _ _ _ _ _ (by omega))
  | succ d ih =>
    intro i out hd hi ho
    have hi2 : i < a.length := by omega
    have hdr : a.drop i = a[i] :: a.drop (i + 1) := List.drop_eq_getElem_cons hi2
    rw [hdr, mulR]
    have h1 := ih (i + 1) (addR i a[i] 0 b out) (by omega) (by omega) (by rw [addR_length]; exact ho)
    have h2 := prod_in b a hb i (by omega) a[i] (a.length : Int) _ b.length 0 out (by omega) (by omega) (by omega) (by rw [List.drop_zero]; exact h1)
    refine evb 0 h2 (fun k _ => ?_)
    rw [prod_l0_step _ _ _ _ _ _ (by omega) (by omega) (by omega), rd_nat a i hi2]; rfl
theorem product_ev (a b : List Int) (ha : a.length ≤ 100) (hb : b.length ≤ 100) (ha0 : a ≠ []) : Ev (fun k => impl_product.f k a b) (prodL a b) := by
  have hl : 0 < a.length := List.length_pos_iff.2 ha0
  obtain ⟨K, hK⟩ := ev_get (prod_out b a hb ha a.length 0 (List.replicate (a.length + b.length - 1) 0) (by omega) (by omega) (by simp))
  refine ⟨K, fun k hk => ?_⟩
  have e := hK k hk
  have hw : wrap64 (wrap64 ((a.length : Int) + (b.length : Int)) - 1) = ((a.length + b.length - 1 : Nat) : Int) := by
    rw [w64 ((a.length : Int) + (b.length : Int)) (by omega) (by omega), w64 _ (by omega) (by omega)]; omega
  simp only [impl_product.f, hw]
  rw [if_pos (by omega), if_pos (by omega), Int.toNat_natCast]
  rw [List.drop_zero] at e
  exact e
theorem times_eq : ∀ k, (∀ b out a n i, spec_roTimes.l0 k b out a n i = impl_product.l0 k b out a n i) ∧ (∀ b out i x a n i2 b2 m j, spec_roTimes.l1 k b out i x a n i2 b2 m j = impl_product.l1 k b out i x a n i2 b2 m j)
  | 0 => ⟨fun _ _ _ _ _ => rfl, fun _ _ _ _ _ _ _ _ _ _ => rfl⟩
  | k + 1 => by
    obtain ⟨i0, i1⟩ := times_eq k
    refine ⟨fun b out a n i => ?_, fun b out i x a n i2 b2 m j => ?_⟩
    · rw [spec_roTimes.l0, impl_product.l0, i1]
    · rw [spec_roTimes.l1, impl_product.l1, i0, i1]
theorem times_f (k : Nat) (a b : List Int) : spec_roTimes.f k a b = impl_product.f k a b := by
  unfold spec_roTimes.f impl_product.f
  rw [(times_eq k).1]
theorem trim_ev : ∀ (l : List Int), l.length ≤ 1000 → Ev (fun k => impl_trimmed.l0 k l) (short l l.length) := by
  intro l
  induction hn : l.length generalizing l with
  | zero =>
    intro _
    have : l = [] := List.length_eq_zero_iff.1 hn
    subst this
    exact evz (fun k => by rw [impl_trimmed.l0, if_neg (by simp)]; rfl)
  | succ n ih =>
    intro hl
    have hw : wrap64 ((l.length : Int) - 1) = (n : Int) := by rw [w64 _ (by omega) (by omega)]; omega
    have htl : (l.take n).length = n := by rw [List.length_take]; omega
    by_cases h0 : rd l (n : Int) = 0
    · have e : short l (n + 1) = short (l.take n) n := by rw [short, if_pos h0, short_take l n (by omega)]
      rw [e]
      refine evb 0 (ih (l.take n) htl (by omega)) (fun k _ => ?_)
      rw [impl_trimmed.l0, hw, if_pos (by omega), if_pos (by omega), if_pos (by omega), if_pos h0, if_pos (by omega), Int.toNat_natCast]
    · have e : short l (n + 1) = l := by rw [short, if_neg h0, List.take_of_length_le (by omega)]
      rw [e]
      exact evz (fun k => by rw [impl_trimmed.l0, hw, if_pos (by omega), if_pos (by omega), if_pos (by omega), if_neg h0])
theorem short_ev (l : List Int) (hl : l.length ≤ 1000) : ∀ n : Nat, n ≤ l.length → Ev (fun k => spec_roShort.l0 k l (n : Int)) (short l n)
  | 0, _ => evz (fun k => by rw [spec_roShort.l0, if_neg (by omega), if_pos (by omega), if_pos (by omega)]; rfl)
  | n + 1, h => by
    have hw : wrap64 (((n + 1 : Nat) : Int) - 1) = (n : Int) := by rw [w64 _ (by omega) (by omega)]; omega
    by_cases h0 : rd l (n : Int) = 0
    · rw [short, if_pos h0]
      refine evb 0 (short_ev l hl n (by omega)) (fun k _ => ?_)
      rw [spec_roShort.l0, hw, if_pos (by omega), if_pos (by omega), if_pos (by omega), if_pos h0]
    · rw [short, if_neg h0]
      exact evz (fun k => by rw [spec_roShort.l0, hw, if_pos (by omega), if_pos (by omega), if_pos (by omega), if_neg h0, if_pos (by omega), if_pos (by omega), Int.toNat_natCast])
theorem num_len (l : List Int) (R C : Nat) : (num l R C).length = min R C + 1 := tab_len _ _
theorem num_in (l : List Int) {R C : Nat} (hR : R ≤ 6) (hC : C ≤ 6) : ∀ y ∈ num l R C, In64 y := by
  intro y hy
  unfold num tab at hy
  obtain ⟨k, _, rfl⟩ := List.mem_map.1 hy
  have := ways_small l hC R 0 0 k hR
  unfold In64
  omega
def nC (R C q : Nat) (l : List Int) : List Int := num (colL R C q l) (upN R C q).length (downN R C q).length
/-- The bishop numbers of a board. -/
def bish (R C : Nat) (l : List Int) : List Int := short (prodL (nC R C 0 l) (nC R C 1 l)) (prodL (nC R C 0 l) (nC R C 1 l)).length
theorem nC_len (R C q : Nat) (l : List Int) (hR : R ≤ 6) (hC : C ≤ 6) (hq : q ≤ 1) : 1 ≤ (nC R C q l).length ∧ (nC R C q l).length ≤ 7 := by
  have hlen := lines_len ⟨R, by omega⟩ ⟨C, by omega⟩ ⟨q, by omega⟩
  simp only at hlen
  unfold nC
  rw [num_len]
  have h1 := hlen.1
  have h2 := Nat.min_le_left (upN R C q).length (downN R C q).length
  omega
theorem nC_in (R C q : Nat) (l : List Int) (hR : R ≤ 6) (hC : C ≤ 6) (hq : q ≤ 1) : ∀ y ∈ nC R C q l, In64 y := by
  have hlen := lines_len ⟨R, by omega⟩ ⟨C, by omega⟩ ⟨q, by omega⟩
  simp only at hlen
  exact num_in _ hlen.1 hlen.2.1
theorem nC_one (R C q : Nat) (l : List Int) (h : (upN R C q).length = 0) : nC R C q l = [1] := num_one _ _ _ (by rw [h]; exact Nat.zero_min _)
theorem up_some : ∀ R : Fin 7, ∀ C : Fin 7, 1 ≤ R.val → 1 ≤ C.val → (upN R.val C.val 0).length ≠ 0 := by decide +kernel
theorem num_ev {R C q : Nat} {l : List Int} (h : boardB (R : Int) (C : Int) l = true) (hR : R ≤ 6) (hC : C ≤ 6) (hq : q ≤ 1) (hn : (upN R C q).length ≠ 0) : Ev (fun k => impl_Board_numbers.f k ((upN R C q).length : Int) ((downN R C q).length : Int) (colL R C q l)) (nC R C q l) := by
  have hlen := lines_len ⟨R, by omega⟩ ⟨C, by omega⟩ ⟨q, by omega⟩
  simp only at hlen
  have hb := (boardB_iff _ _ _).1 (colL_board l hR hC hq hn)
  refine implNum_ev hlen.1 hlen.2.1 (colL_length R C q l) (fun i hi => ?_)
  have hi2 : i < (colL R C q l).length := by rw [colL_length]; exact hi
  rw [rd_nat _ _ hi2]
  have h1 := hb.2.2.2 _ (List.getElem_mem hi2)
  have h2 := pow_le6 ((downN R C q).length : Int) (by omega)
  omega
theorem snum_ev {R C q : Nat} {l : List Int} (hR : R ≤ 6) (hC : C ≤ 6) (hq : q ≤ 1) : Ev (fun k => spec_roNumbers.f k ((upN R C q).length : Int) ((downN R C q).length : Int) (colL R C q l)) (nC R C q l) := by
  have hlen := lines_len ⟨R, by omega⟩ ⟨C, by omega⟩ ⟨q, by omega⟩
  simp only at hlen
  exact specNum_ev hlen.1 hlen.2.1 (colL_length R C q l)
theorem biNumbers_ev {R C : Nat} {l : List Int} (h : boardB (R : Int) (C : Int) l = true) (hR : R ≤ 6) (hC : C ≤ 6) : Ev (fun k => spec_biNumbers.f k (R : Int) (C : Int) l) (bish R C l) := by
  obtain ⟨K1, h1⟩ := ev_get (biBoard_ev h hR hC (q := 0) (by omega))
  obtain ⟨K2, h2⟩ := ev_get (biBoard_ev h hR hC (q := 1) (by omega))
  obtain ⟨K3, h3⟩ := ev_get (snum_ev (l := l) hR hC (q := 0) (by omega))
  obtain ⟨K4, h4⟩ := ev_get (snum_ev (l := l) hR hC (q := 1) (by omega))
  have l0 := nC_len R C 0 l hR hC (by omega)
  have l1 := nC_len R C 1 l hR hC (by omega)
  obtain ⟨K5, h5⟩ := ev_get (product_ev (nC R C 0 l) (nC R C 1 l) (by omega) (by omega) (List.length_pos_iff.1 (by omega)))
  have lp := prodL_length (nC R C 0 l) (nC R C 1 l)
  obtain ⟨K6, h6⟩ := ev_get (short_ev (prodL (nC R C 0 l) (nC R C 1 l)) (by omega) _ (Nat.le_refl _))
  refine ⟨K1 + K2 + K3 + K4 + K5 + K6, fun k hk => ?_⟩
  have e1 := h1 k (by omega)
  have e2 := h2 k (by omega)
  have e3 := h3 k (by omega)
  have e4 := h4 k (by omega)
  have e5 := h5 k (by omega)
  have e6 := h6 k (by omega)
  show (spec_biNumbers.f k (R : Int) (C : Int) l) = _
  unfold spec_biNumbers.f
  rw [show (((0 : Nat)) : Int) = 0 from rfl] at e1
  rw [show (((1 : Nat)) : Int) = 1 from rfl] at e2
  rw [e1, Option.bind_some]
  dsimp only
  rw [e3, Option.bind_some, e2, Option.bind_some]
  dsimp only
  rw [e4, Option.bind_some, times_f, e5, Option.bind_some]
  unfold spec_roShort.f
  rw [e6, Option.bind_some]
  rfl
theorem bish_step (k : Nat) (x q R C : Int) (x3 : List Int) (l : List Int) (r c : Int) (cl n p : List Int) (h : q < 2) (h1 : impl_Board_coloured.f k R C l q = some (r, c, cl, true)) (h2 : impl_Board_numbers.f k r c cl = some n) (h3 : impl_product.f k x3 n = some p) : impl_Board_bishops.l0 (k + 1) x3 q R C l = impl_Board_bishops.l0 k p (wrap64 (q + 1)) R C l := by
  rw [impl_Board_bishops.l0, if_pos h, h1, Option.bind_some, if_pos rfl]
  dsimp only
  rw [h2, Option.bind_some, h3, Option.bind_some]
theorem bish_skip (k : Nat) (q R C : Int) (x3 : List Int) (l : List Int) (r c : Int) (cl : List Int) (h : q < 2) (h1 : impl_Board_coloured.f k R C l q = some (r, c, cl, false)) : impl_Board_bishops.l0 (k + 1) x3 q R C l = impl_Board_bishops.l0 k x3 (wrap64 (q + 1)) R C l := by
  rw [impl_Board_bishops.l0, if_pos h, h1, Option.bind_some, if_neg (by simp)]
theorem bish_end (k : Nat) (q R C : Int) (x3 : List Int) (l t : List Int) (h : ¬ q < 2) (h1 : impl_trimmed.f k x3 = some t) : impl_Board_bishops.l0 (k + 1) x3 q R C l = some t := by
  rw [impl_Board_bishops.l0, if_neg h, h1, Option.bind_some]
theorem bishops_ev {R C : Nat} {l : List Int} (h : boardB (R : Int) (C : Int) l = true) (hR : R ≤ 6) (hC : C ≤ 6) : Ev (fun k => impl_Board_bishops.f k (R : Int) (C : Int) l) (bish R C l) := by
  have hb := (boardB_iff _ _ _).1 h
  have hn0 := up_some ⟨R, by omega⟩ ⟨C, by omega⟩ (by simp only; omega) (by simp only; omega)
  simp only at hn0
  obtain ⟨K1, h1⟩ := ev_get (coloured_ev h hR hC (q := 0) (by omega))
  obtain ⟨K2, h2⟩ := ev_get (coloured_ev h hR hC (q := 1) (by omega))
  obtain ⟨K3, h3⟩ := ev_get (num_ev h hR hC (q := 0) (by omega) hn0)
  have l0 := nC_len R C 0 l hR hC (by omega)
  have l1 := nC_len R C 1 l hR hC (by omega)
  have z0 : nC R C 0 l ≠ [] := List.length_pos_iff.1 (by omega)
  obtain ⟨K4, h4⟩ := ev_get (product_ev [1] (nC R C 0 l) (by decide) (by omega) (by decide))
  rw [prod_one_left _ (nC_in R C 0 l hR hC (by omega)) z0] at h4
  have lp := prodL_length (nC R C 0 l) (nC R C 1 l)
  have w0 : wrap64 ((0 : Int) + 1) = 1 := by rw [w64 _ (by omega) (by omega)]; rfl
  have w1 : wrap64 ((1 : Int) + 1) = 2 := by rw [w64 _ (by omega) (by omega)]; rfl
  unfold colR at h1 h2
  rw [if_neg hn0] at h1
  have h1 : ∀ k, K1 ≤ k → impl_Board_coloured.f k (R : Int) (C : Int) l 0 = _ := h1
  have h2 : ∀ k, K2 ≤ k → impl_Board_coloured.f k (R : Int) (C : Int) l 1 = _ := h2
  have first : Ev (fun k => impl_Board_bishops.l0 k (nC R C 0 l) 1 (R : Int) (C : Int) l) (bish R C l) := by
    by_cases hn1 : (upN R C 1).length = 0
    · rw [if_pos hn1] at h2
      have e1 := nC_one R C 1 l hn1
      have hp := prod_one_right _ (nC_in R C 0 l hR hC (by omega)) z0
      obtain ⟨K5, h5⟩ := ev_get (trim_ev (nC R C 0 l) (by omega))
      have last : Ev (fun k => impl_Board_bishops.l0 k (nC R C 0 l) 2 (R : Int) (C : Int) l) (bish R C l) := by
        refine ⟨K5 + 1, fun k hk => ?_⟩
        obtain ⟨k, rfl⟩ : ∃ m, k = m + 1 := ⟨k - 1, by omega⟩
        have e5 := h5 k (by omega)
        show impl_Board_bishops.l0 (k + 1) _ _ _ _ _ = _
        rw [bish_end k _ _ _ _ _ _ (by decide) e5]
        unfold bish
        rw [e1, hp]
      exact evb K2 last (fun k hk => by rw [bish_skip k _ _ _ _ _ _ _ _ (by decide) (h2 k hk), w1])
    · rw [if_neg hn1] at h2
      obtain ⟨K6, h6⟩ := ev_get (num_ev h hR hC (q := 1) (by omega) hn1)
      obtain ⟨K7, h7⟩ := ev_get (product_ev (nC R C 0 l) (nC R C 1 l) (by omega) (by omega) z0)
      obtain ⟨K5, h5⟩ := ev_get (trim_ev (prodL (nC R C 0 l) (nC R C 1 l)) (by omega))
      have last : Ev (fun k => impl_Board_bishops.l0 k (prodL (nC R C 0 l) (nC R C 1 l)) 2 (R : Int) (C : Int) l) (bish R C l) := by
        refine ⟨K5 + 1, fun k hk => ?_⟩
        obtain ⟨k, rfl⟩ : ∃ m, k = m + 1 := ⟨k - 1, by omega⟩
        have e5 := h5 k (by omega)
        show impl_Board_bishops.l0 (k + 1) _ _ _ _ _ = _
        rw [bish_end k _ _ _ _ _ _ (by decide) e5]
        rfl
      refine evb (K2 + K6 + K7) last (fun k hk => ?_)
      have e2 := h2 k (by omega)
      have e6 := h6 k (by omega)
      have e7 := h7 k (by omega)
      rw [bish_step k 0 _ _ _ _ _ _ _ _ _ _ (by decide) e2 e6 e7, w1]
  refine evb (K1 + K3 + K4) first (fun k hk => ?_)
  have e1 := h1 k (by omega)
  have e3 := h3 k (by omega)
  have e4 := h4 k (by omega)
  show impl_Board_bishops.l0 (k + 1) [1] 0 (R : Int) (C : Int) l = _
  rw [bish_step k 0 _ _ _ _ _ _ _ _ _ _ (by decide) e1 e3 e4, w0]
end Go.Proofs.Ythlcaikplebpmaa.P
namespace Go.Proofs.Ythlcaikplebpmaa.Pure
open Go.RowKit Go.Proofs.Ythlcaikplebpmaa.P Go.Proofs.YthlcaikplebpmaaW.PrintWords Go.Proofs.YthlcaikplebpmaaW.PrintLast
set_option linter.unusedSimpArgs false
set_option linter.unusedVariables false
namespace FnExactFirstBishops
def best (r c : Int) (l : List Int) (k : Nat) : Option (List (List Int)) := if 0 = k then some [] else firstL attackB k (cells r c l) []
def R (r c : Int) (l : List Int) (a : Int) : List (List Int) × Bool := if boardB r c l = true ∧ inB a 0 12 = true ∧ a < ((bish r.toNat c.toNat l).length : Int) then resF (best r c l a.toNat) else ([], false)
theorem pairs_nodup : ∀ R : Fin 7, ∀ C : Fin 7, (pairsAll R.val C.val).Nodup := by decide +kernel
theorem cells_nodup (R C : Nat) (l : List Int) (hR : R ≤ 6) (hC : C ≤ 6) : (cells (R : Int) (C : Int) l).Nodup := by
  rw [cells_pairs]
  unfold List.Nodup
  rw [List.pairwise_map]
  refine (List.Pairwise.filter _ (pairs_nodup ⟨R, by omega⟩ ⟨C, by omega⟩)).imp ?_
  intro a b h e
  simp only [List.cons.injEq, and_true] at e
  exact h (Prod.ext (by omega) (by omega))
theorem in12 {a : Int} (h : inB a 0 12 = true) : ∃ k : Nat, a = (k : Int) ∧ k ≤ 12 := by
  have : 0 ≤ a ∧ a ≤ 12 := by simpa [inB] using h
  exact ⟨a.toNat, by omega, by omega⟩
theorem board_nat {r c : Int} {l : List Int} (h : boardB r c l = true) : ∃ R C : Nat, r = R ∧ c = C ∧ R ≤ 6 ∧ C ≤ 6 := by
  have hb := (boardB_iff _ _ _).1 h
  exact ⟨r.toNat, c.toNat, by omega, by omega, by omega, by omega⟩
theorem best_sub {r c : Int} {l : List Int} {k : Nat} {o : List (List Int)} (h : best r c l k = some o) : o.Sublist (cells r c l) := by
  unfold best at h
  by_cases h0 : 0 = k
  · rw [if_pos h0] at h; obtain rfl := Option.some.inj h; exact List.nil_sublist _
  · rw [if_neg h0] at h
    obtain ⟨s, h1, h2⟩ := firstL_some attackB k _ _ o h
    rw [h2]; exact h1
theorem cell_two {x : List Int} (h : Cell6 x) : x.length = 2 := by
  obtain ⟨p, q, rfl, _, _⟩ := h; rfl
theorem res_ok {R C : Nat} {l : List Int} (h : boardB (R : Int) (C : Int) l = true) (hR : R ≤ 6) (hC : C ≤ 6) (k : Nat) : (resF (best (R : Int) (C : Int) l k)).1.Nodup ∧ ∀ x ∈ (resF (best (R : Int) (C : Int) l k)).1, x.length = 2 := by
  cases hb : best (R : Int) (C : Int) l k with
  | none => exact ⟨List.nodup_nil, fun x hx => by simp [resF] at hx⟩
  | some o =>
    have hs := best_sub hb
    exact ⟨List.Pairwise.sublist hs (cells_nodup R C l hR hC), fun x hx => cell_two (cells_cell h (hs.subset hx))⟩
theorem cb_eq (k : Nat) (s : Option (List (List Int))) (l : List (List Int)) (hs : s = none) (h1 : l.length ≤ 1000) (h2 : ∀ y ∈ l, Cell6 y) : impl_Board_firstOf_1.f (k : Int) s l = some (cbF k s l) := by
  subst hs
  unfold impl_Board_firstOf_1.f cbF
  by_cases h : l.length < k
  · rw [if_pos (by omega), if_pos h]
  · rw [if_neg (by omega), if_neg h]
    exact if_pos ⟨h1, fun x hx => by rw [cell_two (h2 x hx)]; decide⟩
theorem cb_keep (k : Nat) (s : Option (List (List Int))) (l : List (List Int)) (hs : s = none) (h : (cbF k s l).1 = true) : (cbF k s l).2 = none := by
  unfold cbF at h ⊢
  by_cases hk : l.length < k
  · rw [if_pos hk]; exact hs
  · rw [if_neg hk] at h; exact absurd h (by simp)
theorem firstOf_ev {r c : Int} {l : List Int} (h : boardB r c l = true) (k : Nat) (are : FnT38) (hare : ∀ y x, Cell6 y → Cell6 x → are y x = some (!attackB y x)) : Ev (fun n => impl_Board_firstOf.f n r c l (k : Int) are) (resF (best r c l k)) := by
  obtain ⟨K, hK⟩ := ev_get (lists2_ev (D := attackB) (are := are) (cbO := impl_Board_firstOf_1.f (k : Int)) (cb := cbF k) (I := fun s => s = none) h k hare (fun s q i1 i2 i3 => cb_eq k s q i1 i2 i3) (fun s q i1 i2 => cb_keep k s q i1 i2) none rfl)
  have hval : (if 0 = k then cbF k none [] else goL attackB (cbF k) k (cells r c l) [] (cbF k none [])) = outF (best r c l k) := by
    unfold best
    by_cases h0 : 0 = k
    · subst h0
      rw [if_pos rfl, if_pos rfl]
      rfl
    · rw [if_neg h0, if_neg h0]
      have e0 : cbF k none [] = (true, none) := by unfold cbF; rw [if_pos (by simp only [List.length_nil]; omega)]
      rw [e0, goL_first attackB k (cells r c l) [] (by simp only [List.length_nil]; omega)]
  rw [hval] at hK
  refine ⟨K, fun n hn => ?_⟩
  unfold impl_Board_firstOf.f
  dsimp only
  rw [hK n hn, Option.bind_some]
  cases best r c l k <;> rfl
theorem impl_ev (r c : Int) (l : List Int) (a : Int) (hb : l.length ≤ 1152921504606846976) : Ev (fun k => impl_FirstBishops.f k r c l a) (R r c l a) := by
  unfold R
  by_cases h : boardB r c l = true
  · obtain ⟨R', C', rfl, rfl, hR, hC⟩ := board_nat h
    obtain ⟨K1, h1⟩ := ev_get (bishops_ev h hR hC)
    by_cases hq : inB a 0 12 = true
    · obtain ⟨k, rfl, hk⟩ := in12 hq
      obtain ⟨K2, h2⟩ := ev_get (firstOf_ev h k impl_FirstBishops.are (fun y x hy hx => asBishops_eq hy hx))
      simp only [Int.toNat_natCast]
      generalize bish R' C' l = B at *
      by_cases hg : (k : Int) < (B.length : Int)
      · rw [if_pos ⟨h, hq, hg⟩]
        refine ⟨K1 + K2, fun n hn => ?_⟩
        simp only [impl_FirstBishops.f, impl_IsBoard.f, impl_isPieces.f, within_eq, Option.bind_some, h, hq, if_true, h1 n (by omega)]
        rw [if_neg (by omega)]
        exact h2 n (by omega)
      · rw [if_neg (fun hh => hg hh.2.2)]
        refine ⟨K1, fun n hn => ?_⟩
        simp only [impl_FirstBishops.f, impl_IsBoard.f, impl_isPieces.f, within_eq, Option.bind_some, h, hq, if_true, h1 n (by omega)]
        rw [if_pos (by omega)]
    · rw [if_neg (fun hh => hq hh.2.1)]
      simp only [Bool.not_eq_true] at hq
      exact ⟨0, fun n hn => by simp only [impl_FirstBishops.f, impl_IsBoard.f, impl_isPieces.f, within_eq, Option.bind_some, h, hq, if_true, Bool.false_eq_true, if_false]⟩
  · rw [if_neg (fun hh => h hh.1)]
    simp only [Bool.not_eq_true] at h
    exact ⟨0, fun n hn => by simp only [impl_FirstBishops.f, impl_IsBoard.f, Option.bind_some, h, Bool.false_eq_true, if_false]⟩
theorem attack_comm {x y : List Int} (hx : Cell6 x) (hy : Cell6 y) : attackB x y = attackB y x := by
  obtain ⟨p, q, rfl, _, _⟩ := hx
  obtain ⟨p', q', rfl, _, _⟩ := hy
  unfold attackB
  simp only [rd0, rd1]
  congr 1
  simp only [eq_iff_iff]
  omega
theorem spec_ev (r c : Int) (l : List Int) (a : Int) (hb : l.length ≤ 1152921504606846976) : Ev (fun k => spec_FirstBishops.f k r c l a) (R r c l a) := by
  obtain ⟨K0, h0⟩ := ev_get (boGood_ev r c l hb)
  unfold R
  by_cases h : boardB r c l = true
  · obtain ⟨R', C', rfl, rfl, hR, hC⟩ := board_nat h
    obtain ⟨K1, h1⟩ := ev_get (biNumbers_ev h hR hC)
    by_cases hq : inB a 0 12 = true
    · obtain ⟨k, rfl, hk⟩ := in12 hq
      obtain ⟨K2, h2⟩ := ev_get (boCells_ev h)
      obtain ⟨K3, h3⟩ := ev_get (biFirst_ev (all := cells (R' : Int) (C' : Int) l) (kd := 0) (D := attackB) (Nat.le_trans (cells_len h) (by decide)) (fun y hy x hx => by rw [biDisturb0_eq (cells_cell h hx) (cells_cell h hy), attack_comm (cells_cell h hx) (cells_cell h hy)]) k (by omega))
      have hok := res_ok h hR hC k
      have e4 : (if 0 = k then some [] else firstL attackB k (cells (R' : Int) (C' : Int) l) []) = best (R' : Int) (C' : Int) l k := rfl
      rw [e4] at h3
      simp only [Int.toNat_natCast]
      generalize bish R' C' l = B at *
      generalize best (R' : Int) (C' : Int) l k = o at *
      by_cases hg : (k : Int) < (B.length : Int)
      · rw [if_pos ⟨h, hq, hg⟩]
        refine ⟨K0 + K1 + K2 + K3, fun n hn => ?_⟩
        simp only [spec_FirstBishops.f, spec_biAsked.f, h0 n (by omega), l1In_eq, Option.bind_some, h, hq, if_true, h1 n (by omega)]
        rw [if_neg (by omega), h2 n (by omega), Option.bind_some, h3 n (by omega), Option.bind_some, if_pos hok]
      · rw [if_neg (fun hh => hg hh.2.2)]
        refine ⟨K0 + K1, fun n hn => ?_⟩
        simp only [spec_FirstBishops.f, spec_biAsked.f, h0 n (by omega), l1In_eq, Option.bind_some, h, hq, if_true, h1 n (by omega)]
        rw [if_pos (by omega)]
    · rw [if_neg (fun hh => hq hh.2.1)]
      simp only [Bool.not_eq_true] at hq
      exact ⟨K0, fun n hn => by simp only [spec_FirstBishops.f, spec_biAsked.f, h0 n hn, l1In_eq, Option.bind_some, h, hq, if_true, Bool.false_eq_true, if_false]⟩
  · rw [if_neg (fun hh => h hh.1)]
    simp only [Bool.not_eq_true] at h
    exact ⟨K0, fun n hn => by simp only [spec_FirstBishops.f, spec_biAsked.f, h0 n hn, Option.bind_some, h, Bool.false_eq_true, if_false]⟩
theorem R_small (r c : Int) (l : List Int) (a : Int) : (R r c l a).1.length ≤ 36 ∧ ∀ x ∈ (R r c l a).1, x.length ≤ 2 := by
  unfold R
  by_cases h : boardB r c l = true ∧ inB a 0 12 = true ∧ a < ((bish r.toNat c.toNat l).length : Int)
  · rw [if_pos h]
    cases hb : best r c l a.toNat with
    | none => exact ⟨by simp [resF], fun x hx => by simp [resF] at hx⟩
    | some o =>
      have hs := best_sub hb
      exact ⟨Nat.le_trans hs.length_le (cells_len h.1), fun x hx => by rw [cell_two (cells_cell h.1 (hs.subset hx))]; decide⟩
  · rw [if_neg h]; simp
end FnExactFirstBishops
open FnExactFirstBishops in
theorem FnExactFirstBishops : laws_FnExactFirstBishops.Pure := by
  intro a0_0 a0_1 l0_2 a1 hy0 hy1 hy2 hy3
  have hl_l0_2 := hy2.1
  simp only [maxLen] at hl_l0_2
  have hsz := szBoard_eq a0_0 a0_1 l0_2 ((1048576 : Int)) (by omega) (by omega) (by simp only [maxLen]; omega)
  by_cases hb_l0_2 : (1048576 : Int) - l0_2.length < 0
  · refine ⟨0, ?_⟩
    unfold laws_FnExactFirstBishops.f
    rw [if_pos ⟨_, hsz, by rw [if_pos hb_l0_2]; omega⟩]
  rw [if_neg hb_l0_2] at hsz
  obtain ⟨K1, h1⟩ := ev_get (spec_ev a0_0 a0_1 l0_2 a1 (by omega))
  obtain ⟨K2, h2⟩ := ev_get (impl_ev a0_0 a0_1 l0_2 a1 (by omega))
  have hr := R_small a0_0 a0_1 l0_2 a1
  have ht := total_le hr.2
  generalize R a0_0 a0_1 l0_2 a1 = R at *
  obtain ⟨K3, h3⟩ := ev_get (toBoard_ev a0_0 a0_1 l0_2 (by omega))
  obtain ⟨K4, h4⟩ := ev_get (eqBoard_ev a0_0 a0_1 l0_2 (by omega))
  obtain ⟨K5, h5⟩ := ev_get (markBoard_ev a0_0 a0_1 l0_2 (by omega))
  obtain ⟨K6, h6⟩ := ev_get (eqIntSS_ev R.1 R.1 (by omega) (fun l hl => by have := hr.2 l hl; omega))
  obtain ⟨K7, h7⟩ := ev_get (markIntSS_ev R.1 1 (by omega) (by omega) (by omega) (by omega))
  obtain ⟨K8, h8⟩ := ev_get (heldIntSS_ev R.1 1 (by omega) (by omega) (by omega) (by omega))
  obtain ⟨m, hm⟩ : ∃ m, m = K1 + K2 + K3 + K4 + K5 + K6 + K7 + K8 := ⟨_, rfl⟩
  refine ⟨m, ?_⟩
  unfold laws_FnExactFirstBishops.f
  rw [if_neg (fun hh => by obtain ⟨s, e1, e2⟩ := hh; rw [hsz] at e1; have := Option.some.inj e1; omega), if_pos]
  exact ⟨_, R.1, R.2, _, _, _, _, by omega, hsz, h3 m (by omega), h1 m (by omega), h2 m (by omega), (h6 m (by omega)).trans (by simp), h4 m (by omega), by omega, h5 m (by omega), by omega, h7 m (by omega), h8 m (by omega)⟩
end Go.Proofs.Ythlcaikplebpmaa.Pure
