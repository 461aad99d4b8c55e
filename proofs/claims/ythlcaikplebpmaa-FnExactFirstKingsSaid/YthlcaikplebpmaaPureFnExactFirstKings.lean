/- For every board and number FirstKings returns what the reference returns, in memory of its own, and leaves its board as it was: no condition but that the arguments can be read. -/
import Derived.Test.YthlcaikplebpmaaKpLib
import Derived.Test.YthlcaikplebpmaaPx0
import Derived.Test.YthlcaikplebpmaaQ1f543403c0
import Derived.Test.YthlcaikplebpmaaQ216f379656
import Derived.Test.YthlcaikplebpmaaQc82fb0f20a
import Derived.Test.YthlcaikplebpmaaQc36316452c
import Derived.Test.YthlcaikplebpmaaQda252528db
namespace Go.Proofs.Ythlcaikplebpmaa.P
open Go.RowKit Go.Proofs.YthlcaikplebpmaaW.PrintWords Go.Proofs.YthlcaikplebpmaaW.PrintLast Go.Proofs.YthlcaikplebpmaaW.PrintMore
set_option linter.unusedVariables false
set_option linter.unusedSimpArgs false
theorem w64 (n : Int) (h : -9223372036854775808 ≤ n) (h2 : n ≤ 9223372036854775807) : wrap64 n = n := by unfold wrap64; omega
theorem rd_nat (l : List Int) (i : Nat) (h : i < l.length) : rd l (i : Int) = l[i] := by
  unfold rd; simp [List.getD_eq_getElem?_getD, List.getElem?_eq_getElem h]
theorem drop_cons (l : List Int) (i : Nat) (h : i < l.length) : l.drop i = l[i] :: l.drop (i + 1) := List.drop_eq_getElem_cons h
theorem ev_get {α : Type} {g : Nat → Option α} {r : α} (h : Ev g r) : ∃ K, ∀ k, K ≤ k → g k = some r := h
theorem take_set_succ {α : Type} (l : List α) (i : Nat) (x : α) (h : i < l.length) : (l.set i x).take (i + 1) = l.take i ++ [x] := by
  rw [List.take_add_one, List.take_set_of_le (Nat.le_refl _)]
  simp [h]
theorem toIntS_l0 (x0 : List Int) (hl : x0.length ≤ 1152921504606846976) : ∀ (d i : Nat) (x3 : List Int) (k : Nat), x0.length - i = d → i ≤ x0.length → x3.length = x0.length → d < k →
    laws_toIntS.l0 k x0 x3 (i : Int) = some (x3.take i ++ x0.drop i) := by
  intro d
  induction d with
  | zero =>
    intro i x3 k hd hi hx hk
    obtain ⟨k, rfl⟩ : ∃ m, k = m + 1 := ⟨k - 1, by omega⟩
    rw [laws_toIntS.l0, if_neg (by omega)]
    have : i = x0.length := by omega
    subst this
    simp [← hx]
  | succ d ih =>
    intro i x3 k hd hi hx hk
    obtain ⟨k, rfl⟩ : ∃ m, k = m + 1 := ⟨k - 1, by omega⟩
    have h1 : i < x0.length := by omega
    rw [laws_toIntS.l0, if_pos (by omega), if_pos (by omega), if_pos (by omega), w64 _ (by omega) (by omega)]
    have := ih (i + 1) (x3.set i (rd x0 i)) k (by omega) (by omega) (by simp [hx]) (by omega)
    rw [show ((i : Int) + 1) = ((i + 1 : Nat) : Int) by omega, show (i : Int).toNat = i by omega, this, rd_nat _ _ h1, drop_cons x0 i h1]
    congr 1
    rw [take_set_succ _ _ _ (by omega)]
    simp
theorem toIntS_ev (l : List Int) (hl : l.length ≤ 35184372088832) : Ev (fun k => laws_toIntS.f k l) l := by
  refine ⟨l.length + 1, fun k hk => ?_⟩
  simp only [laws_toIntS.f]
  rw [if_pos (by omega), if_pos (by omega)]
  have := toIntS_l0 l (by omega) l.length 0 (List.replicate l.length 0) k (by omega) (by omega) (by simp) (by omega)
  simpa using this
theorem eqIntS_l0 (a b : List Int) (hl : a.length = b.length) (hb : a.length ≤ 1152921504606846976) : ∀ (d i : Nat) (k : Nat), a.length - i = d → i ≤ a.length → d < k →
    laws_eqIntS.l0 k a b (i : Int) = some (decide (a.drop i = b.drop i)) := by
  intro d
  induction d with
  | zero =>
    intro i k hd hi hk
    obtain ⟨k, rfl⟩ : ∃ m, k = m + 1 := ⟨k - 1, by omega⟩
    rw [laws_eqIntS.l0, if_neg (by omega)]
    simp [List.drop_eq_nil_of_le (show a.length ≤ i by omega), List.drop_eq_nil_of_le (show b.length ≤ i by omega)]
  | succ d ih =>
    intro i k hd hi hk
    obtain ⟨k, rfl⟩ : ∃ m, k = m + 1 := ⟨k - 1, by omega⟩
    have h1 : i < a.length := by omega
    rw [laws_eqIntS.l0, if_pos (by omega), if_pos (by omega), if_pos (by omega), w64 _ (by omega) (by omega), rd_nat _ _ h1, rd_nat _ _ (show i < b.length by omega)]
    rw [show ((i : Int) + 1) = ((i + 1 : Nat) : Int) by omega, ih (i + 1) k (by omega) (by omega) (by omega)]
    rw [drop_cons a i h1, drop_cons b i (by omega)]
    generalize a.drop (i + 1) = ta, b.drop (i + 1) = tb
    by_cases h : a[i] = b[i]
    · simp [h]
    · simp [h]
theorem eqIntS_ev (a b : List Int) (hb : a.length ≤ 1152921504606846976) : Ev (fun k => laws_eqIntS.f k a b) (decide (a = b)) := by
  refine ⟨a.length + 1, fun k hk => ?_⟩
  simp only [laws_eqIntS.f]
  by_cases h : a.length = b.length
  · rw [if_pos (by omega)]
    have := eqIntS_l0 a b h hb a.length 0 k (by omega) (by omega) (by omega)
    simpa using this
  · rw [if_neg (by omega)]
    congr 1
    symm
    apply decide_eq_false
    intro e
    exact h (by rw [e])
def marks (n : Nat) (k : Int) : List Int := (List.range n).map fun (i : Nat) => k + (i : Int)
theorem marks_length (n : Nat) (k : Int) : (marks n k).length = n := by simp [marks]
theorem marks_succ (n : Nat) (k : Int) : marks (n + 1) k = k :: marks n (k + 1) := by
  unfold marks
  rw [List.range_succ_eq_map, List.map_cons, List.map_map]
  congr 1
  · simp
  · apply List.map_congr_left
    intro a _
    simp
    omega
theorem markIntS_l0 : ∀ (d i : Nat) (x0 : List Int) (x1 : Int) (k : Nat), x0.length - i = d → i ≤ x0.length → d < k → x0.length ≤ 1152921504606846976 → 0 ≤ x1 → x1 + d ≤ 4611686018427387904 →
    laws_markIntS.l0 k x0 x1 (i : Int) = some (x1 + d, x0.take i ++ marks d x1) := by
  intro d
  induction d with
  | zero =>
    intro i x0 x1 k hd hi hk hb h0 h1
    obtain ⟨k, rfl⟩ : ∃ m, k = m + 1 := ⟨k - 1, by omega⟩
    rw [laws_markIntS.l0, if_neg (by omega)]
    have : i = x0.length := by omega
    subst this
    simp [marks]
  | succ d ih =>
    intro i x0 x1 k hd hi hk hb h0 h1
    obtain ⟨k, rfl⟩ : ∃ m, k = m + 1 := ⟨k - 1, by omega⟩
    rw [laws_markIntS.l0, if_pos (by omega), if_pos (by omega), w64 _ (by omega) (by omega), w64 _ (by omega) (by omega)]
    rw [show ((i : Int) + 1) = ((i + 1 : Nat) : Int) by omega, show (i : Int).toNat = i by omega]
    rw [ih (i + 1) (x0.set i x1) (x1 + 1) k (by simp; omega) (by simp; omega) (by omega) (by simpa using hb) (by omega) (by omega)]
    rw [marks_succ]
    congr 2
    · omega
    · rw [take_set_succ _ _ _ (by omega)]
      simp
theorem markIntS_ev (l : List Int) (k1 : Int) (hb : l.length ≤ 1152921504606846976) (h0 : 0 ≤ k1) (h1 : k1 + l.length ≤ 4611686018427387904) : Ev (fun k => laws_markIntS.f k l k1) (k1 + l.length, marks l.length k1) := by
  refine ⟨l.length + 1, fun k hk => ?_⟩
  simp only [laws_markIntS.f]
  have := markIntS_l0 l.length 0 l k1 k (by omega) (by omega) (by omega) hb h0 h1
  simpa using this
theorem heldIntS_l0 (n : Nat) (k0 : Int) (hb : n ≤ 1152921504606846976) (h0 : 0 ≤ k0) (h1 : k0 + n ≤ 4611686018427387904) : ∀ (d i : Nat) (k : Nat), n - i = d → i ≤ n → d < k →
    laws_heldIntS.l0 k (marks n k0) (k0 + i) (i : Int) = some (k0 + n) := by
  intro d
  induction d with
  | zero =>
    intro i k hd hi hk
    obtain ⟨k, rfl⟩ : ∃ m, k = m + 1 := ⟨k - 1, by omega⟩
    rw [laws_heldIntS.l0, if_neg (by rw [marks_length]; omega)]
    congr 1; omega
  | succ d ih =>
    intro i k hd hi hk
    obtain ⟨k, rfl⟩ : ∃ m, k = m + 1 := ⟨k - 1, by omega⟩
    have h2 : i < (marks n k0).length := by rw [marks_length]; omega
    rw [laws_heldIntS.l0, if_pos (by rw [marks_length]; omega), if_pos (by omega), rd_nat _ _ h2, if_pos (by simp [marks]), w64 _ (by omega) (by omega), w64 _ (by omega) (by omega)]
    have := ih (i + 1) k (by omega) (by omega) (by omega)
    rw [show ((i : Int) + 1) = ((i + 1 : Nat) : Int) by omega, show (k0 + (i : Int) + 1) = k0 + ((i + 1 : Nat) : Int) by omega]
    exact this
theorem heldIntS_ev (n : Nat) (k0 : Int) (hb : n ≤ 1152921504606846976) (h0 : 0 ≤ k0) (h1 : k0 + n ≤ 4611686018427387904) : Ev (fun k => laws_heldIntS.f k (marks n k0) k0) (k0 + n) := by
  refine ⟨n + 1, fun k hk => ?_⟩
  simp only [laws_heldIntS.f]
  have := heldIntS_l0 n k0 hb h0 h1 n 0 k (by omega) (by omega) (by omega)
  simpa using this
def inB (n lo hi : Int) : Bool := decide (lo ≤ n ∧ n ≤ hi)
theorem l1In_eq (a b c : Int) : spec_l1In.f a b c = some (inB a b c) := by
  unfold spec_l1In.f inB
  by_cases h : a ≥ b
  · rw [if_pos h]; congr 1; simp; omega
  · rw [if_neg h]; congr 1; symm; apply decide_eq_false; omega
theorem within_eq (a b c : Int) : impl_within.f a b c = some (inB a b c) := by
  unfold impl_within.f inB
  by_cases h : b ≤ a
  · rw [if_pos h]; congr 1; simp; omega
  · rw [if_neg h]; congr 1; symm; apply decide_eq_false; omega
def allIn (l : List Int) (lo hi : Int) : Bool := l.all fun x => inB x lo hi
theorem l1All_l0 (lo hi : Int) (l : List Int) (hb : l.length ≤ 1152921504606846976) : ∀ (d i : Nat) (k : Nat), l.length - i = d → i ≤ l.length → d < k →
    spec_l1All.l0 k lo hi l (l.length : Int) (i : Int) = some (allIn (l.drop i) lo hi) := by
  intro d
  induction d with
  | zero =>
    intro i k hd hi' hk
    obtain ⟨k, rfl⟩ : ∃ m, k = m + 1 := ⟨k - 1, by omega⟩
    rw [spec_l1All.l0, if_neg (by omega), List.drop_eq_nil_of_le (by omega)]
    rfl
  | succ d ih =>
    intro i k hd hi' hk
    obtain ⟨k, rfl⟩ : ∃ m, k = m + 1 := ⟨k - 1, by omega⟩
    have h1 : i < l.length := by omega
    rw [spec_l1All.l0, if_pos (by omega), if_pos (by omega), if_pos (by omega), l1In_eq, Option.bind_some, w64 _ (by omega) (by omega), rd_nat _ _ h1]
    rw [show ((i : Int) + 1) = ((i + 1 : Nat) : Int) by omega, ih (i + 1) k (by omega) (by omega) (by omega), drop_cons l i h1]
    unfold allIn
    rw [List.all_cons]
    generalize l.drop (i + 1) = tl
    by_cases h : inB l[i] lo hi = true
    · rw [if_pos h, h]; simp
    · rw [if_neg h]; simp at h; rw [h]; simp
theorem l1All_ev (l : List Int) (lo hi : Int) (hb : l.length ≤ 1152921504606846976) : Ev (fun k => spec_l1All.f k l lo hi) (allIn l lo hi) := by
  refine ⟨l.length + 1, fun k hk => ?_⟩
  simp only [spec_l1All.f]
  have := l1All_l0 lo hi l hb l.length 0 k (by omega) (by omega) (by omega)
  simpa using this
end Go.Proofs.Ythlcaikplebpmaa.P
namespace Go.Proofs.Ythlcaikplebpmaa.P
open Go.RowKit Go.Proofs.YthlcaikplebpmaaW.PrintWords Go.Proofs.YthlcaikplebpmaaW.PrintLast Go.Proofs.YthlcaikplebpmaaW.PrintMore
set_option linter.unusedVariables false
set_option linter.unusedSimpArgs false
theorem boardB_iff (r c : Int) (l : List Int) : boardB r c l = true ↔ (1 ≤ r ∧ r ≤ 6) ∧ (1 ≤ c ∧ c ≤ 6) ∧ (l.length : Int) = r ∧ ∀ m ∈ l, 0 ≤ m ∧ m ≤ 2 ^ c.toNat - 1 := by
  unfold boardB
  simp only [Bool.and_eq_true, decide_eq_true_eq, List.all_eq_true]
  constructor
  · rintro ⟨⟨⟨a, b⟩, c⟩, d⟩; exact ⟨a, b, c, d⟩
  · rintro ⟨a, b, c, d⟩; exact ⟨⟨⟨a, b⟩, c⟩, d⟩
theorem shl_one (c : Int) (h0 : 0 ≤ c) (h1 : c ≤ 62) : shl .i64 1 c = 2 ^ c.toNat := by
  unfold shl
  rw [Int.one_mul, Nat.min_eq_left (show c.toNat ≤ IntKind.i64.bits by have : IntKind.i64.bits = 64 := rfl; omega)]
  rw [i64_w, w64]
  · have : (0 : Int) ≤ 2 ^ c.toNat := Int.le_of_lt (Int.pow_pos (by decide))
    omega
  · have h : (2 : Int) ^ c.toNat ≤ 2 ^ 62 := by
      have := Nat.pow_le_pow_right (show 0 < 2 by decide) (show c.toNat ≤ 62 by omega)
      exact_mod_cast this
    have e : (2 : Int) ^ 62 = 4611686018427387904 := by decide
    omega
theorem pow_le6 (c : Int) (h1 : c ≤ 6) : (2 : Int) ^ c.toNat ≤ 64 := by
  have := Nat.pow_le_pow_right (show 0 < 2 by decide) (show c.toNat ≤ 6 by omega)
  have h : (2 : Int) ^ c.toNat ≤ 2 ^ 6 := by exact_mod_cast this
  exact h
theorem pow_pos2 (c : Int) : (1 : Int) ≤ 2 ^ c.toNat := by
  have : (0 : Int) < 2 ^ c.toNat := Int.pow_pos (by decide)
  omega
theorem boSide_eq (a : Int) : spec_boSide.f a = some (inB a 1 6) := by
  simp only [spec_boSide.f, l1In_eq, Option.bind_some]
theorem boGood_ev (r c : Int) (l : List Int) (hb : l.length ≤ 1152921504606846976) : Ev (fun k => spec_boGood.f k r c l) (boardB r c l) := by
  by_cases h1 : 1 ≤ r ∧ r ≤ 6
  · by_cases h2 : 1 ≤ c ∧ c ≤ 6
    · by_cases h3 : (l.length : Int) = r
      · obtain ⟨K, hK⟩ := ev_get (l1All_ev l 0 (2 ^ c.toNat - 1) hb)
        refine ⟨K, fun k hk => ?_⟩
        have hp := pow_le6 c h2.2
        have hp2 := pow_pos2 c
        simp only [spec_boGood.f, boSide_eq, Option.bind_some]
        rw [if_pos (by simpa [inB] using h1), if_pos (by simpa [inB] using h2), if_pos h3, if_pos (by omega), shl_one c (by omega) (by omega), w64 _ (by omega) (by omega), hK k hk, Option.bind_some]
        congr 1
        unfold boardB allIn inB
        simp [h1, h2, h3]
      · refine ⟨0, fun k hk => ?_⟩
        simp only [spec_boGood.f, boSide_eq, Option.bind_some]
        rw [if_pos (by simpa [inB] using h1), if_pos (by simpa [inB] using h2), if_neg h3]
        congr 1; unfold boardB; simp [h3]
    · refine ⟨0, fun k hk => ?_⟩
      simp only [spec_boGood.f, boSide_eq, Option.bind_some]
      rw [if_pos (by simpa [inB] using h1), if_neg (by simpa [inB] using h2)]
      congr 1; unfold boardB; rw [decide_eq_false h2]; simp
  · refine ⟨0, fun k hk => ?_⟩
    simp only [spec_boGood.f, boSide_eq, Option.bind_some]
    rw [if_neg (by simpa [inB] using h1)]
    congr 1; unfold boardB; rw [decide_eq_false h1]; simp
theorem szBoard_eq (r c : Int) (l : List Int) (left : Int) (h0 : 0 ≤ left) (h1 : left ≤ 1048576) (hl : l.length ≤ maxLen) : laws_szBoard.f r c l left = some (if left - l.length < 0 then -1 else left - l.length) := by
  simp only [laws_szBoard.f, laws_szIntS.f]
  simp only [maxLen] at hl
  rw [w64 _ (by omega) (by omega)]
  split
  · simp only [Option.bind_some]; simp
  · simp only [Option.bind_some]; simp [*]
theorem toBoard_ev (r c : Int) (l : List Int) (hl : l.length ≤ 35184372088832) : Ev (fun k => laws_toBoard.f k r c l) (r, c, l) := by
  obtain ⟨K, hK⟩ := ev_get (toIntS_ev l hl)
  refine ⟨K, fun k hk => ?_⟩
  simp only [laws_toBoard.f, hK k hk, Option.bind_some]
theorem eqBoard_ev (r c : Int) (l : List Int) (hb : l.length ≤ 1152921504606846976) : Ev (fun k => laws_eqBoard.f k r c l r c l) true := by
  obtain ⟨K, hK⟩ := ev_get (eqIntS_ev l l hb)
  refine ⟨K, fun k hk => ?_⟩
  simp only [laws_eqBoard.f, hK k hk, Option.bind_some, if_true, decide_true]
theorem markBoard_ev (r c : Int) (l : List Int) (hb : l.length ≤ 1152921504606846976) : Ev (fun k => laws_markBoard.f k r c l 1) (1 + l.length, marks l.length 1) := by
  obtain ⟨K, hK⟩ := ev_get (markIntS_ev l 1 hb (by omega) (by omega))
  refine ⟨K, fun k hk => ?_⟩
  simp only [laws_markBoard.f, hK k hk, Option.bind_some]
end Go.Proofs.Ythlcaikplebpmaa.P
namespace Go.Proofs.Ythlcaikplebpmaa.P
open Go.RowKit Go.Proofs.YthlcaikplebpmaaW.PrintWords Go.Proofs.YthlcaikplebpmaaW.PrintLast Go.Proofs.YthlcaikplebpmaaW.PrintMore
set_option linter.unusedVariables false
set_option linter.unusedSimpArgs false
theorem rdL_mid (a b : List (List Int)) (l : List Int) : rd_L1 (a ++ l :: b) (a.length : Int) = l := by
  unfold rd_L1; simp
theorem rdL_nat (s : List (List Int)) (i : Nat) (h : i < s.length) : rd_L1 s (i : Int) = s[i] := by
  unfold rd_L1; simp [List.getD_eq_getElem?_getD, List.getElem?_eq_getElem h]
def total : List (List Int) → Nat
  | [] => 0
  | l :: s => l.length + total s
theorem total_le {s : List (List Int)} {c : Nat} (h : ∀ l ∈ s, l.length ≤ c) : total s ≤ c * s.length := by
  induction s with
  | nil => simp [total]
  | cons x s ih =>
    have h1 := h x (List.mem_cons_self ..)
    have h2 := ih (fun l hl => h l (List.mem_cons_of_mem _ hl))
    simp only [total, List.length_cons, Nat.mul_succ]
    omega
def marksS : List (List Int) → Int → List (List Int)
  | [], _ => []
  | l :: s, k => marks l.length k :: marksS s (k + l.length)
theorem eqIntSS_l0 : ∀ (rest rest2 done done2 : List (List Int)), rest.length = rest2.length → done.length = done2.length → (done ++ rest).length ≤ 1152921504606846976 → (∀ l ∈ rest, l.length ≤ 1152921504606846976) →
    Ev (fun k => laws_eqIntSS.l0 k (done ++ rest) (done2 ++ rest2) (done.length : Int)) (decide (rest = rest2)) := by
  intro rest
  induction rest with
  | nil =>
    intro rest2 done done2 h1 h2 hb hl
    refine ⟨1, fun k hk => ?_⟩
    obtain ⟨k, rfl⟩ : ∃ m, k = m + 1 := ⟨k - 1, by omega⟩
    simp only [laws_eqIntSS.l0]
    obtain rfl : rest2 = [] := List.length_eq_zero_iff.1 (by simpa using h1.symm)
    rw [if_neg (by simp)]; simp
  | cons l rest ih =>
    intro rest2 done done2 h1 h2 hb hl
    obtain ⟨l2, rest2, rfl⟩ : ∃ y t, rest2 = y :: t := by
      cases rest2 with
      | nil => simp at h1
      | cons y t => exact ⟨y, t, rfl⟩
    simp only [List.length_append, List.length_cons] at hb h1
    obtain ⟨K1, h3⟩ := ev_get (eqIntS_ev l l2 (hl l (List.mem_cons_self ..)))
    obtain ⟨K2, h4⟩ := ev_get (ih rest2 (done ++ [l]) (done2 ++ [l2]) (by omega) (by simp; omega) (by simp; omega) (fun l hm => hl l (List.mem_cons_of_mem _ hm)))
    refine ⟨K1 + K2 + 1, fun k hk => ?_⟩
    obtain ⟨k, rfl⟩ : ∃ m, k = m + 1 := ⟨k - 1, by omega⟩
    simp only [laws_eqIntSS.l0]
    have e : rd_L1 (done2 ++ l2 :: rest2) (done.length : Int) = l2 := by rw [h2]; exact rdL_mid _ _ _
    rw [if_pos (by simp; omega), if_pos (by omega), if_pos (by simp; omega), rdL_mid, e, h3 k (by omega), Option.bind_some, w64 _ (by omega) (by omega)]
    have h5 := h4 k (by omega)
    simp only [List.append_assoc, List.singleton_append, List.length_append, List.length_cons, List.length_nil] at h5
    by_cases h : l = l2
    · rw [if_pos (by simpa using h)]
      refine h5.trans ?_
      simp [h]
    · rw [if_neg (by simpa using h)]
      simp [h]
theorem eqIntSS_ev (a b : List (List Int)) (hb : a.length ≤ 1152921504606846976) (hl : ∀ l ∈ a, l.length ≤ 1152921504606846976) : Ev (fun k => laws_eqIntSS.f k a b) (decide (a = b)) := by
  by_cases h : a.length = b.length
  · obtain ⟨K, hK⟩ := ev_get (eqIntSS_l0 a b [] [] h rfl (by simpa using hb) hl)
    refine ⟨K, fun k hk => ?_⟩
    simp only [laws_eqIntSS.f]
    rw [if_pos (by omega)]
    simpa using hK k hk
  · refine ⟨0, fun k hk => ?_⟩
    simp only [laws_eqIntSS.f]
    rw [if_neg (by omega)]
    congr 1; symm; apply decide_eq_false
    exact fun e => h (by rw [e])
theorem markIntSS_l0 : ∀ (rest done : List (List Int)) (x1 : Int), (done ++ rest).length ≤ 1152921504606846976 → total rest ≤ 1152921504606846976 → 0 ≤ x1 → x1 + total rest ≤ 4611686018427387904 →
    Ev (fun k => laws_markIntSS.l0 k (done ++ rest) x1 (done.length : Int)) (x1 + total rest, done ++ marksS rest x1) := by
  intro rest
  induction rest with
  | nil =>
    intro done x1 hb ht h0 h1
    refine ⟨1, fun k hk => ?_⟩
    obtain ⟨k, rfl⟩ : ∃ m, k = m + 1 := ⟨k - 1, by omega⟩
    simp only [laws_markIntSS.l0]
    rw [if_neg (by simp)]
    simp [total, marksS]
  | cons l rest ih =>
    intro done x1 hb ht h0 h1
    simp only [List.length_append, List.length_cons, total] at hb ht h1
    obtain ⟨K1, h3⟩ := ev_get (markIntS_ev l x1 (by omega) h0 (by omega))
    obtain ⟨K2, h4⟩ := ev_get (ih (done ++ [marks l.length x1]) (x1 + l.length) (by simp; omega) (by omega) (by omega) (by omega))
    refine ⟨K1 + K2 + 1, fun k hk => ?_⟩
    obtain ⟨k, rfl⟩ : ∃ m, k = m + 1 := ⟨k - 1, by omega⟩
    simp only [laws_markIntSS.l0]
    rw [if_pos (by simp; omega), if_pos (by omega), rdL_mid, h3 k (by omega), Option.bind_some, w64 _ (by omega) (by omega), show ((done.length : Int)).toNat = done.length by omega, List.set_append_right _ _ (Nat.le_refl _), Nat.sub_self, List.set_cons_zero]
    have h5 := h4 k (by omega)
    simp only [List.append_assoc, List.singleton_append, List.length_append, List.length_cons, List.length_nil] at h5
    refine h5.trans ?_
    simp only [total, marksS, Option.some.injEq, Prod.mk.injEq, and_true]
    omega
theorem markIntSS_ev (s : List (List Int)) (k0 : Int) (hb : s.length ≤ 1152921504606846976) (ht : total s ≤ 1152921504606846976) (h0 : 0 ≤ k0) (h1 : k0 + total s ≤ 4611686018427387904) :
    Ev (fun k => laws_markIntSS.f k s k0) (k0 + total s, marksS s k0) := by
  have := markIntSS_l0 s [] k0 (by simpa using hb) ht h0 h1
  simpa [laws_markIntSS.f] using this
theorem heldIntSS_l0 : ∀ (rest done : List (List Int)) (x1 : Int), (done ++ rest).length ≤ 1152921504606846976 → total rest ≤ 1152921504606846976 → 0 ≤ x1 → x1 + total rest ≤ 4611686018427387904 →
    Ev (fun k => laws_heldIntSS.l0 k (done ++ marksS rest x1) x1 (done.length : Int)) (x1 + total rest) := by
  intro rest
  induction rest with
  | nil =>
    intro done x1 hb ht h0 h1
    refine ⟨1, fun k hk => ?_⟩
    obtain ⟨k, rfl⟩ : ∃ m, k = m + 1 := ⟨k - 1, by omega⟩
    show laws_heldIntSS.l0 (k + 1) (done ++ []) x1 (done.length : Int) = _
    simp only [laws_heldIntSS.l0]
    rw [if_neg (by simp)]
    simp [total]
  | cons l rest ih =>
    intro done x1 hb ht h0 h1
    simp only [List.length_append, List.length_cons, total] at hb ht h1
    obtain ⟨K1, h3⟩ := ev_get (heldIntS_ev l.length x1 (by omega) h0 (by omega))
    obtain ⟨K2, h4⟩ := ev_get (ih (done ++ [marks l.length x1]) (x1 + l.length) (by simp; omega) (by omega) (by omega) (by omega))
    refine ⟨K1 + K2 + 1, fun k hk => ?_⟩
    obtain ⟨k, rfl⟩ : ∃ m, k = m + 1 := ⟨k - 1, by omega⟩
    show laws_heldIntSS.l0 (k + 1) (done ++ marks l.length x1 :: marksS rest (x1 + l.length)) x1 (done.length : Int) = _
    simp only [laws_heldIntSS.l0]
    rw [if_pos (by simp; omega), if_pos (by omega), rdL_mid, h3 k (by omega), Option.bind_some, if_neg (by omega), w64 _ (by omega) (by omega)]
    have h5 := h4 k (by omega)
    simp only [List.append_assoc, List.singleton_append, List.length_append, List.length_cons, List.length_nil] at h5
    refine h5.trans ?_
    simp only [total, Option.some.injEq]
    omega
theorem heldIntSS_ev (s : List (List Int)) (k0 : Int) (hb : s.length ≤ 1152921504606846976) (ht : total s ≤ 1152921504606846976) (h0 : 0 ≤ k0) (h1 : k0 + total s ≤ 4611686018427387904) :
    Ev (fun k => laws_heldIntSS.f k (marksS s k0) k0) (k0 + total s) := by
  have := heldIntSS_l0 s [] k0 (by simpa using hb) ht h0 h1
  simpa [laws_heldIntSS.f] using this
end Go.Proofs.Ythlcaikplebpmaa.P
namespace Go.Proofs.Ythlcaikplebpmaa.P
open Go.RowKit Go.Proofs.YthlcaikplebpmaaW.PrintWords Go.Proofs.YthlcaikplebpmaaW.PrintLast Go.Proofs.YthlcaikplebpmaaW.PrintMore
set_option linter.unusedVariables false
set_option linter.unusedSimpArgs false
/-- A mask has a column. -/
def hasM (m : Int) (j : Int) : Bool := Int.tmod (shr .i64 m j) 2 == 1
theorem has_bits : ∀ m : Fin 64, ∀ c : Fin 6, (Go.bits .and .i64 (shr .i64 (m.val : Int) (c.val : Int)) 1 == 1) = hasM (m.val : Int) (c.val : Int) := by decide +kernel
theorem has_bits' (m c : Int) (h0 : 0 ≤ m) (h1 : m ≤ 63) (h2 : 0 ≤ c) (h3 : c ≤ 5) : (Go.bits .and .i64 (shr .i64 m c) 1 == 1) = hasM m c := by
  have h := has_bits ⟨m.toNat, by omega⟩ ⟨c.toNat, by omega⟩
  simp only [show ((m.toNat : Nat) : Int) = m by omega, show ((c.toNat : Nat) : Int) = c by omega] at h
  exact h
/-- The board has the cell. -/
def hasC (l : List Int) (i j : Int) : Bool := hasM (rd l i) j
theorem board_row {r c : Int} {l : List Int} (h : boardB r c l = true) {i : Int} (h0 : 0 ≤ i) (h1 : i < r) : 0 ≤ rd l i ∧ rd l i ≤ 63 := by
  obtain ⟨hr, hc, hl, hm⟩ := (boardB_iff r c l).1 h
  have hp6 := pow_le6 c hc.2
  have hx : i.toNat < l.length := by omega
  have := hm l[i.toNat] (List.getElem_mem hx)
  have e : rd l i = l[i.toNat] := by
    have := rd_nat l i.toNat hx
    rwa [show ((i.toNat : Nat) : Int) = i by omega] at this
  rw [e]; omega
theorem boHas_eq {r c : Int} {l : List Int} (h : boardB r c l = true) {i j : Int} (h0 : 0 ≤ i) (h1 : i < r) (h2 : 0 ≤ j) : spec_boHas.f r c l i j = some (hasC l i j) := by
  obtain ⟨hr, hc, hl, hm⟩ := (boardB_iff r c l).1 h
  simp only [spec_boHas.f]
  rw [if_pos h0, if_pos (by omega), if_pos h2]
  rfl
theorem has_eq {r c : Int} {l : List Int} (h : boardB r c l = true) {i j : Int} (h0 : 0 ≤ i) (h1 : i < r) (h2 : 0 ≤ j) (h3 : j < c) : impl_Board_has.f r c l i j = some (hasC l i j) := by
  obtain ⟨hr, hc, hl, hm⟩ := (boardB_iff r c l).1 h
  have hb := board_row h h0 h1
  simp only [impl_Board_has.f]
  rw [if_pos h0, if_pos (by omega), if_pos h2, has_bits' _ _ hb.1 hb.2 h2 (by omega)]
  rfl
theorem crange'_step (s n : Nat) (h : s < n) : List.range' s (n - s) = s :: List.range' (s + 1) (n - (s + 1)) := by
  rw [show n - s = (n - (s + 1)) + 1 by omega, List.range'_succ]
def cellRow (l : List Int) (i C j : Nat) : List (List Int) := (List.range' j (C - j)).flatMap fun (j : Nat) => if hasC l (i : Int) (j : Int) = true then [[(i : Int), (j : Int)]] else []
def cellsFrom (l : List Int) (R C i : Nat) : List (List Int) := (List.range' i (R - i)).flatMap fun (i : Nat) => cellRow l i C 0
theorem cellRow_step (l : List Int) (i C j : Nat) (h : j < C) : cellRow l i C j = (if hasC l (i : Int) (j : Int) = true then [[(i : Int), (j : Int)]] else []) ++ cellRow l i C (j + 1) := by
  unfold cellRow
  rw [crange'_step j C h, List.flatMap_cons]
theorem cellRow_nil (l : List Int) (i C j : Nat) (h : C ≤ j) : cellRow l i C j = [] := by
  unfold cellRow
  rw [show C - j = 0 by omega]; rfl
theorem cellsFrom_step (l : List Int) (R C i : Nat) (h : i < R) : cellsFrom l R C i = cellRow l i C 0 ++ cellsFrom l R C (i + 1) := by
  unfold cellsFrom
  rw [crange'_step i R h, List.flatMap_cons]
theorem cellsFrom_nil (l : List Int) (R C i : Nat) (h : R ≤ i) : cellsFrom l R C i = [] := by
  unfold cellsFrom
  rw [show R - i = 0 by omega]; rfl
theorem cellRow_len (l : List Int) (i C : Nat) : ∀ (d j : Nat), C - j = d → (cellRow l i C j).length ≤ d
  | 0, j, h => by rw [cellRow_nil l i C j (by omega)]; simp
  | d + 1, j, h => by
    rw [cellRow_step l i C j (by omega), List.length_append]
    have := cellRow_len l i C d (j + 1) (by omega)
    split <;> simp <;> omega
theorem cellsFrom_len (l : List Int) (R C : Nat) : ∀ (d i : Nat), R - i = d → (cellsFrom l R C i).length ≤ d * C
  | 0, i, h => by rw [cellsFrom_nil l R C i (by omega)]; simp
  | d + 1, i, h => by
    rw [cellsFrom_step l R C i (by omega), List.length_append, Nat.succ_mul]
    have := cellsFrom_len l R C d (i + 1) (by omega)
    have := cellRow_len l i C C 0 (by omega)
    omega
theorem cellRow_mem (l : List Int) (i C j : Nat) (x : List Int) : x ∈ cellRow l i C j ↔ ∃ q, j ≤ q ∧ q < C ∧ hasC l (i : Int) (q : Int) = true ∧ x = [(i : Int), (q : Int)] := by
  unfold cellRow
  rw [List.mem_flatMap]
  constructor
  · rintro ⟨q, hq, hx⟩
    rw [List.mem_range'_1] at hq
    split at hx
    · rename_i hh
      exact ⟨q, by omega, by omega, hh, by simpa using hx⟩
    · cases hx
  · rintro ⟨q, h1, h2, h3, rfl⟩
    refine ⟨q, by rw [List.mem_range'_1]; omega, ?_⟩
    rw [if_pos h3]; simp
theorem cellsFrom_mem (l : List Int) (R C i : Nat) (x : List Int) : x ∈ cellsFrom l R C i ↔ ∃ p q, i ≤ p ∧ p < R ∧ q < C ∧ hasC l (p : Int) (q : Int) = true ∧ x = [(p : Int), (q : Int)] := by
  unfold cellsFrom
  rw [List.mem_flatMap]
  constructor
  · rintro ⟨p, hp, hx⟩
    rw [List.mem_range'_1] at hp
    obtain ⟨q, _, h2, h3, h4⟩ := (cellRow_mem l p C 0 x).1 hx
    exact ⟨p, q, by omega, by omega, h2, h3, h4⟩
  · rintro ⟨p, q, h1, h2, h3, h4, h5⟩
    exact ⟨p, by rw [List.mem_range'_1]; omega, (cellRow_mem l p C 0 x).2 ⟨q, by omega, h3, h4, h5⟩⟩
def cells (r c : Int) (l : List Int) : List (List Int) := cellsFrom l r.toNat c.toNat 0
/-- Two numbers from 0 to 5. -/
def Cell6 (x : List Int) : Prop := ∃ p q : Int, x = [p, q] ∧ (0 ≤ p ∧ p ≤ 5) ∧ (0 ≤ q ∧ q ≤ 5)
theorem cells_cell {r c : Int} {l : List Int} (h : boardB r c l = true) {x : List Int} (hx : x ∈ cells r c l) : Cell6 x := by
  obtain ⟨hr, hc, _, _⟩ := (boardB_iff r c l).1 h
  obtain ⟨p, q, _, h2, h3, _, rfl⟩ := (cellsFrom_mem l _ _ _ x).1 hx
  exact ⟨p, q, rfl, by omega, by omega⟩
theorem cells_len {r c : Int} {l : List Int} (h : boardB r c l = true) : (cells r c l).length ≤ 36 := by
  obtain ⟨hr, hc, _, _⟩ := (boardB_iff r c l).1 h
  have := cellsFrom_len l r.toNat c.toNat r.toNat 0 (by omega)
  have h2 : r.toNat * c.toNat ≤ 6 * 6 := Nat.mul_le_mul (by omega) (by omega)
  unfold cells; omega
theorem boCells_ev {r c : Int} {l : List Int} (h : boardB r c l = true) : Ev (fun k => spec_boCells.f k r c l) (cells r c l) := by
  obtain ⟨hr, hc, hl, hm⟩ := (boardB_iff r c l).1 h
  obtain ⟨R, rfl⟩ : ∃ R : Nat, r = R := ⟨r.toNat, by omega⟩
  obtain ⟨C, rfl⟩ : ∃ C : Nat, c = C := ⟨c.toNat, by omega⟩
  have hout : ∀ (d i : Nat) (acc : List (List Int)), R - i = d → i ≤ R → acc.length ≤ 6 * i → Ev (fun k => spec_boCells.l0 k acc (i : Int) (R : Int) (C : Int) l) (acc ++ cellsFrom l R C i) := by
    intro d
    induction d with
    | zero =>
      intro i acc hd hi ha
      refine ⟨1, fun k hk => ?_⟩
      obtain ⟨k, rfl⟩ : ∃ m, k = m + 1 := ⟨k - 1, by omega⟩
      dsimp only
      rw [spec_boCells.l0, if_neg (by omega), cellsFrom_nil l R C i (by omega), List.append_nil]
    | succ d ih =>
      intro i acc hd hi ha
      have hin : ∀ (e j : Nat) (acc : List (List Int)), C - j = e → j ≤ C → acc.length ≤ 6 * i + j → Ev (fun k => spec_boCells.l1 k acc (i : Int) (j : Int) (R : Int) (C : Int) l) (acc ++ cellRow l i C j ++ cellsFrom l R C (i + 1)) := by
        intro e
        induction e with
        | zero =>
          intro j acc he hj ha
          obtain ⟨K, hK⟩ := ev_get (ih (i + 1) acc (by omega) (by omega) (by omega))
          refine ⟨K + 1, fun k hk => ?_⟩
          obtain ⟨k, rfl⟩ : ∃ m, k = m + 1 := ⟨k - 1, by omega⟩
          dsimp only
          rw [spec_boCells.l1, if_neg (by omega), cellRow_nil l i C j (by omega), List.append_nil, w64 _ (by omega) (by omega), show ((i : Int) + 1) = ((i + 1 : Nat) : Int) by omega]
          exact hK k (by omega)
        | succ e ihe =>
          intro j acc he hj ha
          obtain ⟨K1, h1⟩ := ev_get (ihe (j + 1) (acc ++ [[(i : Int), (j : Int)]]) (by omega) (by omega) (by simp; omega))
          obtain ⟨K2, h2⟩ := ev_get (ihe (j + 1) acc (by omega) (by omega) (by omega))
          refine ⟨K1 + K2 + 1, fun k hk => ?_⟩
          obtain ⟨k, rfl⟩ : ∃ m, k = m + 1 := ⟨k - 1, by omega⟩
          dsimp only
          rw [spec_boCells.l1, if_pos (by omega), boHas_eq h (by omega) (by omega) (by omega), Option.bind_some, if_pos (show acc.length < 5864062014805 by omega), w64 ((j : Int) + 1) (by omega) (by omega), show ((j : Int) + 1) = ((j + 1 : Nat) : Int) by omega, h1 k (by omega), h2 k (by omega), cellRow_step l i C j (by omega)]
          by_cases hh : hasC l (i : Int) (j : Int) = true
          · rw [if_pos hh, if_pos hh]; simp [List.append_assoc]
          · rw [if_neg hh, if_neg hh]; simp
      obtain ⟨K, hK⟩ := ev_get (hin C 0 acc (by omega) (by omega) (by omega))
      refine ⟨K + 1, fun k hk => ?_⟩
      obtain ⟨k, rfl⟩ : ∃ m, k = m + 1 := ⟨k - 1, by omega⟩
      dsimp only
      rw [spec_boCells.l0, if_pos (by omega), cellsFrom_step l R C i (by omega), ← List.append_assoc]
      exact hK k (by omega)
  obtain ⟨K, hK⟩ := ev_get (hout R 0 [] (by omega) (by omega) (by simp))
  refine ⟨K, fun k hk => ?_⟩
  simp only [spec_boCells.f]
  simpa [cells] using hK k hk
theorem CellsOf_ev (r c : Int) (l : List Int) : Ev (fun k => impl_CellsOf.f k r c l) (if boardB r c l = true then (cells r c l, true) else ([], false)) := by
  by_cases h0 : ¬ boardB r c l = true
  · refine ⟨0, fun k hk => ?_⟩
    simp only [impl_CellsOf.f, impl_IsBoard.f, Option.bind_some, if_neg h0]
  have h := Classical.not_not.1 h0
  rw [if_pos h]
  obtain ⟨hr, hc, hl, hm⟩ := (boardB_iff r c l).1 h
  obtain ⟨R, rfl⟩ : ∃ R : Nat, r = R := ⟨r.toNat, by omega⟩
  obtain ⟨C, rfl⟩ : ∃ C : Nat, c = C := ⟨c.toNat, by omega⟩
  have hout : ∀ (d i : Nat) (acc : List (List Int)), R - i = d → i ≤ R → acc.length ≤ 6 * i → Ev (fun k => impl_CellsOf.l0 k acc (R : Int) (i : Int) (R : Int) (C : Int) l) (acc ++ cellsFrom l R C i, true) := by
    intro d
    induction d with
    | zero =>
      intro i acc hd hi ha
      refine ⟨1, fun k hk => ?_⟩
      obtain ⟨k, rfl⟩ : ∃ m, k = m + 1 := ⟨k - 1, by omega⟩
      dsimp only
      rw [impl_CellsOf.l0, if_neg (by omega), cellsFrom_nil l R C i (by omega), List.append_nil]
    | succ d ih =>
      intro i acc hd hi ha
      have hin : ∀ (e j : Nat) (acc : List (List Int)), C - j = e → j ≤ C → acc.length ≤ 6 * i + j → Ev (fun k => impl_CellsOf.l1 k acc (i : Int) (R : Int) (i : Int) (C : Int) (j : Int) (R : Int) (C : Int) l) (acc ++ cellRow l i C j ++ cellsFrom l R C (i + 1), true) := by
        intro e
        induction e with
        | zero =>
          intro j acc he hj ha
          obtain ⟨K, hK⟩ := ev_get (ih (i + 1) acc (by omega) (by omega) (by omega))
          refine ⟨K + 1, fun k hk => ?_⟩
          obtain ⟨k, rfl⟩ : ∃ m, k = m + 1 := ⟨k - 1, by omega⟩
          dsimp only
          rw [impl_CellsOf.l1, if_neg (by omega), cellRow_nil l i C j (by omega), List.append_nil, w64 _ (by omega) (by omega), show ((i : Int) + 1) = ((i + 1 : Nat) : Int) by omega]
          exact hK k (by omega)
        | succ e ihe =>
          intro j acc he hj ha
          obtain ⟨K1, h1⟩ := ev_get (ihe (j + 1) (acc ++ [[(i : Int), (j : Int)]]) (by omega) (by omega) (by simp; omega))
          obtain ⟨K2, h2⟩ := ev_get (ihe (j + 1) acc (by omega) (by omega) (by omega))
          refine ⟨K1 + K2 + 1, fun k hk => ?_⟩
          obtain ⟨k, rfl⟩ : ∃ m, k = m + 1 := ⟨k - 1, by omega⟩
          dsimp only
          rw [impl_CellsOf.l1, if_pos (by omega), has_eq h (by omega) (by omega) (by omega) (by omega), Option.bind_some, if_pos (show acc.length < 5864062014805 by omega), w64 ((j : Int) + 1) (by omega) (by omega), show ((j : Int) + 1) = ((j + 1 : Nat) : Int) by omega, h1 k (by omega), h2 k (by omega), cellRow_step l i C j (by omega)]
          by_cases hh : hasC l (i : Int) (j : Int) = true
          · rw [if_pos hh, if_pos hh]; simp [List.append_assoc]
          · rw [if_neg hh, if_neg hh]; simp
      obtain ⟨K, hK⟩ := ev_get (hin C 0 acc (by omega) (by omega) (by omega))
      refine ⟨K + 1, fun k hk => ?_⟩
      obtain ⟨k, rfl⟩ : ∃ m, k = m + 1 := ⟨k - 1, by omega⟩
      dsimp only
      rw [impl_CellsOf.l0, if_pos (by omega), cellsFrom_step l R C i (by omega), ← List.append_assoc]
      exact hK k (by omega)
  obtain ⟨K, hK⟩ := ev_get (hout R 0 [] (by omega) (by omega) (by simp))
  refine ⟨K, fun k hk => ?_⟩
  simp only [impl_CellsOf.f, impl_IsBoard.f, Option.bind_some, if_pos h]
  simpa [cells] using hK k hk
theorem rd0 (p q : Int) : rd [p, q] 0 = p := by simp [rd]
theorem rd1 (p q : Int) : rd [p, q] 1 = q := by simp [rd]
def nearB (x y : List Int) : Bool := decide ((rd x 0 - rd y 0).natAbs ≤ 1 ∧ (rd x 1 - rd y 1).natAbs ≤ 1)
theorem bAbs_eq (n : Int) (h : -1000 ≤ n) (h2 : n ≤ 1000) : spec_l1Abs.f n = some (n.natAbs : Int) := by
  unfold spec_l1Abs.f spec_l1Most.f
  rw [w64 _ (by omega) (by omega)]
  split
  · simp only [Option.bind_some]; congr 1; omega
  · simp only [Option.bind_some]; congr 1; omega
theorem biNear_eq {x y : List Int} (hx : Cell6 x) (hy : Cell6 y) : spec_biNear.f x y = some (nearB x y) := by
  obtain ⟨p, q, rfl, h1, h2⟩ := hx
  obtain ⟨p', q', rfl, h3, h4⟩ := hy
  simp only [spec_biNear.f, rd0, rd1]
  rw [if_pos (by simp), if_pos (by simp), w64 _ (by omega) (by omega), bAbs_eq _ (by omega) (by omega), Option.bind_some, if_pos (show 1 < (([p, q] : List Int).length : Int) by simp), if_pos (show 1 < (([p', q'] : List Int).length : Int) by simp), w64 _ (by omega) (by omega), bAbs_eq _ (by omega) (by omega), Option.bind_some]
  unfold nearB
  simp only [rd0, rd1]
  by_cases h : ((p - p').natAbs : Int) ≤ 1
  · rw [if_pos h]; congr 1; rw [decide_eq_decide]; omega
  · rw [if_neg h]; congr 1; symm; apply decide_eq_false; omega
theorem biDisturb1_eq {x y : List Int} (hx : Cell6 x) (hy : Cell6 y) : spec_biDisturb.f x y 1 = some (nearB x y) := by
  simp only [spec_biDisturb.f, biNear_eq hx hy, Option.bind_some, if_true]
  rw [if_neg (by decide)]
theorem asKings_eq {x y : List Int} (hx : Cell6 x) (hy : Cell6 y) : impl_asKings.f x y = some (!nearB x y) := by
  obtain ⟨p, q, rfl, h1, h2⟩ := hx
  obtain ⟨p', q', rfl, h3, h4⟩ := hy
  simp only [impl_asKings.f, rd0, rd1]
  rw [if_pos (by simp), if_pos (by simp), w64 _ (by omega) (by omega), w64 _ (by omega) (by omega), w64 _ (by omega) (by omega), w64 _ (by omega) (by omega)]
  unfold nearB
  simp only [rd0, rd1]
  by_cases h : mx (p - p') (p' - p) > 1
  · rw [if_pos h]; congr 1
    rw [decide_eq_false (by unfold mx at h; omega)]; rfl
  · rw [if_neg h, if_pos (by simp), if_pos (by simp)]; congr 1
    rw [Bool.eq_iff_iff, decide_eq_true_iff, Bool.not_eq_true', decide_eq_false_iff_not]
    unfold mx at h ⊢; omega
end Go.Proofs.Ythlcaikplebpmaa.P
namespace Go.Proofs.Ythlcaikplebpmaa.P
open Go.RowKit Go.Proofs.YthlcaikplebpmaaW.PrintWords Go.Proofs.YthlcaikplebpmaaW.PrintLast Go.Proofs.YthlcaikplebpmaaW.PrintMore
set_option linter.unusedVariables false
set_option linter.unusedSimpArgs false
section
variable {σ : Type} (D : List Int → List Int → Bool)
def clash (list : List (List Int)) (x : List Int) : Bool := list.any fun y => D y x
/-- What is told list by list, in order. -/
def goL (cb : σ → List (List Int) → Bool × σ) (most : Nat) : List (List Int) → List (List Int) → Bool × σ → Bool × σ
  | [], _, r => r
  | x :: rest, list, r => if r.1 = true then (if clash D list x = true then goL cb most rest list r else goL cb most rest list (if list.length + 1 = most then cb r.2 (list ++ [x]) else goL cb most rest (list ++ [x]) (cb r.2 (list ++ [x])))) else r
theorem goL_stop (cb : σ → List (List Int) → Bool × σ) (most : Nat) (suf list : List (List Int)) (s : σ) : goL D cb most suf list (false, s) = (false, s) := by
  cases suf with
  | nil => rfl
  | cons x rest => rw [goL, if_neg (by simp)]
/-- The first list of k that goes on a list. -/
def firstL (k : Nat) : List (List Int) → List (List Int) → Option (List (List Int))
  | [], _ => none
  | x :: rest, list => if clash D list x = true then firstL k rest list else match (if list.length + 1 = k then some (list ++ [x]) else firstL k rest (list ++ [x])) with
    | some o => some o
    | none => firstL k rest list
theorem firstL_few (k : Nat) : ∀ suf list, list.length < k → suf.length < k - list.length → firstL D k suf list = none
  | [], _, _, _ => rfl
  | x :: rest, list, hl, h => by
    rw [List.length_cons] at h
    rw [firstL]
    have h1 := firstL_few k rest list hl (by omega)
    split
    · exact h1
    · rw [if_neg (by omega), firstL_few k rest (list ++ [x]) (by rw [List.length_append, List.length_singleton]; omega) (by rw [List.length_append, List.length_singleton]; omega)]
      exact h1
/-- The finder. -/
def cbF (k : Nat) (s : Option (List (List Int))) (l : List (List Int)) : Bool × Option (List (List Int)) := if l.length < k then (true, s) else (false, some l)
def outF (o : Option (List (List Int))) : Bool × Option (List (List Int)) := match o with
  | some l => (false, some l)
  | none => (true, none)
theorem goL_first (k : Nat) : ∀ suf list, list.length < k → goL D (cbF k) k suf list (true, none) = outF (firstL D k suf list)
  | [], _, _ => rfl
  | x :: rest, list, hl => by
    rw [goL, if_pos rfl, firstL]
    by_cases hc : clash D list x = true
    · rw [if_pos hc, if_pos hc]
      exact goL_first k rest list hl
    · rw [if_neg hc, if_neg hc]
      by_cases hk : list.length + 1 = k
      · rw [if_pos hk, if_pos hk]
        have : cbF k none (list ++ [x]) = (false, some (list ++ [x])) := by
          unfold cbF
          rw [if_neg (by rw [List.length_append, List.length_singleton]; omega)]
        show goL D (cbF k) k rest list (cbF k none (list ++ [x])) = _
        rw [this, goL_stop]
        rfl
      · rw [if_neg hk, if_neg hk]
        have : cbF k none (list ++ [x]) = (true, none) := by
          unfold cbF
          rw [if_pos (by rw [List.length_append, List.length_singleton]; omega)]
        show goL D (cbF k) k rest list (goL D (cbF k) k rest (list ++ [x]) (cbF k none (list ++ [x]))) = _
        rw [this, goL_first k rest (list ++ [x]) (by rw [List.length_append, List.length_singleton]; omega)]
        cases h : firstL D k rest (list ++ [x]) with
        | some o => exact goL_stop D _ _ _ _ _
        | none => exact goL_first k rest list hl
end
end Go.Proofs.Ythlcaikplebpmaa.P
namespace Go.Proofs.Ythlcaikplebpmaa.P
open Go.RowKit Go.Proofs.YthlcaikplebpmaaW.PrintWords Go.Proofs.YthlcaikplebpmaaW.PrintLast Go.Proofs.YthlcaikplebpmaaW.PrintMore
set_option linter.unusedVariables false
set_option linter.unusedSimpArgs false
theorem evs {α : Type} {g g' : Nat → Option α} {r : α} (K : Nat) (h : Ev g' r) (hs : ∀ k, K ≤ k → g (k + 1) = g' k) : Ev g r := by
  obtain ⟨K2, h2⟩ := ev_get h
  refine ⟨K + K2 + 1, fun k hk => ?_⟩
  obtain ⟨k, rfl⟩ : ∃ m, k = m + 1 := ⟨k - 1, by omega⟩
  rw [hs k (by omega)]
  exact h2 k (by omega)
theorem evl {α : Type} {g : Nat → Option α} {r : α} (hs : ∀ k, g (k + 1) = some r) : Ev g r := by
  refine ⟨1, fun k hk => ?_⟩
  obtain ⟨k, rfl⟩ : ∃ m, k = m + 1 := ⟨k - 1, by omega⟩
  exact hs k
theorem at_next {i n : Nat} (h : i < n) (hn : n ≤ 1000) : n - (i + 1) = n - i - 1 ∧ i + 1 ≤ n ∧ ((i : Int) < (n : Int) ∧ 0 ≤ (i : Int) ∧ wrap64 ((i : Int) + 1) = ((i + 1 : Nat) : Int)) := by
  refine ⟨by omega, by omega, by omega, by omega, ?_⟩
  rw [w64 _ (by omega) (by omega)]; omega
section
variable (D : List Int → List Int → Bool) (are : FnT38)
theorem hit_eq (all : List (List Int)) (i : Nat) (hi : i < all.length) (y : List Int) (hD : are y (all.getD i []) = some (!D y (all.getD i []))) : impl_Board_lists_1_1.f y are all (i : Int) = some (D y (all.getD i [])) := by
  have e : rd_L1 all (i : Int) = all.getD i [] := by rw [rdL_nat _ _ hi, List.getD_eq_getElem?_getD, List.getElem?_eq_getElem hi]; rfl
  unfold impl_Board_lists_1_1.f
  rw [if_pos (by omega), if_pos (by omega), e]
  show ((are y (all.getD i [])).bind fun t => some (!t)) = _
  rw [hD, Option.bind_some, Bool.not_not]
theorem index_ev (g : FnT57) (p : List Int → Bool) (q : List (List Int)) (hq : q.length ≤ 1000) (hg : ∀ y ∈ q, g y = some (p y)) : ∀ (d j : Nat), q.length - j = d → j ≤ q.length →
    ∃ t : Int, Ev (fun k => slices_IndexFunc_int_int_191.l0 k q g (q.length : Int) (j : Int)) t ∧ decide (t ≥ 0) = (q.drop j).any p := by
  intro d
  induction d with
  | zero =>
    intro j hd hj
    have hle : q.length ≤ j := Nat.sub_eq_zero_iff_le.1 hd
    refine ⟨-1, evl (fun k => ?_), ?_⟩
    · rw [slices_IndexFunc_int_int_191.l0, if_neg (by omega)]
    · rw [List.drop_eq_nil_of_le hle]; rfl
  | succ d ih =>
    intro j hd hj
    have hj2 : j < q.length := Nat.lt_of_sub_eq_succ hd
    obtain ⟨g0, g2, g4⟩ := at_next hj2 hq
    have hrd : rd_L1 q (j : Int) = q[j] := rdL_nat _ _ hj2
    have hgj := hg q[j] (List.getElem_mem hj2)
    have hdr : q.drop j = q[j] :: q.drop (j + 1) := List.drop_eq_getElem_cons hj2
    rw [hdr, List.any_cons]
    by_cases hp : p q[j] = true
    · refine ⟨(j : Int), evl (fun k => ?_), ?_⟩
      · rw [slices_IndexFunc_int_int_191.l0, if_pos g4.1, if_pos g4.2.1, if_pos g4.1, hrd]
        show ((g q[j]).bind _) = _
        rw [hgj, Option.bind_some, if_pos hp]
      · rw [hp]; simp
    · obtain ⟨t, ht, e⟩ := ih (j + 1) (by rw [g0, hd]; rfl) g2
      refine ⟨t, evs 0 ht (fun k hk => ?_), ?_⟩
      · rw [slices_IndexFunc_int_int_191.l0, if_pos g4.1, if_pos g4.2.1, if_pos g4.1, hrd]
        show ((g q[j]).bind _) = _
        rw [hgj, Option.bind_some, if_neg hp, g4.2.2]
      · rw [e]; simp only [Bool.not_eq_true] at hp; rw [hp]; rfl
theorem contains_ev (g : FnT57) (p : List Int → Bool) (q : List (List Int)) (hq : q.length ≤ 1000) (hg : ∀ y ∈ q, g y = some (p y)) : Ev (fun k => slices_ContainsFunc_int_int_120.f k q g) (q.any p) := by
  obtain ⟨t, ht, e⟩ := index_ev g p q hq hg q.length 0 rfl (Nat.zero_le _)
  obtain ⟨K, hK⟩ := ev_get ht
  refine ⟨K, fun k hk => ?_⟩
  have := hK k hk
  unfold slices_ContainsFunc_int_int_120.f slices_IndexFunc_int_int_191.f
  rw [show ((0 : Nat) : Int) = 0 from rfl] at this
  show (slices_IndexFunc_int_int_191.l0 k q g (q.length : Int) 0).bind _ = _
  rw [this, Option.bind_some, e, List.drop_zero]
variable {σ : Type} (cbO : σ → List (List Int) → Option (Bool × σ)) (cb : σ → List (List Int) → Bool × σ)
theorem list_f (most : Int) (all : List (List Int)) (k : Nat) (fr : Int) (q : List (List Int)) (s : σ) (r : Bool × σ) (h : cbO s q = some r) :
    impl_Board_lists_1.f are most all cbO (k + 1) fr q s = if (q.length : Int) = most then some r else impl_Board_lists_1.l0 are most all cbO k fr q r.1 r.2 := by
  rw [impl_Board_lists_1.f, h, Option.bind_some]
theorem list_end (most : Int) (all : List (List Int)) (k : Nat) (i : Int) (q : List (List Int)) (g : Bool) (s : σ) (h : ¬ i < (all.length : Int)) :
    impl_Board_lists_1.l0 are most all cbO (k + 1) i q g s = some (g, s) := by
  rw [impl_Board_lists_1.l0, if_neg h]
theorem list_stop (most : Int) (all : List (List Int)) (k : Nat) (i : Int) (q : List (List Int)) (s : σ) (h : i < (all.length : Int)) :
    impl_Board_lists_1.l0 are most all cbO (k + 1) i q false s = some (false, s) := by
  rw [impl_Board_lists_1.l0, if_pos h, if_neg (by simp)]
theorem list_hit (most : Int) (all : List (List Int)) (k : Nat) (i : Int) (q : List (List Int)) (s : σ) (h : i < (all.length : Int)) (h0 : 0 ≤ i) (hc : slices_ContainsFunc_int_int_120.f k q (fun x => impl_Board_lists_1_1.f x are all i) = some true) :
    impl_Board_lists_1.l0 are most all cbO (k + 1) i q true s = impl_Board_lists_1.l0 are most all cbO k (wrap64 (i + 1)) q true s := by
  rw [impl_Board_lists_1.l0, if_pos h, if_pos rfl, if_pos h0, hc, Option.bind_some, if_pos rfl]
theorem list_go (most : Int) (all : List (List Int)) (k : Nat) (i : Int) (q : List (List Int)) (s : σ) (r : Bool × σ) (h : i < (all.length : Int)) (h0 : 0 ≤ i) (hq : q.length < 5864062014805) (hc : slices_ContainsFunc_int_int_120.f k q (fun x => impl_Board_lists_1_1.f x are all i) = some false) (hf : impl_Board_lists_1.f are most all cbO k (wrap64 (i + 1)) (q ++ [all.getD i.toNat []]) s = some r) :
    impl_Board_lists_1.l0 are most all cbO (k + 1) i q true s = impl_Board_lists_1.l0 are most all cbO k (wrap64 (i + 1)) q r.1 r.2 := by
  rw [impl_Board_lists_1.l0, if_pos h, if_pos rfl, if_pos h0, hc, Option.bind_some, if_neg (by simp), if_pos hq, hf, Option.bind_some]
variable {D are cbO cb}
end
end Go.Proofs.Ythlcaikplebpmaa.P
namespace Go.Proofs.Ythlcaikplebpmaa.P
open Go.RowKit Go.Proofs.YthlcaikplebpmaaW.PrintWords Go.Proofs.YthlcaikplebpmaaW.PrintLast Go.Proofs.YthlcaikplebpmaaW.PrintMore
set_option linter.unusedVariables false
set_option linter.unusedSimpArgs false
theorem goL_keep {σ : Type} {D : List Int → List Int → Bool} {cb : σ → List (List Int) → Bool × σ} (I : σ → Prop) (hI : ∀ s l, I s → (cb s l).1 = true → I (cb s l).2) (most : Nat) : ∀ (suf list : List (List Int)) (r : Bool × σ), (r.1 = true → I r.2) → (goL D cb most suf list r).1 = true → I (goL D cb most suf list r).2
  | [], list, r, hr => hr
  | x :: rest, list, r, hr => by
    rw [goL]
    by_cases h1 : r.1 = true
    · rw [if_pos h1]
      by_cases h2 : clash D list x = true
      · rw [if_pos h2]; exact goL_keep I hI most rest list r hr
      · rw [if_neg h2]
        refine goL_keep I hI most rest list _ ?_
        by_cases h3 : list.length + 1 = most
        · rw [if_pos h3]; exact hI _ _ (hr h1)
        · rw [if_neg h3]; exact goL_keep I hI most rest (list ++ [x]) _ (hI _ _ (hr h1))
    · rw [if_neg h1]; exact hr
section
variable {σ : Type} {D : List Int → List Int → Bool} {are : FnT38} {cbO : σ → List (List Int) → Option (Bool × σ)} {cb : σ → List (List Int) → Bool × σ} {I : σ → Prop}
theorem loop2_ev (most : Nat) (all : List (List Int)) (hall : all.length ≤ 1000) (hare : ∀ y ∈ all, ∀ x ∈ all, are y x = some (!D y x)) (hcb : ∀ s l, I s → l.length ≤ 1000 → (∀ y ∈ l, y ∈ all) → cbO s l = some (cb s l)) (hI : ∀ s l, I s → (cb s l).1 = true → I (cb s l).2) : ∀ (d i : Nat) (q : List (List Int)) (r : Bool × σ), all.length - i = d → i ≤ all.length → q.length ≤ i → (∀ y ∈ q, y ∈ all) → (r.1 = true → I r.2) →
    Ev (fun k => impl_Board_lists_1.l0 are (most : Int) all cbO k (i : Int) q r.1 r.2) (goL D cb most (all.drop i) q r) := by
  intro d
  induction d with
  | zero =>
    intro i q r hd hi hq hm hr
    have hle : all.length ≤ i := Nat.sub_eq_zero_iff_le.1 hd
    rw [List.drop_eq_nil_of_le hle]
    exact evl (fun k => list_end _ _ _ _ _ _ _ _ _ (by omega))
  | succ d ih =>
    intro i q r hd hi hq hm hr
    have hi2 : i < all.length := Nat.lt_of_sub_eq_succ hd
    obtain ⟨g0, g2, g4⟩ := at_next hi2 hall
    have g1 : all.length - (i + 1) = d := by rw [g0, hd]; rfl
    have hdr : all.drop i = all.getD i [] :: all.drop (i + 1) := by rw [List.drop_eq_getElem_cons hi2, List.getD_eq_getElem?_getD, List.getElem?_eq_getElem hi2]; rfl
    have hx : all.getD i [] ∈ all := by rw [List.getD_eq_getElem?_getD, List.getElem?_eq_getElem hi2]; exact List.getElem_mem hi2
    have hc := contains_ev (fun x => impl_Board_lists_1_1.f x are all (i : Int)) (fun y => D y (all.getD i [])) q (by omega) (fun y hy => hit_eq D are all i hi2 y (hare y (hm y hy) _ hx))
    obtain ⟨K1, h1⟩ := ev_get hc
    rw [hdr]
    obtain ⟨g, s⟩ := r
    cases g with
    | false =>
      rw [goL_stop]
      exact evl (fun k => list_stop _ _ _ _ _ _ _ _ g4.1)
    | true =>
      rw [goL, if_pos rfl]
      have hs : I s := hr rfl
      by_cases hcl : clash D q (all.getD i []) = true
      · rw [if_pos hcl]
        refine evs K1 (ih (i + 1) q (true, s) g1 g2 (by omega) hm (fun _ => hs)) (fun k hk => ?_)
        have h1 := h1 k hk
        unfold clash at hcl
        rw [hcl] at h1
        rw [list_hit _ _ _ _ _ _ _ _ g4.1 g4.2.1 h1, g4.2.2]
      · rw [if_neg hcl]
        have hm2 : ∀ y ∈ q ++ [all.getD i []], y ∈ all := by
          intro y hy
          rcases List.mem_append.1 hy with hy | hy
          · exact hm y hy
          · rw [List.mem_singleton.1 hy]; exact hx
        have hl2 : (q ++ [all.getD i []]).length = q.length + 1 := by rw [List.length_append, List.length_singleton]
        have hcb2 := hcb s (q ++ [all.getD i []]) hs (by rw [hl2]; omega) hm2
        have hI2 : (cb s (q ++ [all.getD i []])).1 = true → I (cb s (q ++ [all.getD i []])).2 := hI s _ hs
        -- the call
        have hf : Ev (fun k => impl_Board_lists_1.f are (most : Int) all cbO k ((i + 1 : Nat) : Int) (q ++ [all.getD i []]) s) (if q.length + 1 = most then cb s (q ++ [all.getD i []]) else goL D cb most (all.drop (i + 1)) (q ++ [all.getD i []]) (cb s (q ++ [all.getD i []]))) := by
          by_cases hk : q.length + 1 = most
          · rw [if_pos hk]
            exact evl (fun k => by rw [list_f are cbO _ _ _ _ _ _ _ hcb2, if_pos (by rw [hl2]; omega)])
          · rw [if_neg hk]
            exact evs 0 (ih (i + 1) (q ++ [all.getD i []]) (cb s (q ++ [all.getD i []])) g1 g2 (by omega) hm2 hI2) (fun k _ => by rw [list_f are cbO _ _ _ _ _ _ _ hcb2, if_neg (by rw [hl2]; omega)])
        have hI3 : (if q.length + 1 = most then cb s (q ++ [all.getD i []]) else goL D cb most (all.drop (i + 1)) (q ++ [all.getD i []]) (cb s (q ++ [all.getD i []]))).1 = true → I (if q.length + 1 = most then cb s (q ++ [all.getD i []]) else goL D cb most (all.drop (i + 1)) (q ++ [all.getD i []]) (cb s (q ++ [all.getD i []]))).2 := by
          by_cases hk : q.length + 1 = most
          · rw [if_pos hk]; exact hI2
          · rw [if_neg hk]; exact goL_keep I hI most _ _ _ hI2
        obtain ⟨K2, h2⟩ := ev_get hf
        refine evs (K1 + K2) (ih (i + 1) q _ g1 g2 (by omega) hm hI3) (fun k hk => ?_)
        have h1 := h1 k (Nat.le_trans (Nat.le_add_right K1 K2) hk)
        have h2 := h2 k (Nat.le_trans (Nat.le_add_left K2 K1) hk)
        unfold clash at hcl
        simp only [Bool.not_eq_true] at hcl
        rw [hcl] at h1
        rw [list_go are cbO _ _ _ _ _ _ _ g4.1 g4.2.1 (by omega) h1 (by rw [g4.2.2]; exact h2), g4.2.2]
theorem lists12_ev (most : Nat) (all : List (List Int)) (hall : all.length ≤ 1000) (hare : ∀ y ∈ all, ∀ x ∈ all, are y x = some (!D y x)) (hcb : ∀ s l, I s → l.length ≤ 1000 → (∀ y ∈ l, y ∈ all) → cbO s l = some (cb s l)) (hI : ∀ s l, I s → (cb s l).1 = true → I (cb s l).2) (s : σ) (hs : I s) :
    Ev (fun k => impl_Board_lists_1.f are (most : Int) all cbO k 0 [] s) (if 0 = most then cb s [] else goL D cb most all [] (cb s [])) := by
  have hcb0 := hcb s [] hs (by simp) (fun y hy => by simp at hy)
  by_cases hk : 0 = most
  · rw [if_pos hk]
    exact evl (fun k => by rw [list_f are cbO _ _ _ _ _ _ _ hcb0, if_pos (by rw [← hk]; rfl)])
  · rw [if_neg hk]
    have h := loop2_ev most all hall hare hcb hI all.length 0 [] (cb s []) rfl (Nat.zero_le _) (Nat.zero_le _) (fun y hy => by simp at hy) (hI s [] hs)
    rw [List.drop_zero] at h
    exact evs 0 h (fun k _ => by rw [list_f are cbO _ _ _ _ _ _ _ hcb0, if_neg (by intro e; apply hk; have : ((0 : Nat) : Int) = (most : Int) := e; omega)]; rfl)
end
theorem lists2_ev {σ : Type} {D : List Int → List Int → Bool} {are : FnT38} {cbO : σ → List (List Int) → Option (Bool × σ)} {cb : σ → List (List Int) → Bool × σ} {I : σ → Prop} {r c : Int} {l : List Int} (h : boardB r c l = true) (most : Nat) (hare : ∀ y x, Cell6 y → Cell6 x → are y x = some (!D y x)) (hcb : ∀ s q, I s → q.length ≤ 1000 → (∀ y ∈ q, Cell6 y) → cbO s q = some (cb s q)) (hI : ∀ s l, I s → (cb s l).1 = true → I (cb s l).2) (s : σ) (hs : I s) :
    Ev (fun k => impl_Board_lists.f k r c l (most : Int) are cbO s) (if 0 = most then cb s [] else goL D cb most (cells r c l) [] (cb s [])) := by
  obtain ⟨K1, h1⟩ := ev_get (CellsOf_ev r c l)
  rw [if_pos h] at h1
  obtain ⟨K2, h2⟩ := ev_get (lists12_ev (D := D) (are := are) (cbO := cbO) (cb := cb) (I := I) most (cells r c l) (Nat.le_trans (cells_len h) (by decide)) (fun y hy x hx => hare y x (cells_cell h hy) (cells_cell h hx)) (fun s q i1 i2 i3 => hcb s q i1 i2 (fun y hy => cells_cell h (i3 y hy))) hI s hs)
  refine ⟨K1 + K2, fun k hk => ?_⟩
  show ((impl_CellsOf.f k r c l).bind _) = _
  rw [h1 k (by omega), Option.bind_some]
  exact h2 k (by omega)
end Go.Proofs.Ythlcaikplebpmaa.P
namespace Go.Proofs.Ythlcaikplebpmaa.P
open Go.RowKit Go.Proofs.YthlcaikplebpmaaW.PrintWords Go.Proofs.YthlcaikplebpmaaW.PrintLast Go.Proofs.YthlcaikplebpmaaW.PrintMore
set_option linter.unusedVariables false
set_option linter.unusedSimpArgs false
def resF (o : Option (List (List Int))) : List (List Int) × Bool := (o.getD [], o.isSome)
theorem firstL_cons (D : List Int → List Int → Bool) (k : Nat) (x : List Int) (rest list : List (List Int)) : firstL D k (x :: rest) list = if clash D list x = true then firstL D k rest list else match (if list.length + 1 = k then some (list ++ [x]) else firstL D k rest (list ++ [x])) with
    | some l => some l
    | none => firstL D k rest list := rfl
theorem firstL_some (D : List Int → List Int → Bool) (k : Nat) : ∀ suf list o, firstL D k suf list = some o → ∃ s, s.Sublist suf ∧ o = list ++ s
  | [], list, o, h => by simp [firstL] at h
  | x :: rest, list, o, h => by
    rw [firstL_cons] at h
    by_cases hc : clash D list x = true
    · rw [if_pos hc] at h
      obtain ⟨s, h1, h2⟩ := firstL_some D k rest list o h
      exact ⟨s, List.Sublist.cons x h1, h2⟩
    · rw [if_neg hc] at h
      by_cases hk : list.length + 1 = k
      · rw [if_pos hk] at h
        obtain rfl := Option.some.inj h
        exact ⟨[x], List.Sublist.cons_cons x (List.nil_sublist _), rfl⟩
      · rw [if_neg hk] at h
        cases hf : firstL D k rest (list ++ [x]) with
        | some l =>
          rw [hf] at h
          obtain rfl := Option.some.inj h
          obtain ⟨s, h1, h2⟩ := firstL_some D k rest (list ++ [x]) l hf
          exact ⟨x :: s, List.Sublist.cons_cons x h1, by rw [h2, List.append_assoc]; rfl⟩
        | none =>
          rw [hf] at h
          obtain ⟨s, h1, h2⟩ := firstL_some D k rest list o h
          exact ⟨s, List.Sublist.cons x h1, h2⟩
section
variable (all : List (List Int)) (kd : Int)
theorem bf_f0 (k : Nat) (q : List (List Int)) (fr : Int) : spec_biFirst.f all kd (k + 1) q fr 0 = some (q, true) := by rw [spec_biFirst.f, if_pos rfl]
theorem bf_f (k : Nat) (q : List (List Int)) (fr kk : Int) (h : kk ≠ 0) : spec_biFirst.f all kd (k + 1) q fr kk = spec_biFirst.l0 all kd k q fr kk := by rw [spec_biFirst.f, if_neg h]
theorem bf_none (k : Nat) (q : List (List Int)) (i kk : Int) (h : ¬ wrap64 (i + kk) ≤ (all.length : Int)) : spec_biFirst.l0 all kd (k + 1) q i kk = some ([], false) := by rw [spec_biFirst.l0, if_neg h]
theorem bf_at (k : Nat) (q : List (List Int)) (i kk : Int) (h : wrap64 (i + kk) ≤ (all.length : Int)) (h0 : 0 ≤ i) (h1 : i < (all.length : Int)) : spec_biFirst.l0 all kd (k + 1) q i kk = spec_biFirst.l1 all kd k q i kk true 0 := by rw [spec_biFirst.l0, if_pos h, if_pos h0, if_pos h1]
theorem bf_more (k : Nat) (q : List (List Int)) (i kk j : Int) (t : Bool) (h : j < (q.length : Int)) (h0 : 0 ≤ j) (ht : spec_biDisturb.f (all.getD i.toNat []) (q.getD j.toNat []) kd = some t) : spec_biFirst.l1 all kd (k + 1) q i kk true j = spec_biFirst.l1 all kd k q i kk (!t) (wrap64 (j + 1)) := by rw [spec_biFirst.l1, if_pos h, if_pos h0, if_pos rfl, ht, Option.bind_some]
theorem bf_skip (k : Nat) (q : List (List Int)) (i kk j : Int) (h : j < (q.length : Int)) (h0 : 0 ≤ j) : spec_biFirst.l1 all kd (k + 1) q i kk false j = spec_biFirst.l1 all kd k q i kk false (wrap64 (j + 1)) := by rw [spec_biFirst.l1, if_pos h, if_pos h0, if_neg (by simp)]
theorem bf_bad (k : Nat) (q : List (List Int)) (i kk j : Int) (h : ¬ j < (q.length : Int)) : spec_biFirst.l1 all kd (k + 1) q i kk false j = spec_biFirst.l0 all kd k q (wrap64 (i + 1)) kk := by rw [spec_biFirst.l1, if_neg h, if_neg (by simp)]
theorem bf_rec (k : Nat) (q : List (List Int)) (i kk j : Int) (r : List (List Int) × Bool) (h : ¬ j < (q.length : Int)) (hq : q.length < 5864062014805) (hf : spec_biFirst.f all kd k (q ++ [all.getD i.toNat []]) (wrap64 (i + 1)) (wrap64 (kk - 1)) = some r) : spec_biFirst.l1 all kd (k + 1) q i kk true j = if r.2 = true then some (r.1, true) else spec_biFirst.l0 all kd k q (wrap64 (i + 1)) kk := by rw [spec_biFirst.l1, if_neg h, if_pos rfl, if_pos hq, hf, Option.bind_some]
variable {all kd} {D : List Int → List Int → Bool}
theorem bf_loop (i : Nat) (hi : i < all.length) (kk : Int) (q : List (List Int)) (hq : q.length ≤ 1000) (hd : ∀ y ∈ q, spec_biDisturb.f (all.getD i []) y kd = some (D y (all.getD i []))) (r : List (List Int) × Bool) : ∀ (d j : Nat) (b : Bool), q.length - j = d → j ≤ q.length →
    Ev (fun k => spec_biFirst.l1 all kd k q (i : Int) kk (b && !((q.drop j).any fun y => D y (all.getD i []))) (q.length : Int)) r → Ev (fun k => spec_biFirst.l1 all kd k q (i : Int) kk b (j : Int)) r := by
  intro d
  induction d with
  | zero =>
    intro j b h1 h2 h
    have hj : j = q.length := by omega
    subst hj
    rw [List.drop_length, List.any_nil, Bool.not_false, Bool.and_true] at h
    exact h
  | succ d ih =>
    intro j b h1 h2 h
    have hj : j < q.length := Nat.lt_of_sub_eq_succ h1
    obtain ⟨g0, g2, g4⟩ := at_next hj hq
    have hx : q.getD j [] ∈ q := by rw [List.getD_eq_getElem?_getD, List.getElem?_eq_getElem hj]; exact List.getElem_mem hj
    have hdr : q.drop j = q.getD j [] :: q.drop (j + 1) := by rw [List.drop_eq_getElem_cons hj, List.getD_eq_getElem?_getD, List.getElem?_eq_getElem hj]; rfl
    rw [hdr, List.any_cons] at h
    cases b with
    | false =>
      refine evs 0 (ih (j + 1) false (by rw [g0, h1]; rfl) g2 (by rw [Bool.false_and] at h ⊢; exact h)) (fun k _ => ?_)
      rw [bf_skip _ _ _ _ _ _ _ g4.1 g4.2.1, g4.2.2]
    | true =>
      refine evs 0 (ih (j + 1) (!D (q.getD j []) (all.getD i [])) (by rw [g0, h1]; rfl) g2 (by rw [Bool.true_and, Bool.not_or] at h; exact h)) (fun k _ => ?_)
      rw [bf_more _ _ _ _ _ _ _ (D (q.getD j []) (all.getD i [])) g4.1 g4.2.1 (by exact hd _ hx), g4.2.2]
theorem bf_sum {i k' n : Nat} (hi : i ≤ n) (hn : n ≤ 1000) (hk : k' ≤ 1000) : wrap64 ((i : Int) + (k' : Int)) = ((i + k' : Nat) : Int) ∧ (1 ≤ k' → wrap64 ((k' : Int) - 1) = ((k' - 1 : Nat) : Int)) := by
  refine ⟨?_, fun h => ?_⟩
  · rw [w64 _ (by omega) (by omega)]; omega
  · rw [w64 _ (by omega) (by omega)]; omega
theorem bf_ev (hall : all.length ≤ 1000) (hd : ∀ y ∈ all, ∀ x ∈ all, spec_biDisturb.f x y kd = some (D y x)) : ∀ (d i : Nat) (q : List (List Int)) (k' : Nat), all.length - i = d → i ≤ all.length → q.length ≤ i → (∀ y ∈ q, y ∈ all) → 1 ≤ k' → k' ≤ 1000 →
    Ev (fun k => spec_biFirst.l0 all kd k q (i : Int) (k' : Int)) (resF (firstL D (q.length + k') (all.drop i) q)) := by
  intro d
  induction d with
  | zero =>
    intro i q k' h1 h2 h3 h4 h5 h6
    obtain ⟨e1, e2⟩ := bf_sum h2 hall h6
    have hle : all.length ≤ i := Nat.sub_eq_zero_iff_le.1 h1
    rw [List.drop_eq_nil_of_le hle]
    exact evl (fun k => bf_none _ _ _ _ _ _ (by rw [e1]; omega))
  | succ d ih =>
    intro i q k' h1 h2 h3 h4 h5 h6
    obtain ⟨e1, e2⟩ := bf_sum h2 hall h6
    have hi2 : i < all.length := Nat.lt_of_sub_eq_succ h1
    by_cases hs : i + k' ≤ all.length
    case neg =>
      rw [firstL_few D (q.length + k') (all.drop i) q (by omega) (by rw [List.length_drop]; omega)]
      exact evl (fun k => bf_none _ _ _ _ _ _ (by rw [e1]; omega))
    obtain ⟨g0, g2, g4⟩ := at_next hi2 hall
    have g1 : all.length - (i + 1) = d := by rw [g0, h1]; rfl
    have hdr : all.drop i = all.getD i [] :: all.drop (i + 1) := by rw [List.drop_eq_getElem_cons hi2, List.getD_eq_getElem?_getD, List.getElem?_eq_getElem hi2]; rfl
    have hx : all.getD i [] ∈ all := by rw [List.getD_eq_getElem?_getD, List.getElem?_eq_getElem hi2]; exact List.getElem_mem hi2
    refine evs 0 (?_ : Ev (fun k => spec_biFirst.l1 all kd k q (i : Int) (k' : Int) true ((0 : Nat) : Int)) _) (fun k _ => bf_at all kd k q _ _ (by rw [e1]; omega) g4.2.1 g4.1)
    refine bf_loop i hi2 (k' : Int) q (by omega) (fun y hy => hd y (h4 y hy) _ hx) _ q.length 0 true (Nat.sub_zero _) (Nat.zero_le _) ?_
    rw [List.drop_zero, Bool.true_and, hdr, firstL_cons]
    have hc : (q.any fun y => D y (all.getD i [])) = clash D q (all.getD i []) := rfl
    rw [hc]
    by_cases hcl : clash D q (all.getD i []) = true
    · rw [if_pos hcl, hcl]
      refine evs 0 (ih (i + 1) q k' g1 g2 (by omega) h4 h5 h6) (fun k _ => ?_)
      rw [Bool.not_true, bf_bad _ _ _ _ _ _ _ (by omega), g4.2.2]
    · rw [if_neg hcl]
      simp only [Bool.not_eq_true] at hcl
      rw [hcl, Bool.not_false]
      have hm2 : ∀ y ∈ q ++ [all.getD i []], y ∈ all := by
        intro y hy
        rcases List.mem_append.1 hy with hy | hy
        · exact h4 y hy
        · rw [List.mem_singleton.1 hy]; exact hx
      have hl2 : (q ++ [all.getD i []]).length = q.length + 1 := by rw [List.length_append, List.length_singleton]
      have hf : Ev (fun k => spec_biFirst.f all kd k (q ++ [all.getD i []]) ((i + 1 : Nat) : Int) ((k' - 1 : Nat) : Int)) (resF (if q.length + 1 = q.length + k' then some (q ++ [all.getD i []]) else firstL D (q.length + k') (all.drop (i + 1)) (q ++ [all.getD i []]))) := by
        by_cases hk : k' = 1
        · subst hk
          rw [if_pos rfl]
          exact evl (fun k => bf_f0 all kd k _ _)
        · rw [if_neg (by omega)]
          have h := ih (i + 1) (q ++ [all.getD i []]) (k' - 1) g1 g2 (by rw [hl2]; omega) hm2 (by omega) (by omega)
          rw [hl2, show q.length + 1 + (k' - 1) = q.length + k' by omega] at h
          exact evs 0 h (fun k _ => bf_f all kd k _ _ _ (by omega))
      generalize (if q.length + 1 = q.length + k' then some (q ++ [all.getD i []]) else firstL D (q.length + k') (all.drop (i + 1)) (q ++ [all.getD i []])) = o at hf
      obtain ⟨K2, h2'⟩ := ev_get hf
      have hstep : ∀ k, K2 ≤ k → spec_biFirst.l1 all kd (k + 1) q (i : Int) (k' : Int) true (q.length : Int) = if (resF o).2 = true then some ((resF o).1, true) else spec_biFirst.l0 all kd k q ((i + 1 : Nat) : Int) (k' : Int) := fun k hk => by
        have h2 := h2' k hk
        rw [bf_rec _ _ _ _ _ _ _ (resF o) (by omega) (by omega) (by rw [g4.2.2, e2 h5]; exact h2), g4.2.2]
      cases o with
      | some l =>
        refine ⟨K2 + 1, fun k hk => ?_⟩
        obtain ⟨k, rfl⟩ : ∃ m, k = m + 1 := ⟨k - 1, by omega⟩
        exact hstep k (by omega)
      | none => exact evs K2 (ih (i + 1) q k' g1 g2 (by omega) h4 h5 h6) (fun k hk => hstep k hk)
theorem biFirst_ev (hall : all.length ≤ 1000) (hd : ∀ y ∈ all, ∀ x ∈ all, spec_biDisturb.f x y kd = some (D y x)) (k' : Nat) (hk : k' ≤ 1000) :
    Ev (fun k => spec_biFirst.f all kd k [] 0 (k' : Int)) (resF (if 0 = k' then some [] else firstL D k' all [])) := by
  by_cases h0 : 0 = k'
  · subst h0
    rw [if_pos rfl]
    exact evl (fun k => bf_f0 all kd k _ _)
  · rw [if_neg h0]
    have h := bf_ev hall hd all.length 0 [] k' (Nat.sub_zero _) (Nat.zero_le _) (Nat.zero_le _) (fun y hy => by simp at hy) (by omega) hk
    rw [List.drop_zero, List.length_nil, Nat.zero_add] at h
    exact evs 0 h (fun k _ => bf_f all kd k _ _ _ (by omega))
end
end Go.Proofs.Ythlcaikplebpmaa.P
namespace Go.Proofs.Ythlcaikplebpmaa.P
open Go.RowKit Go.Proofs.YthlcaikplebpmaaW.PrintWords Go.Proofs.YthlcaikplebpmaaW.PrintLast Go.Proofs.YthlcaikplebpmaaW.PrintMore
set_option linter.unusedVariables false
set_option linter.unusedSimpArgs false
def pop (t : Int) : Nat := ((List.range 6).filter fun (c : Nat) => hasM t (c : Int)).length
theorem pop_cols : ∀ t : Fin 64, ∀ C : Fin 7, t.val < 2 ^ C.val → pop (t.val : Int) ≤ C.val := by decide +kernel
section
variable {l : List Int} {R C m : Nat} (hR : R ≤ 6) (hC : C ≤ 6) (hl : l.length = R) (hm : m = min R C)
include hR hC hl hm
omit hR hC hl hm
end
end Go.Proofs.Ythlcaikplebpmaa.P
namespace Go.Proofs.Ythlcaikplebpmaa.P
open Go.RowKit Go.Proofs.YthlcaikplebpmaaW.PrintWords Go.Proofs.YthlcaikplebpmaaW.PrintLast Go.Proofs.YthlcaikplebpmaaW.PrintMore
set_option linter.unusedVariables false
set_option linter.unusedSimpArgs false
def cnt (p : List Int) : Nat := (p.filter fun x => x != -1).length
section
variable {l : List Int} {R C m : Nat} (hR : R ≤ 6) (hC : C ≤ 6) (hl : l.length = R) (hm : m = min R C) (hmask : ∀ i : Nat, i < R → 0 ≤ rd l (i : Int) ∧ rd l (i : Int) ≤ 63)
include hR hC hl hm hmask
omit hR hm in
end
end Go.Proofs.Ythlcaikplebpmaa.P
namespace Go.Proofs.Ythlcaikplebpmaa.P
open Go.RowKit Go.Proofs.YthlcaikplebpmaaW.PrintWords Go.Proofs.YthlcaikplebpmaaW.PrintLast Go.Proofs.YthlcaikplebpmaaW.PrintMore
set_option linter.unusedVariables false
set_option linter.unusedSimpArgs false
theorem evb {α : Type} {g g' : Nat → Option α} {r : α} (K : Nat) (h : Ev g' r) (hs : ∀ k, K ≤ k → g (k + 1) = g' k) : Ev g r := by
  obtain ⟨K2, h2⟩ := ev_get h
  refine ⟨K + K2 + 1, fun k hk => ?_⟩
  obtain ⟨k, rfl⟩ : ∃ m, k = m + 1 := ⟨k - 1, by omega⟩
  rw [hs k (by omega)]
  exact h2 k (by omega)
theorem evz {α : Type} {g : Nat → Option α} {r : α} (hs : ∀ k, g (k + 1) = some r) : Ev g r := by
  refine ⟨1, fun k hk => ?_⟩
  obtain ⟨k, rfl⟩ : ∃ m, k = m + 1 := ⟨k - 1, by omega⟩
  exact hs k
/-- Without zeros at the end. -/
def short (l : List Int) : Nat → List Int
  | 0 => []
  | n + 1 => if rd l (n : Int) = 0 then short l n else l.take (n + 1)
theorem short_take (l : List Int) : ∀ n, n ≤ l.length → short (l.take n) n = short l n
  | 0, _ => rfl
  | n + 1, h => by
    have e : rd (l.take (n + 1)) (n : Int) = rd l (n : Int) := by
      rw [rd_nat _ _ (by rw [List.length_take]; omega), rd_nat _ _ (by omega)]; simp
    have ih := short_take l n (by omega)
    have ih2 := short_take (l.take (n + 1)) n (by rw [List.length_take]; omega)
    rw [List.take_take, Nat.min_eq_left (by omega)] at ih2
    rw [short, short, e, ← ih2, ih, List.take_take, Nat.min_self]
end Go.Proofs.Ythlcaikplebpmaa.P
namespace Go.Proofs.Ythlcaikplebpmaa.P
open Go.RowKit Go.Proofs.YthlcaikplebpmaaW.PrintWords Go.Proofs.YthlcaikplebpmaaW.PrintLast Go.Proofs.YthlcaikplebpmaaW.PrintMore
set_option linter.unusedVariables false
set_option linter.unusedSimpArgs false
/-- A mask of the columns that f holds. -/
def mk (f : Nat → Bool) : Nat → Int
  | 0 => 0
  | j + 1 => mk f j + if f j = true then ((2 ^ j : Nat) : Int) else 0
def sumL : List Int → Int
  | [] => 0
  | x :: l => x + sumL l
/-- Of places with columns: the bits of those that the board holds. -/
def bits (l : List Int) (xs : List ((Nat × Nat) × Nat)) : Int := sumL (xs.map fun x => if hasC l (x.1.1 : Int) (x.1.2 : Int) = true then ((2 ^ x.2 : Nat) : Int) else 0)
def pairsAll (R C : Nat) : List (Nat × Nat) := (List.range R).flatMap fun r => (List.range C).map fun c => (r, c)
theorem cells_pairs (R C : Nat) (l : List Int) : cells (R : Int) (C : Int) l = ((pairsAll R C).filter fun x => hasC l (x.1 : Int) (x.2 : Int)).map fun x => [(x.1 : Int), (x.2 : Int)] := by
  unfold cells cellsFrom pairsAll cellRow
  simp only [Int.toNat_natCast, Nat.sub_zero, List.range_eq_range']
  rw [List.filter_flatMap, List.map_flatMap]
  congr 1
  funext r
  generalize List.range' 0 C = cs
  induction cs with
  | nil => rfl
  | cons c cs ih =>
    rw [List.flatMap_cons, List.map_cons, ih, List.filter_cons]
    by_cases h : hasC l (r : Int) (c : Int) = true
    · rw [if_pos h, if_pos h]; rfl
    · rw [if_neg h, if_neg h]; rfl
end Go.Proofs.Ythlcaikplebpmaa.P
namespace Go.Proofs.Ythlcaikplebpmaa.P
open Go.RowKit Go.Proofs.YthlcaikplebpmaaW.PrintWords Go.Proofs.YthlcaikplebpmaaW.PrintLast Go.Proofs.YthlcaikplebpmaaW.PrintMore
set_option linter.unusedVariables false
set_option linter.unusedSimpArgs false
theorem trim_ev : ∀ (l : List Int), l.length ≤ 1000 → Ev (fun k => impl_trimmed.l0 k l) (short l l.length) := by
  intro l
  induction hn : l.length generalizing l with
  | zero =>
    intro _
    have : l = [] := List.length_eq_zero_iff.1 hn
    subst this
    exact evz (fun k => by rw [impl_trimmed.l0, if_neg (by simp)]; rfl)
  | succ n ih =>
    intro hl
    have hw : wrap64 ((l.length : Int) - 1) = (n : Int) := by rw [w64 _ (by omega) (by omega)]; omega
    have htl : (l.take n).length = n := by rw [List.length_take]; omega
    by_cases h0 : rd l (n : Int) = 0
    · have e : short l (n + 1) = short (l.take n) n := by rw [short, if_pos h0, short_take l n (by omega)]
      rw [e]
      refine evb 0 (ih (l.take n) htl (by omega)) (fun k _ => ?_)
      rw [impl_trimmed.l0, hw, if_pos (by omega), if_pos (by omega), if_pos (by omega), if_pos h0, if_pos (by omega), Int.toNat_natCast]
    · have e : short l (n + 1) = l := by rw [short, if_neg h0, List.take_of_length_le (by omega)]
      rw [e]
      exact evz (fun k => by rw [impl_trimmed.l0, hw, if_pos (by omega), if_pos (by omega), if_pos (by omega), if_neg h0])
end Go.Proofs.Ythlcaikplebpmaa.P
namespace Go.Proofs.Ythlcaikplebpmaa.P
open Go.RowKit Go.Proofs.YthlcaikplebpmaaW.PrintWords Go.Proofs.YthlcaikplebpmaaW.PrintLast Go.Proofs.YthlcaikplebpmaaW.PrintMore
set_option linter.unusedVariables false
set_option linter.unusedSimpArgs false
def padK (x : List Int) (m : Nat) : List Int := x ++ List.replicate (m - x.length) 0
def putK (x : List Int) (j : Nat) (v : Int) : List Int := (padK x (j + 1)).set j (wrap64 ((padK x (j + 1)).getD j 0 + v))
def goK (n : Nat) : List Int → List Int → Nat → List Int
  | x, [], _ => x
  | x, v :: r, i => goK n (putK x (n + i) v) r (i + 1)
theorem padK_len (x : List Int) (m : Nat) : (padK x m).length = max x.length m := by simp [padK]; omega
theorem padK_get (x : List Int) (m k : Nat) : (padK x m).getD k 0 = x.getD k 0 := by
  unfold padK
  rw [List.getD_eq_getElem?_getD, List.getD_eq_getElem?_getD]
  by_cases h : k < x.length
  · rw [List.getElem?_append_left h]
  · rw [List.getElem?_append_right (by omega), List.getElem?_eq_none (show x.length ≤ k by omega), List.getElem?_replicate]
    split <;> rfl
theorem putK_len (x : List Int) (j : Nat) (v : Int) : (putK x j v).length = max x.length (j + 1) := by unfold putK; rw [List.length_set, padK_len]
theorem putK_get (x : List Int) (j : Nat) (v : Int) (k : Nat) : (putK x j v).getD k 0 = if k = j then wrap64 (x.getD j 0 + v) else x.getD k 0 := by
  unfold putK
  by_cases e : k = j
  · subst e
    rw [if_pos rfl, List.getD_eq_getElem?_getD, List.getElem?_set_self (by rw [padK_len]; omega), padK_get]; rfl
  · rw [if_neg e, List.getD_eq_getElem?_getD, List.getElem?_set_ne (fun e2 => e e2.symm), ← List.getD_eq_getElem?_getD, padK_get]
theorem goK_len (n : Nat) : ∀ (r x : List Int) (i : Nat), (goK n x r i).length = if r = [] then x.length else max x.length (n + i + r.length)
  | [], x, i => by rw [if_pos rfl]; rfl
  | v :: r, x, i => by
    rw [goK, goK_len n r, putK_len, List.length_cons]
    rw [if_neg (show ¬ (v :: r = []) from fun h => by cases h)]
    by_cases h : r = []
    · rw [if_pos h, h, List.length_nil]
    · rw [if_neg h]; omega
theorem goK_get (n : Nat) : ∀ (r x : List Int) (i k : Nat), (goK n x r i).getD k 0 = if n + i ≤ k ∧ k < n + i + r.length then wrap64 (x.getD k 0 + r.getD (k - (n + i)) 0) else x.getD k 0
  | [], x, i, k => by rw [if_neg (show ¬ (n + i ≤ k ∧ k < n + i + ([] : List Int).length) by rw [List.length_nil]; omega)]; rfl
  | v :: r, x, i, k => by
    rw [goK, goK_get n r, putK_get, List.length_cons]
    by_cases e : k = n + i
    · subst e
      rw [if_neg (by omega), if_pos rfl, if_pos (by omega), Nat.sub_self]; rfl
    · rw [if_neg e]
      by_cases e2 : n + (i + 1) ≤ k ∧ k < n + (i + 1) + r.length
      · rw [if_pos e2, if_pos (by omega)]
        have : k - (n + i) = (k - (n + (i + 1))) + 1 := by omega
        rw [this]; rfl
      · rw [if_neg e2, if_neg (by omega)]
theorem goK_kadd (n : Nat) (a b : List Int) (hb : b ≠ []) : goK n a b 0 = Kings.kadd a b n := by
  have hl : (goK n a b 0).length = max a.length (n + b.length) := by rw [goK_len, if_neg hb]; rfl
  unfold Kings.kadd
  rw [if_neg hb]
  refine List.ext_getElem (by simpa using hl) (fun k h1 h2 => ?_)
  have e := goK_get n b a 0 k
  rw [List.getD_eq_getElem?_getD, List.getElem?_eq_getElem h1, Option.getD_some] at e
  simpa using e
theorem kiAdd_l1 (n : Nat) (b : List Int) (i : Nat) (v : Int) (hn : n ≤ 6) (hi : i < 200) : ∀ (d : Nat) (x : List Int) (k : Nat), n + i + 1 - x.length = d → x.length ≤ 1000 → d < k →
    spec_kiAdd.l1 k (n : Int) x (i : Int) v b (b.length : Int) (i : Int) = spec_kiAdd.l0 (k - d - 1) (n : Int) (putK x (n + i) v) b (b.length : Int) (((i + 1 : Nat) : Int)) := by
  intro d
  induction d with
  | zero =>
    intro x k hd hx hk
    obtain ⟨k, rfl⟩ : ∃ m, k = m + 1 := ⟨k - 1, by omega⟩
    rw [spec_kiAdd.l1, w64 ((i : Int) + n) (by omega) (by omega), if_neg (by omega), if_pos (by omega), if_pos (by omega), w64 ((i : Int) + 1) (by omega) (by omega)]
    have e1 : ((i : Int) + (n : Int)).toNat = n + i := by omega
    have e2 : (i : Int) + n = ((n + i : Nat) : Int) := by omega
    have e3 : putK x (n + i) v = x.set (n + i) (wrap64 (rd x ((n + i : Nat) : Int) + v)) := by
      have e4 : padK x (n + i + 1) = x := by unfold padK; rw [show n + i + 1 - x.length = 0 by omega]; simp
      unfold putK
      rw [e4, rd_nat _ _ (by omega), List.getD_eq_getElem?_getD, List.getElem?_eq_getElem (by omega), Option.getD_some]
    rw [e1, e2, e3, show k + 1 - 0 - 1 = k by omega, show ((i + 1 : Nat) : Int) = (i : Int) + 1 by omega]
  | succ d ih =>
    intro x k hd hx hk
    obtain ⟨k, rfl⟩ : ∃ m, k = m + 1 := ⟨k - 1, by omega⟩
    rw [spec_kiAdd.l1, w64 ((i : Int) + n) (by omega) (by omega), if_pos (by omega), if_pos (by omega), ih (x ++ [0]) k (by simp; omega) (by simp; omega) (by omega)]
    have e3 : putK (x ++ [0]) (n + i) v = putK x (n + i) v := by
      have e4 : padK (x ++ [0]) (n + i + 1) = padK x (n + i + 1) := by
        unfold padK
        rw [List.append_assoc, List.length_append, List.length_singleton, show n + i + 1 - x.length = (n + i + 1 - (x.length + 1)) + 1 by omega, List.replicate_succ]; rfl
      unfold putK
      rw [e4]
    rw [e3, show k - d - 1 = k + 1 - (d + 1) - 1 by omega]
theorem kiAdd_l0 (n : Nat) (b : List Int) (hn : n ≤ 6) (hb : b.length ≤ 100) : ∀ (d i : Nat) (x : List Int) (k : Nat), b.length - i = d → i ≤ b.length → x.length ≤ 110 → d * 120 < k →
    spec_kiAdd.l0 k (n : Int) x b (b.length : Int) (i : Int) = some (goK n x (b.drop i) i) := by
  intro d
  induction d with
  | zero =>
    intro i x k hd hi hx hk
    obtain ⟨k, rfl⟩ : ∃ m, k = m + 1 := ⟨k - 1, by omega⟩
    rw [spec_kiAdd.l0, if_neg (by omega), List.drop_eq_nil_of_le (by omega)]; rfl
  | succ d ih =>
    intro i x k hd hi hx hk
    obtain ⟨k, rfl⟩ : ∃ m, k = m + 1 := ⟨k - 1, by omega⟩
    have hlt : i < b.length := by omega
    rw [spec_kiAdd.l0, if_pos (by omega), if_pos (by omega), if_pos (by omega), rd_nat _ _ hlt, kiAdd_l1 n b i b[i] hn (by omega) _ x k rfl (by omega) (by omega), ih (i + 1) _ _ (by omega) (by omega) (by rw [putK_len]; omega) (by omega), List.drop_eq_getElem_cons hlt]
    rfl
theorem kiAdd_f (a b : List Int) (n : Nat) (ha : a.length ≤ 100) (hb : b.length ≤ 100) (hn : n ≤ 6) (k : Nat) (hk : 20000 ≤ k) : spec_kiAdd.f k a b (n : Int) = some (Kings.kadd a b n) := by
  unfold spec_kiAdd.f
  by_cases e : b = []
  · subst e
    rw [if_pos (by simp)]
    simp [Kings.kadd]
  · have : 0 < b.length := List.length_pos_iff.2 e
    have ho : spec_l1Own.f a = some a := by
      unfold spec_l1Own.f
      simp
      omega
    rw [if_neg (by omega), ho, Option.bind_some]
    have h := kiAdd_l0 n b hn hb b.length 0 a k (by omega) (by omega) (by omega) (by omega)
    rw [List.drop_zero, goK_kadd n a b e] at h
    exact h
end Go.Proofs.Ythlcaikplebpmaa.P
namespace Go.Proofs.Ythlcaikplebpmaa.Kings
open Go.RowKit Go.Proofs.Ythlcaikplebpmaa.P Go.Proofs.Ythlcaikplebpmaa.Cap Go.Proofs.YthlcaikplebpmaaW.PrintWords Go.Proofs.YthlcaikplebpmaaW.PrintLast Go.Proofs.YthlcaikplebpmaaW.PrintMore
theorem count_all : ∀ m : Fin 64, impl_count.f (m.val : Int) = some ((spec_kiNumbers.popN m.val 6 : Nat) : Int) := by decide +kernel
theorem cnt_pop (m : Nat) (h : m < 64) : impl_Board_kings.cnt m = spec_kiNumbers.popN m 6 := by
  unfold impl_Board_kings.cnt
  rw [count_all ⟨m, h⟩, Option.getD_some, Int.toNat_natCast]
theorem cnt_le (m : Nat) (h : m < 64) : impl_Board_kings.cnt m ≤ 6 := by rw [cnt_pop m h]; exact spec_kiNumbers.popN_le m 6
theorem count_cnt (m : Nat) (h : m < 64) : impl_count.f (m : Int) = some ((impl_Board_kings.cnt m : Nat) : Int) := by rw [cnt_pop m h]; exact count_all ⟨m, h⟩
theorem pop_cols : ∀ C : Fin 7, ∀ m : Fin 64, m.val < 2 ^ C.val → spec_kiNumbers.popN m.val C.val = spec_kiNumbers.popN m.val 6 := by decide +kernel
theorem comp_all : ∀ m b : Fin 64, spec_kiNumbers.c2 m.val b.val = comp (m.val : Int) (b.val : Int) := by decide +kernel
theorem valid_low : ∀ x m : Fin 64, valid x.val m.val = true → m.val ≤ x.val := by decide +kernel
def kingL (C : Nat) (l : List Int) : List Int := outK (waysK spec_kiNumbers.c2 spec_kiNumbers.v2 (fun m => spec_kiNumbers.popN m C) (2 ^ C) l (spec_kiNumbers.start (2 ^ C))) (2 ^ C)
theorem waysK_cnt (c2 : Nat → Nat → Bool) (v2 : Int → Nat → Bool) (f g : Nat → Nat) (n : Nat) (h : ∀ m, m < n → f m = g m) : ∀ (l : List Int) (W : List (List Int)), waysK c2 v2 f n l W = waysK c2 v2 g n l W
  | [], _ => rfl
  | x :: l, W => by
    have e : nextK c2 v2 f n W x = nextK c2 v2 g n W x := by
      unfold nextK
      exact List.map_congr_left (fun m hm => by rw [h m (List.mem_range.1 hm)])
    rw [waysK, waysK, e, waysK_cnt c2 v2 f g n h l]
theorem pow_cols (C : Nat) (h : C ≤ 6) : 0 < 2 ^ C ∧ 2 ^ C ≤ 64 := ⟨Nat.pow_pos (by omega), Nat.le_trans (Nat.pow_le_pow_right (by omega) h) (by decide)⟩
/-- The rows of a board of C columns. -/
def Rows6 (C : Nat) (l : List Int) : Prop := l.length ≤ 6 ∧ ∀ x ∈ l, 0 ≤ x ∧ x < ((2 ^ C : Nat) : Int)
def kingF (l : List Int) : Nat → Nat → Int := steps impl_Board_kings.cnt l first
theorem kingL_canon {C : Nat} (hC : C ≤ 6) {l : List Int} (hl : Rows6 C l) : Canon (total (kingF l)) (kingL C l) := by
  obtain ⟨h0, h64⟩ := pow_cols C hC
  have hlow : ∀ x m, x < 64 → m < 64 → valid x m = true → m ≤ x := fun x m hx hm => valid_low ⟨x, hx⟩ ⟨m, hm⟩
  have hT := waysK_told (c2 := spec_kiNumbers.c2) (v2 := spec_kiNumbers.v2) (cnt := impl_Board_kings.cnt) h64 cnt_le (fun m b hm hb => comp_all ⟨m, hm⟩ ⟨b, hb⟩) (fun x m _ _ => rfl) (fun x m hx hm hv => by have := hlow x m (by omega) hm hv; omega) l first ((List.replicate (2 ^ C) []).set 0 [1]) 0 0 first_good (first_told _ h0) (by have := hl.1; omega) hl.2
  have hl63 : ∀ x ∈ l, 0 ≤ x ∧ x ≤ 63 := fun x hx => by have := hl.2 x hx; omega
  obtain ⟨q, _, hG, _⟩ := ways_keyed (cnt := impl_Board_kings.cnt) cnt_le hlow l first 0 (fun b => b == 0) 0 first_good (fun b k _ hb => by unfold first; rw [if_neg (by intro hh; simp [hh.1] at hb)]) (by have := hl.1; omega) hl63
  have e : waysK spec_kiNumbers.c2 spec_kiNumbers.v2 (fun m => spec_kiNumbers.popN m C) (2 ^ C) l (spec_kiNumbers.start (2 ^ C)) = waysK spec_kiNumbers.c2 spec_kiNumbers.v2 impl_Board_kings.cnt (2 ^ C) l ((List.replicate (2 ^ C) []).set 0 [1]) :=
    waysK_cnt _ _ _ _ _ (fun m hm => by rw [cnt_pop m (by omega)]; exact pop_cols ⟨C, by omega⟩ ⟨m, by omega⟩ hm) l _
  unfold kingL
  rw [e]
  refine out_total h64 hG ?_ hT
  have : 64 ^ (0 + l.length) ≤ 64 ^ 6 := Nat.pow_le_pow_right (by omega) (by have := hl.1; omega)
  omega
theorem rd_getD (l : List Int) (n : Nat) : rd l (n : Int) = l.getD n 0 := by unfold rd; simp
theorem short_canon (l : List Int) : ∀ n, n ≤ l.length → (∀ k, n ≤ k → l.getD k 0 = 0) → Canon (fun k => l.getD k 0) (short l n)
  | 0, _, h => ⟨fun k => (h k (Nat.zero_le _)).symm, fun h => absurd rfl h⟩
  | n + 1, hn, h => by
    rw [short]
    by_cases e : rd l (n : Int) = 0
    · rw [if_pos e]
      refine short_canon l n (by omega) (fun k hk => ?_)
      by_cases e2 : k = n
      · subst e2; rw [← rd_getD]; exact e
      · exact h k (by omega)
    · rw [if_neg e]
      refine ⟨fun k => ?_, fun _ => ?_⟩
      · by_cases hk : k < n + 1
        · rw [List.getD_eq_getElem?_getD, List.getD_eq_getElem?_getD, List.getElem?_take, if_pos hk]
        · rw [h k (by omega), List.getD_eq_getElem?_getD, List.getElem?_take, if_neg hk]; rfl
      · rw [List.length_take, Nat.min_eq_left hn, Nat.add_sub_cancel, List.getD_eq_getElem?_getD, List.getElem?_take, if_pos (by omega), ← List.getD_eq_getElem?_getD, ← rd_getD]
        exact e
theorem okL_keyed : ∀ (l : List Int) (F : Nat → Nat → Int) (R : Nat) (p : Nat → Bool) (n : Nat), Good F ((64 ^ n : Nat) : Int) R → (∀ b k, b < 64 → p b = false → F b k = 0) → n + l.length ≤ 6 → R + 6 * l.length ≤ 36 → (∀ x ∈ l, 0 ≤ x ∧ x ≤ 63) → impl_Board_kings.okL (keyed F p) l
  | [], _, _, _, _, _, _, _, _, _ => trivial
  | x :: l, F, R, p, n, h, hp, hn, hR, hx => by
    have hx0 := hx x (List.mem_cons_self ..)
    rw [List.length_cons] at hn hR
    have hlow : ∀ m, m < 64 → valid x.toNat m = true → m ≤ x.toNat := fun m hm hv => valid_low ⟨x.toNat, by omega⟩ ⟨m, hm⟩ hv
    have hM : ((64 ^ n : Nat) : Int) ≤ 72057594037927936 := by
      have : 64 ^ n ≤ 64 ^ 6 := Nat.pow_le_pow_right (by omega) (by omega)
      omega
    have hs : Good (step impl_Board_kings.cnt x.toNat F) ((64 ^ (n + 1) : Nat) : Int) (R + 6) := by
      have := h.step (x := x.toNat) cnt_le
      rw [Nat.pow_succ]
      have e : (64 : Int) * ((64 ^ n : Nat) : Int) = ((64 ^ n * 64 : Nat) : Int) := by rw [Int.natCast_mul, Int.mul_comm]; rfl
      rw [e] at this
      exact this
    have hz : ∀ b k, b < 64 → valid x.toNat b = false → step impl_Board_kings.cnt x.toNat F b k = 0 := fun b k _ hv => by unfold step; rw [if_neg (by rw [hv]; simp)]
    refine ⟨hx0, fun m hm hv => ⟨count_cnt m (by omega), fun y hy hc j hj hpos => ?_⟩, ?_⟩
    · obtain ⟨b, hb, rfl⟩ := List.mem_map.1 hy
      have hb := List.mem_range.1 (List.mem_filter.1 hb).1
      dsimp only at hpos
      rw [vec_getD _ _ hj] at hpos
      have hjR : j ≤ R := by
        by_cases e : j ≤ R
        · exact e
        · have := h.few b j hb (by omega); omega
      have := cnt_le m (by omega)
      omega
    · rw [upto_keyed (by omega) hlow h hM hp]
      exact okL_keyed l _ (R + 6) _ (n + 1) hs hz (by omega) (by omega) (fun y hy => hx y (List.mem_cons_of_mem _ hy))
theorem kings_ev (R C : Nat) (hC : C ≤ 6) (l : List Int) (hl : Rows6 C l) : Ev (fun k => impl_Board_kings.f k (R : Int) (C : Int) l) (kingL C l) := by
  obtain ⟨h0, h64⟩ := pow_cols C hC
  have hlow : ∀ x m, x < 64 → m < 64 → valid x m = true → m ≤ x := fun x m hx hm => valid_low ⟨x, hx⟩ ⟨m, hm⟩
  have hl63 : ∀ x ∈ l, 0 ≤ x ∧ x ≤ 63 := fun x hx => by have := hl.2 x hx; omega
  have hp0 : ∀ b k, b < 64 → (fun b : Nat => b == 0) b = false → first b k = 0 := fun b k _ hb => by unfold first; rw [if_neg (by intro hh; simp [hh.1] at hb)]
  obtain ⟨q, hW, hG, hq⟩ := ways_keyed (cnt := impl_Board_kings.cnt) cnt_le hlow l first 0 (fun b => b == 0) 0 first_good hp0 (by have := hl.1; omega) hl63
  have hs : impl_Board_kings.start = keyed first (fun b => b == 0) := first_keyed.symm
  have hok : impl_Board_kings.okL impl_Board_kings.start l := by rw [hs]; exact okL_keyed l first 0 _ 0 first_good hp0 (by have := hl.1; omega) (by have := hl.1; omega) hl63
  have hM : ((64 ^ (0 + l.length) : Nat) : Int) ≤ 72057594037927936 := by
    have : 64 ^ (0 + l.length) ≤ 64 ^ 6 := Nat.pow_le_pow_right (by omega) (by have := hl.1; omega)
    omega
  have ho : ownV impl_Board_kings.all (waysOf impl_Board_kings.cnt impl_Board_kings.start l) = vec (total (kingF l)) := by
    rw [hs, hW]
    exact own_total hG hM hq
  have hz : ∀ k, 37 ≤ k → total (kingF l) k = 0 := fun k hk => sum_zero _ _ (fun b hb => hG.few b k (List.mem_range.1 hb) (by have := hl.1; omega))
  have hvec : ∀ k, (vec (total (kingF l))).getD k 0 = total (kingF l) k := fun k => by
    by_cases h : k < 37
    · exact vec_getD _ _ h
    · rw [hz k (by omega)]; exact getD_past _ _ (by rw [vec_length]; omega)
  have hc : Canon (total (kingF l)) (short (vec (total (kingF l))) (vec (total (kingF l))).length) :=
    (short_canon _ _ (Nat.le_refl _) (fun k hk => getD_past _ _ hk)).congr hvec
  rw [(kingL_canon hC hl).unique hc]
  refine Ev.congr (fun k => ?_) (trim_ev (vec (total (kingF l))) (by rw [vec_length]; omega))
  unfold impl_Board_kings.f
  rw [if_pos hok, ho]; rfl
theorem kiNumbers_ev (R C : Nat) (hC : C ≤ 6) (l : List Int) (hl : Rows6 C l) : Ev (fun k => spec_kiNumbers.f k (R : Int) (C : Int) l) (kingL C l) := by
  refine ⟨20000, fun k hk => ?_⟩
  have hok : spec_kiNumbers.okS k (C : Int) l := ⟨⟨by omega, by omega, hl.1⟩, fun a b n h1 h2 h3 => kiAdd_f a b n h1 h2 h3 k hk⟩
  simp only [spec_kiNumbers.f, if_pos hok, Int.toNat_natCast]
  rfl
theorem rows6_of {r c : Int} {l : List Int} (h : boardB r c l = true) : Rows6 c.toNat l := by
  obtain ⟨h1, h2, h3, h4⟩ := (boardB_iff _ _ _).1 h
  refine ⟨by omega, fun x hx => ?_⟩
  have := h4 x hx
  have e : ((2 ^ c.toNat : Nat) : Int) = 2 ^ c.toNat := by simp
  omega
end Go.Proofs.Ythlcaikplebpmaa.Kings
namespace Go.Proofs.Ythlcaikplebpmaa.Pure
open Go.RowKit Go.Proofs.Ythlcaikplebpmaa.P Go.Proofs.YthlcaikplebpmaaW.PrintWords Go.Proofs.YthlcaikplebpmaaW.PrintLast
set_option linter.unusedSimpArgs false
set_option linter.unusedVariables false
namespace FnExactFirstKings
def best (r c : Int) (l : List Int) (k : Nat) : Option (List (List Int)) := if 0 = k then some [] else firstL nearB k (cells r c l) []
def R (r c : Int) (l : List Int) (a : Int) : List (List Int) × Bool := if boardB r c l = true ∧ inB a 0 12 = true ∧ a < ((Kings.kingL c.toNat l).length : Int) then resF (best r c l a.toNat) else ([], false)
theorem pairs_nodup : ∀ R : Fin 7, ∀ C : Fin 7, (pairsAll R.val C.val).Nodup := by decide +kernel
theorem cells_nodup (R C : Nat) (l : List Int) (hR : R ≤ 6) (hC : C ≤ 6) : (cells (R : Int) (C : Int) l).Nodup := by
  rw [cells_pairs]
  unfold List.Nodup
  rw [List.pairwise_map]
  refine (List.Pairwise.filter _ (pairs_nodup ⟨R, by omega⟩ ⟨C, by omega⟩)).imp ?_
  intro a b h e
  simp only [List.cons.injEq, and_true] at e
  exact h (Prod.ext (by omega) (by omega))
theorem in12 {a : Int} (h : inB a 0 12 = true) : ∃ k : Nat, a = (k : Int) ∧ k ≤ 12 := by
  have : 0 ≤ a ∧ a ≤ 12 := by simpa [inB] using h
  exact ⟨a.toNat, by omega, by omega⟩
theorem board_nat {r c : Int} {l : List Int} (h : boardB r c l = true) : ∃ R C : Nat, r = R ∧ c = C ∧ R ≤ 6 ∧ C ≤ 6 := by
  have hb := (boardB_iff _ _ _).1 h
  exact ⟨r.toNat, c.toNat, by omega, by omega, by omega, by omega⟩
theorem best_sub {r c : Int} {l : List Int} {k : Nat} {o : List (List Int)} (h : best r c l k = some o) : o.Sublist (cells r c l) := by
  unfold best at h
  by_cases h0 : 0 = k
  · rw [if_pos h0] at h; obtain rfl := Option.some.inj h; exact List.nil_sublist _
  · rw [if_neg h0] at h
    obtain ⟨s, h1, h2⟩ := firstL_some nearB k _ _ o h
    rw [h2]; exact h1
theorem cell_two {x : List Int} (h : Cell6 x) : x.length = 2 := by
  obtain ⟨p, q, rfl, _, _⟩ := h; rfl
theorem res_ok {R C : Nat} {l : List Int} (h : boardB (R : Int) (C : Int) l = true) (hR : R ≤ 6) (hC : C ≤ 6) (k : Nat) : (resF (best (R : Int) (C : Int) l k)).1.Nodup ∧ ∀ x ∈ (resF (best (R : Int) (C : Int) l k)).1, x.length = 2 := by
  cases hb : best (R : Int) (C : Int) l k with
  | none => exact ⟨List.nodup_nil, fun x hx => by simp [resF] at hx⟩
  | some o =>
    have hs := best_sub hb
    exact ⟨List.Pairwise.sublist hs (cells_nodup R C l hR hC), fun x hx => cell_two (cells_cell h (hs.subset hx))⟩
theorem cb_eq (k : Nat) (s : Option (List (List Int))) (l : List (List Int)) (hs : s = none) (h1 : l.length ≤ 1000) (h2 : ∀ y ∈ l, Cell6 y) : impl_Board_firstOf_1.f (k : Int) s l = some (cbF k s l) := by
  subst hs
  unfold impl_Board_firstOf_1.f cbF
  by_cases h : l.length < k
  · rw [if_pos (by omega), if_pos h]
  · rw [if_neg (by omega), if_neg h]
    exact if_pos ⟨h1, fun x hx => by rw [cell_two (h2 x hx)]; decide⟩
theorem cb_keep (k : Nat) (s : Option (List (List Int))) (l : List (List Int)) (hs : s = none) (h : (cbF k s l).1 = true) : (cbF k s l).2 = none := by
  unfold cbF at h ⊢
  by_cases hk : l.length < k
  · rw [if_pos hk]; exact hs
  · rw [if_neg hk] at h; exact absurd h (by simp)
theorem firstOf_ev {r c : Int} {l : List Int} (h : boardB r c l = true) (k : Nat) (are : FnT38) (hare : ∀ y x, Cell6 y → Cell6 x → are y x = some (!nearB y x)) : Ev (fun n => impl_Board_firstOf.f n r c l (k : Int) are) (resF (best r c l k)) := by
  obtain ⟨K, hK⟩ := ev_get (lists2_ev (D := nearB) (are := are) (cbO := impl_Board_firstOf_1.f (k : Int)) (cb := cbF k) (I := fun s => s = none) h k hare (fun s q i1 i2 i3 => cb_eq k s q i1 i2 i3) (fun s q i1 i2 => cb_keep k s q i1 i2) none rfl)
  have hval : (if 0 = k then cbF k none [] else goL nearB (cbF k) k (cells r c l) [] (cbF k none [])) = outF (best r c l k) := by
    unfold best
    by_cases h0 : 0 = k
    · subst h0
      rw [if_pos rfl, if_pos rfl]
      rfl
    · rw [if_neg h0, if_neg h0]
      have e0 : cbF k none [] = (true, none) := by unfold cbF; rw [if_pos (by simp only [List.length_nil]; omega)]
      rw [e0, goL_first nearB k (cells r c l) [] (by simp only [List.length_nil]; omega)]
  rw [hval] at hK
  refine ⟨K, fun n hn => ?_⟩
  unfold impl_Board_firstOf.f
  dsimp only
  rw [hK n hn, Option.bind_some]
  cases best r c l k <;> rfl
theorem impl_ev (r c : Int) (l : List Int) (a : Int) (hb : l.length ≤ 1152921504606846976) : Ev (fun k => impl_FirstKings.f k r c l a) (R r c l a) := by
  unfold R
  by_cases h : boardB r c l = true
  · obtain ⟨R', C', rfl, rfl, hR, hC⟩ := board_nat h
    have h6 := Kings.rows6_of h
    rw [Int.toNat_natCast] at h6
    obtain ⟨K1, h1⟩ := ev_get (Kings.kings_ev R' C' hC l h6)
    by_cases hq : inB a 0 12 = true
    · obtain ⟨k, rfl, hk⟩ := in12 hq
      obtain ⟨K2, h2⟩ := ev_get (firstOf_ev h k impl_FirstKings.are (fun y x hy hx => asKings_eq hy hx))
      simp only [Int.toNat_natCast]
      generalize Kings.kingL C' l = B at *
      by_cases hg : (k : Int) < (B.length : Int)
      · rw [if_pos ⟨h, hq, hg⟩]
        refine ⟨K1 + K2, fun n hn => ?_⟩
        simp only [impl_FirstKings.f, impl_IsBoard.f, impl_isPieces.f, within_eq, Option.bind_some, h, hq, if_true, h1 n (by omega)]
        rw [if_neg (by omega)]
        exact h2 n (by omega)
      · rw [if_neg (fun hh => hg hh.2.2)]
        refine ⟨K1, fun n hn => ?_⟩
        simp only [impl_FirstKings.f, impl_IsBoard.f, impl_isPieces.f, within_eq, Option.bind_some, h, hq, if_true, h1 n (by omega)]
        rw [if_pos (by omega)]
    · rw [if_neg (fun hh => hq hh.2.1)]
      simp only [Bool.not_eq_true] at hq
      exact ⟨0, fun n hn => by simp only [impl_FirstKings.f, impl_IsBoard.f, impl_isPieces.f, within_eq, Option.bind_some, h, hq, if_true, Bool.false_eq_true, if_false]⟩
  · rw [if_neg (fun hh => h hh.1)]
    simp only [Bool.not_eq_true] at h
    exact ⟨0, fun n hn => by simp only [impl_FirstKings.f, impl_IsBoard.f, Option.bind_some, h, Bool.false_eq_true, if_false]⟩
theorem near_comm {x y : List Int} (hx : Cell6 x) (hy : Cell6 y) : nearB x y = nearB y x := by
  obtain ⟨p, q, rfl, _, _⟩ := hx
  obtain ⟨p', q', rfl, _, _⟩ := hy
  unfold nearB
  simp only [rd0, rd1]
  congr 1
  simp only [eq_iff_iff]
  omega
theorem spec_ev (r c : Int) (l : List Int) (a : Int) (hb : l.length ≤ 1152921504606846976) : Ev (fun k => spec_FirstKings.f k r c l a) (R r c l a) := by
  obtain ⟨K0, h0⟩ := ev_get (boGood_ev r c l hb)
  unfold R
  by_cases h : boardB r c l = true
  · obtain ⟨R', C', rfl, rfl, hR, hC⟩ := board_nat h
    have h6 := Kings.rows6_of h
    rw [Int.toNat_natCast] at h6
    obtain ⟨K1, h1⟩ := ev_get (Kings.kiNumbers_ev R' C' hC l h6)
    by_cases hq : inB a 0 12 = true
    · obtain ⟨k, rfl, hk⟩ := in12 hq
      obtain ⟨K2, h2⟩ := ev_get (boCells_ev h)
      obtain ⟨K3, h3⟩ := ev_get (biFirst_ev (all := cells (R' : Int) (C' : Int) l) (kd := 1) (D := nearB) (Nat.le_trans (cells_len h) (by decide)) (fun y hy x hx => by rw [biDisturb1_eq (cells_cell h hx) (cells_cell h hy), near_comm (cells_cell h hx) (cells_cell h hy)]) k (by omega))
      have hok := res_ok h hR hC k
      have e4 : (if 0 = k then some [] else firstL nearB k (cells (R' : Int) (C' : Int) l) []) = best (R' : Int) (C' : Int) l k := rfl
      rw [e4] at h3
      simp only [Int.toNat_natCast]
      generalize Kings.kingL C' l = B at *
      generalize best (R' : Int) (C' : Int) l k = o at *
      by_cases hg : (k : Int) < (B.length : Int)
      · rw [if_pos ⟨h, hq, hg⟩]
        refine ⟨K0 + K1 + K2 + K3, fun n hn => ?_⟩
        simp only [spec_FirstKings.f, spec_biAsked.f, h0 n (by omega), l1In_eq, Option.bind_some, h, hq, if_true, h1 n (by omega)]
        rw [if_neg (by omega), h2 n (by omega), Option.bind_some, h3 n (by omega), Option.bind_some, if_pos hok]
      · rw [if_neg (fun hh => hg hh.2.2)]
        refine ⟨K0 + K1, fun n hn => ?_⟩
        simp only [spec_FirstKings.f, spec_biAsked.f, h0 n (by omega), l1In_eq, Option.bind_some, h, hq, if_true, h1 n (by omega)]
        rw [if_pos (by omega)]
    · rw [if_neg (fun hh => hq hh.2.1)]
      simp only [Bool.not_eq_true] at hq
      exact ⟨K0, fun n hn => by simp only [spec_FirstKings.f, spec_biAsked.f, h0 n hn, l1In_eq, Option.bind_some, h, hq, if_true, Bool.false_eq_true, if_false]⟩
  · rw [if_neg (fun hh => h hh.1)]
    simp only [Bool.not_eq_true] at h
    exact ⟨K0, fun n hn => by simp only [spec_FirstKings.f, spec_biAsked.f, h0 n hn, Option.bind_some, h, Bool.false_eq_true, if_false]⟩
theorem R_small (r c : Int) (l : List Int) (a : Int) : (R r c l a).1.length ≤ 36 ∧ ∀ x ∈ (R r c l a).1, x.length ≤ 2 := by
  unfold R
  by_cases h : boardB r c l = true ∧ inB a 0 12 = true ∧ a < ((Kings.kingL c.toNat l).length : Int)
  · rw [if_pos h]
    cases hb : best r c l a.toNat with
    | none => exact ⟨by simp [resF], fun x hx => by simp [resF] at hx⟩
    | some o =>
      have hs := best_sub hb
      exact ⟨Nat.le_trans hs.length_le (cells_len h.1), fun x hx => by rw [cell_two (cells_cell h.1 (hs.subset hx))]; decide⟩
  · rw [if_neg h]; simp
end FnExactFirstKings
open FnExactFirstKings in
theorem FnExactFirstKings : laws_FnExactFirstKings.Pure := by
  intro a0_0 a0_1 l0_2 a1 hy0 hy1 hy2 hy3
  have hl_l0_2 := hy2.1
  simp only [maxLen] at hl_l0_2
  have hsz := szBoard_eq a0_0 a0_1 l0_2 ((1048576 : Int)) (by omega) (by omega) (by simp only [maxLen]; omega)
  by_cases hb_l0_2 : (1048576 : Int) - l0_2.length < 0
  · refine ⟨0, ?_⟩
    unfold laws_FnExactFirstKings.f
    rw [if_pos ⟨_, hsz, by rw [if_pos hb_l0_2]; omega⟩]
  rw [if_neg hb_l0_2] at hsz
  obtain ⟨K1, h1⟩ := ev_get (spec_ev a0_0 a0_1 l0_2 a1 (by omega))
  obtain ⟨K2, h2⟩ := ev_get (impl_ev a0_0 a0_1 l0_2 a1 (by omega))
  have hr := R_small a0_0 a0_1 l0_2 a1
  have ht := total_le hr.2
  generalize R a0_0 a0_1 l0_2 a1 = R at *
  obtain ⟨K3, h3⟩ := ev_get (toBoard_ev a0_0 a0_1 l0_2 (by omega))
  obtain ⟨K4, h4⟩ := ev_get (eqBoard_ev a0_0 a0_1 l0_2 (by omega))
  obtain ⟨K5, h5⟩ := ev_get (markBoard_ev a0_0 a0_1 l0_2 (by omega))
  obtain ⟨K6, h6⟩ := ev_get (eqIntSS_ev R.1 R.1 (by omega) (fun l hl => by have := hr.2 l hl; omega))
  obtain ⟨K7, h7⟩ := ev_get (markIntSS_ev R.1 1 (by omega) (by omega) (by omega) (by omega))
  obtain ⟨K8, h8⟩ := ev_get (heldIntSS_ev R.1 1 (by omega) (by omega) (by omega) (by omega))
  obtain ⟨m, hm⟩ : ∃ m, m = K1 + K2 + K3 + K4 + K5 + K6 + K7 + K8 := ⟨_, rfl⟩
  refine ⟨m, ?_⟩
  unfold laws_FnExactFirstKings.f
  rw [if_neg (fun hh => by obtain ⟨s, e1, e2⟩ := hh; rw [hsz] at e1; have := Option.some.inj e1; omega), if_pos]
  exact ⟨_, R.1, R.2, _, _, _, _, by omega, hsz, h3 m (by omega), h1 m (by omega), h2 m (by omega), (h6 m (by omega)).trans (by simp), h4 m (by omega), by omega, h5 m (by omega), by omega, h7 m (by omega), h8 m (by omega)⟩
end Go.Proofs.Ythlcaikplebpmaa.Pure
