/- For all arguments BishopsOf returns what the reference returns, in memory of its own, and leaves its arguments as they were: no condition but that the arguments can be read. -/
import Derived.Test.YtdoflpghemgbdaaSr
import Derived.Test.YtdoflpghemgbdaaPx0
import Derived.Test.YtdoflpghemgbdaaQe921f7f6c3
import Derived.Test.YtdoflpghemgbdaaQ06f4a11cba
import Derived.Test.YtdoflpghemgbdaaQ8dbf48421f
import Derived.Test.YtdoflpghemgbdaaQae02657195
import Derived.Test.YtdoflpghemgbdaaQ3ccfaa7f03
import Derived.Test.YtdoflpghemgbdaaQ44da41490c
import Derived.Test.YtdoflpghemgbdaaQb36bb1925b
import Derived.Test.YtdoflpghemgbdaaQ5ce4f7d3e5
import Derived.Test.YtdoflpghemgbdaaQ113a131149
namespace Go.Proofs.Ytdoflpghemgbdaa.P
open Go.RowKit Go.Proofs.YtdoflpghemgbdaaW.PrintWords Go.Proofs.YtdoflpghemgbdaaW.PrintLast Go.Proofs.YtdoflpghemgbdaaW.PrintMore
set_option linter.unusedVariables false
set_option linter.unusedSimpArgs false
theorem w64 (n : Int) (h : -9223372036854775808 ≤ n) (h2 : n ≤ 9223372036854775807) : wrap64 n = n := by unfold wrap64; omega
theorem rd_nat (l : List Int) (i : Nat) (h : i < l.length) : rd l (i : Int) = l[i] := by
  unfold rd; simp [List.getD_eq_getElem?_getD, List.getElem?_eq_getElem h]
theorem drop_cons (l : List Int) (i : Nat) (h : i < l.length) : l.drop i = l[i] :: l.drop (i + 1) := List.drop_eq_getElem_cons h
theorem ev_get {α : Type} {g : Nat → Option α} {r : α} (h : Ev g r) : ∃ K, ∀ k, K ≤ k → g k = some r := h
theorem take_set_succ {α : Type} (l : List α) (i : Nat) (x : α) (h : i < l.length) : (l.set i x).take (i + 1) = l.take i ++ [x] := by
  rw [List.take_add_one, List.take_set_of_le (Nat.le_refl _)]
  simp [h]
theorem toIntS_l0 (x0 : List Int) (hl : x0.length ≤ 1152921504606846976) : ∀ (d i : Nat) (x3 : List Int) (k : Nat), x0.length - i = d → i ≤ x0.length → x3.length = x0.length → d < k →
    laws_toIntS.l0 k x0 x3 (i : Int) = some (x3.take i ++ x0.drop i) := by
  intro d
  induction d with
  | zero =>
    intro i x3 k hd hi hx hk
    obtain ⟨k, rfl⟩ : ∃ m, k = m + 1 := ⟨k - 1, by omega⟩
    rw [laws_toIntS.l0, if_neg (by omega)]
    have : i = x0.length := by omega
    subst this
    simp [← hx]
  | succ d ih =>
    intro i x3 k hd hi hx hk
    obtain ⟨k, rfl⟩ : ∃ m, k = m + 1 := ⟨k - 1, by omega⟩
    have h1 : i < x0.length := by omega
    rw [laws_toIntS.l0, if_pos (by omega), if_pos (by omega), if_pos (by omega), w64 _ (by omega) (by omega)]
    have := ih (i + 1) (x3.set i (rd x0 i)) k (by omega) (by omega) (by simp [hx]) (by omega)
    rw [show ((i : Int) + 1) = ((i + 1 : Nat) : Int) by omega, show (i : Int).toNat = i by omega, this, rd_nat _ _ h1, drop_cons x0 i h1]
    congr 1
    rw [take_set_succ _ _ _ (by omega)]
    simp
theorem toIntS_ev (l : List Int) (hl : l.length ≤ 35184372088832) : Ev (fun k => laws_toIntS.f k l) l := by
  refine ⟨l.length + 1, fun k hk => ?_⟩
  simp only [laws_toIntS.f]
  rw [if_pos (by omega), if_pos (by omega)]
  have := toIntS_l0 l (by omega) l.length 0 (List.replicate l.length 0) k (by omega) (by omega) (by simp) (by omega)
  simpa using this
theorem eqIntS_l0 (a b : List Int) (hl : a.length = b.length) (hb : a.length ≤ 1152921504606846976) : ∀ (d i : Nat) (k : Nat), a.length - i = d → i ≤ a.length → d < k →
    laws_eqIntS.l0 k a b (i : Int) = some (decide (a.drop i = b.drop i)) := by
  intro d
  induction d with
  | zero =>
    intro i k hd hi hk
    obtain ⟨k, rfl⟩ : ∃ m, k = m + 1 := ⟨k - 1, by omega⟩
    rw [laws_eqIntS.l0, if_neg (by omega)]
    simp [List.drop_eq_nil_of_le (show a.length ≤ i by omega), List.drop_eq_nil_of_le (show b.length ≤ i by omega)]
  | succ d ih =>
    intro i k hd hi hk
    obtain ⟨k, rfl⟩ : ∃ m, k = m + 1 := ⟨k - 1, by omega⟩
    have h1 : i < a.length := by omega
    rw [laws_eqIntS.l0, if_pos (by omega), if_pos (by omega), if_pos (by omega), w64 _ (by omega) (by omega), rd_nat _ _ h1, rd_nat _ _ (show i < b.length by omega)]
    rw [show ((i : Int) + 1) = ((i + 1 : Nat) : Int) by omega, ih (i + 1) k (by omega) (by omega) (by omega)]
    rw [drop_cons a i h1, drop_cons b i (by omega)]
    generalize a.drop (i + 1) = ta, b.drop (i + 1) = tb
    by_cases h : a[i] = b[i]
    · simp [h]
    · simp [h]
theorem eqIntS_ev (a b : List Int) (hb : a.length ≤ 1152921504606846976) : Ev (fun k => laws_eqIntS.f k a b) (decide (a = b)) := by
  refine ⟨a.length + 1, fun k hk => ?_⟩
  simp only [laws_eqIntS.f]
  by_cases h : a.length = b.length
  · rw [if_pos (by omega)]
    have := eqIntS_l0 a b h hb a.length 0 k (by omega) (by omega) (by omega)
    simpa using this
  · rw [if_neg (by omega)]
    congr 1
    symm
    apply decide_eq_false
    intro e
    exact h (by rw [e])
def marks (n : Nat) (k : Int) : List Int := (List.range n).map fun (i : Nat) => k + (i : Int)
theorem marks_length (n : Nat) (k : Int) : (marks n k).length = n := by simp [marks]
theorem marks_succ (n : Nat) (k : Int) : marks (n + 1) k = k :: marks n (k + 1) := by
  unfold marks
  rw [List.range_succ_eq_map, List.map_cons, List.map_map]
  congr 1
  · simp
  · apply List.map_congr_left
    intro a _
    simp
    omega
theorem markIntS_l0 : ∀ (d i : Nat) (x0 : List Int) (x1 : Int) (k : Nat), x0.length - i = d → i ≤ x0.length → d < k → x0.length ≤ 1152921504606846976 → 0 ≤ x1 → x1 + d ≤ 4611686018427387904 →
    laws_markIntS.l0 k x0 x1 (i : Int) = some (x1 + d, x0.take i ++ marks d x1) := by
  intro d
  induction d with
  | zero =>
    intro i x0 x1 k hd hi hk hb h0 h1
    obtain ⟨k, rfl⟩ : ∃ m, k = m + 1 := ⟨k - 1, by omega⟩
    rw [laws_markIntS.l0, if_neg (by omega)]
    have : i = x0.length := by omega
    subst this
    simp [marks]
  | succ d ih =>
    intro i x0 x1 k hd hi hk hb h0 h1
    obtain ⟨k, rfl⟩ : ∃ m, k = m + 1 := ⟨k - 1, by omega⟩
    rw [laws_markIntS.l0, if_pos (by omega), if_pos (by omega), w64 _ (by omega) (by omega), w64 _ (by omega) (by omega)]
    rw [show ((i : Int) + 1) = ((i + 1 : Nat) : Int) by omega, show (i : Int).toNat = i by omega]
    rw [ih (i + 1) (x0.set i x1) (x1 + 1) k (by simp; omega) (by simp; omega) (by omega) (by simpa using hb) (by omega) (by omega)]
    rw [marks_succ]
    congr 2
    · omega
    · rw [take_set_succ _ _ _ (by omega)]
      simp
theorem markIntS_ev (l : List Int) (k1 : Int) (hb : l.length ≤ 1152921504606846976) (h0 : 0 ≤ k1) (h1 : k1 + l.length ≤ 4611686018427387904) : Ev (fun k => laws_markIntS.f k l k1) (k1 + l.length, marks l.length k1) := by
  refine ⟨l.length + 1, fun k hk => ?_⟩
  simp only [laws_markIntS.f]
  have := markIntS_l0 l.length 0 l k1 k (by omega) (by omega) (by omega) hb h0 h1
  simpa using this
theorem heldIntS_l0 (n : Nat) (k0 : Int) (hb : n ≤ 1152921504606846976) (h0 : 0 ≤ k0) (h1 : k0 + n ≤ 4611686018427387904) : ∀ (d i : Nat) (k : Nat), n - i = d → i ≤ n → d < k →
    laws_heldIntS.l0 k (marks n k0) (k0 + i) (i : Int) = some (k0 + n) := by
  intro d
  induction d with
  | zero =>
    intro i k hd hi hk
    obtain ⟨k, rfl⟩ : ∃ m, k = m + 1 := ⟨k - 1, by omega⟩
    rw [laws_heldIntS.l0, if_neg (by rw [marks_length]; omega)]
    congr 1; omega
  | succ d ih =>
    intro i k hd hi hk
    obtain ⟨k, rfl⟩ : ∃ m, k = m + 1 := ⟨k - 1, by omega⟩
    have h2 : i < (marks n k0).length := by rw [marks_length]; omega
    rw [laws_heldIntS.l0, if_pos (by rw [marks_length]; omega), if_pos (by omega), rd_nat _ _ h2, if_pos (by simp [marks]), w64 _ (by omega) (by omega), w64 _ (by omega) (by omega)]
    have := ih (i + 1) k (by omega) (by omega) (by omega)
    rw [show ((i : Int) + 1) = ((i + 1 : Nat) : Int) by omega, show (k0 + (i : Int) + 1) = k0 + ((i + 1 : Nat) : Int) by omega]
    exact this
theorem heldIntS_ev (n : Nat) (k0 : Int) (hb : n ≤ 1152921504606846976) (h0 : 0 ≤ k0) (h1 : k0 + n ≤ 4611686018427387904) : Ev (fun k => laws_heldIntS.f k (marks n k0) k0) (k0 + n) := by
  refine ⟨n + 1, fun k hk => ?_⟩
  simp only [laws_heldIntS.f]
  have := heldIntS_l0 n k0 hb h0 h1 n 0 k (by omega) (by omega) (by omega)
  simpa using this
def inB (n lo hi : Int) : Bool := decide (lo ≤ n ∧ n ≤ hi)
theorem l1In_eq (a b c : Int) : spec_l1In.f a b c = some (inB a b c) := by
  unfold spec_l1In.f inB
  by_cases h : a ≥ b
  · rw [if_pos h]; congr 1; simp; omega
  · rw [if_neg h]; congr 1; symm; apply decide_eq_false; omega
theorem within_eq (a b c : Int) : impl_within.f a b c = some (inB a b c) := by
  unfold impl_within.f inB
  by_cases h : b ≤ a
  · rw [if_pos h]; congr 1; simp; omega
  · rw [if_neg h]; congr 1; symm; apply decide_eq_false; omega
def allIn (l : List Int) (lo hi : Int) : Bool := l.all fun x => inB x lo hi
theorem l1All_l0 (lo hi : Int) (l : List Int) (hb : l.length ≤ 1152921504606846976) : ∀ (d i : Nat) (k : Nat), l.length - i = d → i ≤ l.length → d < k →
    spec_l1All.l0 k lo hi l (l.length : Int) (i : Int) = some (allIn (l.drop i) lo hi) := by
  intro d
  induction d with
  | zero =>
    intro i k hd hi' hk
    obtain ⟨k, rfl⟩ : ∃ m, k = m + 1 := ⟨k - 1, by omega⟩
    rw [spec_l1All.l0, if_neg (by omega), List.drop_eq_nil_of_le (by omega)]
    rfl
  | succ d ih =>
    intro i k hd hi' hk
    obtain ⟨k, rfl⟩ : ∃ m, k = m + 1 := ⟨k - 1, by omega⟩
    have h1 : i < l.length := by omega
    rw [spec_l1All.l0, if_pos (by omega), if_pos (by omega), if_pos (by omega), l1In_eq, Option.bind_some, w64 _ (by omega) (by omega), rd_nat _ _ h1]
    rw [show ((i : Int) + 1) = ((i + 1 : Nat) : Int) by omega, ih (i + 1) k (by omega) (by omega) (by omega), drop_cons l i h1]
    unfold allIn
    rw [List.all_cons]
    generalize l.drop (i + 1) = tl
    by_cases h : inB l[i] lo hi = true
    · rw [if_pos h, h]; simp
    · rw [if_neg h]; simp at h; rw [h]; simp
theorem l1All_ev (l : List Int) (lo hi : Int) (hb : l.length ≤ 1152921504606846976) : Ev (fun k => spec_l1All.f k l lo hi) (allIn l lo hi) := by
  refine ⟨l.length + 1, fun k hk => ?_⟩
  simp only [spec_l1All.f]
  have := l1All_l0 lo hi l hb l.length 0 k (by omega) (by omega) (by omega)
  simpa using this
end Go.Proofs.Ytdoflpghemgbdaa.P
namespace Go.Proofs.Ytdoflpghemgbdaa.P
open Go.RowKit Go.Proofs.YtdoflpghemgbdaaW.PrintWords Go.Proofs.YtdoflpghemgbdaaW.PrintLast Go.Proofs.YtdoflpghemgbdaaW.PrintMore
set_option linter.unusedVariables false
set_option linter.unusedSimpArgs false
theorem boardB_iff (r c : Int) (l : List Int) : boardB r c l = true ↔ (1 ≤ r ∧ r ≤ 6) ∧ (1 ≤ c ∧ c ≤ 6) ∧ (l.length : Int) = r ∧ ∀ m ∈ l, 0 ≤ m ∧ m ≤ 2 ^ c.toNat - 1 := by
  unfold boardB
  simp only [Bool.and_eq_true, decide_eq_true_eq, List.all_eq_true]
  constructor
  · rintro ⟨⟨⟨a, b⟩, c⟩, d⟩; exact ⟨a, b, c, d⟩
  · rintro ⟨a, b, c, d⟩; exact ⟨⟨⟨a, b⟩, c⟩, d⟩
theorem shl_one (c : Int) (h0 : 0 ≤ c) (h1 : c ≤ 62) : shl .i64 1 c = 2 ^ c.toNat := by
  unfold shl
  rw [Int.one_mul, Nat.min_eq_left (show c.toNat ≤ IntKind.i64.bits by have : IntKind.i64.bits = 64 := rfl; omega)]
  rw [i64_w, w64]
  · have : (0 : Int) ≤ 2 ^ c.toNat := Int.le_of_lt (Int.pow_pos (by decide))
    omega
  · have h : (2 : Int) ^ c.toNat ≤ 2 ^ 62 := by
      have := Nat.pow_le_pow_right (show 0 < 2 by decide) (show c.toNat ≤ 62 by omega)
      exact_mod_cast this
    have e : (2 : Int) ^ 62 = 4611686018427387904 := by decide
    omega
theorem pow_le6 (c : Int) (h1 : c ≤ 6) : (2 : Int) ^ c.toNat ≤ 64 := by
  have := Nat.pow_le_pow_right (show 0 < 2 by decide) (show c.toNat ≤ 6 by omega)
  have h : (2 : Int) ^ c.toNat ≤ 2 ^ 6 := by exact_mod_cast this
  exact h
theorem pow_pos2 (c : Int) : (1 : Int) ≤ 2 ^ c.toNat := by
  have : (0 : Int) < 2 ^ c.toNat := Int.pow_pos (by decide)
  omega
theorem boSide_eq (a : Int) : spec_boSide.f a = some (inB a 1 6) := by
  simp only [spec_boSide.f, l1In_eq, Option.bind_some]
theorem boGood_ev (r c : Int) (l : List Int) (hb : l.length ≤ 1152921504606846976) : Ev (fun k => spec_boGood.f k r c l) (boardB r c l) := by
  by_cases h1 : 1 ≤ r ∧ r ≤ 6
  · by_cases h2 : 1 ≤ c ∧ c ≤ 6
    · by_cases h3 : (l.length : Int) = r
      · obtain ⟨K, hK⟩ := ev_get (l1All_ev l 0 (2 ^ c.toNat - 1) hb)
        refine ⟨K, fun k hk => ?_⟩
        have hp := pow_le6 c h2.2
        have hp2 := pow_pos2 c
        simp only [spec_boGood.f, boSide_eq, Option.bind_some]
        rw [if_pos (by simpa [inB] using h1), if_pos (by simpa [inB] using h2), if_pos h3, if_pos (by omega), shl_one c (by omega) (by omega), w64 _ (by omega) (by omega), hK k hk, Option.bind_some]
        congr 1
        unfold boardB allIn inB
        simp [h1, h2, h3]
      · refine ⟨0, fun k hk => ?_⟩
        simp only [spec_boGood.f, boSide_eq, Option.bind_some]
        rw [if_pos (by simpa [inB] using h1), if_pos (by simpa [inB] using h2), if_neg h3]
        congr 1; unfold boardB; simp [h3]
    · refine ⟨0, fun k hk => ?_⟩
      simp only [spec_boGood.f, boSide_eq, Option.bind_some]
      rw [if_pos (by simpa [inB] using h1), if_neg (by simpa [inB] using h2)]
      congr 1; unfold boardB; rw [decide_eq_false h2]; simp
  · refine ⟨0, fun k hk => ?_⟩
    simp only [spec_boGood.f, boSide_eq, Option.bind_some]
    rw [if_neg (by simpa [inB] using h1)]
    congr 1; unfold boardB; rw [decide_eq_false h1]; simp
def placeB (r c x y : Int) : Bool := decide ((0 ≤ x ∧ x ≤ r - 1) ∧ (0 ≤ y ∧ y ≤ c - 1))
theorem place_eq (r c : Int) (l : List Int) (x y : Int) (hr : -1000 ≤ r ∧ r ≤ 1000) (hc : -1000 ≤ c ∧ c ≤ 1000) : impl_Board_place.f r c l x y = some (placeB r c x y) := by
  simp only [impl_Board_place.f]
  rw [w64 _ (by omega) (by omega), w64 _ (by omega) (by omega), within_eq, within_eq, Option.bind_some, Option.bind_some]
  unfold inB placeB
  by_cases h1 : 0 ≤ x ∧ x ≤ r - 1
  · rw [if_pos (by simpa using h1)]; simp [h1]
  · rw [if_neg (by simpa using h1)]; congr 1; symm; apply decide_eq_false; exact fun hh => h1 hh.1
theorem szBoard_eq (r c : Int) (l : List Int) (left : Int) (h0 : 0 ≤ left) (h1 : left ≤ 1048576) (hl : l.length ≤ maxLen) : laws_szBoard.f r c l left = some (if left - l.length < 0 then -1 else left - l.length) := by
  simp only [laws_szBoard.f, laws_szIntS.f]
  simp only [maxLen] at hl
  rw [w64 _ (by omega) (by omega)]
  split
  · simp only [Option.bind_some]; simp
  · simp only [Option.bind_some]; simp [*]
theorem toBoard_ev (r c : Int) (l : List Int) (hl : l.length ≤ 35184372088832) : Ev (fun k => laws_toBoard.f k r c l) (r, c, l) := by
  obtain ⟨K, hK⟩ := ev_get (toIntS_ev l hl)
  refine ⟨K, fun k hk => ?_⟩
  simp only [laws_toBoard.f, hK k hk, Option.bind_some]
theorem eqBoard_ev (r c : Int) (l : List Int) (hb : l.length ≤ 1152921504606846976) : Ev (fun k => laws_eqBoard.f k r c l r c l) true := by
  obtain ⟨K, hK⟩ := ev_get (eqIntS_ev l l hb)
  refine ⟨K, fun k hk => ?_⟩
  simp only [laws_eqBoard.f, hK k hk, Option.bind_some, if_true, decide_true]
theorem markBoard_ev (r c : Int) (l : List Int) (hb : l.length ≤ 1152921504606846976) : Ev (fun k => laws_markBoard.f k r c l 1) (1 + l.length, marks l.length 1) := by
  obtain ⟨K, hK⟩ := ev_get (markIntS_ev l 1 hb (by omega) (by omega))
  refine ⟨K, fun k hk => ?_⟩
  simp only [laws_markBoard.f, hK k hk, Option.bind_some]
end Go.Proofs.Ytdoflpghemgbdaa.P
namespace Go.Proofs.Ytdoflpghemgbdaa.P
open Go.RowKit Go.Proofs.YtdoflpghemgbdaaW.PrintWords Go.Proofs.YtdoflpghemgbdaaW.PrintLast Go.Proofs.YtdoflpghemgbdaaW.PrintMore
set_option linter.unusedVariables false
set_option linter.unusedSimpArgs false
theorem rdL_mid (a b : List (List Int)) (l : List Int) : rd_L2 (a ++ l :: b) (a.length : Int) = l := by
  unfold rd_L2; simp
theorem rdL_nat (s : List (List Int)) (i : Nat) (h : i < s.length) : rd_L2 s (i : Int) = s[i] := by
  unfold rd_L2; simp [List.getD_eq_getElem?_getD, List.getElem?_eq_getElem h]
def total : List (List Int) → Nat
  | [] => 0
  | l :: s => l.length + total s
theorem total_le {s : List (List Int)} {c : Nat} (h : ∀ l ∈ s, l.length ≤ c) : total s ≤ c * s.length := by
  induction s with
  | nil => simp [total]
  | cons x s ih =>
    have h1 := h x (List.mem_cons_self ..)
    have h2 := ih (fun l hl => h l (List.mem_cons_of_mem _ hl))
    simp only [total, List.length_cons, Nat.mul_succ]
    omega
def marksS : List (List Int) → Int → List (List Int)
  | [], _ => []
  | l :: s, k => marks l.length k :: marksS s (k + l.length)
theorem eqIntSS_l0 : ∀ (rest rest2 done done2 : List (List Int)), rest.length = rest2.length → done.length = done2.length → (done ++ rest).length ≤ 1152921504606846976 → (∀ l ∈ rest, l.length ≤ 1152921504606846976) →
    Ev (fun k => laws_eqIntSS.l0 k (done ++ rest) (done2 ++ rest2) (done.length : Int)) (decide (rest = rest2)) := by
  intro rest
  induction rest with
  | nil =>
    intro rest2 done done2 h1 h2 hb hl
    refine ⟨1, fun k hk => ?_⟩
    obtain ⟨k, rfl⟩ : ∃ m, k = m + 1 := ⟨k - 1, by omega⟩
    simp only [laws_eqIntSS.l0]
    obtain rfl : rest2 = [] := List.length_eq_zero_iff.1 (by simpa using h1.symm)
    rw [if_neg (by simp)]; simp
  | cons l rest ih =>
    intro rest2 done done2 h1 h2 hb hl
    obtain ⟨l2, rest2, rfl⟩ : ∃ y t, rest2 = y :: t := by
      cases rest2 with
      | nil => simp at h1
      | cons y t => exact ⟨y, t, rfl⟩
    simp only [List.length_append, List.length_cons] at hb h1
    obtain ⟨K1, h3⟩ := ev_get (eqIntS_ev l l2 (hl l (List.mem_cons_self ..)))
    obtain ⟨K2, h4⟩ := ev_get (ih rest2 (done ++ [l]) (done2 ++ [l2]) (by omega) (by simp; omega) (by simp; omega) (fun l hm => hl l (List.mem_cons_of_mem _ hm)))
    refine ⟨K1 + K2 + 1, fun k hk => ?_⟩
    obtain ⟨k, rfl⟩ : ∃ m, k = m + 1 := ⟨k - 1, by omega⟩
    simp only [laws_eqIntSS.l0]
    have e : rd_L2 (done2 ++ l2 :: rest2) (done.length : Int) = l2 := by rw [h2]; exact rdL_mid _ _ _
    rw [if_pos (by simp; omega), if_pos (by omega), if_pos (by simp; omega), rdL_mid, e, h3 k (by omega), Option.bind_some, w64 _ (by omega) (by omega)]
    have h5 := h4 k (by omega)
    simp only [List.append_assoc, List.singleton_append, List.length_append, List.length_cons, List.length_nil] at h5
    by_cases h : l = l2
    · rw [if_pos (by simpa using h)]
      refine h5.trans ?_
      simp [h]
    · rw [if_neg (by simpa using h)]
      simp [h]
theorem eqIntSS_ev (a b : List (List Int)) (hb : a.length ≤ 1152921504606846976) (hl : ∀ l ∈ a, l.length ≤ 1152921504606846976) : Ev (fun k => laws_eqIntSS.f k a b) (decide (a = b)) := by
  by_cases h : a.length = b.length
  · obtain ⟨K, hK⟩ := ev_get (eqIntSS_l0 a b [] [] h rfl (by simpa using hb) hl)
    refine ⟨K, fun k hk => ?_⟩
    simp only [laws_eqIntSS.f]
    rw [if_pos (by omega)]
    simpa using hK k hk
  · refine ⟨0, fun k hk => ?_⟩
    simp only [laws_eqIntSS.f]
    rw [if_neg (by omega)]
    congr 1; symm; apply decide_eq_false
    exact fun e => h (by rw [e])
theorem markIntSS_l0 : ∀ (rest done : List (List Int)) (x1 : Int), (done ++ rest).length ≤ 1152921504606846976 → total rest ≤ 1152921504606846976 → 0 ≤ x1 → x1 + total rest ≤ 4611686018427387904 →
    Ev (fun k => laws_markIntSS.l0 k (done ++ rest) x1 (done.length : Int)) (x1 + total rest, done ++ marksS rest x1) := by
  intro rest
  induction rest with
  | nil =>
    intro done x1 hb ht h0 h1
    refine ⟨1, fun k hk => ?_⟩
    obtain ⟨k, rfl⟩ : ∃ m, k = m + 1 := ⟨k - 1, by omega⟩
    simp only [laws_markIntSS.l0]
    rw [if_neg (by simp)]
    simp [total, marksS]
  | cons l rest ih =>
    intro done x1 hb ht h0 h1
    simp only [List.length_append, List.length_cons, total] at hb ht h1
    obtain ⟨K1, h3⟩ := ev_get (markIntS_ev l x1 (by omega) h0 (by omega))
    obtain ⟨K2, h4⟩ := ev_get (ih (done ++ [marks l.length x1]) (x1 + l.length) (by simp; omega) (by omega) (by omega) (by omega))
    refine ⟨K1 + K2 + 1, fun k hk => ?_⟩
    obtain ⟨k, rfl⟩ : ∃ m, k = m + 1 := ⟨k - 1, by omega⟩
    simp only [laws_markIntSS.l0]
    rw [if_pos (by simp; omega), if_pos (by omega), rdL_mid, h3 k (by omega), Option.bind_some, w64 _ (by omega) (by omega), show ((done.length : Int)).toNat = done.length by omega, List.set_append_right _ _ (Nat.le_refl _), Nat.sub_self, List.set_cons_zero]
    have h5 := h4 k (by omega)
    simp only [List.append_assoc, List.singleton_append, List.length_append, List.length_cons, List.length_nil] at h5
    refine h5.trans ?_
    simp only [total, marksS, Option.some.injEq, Prod.mk.injEq, and_true]
    omega
theorem markIntSS_ev (s : List (List Int)) (k0 : Int) (hb : s.length ≤ 1152921504606846976) (ht : total s ≤ 1152921504606846976) (h0 : 0 ≤ k0) (h1 : k0 + total s ≤ 4611686018427387904) :
    Ev (fun k => laws_markIntSS.f k s k0) (k0 + total s, marksS s k0) := by
  have := markIntSS_l0 s [] k0 (by simpa using hb) ht h0 h1
  simpa [laws_markIntSS.f] using this
theorem heldIntSS_l0 : ∀ (rest done : List (List Int)) (x1 : Int), (done ++ rest).length ≤ 1152921504606846976 → total rest ≤ 1152921504606846976 → 0 ≤ x1 → x1 + total rest ≤ 4611686018427387904 →
    Ev (fun k => laws_heldIntSS.l0 k (done ++ marksS rest x1) x1 (done.length : Int)) (x1 + total rest) := by
  intro rest
  induction rest with
  | nil =>
    intro done x1 hb ht h0 h1
    refine ⟨1, fun k hk => ?_⟩
    obtain ⟨k, rfl⟩ : ∃ m, k = m + 1 := ⟨k - 1, by omega⟩
    show laws_heldIntSS.l0 (k + 1) (done ++ []) x1 (done.length : Int) = _
    simp only [laws_heldIntSS.l0]
    rw [if_neg (by simp)]
    simp [total]
  | cons l rest ih =>
    intro done x1 hb ht h0 h1
    simp only [List.length_append, List.length_cons, total] at hb ht h1
    obtain ⟨K1, h3⟩ := ev_get (heldIntS_ev l.length x1 (by omega) h0 (by omega))
    obtain ⟨K2, h4⟩ := ev_get (ih (done ++ [marks l.length x1]) (x1 + l.length) (by simp; omega) (by omega) (by omega) (by omega))
    refine ⟨K1 + K2 + 1, fun k hk => ?_⟩
    obtain ⟨k, rfl⟩ : ∃ m, k = m + 1 := ⟨k - 1, by omega⟩
    show laws_heldIntSS.l0 (k + 1) (done ++ marks l.length x1 :: marksS rest (x1 + l.length)) x1 (done.length : Int) = _
    simp only [laws_heldIntSS.l0]
    rw [if_pos (by simp; omega), if_pos (by omega), rdL_mid, h3 k (by omega), Option.bind_some, if_neg (by omega), w64 _ (by omega) (by omega)]
    have h5 := h4 k (by omega)
    simp only [List.append_assoc, List.singleton_append, List.length_append, List.length_cons, List.length_nil] at h5
    refine h5.trans ?_
    simp only [total, Option.some.injEq]
    omega
theorem heldIntSS_ev (s : List (List Int)) (k0 : Int) (hb : s.length ≤ 1152921504606846976) (ht : total s ≤ 1152921504606846976) (h0 : 0 ≤ k0) (h1 : k0 + total s ≤ 4611686018427387904) :
    Ev (fun k => laws_heldIntSS.f k (marksS s k0) k0) (k0 + total s) := by
  have := heldIntSS_l0 s [] k0 (by simpa using hb) ht h0 h1
  simpa [laws_heldIntSS.f] using this
end Go.Proofs.Ytdoflpghemgbdaa.P
namespace Go.Proofs.Ytdoflpghemgbdaa.P
open Go.RowKit Go.Proofs.YtdoflpghemgbdaaW.PrintWords Go.Proofs.YtdoflpghemgbdaaW.PrintLast Go.Proofs.YtdoflpghemgbdaaW.PrintMore
set_option linter.unusedVariables false
set_option linter.unusedSimpArgs false
/-- A mask has a column. -/
def hasM (m : Int) (j : Int) : Bool := Int.tmod (shr .i64 m j) 2 == 1
theorem has_bits : ∀ m : Fin 64, ∀ c : Fin 6, (Go.bits .and .i64 (shr .i64 (m.val : Int) (c.val : Int)) 1 == 1) = hasM (m.val : Int) (c.val : Int) := by decide +kernel
theorem has_bits' (m c : Int) (h0 : 0 ≤ m) (h1 : m ≤ 63) (h2 : 0 ≤ c) (h3 : c ≤ 5) : (Go.bits .and .i64 (shr .i64 m c) 1 == 1) = hasM m c := by
  have h := has_bits ⟨m.toNat, by omega⟩ ⟨c.toNat, by omega⟩
  simp only [show ((m.toNat : Nat) : Int) = m by omega, show ((c.toNat : Nat) : Int) = c by omega] at h
  exact h
/-- The board has the cell. -/
def hasC (l : List Int) (i j : Int) : Bool := hasM (rd l i) j
theorem board_row {r c : Int} {l : List Int} (h : boardB r c l = true) {i : Int} (h0 : 0 ≤ i) (h1 : i < r) : 0 ≤ rd l i ∧ rd l i ≤ 63 := by
  obtain ⟨hr, hc, hl, hm⟩ := (boardB_iff r c l).1 h
  have hp6 := pow_le6 c hc.2
  have hx : i.toNat < l.length := by omega
  have := hm l[i.toNat] (List.getElem_mem hx)
  have e : rd l i = l[i.toNat] := by
    have := rd_nat l i.toNat hx
    rwa [show ((i.toNat : Nat) : Int) = i by omega] at this
  rw [e]; omega
theorem boHas_eq {r c : Int} {l : List Int} (h : boardB r c l = true) {i j : Int} (h0 : 0 ≤ i) (h1 : i < r) (h2 : 0 ≤ j) : spec_boHas.f r c l i j = some (hasC l i j) := by
  obtain ⟨hr, hc, hl, hm⟩ := (boardB_iff r c l).1 h
  simp only [spec_boHas.f]
  rw [if_pos h0, if_pos (by omega), if_pos h2]
  rfl
theorem has_eq {r c : Int} {l : List Int} (h : boardB r c l = true) {i j : Int} (h0 : 0 ≤ i) (h1 : i < r) (h2 : 0 ≤ j) (h3 : j < c) : impl_Board_has.f r c l i j = some (hasC l i j) := by
  obtain ⟨hr, hc, hl, hm⟩ := (boardB_iff r c l).1 h
  have hb := board_row h h0 h1
  simp only [impl_Board_has.f]
  rw [if_pos h0, if_pos (by omega), if_pos h2, has_bits' _ _ hb.1 hb.2 h2 (by omega)]
  rfl
theorem crange'_step (s n : Nat) (h : s < n) : List.range' s (n - s) = s :: List.range' (s + 1) (n - (s + 1)) := by
  rw [show n - s = (n - (s + 1)) + 1 by omega, List.range'_succ]
def cellRow (l : List Int) (i C j : Nat) : List (List Int) := (List.range' j (C - j)).flatMap fun (j : Nat) => if hasC l (i : Int) (j : Int) = true then [[(i : Int), (j : Int)]] else []
def cellsFrom (l : List Int) (R C i : Nat) : List (List Int) := (List.range' i (R - i)).flatMap fun (i : Nat) => cellRow l i C 0
theorem cellRow_step (l : List Int) (i C j : Nat) (h : j < C) : cellRow l i C j = (if hasC l (i : Int) (j : Int) = true then [[(i : Int), (j : Int)]] else []) ++ cellRow l i C (j + 1) := by
  unfold cellRow
  rw [crange'_step j C h, List.flatMap_cons]
theorem cellRow_nil (l : List Int) (i C j : Nat) (h : C ≤ j) : cellRow l i C j = [] := by
  unfold cellRow
  rw [show C - j = 0 by omega]; rfl
theorem cellsFrom_step (l : List Int) (R C i : Nat) (h : i < R) : cellsFrom l R C i = cellRow l i C 0 ++ cellsFrom l R C (i + 1) := by
  unfold cellsFrom
  rw [crange'_step i R h, List.flatMap_cons]
theorem cellsFrom_nil (l : List Int) (R C i : Nat) (h : R ≤ i) : cellsFrom l R C i = [] := by
  unfold cellsFrom
  rw [show R - i = 0 by omega]; rfl
def cells (r c : Int) (l : List Int) : List (List Int) := cellsFrom l r.toNat c.toNat 0
theorem boCells_ev {r c : Int} {l : List Int} (h : boardB r c l = true) : Ev (fun k => spec_boCells.f k r c l) (cells r c l) := by
  obtain ⟨hr, hc, hl, hm⟩ := (boardB_iff r c l).1 h
  obtain ⟨R, rfl⟩ : ∃ R : Nat, r = R := ⟨r.toNat, by omega⟩
  obtain ⟨C, rfl⟩ : ∃ C : Nat, c = C := ⟨c.toNat, by omega⟩
  have hout : ∀ (d i : Nat) (acc : List (List Int)), R - i = d → i ≤ R → acc.length ≤ 6 * i → Ev (fun k => spec_boCells.l0 k acc (i : Int) (R : Int) (C : Int) l) (acc ++ cellsFrom l R C i) := by
    intro d
    induction d with
    | zero =>
      intro i acc hd hi ha
      refine ⟨1, fun k hk => ?_⟩
      obtain ⟨k, rfl⟩ : ∃ m, k = m + 1 := ⟨k - 1, by omega⟩
      dsimp only
      rw [spec_boCells.l0, if_neg (by omega), cellsFrom_nil l R C i (by omega), List.append_nil]
    | succ d ih =>
      intro i acc hd hi ha
      have hin : ∀ (e j : Nat) (acc : List (List Int)), C - j = e → j ≤ C → acc.length ≤ 6 * i + j → Ev (fun k => spec_boCells.l1 k acc (i : Int) (j : Int) (R : Int) (C : Int) l) (acc ++ cellRow l i C j ++ cellsFrom l R C (i + 1)) := by
        intro e
        induction e with
        | zero =>
          intro j acc he hj ha
          obtain ⟨K, hK⟩ := ev_get (ih (i + 1) acc (by omega) (by omega) (by omega))
          refine ⟨K + 1, fun k hk => ?_⟩
          obtain ⟨k, rfl⟩ : ∃ m, k = m + 1 := ⟨k - 1, by omega⟩
          dsimp only
          rw [spec_boCells.l1, if_neg (by omega), cellRow_nil l i C j (by omega), List.append_nil, w64 _ (by omega) (by omega), show ((i : Int) + 1) = ((i + 1 : Nat) : Int) by omega]
          exact hK k (by omega)
        | succ e ihe =>
          intro j acc he hj ha
          obtain ⟨K1, h1⟩ := ev_get (ihe (j + 1) (acc ++ [[(i : Int), (j : Int)]]) (by omega) (by omega) (by simp; omega))
          obtain ⟨K2, h2⟩ := ev_get (ihe (j + 1) acc (by omega) (by omega) (by omega))
          refine ⟨K1 + K2 + 1, fun k hk => ?_⟩
          obtain ⟨k, rfl⟩ : ∃ m, k = m + 1 := ⟨k - 1, by omega⟩
          dsimp only
          rw [spec_boCells.l1, if_pos (by omega), boHas_eq h (by omega) (by omega) (by omega), Option.bind_some, if_pos (show acc.length < 5864062014805 by omega), w64 ((j : Int) + 1) (by omega) (by omega), show ((j : Int) + 1) = ((j + 1 : Nat) : Int) by omega, h1 k (by omega), h2 k (by omega), cellRow_step l i C j (by omega)]
          by_cases hh : hasC l (i : Int) (j : Int) = true
          · rw [if_pos hh, if_pos hh]; simp [List.append_assoc]
          · rw [if_neg hh, if_neg hh]; simp
      obtain ⟨K, hK⟩ := ev_get (hin C 0 acc (by omega) (by omega) (by omega))
      refine ⟨K + 1, fun k hk => ?_⟩
      obtain ⟨k, rfl⟩ : ∃ m, k = m + 1 := ⟨k - 1, by omega⟩
      dsimp only
      rw [spec_boCells.l0, if_pos (by omega), cellsFrom_step l R C i (by omega), ← List.append_assoc]
      exact hK k (by omega)
  obtain ⟨K, hK⟩ := ev_get (hout R 0 [] (by omega) (by omega) (by simp))
  refine ⟨K, fun k hk => ?_⟩
  simp only [spec_boCells.f]
  simpa [cells] using hK k hk
theorem rd0 (p q : Int) : rd [p, q] 0 = p := by simp [rd]
theorem rd1 (p q : Int) : rd [p, q] 1 = q := by simp [rd]
end Go.Proofs.Ytdoflpghemgbdaa.P
namespace Go.Proofs.Ytdoflpghemgbdaa.P
open Go.RowKit Go.Proofs.YtdoflpghemgbdaaW.PrintWords Go.Proofs.YtdoflpghemgbdaaW.PrintLast Go.Proofs.YtdoflpghemgbdaaW.PrintMore
set_option linter.unusedVariables false
set_option linter.unusedSimpArgs false
/-- The places of a colour, row by row. -/
def cellsQ (R C q : Nat) : List (Nat × Nat) := (List.range R).flatMap fun r => ((List.range C).filter fun c => (r + c) % 2 = q).map fun c => (r, c)
def upN (R C q : Nat) : List Nat := (List.range (R + C)).filter fun s => (cellsQ R C q).any fun x => x.1 + x.2 == s
def downN (R C q : Nat) : List Nat := (List.range (R + C)).filter fun s => (cellsQ R C q).any fun x => x.1 + C == s + x.2 + 1
def upL (R C q : Nat) : List Int := (upN R C q).map fun (s : Nat) => (s : Int)
def downL (R C q : Nat) : List Int := (downN R C q).map fun (s : Nat) => (s : Int)
/-- The place on two diagonals, if there is one. -/
def crossN (R C u d : Nat) : Option (Nat × Nat) := if C ≤ u + d + 1 ∧ (u + d + 1 - C) % 2 = 0 ∧ (u + d + 1 - C) / 2 < R ∧ (u + d + 1 - C) / 2 ≤ u ∧ u - (u + d + 1 - C) / 2 < C then some ((u + d + 1 - C) / 2, u - (u + d + 1 - C) / 2) else none
def idx : List Nat → Nat → Nat
  | [], _ => 0
  | x :: l, s => if x = s then 0 else idx l s + 1
/-- The cells of one row of a colour board, with their columns. -/
def rowQ (R C q i : Nat) : List ((Nat × Nat) × Nat) := ((cellsQ R C q).filter fun x => idx (upN R C q) (x.1 + x.2) == i).map fun x => (x, idx (downN R C q) (x.1 + C - 1 - x.2))
def rowX (R C q i : Nat) : List ((Nat × Nat) × Nat) := (List.range (downN R C q).length).filterMap fun k => (crossN R C ((upN R C q).getD i 0) ((downN R C q).getD k 0)).map fun x => (x, k)
theorem row_eq : ∀ R : Fin 7, ∀ C : Fin 7, ∀ q : Fin 2, ∀ i : Fin 6, i.val < (upN R.val C.val q.val).length → rowQ R.val C.val q.val i.val = rowX R.val C.val q.val i.val := by decide +kernel
theorem lines_len : ∀ R : Fin 7, ∀ C : Fin 7, ∀ q : Fin 2, (upN R.val C.val q.val).length ≤ 6 ∧ (downN R.val C.val q.val).length ≤ 6 ∧ ((upN R.val C.val q.val).length = 0 ↔ (downN R.val C.val q.val).length = 0) := by decide +kernel
theorem idx_ok : ∀ R : Fin 7, ∀ C : Fin 7, ∀ q : Fin 2, ∀ x ∈ cellsQ R.val C.val q.val, idx (upN R.val C.val q.val) (x.1 + x.2) < (upN R.val C.val q.val).length ∧ idx (downN R.val C.val q.val) (x.1 + C.val - 1 - x.2) < (downN R.val C.val q.val).length ∧ x.1 < R.val ∧ x.2 < C.val ∧ (x.1 + x.2) % 2 = q.val := by decide +kernel
/-- A mask of the columns that f holds. -/
def mk (f : Nat → Bool) : Nat → Int
  | 0 => 0
  | j + 1 => mk f j + if f j = true then ((2 ^ j : Nat) : Int) else 0
theorem mk_nat (f : Nat → Bool) : ∀ j, ∃ m : Nat, mk f j = (m : Int) ∧ m < 2 ^ j
  | 0 => ⟨0, rfl, by decide⟩
  | j + 1 => by
    obtain ⟨m, e, h⟩ := mk_nat f j
    have e2 : 2 ^ (j + 1) = 2 ^ j + 2 ^ j := by rw [Nat.pow_succ]; omega
    simp only [mk, e]
    split
    · exact ⟨m + 2 ^ j, by omega, by omega⟩
    · exact ⟨m, by omega, by omega⟩
def sumL : List Int → Int
  | [] => 0
  | x :: l => x + sumL l
theorem sumL_append : ∀ a b, sumL (a ++ b) = sumL a + sumL b
  | [], b => by simp [sumL]
  | x :: a, b => by simp only [List.cons_append, sumL, sumL_append a b]; omega
/-- Of places with columns: the bits of those that the board holds. -/
def bits (l : List Int) (xs : List ((Nat × Nat) × Nat)) : Int := sumL (xs.map fun x => if hasC l (x.1.1 : Int) (x.1.2 : Int) = true then ((2 ^ x.2 : Nat) : Int) else 0)
def crossB (R C : Nat) (l : List Int) (u d : Nat) : Bool := (crossN R C u d).any fun x => hasC l (x.1 : Int) (x.2 : Int)
theorem fm_one {α β : Type} (g : α → Option β) (a : α) : [a].filterMap g = (g a).toList := by
  rw [List.filterMap_cons]
  cases g a <;> rfl
theorem mk_bits (R C : Nat) (l : List Int) (u : Nat) (D : List Nat) : ∀ n, mk (fun k => crossB R C l u (D.getD k 0)) n = bits l ((List.range n).filterMap fun k => (crossN R C u (D.getD k 0)).map fun x => (x, k))
  | 0 => rfl
  | n + 1 => by
    rw [List.range_succ, List.filterMap_append]
    unfold bits
    rw [List.map_append, sumL_append]
    have := mk_bits R C l u D n
    unfold bits at this
    rw [← this, mk]
    congr 1
    rw [fm_one]
    unfold crossB
    rcases h : crossN R C u (D.getD n 0) with _ | x
    · rfl
    · simp only [Option.any_some, Option.map_some, Option.toList_some, List.map_cons, List.map_nil, sumL, Int.add_zero]
/-- The cells of the colour board. -/
def colL (R C q : Nat) (l : List Int) : List Int := (upN R C q).map fun u => mk (fun k => crossB R C l u ((downN R C q).getD k 0)) (downN R C q).length
theorem colL_length (R C q : Nat) (l : List Int) : (colL R C q l).length = (upN R C q).length := by simp [colL]
theorem colL_getD {R C q : Nat} (l : List Int) (hR : R ≤ 6) (hC : C ≤ 6) (hq : q ≤ 1) {i : Nat} (hi : i < (upN R C q).length) : (colL R C q l).getD i 0 = bits l (rowQ R C q i) := by
  have hl := (lines_len ⟨R, by omega⟩ ⟨C, by omega⟩ ⟨q, by omega⟩).1
  simp only at hl
  have h := row_eq ⟨R, by omega⟩ ⟨C, by omega⟩ ⟨q, by omega⟩ ⟨i, by omega⟩ hi
  simp only at h
  rw [h]
  unfold colL rowX
  rw [List.getD_eq_getElem?_getD, List.getElem?_map, List.getElem?_eq_getElem hi]
  simp only [Option.map_some, Option.getD_some]
  rw [mk_bits]
  have : (upN R C q).getD i 0 = (upN R C q)[i] := by rw [List.getD_eq_getElem?_getD, List.getElem?_eq_getElem hi, Option.getD_some]
  rw [this]
theorem colL_board {R C q : Nat} (l : List Int) (hR : R ≤ 6) (hC : C ≤ 6) (hq : q ≤ 1) (hn : (upN R C q).length ≠ 0) : boardB ((upN R C q).length : Int) ((downN R C q).length : Int) (colL R C q l) = true := by
  have hl := lines_len ⟨R, by omega⟩ ⟨C, by omega⟩ ⟨q, by omega⟩
  simp only at hl
  rw [boardB_iff]
  refine ⟨by omega, by omega, by rw [colL_length], fun m hm => ?_⟩
  unfold colL at hm
  rw [List.mem_map] at hm
  obtain ⟨u, _, rfl⟩ := hm
  obtain ⟨m, e, h⟩ := mk_nat (fun k => crossB R C l u ((downN R C q).getD k 0)) (downN R C q).length
  rw [e, Int.toNat_natCast]
  have e2 : (2 : Int) ^ (downN R C q).length = ((2 ^ (downN R C q).length : Nat) : Int) := by simp
  rw [e2]
  omega
def pairsAll (R C : Nat) : List (Nat × Nat) := (List.range R).flatMap fun r => (List.range C).map fun c => (r, c)
theorem pairs_q : ∀ R : Fin 7, ∀ C : Fin 7, ∀ q : Fin 2, (pairsAll R.val C.val).filter (fun x => decide ((x.1 + x.2) % 2 = q.val)) = cellsQ R.val C.val q.val := by decide +kernel
theorem pairs_len : ∀ R : Fin 7, ∀ C : Fin 7, (pairsAll R.val C.val).length ≤ 36 := by decide +kernel
theorem cells_pairs (R C : Nat) (l : List Int) : cells (R : Int) (C : Int) l = ((pairsAll R C).filter fun x => hasC l (x.1 : Int) (x.2 : Int)).map fun x => [(x.1 : Int), (x.2 : Int)] := by
  unfold cells cellsFrom pairsAll cellRow
  simp only [Int.toNat_natCast, Nat.sub_zero, List.range_eq_range']
  rw [List.filter_flatMap, List.map_flatMap]
  congr 1
  funext r
  generalize List.range' 0 C = cs
  induction cs with
  | nil => rfl
  | cons c cs ih =>
    rw [List.flatMap_cons, List.map_cons, ih, List.filter_cons]
    by_cases h : hasC l (r : Int) (c : Int) = true
    · rw [if_pos h, if_pos h]; rfl
    · rw [if_neg h, if_neg h]; rfl
def stepQ (R C q : Nat) (L : List Int) (x : Nat × Nat) : List Int := if (x.1 + x.2) % 2 = q then L.set (idx (upN R C q) (x.1 + x.2)) (L.getD (idx (upN R C q) (x.1 + x.2)) 0 + ((2 ^ idx (downN R C q) (x.1 + C - 1 - x.2) : Nat) : Int)) else L
theorem stepQ_length (R C q : Nat) (L : List Int) (x : Nat × Nat) : (stepQ R C q L x).length = L.length := by unfold stepQ; split <;> simp
theorem foldQ_length (R C q : Nat) : ∀ (xs : List (Nat × Nat)) (L : List Int), (xs.foldl (stepQ R C q) L).length = L.length
  | [], L => rfl
  | x :: xs, L => by rw [List.foldl_cons, foldQ_length R C q xs, stepQ_length]
theorem stepQ_getD (R C q : Nat) (L : List Int) (x : Nat × Nat) (i : Nat) (hi : i < L.length) : (stepQ R C q L x).getD i 0 = L.getD i 0 + if (x.1 + x.2) % 2 = q ∧ idx (upN R C q) (x.1 + x.2) = i then ((2 ^ idx (downN R C q) (x.1 + C - 1 - x.2) : Nat) : Int) else 0 := by
  unfold stepQ
  by_cases h1 : (x.1 + x.2) % 2 = q
  · rw [if_pos h1]
    by_cases h2 : idx (upN R C q) (x.1 + x.2) = i
    · rw [if_pos ⟨h1, h2⟩, h2]
      simp [List.getD_eq_getElem?_getD, List.getElem?_set, hi]
    · rw [if_neg (fun h => h2 h.2)]
      simp [List.getD_eq_getElem?_getD, List.getElem?_set, h2]
  · rw [if_neg h1, if_neg (fun h => h1 h.1)]; omega
theorem fold_bits (R C q : Nat) (l : List Int) (i : Nat) : ∀ (ps : List (Nat × Nat)) (L : List Int), i < L.length → ((ps.filter fun x => hasC l (x.1 : Int) (x.2 : Int)).foldl (stepQ R C q) L).getD i 0 = L.getD i 0 + bits l (((ps.filter fun x => decide ((x.1 + x.2) % 2 = q)).filter fun x => idx (upN R C q) (x.1 + x.2) == i).map fun x => (x, idx (downN R C q) (x.1 + C - 1 - x.2)))
  | [], L, hi => by simp [bits, sumL]
  | x :: ps, L, hi => by
    have hl := stepQ_length R C q L x
    have hs := stepQ_getD R C q L x i hi
    have ih1 := fold_bits R C q l i ps L hi
    have ih2 := fold_bits R C q l i ps (stepQ R C q L x) (by omega)
    rw [List.filter_cons]
    by_cases h1 : hasC l (x.1 : Int) (x.2 : Int) = true
    · rw [if_pos h1, List.foldl_cons, ih2, hs, List.filter_cons]
      by_cases h2 : (x.1 + x.2) % 2 = q
      · rw [if_pos (decide_eq_true h2), List.filter_cons]
        by_cases h3 : idx (upN R C q) (x.1 + x.2) = i
        · rw [if_pos ⟨h2, h3⟩, if_pos (beq_iff_eq.2 h3), List.map_cons]
          unfold bits
          rw [List.map_cons, sumL, if_pos h1]
          dsimp only
          omega
        · rw [if_neg (fun h => h3 h.2), if_neg (fun h => h3 (beq_iff_eq.1 h))]; omega
      · rw [if_neg (fun h => h2 h.1), if_neg (fun h => h2 (of_decide_eq_true h))]; omega
    · rw [if_neg h1, ih1, List.filter_cons]
      by_cases h2 : (x.1 + x.2) % 2 = q
      · rw [if_pos (decide_eq_true h2), List.filter_cons]
        by_cases h3 : idx (upN R C q) (x.1 + x.2) = i
        · rw [if_pos (beq_iff_eq.2 h3), List.map_cons]
          unfold bits
          rw [List.map_cons, sumL, if_neg h1]
          omega
        · rw [if_neg (fun h => h3 (beq_iff_eq.1 h))]
      · rw [if_neg (fun h => h2 (of_decide_eq_true h))]
/-- Cell by cell comes to the same as line by line. -/
theorem fold_colL {R C q : Nat} (l : List Int) (hR : R ≤ 6) (hC : C ≤ 6) (hq : q ≤ 1) : ((pairsAll R C).filter fun x => hasC l (x.1 : Int) (x.2 : Int)).foldl (stepQ R C q) (List.replicate (upN R C q).length 0) = colL R C q l := by
  have hlen := foldQ_length R C q ((pairsAll R C).filter fun x => hasC l (x.1 : Int) (x.2 : Int)) (List.replicate (upN R C q).length 0)
  rw [List.length_replicate] at hlen
  refine List.ext_getElem (by rw [hlen, colL_length]) (fun i h1 h2 => ?_)
  have hi : i < (upN R C q).length := by omega
  have a := fold_bits R C q l i (pairsAll R C) (List.replicate (upN R C q).length 0) (by simpa using hi)
  have b := colL_getD l hR hC hq hi
  have p := pairs_q ⟨R, by omega⟩ ⟨C, by omega⟩ ⟨q, by omega⟩
  simp only at p
  rw [p] at a
  have c0 : (List.replicate (upN R C q).length (0 : Int)).getD i 0 = 0 := by simp [List.getD_eq_getElem?_getD, hi]
  rw [c0, Int.zero_add] at a
  unfold rowQ at b
  rw [← b] at a
  simpa [List.getD_eq_getElem?_getD, List.getElem?_eq_getElem h1, List.getElem?_eq_getElem h2] using a
end Go.Proofs.Ytdoflpghemgbdaa.P
namespace Go.Proofs.Ytdoflpghemgbdaa.P
open Go.RowKit Go.Proofs.YtdoflpghemgbdaaW.PrintWords Go.Proofs.YtdoflpghemgbdaaW.PrintLast Go.Proofs.YtdoflpghemgbdaaW.PrintMore
set_option linter.unusedVariables false
set_option linter.unusedSimpArgs false
theorem col_nat {R C q : Int} {l : List Int} (h : boardB R C l = true) (hq : inB q 0 1 = true) : ∃ R' C' q' : Nat, R = R' ∧ C = C' ∧ q = q' ∧ R' ≤ 6 ∧ C' ≤ 6 ∧ q' ≤ 1 := by
  have hb := (boardB_iff _ _ _).1 h
  have hq2 : 0 ≤ q ∧ q ≤ 1 := by simpa [inB] using hq
  exact ⟨R.toNat, C.toNat, q.toNat, by omega, by omega, by omega, by omega, by omega, by omega⟩
theorem diag_l (l : List Int) : ∀ k, (∀ q u d n i R C, impl_Board_diagonals.l0 k q u d n i R C l = impl_Board_diagonals.l0 k q u d n i R C []) ∧ (∀ q u d b n i m j R C, impl_Board_diagonals.l1 k q u d b n i m j R C l = impl_Board_diagonals.l1 k q u d b n i m j R C []) := by
  intro k
  induction k with
  | zero => exact ⟨fun _ _ _ _ _ _ _ => rfl, fun _ _ _ _ _ _ _ _ _ _ => rfl⟩
  | succ k ih =>
    refine ⟨fun q u d n i R C => ?_, fun q u d b n i m j R C => ?_⟩
    · unfold impl_Board_diagonals.l0
      rw [ih.2]
    · unfold impl_Board_diagonals.l1
      simp only [fun q u d b n i m j R C => ih.2 q u d b n i m j R C, fun q u d n i R C => ih.1 q u d n i R C]
theorem diag_ok : ∀ R : Fin 7, ∀ C : Fin 7, ∀ q : Fin 2, impl_Board_diagonals.f 60 (R.val : Int) (C.val : Int) [] (q.val : Int) = some (upL R.val C.val q.val, downL R.val C.val q.val) := by decide +kernel
theorem diag_ev (R C q : Nat) (hR : R ≤ 6) (hC : C ≤ 6) (hq : q ≤ 1) (l : List Int) : Ev (fun k => impl_Board_diagonals.f k (R : Int) (C : Int) l (q : Int)) (upL R C q, downL R C q) := by
  refine Ev.of (impl_Board_diagonals.mono _ _ _ _) (k := 60) ?_
  have h := diag_ok ⟨R, by omega⟩ ⟨C, by omega⟩ ⟨q, by omega⟩
  simp only at h
  rw [← h]
  exact (diag_l l 60).1 _ _ _ _ _ _ _
theorem lines_l (l : List Int) : ∀ k, (∀ q u d i R C, spec_biLines.l0 k q u d i R C l = spec_biLines.l0 k q u d i R C []) ∧ (∀ q u d i j R C, spec_biLines.l1 k q u d i j R C l = spec_biLines.l1 k q u d i j R C []) := by
  intro k
  induction k with
  | zero => exact ⟨fun _ _ _ _ _ _ => rfl, fun _ _ _ _ _ _ _ => rfl⟩
  | succ k ih =>
    refine ⟨fun q u d i R C => ?_, fun q u d i j R C => ?_⟩
    · unfold spec_biLines.l0
      rw [ih.2]
    · unfold spec_biLines.l1
      simp only [spec_biDiagonals.f, fun q u d i j R C => ih.2 q u d i j R C, fun q u d i R C => ih.1 q u d i R C]
theorem lines_ok : ∀ R : Fin 7, ∀ C : Fin 7, ∀ q : Fin 2, spec_biLines.f 60 (R.val : Int) (C.val : Int) [] (q.val : Int) = some (upL R.val C.val q.val, downL R.val C.val q.val) := by decide +kernel
theorem lines_ev (R C q : Nat) (hR : R ≤ 6) (hC : C ≤ 6) (hq : q ≤ 1) (l : List Int) : Ev (fun k => spec_biLines.f k (R : Int) (C : Int) l (q : Int)) (upL R C q, downL R C q) := by
  refine Ev.of (spec_biLines.mono _ _ _ _) (k := 60) ?_
  have h := lines_ok ⟨R, by omega⟩ ⟨C, by omega⟩ ⟨q, by omega⟩
  simp only at h
  rw [← h]
  exact (lines_l l 60).1 _ _ _ _ _ _
theorem upL_length (R C q : Nat) : (upL R C q).length = (upN R C q).length := by simp [upL]
theorem downL_length (R C q : Nat) : (downL R C q).length = (downN R C q).length := by simp [downL]
theorem upN_small : ∀ R : Fin 7, ∀ C : Fin 7, ∀ q : Fin 2, (∀ x ∈ upN R.val C.val q.val, x < 12) ∧ (∀ x ∈ downN R.val C.val q.val, x < 12) := by decide +kernel
theorem up_at {R C q : Nat} (hR : R ≤ 6) (hC : C ≤ 6) (hq : q ≤ 1) {i : Nat} (hi : i < (upN R C q).length) : rd (upL R C q) (i : Int) = ((upN R C q).getD i 0 : Nat) ∧ (upN R C q).getD i 0 < 12 := by
  have h := (upN_small ⟨R, by omega⟩ ⟨C, by omega⟩ ⟨q, by omega⟩).1 _ (List.getElem_mem hi)
  refine ⟨?_, by rw [List.getD_eq_getElem?_getD, List.getElem?_eq_getElem hi]; exact h⟩
  rw [rd_nat _ _ (by rw [upL_length]; exact hi)]
  simp [upL, hi, List.getD_eq_getElem?_getD]
theorem down_at {R C q : Nat} (hR : R ≤ 6) (hC : C ≤ 6) (hq : q ≤ 1) {i : Nat} (hi : i < (downN R C q).length) : rd (downL R C q) (i : Int) = ((downN R C q).getD i 0 : Nat) ∧ (downN R C q).getD i 0 < 12 := by
  have h := (upN_small ⟨R, by omega⟩ ⟨C, by omega⟩ ⟨q, by omega⟩).2 _ (List.getElem_mem hi)
  refine ⟨?_, by rw [List.getD_eq_getElem?_getD, List.getElem?_eq_getElem hi]; exact h⟩
  rw [rd_nat _ _ (by rw [downL_length]; exact hi)]
  simp [downL, hi, List.getD_eq_getElem?_getD]
def crossV (R C u d : Nat) : Int × Int × Bool := (impl_Board_crossing.f (R : Int) (C : Int) [] (u : Int) (d : Int)).getD (0, 0, false)
theorem cross_ok : ∀ R : Fin 7, ∀ C : Fin 7, ∀ u : Fin 12, ∀ d : Fin 12, impl_Board_crossing.f (R.val : Int) (C.val : Int) [] (u.val : Int) (d.val : Int) = some (crossV R.val C.val u.val d.val) ∧ crossN R.val C.val u.val d.val = (if (crossV R.val C.val u.val d.val).2.2 = true then some ((crossV R.val C.val u.val d.val).1.toNat, (crossV R.val C.val u.val d.val).2.1.toNat) else none) ∧ ((crossV R.val C.val u.val d.val).2.2 = true → (0 ≤ (crossV R.val C.val u.val d.val).1 ∧ (crossV R.val C.val u.val d.val).1 < R.val) ∧ (0 ≤ (crossV R.val C.val u.val d.val).2.1 ∧ (crossV R.val C.val u.val d.val).2.1 < C.val)) := by decide +kernel
theorem cross_eq {R C u d : Nat} (hR : R ≤ 6) (hC : C ≤ 6) (hu : u < 12) (hd : d < 12) (l : List Int) : impl_Board_crossing.f (R : Int) (C : Int) l (u : Int) (d : Int) = some (crossV R C u d) := (cross_ok ⟨R, by omega⟩ ⟨C, by omega⟩ ⟨u, hu⟩ ⟨d, hd⟩).1
theorem cell_ok : ∀ R : Fin 7, ∀ C : Fin 7, ∀ u : Fin 12, ∀ d : Fin 12, spec_biCell.j0 1 0 0 [(u.val : Int)] [(d.val : Int)] false (R.val : Int) (C.val : Int) [] = some (if (crossV R.val C.val u.val d.val).2.2 = true then ((crossV R.val C.val u.val d.val).1, (crossV R.val C.val u.val d.val).2.1, true) else (0, 0, false)) := by decide +kernel
theorem cell_j0 (k : Nat) (r c : Int) (U D : List Int) (R C : Int) (l : List Int) (h0 : 0 ≤ r) (h1 : r < (U.length : Int)) (h2 : 0 ≤ c) (h3 : c < (D.length : Int)) : spec_biCell.j0 (k + 1) r c U D false R C l = spec_biCell.j0 1 0 0 [rd U r] [rd D c] false R C [] := by
  rw [spec_biCell.j0, spec_biCell.j0]
  have e1 : rd [rd U r] 0 = rd U r := rfl
  have e2 : rd [rd D c] 0 = rd D c := rfl
  rw [if_pos h0, if_pos h1, if_pos h2, if_pos h3]
  simp only [e1, e2, List.length_singleton]
  rfl
end Go.Proofs.Ytdoflpghemgbdaa.P
namespace Go.Proofs.Ytdoflpghemgbdaa.P
open Go.RowKit Go.Proofs.YtdoflpghemgbdaaW.PrintWords Go.Proofs.YtdoflpghemgbdaaW.PrintLast Go.Proofs.YtdoflpghemgbdaaW.PrintMore
set_option linter.unusedVariables false
set_option linter.unusedSimpArgs false
theorem mem_cellsQ {R C q : Nat} {x : Nat × Nat} (h1 : x.1 < R) (h2 : x.2 < C) (h3 : (x.1 + x.2) % 2 = q) : x ∈ cellsQ R C q := by
  unfold cellsQ
  rw [List.mem_flatMap]
  exact ⟨x.1, List.mem_range.2 h1, List.mem_map.2 ⟨x.2, List.mem_filter.2 ⟨List.mem_range.2 h2, by simpa using h3⟩, rfl⟩⟩
theorem parity (r c q : Nat) (hr : r ≤ 6) (hc : c ≤ 6) : Int.tmod (wrap64 ((r : Int) + (c : Int))) 2 = (q : Int) ↔ (r + c) % 2 = q := by
  rw [w64 _ (by omega) (by omega), Int.tmod_eq_emod_of_nonneg (by omega)]
  omega
theorem biPlace_l0 (L : List Nat) (s : Nat) (hs : L.length ≤ 100) : ∀ (d i : Nat), L.length - i = d → i + idx (L.drop i) s < L.length →
    Ev (fun k => spec_biPlace.l0 k (s : Int) (L.map fun (z : Nat) => (z : Int)) (L.length : Int) (i : Int)) ((i + idx (L.drop i) s : Nat) : Int) := by
  intro d
  induction d with
  | zero => intro i hd hi; omega
  | succ d ih =>
    intro i hd hi
    have hi2 : i < L.length := by omega
    have hdr : L.drop i = L[i] :: L.drop (i + 1) := List.drop_eq_getElem_cons hi2
    have hrd : rd (L.map fun (z : Nat) => (z : Int)) (i : Int) = (L[i] : Int) := by rw [rd_nat _ _ (by simpa using hi2)]; simp
    rw [hdr, idx] at hi ⊢
    by_cases h : L[i] = s
    · rw [if_pos h]
      refine ⟨1, fun k hk => ?_⟩
      obtain ⟨k, rfl⟩ : ∃ m, k = m + 1 := ⟨k - 1, by omega⟩
      dsimp only
      rw [spec_biPlace.l0, if_pos (by omega), if_pos (by omega), if_pos (by simpa using hi2), hrd, if_pos (by omega)]; rfl
    · rw [if_neg h] at hi ⊢
      obtain ⟨K, hK⟩ := ev_get (ih (i + 1) (by omega) (by omega))
      refine ⟨K + 1, fun k hk => ?_⟩
      obtain ⟨k, rfl⟩ : ∃ m, k = m + 1 := ⟨k - 1, by omega⟩
      dsimp only
      rw [spec_biPlace.l0, if_pos (by omega), if_pos (by omega), if_pos (by simpa using hi2), hrd, if_neg (by omega), w64 _ (by omega) (by omega), show (i : Int) + 1 = ((i + 1 : Nat) : Int) by omega, hK k (by omega)]
      congr 2
      omega
theorem biPlace_ev (L : List Nat) (s : Nat) (hs : L.length ≤ 100) (h : idx L s < L.length) : Ev (fun k => spec_biPlace.f k (L.map fun (z : Nat) => (z : Int)) (s : Int)) (idx L s : Int) := by
  obtain ⟨K, hK⟩ := ev_get (biPlace_l0 L s hs L.length 0 (by omega) (by simpa using h))
  refine ⟨K, fun k hk => ?_⟩
  have := hK k hk
  simpa [spec_biPlace.f] using this
def pairL (ps : List (Nat × Nat)) : List (List Int) := ps.map fun x => [(x.1 : Int), (x.2 : Int)]
theorem pairL_at (ps : List (Nat × Nat)) (i : Nat) (h : i < ps.length) : rd_L2 (pairL ps) (i : Int) = [(ps[i].1 : Int), (ps[i].2 : Int)] := by
  rw [rdL_nat _ _ (by simpa [pairL] using h)]; simp [pairL]
theorem biBoard_end (k : Nat) (x1 : Int) (x5 x6 : List Int) (x24 : List (List Int)) (x25 x26 a b : Int) (l : List Int) (c d : Int) (out : List Int) (h : ¬ x26 < x25) : spec_biBoard.l0 (k + 1) x1 x5 x6 x24 x25 x26 a b l c d out = some (c, d, out) := by
  rw [spec_biBoard.l0, if_neg h]
theorem biBoard_other (k : Nat) (x1 : Int) (x5 x6 : List Int) (x24 : List (List Int)) (x25 x26 a b : Int) (l : List Int) (c d : Int) (out : List Int) (u v : Int) (h1 : x26 < x25) (h2 : 0 ≤ x26) (h3 : x26 < (x24.length : Int)) (hrow : rd_L2 x24 x26 = [u, v]) (hp : ¬ Int.tmod (wrap64 (u + v)) 2 = x1) :
    spec_biBoard.l0 (k + 1) x1 x5 x6 x24 x25 x26 a b l c d out = spec_biBoard.l0 k x1 x5 x6 x24 x25 (wrap64 (x26 + 1)) a b l c d out := by
  rw [spec_biBoard.l0, if_pos h1, if_pos h2, if_pos h3, hrow, if_pos (by simp), if_pos (by simp), rd0, rd1, if_neg hp]
theorem biBoard_step (k : Nat) (x1 : Int) (x5 x6 : List Int) (x24 : List (List Int)) (x25 x26 a b : Int) (l : List Int) (c d : Int) (out : List Int) (u v e f t s : Int) (h1 : x26 < x25) (h2 : 0 ≤ x26) (h3 : x26 < (x24.length : Int)) (hrow : rd_L2 x24 x26 = [u, v]) (hp : Int.tmod (wrap64 (u + v)) 2 = x1) (hd : spec_biDiagonals.f a b l u v = some (e, f)) (f1 : spec_biPlace.f k x5 e = some t) (ht0 : 0 ≤ t) (ht1 : t < (out.length : Int)) (f2 : spec_biPlace.f k x6 f = some s) (hs : 0 ≤ s) :
    spec_biBoard.l0 (k + 1) x1 x5 x6 x24 x25 x26 a b l c d out = spec_biBoard.l0 k x1 x5 x6 x24 x25 (wrap64 (x26 + 1)) a b l c d (out.set t.toNat (wrap64 (rd out t + shl .i64 1 s))) := by
  rw [spec_biBoard.l0, if_pos h1, if_pos h2, if_pos h3, hrow, if_pos (by simp), if_pos (by simp), rd0, rd1, if_pos hp, hd, Option.bind_some, f1, Option.bind_some, if_pos ht0, if_pos ht1, f2, Option.bind_some, if_pos hs]
/-- What one place adds. -/
theorem stepQ_at {R C q : Nat} (hR : R ≤ 6) (hC : C ≤ 6) (hq : q ≤ 1) {r c i : Nat} {out : List Int} (hx : r < R ∧ c < C) (hp : (r + c) % 2 = q) (ho : out.length = (upN R C q).length) (hi : i ≤ 36) (hb : ∀ j, j < out.length → 0 ≤ out.getD j 0 ∧ out.getD j 0 ≤ 64 * (i : Int)) :
    (idx (upN R C q) (r + c) < (upN R C q).length ∧ idx (downN R C q) (r + C - 1 - c) < (downN R C q).length) ∧ stepQ R C q out (r, c) = out.set ((idx (upN R C q) (r + c) : Nat) : Int).toNat (wrap64 (rd out ((idx (upN R C q) (r + c) : Nat) : Int) + shl .i64 1 ((idx (downN R C q) (r + C - 1 - c) : Nat) : Int))) ∧ (∀ j, j < (stepQ R C q out (r, c)).length → 0 ≤ (stepQ R C q out (r, c)).getD j 0 ∧ (stepQ R C q out (r, c)).getD j 0 ≤ 64 * ((i + 1 : Nat) : Int)) := by
  have hlen := lines_len ⟨R, by omega⟩ ⟨C, by omega⟩ ⟨q, by omega⟩
  simp only at hlen
  have hok := idx_ok ⟨R, by omega⟩ ⟨C, by omega⟩ ⟨q, by omega⟩ (r, c) (mem_cellsQ hx.1 hx.2 hp)
  simp only at hok
  obtain ⟨h1, h2, _⟩ := hok
  have hpw : 2 ^ idx (downN R C q) (r + C - 1 - c) ≤ 2 ^ 5 := Nat.pow_le_pow_right (by omega) (by omega)
  have hz : (0 : Int) ≤ ((2 ^ idx (downN R C q) (r + C - 1 - c) : Nat) : Int) ∧ ((2 ^ idx (downN R C q) (r + C - 1 - c) : Nat) : Int) ≤ 32 := ⟨Int.natCast_nonneg _, by exact_mod_cast hpw⟩
  refine ⟨⟨h1, h2⟩, ?_, fun j hj => ?_⟩
  · have hrd : rd out ((idx (upN R C q) (r + c) : Nat) : Int) = out.getD (idx (upN R C q) (r + c)) 0 := by
      rw [rd_nat _ _ (by omega)]; simp [List.getD_eq_getElem?_getD, List.getElem?_eq_getElem (show idx (upN R C q) (r + c) < out.length by omega)]
    have hbd := hb (idx (upN R C q) (r + c)) (by omega)
    have hsh : shl .i64 1 ((idx (downN R C q) (r + C - 1 - c) : Nat) : Int) = ((2 ^ idx (downN R C q) (r + C - 1 - c) : Nat) : Int) := by
      rw [shl_one _ (by omega) (by omega), Int.toNat_natCast]; simp
    unfold stepQ
    rw [if_pos hp, hrd, hsh, Int.toNat_natCast]
    show out.set (idx (upN R C q) (r + c)) (out.getD (idx (upN R C q) (r + c)) 0 + ((2 ^ idx (downN R C q) (r + C - 1 - c) : Nat) : Int)) = _
    generalize ((2 ^ idx (downN R C q) (r + C - 1 - c) : Nat) : Int) = z at hz ⊢
    rw [w64 _ (by omega) (by omega)]
  · rw [stepQ_length] at hj
    rw [stepQ_getD R C q out (r, c) j hj]
    have := hb j hj
    by_cases hh : (r + c) % 2 = q ∧ idx (upN R C q) (r + c) = j
    · rw [if_pos hh]
      show 0 ≤ out.getD j 0 + ((2 ^ idx (downN R C q) (r + C - 1 - c) : Nat) : Int) ∧ out.getD j 0 + ((2 ^ idx (downN R C q) (r + C - 1 - c) : Nat) : Int) ≤ 64 * ((i + 1 : Nat) : Int)
      generalize ((2 ^ idx (downN R C q) (r + C - 1 - c) : Nat) : Int) = z at hz ⊢
      omega
    · rw [if_neg hh]
      omega
theorem bi_diag (R C r c : Nat) (l : List Int) (hR : R ≤ 6) (hC : C ≤ 6) (hr : r < R) (hc : c < C) : spec_biDiagonals.f (R : Int) (C : Int) l (r : Int) (c : Int) = some (((r + c : Nat) : Int), ((r + C - 1 - c : Nat) : Int)) := by
  unfold spec_biDiagonals.f
  rw [w64 ((r : Int) + (c : Int)) (by omega) (by omega), w64 ((r : Int) - (c : Int)) (by omega) (by omega), w64 ((r : Int) - (c : Int) + (C : Int)) (by omega) (by omega), w64 ((r : Int) - (c : Int) + (C : Int) - 1) (by omega) (by omega), show (r : Int) + (c : Int) = ((r + c : Nat) : Int) by omega, show (r : Int) - (c : Int) + (C : Int) - 1 = ((r + C - 1 - c : Nat) : Int) by omega]
theorem ev_succ {α : Type} {g g' : Nat → Option α} {r : α} (K : Nat) (h : Ev g' r) (hs : ∀ k, K ≤ k → g (k + 1) = g' k) : Ev g r := by
  obtain ⟨K2, h2⟩ := ev_get h
  refine ⟨K + K2 + 1, fun k hk => ?_⟩
  obtain ⟨k, rfl⟩ : ∃ m, k = m + 1 := ⟨k - 1, by omega⟩
  rw [hs k (by omega)]
  exact h2 k (by omega)
theorem ev_last {α : Type} {g : Nat → Option α} {r : α} (hs : ∀ k, g (k + 1) = some r) : Ev g r := by
  refine ⟨1, fun k hk => ?_⟩
  obtain ⟨k, rfl⟩ : ∃ m, k = m + 1 := ⟨k - 1, by omega⟩
  exact hs k
theorem at_more {i n : Nat} (h : i < n) (hn : n ≤ 36) : n - (i + 1) = n - i - 1 ∧ i + 1 ≤ n ∧ i ≤ 36 ∧ ((i : Int) < (n : Int) ∧ 0 ≤ (i : Int) ∧ wrap64 ((i : Int) + 1) = ((i + 1 : Nat) : Int)) := by
  refine ⟨by omega, by omega, by omega, by omega, by omega, ?_⟩
  rw [w64 _ (by omega) (by omega)]; omega
theorem up_more {out : List Int} {i : Nat} (hb : ∀ j, j < out.length → 0 ≤ out.getD j 0 ∧ out.getD j 0 ≤ 64 * (i : Int)) : ∀ j, j < out.length → 0 ≤ out.getD j 0 ∧ out.getD j 0 ≤ 64 * ((i + 1 : Nat) : Int) := fun j hj => by have := hb j hj; omega
theorem biBoard_loop {R C q : Nat} (hR : R ≤ 6) (hC : C ≤ 6) (hq : q ≤ 1) (l : List Int) (ps : List (Nat × Nat)) (hps : ∀ x ∈ ps, x.1 < R ∧ x.2 < C) (hn : ps.length ≤ 36) : ∀ (d i : Nat) (out : List Int), ps.length - i = d → i ≤ ps.length → out.length = (upN R C q).length → (∀ j, j < out.length → 0 ≤ out.getD j 0 ∧ out.getD j 0 ≤ 64 * (i : Int)) →
    Ev (fun k => spec_biBoard.l0 k (q : Int) (upL R C q) (downL R C q) (pairL ps) (ps.length : Int) (i : Int) (R : Int) (C : Int) l ((upN R C q).length : Int) ((downN R C q).length : Int) out) (((upN R C q).length : Int), ((downN R C q).length : Int), (ps.drop i).foldl (stepQ R C q) out) := by
  have hlen : (upN R C q).length ≤ 100 ∧ (downN R C q).length ≤ 100 := by
    have hlen := lines_len ⟨R, by omega⟩ ⟨C, by omega⟩ ⟨q, by omega⟩
    simp only at hlen
    exact ⟨Nat.le_trans hlen.1 (by decide), Nat.le_trans hlen.2.1 (by decide)⟩
  intro d
  induction d with
  | zero =>
    intro i out hd hi ho hb
    have hle : ps.length ≤ i := Nat.sub_eq_zero_iff_le.1 hd
    refine ev_last (fun k => ?_)
    rw [biBoard_end _ _ _ _ _ _ _ _ _ _ _ _ _ (by exact_mod_cast Nat.not_lt.2 hle), List.drop_eq_nil_of_le hle]
    rfl
  | succ d ih =>
    intro i out hd hi ho hb
    have hi2 : i < ps.length := Nat.lt_of_sub_eq_succ hd
    obtain ⟨g0, g2, g36, g4⟩ := at_more hi2 hn
    have g1 : ps.length - (i + 1) = d := by rw [g0, hd]; rfl
    have hx := hps ps[i] (List.getElem_mem hi2)
    have hdr : ps.drop i = ps[i] :: ps.drop (i + 1) := List.drop_eq_getElem_cons hi2
    have hrow := pairL_at ps i hi2
    have hpl : (pairL ps).length = ps.length := by simp [pairL]
    have g5 : (i : Int) < ((pairL ps).length : Int) := by rw [hpl]; exact g4.1
    generalize ps[i] = x at hx hdr hrow
    obtain ⟨r, c⟩ := x
    dsimp only at hx hrow
    have hpar := parity r c q (Nat.le_trans (Nat.le_of_lt hx.1) hR) (Nat.le_trans (Nat.le_of_lt hx.2) hC)
    rw [hdr, List.foldl_cons]
    by_cases hp : (r + c) % 2 = q
    · obtain ⟨⟨h1, h2⟩, hst, hb2⟩ := stepQ_at hR hC hq hx hp ho g36 hb
      obtain ⟨K1, e1⟩ := ev_get (biPlace_ev (upN R C q) (r + c) hlen.1 h1)
      obtain ⟨K2, e2⟩ := ev_get (biPlace_ev (downN R C q) (r + C - 1 - c) hlen.2 h2)
      have g7 : ((idx (upN R C q) (r + c) : Nat) : Int) < (out.length : Int) := by rw [ho]; exact_mod_cast h1
      refine ev_succ (K1 + K2) (ih (i + 1) (stepQ R C q out (r, c)) g1 g2 (by rw [stepQ_length]; exact ho) hb2) (fun k hk => ?_)
      have f1 : spec_biPlace.f k (upL R C q) _ = _ := e1 k (Nat.le_trans (Nat.le_add_right K1 K2) hk)
      have f2 : spec_biPlace.f k (downL R C q) _ = _ := e2 k (Nat.le_trans (Nat.le_add_left K2 K1) hk)
      clear e1 e2 ih
      rw [biBoard_step k _ _ _ _ _ _ _ _ _ _ _ _ _ _ _ _ _ _ g4.1 g4.2.1 g5 hrow (hpar.2 hp) (bi_diag R C r c l hR hC hx.1 hx.2) f1 (Int.natCast_nonneg _) g7 f2 (Int.natCast_nonneg _), ← hst, g4.2.2]
    · have hst : stepQ R C q out (r, c) = out := by unfold stepQ; rw [if_neg hp]
      rw [hst]
      refine ev_succ 0 (ih (i + 1) out g1 g2 ho (up_more hb)) (fun k hk => ?_)
      rw [biBoard_other k _ _ _ _ _ _ _ _ _ _ _ _ _ _ g4.1 g4.2.1 g5 hrow (fun h => hp (hpar.1 h)), g4.2.2]
theorem pairsAll_mem {R C : Nat} {x : Nat × Nat} (h : x ∈ pairsAll R C) : x.1 < R ∧ x.2 < C := by
  unfold pairsAll at h
  rw [List.mem_flatMap] at h
  obtain ⟨r, hr, h⟩ := h
  obtain ⟨c, hc, rfl⟩ := List.mem_map.1 h
  exact ⟨List.mem_range.1 hr, List.mem_range.1 hc⟩
theorem biBoard_ev {R C q : Nat} {l : List Int} (h : boardB (R : Int) (C : Int) l = true) (hR : R ≤ 6) (hC : C ≤ 6) (hq : q ≤ 1) : Ev (fun k => spec_biBoard.f k (R : Int) (C : Int) l (q : Int)) (((upN R C q).length : Int), ((downN R C q).length : Int), colL R C q l) := by
  have hlen := lines_len ⟨R, by omega⟩ ⟨C, by omega⟩ ⟨q, by omega⟩
  simp only at hlen
  have hpl := pairs_len ⟨R, by omega⟩ ⟨C, by omega⟩
  simp only at hpl
  obtain ⟨K1, h1⟩ := ev_get (lines_ev R C q hR hC hq l)
  obtain ⟨K2, h2⟩ := ev_get (boCells_ev h)
  have hfl : ((pairsAll R C).filter fun x => hasC l (x.1 : Int) (x.2 : Int)).length ≤ 36 := Nat.le_trans (List.length_filter_le _ _) hpl
  obtain ⟨K3, h3⟩ := ev_get (biBoard_loop hR hC hq l ((pairsAll R C).filter fun x => hasC l (x.1 : Int) (x.2 : Int)) (fun x hx => pairsAll_mem (List.mem_filter.1 hx).1) hfl _ 0 (List.replicate (upN R C q).length 0) rfl (by omega) (by simp) (fun j hj => by
    rw [List.length_replicate] at hj
    simp [List.getD_eq_getElem?_getD, hj]))
  rw [List.drop_zero, fold_colL l hR hC hq] at h3
  refine ⟨K1 + K2 + K3, fun k hk => ?_⟩
  have e3 := h3 k (by omega)
  simp only [spec_biBoard.f, h1 k (by omega), h2 k (by omega), Option.bind_some, upL_length, downL_length, spec_boEmpty.f]
  rw [if_pos (by omega), if_pos (by omega), Option.bind_some, Int.toNat_natCast, cells_pairs]
  have hpl2 : (((pairsAll R C).filter fun x => hasC l (x.1 : Int) (x.2 : Int)).map fun x => [(x.1 : Int), (x.2 : Int)]) = pairL ((pairsAll R C).filter fun x => hasC l (x.1 : Int) (x.2 : Int)) := rfl
  rw [hpl2, show (pairL ((pairsAll R C).filter fun x => hasC l (x.1 : Int) (x.2 : Int))).length = ((pairsAll R C).filter fun x => hasC l (x.1 : Int) (x.2 : Int)).length by simp [pairL]]
  exact e3
end Go.Proofs.Ytdoflpghemgbdaa.P
namespace Go.Proofs.Ytdoflpghemgbdaa.P
open Go.RowKit Go.Proofs.YtdoflpghemgbdaaW.PrintWords Go.Proofs.YtdoflpghemgbdaaW.PrintLast Go.Proofs.YtdoflpghemgbdaaW.PrintMore
set_option linter.unusedVariables false
set_option linter.unusedSimpArgs false
theorem or_add' : ∀ r : Fin 6, ∀ m : Fin 64, m.val < 2 ^ r.val → Go.bits .or .i64 (m.val : Int) (shl .i64 1 (r.val : Int)) = ((m.val + 2 ^ r.val : Nat) : Int) := by decide +kernel
theorem mk_or (f : Nat → Bool) (j : Nat) (hj : j < 6) (h : f j = true) : Go.bits .or .i64 (mk f j) (shl .i64 1 (j : Int)) = mk f (j + 1) := by
  obtain ⟨m, e, hm⟩ := mk_nat f j
  have h64 : 2 ^ j ≤ 2 ^ 5 := Nat.pow_le_pow_right (by omega) (by omega)
  have := or_add' ⟨j, hj⟩ ⟨m, by omega⟩ hm
  simp only at this
  rw [mk, if_pos h, e, this]
  omega
theorem mk_same (f : Nat → Bool) (j : Nat) (h : f j = false) : mk f (j + 1) = mk f j := by
  rw [mk, if_neg (by simp [h])]; omega
theorem rd_set_same (L : List Int) (i : Nat) (v : Int) (h : i < L.length) : rd (L.set i v) (i : Int) = v := by
  rw [rd_nat _ _ (by simpa using h)]; simp
theorem col_in {R C q : Nat} {l : List Int} (h : boardB (R : Int) (C : Int) l = true) (hR : R ≤ 6) (hC : C ≤ 6) (hq : q ≤ 1) (n R' C' : Int) (i : Nat) (hi : i < (upN R C q).length) (L : List Int) (hL : L.length = (upN R C q).length) (res : Int × Int × List Int × Bool)
    (hn : Ev (fun k => impl_Board_coloured.l0 k (downL R C q) (upL R C q) n ((i + 1 : Nat) : Int) (R : Int) (C : Int) l R' C' (L.set i (mk (fun k => crossB R C l ((upN R C q).getD i 0) ((downN R C q).getD k 0)) (downN R C q).length))) res) :
    ∀ (d j : Nat), (downN R C q).length - j = d → j ≤ (downN R C q).length →
    Ev (fun k => impl_Board_coloured.l1 k (downL R C q) (i : Int) (((upN R C q).getD i 0 : Nat) : Int) (upL R C q) n (i : Int) (downL R C q) ((downN R C q).length : Int) (j : Int) (R : Int) (C : Int) l R' C' (L.set i (mk (fun k => crossB R C l ((upN R C q).getD i 0) ((downN R C q).getD k 0)) j))) res := by
  have hlen := lines_len ⟨R, by omega⟩ ⟨C, by omega⟩ ⟨q, by omega⟩
  simp only at hlen
  obtain ⟨hu1, hu2⟩ := up_at hR hC hq hi
  have hb := (boardB_iff _ _ _).1 h
  intro d
  induction d with
  | zero =>
    intro j hd hj
    have : j = (downN R C q).length := by omega
    subst this
    obtain ⟨K, hK⟩ := ev_get hn
    refine ⟨K + 1, fun k hk => ?_⟩
    obtain ⟨k, rfl⟩ : ∃ m, k = m + 1 := ⟨k - 1, by omega⟩
    have e := hK k (by omega)
    rw [show ((i + 1 : Nat) : Int) = (i : Int) + 1 by omega] at e
    dsimp only
    rw [impl_Board_coloured.l1, if_neg (by omega), w64 _ (by omega) (by omega)]
    exact e
  | succ d ih =>
    intro j hd hj
    have hj2 : j < (downN R C q).length := by omega
    obtain ⟨hd1, hd2⟩ := down_at hR hC hq hj2
    obtain ⟨K, hK⟩ := ev_get (ih (j + 1) (by omega) (by omega))
    refine ⟨K + 1, fun k hk => ?_⟩
    obtain ⟨k, rfl⟩ : ∃ m, k = m + 1 := ⟨k - 1, by omega⟩
    have e := hK k (by omega)
    rw [show ((j + 1 : Nat) : Int) = (j : Int) + 1 by omega] at e
    have hc := cross_eq hR hC hu2 hd2 l
    have ho := cross_ok ⟨R, by omega⟩ ⟨C, by omega⟩ ⟨_, hu2⟩ ⟨_, hd2⟩
    simp only at ho
    obtain ⟨_, ho1, ho2⟩ := ho
    dsimp only
    rw [impl_Board_coloured.l1, if_pos (by omega), if_pos (by omega), if_pos (by rw [downL_length]; omega), hd1, hc, Option.bind_some]
    rw [w64 ((j : Int) + 1) (by omega) (by omega)]
    cases ht : (crossV R C ((upN R C q).getD i 0) ((downN R C q).getD j 0)).2.2 with
    | false =>
      rw [ht] at ho1
      rw [if_neg (by simp)]
      rw [mk_same _ _ (by show crossB R C l _ _ = false; simp only [crossB, ho1]; rfl)] at e
      exact e
    | true =>
      rw [ht] at ho1 ho2
      obtain ⟨hx, hy⟩ := ho2 rfl
      rw [if_pos rfl, has_eq h hx.1 hx.2 hy.1 hy.2, Option.bind_some]
      have hcb : crossB R C l ((upN R C q).getD i 0) ((downN R C q).getD j 0) = hasC l (crossV R C ((upN R C q).getD i 0) ((downN R C q).getD j 0)).1 (crossV R C ((upN R C q).getD i 0) ((downN R C q).getD j 0)).2.1 := by
        simp only [crossB, ho1, if_true, Option.any_some]
        rw [Int.toNat_of_nonneg hx.1, Int.toNat_of_nonneg hy.1]
      by_cases hh : hasC l (crossV R C ((upN R C q).getD i 0) ((downN R C q).getD j 0)).1 (crossV R C ((upN R C q).getD i 0) ((downN R C q).getD j 0)).2.1 = true
      · rw [if_pos hh, if_pos (by omega), if_pos (by rw [List.length_set]; omega), rd_set_same _ _ _ (by omega), Int.toNat_natCast, List.set_set, mk_or _ _ (by omega) (by show crossB R C l _ _ = true; rw [hcb]; exact hh)]
        exact e
      · rw [if_neg hh]
        rw [mk_same _ _ (by show crossB R C l _ _ = false; rw [hcb]; simpa using hh)] at e
        exact e
theorem col_out {R C q : Nat} {l : List Int} (h : boardB (R : Int) (C : Int) l = true) (hR : R ≤ 6) (hC : C ≤ 6) (hq : q ≤ 1) (R' C' : Int) : ∀ (d i : Nat), (upN R C q).length - i = d → i ≤ (upN R C q).length →
    Ev (fun k => impl_Board_coloured.l0 k (downL R C q) (upL R C q) ((upN R C q).length : Int) (i : Int) (R : Int) (C : Int) l R' C' ((colL R C q l).take i ++ List.replicate ((upN R C q).length - i) 0)) (R', C', colL R C q l, true) := by
  have hlen := lines_len ⟨R, by omega⟩ ⟨C, by omega⟩ ⟨q, by omega⟩
  simp only at hlen
  intro d
  induction d with
  | zero =>
    intro i hd hi
    have : i = (upN R C q).length := by omega
    subst this
    refine ⟨1, fun k hk => ?_⟩
    obtain ⟨k, rfl⟩ : ∃ m, k = m + 1 := ⟨k - 1, by omega⟩
    dsimp only
    rw [impl_Board_coloured.l0, if_neg (by omega), Nat.sub_self, List.replicate_zero, List.append_nil, List.take_of_length_le (by rw [colL_length]; omega)]
  | succ d ih =>
    intro i hd hi
    have hi2 : i < (upN R C q).length := by omega
    obtain ⟨hu1, hu2⟩ := up_at hR hC hq hi2
    have hcl := colL_length R C q l
    have hLl : ((colL R C q l).take i ++ List.replicate ((upN R C q).length - i) (0 : Int)).length = (upN R C q).length := by simp [hcl]; omega
    have hrep : List.replicate ((upN R C q).length - i) (0 : Int) = 0 :: List.replicate ((upN R C q).length - (i + 1)) 0 := by
      rw [show (upN R C q).length - i = (upN R C q).length - (i + 1) + 1 by omega, List.replicate_succ]
    have htl : ((colL R C q l).take i).length = i := by rw [List.length_take, hcl]; omega
    have hset : ∀ v : Int, ((colL R C q l).take i ++ List.replicate ((upN R C q).length - i) (0 : Int)).set i v = (colL R C q l).take i ++ v :: List.replicate ((upN R C q).length - (i + 1)) 0 := by
      intro v
      rw [hrep, List.set_append_right _ _ (by omega), htl, Nat.sub_self, List.set_cons_zero]
    have hnext : (colL R C q l).take (i + 1) ++ List.replicate ((upN R C q).length - (i + 1)) 0 = ((colL R C q l).take i ++ List.replicate ((upN R C q).length - i) (0 : Int)).set i (mk (fun k => crossB R C l ((upN R C q).getD i 0) ((downN R C q).getD k 0)) (downN R C q).length) := by
      rw [hset, List.take_succ_eq_append_getElem (by omega), List.append_assoc]
      congr 1
      simp only [List.singleton_append, colL, List.getElem_map, List.getD_eq_getElem?_getD, List.getElem?_eq_getElem hi2, Option.getD_some]
    have hih := ih (i + 1) (by omega) (by omega)
    rw [hnext] at hih
    have hin := col_in h hR hC hq ((upN R C q).length : Int) R' C' i hi2 _ hLl _ hih (downN R C q).length 0 (by omega) (by omega)
    have h0 : ((colL R C q l).take i ++ List.replicate ((upN R C q).length - i) (0 : Int)).set i (mk (fun k => crossB R C l ((upN R C q).getD i 0) ((downN R C q).getD k 0)) 0) = (colL R C q l).take i ++ List.replicate ((upN R C q).length - i) (0 : Int) := by
      rw [hset, hrep]; rfl
    rw [h0] at hin
    obtain ⟨K, hK⟩ := ev_get hin
    refine ⟨K + 1, fun k hk => ?_⟩
    obtain ⟨k, rfl⟩ : ∃ m, k = m + 1 := ⟨k - 1, by omega⟩
    dsimp only
    rw [impl_Board_coloured.l0, if_pos (by omega), if_pos (by omega), if_pos (by rw [upL_length]; omega), hu1, downL_length]
    exact hK k (by omega)
def colR (R C q : Nat) (l : List Int) : Int × Int × List Int × Bool := if (upN R C q).length = 0 then (0, 0, [], false) else (((upN R C q).length : Int), ((downN R C q).length : Int), colL R C q l, true)
theorem coloured_ev {R C q : Nat} {l : List Int} (h : boardB (R : Int) (C : Int) l = true) (hR : R ≤ 6) (hC : C ≤ 6) (hq : q ≤ 1) : Ev (fun k => impl_Board_coloured.f k (R : Int) (C : Int) l (q : Int)) (colR R C q l) := by
  have hlen := lines_len ⟨R, by omega⟩ ⟨C, by omega⟩ ⟨q, by omega⟩
  simp only at hlen
  obtain ⟨K1, h1⟩ := ev_get (diag_ev R C q hR hC hq l)
  obtain ⟨K2, h2⟩ := ev_get (col_out h hR hC hq ((upN R C q).length : Int) ((downN R C q).length : Int) (upN R C q).length 0 (by omega) (by omega))
  unfold colR
  by_cases h0 : (upN R C q).length = 0
  · rw [if_pos h0]
    refine ⟨K1, fun k hk => ?_⟩
    simp only [impl_Board_coloured.f, h1 k (by omega), Option.bind_some, upL_length, h0]
    rfl
  · rw [if_neg h0]
    refine ⟨K1 + K2, fun k hk => ?_⟩
    have e := h2 k (by omega)
    simp only [impl_Board_coloured.f, h1 k (by omega), Option.bind_some, upL_length, downL_length, impl_newBoard.f]
    rw [if_neg (by omega), if_pos (by omega), if_pos (by omega)]
    simp only [Option.bind_some, Int.toNat_natCast]
    simpa using e
end Go.Proofs.Ytdoflpghemgbdaa.P
namespace Go.Proofs.Ytdoflpghemgbdaa.P
open Go.RowKit Go.Proofs.YtdoflpghemgbdaaW.PrintWords Go.Proofs.YtdoflpghemgbdaaW.PrintLast Go.Proofs.YtdoflpghemgbdaaW.PrintMore
set_option linter.unusedVariables false
set_option linter.unusedSimpArgs false
theorem l1Has_l0 (x : Int) (l : List Int) (hb : l.length ≤ 1152921504606846976) : ∀ (d i : Nat) (k : Nat), l.length - i = d → i ≤ l.length → d < k →
    spec_l1Has.l0 k x l (l.length : Int) (i : Int) = some (decide (x ∈ l.drop i)) := by
  intro d
  induction d with
  | zero =>
    intro i k hd hi' hk
    obtain ⟨k, rfl⟩ : ∃ m, k = m + 1 := ⟨k - 1, by omega⟩
    rw [spec_l1Has.l0, if_neg (by omega), List.drop_eq_nil_of_le (by omega)]
    rfl
  | succ d ih =>
    intro i k hd hi' hk
    obtain ⟨k, rfl⟩ : ∃ m, k = m + 1 := ⟨k - 1, by omega⟩
    have h1 : i < l.length := by omega
    rw [spec_l1Has.l0, if_pos (by omega), if_pos (by omega), if_pos (by omega), w64 _ (by omega) (by omega), rd_nat _ _ h1]
    rw [show ((i : Int) + 1) = ((i + 1 : Nat) : Int) by omega, ih (i + 1) k (by omega) (by omega) (by omega), drop_cons l i h1]
    generalize l.drop (i + 1) = tl
    by_cases h : l[i] = x
    · rw [if_pos h]; simp [h]
    · rw [if_neg h]; congr 1; simp [Ne.symm h]
theorem l1Has_ev (l : List Int) (x : Int) (hb : l.length ≤ 1152921504606846976) : Ev (fun k => spec_l1Has.f k l x) (decide (x ∈ l)) := by
  refine ⟨l.length + 1, fun k hk => ?_⟩
  simp only [spec_l1Has.f]
  have := l1Has_l0 x l hb l.length 0 k (by omega) (by omega) (by omega)
  simpa using this
/-- slices.Index tells at least 0 just for a member. -/
theorem Index_l0 (x : Int) (l : List Int) (hb : l.length ≤ 1152921504606846976) : ∀ (d i : Nat) (k : Nat), l.length - i = d → i ≤ l.length → d < k →
    slices_Index_int_int.l0 k l x (l.length : Int) (i : Int) = some (if x ∈ l.drop i then (i : Int) + ((l.drop i).idxOf x : Nat) else -1) := by
  intro d
  induction d with
  | zero =>
    intro i k hd hi' hk
    obtain ⟨k, rfl⟩ : ∃ m, k = m + 1 := ⟨k - 1, by omega⟩
    rw [slices_Index_int_int.l0, if_neg (by omega), List.drop_eq_nil_of_le (by omega)]
    rfl
  | succ d ih =>
    intro i k hd hi' hk
    obtain ⟨k, rfl⟩ : ∃ m, k = m + 1 := ⟨k - 1, by omega⟩
    have h1 : i < l.length := by omega
    rw [slices_Index_int_int.l0, if_pos (by omega), if_pos (by omega), if_pos (by omega), w64 _ (by omega) (by omega), rd_nat _ _ h1]
    rw [show ((i : Int) + 1) = ((i + 1 : Nat) : Int) by omega, ih (i + 1) k (by omega) (by omega) (by omega), drop_cons l i h1]
    generalize l.drop (i + 1) = tl
    by_cases h : x = l[i]
    · rw [if_pos h]; simp [h]
    · rw [if_neg h]; congr 1
      rw [List.idxOf_cons, show (l[i] == x) = false by simpa using Ne.symm h, cond_false]
      by_cases h2 : x ∈ tl
      · rw [if_pos h2, if_pos (by simp [h2])]; omega
      · rw [if_neg h2, if_neg (by simp [h, h2])]
theorem Index_ev (l : List Int) (x : Int) (hb : l.length ≤ 1152921504606846976) : Ev (fun k => slices_Index_int_int.f k l x) (if x ∈ l then (l.idxOf x : Int) else -1) := by
  refine ⟨l.length + 1, fun k hk => ?_⟩
  simp only [slices_Index_int_int.f]
  have := Index_l0 x l hb l.length 0 k (by omega) (by omega) (by omega)
  simpa using this
theorem Contains_ev (l : List Int) (x : Int) (hb : l.length ≤ 1152921504606846976) : Ev (fun k => slices_Contains_int_int.f k l x) (decide (x ∈ l)) := by
  obtain ⟨K, hK⟩ := ev_get (Index_ev l x hb)
  refine ⟨K, fun k hk => ?_⟩
  simp only [slices_Contains_int_int.f, hK k hk, Option.bind_some]
  congr 1
  by_cases h : x ∈ l
  · simp [h]
  · simp [h]
end Go.Proofs.Ytdoflpghemgbdaa.P
namespace Go.Proofs.Ytdoflpghemgbdaa.P
open Go.RowKit Go.Proofs.YtdoflpghemgbdaaW.PrintWords Go.Proofs.YtdoflpghemgbdaaW.PrintLast Go.Proofs.YtdoflpghemgbdaaW.PrintMore
set_option linter.unusedVariables false
set_option linter.unusedSimpArgs false
/-- What the loops over a placement look at, from place i on. -/
def placedF (c : Int) (l p : List Int) : Nat → Nat → Bool
  | 0, _ => true
  | d + 1, i => if rd p (i : Int) = -1 then placedF c l p d (i + 1) else if inB (rd p (i : Int)) 0 (c - 1) = true then (if hasC l (i : Int) (rd p (i : Int)) = true then (if decide (rd p (i : Int) ∈ p.take i) = true then false else placedF c l p d (i + 1)) else false) else false
def placedB (r c : Int) (l p : List Int) : Bool := if (p.length : Int) = r then placedF c l p p.length 0 else false
theorem roGood_l0 {r c : Int} {l p : List Int} (h : boardB r c l = true) (hp : (p.length : Int) = r) : ∀ (d i : Nat), p.length - i = d → i ≤ p.length →
    Ev (fun k => spec_roGood.l0 k p p (p.length : Int) (i : Int) r c l) (placedF c l p d i) := by
  have hh := (boardB_iff r c l).1 h
  intro d
  induction d with
  | zero =>
    intro i hd hi
    refine ⟨1, fun k hk => ?_⟩
    obtain ⟨k, rfl⟩ : ∃ m, k = m + 1 := ⟨k - 1, by omega⟩
    simp only [spec_roGood.l0]
    rw [if_neg (by omega)]
    rfl
  | succ d ih =>
    intro i hd hi
    obtain ⟨K, hK⟩ := ev_get (ih (i + 1) (by omega) (by omega))
    obtain ⟨K2, hK2⟩ := ev_get (l1Has_ev (p.take i) (rd p (i : Int)) (by simp; omega))
    refine ⟨K + K2 + 1, fun k hk => ?_⟩
    obtain ⟨k, rfl⟩ : ∃ m, k = m + 1 := ⟨k - 1, by omega⟩
    simp only [spec_roGood.l0]
    rw [if_pos (by omega), if_pos (by omega), if_pos (by omega), w64 _ (by omega) (by omega), w64 (c - 1) (by omega) (by omega), show ((i : Int) + 1) = ((i + 1 : Nat) : Int) by omega, hK k (by omega), l1In_eq, Option.bind_some, show (i : Int).toNat = i by omega, hK2 k (by omega), Option.bind_some, if_pos (show (i : Int) ≤ (p.length : Int) by omega)]
    simp only [placedF]
    split
    · rfl
    split
    · rename_i h2
      have h3 : 0 ≤ rd p (i : Int) := by simp only [inB, decide_eq_true_eq] at h2; omega
      rw [boHas_eq h (by omega) (by omega) h3, Option.bind_some]
      split
      · split <;> rfl
      · rfl
    · rfl
theorem roGood_ev {r c : Int} {l : List Int} (p : List Int) (h : boardB r c l = true) : Ev (fun k => spec_roGood.f k r c l p) (placedB r c l p) := by
  by_cases hp : (p.length : Int) = r
  · obtain ⟨K, hK⟩ := ev_get (roGood_l0 h hp p.length 0 (by omega) (by omega))
    refine ⟨K, fun k hk => ?_⟩
    simp only [spec_roGood.f, placedB, if_pos hp]
    exact hK k hk
  · refine ⟨0, fun k hk => ?_⟩
    simp only [spec_roGood.f, placedB, if_neg hp]
theorem isPlacement_l0 {r c : Int} {l p : List Int} (h : boardB r c l = true) (hp : (p.length : Int) = r) : ∀ (d i : Nat), p.length - i = d → i ≤ p.length →
    Ev (fun k => impl_Board_isPlacement.l0 k p p (p.length : Int) (i : Int) r c l) (placedF c l p d i) := by
  have hh := (boardB_iff r c l).1 h
  intro d
  induction d with
  | zero =>
    intro i hd hi
    refine ⟨1, fun k hk => ?_⟩
    obtain ⟨k, rfl⟩ : ∃ m, k = m + 1 := ⟨k - 1, by omega⟩
    simp only [impl_Board_isPlacement.l0]
    rw [if_neg (by omega)]
    rfl
  | succ d ih =>
    intro i hd hi
    obtain ⟨K, hK⟩ := ev_get (ih (i + 1) (by omega) (by omega))
    obtain ⟨K2, hK2⟩ := ev_get (Contains_ev (p.take i) (rd p (i : Int)) (by simp; omega))
    refine ⟨K + K2 + 1, fun k hk => ?_⟩
    obtain ⟨k, rfl⟩ : ∃ m, k = m + 1 := ⟨k - 1, by omega⟩
    simp only [impl_Board_isPlacement.l0]
    rw [if_pos (by omega), if_pos (by omega), if_pos (by omega), w64 _ (by omega) (by omega), show ((i : Int) + 1) = ((i + 1 : Nat) : Int) by omega, hK k (by omega), place_eq r c l _ _ (by omega) (by omega), Option.bind_some, show (i : Int).toNat = i by omega, hK2 k (by omega), Option.bind_some, if_pos (show (i : Int) ≤ (p.length : Int) by omega)]
    simp only [placedF]
    split
    · rfl
    have e : placeB r c (i : Int) (rd p (i : Int)) = inB (rd p (i : Int)) 0 (c - 1) := by
      unfold placeB inB
      rw [decide_eq_decide]
      constructor
      · intro hq; exact hq.2
      · intro hq; exact ⟨by omega, hq⟩
    rw [e]
    split
    · rename_i h2
      have h3 : 0 ≤ rd p (i : Int) ∧ rd p (i : Int) ≤ c - 1 := by simpa only [inB, decide_eq_true_eq] using h2
      rw [has_eq h (by omega) (by omega) h3.1 (by omega), Option.bind_some]
      split
      · split <;> rfl
      · rfl
    · rfl
theorem isPlacement_ev {r c : Int} {l : List Int} (p : List Int) (h : boardB r c l = true) : Ev (fun k => impl_Board_isPlacement.f k r c l p) (placedB r c l p) := by
  by_cases hp : (p.length : Int) = r
  · obtain ⟨K, hK⟩ := ev_get (isPlacement_l0 h hp p.length 0 (by omega) (by omega))
    refine ⟨K, fun k hk => ?_⟩
    simp only [impl_Board_isPlacement.f, placedB, if_pos hp]
    exact hK k hk
  · refine ⟨0, fun k hk => ?_⟩
    simp only [impl_Board_isPlacement.f, placedB, if_neg hp]
end Go.Proofs.Ytdoflpghemgbdaa.P
namespace Go.Proofs.Ytdoflpghemgbdaa.P
open Go.RowKit Go.Proofs.YtdoflpghemgbdaaW.PrintWords Go.Proofs.YtdoflpghemgbdaaW.PrintLast Go.Proofs.YtdoflpghemgbdaaW.PrintMore
set_option linter.unusedVariables false
set_option linter.unusedSimpArgs false
theorem hasM_mk' (f : Nat → Bool) : ∀ n, n ≤ 6 → ∀ j, j < n → hasM (mk f n) (j : Int) = f j := by
  have key : ∀ a b c d e g : Bool, ∀ n : Fin 7, ∀ j : Fin 6, j.val < n.val → hasM (mk (fun k => [a, b, c, d, e, g].getD k false) n.val) (j.val : Int) = [a, b, c, d, e, g].getD j.val false := by decide +kernel
  intro n hn j hj
  have h := key (f 0) (f 1) (f 2) (f 3) (f 4) (f 5) ⟨n, by omega⟩ ⟨j, by omega⟩ hj
  have e : ∀ k, k < 6 → [f 0, f 1, f 2, f 3, f 4, f 5].getD k false = f k := by
    intro k hk
    match k, hk with
    | 0, _ => rfl
    | 1, _ => rfl
    | 2, _ => rfl
    | 3, _ => rfl
    | 4, _ => rfl
    | 5, _ => rfl
  have e2 : ∀ m, m ≤ 6 → mk (fun k => [f 0, f 1, f 2, f 3, f 4, f 5].getD k false) m = mk f m := by
    intro m
    induction m with
    | zero => intro _; rfl
    | succ m ih => intro hm; simp only [mk, e m (by omega)]; rw [ih (by omega)]
  simp only at h
  rw [e2 n hn, e j (by omega)] at h
  exact h
theorem colour_has {R C q : Nat} (l : List Int) (hR : R ≤ 6) (hC : C ≤ 6) (hq : q ≤ 1) {i j : Nat} (hi : i < (upN R C q).length) (hj : j < (downN R C q).length) : hasC (colL R C q l) (i : Int) (j : Int) = crossB R C l ((upN R C q).getD i 0) ((downN R C q).getD j 0) := by
  have hlen := lines_len ⟨R, by omega⟩ ⟨C, by omega⟩ ⟨q, by omega⟩
  simp only at hlen
  unfold hasC
  have e : rd (colL R C q l) (i : Int) = mk (fun k => crossB R C l ((upN R C q).getD i 0) ((downN R C q).getD k 0)) (downN R C q).length := by
    rw [rd_nat _ _ (by rw [colL_length]; exact hi)]
    simp [colL, hi, List.getD_eq_getElem?_getD]
  rw [e, hasM_mk' _ _ (by omega) _ hj]
theorem cross_true {R C q : Nat} (l : List Int) (hR : R ≤ 6) (hC : C ≤ 6) (hq : q ≤ 1) {i j : Nat} (hi : i < (upN R C q).length) (hj : j < (downN R C q).length) (h : hasC (colL R C q l) (i : Int) (j : Int) = true) : (crossV R C ((upN R C q).getD i 0) ((downN R C q).getD j 0)).2.2 = true := by
  rw [colour_has l hR hC hq hi hj] at h
  have hx := (cross_ok ⟨R, by omega⟩ ⟨C, by omega⟩ ⟨_, (up_at hR hC hq hi).2⟩ ⟨_, (down_at hR hC hq hj).2⟩).2.1
  simp only at hx
  unfold crossB at h
  rw [hx] at h
  by_cases e : (crossV R C ((upN R C q).getD i 0) ((downN R C q).getD j 0)).2.2 = true
  · exact e
  · rw [if_neg e] at h
    exact absurd h (by simp)
end Go.Proofs.Ytdoflpghemgbdaa.P
namespace Go.Proofs.Ytdoflpghemgbdaa.Pure
open Go.RowKit Go.Proofs.Ytdoflpghemgbdaa.P Go.Proofs.YtdoflpghemgbdaaW.PrintWords Go.Proofs.YtdoflpghemgbdaaW.PrintLast Go.Proofs.YtdoflpghemgbdaaW.Sr
set_option linter.unusedSimpArgs false
set_option linter.unusedVariables false
namespace FnExactBishopsOf
theorem nan_f (x : Int) : cmp_isNaN_int.f x = some false := by unfold cmp_isNaN_int.f; simp
theorem cmp_f (x y : Int) : cmp_Compare_int.f x y = some (if x < y then -1 else if y < x then 1 else 0) := by
  unfold cmp_Compare_int.f
  rw [nan_f, nan_f]
  simp only [Option.bind_some, Bool.false_eq_true, if_false]
  by_cases h1 : x < y
  · rw [if_pos h1, if_pos h1]
  · rw [if_neg h1, if_neg h1]
    by_cases h2 : y < x
    · rw [if_pos h2, if_pos h2]
    · rw [if_neg h2, if_neg h2]
theorem cmpR_drop (a b : List Int) (i : Nat) (h1 : i < a.length) (h2 : i < b.length) : cmpR (a.drop i) (b.drop i) = if rd a (i : Int) < rd b (i : Int) then -1 else if rd b (i : Int) < rd a (i : Int) then 1 else cmpR (a.drop (i + 1)) (b.drop (i + 1)) := by
  rw [List.drop_eq_getElem_cons h1, List.drop_eq_getElem_cons h2, cmpR, rd_nat _ _ h1, rd_nat _ _ h2]
theorem cmp_l0 (a b : List Int) (ha : a.length ≤ 1000) : ∀ (d i : Nat), a.length - i = d → i ≤ a.length → i ≤ b.length → Ev (fun k => slices_Compare_int_int.l0 k a b a (a.length : Int) (i : Int)) (cmpR (a.drop i) (b.drop i)) := by
  intro d
  induction d with
  | zero =>
    intro i hd hi hb
    refine ⟨1, fun k hk => ?_⟩
    obtain ⟨k, rfl⟩ : ∃ m, k = m + 1 := ⟨k - 1, by omega⟩
    dsimp only
    rw [slices_Compare_int_int.l0, if_neg (by omega), List.drop_eq_nil_of_le (by omega)]
    by_cases e : (a.length : Int) < (b.length : Int)
    · rw [if_pos e, List.drop_eq_getElem_cons (show i < b.length by omega)]; rfl
    · rw [if_neg e, List.drop_eq_nil_of_le (by omega)]; rfl
  | succ d ih =>
    intro i hd hi hb
    by_cases e : i < b.length
    · obtain ⟨K, hK⟩ := ev_get (ih (i + 1) (by omega) (by omega) (by omega))
      refine ⟨K + 1, fun k hk => ?_⟩
      obtain ⟨k, rfl⟩ : ∃ m, k = m + 1 := ⟨k - 1, by omega⟩
      have hK' := hK k (by omega)
      dsimp only at hK' ⊢
      rw [slices_Compare_int_int.l0, if_pos (by omega), if_pos (by omega), if_pos (by omega), if_neg (by omega), if_pos (by omega), cmp_f, Option.bind_some, cmpR_drop a b i (by omega) e]
      by_cases h1 : rd a (i : Int) < rd b (i : Int)
      · rw [if_pos h1, if_neg (by omega), if_pos h1]
      · rw [if_neg h1, if_neg h1]
        by_cases h2 : rd b (i : Int) < rd a (i : Int)
        · rw [if_pos h2, if_neg (by omega), if_pos h2]
        · rw [if_neg h2, if_neg h2, if_pos rfl, w64 _ (by omega) (by omega), show (i : Int) + 1 = ((i + 1 : Nat) : Int) by omega]
          exact hK'
    · refine ⟨1, fun k hk => ?_⟩
      obtain ⟨k, rfl⟩ : ∃ m, k = m + 1 := ⟨k - 1, by omega⟩
      dsimp only
      rw [slices_Compare_int_int.l0, if_pos (by omega), if_pos (by omega), if_pos (by omega), if_pos (by omega), List.drop_eq_nil_of_le (show b.length ≤ i by omega), List.drop_eq_getElem_cons (show i < a.length by omega)]
      rfl
theorem cmp_ev (a b : List Int) (ha : a.length ≤ 1000) : Ev (fun k => slices_Compare_int_int.f k a b) (cmpR a b) := cmp_l0 a b ha a.length 0 (by omega) (by omega) (by omega)
theorem ev_all {α : Type} (F : Nat → α → Option Int) (v : α → Int) : ∀ L : List α, (∀ x ∈ L, Ev (fun k => F k x) (v x)) → ∃ K, ∀ k, K ≤ k → ∀ x ∈ L, F k x = some (v x)
  | [], _ => ⟨0, fun _ _ x hx => absurd hx (by simp)⟩
  | x :: L, h => by
    obtain ⟨K1, h1⟩ := ev_get (h x List.mem_cons_self)
    obtain ⟨K2, h2⟩ := ev_all F v L (fun y hy => h y (List.mem_cons_of_mem _ hy))
    refine ⟨K1 + K2, fun k hk y hy => ?_⟩
    rcases List.mem_cons.1 hy with rfl | hy
    · exact h1 k (by omega)
    · exact h2 k (by omega) y hy
theorem okR_ev (rs : List (List Int)) (h : rs.length ≤ 1000) (hr : ∀ x ∈ rs, x.length ≤ 1000) : ∃ K, ∀ k, K ≤ k → impl_BishopsOf.okR k rs := by
  obtain ⟨K0, h0⟩ := ev_get (cmp_ev [] [] (by simp))
  obtain ⟨K1, h1⟩ := ev_all (fun k (p : List Int × List Int) => slices_Compare_int_int.f k p.1 p.2) (fun p => cmpR p.1 p.2) (rs.flatMap fun x => rs.map fun y => (x, y)) (fun p hp => by
    obtain ⟨x, hx, hp⟩ := List.mem_flatMap.1 hp
    obtain ⟨y, hy, rfl⟩ := List.mem_map.1 hp
    exact cmp_ev x y (hr x hx))
  exact ⟨K0 + K1, fun k hk => ⟨h, h0 k (by omega), fun x hx y hy => h1 k (by omega) (x, y) (List.mem_flatMap.2 ⟨x, hx, List.mem_map.2 ⟨y, hy, rfl⟩⟩)⟩⟩
theorem le_two (a b c d : Int) : leR [a, b] [c, d] ↔ ¬ (c < a ∨ (c = a ∧ d < b)) := by
  unfold leR
  simp only [cmpR]
  by_cases h1 : c < a
  · rw [if_pos h1]; simp [h1]
  · rw [if_neg h1]
    by_cases h2 : a < c
    · rw [if_pos h2]; simp; omega
    · rw [if_neg h2]
      by_cases h3 : d < b
      · rw [if_pos h3]; simp; omega
      · rw [if_neg h3]
        by_cases h4 : b < d
        · rw [if_pos h4]; simp; omega
        · rw [if_neg h4]; simp; omega
theorem ins_take (x : List Int) : ∀ (L : List (List Int)) (i : Nat), i ≤ L.length → (∀ y ∈ L.take i, ¬ leR x y) → insR x L = L.take i ++ insR x (L.drop i)
  | L, 0, _, _ => by simp
  | [], i + 1, h, _ => by simp at h
  | y :: L, i + 1, h, hy => by
    rw [insR, if_neg (hy y (by simp)), ins_take x L i (by simpa using h) (fun z hz => hy z (by simp [hz]))]
    simp
theorem sorted_l0 (a b : Int) (L : List (List Int)) (hL : L.length ≤ 1000) (h2 : ∀ y ∈ L, ∃ c d : Int, y = [c, d]) : ∀ (d i : Nat), L.length - i = d → i ≤ L.length → (∀ y ∈ L.take i, ¬ leR [a, b] y) → Ev (fun k => spec_biSorted.l0 k L [a, b] (i : Int)) (insR [a, b] L) := by
  intro d
  induction d with
  | zero =>
    intro i hd hi ht
    refine ⟨1, fun k hk => ?_⟩
    obtain ⟨k, rfl⟩ : ∃ m, k = m + 1 := ⟨k - 1, by omega⟩
    dsimp only
    have e1 : (L.take i).length = i := by rw [List.length_take]; omega
    rw [spec_biSorted.l0, if_neg (by omega), Option.bind_some, if_pos (by omega), if_pos (by omega), Int.toNat_natCast, Option.bind_some, List.nil_append, if_pos (by rw [List.length_nil, e1]; omega), Option.bind_some, if_pos (by omega), Option.bind_some, Option.bind_some, if_pos (by rw [List.length_append, List.length_drop, e1, List.length_singleton]; omega), ins_take _ L i hi ht, List.drop_eq_nil_of_le (by omega)]
    rw [insR, List.append_nil]
  | succ d ih =>
    intro i hd hi ht
    obtain ⟨c, d', hy⟩ := h2 _ (List.getElem_mem (show i < L.length by omega))
    have hrow : rd_L2 L (i : Int) = [c, d'] := by
      rw [← hy]; simp [rd_L2, List.getD_eq_getElem?_getD, show i < L.length by omega]
    have e1 : (L.take i).length = i := by rw [List.length_take]; omega
    have hstop : leR [a, b] [c, d'] → insR [a, b] L = L.take i ++ [[a, b]] ++ L.drop i := fun hle => by
      rw [ins_take _ L i hi ht, List.drop_eq_getElem_cons (show i < L.length by omega), hy, insR, if_pos hle]
      simp
    have hnext : ¬ leR [a, b] [c, d'] → Ev (fun k => spec_biSorted.l0 k L [a, b] ((i + 1 : Nat) : Int)) (insR [a, b] L) := fun hle => ih (i + 1) (by omega) (by omega) (fun y hy2 => by
      rw [List.take_add_one, List.getElem?_eq_getElem (show i < L.length by omega), hy] at hy2
      rcases List.mem_append.1 hy2 with h | h
      · exact ht y h
      · have : y = [c, d'] := by simpa using h
        rw [this]; exact hle)
    have el : (([a, b] : List Int).length : Int) = 2 := rfl
    have el2 : (([c, d'] : List Int).length : Int) = 2 := rfl
    have r0 : rd [c, d'] 0 = c := rd0 c d'
    have r1 : rd [c, d'] 1 = d' := rd1 c d'
    have r2 : rd [a, b] 0 = a := rd0 a b
    have r3 : rd [a, b] 1 = b := rd1 a b
    have e4 : (L.take i ++ [[a, b]]).length + (L.drop i).length < 5864062014805 := by rw [List.length_append, List.length_drop, e1, List.length_singleton]; omega
    by_cases hle : leR [a, b] [c, d']
    · have hl2 := (le_two a b c d').1 hle
      rw [hstop hle]
      refine ⟨1, fun k hk => ?_⟩
      obtain ⟨k, rfl⟩ : ∃ m, k = m + 1 := ⟨k - 1, by omega⟩
      dsimp only
      rw [spec_biSorted.l0, if_pos (by omega), if_pos (by omega), hrow, el, el2, if_pos (by omega), if_pos (by omega), r0, r1, r2, r3, if_neg (by omega)]
      by_cases hca : c = a
      · rw [if_pos hca, if_pos (by omega), if_pos (by omega), if_neg (by omega), Option.bind_some, if_pos (by omega), Int.toNat_natCast, Option.bind_some, List.nil_append, if_pos (by rw [List.length_nil, e1]; omega), Option.bind_some, if_pos (by omega), Option.bind_some, Option.bind_some, if_pos e4]
      · rw [if_neg hca, Option.bind_some, if_pos (by omega), Int.toNat_natCast, Option.bind_some, List.nil_append, if_pos (by rw [List.length_nil, e1]; omega), Option.bind_some, if_pos (by omega), Option.bind_some, Option.bind_some, if_pos e4]
    · obtain ⟨K, hK⟩ := ev_get (hnext hle)
      have hl2 : c < a ∨ (c = a ∧ d' < b) := Classical.byContradiction (fun h => hle ((le_two a b c d').2 h))
      refine ⟨K + 1, fun k hk => ?_⟩
      obtain ⟨k, rfl⟩ : ∃ m, k = m + 1 := ⟨k - 1, by omega⟩
      have hK' := hK k (by omega)
      dsimp only at hK' ⊢
      rw [spec_biSorted.l0, if_pos (by omega), if_pos (by omega), hrow, el, el2, if_pos (by omega), if_pos (by omega), r0, r1, r2, r3, w64 _ (by omega) (by omega), show (i : Int) + 1 = ((i + 1 : Nat) : Int) by omega]
      by_cases h1 : c < a
      · rw [if_pos h1]; exact hK'
      · rw [if_neg h1, if_pos (by omega), if_pos (by omega), if_pos (by omega), if_pos (by omega)]; exact hK'
theorem sorted_ev (a b : Int) (L : List (List Int)) (hL : L.length ≤ 1000) (h2 : ∀ y ∈ L, ∃ c d : Int, y = [c, d]) : Ev (fun k => spec_biSorted.f k L [a, b]) (insR [a, b] L) := sorted_l0 a b L hL h2 L.length 0 (by omega) (by omega) (by simp)
def rowAt (R C q i : Nat) (c : Int) : List Int := [(crossV R C ((upN R C q).getD i 0) ((downN R C q).getD c.toNat 0)).1, (crossV R C ((upN R C q).getD i 0) ((downN R C q).getD c.toNat 0)).2.1]
def rowsOf (R C q : Nat) : Nat → List Int → List (List Int)
  | _, [] => []
  | i, c :: p => if c = -1 then rowsOf R C q (i + 1) p else rowAt R C q i c :: rowsOf R C q (i + 1) p
theorem rowsOf_len (R C q : Nat) : ∀ (p : List Int) (i : Nat), (rowsOf R C q i p).length ≤ p.length
  | [], _ => Nat.le_refl _
  | c :: p, i => by
    have := rowsOf_len R C q p (i + 1)
    rw [rowsOf]
    split <;> simp only [List.length_cons] <;> omega
theorem rowsOf_two (R C q : Nat) : ∀ (p : List Int) (i : Nat), ∀ y ∈ rowsOf R C q i p, ∃ c d : Int, y = [c, d]
  | [], _, y, h => by simp [rowsOf] at h
  | c :: p, i, y, h => by
    rw [rowsOf] at h
    split at h
    · exact rowsOf_two R C q p (i + 1) y h
    · rcases List.mem_cons.1 h with rfl | h
      · exact ⟨_, _, rfl⟩
      · exact rowsOf_two R C q p (i + 1) y h
theorem rowsOf_drop (R C q : Nat) (p : List Int) (i : Nat) (h : i < p.length) : rowsOf R C q i (p.drop i) = if rd p (i : Int) = -1 then rowsOf R C q (i + 1) (p.drop (i + 1)) else rowAt R C q i (rd p (i : Int)) :: rowsOf R C q (i + 1) (p.drop (i + 1)) := by
  rw [List.drop_eq_getElem_cons h, rowsOf, rd_nat _ _ h]
theorem placed_in (c : Int) (l p : List Int) : ∀ (d i : Nat), placedF c l p d i = true → p.length - i = d → ∀ j, i ≤ j → j < p.length → rd p (j : Int) = -1 ∨ (inB (rd p (j : Int)) 0 (c - 1) = true ∧ hasC l (j : Int) (rd p (j : Int)) = true)
  | 0, i, _, hd, j, h1, h2 => by omega
  | d + 1, i, h, hd, j, h1, h2 => by
    rw [placedF] at h
    by_cases e : j = i
    · subst e
      by_cases h3 : rd p (j : Int) = -1
      · exact .inl h3
      · rw [if_neg h3] at h
        by_cases h4 : inB (rd p (j : Int)) 0 (c - 1) = true
        · rw [if_pos h4] at h
          by_cases h5 : hasC l (j : Int) (rd p (j : Int)) = true
          · exact .inr ⟨h4, h5⟩
          · rw [if_neg h5] at h; cases h
        · rw [if_neg h4] at h; cases h
    · have h6 : placedF c l p d (i + 1) = true := by
        by_cases h3 : rd p (i : Int) = -1
        · rw [if_pos h3] at h; exact h
        · rw [if_neg h3] at h
          split at h
          · split at h
            · split at h
              · cases h
              · exact h
            · cases h
          · cases h
      exact placed_in c l p d (i + 1) h6 (by omega) j (by omega) h2
def R (r c : Int) (l : List Int) (q : Int) (p : List Int) : List (List Int) × Bool :=
  if boardB r c l = true ∧ inB q 0 1 = true ∧ (upN r.toNat c.toNat q.toNat).length ≠ 0 ∧ placedB ((upN r.toNat c.toNat q.toNat).length : Int) ((downN r.toNat c.toNat q.toNat).length : Int) (colL r.toNat c.toNat q.toNat l) p = true then (sortR (rowsOf r.toNat c.toNat q.toNat 0 p), true) else ([], false)
theorem cell_at {R' C' q' : Nat} (hR : R' ≤ 6) (hC : C' ≤ 6) (hQ : q' ≤ 1) (l : List Int) {i j : Nat} (hi : i < (upN R' C' q').length) (hj : j < (downN R' C' q').length) (h3 : hasC (colL R' C' q' l) (i : Int) (j : Int) = true) :
    Ev (fun k => spec_biCell.f k (R' : Int) (C' : Int) l (q' : Int) (i : Int) (j : Int)) ((crossV R' C' ((upN R' C' q').getD i 0) ((downN R' C' q').getD j 0)).1, (crossV R' C' ((upN R' C' q').getD i 0) ((downN R' C' q').getD j 0)).2.1, true) := by
  have hlen := lines_len ⟨R', by omega⟩ ⟨C', by omega⟩ ⟨q', by omega⟩
  simp only at hlen
  obtain ⟨KL, hL⟩ := ev_get (lines_ev R' C' q' hR hC hQ l)
  obtain ⟨u1, u2⟩ := up_at hR hC hQ (i := i) hi
  obtain ⟨d1, d2⟩ := down_at hR hC hQ (i := j) hj
  have hc := cell_ok ⟨R', by omega⟩ ⟨C', by omega⟩ ⟨_, u2⟩ ⟨_, d2⟩
  simp only at hc
  have ht := cross_true l hR hC hQ (i := i) (j := j) hi hj h3
  rw [if_pos ht] at hc
  have hi1 : inB (i : Int) 0 (((upN R' C' q').length : Int) - 1) = true := by simp [inB]; omega
  have hj1 : inB (j : Int) 0 (((downN R' C' q').length : Int) - 1) = true := by simp [inB]; omega
  refine ⟨KL + 1, fun k hk => ?_⟩
  obtain ⟨k, rfl⟩ : ∃ m, k = m + 1 := ⟨k - 1, by omega⟩
  simp only [spec_biCell.f, hL (k + 1) (by omega), Option.bind_some, upL_length, downL_length, w64 (((upN R' C' q').length : Int) - 1) (by omega) (by omega), w64 (((downN R' C' q').length : Int) - 1) (by omega) (by omega), l1In_eq, hi1, hj1, if_true, Bool.not_true]
  rw [cell_j0 k _ _ _ _ _ _ l (by omega) (by rw [upL_length]; omega) (by omega) (by rw [downL_length]; omega), u1, d1, hc]
theorem spec_step (k : Nat) (q : Int) (out : List (List Int)) (p : List Int) (n i r c : Int) (l : List Int) (j a b : Int) (t : Bool) (L : List (List Int)) (h1 : i < n) (h2 : 0 ≤ i) (h3 : i < (p.length : Int)) (hj : rd p i = j) (h4 : 0 ≤ j) (hc : spec_biCell.f k r c l q i j = some (a, b, t)) (hs : spec_biSorted.f k out [a, b] = some L) :
    spec_BishopsOf.l0 (k + 1) q out p n i r c l = spec_BishopsOf.l0 k q L p n (wrap64 (i + 1)) r c l := by
  rw [spec_BishopsOf.l0, if_pos h1, if_pos h2, if_pos h3, hj, if_pos h4, hc, Option.bind_some]
  dsimp only
  rw [hs, Option.bind_some]
theorem spec_skip (k : Nat) (q : Int) (out : List (List Int)) (p : List Int) (n i r c : Int) (l : List Int) (h1 : i < n) (h2 : 0 ≤ i) (h3 : i < (p.length : Int)) (h4 : rd p i = -1) :
    spec_BishopsOf.l0 (k + 1) q out p n i r c l = spec_BishopsOf.l0 k q out p n (wrap64 (i + 1)) r c l := by
  rw [spec_BishopsOf.l0, if_pos h1, if_pos h2, if_pos h3, h4, if_neg (by omega)]
theorem next64 {i : Nat} {n : Nat} (h : i < n) (hn : n ≤ 1000) : wrap64 ((i : Int) + 1) = ((i + 1 : Nat) : Int) := by rw [w64 _ (by omega) (by omega)]; omega
section
variable {R' C' q' : Nat} {l p : List Int} (h : boardB (R' : Int) (C' : Int) l = true) (hR : R' ≤ 6) (hC : C' ≤ 6) (hQ : q' ≤ 1) (hp : placedB ((upN R' C' q').length : Int) ((downN R' C' q').length : Int) (colL R' C' q' l) p = true)
include hR hC hQ hp
omit hR hC hQ in
theorem placed_at {i : Nat} (hi : i < p.length) : p.length = (upN R' C' q').length ∧ (rd p (i : Int) = -1 ∨ ∃ j : Nat, rd p (i : Int) = (j : Int) ∧ j < (downN R' C' q').length ∧ hasC (colL R' C' q' l) (i : Int) (j : Int) = true) := by
  unfold placedB at hp
  by_cases hl : (p.length : Int) = ((upN R' C' q').length : Int)
  · rw [if_pos hl] at hp
    refine ⟨by omega, ?_⟩
    rcases placed_in _ _ p p.length 0 hp (by omega) i (by omega) hi with h1 | ⟨h1, h2⟩
    · exact .inl h1
    · have h3 : 0 ≤ rd p (i : Int) ∧ rd p (i : Int) ≤ ((downN R' C' q').length : Int) - 1 := by simpa [inB] using h1
      refine .inr ⟨(rd p (i : Int)).toNat, by omega, by omega, ?_⟩
      rw [show (((rd p (i : Int)).toNat : Nat) : Int) = rd p (i : Int) by omega]; exact h2
  · rw [if_neg hl] at hp; cases hp
theorem implL (U D : List Int) (hU : U = upL R' C' q') (hD : D = downL R' C' q') : ∀ (d i : Nat) (out : List (List Int)), p.length - i = d → i ≤ p.length → out.length ≤ i → Ev (fun k => impl_BishopsOf.l0 k U D out p (p.length : Int) (i : Int) (R' : Int) (C' : Int) l) (out ++ rowsOf R' C' q' i (p.drop i), true) := by
  have hlen := lines_len ⟨R', by omega⟩ ⟨C', by omega⟩ ⟨q', by omega⟩
  simp only at hlen
  intro d
  induction d with
  | zero =>
    intro i out hd hi ho
    refine ⟨1, fun k hk => ?_⟩
    obtain ⟨k, rfl⟩ : ∃ m, k = m + 1 := ⟨k - 1, by omega⟩
    dsimp only
    rw [impl_BishopsOf.l0, if_neg (by omega), List.drop_eq_nil_of_le (by omega), rowsOf, List.append_nil]
  | succ d ih =>
    intro i out hd hi ho
    have hlt : i < p.length := by omega
    obtain ⟨hpl, hat⟩ := placed_at hp hlt
    rw [rowsOf_drop _ _ _ p i hlt]
    rcases hat with h1 | ⟨j, h1, h2, h3⟩
    · obtain ⟨K, hK⟩ := ev_get (ih (i + 1) out (by omega) (by omega) (by omega))
      refine ⟨K + 1, fun k hk => ?_⟩
      obtain ⟨k, rfl⟩ : ∃ m, k = m + 1 := ⟨k - 1, by omega⟩
      have hK' := hK k (by omega)
      dsimp only at hK' ⊢
      rw [impl_BishopsOf.l0, if_pos (by omega), if_pos (by omega), if_pos (by omega), if_pos h1, if_pos h1, w64 _ (by omega) (by omega), show (i : Int) + 1 = ((i + 1 : Nat) : Int) by omega]
      exact hK'
    · rw [h1, if_neg (show ¬ ((j : Int) = -1) by omega)]
      obtain ⟨K, hK⟩ := ev_get (ih (i + 1) (out ++ [rowAt R' C' q' i (j : Int)]) (by omega) (by omega) (by rw [List.length_append, List.length_singleton]; omega))
      obtain ⟨u1, u2⟩ := up_at hR hC hQ (i := i) (by omega)
      obtain ⟨d1, d2⟩ := down_at hR hC hQ (i := j) h2
      have hx := cross_eq hR hC u2 d2 l
      refine ⟨K + 1, fun k hk => ?_⟩
      obtain ⟨k, rfl⟩ : ∃ m, k = m + 1 := ⟨k - 1, by omega⟩
      have hK' := hK k (by omega)
      dsimp only at hK' ⊢
      rw [impl_BishopsOf.l0, if_pos (by omega), if_pos (by omega), if_pos (by omega), h1, if_neg (by omega), if_pos (by rw [hU, upL_length]; omega), if_pos (by omega), if_pos (by rw [hD, downL_length]; omega), hU, hD, u1, d1, hx, Option.bind_some, if_pos (by omega), w64 _ (by omega) (by omega), show (i : Int) + 1 = ((i + 1 : Nat) : Int) by omega, ← hU, ← hD]
      rw [List.append_assoc] at hK'
      exact hK'
theorem placed_len : p.length ≤ 6 := by
  have hlen := lines_len ⟨R', by omega⟩ ⟨C', by omega⟩ ⟨q', by omega⟩
  simp only at hlen
  unfold placedB at hp
  by_cases e : (p.length : Int) = ((upN R' C' q').length : Int)
  · have := hlen.1; omega
  · rw [if_neg e] at hp; cases hp
theorem specL : ∀ (d i : Nat) (out : List (List Int)), p.length - i = d → i ≤ p.length → out.length ≤ i → (∀ y ∈ out, ∃ c d : Int, y = [c, d]) → Ev (fun k => spec_BishopsOf.l0 k (q' : Int) out p (p.length : Int) (i : Int) (R' : Int) (C' : Int) l) ((rowsOf R' C' q' i (p.drop i)).foldl (fun L x => insR x L) out, true) := by
  have hp6 := placed_len hR hC hQ hp
  intro d
  induction d with
  | zero =>
    intro i out hd hi ho h2
    refine ⟨1, fun k hk => ?_⟩
    obtain ⟨k, rfl⟩ : ∃ m, k = m + 1 := ⟨k - 1, by omega⟩
    dsimp only
    rw [spec_BishopsOf.l0, if_neg (by omega), List.drop_eq_nil_of_le (by omega), rowsOf, List.foldl_nil]
  | succ d ih =>
    intro i out hd hi ho h2
    have hlt : i < p.length := by omega
    obtain ⟨hpl, hat⟩ := placed_at hp hlt
    have hn := next64 hlt (Nat.le_trans hp6 (by decide))
    have g1 : (i : Int) < (p.length : Int) := Int.ofNat_lt.mpr hlt
    have g2 : 0 ≤ (i : Int) := Int.natCast_nonneg _
    have ht := rowsOf_drop R' C' q' p i hlt
    rcases hat with h1 | ⟨j, h1, h2', h3⟩
    · rw [if_pos h1] at ht
      obtain ⟨K, hK⟩ := ev_get (ih (i + 1) out (by omega) (by omega) (by omega) h2)
      rw [ht]
      refine ⟨K + 1, fun k hk => ?_⟩
      obtain ⟨k, rfl⟩ : ∃ m, k = m + 1 := ⟨k - 1, by omega⟩
      show spec_BishopsOf.l0 (k + 1) (q' : Int) out p (p.length : Int) (i : Int) (R' : Int) (C' : Int) l = _
      rw [spec_skip k _ _ _ _ _ _ _ _ g1 g2 g1 h1, hn]
      exact hK k (by omega)
    · rw [h1, if_neg (Int.ne_of_gt (Int.lt_of_lt_of_le (by decide) (Int.natCast_nonneg j)))] at ht
      obtain ⟨a, b, hrow⟩ : ∃ a b, rowAt R' C' q' i (j : Int) = [a, b] ∧ (crossV R' C' ((upN R' C' q').getD i 0) ((downN R' C' q').getD j 0)).1 = a ∧ (crossV R' C' ((upN R' C' q').getD i 0) ((downN R' C' q').getD j 0)).2.1 = b := ⟨_, _, by unfold rowAt; rw [Int.toNat_natCast], rfl, rfl⟩
      have hins : (insR [a, b] out).length = out.length + 1 := by rw [(insR_perm _ out).length_eq, List.length_cons]
      have h2n : ∀ y ∈ insR [a, b] out, ∃ c d : Int, y = [c, d] := fun y hy => by
        rcases List.mem_cons.1 ((insR_perm _ out).mem_iff.1 hy) with rfl | hy
        · exact ⟨_, _, rfl⟩
        · exact h2 y hy
      have hce := cell_at hR hC hQ l (i := i) (j := j) (hpl ▸ hlt) h2' h3
      rw [hrow.2.1, hrow.2.2] at hce
      rw [hrow.1] at ht
      rw [ht, List.foldl_cons]
      obtain ⟨K, hK⟩ := ev_get (ih (i + 1) (insR [a, b] out) (by omega) (by omega) (by omega) h2n)
      obtain ⟨K2, hK2⟩ := ev_get (sorted_ev a b out (by omega) h2)
      obtain ⟨KL, hKL⟩ := ev_get hce
      have g4 : 0 ≤ (j : Int) := Int.natCast_nonneg _
      refine ⟨K + K2 + KL + 1, fun k hk => ?_⟩
      obtain ⟨k, rfl⟩ : ∃ m, k = m + 1 := ⟨k - 1, by omega⟩
      show spec_BishopsOf.l0 (k + 1) (q' : Int) out p (p.length : Int) (i : Int) (R' : Int) (C' : Int) l = _
      rw [spec_step k _ _ _ _ _ _ _ _ _ _ _ _ _ g1 g2 g1 h1 g4 (hKL k (by omega)) (hK2 k (by omega)), hn]
      exact hK k (by omega)
end
theorem fold_sort : ∀ (rs L : List (List Int)), L.Pairwise leR → (rs.foldl (fun L x => insR x L) L).Pairwise leR ∧ (rs.foldl (fun L x => insR x L) L).Perm (rs ++ L)
  | [], L, h => ⟨h, .refl _⟩
  | x :: rs, L, h => by
    obtain ⟨h1, h2⟩ := fold_sort rs (insR x L) (insR_sorted x L h)
    refine ⟨h1, h2.trans ?_⟩
    exact ((insR_perm x L).append_left rs).trans List.perm_middle
theorem fold_eq (rs : List (List Int)) : rs.foldl (fun L x => insR x L) [] = sortR rs := by
  obtain ⟨h1, h2⟩ := fold_sort rs [] List.Pairwise.nil
  rw [List.append_nil] at h2
  exact sorted_eq _ _ h1 (sortR_sorted rs) (h2.trans (sortR_perm rs).symm)
theorem impl_ev (r c : Int) (l : List Int) (q : Int) (p : List Int) : Ev (fun k => impl_BishopsOf.f k r c l q p) (R r c l q p) := by
  obtain ⟨K0, h0⟩ := okR_ev [] (by simp) (by simp)
  have none_ : ∀ k, K0 + 1 ≤ k → ∀ q p r c l, impl_BishopsOf.f0 k r c l q p = some ([], false) → impl_BishopsOf.f k r c l q p = some ([], false) := fun k hk q p r c l hf => by
    unfold impl_BishopsOf.f
    rw [hf, Option.bind_some]
    dsimp only
    rw [if_pos (h0 k (by omega))]; rfl
  by_cases h : boardB r c l = true
  · by_cases hq : inB q 0 1 = true
    · obtain ⟨R', C', q', rfl, rfl, rfl, hR, hC, hQ⟩ := col_nat h hq
      obtain ⟨K1, h1⟩ := ev_get (coloured_ev h hR hC hQ)
      unfold R
      unfold colR at h1
      simp only [h, hq, Int.toNat_natCast, true_and]
      by_cases hn : (upN R' C' q').length = 0
      · rw [if_pos hn] at h1
        rw [if_neg (fun hh => hh.1 hn)]
        refine ⟨K0 + K1 + 1, fun k hk => none_ k (by omega) _ _ _ _ _ ?_⟩
        obtain ⟨k, rfl⟩ : ∃ m, k = m + 1 := ⟨k - 1, by omega⟩
        simp only [impl_BishopsOf.f0, impl_ColourBoard.f, impl_IsBoard.f, impl_isColour.f, Option.bind_some, h, hq, within_eq, if_true, h1 (k + 1) (by omega), Bool.false_eq_true, if_false, impl_BishopsOf.j0]
      · rw [if_neg hn] at h1
        obtain ⟨K2, h2⟩ := ev_get (isPlacement_ev p (colL_board l hR hC hQ hn))
        by_cases hp : placedB ((upN R' C' q').length : Int) ((downN R' C' q').length : Int) (colL R' C' q' l) p = true
        · rw [if_pos ⟨hn, hp⟩]
          rw [hp] at h2
          obtain ⟨K3, h3⟩ := ev_get (diag_ev R' C' q' hR hC hQ l)
          obtain ⟨K4, h4⟩ := ev_get (implL hR hC hQ hp (upL R' C' q') (downL R' C' q') rfl rfl p.length 0 [] (by omega) (by omega) (by simp))
          have hpl : p.length ≤ 1000 := by
            unfold placedB at hp
            have hlen := lines_len ⟨R', by omega⟩ ⟨C', by omega⟩ ⟨q', by omega⟩
            simp only at hlen
            by_cases e : (p.length : Int) = ((upN R' C' q').length : Int)
            · omega
            · rw [if_neg e] at hp; cases hp
          have hrl := rowsOf_len R' C' q' p 0
          obtain ⟨K5, h5⟩ := okR_ev (rowsOf R' C' q' 0 p) (by omega) (fun x hx => by obtain ⟨a, b, rfl⟩ := rowsOf_two R' C' q' p 0 x hx; simp)
          refine ⟨K1 + K2 + K3 + K4 + K5 + 1, fun k hk => ?_⟩
          obtain ⟨k, rfl⟩ : ∃ m, k = m + 1 := ⟨k - 1, by omega⟩
          have h4' := h4 k (by omega)
          rw [List.drop_zero, List.nil_append] at h4'
          have hf : impl_BishopsOf.f0 (k + 1) (R' : Int) (C' : Int) l (q' : Int) p = some (rowsOf R' C' q' 0 p, true) := by
            simp only [impl_BishopsOf.f0, impl_ColourBoard.f, impl_IsBoard.f, impl_isColour.f, Option.bind_some, h, hq, within_eq, if_true, h1 (k + 1) (by omega), h2 (k + 1) (by omega), Bool.not_true, impl_BishopsOf.j0, Bool.false_eq_true, if_false, h3 k (by omega)]
            exact h4'
          show impl_BishopsOf.f (k + 1) (R' : Int) (C' : Int) l (q' : Int) p = _
          unfold impl_BishopsOf.f
          rw [hf, Option.bind_some]
          exact if_pos (h5 (k + 1) (by omega))
        · rw [if_neg (fun hh => hp hh.2)]
          simp only [Bool.not_eq_true] at hp
          rw [hp] at h2
          refine ⟨K0 + K1 + K2 + 1, fun k hk => none_ k (by omega) _ _ _ _ _ ?_⟩
          obtain ⟨k, rfl⟩ : ∃ m, k = m + 1 := ⟨k - 1, by omega⟩
          simp only [impl_BishopsOf.f0, impl_ColourBoard.f, impl_IsBoard.f, impl_isColour.f, Option.bind_some, h, hq, within_eq, if_true, h1 (k + 1) (by omega), h2 (k + 1) (by omega), Bool.not_false, impl_BishopsOf.j0]
    · unfold R
      rw [if_neg (fun hh => hq hh.2.1)]
      simp only [Bool.not_eq_true] at hq
      refine ⟨K0 + 1, fun k hk => none_ k (by omega) _ _ _ _ _ ?_⟩
      obtain ⟨k, rfl⟩ : ∃ m, k = m + 1 := ⟨k - 1, by omega⟩
      simp only [impl_BishopsOf.f0, impl_ColourBoard.f, impl_IsBoard.f, impl_isColour.f, Option.bind_some, h, hq, within_eq, if_true, Bool.false_eq_true, if_false, impl_BishopsOf.j0]
  · unfold R
    rw [if_neg (fun hh => h hh.1)]
    simp only [Bool.not_eq_true] at h
    refine ⟨K0 + 1, fun k hk => none_ k (by omega) _ _ _ _ _ ?_⟩
    obtain ⟨k, rfl⟩ : ∃ m, k = m + 1 := ⟨k - 1, by omega⟩
    simp only [impl_BishopsOf.f0, impl_ColourBoard.f, impl_IsBoard.f, Option.bind_some, h, Bool.false_eq_true, if_false, if_true, impl_BishopsOf.j0]
theorem spec_ev (r c : Int) (l : List Int) (q : Int) (p : List Int) (hl : l.length ≤ 1152921504606846976) : Ev (fun k => spec_BishopsOf.f k r c l q p) (R r c l q p) := by
  obtain ⟨K0, h0⟩ := ev_get (boGood_ev r c l hl)
  by_cases h : boardB r c l = true
  · by_cases hq : inB q 0 1 = true
    · obtain ⟨R', C', q', rfl, rfl, rfl, hR, hC, hQ⟩ := col_nat h hq
      have hlen := lines_len ⟨R', by omega⟩ ⟨C', by omega⟩ ⟨q', by omega⟩
      simp only at hlen
      obtain ⟨K1, h1⟩ := ev_get (biBoard_ev h hR hC hQ)
      obtain ⟨K2, h2⟩ := ev_get (boGood_ev ((upN R' C' q').length : Int) ((downN R' C' q').length : Int) (colL R' C' q' l) (by rw [colL_length]; omega))
      unfold R
      simp only [h, hq, Int.toNat_natCast, true_and]
      by_cases hn : (upN R' C' q').length = 0
      · have hb0 : boardB ((upN R' C' q').length : Int) ((downN R' C' q').length : Int) (colL R' C' q' l) = false := by
          rw [Bool.eq_false_iff]
          intro hb
          have := (boardB_iff _ _ _).1 hb
          omega
        rw [hb0] at h2
        rw [if_neg (fun hh => hh.1 hn)]
        refine ⟨K0 + K1 + K2 + 1, fun k hk => ?_⟩
        obtain ⟨k, rfl⟩ : ∃ m, k = m + 1 := ⟨k - 1, by omega⟩
        simp only [spec_BishopsOf.f, h0 (k + 1) (by omega), spec_biColour.f, l1In_eq, Option.bind_some, h, hq, if_true, h1 (k + 1) (by omega), h2 (k + 1) (by omega), Bool.false_eq_true, if_false, spec_BishopsOf.j0]
      · have hb1 := colL_board l hR hC hQ hn
        rw [hb1] at h2
        obtain ⟨K3, h3⟩ := ev_get (roGood_ev p hb1)
        by_cases hp : placedB ((upN R' C' q').length : Int) ((downN R' C' q').length : Int) (colL R' C' q' l) p = true
        · rw [if_pos ⟨hn, hp⟩]
          rw [hp] at h3
          obtain ⟨K4, h4⟩ := ev_get (specL hR hC hQ hp p.length 0 [] (by omega) (by omega) (by simp) (by simp))
          refine ⟨K0 + K1 + K2 + K3 + K4 + 1, fun k hk => ?_⟩
          obtain ⟨k, rfl⟩ : ∃ m, k = m + 1 := ⟨k - 1, by omega⟩
          have h4' := h4 k (by omega)
          rw [List.drop_zero, fold_eq] at h4'
          simp only [spec_BishopsOf.f, h0 (k + 1) (by omega), spec_biColour.f, l1In_eq, Option.bind_some, h, hq, if_true, h1 (k + 1) (by omega), h2 (k + 1) (by omega), h3 (k + 1) (by omega), Bool.not_true, spec_BishopsOf.j0, Bool.false_eq_true, if_false]
          exact h4'
        · rw [if_neg (fun hh => hp hh.2)]
          simp only [Bool.not_eq_true] at hp
          rw [hp] at h3
          refine ⟨K0 + K1 + K2 + K3 + 1, fun k hk => ?_⟩
          obtain ⟨k, rfl⟩ : ∃ m, k = m + 1 := ⟨k - 1, by omega⟩
          simp only [spec_BishopsOf.f, h0 (k + 1) (by omega), spec_biColour.f, l1In_eq, Option.bind_some, h, hq, if_true, h1 (k + 1) (by omega), h2 (k + 1) (by omega), h3 (k + 1) (by omega), Bool.not_false, spec_BishopsOf.j0]
    · unfold R
      rw [if_neg (fun hh => hq hh.2.1)]
      simp only [Bool.not_eq_true] at hq
      refine ⟨K0 + 1, fun k hk => ?_⟩
      obtain ⟨k, rfl⟩ : ∃ m, k = m + 1 := ⟨k - 1, by omega⟩
      simp only [spec_BishopsOf.f, h0 (k + 1) (by omega), spec_biColour.f, l1In_eq, Option.bind_some, h, hq, if_true, Bool.false_eq_true, if_false, spec_BishopsOf.j0]
  · unfold R
    rw [if_neg (fun hh => h hh.1)]
    simp only [Bool.not_eq_true] at h
    refine ⟨K0 + 1, fun k hk => ?_⟩
    obtain ⟨k, rfl⟩ : ∃ m, k = m + 1 := ⟨k - 1, by omega⟩
    simp only [spec_BishopsOf.f, h0 (k + 1) (by omega), Option.bind_some, h, Bool.false_eq_true, if_false, if_true, spec_BishopsOf.j0]
theorem R_small (r c : Int) (l : List Int) (q : Int) (p : List Int) : (R r c l q p).1.length ≤ 6 ∧ ∀ x ∈ (R r c l q p).1, x.length ≤ 2 := by
  unfold R
  by_cases h : boardB r c l = true ∧ inB q 0 1 = true ∧ (upN r.toNat c.toNat q.toNat).length ≠ 0 ∧ placedB ((upN r.toNat c.toNat q.toNat).length : Int) ((downN r.toNat c.toNat q.toNat).length : Int) (colL r.toNat c.toNat q.toNat l) p = true
  · rw [if_pos h]
    obtain ⟨h1, h2, h3, h4⟩ := h
    obtain ⟨R', C', q', rfl, rfl, rfl, hR, hC, hQ⟩ := col_nat h1 h2
    have hlen := lines_len ⟨R', by omega⟩ ⟨C', by omega⟩ ⟨q', by omega⟩
    simp only at hlen
    simp only [Int.toNat_natCast] at h4 ⊢
    have hrl := rowsOf_len R' C' q' p 0
    have hpl : p.length ≤ 6 := by
      unfold placedB at h4
      by_cases e : (p.length : Int) = ((upN R' C' q').length : Int)
      · omega
      · rw [if_neg e] at h4; cases h4
    refine ⟨by rw [(sortR_perm _).length_eq]; omega, fun x hx => ?_⟩
    obtain ⟨a, b, rfl⟩ := rowsOf_two R' C' q' p 0 x ((sortR_perm _).mem_iff.1 hx)
    simp
  · rw [if_neg h]; simp
end FnExactBishopsOf
open FnExactBishopsOf in
theorem FnExactBishopsOf : laws_FnExactBishopsOf.Pure := by
  intro a0_0 a0_1 l0_2 a1 l2 hy0 hy1 hy2 hy3 hy4
  have hl_l0_2 := hy2.1
  simp only [maxLen] at hl_l0_2
  by_cases hb2 : 1048576 < (l2.length : Int)
  · refine ⟨0, ?_⟩
    unfold laws_FnExactBishopsOf.f
    rw [if_pos hb2]
  have hsz := szBoard_eq a0_0 a0_1 l0_2 ((1048576 : Int)) (by omega) (by omega) (by simp only [maxLen]; omega)
  by_cases hb_l0_2 : (1048576 : Int) - l0_2.length < 0
  · refine ⟨0, ?_⟩
    unfold laws_FnExactBishopsOf.f
    rw [if_neg hb2, if_pos ⟨_, hsz, by rw [if_pos hb_l0_2]; omega⟩]
  rw [if_neg hb_l0_2] at hsz
  obtain ⟨K1, h1⟩ := ev_get (spec_ev a0_0 a0_1 l0_2 a1 l2 (by omega))
  obtain ⟨K2, h2⟩ := ev_get (impl_ev a0_0 a0_1 l0_2 a1 l2)
  have hr := R_small a0_0 a0_1 l0_2 a1 l2
  have ht := total_le hr.2
  generalize R a0_0 a0_1 l0_2 a1 l2 = R at *
  obtain ⟨K3, h3⟩ := ev_get (toBoard_ev a0_0 a0_1 l0_2 (by omega))
  obtain ⟨K4, h4⟩ := ev_get (eqBoard_ev a0_0 a0_1 l0_2 (by omega))
  obtain ⟨K5, h5⟩ := ev_get (markBoard_ev a0_0 a0_1 l0_2 (by omega))
  obtain ⟨K6, h6⟩ := ev_get (eqIntSS_ev R.1 R.1 (by omega) (fun l hl => by have := hr.2 l hl; omega))
  obtain ⟨K7, h7⟩ := ev_get (markIntSS_ev R.1 1 (by omega) (by omega) (by omega) (by omega))
  obtain ⟨K8, h8⟩ := ev_get (heldIntSS_ev R.1 1 (by omega) (by omega) (by omega) (by omega))
  obtain ⟨K9, h9⟩ := ev_get (toIntS_ev l2 (by omega))
  obtain ⟨K10, h10⟩ := ev_get (eqIntS_ev l2 l2 (by omega))
  obtain ⟨K11, h11⟩ := ev_get (markIntS_ev l2 (1 + l0_2.length) (by omega) (by omega) (by omega))
  obtain ⟨m, hm⟩ : ∃ m, m = K1 + K2 + K3 + K4 + K5 + K6 + K7 + K8 + K9 + K10 + K11 := ⟨_, rfl⟩
  refine ⟨m, ?_⟩
  unfold laws_FnExactBishopsOf.f
  rw [if_neg hb2, if_neg (fun hh => by obtain ⟨s, e1, e2⟩ := hh; rw [hsz] at e1; have := Option.some.inj e1; omega), if_pos]
  exact ⟨_, R.1, R.2, _, _, _, _, _, _, by omega, hsz, h3 m (by omega), h9 m (by omega), h1 m (by omega), h2 m (by omega), (h6 m (by omega)).trans (by simp), h4 m (by omega), (h10 m (by omega)).trans (by simp), by omega, h5 m (by omega), by omega, h11 m (by omega), by omega, h7 m (by omega), h8 m (by omega)⟩
end Go.Proofs.Ytdoflpghemgbdaa.Pure
