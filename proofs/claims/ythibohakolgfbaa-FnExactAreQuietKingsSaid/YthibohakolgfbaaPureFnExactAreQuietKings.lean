/- For every board and all rows of numbers AreQuietKings returns what the reference returns, and leaves its arguments as they were: no condition but that the arguments can be read. -/
import Derived.Test.YthibohakolgfbaaPx0
import Derived.Test.YthibohakolgfbaaPx1
import Derived.Test.YthibohakolgfbaaPx10
import Derived.Test.YthibohakolgfbaaPx12
import Derived.Test.YthibohakolgfbaaPx13
import Derived.Test.YthibohakolgfbaaPx14
import Derived.Test.YthibohakolgfbaaPx2
import Derived.Test.YthibohakolgfbaaPx22
import Derived.Test.YthibohakolgfbaaPx23
import Derived.Test.YthibohakolgfbaaPx24
import Derived.Test.YthibohakolgfbaaPx25
import Derived.Test.YthibohakolgfbaaPx26
import Derived.Test.YthibohakolgfbaaPx28
import Derived.Test.YthibohakolgfbaaPx29
import Derived.Test.YthibohakolgfbaaPx3
import Derived.Test.YthibohakolgfbaaPx4
namespace Go.Proofs.Ythibohakolgfbaa.P
open Go.RowKit Go.Proofs.YthibohakolgfbaaW.PrintWords Go.Proofs.YthibohakolgfbaaW.PrintLast Go.Proofs.YthibohakolgfbaaW.PrintMore
set_option linter.unusedVariables false
set_option linter.unusedSimpArgs false
theorem w64 (n : Int) (h : -9223372036854775808 ≤ n) (h2 : n ≤ 9223372036854775807) : wrap64 n = n := by unfold wrap64; omega
theorem rd_nat (l : List Int) (i : Nat) (h : i < l.length) : rd l (i : Int) = l[i] := by
  unfold rd; simp [List.getD_eq_getElem?_getD, List.getElem?_eq_getElem h]
theorem drop_cons (l : List Int) (i : Nat) (h : i < l.length) : l.drop i = l[i] :: l.drop (i + 1) := List.drop_eq_getElem_cons h
theorem ev_get {α : Type} {g : Nat → Option α} {r : α} (h : Ev g r) : ∃ K, ∀ k, K ≤ k → g k = some r := h
theorem take_set_succ {α : Type} (l : List α) (i : Nat) (x : α) (h : i < l.length) : (l.set i x).take (i + 1) = l.take i ++ [x] := by
  rw [List.take_add_one, List.take_set_of_le (Nat.le_refl _)]
  simp [h]
theorem toIntS_l0 (x0 : List Int) (hl : x0.length ≤ 1152921504606846976) : ∀ (d i : Nat) (x3 : List Int) (k : Nat), x0.length - i = d → i ≤ x0.length → x3.length = x0.length → d < k →
    laws_toIntS.l0 k x0 x3 (i : Int) = some (x3.take i ++ x0.drop i) := by
  intro d
  induction d with
  | zero =>
    intro i x3 k hd hi hx hk
    obtain ⟨k, rfl⟩ : ∃ m, k = m + 1 := ⟨k - 1, by omega⟩
    rw [laws_toIntS.l0, if_neg (by omega)]
    have : i = x0.length := by omega
    subst this
    simp [← hx]
  | succ d ih =>
    intro i x3 k hd hi hx hk
    obtain ⟨k, rfl⟩ : ∃ m, k = m + 1 := ⟨k - 1, by omega⟩
    have h1 : i < x0.length := by omega
    rw [laws_toIntS.l0, if_pos (by omega), if_pos (by omega), if_pos (by omega), w64 _ (by omega) (by omega)]
    have := ih (i + 1) (x3.set i (rd x0 i)) k (by omega) (by omega) (by simp [hx]) (by omega)
    rw [show ((i : Int) + 1) = ((i + 1 : Nat) : Int) by omega, show (i : Int).toNat = i by omega, this, rd_nat _ _ h1, drop_cons x0 i h1]
    congr 1
    rw [take_set_succ _ _ _ (by omega)]
    simp
theorem toIntS_ev (l : List Int) (hl : l.length ≤ 35184372088832) : Ev (fun k => laws_toIntS.f k l) l := by
  refine ⟨l.length + 1, fun k hk => ?_⟩
  simp only [laws_toIntS.f]
  rw [if_pos (by omega), if_pos (by omega)]
  have := toIntS_l0 l (by omega) l.length 0 (List.replicate l.length 0) k (by omega) (by omega) (by simp) (by omega)
  simpa using this
theorem eqIntS_l0 (a b : List Int) (hl : a.length = b.length) (hb : a.length ≤ 1152921504606846976) : ∀ (d i : Nat) (k : Nat), a.length - i = d → i ≤ a.length → d < k →
    laws_eqIntS.l0 k a b (i : Int) = some (decide (a.drop i = b.drop i)) := by
  intro d
  induction d with
  | zero =>
    intro i k hd hi hk
    obtain ⟨k, rfl⟩ : ∃ m, k = m + 1 := ⟨k - 1, by omega⟩
    rw [laws_eqIntS.l0, if_neg (by omega)]
    simp [List.drop_eq_nil_of_le (show a.length ≤ i by omega), List.drop_eq_nil_of_le (show b.length ≤ i by omega)]
  | succ d ih =>
    intro i k hd hi hk
    obtain ⟨k, rfl⟩ : ∃ m, k = m + 1 := ⟨k - 1, by omega⟩
    have h1 : i < a.length := by omega
    rw [laws_eqIntS.l0, if_pos (by omega), if_pos (by omega), if_pos (by omega), w64 _ (by omega) (by omega), rd_nat _ _ h1, rd_nat _ _ (show i < b.length by omega)]
    rw [show ((i : Int) + 1) = ((i + 1 : Nat) : Int) by omega, ih (i + 1) k (by omega) (by omega) (by omega)]
    rw [drop_cons a i h1, drop_cons b i (by omega)]
    generalize a.drop (i + 1) = ta, b.drop (i + 1) = tb
    by_cases h : a[i] = b[i]
    · simp [h]
    · simp [h]
theorem eqIntS_ev (a b : List Int) (hb : a.length ≤ 1152921504606846976) : Ev (fun k => laws_eqIntS.f k a b) (decide (a = b)) := by
  refine ⟨a.length + 1, fun k hk => ?_⟩
  simp only [laws_eqIntS.f]
  by_cases h : a.length = b.length
  · rw [if_pos (by omega)]
    have := eqIntS_l0 a b h hb a.length 0 k (by omega) (by omega) (by omega)
    simpa using this
  · rw [if_neg (by omega)]
    congr 1
    symm
    apply decide_eq_false
    intro e
    exact h (by rw [e])
def marks (n : Nat) (k : Int) : List Int := (List.range n).map fun (i : Nat) => k + (i : Int)
theorem marks_succ (n : Nat) (k : Int) : marks (n + 1) k = k :: marks n (k + 1) := by
  unfold marks
  rw [List.range_succ_eq_map, List.map_cons, List.map_map]
  congr 1
  · simp
  · apply List.map_congr_left
    intro a _
    simp
    omega
theorem markIntS_l0 : ∀ (d i : Nat) (x0 : List Int) (x1 : Int) (k : Nat), x0.length - i = d → i ≤ x0.length → d < k → x0.length ≤ 1152921504606846976 → 0 ≤ x1 → x1 + d ≤ 4611686018427387904 →
    laws_markIntS.l0 k x0 x1 (i : Int) = some (x1 + d, x0.take i ++ marks d x1) := by
  intro d
  induction d with
  | zero =>
    intro i x0 x1 k hd hi hk hb h0 h1
    obtain ⟨k, rfl⟩ : ∃ m, k = m + 1 := ⟨k - 1, by omega⟩
    rw [laws_markIntS.l0, if_neg (by omega)]
    have : i = x0.length := by omega
    subst this
    simp [marks]
  | succ d ih =>
    intro i x0 x1 k hd hi hk hb h0 h1
    obtain ⟨k, rfl⟩ : ∃ m, k = m + 1 := ⟨k - 1, by omega⟩
    rw [laws_markIntS.l0, if_pos (by omega), if_pos (by omega), w64 _ (by omega) (by omega), w64 _ (by omega) (by omega)]
    rw [show ((i : Int) + 1) = ((i + 1 : Nat) : Int) by omega, show (i : Int).toNat = i by omega]
    rw [ih (i + 1) (x0.set i x1) (x1 + 1) k (by simp; omega) (by simp; omega) (by omega) (by simpa using hb) (by omega) (by omega)]
    rw [marks_succ]
    congr 2
    · omega
    · rw [take_set_succ _ _ _ (by omega)]
      simp
theorem markIntS_ev (l : List Int) (k1 : Int) (hb : l.length ≤ 1152921504606846976) (h0 : 0 ≤ k1) (h1 : k1 + l.length ≤ 4611686018427387904) : Ev (fun k => laws_markIntS.f k l k1) (k1 + l.length, marks l.length k1) := by
  refine ⟨l.length + 1, fun k hk => ?_⟩
  simp only [laws_markIntS.f]
  have := markIntS_l0 l.length 0 l k1 k (by omega) (by omega) (by omega) hb h0 h1
  simpa using this
def inB (n lo hi : Int) : Bool := decide (lo ≤ n ∧ n ≤ hi)
theorem l1In_eq (a b c : Int) : spec_l1In.f a b c = some (inB a b c) := by
  unfold spec_l1In.f inB
  by_cases h : a ≥ b
  · rw [if_pos h]; congr 1; simp; omega
  · rw [if_neg h]; congr 1; symm; apply decide_eq_false; omega
theorem within_eq (a b c : Int) : impl_within.f a b c = some (inB a b c) := by
  unfold impl_within.f inB
  by_cases h : b ≤ a
  · rw [if_pos h]; congr 1; simp; omega
  · rw [if_neg h]; congr 1; symm; apply decide_eq_false; omega
def allIn (l : List Int) (lo hi : Int) : Bool := l.all fun x => inB x lo hi
theorem l1All_l0 (lo hi : Int) (l : List Int) (hb : l.length ≤ 1152921504606846976) : ∀ (d i : Nat) (k : Nat), l.length - i = d → i ≤ l.length → d < k →
    spec_l1All.l0 k lo hi l (l.length : Int) (i : Int) = some (allIn (l.drop i) lo hi) := by
  intro d
  induction d with
  | zero =>
    intro i k hd hi' hk
    obtain ⟨k, rfl⟩ : ∃ m, k = m + 1 := ⟨k - 1, by omega⟩
    rw [spec_l1All.l0, if_neg (by omega), List.drop_eq_nil_of_le (by omega)]
    rfl
  | succ d ih =>
    intro i k hd hi' hk
    obtain ⟨k, rfl⟩ : ∃ m, k = m + 1 := ⟨k - 1, by omega⟩
    have h1 : i < l.length := by omega
    rw [spec_l1All.l0, if_pos (by omega), if_pos (by omega), if_pos (by omega), l1In_eq, Option.bind_some, w64 _ (by omega) (by omega), rd_nat _ _ h1]
    rw [show ((i : Int) + 1) = ((i + 1 : Nat) : Int) by omega, ih (i + 1) k (by omega) (by omega) (by omega), drop_cons l i h1]
    unfold allIn
    rw [List.all_cons]
    generalize l.drop (i + 1) = tl
    by_cases h : inB l[i] lo hi = true
    · rw [if_pos h, h]; simp
    · rw [if_neg h]; simp at h; rw [h]; simp
theorem l1All_ev (l : List Int) (lo hi : Int) (hb : l.length ≤ 1152921504606846976) : Ev (fun k => spec_l1All.f k l lo hi) (allIn l lo hi) := by
  refine ⟨l.length + 1, fun k hk => ?_⟩
  simp only [spec_l1All.f]
  have := l1All_l0 lo hi l hb l.length 0 k (by omega) (by omega) (by omega)
  simpa using this
end Go.Proofs.Ythibohakolgfbaa.P
namespace Go.Proofs.Ythibohakolgfbaa.P
open Go.RowKit Go.Proofs.YthibohakolgfbaaW.PrintWords Go.Proofs.YthibohakolgfbaaW.PrintLast Go.Proofs.YthibohakolgfbaaW.PrintMore
set_option linter.unusedVariables false
set_option linter.unusedSimpArgs false
theorem boardB_iff (r c : Int) (l : List Int) : boardB r c l = true ↔ (1 ≤ r ∧ r ≤ 6) ∧ (1 ≤ c ∧ c ≤ 6) ∧ (l.length : Int) = r ∧ ∀ m ∈ l, 0 ≤ m ∧ m ≤ 2 ^ c.toNat - 1 := by
  unfold boardB
  simp only [Bool.and_eq_true, decide_eq_true_eq, List.all_eq_true]
  constructor
  · rintro ⟨⟨⟨a, b⟩, c⟩, d⟩; exact ⟨a, b, c, d⟩
  · rintro ⟨a, b, c, d⟩; exact ⟨⟨⟨a, b⟩, c⟩, d⟩
theorem shl_one (c : Int) (h0 : 0 ≤ c) (h1 : c ≤ 62) : shl .i64 1 c = 2 ^ c.toNat := by
  unfold shl
  rw [Int.one_mul, Nat.min_eq_left (show c.toNat ≤ IntKind.i64.bits by have : IntKind.i64.bits = 64 := rfl; omega)]
  rw [i64_w, w64]
  · have : (0 : Int) ≤ 2 ^ c.toNat := Int.le_of_lt (Int.pow_pos (by decide))
    omega
  · have h : (2 : Int) ^ c.toNat ≤ 2 ^ 62 := by
      have := Nat.pow_le_pow_right (show 0 < 2 by decide) (show c.toNat ≤ 62 by omega)
      exact_mod_cast this
    have e : (2 : Int) ^ 62 = 4611686018427387904 := by decide
    omega
theorem pow_le6 (c : Int) (h1 : c ≤ 6) : (2 : Int) ^ c.toNat ≤ 64 := by
  have := Nat.pow_le_pow_right (show 0 < 2 by decide) (show c.toNat ≤ 6 by omega)
  have h : (2 : Int) ^ c.toNat ≤ 2 ^ 6 := by exact_mod_cast this
  exact h
theorem pow_pos2 (c : Int) : (1 : Int) ≤ 2 ^ c.toNat := by
  have : (0 : Int) < 2 ^ c.toNat := Int.pow_pos (by decide)
  omega
theorem boSide_eq (a : Int) : spec_boSide.f a = some (inB a 1 6) := by
  simp only [spec_boSide.f, l1In_eq, Option.bind_some]
theorem boGood_ev (r c : Int) (l : List Int) (hb : l.length ≤ 1152921504606846976) : Ev (fun k => spec_boGood.f k r c l) (boardB r c l) := by
  by_cases h1 : 1 ≤ r ∧ r ≤ 6
  · by_cases h2 : 1 ≤ c ∧ c ≤ 6
    · by_cases h3 : (l.length : Int) = r
      · obtain ⟨K, hK⟩ := ev_get (l1All_ev l 0 (2 ^ c.toNat - 1) hb)
        refine ⟨K, fun k hk => ?_⟩
        have hp := pow_le6 c h2.2
        have hp2 := pow_pos2 c
        simp only [spec_boGood.f, boSide_eq, Option.bind_some]
        rw [if_pos (by simpa [inB] using h1), if_pos (by simpa [inB] using h2), if_pos h3, if_pos (by omega), shl_one c (by omega) (by omega), w64 _ (by omega) (by omega), hK k hk, Option.bind_some]
        congr 1
        unfold boardB allIn inB
        simp [h1, h2, h3]
      · refine ⟨0, fun k hk => ?_⟩
        simp only [spec_boGood.f, boSide_eq, Option.bind_some]
        rw [if_pos (by simpa [inB] using h1), if_pos (by simpa [inB] using h2), if_neg h3]
        congr 1; unfold boardB; simp [h3]
    · refine ⟨0, fun k hk => ?_⟩
      simp only [spec_boGood.f, boSide_eq, Option.bind_some]
      rw [if_pos (by simpa [inB] using h1), if_neg (by simpa [inB] using h2)]
      congr 1; unfold boardB; rw [decide_eq_false h2]; simp
  · refine ⟨0, fun k hk => ?_⟩
    simp only [spec_boGood.f, boSide_eq, Option.bind_some]
    rw [if_neg (by simpa [inB] using h1)]
    congr 1; unfold boardB; rw [decide_eq_false h1]; simp
def placeB (r c x y : Int) : Bool := decide ((0 ≤ x ∧ x ≤ r - 1) ∧ (0 ≤ y ∧ y ≤ c - 1))
theorem boPlace_ev (r c : Int) (l : List Int) (x y : Int) (hb : l.length ≤ 1152921504606846976) : Ev (fun k => spec_boPlace.f k r c l x y) (boardB r c l && placeB r c x y) := by
  obtain ⟨K, hK⟩ := ev_get (boGood_ev r c l hb)
  refine ⟨K, fun k hk => ?_⟩
  simp only [spec_boPlace.f, hK k hk, Option.bind_some]
  by_cases h : boardB r c l = true
  · have := (boardB_iff r c l).1 h
    rw [h, if_pos rfl, w64 _ (by omega) (by omega), w64 _ (by omega) (by omega), l1In_eq, l1In_eq, Option.bind_some, Option.bind_some]
    unfold inB placeB
    by_cases h1 : 0 ≤ x ∧ x ≤ r - 1
    · rw [if_pos (by simpa using h1)]; simp [h1]
    · rw [if_neg (by simpa using h1)]; congr 1; rw [Bool.true_and]; symm; apply decide_eq_false; exact fun hh => h1 hh.1
  · simp only [Bool.not_eq_true] at h
    rw [h]; simp
theorem place_eq (r c : Int) (l : List Int) (x y : Int) (hr : -1000 ≤ r ∧ r ≤ 1000) (hc : -1000 ≤ c ∧ c ≤ 1000) : impl_Board_place.f r c l x y = some (placeB r c x y) := by
  simp only [impl_Board_place.f]
  rw [w64 _ (by omega) (by omega), w64 _ (by omega) (by omega), within_eq, within_eq, Option.bind_some, Option.bind_some]
  unfold inB placeB
  by_cases h1 : 0 ≤ x ∧ x ≤ r - 1
  · rw [if_pos (by simpa using h1)]; simp [h1]
  · rw [if_neg (by simpa using h1)]; congr 1; symm; apply decide_eq_false; exact fun hh => h1 hh.1
theorem szBoard_eq (r c : Int) (l : List Int) (left : Int) (h0 : 0 ≤ left) (h1 : left ≤ 1048576) (hl : l.length ≤ maxLen) : laws_szBoard.f r c l left = some (if left - l.length < 0 then -1 else left - l.length) := by
  simp only [laws_szBoard.f, laws_szIntS.f]
  simp only [maxLen] at hl
  rw [w64 _ (by omega) (by omega)]
  split
  · simp only [Option.bind_some]; simp
  · simp only [Option.bind_some]; simp [*]
theorem toBoard_ev (r c : Int) (l : List Int) (hl : l.length ≤ 35184372088832) : Ev (fun k => laws_toBoard.f k r c l) (r, c, l) := by
  obtain ⟨K, hK⟩ := ev_get (toIntS_ev l hl)
  refine ⟨K, fun k hk => ?_⟩
  simp only [laws_toBoard.f, hK k hk, Option.bind_some]
theorem eqBoard_ev (r c : Int) (l : List Int) (hb : l.length ≤ 1152921504606846976) : Ev (fun k => laws_eqBoard.f k r c l r c l) true := by
  obtain ⟨K, hK⟩ := ev_get (eqIntS_ev l l hb)
  refine ⟨K, fun k hk => ?_⟩
  simp only [laws_eqBoard.f, hK k hk, Option.bind_some, if_true, decide_true]
theorem markBoard_ev (r c : Int) (l : List Int) (hb : l.length ≤ 1152921504606846976) : Ev (fun k => laws_markBoard.f k r c l 1) (1 + l.length, marks l.length 1) := by
  obtain ⟨K, hK⟩ := ev_get (markIntS_ev l 1 hb (by omega) (by omega))
  refine ⟨K, fun k hk => ?_⟩
  simp only [laws_markBoard.f, hK k hk, Option.bind_some]
end Go.Proofs.Ythibohakolgfbaa.P
namespace Go.Proofs.Ythibohakolgfbaa.P
open Go.RowKit Go.Proofs.YthibohakolgfbaaW.PrintWords Go.Proofs.YthibohakolgfbaaW.PrintLast Go.Proofs.YthibohakolgfbaaW.PrintMore
set_option linter.unusedVariables false
set_option linter.unusedSimpArgs false
theorem rdL_mid (a b : List (List Int)) (l : List Int) : rd_L1 (a ++ l :: b) (a.length : Int) = l := by
  unfold rd_L1; simp
theorem rdL_nat (s : List (List Int)) (i : Nat) (h : i < s.length) : rd_L1 s (i : Int) = s[i] := by
  unfold rd_L1; simp [List.getD_eq_getElem?_getD, List.getElem?_eq_getElem h]
def total : List (List Int) → Nat
  | [] => 0
  | l :: s => l.length + total s
theorem total_mem {s : List (List Int)} {l : List Int} (h : l ∈ s) : l.length ≤ total s := by
  induction s with
  | nil => cases h
  | cons x s ih =>
    rcases List.mem_cons.1 h with rfl | h
    · simp [total]
    · have := ih h; simp [total]; omega
theorem toIntSS_l0 : ∀ (rest done : List (List Int)) (x3 : List (List Int)), (done ++ rest).length ≤ 1152921504606846976 → (∀ l ∈ rest, l.length ≤ 35184372088832) → x3.length = rest.length →
    Ev (fun k => laws_toIntSS.l0 k (done ++ rest) (done ++ x3) (done.length : Int)) (done ++ rest) := by
  intro rest
  induction rest with
  | nil =>
    intro done x3 hb hl hx
    refine ⟨1, fun k hk => ?_⟩
    obtain ⟨k, rfl⟩ : ∃ m, k = m + 1 := ⟨k - 1, by omega⟩
    simp only [laws_toIntSS.l0]
    obtain rfl : x3 = [] := List.length_eq_zero_iff.1 (by simpa using hx)
    rw [if_neg (by simp)]
  | cons l rest ih =>
    intro done x3 hb hl hx
    obtain ⟨y, x4, rfl⟩ : ∃ y t, x3 = y :: t := by
      cases x3 with
      | nil => simp at hx
      | cons y t => exact ⟨y, t, rfl⟩
    simp only [List.length_append, List.length_cons] at hb hx
    obtain ⟨K1, h1⟩ := ev_get (toIntS_ev l (hl l (List.mem_cons_self ..)))
    obtain ⟨K2, h2⟩ := ev_get (ih (done ++ [l]) x4 (by simp; omega) (fun l hm => hl l (List.mem_cons_of_mem _ hm)) (by omega))
    refine ⟨K1 + K2 + 1, fun k hk => ?_⟩
    obtain ⟨k, rfl⟩ : ∃ m, k = m + 1 := ⟨k - 1, by omega⟩
    simp only [laws_toIntSS.l0]
    rw [if_pos (by simp; omega), if_pos (by omega), rdL_mid, h1 k (by omega), Option.bind_some, if_pos (by simp; omega), w64 _ (by omega) (by omega)]
    have h3 := h2 k (by omega)
    simp only [List.append_assoc, List.singleton_append, List.length_append, List.length_cons, List.length_nil] at h3
    rw [show ((done.length : Int)).toNat = done.length by omega, List.set_append_right _ _ (Nat.le_refl _), Nat.sub_self, List.set_cons_zero]
    exact h3
theorem toIntSS_ev (s : List (List Int)) (hb : s.length ≤ 11728124029610) (hl : ∀ l ∈ s, l.length ≤ 35184372088832) : Ev (fun k => laws_toIntSS.f k s) s := by
  obtain ⟨K, hK⟩ := ev_get (toIntSS_l0 s [] (List.replicate s.length []) (by simp; omega) hl (by simp))
  refine ⟨K, fun k hk => ?_⟩
  simp only [laws_toIntSS.f]
  rw [if_pos (by omega), if_pos (by omega)]
  simpa using hK k hk
theorem eqIntSS_l0 : ∀ (rest rest2 done done2 : List (List Int)), rest.length = rest2.length → done.length = done2.length → (done ++ rest).length ≤ 1152921504606846976 → (∀ l ∈ rest, l.length ≤ 1152921504606846976) →
    Ev (fun k => laws_eqIntSS.l0 k (done ++ rest) (done2 ++ rest2) (done.length : Int)) (decide (rest = rest2)) := by
  intro rest
  induction rest with
  | nil =>
    intro rest2 done done2 h1 h2 hb hl
    refine ⟨1, fun k hk => ?_⟩
    obtain ⟨k, rfl⟩ : ∃ m, k = m + 1 := ⟨k - 1, by omega⟩
    simp only [laws_eqIntSS.l0]
    obtain rfl : rest2 = [] := List.length_eq_zero_iff.1 (by simpa using h1.symm)
    rw [if_neg (by simp)]; simp
  | cons l rest ih =>
    intro rest2 done done2 h1 h2 hb hl
    obtain ⟨l2, rest2, rfl⟩ : ∃ y t, rest2 = y :: t := by
      cases rest2 with
      | nil => simp at h1
      | cons y t => exact ⟨y, t, rfl⟩
    simp only [List.length_append, List.length_cons] at hb h1
    obtain ⟨K1, h3⟩ := ev_get (eqIntS_ev l l2 (hl l (List.mem_cons_self ..)))
    obtain ⟨K2, h4⟩ := ev_get (ih rest2 (done ++ [l]) (done2 ++ [l2]) (by omega) (by simp; omega) (by simp; omega) (fun l hm => hl l (List.mem_cons_of_mem _ hm)))
    refine ⟨K1 + K2 + 1, fun k hk => ?_⟩
    obtain ⟨k, rfl⟩ : ∃ m, k = m + 1 := ⟨k - 1, by omega⟩
    simp only [laws_eqIntSS.l0]
    have e : rd_L1 (done2 ++ l2 :: rest2) (done.length : Int) = l2 := by rw [h2]; exact rdL_mid _ _ _
    rw [if_pos (by simp; omega), if_pos (by omega), if_pos (by simp; omega), rdL_mid, e, h3 k (by omega), Option.bind_some, w64 _ (by omega) (by omega)]
    have h5 := h4 k (by omega)
    simp only [List.append_assoc, List.singleton_append, List.length_append, List.length_cons, List.length_nil] at h5
    by_cases h : l = l2
    · rw [if_pos (by simpa using h)]
      refine h5.trans ?_
      simp [h]
    · rw [if_neg (by simpa using h)]
      simp [h]
theorem eqIntSS_ev (a b : List (List Int)) (hb : a.length ≤ 1152921504606846976) (hl : ∀ l ∈ a, l.length ≤ 1152921504606846976) : Ev (fun k => laws_eqIntSS.f k a b) (decide (a = b)) := by
  by_cases h : a.length = b.length
  · obtain ⟨K, hK⟩ := ev_get (eqIntSS_l0 a b [] [] h rfl (by simpa using hb) hl)
    refine ⟨K, fun k hk => ?_⟩
    simp only [laws_eqIntSS.f]
    rw [if_pos (by omega)]
    simpa using hK k hk
  · refine ⟨0, fun k hk => ?_⟩
    simp only [laws_eqIntSS.f]
    rw [if_neg (by omega)]
    congr 1; symm; apply decide_eq_false
    exact fun e => h (by rw [e])
theorem szIntSS_l0 : ∀ (rest done : List (List Int)) (x1 : Int), (done ++ rest).length ≤ 1152921504606846976 → (∀ l ∈ rest, l.length ≤ maxLen) → 0 ≤ x1 → x1 ≤ 1048576 →
    Ev (fun k => laws_szIntSS.l0 k (done ++ rest) x1 (done.length : Int)) (if x1 < total rest then -1 else x1 - total rest) := by
  intro rest
  induction rest with
  | nil =>
    intro done x1 hb hl h0 h1
    refine ⟨1, fun k hk => ?_⟩
    obtain ⟨k, rfl⟩ : ∃ m, k = m + 1 := ⟨k - 1, by omega⟩
    simp only [laws_szIntSS.l0]
    rw [if_neg (by simp), if_neg (by simp [total]; omega)]
    simp [total]
  | cons l rest ih =>
    intro done x1 hb hl h0 h1
    simp only [List.length_append, List.length_cons] at hb
    have hl0 := hl l (List.mem_cons_self ..)
    simp only [maxLen] at hl0
    by_cases hs : x1 - (l.length : Int) < 0
    · refine ⟨1, fun k hk => ?_⟩
      obtain ⟨k, rfl⟩ : ∃ m, k = m + 1 := ⟨k - 1, by omega⟩
      simp only [laws_szIntSS.l0, laws_szIntS.f]
      rw [if_pos (by simp; omega), if_pos (by omega), rdL_mid, w64 _ (by omega) (by omega), if_pos hs, Option.bind_some, if_pos (by omega), if_pos (by simp only [total]; omega)]
    · obtain ⟨K, hK⟩ := ev_get (ih (done ++ [l]) (x1 - l.length) (by simp; omega) (fun l hm => hl l (List.mem_cons_of_mem _ hm)) (by omega) (by omega))
      refine ⟨K + 1, fun k hk => ?_⟩
      obtain ⟨k, rfl⟩ : ∃ m, k = m + 1 := ⟨k - 1, by omega⟩
      simp only [laws_szIntSS.l0, laws_szIntS.f]
      rw [if_pos (by simp; omega), if_pos (by omega), rdL_mid, w64 (x1 - (l.length : Int)) (by omega) (by omega), if_neg hs, Option.bind_some, if_neg (by omega), w64 _ (by omega) (by omega)]
      have h5 := hK k (by omega)
      simp only [List.append_assoc, List.singleton_append, List.length_append, List.length_cons, List.length_nil] at h5
      refine h5.trans ?_
      have ht : total (l :: rest) = l.length + total rest := rfl
      by_cases h6 : x1 - (l.length : Int) < (total rest : Int)
      · rw [if_pos h6, if_pos (by rw [ht]; omega)]
      · rw [if_neg h6, if_neg (by rw [ht]; omega)]
        congr 1; rw [ht]; omega
theorem szIntSS_evL (s : List (List Int)) (left : Int) (h0 : 0 ≤ left) (h1 : left ≤ 1048576) (hb : s.length ≤ maxLen) (hl : ∀ l ∈ s, l.length ≤ maxLen) :
    Ev (fun k => laws_szIntSS.f k s left) (if left < (s.length : Int) + total s then -1 else left - (s.length : Int) - total s) := by
  simp only [maxLen] at hb
  by_cases h : left - s.length < 0
  · refine ⟨0, fun k hk => ?_⟩
    simp only [laws_szIntSS.f]
    rw [w64 _ (by omega) (by omega), if_pos h, if_pos (by omega)]
  · obtain ⟨K, hK⟩ := ev_get (szIntSS_l0 s [] (left - s.length) (by simp; omega) hl (by omega) (by omega))
    refine ⟨K, fun k hk => ?_⟩
    simp only [laws_szIntSS.f]
    rw [w64 _ (by omega) (by omega), if_neg h]
    refine (hK k hk).trans ?_
    by_cases h6 : left - (s.length : Int) < (total s : Int)
    · rw [if_pos h6, if_pos (by omega)]
    · rw [if_neg h6, if_neg (by omega)]
end Go.Proofs.Ythibohakolgfbaa.P
namespace Go.Proofs.Ythibohakolgfbaa.P
open Go.RowKit Go.Proofs.YthibohakolgfbaaW.PrintWords Go.Proofs.YthibohakolgfbaaW.PrintLast Go.Proofs.YthibohakolgfbaaW.PrintMore
set_option linter.unusedVariables false
set_option linter.unusedSimpArgs false
/-- A mask has a column. -/
def hasM (m : Int) (j : Int) : Bool := Int.tmod (shr .i64 m j) 2 == 1
theorem has_bits : ∀ m : Fin 64, ∀ c : Fin 6, (Go.bits .and .i64 (shr .i64 (m.val : Int) (c.val : Int)) 1 == 1) = hasM (m.val : Int) (c.val : Int) := by decide +kernel
theorem has_bits' (m c : Int) (h0 : 0 ≤ m) (h1 : m ≤ 63) (h2 : 0 ≤ c) (h3 : c ≤ 5) : (Go.bits .and .i64 (shr .i64 m c) 1 == 1) = hasM m c := by
  have h := has_bits ⟨m.toNat, by omega⟩ ⟨c.toNat, by omega⟩
  simp only [show ((m.toNat : Nat) : Int) = m by omega, show ((c.toNat : Nat) : Int) = c by omega] at h
  exact h
/-- The board has the cell. -/
def hasC (l : List Int) (i j : Int) : Bool := hasM (rd l i) j
theorem board_row {r c : Int} {l : List Int} (h : boardB r c l = true) {i : Int} (h0 : 0 ≤ i) (h1 : i < r) : 0 ≤ rd l i ∧ rd l i ≤ 63 := by
  obtain ⟨hr, hc, hl, hm⟩ := (boardB_iff r c l).1 h
  have hp6 := pow_le6 c hc.2
  have hx : i.toNat < l.length := by omega
  have := hm l[i.toNat] (List.getElem_mem hx)
  have e : rd l i = l[i.toNat] := by
    have := rd_nat l i.toNat hx
    rwa [show ((i.toNat : Nat) : Int) = i by omega] at this
  rw [e]; omega
theorem boHas_eq {r c : Int} {l : List Int} (h : boardB r c l = true) {i j : Int} (h0 : 0 ≤ i) (h1 : i < r) (h2 : 0 ≤ j) : spec_boHas.f r c l i j = some (hasC l i j) := by
  obtain ⟨hr, hc, hl, hm⟩ := (boardB_iff r c l).1 h
  simp only [spec_boHas.f]
  rw [if_pos h0, if_pos (by omega), if_pos h2]
  rfl
theorem has_eq {r c : Int} {l : List Int} (h : boardB r c l = true) {i j : Int} (h0 : 0 ≤ i) (h1 : i < r) (h2 : 0 ≤ j) (h3 : j < c) : impl_Board_has.f r c l i j = some (hasC l i j) := by
  obtain ⟨hr, hc, hl, hm⟩ := (boardB_iff r c l).1 h
  have hb := board_row h h0 h1
  simp only [impl_Board_has.f]
  rw [if_pos h0, if_pos (by omega), if_pos h2, has_bits' _ _ hb.1 hb.2 h2 (by omega)]
  rfl
/-- Two numbers from 0 to 5. -/
def Cell6 (x : List Int) : Prop := ∃ p q : Int, x = [p, q] ∧ (0 ≤ p ∧ p ≤ 5) ∧ (0 ≤ q ∧ q ≤ 5)
theorem rd0 (p q : Int) : rd [p, q] 0 = p := by simp [rd]
theorem rd1 (p q : Int) : rd [p, q] 1 = q := by simp [rd]
def nearB (x y : List Int) : Bool := decide ((rd x 0 - rd y 0).natAbs ≤ 1 ∧ (rd x 1 - rd y 1).natAbs ≤ 1)
theorem bAbs_eq (n : Int) (h : -1000 ≤ n) (h2 : n ≤ 1000) : spec_l1Abs.f n = some (n.natAbs : Int) := by
  unfold spec_l1Abs.f spec_l1Most.f
  rw [w64 _ (by omega) (by omega)]
  split
  · simp only [Option.bind_some]; congr 1; omega
  · simp only [Option.bind_some]; congr 1; omega
theorem biNear_eq {x y : List Int} (hx : Cell6 x) (hy : Cell6 y) : spec_biNear.f x y = some (nearB x y) := by
  obtain ⟨p, q, rfl, h1, h2⟩ := hx
  obtain ⟨p', q', rfl, h3, h4⟩ := hy
  simp only [spec_biNear.f, rd0, rd1]
  rw [if_pos (by simp), if_pos (by simp), w64 _ (by omega) (by omega), bAbs_eq _ (by omega) (by omega), Option.bind_some, if_pos (show 1 < (([p, q] : List Int).length : Int) by simp), if_pos (show 1 < (([p', q'] : List Int).length : Int) by simp), w64 _ (by omega) (by omega), bAbs_eq _ (by omega) (by omega), Option.bind_some]
  unfold nearB
  simp only [rd0, rd1]
  by_cases h : ((p - p').natAbs : Int) ≤ 1
  · rw [if_pos h]; congr 1; rw [decide_eq_decide]; omega
  · rw [if_neg h]; congr 1; symm; apply decide_eq_false; omega
theorem biDisturb1_eq {x y : List Int} (hx : Cell6 x) (hy : Cell6 y) : spec_biDisturb.f x y 1 = some (nearB x y) := by
  simp only [spec_biDisturb.f, biNear_eq hx hy, Option.bind_some, if_true]
  rw [if_neg (by decide)]
theorem asKings_eq {x y : List Int} (hx : Cell6 x) (hy : Cell6 y) : impl_asKings.f x y = some (!nearB x y) := by
  obtain ⟨p, q, rfl, h1, h2⟩ := hx
  obtain ⟨p', q', rfl, h3, h4⟩ := hy
  simp only [impl_asKings.f, rd0, rd1]
  rw [if_pos (by simp), if_pos (by simp), w64 _ (by omega) (by omega), w64 _ (by omega) (by omega), w64 _ (by omega) (by omega), w64 _ (by omega) (by omega)]
  unfold nearB
  simp only [rd0, rd1]
  by_cases h : mx (p - p') (p' - p) > 1
  · rw [if_pos h]; congr 1
    rw [decide_eq_false (by unfold mx at h; omega)]; rfl
  · rw [if_neg h, if_pos (by simp), if_pos (by simp)]; congr 1
    rw [Bool.eq_iff_iff, decide_eq_true_iff, Bool.not_eq_true', decide_eq_false_iff_not]
    unfold mx at h ⊢; omega
end Go.Proofs.Ythibohakolgfbaa.P
namespace Go.Proofs.Ythibohakolgfbaa.P
open Go.RowKit Go.Proofs.YthibohakolgfbaaW.PrintWords Go.Proofs.YthibohakolgfbaaW.PrintLast Go.Proofs.YthibohakolgfbaaW.PrintMore
set_option linter.unusedVariables false
set_option linter.unusedSimpArgs false
theorem nodup_lt : ∀ (n : Nat) (l : List Nat), l.Nodup → (∀ x ∈ l, x < n) → l.length ≤ n
  | 0, l, _, hb => by
    cases l with
    | nil => simp
    | cons x l => exact absurd (hb x (.head _)) (by omega)
  | n + 1, l, hn, hb => by
    by_cases hm : n ∈ l
    · have := nodup_lt n (l.erase n) (hn.erase n) (fun x hx => by
        have h1 := (hn.mem_erase_iff).1 hx
        have := hb x h1.2
        have := h1.1
        omega)
      rw [List.length_erase_of_mem hm] at this
      omega
    · have := nodup_lt n l hn (fun x hx => by
        have := hb x hx
        have : x ≠ n := fun e => hm (e ▸ hx)
        omega)
      omega
def QuietFrom (L : List (List Int)) (V : List Int → Bool) (D : List Int → List Int → Bool) (i : Nat) : Prop := ∀ i', i ≤ i' → ∀ h : i' < L.length, V L[i'] = true ∧ ∀ j, ∀ hj : j < i', D L[i'] (L[j]'(by omega)) = false
theorem quiet_few {L : List (List Int)} {V : List Int → Bool} {D : List Int → List Int → Bool} (code : List Int → Nat) (hc : ∀ x, V x = true → code x < 36) (hD : ∀ x y, V x = true → V y = true → code x = code y → D x y = true) (h : QuietFrom L V D 0) : L.length ≤ 36 := by
  have hn : (L.map code).Nodup := by
    rw [List.nodup_iff_pairwise_ne, List.pairwise_iff_getElem]
    intro i j hi hj hij e
    rw [List.length_map] at hi hj
    rw [List.getElem_map, List.getElem_map] at e
    have h1 := h j (by omega) hj
    have h2 := h i (by omega) hi
    have := h1.2 i hij
    rw [hD _ _ h1.1 h2.1 e.symm] at this
    cases this
  have := nodup_lt 36 (L.map code) hn (fun x hx => by
    obtain ⟨y, hy, rfl⟩ := List.mem_map.1 hx
    obtain ⟨i, hi, rfl⟩ := List.getElem_of_mem hy
    exact hc _ (h i (by omega) hi).1)
  rwa [List.length_map] at this
open Classical in
theorem quiet_loop (L : List (List Int)) (V : List Int → Bool) (D : List Int → List Int → Bool) (l0 : Nat → Int → Option Bool) (l1 : Nat → Nat → Int → Option Bool) (hL : L.length ≤ 1152921504606846976)
    (hend : ∀ k (i : Nat), L.length ≤ i → l0 (k + 1) (i : Int) = some true)
    (hrow : ∀ (i : Nat) (hi : i < L.length), ∃ K, ∀ k, K ≤ k → l0 (k + 2) (i : Int) = if V L[i] = true then l1 k i 0 else some false)
    (hrend : ∀ (i : Nat), i < L.length → ∀ k (j : Nat), i ≤ j → l1 (k + 1) i (j : Int) = l0 k ((i + 1 : Nat) : Int))
    (hstep : ∀ (i : Nat) (hi : i < L.length) (j : Nat) (hj : j < i), V L[i] = true → V (L[j]'(by omega)) = true → ∃ K, ∀ k, K ≤ k → l1 (k + 1) i (j : Int) = if D L[i] (L[j]'(by omega)) = true then some false else l1 k i ((j + 1 : Nat) : Int)) :
    ∀ (d i : Nat), L.length - i = d → i ≤ L.length → (∀ j, ∀ hj : j < i, ∀ h : i ≤ L.length, V (L[j]'(by omega)) = true) → Ev (fun k => l0 k (i : Int)) (decide (QuietFrom L V D i)) := by
  intro d
  induction d with
  | zero =>
    intro i hd hi hV
    refine ⟨1, fun k hk => ?_⟩
    obtain ⟨k, rfl⟩ : ∃ m, k = m + 1 := ⟨k - 1, by omega⟩
    dsimp only
    rw [hend k i (by omega)]
    congr 1; symm; apply decide_eq_true
    intro i' h1 h2; omega
  | succ d ih =>
    intro i hd hi hV
    have hi1 : i < L.length := by omega
    obtain ⟨K0, k0⟩ := hrow i hi1
    by_cases hv : V L[i] = true
    · have hrec := ih (i + 1) (by omega) (by omega) (fun j hj h => by
        rcases Nat.lt_or_ge j i with h' | h'
        · exact hV j h' (by omega)
        · obtain rfl : j = i := by omega
          exact hv)
      have hin : ∀ (e j : Nat), i - j = e → j ≤ i → Ev (fun k => l1 k i (j : Int)) (decide ((∀ j', j ≤ j' → ∀ hj : j' < i, D L[i] (L[j']'(by omega)) = false) ∧ QuietFrom L V D (i + 1))) := by
        intro e
        induction e with
        | zero =>
          intro j he hj
          obtain ⟨K, hK⟩ := ev_get hrec
          refine ⟨K + 1, fun k hk => ?_⟩
          obtain ⟨k, rfl⟩ : ∃ m, k = m + 1 := ⟨k - 1, by omega⟩
          dsimp only
          rw [hrend i hi1 k j (by omega), hK k (by omega)]
          congr 1
          rw [decide_eq_decide]
          exact ⟨fun h => ⟨fun j' h1 h2 => by omega, h⟩, fun h => h.2⟩
        | succ e ihe =>
          intro j he hj
          have hj1 : j < i := by omega
          obtain ⟨K1, k1⟩ := hstep i hi1 j hj1 hv (hV j hj1 (by omega))
          obtain ⟨K2, k2⟩ := ev_get (ihe (j + 1) (by omega) (by omega))
          refine ⟨K1 + K2 + 1, fun k hk => ?_⟩
          obtain ⟨k, rfl⟩ : ∃ m, k = m + 1 := ⟨k - 1, by omega⟩
          dsimp only
          rw [k1 k (by omega), k2 k (by omega)]
          by_cases h : D L[i] (L[j]'(by omega)) = true
          · rw [if_pos h]
            congr 1; symm; apply decide_eq_false
            intro hh
            have := hh.1 j (Nat.le_refl _) hj1
            rw [h] at this; cases this
          · rw [if_neg h]
            congr 1
            rw [decide_eq_decide]
            refine ⟨fun hh => ⟨fun j' h1 h2 => ?_, hh.2⟩, fun hh => ⟨fun j' h1 h2 => hh.1 j' (by omega) h2, hh.2⟩⟩
            rcases Nat.eq_or_lt_of_le h1 with h3 | h3
            · subst h3; simpa using h
            · exact hh.1 j' h3 h2
      obtain ⟨K1, k1⟩ := ev_get (hin i 0 (by omega) (by omega))
      refine ⟨K0 + K1 + 2, fun k hk => ?_⟩
      obtain ⟨k, rfl⟩ : ∃ m, k = m + 2 := ⟨k - 2, by omega⟩
      dsimp only
      rw [k0 k (by omega), if_pos hv]
      refine (k1 k (by omega)).trans ?_
      congr 1
      rw [decide_eq_decide]
      constructor
      · rintro ⟨h1, h2⟩ i' h3 h4
        rcases Nat.eq_or_lt_of_le h3 with h5 | h5
        · subst h5; exact ⟨hv, fun j hj => h1 j (by omega) hj⟩
        · exact h2 i' h5 h4
      · intro h
        exact ⟨fun j' _ h2 => (h i (Nat.le_refl _) hi1).2 j' h2, fun i' h1 h2 => h i' (by omega) h2⟩
    · refine ⟨K0 + 2, fun k hk => ?_⟩
      obtain ⟨k, rfl⟩ : ∃ m, k = m + 2 := ⟨k - 2, by omega⟩
      dsimp only
      rw [k0 k (by omega), if_neg hv]
      congr 1; symm; apply decide_eq_false
      intro h
      exact hv (h i (Nat.le_refl _) hi1).1
/-- A cell of the board. -/
def cellV (r c : Int) (l : List Int) (x : List Int) : Bool := decide (x.length = 2) && placeB r c (rd x 0) (rd x 1) && hasC l (rd x 0) (rd x 1)
theorem cellV_cell {r c : Int} {l : List Int} (h : boardB r c l = true) {x : List Int} (hx : cellV r c l x = true) : Cell6 x := by
  obtain ⟨hr, hc, _, _⟩ := (boardB_iff r c l).1 h
  unfold cellV at hx
  rw [Bool.and_eq_true, Bool.and_eq_true, decide_eq_true_iff] at hx
  obtain ⟨⟨h2, h3⟩, _⟩ := hx
  match x, h2 with
  | [p, q], _ =>
    have := of_decide_eq_true h3
    rw [rd0, rd1] at this
    exact ⟨p, q, rfl, by omega, by omega⟩
def codeOf (x : List Int) : Nat := (rd x 0 * 6 + rd x 1).toNat
theorem code_lt {x : List Int} (h : Cell6 x) : codeOf x < 36 := by
  obtain ⟨p, q, rfl, h1, h2⟩ := h
  unfold codeOf; rw [rd0, rd1]; omega
theorem code_eq {x y : List Int} (hx : Cell6 x) (hy : Cell6 y) (h : codeOf x = codeOf y) : x = y := by
  obtain ⟨p, q, rfl, h1, h2⟩ := hx
  obtain ⟨p', q', rfl, h3, h4⟩ := hy
  unfold codeOf at h; rw [rd0, rd1, rd0, rd1] at h
  have e1 : p = p' := by omega
  have e2 : q = q' := by omega
  rw [e1, e2]
theorem near_self (x : List Int) : nearB x x = true := by unfold nearB; simp
open Classical in
noncomputable def quietR (D : List Int → List Int → Bool) (r c : Int) (l : List Int) (L : List (List Int)) : Bool := decide (QuietFrom L (cellV r c l) D 0)
open Classical in
theorem biQuiet_ev (D : List Int → List Int → Bool) (kd : Int) (hD : ∀ x y, Cell6 x → Cell6 y → spec_biDisturb.f x y kd = some (D x y)) (hself : ∀ x, D x x = true) (r c : Int) (l : List Int) (h : boardB r c l = true) (L : List (List Int)) (hL : L.length ≤ 1152921504606846976) (hlb : l.length ≤ 1152921504606846976) :
    Ev (fun k => spec_biQuiet.f k r c l L kd) (quietR D r c l L) := by
  obtain ⟨hr, hc, hl, hm⟩ := (boardB_iff r c l).1 h
  by_cases hbig : L.length > 36
  · refine ⟨0, fun k hk => ?_⟩
    simp only [spec_biQuiet.f]
    rw [if_pos (by omega)]
    congr 1; symm; apply decide_eq_false
    intro hq
    have := quiet_few codeOf (fun x hx => code_lt (cellV_cell h hx)) (fun x y hx hy e => by rw [code_eq (cellV_cell h hx) (cellV_cell h hy) e]; exact hself _) hq
    omega
  · obtain ⟨K, hK⟩ := ev_get (quiet_loop L (cellV r c l) D (fun k i => spec_biQuiet.l0 k L kd L (L.length : Int) i r c l)
      (fun k i j => spec_biQuiet.l1 k L kd (L.getD i []) L (L.length : Int) (i : Int) (L.take i) ((L.take i).length : Int) j r c l) hL
      (fun k i hi => by show spec_biQuiet.l0 (k + 1) _ _ _ _ (i : Int) _ _ _ = _; rw [spec_biQuiet.l0, if_neg (by omega)])
      (fun i hi => by
        have hj : ∀ (k : Nat) (b : Bool), spec_biQuiet.j1 (k + 1) L kd (i : Int) L[i] L (L.length : Int) (i : Int) b r c l = if b = true then some false else spec_biQuiet.l1 k L kd (L.getD i []) L (L.length : Int) (i : Int) (L.take i) ((L.take i).length : Int) 0 r c l := by
          intro k b
          rw [spec_biQuiet.j1, if_pos (show (0 : Int) ≤ (i : Int) by omega), if_pos (show (i : Int) ≤ (L.length : Int) by omega), Option.bind_some, show ((i : Int)).toNat = i by omega, List.getD_eq_getElem?_getD, List.getElem?_eq_getElem hi]
          rfl
        obtain ⟨K, hK⟩ := ev_get (boPlace_ev r c l (rd L[i] 0) (rd L[i] 1) hlb)
        refine ⟨K, fun k hk => ?_⟩
        show spec_biQuiet.l0 (k + 2) _ _ _ _ (i : Int) _ _ _ = _
        rw [spec_biQuiet.l0, if_pos (by omega), if_pos (by omega), if_pos (by omega), rdL_nat _ _ hi]
        by_cases h2 : L[i].length = 2
        · rw [if_pos (by omega), if_pos (by omega), if_pos (by omega), hK (k + 1) (by omega), Option.bind_some, h, Bool.true_and]
          by_cases h3 : placeB r c (rd L[i] 0) (rd L[i] 1) = true
          · have hp := of_decide_eq_true h3
            rw [if_pos h3, boHas_eq h (by omega) (by omega) (by omega), Option.bind_some, hj]
            unfold cellV
            rw [decide_eq_true h2, h3]
            cases hasC l (rd L[i] 0) (rd L[i] 1) <;> simp
          · rw [if_neg h3, hj]
            unfold cellV
            rw [Bool.eq_false_iff.2 h3]; simp
        · rw [if_neg (by omega), hj]
          unfold cellV
          rw [decide_eq_false h2]; simp)
      (fun i hi k j hj => by
        show spec_biQuiet.l1 (k + 1) _ _ _ _ _ _ _ _ (j : Int) _ _ _ = _
        rw [spec_biQuiet.l1, if_neg (by rw [List.length_take]; omega), w64 _ (by omega) (by omega), show ((i : Int) + 1) = ((i + 1 : Nat) : Int) by omega])
      (fun i hi j hj hv1 hv2 => by
        refine ⟨0, fun k hk => ?_⟩
        have hjt : j < (L.take i).length := by rw [List.length_take]; omega
        show spec_biQuiet.l1 (k + 1) _ _ _ _ _ _ _ _ (j : Int) _ _ _ = _
        rw [spec_biQuiet.l1, if_pos (by omega), if_pos (by omega), if_pos (by omega), rdL_nat _ _ hjt, List.getElem_take, List.getD_eq_getElem?_getD, List.getElem?_eq_getElem hi, Option.getD_some, hD _ _ (cellV_cell h hv1) (cellV_cell h hv2), Option.bind_some, w64 ((j : Int) + 1) (by omega) (by omega), show ((j : Int) + 1) = ((j + 1 : Nat) : Int) by omega])
      L.length 0 (by omega) (by omega) (fun j hj => by omega))
    refine ⟨K, fun k hk => ?_⟩
    simp only [spec_biQuiet.f]
    rw [if_neg (by omega)]
    exact hK k hk
theorem kEqual_l0 (a b : List Int) (hl : a.length = b.length) (hb : a.length ≤ 1152921504606846976) : ∀ (d i : Nat) (k : Nat), a.length - i = d → i ≤ a.length → d < k →
    slices_Equal_int_int.l0 k a b (a.length : Int) (i : Int) = some (decide (a.drop i = b.drop i)) := by
  intro d
  induction d with
  | zero =>
    intro i k hd hi hk
    obtain ⟨k, rfl⟩ : ∃ m, k = m + 1 := ⟨k - 1, by omega⟩
    rw [slices_Equal_int_int.l0, if_neg (by omega)]
    simp [List.drop_eq_nil_of_le (show a.length ≤ i by omega), List.drop_eq_nil_of_le (show b.length ≤ i by omega)]
  | succ d ih =>
    intro i k hd hi hk
    obtain ⟨k, rfl⟩ : ∃ m, k = m + 1 := ⟨k - 1, by omega⟩
    have h1 : i < a.length := by omega
    rw [slices_Equal_int_int.l0, if_pos (by omega), if_pos (by omega), if_pos (by omega), if_pos (by omega), w64 _ (by omega) (by omega), rd_nat _ _ h1, rd_nat _ _ (show i < b.length by omega)]
    rw [show ((i : Int) + 1) = ((i + 1 : Nat) : Int) by omega, ih (i + 1) k (by omega) (by omega) (by omega)]
    rw [drop_cons a i h1, drop_cons b i (by omega)]
    generalize a.drop (i + 1) = ta, b.drop (i + 1) = tb
    by_cases h : a[i] = b[i]
    · simp [h]
    · simp [h]
theorem kEqual_ev (a b : List Int) (hb : a.length ≤ 1152921504606846976) : Ev (fun k => slices_Equal_int_int.f k a b) (decide (a = b)) := by
  refine ⟨a.length + 1, fun k hk => ?_⟩
  simp only [slices_Equal_int_int.f]
  by_cases h : a.length = b.length
  · rw [if_pos (by omega)]
    have := kEqual_l0 a b h hb a.length 0 k (by omega) (by omega) (by omega)
    simpa using this
  · rw [if_neg (by omega)]
    congr 1
    symm
    apply decide_eq_false
    intro e
    exact h (by rw [e])
open Classical in
theorem quiet_ev (D : List Int → List Int → Bool) (are : List Int → List Int → Option Bool) (hD : ∀ x y, Cell6 x → Cell6 y → are x y = some (!D x y)) (hself : ∀ x, D x x = true) (r c : Int) (l : List Int) (h : boardB r c l = true) (L : List (List Int)) (hL : L.length ≤ 1152921504606846976) :
    Ev (fun k => impl_Board_quiet.f k r c l L are) (quietR D r c l L) := by
  obtain ⟨hr, hc, hl, hm⟩ := (boardB_iff r c l).1 h
  obtain ⟨K, hK⟩ := ev_get (quiet_loop L (cellV r c l) D (fun k i => impl_Board_quiet.l0 k L are L (L.length : Int) i r c l)
      (fun k i j => impl_Board_quiet.l1 k L are (L.getD i []) L (L.length : Int) (i : Int) (L.take i) ((L.take i).length : Int) j r c l) hL
      (fun k i hi => by show impl_Board_quiet.l0 (k + 1) _ _ _ _ (i : Int) _ _ _ = _; rw [impl_Board_quiet.l0, if_neg (by omega)])
      (fun i hi => by
        have hj : ∀ (k : Nat) (b : Bool), impl_Board_quiet.j1 (k + 1) L are (i : Int) L[i] L (L.length : Int) (i : Int) b r c l = if b = true then some false else impl_Board_quiet.l1 k L are (L.getD i []) L (L.length : Int) (i : Int) (L.take i) ((L.take i).length : Int) 0 r c l := by
          intro k b
          rw [impl_Board_quiet.j1, if_pos (show (0 : Int) ≤ (i : Int) by omega), if_pos (show (i : Int) ≤ (L.length : Int) by omega), Option.bind_some, show ((i : Int)).toNat = i by omega, List.getD_eq_getElem?_getD, List.getElem?_eq_getElem hi]
          rfl
        refine ⟨0, fun k hk => ?_⟩
        show impl_Board_quiet.l0 (k + 2) _ _ _ _ (i : Int) _ _ _ = _
        rw [impl_Board_quiet.l0, if_pos (by omega), if_pos (by omega), if_pos (by omega), rdL_nat _ _ hi]
        by_cases h2 : L[i].length = 2
        · rw [if_pos (by omega), if_pos (by omega), if_pos (by omega), place_eq r c l _ _ (by omega) (by omega), Option.bind_some]
          by_cases h3 : placeB r c (rd L[i] 0) (rd L[i] 1) = true
          · have hp := of_decide_eq_true h3
            rw [if_pos h3, has_eq h (by omega) (by omega) (by omega) (by omega), Option.bind_some, hj]
            unfold cellV
            rw [decide_eq_true h2, h3]
            cases hasC l (rd L[i] 0) (rd L[i] 1) <;> simp
          · rw [if_neg h3, hj]
            unfold cellV
            rw [Bool.eq_false_iff.2 h3]; simp
        · rw [if_neg (by omega), hj]
          unfold cellV
          rw [decide_eq_false h2]; simp)
      (fun i hi k j hj => by
        show impl_Board_quiet.l1 (k + 1) _ _ _ _ _ _ _ _ (j : Int) _ _ _ = _
        rw [impl_Board_quiet.l1, if_neg (by rw [List.length_take]; omega), w64 _ (by omega) (by omega), show ((i : Int) + 1) = ((i + 1 : Nat) : Int) by omega])
      (fun i hi j hj hv1 hv2 => by
        have hc1 := cellV_cell h hv1
        obtain ⟨K, hK⟩ := ev_get (kEqual_ev L[i] (L[j]'(by omega)) (by obtain ⟨p, q, e, _⟩ := hc1; rw [e]; simp))
        refine ⟨K, fun k hk => ?_⟩
        have hjt : j < (L.take i).length := by rw [List.length_take]; omega
        show impl_Board_quiet.l1 (k + 1) _ _ _ _ _ _ _ _ (j : Int) _ _ _ = _
        rw [impl_Board_quiet.l1, if_pos (by omega), if_pos (by omega), if_pos (by omega), rdL_nat _ _ hjt, List.getElem_take, List.getD_eq_getElem?_getD, List.getElem?_eq_getElem hi, Option.getD_some, hK k (by omega), Option.bind_some, w64 ((j : Int) + 1) (by omega) (by omega), show ((j : Int) + 1) = ((j + 1 : Nat) : Int) by omega]
        by_cases he : L[i] = L[j]'(by omega)
        · rw [decide_eq_true he, if_pos rfl, he, if_pos (hself _)]
        · rw [decide_eq_false he, if_neg (by simp)]
          have := hD _ _ hc1 (cellV_cell h hv2)
          simp only [FnCall50.f, this, Option.bind_some]
          cases D L[i] (L[j]'(by omega)) <;> simp)
      L.length 0 (by omega) (by omega) (fun j hj => by omega))
  refine ⟨K, fun k hk => ?_⟩
  simp only [impl_Board_quiet.f]
  exact hK k hk
end Go.Proofs.Ythibohakolgfbaa.P
namespace Go.Proofs.Ythibohakolgfbaa.Pure
open Go.RowKit Go.Proofs.Ythibohakolgfbaa.P Go.Proofs.YthibohakolgfbaaW.PrintWords Go.Proofs.YthibohakolgfbaaW.PrintLast
set_option linter.unusedSimpArgs false
set_option linter.unusedVariables false
namespace FnExactAreQuietKings
noncomputable def R (r c : Int) (l : List Int) (L : List (List Int)) : Bool × Bool := if boardB r c l = true then (quietR nearB r c l L, true) else (false, false)
theorem spec_ev (r c : Int) (l : List Int) (L : List (List Int)) (hb : l.length ≤ 1152921504606846976) (hb2 : L.length ≤ 1152921504606846976) (hx : ∀ x ∈ L, x.length ≤ 1048576) : Ev (fun k => spec_AreQuietKings.f k r c l L) (R r c l L) := by
  obtain ⟨K1, h1⟩ := ev_get (boGood_ev r c l hb)
  unfold R
  by_cases h : boardB r c l = true
  · obtain ⟨K2, h2⟩ := ev_get (biQuiet_ev nearB 1 (fun x y hx hy => biDisturb1_eq hx hy) near_self r c l h L hb2 hb)
    refine ⟨K1 + K2, fun k hk => ?_⟩
    simp only [spec_AreQuietKings.f, h1 k (by omega), Option.bind_some, if_pos h, h2 k (by omega)]
  · refine ⟨K1, fun k hk => ?_⟩
    simp only [spec_AreQuietKings.f, h1 k (by omega), Option.bind_some, if_neg h]
theorem impl_ev (r c : Int) (l : List Int) (L : List (List Int)) (hb : l.length ≤ 1152921504606846976) (hb2 : L.length ≤ 1152921504606846976) (hx : ∀ x ∈ L, x.length ≤ 1048576) : Ev (fun k => impl_AreQuietKings.f k r c l L) (R r c l L) := by
  unfold R
  by_cases h : boardB r c l = true
  · obtain ⟨K2, h2⟩ := ev_get (quiet_ev nearB impl_asKings.fn (fun x y hx hy => asKings_eq hx hy) near_self r c l h L hb2)
    refine ⟨K2, fun k hk => ?_⟩
    simp only [impl_AreQuietKings.f, impl_IsBoard.f, Option.bind_some, if_pos h, h2 k (by omega)]
  · refine ⟨0, fun k hk => ?_⟩
    simp only [impl_AreQuietKings.f, impl_IsBoard.f, Option.bind_some, if_neg h]
end FnExactAreQuietKings
open FnExactAreQuietKings in
theorem FnExactAreQuietKings : laws_FnExactAreQuietKings.Pure := by
  intro a0_0 a0_1 l0_2 l1 hy0 hy1 hy2 hy3
  have hl_l0_2 := hy2.1
  simp only [maxLen] at hl_l0_2
  have hl_l1 := hy3.1
  simp only [maxLen] at hl_l1
  have hr_l1 : ∀ x ∈ l1, x.length ≤ maxLen := fun x hx => (hy3.2 x hx).1
  by_cases hb_l0_2 : (1048576 : Int) - l0_2.length < 0
  · refine ⟨0, ?_⟩
    unfold laws_FnExactAreQuietKings.f
    rw [szBoard_eq a0_0 a0_1 l0_2 _ (by omega) (by omega) (by simp only [maxLen]; omega), if_pos hb_l0_2, Option.bind_some, if_pos (by omega)]
  have h1 := (szBoard_eq a0_0 a0_1 l0_2 ((1048576 : Int)) (by omega) (by omega) (by simp only [maxLen]; omega)).trans (by rw [if_neg hb_l0_2])
  obtain ⟨Kz, hz⟩ := ev_get (szIntSS_evL l1 ((1048576 : Int) - l0_2.length) (by omega) (by omega) (by simp only [maxLen]; omega) hr_l1)
  by_cases hb_l1 : (1048576 : Int) - l0_2.length < (l1.length : Int) + total l1
  · refine ⟨Kz, ?_⟩
    unfold laws_FnExactAreQuietKings.f
    rw [h1, Option.bind_some, if_neg (by omega)]
    rw [hz _ (by omega), if_pos hb_l1, Option.bind_some, if_pos (by omega)]
  rw [if_neg hb_l1] at hz
  have hx_l1 : ∀ x ∈ l1, x.length ≤ 1048576 := fun x hx => by have := total_mem hx; omega
  have ez_l1 : ¬ ((1048576 : Int) - l0_2.length - (l1.length : Int) - (total l1 : Int) < 0) := by omega
  obtain ⟨K3, h3⟩ := ev_get (spec_ev a0_0 a0_1 l0_2 l1 (by omega) (by omega) hx_l1)
  obtain ⟨K4, h4⟩ := ev_get (impl_ev a0_0 a0_1 l0_2 l1 (by omega) (by omega) hx_l1)
  generalize R a0_0 a0_1 l0_2 l1 = R at *
  obtain ⟨K5, h5⟩ := ev_get (toBoard_ev a0_0 a0_1 l0_2 (by omega))
  obtain ⟨K6, h6⟩ := ev_get (eqBoard_ev a0_0 a0_1 l0_2 (by omega))
  obtain ⟨K7, h7⟩ := ev_get (markBoard_ev a0_0 a0_1 l0_2 (by omega))
  have em_l0_2 : ¬ ((1 : Int) + l0_2.length < 0) := by omega
  obtain ⟨K8, h8⟩ := ev_get (toIntSS_ev l1 (by omega) (fun x h => by have := hx_l1 x h; omega))
  obtain ⟨K9, h9⟩ := ev_get (eqIntSS_ev l1 l1 (by omega) (fun x h => by have := hx_l1 x h; omega))
  obtain ⟨m, hm⟩ : ∃ m, m = Kz + K3 + K4 + K5 + K6 + K7 + K8 + K9 := ⟨_, rfl⟩
  replace hz := fun j => hz (m + j) (by omega)
  replace h3 := fun j => h3 (m + j) (by omega)
  replace h4 := fun j => h4 (m + j) (by omega)
  replace h5 := fun j => h5 (m + j) (by omega)
  replace h6 := fun j => h6 (m + j) (by omega)
  replace h7 := fun j => h7 (m + j) (by omega)
  replace h8 := fun j => h8 (m + j) (by omega)
  replace h9 := fun j => h9 (m + j) (by omega)
  clear hm
  refine ⟨m + 2, ?_⟩
  unfold laws_FnExactAreQuietKings.f
  simp only [h1, hz, h3, h4, h5, h6, h7, h8, h9, Option.bind_some, decide_true, if_true, bne_self_eq_false, Bool.false_eq_true, if_false, if_neg hb_l0_2, if_neg ez_l1, if_neg em_l0_2]
  rw [laws_FnExactAreQuietKings.j0]
  simp only [h1, hz, h3, h4, h5, h6, h7, h8, h9, Option.bind_some, decide_true, if_true, bne_self_eq_false, Bool.false_eq_true, if_false, if_neg hb_l0_2, if_neg ez_l1, if_neg em_l0_2]
end Go.Proofs.Ythibohakolgfbaa.Pure
