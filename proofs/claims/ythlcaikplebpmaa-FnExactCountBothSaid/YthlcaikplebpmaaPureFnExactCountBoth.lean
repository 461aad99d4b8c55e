/- For every board and number CountBoth returns what the reference returns, and leaves its board as it was: no condition but that the arguments can be read. -/
import Derived.Test.YthlcaikplebpmaaPx0
import Derived.Test.YthlcaikplebpmaaQ5ef8b885d4
import Derived.Test.YthlcaikplebpmaaQ50d09ce642
import Derived.Test.YthlcaikplebpmaaQca6e7afeae
namespace Go.Proofs.Ythlcaikplebpmaa.P
open Go.RowKit Go.Proofs.YthlcaikplebpmaaW.PrintWords Go.Proofs.YthlcaikplebpmaaW.PrintLast Go.Proofs.YthlcaikplebpmaaW.PrintMore
set_option linter.unusedVariables false
set_option linter.unusedSimpArgs false
theorem w64 (n : Int) (h : -9223372036854775808 ≤ n) (h2 : n ≤ 9223372036854775807) : wrap64 n = n := by unfold wrap64; omega
theorem rd_nat (l : List Int) (i : Nat) (h : i < l.length) : rd l (i : Int) = l[i] := by
  unfold rd; simp [List.getD_eq_getElem?_getD, List.getElem?_eq_getElem h]
theorem drop_cons (l : List Int) (i : Nat) (h : i < l.length) : l.drop i = l[i] :: l.drop (i + 1) := List.drop_eq_getElem_cons h
theorem ev_get {α : Type} {g : Nat → Option α} {r : α} (h : Ev g r) : ∃ K, ∀ k, K ≤ k → g k = some r := h
theorem take_set_succ {α : Type} (l : List α) (i : Nat) (x : α) (h : i < l.length) : (l.set i x).take (i + 1) = l.take i ++ [x] := by
  rw [List.take_add_one, List.take_set_of_le (Nat.le_refl _)]
  simp [h]
theorem toIntS_l0 (x0 : List Int) (hl : x0.length ≤ 1152921504606846976) : ∀ (d i : Nat) (x3 : List Int) (k : Nat), x0.length - i = d → i ≤ x0.length → x3.length = x0.length → d < k →
    laws_toIntS.l0 k x0 x3 (i : Int) = some (x3.take i ++ x0.drop i) := by
  intro d
  induction d with
  | zero =>
    intro i x3 k hd hi hx hk
    obtain ⟨k, rfl⟩ : ∃ m, k = m + 1 := ⟨k - 1, by omega⟩
    rw [laws_toIntS.l0, if_neg (by omega)]
    have : i = x0.length := by omega
    subst this
    simp [← hx]
  | succ d ih =>
    intro i x3 k hd hi hx hk
    obtain ⟨k, rfl⟩ : ∃ m, k = m + 1 := ⟨k - 1, by omega⟩
    have h1 : i < x0.length := by omega
    rw [laws_toIntS.l0, if_pos (by omega), if_pos (by omega), if_pos (by omega), w64 _ (by omega) (by omega)]
    have := ih (i + 1) (x3.set i (rd x0 i)) k (by omega) (by omega) (by simp [hx]) (by omega)
    rw [show ((i : Int) + 1) = ((i + 1 : Nat) : Int) by omega, show (i : Int).toNat = i by omega, this, rd_nat _ _ h1, drop_cons x0 i h1]
    congr 1
    rw [take_set_succ _ _ _ (by omega)]
    simp
theorem toIntS_ev (l : List Int) (hl : l.length ≤ 35184372088832) : Ev (fun k => laws_toIntS.f k l) l := by
  refine ⟨l.length + 1, fun k hk => ?_⟩
  simp only [laws_toIntS.f]
  rw [if_pos (by omega), if_pos (by omega)]
  have := toIntS_l0 l (by omega) l.length 0 (List.replicate l.length 0) k (by omega) (by omega) (by simp) (by omega)
  simpa using this
theorem eqIntS_l0 (a b : List Int) (hl : a.length = b.length) (hb : a.length ≤ 1152921504606846976) : ∀ (d i : Nat) (k : Nat), a.length - i = d → i ≤ a.length → d < k →
    laws_eqIntS.l0 k a b (i : Int) = some (decide (a.drop i = b.drop i)) := by
  intro d
  induction d with
  | zero =>
    intro i k hd hi hk
    obtain ⟨k, rfl⟩ : ∃ m, k = m + 1 := ⟨k - 1, by omega⟩
    rw [laws_eqIntS.l0, if_neg (by omega)]
    simp [List.drop_eq_nil_of_le (show a.length ≤ i by omega), List.drop_eq_nil_of_le (show b.length ≤ i by omega)]
  | succ d ih =>
    intro i k hd hi hk
    obtain ⟨k, rfl⟩ : ∃ m, k = m + 1 := ⟨k - 1, by omega⟩
    have h1 : i < a.length := by omega
    rw [laws_eqIntS.l0, if_pos (by omega), if_pos (by omega), if_pos (by omega), w64 _ (by omega) (by omega), rd_nat _ _ h1, rd_nat _ _ (show i < b.length by omega)]
    rw [show ((i : Int) + 1) = ((i + 1 : Nat) : Int) by omega, ih (i + 1) k (by omega) (by omega) (by omega)]
    rw [drop_cons a i h1, drop_cons b i (by omega)]
    generalize a.drop (i + 1) = ta, b.drop (i + 1) = tb
    by_cases h : a[i] = b[i]
    · simp [h]
    · simp [h]
theorem eqIntS_ev (a b : List Int) (hb : a.length ≤ 1152921504606846976) : Ev (fun k => laws_eqIntS.f k a b) (decide (a = b)) := by
  refine ⟨a.length + 1, fun k hk => ?_⟩
  simp only [laws_eqIntS.f]
  by_cases h : a.length = b.length
  · rw [if_pos (by omega)]
    have := eqIntS_l0 a b h hb a.length 0 k (by omega) (by omega) (by omega)
    simpa using this
  · rw [if_neg (by omega)]
    congr 1
    symm
    apply decide_eq_false
    intro e
    exact h (by rw [e])
def inB (n lo hi : Int) : Bool := decide (lo ≤ n ∧ n ≤ hi)
theorem l1In_eq (a b c : Int) : spec_l1In.f a b c = some (inB a b c) := by
  unfold spec_l1In.f inB
  by_cases h : a ≥ b
  · rw [if_pos h]; congr 1; simp; omega
  · rw [if_neg h]; congr 1; symm; apply decide_eq_false; omega
theorem within_eq (a b c : Int) : impl_within.f a b c = some (inB a b c) := by
  unfold impl_within.f inB
  by_cases h : b ≤ a
  · rw [if_pos h]; congr 1; simp; omega
  · rw [if_neg h]; congr 1; symm; apply decide_eq_false; omega
def allIn (l : List Int) (lo hi : Int) : Bool := l.all fun x => inB x lo hi
theorem l1All_l0 (lo hi : Int) (l : List Int) (hb : l.length ≤ 1152921504606846976) : ∀ (d i : Nat) (k : Nat), l.length - i = d → i ≤ l.length → d < k →
    spec_l1All.l0 k lo hi l (l.length : Int) (i : Int) = some (allIn (l.drop i) lo hi) := by
  intro d
  induction d with
  | zero =>
    intro i k hd hi' hk
    obtain ⟨k, rfl⟩ : ∃ m, k = m + 1 := ⟨k - 1, by omega⟩
    rw [spec_l1All.l0, if_neg (by omega), List.drop_eq_nil_of_le (by omega)]
    rfl
  | succ d ih =>
    intro i k hd hi' hk
    obtain ⟨k, rfl⟩ : ∃ m, k = m + 1 := ⟨k - 1, by omega⟩
    have h1 : i < l.length := by omega
    rw [spec_l1All.l0, if_pos (by omega), if_pos (by omega), if_pos (by omega), l1In_eq, Option.bind_some, w64 _ (by omega) (by omega), rd_nat _ _ h1]
    rw [show ((i : Int) + 1) = ((i + 1 : Nat) : Int) by omega, ih (i + 1) k (by omega) (by omega) (by omega), drop_cons l i h1]
    unfold allIn
    rw [List.all_cons]
    generalize l.drop (i + 1) = tl
    by_cases h : inB l[i] lo hi = true
    · rw [if_pos h, h]; simp
    · rw [if_neg h]; simp at h; rw [h]; simp
theorem l1All_ev (l : List Int) (lo hi : Int) (hb : l.length ≤ 1152921504606846976) : Ev (fun k => spec_l1All.f k l lo hi) (allIn l lo hi) := by
  refine ⟨l.length + 1, fun k hk => ?_⟩
  simp only [spec_l1All.f]
  have := l1All_l0 lo hi l hb l.length 0 k (by omega) (by omega) (by omega)
  simpa using this
end Go.Proofs.Ythlcaikplebpmaa.P
namespace Go.Proofs.Ythlcaikplebpmaa.P
open Go.RowKit Go.Proofs.YthlcaikplebpmaaW.PrintWords Go.Proofs.YthlcaikplebpmaaW.PrintLast Go.Proofs.YthlcaikplebpmaaW.PrintMore
set_option linter.unusedVariables false
set_option linter.unusedSimpArgs false
theorem boardB_iff (r c : Int) (l : List Int) : boardB r c l = true ↔ (1 ≤ r ∧ r ≤ 6) ∧ (1 ≤ c ∧ c ≤ 6) ∧ (l.length : Int) = r ∧ ∀ m ∈ l, 0 ≤ m ∧ m ≤ 2 ^ c.toNat - 1 := by
  unfold boardB
  simp only [Bool.and_eq_true, decide_eq_true_eq, List.all_eq_true]
  constructor
  · rintro ⟨⟨⟨a, b⟩, c⟩, d⟩; exact ⟨a, b, c, d⟩
  · rintro ⟨a, b, c, d⟩; exact ⟨⟨⟨a, b⟩, c⟩, d⟩
theorem shl_one (c : Int) (h0 : 0 ≤ c) (h1 : c ≤ 62) : shl .i64 1 c = 2 ^ c.toNat := by
  unfold shl
  rw [Int.one_mul, Nat.min_eq_left (show c.toNat ≤ IntKind.i64.bits by have : IntKind.i64.bits = 64 := rfl; omega)]
  rw [i64_w, w64]
  · have : (0 : Int) ≤ 2 ^ c.toNat := Int.le_of_lt (Int.pow_pos (by decide))
    omega
  · have h : (2 : Int) ^ c.toNat ≤ 2 ^ 62 := by
      have := Nat.pow_le_pow_right (show 0 < 2 by decide) (show c.toNat ≤ 62 by omega)
      exact_mod_cast this
    have e : (2 : Int) ^ 62 = 4611686018427387904 := by decide
    omega
theorem pow_le6 (c : Int) (h1 : c ≤ 6) : (2 : Int) ^ c.toNat ≤ 64 := by
  have := Nat.pow_le_pow_right (show 0 < 2 by decide) (show c.toNat ≤ 6 by omega)
  have h : (2 : Int) ^ c.toNat ≤ 2 ^ 6 := by exact_mod_cast this
  exact h
theorem pow_pos2 (c : Int) : (1 : Int) ≤ 2 ^ c.toNat := by
  have : (0 : Int) < 2 ^ c.toNat := Int.pow_pos (by decide)
  omega
theorem boSide_eq (a : Int) : spec_boSide.f a = some (inB a 1 6) := by
  simp only [spec_boSide.f, l1In_eq, Option.bind_some]
theorem boGood_ev (r c : Int) (l : List Int) (hb : l.length ≤ 1152921504606846976) : Ev (fun k => spec_boGood.f k r c l) (boardB r c l) := by
  by_cases h1 : 1 ≤ r ∧ r ≤ 6
  · by_cases h2 : 1 ≤ c ∧ c ≤ 6
    · by_cases h3 : (l.length : Int) = r
      · obtain ⟨K, hK⟩ := ev_get (l1All_ev l 0 (2 ^ c.toNat - 1) hb)
        refine ⟨K, fun k hk => ?_⟩
        have hp := pow_le6 c h2.2
        have hp2 := pow_pos2 c
        simp only [spec_boGood.f, boSide_eq, Option.bind_some]
        rw [if_pos (by simpa [inB] using h1), if_pos (by simpa [inB] using h2), if_pos h3, if_pos (by omega), shl_one c (by omega) (by omega), w64 _ (by omega) (by omega), hK k hk, Option.bind_some]
        congr 1
        unfold boardB allIn inB
        simp [h1, h2, h3]
      · refine ⟨0, fun k hk => ?_⟩
        simp only [spec_boGood.f, boSide_eq, Option.bind_some]
        rw [if_pos (by simpa [inB] using h1), if_pos (by simpa [inB] using h2), if_neg h3]
        congr 1; unfold boardB; simp [h3]
    · refine ⟨0, fun k hk => ?_⟩
      simp only [spec_boGood.f, boSide_eq, Option.bind_some]
      rw [if_pos (by simpa [inB] using h1), if_neg (by simpa [inB] using h2)]
      congr 1; unfold boardB; rw [decide_eq_false h2]; simp
  · refine ⟨0, fun k hk => ?_⟩
    simp only [spec_boGood.f, boSide_eq, Option.bind_some]
    rw [if_neg (by simpa [inB] using h1)]
    congr 1; unfold boardB; rw [decide_eq_false h1]; simp
theorem szBoard_eq (r c : Int) (l : List Int) (left : Int) (h0 : 0 ≤ left) (h1 : left ≤ 1048576) (hl : l.length ≤ maxLen) : laws_szBoard.f r c l left = some (if left - l.length < 0 then -1 else left - l.length) := by
  simp only [laws_szBoard.f, laws_szIntS.f]
  simp only [maxLen] at hl
  rw [w64 _ (by omega) (by omega)]
  split
  · simp only [Option.bind_some]; simp
  · simp only [Option.bind_some]; simp [*]
theorem toBoard_ev (r c : Int) (l : List Int) (hl : l.length ≤ 35184372088832) : Ev (fun k => laws_toBoard.f k r c l) (r, c, l) := by
  obtain ⟨K, hK⟩ := ev_get (toIntS_ev l hl)
  refine ⟨K, fun k hk => ?_⟩
  simp only [laws_toBoard.f, hK k hk, Option.bind_some]
theorem eqBoard_ev (r c : Int) (l : List Int) (hb : l.length ≤ 1152921504606846976) : Ev (fun k => laws_eqBoard.f k r c l r c l) true := by
  obtain ⟨K, hK⟩ := ev_get (eqIntS_ev l l hb)
  refine ⟨K, fun k hk => ?_⟩
  simp only [laws_eqBoard.f, hK k hk, Option.bind_some, if_true, decide_true]
end Go.Proofs.Ythlcaikplebpmaa.P
namespace Go.Proofs.Ythlcaikplebpmaa.P
open Go.RowKit Go.Proofs.YthlcaikplebpmaaW.PrintWords Go.Proofs.YthlcaikplebpmaaW.PrintLast Go.Proofs.YthlcaikplebpmaaW.PrintMore
set_option linter.unusedVariables false
set_option linter.unusedSimpArgs false
theorem rdL_nat (s : List (List Int)) (i : Nat) (h : i < s.length) : rd_L1 s (i : Int) = s[i] := by
  unfold rd_L1; simp [List.getD_eq_getElem?_getD, List.getElem?_eq_getElem h]
end Go.Proofs.Ythlcaikplebpmaa.P
namespace Go.Proofs.Ythlcaikplebpmaa.P
open Go.RowKit Go.Proofs.YthlcaikplebpmaaW.PrintWords Go.Proofs.YthlcaikplebpmaaW.PrintLast Go.Proofs.YthlcaikplebpmaaW.PrintMore
set_option linter.unusedVariables false
set_option linter.unusedSimpArgs false
/-- A mask has a column. -/
def hasM (m : Int) (j : Int) : Bool := Int.tmod (shr .i64 m j) 2 == 1
theorem has_bits : ∀ m : Fin 64, ∀ c : Fin 6, (Go.bits .and .i64 (shr .i64 (m.val : Int) (c.val : Int)) 1 == 1) = hasM (m.val : Int) (c.val : Int) := by decide +kernel
theorem has_bits' (m c : Int) (h0 : 0 ≤ m) (h1 : m ≤ 63) (h2 : 0 ≤ c) (h3 : c ≤ 5) : (Go.bits .and .i64 (shr .i64 m c) 1 == 1) = hasM m c := by
  have h := has_bits ⟨m.toNat, by omega⟩ ⟨c.toNat, by omega⟩
  simp only [show ((m.toNat : Nat) : Int) = m by omega, show ((c.toNat : Nat) : Int) = c by omega] at h
  exact h
/-- The board has the cell. -/
def hasC (l : List Int) (i j : Int) : Bool := hasM (rd l i) j
theorem board_row {r c : Int} {l : List Int} (h : boardB r c l = true) {i : Int} (h0 : 0 ≤ i) (h1 : i < r) : 0 ≤ rd l i ∧ rd l i ≤ 63 := by
  obtain ⟨hr, hc, hl, hm⟩ := (boardB_iff r c l).1 h
  have hp6 := pow_le6 c hc.2
  have hx : i.toNat < l.length := by omega
  have := hm l[i.toNat] (List.getElem_mem hx)
  have e : rd l i = l[i.toNat] := by
    have := rd_nat l i.toNat hx
    rwa [show ((i.toNat : Nat) : Int) = i by omega] at this
  rw [e]; omega
theorem boHas_eq {r c : Int} {l : List Int} (h : boardB r c l = true) {i j : Int} (h0 : 0 ≤ i) (h1 : i < r) (h2 : 0 ≤ j) : spec_boHas.f r c l i j = some (hasC l i j) := by
  obtain ⟨hr, hc, hl, hm⟩ := (boardB_iff r c l).1 h
  simp only [spec_boHas.f]
  rw [if_pos h0, if_pos (by omega), if_pos h2]
  rfl
theorem has_eq {r c : Int} {l : List Int} (h : boardB r c l = true) {i j : Int} (h0 : 0 ≤ i) (h1 : i < r) (h2 : 0 ≤ j) (h3 : j < c) : impl_Board_has.f r c l i j = some (hasC l i j) := by
  obtain ⟨hr, hc, hl, hm⟩ := (boardB_iff r c l).1 h
  have hb := board_row h h0 h1
  simp only [impl_Board_has.f]
  rw [if_pos h0, if_pos (by omega), if_pos h2, has_bits' _ _ hb.1 hb.2 h2 (by omega)]
  rfl
theorem crange'_step (s n : Nat) (h : s < n) : List.range' s (n - s) = s :: List.range' (s + 1) (n - (s + 1)) := by
  rw [show n - s = (n - (s + 1)) + 1 by omega, List.range'_succ]
def cellRow (l : List Int) (i C j : Nat) : List (List Int) := (List.range' j (C - j)).flatMap fun (j : Nat) => if hasC l (i : Int) (j : Int) = true then [[(i : Int), (j : Int)]] else []
def cellsFrom (l : List Int) (R C i : Nat) : List (List Int) := (List.range' i (R - i)).flatMap fun (i : Nat) => cellRow l i C 0
theorem cellRow_step (l : List Int) (i C j : Nat) (h : j < C) : cellRow l i C j = (if hasC l (i : Int) (j : Int) = true then [[(i : Int), (j : Int)]] else []) ++ cellRow l i C (j + 1) := by
  unfold cellRow
  rw [crange'_step j C h, List.flatMap_cons]
theorem cellRow_nil (l : List Int) (i C j : Nat) (h : C ≤ j) : cellRow l i C j = [] := by
  unfold cellRow
  rw [show C - j = 0 by omega]; rfl
theorem cellsFrom_step (l : List Int) (R C i : Nat) (h : i < R) : cellsFrom l R C i = cellRow l i C 0 ++ cellsFrom l R C (i + 1) := by
  unfold cellsFrom
  rw [crange'_step i R h, List.flatMap_cons]
theorem cellsFrom_nil (l : List Int) (R C i : Nat) (h : R ≤ i) : cellsFrom l R C i = [] := by
  unfold cellsFrom
  rw [show R - i = 0 by omega]; rfl
theorem cellRow_len (l : List Int) (i C : Nat) : ∀ (d j : Nat), C - j = d → (cellRow l i C j).length ≤ d
  | 0, j, h => by rw [cellRow_nil l i C j (by omega)]; simp
  | d + 1, j, h => by
    rw [cellRow_step l i C j (by omega), List.length_append]
    have := cellRow_len l i C d (j + 1) (by omega)
    split <;> simp <;> omega
theorem cellsFrom_len (l : List Int) (R C : Nat) : ∀ (d i : Nat), R - i = d → (cellsFrom l R C i).length ≤ d * C
  | 0, i, h => by rw [cellsFrom_nil l R C i (by omega)]; simp
  | d + 1, i, h => by
    rw [cellsFrom_step l R C i (by omega), List.length_append, Nat.succ_mul]
    have := cellsFrom_len l R C d (i + 1) (by omega)
    have := cellRow_len l i C C 0 (by omega)
    omega
theorem cellRow_mem (l : List Int) (i C j : Nat) (x : List Int) : x ∈ cellRow l i C j ↔ ∃ q, j ≤ q ∧ q < C ∧ hasC l (i : Int) (q : Int) = true ∧ x = [(i : Int), (q : Int)] := by
  unfold cellRow
  rw [List.mem_flatMap]
  constructor
  · rintro ⟨q, hq, hx⟩
    rw [List.mem_range'_1] at hq
    split at hx
    · rename_i hh
      exact ⟨q, by omega, by omega, hh, by simpa using hx⟩
    · cases hx
  · rintro ⟨q, h1, h2, h3, rfl⟩
    refine ⟨q, by rw [List.mem_range'_1]; omega, ?_⟩
    rw [if_pos h3]; simp
theorem cellsFrom_mem (l : List Int) (R C i : Nat) (x : List Int) : x ∈ cellsFrom l R C i ↔ ∃ p q, i ≤ p ∧ p < R ∧ q < C ∧ hasC l (p : Int) (q : Int) = true ∧ x = [(p : Int), (q : Int)] := by
  unfold cellsFrom
  rw [List.mem_flatMap]
  constructor
  · rintro ⟨p, hp, hx⟩
    rw [List.mem_range'_1] at hp
    obtain ⟨q, _, h2, h3, h4⟩ := (cellRow_mem l p C 0 x).1 hx
    exact ⟨p, q, by omega, by omega, h2, h3, h4⟩
  · rintro ⟨p, q, h1, h2, h3, h4, h5⟩
    exact ⟨p, by rw [List.mem_range'_1]; omega, (cellRow_mem l p C 0 x).2 ⟨q, by omega, h3, h4, h5⟩⟩
def cells (r c : Int) (l : List Int) : List (List Int) := cellsFrom l r.toNat c.toNat 0
/-- Two numbers from 0 to 5. -/
def Cell6 (x : List Int) : Prop := ∃ p q : Int, x = [p, q] ∧ (0 ≤ p ∧ p ≤ 5) ∧ (0 ≤ q ∧ q ≤ 5)
theorem cells_cell {r c : Int} {l : List Int} (h : boardB r c l = true) {x : List Int} (hx : x ∈ cells r c l) : Cell6 x := by
  obtain ⟨hr, hc, _, _⟩ := (boardB_iff r c l).1 h
  obtain ⟨p, q, _, h2, h3, _, rfl⟩ := (cellsFrom_mem l _ _ _ x).1 hx
  exact ⟨p, q, rfl, by omega, by omega⟩
theorem cells_len {r c : Int} {l : List Int} (h : boardB r c l = true) : (cells r c l).length ≤ 36 := by
  obtain ⟨hr, hc, _, _⟩ := (boardB_iff r c l).1 h
  have := cellsFrom_len l r.toNat c.toNat r.toNat 0 (by omega)
  have h2 : r.toNat * c.toNat ≤ 6 * 6 := Nat.mul_le_mul (by omega) (by omega)
  unfold cells; omega
theorem CellsOf_ev (r c : Int) (l : List Int) : Ev (fun k => impl_CellsOf.f k r c l) (if boardB r c l = true then (cells r c l, true) else ([], false)) := by
  by_cases h0 : ¬ boardB r c l = true
  · refine ⟨0, fun k hk => ?_⟩
    simp only [impl_CellsOf.f, impl_IsBoard.f, Option.bind_some, if_neg h0]
  have h := Classical.not_not.1 h0
  rw [if_pos h]
  obtain ⟨hr, hc, hl, hm⟩ := (boardB_iff r c l).1 h
  obtain ⟨R, rfl⟩ : ∃ R : Nat, r = R := ⟨r.toNat, by omega⟩
  obtain ⟨C, rfl⟩ : ∃ C : Nat, c = C := ⟨c.toNat, by omega⟩
  have hout : ∀ (d i : Nat) (acc : List (List Int)), R - i = d → i ≤ R → acc.length ≤ 6 * i → Ev (fun k => impl_CellsOf.l0 k acc (R : Int) (i : Int) (R : Int) (C : Int) l) (acc ++ cellsFrom l R C i, true) := by
    intro d
    induction d with
    | zero =>
      intro i acc hd hi ha
      refine ⟨1, fun k hk => ?_⟩
      obtain ⟨k, rfl⟩ : ∃ m, k = m + 1 := ⟨k - 1, by omega⟩
      dsimp only
      rw [impl_CellsOf.l0, if_neg (by omega), cellsFrom_nil l R C i (by omega), List.append_nil]
    | succ d ih =>
      intro i acc hd hi ha
      have hin : ∀ (e j : Nat) (acc : List (List Int)), C - j = e → j ≤ C → acc.length ≤ 6 * i + j → Ev (fun k => impl_CellsOf.l1 k acc (i : Int) (R : Int) (i : Int) (C : Int) (j : Int) (R : Int) (C : Int) l) (acc ++ cellRow l i C j ++ cellsFrom l R C (i + 1), true) := by
        intro e
        induction e with
        | zero =>
          intro j acc he hj ha
          obtain ⟨K, hK⟩ := ev_get (ih (i + 1) acc (by omega) (by omega) (by omega))
          refine ⟨K + 1, fun k hk => ?_⟩
          obtain ⟨k, rfl⟩ : ∃ m, k = m + 1 := ⟨k - 1, by omega⟩
          dsimp only
          rw [impl_CellsOf.l1, if_neg (by omega), cellRow_nil l i C j (by omega), List.append_nil, w64 _ (by omega) (by omega), show ((i : Int) + 1) = ((i + 1 : Nat) : Int) by omega]
          exact hK k (by omega)
        | succ e ihe =>
          intro j acc he hj ha
          obtain ⟨K1, h1⟩ := ev_get (ihe (j + 1) (acc ++ [[(i : Int), (j : Int)]]) (by omega) (by omega) (by simp; omega))
          obtain ⟨K2, h2⟩ := ev_get (ihe (j + 1) acc (by omega) (by omega) (by omega))
          refine ⟨K1 + K2 + 1, fun k hk => ?_⟩
          obtain ⟨k, rfl⟩ : ∃ m, k = m + 1 := ⟨k - 1, by omega⟩
          dsimp only
          rw [impl_CellsOf.l1, if_pos (by omega), has_eq h (by omega) (by omega) (by omega) (by omega), Option.bind_some, if_pos (show acc.length < 5864062014805 by omega), w64 ((j : Int) + 1) (by omega) (by omega), show ((j : Int) + 1) = ((j + 1 : Nat) : Int) by omega, h1 k (by omega), h2 k (by omega), cellRow_step l i C j (by omega)]
          by_cases hh : hasC l (i : Int) (j : Int) = true
          · rw [if_pos hh, if_pos hh]; simp [List.append_assoc]
          · rw [if_neg hh, if_neg hh]; simp
      obtain ⟨K, hK⟩ := ev_get (hin C 0 acc (by omega) (by omega) (by omega))
      refine ⟨K + 1, fun k hk => ?_⟩
      obtain ⟨k, rfl⟩ : ∃ m, k = m + 1 := ⟨k - 1, by omega⟩
      dsimp only
      rw [impl_CellsOf.l0, if_pos (by omega), cellsFrom_step l R C i (by omega), ← List.append_assoc]
      exact hK k (by omega)
  obtain ⟨K, hK⟩ := ev_get (hout R 0 [] (by omega) (by omega) (by simp))
  refine ⟨K, fun k hk => ?_⟩
  simp only [impl_CellsOf.f, impl_IsBoard.f, Option.bind_some, if_pos h]
  simpa [cells] using hK k hk
theorem rd0 (p q : Int) : rd [p, q] 0 = p := by simp [rd]
theorem rd1 (p q : Int) : rd [p, q] 1 = q := by simp [rd]
def attackB (x y : List Int) : Bool := decide ((rd x 0 - rd y 0).natAbs = (rd x 1 - rd y 1).natAbs)
def queenB (x y : List Int) : Bool := attackB x y || decide (rd x 0 = rd y 0) || decide (rd x 1 = rd y 1)
theorem asBishops_eq {x y : List Int} (hx : Cell6 x) (hy : Cell6 y) : impl_asBishops.f x y = some (!attackB x y) := by
  obtain ⟨p, q, rfl, h1, h2⟩ := hx
  obtain ⟨p', q', rfl, h3, h4⟩ := hy
  simp only [impl_asBishops.f, rd0, rd1]
  rw [if_pos (by simp), if_pos (by simp), if_pos (by simp), if_pos (by simp), w64 _ (by omega) (by omega), w64 _ (by omega) (by omega), w64 _ (by omega) (by omega), w64 _ (by omega) (by omega)]
  unfold attackB
  simp only [rd0, rd1]
  by_cases h : p + q = p' + q'
  · rw [if_pos h]; congr 1; rw [decide_eq_true (by omega)]; rfl
  · rw [if_neg h]; congr 1
    rw [Bool.eq_iff_iff, bne_iff_ne, Bool.not_eq_true', decide_eq_false_iff_not]
    omega
theorem asQueens_eq {x y : List Int} (hx : Cell6 x) (hy : Cell6 y) : impl_asQueens.f x y = some (!queenB x y) := by
  have ha := asBishops_eq hx hy
  obtain ⟨p, q, rfl, h1, h2⟩ := hx
  obtain ⟨p', q', rfl, h3, h4⟩ := hy
  simp only [impl_asQueens.f, ha, Option.bind_some, rd0, rd1]
  rw [if_pos (by simp), if_pos (by simp)]
  unfold queenB
  simp only [rd0, rd1]
  by_cases h : p = p'
  · rw [if_pos h]; simp [h]
  · rw [if_neg h, if_pos (by simp), if_pos (by simp)]
    by_cases h5 : q = q'
    · rw [if_pos h5]; simp [h5]
    · rw [if_neg h5]; simp [h, h5]
end Go.Proofs.Ythlcaikplebpmaa.P
namespace Go.Proofs.Ythlcaikplebpmaa.P
open Go.RowKit Go.Proofs.YthlcaikplebpmaaW.PrintWords Go.Proofs.YthlcaikplebpmaaW.PrintLast Go.Proofs.YthlcaikplebpmaaW.PrintMore
set_option linter.unusedVariables false
set_option linter.unusedSimpArgs false
section
variable {σ : Type} (D : List Int → List Int → Bool)
def clash (list : List (List Int)) (x : List Int) : Bool := list.any fun y => D y x
/-- What is told list by list, in order. -/
def goL (cb : σ → List (List Int) → Bool × σ) (most : Nat) : List (List Int) → List (List Int) → Bool × σ → Bool × σ
  | [], _, r => r
  | x :: rest, list, r => if r.1 = true then (if clash D list x = true then goL cb most rest list r else goL cb most rest list (if list.length + 1 = most then cb r.2 (list ++ [x]) else goL cb most rest (list ++ [x]) (cb r.2 (list ++ [x])))) else r
theorem goL_stop (cb : σ → List (List Int) → Bool × σ) (most : Nat) (suf list : List (List Int)) (s : σ) : goL D cb most suf list (false, s) = (false, s) := by
  cases suf with
  | nil => rfl
  | cons x rest => rw [goL, if_neg (by simp)]
/-- How many lists of k go on a list. -/
def cntL (k : Nat) : List (List Int) → List (List Int) → Nat
  | [], _ => 0
  | x :: rest, list => if clash D list x = true then cntL k rest list else (if list.length + 1 = k then 1 else cntL k rest (list ++ [x])) + cntL k rest list
theorem cntL_le (k : Nat) : ∀ suf list, cntL D k suf list ≤ 2 ^ suf.length
  | [], _ => by simp [cntL]
  | x :: rest, list => by
    have h1 := cntL_le k rest list
    have h2 := cntL_le k rest (list ++ [x])
    have h3 : 0 < 2 ^ rest.length := Nat.pow_pos (by decide)
    rw [cntL, List.length_cons, Nat.pow_succ]
    split
    · omega
    · split <;> omega
/-- The counter. -/
def cbC (k : Nat) (n : Int) (l : List (List Int)) : Bool × Int := (true, if l.length = k then wrap64 (n + 1) else n)
theorem goL_cnt (k : Nat) : ∀ suf list (n : Int), list.length < k → 0 ≤ n → n + (cntL D k suf list : Int) ≤ 4611686018427387904 → goL D (cbC k) k suf list (true, n) = (true, n + (cntL D k suf list : Int))
  | [], _, n, _, _, _ => by simp [goL, cntL]
  | x :: rest, list, n, hl, h0, h1 => by
    rw [goL, if_pos rfl]
    rw [cntL] at h1 ⊢
    by_cases hc : clash D list x = true
    · rw [if_pos hc] at h1 ⊢
      rw [if_pos hc]
      exact goL_cnt k rest list n hl h0 h1
    · rw [if_neg hc] at h1 ⊢
      rw [if_neg hc]
      by_cases hk : list.length + 1 = k
      · rw [if_pos hk] at h1 ⊢
        rw [if_pos hk]
        have : cbC k n (list ++ [x]) = (true, n + 1) := by
          unfold cbC
          rw [if_pos (by rw [List.length_append, List.length_singleton]; exact hk), w64 _ (by omega) (by omega)]
        show goL D (cbC k) k rest list (cbC k n (list ++ [x])) = _
        rw [this, goL_cnt k rest list (n + 1) hl (by omega) (by omega)]
        refine congrArg (fun z => (true, z)) ?_
        omega
      · rw [if_neg hk] at h1 ⊢
        rw [if_neg hk]
        have : cbC k n (list ++ [x]) = (true, n) := by
          unfold cbC
          rw [if_neg (by rw [List.length_append, List.length_singleton]; exact hk)]
        show goL D (cbC k) k rest list (goL D (cbC k) k rest (list ++ [x]) (cbC k n (list ++ [x]))) = _
        rw [this, goL_cnt k rest (list ++ [x]) n (by rw [List.length_append, List.length_singleton]; omega) h0 (by omega), goL_cnt k rest list _ hl (by omega) (by omega)]
        refine congrArg (fun z => (true, z)) ?_
        omega
end
end Go.Proofs.Ythlcaikplebpmaa.P
namespace Go.Proofs.Ythlcaikplebpmaa.P
open Go.RowKit Go.Proofs.YthlcaikplebpmaaW.PrintWords Go.Proofs.YthlcaikplebpmaaW.PrintLast Go.Proofs.YthlcaikplebpmaaW.PrintMore
set_option linter.unusedVariables false
set_option linter.unusedSimpArgs false
section
variable (D : List Int → List Int → Bool)
def rowS (k : Nat) (rest list : List (List Int)) : List (List Int) → Nat
  | [] => 0
  | x :: xs => (if clash D list x = true then 0 else if list.length + 1 = k then 1 else cntL D k rest (list ++ [x])) + rowS k rest list xs
theorem rowS_append (k : Nat) (rest list : List (List Int)) : ∀ a b, rowS D k rest list (a ++ b) = rowS D k rest list a + rowS D k rest list b
  | [], b => by simp [rowS]
  | x :: a, b => by rw [List.cons_append, rowS, rowS, rowS_append k rest list a b]; omega
theorem cntL_skip (k : Nat) (rest list : List (List Int)) : ∀ xs, (∀ x ∈ xs, clash D list x = true) → cntL D k (xs ++ rest) list = cntL D k rest list
  | [], _ => rfl
  | x :: xs, h => by
    rw [List.cons_append, cntL, if_pos (h x (List.mem_cons_self ..))]
    exact cntL_skip k rest list xs (fun y hy => h y (List.mem_cons_of_mem _ hy))
theorem cntL_row (k : Nat) (rest list : List (List Int)) : ∀ xs, (∀ x ∈ xs, ∀ y ∈ xs, D y x = true) → cntL D k (xs ++ rest) list = rowS D k rest list xs + cntL D k rest list
  | [], _ => by simp [rowS]
  | x :: xs, h => by
    have ih := cntL_row k rest list xs (fun y hy z hz => h y (List.mem_cons_of_mem _ hy) z (List.mem_cons_of_mem _ hz))
    rw [List.cons_append, cntL, rowS, ih]
    by_cases hc : clash D list x = true
    · rw [if_pos hc, if_pos hc]; omega
    · rw [if_neg hc, if_neg hc]
      have : cntL D k (xs ++ rest) (list ++ [x]) = cntL D k rest (list ++ [x]) := by
        refine cntL_skip D k rest _ xs (fun y hy => ?_)
        unfold clash
        rw [List.any_append]
        have := h y (List.mem_cons_of_mem _ hy) x (List.mem_cons_self ..)
        simp [this]
      rw [this]; omega
theorem rowS_zero (k : Nat) (rest list : List (List Int)) (h1 : list.length + 1 ≠ k) (h : ∀ x, cntL D k rest (list ++ [x]) = 0) : ∀ xs, rowS D k rest list xs = 0
  | [] => rfl
  | x :: xs => by
    rw [rowS, rowS_zero k rest list h1 h xs, if_neg h1, h x]
    split <;> rfl
end
theorem queen_row (x y : List Int) (h : rd x 0 = rd y 0) : queenB x y = true := by unfold queenB; simp [h]
theorem row_same {l : List Int} {i C j : Nat} : ∀ x ∈ cellRow l i C j, ∀ y ∈ cellRow l i C j, queenB y x = true := by
  intro x hx y hy
  obtain ⟨q, _, _, _, rfl⟩ := (cellRow_mem l i C j x).1 hx
  obtain ⟨q', _, _, _, rfl⟩ := (cellRow_mem l i C j y).1 hy
  exact queen_row _ _ (by rw [rd0, rd0])
theorem cnt_step (l : List Int) (R C k r : Nat) (list : List (List Int)) (h : r < R) : cntL queenB k (cellsFrom l R C r) list = rowS queenB k (cellsFrom l R C (r + 1)) list (cellRow l r C 0) + cntL queenB k (cellsFrom l R C (r + 1)) list := by
  rw [cellsFrom_step l R C r h]
  exact cntL_row queenB k _ list _ row_same
theorem cnt_few (l : List Int) (R C k : Nat) : ∀ (d r : Nat) (list : List (List Int)), R - r = d → list.length < k → d < k - list.length → cntL queenB k (cellsFrom l R C r) list = 0 := by
  intro d
  induction d with
  | zero =>
    intro r list hd hl hk
    rw [cellsFrom_nil l R C r (by omega)]
    rfl
  | succ d ih =>
    intro r list hd hl hk
    rw [cnt_step l R C k r list (by omega), ih (r + 1) list (by omega) hl (by omega), rowS_zero queenB k _ list (by omega) (fun x => ih (r + 1) _ (by omega) (by rw [List.length_append, List.length_singleton]; omega) (by rw [List.length_append, List.length_singleton]; omega))]
theorem rowS_le (D : List Int → List Int → Bool) (k : Nat) (rest list : List (List Int)) : ∀ xs, rowS D k rest list xs ≤ xs.length * 2 ^ rest.length
  | [] => by simp [rowS]
  | x :: xs => by
    have h1 := rowS_le D k rest list xs
    have h2 := cntL_le D k rest (list ++ [x])
    have h3 : 0 < 2 ^ rest.length := Nat.pow_pos (by decide)
    rw [rowS, List.length_cons, Nat.succ_mul]
    split
    · omega
    · split <;> omega
/-- The bits of a mask (of eleven). -/
def MaskOf (m : Int) (P : Nat → Bool) : Prop := ∃ n : Nat, m = (n : Int) ∧ n < 2 ^ 11 ∧ ∀ t, n.testBit t = P t
theorem mask_zero : MaskOf 0 (fun _ => false) := ⟨0, rfl, by decide, fun t => Nat.zero_testBit t⟩
theorem shl1 (s : Nat) (h : s < 11) : shl .i64 1 (s : Int) = ((2 ^ s : Nat) : Int) := by
  rw [shl_one _ (by omega) (by omega), Int.toNat_natCast]; simp
theorem mask_or {m : Int} {P : Nat → Bool} (h : MaskOf m P) {s : Nat} (hs : s < 11) : MaskOf (Go.bits .or .i64 m (shl .i64 1 (s : Int))) (fun t => P t || t == s) := by
  obtain ⟨n, rfl, hn, hb⟩ := h
  have hs2 : 2 ^ s < 2 ^ 11 := Nat.pow_lt_pow_right (by decide) hs
  refine ⟨n ||| 2 ^ s, ?_, Nat.or_lt_two_pow hn hs2, fun t => ?_⟩
  · rw [shl1 s hs]
    exact (bits_nat .i64 11 (by decide) (fun z h0 h1 => by have e : (2 : Int) ^ 11 = 2048 := by decide
                                                           rw [i64_w, w64 _ (by omega) (by omega)]) n (2 ^ s) hn hs2).2
  · rw [Nat.testBit_or, hb, Nat.testBit_two_pow]
    congr 1
    exact decide_eq_decide.2 ⟨fun e => e.symm, fun e => e.symm⟩
theorem shr_nat (n t : Nat) (ht : t ≤ 62) : shr .i64 (n : Int) (t : Int) = ((n / 2 ^ t : Nat) : Int) := by
  unfold shr
  rw [Int.toNat_natCast, Nat.min_eq_left (show t ≤ IntKind.i64.bits by have : IntKind.i64.bits = 64 := rfl; omega)]
  simp
theorem mask_get {m : Int} {P : Nat → Bool} (h : MaskOf m P) {t : Nat} (ht : t ≤ 62) : Int.tmod (shr .i64 m (t : Int)) 2 = if P t = true then 1 else 0 := by
  obtain ⟨n, rfl, hn, hb⟩ := h
  rw [shr_nat n t ht, Int.tmod_eq_emod_of_nonneg (Int.natCast_nonneg _)]
  generalize hz : n / 2 ^ t = z at *
  have h1 := hb t
  rw [Nat.testBit_eq_decide_div_mod_eq, hz] at h1
  rw [← h1]
  by_cases h2 : z % 2 = 1
  · rw [if_pos (decide_eq_true h2)]; omega
  · rw [if_neg (by simp [h2])]; omega
/-- What is taken by queens on a list of cells: columns, and both kinds of diagonals. -/
def colP (list : List (List Int)) (t : Nat) : Bool := list.any fun y => decide (rd y 1 = (t : Int))
def upP (list : List (List Int)) (t : Nat) : Bool := list.any fun y => decide (rd y 0 + rd y 1 = (t : Int))
def downP (C : Nat) (list : List (List Int)) (t : Nat) : Bool := list.any fun y => decide (rd y 0 - rd y 1 + (C : Int) - 1 = (t : Int))
theorem mask_congr {m : Int} {P Q : Nat → Bool} (h : MaskOf m P) (e : ∀ t, P t = Q t) : MaskOf m Q := by
  obtain ⟨n, a, b, c⟩ := h
  exact ⟨n, a, b, fun t => (c t).trans (e t)⟩
theorem any_snoc (f : List Int → Bool) (list : List (List Int)) (x : List Int) : (list ++ [x]).any f = (list.any f || f x) := by simp
/-- A queen in a later row clashes if a line of hers is taken. -/
theorem clash_lines {C r c : Nat} {list : List (List Int)} (h : ∀ y ∈ list, Cell6 y ∧ rd y 0 < (r : Int)) : clash queenB list [(r : Int), (c : Int)] = (colP list c || upP list (r + c) || list.any fun y => decide (rd y 0 - rd y 1 = (r : Int) - c)) := by
  unfold clash colP upP
  induction list with
  | nil => rfl
  | cons y ys ih =>
    have ih := ih (fun z hz => h z (List.mem_cons_of_mem _ hz))
    obtain ⟨h1, h2⟩ := h y (List.mem_cons_self ..)
    simp only [List.any_cons, ih]
    have : queenB y [(r : Int), (c : Int)] = (decide (rd y 1 = (c : Int)) || decide (rd y 0 + rd y 1 = ((r + c : Nat) : Int)) || decide (rd y 0 - rd y 1 = (r : Int) - c)) := by
      unfold queenB attackB
      rw [rd0, rd1]
      apply Bool.eq_iff_iff.2
      simp only [Bool.or_eq_true, decide_eq_true_eq]
      omega
    rw [this]
    generalize decide (rd y 1 = (c : Int)) = b1
    generalize decide (rd y 0 + rd y 1 = ((r + c : Nat) : Int)) = b2
    generalize decide (rd y 0 - rd y 1 = (r : Int) - c) = b3
    generalize (ys.any fun y => decide (rd y 1 = (c : Int))) = c1
    generalize (ys.any fun y => decide (rd y 0 + rd y 1 = ((r + c : Nat) : Int))) = c2
    generalize (ys.any fun y => decide (rd y 0 - rd y 1 = (r : Int) - c)) = c3
    cases b1 <;> cases b2 <;> cases b3 <;> cases c1 <;> cases c2 <;> cases c3 <;> rfl
theorem down_eq {C r c : Nat} (hc : c < C) (list : List (List Int)) : (list.any fun y => decide (rd y 0 - rd y 1 = (r : Int) - c)) = downP C list (r + C - 1 - c) := by
  unfold downP
  congr 1
  funext y
  exact decide_eq_decide.2 (by omega)
end Go.Proofs.Ythlcaikplebpmaa.P
namespace Go.Proofs.Ythlcaikplebpmaa.P
open Go.RowKit Go.Proofs.YthlcaikplebpmaaW.PrintWords Go.Proofs.YthlcaikplebpmaaW.PrintLast Go.Proofs.YthlcaikplebpmaaW.PrintMore
set_option linter.unusedVariables false
set_option linter.unusedSimpArgs false
theorem evs {α : Type} {g g' : Nat → Option α} {r : α} (K : Nat) (h : Ev g' r) (hs : ∀ k, K ≤ k → g (k + 1) = g' k) : Ev g r := by
  obtain ⟨K2, h2⟩ := ev_get h
  refine ⟨K + K2 + 1, fun k hk => ?_⟩
  obtain ⟨k, rfl⟩ : ∃ m, k = m + 1 := ⟨k - 1, by omega⟩
  rw [hs k (by omega)]
  exact h2 k (by omega)
theorem evl {α : Type} {g : Nat → Option α} {r : α} (hs : ∀ k, g (k + 1) = some r) : Ev g r := by
  refine ⟨1, fun k hk => ?_⟩
  obtain ⟨k, rfl⟩ : ∃ m, k = m + 1 := ⟨k - 1, by omega⟩
  exact hs k
theorem at_next {i n : Nat} (h : i < n) (hn : n ≤ 1000) : n - (i + 1) = n - i - 1 ∧ i + 1 ≤ n ∧ ((i : Int) < (n : Int) ∧ 0 ≤ (i : Int) ∧ wrap64 ((i : Int) + 1) = ((i + 1 : Nat) : Int)) := by
  refine ⟨by omega, by omega, by omega, by omega, ?_⟩
  rw [w64 _ (by omega) (by omega)]; omega
section
variable (D : List Int → List Int → Bool) (are : FnT38)
theorem hit_eq (all : List (List Int)) (i : Nat) (hi : i < all.length) (y : List Int) (hD : are y (all.getD i []) = some (!D y (all.getD i []))) : impl_Board_lists_1_1.f y are all (i : Int) = some (D y (all.getD i [])) := by
  have e : rd_L1 all (i : Int) = all.getD i [] := by rw [rdL_nat _ _ hi, List.getD_eq_getElem?_getD, List.getElem?_eq_getElem hi]; rfl
  unfold impl_Board_lists_1_1.f
  rw [if_pos (by omega), if_pos (by omega), e]
  show ((are y (all.getD i [])).bind fun t => some (!t)) = _
  rw [hD, Option.bind_some, Bool.not_not]
theorem index_ev (g : FnT57) (p : List Int → Bool) (q : List (List Int)) (hq : q.length ≤ 1000) (hg : ∀ y ∈ q, g y = some (p y)) : ∀ (d j : Nat), q.length - j = d → j ≤ q.length →
    ∃ t : Int, Ev (fun k => slices_IndexFunc_int_int_191.l0 k q g (q.length : Int) (j : Int)) t ∧ decide (t ≥ 0) = (q.drop j).any p := by
  intro d
  induction d with
  | zero =>
    intro j hd hj
    have hle : q.length ≤ j := Nat.sub_eq_zero_iff_le.1 hd
    refine ⟨-1, evl (fun k => ?_), ?_⟩
    · rw [slices_IndexFunc_int_int_191.l0, if_neg (by omega)]
    · rw [List.drop_eq_nil_of_le hle]; rfl
  | succ d ih =>
    intro j hd hj
    have hj2 : j < q.length := Nat.lt_of_sub_eq_succ hd
    obtain ⟨g0, g2, g4⟩ := at_next hj2 hq
    have hrd : rd_L1 q (j : Int) = q[j] := rdL_nat _ _ hj2
    have hgj := hg q[j] (List.getElem_mem hj2)
    have hdr : q.drop j = q[j] :: q.drop (j + 1) := List.drop_eq_getElem_cons hj2
    rw [hdr, List.any_cons]
    by_cases hp : p q[j] = true
    · refine ⟨(j : Int), evl (fun k => ?_), ?_⟩
      · rw [slices_IndexFunc_int_int_191.l0, if_pos g4.1, if_pos g4.2.1, if_pos g4.1, hrd]
        show ((g q[j]).bind _) = _
        rw [hgj, Option.bind_some, if_pos hp]
      · rw [hp]; simp
    · obtain ⟨t, ht, e⟩ := ih (j + 1) (by rw [g0, hd]; rfl) g2
      refine ⟨t, evs 0 ht (fun k hk => ?_), ?_⟩
      · rw [slices_IndexFunc_int_int_191.l0, if_pos g4.1, if_pos g4.2.1, if_pos g4.1, hrd]
        show ((g q[j]).bind _) = _
        rw [hgj, Option.bind_some, if_neg hp, g4.2.2]
      · rw [e]; simp only [Bool.not_eq_true] at hp; rw [hp]; rfl
theorem contains_ev (g : FnT57) (p : List Int → Bool) (q : List (List Int)) (hq : q.length ≤ 1000) (hg : ∀ y ∈ q, g y = some (p y)) : Ev (fun k => slices_ContainsFunc_int_int_120.f k q g) (q.any p) := by
  obtain ⟨t, ht, e⟩ := index_ev g p q hq hg q.length 0 rfl (Nat.zero_le _)
  obtain ⟨K, hK⟩ := ev_get ht
  refine ⟨K, fun k hk => ?_⟩
  have := hK k hk
  unfold slices_ContainsFunc_int_int_120.f slices_IndexFunc_int_int_191.f
  rw [show ((0 : Nat) : Int) = 0 from rfl] at this
  show (slices_IndexFunc_int_int_191.l0 k q g (q.length : Int) 0).bind _ = _
  rw [this, Option.bind_some, e, List.drop_zero]
variable {σ : Type} (cbO : σ → List (List Int) → Option (Bool × σ)) (cb : σ → List (List Int) → Bool × σ)
theorem list_f (most : Int) (all : List (List Int)) (k : Nat) (fr : Int) (q : List (List Int)) (s : σ) (r : Bool × σ) (h : cbO s q = some r) :
    impl_Board_lists_1.f are most all cbO (k + 1) fr q s = if (q.length : Int) = most then some r else impl_Board_lists_1.l0 are most all cbO k fr q r.1 r.2 := by
  rw [impl_Board_lists_1.f, h, Option.bind_some]
theorem list_end (most : Int) (all : List (List Int)) (k : Nat) (i : Int) (q : List (List Int)) (g : Bool) (s : σ) (h : ¬ i < (all.length : Int)) :
    impl_Board_lists_1.l0 are most all cbO (k + 1) i q g s = some (g, s) := by
  rw [impl_Board_lists_1.l0, if_neg h]
theorem list_stop (most : Int) (all : List (List Int)) (k : Nat) (i : Int) (q : List (List Int)) (s : σ) (h : i < (all.length : Int)) :
    impl_Board_lists_1.l0 are most all cbO (k + 1) i q false s = some (false, s) := by
  rw [impl_Board_lists_1.l0, if_pos h, if_neg (by simp)]
theorem list_hit (most : Int) (all : List (List Int)) (k : Nat) (i : Int) (q : List (List Int)) (s : σ) (h : i < (all.length : Int)) (h0 : 0 ≤ i) (hc : slices_ContainsFunc_int_int_120.f k q (fun x => impl_Board_lists_1_1.f x are all i) = some true) :
    impl_Board_lists_1.l0 are most all cbO (k + 1) i q true s = impl_Board_lists_1.l0 are most all cbO k (wrap64 (i + 1)) q true s := by
  rw [impl_Board_lists_1.l0, if_pos h, if_pos rfl, if_pos h0, hc, Option.bind_some, if_pos rfl]
theorem list_go (most : Int) (all : List (List Int)) (k : Nat) (i : Int) (q : List (List Int)) (s : σ) (r : Bool × σ) (h : i < (all.length : Int)) (h0 : 0 ≤ i) (hq : q.length < 5864062014805) (hc : slices_ContainsFunc_int_int_120.f k q (fun x => impl_Board_lists_1_1.f x are all i) = some false) (hf : impl_Board_lists_1.f are most all cbO k (wrap64 (i + 1)) (q ++ [all.getD i.toNat []]) s = some r) :
    impl_Board_lists_1.l0 are most all cbO (k + 1) i q true s = impl_Board_lists_1.l0 are most all cbO k (wrap64 (i + 1)) q r.1 r.2 := by
  rw [impl_Board_lists_1.l0, if_pos h, if_pos rfl, if_pos h0, hc, Option.bind_some, if_neg (by simp), if_pos hq, hf, Option.bind_some]
variable {D are cbO cb}
theorem loop_ev (most : Nat) (all : List (List Int)) (hall : all.length ≤ 1000) (hare : ∀ y ∈ all, ∀ x ∈ all, are y x = some (!D y x)) (hcb : ∀ s l, cbO s l = some (cb s l)) : ∀ (d i : Nat) (q : List (List Int)) (r : Bool × σ), all.length - i = d → i ≤ all.length → q.length ≤ i → (∀ y ∈ q, y ∈ all) →
    Ev (fun k => impl_Board_lists_1.l0 are (most : Int) all cbO k (i : Int) q r.1 r.2) (goL D cb most (all.drop i) q r) := by
  intro d
  induction d with
  | zero =>
    intro i q r hd hi hq hm
    have hle : all.length ≤ i := Nat.sub_eq_zero_iff_le.1 hd
    rw [List.drop_eq_nil_of_le hle]
    exact evl (fun k => list_end _ _ _ _ _ _ _ _ _ (by omega))
  | succ d ih =>
    intro i q r hd hi hq hm
    have hi2 : i < all.length := Nat.lt_of_sub_eq_succ hd
    obtain ⟨g0, g2, g4⟩ := at_next hi2 hall
    have g1 : all.length - (i + 1) = d := by rw [g0, hd]; rfl
    have hdr : all.drop i = all.getD i [] :: all.drop (i + 1) := by rw [List.drop_eq_getElem_cons hi2, List.getD_eq_getElem?_getD, List.getElem?_eq_getElem hi2]; rfl
    have hx : all.getD i [] ∈ all := by rw [List.getD_eq_getElem?_getD, List.getElem?_eq_getElem hi2]; exact List.getElem_mem hi2
    have hc := contains_ev (fun x => impl_Board_lists_1_1.f x are all (i : Int)) (fun y => D y (all.getD i [])) q (by omega) (fun y hy => hit_eq D are all i hi2 y (hare y (hm y hy) _ hx))
    obtain ⟨K1, h1⟩ := ev_get hc
    rw [hdr]
    obtain ⟨g, s⟩ := r
    cases g with
    | false =>
      rw [goL_stop]
      exact evl (fun k => list_stop _ _ _ _ _ _ _ _ g4.1)
    | true =>
      rw [goL, if_pos rfl]
      by_cases hcl : clash D q (all.getD i []) = true
      · rw [if_pos hcl]
        refine evs K1 (ih (i + 1) q (true, s) g1 g2 (by omega) hm) (fun k hk => ?_)
        have h1 := h1 k hk
        unfold clash at hcl
        rw [hcl] at h1
        rw [list_hit _ _ _ _ _ _ _ _ g4.1 g4.2.1 h1, g4.2.2]
      · rw [if_neg hcl]
        have hm2 : ∀ y ∈ q ++ [all.getD i []], y ∈ all := by
          intro y hy
          rcases List.mem_append.1 hy with hy | hy
          · exact hm y hy
          · rw [List.mem_singleton.1 hy]; exact hx
        have hl2 : (q ++ [all.getD i []]).length = q.length + 1 := by rw [List.length_append, List.length_singleton]
        -- the call
        have hf : Ev (fun k => impl_Board_lists_1.f are (most : Int) all cbO k ((i + 1 : Nat) : Int) (q ++ [all.getD i []]) s) (if q.length + 1 = most then cb s (q ++ [all.getD i []]) else goL D cb most (all.drop (i + 1)) (q ++ [all.getD i []]) (cb s (q ++ [all.getD i []]))) := by
          by_cases hk : q.length + 1 = most
          · rw [if_pos hk]
            exact evl (fun k => by rw [list_f are cbO _ _ _ _ _ _ _ (hcb s _), if_pos (by rw [hl2]; omega)])
          · rw [if_neg hk]
            exact evs 0 (ih (i + 1) (q ++ [all.getD i []]) (cb s (q ++ [all.getD i []])) g1 g2 (by omega) hm2) (fun k _ => by rw [list_f are cbO _ _ _ _ _ _ _ (hcb s _), if_neg (by rw [hl2]; omega)])
        obtain ⟨K2, h2⟩ := ev_get hf
        refine evs (K1 + K2) (ih (i + 1) q _ g1 g2 (by omega) hm) (fun k hk => ?_)
        have h1 := h1 k (Nat.le_trans (Nat.le_add_right K1 K2) hk)
        have h2 := h2 k (Nat.le_trans (Nat.le_add_left K2 K1) hk)
        unfold clash at hcl
        simp only [Bool.not_eq_true] at hcl
        rw [hcl] at h1
        rw [list_go are cbO _ _ _ _ _ _ _ g4.1 g4.2.1 (by omega) h1 (by rw [g4.2.2]; exact h2), g4.2.2]
/-- All lists that begin with nothing. -/
theorem lists1_ev (most : Nat) (all : List (List Int)) (hall : all.length ≤ 1000) (hare : ∀ y ∈ all, ∀ x ∈ all, are y x = some (!D y x)) (hcb : ∀ s l, cbO s l = some (cb s l)) (s : σ) :
    Ev (fun k => impl_Board_lists_1.f are (most : Int) all cbO k 0 [] s) (if 0 = most then cb s [] else goL D cb most all [] (cb s [])) := by
  by_cases hk : 0 = most
  · rw [if_pos hk]
    exact evl (fun k => by rw [list_f are cbO _ _ _ _ _ _ _ (hcb s _), if_pos (by rw [← hk]; rfl)])
  · rw [if_neg hk]
    have h := loop_ev most all hall hare hcb all.length 0 [] (cb s []) rfl (Nat.zero_le _) (Nat.zero_le _) (fun y hy => by simp at hy)
    rw [List.drop_zero] at h
    exact evs 0 h (fun k _ => by rw [list_f are cbO _ _ _ _ _ _ _ (hcb s _), if_neg (by intro e; apply hk; have : ((0 : Nat) : Int) = (most : Int) := e; omega)]; rfl)
end
theorem lists_ev {σ : Type} {D : List Int → List Int → Bool} {are : FnT38} {cbO : σ → List (List Int) → Option (Bool × σ)} {cb : σ → List (List Int) → Bool × σ} {r c : Int} {l : List Int} (h : boardB r c l = true) (most : Nat) (hare : ∀ y x, Cell6 y → Cell6 x → are y x = some (!D y x)) (hcb : ∀ s l, cbO s l = some (cb s l)) (s : σ) :
    Ev (fun k => impl_Board_lists.f k r c l (most : Int) are cbO s) (if 0 = most then cb s [] else goL D cb most (cells r c l) [] (cb s [])) := by
  obtain ⟨K1, h1⟩ := ev_get (CellsOf_ev r c l)
  rw [if_pos h] at h1
  obtain ⟨K2, h2⟩ := ev_get (lists1_ev (D := D) (are := are) (cbO := cbO) (cb := cb) most (cells r c l) (Nat.le_trans (cells_len h) (by decide)) (fun y hy x hx => hare y x (cells_cell h hy) (cells_cell h hx)) hcb s)
  refine ⟨K1 + K2, fun k hk => ?_⟩
  show ((impl_CellsOf.f k r c l).bind _) = _
  rw [h1 k (by omega), Option.bind_some]
  exact h2 k (by omega)
end Go.Proofs.Ythlcaikplebpmaa.P
namespace Go.Proofs.Ythlcaikplebpmaa.P
open Go.RowKit Go.Proofs.YthlcaikplebpmaaW.PrintWords Go.Proofs.YthlcaikplebpmaaW.PrintLast Go.Proofs.YthlcaikplebpmaaW.PrintMore
set_option linter.unusedVariables false
set_option linter.unusedSimpArgs false
theorem biDiag_eq (R C r c : Nat) (l : List Int) (hR : R ≤ 6) (hC : C ≤ 6) (hr : r < R) (hc : c < C) : spec_biDiagonals.f (R : Int) (C : Int) l (r : Int) (c : Int) = some (((r + c : Nat) : Int), ((r + C - 1 - c : Nat) : Int)) := by
  unfold spec_biDiagonals.f
  rw [w64 ((r : Int) + (c : Int)) (by omega) (by omega), w64 ((r : Int) - (c : Int)) (by omega) (by omega), w64 ((r : Int) - (c : Int) + (C : Int)) (by omega) (by omega), w64 ((r : Int) - (c : Int) + (C : Int) - 1) (by omega) (by omega), show (r : Int) + (c : Int) = ((r + c : Nat) : Int) by omega, show (r : Int) - (c : Int) + (C : Int) - 1 = ((r + C - 1 - c : Nat) : Int) by omega]
theorem cnt_end (k : Nat) (r k' x3 x4 x5 x13 c R C : Int) (l : List Int) (h : ¬ c < C) : spec_biCount.l0 (k + 1) r k' x3 x4 x5 x13 c R C l = some x13 := by
  rw [spec_biCount.l0, if_neg h]
theorem cnt_at (k : Nat) (r k' x3 x4 x5 x13 c R C : Int) (l : List Int) (u v : Int) (b : Bool) (hc : c < C) (hd : spec_biDiagonals.f R C l r c = some (u, v)) (hb : spec_boHas.f R C l r c = some b) (h0 : 0 ≤ c) (hu : 0 ≤ u) (hv : 0 ≤ v) :
    spec_biCount.l0 (k + 1) r k' x3 x4 x5 x13 c R C l = if b = true ∧ Int.tmod (shr .i64 x3 c) 2 = 0 ∧ Int.tmod (shr .i64 x4 u) 2 = 0 ∧ Int.tmod (shr .i64 x5 v) 2 = 0 then
      ((spec_biCount.f k R C l (wrap64 (r + 1)) (wrap64 (k' - 1)) (Go.bits .or .i64 x3 (shl .i64 1 c)) (Go.bits .or .i64 x4 (shl .i64 1 u)) (Go.bits .or .i64 x5 (shl .i64 1 v))).bind fun t => spec_biCount.l0 k r k' x3 x4 x5 (wrap64 (x13 + t)) (wrap64 (c + 1)) R C l)
      else spec_biCount.l0 k r k' x3 x4 x5 x13 (wrap64 (c + 1)) R C l := by
  rw [spec_biCount.l0, if_pos hc, hd, Option.bind_some, hb, Option.bind_some]
  by_cases h1 : b = true
  · rw [if_pos h1, if_pos h0]
    by_cases h2 : Int.tmod (shr .i64 x3 c) 2 = 0
    · rw [if_pos h2, if_pos hu]
      by_cases h3 : Int.tmod (shr .i64 x4 u) 2 = 0
      · rw [if_pos h3, if_pos hv]
        by_cases h4 : Int.tmod (shr .i64 x5 v) 2 = 0
        · rw [if_pos h4, if_pos ⟨h1, h2, h3, h4⟩]
        · rw [if_neg h4, if_neg (fun h => h4 h.2.2.2)]
      · rw [if_neg h3, if_neg (fun h => h3 h.2.2.1)]
    · rw [if_neg h2, if_neg (fun h => h2 h.2.1)]
  · rw [if_neg h1, if_neg (fun h => h1 h.1)]
theorem cnt_zero (k : Nat) (R C : Int) (l : List Int) (r x3 x4 x5 : Int) : spec_biCount.f (k + 1) R C l r 0 x3 x4 x5 = some 1 := by
  rw [spec_biCount.f, if_pos rfl]
theorem cnt_none (k : Nat) (R C : Int) (l : List Int) (r k' x3 x4 x5 : Int) (h : k' ≠ 0) (h2 : wrap64 (R - r) < k') : spec_biCount.f (k + 1) R C l r k' x3 x4 x5 = some 0 := by
  rw [spec_biCount.f, if_neg h, if_pos h2]
theorem cnt_row (k : Nat) (R C : Int) (l : List Int) (r k' x3 x4 x5 t : Int) (h : k' ≠ 0) (h2 : ¬ wrap64 (R - r) < k') (ht : spec_biCount.f k R C l (wrap64 (r + 1)) k' x3 x4 x5 = some t) : spec_biCount.f (k + 1) R C l r k' x3 x4 x5 = spec_biCount.l0 k r k' x3 x4 x5 t 0 R C l := by
  rw [spec_biCount.f, if_neg h, if_neg h2, ht, Option.bind_some]
/-- What is free for a queen. -/
theorem free_iff {C r c : Nat} (hc : c < C) (hC : C ≤ 6) (hr : r < 6) {list : List (List Int)} {x3 x4 x5 : Int} (h : ∀ y ∈ list, Cell6 y ∧ rd y 0 < (r : Int)) (m1 : MaskOf x3 (colP list)) (m2 : MaskOf x4 (upP list)) (m3 : MaskOf x5 (downP C list)) :
    (Int.tmod (shr .i64 x3 (c : Int)) 2 = 0 ∧ Int.tmod (shr .i64 x4 ((r + c : Nat) : Int)) 2 = 0 ∧ Int.tmod (shr .i64 x5 ((r + C - 1 - c : Nat) : Int)) 2 = 0) ↔ clash queenB list [(r : Int), (c : Int)] = false := by
  rw [clash_lines (C := C) h, down_eq (r := r) hc, mask_get m1 (by omega), mask_get m2 (by omega), mask_get m3 (by omega)]
  generalize colP list c = b1
  generalize upP list (r + c) = b2
  generalize downP C list (r + C - 1 - c) = b3
  cases b1 <;> cases b2 <;> cases b3 <;> simp
theorem masks_more {C r c : Nat} (hc : c < C) (hC : C ≤ 6) (hr : r < 6) {list : List (List Int)} {x3 x4 x5 : Int} (m1 : MaskOf x3 (colP list)) (m2 : MaskOf x4 (upP list)) (m3 : MaskOf x5 (downP C list)) :
    MaskOf (Go.bits .or .i64 x3 (shl .i64 1 (c : Int))) (colP (list ++ [[(r : Int), (c : Int)]])) ∧ MaskOf (Go.bits .or .i64 x4 (shl .i64 1 ((r + c : Nat) : Int))) (upP (list ++ [[(r : Int), (c : Int)]])) ∧ MaskOf (Go.bits .or .i64 x5 (shl .i64 1 ((r + C - 1 - c : Nat) : Int))) (downP C (list ++ [[(r : Int), (c : Int)]])) := by
  refine ⟨mask_congr (mask_or m1 (by omega)) (fun t => ?_), mask_congr (mask_or m2 (by omega)) (fun t => ?_), mask_congr (mask_or m3 (by omega)) (fun t => ?_)⟩
  · unfold colP
    rw [any_snoc, rd1]
    congr 1
    exact decide_eq_decide.2 (by omega)
  · unfold upP
    rw [any_snoc, rd0, rd1]
    congr 1
    exact decide_eq_decide.2 (by omega)
  · unfold downP
    rw [any_snoc, rd0, rd1]
    congr 1
    exact decide_eq_decide.2 (by omega)
theorem rowS_bound (k : Nat) (rest list xs : List (List Int)) (h1 : rest.length ≤ 36) (h2 : xs.length ≤ 6) : rowS queenB k rest list xs ≤ 412316860416 := by
  have a := rowS_le queenB k rest list xs
  have b : 2 ^ rest.length ≤ 2 ^ 36 := Nat.pow_le_pow_right (by decide) h1
  have c : xs.length * 2 ^ rest.length ≤ 6 * 2 ^ 36 := Nat.mul_le_mul h2 b
  omega
theorem cntL_bound (k : Nat) (rest list : List (List Int)) (h1 : rest.length ≤ 36) : cntL queenB k rest list ≤ 68719476736 := by
  have a := cntL_le queenB k rest list
  have b : 2 ^ rest.length ≤ 2 ^ 36 := Nat.pow_le_pow_right (by decide) h1
  omega
theorem sum_le {a b : Nat} (h1 : a ≤ 68719476736) (h2 : b ≤ 412316860416) : (a : Int) + (b : Int) ≤ 4611686018427387904 := by omega
theorem add_three {x : Int} {t s : Nat} (h0 : 0 ≤ x) (h1 : x + ((t + s : Nat) : Int) ≤ 4611686018427387904) : x + ((t + s : Nat) : Int) = (x + (t : Int)) + (s : Int) ∧ 0 ≤ x + (t : Int) ∧ (x + (t : Int)) + (s : Int) ≤ 4611686018427387904 ∧ wrap64 (x + (t : Int)) = x + (t : Int) := by
  refine ⟨by push_cast; omega, by omega, by push_cast at h1; omega, w64 _ (by omega) (by push_cast at h1; omega)⟩
theorem biCount_loop {R C : Nat} {l : List Int} (h : boardB (R : Int) (C : Int) l = true) (hR : R ≤ 6) (hC : C ≤ 6) (k' : Nat) (hk : k' ≤ 12) {r : Nat} (hr : r < R) {list : List (List Int)} (hcell : ∀ y ∈ list, Cell6 y ∧ rd y 0 < (r : Int)) {x3 x4 x5 : Int} (m1 : MaskOf x3 (colP list)) (m2 : MaskOf x4 (upP list)) (m3 : MaskOf x5 (downP C list))
    (S T : Nat → Nat) (hS0 : ∀ c, C ≤ c → S c = 0) (hS1 : ∀ c, c < C → hasC l (r : Int) (c : Int) = true → clash queenB list [(r : Int), (c : Int)] = false → S c = T c + S (c + 1)) (hS2 : ∀ c, c < C → (hasC l (r : Int) (c : Int) = false ∨ clash queenB list [(r : Int), (c : Int)] = true) → S c = S (c + 1))
    (ih : ∀ c, c < C → hasC l (r : Int) (c : Int) = true → clash queenB list [(r : Int), (c : Int)] = false → Ev (fun n => spec_biCount.f n (R : Int) (C : Int) l ((r + 1 : Nat) : Int) (k' : Int) (Go.bits .or .i64 x3 (shl .i64 1 (c : Int))) (Go.bits .or .i64 x4 (shl .i64 1 ((r + c : Nat) : Int))) (Go.bits .or .i64 x5 (shl .i64 1 ((r + C - 1 - c : Nat) : Int)))) (T c : Int)) :
    ∀ (e c : Nat) (x13 : Int), C - c = e → c ≤ C → 0 ≤ x13 → x13 + (S c : Int) ≤ 4611686018427387904 →
      Ev (fun n => spec_biCount.l0 n (r : Int) ((k' + 1 : Nat) : Int) x3 x4 x5 x13 (c : Int) (R : Int) (C : Int) l) (x13 + (S c : Int)) := by
  have hr1 : wrap64 ((r : Int) + 1) = ((r + 1 : Nat) : Int) := by rw [w64 _ (by omega) (by omega)]; omega
  have hk1 : wrap64 (((k' + 1 : Nat) : Int) - 1) = (k' : Int) := by rw [w64 _ (by omega) (by omega)]; omega
  have hr0 : 0 ≤ (r : Int) ∧ (r : Int) < (R : Int) ∧ r < 6 := ⟨by omega, by omega, by omega⟩
  intro e
  induction e with
  | zero =>
    intro c x13 he hc h0 h1
    rw [hS0 c (Nat.sub_eq_zero_iff_le.1 he)]
    exact evl (fun n => by rw [cnt_end _ _ _ _ _ _ _ _ _ _ _ (by omega)]; simp)
  | succ e ihe =>
    intro c x13 he hc h0 h1
    have hc2 : c < C := Nat.lt_of_sub_eq_succ he
    obtain ⟨g0, g2, g4⟩ := at_next hc2 (Nat.le_trans hC (by decide))
    have g1 : C - (c + 1) = e := by rw [g0, he]; rfl
    have hd := biDiag_eq R C r c l hR hC hr hc2
    have hb := boHas_eq h (i := (r : Int)) (j := (c : Int)) hr0.1 hr0.2.1 g4.2.1
    have hfr := free_iff hc2 hC hr0.2.2 hcell m1 m2 m3
    by_cases hh : hasC l (r : Int) (c : Int) = true
    · by_cases hcl : clash queenB list [(r : Int), (c : Int)] = true
      · rw [hS2 c hc2 (Or.inr hcl)] at h1 ⊢
        refine evs 0 (ihe (c + 1) x13 g1 g2 h0 h1) (fun n _ => ?_)
        rw [cnt_at n _ _ _ _ _ _ _ _ _ _ _ _ _ g4.1 hd hb g4.2.1 (Int.natCast_nonneg _) (Int.natCast_nonneg _), if_neg (fun hf => by have := hfr.1 hf.2; rw [hcl] at this; cases this), g4.2.2]
      · simp only [Bool.not_eq_true] at hcl
        rw [hS1 c hc2 hh hcl] at h1 ⊢
        have hfree := hfr.2 hcl
        obtain ⟨K, hK⟩ := ev_get (ih c hc2 hh hcl)
        have harith := add_three h0 h1
        obtain ⟨a1, a2, a3, a4⟩ := harith
        rw [a1]
        refine evs K (ihe (c + 1) (x13 + (T c : Int)) g1 g2 a2 a3) (fun n hn => ?_)
        have hn := hK n hn
        rw [cnt_at n _ _ _ _ _ _ _ _ _ _ _ _ _ g4.1 hd hb g4.2.1 (Int.natCast_nonneg _) (Int.natCast_nonneg _), if_pos ⟨hh, hfree⟩, hr1, hk1, hn, Option.bind_some, a4, g4.2.2]
    · simp only [Bool.not_eq_true] at hh
      rw [hS2 c hc2 (Or.inl hh)] at h1 ⊢
      refine evs 0 (ihe (c + 1) x13 g1 g2 h0 h1) (fun n _ => ?_)
      rw [cnt_at n _ _ _ _ _ _ _ _ _ _ _ _ _ g4.1 hd hb g4.2.1 (Int.natCast_nonneg _) (Int.natCast_nonneg _), if_neg (fun hf => by rw [hh] at hf; exact absurd hf.1 (by simp)), g4.2.2]
theorem from_len {R C : Nat} {l : List Int} (hR : R ≤ 6) (hC : C ≤ 6) (r : Nat) : (cellsFrom l R C r).length ≤ 36 := by
  have h1 := cellsFrom_len l R C (R - r) r rfl
  have h2 : (R - r) * C ≤ 6 * 6 := Nat.mul_le_mul (by omega) hC
  omega
theorem biCount_ev {R C : Nat} {l : List Int} (h : boardB (R : Int) (C : Int) l = true) (hR : R ≤ 6) (hC : C ≤ 6) (k : Nat) (hk : k ≤ 12) : ∀ (d r k' : Nat) (list : List (List Int)) (x3 x4 x5 : Int), R - r = d → r ≤ R → k' + list.length = k → (∀ y ∈ list, Cell6 y ∧ rd y 0 < (r : Int)) → MaskOf x3 (colP list) → MaskOf x4 (upP list) → MaskOf x5 (downP C list) →
    Ev (fun n => spec_biCount.f n (R : Int) (C : Int) l (r : Int) (k' : Int) x3 x4 x5) (if k' = 0 then 1 else (cntL queenB k (cellsFrom l R C r) list : Int)) := by
  intro d
  induction d with
  | zero =>
    intro r k' list x3 x4 x5 hd hr hl hcell m1 m2 m3
    by_cases hk0 : k' = 0
    · subst hk0
      rw [if_pos rfl]
      exact evl (fun n => cnt_zero n _ _ _ _ _ _ _)
    · rw [if_neg hk0, cellsFrom_nil l R C r (Nat.sub_eq_zero_iff_le.1 hd)]
      refine evl (fun n => ?_)
      rw [cnt_none n _ _ _ _ _ _ _ _ (by omega) (by rw [w64 _ (by omega) (by omega)]; omega)]
      rfl
  | succ d ih =>
    intro r k' list x3 x4 x5 hd hr hl hcell m1 m2 m3
    by_cases hk0 : k' = 0
    · subst hk0
      rw [if_pos rfl]
      exact evl (fun n => cnt_zero n _ _ _ _ _ _ _)
    · rw [if_neg hk0]
      have hr2 : r < R := by omega
      by_cases hfew : d + 1 < k'
      · rw [cnt_few l R C k (d + 1) r list hd (by omega) (by omega)]
        refine evl (fun n => ?_)
        rw [cnt_none n _ _ _ _ _ _ _ _ (by omega) (by rw [w64 _ (by omega) (by omega)]; omega)]
        rfl
      · obtain ⟨k1, rfl⟩ : ∃ k1, k' = k1 + 1 := ⟨k' - 1, by omega⟩
        have hcell2 : ∀ y ∈ list, Cell6 y ∧ rd y 0 < ((r + 1 : Nat) : Int) := fun y hy => ⟨(hcell y hy).1, by have := (hcell y hy).2; omega⟩
        have hd1 : R - (r + 1) = d := by omega
        have hr6 : r < 6 := by omega
        have hl1 : k1 + (list.length + 1) = k := by omega
        have hlk : k1 = 0 ↔ list.length + 1 = k := ⟨fun e => by omega, fun e => by omega⟩
        have hr1 : wrap64 ((r : Int) + 1) = ((r + 1 : Nat) : Int) := by rw [w64 _ (by omega) (by omega)]; omega
        have hkz : ((k1 + 1 : Nat) : Int) ≠ 0 := by omega
        have hfw : ¬ wrap64 ((R : Int) - (r : Int)) < ((k1 + 1 : Nat) : Int) := by rw [w64 _ (by omega) (by omega)]; omega
        obtain ⟨K, hK⟩ := ev_get (ih (r + 1) (k1 + 1) list x3 x4 x5 hd1 hr2 hl hcell2 m1 m2 m3)
        rw [if_neg (Nat.succ_ne_zero k1)] at hK
        have hb1 := cntL_bound k (cellsFrom l R C (r + 1)) list (from_len hR hC (r + 1))
        have hb2 := rowS_bound k (cellsFrom l R C (r + 1)) list (cellRow l r C 0) (from_len hR hC (r + 1)) (Nat.le_trans (cellRow_len l r C C 0 rfl) hC)
        have hloop := biCount_loop h hR hC k1 (Nat.le_trans (Nat.le_of_lt (Nat.lt_of_lt_of_le (Nat.lt_succ_self k1) (hl ▸ Nat.le_add_right _ _))) hk) hr2 hcell m1 m2 m3
          (fun c => rowS queenB k (cellsFrom l R C (r + 1)) list (cellRow l r C c)) (fun c => if list.length + 1 = k then 1 else cntL queenB k (cellsFrom l R C (r + 1)) (list ++ [[(r : Int), (c : Int)]]))
          (fun c hc => by rw [cellRow_nil l r C c hc]; rfl)
          (fun c hc hh hcl => by rw [cellRow_step l r C c hc, if_pos hh, rowS_append, rowS, rowS, if_neg (by rw [hcl]; simp), Nat.add_zero])
          (fun c hc hor => by
            rw [cellRow_step l r C c hc, rowS_append]
            rcases hor with hh | hcl
            · rw [if_neg (by rw [hh]; simp), rowS, Nat.zero_add]
            · by_cases hh : hasC l (r : Int) (c : Int) = true
              · rw [if_pos hh, rowS, rowS, if_pos hcl]; simp
              · rw [if_neg hh, rowS, Nat.zero_add])
          (fun c hc hh hcl => by
            obtain ⟨n1, n2, n3⟩ := masks_more (r := r) hc hC hr6 m1 m2 m3
            have hih := ih (r + 1) k1 (list ++ [[(r : Int), (c : Int)]]) _ _ _ hd1 hr2 (by rw [List.length_append, List.length_singleton]; exact hl1) (by
              intro y hy
              rcases List.mem_append.1 hy with hy | hy
              · exact hcell2 y hy
              · rw [List.mem_singleton.1 hy, rd0]
                exact ⟨⟨_, _, rfl, by omega, by omega⟩, by omega⟩) n1 n2 n3
            have hval : (if k1 = 0 then (1 : Int) else (cntL queenB k (cellsFrom l R C (r + 1)) (list ++ [[(r : Int), (c : Int)]]) : Int)) = ((if list.length + 1 = k then 1 else cntL queenB k (cellsFrom l R C (r + 1)) (list ++ [[(r : Int), (c : Int)]]) : Nat) : Int) := by
              by_cases hk0 : k1 = 0
              · rw [if_pos hk0, if_pos (hlk.1 hk0)]; rfl
              · rw [if_neg hk0, if_neg (fun e => hk0 (hlk.2 e))]
            rw [hval] at hih
            exact hih)
          C 0 (cntL queenB k (cellsFrom l R C (r + 1)) list : Int) rfl (Nat.zero_le _) (Int.natCast_nonneg _) (sum_le hb1 hb2)
        have hval : ((cntL queenB k (cellsFrom l R C r) list : Nat) : Int) = (cntL queenB k (cellsFrom l R C (r + 1)) list : Int) + (rowS queenB k (cellsFrom l R C (r + 1)) list (cellRow l r C 0) : Int) := by
          rw [cnt_step l R C k r list hr2, Int.natCast_add, Int.add_comm]
        rw [hval]
        clear hval hb1 hb2
        refine evs K hloop (fun n hn => ?_)
        exact cnt_row n _ _ _ _ _ _ _ _ _ hkz hfw (by rw [hr1]; exact hK n hn)
end Go.Proofs.Ythlcaikplebpmaa.P
namespace Go.Proofs.Ythlcaikplebpmaa.Pure
open Go.RowKit Go.Proofs.Ythlcaikplebpmaa.P Go.Proofs.YthlcaikplebpmaaW.PrintWords Go.Proofs.YthlcaikplebpmaaW.PrintLast
set_option linter.unusedSimpArgs false
set_option linter.unusedVariables false
namespace FnExactCountBoth
def R (r c : Int) (l : List Int) (a : Int) : Int × Bool := if boardB r c l = true ∧ inB a 0 12 = true then ((if a.toNat = 0 then 1 else (cntL queenB a.toNat (cells r c l) [] : Int)), true) else (0, false)
theorem cb_eq (k : Nat) (n : Int) (l : List (List Int)) : impl_CountBoth_1.f (k : Int) n l = some (cbC k n l) := by
  unfold impl_CountBoth_1.f cbC
  by_cases h : l.length = k
  · rw [if_pos h, if_pos (by omega)]
  · rw [if_neg h, if_neg (by omega)]
theorem in12 {a : Int} (h : inB a 0 12 = true) : ∃ k : Nat, a = (k : Int) ∧ k ≤ 12 := by
  have : 0 ≤ a ∧ a ≤ 12 := by simpa [inB] using h
  exact ⟨a.toNat, by omega, by omega⟩
theorem impl_ev (r c : Int) (l : List Int) (a : Int) (hb : l.length ≤ 1152921504606846976) : Ev (fun k => impl_CountBoth.f k r c l a) (R r c l a) := by
  unfold R
  by_cases h : boardB r c l = true
  · by_cases hq : inB a 0 12 = true
    · rw [if_pos ⟨h, hq⟩]
      obtain ⟨k, rfl, hk⟩ := in12 hq
      obtain ⟨K, hK⟩ := ev_get (lists_ev (D := queenB) (are := impl_CountBoth.are) (cbO := impl_CountBoth_1.f (k : Int)) (cb := cbC k) h k (fun y x hy hx => asQueens_eq hy hx) (cb_eq k) 0)
      have hval : (if 0 = k then cbC k 0 [] else goL queenB (cbC k) k (cells r c l) [] (cbC k 0 [])) = (true, if k = 0 then 1 else (cntL queenB k (cells r c l) [] : Int)) := by
        by_cases h0 : k = 0
        · subst h0
          rw [if_pos rfl, if_pos rfl]
          unfold cbC
          rw [if_pos (by rfl), w64 _ (by omega) (by omega)]
          rfl
        · rw [if_neg (fun e => h0 e.symm), if_neg h0]
          have e0 : cbC k 0 [] = (true, 0) := by unfold cbC; rw [if_neg (fun e => h0 e.symm)]
          have hl := cntL_le queenB k (cells r c l) []
          have hp : 2 ^ (cells r c l).length ≤ 2 ^ 36 := Nat.pow_le_pow_right (by decide) (cells_len h)
          rw [e0, goL_cnt queenB k (cells r c l) [] 0 (by simp only [List.length_nil]; omega) (by omega) (by omega), Int.zero_add]
      rw [hval] at hK
      refine ⟨K, fun n hn => ?_⟩
      simp only [impl_CountBoth.f, impl_IsBoard.f, impl_isPieces.f, within_eq, Option.bind_some, h, hq, if_true, hK n hn, Int.toNat_natCast]
    · rw [if_neg (fun hh => hq hh.2)]
      simp only [Bool.not_eq_true] at hq
      exact ⟨0, fun n hn => by simp only [impl_CountBoth.f, impl_IsBoard.f, impl_isPieces.f, within_eq, Option.bind_some, h, hq, if_true, Bool.false_eq_true, if_false]⟩
  · rw [if_neg (fun hh => h hh.1)]
    simp only [Bool.not_eq_true] at h
    exact ⟨0, fun n hn => by simp only [impl_CountBoth.f, impl_IsBoard.f, Option.bind_some, h, Bool.false_eq_true, if_false]⟩
theorem board_nat {r c : Int} {l : List Int} (h : boardB r c l = true) : ∃ R C : Nat, r = R ∧ c = C ∧ R ≤ 6 ∧ C ≤ 6 := by
  have hb := (boardB_iff _ _ _).1 h
  exact ⟨r.toNat, c.toNat, by omega, by omega, by omega, by omega⟩
theorem spec_ev (r c : Int) (l : List Int) (a : Int) (hb : l.length ≤ 1152921504606846976) : Ev (fun k => spec_CountBoth.f k r c l a) (R r c l a) := by
  obtain ⟨K0, h0⟩ := ev_get (boGood_ev r c l hb)
  unfold R
  by_cases h : boardB r c l = true
  · by_cases hq : inB a 0 12 = true
    · rw [if_pos ⟨h, hq⟩]
      obtain ⟨k, rfl, hk⟩ := in12 hq
      obtain ⟨R', C', rfl, rfl, hR, hC⟩ := board_nat h
      obtain ⟨K, hK⟩ := ev_get (biCount_ev h hR hC k hk R' 0 k [] 0 0 0 rfl (Nat.zero_le _) rfl (fun y hy => by simp at hy) mask_zero mask_zero mask_zero)
      refine ⟨K0 + K, fun n hn => ?_⟩
      have e := hK n (by omega)
      rw [show ((0 : Nat) : Int) = 0 from rfl] at e
      simp only [spec_CountBoth.f, spec_biAsked.f, h0 n (by omega), l1In_eq, Option.bind_some, h, hq, if_true, e, Int.toNat_natCast]
      rfl
    · rw [if_neg (fun hh => hq hh.2)]
      simp only [Bool.not_eq_true] at hq
      exact ⟨K0, fun n hn => by simp only [spec_CountBoth.f, spec_biAsked.f, h0 n hn, l1In_eq, Option.bind_some, h, hq, if_true, Bool.false_eq_true, if_false]⟩
  · rw [if_neg (fun hh => h hh.1)]
    simp only [Bool.not_eq_true] at h
    exact ⟨K0, fun n hn => by simp only [spec_CountBoth.f, spec_biAsked.f, h0 n hn, Option.bind_some, h, Bool.false_eq_true, if_false]⟩
end FnExactCountBoth
open FnExactCountBoth in
theorem FnExactCountBoth : laws_FnExactCountBoth.Pure := by
  intro a0_0 a0_1 l0_2 a1 hy0 hy1 hy2 hy3
  have hl_l0_2 := hy2.1
  simp only [maxLen] at hl_l0_2
  by_cases hb_l0_2 : (1048576 : Int) - l0_2.length < 0
  · refine ⟨0, ?_⟩
    unfold laws_FnExactCountBoth.f
    rw [szBoard_eq a0_0 a0_1 l0_2 _ (by omega) (by omega) (by simp only [maxLen]; omega), if_pos hb_l0_2, Option.bind_some, if_pos (by omega)]
  have h1 := (szBoard_eq a0_0 a0_1 l0_2 ((1048576 : Int)) (by omega) (by omega) (by simp only [maxLen]; omega)).trans (by rw [if_neg hb_l0_2])
  obtain ⟨K2, h2⟩ := ev_get (spec_ev a0_0 a0_1 l0_2 a1 (by omega))
  obtain ⟨K3, h3⟩ := ev_get (impl_ev a0_0 a0_1 l0_2 a1 (by omega))
  generalize R a0_0 a0_1 l0_2 a1 = R at *
  obtain ⟨K4, h4⟩ := ev_get (toBoard_ev a0_0 a0_1 l0_2 (by omega))
  obtain ⟨K5, h5⟩ := ev_get (eqBoard_ev a0_0 a0_1 l0_2 (by omega))
  obtain ⟨m, hm⟩ : ∃ m, m = K2 + K3 + K4 + K5 := ⟨_, rfl⟩
  replace h2 := fun j => h2 (m + j) (by omega)
  replace h3 := fun j => h3 (m + j) (by omega)
  replace h4 := fun j => h4 (m + j) (by omega)
  replace h5 := fun j => h5 (m + j) (by omega)
  clear hm
  refine ⟨m + 2, ?_⟩
  unfold laws_FnExactCountBoth.f
  simp only [h1, h2, h3, h4, h5, Option.bind_some, decide_true, if_true, bne_self_eq_false, Bool.false_eq_true, if_false, if_neg hb_l0_2]
  rw [laws_FnExactCountBoth.j0]
  simp only [h1, h2, h3, h4, h5, Option.bind_some, decide_true, if_true, bne_self_eq_false, Bool.false_eq_true, if_false, if_neg hb_l0_2]
end Go.Proofs.Ythlcaikplebpmaa.Pure
