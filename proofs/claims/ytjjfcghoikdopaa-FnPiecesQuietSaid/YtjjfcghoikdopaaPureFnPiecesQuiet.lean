/- For all rows of bytes: the pieces, diagonals and cells of a colour that the reference draws from them are told by the program as the reference tells them; quiet bishops lie on diagonals of their own and on cells; a place is got back from its two diagonals; a cell of a colour has that colour, and is on the colour board just when its place is on the board. Condition: that the rows can be read. -/
import Derived.Laws.BitsLemmas
import Derived.Test.YtjjfcghoikdopaaPx0
import Derived.Test.YtjjfcghoikdopaaQbabc941b0f
import Derived.Test.YtjjfcghoikdopaaQ060f88e6f3
import Derived.Test.YtjjfcghoikdopaaQeddd385f8f
import Derived.Test.YtjjfcghoikdopaaQc8a875b850
import Derived.Test.YtjjfcghoikdopaaQb9bf4cf162
import Derived.Test.YtjjfcghoikdopaaQ965549bab9
import Derived.Test.YtjjfcghoikdopaaQ3bf2aa28fa
import Derived.Test.YtjjfcghoikdopaaQ3e53a9bb36
import Derived.Test.YtjjfcghoikdopaaQ957c496862
import Derived.Test.YtjjfcghoikdopaaQ2641e89203
import Derived.Test.YtjjfcghoikdopaaQ94df20b757
namespace Go.Proofs.Ytjjfcghoikdopaa.P
open Go.RowKit Go.Proofs.YtjjfcghoikdopaaW.PrintWords Go.Proofs.YtjjfcghoikdopaaW.PrintLast Go.Proofs.YtjjfcghoikdopaaW.PrintMore
set_option linter.unusedVariables false
set_option linter.unusedSimpArgs false
theorem w64 (n : Int) (h : -9223372036854775808 ≤ n) (h2 : n ≤ 9223372036854775807) : wrap64 n = n := by unfold wrap64; omega
theorem rd_nat (l : List Int) (i : Nat) (h : i < l.length) : rd l (i : Int) = l[i] := by
  unfold rd; simp [List.getD_eq_getElem?_getD, List.getElem?_eq_getElem h]
theorem drop_cons (l : List Int) (i : Nat) (h : i < l.length) : l.drop i = l[i] :: l.drop (i + 1) := List.drop_eq_getElem_cons h
theorem ev_get {α : Type} {g : Nat → Option α} {r : α} (h : Ev g r) : ∃ K, ∀ k, K ≤ k → g k = some r := h
def inB (n lo hi : Int) : Bool := decide (lo ≤ n ∧ n ≤ hi)
theorem l1In_eq (a b c : Int) : spec_l1In.f a b c = some (inB a b c) := by
  unfold spec_l1In.f inB
  by_cases h : a ≥ b
  · rw [if_pos h]; congr 1; simp; omega
  · rw [if_neg h]; congr 1; symm; apply decide_eq_false; omega
theorem within_eq (a b c : Int) : impl_within.f a b c = some (inB a b c) := by
  unfold impl_within.f inB
  by_cases h : b ≤ a
  · rw [if_pos h]; congr 1; simp; omega
  · rw [if_neg h]; congr 1; symm; apply decide_eq_false; omega
def allIn (l : List Int) (lo hi : Int) : Bool := l.all fun x => inB x lo hi
theorem l1All_l0 (lo hi : Int) (l : List Int) (hb : l.length ≤ 1152921504606846976) : ∀ (d i : Nat) (k : Nat), l.length - i = d → i ≤ l.length → d < k →
    spec_l1All.l0 k lo hi l (l.length : Int) (i : Int) = some (allIn (l.drop i) lo hi) := by
  intro d
  induction d with
  | zero =>
    intro i k hd hi' hk
    obtain ⟨k, rfl⟩ : ∃ m, k = m + 1 := ⟨k - 1, by omega⟩
    rw [spec_l1All.l0, if_neg (by omega), List.drop_eq_nil_of_le (by omega)]
    rfl
  | succ d ih =>
    intro i k hd hi' hk
    obtain ⟨k, rfl⟩ : ∃ m, k = m + 1 := ⟨k - 1, by omega⟩
    have h1 : i < l.length := by omega
    rw [spec_l1All.l0, if_pos (by omega), if_pos (by omega), if_pos (by omega), l1In_eq, Option.bind_some, w64 _ (by omega) (by omega), rd_nat _ _ h1]
    rw [show ((i : Int) + 1) = ((i + 1 : Nat) : Int) by omega, ih (i + 1) k (by omega) (by omega) (by omega), drop_cons l i h1]
    unfold allIn
    rw [List.all_cons]
    generalize l.drop (i + 1) = tl
    by_cases h : inB l[i] lo hi = true
    · rw [if_pos h, h]; simp
    · rw [if_neg h]; simp at h; rw [h]; simp
theorem l1All_ev (l : List Int) (lo hi : Int) (hb : l.length ≤ 1152921504606846976) : Ev (fun k => spec_l1All.f k l lo hi) (allIn l lo hi) := by
  refine ⟨l.length + 1, fun k hk => ?_⟩
  simp only [spec_l1All.f]
  have := l1All_l0 lo hi l hb l.length 0 k (by omega) (by omega) (by omega)
  simpa using this
end Go.Proofs.Ytjjfcghoikdopaa.P
namespace Go.Proofs.Ytjjfcghoikdopaa.P
open Go.RowKit Go.Proofs.YtjjfcghoikdopaaW.PrintWords Go.Proofs.YtjjfcghoikdopaaW.PrintLast Go.Proofs.YtjjfcghoikdopaaW.PrintMore
set_option linter.unusedVariables false
set_option linter.unusedSimpArgs false
theorem boardB_iff (r c : Int) (l : List Int) : boardB r c l = true ↔ (1 ≤ r ∧ r ≤ 6) ∧ (1 ≤ c ∧ c ≤ 6) ∧ (l.length : Int) = r ∧ ∀ m ∈ l, 0 ≤ m ∧ m ≤ 2 ^ c.toNat - 1 := by
  unfold boardB
  simp only [Bool.and_eq_true, decide_eq_true_eq, List.all_eq_true]
  constructor
  · rintro ⟨⟨⟨a, b⟩, c⟩, d⟩; exact ⟨a, b, c, d⟩
  · rintro ⟨a, b, c, d⟩; exact ⟨⟨⟨a, b⟩, c⟩, d⟩
theorem shl_one (c : Int) (h0 : 0 ≤ c) (h1 : c ≤ 62) : shl .i64 1 c = 2 ^ c.toNat := by
  unfold shl
  rw [Int.one_mul, Nat.min_eq_left (show c.toNat ≤ IntKind.i64.bits by have : IntKind.i64.bits = 64 := rfl; omega)]
  rw [i64_w, w64]
  · have : (0 : Int) ≤ 2 ^ c.toNat := Int.le_of_lt (Int.pow_pos (by decide))
    omega
  · have h : (2 : Int) ^ c.toNat ≤ 2 ^ 62 := by
      have := Nat.pow_le_pow_right (show 0 < 2 by decide) (show c.toNat ≤ 62 by omega)
      exact_mod_cast this
    have e : (2 : Int) ^ 62 = 4611686018427387904 := by decide
    omega
theorem pow_le6 (c : Int) (h1 : c ≤ 6) : (2 : Int) ^ c.toNat ≤ 64 := by
  have := Nat.pow_le_pow_right (show 0 < 2 by decide) (show c.toNat ≤ 6 by omega)
  have h : (2 : Int) ^ c.toNat ≤ 2 ^ 6 := by exact_mod_cast this
  exact h
theorem pow_pos2 (c : Int) : (1 : Int) ≤ 2 ^ c.toNat := by
  have : (0 : Int) < 2 ^ c.toNat := Int.pow_pos (by decide)
  omega
theorem boSide_eq (a : Int) : spec_boSide.f a = some (inB a 1 6) := by
  simp only [spec_boSide.f, l1In_eq, Option.bind_some]
theorem boGood_ev (r c : Int) (l : List Int) (hb : l.length ≤ 1152921504606846976) : Ev (fun k => spec_boGood.f k r c l) (boardB r c l) := by
  by_cases h1 : 1 ≤ r ∧ r ≤ 6
  · by_cases h2 : 1 ≤ c ∧ c ≤ 6
    · by_cases h3 : (l.length : Int) = r
      · obtain ⟨K, hK⟩ := ev_get (l1All_ev l 0 (2 ^ c.toNat - 1) hb)
        refine ⟨K, fun k hk => ?_⟩
        have hp := pow_le6 c h2.2
        have hp2 := pow_pos2 c
        simp only [spec_boGood.f, boSide_eq, Option.bind_some]
        rw [if_pos (by simpa [inB] using h1), if_pos (by simpa [inB] using h2), if_pos h3, if_pos (by omega), shl_one c (by omega) (by omega), w64 _ (by omega) (by omega), hK k hk, Option.bind_some]
        congr 1
        unfold boardB allIn inB
        simp [h1, h2, h3]
      · refine ⟨0, fun k hk => ?_⟩
        simp only [spec_boGood.f, boSide_eq, Option.bind_some]
        rw [if_pos (by simpa [inB] using h1), if_pos (by simpa [inB] using h2), if_neg h3]
        congr 1; unfold boardB; simp [h3]
    · refine ⟨0, fun k hk => ?_⟩
      simp only [spec_boGood.f, boSide_eq, Option.bind_some]
      rw [if_pos (by simpa [inB] using h1), if_neg (by simpa [inB] using h2)]
      congr 1; unfold boardB; rw [decide_eq_false h2]; simp
  · refine ⟨0, fun k hk => ?_⟩
    simp only [spec_boGood.f, boSide_eq, Option.bind_some]
    rw [if_neg (by simpa [inB] using h1)]
    congr 1; unfold boardB; rw [decide_eq_false h1]; simp
def placeB (r c x y : Int) : Bool := decide ((0 ≤ x ∧ x ≤ r - 1) ∧ (0 ≤ y ∧ y ≤ c - 1))
theorem boPlace_ev (r c : Int) (l : List Int) (x y : Int) (hb : l.length ≤ 1152921504606846976) : Ev (fun k => spec_boPlace.f k r c l x y) (boardB r c l && placeB r c x y) := by
  obtain ⟨K, hK⟩ := ev_get (boGood_ev r c l hb)
  refine ⟨K, fun k hk => ?_⟩
  simp only [spec_boPlace.f, hK k hk, Option.bind_some]
  by_cases h : boardB r c l = true
  · have := (boardB_iff r c l).1 h
    rw [h, if_pos rfl, w64 _ (by omega) (by omega), w64 _ (by omega) (by omega), l1In_eq, l1In_eq, Option.bind_some, Option.bind_some]
    unfold inB placeB
    by_cases h1 : 0 ≤ x ∧ x ≤ r - 1
    · rw [if_pos (by simpa using h1)]; simp [h1]
    · rw [if_neg (by simpa using h1)]; congr 1; rw [Bool.true_and]; symm; apply decide_eq_false; exact fun hh => h1 hh.1
  · simp only [Bool.not_eq_true] at h
    rw [h]; simp
theorem place_eq (r c : Int) (l : List Int) (x y : Int) (hr : -1000 ≤ r ∧ r ≤ 1000) (hc : -1000 ≤ c ∧ c ≤ 1000) : impl_Board_place.f r c l x y = some (placeB r c x y) := by
  simp only [impl_Board_place.f]
  rw [w64 _ (by omega) (by omega), w64 _ (by omega) (by omega), within_eq, within_eq, Option.bind_some, Option.bind_some]
  unfold inB placeB
  by_cases h1 : 0 ≤ x ∧ x ≤ r - 1
  · rw [if_pos (by simpa using h1)]; simp [h1]
  · rw [if_neg (by simpa using h1)]; congr 1; symm; apply decide_eq_false; exact fun hh => h1 hh.1
end Go.Proofs.Ytjjfcghoikdopaa.P
namespace Go.Proofs.Ytjjfcghoikdopaa.P
open Go.RowKit Go.Proofs.YtjjfcghoikdopaaW.PrintWords Go.Proofs.YtjjfcghoikdopaaW.PrintLast Go.Proofs.YtjjfcghoikdopaaW.PrintMore
set_option linter.unusedVariables false
set_option linter.unusedSimpArgs false
theorem rdL_nat (s : List (List Int)) (i : Nat) (h : i < s.length) : rd_L2 s (i : Int) = s[i] := by
  unfold rd_L2; simp [List.getD_eq_getElem?_getD, List.getElem?_eq_getElem h]
end Go.Proofs.Ytjjfcghoikdopaa.P
namespace Go.Proofs.Ytjjfcghoikdopaa.P
open Go.RowKit Go.Proofs.YtjjfcghoikdopaaW.PrintWords Go.Proofs.YtjjfcghoikdopaaW.PrintLast Go.Proofs.YtjjfcghoikdopaaW.PrintMore
set_option linter.unusedVariables false
set_option linter.unusedSimpArgs false
/-- A mask has a column. -/
def hasM (m : Int) (j : Int) : Bool := Int.tmod (shr .i64 m j) 2 == 1
theorem has_bits : ∀ m : Fin 64, ∀ c : Fin 6, (Go.bits .and .i64 (shr .i64 (m.val : Int) (c.val : Int)) 1 == 1) = hasM (m.val : Int) (c.val : Int) := by decide +kernel
theorem has_bits' (m c : Int) (h0 : 0 ≤ m) (h1 : m ≤ 63) (h2 : 0 ≤ c) (h3 : c ≤ 5) : (Go.bits .and .i64 (shr .i64 m c) 1 == 1) = hasM m c := by
  have h := has_bits ⟨m.toNat, by omega⟩ ⟨c.toNat, by omega⟩
  simp only [show ((m.toNat : Nat) : Int) = m by omega, show ((c.toNat : Nat) : Int) = c by omega] at h
  exact h
/-- The board has the cell. -/
def hasC (l : List Int) (i j : Int) : Bool := hasM (rd l i) j
theorem board_row {r c : Int} {l : List Int} (h : boardB r c l = true) {i : Int} (h0 : 0 ≤ i) (h1 : i < r) : 0 ≤ rd l i ∧ rd l i ≤ 63 := by
  obtain ⟨hr, hc, hl, hm⟩ := (boardB_iff r c l).1 h
  have hp6 := pow_le6 c hc.2
  have hx : i.toNat < l.length := by omega
  have := hm l[i.toNat] (List.getElem_mem hx)
  have e : rd l i = l[i.toNat] := by
    have := rd_nat l i.toNat hx
    rwa [show ((i.toNat : Nat) : Int) = i by omega] at this
  rw [e]; omega
theorem boHas_eq {r c : Int} {l : List Int} (h : boardB r c l = true) {i j : Int} (h0 : 0 ≤ i) (h1 : i < r) (h2 : 0 ≤ j) : spec_boHas.f r c l i j = some (hasC l i j) := by
  obtain ⟨hr, hc, hl, hm⟩ := (boardB_iff r c l).1 h
  simp only [spec_boHas.f]
  rw [if_pos h0, if_pos (by omega), if_pos h2]
  rfl
theorem has_eq {r c : Int} {l : List Int} (h : boardB r c l = true) {i j : Int} (h0 : 0 ≤ i) (h1 : i < r) (h2 : 0 ≤ j) (h3 : j < c) : impl_Board_has.f r c l i j = some (hasC l i j) := by
  obtain ⟨hr, hc, hl, hm⟩ := (boardB_iff r c l).1 h
  have hb := board_row h h0 h1
  simp only [impl_Board_has.f]
  rw [if_pos h0, if_pos (by omega), if_pos h2, has_bits' _ _ hb.1 hb.2 h2 (by omega)]
  rfl
theorem crange'_step (s n : Nat) (h : s < n) : List.range' s (n - s) = s :: List.range' (s + 1) (n - (s + 1)) := by
  rw [show n - s = (n - (s + 1)) + 1 by omega, List.range'_succ]
def cellRow (l : List Int) (i C j : Nat) : List (List Int) := (List.range' j (C - j)).flatMap fun (j : Nat) => if hasC l (i : Int) (j : Int) = true then [[(i : Int), (j : Int)]] else []
def cellsFrom (l : List Int) (R C i : Nat) : List (List Int) := (List.range' i (R - i)).flatMap fun (i : Nat) => cellRow l i C 0
theorem cellRow_step (l : List Int) (i C j : Nat) (h : j < C) : cellRow l i C j = (if hasC l (i : Int) (j : Int) = true then [[(i : Int), (j : Int)]] else []) ++ cellRow l i C (j + 1) := by
  unfold cellRow
  rw [crange'_step j C h, List.flatMap_cons]
theorem cellRow_nil (l : List Int) (i C j : Nat) (h : C ≤ j) : cellRow l i C j = [] := by
  unfold cellRow
  rw [show C - j = 0 by omega]; rfl
theorem cellsFrom_step (l : List Int) (R C i : Nat) (h : i < R) : cellsFrom l R C i = cellRow l i C 0 ++ cellsFrom l R C (i + 1) := by
  unfold cellsFrom
  rw [crange'_step i R h, List.flatMap_cons]
theorem cellsFrom_nil (l : List Int) (R C i : Nat) (h : R ≤ i) : cellsFrom l R C i = [] := by
  unfold cellsFrom
  rw [show R - i = 0 by omega]; rfl
theorem cellRow_len (l : List Int) (i C : Nat) : ∀ (d j : Nat), C - j = d → (cellRow l i C j).length ≤ d
  | 0, j, h => by rw [cellRow_nil l i C j (by omega)]; simp
  | d + 1, j, h => by
    rw [cellRow_step l i C j (by omega), List.length_append]
    have := cellRow_len l i C d (j + 1) (by omega)
    split <;> simp <;> omega
theorem cellsFrom_len (l : List Int) (R C : Nat) : ∀ (d i : Nat), R - i = d → (cellsFrom l R C i).length ≤ d * C
  | 0, i, h => by rw [cellsFrom_nil l R C i (by omega)]; simp
  | d + 1, i, h => by
    rw [cellsFrom_step l R C i (by omega), List.length_append, Nat.succ_mul]
    have := cellsFrom_len l R C d (i + 1) (by omega)
    have := cellRow_len l i C C 0 (by omega)
    omega
theorem cellRow_mem (l : List Int) (i C j : Nat) (x : List Int) : x ∈ cellRow l i C j ↔ ∃ q, j ≤ q ∧ q < C ∧ hasC l (i : Int) (q : Int) = true ∧ x = [(i : Int), (q : Int)] := by
  unfold cellRow
  rw [List.mem_flatMap]
  constructor
  · rintro ⟨q, hq, hx⟩
    rw [List.mem_range'_1] at hq
    split at hx
    · rename_i hh
      exact ⟨q, by omega, by omega, hh, by simpa using hx⟩
    · cases hx
  · rintro ⟨q, h1, h2, h3, rfl⟩
    refine ⟨q, by rw [List.mem_range'_1]; omega, ?_⟩
    rw [if_pos h3]; simp
theorem cellsFrom_mem (l : List Int) (R C i : Nat) (x : List Int) : x ∈ cellsFrom l R C i ↔ ∃ p q, i ≤ p ∧ p < R ∧ q < C ∧ hasC l (p : Int) (q : Int) = true ∧ x = [(p : Int), (q : Int)] := by
  unfold cellsFrom
  rw [List.mem_flatMap]
  constructor
  · rintro ⟨p, hp, hx⟩
    rw [List.mem_range'_1] at hp
    obtain ⟨q, _, h2, h3, h4⟩ := (cellRow_mem l p C 0 x).1 hx
    exact ⟨p, q, by omega, by omega, h2, h3, h4⟩
  · rintro ⟨p, q, h1, h2, h3, h4, h5⟩
    exact ⟨p, by rw [List.mem_range'_1]; omega, (cellRow_mem l p C 0 x).2 ⟨q, by omega, h3, h4, h5⟩⟩
def cells (r c : Int) (l : List Int) : List (List Int) := cellsFrom l r.toNat c.toNat 0
/-- Two numbers from 0 to 5. -/
def Cell6 (x : List Int) : Prop := ∃ p q : Int, x = [p, q] ∧ (0 ≤ p ∧ p ≤ 5) ∧ (0 ≤ q ∧ q ≤ 5)
theorem cells_cell {r c : Int} {l : List Int} (h : boardB r c l = true) {x : List Int} (hx : x ∈ cells r c l) : Cell6 x := by
  obtain ⟨hr, hc, _, _⟩ := (boardB_iff r c l).1 h
  obtain ⟨p, q, _, h2, h3, _, rfl⟩ := (cellsFrom_mem l _ _ _ x).1 hx
  exact ⟨p, q, rfl, by omega, by omega⟩
theorem cells_len {r c : Int} {l : List Int} (h : boardB r c l = true) : (cells r c l).length ≤ 36 := by
  obtain ⟨hr, hc, _, _⟩ := (boardB_iff r c l).1 h
  have := cellsFrom_len l r.toNat c.toNat r.toNat 0 (by omega)
  have h2 : r.toNat * c.toNat ≤ 6 * 6 := Nat.mul_le_mul (by omega) (by omega)
  unfold cells; omega
theorem boCells_ev {r c : Int} {l : List Int} (h : boardB r c l = true) : Ev (fun k => spec_boCells.f k r c l) (cells r c l) := by
  obtain ⟨hr, hc, hl, hm⟩ := (boardB_iff r c l).1 h
  obtain ⟨R, rfl⟩ : ∃ R : Nat, r = R := ⟨r.toNat, by omega⟩
  obtain ⟨C, rfl⟩ : ∃ C : Nat, c = C := ⟨c.toNat, by omega⟩
  have hout : ∀ (d i : Nat) (acc : List (List Int)), R - i = d → i ≤ R → acc.length ≤ 6 * i → Ev (fun k => spec_boCells.l0 k acc (i : Int) (R : Int) (C : Int) l) (acc ++ cellsFrom l R C i) := by
    intro d
    induction d with
    | zero =>
      intro i acc hd hi ha
      refine ⟨1, fun k hk => ?_⟩
      obtain ⟨k, rfl⟩ : ∃ m, k = m + 1 := ⟨k - 1, by omega⟩
      dsimp only
      rw [spec_boCells.l0, if_neg (by omega), cellsFrom_nil l R C i (by omega), List.append_nil]
    | succ d ih =>
      intro i acc hd hi ha
      have hin : ∀ (e j : Nat) (acc : List (List Int)), C - j = e → j ≤ C → acc.length ≤ 6 * i + j → Ev (fun k => spec_boCells.l1 k acc (i : Int) (j : Int) (R : Int) (C : Int) l) (acc ++ cellRow l i C j ++ cellsFrom l R C (i + 1)) := by
        intro e
        induction e with
        | zero =>
          intro j acc he hj ha
          obtain ⟨K, hK⟩ := ev_get (ih (i + 1) acc (by omega) (by omega) (by omega))
          refine ⟨K + 1, fun k hk => ?_⟩
          obtain ⟨k, rfl⟩ : ∃ m, k = m + 1 := ⟨k - 1, by omega⟩
          dsimp only
          rw [spec_boCells.l1, if_neg (by omega), cellRow_nil l i C j (by omega), List.append_nil, w64 _ (by omega) (by omega), show ((i : Int) + 1) = ((i + 1 : Nat) : Int) by omega]
          exact hK k (by omega)
        | succ e ihe =>
          intro j acc he hj ha
          obtain ⟨K1, h1⟩ := ev_get (ihe (j + 1) (acc ++ [[(i : Int), (j : Int)]]) (by omega) (by omega) (by simp; omega))
          obtain ⟨K2, h2⟩ := ev_get (ihe (j + 1) acc (by omega) (by omega) (by omega))
          refine ⟨K1 + K2 + 1, fun k hk => ?_⟩
          obtain ⟨k, rfl⟩ : ∃ m, k = m + 1 := ⟨k - 1, by omega⟩
          dsimp only
          rw [spec_boCells.l1, if_pos (by omega), boHas_eq h (by omega) (by omega) (by omega), Option.bind_some, if_pos (show acc.length < 5864062014805 by omega), w64 ((j : Int) + 1) (by omega) (by omega), show ((j : Int) + 1) = ((j + 1 : Nat) : Int) by omega, h1 k (by omega), h2 k (by omega), cellRow_step l i C j (by omega)]
          by_cases hh : hasC l (i : Int) (j : Int) = true
          · rw [if_pos hh, if_pos hh]; simp [List.append_assoc]
          · rw [if_neg hh, if_neg hh]; simp
      obtain ⟨K, hK⟩ := ev_get (hin C 0 acc (by omega) (by omega) (by omega))
      refine ⟨K + 1, fun k hk => ?_⟩
      obtain ⟨k, rfl⟩ : ∃ m, k = m + 1 := ⟨k - 1, by omega⟩
      dsimp only
      rw [spec_boCells.l0, if_pos (by omega), cellsFrom_step l R C i (by omega), ← List.append_assoc]
      exact hK k (by omega)
  obtain ⟨K, hK⟩ := ev_get (hout R 0 [] (by omega) (by omega) (by simp))
  refine ⟨K, fun k hk => ?_⟩
  simp only [spec_boCells.f]
  simpa [cells] using hK k hk
theorem rd0 (p q : Int) : rd [p, q] 0 = p := by simp [rd]
theorem rd1 (p q : Int) : rd [p, q] 1 = q := by simp [rd]
def attackB (x y : List Int) : Bool := decide ((rd x 0 - rd y 0).natAbs = (rd x 1 - rd y 1).natAbs)
def nearB (x y : List Int) : Bool := decide ((rd x 0 - rd y 0).natAbs ≤ 1 ∧ (rd x 1 - rd y 1).natAbs ≤ 1)
theorem bAbs_eq (n : Int) (h : -1000 ≤ n) (h2 : n ≤ 1000) : spec_l1Abs.f n = some (n.natAbs : Int) := by
  unfold spec_l1Abs.f spec_l1Most.f
  rw [w64 _ (by omega) (by omega)]
  split
  · simp only [Option.bind_some]; congr 1; omega
  · simp only [Option.bind_some]; congr 1; omega
theorem biAttack_eq {x y : List Int} (hx : Cell6 x) (hy : Cell6 y) : spec_biAttack.f x y = some (attackB x y) := by
  obtain ⟨p, q, rfl, h1, h2⟩ := hx
  obtain ⟨p', q', rfl, h3, h4⟩ := hy
  simp only [spec_biAttack.f, rd0, rd1]
  rw [if_pos (by simp), if_pos (by simp), w64 _ (by omega) (by omega), bAbs_eq _ (by omega) (by omega), Option.bind_some, if_pos (by simp), if_pos (by simp), w64 _ (by omega) (by omega), bAbs_eq _ (by omega) (by omega), Option.bind_some]
  congr 1
  unfold attackB
  rw [Bool.eq_iff_iff, beq_iff_eq, decide_eq_true_iff, rd0, rd1, rd0, rd1]
  omega
theorem biNear_eq {x y : List Int} (hx : Cell6 x) (hy : Cell6 y) : spec_biNear.f x y = some (nearB x y) := by
  obtain ⟨p, q, rfl, h1, h2⟩ := hx
  obtain ⟨p', q', rfl, h3, h4⟩ := hy
  simp only [spec_biNear.f, rd0, rd1]
  rw [if_pos (by simp), if_pos (by simp), w64 _ (by omega) (by omega), bAbs_eq _ (by omega) (by omega), Option.bind_some, if_pos (show 1 < (([p, q] : List Int).length : Int) by simp), if_pos (show 1 < (([p', q'] : List Int).length : Int) by simp), w64 _ (by omega) (by omega), bAbs_eq _ (by omega) (by omega), Option.bind_some]
  unfold nearB
  simp only [rd0, rd1]
  by_cases h : ((p - p').natAbs : Int) ≤ 1
  · rw [if_pos h]; congr 1; rw [decide_eq_decide]; omega
  · rw [if_neg h]; congr 1; symm; apply decide_eq_false; omega
theorem biDisturb0_eq {x y : List Int} (hx : Cell6 x) (hy : Cell6 y) : spec_biDisturb.f x y 0 = some (attackB x y) := by
  simp only [spec_biDisturb.f, biAttack_eq hx hy, Option.bind_some, if_true]
theorem biDisturb1_eq {x y : List Int} (hx : Cell6 x) (hy : Cell6 y) : spec_biDisturb.f x y 1 = some (nearB x y) := by
  simp only [spec_biDisturb.f, biNear_eq hx hy, Option.bind_some, if_true]
  rw [if_neg (by decide)]
theorem asBishops_eq {x y : List Int} (hx : Cell6 x) (hy : Cell6 y) : impl_asBishops.f x y = some (!attackB x y) := by
  obtain ⟨p, q, rfl, h1, h2⟩ := hx
  obtain ⟨p', q', rfl, h3, h4⟩ := hy
  simp only [impl_asBishops.f, rd0, rd1]
  rw [if_pos (by simp), if_pos (by simp), if_pos (by simp), if_pos (by simp), w64 _ (by omega) (by omega), w64 _ (by omega) (by omega), w64 _ (by omega) (by omega), w64 _ (by omega) (by omega)]
  unfold attackB
  simp only [rd0, rd1]
  by_cases h : p + q = p' + q'
  · rw [if_pos h]; congr 1; rw [decide_eq_true (by omega)]; rfl
  · rw [if_neg h]; congr 1
    rw [Bool.eq_iff_iff, bne_iff_ne, Bool.not_eq_true', decide_eq_false_iff_not]
    omega
theorem asKings_eq {x y : List Int} (hx : Cell6 x) (hy : Cell6 y) : impl_asKings.f x y = some (!nearB x y) := by
  obtain ⟨p, q, rfl, h1, h2⟩ := hx
  obtain ⟨p', q', rfl, h3, h4⟩ := hy
  simp only [impl_asKings.f, rd0, rd1]
  rw [if_pos (by simp), if_pos (by simp), w64 _ (by omega) (by omega), w64 _ (by omega) (by omega), w64 _ (by omega) (by omega), w64 _ (by omega) (by omega)]
  unfold nearB
  simp only [rd0, rd1]
  by_cases h : mx (p - p') (p' - p) > 1
  · rw [if_pos h]; congr 1
    rw [decide_eq_false (by unfold mx at h; omega)]; rfl
  · rw [if_neg h, if_pos (by simp), if_pos (by simp)]; congr 1
    rw [Bool.eq_iff_iff, decide_eq_true_iff, Bool.not_eq_true', decide_eq_false_iff_not]
    unfold mx at h ⊢; omega
end Go.Proofs.Ytjjfcghoikdopaa.P
namespace Go.Proofs.Ytjjfcghoikdopaa.P
open Go.RowKit Go.Proofs.YtjjfcghoikdopaaW.PrintWords Go.Proofs.YtjjfcghoikdopaaW.PrintLast Go.Proofs.YtjjfcghoikdopaaW.PrintMore
set_option linter.unusedVariables false
set_option linter.unusedSimpArgs false
theorem nodup_lt : ∀ (n : Nat) (l : List Nat), l.Nodup → (∀ x ∈ l, x < n) → l.length ≤ n
  | 0, l, _, hb => by
    cases l with
    | nil => simp
    | cons x l => exact absurd (hb x (.head _)) (by omega)
  | n + 1, l, hn, hb => by
    by_cases hm : n ∈ l
    · have := nodup_lt n (l.erase n) (hn.erase n) (fun x hx => by
        have h1 := (hn.mem_erase_iff).1 hx
        have := hb x h1.2
        have := h1.1
        omega)
      rw [List.length_erase_of_mem hm] at this
      omega
    · have := nodup_lt n l hn (fun x hx => by
        have := hb x hx
        have : x ≠ n := fun e => hm (e ▸ hx)
        omega)
      omega
def QuietFrom (L : List (List Int)) (V : List Int → Bool) (D : List Int → List Int → Bool) (i : Nat) : Prop := ∀ i', i ≤ i' → ∀ h : i' < L.length, V L[i'] = true ∧ ∀ j, ∀ hj : j < i', D L[i'] (L[j]'(by omega)) = false
theorem quiet_few {L : List (List Int)} {V : List Int → Bool} {D : List Int → List Int → Bool} (code : List Int → Nat) (hc : ∀ x, V x = true → code x < 36) (hD : ∀ x y, V x = true → V y = true → code x = code y → D x y = true) (h : QuietFrom L V D 0) : L.length ≤ 36 := by
  have hn : (L.map code).Nodup := by
    rw [List.nodup_iff_pairwise_ne, List.pairwise_iff_getElem]
    intro i j hi hj hij e
    rw [List.length_map] at hi hj
    rw [List.getElem_map, List.getElem_map] at e
    have h1 := h j (by omega) hj
    have h2 := h i (by omega) hi
    have := h1.2 i hij
    rw [hD _ _ h1.1 h2.1 e.symm] at this
    cases this
  have := nodup_lt 36 (L.map code) hn (fun x hx => by
    obtain ⟨y, hy, rfl⟩ := List.mem_map.1 hx
    obtain ⟨i, hi, rfl⟩ := List.getElem_of_mem hy
    exact hc _ (h i (by omega) hi).1)
  rwa [List.length_map] at this
open Classical in
theorem quiet_loop (L : List (List Int)) (V : List Int → Bool) (D : List Int → List Int → Bool) (l0 : Nat → Int → Option Bool) (l1 : Nat → Nat → Int → Option Bool) (hL : L.length ≤ 1152921504606846976)
    (hend : ∀ k (i : Nat), L.length ≤ i → l0 (k + 1) (i : Int) = some true)
    (hrow : ∀ (i : Nat) (hi : i < L.length), ∃ K, ∀ k, K ≤ k → l0 (k + 2) (i : Int) = if V L[i] = true then l1 k i 0 else some false)
    (hrend : ∀ (i : Nat), i < L.length → ∀ k (j : Nat), i ≤ j → l1 (k + 1) i (j : Int) = l0 k ((i + 1 : Nat) : Int))
    (hstep : ∀ (i : Nat) (hi : i < L.length) (j : Nat) (hj : j < i), V L[i] = true → V (L[j]'(by omega)) = true → ∃ K, ∀ k, K ≤ k → l1 (k + 1) i (j : Int) = if D L[i] (L[j]'(by omega)) = true then some false else l1 k i ((j + 1 : Nat) : Int)) :
    ∀ (d i : Nat), L.length - i = d → i ≤ L.length → (∀ j, ∀ hj : j < i, ∀ h : i ≤ L.length, V (L[j]'(by omega)) = true) → Ev (fun k => l0 k (i : Int)) (decide (QuietFrom L V D i)) := by
  intro d
  induction d with
  | zero =>
    intro i hd hi hV
    refine ⟨1, fun k hk => ?_⟩
    obtain ⟨k, rfl⟩ : ∃ m, k = m + 1 := ⟨k - 1, by omega⟩
    dsimp only
    rw [hend k i (by omega)]
    congr 1; symm; apply decide_eq_true
    intro i' h1 h2; omega
  | succ d ih =>
    intro i hd hi hV
    have hi1 : i < L.length := by omega
    obtain ⟨K0, k0⟩ := hrow i hi1
    by_cases hv : V L[i] = true
    · have hrec := ih (i + 1) (by omega) (by omega) (fun j hj h => by
        rcases Nat.lt_or_ge j i with h' | h'
        · exact hV j h' (by omega)
        · obtain rfl : j = i := by omega
          exact hv)
      have hin : ∀ (e j : Nat), i - j = e → j ≤ i → Ev (fun k => l1 k i (j : Int)) (decide ((∀ j', j ≤ j' → ∀ hj : j' < i, D L[i] (L[j']'(by omega)) = false) ∧ QuietFrom L V D (i + 1))) := by
        intro e
        induction e with
        | zero =>
          intro j he hj
          obtain ⟨K, hK⟩ := ev_get hrec
          refine ⟨K + 1, fun k hk => ?_⟩
          obtain ⟨k, rfl⟩ : ∃ m, k = m + 1 := ⟨k - 1, by omega⟩
          dsimp only
          rw [hrend i hi1 k j (by omega), hK k (by omega)]
          congr 1
          rw [decide_eq_decide]
          exact ⟨fun h => ⟨fun j' h1 h2 => by omega, h⟩, fun h => h.2⟩
        | succ e ihe =>
          intro j he hj
          have hj1 : j < i := by omega
          obtain ⟨K1, k1⟩ := hstep i hi1 j hj1 hv (hV j hj1 (by omega))
          obtain ⟨K2, k2⟩ := ev_get (ihe (j + 1) (by omega) (by omega))
          refine ⟨K1 + K2 + 1, fun k hk => ?_⟩
          obtain ⟨k, rfl⟩ : ∃ m, k = m + 1 := ⟨k - 1, by omega⟩
          dsimp only
          rw [k1 k (by omega), k2 k (by omega)]
          by_cases h : D L[i] (L[j]'(by omega)) = true
          · rw [if_pos h]
            congr 1; symm; apply decide_eq_false
            intro hh
            have := hh.1 j (Nat.le_refl _) hj1
            rw [h] at this; cases this
          · rw [if_neg h]
            congr 1
            rw [decide_eq_decide]
            refine ⟨fun hh => ⟨fun j' h1 h2 => ?_, hh.2⟩, fun hh => ⟨fun j' h1 h2 => hh.1 j' (by omega) h2, hh.2⟩⟩
            rcases Nat.eq_or_lt_of_le h1 with h3 | h3
            · subst h3; simpa using h
            · exact hh.1 j' h3 h2
      obtain ⟨K1, k1⟩ := ev_get (hin i 0 (by omega) (by omega))
      refine ⟨K0 + K1 + 2, fun k hk => ?_⟩
      obtain ⟨k, rfl⟩ : ∃ m, k = m + 2 := ⟨k - 2, by omega⟩
      dsimp only
      rw [k0 k (by omega), if_pos hv]
      refine (k1 k (by omega)).trans ?_
      congr 1
      rw [decide_eq_decide]
      constructor
      · rintro ⟨h1, h2⟩ i' h3 h4
        rcases Nat.eq_or_lt_of_le h3 with h5 | h5
        · subst h5; exact ⟨hv, fun j hj => h1 j (by omega) hj⟩
        · exact h2 i' h5 h4
      · intro h
        exact ⟨fun j' _ h2 => (h i (Nat.le_refl _) hi1).2 j' h2, fun i' h1 h2 => h i' (by omega) h2⟩
    · refine ⟨K0 + 2, fun k hk => ?_⟩
      obtain ⟨k, rfl⟩ : ∃ m, k = m + 2 := ⟨k - 2, by omega⟩
      dsimp only
      rw [k0 k (by omega), if_neg hv]
      congr 1; symm; apply decide_eq_false
      intro h
      exact hv (h i (Nat.le_refl _) hi1).1
/-- A cell of the board. -/
def cellV (r c : Int) (l : List Int) (x : List Int) : Bool := decide (x.length = 2) && placeB r c (rd x 0) (rd x 1) && hasC l (rd x 0) (rd x 1)
theorem cellV_cell {r c : Int} {l : List Int} (h : boardB r c l = true) {x : List Int} (hx : cellV r c l x = true) : Cell6 x := by
  obtain ⟨hr, hc, _, _⟩ := (boardB_iff r c l).1 h
  unfold cellV at hx
  rw [Bool.and_eq_true, Bool.and_eq_true, decide_eq_true_iff] at hx
  obtain ⟨⟨h2, h3⟩, _⟩ := hx
  match x, h2 with
  | [p, q], _ =>
    have := of_decide_eq_true h3
    rw [rd0, rd1] at this
    exact ⟨p, q, rfl, by omega, by omega⟩
def codeOf (x : List Int) : Nat := (rd x 0 * 6 + rd x 1).toNat
theorem code_lt {x : List Int} (h : Cell6 x) : codeOf x < 36 := by
  obtain ⟨p, q, rfl, h1, h2⟩ := h
  unfold codeOf; rw [rd0, rd1]; omega
theorem code_eq {x y : List Int} (hx : Cell6 x) (hy : Cell6 y) (h : codeOf x = codeOf y) : x = y := by
  obtain ⟨p, q, rfl, h1, h2⟩ := hx
  obtain ⟨p', q', rfl, h3, h4⟩ := hy
  unfold codeOf at h; rw [rd0, rd1, rd0, rd1] at h
  have e1 : p = p' := by omega
  have e2 : q = q' := by omega
  rw [e1, e2]
theorem attack_self (x : List Int) : attackB x x = true := by unfold attackB; simp
theorem near_self (x : List Int) : nearB x x = true := by unfold nearB; simp
open Classical in
noncomputable def quietR (D : List Int → List Int → Bool) (r c : Int) (l : List Int) (L : List (List Int)) : Bool := decide (QuietFrom L (cellV r c l) D 0)
open Classical in
theorem biQuiet_ev (D : List Int → List Int → Bool) (kd : Int) (hD : ∀ x y, Cell6 x → Cell6 y → spec_biDisturb.f x y kd = some (D x y)) (hself : ∀ x, D x x = true) (r c : Int) (l : List Int) (h : boardB r c l = true) (L : List (List Int)) (hL : L.length ≤ 1152921504606846976) (hlb : l.length ≤ 1152921504606846976) :
    Ev (fun k => spec_biQuiet.f k r c l L kd) (quietR D r c l L) := by
  obtain ⟨hr, hc, hl, hm⟩ := (boardB_iff r c l).1 h
  by_cases hbig : L.length > 36
  · refine ⟨0, fun k hk => ?_⟩
    simp only [spec_biQuiet.f]
    rw [if_pos (by omega)]
    congr 1; symm; apply decide_eq_false
    intro hq
    have := quiet_few codeOf (fun x hx => code_lt (cellV_cell h hx)) (fun x y hx hy e => by rw [code_eq (cellV_cell h hx) (cellV_cell h hy) e]; exact hself _) hq
    omega
  · obtain ⟨K, hK⟩ := ev_get (quiet_loop L (cellV r c l) D (fun k i => spec_biQuiet.l0 k L kd L (L.length : Int) i r c l)
      (fun k i j => spec_biQuiet.l1 k L kd (L.getD i []) L (L.length : Int) (i : Int) (L.take i) ((L.take i).length : Int) j r c l) hL
      (fun k i hi => by show spec_biQuiet.l0 (k + 1) _ _ _ _ (i : Int) _ _ _ = _; rw [spec_biQuiet.l0, if_neg (by omega)])
      (fun i hi => by
        have hj : ∀ (k : Nat) (b : Bool), spec_biQuiet.j1 (k + 1) L kd (i : Int) L[i] L (L.length : Int) (i : Int) b r c l = if b = true then some false else spec_biQuiet.l1 k L kd (L.getD i []) L (L.length : Int) (i : Int) (L.take i) ((L.take i).length : Int) 0 r c l := by
          intro k b
          rw [spec_biQuiet.j1, if_pos (show (0 : Int) ≤ (i : Int) by omega), if_pos (show (i : Int) ≤ (L.length : Int) by omega), Option.bind_some, show ((i : Int)).toNat = i by omega, List.getD_eq_getElem?_getD, List.getElem?_eq_getElem hi]
          rfl
        obtain ⟨K, hK⟩ := ev_get (boPlace_ev r c l (rd L[i] 0) (rd L[i] 1) hlb)
        refine ⟨K, fun k hk => ?_⟩
        show spec_biQuiet.l0 (k + 2) _ _ _ _ (i : Int) _ _ _ = _
        rw [spec_biQuiet.l0, if_pos (by omega), if_pos (by omega), if_pos (by omega), rdL_nat _ _ hi]
        by_cases h2 : L[i].length = 2
        · rw [if_pos (by omega), if_pos (by omega), if_pos (by omega), hK (k + 1) (by omega), Option.bind_some, h, Bool.true_and]
          by_cases h3 : placeB r c (rd L[i] 0) (rd L[i] 1) = true
          · have hp := of_decide_eq_true h3
            rw [if_pos h3, boHas_eq h (by omega) (by omega) (by omega), Option.bind_some, hj]
            unfold cellV
            rw [decide_eq_true h2, h3]
            cases hasC l (rd L[i] 0) (rd L[i] 1) <;> simp
          · rw [if_neg h3, hj]
            unfold cellV
            rw [Bool.eq_false_iff.2 h3]; simp
        · rw [if_neg (by omega), hj]
          unfold cellV
          rw [decide_eq_false h2]; simp)
      (fun i hi k j hj => by
        show spec_biQuiet.l1 (k + 1) _ _ _ _ _ _ _ _ (j : Int) _ _ _ = _
        rw [spec_biQuiet.l1, if_neg (by rw [List.length_take]; omega), w64 _ (by omega) (by omega), show ((i : Int) + 1) = ((i + 1 : Nat) : Int) by omega])
      (fun i hi j hj hv1 hv2 => by
        refine ⟨0, fun k hk => ?_⟩
        have hjt : j < (L.take i).length := by rw [List.length_take]; omega
        show spec_biQuiet.l1 (k + 1) _ _ _ _ _ _ _ _ (j : Int) _ _ _ = _
        rw [spec_biQuiet.l1, if_pos (by omega), if_pos (by omega), if_pos (by omega), rdL_nat _ _ hjt, List.getElem_take, List.getD_eq_getElem?_getD, List.getElem?_eq_getElem hi, Option.getD_some, hD _ _ (cellV_cell h hv1) (cellV_cell h hv2), Option.bind_some, w64 ((j : Int) + 1) (by omega) (by omega), show ((j : Int) + 1) = ((j + 1 : Nat) : Int) by omega])
      L.length 0 (by omega) (by omega) (fun j hj => by omega))
    refine ⟨K, fun k hk => ?_⟩
    simp only [spec_biQuiet.f]
    rw [if_neg (by omega)]
    exact hK k hk
theorem kEqual_l0 (a b : List Int) (hl : a.length = b.length) (hb : a.length ≤ 1152921504606846976) : ∀ (d i : Nat) (k : Nat), a.length - i = d → i ≤ a.length → d < k →
    slices_Equal_int_int.l0 k a b (a.length : Int) (i : Int) = some (decide (a.drop i = b.drop i)) := by
  intro d
  induction d with
  | zero =>
    intro i k hd hi hk
    obtain ⟨k, rfl⟩ : ∃ m, k = m + 1 := ⟨k - 1, by omega⟩
    rw [slices_Equal_int_int.l0, if_neg (by omega)]
    simp [List.drop_eq_nil_of_le (show a.length ≤ i by omega), List.drop_eq_nil_of_le (show b.length ≤ i by omega)]
  | succ d ih =>
    intro i k hd hi hk
    obtain ⟨k, rfl⟩ : ∃ m, k = m + 1 := ⟨k - 1, by omega⟩
    have h1 : i < a.length := by omega
    rw [slices_Equal_int_int.l0, if_pos (by omega), if_pos (by omega), if_pos (by omega), if_pos (by omega), w64 _ (by omega) (by omega), rd_nat _ _ h1, rd_nat _ _ (show i < b.length by omega)]
    rw [show ((i : Int) + 1) = ((i + 1 : Nat) : Int) by omega, ih (i + 1) k (by omega) (by omega) (by omega)]
    rw [drop_cons a i h1, drop_cons b i (by omega)]
    generalize a.drop (i + 1) = ta, b.drop (i + 1) = tb
    by_cases h : a[i] = b[i]
    · simp [h]
    · simp [h]
theorem kEqual_ev (a b : List Int) (hb : a.length ≤ 1152921504606846976) : Ev (fun k => slices_Equal_int_int.f k a b) (decide (a = b)) := by
  refine ⟨a.length + 1, fun k hk => ?_⟩
  simp only [slices_Equal_int_int.f]
  by_cases h : a.length = b.length
  · rw [if_pos (by omega)]
    have := kEqual_l0 a b h hb a.length 0 k (by omega) (by omega) (by omega)
    simpa using this
  · rw [if_neg (by omega)]
    congr 1
    symm
    apply decide_eq_false
    intro e
    exact h (by rw [e])
open Classical in
theorem quiet_ev (D : List Int → List Int → Bool) (are : List Int → List Int → Option Bool) (hD : ∀ x y, Cell6 x → Cell6 y → are x y = some (!D x y)) (hself : ∀ x, D x x = true) (r c : Int) (l : List Int) (h : boardB r c l = true) (L : List (List Int)) (hL : L.length ≤ 1152921504606846976) :
    Ev (fun k => impl_Board_quiet.f k r c l L are) (quietR D r c l L) := by
  obtain ⟨hr, hc, hl, hm⟩ := (boardB_iff r c l).1 h
  obtain ⟨K, hK⟩ := ev_get (quiet_loop L (cellV r c l) D (fun k i => impl_Board_quiet.l0 k L are L (L.length : Int) i r c l)
      (fun k i j => impl_Board_quiet.l1 k L are (L.getD i []) L (L.length : Int) (i : Int) (L.take i) ((L.take i).length : Int) j r c l) hL
      (fun k i hi => by show impl_Board_quiet.l0 (k + 1) _ _ _ _ (i : Int) _ _ _ = _; rw [impl_Board_quiet.l0, if_neg (by omega)])
      (fun i hi => by
        have hj : ∀ (k : Nat) (b : Bool), impl_Board_quiet.j1 (k + 1) L are (i : Int) L[i] L (L.length : Int) (i : Int) b r c l = if b = true then some false else impl_Board_quiet.l1 k L are (L.getD i []) L (L.length : Int) (i : Int) (L.take i) ((L.take i).length : Int) 0 r c l := by
          intro k b
          rw [impl_Board_quiet.j1, if_pos (show (0 : Int) ≤ (i : Int) by omega), if_pos (show (i : Int) ≤ (L.length : Int) by omega), Option.bind_some, show ((i : Int)).toNat = i by omega, List.getD_eq_getElem?_getD, List.getElem?_eq_getElem hi]
          rfl
        refine ⟨0, fun k hk => ?_⟩
        show impl_Board_quiet.l0 (k + 2) _ _ _ _ (i : Int) _ _ _ = _
        rw [impl_Board_quiet.l0, if_pos (by omega), if_pos (by omega), if_pos (by omega), rdL_nat _ _ hi]
        by_cases h2 : L[i].length = 2
        · rw [if_pos (by omega), if_pos (by omega), if_pos (by omega), place_eq r c l _ _ (by omega) (by omega), Option.bind_some]
          by_cases h3 : placeB r c (rd L[i] 0) (rd L[i] 1) = true
          · have hp := of_decide_eq_true h3
            rw [if_pos h3, has_eq h (by omega) (by omega) (by omega) (by omega), Option.bind_some, hj]
            unfold cellV
            rw [decide_eq_true h2, h3]
            cases hasC l (rd L[i] 0) (rd L[i] 1) <;> simp
          · rw [if_neg h3, hj]
            unfold cellV
            rw [Bool.eq_false_iff.2 h3]; simp
        · rw [if_neg (by omega), hj]
          unfold cellV
          rw [decide_eq_false h2]; simp)
      (fun i hi k j hj => by
        show impl_Board_quiet.l1 (k + 1) _ _ _ _ _ _ _ _ (j : Int) _ _ _ = _
        rw [impl_Board_quiet.l1, if_neg (by rw [List.length_take]; omega), w64 _ (by omega) (by omega), show ((i : Int) + 1) = ((i + 1 : Nat) : Int) by omega])
      (fun i hi j hj hv1 hv2 => by
        have hc1 := cellV_cell h hv1
        obtain ⟨K, hK⟩ := ev_get (kEqual_ev L[i] (L[j]'(by omega)) (by obtain ⟨p, q, e, _⟩ := hc1; rw [e]; simp))
        refine ⟨K, fun k hk => ?_⟩
        have hjt : j < (L.take i).length := by rw [List.length_take]; omega
        show impl_Board_quiet.l1 (k + 1) _ _ _ _ _ _ _ _ (j : Int) _ _ _ = _
        rw [impl_Board_quiet.l1, if_pos (by omega), if_pos (by omega), if_pos (by omega), rdL_nat _ _ hjt, List.getElem_take, List.getD_eq_getElem?_getD, List.getElem?_eq_getElem hi, Option.getD_some, hK k (by omega), Option.bind_some, w64 ((j : Int) + 1) (by omega) (by omega), show ((j : Int) + 1) = ((j + 1 : Nat) : Int) by omega]
        by_cases he : L[i] = L[j]'(by omega)
        · rw [decide_eq_true he, if_pos rfl, he, if_pos (hself _)]
        · rw [decide_eq_false he, if_neg (by simp)]
          have := hD _ _ hc1 (cellV_cell h hv2)
          simp only [FnCall57.f, this, Option.bind_some]
          cases D L[i] (L[j]'(by omega)) <;> simp)
      L.length 0 (by omega) (by omega) (fun j hj => by omega))
  refine ⟨K, fun k hk => ?_⟩
  simp only [impl_Board_quiet.f]
  exact hK k hk
end Go.Proofs.Ytjjfcghoikdopaa.P
namespace Go.Proofs.Ytjjfcghoikdopaa.P
open Go.RowKit Go.Proofs.YtjjfcghoikdopaaW.PrintWords Go.Proofs.YtjjfcghoikdopaaW.PrintLast Go.Proofs.YtjjfcghoikdopaaW.PrintMore
set_option linter.unusedVariables false
set_option linter.unusedSimpArgs false
/-- The places of a colour, row by row. -/
def cellsQ (R C q : Nat) : List (Nat × Nat) := (List.range R).flatMap fun r => ((List.range C).filter fun c => (r + c) % 2 = q).map fun c => (r, c)
def upN (R C q : Nat) : List Nat := (List.range (R + C)).filter fun s => (cellsQ R C q).any fun x => x.1 + x.2 == s
def downN (R C q : Nat) : List Nat := (List.range (R + C)).filter fun s => (cellsQ R C q).any fun x => x.1 + C == s + x.2 + 1
def upL (R C q : Nat) : List Int := (upN R C q).map fun (s : Nat) => (s : Int)
def downL (R C q : Nat) : List Int := (downN R C q).map fun (s : Nat) => (s : Int)
/-- The place on two diagonals, if there is one. -/
def crossN (R C u d : Nat) : Option (Nat × Nat) := if C ≤ u + d + 1 ∧ (u + d + 1 - C) % 2 = 0 ∧ (u + d + 1 - C) / 2 < R ∧ (u + d + 1 - C) / 2 ≤ u ∧ u - (u + d + 1 - C) / 2 < C then some ((u + d + 1 - C) / 2, u - (u + d + 1 - C) / 2) else none
theorem lines_len : ∀ R : Fin 7, ∀ C : Fin 7, ∀ q : Fin 2, (upN R.val C.val q.val).length ≤ 6 ∧ (downN R.val C.val q.val).length ≤ 6 ∧ ((upN R.val C.val q.val).length = 0 ↔ (downN R.val C.val q.val).length = 0) := by decide +kernel
/-- A mask of the columns that f holds. -/
def mk (f : Nat → Bool) : Nat → Int
  | 0 => 0
  | j + 1 => mk f j + if f j = true then ((2 ^ j : Nat) : Int) else 0
theorem mk_nat (f : Nat → Bool) : ∀ j, ∃ m : Nat, mk f j = (m : Int) ∧ m < 2 ^ j
  | 0 => ⟨0, rfl, by decide⟩
  | j + 1 => by
    obtain ⟨m, e, h⟩ := mk_nat f j
    have e2 : 2 ^ (j + 1) = 2 ^ j + 2 ^ j := by rw [Nat.pow_succ]; omega
    simp only [mk, e]
    split
    · exact ⟨m + 2 ^ j, by omega, by omega⟩
    · exact ⟨m, by omega, by omega⟩
def sumL : List Int → Int
  | [] => 0
  | x :: l => x + sumL l
/-- Of places with columns: the bits of those that the board holds. -/
def bits (l : List Int) (xs : List ((Nat × Nat) × Nat)) : Int := sumL (xs.map fun x => if hasC l (x.1.1 : Int) (x.1.2 : Int) = true then ((2 ^ x.2 : Nat) : Int) else 0)
def crossB (R C : Nat) (l : List Int) (u d : Nat) : Bool := (crossN R C u d).any fun x => hasC l (x.1 : Int) (x.2 : Int)
/-- The cells of the colour board. -/
def colL (R C q : Nat) (l : List Int) : List Int := (upN R C q).map fun u => mk (fun k => crossB R C l u ((downN R C q).getD k 0)) (downN R C q).length
theorem colL_length (R C q : Nat) (l : List Int) : (colL R C q l).length = (upN R C q).length := by simp [colL]
theorem colL_board {R C q : Nat} (l : List Int) (hR : R ≤ 6) (hC : C ≤ 6) (hq : q ≤ 1) (hn : (upN R C q).length ≠ 0) : boardB ((upN R C q).length : Int) ((downN R C q).length : Int) (colL R C q l) = true := by
  have hl := lines_len ⟨R, by omega⟩ ⟨C, by omega⟩ ⟨q, by omega⟩
  simp only at hl
  rw [boardB_iff]
  refine ⟨by omega, by omega, by rw [colL_length], fun m hm => ?_⟩
  unfold colL at hm
  rw [List.mem_map] at hm
  obtain ⟨u, _, rfl⟩ := hm
  obtain ⟨m, e, h⟩ := mk_nat (fun k => crossB R C l u ((downN R C q).getD k 0)) (downN R C q).length
  rw [e, Int.toNat_natCast]
  have e2 : (2 : Int) ^ (downN R C q).length = ((2 ^ (downN R C q).length : Nat) : Int) := by simp
  rw [e2]
  omega
end Go.Proofs.Ytjjfcghoikdopaa.P
namespace Go.Proofs.Ytjjfcghoikdopaa.P
open Go.RowKit Go.Proofs.YtjjfcghoikdopaaW.PrintWords Go.Proofs.YtjjfcghoikdopaaW.PrintLast Go.Proofs.YtjjfcghoikdopaaW.PrintMore
set_option linter.unusedVariables false
set_option linter.unusedSimpArgs false
theorem col_nat {R C q : Int} {l : List Int} (h : boardB R C l = true) (hq : inB q 0 1 = true) : ∃ R' C' q' : Nat, R = R' ∧ C = C' ∧ q = q' ∧ R' ≤ 6 ∧ C' ≤ 6 ∧ q' ≤ 1 := by
  have hb := (boardB_iff _ _ _).1 h
  have hq2 : 0 ≤ q ∧ q ≤ 1 := by simpa [inB] using hq
  exact ⟨R.toNat, C.toNat, q.toNat, by omega, by omega, by omega, by omega, by omega, by omega⟩
theorem diag_l (l : List Int) : ∀ k, (∀ q u d n i R C, impl_Board_diagonals.l0 k q u d n i R C l = impl_Board_diagonals.l0 k q u d n i R C []) ∧ (∀ q u d b n i m j R C, impl_Board_diagonals.l1 k q u d b n i m j R C l = impl_Board_diagonals.l1 k q u d b n i m j R C []) := by
  intro k
  induction k with
  | zero => exact ⟨fun _ _ _ _ _ _ _ => rfl, fun _ _ _ _ _ _ _ _ _ _ => rfl⟩
  | succ k ih =>
    refine ⟨fun q u d n i R C => ?_, fun q u d b n i m j R C => ?_⟩
    · unfold impl_Board_diagonals.l0
      rw [ih.2]
    · unfold impl_Board_diagonals.l1
      simp only [fun q u d b n i m j R C => ih.2 q u d b n i m j R C, fun q u d n i R C => ih.1 q u d n i R C]
theorem diag_ok : ∀ R : Fin 7, ∀ C : Fin 7, ∀ q : Fin 2, impl_Board_diagonals.f 60 (R.val : Int) (C.val : Int) [] (q.val : Int) = some (upL R.val C.val q.val, downL R.val C.val q.val) := by decide +kernel
theorem diag_ev (R C q : Nat) (hR : R ≤ 6) (hC : C ≤ 6) (hq : q ≤ 1) (l : List Int) : Ev (fun k => impl_Board_diagonals.f k (R : Int) (C : Int) l (q : Int)) (upL R C q, downL R C q) := by
  refine Ev.of (impl_Board_diagonals.mono _ _ _ _) (k := 60) ?_
  have h := diag_ok ⟨R, by omega⟩ ⟨C, by omega⟩ ⟨q, by omega⟩
  simp only at h
  rw [← h]
  exact (diag_l l 60).1 _ _ _ _ _ _ _
theorem lines_l (l : List Int) : ∀ k, (∀ q u d i R C, spec_biLines.l0 k q u d i R C l = spec_biLines.l0 k q u d i R C []) ∧ (∀ q u d i j R C, spec_biLines.l1 k q u d i j R C l = spec_biLines.l1 k q u d i j R C []) := by
  intro k
  induction k with
  | zero => exact ⟨fun _ _ _ _ _ _ => rfl, fun _ _ _ _ _ _ _ => rfl⟩
  | succ k ih =>
    refine ⟨fun q u d i R C => ?_, fun q u d i j R C => ?_⟩
    · unfold spec_biLines.l0
      rw [ih.2]
    · unfold spec_biLines.l1
      simp only [spec_biDiagonals.f, fun q u d i j R C => ih.2 q u d i j R C, fun q u d i R C => ih.1 q u d i R C]
theorem lines_ok : ∀ R : Fin 7, ∀ C : Fin 7, ∀ q : Fin 2, spec_biLines.f 60 (R.val : Int) (C.val : Int) [] (q.val : Int) = some (upL R.val C.val q.val, downL R.val C.val q.val) := by decide +kernel
theorem lines_ev (R C q : Nat) (hR : R ≤ 6) (hC : C ≤ 6) (hq : q ≤ 1) (l : List Int) : Ev (fun k => spec_biLines.f k (R : Int) (C : Int) l (q : Int)) (upL R C q, downL R C q) := by
  refine Ev.of (spec_biLines.mono _ _ _ _) (k := 60) ?_
  have h := lines_ok ⟨R, by omega⟩ ⟨C, by omega⟩ ⟨q, by omega⟩
  simp only at h
  rw [← h]
  exact (lines_l l 60).1 _ _ _ _ _ _
theorem upL_length (R C q : Nat) : (upL R C q).length = (upN R C q).length := by simp [upL]
theorem downL_length (R C q : Nat) : (downL R C q).length = (downN R C q).length := by simp [downL]
theorem upN_small : ∀ R : Fin 7, ∀ C : Fin 7, ∀ q : Fin 2, (∀ x ∈ upN R.val C.val q.val, x < 12) ∧ (∀ x ∈ downN R.val C.val q.val, x < 12) := by decide +kernel
theorem up_at {R C q : Nat} (hR : R ≤ 6) (hC : C ≤ 6) (hq : q ≤ 1) {i : Nat} (hi : i < (upN R C q).length) : rd (upL R C q) (i : Int) = ((upN R C q).getD i 0 : Nat) ∧ (upN R C q).getD i 0 < 12 := by
  have h := (upN_small ⟨R, by omega⟩ ⟨C, by omega⟩ ⟨q, by omega⟩).1 _ (List.getElem_mem hi)
  refine ⟨?_, by rw [List.getD_eq_getElem?_getD, List.getElem?_eq_getElem hi]; exact h⟩
  rw [rd_nat _ _ (by rw [upL_length]; exact hi)]
  simp [upL, hi, List.getD_eq_getElem?_getD]
theorem down_at {R C q : Nat} (hR : R ≤ 6) (hC : C ≤ 6) (hq : q ≤ 1) {i : Nat} (hi : i < (downN R C q).length) : rd (downL R C q) (i : Int) = ((downN R C q).getD i 0 : Nat) ∧ (downN R C q).getD i 0 < 12 := by
  have h := (upN_small ⟨R, by omega⟩ ⟨C, by omega⟩ ⟨q, by omega⟩).2 _ (List.getElem_mem hi)
  refine ⟨?_, by rw [List.getD_eq_getElem?_getD, List.getElem?_eq_getElem hi]; exact h⟩
  rw [rd_nat _ _ (by rw [downL_length]; exact hi)]
  simp [downL, hi, List.getD_eq_getElem?_getD]
def crossV (R C u d : Nat) : Int × Int × Bool := (impl_Board_crossing.f (R : Int) (C : Int) [] (u : Int) (d : Int)).getD (0, 0, false)
theorem cross_ok : ∀ R : Fin 7, ∀ C : Fin 7, ∀ u : Fin 12, ∀ d : Fin 12, impl_Board_crossing.f (R.val : Int) (C.val : Int) [] (u.val : Int) (d.val : Int) = some (crossV R.val C.val u.val d.val) ∧ crossN R.val C.val u.val d.val = (if (crossV R.val C.val u.val d.val).2.2 = true then some ((crossV R.val C.val u.val d.val).1.toNat, (crossV R.val C.val u.val d.val).2.1.toNat) else none) ∧ ((crossV R.val C.val u.val d.val).2.2 = true → (0 ≤ (crossV R.val C.val u.val d.val).1 ∧ (crossV R.val C.val u.val d.val).1 < R.val) ∧ (0 ≤ (crossV R.val C.val u.val d.val).2.1 ∧ (crossV R.val C.val u.val d.val).2.1 < C.val)) := by decide +kernel
theorem cross_eq {R C u d : Nat} (hR : R ≤ 6) (hC : C ≤ 6) (hu : u < 12) (hd : d < 12) (l : List Int) : impl_Board_crossing.f (R : Int) (C : Int) l (u : Int) (d : Int) = some (crossV R C u d) := (cross_ok ⟨R, by omega⟩ ⟨C, by omega⟩ ⟨u, hu⟩ ⟨d, hd⟩).1
theorem cell_ok : ∀ R : Fin 7, ∀ C : Fin 7, ∀ u : Fin 12, ∀ d : Fin 12, spec_biCell.j0 1 0 0 [(u.val : Int)] [(d.val : Int)] false (R.val : Int) (C.val : Int) [] = some (if (crossV R.val C.val u.val d.val).2.2 = true then ((crossV R.val C.val u.val d.val).1, (crossV R.val C.val u.val d.val).2.1, true) else (0, 0, false)) := by decide +kernel
theorem cell_j0 (k : Nat) (r c : Int) (U D : List Int) (R C : Int) (l : List Int) (h0 : 0 ≤ r) (h1 : r < (U.length : Int)) (h2 : 0 ≤ c) (h3 : c < (D.length : Int)) : spec_biCell.j0 (k + 1) r c U D false R C l = spec_biCell.j0 1 0 0 [rd U r] [rd D c] false R C [] := by
  rw [spec_biCell.j0, spec_biCell.j0]
  have e1 : rd [rd U r] 0 = rd U r := rfl
  have e2 : rd [rd D c] 0 = rd D c := rfl
  rw [if_pos h0, if_pos h1, if_pos h2, if_pos h3]
  simp only [e1, e2, List.length_singleton]
  rfl
end Go.Proofs.Ytjjfcghoikdopaa.P
namespace Go.Proofs.Ytjjfcghoikdopaa.P
open Go.RowKit Go.Proofs.YtjjfcghoikdopaaW.PrintWords Go.Proofs.YtjjfcghoikdopaaW.PrintLast Go.Proofs.YtjjfcghoikdopaaW.PrintMore
set_option linter.unusedVariables false
set_option linter.unusedSimpArgs false
theorem or_add' : ∀ r : Fin 6, ∀ m : Fin 64, m.val < 2 ^ r.val → Go.bits .or .i64 (m.val : Int) (shl .i64 1 (r.val : Int)) = ((m.val + 2 ^ r.val : Nat) : Int) := by decide +kernel
theorem mk_or (f : Nat → Bool) (j : Nat) (hj : j < 6) (h : f j = true) : Go.bits .or .i64 (mk f j) (shl .i64 1 (j : Int)) = mk f (j + 1) := by
  obtain ⟨m, e, hm⟩ := mk_nat f j
  have h64 : 2 ^ j ≤ 2 ^ 5 := Nat.pow_le_pow_right (by omega) (by omega)
  have := or_add' ⟨j, hj⟩ ⟨m, by omega⟩ hm
  simp only at this
  rw [mk, if_pos h, e, this]
  omega
theorem mk_same (f : Nat → Bool) (j : Nat) (h : f j = false) : mk f (j + 1) = mk f j := by
  rw [mk, if_neg (by simp [h])]; omega
theorem rd_set_same (L : List Int) (i : Nat) (v : Int) (h : i < L.length) : rd (L.set i v) (i : Int) = v := by
  rw [rd_nat _ _ (by simpa using h)]; simp
theorem col_in {R C q : Nat} {l : List Int} (h : boardB (R : Int) (C : Int) l = true) (hR : R ≤ 6) (hC : C ≤ 6) (hq : q ≤ 1) (n R' C' : Int) (i : Nat) (hi : i < (upN R C q).length) (L : List Int) (hL : L.length = (upN R C q).length) (res : Int × Int × List Int × Bool)
    (hn : Ev (fun k => impl_Board_coloured.l0 k (downL R C q) (upL R C q) n ((i + 1 : Nat) : Int) (R : Int) (C : Int) l R' C' (L.set i (mk (fun k => crossB R C l ((upN R C q).getD i 0) ((downN R C q).getD k 0)) (downN R C q).length))) res) :
    ∀ (d j : Nat), (downN R C q).length - j = d → j ≤ (downN R C q).length →
    Ev (fun k => impl_Board_coloured.l1 k (downL R C q) (i : Int) (((upN R C q).getD i 0 : Nat) : Int) (upL R C q) n (i : Int) (downL R C q) ((downN R C q).length : Int) (j : Int) (R : Int) (C : Int) l R' C' (L.set i (mk (fun k => crossB R C l ((upN R C q).getD i 0) ((downN R C q).getD k 0)) j))) res := by
  have hlen := lines_len ⟨R, by omega⟩ ⟨C, by omega⟩ ⟨q, by omega⟩
  simp only at hlen
  obtain ⟨hu1, hu2⟩ := up_at hR hC hq hi
  have hb := (boardB_iff _ _ _).1 h
  intro d
  induction d with
  | zero =>
    intro j hd hj
    have : j = (downN R C q).length := by omega
    subst this
    obtain ⟨K, hK⟩ := ev_get hn
    refine ⟨K + 1, fun k hk => ?_⟩
    obtain ⟨k, rfl⟩ : ∃ m, k = m + 1 := ⟨k - 1, by omega⟩
    have e := hK k (by omega)
    rw [show ((i + 1 : Nat) : Int) = (i : Int) + 1 by omega] at e
    dsimp only
    rw [impl_Board_coloured.l1, if_neg (by omega), w64 _ (by omega) (by omega)]
    exact e
  | succ d ih =>
    intro j hd hj
    have hj2 : j < (downN R C q).length := by omega
    obtain ⟨hd1, hd2⟩ := down_at hR hC hq hj2
    obtain ⟨K, hK⟩ := ev_get (ih (j + 1) (by omega) (by omega))
    refine ⟨K + 1, fun k hk => ?_⟩
    obtain ⟨k, rfl⟩ : ∃ m, k = m + 1 := ⟨k - 1, by omega⟩
    have e := hK k (by omega)
    rw [show ((j + 1 : Nat) : Int) = (j : Int) + 1 by omega] at e
    have hc := cross_eq hR hC hu2 hd2 l
    have ho := cross_ok ⟨R, by omega⟩ ⟨C, by omega⟩ ⟨_, hu2⟩ ⟨_, hd2⟩
    simp only at ho
    obtain ⟨_, ho1, ho2⟩ := ho
    dsimp only
    rw [impl_Board_coloured.l1, if_pos (by omega), if_pos (by omega), if_pos (by rw [downL_length]; omega), hd1, hc, Option.bind_some]
    rw [w64 ((j : Int) + 1) (by omega) (by omega)]
    cases ht : (crossV R C ((upN R C q).getD i 0) ((downN R C q).getD j 0)).2.2 with
    | false =>
      rw [ht] at ho1
      rw [if_neg (by simp)]
      rw [mk_same _ _ (by show crossB R C l _ _ = false; simp only [crossB, ho1]; rfl)] at e
      exact e
    | true =>
      rw [ht] at ho1 ho2
      obtain ⟨hx, hy⟩ := ho2 rfl
      rw [if_pos rfl, has_eq h hx.1 hx.2 hy.1 hy.2, Option.bind_some]
      have hcb : crossB R C l ((upN R C q).getD i 0) ((downN R C q).getD j 0) = hasC l (crossV R C ((upN R C q).getD i 0) ((downN R C q).getD j 0)).1 (crossV R C ((upN R C q).getD i 0) ((downN R C q).getD j 0)).2.1 := by
        simp only [crossB, ho1, if_true, Option.any_some]
        rw [Int.toNat_of_nonneg hx.1, Int.toNat_of_nonneg hy.1]
      by_cases hh : hasC l (crossV R C ((upN R C q).getD i 0) ((downN R C q).getD j 0)).1 (crossV R C ((upN R C q).getD i 0) ((downN R C q).getD j 0)).2.1 = true
      · rw [if_pos hh, if_pos (by omega), if_pos (by rw [List.length_set]; omega), rd_set_same _ _ _ (by omega), Int.toNat_natCast, List.set_set, mk_or _ _ (by omega) (by show crossB R C l _ _ = true; rw [hcb]; exact hh)]
        exact e
      · rw [if_neg hh]
        rw [mk_same _ _ (by show crossB R C l _ _ = false; rw [hcb]; simpa using hh)] at e
        exact e
theorem col_out {R C q : Nat} {l : List Int} (h : boardB (R : Int) (C : Int) l = true) (hR : R ≤ 6) (hC : C ≤ 6) (hq : q ≤ 1) (R' C' : Int) : ∀ (d i : Nat), (upN R C q).length - i = d → i ≤ (upN R C q).length →
    Ev (fun k => impl_Board_coloured.l0 k (downL R C q) (upL R C q) ((upN R C q).length : Int) (i : Int) (R : Int) (C : Int) l R' C' ((colL R C q l).take i ++ List.replicate ((upN R C q).length - i) 0)) (R', C', colL R C q l, true) := by
  have hlen := lines_len ⟨R, by omega⟩ ⟨C, by omega⟩ ⟨q, by omega⟩
  simp only at hlen
  intro d
  induction d with
  | zero =>
    intro i hd hi
    have : i = (upN R C q).length := by omega
    subst this
    refine ⟨1, fun k hk => ?_⟩
    obtain ⟨k, rfl⟩ : ∃ m, k = m + 1 := ⟨k - 1, by omega⟩
    dsimp only
    rw [impl_Board_coloured.l0, if_neg (by omega), Nat.sub_self, List.replicate_zero, List.append_nil, List.take_of_length_le (by rw [colL_length]; omega)]
  | succ d ih =>
    intro i hd hi
    have hi2 : i < (upN R C q).length := by omega
    obtain ⟨hu1, hu2⟩ := up_at hR hC hq hi2
    have hcl := colL_length R C q l
    have hLl : ((colL R C q l).take i ++ List.replicate ((upN R C q).length - i) (0 : Int)).length = (upN R C q).length := by simp [hcl]; omega
    have hrep : List.replicate ((upN R C q).length - i) (0 : Int) = 0 :: List.replicate ((upN R C q).length - (i + 1)) 0 := by
      rw [show (upN R C q).length - i = (upN R C q).length - (i + 1) + 1 by omega, List.replicate_succ]
    have htl : ((colL R C q l).take i).length = i := by rw [List.length_take, hcl]; omega
    have hset : ∀ v : Int, ((colL R C q l).take i ++ List.replicate ((upN R C q).length - i) (0 : Int)).set i v = (colL R C q l).take i ++ v :: List.replicate ((upN R C q).length - (i + 1)) 0 := by
      intro v
      rw [hrep, List.set_append_right _ _ (by omega), htl, Nat.sub_self, List.set_cons_zero]
    have hnext : (colL R C q l).take (i + 1) ++ List.replicate ((upN R C q).length - (i + 1)) 0 = ((colL R C q l).take i ++ List.replicate ((upN R C q).length - i) (0 : Int)).set i (mk (fun k => crossB R C l ((upN R C q).getD i 0) ((downN R C q).getD k 0)) (downN R C q).length) := by
      rw [hset, List.take_succ_eq_append_getElem (by omega), List.append_assoc]
      congr 1
      simp only [List.singleton_append, colL, List.getElem_map, List.getD_eq_getElem?_getD, List.getElem?_eq_getElem hi2, Option.getD_some]
    have hih := ih (i + 1) (by omega) (by omega)
    rw [hnext] at hih
    have hin := col_in h hR hC hq ((upN R C q).length : Int) R' C' i hi2 _ hLl _ hih (downN R C q).length 0 (by omega) (by omega)
    have h0 : ((colL R C q l).take i ++ List.replicate ((upN R C q).length - i) (0 : Int)).set i (mk (fun k => crossB R C l ((upN R C q).getD i 0) ((downN R C q).getD k 0)) 0) = (colL R C q l).take i ++ List.replicate ((upN R C q).length - i) (0 : Int) := by
      rw [hset, hrep]; rfl
    rw [h0] at hin
    obtain ⟨K, hK⟩ := ev_get hin
    refine ⟨K + 1, fun k hk => ?_⟩
    obtain ⟨k, rfl⟩ : ∃ m, k = m + 1 := ⟨k - 1, by omega⟩
    dsimp only
    rw [impl_Board_coloured.l0, if_pos (by omega), if_pos (by omega), if_pos (by rw [upL_length]; omega), hu1, downL_length]
    exact hK k (by omega)
def colR (R C q : Nat) (l : List Int) : Int × Int × List Int × Bool := if (upN R C q).length = 0 then (0, 0, [], false) else (((upN R C q).length : Int), ((downN R C q).length : Int), colL R C q l, true)
theorem coloured_ev {R C q : Nat} {l : List Int} (h : boardB (R : Int) (C : Int) l = true) (hR : R ≤ 6) (hC : C ≤ 6) (hq : q ≤ 1) : Ev (fun k => impl_Board_coloured.f k (R : Int) (C : Int) l (q : Int)) (colR R C q l) := by
  have hlen := lines_len ⟨R, by omega⟩ ⟨C, by omega⟩ ⟨q, by omega⟩
  simp only at hlen
  obtain ⟨K1, h1⟩ := ev_get (diag_ev R C q hR hC hq l)
  obtain ⟨K2, h2⟩ := ev_get (col_out h hR hC hq ((upN R C q).length : Int) ((downN R C q).length : Int) (upN R C q).length 0 (by omega) (by omega))
  unfold colR
  by_cases h0 : (upN R C q).length = 0
  · rw [if_pos h0]
    refine ⟨K1, fun k hk => ?_⟩
    simp only [impl_Board_coloured.f, h1 k (by omega), Option.bind_some, upL_length, h0]
    rfl
  · rw [if_neg h0]
    refine ⟨K1 + K2, fun k hk => ?_⟩
    have e := h2 k (by omega)
    simp only [impl_Board_coloured.f, h1 k (by omega), Option.bind_some, upL_length, downL_length, impl_newBoard.f]
    rw [if_neg (by omega), if_pos (by omega), if_pos (by omega)]
    simp only [Option.bind_some, Int.toNat_natCast]
    simpa using e
end Go.Proofs.Ytjjfcghoikdopaa.P
namespace Go.Proofs.Ytjjfcghoikdopaa.P
open Go.RowKit Go.Proofs.YtjjfcghoikdopaaW.PrintWords Go.Proofs.YtjjfcghoikdopaaW.PrintLast Go.Proofs.YtjjfcghoikdopaaW.PrintMore
set_option linter.unusedVariables false
set_option linter.unusedSimpArgs false
def Bytes (s : List Int) : Prop := ∀ x ∈ s, 0 ≤ x ∧ x ≤ 255
theorem bytes_of {s : List Int} (h : ∀ x ∈ s, (Lit.int .u8 x).wf = true) : Bytes s := by
  intro x hx
  have := h x hx
  simp [Lit.wf, IntKind.wrap, IntKind.bits, IntKind.signed, IntKind.min, IntKind.max] at this
  omega
theorem u64_wrap (n : Int) : IntKind.u64.wrap n = n % 18446744073709551616 := by simp [IntKind.wrap, IntKind.bits, IntKind.signed]
theorem seed_byte (n : Int) : 0 ≤ Go.bits .and .u64 (IntKind.u64.wrap n / 1099511627776) 255 ∧ Go.bits .and .u64 (IntKind.u64.wrap n / 1099511627776) 255 ≤ 255 := by
  have h0 : 0 ≤ IntKind.u64.wrap n / 1099511627776 := by rw [u64_wrap]; omega
  have h1 : IntKind.u64.wrap n / 1099511627776 < 2 ^ 24 := by rw [u64_wrap]; omega
  have := bits_mask .u64 24 (by decide) (fun n h0 h1 => by rw [u64_wrap]; omega) 8 (by decide) _ h0 h1
  have e : (2 : Int) ^ 8 - 1 = 255 := by decide
  rw [e] at this
  rw [this]
  omega
theorem next_ok {s : List Int} (hs : Bytes s) (a b : Int) (h0 : 0 ≤ a) (h1 : a ≤ 4611686018427387904) : ∃ x b', spec_l1Cur_next.f s a b = some (x, a + 1, b') ∧ 0 ≤ x ∧ x ≤ 255 := by
  unfold spec_l1Cur_next.f
  rw [w64 (a + 1) (by omega) (by omega)]
  by_cases h : a < (s.length : Int)
  · rw [if_pos h, if_pos h0, if_pos (by omega)]
    have hx := hs (rd s a) (by
      obtain ⟨n, rfl⟩ : ∃ n : Nat, a = (n : Int) := ⟨a.toNat, by omega⟩
      rw [rd_nat _ _ (show n < s.length by omega)]
      exact List.getElem_mem _)
    rw [w64 _ (by omega) (by omega)]
    exact ⟨_, _, rfl, hx⟩
  · rw [if_neg h, if_neg (by omega)]
    have hx := seed_byte ((IntKind.u64.wrap (IntKind.u64.wrap (b * 6364136223846793005))) + 1442695040888963407)
    rw [w64 (Go.bits _ _ _ _) (by omega) (by omega)]
    exact ⟨_, _, rfl, hx⟩
theorem pick_ok {s : List Int} (hs : Bytes s) (a b n : Int) (h0 : 0 ≤ a) (h1 : a ≤ 4000000000000000000) : ∃ x a' b', spec_l1Cur_pick.f s a b n = some (x, a', b') ∧ 0 ≤ x ∧ (x < n ∨ n ≤ 1 ∧ x = 0) ∧ a ≤ a' ∧ a' ≤ a + 2 := by
  unfold spec_l1Cur_pick.f
  by_cases h : n ≤ 1
  · rw [if_pos h]
    exact ⟨0, a, b, rfl, by omega, .inr ⟨h, rfl⟩, by omega, by omega⟩
  · rw [if_neg h]
    obtain ⟨x, b1, e1, h2, h3⟩ := next_ok hs a b h0 (by omega)
    rw [e1]
    simp only [Option.bind_some]
    by_cases h4 : n > 200
    · obtain ⟨y, b2, e2, h5, h6⟩ := next_ok hs (a + 1) b1 (by omega) (by omega)
      rw [if_pos h4, e2]
      simp only [Option.bind_some]
      rw [if_neg (by omega), w64 (x * 256) (by omega) (by omega), w64 _ (by omega) (by omega)]
      refine ⟨_, _, _, rfl, Int.tmod_nonneg _ (by omega), .inl (Int.tmod_lt_of_pos _ (by omega)), by omega, by omega⟩
    · rw [if_neg h4, if_neg (by omega)]
      refine ⟨_, _, _, rfl, Int.tmod_nonneg _ (by omega), .inl (Int.tmod_lt_of_pos _ (by omega)), by omega, by omega⟩
theorem one_ok {s : List Int} (hs : Bytes s) (a b n : Int) (h0 : 0 ≤ a) (h1 : a ≤ 4000000000000000000) : ∃ x a' b', spec_l1Cur_one.f s a b n = some (x, a', b') ∧ a ≤ a' ∧ a' ≤ a + 2 := by
  obtain ⟨x, a', b', e, _, _, h4, h5⟩ := pick_ok hs a b n h0 h1
  unfold spec_l1Cur_one.f
  rw [e]
  exact ⟨_, _, _, rfl, h4, h5⟩
theorem among_ok {s : List Int} (hs : Bytes s) (a b : Int) (l : List Int) (hl : 0 < l.length) (h0 : 0 ≤ a) (h1 : a ≤ 4000000000000000000) : ∃ x a' b', spec_l1Cur_among.f s a b l = some (x, a', b') ∧ x ∈ l ∧ a ≤ a' ∧ a' ≤ a + 2 := by
  obtain ⟨x, a', b', e, h2, h3, h4, h5⟩ := pick_ok hs a b (l.length : Int) h0 h1
  unfold spec_l1Cur_among.f
  rw [e]
  simp only [Option.bind_some]
  have hx : x < (l.length : Int) := by omega
  rw [if_pos h2, if_pos hx]
  refine ⟨_, _, _, rfl, ?_, h4, h5⟩
  obtain ⟨n, rfl⟩ : ∃ n : Nat, x = (n : Int) := ⟨x.toNat, by omega⟩
  rw [rd_nat _ _ (show n < l.length by omega)]
  exact List.getElem_mem _
theorem big_eq (a b : List Int) (ha : a.length ≤ 140737488351232) (hb : b.length ≤ 140737488351232) : ∃ x, laws_big.f a b = some x := by
  unfold laws_big.f
  repeat (first | exact ⟨_, rfl⟩ | split | simp only [Option.bind_some])
end Go.Proofs.Ytjjfcghoikdopaa.P
namespace Go.Proofs.Ytjjfcghoikdopaa.P
open Go.RowKit Go.Proofs.YtjjfcghoikdopaaW.PrintWords Go.Proofs.YtjjfcghoikdopaaW.PrintLast Go.Proofs.YtjjfcghoikdopaaW.PrintMore
set_option linter.unusedVariables false
set_option linter.unusedSimpArgs false
theorem sides_ok {s : List Int} (hs : Bytes s) (a b : Int) (h0 : 0 ≤ a) (h1 : a ≤ 1000000000) : ∃ (v : Nat) (a' b' : Int), spec_l1Cur_sides.f s a b = some ((v : Int), a', b') ∧ 1 ≤ v ∧ v ≤ 6 ∧ a ≤ a' ∧ a' ≤ a + 4 := by
  obtain ⟨x, a1, b1, e1, h2, h3⟩ := one_ok hs a b 8 h0 (by omega)
  cases x with
  | true => exact ⟨6, a1, b1, by simp only [spec_l1Cur_sides.f, e1, Option.bind_some, if_true]; rfl, by omega, by omega, by omega, by omega⟩
  | false =>
    obtain ⟨y, a2, b2, e2, h4, h5, h6, h7⟩ := pick_ok hs a1 b1 5 (by omega) (by omega)
    refine ⟨(1 + y).toNat, a2, b2, ?_, by omega, by omega, by omega, by omega⟩
    simp only [spec_l1Cur_sides.f, e1, Option.bind_some, Bool.false_eq_true, if_false, e2]
    rw [w64 _ (by omega) (by omega), show (((1 + y).toNat : Nat) : Int) = 1 + y by omega]
theorem boardOf_f (k : Nat) (C R i a b Rr Cc x a1 b1 a2 b2 : Int) (s l : List Int) (hC : 0 ≤ C) (hi : i < R) (h0 : 0 ≤ i) (hl : i < (l.length : Int)) (e1 : spec_l1Cur_pick.f s a b (shl .i64 1 C) = some (x, a1, b1)) (e2 : spec_l1Cur_one.f s a1 b1 3 = some (false, a2, b2)) :
    spec_l1Cur_boardOf.l0 (k + 1) C R i s a b Rr Cc l = spec_l1Cur_boardOf.l0 k C R (wrap64 (i + 1)) s a2 b2 Rr Cc (l.set i.toNat x) := by
  rw [spec_l1Cur_boardOf.l0, if_pos hi, if_pos hC, e1, Option.bind_some, if_pos h0, if_pos hl, Option.bind_some, e2, Option.bind_some, if_neg (by simp)]
theorem boardOf_t (k : Nat) (C R i a b Rr Cc x a1 b1 a2 b2 z a3 b3 : Int) (s l : List Int) (hC : 0 ≤ C) (hi : i < R) (h0 : 0 ≤ i) (hl : i < (l.length : Int)) (e1 : spec_l1Cur_pick.f s a b (shl .i64 1 C) = some (x, a1, b1)) (e2 : spec_l1Cur_one.f s a1 b1 3 = some (true, a2, b2)) (e3 : spec_l1Cur_pick.f s a2 b2 (wrap64 (C + 1)) = some (z, a3, b3)) (hz : 0 ≤ z) :
    spec_l1Cur_boardOf.l0 (k + 1) C R i s a b Rr Cc l = spec_l1Cur_boardOf.l0 k C R (wrap64 (i + 1)) s a3 b3 Rr Cc ((l.set i.toNat x).set i.toNat (wrap64 (shl .i64 1 z - 1))) := by
  rw [spec_l1Cur_boardOf.l0, if_pos hi, if_pos hC, e1, Option.bind_some, if_pos h0, if_pos hl, Option.bind_some, e2, Option.bind_some, if_pos rfl, e3, Option.bind_some, if_pos hz]
theorem boardOf_l0 {s : List Int} (hs : Bytes s) (R C : Nat) (hR : R ≤ 6) (hC : C ≤ 6) : ∀ (d i : Nat) (l : List Int) (a b : Int), R - i = d → i ≤ R → l.length = R → 0 ≤ a → a + 6 * d ≤ 1000001000 →
    ∃ l' a' b', Ev (fun k => spec_l1Cur_boardOf.l0 k (C : Int) (R : Int) (i : Int) s a b (R : Int) (C : Int) l) ((R : Int), (C : Int), l', a', b') ∧ l'.length = R ∧ a ≤ a' ∧ a' ≤ a + 6 * d := by
  intro d
  induction d with
  | zero =>
    intro i l a b hd hi hl h0 h1
    refine ⟨l, a, b, ⟨1, fun k hk => ?_⟩, hl, by omega, by omega⟩
    obtain ⟨k, rfl⟩ : ∃ m, k = m + 1 := ⟨k - 1, by omega⟩
    dsimp only
    rw [spec_l1Cur_boardOf.l0, if_neg (by omega)]
  | succ d ih =>
    intro i l a b hd hi hl h0 h1
    have e0 : wrap64 ((i : Int) + 1) = ((i + 1 : Nat) : Int) := by rw [w64 _ (by omega) (by omega)]; omega
    have e9 : wrap64 ((C : Int) + 1) = (C : Int) + 1 := w64 _ (by omega) (by omega)
    obtain ⟨x, a1, b1, e1, _, _, h4, h5⟩ := pick_ok hs a b (shl .i64 1 (C : Int)) h0 (by omega)
    obtain ⟨y, a2, b2, e2, h6, h7⟩ := one_ok hs a1 b1 3 (by omega) (by omega)
    cases y with
    | false =>
      obtain ⟨l', a', b', ⟨K, hK⟩, h8, h9, h10⟩ := ih (i + 1) (l.set i x) a2 b2 (by omega) (by omega) (by simpa using hl) (by omega) (by omega)
      refine ⟨l', a', b', ⟨K + 1, fun k hk => ?_⟩, h8, by omega, by omega⟩
      obtain ⟨k, rfl⟩ : ∃ m, k = m + 1 := ⟨k - 1, by omega⟩
      have h := boardOf_f k (C : Int) (R : Int) (i : Int) a b (R : Int) (C : Int) x a1 b1 a2 b2 s l (by omega) (by omega) (by omega) (by omega) e1 e2
      rw [e0, Int.toNat_natCast] at h
      exact h.trans (hK k (by omega))
    | true =>
      obtain ⟨z, a3, b3, e3, h8, _, h10, h11⟩ := pick_ok hs a2 b2 (wrap64 ((C : Int) + 1)) (by omega) (by omega)
      obtain ⟨l', a', b', ⟨K, hK⟩, h12, h13, h14⟩ := ih (i + 1) ((l.set i x).set i (wrap64 (shl .i64 1 z - 1))) a3 b3 (by omega) (by omega) (by simpa using hl) (by omega) (by omega)
      refine ⟨l', a', b', ⟨K + 1, fun k hk => ?_⟩, h12, by omega, by omega⟩
      obtain ⟨k, rfl⟩ : ∃ m, k = m + 1 := ⟨k - 1, by omega⟩
      have h := boardOf_t k (C : Int) (R : Int) (i : Int) a b (R : Int) (C : Int) x a1 b1 a2 b2 z a3 b3 s l (by omega) (by omega) (by omega) (by omega) e1 e2 e3 h8
      rw [e0, Int.toNat_natCast] at h
      exact h.trans (hK k (by omega))
theorem boardOf_ok {s : List Int} (hs : Bytes s) (R C : Nat) (hR : R ≤ 6) (hC : C ≤ 6) (a b : Int) (h0 : 0 ≤ a) (h1 : a ≤ 1000000000) :
    ∃ l' a' b', Ev (fun k => spec_l1Cur_boardOf.f k s a b (R : Int) (C : Int)) ((R : Int), (C : Int), l', a', b') ∧ l'.length = R ∧ a ≤ a' ∧ a' ≤ a + 36 := by
  obtain ⟨l', a', b', e, h2, h3, h4⟩ := boardOf_l0 hs R C hR hC R 0 (List.replicate R 0) a b (by omega) (by omega) (by simp) h0 (by omega)
  obtain ⟨K, hK⟩ := ev_get e
  refine ⟨l', a', b', ⟨K, fun k hk => ?_⟩, h2, h3, by omega⟩
  simp only [spec_l1Cur_boardOf.f, spec_boEmpty.f]
  rw [if_pos (by omega), if_pos (by omega)]
  simp only [Option.bind_some, Int.toNat_natCast, List.length_replicate]
  exact hK k hk
theorem board_ok {s : List Int} (hs : Bytes s) (a b : Int) (h0 : 0 ≤ a) (h1 : a ≤ 100000000) :
    ∃ R C l a' b', Ev (fun k => spec_l1Cur_board.f k s a b) (R, C, l, a', b') ∧ l.length ≤ 7 ∧ (-1 ≤ R ∧ R ≤ 7) ∧ (-1 ≤ C ∧ C ≤ 4611686018427387904) ∧ a ≤ a' ∧ a' ≤ a + 60 := by
  obtain ⟨R, a1, b1, e1, r1, r6, h2, h3⟩ := sides_ok hs a b h0 (by omega)
  obtain ⟨C, a2, b2, e2, c1, c6, h4, h5⟩ := sides_ok hs a1 b1 (by omega) (by omega)
  obtain ⟨l, a3, b3, e3, hl, h6, h7⟩ := boardOf_ok hs R C r6 c6 a2 b2 (by omega) (by omega)
  obtain ⟨x, a4, b4, e4, h8, h9, h10, h11⟩ := pick_ok hs a3 b3 18 (by omega) (by omega)
  obtain ⟨K, hK⟩ := ev_get e3
  have hf : ∀ k, K ≤ k → spec_l1Cur_board.f k s a b = (if x = 0 then ((spec_l1Cur_among.f s a4 b4 [(-1), 0, wrap64 ((R : Int) + 1), 7]).bind fun bt1720 => (some (bt1720.1, (C : Int), l, bt1720.2.1, bt1720.2.2))) else (if x = 1 then ((spec_l1Cur_among.f s a4 b4 [(-1), 0, 7, 4611686018427387904]).bind fun bt1726 => (some ((R : Int), bt1726.1, l, bt1726.2.1, bt1726.2.2))) else (if x = 2 then ((spec_l1Cur_pick.f s a4 b4 (l.length : Int)).bind fun bt1729 => ((spec_l1Cur_among.f s bt1729.2.1 bt1729.2.2 [(-1), 64, 4611686018427387904]).bind fun bt1735 => (if 0 ≤ bt1729.1 then (if bt1729.1 < (l.length : Int) then (some ((R : Int), (C : Int), l.set bt1729.1.toNat bt1735.1, bt1735.2.1, bt1735.2.2)) else (none)) else (none)))) else (if x = 3 then (if l.length < 17592186044416 then (some ((R : Int), (C : Int), l ++ [0], a4, b4)) else (none)) else (some ((R : Int), (C : Int), l, a4, b4)))))) := by
    intro k hk
    simp only [spec_l1Cur_board.f, e1, Option.bind_some, e2, hK k hk, e4]
  by_cases x0 : x = 0
  · obtain ⟨y, a5, b5, e5, h12, h13, h14⟩ := among_ok hs a4 b4 [(-1), 0, wrap64 ((R : Int) + 1), 7] (by simp) (by omega) (by omega)
    refine ⟨y, C, l, a5, b5, ⟨K, fun k hk => ?_⟩, by omega, ?_, by omega, by omega, by omega⟩
    · refine (hf k hk).trans ?_; rw [if_pos x0, e5]; rfl
    · rw [w64 _ (by omega) (by omega)] at h12
      simp only [List.mem_cons, List.not_mem_nil, or_false] at h12
      omega
  · by_cases x1 : x = 1
    · obtain ⟨y, a5, b5, e5, h12, h13, h14⟩ := among_ok hs a4 b4 [(-1), 0, 7, 4611686018427387904] (by simp) (by omega) (by omega)
      refine ⟨R, y, l, a5, b5, ⟨K, fun k hk => ?_⟩, by omega, by omega, ?_, by omega, by omega⟩
      · refine (hf k hk).trans ?_; rw [if_neg x0, if_pos x1, e5]; rfl
      · simp only [List.mem_cons, List.not_mem_nil, or_false] at h12
        omega
    · by_cases x2 : x = 2
      · obtain ⟨y, a5, b5, e5, h12, h13, h14, h15⟩ := pick_ok hs a4 b4 (l.length : Int) (by omega) (by omega)
        obtain ⟨z, a6, b6, e6, h16, h17, h18⟩ := among_ok hs a5 b5 [(-1), 64, 4611686018427387904] (by simp) (by omega) (by omega)
        refine ⟨R, C, l.set y.toNat z, a6, b6, ⟨K, fun k hk => ?_⟩, by simp; omega, by omega, by omega, by omega, by omega⟩
        refine (hf k hk).trans ?_; rw [if_neg x0, if_neg x1, if_pos x2, e5]
        simp only [Option.bind_some]
        rw [e6]
        simp only [Option.bind_some]
        rw [if_pos h12, if_pos (by omega)]
      · by_cases x3 : x = 3
        · refine ⟨R, C, l ++ [0], a4, b4, ⟨K, fun k hk => ?_⟩, by simp; omega, by omega, by omega, by omega, by omega⟩
          refine (hf k hk).trans ?_; rw [if_neg x0, if_neg x1, if_neg x2, if_pos x3, if_pos (by omega)]
        · refine ⟨R, C, l, a4, b4, ⟨K, fun k hk => ?_⟩, by omega, by omega, by omega, by omega, by omega⟩
          refine (hf k hk).trans ?_; rw [if_neg x0, if_neg x1, if_neg x2, if_neg x3]
end Go.Proofs.Ytjjfcghoikdopaa.P
namespace Go.Proofs.Ytjjfcghoikdopaa.P
open Go.RowKit Go.Proofs.YtjjfcghoikdopaaW.PrintWords Go.Proofs.YtjjfcghoikdopaaW.PrintLast Go.Proofs.YtjjfcghoikdopaaW.PrintMore
set_option linter.unusedVariables false
set_option linter.unusedSimpArgs false
theorem dis_ok {kd : Int} (hk : kd = 0 ∨ kd = 1) {x y : List Int} (hx : Cell6 x) (hy : Cell6 y) : ∃ t, spec_biDisturb.f x y kd = some t := by
  rcases hk with rfl | rfl
  · exact ⟨_, biDisturb0_eq hx hy⟩
  · exact ⟨_, biDisturb1_eq hx hy⟩
theorem pieces_in {kd : Int} (hk : kd = 0 ∨ kd = 1) {x : List Int} (hx : Cell6 x) (q : List (List Int)) (hq : ∀ y ∈ q, Cell6 y) (hl : q.length ≤ 1000) : ∀ (d j : Nat) (b : Bool), q.length - j = d → j ≤ q.length → ∃ r, Ev (fun k => spec_l1Cur_pieces.l1 x q kd k (j : Int) b) r := by
  intro d
  induction d with
  | zero =>
    intro j b hd hj
    refine ⟨b, 1, fun k hk => ?_⟩
    obtain ⟨k, rfl⟩ : ∃ m, k = m + 1 := ⟨k - 1, by omega⟩
    dsimp only
    rw [spec_l1Cur_pieces.l1, if_neg (by omega)]
  | succ d ih =>
    intro j b hd hj
    have hlt : j < q.length := by omega
    cases b with
    | true =>
      obtain ⟨t, ht⟩ := dis_ok hk hx (hq q[j] (List.getElem_mem hlt))
      obtain ⟨r, e⟩ := ih (j + 1) (!t) (by omega) (by omega)
      obtain ⟨K, hK⟩ := ev_get e
      refine ⟨r, K + 1, fun k hk => ?_⟩
      obtain ⟨k, rfl⟩ : ∃ m, k = m + 1 := ⟨k - 1, by omega⟩
      dsimp only
      rw [spec_l1Cur_pieces.l1, if_pos (by omega), if_pos (by omega), if_pos rfl, rdL_nat _ _ hlt, ht, Option.bind_some, w64 _ (by omega) (by omega)]
      exact hK k (by omega)
    | false =>
      obtain ⟨r, e⟩ := ih (j + 1) false (by omega) (by omega)
      obtain ⟨K, hK⟩ := ev_get e
      refine ⟨r, K + 1, fun k hk => ?_⟩
      obtain ⟨k, rfl⟩ : ∃ m, k = m + 1 := ⟨k - 1, by omega⟩
      dsimp only
      rw [spec_l1Cur_pieces.l1, if_pos (by omega), if_pos (by omega), if_neg (by simp), w64 _ (by omega) (by omega)]
      exact hK k (by omega)
theorem pieces_dec {s : List Int} (hs : Bytes s) (a b : Int) (h0 : 0 ≤ a) (h1 : a ≤ 1000000000) (qt : Bool) : ∃ r a' b', spec_l1Cur_pieces.dec s a b qt = some (r, a', b') ∧ a ≤ a' ∧ a' ≤ a + 4 := by
  obtain ⟨x, a1, b1, e1, h2, h3⟩ := one_ok hs a b 2 h0 (by omega)
  unfold spec_l1Cur_pieces.dec
  rw [e1, Option.bind_some]
  cases x with
  | false => exact ⟨false, a1, b1, by simp, by omega, by omega⟩
  | true =>
    cases qt with
    | true => exact ⟨true, a1, b1, by simp, by omega, by omega⟩
    | false =>
      obtain ⟨y, a2, b2, e2, h4, h5⟩ := one_ok hs a1 b1 12 (by omega) (by omega)
      exact ⟨y, a2, b2, by simpa using e2, by omega, by omega⟩
theorem pieces_out {s : List Int} (hs : Bytes s) {kd : Int} (hk : kd = 0 ∨ kd = 1) (all : List (List Int)) (ha : ∀ y ∈ all, Cell6 y) (hl : all.length ≤ 36) : ∀ (d i : Nat) (q : List (List Int)) (a b : Int), all.length - i = d → i ≤ all.length → q.length ≤ i → (∀ y ∈ q, y ∈ all) → 0 ≤ a → a + 6 * d ≤ 1000000000 →
    ∃ r a' b', Ev (fun k => spec_l1Cur_pieces.l0 all kd s k (i : Int) q a b) (r, a', b') ∧ r.length ≤ 36 ∧ (∀ y ∈ r, y ∈ all) ∧ a ≤ a' ∧ a' ≤ a + 6 * d := by
  intro d
  induction d with
  | zero =>
    intro i q a b hd hi hq hm h0 h1
    refine ⟨q, a, b, ⟨1, fun k hk => ?_⟩, by omega, hm, by omega, by omega⟩
    obtain ⟨k, rfl⟩ : ∃ m, k = m + 1 := ⟨k - 1, by omega⟩
    dsimp only
    rw [spec_l1Cur_pieces.l0, if_neg (by omega)]
  | succ d ih =>
    intro i q a b hd hi hq hm h0 h1
    have hlt : i < all.length := by omega
    obtain ⟨qt, e1⟩ := pieces_in hk (ha all[i] (List.getElem_mem hlt)) q (fun y hy => ha y (hm y hy)) (by omega) q.length 0 true (by omega) (by omega)
    obtain ⟨K1, k1⟩ := ev_get e1
    obtain ⟨o, a1, b1, e2, h2, h3⟩ := pieces_dec hs a b h0 (by omega) qt
    cases o with
    | false =>
      obtain ⟨r, a2, b2, e3, h4, h5, h6, h7⟩ := ih (i + 1) q a1 b1 (by omega) (by omega) (by omega) hm (by omega) (by omega)
      obtain ⟨K3, k3⟩ := ev_get e3
      refine ⟨r, a2, b2, ⟨K1 + K3 + 1, fun k hk => ?_⟩, h4, h5, by omega, by omega⟩
      obtain ⟨k, rfl⟩ : ∃ m, k = m + 1 := ⟨k - 1, by omega⟩
      dsimp only
      have k1' := k1 k (by omega)
      try dsimp only at k1'
      rw [spec_l1Cur_pieces.l0, if_pos (by omega), if_pos (by omega), rdL_nat _ _ hlt, show (0 : Int) = ((0 : Nat) : Int) from rfl, k1', Option.bind_some, e2, Option.bind_some, if_neg (by simp), w64 _ (by omega) (by omega)]
      exact k3 k (by omega)
    | true =>
      obtain ⟨t, a2, b2, e3, h8, h9, h10, h11⟩ := pick_ok hs a1 b1 ((q.length : Int) + 1) (by omega) (by omega)
      have ht : t.toNat ≤ q.length := by omega
      have hlen : (q.take t.toNat ++ [all[i]] ++ q.drop t.toNat).length = q.length + 1 := by simp; omega
      have hmem : ∀ y ∈ q.take t.toNat ++ [all[i]] ++ q.drop t.toNat, y ∈ all := by
        intro y hy
        rw [List.mem_append, List.mem_append, List.mem_singleton] at hy
        rcases hy with (hy | rfl) | hy
        · exact hm y (List.mem_of_mem_take hy)
        · exact List.getElem_mem hlt
        · exact hm y (List.mem_of_mem_drop hy)
      obtain ⟨r, a3, b3, e4, h4, h5, h6, h7⟩ := ih (i + 1) _ a2 b2 (by omega) (by omega) (by omega) hmem (by omega) (by omega)
      obtain ⟨K3, k3⟩ := ev_get e4
      refine ⟨r, a3, b3, ⟨K1 + K3 + 1, fun k hk => ?_⟩, h4, h5, by omega, by omega⟩
      obtain ⟨k, rfl⟩ : ∃ m, k = m + 1 := ⟨k - 1, by omega⟩
      dsimp only
      have k1' := k1 k (by omega)
      try dsimp only at k1'
      rw [spec_l1Cur_pieces.l0, if_pos (by omega), if_pos (by omega), rdL_nat _ _ hlt, show (0 : Int) = ((0 : Nat) : Int) from rfl, k1', Option.bind_some, e2, Option.bind_some, if_pos rfl, w64 ((q.length : Int) + 1) (by omega) (by omega), e3, Option.bind_some, if_pos (by omega), if_pos (by omega), if_pos (by omega), w64 _ (by omega) (by omega)]
      exact k3 k (by omega)
theorem pieces_fin {s : List Int} (hs : Bytes s) (q : List (List Int)) (hl : q.length ≤ 36) (hq : ∀ y ∈ q, y.length ≤ 2) (a b : Int) (h0 : 0 ≤ a) (h1 : a ≤ 1000000000) : ∃ r a' b', spec_l1Cur_pieces.fin s q a b = some (r, a', b') ∧ r.length ≤ 37 ∧ (∀ y ∈ r, y.length ≤ 2) := by
  obtain ⟨t, a1, b1, e1, h2, h3, h4, h5⟩ := pick_ok hs a b 10 h0 (by omega)
  unfold spec_l1Cur_pieces.fin
  rw [e1, Option.bind_some]
  by_cases t0 : t = 0
  · subst t0
    obtain ⟨x, a2, b2, e2, h6, h7, h8, h9⟩ := pick_ok hs a1 b1 7 (by omega) (by omega)
    obtain ⟨y, a3, b3, e3, h10, h11, h12, h13⟩ := pick_ok hs a2 b2 7 (by omega) (by omega)
    refine ⟨q ++ [[wrap64 (x - 1), wrap64 (y - 1)]], a3, b3, ?_, by simp; omega, fun z hz => ?_⟩
    · simp only [if_true, e2, Option.bind_some, e3]
      rw [if_pos (by omega)]
    · rw [List.mem_append, List.mem_singleton] at hz
      rcases hz with hz | rfl
      · exact hq z hz
      · simp
  · by_cases t1 : t = 1
    · subst t1
      refine ⟨q ++ [[1]], a1, b1, ?_, by simp; omega, fun z hz => ?_⟩
      · dsimp only
        rw [if_neg (by decide), if_pos rfl, if_pos (by omega)]
      · rw [List.mem_append, List.mem_singleton] at hz
        rcases hz with hz | rfl
        · exact hq z hz
        · simp
    · refine ⟨q, a1, b1, ?_, by omega, hq⟩
      dsimp only
      rw [if_neg t0, if_neg t1]
theorem pieces_ok {s : List Int} (hs : Bytes s) {kd : Int} (hk : kd = 0 ∨ kd = 1) : ∃ R C l q a' b', Ev (fun k => spec_l1Cur_pieces.f k s 0 0 kd) (R, C, l, q, a', b') ∧ l.length ≤ 7 ∧ q.length ≤ 37 ∧ ∀ y ∈ q, y.length ≤ 2 := by
  obtain ⟨R, C, l, a, b, e1, hl, _, _, h2, h3⟩ := board_ok hs 0 0 (by omega) (by omega)
  obtain ⟨K1, k1⟩ := ev_get e1
  obtain ⟨K2, k2⟩ := ev_get (boGood_ev R C l (by omega))
  by_cases hb : boardB R C l = true
  · obtain ⟨K3, k3⟩ := ev_get (boCells_ev hb)
    obtain ⟨q, a2, b2, e4, h4, h5, h6, h7⟩ := pieces_out hs hk (cells R C l) (fun y hy => cells_cell hb hy) (cells_len hb) (cells R C l).length 0 [] a b (by omega) (by omega) (by simp) (by simp) (by omega) (by have := cells_len hb; omega)
    obtain ⟨K4, k4⟩ := ev_get e4
    obtain ⟨r, a3, b3, e5, h8, h9⟩ := pieces_fin hs q h4 (fun y hy => by obtain ⟨_, _, rfl, _⟩ := cells_cell hb (h5 y hy); simp) a2 b2 (by omega) (by have := cells_len hb; omega)
    refine ⟨R, C, l, r, a3, b3, ⟨K1 + K2 + K3 + K4, fun k hk => ?_⟩, hl, h8, h9⟩
    have k4' := k4 k (by omega)
    have e0 : ((0 : Nat) : Int) = 0 := rfl
    rw [e0] at k4'
    simp only [spec_l1Cur_pieces.f, k1 k (by omega), Option.bind_some, k2 k (by omega), if_pos hb, k3 k (by omega), k4', e5]
  · refine ⟨R, C, l, [[0, 0]], a, b, ⟨K1 + K2, fun k hk => ?_⟩, hl, by simp, by simp⟩
    simp only [spec_l1Cur_pieces.f, k1 k (by omega), Option.bind_some, k2 k (by omega), if_neg hb]
theorem drawBishops_ok {s : List Int} (hs : Bytes s) : ∃ R C l q, Ev (fun k => spec_DrawAreQuietBishops.f k s) (R, C, l, q) ∧ l.length ≤ 7 ∧ q.length ≤ 37 ∧ ∀ y ∈ q, y.length ≤ 2 := by
  obtain ⟨R, C, l, q, a, b, e, h⟩ := pieces_ok hs (kd := 0) (.inl rfl)
  obtain ⟨K, hK⟩ := ev_get e
  exact ⟨R, C, l, q, ⟨K, fun k hk => by simp only [spec_DrawAreQuietBishops.f, hK k hk, Option.bind_some]⟩, h⟩
theorem drawQuietKings_ok {s : List Int} (hs : Bytes s) : ∃ R C l q, Ev (fun k => spec_DrawAreQuietKings.f k s) (R, C, l, q) ∧ l.length ≤ 7 ∧ q.length ≤ 37 ∧ ∀ y ∈ q, y.length ≤ 2 := by
  obtain ⟨R, C, l, q, a, b, e, h⟩ := pieces_ok hs (kd := 1) (.inr rfl)
  obtain ⟨K, hK⟩ := ev_get e
  exact ⟨R, C, l, q, ⟨K, fun k hk => by simp only [spec_DrawAreQuietKings.f, hK k hk, Option.bind_some]⟩, h⟩
theorem drawDiagonal_ok {s : List Int} (hs : Bytes s) : ∃ R C l x y, Ev (fun k => spec_DrawDiagonalOf.f k s) (R, C, l, x, y) ∧ l.length ≤ 7 := by
  obtain ⟨R, C, l, a, b, e1, hl, _, _, h2, h3⟩ := board_ok hs 0 0 (by omega) (by omega)
  obtain ⟨K, hK⟩ := ev_get e1
  obtain ⟨x1, a1, b1, p1, _, _, h4, h5⟩ := pick_ok hs a b 7 (by omega) (by omega)
  obtain ⟨x2, a2, b2, p2, _, _, h6, h7⟩ := pick_ok hs a1 b1 9 (by omega) (by omega)
  obtain ⟨x3, a3, b3, p3, _, _, h8, h9⟩ := pick_ok hs a2 b2 7 (by omega) (by omega)
  obtain ⟨x4, a4, b4, p4, _, _, h10, h11⟩ := pick_ok hs a3 b3 9 (by omega) (by omega)
  exact ⟨R, C, l, wrap64 (x1 - (wrap64 (Int.tdiv x2 8))), wrap64 (x3 - (wrap64 (Int.tdiv x4 8))), ⟨K, fun k hk => by simp only [spec_DrawDiagonalOf.f, spec_DrawHasCell.f, hK k hk, Option.bind_some, p1, p2, p3, p4]⟩, hl⟩
theorem colour_ok {s : List Int} (hs : Bytes s) (a b : Int) (h0 : 0 ≤ a) (h1 : a ≤ 100000) : ∃ x a' b', spec_l1Cur_colour.f s a b = some (x, a', b') ∧ a ≤ a' ∧ a' ≤ a + 4 := by
  obtain ⟨x, a1, b1, e1, h2, h3⟩ := one_ok hs a b 10 h0 (by omega)
  cases x with
  | true =>
    obtain ⟨y, a2, b2, e2, _, h4, h5⟩ := among_ok hs a1 b1 [(-1), 2] (by simp) (by omega) (by omega)
    exact ⟨y, a2, b2, by simp only [spec_l1Cur_colour.f, e1, Option.bind_some, if_true, e2], by omega, by omega⟩
  | false =>
    obtain ⟨y, a2, b2, e2, _, _, h4, h5⟩ := pick_ok hs a1 b1 2 (by omega) (by omega)
    exact ⟨y, a2, b2, by simp only [spec_l1Cur_colour.f, e1, Option.bind_some, Bool.false_eq_true, if_false, e2], by omega, by omega⟩
theorem drawCell_ok {s : List Int} (hs : Bytes s) : ∃ R C l q x y, Ev (fun k => spec_DrawCellOfColour.f k s) (R, C, l, q, x, y) ∧ l.length ≤ 7 := by
  obtain ⟨R, C, l, a, b, e1, hl, _, _, h2, h3⟩ := board_ok hs 0 0 (by omega) (by omega)
  obtain ⟨K, hK⟩ := ev_get e1
  obtain ⟨c, a1, b1, p1, h4, h5⟩ := colour_ok hs a b (by omega) (by omega)
  obtain ⟨x2, a2, b2, p2, _, _, h6, h7⟩ := pick_ok hs a1 b1 8 (by omega) (by omega)
  obtain ⟨x3, a3, b3, p3, _, _, h8, h9⟩ := pick_ok hs a2 b2 8 (by omega) (by omega)
  exact ⟨R, C, l, c, wrap64 (x2 - 1), wrap64 (x3 - 1), ⟨K, fun k hk => by simp only [spec_DrawCellOfColour.f, hK k hk, Option.bind_some, p1, p2, p3]⟩, hl⟩
end Go.Proofs.Ytjjfcghoikdopaa.P
namespace Go.Proofs.Ytjjfcghoikdopaa.Pure
open Go.RowKit Go.Proofs.Ytjjfcghoikdopaa.P Go.Proofs.YtjjfcghoikdopaaW.PrintWords Go.Proofs.YtjjfcghoikdopaaW.PrintLast
set_option linter.unusedSimpArgs false
set_option linter.unusedVariables false
namespace FnExactAreQuietBishops
noncomputable def R (r c : Int) (l : List Int) (L : List (List Int)) : Bool × Bool := if boardB r c l = true then (quietR attackB r c l L, true) else (false, false)
theorem spec_ev (r c : Int) (l : List Int) (L : List (List Int)) (hb : l.length ≤ 1152921504606846976) (hb2 : L.length ≤ 1152921504606846976) (hx : ∀ x ∈ L, x.length ≤ 1048576) : Ev (fun k => spec_AreQuietBishops.f k r c l L) (R r c l L) := by
  obtain ⟨K1, h1⟩ := ev_get (boGood_ev r c l hb)
  unfold R
  by_cases h : boardB r c l = true
  · obtain ⟨K2, h2⟩ := ev_get (biQuiet_ev attackB 0 (fun x y hx hy => biDisturb0_eq hx hy) attack_self r c l h L hb2 hb)
    refine ⟨K1 + K2, fun k hk => ?_⟩
    simp only [spec_AreQuietBishops.f, h1 k (by omega), Option.bind_some, if_pos h, h2 k (by omega)]
  · refine ⟨K1, fun k hk => ?_⟩
    simp only [spec_AreQuietBishops.f, h1 k (by omega), Option.bind_some, if_neg h]
theorem impl_ev (r c : Int) (l : List Int) (L : List (List Int)) (hb : l.length ≤ 1152921504606846976) (hb2 : L.length ≤ 1152921504606846976) (hx : ∀ x ∈ L, x.length ≤ 1048576) : Ev (fun k => impl_AreQuietBishops.f k r c l L) (R r c l L) := by
  unfold R
  by_cases h : boardB r c l = true
  · obtain ⟨K2, h2⟩ := ev_get (quiet_ev attackB impl_asBishops.fn (fun x y hx hy => asBishops_eq hx hy) attack_self r c l h L hb2)
    refine ⟨K2, fun k hk => ?_⟩
    simp only [impl_AreQuietBishops.f, impl_IsBoard.f, Option.bind_some, if_pos h, h2 k (by omega)]
  · refine ⟨0, fun k hk => ?_⟩
    simp only [impl_AreQuietBishops.f, impl_IsBoard.f, Option.bind_some, if_neg h]
end FnExactAreQuietBishops
namespace FnExactAreQuietKings
noncomputable def R (r c : Int) (l : List Int) (L : List (List Int)) : Bool × Bool := if boardB r c l = true then (quietR nearB r c l L, true) else (false, false)
theorem spec_ev (r c : Int) (l : List Int) (L : List (List Int)) (hb : l.length ≤ 1152921504606846976) (hb2 : L.length ≤ 1152921504606846976) (hx : ∀ x ∈ L, x.length ≤ 1048576) : Ev (fun k => spec_AreQuietKings.f k r c l L) (R r c l L) := by
  obtain ⟨K1, h1⟩ := ev_get (boGood_ev r c l hb)
  unfold R
  by_cases h : boardB r c l = true
  · obtain ⟨K2, h2⟩ := ev_get (biQuiet_ev nearB 1 (fun x y hx hy => biDisturb1_eq hx hy) near_self r c l h L hb2 hb)
    refine ⟨K1 + K2, fun k hk => ?_⟩
    simp only [spec_AreQuietKings.f, h1 k (by omega), Option.bind_some, if_pos h, h2 k (by omega)]
  · refine ⟨K1, fun k hk => ?_⟩
    simp only [spec_AreQuietKings.f, h1 k (by omega), Option.bind_some, if_neg h]
theorem impl_ev (r c : Int) (l : List Int) (L : List (List Int)) (hb : l.length ≤ 1152921504606846976) (hb2 : L.length ≤ 1152921504606846976) (hx : ∀ x ∈ L, x.length ≤ 1048576) : Ev (fun k => impl_AreQuietKings.f k r c l L) (R r c l L) := by
  unfold R
  by_cases h : boardB r c l = true
  · obtain ⟨K2, h2⟩ := ev_get (quiet_ev nearB impl_asKings.fn (fun x y hx hy => asKings_eq hx hy) near_self r c l h L hb2)
    refine ⟨K2, fun k hk => ?_⟩
    simp only [impl_AreQuietKings.f, impl_IsBoard.f, Option.bind_some, if_pos h, h2 k (by omega)]
  · refine ⟨0, fun k hk => ?_⟩
    simp only [impl_AreQuietKings.f, impl_IsBoard.f, Option.bind_some, if_neg h]
end FnExactAreQuietKings
namespace FnExactCellOfColour
def cellV (R C : Nat) (u d : Nat) : Int × Int × Bool := if (crossV R C u d).2.2 = true then ((crossV R C u d).1, (crossV R C u d).2.1, true) else (0, 0, false)
def R (r c : Int) (l : List Int) (q x y : Int) : Int × Int × Bool := if boardB r c l = true ∧ inB q 0 1 = true ∧ inB x 0 (((upN r.toNat c.toNat q.toNat).length : Int) - 1) = true ∧ inB y 0 (((downN r.toNat c.toNat q.toNat).length : Int) - 1) = true then cellV r.toNat c.toNat ((upN r.toNat c.toNat q.toNat).getD x.toNat 0) ((downN r.toNat c.toNat q.toNat).getD y.toNat 0) else (0, 0, false)
theorem impl_ev (r c : Int) (l : List Int) (q x y : Int) : Ev (fun k => impl_CellOfColour.f k r c l q x y) (R r c l q x y) := by
  by_cases h : boardB r c l = true
  · by_cases hq : inB q 0 1 = true
    · obtain ⟨R', C', q', rfl, rfl, rfl, hR, hC, hQ⟩ := col_nat h hq
      have hlen := lines_len ⟨R', by omega⟩ ⟨C', by omega⟩ ⟨q', by omega⟩
      simp only at hlen
      obtain ⟨K1, h1⟩ := ev_get (coloured_ev h hR hC hQ)
      obtain ⟨K2, h2⟩ := ev_get (diag_ev R' C' q' hR hC hQ l)
      unfold R colR at *
      simp only [h, hq, Int.toNat_natCast, true_and]
      by_cases h0 : (upN R' C' q').length = 0
      · rw [if_pos h0] at h1
        refine ⟨K1 + 1, fun k hk => ?_⟩
        obtain ⟨k, rfl⟩ : ∃ m, k = m + 1 := ⟨k - 1, by omega⟩
        rw [if_neg (fun hh => by have := hh.1; simp [inB] at this; omega)]
        simp only [impl_CellOfColour.f, impl_ColourBoard.f, impl_IsBoard.f, impl_isColour.f, Option.bind_some, h, hq, within_eq, if_true, h1 (k + 1) (by omega), Bool.false_eq_true, if_false, impl_CellOfColour.j0]
      · rw [if_neg h0] at h1
        by_cases hx : inB x 0 (((upN R' C' q').length : Int) - 1) = true
        · by_cases hy : inB y 0 (((downN R' C' q').length : Int) - 1) = true
          · have hx2 : 0 ≤ x ∧ x ≤ ((upN R' C' q').length : Int) - 1 := by simpa [inB] using hx
            have hy2 : 0 ≤ y ∧ y ≤ ((downN R' C' q').length : Int) - 1 := by simpa [inB] using hy
            obtain ⟨i, rfl⟩ : ∃ i : Nat, x = (i : Int) := ⟨x.toNat, by omega⟩
            obtain ⟨j, rfl⟩ : ∃ j : Nat, y = (j : Int) := ⟨y.toNat, by omega⟩
            obtain ⟨u1, u2⟩ := up_at hR hC hQ (i := i) (by omega)
            obtain ⟨d1, d2⟩ := down_at hR hC hQ (i := j) (by omega)
            refine ⟨K1 + K2 + 1, fun k hk => ?_⟩
            obtain ⟨k, rfl⟩ : ∃ m, k = m + 1 := ⟨k - 1, by omega⟩
            rw [if_pos ⟨hx, hy⟩]
            simp only [impl_CellOfColour.f, impl_ColourBoard.f, impl_IsBoard.f, impl_isColour.f, Option.bind_some, h, hq, within_eq, if_true, h1 (k + 1) (by omega), impl_Board_place.f, w64 (((upN R' C' q').length : Int) - 1) (by omega) (by omega), w64 (((downN R' C' q').length : Int) - 1) (by omega) (by omega), hx, hy, Bool.not_true, impl_CellOfColour.j0, Bool.false_eq_true, if_false, h2 k (by omega), upL_length, downL_length]
            rw [if_pos (by omega), if_pos (by omega), if_pos (by omega), if_pos (by omega), u1, d1, cross_eq hR hC u2 d2 l]
            unfold cellV
            rw [Int.toNat_natCast, Int.toNat_natCast]
            generalize crossV R' C' ((upN R' C' q').getD i 0) ((downN R' C' q').getD j 0) = V
            obtain ⟨a, b, t⟩ := V
            cases t <;> rfl
          · refine ⟨K1 + 1, fun k hk => ?_⟩
            obtain ⟨k, rfl⟩ : ∃ m, k = m + 1 := ⟨k - 1, by omega⟩
            rw [if_neg (fun hh => hy hh.2)]
            simp only [Bool.not_eq_true] at hy
            simp only [impl_CellOfColour.f, impl_ColourBoard.f, impl_IsBoard.f, impl_isColour.f, Option.bind_some, h, hq, within_eq, if_true, h1 (k + 1) (by omega), impl_Board_place.f, w64 (((upN R' C' q').length : Int) - 1) (by omega) (by omega), w64 (((downN R' C' q').length : Int) - 1) (by omega) (by omega), hx, hy, Bool.not_false, impl_CellOfColour.j0]
        · refine ⟨K1 + 1, fun k hk => ?_⟩
          obtain ⟨k, rfl⟩ : ∃ m, k = m + 1 := ⟨k - 1, by omega⟩
          rw [if_neg (fun hh => hx hh.1)]
          simp only [Bool.not_eq_true] at hx
          simp only [impl_CellOfColour.f, impl_ColourBoard.f, impl_IsBoard.f, impl_isColour.f, Option.bind_some, h, hq, within_eq, if_true, h1 (k + 1) (by omega), impl_Board_place.f, w64 (((upN R' C' q').length : Int) - 1) (by omega) (by omega), hx, Bool.false_eq_true, if_false, Bool.not_false, impl_CellOfColour.j0]
    · refine ⟨1, fun k hk => ?_⟩
      obtain ⟨k, rfl⟩ : ∃ m, k = m + 1 := ⟨k - 1, by omega⟩
      unfold R
      rw [if_neg (fun hh => hq hh.2.1)]
      simp only [Bool.not_eq_true] at hq
      simp only [impl_CellOfColour.f, impl_ColourBoard.f, impl_IsBoard.f, impl_isColour.f, Option.bind_some, h, hq, within_eq, if_true, Bool.false_eq_true, if_false, impl_CellOfColour.j0]
  · refine ⟨1, fun k hk => ?_⟩
    obtain ⟨k, rfl⟩ : ∃ m, k = m + 1 := ⟨k - 1, by omega⟩
    unfold R
    rw [if_neg (fun hh => h hh.1)]
    simp only [Bool.not_eq_true] at h
    simp only [impl_CellOfColour.f, impl_ColourBoard.f, impl_IsBoard.f, Option.bind_some, h, Bool.false_eq_true, if_false, if_true, impl_CellOfColour.j0]
theorem spec_ev (r c : Int) (l : List Int) (q x y : Int) (hl : l.length ≤ 1152921504606846976) : Ev (fun k => spec_CellOfColour.f k r c l q x y) (R r c l q x y) := by
  obtain ⟨K0, h0⟩ := ev_get (boGood_ev r c l hl)
  by_cases h : boardB r c l = true
  · by_cases hq : inB q 0 1 = true
    · obtain ⟨R', C', q', rfl, rfl, rfl, hR, hC, hQ⟩ := col_nat h hq
      have hlen := lines_len ⟨R', by omega⟩ ⟨C', by omega⟩ ⟨q', by omega⟩
      simp only at hlen
      obtain ⟨K2, h2⟩ := ev_get (lines_ev R' C' q' hR hC hQ l)
      unfold R
      simp only [h, hq, Int.toNat_natCast, true_and]
      by_cases hx : inB x 0 (((upN R' C' q').length : Int) - 1) = true
      · by_cases hy : inB y 0 (((downN R' C' q').length : Int) - 1) = true
        · have hx2 : 0 ≤ x ∧ x ≤ ((upN R' C' q').length : Int) - 1 := by simpa [inB] using hx
          have hy2 : 0 ≤ y ∧ y ≤ ((downN R' C' q').length : Int) - 1 := by simpa [inB] using hy
          obtain ⟨i, rfl⟩ : ∃ i : Nat, x = (i : Int) := ⟨x.toNat, by omega⟩
          obtain ⟨j, rfl⟩ : ∃ j : Nat, y = (j : Int) := ⟨y.toNat, by omega⟩
          obtain ⟨u1, u2⟩ := up_at hR hC hQ (i := i) (by omega)
          obtain ⟨d1, d2⟩ := down_at hR hC hQ (i := j) (by omega)
          have hc := cell_ok ⟨R', by omega⟩ ⟨C', by omega⟩ ⟨_, u2⟩ ⟨_, d2⟩
          simp only at hc
          refine ⟨K0 + K2 + 1, fun k hk => ?_⟩
          obtain ⟨k, rfl⟩ : ∃ m, k = m + 1 := ⟨k - 1, by omega⟩
          rw [if_pos ⟨hx, hy⟩]
          simp only [spec_CellOfColour.f, h0 (k + 1) (by omega), spec_biColour.f, spec_biCell.f, Option.bind_some, h, hq, l1In_eq, if_true, h2 (k + 1) (by omega), upL_length, downL_length, w64 (((upN R' C' q').length : Int) - 1) (by omega) (by omega), w64 (((downN R' C' q').length : Int) - 1) (by omega) (by omega), hx, hy, Bool.not_true]
          rw [cell_j0 k _ _ _ _ _ _ l (by omega) (by rw [upL_length]; omega) (by omega) (by rw [downL_length]; omega), u1, d1, hc]
          unfold cellV
          rw [Int.toNat_natCast, Int.toNat_natCast]
          generalize crossV R' C' ((upN R' C' q').getD i 0) ((downN R' C' q').getD j 0) = V
          obtain ⟨a, b, t⟩ := V
          cases t <;> rfl
        · refine ⟨K0 + K2 + 1, fun k hk => ?_⟩
          obtain ⟨k, rfl⟩ : ∃ m, k = m + 1 := ⟨k - 1, by omega⟩
          rw [if_neg (fun hh => hy hh.2)]
          simp only [Bool.not_eq_true] at hy
          simp only [spec_CellOfColour.f, h0 (k + 1) (by omega), spec_biColour.f, spec_biCell.f, Option.bind_some, h, hq, l1In_eq, if_true, h2 (k + 1) (by omega), upL_length, downL_length, w64 (((upN R' C' q').length : Int) - 1) (by omega) (by omega), w64 (((downN R' C' q').length : Int) - 1) (by omega) (by omega), hx, hy, Bool.not_false, spec_biCell.j0]
      · refine ⟨K0 + K2 + 1, fun k hk => ?_⟩
        obtain ⟨k, rfl⟩ : ∃ m, k = m + 1 := ⟨k - 1, by omega⟩
        rw [if_neg (fun hh => hx hh.1)]
        simp only [Bool.not_eq_true] at hx
        simp only [spec_CellOfColour.f, h0 (k + 1) (by omega), spec_biColour.f, spec_biCell.f, Option.bind_some, h, hq, l1In_eq, if_true, h2 (k + 1) (by omega), upL_length, downL_length, w64 (((upN R' C' q').length : Int) - 1) (by omega) (by omega), hx, Bool.false_eq_true, if_false, spec_biCell.j0]
    · refine ⟨K0, fun k hk => ?_⟩
      unfold R
      rw [if_neg (fun hh => hq hh.2.1)]
      simp only [Bool.not_eq_true] at hq
      simp only [spec_CellOfColour.f, h0 k (by omega), spec_biColour.f, Option.bind_some, h, hq, l1In_eq, if_true, Bool.false_eq_true, if_false]
  · refine ⟨K0, fun k hk => ?_⟩
    unfold R
    rw [if_neg (fun hh => h hh.1)]
    simp only [Bool.not_eq_true] at h
    simp only [spec_CellOfColour.f, h0 k (by omega), Option.bind_some, h, Bool.false_eq_true, if_false]
end FnExactCellOfColour
namespace FnPiecesQuiet
theorem w_small (n : Int) (h0 : -1000 ≤ n) (h1 : n ≤ 1000) : wrap64 n = n := w64 n (by omega) (by omega)
def diagR (r c : Int) (l : List Int) (x y : Int) : Int × Int × Bool := if (boardB r c l && placeB r c x y) = true then (wrap64 (x + y), wrap64 ((wrap64 ((wrap64 (x - y)) + c)) - 1), true) else (0, 0, false)
theorem diag_impl (r c : Int) (l : List Int) (x y : Int) : impl_DiagonalOf.f r c l x y = some (diagR r c l x y) := by
  unfold diagR
  simp only [impl_DiagonalOf.f, impl_IsBoard.f, Option.bind_some]
  by_cases hb : boardB r c l = true
  · have := (boardB_iff r c l).1 hb
    rw [if_pos hb, place_eq r c l x y (by omega) (by omega), Option.bind_some, hb, Bool.true_and]
    split <;> rfl
  · simp only [Bool.not_eq_true] at hb
    rw [hb]; simp
theorem diag_spec (r c : Int) (l : List Int) (x y : Int) (hl : l.length ≤ 1152921504606846976) : Ev (fun k => spec_DiagonalOf.f k r c l x y) (diagR r c l x y) := by
  obtain ⟨K, hK⟩ := ev_get (boPlace_ev r c l x y hl)
  refine ⟨K, fun k hk => ?_⟩
  unfold diagR
  simp only [spec_DiagonalOf.f, hK k hk, spec_biDiagonals.f, Option.bind_some]
  split <;> rfl
theorem place_iff {r c x y : Int} : placeB r c x y = true ↔ (0 ≤ x ∧ x ≤ r - 1) ∧ (0 ≤ y ∧ y ≤ c - 1) := by unfold placeB; exact decide_eq_true_iff
theorem diag_small {r c : Int} {l : List Int} {x y : Int} (hb : boardB r c l = true) (hp : placeB r c x y = true) : diagR r c l x y = (x + y, x - y + c - 1, true) := by
  obtain ⟨h1, h2, _⟩ := (boardB_iff r c l).1 hb
  have h3 := place_iff.1 hp
  unfold diagR
  rw [hb, hp, if_pos (by simp), w_small (x + y) (by omega) (by omega), w_small (x - y) (by omega) (by omega), w_small (x - y + c) (by omega) (by omega), w_small (x - y + c - 1) (by omega) (by omega)]
theorem diag_in {r c : Int} {l : List Int} {x y : Int} (h : (diagR r c l x y).2.2 = true) : boardB r c l = true ∧ placeB r c x y = true := by
  unfold diagR at h
  by_cases hh : (boardB r c l && placeB r c x y) = true
  · rwa [Bool.and_eq_true] at hh
  · rw [if_neg hh] at h; exact absurd h (by simp)
theorem on_eq (r c : Int) (l : List Int) (x y : Int) : laws_rOn.f r c l x y = some (boardB r c l && placeB r c x y && hasC l x y) := by
  simp only [laws_rOn.f, impl_HasCell.f, impl_IsBoard.f, Option.bind_some]
  by_cases hb : boardB r c l = true
  · have hbb := (boardB_iff r c l).1 hb
    rw [if_pos hb, place_eq r c l x y (by omega) (by omega), Option.bind_some, hb, Bool.true_and]
    by_cases hp : placeB r c x y = true
    · have hpp := place_iff.1 hp
      rw [if_pos hp, has_eq hb (by omega) (by omega) (by omega) (by omega), Option.bind_some, Option.bind_some, if_pos rfl, hp, Bool.true_and]
    · rw [if_neg hp]
      simp only [Bool.not_eq_true] at hp
      rw [hp]; rfl
  · rw [if_neg hb]
    simp only [Bool.not_eq_true] at hb
    rw [hb]; rfl
theorem colour_fin : ∀ R : Fin 7, ∀ C : Fin 7, ∀ q : Fin 2, ∀ i : Fin 6, ∀ j : Fin 6, i.val < (upN R.val C.val q.val).length → j.val < (downN R.val C.val q.val).length → (crossV R.val C.val ((upN R.val C.val q.val).getD i.val 0) ((downN R.val C.val q.val).getD j.val 0)).2.2 = true →
    ((crossV R.val C.val ((upN R.val C.val q.val).getD i.val 0) ((downN R.val C.val q.val).getD j.val 0)).1 + (crossV R.val C.val ((upN R.val C.val q.val).getD i.val 0) ((downN R.val C.val q.val).getD j.val 0)).2.1) % 2 = (q.val : Int) := by decide +kernel
theorem hasM_mk (f : Nat → Bool) : ∀ n, n ≤ 6 → ∀ j, j < n → hasM (mk f n) (j : Int) = f j := by
  have key : ∀ a b c d e g : Bool, ∀ n : Fin 7, ∀ j : Fin 6, j.val < n.val → hasM (mk (fun k => [a, b, c, d, e, g].getD k false) n.val) (j.val : Int) = [a, b, c, d, e, g].getD j.val false := by decide +kernel
  intro n hn j hj
  have h := key (f 0) (f 1) (f 2) (f 3) (f 4) (f 5) ⟨n, by omega⟩ ⟨j, by omega⟩ hj
  have e : ∀ k, k < 6 → [f 0, f 1, f 2, f 3, f 4, f 5].getD k false = f k := by
    intro k hk
    match k, hk with
    | 0, _ => rfl
    | 1, _ => rfl
    | 2, _ => rfl
    | 3, _ => rfl
    | 4, _ => rfl
    | 5, _ => rfl
  have e2 : ∀ m, m ≤ 6 → mk (fun k => [f 0, f 1, f 2, f 3, f 4, f 5].getD k false) m = mk f m := by
    intro m
    induction m with
    | zero => intro _; rfl
    | succ m ih => intro hm; simp only [mk, e m (by omega)]; rw [ih (by omega)]
  simp only at h
  rw [e2 n hn, e j (by omega)] at h
  exact h
theorem colour_on {R C q : Nat} (l : List Int) (hR : R ≤ 6) (hC : C ≤ 6) (hq : q ≤ 1) {i j : Nat} (hi : i < (upN R C q).length) (hj : j < (downN R C q).length) : hasC (colL R C q l) (i : Int) (j : Int) = crossB R C l ((upN R C q).getD i 0) ((downN R C q).getD j 0) := by
  have hlen := lines_len ⟨R, by omega⟩ ⟨C, by omega⟩ ⟨q, by omega⟩
  simp only at hlen
  unfold hasC
  have e : rd (colL R C q l) (i : Int) = mk (fun k => crossB R C l ((upN R C q).getD i 0) ((downN R C q).getD k 0)) (downN R C q).length := by
    rw [rd_nat _ _ (by rw [colL_length]; exact hi)]
    simp [colL, hi, List.getD_eq_getElem?_getD]
  rw [e, hasM_mk _ _ (by omega) _ hj]
theorem j7_ev (r c : Int) (l : List Int) (q x y : Int) (hl : l.length ≤ 7) : Ev (fun k => laws_FnPiecesQuiet.j7 k q x y (FnExactCellOfColour.R r c l q x y).1 (FnExactCellOfColour.R r c l q x y).2.1 (FnExactCellOfColour.R r c l q x y).2.2 false r c l) true := by
  unfold FnExactCellOfColour.R
  by_cases hh : boardB r c l = true ∧ inB q 0 1 = true ∧ inB x 0 (((upN r.toNat c.toNat q.toNat).length : Int) - 1) = true ∧ inB y 0 (((downN r.toNat c.toNat q.toNat).length : Int) - 1) = true
  case neg =>
    rw [if_neg hh]
    refine ⟨1, fun k hk => ?_⟩
    obtain ⟨k, rfl⟩ : ∃ m, k = m + 1 := ⟨k - 1, by omega⟩
    dsimp only
    rw [laws_FnPiecesQuiet.j7, if_neg (by simp), if_neg (by simp)]
  rw [if_pos hh]
  obtain ⟨hb, hq, hx, hy⟩ := hh
  obtain ⟨R', C', q', rfl, rfl, rfl, hR, hC, hQ⟩ := col_nat hb hq
  have hlen := lines_len ⟨R', by omega⟩ ⟨C', by omega⟩ ⟨q', by omega⟩
  simp only at hlen
  simp only [Int.toNat_natCast] at hx hy ⊢
  have hx2 : 0 ≤ x ∧ x ≤ ((upN R' C' q').length : Int) - 1 := by simpa [inB] using hx
  have hy2 : 0 ≤ y ∧ y ≤ ((downN R' C' q').length : Int) - 1 := by simpa [inB] using hy
  obtain ⟨i, rfl⟩ : ∃ i : Nat, x = (i : Int) := ⟨x.toNat, by omega⟩
  obtain ⟨j, rfl⟩ : ∃ j : Nat, y = (j : Int) := ⟨y.toNat, by omega⟩
  simp only [Int.toNat_natCast]
  have hi : i < (upN R' C' q').length := by omega
  have hj : j < (downN R' C' q').length := by omega
  obtain ⟨u1, u2⟩ := up_at hR hC hQ hi
  obtain ⟨d1, d2⟩ := down_at hR hC hQ hj
  have hc := cross_ok ⟨R', by omega⟩ ⟨C', by omega⟩ ⟨_, u2⟩ ⟨_, d2⟩
  have hf := colour_fin ⟨R', by omega⟩ ⟨C', by omega⟩ ⟨q', by omega⟩ ⟨i, by omega⟩ ⟨j, by omega⟩ hi hj
  have hon := colour_on l hR hC hQ hi hj
  simp only at hc hf
  obtain ⟨_, hc2, hc3⟩ := hc
  unfold crossB at hon
  rw [hc2] at hon
  unfold FnExactCellOfColour.cellV
  generalize crossV R' C' ((upN R' C' q').getD i 0) ((downN R' C' q').getD j 0) = V at hf hc3 hon ⊢
  obtain ⟨v, w, t⟩ := V
  cases t with
  | false =>
    refine ⟨1, fun k hk => ?_⟩
    obtain ⟨k, rfl⟩ : ∃ m, k = m + 1 := ⟨k - 1, by omega⟩
    dsimp only
    simp only [laws_FnPiecesQuiet.j7, Bool.false_eq_true, if_false]
  | true =>
    simp only [if_true, Option.any_some, forall_const] at hf hc3 hon ⊢
    obtain ⟨⟨v0, v1⟩, w0, w1⟩ := hc3
    have hn : (upN R' C' q').length ≠ 0 := by omega
    obtain ⟨K, hK⟩ := ev_get (coloured_ev hb hR hC hQ)
    have hcol : colR R' C' q' l = (((upN R' C' q').length : Int), ((downN R' C' q').length : Int), colL R' C' q' l, true) := by unfold colR; rw [if_neg hn]
    have e1 : ((v.toNat : Nat) : Int) = v := by omega
    have e2 : ((w.toNat : Nat) : Int) = w := by omega
    rw [e1, e2] at hon
    refine ⟨K + 1, fun k hk => ?_⟩
    obtain ⟨k, rfl⟩ : ∃ m, k = m + 1 := ⟨k - 1, by omega⟩
    have hk2 := hK k (by omega)
    dsimp only
    rw [hcol] at hk2
    have hr : Int.tmod (wrap64 (v + w)) 2 = (q' : Int) := by rw [w_small _ (by omega) (by omega), Int.tmod_eq_emod_of_nonneg (by omega)]; exact hf
    simp only [laws_FnPiecesQuiet.j7, Bool.false_eq_true, if_false, if_true, impl_ColourBoard.f, impl_IsBoard.f, impl_isColour.f, within_eq, Option.bind_some, hb, hq, hk2, on_eq]
    rw [if_pos hr, colL_board l hR hC hQ hn, hon, (place_iff (r := ((upN R' C' q').length : Int)) (c := ((downN R' C' q').length : Int)) (x := (i : Int)) (y := (j : Int))).2 ⟨by omega, by omega⟩, (place_iff (r := (R' : Int)) (c := (C' : Int)) (x := v) (y := w)).2 ⟨by omega, by omega⟩]
    simp
theorem j6_ev {s : List Int} (hs : Bytes s) : Ev (fun k => laws_FnPiecesQuiet.j6 k s false) true := by
  obtain ⟨r, c, l, q, x, y, e0, hl⟩ := drawCell_ok hs
  obtain ⟨K0, k0⟩ := ev_get e0
  obtain ⟨K1, k1⟩ := ev_get (FnExactCellOfColour.impl_ev r c l q x y)
  obtain ⟨K2, k2⟩ := ev_get (FnExactCellOfColour.spec_ev r c l q x y (by omega))
  obtain ⟨K3, k3⟩ := ev_get (j7_ev r c l q x y hl)
  generalize FnExactCellOfColour.R r c l q x y = V at k1 k2 k3
  refine ⟨K0 + K1 + K2 + K3 + 1, fun k hk => ?_⟩
  obtain ⟨k, rfl⟩ : ∃ m, k = m + 1 := ⟨k - 1, by omega⟩
  have k3' := k3 k (by omega)
  dsimp only at k3' ⊢
  simp only [laws_FnPiecesQuiet.j6, Bool.false_eq_true, if_false, k0 k (by omega), Option.bind_some, k1 k (by omega), k2 k (by omega), bne_self_eq_false, if_true]
  exact k3'
theorem j5_ev {s : List Int} (hs : Bytes s) (r c : Int) (l : List Int) (x y : Int) : Ev (fun k => laws_FnPiecesQuiet.j5 k s x y (diagR r c l x y).1 (diagR r c l x y).2.1 (diagR r c l x y).2.2 false r c l) true := by
  obtain ⟨K, hK⟩ := ev_get (j6_ev hs)
  refine ⟨K + 1, fun k hk => ?_⟩
  obtain ⟨k, rfl⟩ : ∃ m, k = m + 1 := ⟨k - 1, by omega⟩
  have hk' := hK k (by omega)
  dsimp only
  by_cases h : (diagR r c l x y).2.2 = true
  · obtain ⟨hb, hp⟩ := diag_in h
    obtain ⟨h1, h2, _⟩ := (boardB_iff r c l).1 hb
    have h3 := place_iff.1 hp
    rw [diag_small hb hp]
    simp only [laws_FnPiecesQuiet.j5, Bool.false_eq_true, if_false, if_true]
    rw [w_small (x + y + (x - y + c - 1)) (by omega) (by omega), w_small (x + y + (x - y + c - 1) - c) (by omega) (by omega), w_small (x + y + (x - y + c - 1) - c + 1) (by omega) (by omega), w_small (2 * x) (by omega) (by omega), w_small (x + y - (x - y + c - 1)) (by omega) (by omega), w_small (x + y - (x - y + c - 1) + c) (by omega) (by omega), w_small (x + y - (x - y + c - 1) + c - 1) (by omega) (by omega), w_small (2 * y) (by omega) (by omega), if_pos (by omega), show (x + y - (x - y + c - 1) + c - 1 != 2 * y) = false by rw [bne_eq_false_iff_eq]; omega]
    exact hk'
  · simp only [laws_FnPiecesQuiet.j5, Bool.false_eq_true, if_false, if_neg h]
    exact hk'
theorem j4_ev {s : List Int} (hs : Bytes s) : Ev (fun k => laws_FnPiecesQuiet.j4 k s false) true := by
  obtain ⟨r, c, l, x, y, e0, hl⟩ := drawDiagonal_ok hs
  obtain ⟨K0, k0⟩ := ev_get e0
  obtain ⟨K2, k2⟩ := ev_get (diag_spec r c l x y (by omega))
  obtain ⟨K3, k3⟩ := ev_get (j5_ev hs r c l x y)
  have k1 := diag_impl r c l x y
  generalize diagR r c l x y = V at k1 k2 k3
  refine ⟨K0 + K2 + K3 + 1, fun k hk => ?_⟩
  obtain ⟨k, rfl⟩ : ∃ m, k = m + 1 := ⟨k - 1, by omega⟩
  have k3' := k3 k (by omega)
  dsimp only at k3' ⊢
  simp only [laws_FnPiecesQuiet.j4, Bool.false_eq_true, if_false, k0 k (by omega), Option.bind_some, k1, k2 k (by omega), bne_self_eq_false, if_true]
  exact k3'
theorem j3_ev {s : List Int} (hs : Bytes s) : Ev (fun k => laws_FnPiecesQuiet.j3 k s) true := by
  obtain ⟨r, c, l, L, e0, hl, hL, hx⟩ := drawQuietKings_ok hs
  obtain ⟨K0, k0⟩ := ev_get e0
  obtain ⟨K1, k1⟩ := ev_get (FnExactAreQuietKings.impl_ev r c l L (by omega) (by omega) (fun x h => by have := hx x h; omega))
  obtain ⟨K2, k2⟩ := ev_get (FnExactAreQuietKings.spec_ev r c l L (by omega) (by omega) (fun x h => by have := hx x h; omega))
  obtain ⟨K3, k3⟩ := ev_get (j4_ev hs)
  generalize FnExactAreQuietKings.R r c l L = V at k1 k2
  refine ⟨K0 + K1 + K2 + K3 + 1, fun k hk => ?_⟩
  obtain ⟨k, rfl⟩ : ∃ m, k = m + 1 := ⟨k - 1, by omega⟩
  have k3' := k3 k (by omega)
  dsimp only
  simp only [laws_FnPiecesQuiet.j3, k0 k (by omega), Option.bind_some, k1 k (by omega), k2 k (by omega), bne_self_eq_false, Bool.false_eq_true, if_false]
  exact k3'
theorem attack_ne {x y : List Int} (h : attackB x y = false) (c : Int) : rd x 0 + rd x 1 ≠ rd y 0 + rd y 1 ∧ rd x 0 - rd x 1 + c - 1 ≠ rd y 0 - rd y 1 + c - 1 := by
  unfold attackB at h
  have := of_decide_eq_false h
  omega
theorem cell_of {r c : Int} {l x : List Int} (h : cellV r c l x = true) : x.length = 2 ∧ placeB r c (rd x 0) (rd x 1) = true ∧ hasC l (rd x 0) (rd x 1) = true := by
  unfold cellV at h
  rw [Bool.and_eq_true, Bool.and_eq_true, decide_eq_true_iff] at h
  exact ⟨h.1.1, h.1.2, h.2⟩
section
variable {s : List Int} (hs : Bytes s) {r c : Int} {l : List Int} (hb : boardB r c l = true) {L : List (List Int)} (hL : L.length ≤ 37) (hq : QuietFrom L (cellV r c l) attackB 0)
include hs hb hL hq
omit hs in
theorem l1_ev {i : Nat} (hi : i < L.length) (hrec : Ev (fun k => laws_FnPiecesQuiet.l0 k s L L (L.length : Int) ((i + 1 : Nat) : Int) r c l) true) : ∀ (d j : Nat), i - j = d → j ≤ i →
    Ev (fun k => laws_FnPiecesQuiet.l1 k s L L[i] (rd L[i] 0 + rd L[i] 1) (rd L[i] 0 - rd L[i] 1 + c - 1) true L (L.length : Int) (i : Int) (L.take i) ((L.take i).length : Int) (j : Int) r c l) true := by
  obtain ⟨hV, hD⟩ := hq i (by omega) hi
  obtain ⟨hx2, hxp, hxh⟩ := cell_of hV
  have htl : (L.take i).length = i := by rw [List.length_take]; omega
  intro d
  induction d with
  | zero =>
    intro j hd hj
    obtain ⟨K, hK⟩ := ev_get hrec
    refine ⟨K + 1, fun k hk => ?_⟩
    obtain ⟨k, rfl⟩ : ∃ m, k = m + 1 := ⟨k - 1, by omega⟩
    dsimp only
    rw [laws_FnPiecesQuiet.l1, htl, if_neg (by omega), if_pos (by omega), if_pos (by omega), on_eq, hb, hxp, hxh, Option.bind_some, if_pos (by decide), w_small _ (by omega) (by omega), show (i : Int) + 1 = ((i + 1 : Nat) : Int) by omega]
    exact hK k (by omega)
  | succ d ih =>
    intro j hd hj
    have hji : j < i := by omega
    obtain ⟨hVy, _⟩ := hq j (by omega) (by omega)
    obtain ⟨hy2, hyp, _⟩ := cell_of hVy
    have hne := attack_ne (hD j hji) c
    obtain ⟨K, hK⟩ := ev_get (ih (j + 1) (by omega) (by omega))
    refine ⟨K + 1, fun k hk => ?_⟩
    obtain ⟨k, rfl⟩ : ∃ m, k = m + 1 := ⟨k - 1, by omega⟩
    have ey : rd_L2 (L.take i) (j : Int) = L[j]'(by omega) := by rw [rdL_nat _ _ (by rw [htl]; exact hji), List.getElem_take]
    have hk' := hK k (by omega)
    rw [htl] at hk'
    dsimp only at hk' ⊢
    rw [laws_FnPiecesQuiet.l1, htl, ey, if_pos (by omega), if_pos (by omega), if_pos (by omega), if_pos (by omega), if_pos (by omega), diag_impl, diag_small hb hyp, Option.bind_some, if_pos rfl, if_pos rfl, if_neg hne.1, if_neg hne.2, w_small _ (by omega) (by omega), show (j : Int) + 1 = ((j + 1 : Nat) : Int) by omega]
    exact hk'
theorem l0_ev : ∀ (d i : Nat), L.length - i = d → i ≤ L.length → Ev (fun k => laws_FnPiecesQuiet.l0 k s L L (L.length : Int) (i : Int) r c l) true := by
  intro d
  induction d with
  | zero =>
    intro i hd hi
    obtain ⟨K, hK⟩ := ev_get (j3_ev hs)
    refine ⟨K + 1, fun k hk => ?_⟩
    obtain ⟨k, rfl⟩ : ∃ m, k = m + 1 := ⟨k - 1, by omega⟩
    dsimp only
    rw [laws_FnPiecesQuiet.l0, if_neg (by omega)]
    exact hK k (by omega)
  | succ d ih =>
    intro i hd hi
    have hlt : i < L.length := by omega
    obtain ⟨hV, _⟩ := hq i (by omega) hlt
    obtain ⟨hx2, hxp, _⟩ := cell_of hV
    obtain ⟨K, hK⟩ := ev_get (l1_ev hb hL hq hlt (ih (i + 1) (by omega) (by omega)) i 0 (by omega) (by omega))
    refine ⟨K + 1, fun k hk => ?_⟩
    obtain ⟨k, rfl⟩ : ∃ m, k = m + 1 := ⟨k - 1, by omega⟩
    have hk' := hK k (by omega)
    dsimp only at hk' ⊢
    rw [laws_FnPiecesQuiet.l0, rdL_nat _ _ hlt, if_pos (by omega), if_pos (by omega), if_pos (by omega), if_pos (by omega), if_pos (by omega), diag_impl, diag_small hb hxp, Option.bind_some, if_pos (by omega), Option.bind_some, Int.toNat_natCast]
    exact hk'
end
theorem j0_ev {s : List Int} (hs : Bytes s) (r c : Int) (l : List Int) (L : List (List Int)) (hL : L.length ≤ 37) : Ev (fun k => laws_FnPiecesQuiet.j0 k s L (FnExactAreQuietBishops.R r c l L).1 false r c l) true := by
  by_cases h : (FnExactAreQuietBishops.R r c l L).1 = true
  · have hh := h
    unfold FnExactAreQuietBishops.R at hh
    by_cases hb : boardB r c l = true
    case neg => rw [if_neg hb] at hh; exact absurd hh (by simp)
    rw [if_pos hb] at hh
    have hq : QuietFrom L (cellV r c l) attackB 0 := by unfold quietR at hh; simpa using hh
    obtain ⟨K, hK⟩ := ev_get (l0_ev hs hb hL hq L.length 0 (by omega) (by omega))
    refine ⟨K + 1, fun k hk => ?_⟩
    obtain ⟨k, rfl⟩ : ∃ m, k = m + 1 := ⟨k - 1, by omega⟩
    dsimp only
    rw [laws_FnPiecesQuiet.j0, if_neg (by simp), if_pos h]
    exact hK k (by omega)
  · obtain ⟨K, hK⟩ := ev_get (j3_ev hs)
    refine ⟨K + 1, fun k hk => ?_⟩
    obtain ⟨k, rfl⟩ : ∃ m, k = m + 1 := ⟨k - 1, by omega⟩
    dsimp only
    rw [laws_FnPiecesQuiet.j0, if_neg (by simp), if_neg h]
    exact hK k (by omega)
end FnPiecesQuiet
open FnPiecesQuiet in
theorem FnPiecesQuiet : laws_FnPiecesQuiet.Pure := by
  intro l0 l1 ha hb hc hd he hf
  have hs0 := bytes_of hc
  have hs1 := bytes_of hf
  obtain ⟨x, hx⟩ := big_eq l0 l1 (by omega) (by omega)
  cases x with
  | true => exact ⟨0, by unfold laws_FnPiecesQuiet.f; rw [hx]; simp⟩
  | false =>
    obtain ⟨r, c, l, L, e0, hl, hL, hm⟩ := drawBishops_ok hs0
    obtain ⟨K0, k0⟩ := ev_get e0
    obtain ⟨K1, k1⟩ := ev_get (FnExactAreQuietBishops.impl_ev r c l L (by omega) (by omega) (fun x h => by have := hm x h; omega))
    obtain ⟨K2, k2⟩ := ev_get (FnExactAreQuietBishops.spec_ev r c l L (by omega) (by omega) (fun x h => by have := hm x h; omega))
    obtain ⟨K3, k3⟩ := ev_get (j0_ev hs1 r c l L hL)
    generalize FnExactAreQuietBishops.R r c l L = V at k1 k2 k3
    obtain ⟨m, hm⟩ : ∃ m, m = K0 + K1 + K2 + K3 := ⟨_, rfl⟩
    refine ⟨m, ?_⟩
    have k3' := k3 m (by omega)
    try dsimp only at k3'
    unfold laws_FnPiecesQuiet.f
    rw [hx]
    simp only [Option.bind_some, Bool.false_eq_true, if_false, k0 m (by omega), k1 m (by omega), k2 m (by omega), bne_self_eq_false]
    exact k3'
end Go.Proofs.Ytjjfcghoikdopaa.Pure
