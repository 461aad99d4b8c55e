/- For all rows of bytes: rook numbers of the board that the reference draws are told by the program as the reference tells them; with a cell deleted, or struck with its row and column, they add up, and lists by a cell do; a board that is turned or mirrored has the same rook numbers. Condition: that the rows can be read. -/
import Derived.Laws.BitsLemmas
import Derived.Test.YtdoflpghemgbdaaPx0
import Derived.Test.YtdoflpghemgbdaaQb4b6e93975
import Derived.Test.YtdoflpghemgbdaaQ09fbc47fe5
import Derived.Test.YtdoflpghemgbdaaQaaef31bd9a
import Derived.Test.YtdoflpghemgbdaaQf525fff51b
import Derived.Test.YtdoflpghemgbdaaQ448105012f
import Derived.Test.YtdoflpghemgbdaaQ45a88ad5a7
import Derived.Test.YtdoflpghemgbdaaQdfe9746a10
import Derived.Test.YtdoflpghemgbdaaQd9d989fcfa
import Derived.Test.YtdoflpghemgbdaaQ507308835e
import Derived.Test.YtdoflpghemgbdaaQ65af8af595
import Derived.Test.YtdoflpghemgbdaaQ1161b0440b
import Derived.Test.YtdoflpghemgbdaaQ55c9ac78c0
namespace Go.Proofs.Ytdoflpghemgbdaa.P
open Go.RowKit Go.Proofs.YtdoflpghemgbdaaW.PrintWords Go.Proofs.YtdoflpghemgbdaaW.PrintLast Go.Proofs.YtdoflpghemgbdaaW.PrintMore
set_option linter.unusedVariables false
set_option linter.unusedSimpArgs false
theorem w64 (n : Int) (h : -9223372036854775808 ≤ n) (h2 : n ≤ 9223372036854775807) : wrap64 n = n := by unfold wrap64; omega
theorem rd_nat (l : List Int) (i : Nat) (h : i < l.length) : rd l (i : Int) = l[i] := by
  unfold rd; simp [List.getD_eq_getElem?_getD, List.getElem?_eq_getElem h]
theorem drop_cons (l : List Int) (i : Nat) (h : i < l.length) : l.drop i = l[i] :: l.drop (i + 1) := List.drop_eq_getElem_cons h
theorem ev_get {α : Type} {g : Nat → Option α} {r : α} (h : Ev g r) : ∃ K, ∀ k, K ≤ k → g k = some r := h
theorem take_set_succ {α : Type} (l : List α) (i : Nat) (x : α) (h : i < l.length) : (l.set i x).take (i + 1) = l.take i ++ [x] := by
  rw [List.take_add_one, List.take_set_of_le (Nat.le_refl _)]; simp [h]
def inB (n lo hi : Int) : Bool := decide (lo ≤ n ∧ n ≤ hi)
theorem l1In_eq (a b c : Int) : spec_l1In.f a b c = some (inB a b c) := by
  unfold spec_l1In.f inB
  by_cases h : a ≥ b
  · rw [if_pos h]; congr 1; simp; omega
  · rw [if_neg h]; congr 1; symm; apply decide_eq_false; omega
theorem within_eq (a b c : Int) : impl_within.f a b c = some (inB a b c) := by
  unfold impl_within.f inB
  by_cases h : b ≤ a
  · rw [if_pos h]; congr 1; simp; omega
  · rw [if_neg h]; congr 1; symm; apply decide_eq_false; omega
def allIn (l : List Int) (lo hi : Int) : Bool := l.all fun x => inB x lo hi
theorem l1All_l0 (lo hi : Int) (l : List Int) (hb : l.length ≤ 1152921504606846976) : ∀ (d i : Nat) (k : Nat), l.length - i = d → i ≤ l.length → d < k →
    spec_l1All.l0 k lo hi l (l.length : Int) (i : Int) = some (allIn (l.drop i) lo hi) := by
  intro d
  induction d with
  | zero =>
    intro i k hd hi' hk; obtain ⟨k, rfl⟩ : ∃ m, k = m + 1 := ⟨k - 1, by omega⟩
    rw [spec_l1All.l0, if_neg (by omega), List.drop_eq_nil_of_le (by omega)]; rfl
  | succ d ih =>
    intro i k hd hi' hk; obtain ⟨k, rfl⟩ : ∃ m, k = m + 1 := ⟨k - 1, by omega⟩
    have h1 : i < l.length := by omega
    rw [spec_l1All.l0, if_pos (by omega), if_pos (by omega), if_pos (by omega), l1In_eq, Option.bind_some, w64 _ (by omega) (by omega), rd_nat _ _ h1]; rw [show ((i : Int) + 1) = ((i + 1 : Nat) : Int) by omega, ih (i + 1) k (by omega) (by omega) (by omega), drop_cons l i h1]; unfold allIn; rw [List.all_cons]; generalize l.drop (i + 1) = tl
    by_cases h : inB l[i] lo hi = true
    · rw [if_pos h, h]; simp
    · rw [if_neg h]; simp at h; rw [h]; simp
theorem l1All_ev (l : List Int) (lo hi : Int) (hb : l.length ≤ 1152921504606846976) : Ev (fun k => spec_l1All.f k l lo hi) (allIn l lo hi) := by
  refine ⟨l.length + 1, fun k hk => ?_⟩; simp only [spec_l1All.f]; have := l1All_l0 lo hi l hb l.length 0 k (by omega) (by omega) (by omega); simpa using this
end Go.Proofs.Ytdoflpghemgbdaa.P
namespace Go.Proofs.Ytdoflpghemgbdaa.P
open Go.RowKit Go.Proofs.YtdoflpghemgbdaaW.PrintWords Go.Proofs.YtdoflpghemgbdaaW.PrintLast Go.Proofs.YtdoflpghemgbdaaW.PrintMore
set_option linter.unusedVariables false
set_option linter.unusedSimpArgs false
theorem boardB_iff (r c : Int) (l : List Int) : boardB r c l = true ↔ (1 ≤ r ∧ r ≤ 6) ∧ (1 ≤ c ∧ c ≤ 6) ∧ (l.length : Int) = r ∧ ∀ m ∈ l, 0 ≤ m ∧ m ≤ 2 ^ c.toNat - 1 := by
  unfold boardB; simp only [Bool.and_eq_true, decide_eq_true_eq, List.all_eq_true]; constructor
  · rintro ⟨⟨⟨a, b⟩, c⟩, d⟩; exact ⟨a, b, c, d⟩
  · rintro ⟨a, b, c, d⟩; exact ⟨⟨⟨a, b⟩, c⟩, d⟩
theorem shl_one (c : Int) (h0 : 0 ≤ c) (h1 : c ≤ 62) : shl .i64 1 c = 2 ^ c.toNat := by
  unfold shl; rw [Int.one_mul, Nat.min_eq_left (show c.toNat ≤ IntKind.i64.bits by have : IntKind.i64.bits = 64 := rfl; omega)]; rw [i64_w, w64]
  · have : (0 : Int) ≤ 2 ^ c.toNat := Int.le_of_lt (Int.pow_pos (by decide))
    omega
  · have h : (2 : Int) ^ c.toNat ≤ 2 ^ 62 := by
      have := Nat.pow_le_pow_right (show 0 < 2 by decide) (show c.toNat ≤ 62 by omega); exact_mod_cast this
    have e : (2 : Int) ^ 62 = 4611686018427387904 := by decide
    omega
theorem pow_le6 (c : Int) (h1 : c ≤ 6) : (2 : Int) ^ c.toNat ≤ 64 := by
  have := Nat.pow_le_pow_right (show 0 < 2 by decide) (show c.toNat ≤ 6 by omega); have h : (2 : Int) ^ c.toNat ≤ 2 ^ 6 := by exact_mod_cast this
  exact h
theorem pow_pos2 (c : Int) : (1 : Int) ≤ 2 ^ c.toNat := by
  have : (0 : Int) < 2 ^ c.toNat := Int.pow_pos (by decide); omega
theorem boSide_eq (a : Int) : spec_boSide.f a = some (inB a 1 6) := by
  simp only [spec_boSide.f, l1In_eq, Option.bind_some]
theorem boGood_ev (r c : Int) (l : List Int) (hb : l.length ≤ 1152921504606846976) : Ev (fun k => spec_boGood.f k r c l) (boardB r c l) := by
  by_cases h1 : 1 ≤ r ∧ r ≤ 6
  · by_cases h2 : 1 ≤ c ∧ c ≤ 6
    · by_cases h3 : (l.length : Int) = r
      · obtain ⟨K, hK⟩ := ev_get (l1All_ev l 0 (2 ^ c.toNat - 1) hb)
        refine ⟨K, fun k hk => ?_⟩; have hp := pow_le6 c h2.2; have hp2 := pow_pos2 c; simp only [spec_boGood.f, boSide_eq, Option.bind_some]; rw [if_pos (by simpa [inB] using h1), if_pos (by simpa [inB] using h2), if_pos h3, if_pos (by omega), shl_one c (by omega) (by omega), w64 _ (by omega) (by omega), hK k hk, Option.bind_some]
        congr 1
        unfold boardB allIn inB; simp [h1, h2, h3]
      · refine ⟨0, fun k hk => ?_⟩
        simp only [spec_boGood.f, boSide_eq, Option.bind_some]; rw [if_pos (by simpa [inB] using h1), if_pos (by simpa [inB] using h2), if_neg h3]
        congr 1; unfold boardB; simp [h3]
    · refine ⟨0, fun k hk => ?_⟩
      simp only [spec_boGood.f, boSide_eq, Option.bind_some]; rw [if_pos (by simpa [inB] using h1), if_neg (by simpa [inB] using h2)]
      congr 1; unfold boardB; rw [decide_eq_false h2]; simp
  · refine ⟨0, fun k hk => ?_⟩
    simp only [spec_boGood.f, boSide_eq, Option.bind_some]; rw [if_neg (by simpa [inB] using h1)]
    congr 1; unfold boardB; rw [decide_eq_false h1]; simp
def placeB (r c x y : Int) : Bool := decide ((0 ≤ x ∧ x ≤ r - 1) ∧ (0 ≤ y ∧ y ≤ c - 1))
theorem boPlace_ev (r c : Int) (l : List Int) (x y : Int) (hb : l.length ≤ 1152921504606846976) : Ev (fun k => spec_boPlace.f k r c l x y) (boardB r c l && placeB r c x y) := by
  obtain ⟨K, hK⟩ := ev_get (boGood_ev r c l hb); refine ⟨K, fun k hk => ?_⟩; simp only [spec_boPlace.f, hK k hk, Option.bind_some]
  by_cases h : boardB r c l = true
  · have := (boardB_iff r c l).1 h
    rw [h, if_pos rfl, w64 _ (by omega) (by omega), w64 _ (by omega) (by omega), l1In_eq, l1In_eq, Option.bind_some, Option.bind_some]; unfold inB placeB
    by_cases h1 : 0 ≤ x ∧ x ≤ r - 1
    · rw [if_pos (by simpa using h1)]; simp [h1]
    · rw [if_neg (by simpa using h1)]; congr 1; rw [Bool.true_and]; symm; apply decide_eq_false; exact fun hh => h1 hh.1
  · simp only [Bool.not_eq_true] at h
    rw [h]; simp
theorem place_eq (r c : Int) (l : List Int) (x y : Int) (hr : -1000 ≤ r ∧ r ≤ 1000) (hc : -1000 ≤ c ∧ c ≤ 1000) : impl_Board_place.f r c l x y = some (placeB r c x y) := by
  simp only [impl_Board_place.f]; rw [w64 _ (by omega) (by omega), w64 _ (by omega) (by omega), within_eq, within_eq, Option.bind_some, Option.bind_some]; unfold inB placeB
  by_cases h1 : 0 ≤ x ∧ x ≤ r - 1
  · rw [if_pos (by simpa using h1)]; simp [h1]
  · rw [if_neg (by simpa using h1)]; congr 1; symm; apply decide_eq_false; exact fun hh => h1 hh.1
end Go.Proofs.Ytdoflpghemgbdaa.P
namespace Go.Proofs.Ytdoflpghemgbdaa.P
open Go.RowKit Go.Proofs.YtdoflpghemgbdaaW.PrintWords Go.Proofs.YtdoflpghemgbdaaW.PrintLast Go.Proofs.YtdoflpghemgbdaaW.PrintMore
set_option linter.unusedVariables false
set_option linter.unusedSimpArgs false
theorem rdL_nat (s : List (List Int)) (i : Nat) (h : i < s.length) : rd_L2 s (i : Int) = s[i] := by
  unfold rd_L2; simp [List.getD_eq_getElem?_getD, List.getElem?_eq_getElem h]
def total : List (List Int) → Nat
  | [] => 0
  | l :: s => l.length + total s
end Go.Proofs.Ytdoflpghemgbdaa.P
namespace Go.Proofs.Ytdoflpghemgbdaa.P
open Go.RowKit Go.Proofs.YtdoflpghemgbdaaW.PrintWords Go.Proofs.YtdoflpghemgbdaaW.PrintLast Go.Proofs.YtdoflpghemgbdaaW.PrintMore
set_option linter.unusedVariables false
set_option linter.unusedSimpArgs false
def hasM (m : Int) (j : Int) : Bool := Int.tmod (shr .i64 m j) 2 == 1
theorem has_bits : ∀ m : Fin 64, ∀ c : Fin 6, (Go.bits .and .i64 (shr .i64 (m.val : Int) (c.val : Int)) 1 == 1) = hasM (m.val : Int) (c.val : Int) := by decide +kernel
theorem has_bits' (m c : Int) (h0 : 0 ≤ m) (h1 : m ≤ 63) (h2 : 0 ≤ c) (h3 : c ≤ 5) : (Go.bits .and .i64 (shr .i64 m c) 1 == 1) = hasM m c := by
  have h := has_bits ⟨m.toNat, by omega⟩ ⟨c.toNat, by omega⟩; simp only [show ((m.toNat : Nat) : Int) = m by omega, show ((c.toNat : Nat) : Int) = c by omega] at h; exact h
def hasC (l : List Int) (i j : Int) : Bool := hasM (rd l i) j
theorem board_row {r c : Int} {l : List Int} (h : boardB r c l = true) {i : Int} (h0 : 0 ≤ i) (h1 : i < r) : 0 ≤ rd l i ∧ rd l i ≤ 63 := by
  obtain ⟨hr, hc, hl, hm⟩ := (boardB_iff r c l).1 h; have hp6 := pow_le6 c hc.2; have hx : i.toNat < l.length := by omega
  have := hm l[i.toNat] (List.getElem_mem hx); have e : rd l i = l[i.toNat] := by
    have := rd_nat l i.toNat hx; rwa [show ((i.toNat : Nat) : Int) = i by omega] at this
  rw [e]; omega
theorem boHas_eq {r c : Int} {l : List Int} (h : boardB r c l = true) {i j : Int} (h0 : 0 ≤ i) (h1 : i < r) (h2 : 0 ≤ j) : spec_boHas.f r c l i j = some (hasC l i j) := by
  obtain ⟨hr, hc, hl, hm⟩ := (boardB_iff r c l).1 h; simp only [spec_boHas.f]; rw [if_pos h0, if_pos (by omega), if_pos h2]; rfl
theorem has_eq {r c : Int} {l : List Int} (h : boardB r c l = true) {i j : Int} (h0 : 0 ≤ i) (h1 : i < r) (h2 : 0 ≤ j) (h3 : j < c) : impl_Board_has.f r c l i j = some (hasC l i j) := by
  obtain ⟨hr, hc, hl, hm⟩ := (boardB_iff r c l).1 h; have hb := board_row h h0 h1; simp only [impl_Board_has.f]; rw [if_pos h0, if_pos (by omega), if_pos h2, has_bits' _ _ hb.1 hb.2 h2 (by omega)]; rfl
theorem crange'_step (s n : Nat) (h : s < n) : List.range' s (n - s) = s :: List.range' (s + 1) (n - (s + 1)) := by
  rw [show n - s = (n - (s + 1)) + 1 by omega, List.range'_succ]
def cellRow (l : List Int) (i C j : Nat) : List (List Int) := (List.range' j (C - j)).flatMap fun (j : Nat) => if hasC l (i : Int) (j : Int) = true then [[(i : Int), (j : Int)]] else []
def cellsFrom (l : List Int) (R C i : Nat) : List (List Int) := (List.range' i (R - i)).flatMap fun (i : Nat) => cellRow l i C 0
theorem cellRow_step (l : List Int) (i C j : Nat) (h : j < C) : cellRow l i C j = (if hasC l (i : Int) (j : Int) = true then [[(i : Int), (j : Int)]] else []) ++ cellRow l i C (j + 1) := by
  unfold cellRow; rw [crange'_step j C h, List.flatMap_cons]
theorem cellRow_nil (l : List Int) (i C j : Nat) (h : C ≤ j) : cellRow l i C j = [] := by
  unfold cellRow; rw [show C - j = 0 by omega]; rfl
theorem cellsFrom_step (l : List Int) (R C i : Nat) (h : i < R) : cellsFrom l R C i = cellRow l i C 0 ++ cellsFrom l R C (i + 1) := by
  unfold cellsFrom; rw [crange'_step i R h, List.flatMap_cons]
theorem cellsFrom_nil (l : List Int) (R C i : Nat) (h : R ≤ i) : cellsFrom l R C i = [] := by
  unfold cellsFrom; rw [show R - i = 0 by omega]; rfl
theorem cellRow_len (l : List Int) (i C : Nat) : ∀ (d j : Nat), C - j = d → (cellRow l i C j).length ≤ d
  | 0, j, h => by rw [cellRow_nil l i C j (by omega)]; simp
  | d + 1, j, h => by
    rw [cellRow_step l i C j (by omega), List.length_append]; have := cellRow_len l i C d (j + 1) (by omega)
    split <;> simp <;> omega
theorem cellsFrom_len (l : List Int) (R C : Nat) : ∀ (d i : Nat), R - i = d → (cellsFrom l R C i).length ≤ d * C
  | 0, i, h => by rw [cellsFrom_nil l R C i (by omega)]; simp
  | d + 1, i, h => by
    rw [cellsFrom_step l R C i (by omega), List.length_append, Nat.succ_mul]; have := cellsFrom_len l R C d (i + 1) (by omega); have := cellRow_len l i C C 0 (by omega); omega
theorem cellRow_mem (l : List Int) (i C j : Nat) (x : List Int) : x ∈ cellRow l i C j ↔ ∃ q, j ≤ q ∧ q < C ∧ hasC l (i : Int) (q : Int) = true ∧ x = [(i : Int), (q : Int)] := by
  unfold cellRow; rw [List.mem_flatMap]; constructor
  · rintro ⟨q, hq, hx⟩
    rw [List.mem_range'_1] at hq
    split at hx
    · rename_i hh
      exact ⟨q, by omega, by omega, hh, by simpa using hx⟩
    · cases hx
  · rintro ⟨q, h1, h2, h3, rfl⟩
    refine ⟨q, by rw [List.mem_range'_1]; omega, ?_⟩; rw [if_pos h3]; simp
theorem cellsFrom_mem (l : List Int) (R C i : Nat) (x : List Int) : x ∈ cellsFrom l R C i ↔ ∃ p q, i ≤ p ∧ p < R ∧ q < C ∧ hasC l (p : Int) (q : Int) = true ∧ x = [(p : Int), (q : Int)] := by
  unfold cellsFrom; rw [List.mem_flatMap]; constructor
  · rintro ⟨p, hp, hx⟩
    rw [List.mem_range'_1] at hp; obtain ⟨q, _, h2, h3, h4⟩ := (cellRow_mem l p C 0 x).1 hx; exact ⟨p, q, by omega, by omega, h2, h3, h4⟩
  · rintro ⟨p, q, h1, h2, h3, h4, h5⟩
    exact ⟨p, by rw [List.mem_range'_1]; omega, (cellRow_mem l p C 0 x).2 ⟨q, by omega, h3, h4, h5⟩⟩
def cells (r c : Int) (l : List Int) : List (List Int) := cellsFrom l r.toNat c.toNat 0
def Cell6 (x : List Int) : Prop := ∃ p q : Int, x = [p, q] ∧ (0 ≤ p ∧ p ≤ 5) ∧ (0 ≤ q ∧ q ≤ 5)
theorem cells_cell {r c : Int} {l : List Int} (h : boardB r c l = true) {x : List Int} (hx : x ∈ cells r c l) : Cell6 x := by
  obtain ⟨hr, hc, _, _⟩ := (boardB_iff r c l).1 h; obtain ⟨p, q, _, h2, h3, _, rfl⟩ := (cellsFrom_mem l _ _ _ x).1 hx; exact ⟨p, q, rfl, by omega, by omega⟩
theorem cells_len {r c : Int} {l : List Int} (h : boardB r c l = true) : (cells r c l).length ≤ 36 := by
  obtain ⟨hr, hc, _, _⟩ := (boardB_iff r c l).1 h; have := cellsFrom_len l r.toNat c.toNat r.toNat 0 (by omega); have h2 : r.toNat * c.toNat ≤ 6 * 6 := Nat.mul_le_mul (by omega) (by omega); unfold cells; omega
theorem boCells_ev {r c : Int} {l : List Int} (h : boardB r c l = true) : Ev (fun k => spec_boCells.f k r c l) (cells r c l) := by
  obtain ⟨hr, hc, hl, hm⟩ := (boardB_iff r c l).1 h; obtain ⟨R, rfl⟩ : ∃ R : Nat, r = R := ⟨r.toNat, by omega⟩
  obtain ⟨C, rfl⟩ : ∃ C : Nat, c = C := ⟨c.toNat, by omega⟩
  have hout : ∀ (d i : Nat) (acc : List (List Int)), R - i = d → i ≤ R → acc.length ≤ 6 * i → Ev (fun k => spec_boCells.l0 k acc (i : Int) (R : Int) (C : Int) l) (acc ++ cellsFrom l R C i) := by
    intro d
    induction d with
    | zero =>
      intro i acc hd hi ha; refine ⟨1, fun k hk => ?_⟩; obtain ⟨k, rfl⟩ : ∃ m, k = m + 1 := ⟨k - 1, by omega⟩
      dsimp only; rw [spec_boCells.l0, if_neg (by omega), cellsFrom_nil l R C i (by omega), List.append_nil]
    | succ d ih =>
      intro i acc hd hi ha; have hin : ∀ (e j : Nat) (acc : List (List Int)), C - j = e → j ≤ C → acc.length ≤ 6 * i + j → Ev (fun k => spec_boCells.l1 k acc (i : Int) (j : Int) (R : Int) (C : Int) l) (acc ++ cellRow l i C j ++ cellsFrom l R C (i + 1)) := by
        intro e
        induction e with
        | zero =>
          intro j acc he hj ha; obtain ⟨K, hK⟩ := ev_get (ih (i + 1) acc (by omega) (by omega) (by omega)); refine ⟨K + 1, fun k hk => ?_⟩; obtain ⟨k, rfl⟩ : ∃ m, k = m + 1 := ⟨k - 1, by omega⟩
          dsimp only; rw [spec_boCells.l1, if_neg (by omega), cellRow_nil l i C j (by omega), List.append_nil, w64 _ (by omega) (by omega), show ((i : Int) + 1) = ((i + 1 : Nat) : Int) by omega]; exact hK k (by omega)
        | succ e ihe =>
          intro j acc he hj ha; obtain ⟨K1, h1⟩ := ev_get (ihe (j + 1) (acc ++ [[(i : Int), (j : Int)]]) (by omega) (by omega) (by simp; omega)); obtain ⟨K2, h2⟩ := ev_get (ihe (j + 1) acc (by omega) (by omega) (by omega)); refine ⟨K1 + K2 + 1, fun k hk => ?_⟩; obtain ⟨k, rfl⟩ : ∃ m, k = m + 1 := ⟨k - 1, by omega⟩
          dsimp only; rw [spec_boCells.l1, if_pos (by omega), boHas_eq h (by omega) (by omega) (by omega), Option.bind_some, if_pos (show acc.length < 5864062014805 by omega), w64 ((j : Int) + 1) (by omega) (by omega), show ((j : Int) + 1) = ((j + 1 : Nat) : Int) by omega, h1 k (by omega), h2 k (by omega), cellRow_step l i C j (by omega)]
          by_cases hh : hasC l (i : Int) (j : Int) = true
          · rw [if_pos hh, if_pos hh]; simp [List.append_assoc]
          · rw [if_neg hh, if_neg hh]; simp
      obtain ⟨K, hK⟩ := ev_get (hin C 0 acc (by omega) (by omega) (by omega)); refine ⟨K + 1, fun k hk => ?_⟩; obtain ⟨k, rfl⟩ : ∃ m, k = m + 1 := ⟨k - 1, by omega⟩
      dsimp only; rw [spec_boCells.l0, if_pos (by omega), cellsFrom_step l R C i (by omega), ← List.append_assoc]; exact hK k (by omega)
  obtain ⟨K, hK⟩ := ev_get (hout R 0 [] (by omega) (by omega) (by simp)); refine ⟨K, fun k hk => ?_⟩; simp only [spec_boCells.f]; simpa [cells] using hK k hk
theorem CellsOf_ev (r c : Int) (l : List Int) : Ev (fun k => impl_CellsOf.f k r c l) (if boardB r c l = true then (cells r c l, true) else ([], false)) := by
  by_cases h0 : ¬ boardB r c l = true
  · refine ⟨0, fun k hk => ?_⟩
    simp only [impl_CellsOf.f, impl_IsBoard.f, Option.bind_some, if_neg h0]
  have h := Classical.not_not.1 h0; rw [if_pos h]; obtain ⟨hr, hc, hl, hm⟩ := (boardB_iff r c l).1 h; obtain ⟨R, rfl⟩ : ∃ R : Nat, r = R := ⟨r.toNat, by omega⟩
  obtain ⟨C, rfl⟩ : ∃ C : Nat, c = C := ⟨c.toNat, by omega⟩
  have hout : ∀ (d i : Nat) (acc : List (List Int)), R - i = d → i ≤ R → acc.length ≤ 6 * i → Ev (fun k => impl_CellsOf.l0 k acc (R : Int) (i : Int) (R : Int) (C : Int) l) (acc ++ cellsFrom l R C i, true) := by
    intro d
    induction d with
    | zero =>
      intro i acc hd hi ha; refine ⟨1, fun k hk => ?_⟩; obtain ⟨k, rfl⟩ : ∃ m, k = m + 1 := ⟨k - 1, by omega⟩
      dsimp only; rw [impl_CellsOf.l0, if_neg (by omega), cellsFrom_nil l R C i (by omega), List.append_nil]
    | succ d ih =>
      intro i acc hd hi ha; have hin : ∀ (e j : Nat) (acc : List (List Int)), C - j = e → j ≤ C → acc.length ≤ 6 * i + j → Ev (fun k => impl_CellsOf.l1 k acc (i : Int) (R : Int) (i : Int) (C : Int) (j : Int) (R : Int) (C : Int) l) (acc ++ cellRow l i C j ++ cellsFrom l R C (i + 1), true) := by
        intro e
        induction e with
        | zero =>
          intro j acc he hj ha; obtain ⟨K, hK⟩ := ev_get (ih (i + 1) acc (by omega) (by omega) (by omega)); refine ⟨K + 1, fun k hk => ?_⟩; obtain ⟨k, rfl⟩ : ∃ m, k = m + 1 := ⟨k - 1, by omega⟩
          dsimp only; rw [impl_CellsOf.l1, if_neg (by omega), cellRow_nil l i C j (by omega), List.append_nil, w64 _ (by omega) (by omega), show ((i : Int) + 1) = ((i + 1 : Nat) : Int) by omega]; exact hK k (by omega)
        | succ e ihe =>
          intro j acc he hj ha; obtain ⟨K1, h1⟩ := ev_get (ihe (j + 1) (acc ++ [[(i : Int), (j : Int)]]) (by omega) (by omega) (by simp; omega)); obtain ⟨K2, h2⟩ := ev_get (ihe (j + 1) acc (by omega) (by omega) (by omega)); refine ⟨K1 + K2 + 1, fun k hk => ?_⟩; obtain ⟨k, rfl⟩ : ∃ m, k = m + 1 := ⟨k - 1, by omega⟩
          dsimp only; rw [impl_CellsOf.l1, if_pos (by omega), has_eq h (by omega) (by omega) (by omega) (by omega), Option.bind_some, if_pos (show acc.length < 5864062014805 by omega), w64 ((j : Int) + 1) (by omega) (by omega), show ((j : Int) + 1) = ((j + 1 : Nat) : Int) by omega, h1 k (by omega), h2 k (by omega), cellRow_step l i C j (by omega)]
          by_cases hh : hasC l (i : Int) (j : Int) = true
          · rw [if_pos hh, if_pos hh]; simp [List.append_assoc]
          · rw [if_neg hh, if_neg hh]; simp
      obtain ⟨K, hK⟩ := ev_get (hin C 0 acc (by omega) (by omega) (by omega)); refine ⟨K + 1, fun k hk => ?_⟩; obtain ⟨k, rfl⟩ : ∃ m, k = m + 1 := ⟨k - 1, by omega⟩
      dsimp only; rw [impl_CellsOf.l0, if_pos (by omega), cellsFrom_step l R C i (by omega), ← List.append_assoc]; exact hK k (by omega)
  obtain ⟨K, hK⟩ := ev_get (hout R 0 [] (by omega) (by omega) (by simp)); refine ⟨K, fun k hk => ?_⟩; simp only [impl_CellsOf.f, impl_IsBoard.f, Option.bind_some, if_pos h]; simpa [cells] using hK k hk
theorem rd0 (p q : Int) : rd [p, q] 0 = p := by simp [rd]
theorem rd1 (p q : Int) : rd [p, q] 1 = q := by simp [rd]
end Go.Proofs.Ytdoflpghemgbdaa.P
namespace Go.Proofs.Ytdoflpghemgbdaa.P
open Go.RowKit Go.Proofs.YtdoflpghemgbdaaW.PrintWords Go.Proofs.YtdoflpghemgbdaaW.PrintLast Go.Proofs.YtdoflpghemgbdaaW.PrintMore
set_option linter.unusedVariables false
set_option linter.unusedSimpArgs false
def tab (m : Nat) (f : Nat → Int) : List Int := (List.range (m + 1)).map f
theorem tab_len (m : Nat) (f : Nat → Int) : (tab m f).length = m + 1 := by simp [tab]
theorem tab_get (m : Nat) (f : Nat → Int) (i : Nat) (h : i < (tab m f).length) : (tab m f)[i] = f i := by simp [tab]
theorem tab_rd (m : Nat) (f : Nat → Int) (i : Nat) (h : i ≤ m) : rd (tab m f) (i : Int) = f i := by
  rw [rd_nat _ _ (by rw [tab_len]; omega), tab_get]
theorem tab_set (m : Nat) (f : Nat → Int) (i : Nat) (v : Int) : (tab m f).set i v = tab m (fun k => if k = i then v else f k) := by
  apply List.ext_getElem
  · simp [tab]
  · intro k h1 h2
    rw [tab_get, List.getElem_set]
    by_cases e : i = k
    · subst e; simp
    · rw [if_neg e, if_neg (fun h => e h.symm), tab_get]
theorem tab_congr {m : Nat} {f g : Nat → Int} (h : ∀ k, k ≤ m → f k = g k) : tab m f = tab m g := by
  apply List.ext_getElem
  · simp [tab]
  · intro k h1 h2
    rw [tab_get, tab_get]; exact h k (by rw [tab_len] at h1; omega)
theorem tab_repl (m : Nat) : List.replicate (m + 1) (0 : Int) = tab m (fun _ => 0) := by
  apply List.ext_getElem
  · simp [tab]
  · intro k h1 h2
    rw [tab_get, List.getElem_replicate]
def orb (t c : Int) : Int := Go.bits .or .i64 t (shl .i64 1 c)
def pop (t : Int) : Nat := ((List.range 6).filter fun (c : Nat) => hasM t (c : Int)).length
theorem orb_fin : ∀ t : Fin 64, ∀ c : Fin 6, hasM (t.val : Int) (c.val : Int) = false → (0 ≤ orb (t.val : Int) (c.val : Int) ∧ orb (t.val : Int) (c.val : Int) ≤ 63) ∧ pop (orb (t.val : Int) (c.val : Int)) = pop (t.val : Int) + 1 := by decide +kernel
theorem orb_form : ∀ t : Fin 64, ∀ c : Fin 6, Go.bits .or .i64 (t.val : Int) (wrap64 (2 ^ min ((c.val : Nat) : Int).toNat 64)) = orb (t.val : Int) (c.val : Int) := by decide +kernel
theorem orb_cols : ∀ t : Fin 64, ∀ c : Fin 6, ∀ C : Fin 7, t.val < 2 ^ C.val → c.val < C.val → orb (t.val : Int) (c.val : Int) < ((2 ^ C.val : Nat) : Int) := by decide +kernel
theorem pop_cols : ∀ t : Fin 64, ∀ C : Fin 7, t.val < 2 ^ C.val → pop (t.val : Int) ≤ C.val := by decide +kernel
theorem pop_zero : pop 0 = 0 := by decide +kernel
def Cols (C : Nat) (t : Int) : Prop := 0 ≤ t ∧ t ≤ 63 ∧ t < ((2 ^ C : Nat) : Int)
theorem cols_zero (C : Nat) : Cols C 0 := ⟨by omega, by omega, by exact_mod_cast Nat.pos_of_ne_zero (by simp)⟩
theorem cols_pop {C : Nat} (hC : C ≤ 6) {t : Int} (h : Cols C t) : pop t ≤ C := by
  have := pop_cols ⟨t.toNat, by have := h.1; have := h.2.1; omega⟩ ⟨C, by omega⟩ (by have := h.1; have := h.2.2; simp only; omega); simpa only [show ((t.toNat : Nat) : Int) = t by have := h.1; omega] using this
theorem cols_orb {C : Nat} (hC : C ≤ 6) {t : Int} (h : Cols C t) {c : Nat} (hc : c < C) (hf : hasM t (c : Int) = false) : Cols C (orb t (c : Int)) ∧ pop (orb t (c : Int)) = pop t + 1 := by
  have e : ((t.toNat : Nat) : Int) = t := by have := h.1; omega
  have h1 := orb_fin ⟨t.toNat, by have := h.1; have := h.2.1; omega⟩ ⟨c, by omega⟩ (by simpa only [e] using hf); have h2 := orb_cols ⟨t.toNat, by have := h.1; have := h.2.1; omega⟩ ⟨c, by omega⟩ ⟨C, by omega⟩ (by have := h.1; have := h.2.2; simp only; omega) hc; simp only [e] at h1 h2; exact ⟨⟨h1.1.1, h1.1.2, h2⟩, h1.2⟩
theorem orb_more {C : Nat} (hC : C ≤ 6) {t : Int} (h : Cols C t) {c : Nat} (hc : c < C) : Go.bits .or .i64 t (wrap64 (2 ^ min ((c : Nat) : Int).toNat 64)) = orb t (c : Int) := by
  have e : ((t.toNat : Nat) : Int) = t := by have := h.1; omega
  have h1 := orb_form ⟨t.toNat, by have := h.1; have := h.2.1; omega⟩ ⟨c, by omega⟩; simpa only [e] using h1
def sumTo (f : Nat → Nat) : Nat → Nat
  | 0 => 0
  | n + 1 => sumTo f n + f n
def freeB (l : List Int) (r c : Nat) (t : Int) : Bool := hasC l (r : Int) (c : Int) && !hasM t (c : Int)
def ways (l : List Int) (C : Nat) : Nat → Nat → Int → Nat → Nat
  | 0, _, _, k => if k = 0 then 1 else 0
  | d + 1, r, t, k => ways l C d (r + 1) t k + sumTo (fun c => if freeB l r c t = true then (if k = 0 then 0 else ways l C d (r + 1) (orb t (c : Int)) (k - 1)) else 0) C
def term (l : List Int) (C d r : Nat) (t : Int) (k c : Nat) : Nat := if freeB l r c t = true then (if k = 0 then 0 else ways l C d (r + 1) (orb t (c : Int)) (k - 1)) else 0
theorem ways_succ (l : List Int) (C d r : Nat) (t : Int) (k : Nat) : ways l C (d + 1) r t k = ways l C d (r + 1) t k + sumTo (term l C d r t k) C := rfl
theorem sumTo_le {f : Nat → Nat} {b : Nat} (h : ∀ c, f c ≤ b) : ∀ n, sumTo f n ≤ n * b
  | 0 => by simp [sumTo]
  | n + 1 => by have := sumTo_le h n; have := h n; rw [sumTo, Nat.succ_mul]; omega
theorem ways_le (l : List Int) {C : Nat} (hC : C ≤ 6) : ∀ (d r : Nat) (t : Int) (k : Nat), ways l C d r t k ≤ 7 ^ d
  | 0, _, _, k => by unfold ways; split <;> omega
  | d + 1, r, t, k => by
    rw [ways_succ]; have h1 := ways_le l hC d (r + 1) t k; have h2 := sumTo_le (f := term l C d r t k) (b := 7 ^ d) (fun c => by
      unfold term
      split
      · split
        · omega
        · exact ways_le l hC d _ _ _
      · omega) C
    have h3 : C * 7 ^ d ≤ 6 * 7 ^ d := Nat.mul_le_mul_right _ hC; rw [Nat.pow_succ]; omega
theorem sumTo_pos {f : Nat → Nat} : ∀ {n : Nat}, 0 < sumTo f n → ∃ c, c < n ∧ 0 < f c
  | 0, h => by simp [sumTo] at h
  | n + 1, h => by
    rw [sumTo] at h
    by_cases h1 : 0 < f n
    · exact ⟨n, by omega, h1⟩
    · obtain ⟨c, hc, hf⟩ := sumTo_pos (f := f) (n := n) (by omega)
      exact ⟨c, by omega, hf⟩
theorem ways_pos (l : List Int) {C : Nat} (hC : C ≤ 6) : ∀ (d r : Nat) (t : Int) (k : Nat), Cols C t → 0 < ways l C d r t k → k ≤ d ∧ k + pop t ≤ C
  | 0, _, t, k, ht, h => by
    unfold ways at h
    split at h
    · have := cols_pop hC ht; omega
    · omega
  | d + 1, r, t, k, ht, h => by
    rw [ways_succ] at h
    by_cases h1 : 0 < ways l C d (r + 1) t k
    · have := ways_pos l hC d (r + 1) t k ht h1; omega
    · obtain ⟨c, hc, hf⟩ := sumTo_pos (f := term l C d r t k) (n := C) (by omega)
      unfold term at hf
      split at hf
      · rename_i hfree
        split at hf
        · omega
        · unfold freeB at hfree
          rw [Bool.and_eq_true, Bool.not_eq_true'] at hfree; have h2 := cols_orb hC ht hc hfree.2; have := ways_pos l hC d (r + 1) (orb t (c : Int)) (k - 1) h2.1 hf; omega
      · omega
theorem ways_small (l : List Int) {C : Nat} (hC : C ≤ 6) (d r : Nat) (t : Int) (k : Nat) (hd : d ≤ 6) : ways l C d r t k ≤ 117649 :=
  Nat.le_trans (ways_le l hC d r t k) (Nat.le_trans (Nat.pow_le_pow_right (by omega) hd) (by decide))
section
variable {l : List Int} {R C m : Nat} (hR : R ≤ 6) (hC : C ≤ 6) (hl : l.length = R) (hm : m = min R C)
theorem spec_l0 (w : Nat → Int) (hw : ∀ k, 0 ≤ w k ∧ w k ≤ 1000000) (r t : Int) (res : List Int) (hm6 : m ≤ 6)
    (hrec : Ev (fun k => spec_roWays.l1 k r t (tab m w) 0 (R : Int) (C : Int) l) res) : ∀ (d i : Nat), m + 1 - i = d → i ≤ m + 1 →
    Ev (fun k => spec_roWays.l0 k r t (tab m (fun k => if k < i then w k else 0)) (tab m w) ((tab m w).length : Int) (i : Int) (R : Int) (C : Int) l) res := by
  intro d
  induction d with
  | zero =>
    intro i hd hi; obtain ⟨K, hK⟩ := ev_get hrec; refine ⟨K + 1, fun k hk => ?_⟩; obtain ⟨k, rfl⟩ : ∃ m, k = m + 1 := ⟨k - 1, by omega⟩
    dsimp only; rw [spec_roWays.l0, tab_len, if_neg (by omega), tab_congr (g := w) (fun k hk => by rw [if_pos (by omega)])]; exact hK k (by omega)
  | succ d ih =>
    intro i hd hi; obtain ⟨K, hK⟩ := ev_get (ih (i + 1) (by omega) (by omega)); refine ⟨K + 1, fun k hk => ?_⟩; obtain ⟨k, rfl⟩ : ∃ m, k = m + 1 := ⟨k - 1, by omega⟩
    dsimp only; have h1 := hw i; rw [spec_roWays.l0, if_pos (by rw [tab_len]; omega), if_pos (by omega), if_pos (by rw [tab_len]; omega), if_pos (by rw [tab_len]; omega), tab_rd _ _ i (by omega), tab_rd _ _ i (by omega), if_neg (by omega), w64 _ (by omega) (by omega), w64 _ (by omega) (by omega), show ((i : Nat) : Int).toNat = i by omega, tab_set, tab_congr (g := fun k => if k < i + 1 then w k else 0) (fun k hk => by
      by_cases e : k = i
      · subst e; rw [if_pos rfl, if_pos (by omega)]; omega
      · rw [if_neg e]
        by_cases e2 : k < i
        · rw [if_pos e2, if_pos (by omega)]
        · rw [if_neg e2, if_neg (by omega)])]
    exact hK k (by omega)
theorem spec_l2 (hm6 : m ≤ 6) (b w : Nat → Int) (hb : ∀ k, 0 ≤ b k ∧ b k ≤ 1000000) (hw : ∀ k, 0 ≤ w k ∧ w k ≤ 1000000) (hpos : ∀ k, 0 < w k → k + 1 ≤ m) (r t : Int) (c : Nat) (hc : c ≤ 100) (res : List Int)
    (hrec : Ev (fun k => spec_roWays.l1 k r t (tab m (fun k => b k + if k = 0 then 0 else w (k - 1))) ((c + 1 : Nat) : Int) (R : Int) (C : Int) l) res) : ∀ (d i : Nat), m + 1 - i = d → i ≤ m + 1 →
    Ev (fun k => spec_roWays.l2 k r t (tab m (fun k => b k + if k = 0 ∨ i < k then 0 else w (k - 1))) (c : Int) (tab m w) ((tab m w).length : Int) (i : Int) (R : Int) (C : Int) l) res := by
  intro d
  induction d with
  | zero =>
    intro i hd hi; obtain ⟨K, hK⟩ := ev_get hrec; refine ⟨K + 1, fun k hk => ?_⟩; obtain ⟨k, rfl⟩ : ∃ m, k = m + 1 := ⟨k - 1, by omega⟩
    dsimp only; rw [spec_roWays.l2, tab_len, if_neg (by omega), w64 _ (by omega) (by omega), tab_congr (g := fun k => b k + if k = 0 then 0 else w (k - 1)) (fun k hk => by
      by_cases e : k = 0
      · rw [if_pos (Or.inl e), if_pos e]
      · rw [if_neg (by omega), if_neg e])]
    exact hK k (by omega)
  | succ d ih =>
    intro i hd hi; obtain ⟨K, hK⟩ := ev_get (ih (i + 1) (by omega) (by omega)); refine ⟨K + 1, fun k hk => ?_⟩; obtain ⟨k, rfl⟩ : ∃ m, k = m + 1 := ⟨k - 1, by omega⟩
    dsimp only; have h1 := hw i; have h2 := hb (i + 1); rw [spec_roWays.l2, if_pos (by rw [tab_len]; omega), if_pos (by omega), if_pos (by rw [tab_len]; omega), tab_rd _ _ i (by omega), w64 ((i : Int) + 1) (by omega) (by omega), show (i : Int) + 1 = ((i + 1 : Nat) : Int) by omega]
    by_cases hp : w i > 0
    · have h3 := hpos i hp
      rw [if_pos hp, if_pos (by omega), if_pos (by rw [tab_len]; omega), tab_rd _ _ (i + 1) (by omega), if_pos (Or.inr (by omega)), w64 _ (by omega) (by omega), show (((i + 1 : Nat) : Nat) : Int).toNat = i + 1 by omega, tab_set, tab_congr (g := fun k => b k + if k = 0 ∨ i + 1 < k then 0 else w (k - 1)) (fun k hk => by
        by_cases e : k = i + 1
        · subst e; rw [if_pos rfl, if_neg (by omega)]; simp
        · rw [if_neg e]
          by_cases e2 : k = 0 ∨ i < k
          · rw [if_pos e2, if_pos (by omega)]
          · rw [if_neg e2, if_neg (by omega)])]
      exact hK k (by omega)
    · rw [if_neg hp, tab_congr (g := fun k => b k + if k = 0 ∨ i + 1 < k then 0 else w (k - 1)) (fun k hk => by
        by_cases e : k = i + 1
        · subst e; rw [if_pos (Or.inr (by omega)), if_neg (by omega)]; simp; omega
        · by_cases e2 : k = 0 ∨ i < k
          · rw [if_pos e2, if_pos (by omega)]
          · rw [if_neg e2, if_neg (by omega)])]
      exact hK k (by omega)
theorem sum_small (l : List Int) {C : Nat} (hC : C ≤ 6) (d r : Nat) (t : Int) (k c : Nat) (hc : c ≤ C) (hd : d ≤ 5) : sumTo (term l C d r t k) c ≤ 117649 := by
  have h := sumTo_le (f := term l C d r t k) (b := 16807) (fun c => by
    unfold term
    split
    · split
      · omega
      · exact Nat.le_trans (ways_le l hC d _ _ _) (Nat.le_trans (Nat.pow_le_pow_right (by omega) hd) (by decide))
    · omega) c
  have : c * 16807 ≤ 6 * 16807 := Nat.mul_le_mul_right _ (by omega); omega
include hR hC hl hm
theorem spec_l1 (d r : Nat) (hrd : r + d + 1 = R) (t : Int) (ht : Cols C t)
    (IH : ∀ t', Cols C t' → Ev (fun k => spec_roWays.f k (R : Int) (C : Int) l ((r + 1 : Nat) : Int) t') (tab m (fun k => (ways l C d (r + 1) t' k : Int)))) : ∀ (e c : Nat), C - c = e → c ≤ C →
    Ev (fun k => spec_roWays.l1 k (r : Int) t (tab m (fun k => (ways l C d (r + 1) t k : Int) + (sumTo (term l C d r t k) c : Int))) (c : Int) (R : Int) (C : Int) l) (tab m (fun k => (ways l C (d + 1) r t k : Int))) := by
  intro e
  induction e with
  | zero =>
    intro c he hc; refine ⟨1, fun k hk => ?_⟩; obtain ⟨k, rfl⟩ : ∃ m, k = m + 1 := ⟨k - 1, by omega⟩
    dsimp only; obtain rfl : c = C := by omega
    rw [spec_roWays.l1, if_neg (by omega)]; exact congrArg some (tab_congr (fun k hk => by rw [ways_succ]; omega))
  | succ e ih =>
    intro c he hc; have hc1 : c < C := by omega
    have h2 := ih (c + 1) (by omega) (by omega); have hhas : spec_boHas.f (R : Int) (C : Int) l (r : Int) (c : Int) = some (hasC l (r : Int) (c : Int)) := by
      simp only [spec_boHas.f]; rw [if_pos (by omega), if_pos (by omega), if_pos (by omega)]; rfl
    have skip : freeB l r c t = false → ∀ k, spec_roWays.l1 k (r : Int) t (tab m (fun k => (ways l C d (r + 1) t k : Int) + (sumTo (term l C d r t k) (c + 1) : Int))) ((c + 1 : Nat) : Int) (R : Int) (C : Int) l = spec_roWays.l1 k (r : Int) t (tab m (fun k => (ways l C d (r + 1) t k : Int) + (sumTo (term l C d r t k) c : Int))) ((c + 1 : Nat) : Int) (R : Int) (C : Int) l := by
      intro hf k; rw [tab_congr (g := fun k => (ways l C d (r + 1) t k : Int) + (sumTo (term l C d r t k) c : Int)) (fun k hk => by
        rw [sumTo, term, if_neg (by rw [hf]; simp)]; omega)]
    by_cases hh : hasC l (r : Int) (c : Int) = true
    case neg =>
      have hf : freeB l r c t = false := by unfold freeB; rw [Bool.not_eq_true] at hh; rw [hh]; rfl
      obtain ⟨K, hK⟩ := ev_get h2; refine ⟨K + 2, fun k hk => ?_⟩; obtain ⟨k, rfl⟩ : ∃ m, k = m + 2 := ⟨k - 2, by omega⟩
      dsimp only; rw [spec_roWays.l1, if_pos (by omega), hhas, Option.bind_some, if_neg hh, spec_roWays.j2, if_pos rfl, w64 _ (by omega) (by omega), show (c : Int) + 1 = ((c + 1 : Nat) : Int) by omega, ← skip hf]; exact hK k (by omega)
    by_cases hb : hasM t (c : Int) = true
    · have hf : freeB l r c t = false := by unfold freeB; rw [hb]; simp
      obtain ⟨K, hK⟩ := ev_get h2; refine ⟨K + 2, fun k hk => ?_⟩; obtain ⟨k, rfl⟩ : ∃ m, k = m + 2 := ⟨k - 2, by omega⟩
      dsimp only; have hb' : (Int.tmod (shr .i64 t (c : Int)) 2 == 1) = true := hb; rw [spec_roWays.l1, if_pos (by omega), hhas, Option.bind_some, if_pos hh, if_pos (by omega), hb', spec_roWays.j2, if_pos rfl, w64 _ (by omega) (by omega), show (c : Int) + 1 = ((c + 1 : Nat) : Int) by omega, ← skip hf]; exact hK k (by omega)
    · have hb1 : hasM t (c : Int) = false := by simpa using hb
      have hf : freeB l r c t = true := by unfold freeB; rw [hh, hb1]; rfl
      have hco := cols_orb hC ht hc1 hb1; obtain ⟨K1, k1⟩ := ev_get (IH _ hco.1); obtain ⟨K2, k2⟩ := ev_get (spec_l2 (l := l) (R := R) (C := C) (m := m) (by omega) (fun k => (ways l C d (r + 1) t k : Int) + (sumTo (term l C d r t k) c : Int)) (fun k => (ways l C d (r + 1) (orb t (c : Int)) k : Int))
        (fun k => by have := ways_small l hC d (r + 1) t k (by omega); have := sum_small l hC d r t k c (by omega) (by omega); omega)
        (fun k => by have := ways_small l hC d (r + 1) (orb t (c : Int)) k (by omega); omega)
        (fun k hk => by have := ways_pos l hC d (r + 1) (orb t (c : Int)) k hco.1 (by omega); omega) (r : Int) t c (by omega) _ (by
          have e : (fun k => (ways l C d (r + 1) t k : Int) + (sumTo (term l C d r t k) (c + 1) : Int)) = (fun k => (ways l C d (r + 1) t k : Int) + (sumTo (term l C d r t k) c : Int) + (if k = 0 then 0 else (ways l C d (r + 1) (orb t (c : Int)) (k - 1) : Int))) := by
            funext k
            rw [sumTo]; have : term l C d r t k c = if k = 0 then 0 else ways l C d (r + 1) (orb t (c : Int)) (k - 1) := by unfold term; rw [if_pos hf]
            rw [this]
            split <;> omega
          rw [e] at h2; exact h2) (m + 1) 0 (by omega) (by omega))
      refine ⟨K1 + K2 + 2, fun k hk => ?_⟩; obtain ⟨k, rfl⟩ : ∃ m, k = m + 2 := ⟨k - 2, by omega⟩
      dsimp only; have hb' : (Int.tmod (shr .i64 t (c : Int)) 2 == 1) = false := hb1; have k1' := k1 k (by omega); rw [spec_roWays.l1, if_pos (by omega), hhas, Option.bind_some, if_pos hh, if_pos (by omega), hb', spec_roWays.j2, if_neg (by simp), if_pos (by omega), w64 ((r : Int) + 1) (by omega) (by omega), show (r : Int) + 1 = ((r + 1 : Nat) : Int) by omega]; show (spec_roWays.f k (R : Int) (C : Int) l ((r + 1 : Nat) : Int) (orb t (c : Int))).bind _ = _; rw [k1', Option.bind_some]; refine Eq.trans ?_ (k2 k (by omega))
      congr 1
      exact tab_congr (fun k hk => by
        by_cases e : k = 0
        · rw [if_pos (Or.inl e)]; omega
        · rw [if_pos (Or.inr (by omega))]; omega)
theorem roWays_ev : ∀ (d r : Nat) (t : Int), r + d = R → Cols C t → Ev (fun k => spec_roWays.f k (R : Int) (C : Int) l (r : Int) t) (tab m (fun k => (ways l C d r t k : Int))) := by
  have hle : spec_l1Least.f (R : Int) (C : Int) = some (m : Int) := by
    unfold spec_l1Least.f
    by_cases h : (R : Int) < (C : Int)
    · rw [if_pos h]; congr 1; omega
    · rw [if_neg h]; congr 1; omega
  intro d
  induction d with
  | zero =>
    intro r t hr ht; refine ⟨1, fun k hk => ?_⟩; obtain ⟨k, rfl⟩ : ∃ m, k = m + 1 := ⟨k - 1, by omega⟩
    dsimp only; rw [spec_roWays.f, hle, Option.bind_some, w64 _ (by omega) (by omega), if_pos (by omega), show ((m : Int) + 1).toNat = m + 1 by omega, if_pos (by omega), Option.bind_some, if_pos (by omega), if_pos (by simp), tab_repl]
    congr 1
    rw [show (0 : Int).toNat = 0 from rfl, tab_set]; exact tab_congr (fun k hk => by unfold ways; split <;> simp)
  | succ d ih =>
    intro r t hr ht; obtain ⟨K1, k1⟩ := ev_get (ih (r + 1) t (by omega) ht); have h0 := spec_l1 hR hC hl hm d r (by omega) t ht (fun t' ht' => ih (r + 1) t' (by omega) ht') C 0 (by omega) (by omega); have e : (fun k => (ways l C d (r + 1) t k : Int) + (sumTo (term l C d r t k) 0 : Int)) = fun k => (ways l C d (r + 1) t k : Int) := by
      funext k; rw [sumTo]; omega
    rw [e] at h0; obtain ⟨K2, k2⟩ := ev_get (spec_l0 (l := l) (R := R) (C := C) (m := m) (fun k => (ways l C d (r + 1) t k : Int)) (fun k => by have := ways_small l hC d (r + 1) t k (by omega); omega) (r : Int) t _ (by omega) h0 (m + 1) 0 (by omega) (by omega)); refine ⟨K1 + K2 + 1, fun k hk => ?_⟩; obtain ⟨k, rfl⟩ : ∃ m, k = m + 1 := ⟨k - 1, by omega⟩
    dsimp only; rw [spec_roWays.f, hle, Option.bind_some, w64 _ (by omega) (by omega), if_pos (by omega), show ((m : Int) + 1).toNat = m + 1 by omega, if_pos (by omega), Option.bind_some, if_neg (by omega), w64 ((r : Int) + 1) (by omega) (by omega), show (r : Int) + 1 = ((r + 1 : Nat) : Int) by omega, k1 k (by omega), Option.bind_some, tab_repl, tab_congr (g := fun k => if k < 0 then (ways l C d (r + 1) t k : Int) else 0) (fun k hk => by rw [if_neg (by omega)])]; exact k2 k (by omega)
omit hR hC hl hm
end
end Go.Proofs.Ytdoflpghemgbdaa.P
namespace Go.Proofs.Ytdoflpghemgbdaa.P
open Go.RowKit Go.Proofs.YtdoflpghemgbdaaW.PrintWords Go.Proofs.YtdoflpghemgbdaaW.PrintLast Go.Proofs.YtdoflpghemgbdaaW.PrintMore
set_option linter.unusedVariables false
set_option linter.unusedSimpArgs false
def cnt (p : List Int) : Nat := (p.filter fun x => x != -1).length
theorem rooks_l0 (p : List Int) (hp : p.length ≤ 100) : ∀ (d i : Nat), p.length - i = d → i ≤ p.length →
    Ev (fun k => impl_rooks.l0 k (cnt (p.take i) : Int) p (p.length : Int) (i : Int)) (cnt p : Int) := by
  intro d
  induction d with
  | zero =>
    intro i hd hi; refine ⟨1, fun k hk => ?_⟩; obtain ⟨k, rfl⟩ : ∃ m, k = m + 1 := ⟨k - 1, by omega⟩
    dsimp only; rw [impl_rooks.l0, if_neg (by omega), List.take_of_length_le (by omega)]
  | succ d ih =>
    intro i hd hi; have h1 : i < p.length := by omega
    obtain ⟨K, hK⟩ := ev_get (ih (i + 1) (by omega) (by omega)); refine ⟨K + 1, fun k hk => ?_⟩; obtain ⟨k, rfl⟩ : ∃ m, k = m + 1 := ⟨k - 1, by omega⟩
    dsimp only; have hc : cnt (p.take i) ≤ i := by
      unfold cnt; have := List.length_filter_le (fun x => x != -1) (p.take i); rw [List.length_take] at this; omega
    have hs : cnt (p.take (i + 1)) = cnt (p.take i) + if p[i] = -1 then 0 else 1 := by
      unfold cnt; rw [← List.take_append_getElem h1, List.filter_append, List.length_append]
      by_cases e : p[i] = -1 <;> simp [e]
    have hk' := hK k (by omega); rw [hs] at hk'; rw [impl_rooks.l0, if_pos (by omega), if_pos (by omega), if_pos (by omega), rd_nat p i h1, w64 ((i : Int) + 1) (by omega) (by omega), show (i : Int) + 1 = ((i + 1 : Nat) : Int) by omega, w64 _ (by omega) (by omega)]
    by_cases e : p[i] = -1
    · rw [if_pos e]; rw [if_pos e] at hk'; exact hk'
    · rw [if_neg e]; rw [if_neg e] at hk'; exact hk'
theorem rooks_ev (p : List Int) (hp : p.length ≤ 100) : Ev (fun k => impl_rooks.f k p) (cnt p : Int) := rooks_l0 p hp p.length 0 (by omega) (by omega)
def gain (l : List Int) (C d r : Nat) (t : Int) (k : Nat) : Nat := if pop t ≤ k then ways l C d r t (k - pop t) else 0
def gterm (l : List Int) (C d r : Nat) (t : Int) (k c : Nat) : Nat := if freeB l r c t = true then gain l C d (r + 1) (orb t (c : Int)) k else 0
theorem sumTo_congr {f g : Nat → Nat} : ∀ {n : Nat}, (∀ c, c < n → f c = g c) → sumTo f n = sumTo g n
  | 0, _ => rfl
  | n + 1, h => by rw [sumTo, sumTo, sumTo_congr (fun c hc => h c (by omega)), h n (by omega)]
theorem sumTo_zero (n : Nat) : sumTo (fun _ => 0) n = 0 := by
  induction n with
  | zero => rfl
  | succ n ih => rw [sumTo, ih]
theorem gain_succ (l : List Int) {C : Nat} (hC : C ≤ 6) (d r : Nat) (t : Int) (ht : Cols C t) (k : Nat) : gain l C (d + 1) r t k = gain l C d (r + 1) t k + sumTo (gterm l C d r t k) C := by
  have hg : ∀ c, c < C → gterm l C d r t k c = if pop t ≤ k then term l C d r t (k - pop t) c else 0 := by
    intro c hc; unfold gterm term
    by_cases hf : freeB l r c t = true
    · have hb : hasM t (c : Int) = false := by
        unfold freeB at hf; rw [Bool.and_eq_true, Bool.not_eq_true'] at hf; exact hf.2
      rw [if_pos hf, if_pos hf, gain, (cols_orb hC ht hc hb).2]
      by_cases h1 : pop t + 1 ≤ k
      · rw [if_pos h1, if_pos (by omega), if_neg (by omega), show k - (pop t + 1) = k - pop t - 1 by omega]
      · rw [if_neg h1]
        by_cases h2 : pop t ≤ k
        · rw [if_pos h2, if_pos (by omega)]
        · rw [if_neg h2]
    · rw [if_neg hf, if_neg hf]; split <;> rfl
  rw [sumTo_congr hg]; unfold gain
  by_cases h : pop t ≤ k
  · simp only [if_pos h]
    exact ways_succ _ _ _ _ _ _
  · simp only [if_neg h]
    rw [sumTo_zero]
theorem gain_le (l : List Int) {C : Nat} (hC : C ≤ 6) (d r : Nat) (t : Int) (k : Nat) : gain l C d r t k ≤ 7 ^ d := by
  unfold gain
  split
  · exact ways_le l hC _ _ _ _
  · exact Nat.zero_le _
theorem gsum_le (l : List Int) {C : Nat} (hC : C ≤ 6) (d r : Nat) (t : Int) (k c : Nat) : sumTo (gterm l C d r t k) c ≤ c * 7 ^ d :=
  sumTo_le (fun c => by unfold gterm; split; exact gain_le l hC _ _ _ _; exact Nat.zero_le _) c
theorem cnt_set (p : List Int) (r : Nat) (v : Int) (h : r < p.length) : cnt ((p.set r v).take (r + 1)) = cnt (p.take r) + if v = -1 then 0 else 1 := by
  unfold cnt; rw [take_set_succ p r v h, List.filter_append, List.length_append]
  by_cases e : v = -1 <;> simp [e]
section
variable {l : List Int} {R C m : Nat} (hR : R ≤ 6) (hC : C ≤ 6) (hl : l.length = R) (hm : m = min R C) (hmask : ∀ i : Nat, i < R → 0 ≤ rd l (i : Int) ∧ rd l (i : Int) ≤ 63)
include hR hC hl hm hmask
omit hR hm in
theorem skips_eq {r c : Nat} (hr : r < R) (hc : c < C) {t : Int} (ht : Cols C t) : impl_Board_walk_1.skips (R : Int) (C : Int) l (r : Int) t (c : Int) = some (!freeB l r c t) := by
  have hh : impl_Board_has.f (R : Int) (C : Int) l (r : Int) (c : Int) = some (hasC l (r : Int) (c : Int)) := by
    have hb := hmask r hr; simp only [impl_Board_has.f]; rw [if_pos (by omega), if_pos (by omega), if_pos (by omega), has_bits' _ _ hb.1 hb.2 (by omega) (by omega)]; rfl
  unfold impl_Board_walk_1.skips; rw [if_pos (by omega), hh, Option.bind_some, has_bits' t _ ht.1 ht.2.1 (by omega) (by omega)]; unfold freeB; cases hasC l (r : Int) (c : Int) <;> cases hasM t (c : Int) <;> rfl
theorem walk_ev : ∀ (d r : Nat) (t : Int) (p : List Int) (g : Nat → Int), r + d = R → Cols C t → p.length = R → cnt (p.take r) = pop t → (∀ k, 0 ≤ g k ∧ g k + ((7 ^ d : Nat) : Int) ≤ 1000000) →
    ∃ p' : List Int, p'.length = R ∧ p'.take r = p.take r ∧ Ev (fun k => impl_Board_walk_1.f k (R : Int) (C : Int) l (r : Int) t p (tab m g)) (p', tab m (fun k => g k + (gain l C d r t k : Int))) := by
  intro d
  induction d with
  | zero =>
    intro r t p g hr ht hp hcnt hg; refine ⟨p, hp, rfl, ?_⟩; obtain ⟨K, hK⟩ := ev_get (rooks_ev p (by omega)); have hcp : cnt p = pop t := by rw [← hcnt, List.take_of_length_le (by omega)]
    have h1 : pop t ≤ m := by
      have h2 := cols_pop hC ht; have h3 : cnt p ≤ p.length := List.length_filter_le _ _; omega
    refine ⟨K + 1, fun k hk => ?_⟩; obtain ⟨k, rfl⟩ : ∃ m, k = m + 1 := ⟨k - 1, by omega⟩
    dsimp only; have h4 := hg (pop t); rw [impl_Board_walk_1.f, if_pos (by omega), impl_Board_numbers_1.f, hK k (by omega), Option.bind_some, hcp, if_pos (by omega), if_pos (by rw [tab_len]; omega), tab_rd _ _ _ h1, w64 _ (by omega) (by omega), Int.toNat_natCast, tab_set, Option.bind_some]; refine congrArg (fun z => some (p, z)) (tab_congr (fun k hk => ?_))
    by_cases e : k = pop t
    · subst e; rw [if_pos rfl, gain, if_pos (Nat.le_refl _), Nat.sub_self]; rfl
    · rw [if_neg e, gain]
      by_cases e2 : pop t ≤ k
      · rw [if_pos e2, ways, if_neg (by omega)]; omega
      · rw [if_neg e2]; omega
  | succ d ih =>
    intro r t p g hr ht hp hcnt hg; have hrR : r < R := by omega
    have hp7 : 7 ^ (d + 1) = 7 * 7 ^ d := by rw [Nat.pow_succ, Nat.mul_comm]
    have hcast : ((7 ^ (d + 1) : Nat) : Int) = 7 * ((7 ^ d : Nat) : Int) := by rw [hp7]; push_cast; rfl
    -- the columns from c on
    have loop : ∀ (e c : Nat), C - c = e → c ≤ C → ∀ p1 : List Int, p1.length = R → p1.take r = p.take r →
        ∃ p' : List Int, p'.length = R ∧ p'.take r = p.take r ∧ Ev (fun k => impl_Board_walk_1.l0 k (R : Int) (C : Int) l (r : Int) t p1 (tab m (fun k => g k + (gain l C d (r + 1) t k : Int) + (sumTo (gterm l C d r t k) c : Int))) (c : Int)) (p', tab m (fun k => g k + (gain l C (d + 1) r t k : Int))) := by
      intro e
      induction e with
      | zero =>
        intro c he hc p1 hp1 ht1; obtain rfl : c = C := by omega
        refine ⟨p1, hp1, ht1, 1, fun k hk => ?_⟩; obtain ⟨k, rfl⟩ : ∃ m, k = m + 1 := ⟨k - 1, by omega⟩
        dsimp only; rw [impl_Board_walk_1.l0, if_neg (by omega)]; exact congrArg (fun z => some (p1, z)) (tab_congr (fun k hk => by rw [gain_succ l hC d r t ht k]; omega))
      | succ e ihe =>
        intro c he hc p1 hp1 ht1; have hc1 : c < C := by omega
        have hsk := skips_eq hC hl hmask hrR hc1 ht
        by_cases hf : freeB l r c t = true
        · have hb : hasM t (c : Int) = false := by
            unfold freeB at hf; rw [Bool.and_eq_true, Bool.not_eq_true'] at hf; exact hf.2
          have hco := cols_orb hC ht hc1 hb; obtain ⟨p2, hp2, ht2, hev⟩ := ih (r + 1) (orb t (c : Int)) (p1.set r (c : Int)) (fun k => g k + (gain l C d (r + 1) t k : Int) + (sumTo (gterm l C d r t k) c : Int)) (by omega) hco.1 (by rw [List.length_set]; exact hp1) (by rw [cnt_set p1 r _ (by omega), ht1, hcnt, hco.2, if_neg (by omega)]) (fun k => by
            have h1 := hg k; have h2 := gain_le l hC d (r + 1) t k; have h3 := gsum_le l hC d r t k c; have h4 : c * 7 ^ d ≤ 5 * 7 ^ d := Nat.mul_le_mul_right _ (by omega); rw [hcast] at h1; omega)
          have ht3 : p2.take r = p.take r := by
            have := congrArg (List.take r) ht2; rw [List.take_take, List.take_take, Nat.min_eq_left (by omega), List.take_set_of_le (Nat.le_refl r)] at this; rw [this, ht1]
          obtain ⟨p3, hp3, ht4, hev2⟩ := ihe (c + 1) (by omega) (by omega) p2 hp2 ht3; refine ⟨p3, hp3, ht4, ?_⟩; obtain ⟨K1, k1⟩ := ev_get hev; obtain ⟨K2, k2⟩ := ev_get hev2; refine ⟨K1 + K2 + 1, fun k hk => ?_⟩; obtain ⟨k, rfl⟩ : ∃ m, k = m + 1 := ⟨k - 1, by omega⟩
          dsimp only; have hmo : impl_Board_walk_1.more t (c : Int) = orb t (c : Int) := by unfold impl_Board_walk_1.more; rw [if_pos (by omega)]; exact orb_more hC ht hc1
          rw [impl_Board_walk_1.l0, if_pos (by omega), hsk, Option.bind_some, hf, if_neg (by simp), if_pos (by omega), if_pos (by omega), hmo, Int.toNat_natCast, w64 ((r : Int) + 1) (by omega) (by omega), show (r : Int) + 1 = ((r + 1 : Nat) : Int) by omega, k1 k (by omega), Option.bind_some, w64 ((c : Int) + 1) (by omega) (by omega), show (c : Int) + 1 = ((c + 1 : Nat) : Int) by omega]; refine Eq.trans ?_ (k2 k (by omega))
          congr 1
          exact tab_congr (fun k hk => by
            have : gterm l C d r t k c = gain l C d (r + 1) (orb t (c : Int)) k := by unfold gterm; rw [if_pos hf]
            rw [sumTo, this]; omega)
        · have hf' : freeB l r c t = false := by simpa using hf
          obtain ⟨p3, hp3, ht4, hev2⟩ := ihe (c + 1) (by omega) (by omega) p1 hp1 ht1; refine ⟨p3, hp3, ht4, ?_⟩; obtain ⟨K2, k2⟩ := ev_get hev2; refine ⟨K2 + 1, fun k hk => ?_⟩; obtain ⟨k, rfl⟩ : ∃ m, k = m + 1 := ⟨k - 1, by omega⟩
          dsimp only; rw [impl_Board_walk_1.l0, if_pos (by omega), hsk, Option.bind_some, hf', if_pos (show (!false) = true from rfl), w64 ((c : Int) + 1) (by omega) (by omega), show (c : Int) + 1 = ((c + 1 : Nat) : Int) by omega]; refine Eq.trans ?_ (k2 k (by omega))
          congr 1
          exact tab_congr (fun k hk => by
            have : gterm l C d r t k c = 0 := by unfold gterm; rw [if_neg hf]
            rw [sumTo, this]; omega)
    -- no rook in this row
    obtain ⟨p2, hp2, ht2, hev⟩ := ih (r + 1) t (p.set r (-1)) g (by omega) ht (by rw [List.length_set]; exact hp) (by rw [cnt_set p r _ (by omega), hcnt, if_pos rfl]; omega) (fun k => by
      have h1 := hg k; rw [hcast] at h1; have : (0 : Int) ≤ ((7 ^ d : Nat) : Int) := by omega
      omega)
    have ht3 : p2.take r = p.take r := by
      have := congrArg (List.take r) ht2; rw [List.take_take, List.take_take, Nat.min_eq_left (by omega), List.take_set_of_le (Nat.le_refl r)] at this; exact this
    obtain ⟨p3, hp3, ht4, hev2⟩ := loop C 0 (by omega) (by omega) p2 hp2 ht3; refine ⟨p3, hp3, ht4, ?_⟩; obtain ⟨K1, k1⟩ := ev_get hev; obtain ⟨K2, k2⟩ := ev_get hev2; refine ⟨K1 + K2 + 2, fun k hk => ?_⟩; obtain ⟨k, rfl⟩ : ∃ m, k = m + 2 := ⟨k - 2, by omega⟩
    dsimp only; have hs0 : impl_Board_walk_1.skips (R : Int) (C : Int) l (r : Int) t (-1) = some false := by unfold impl_Board_walk_1.skips; rw [if_neg (by omega)]
    have hm0 : impl_Board_walk_1.more t (-1) = t := by unfold impl_Board_walk_1.more; rw [if_neg (by omega)]
    rw [impl_Board_walk_1.f, if_neg (by omega), impl_Board_walk_1.l0, if_pos (by omega), hs0, Option.bind_some, if_neg (by simp), if_pos (by omega), if_pos (by omega), hm0, Int.toNat_natCast, w64 ((r : Int) + 1) (by omega) (by omega), show (r : Int) + 1 = ((r + 1 : Nat) : Int) by omega, k1 k (by omega), Option.bind_some, w64 ((-1 : Int) + 1) (by omega) (by omega)]; refine Eq.trans ?_ (k2 k (by omega)); show impl_Board_walk_1.l0 k _ _ _ _ _ p2 _ (-1 + 1) = impl_Board_walk_1.l0 k _ _ _ _ _ p2 _ ((0 : Nat) : Int)
    congr 1
    exact tab_congr (fun k hk => by rw [sumTo]; omega)
end
end Go.Proofs.Ytdoflpghemgbdaa.P
namespace Go.Proofs.Ytdoflpghemgbdaa.P
namespace Ct
variable {α β : Type}
def cnt (rel : α → α → Bool) : List α → (α → Bool) → Nat → Nat
  | [], _, n => if n = 0 then 1 else 0
  | x :: L, ok, n => cnt rel L ok n + if ok x = true then (if n = 0 then 0 else cnt rel L (fun y => ok y && rel x y) (n - 1)) else 0
theorem cnt_cons (rel : α → α → Bool) (x : α) (L : List α) (ok : α → Bool) (n : Nat) : cnt rel (x :: L) ok n = cnt rel L ok n + if ok x = true then (if n = 0 then 0 else cnt rel L (fun y => ok y && rel x y) (n - 1)) else 0 := rfl
theorem cnt_congr {rel rel' : α → α → Bool} : ∀ (L : List α) (ok ok' : α → Bool) (n : Nat), (∀ x ∈ L, ok x = ok' x) → (∀ x ∈ L, ∀ y ∈ L, rel x y = rel' x y) → cnt rel L ok n = cnt rel' L ok' n
  | [], _, _, _, _, _ => rfl
  | x :: L, ok, ok', n, h, hr => by
    have h1 := cnt_congr L ok ok' n (fun y hy => h y (List.mem_cons_of_mem _ hy)) (fun y hy z hz => hr y (List.mem_cons_of_mem _ hy) z (List.mem_cons_of_mem _ hz)); have h2 := cnt_congr L (fun y => ok y && rel x y) (fun y => ok' y && rel' x y) (n - 1) (fun y hy => by rw [h y (List.mem_cons_of_mem _ hy), hr x List.mem_cons_self y (List.mem_cons_of_mem _ hy)]) (fun y hy z hz => hr y (List.mem_cons_of_mem _ hy) z (List.mem_cons_of_mem _ hz)); rw [cnt_cons, cnt_cons, h1, h2, h x List.mem_cons_self]
theorem cnt_ok {rel : α → α → Bool} {L : List α} {ok ok' : α → Bool} (n : Nat) (h : ∀ x ∈ L, ok x = ok' x) : cnt rel L ok n = cnt rel L ok' n := cnt_congr L ok ok' n h (fun _ _ _ _ => rfl)
theorem cnt_zero (rel : α → α → Bool) : ∀ (L : List α) (ok : α → Bool), cnt rel L ok 0 = 1
  | [], _ => rfl
  | x :: L, ok => by rw [cnt_cons, cnt_zero rel L ok, if_pos rfl]; split <;> rfl
theorem cnt_one (rel : α → α → Bool) : ∀ (L : List α) (ok : α → Bool), cnt rel L ok 1 = (L.filter ok).length
  | [], _ => rfl
  | x :: L, ok => by
    rw [cnt_cons, cnt_one rel L ok, cnt_zero, List.filter_cons]
    split <;> simp
theorem cnt_swap {rel : α → α → Bool} (sym : ∀ x y, rel x y = rel y x) (x y : α) (L : List α) (ok : α → Bool) (n : Nat) : cnt rel (x :: y :: L) ok n = cnt rel (y :: x :: L) ok n := by
  have e : cnt rel L (fun z => (ok z && rel x z) && rel y z) (n - 1 - 1) = cnt rel L (fun z => (ok z && rel y z) && rel x z) (n - 1 - 1) := cnt_ok _ (fun z _ => by rw [Bool.and_assoc, Bool.and_comm (rel x z), ← Bool.and_assoc]); simp only [cnt_cons, e, sym y x]; cases ok x <;> cases ok y <;> cases rel x y <;> by_cases h0 : n = 0 <;> simp [h0] <;> omega
theorem cnt_perm {rel : α → α → Bool} (sym : ∀ x y, rel x y = rel y x) {L L' : List α} (h : L.Perm L') : ∀ (ok : α → Bool) (n : Nat), cnt rel L ok n = cnt rel L' ok n := by
  induction h with
  | nil => intro ok n; rfl
  | cons x _ ih => intro ok n; rw [cnt_cons, cnt_cons, ih, ih]
  | swap x y l => intro ok n; exact cnt_swap sym y x l ok n
  | trans _ _ h1 h2 => intro ok n; rw [h1, h2]
theorem cnt_map {rel : α → α → Bool} (f : β → α) : ∀ (L : List β) (ok : α → Bool) (n : Nat), cnt rel (L.map f) ok n = cnt (fun x y => rel (f x) (f y)) L (fun x => ok (f x)) n
  | [], _, _ => rfl
  | x :: L, ok, n => by rw [List.map_cons, cnt_cons, cnt_cons, cnt_map f L ok n, cnt_map f L _ (n - 1)]
theorem cnt_filter {rel : α → α → Bool} (p : α → Bool) : ∀ (L : List α) (ok : α → Bool) (n : Nat), cnt rel (L.filter p) ok n = cnt rel L (fun x => p x && ok x) n
  | [], _, _ => rfl
  | x :: L, ok, n => by
    rw [cnt_cons, List.filter_cons]
    by_cases h : p x = true
    · rw [if_pos h, cnt_cons, cnt_filter p L ok n, cnt_filter p L _ (n - 1), h, Bool.true_and]
      congr 1
      split
      · split
        · rfl
        · exact cnt_ok _ (fun y _ => (Bool.and_assoc ..).symm)
      · rfl
    · rw [if_neg h, cnt_filter p L ok n]
      rw [Bool.not_eq_true] at h; rw [h]; simp
def pick (rel : α → α → Bool) (B : List α) (ok : α → Bool) (n : Nat) (a : α) : Nat := if ok a = true then (if n = 0 then 0 else cnt rel B (fun y => ok y && rel a y) (n - 1)) else 0
theorem cnt_block {rel : α → α → Bool} (B : List α) : ∀ (A : List α) (ok : α → Bool) (n : Nat), (∀ x ∈ A, ∀ y ∈ A, rel x y = false) → cnt rel (A ++ B) ok n = cnt rel B ok n + (A.map (pick rel B ok n)).sum
  | [], ok, n, _ => by simp
  | x :: A, ok, n, h => by
    have h0 := cnt_block B A ok n (fun y hy z hz => h y (List.mem_cons_of_mem _ hy) z (List.mem_cons_of_mem _ hz)); have h1 := cnt_block B A (fun y => ok y && rel x y) (n - 1) (fun y hy z hz => h y (List.mem_cons_of_mem _ hy) z (List.mem_cons_of_mem _ hz)); have h2 : (A.map (pick rel B (fun y => ok y && rel x y) (n - 1))) = A.map (fun _ => 0) := List.map_congr_left (fun a ha => by unfold pick; exact if_neg (by simp [h x List.mem_cons_self a (List.mem_cons_of_mem _ ha)])); have h3 : (A.map (fun _ => 0)).sum = 0 := by clear h h0 h1 h2; induction A with
      | nil => rfl
      | cons a A ih => rw [List.map_cons, List.sum_cons, ih]
    rw [List.cons_append, cnt_cons, h0, h1, h2, h3, List.map_cons, List.sum_cons, Nat.add_zero]; unfold pick; omega
end Ct
end Go.Proofs.Ytdoflpghemgbdaa.P
namespace Go.Proofs.Ytdoflpghemgbdaa.P
open Go.RowKit Go.Proofs.YtdoflpghemgbdaaW.PrintWords Go.Proofs.YtdoflpghemgbdaaW.PrintLast Go.Proofs.YtdoflpghemgbdaaW.PrintMore
set_option linter.unusedVariables false
set_option linter.unusedSimpArgs false
def rq (x y : Nat × Nat) : Bool := decide (x.1 ≠ y.1) && decide (x.2 ≠ y.2)
theorem rq_sym (x y : Nat × Nat) : rq x y = rq y x := by
  unfold rq; rw [decide_eq_decide.2 (show x.1 ≠ y.1 ↔ y.1 ≠ x.1 from ⟨Ne.symm, Ne.symm⟩), decide_eq_decide.2 (show x.2 ≠ y.2 ↔ y.2 ≠ x.2 from ⟨Ne.symm, Ne.symm⟩)]
def rowN (l : List Int) (C r : Nat) : List (Nat × Nat) := ((List.range C).filter fun (c : Nat) => hasC l (r : Int) (c : Int)).map fun c => (r, c)
def cellsN (l : List Int) (C : Nat) : Nat → Nat → List (Nat × Nat)
  | 0, _ => []
  | d + 1, r => rowN l C r ++ cellsN l C d (r + 1)
theorem rowN_mem {l : List Int} {C r : Nat} {x : Nat × Nat} : x ∈ rowN l C r ↔ x.1 = r ∧ x.2 < C ∧ hasC l (r : Int) (x.2 : Int) = true := by
  unfold rowN; rw [List.mem_map]; constructor
  · rintro ⟨c, hc, rfl⟩
    rw [List.mem_filter, List.mem_range] at hc; exact ⟨rfl, hc⟩
  · rintro ⟨h1, h2, h3⟩
    refine ⟨x.2, List.mem_filter.2 ⟨List.mem_range.2 h2, h3⟩, ?_⟩; rw [← h1]
theorem cellsN_mem {l : List Int} {C : Nat} {x : Nat × Nat} : ∀ {d r : Nat}, x ∈ cellsN l C d r ↔ r ≤ x.1 ∧ x.1 < r + d ∧ x.2 < C ∧ hasC l (x.1 : Int) (x.2 : Int) = true
  | 0, r => by simp [cellsN]; omega
  | d + 1, r => by
    rw [cellsN, List.mem_append, rowN_mem, cellsN_mem]; constructor
    · rintro (⟨h1, h2, h3⟩ | ⟨h1, h2, h3, h4⟩)
      · exact ⟨by omega, by omega, h2, by rw [h1]; exact h3⟩
      · exact ⟨by omega, by omega, h3, h4⟩
    · rintro ⟨h1, h2, h3, h4⟩
      by_cases e : x.1 = r
      · exact .inl ⟨e, h3, by rw [← e]; exact h4⟩
      · exact .inr ⟨by omega, by omega, h3, h4⟩
theorem orb_has : ∀ t : Fin 64, ∀ c : Fin 6, ∀ e : Fin 6, hasM (orb (t.val : Int) (c.val : Int)) (e.val : Int) = (hasM (t.val : Int) (e.val : Int) || decide (c = e)) := by decide +kernel
theorem orb_has' {t : Int} (h0 : 0 ≤ t) (h1 : t ≤ 63) {c e : Nat} (hc : c < 6) (he : e < 6) : hasM (orb t (c : Int)) (e : Int) = (hasM t (e : Int) || decide (c = e)) := by
  have h := orb_has ⟨t.toNat, by omega⟩ ⟨c, hc⟩ ⟨e, he⟩; simp only [show ((t.toNat : Nat) : Int) = t by omega, Fin.mk.injEq] at h; exact h
theorem sumTo_filter (p : Nat → Bool) (f : Nat → Nat) : ∀ n, sumTo (fun c => if p c = true then f c else 0) n = (((List.range n).filter p).map f).sum
  | 0 => rfl
  | n + 1 => by
    rw [sumTo, sumTo_filter p f n, List.range_succ, List.filter_append, List.map_append, List.sum_append, List.filter_cons]
    split <;> simp
theorem sumTo_eq {f g : Nat → Nat} : ∀ {n : Nat}, (∀ c, c < n → f c = g c) → sumTo f n = sumTo g n
  | 0, _ => rfl
  | n + 1, h => by rw [sumTo, sumTo, sumTo_eq (fun c hc => h c (by omega)), h n (by omega)]
theorem ways_cnt (l : List Int) {C : Nat} (hC : C ≤ 6) : ∀ (d r : Nat) (t : Int) (k : Nat), Cols C t → ways l C d r t k = Ct.cnt rq (cellsN l C d r) (fun x => !hasM t (x.2 : Int)) k
  | 0, _, _, _, _ => rfl
  | d + 1, r, t, k, ht => by
    rw [ways_succ, cellsN, Ct.cnt_block _ _ _ _ (fun x hx y hy => by
      have h1 := (rowN_mem.1 hx).1; have h2 := (rowN_mem.1 hy).1; unfold rq; rw [decide_eq_false (by omega)]; rfl), ways_cnt l hC d (r + 1) t k ht]
    congr 1
    unfold rowN; rw [List.map_map, ← sumTo_filter]; refine sumTo_eq (fun c hc => ?_); unfold term freeB Ct.pick; simp only [Function.comp]; cases hh : hasC l (r : Int) (c : Int)
    · simp
    · cases hm : hasM t (c : Int)
      · simp only [Bool.not_false, Bool.and_true, if_true]
        split
        · rfl
        · have hco := cols_orb hC ht hc hm
          rw [ways_cnt l hC d (r + 1) _ _ hco.1]; refine Ct.cnt_ok _ (fun y hy => ?_); obtain ⟨h1, h2, h3, h4⟩ := cellsN_mem.1 hy; rw [orb_has' ht.1 ht.2.1 (by omega) (by omega)]; unfold rq; dsimp only; rw [decide_eq_true (show r ≠ y.1 by omega), Bool.true_and, Bool.not_or, decide_not]
      · simp
end Go.Proofs.Ytdoflpghemgbdaa.P
namespace Go.Proofs.Ytdoflpghemgbdaa.P
open Go.RowKit Go.Proofs.YtdoflpghemgbdaaW.PrintWords Go.Proofs.YtdoflpghemgbdaaW.PrintLast Go.Proofs.YtdoflpghemgbdaaW.PrintMore
set_option linter.unusedVariables false
set_option linter.unusedSimpArgs false
theorem Ct.cnt_same {α : Type} [BEq α] [LawfulBEq α] {rel : α → α → Bool} (sym : ∀ x y, rel x y = rel y x) {L L' : List α} (h : L.Nodup) (h' : L'.Nodup) (hm : ∀ x, x ∈ L ↔ x ∈ L') (ok : α → Bool) (n : Nat) : Ct.cnt rel L ok n = Ct.cnt rel L' ok n :=
  Ct.cnt_perm sym ((List.perm_ext_iff_of_nodup h h').2 hm) ok n
theorem map_nodup {α β : Type} {f : α → β} : ∀ {L : List α}, L.Nodup → (∀ x ∈ L, ∀ y ∈ L, f x = f y → x = y) → (L.map f).Nodup
  | [], _, _ => List.nodup_nil
  | x :: L, h, hi => by
    rw [List.nodup_cons] at h; rw [List.map_cons, List.nodup_cons]; refine ⟨fun hm => ?_, map_nodup h.2 (fun a ha b hb => hi a (List.mem_cons_of_mem _ ha) b (List.mem_cons_of_mem _ hb))⟩; obtain ⟨y, hy, e⟩ := List.mem_map.1 hm; exact h.1 (hi y (List.mem_cons_of_mem _ hy) x List.mem_cons_self e ▸ hy)
theorem filter_nodup {α : Type} (p : α → Bool) {L : List α} (h : L.Nodup) : (L.filter p).Nodup := List.Pairwise.filter p h
theorem rowN_nodup (l : List Int) (C r : Nat) : (rowN l C r).Nodup := by
  unfold rowN; exact map_nodup (filter_nodup _ List.nodup_range) (fun x _ y _ e => by simpa using e)
theorem cellsN_nodup (l : List Int) (C : Nat) : ∀ d r, (cellsN l C d r).Nodup
  | 0, _ => List.nodup_nil
  | d + 1, r => by
    rw [cellsN, List.nodup_append]; refine ⟨rowN_nodup l C r, cellsN_nodup l C d (r + 1), fun a ha b hb e => ?_⟩; have h1 := (rowN_mem.1 ha).1; have h2 := (cellsN_mem.1 hb).1; subst e; omega
def rooksN (l : List Int) (R C n : Nat) : Nat := Ct.cnt rq (cellsN l C R 0) (fun _ => true) n
theorem has_zero : ∀ e : Fin 6, hasM 0 (e.val : Int) = false := by decide +kernel
theorem ways_rooks (l : List Int) {R C : Nat} (hC : C ≤ 6) (n : Nat) : ways l C R 0 0 n = rooksN l R C n := by
  rw [ways_cnt l hC R 0 0 n (cols_zero C)]; refine Ct.cnt_ok n (fun x hx => ?_); obtain ⟨_, _, h, _⟩ := cellsN_mem.1 hx; have := has_zero ⟨x.2, by omega⟩; simp only at this; rw [this]; rfl
theorem rooks_zero (l : List Int) (R C : Nat) : rooksN l R C 0 = 1 := Ct.cnt_zero _ _ _
theorem rooks_one (l : List Int) (R C : Nat) : rooksN l R C 1 = (cellsN l C R 0).length := by
  unfold rooksN; rw [Ct.cnt_one, List.filter_eq_self.2 (fun _ _ => rfl)]
theorem rooks_map {l l' : List Int} {R C R' C' : Nat} (f : Nat × Nat → Nat × Nat) (P : Nat × Nat → Bool) (hf : ∀ x y, rq (f x) (f y) = rq x y) (hinj : ∀ x y, f x = f y → x = y)
    (hm : ∀ z, (z ∈ cellsN l C R 0 ∧ P z = true) ↔ ∃ x, x ∈ cellsN l' C' R' 0 ∧ f x = z) (n : Nat) : Ct.cnt rq (cellsN l C R 0) P n = rooksN l' R' C' n := by
  unfold rooksN; have h1 : Ct.cnt rq (cellsN l C R 0) P n = Ct.cnt rq ((cellsN l C R 0).filter P) (fun _ => true) n := by
    rw [Ct.cnt_filter]; exact Ct.cnt_ok n (fun x _ => by rw [Bool.and_true])
  have h2 : Ct.cnt rq ((cellsN l' C' R' 0).map f) (fun _ => true) n = Ct.cnt rq (cellsN l' C' R' 0) (fun _ => true) n := by
    rw [Ct.cnt_map]; exact Ct.cnt_congr _ _ _ n (fun _ _ => rfl) (fun x _ y _ => hf x y)
  rw [h1, ← h2]; refine Ct.cnt_same rq_sym (filter_nodup _ (cellsN_nodup _ _ _ _)) (map_nodup (cellsN_nodup _ _ _ _) (fun x _ y _ e => hinj x y e)) (fun z => ?_) _ n; rw [List.mem_filter, List.mem_map]; exact hm z
theorem rooks_turn {l l' : List Int} {R C : Nat} (h : ∀ i j : Nat, i < R → j < C → hasC l' (j : Int) (i : Int) = hasC l (i : Int) (j : Int)) (n : Nat) : rooksN l' C R n = rooksN l R C n := by
  refine (rooks_map (l := l) (l' := l') (R := R) (C := C) (R' := C) (C' := R) (fun x => (x.2, x.1)) (fun _ => true) (fun x y => by unfold rq; rw [Bool.and_comm]) (fun x y e => by
    obtain ⟨a, b⟩ := x; obtain ⟨c, d⟩ := y; simp only [Prod.mk.injEq] at e ⊢; exact ⟨e.2, e.1⟩) (fun z => ?_) n).symm
  constructor
  · rintro ⟨hz, _⟩
    obtain ⟨_, h1, h2, h3⟩ := cellsN_mem.1 hz; exact ⟨(z.2, z.1), cellsN_mem.2 ⟨by omega, by dsimp only; omega, by dsimp only; omega, by dsimp only; rw [h _ _ (by omega) h2]; exact h3⟩, rfl⟩
  · rintro ⟨x, hx, rfl⟩
    obtain ⟨_, h1, h2, h3⟩ := cellsN_mem.1 hx; exact ⟨cellsN_mem.2 ⟨by dsimp only; omega, by dsimp only; omega, by dsimp only; omega, by dsimp only; rw [← h _ _ (by omega) (by omega)]; exact h3⟩, rfl⟩
theorem rooks_mirror {l l' : List Int} {R C : Nat} (h : ∀ i j : Nat, i < R → j < C → hasC l' (i : Int) ((C - 1 - j : Nat) : Int) = hasC l (i : Int) (j : Int)) (n : Nat) : rooksN l' R C n = rooksN l R C n := by
  have key : ∀ i j : Nat, i < R → j < C → hasC l' (i : Int) (j : Int) = hasC l (i : Int) ((C - 1 - j : Nat) : Int) := by
    intro i j hi hj; have := h i (C - 1 - j) hi (by omega); rwa [show C - 1 - (C - 1 - j) = j by omega] at this
  -- beyond the columns the map may be anything that is one to one
  refine (rooks_map (l := l) (l' := l') (R := R) (C := C) (R' := R) (C' := C) (fun x => (x.1, if x.2 < C then C - 1 - x.2 else x.2)) (fun _ => true) (fun x y => ?_) (fun x y e => ?_) (fun z => ?_) n).symm
  · unfold rq
    congr 1
    rw [decide_eq_decide]; dsimp only
    split <;> split <;> omega
  · obtain ⟨a, b⟩ := x
    obtain ⟨c, d⟩ := y; simp only [Prod.mk.injEq] at e ⊢; obtain ⟨e1, e2⟩ := e; refine ⟨e1, ?_⟩
    split at e2 <;> split at e2 <;> omega
  · constructor
    · rintro ⟨hz, _⟩
      obtain ⟨_, h1, h2, h3⟩ := cellsN_mem.1 hz; refine ⟨(z.1, C - 1 - z.2), cellsN_mem.2 ⟨by omega, by dsimp only; omega, by dsimp only; omega, ?_⟩, ?_⟩
      · dsimp only
        rw [h _ _ (by omega) h2]; exact h3
      · dsimp only
        rw [if_pos (by omega)]; obtain ⟨a, b⟩ := z; simp only [Prod.mk.injEq, true_and]; dsimp only at h2; omega
    · rintro ⟨x, hx, rfl⟩
      obtain ⟨_, h1, h2, h3⟩ := cellsN_mem.1 hx; refine ⟨cellsN_mem.2 ⟨by omega, by dsimp only; omega, ?_, ?_⟩, rfl⟩
      · dsimp only; rw [if_pos h2]; omega
      · dsimp only
        rw [if_pos h2, ← key _ _ (by omega) h2]; exact h3
def shN (x i : Nat) : Nat := if i < x then i else i + 1
theorem shN_inj {x i j : Nat} (h : shN x i = shN x j) : i = j := by unfold shN at h; split at h <;> split at h <;> omega
theorem shN_ne (x i : Nat) : shN x i ≠ x := by unfold shN; split <;> omega
theorem shN_of {x i : Nat} (h : i ≠ x) : shN x (if i < x then i else i - 1) = i := by
  unfold shN
  by_cases h1 : i < x
  · simp only [h1, if_true]
  · rw [if_neg h1, if_neg (by omega)]; omega
theorem rooks_split {l less s : List Int} {R C x y : Nat} (hx : x < R) (hy : y < C) (hc : hasC l (x : Int) (y : Int) = true)
    (h1 : ∀ i j : Nat, i < R → j < C → hasC less (i : Int) (j : Int) = (hasC l (i : Int) (j : Int) && !(decide (i = x) && decide (j = y))))
    (h2 : ∀ i j : Nat, i < R - 1 → j < C - 1 → hasC s (i : Int) (j : Int) = hasC l (shN x i : Int) (shN y j : Int)) (n : Nat) :
    rooksN l R C (n + 1) = rooksN less R C (n + 1) + rooksN s (R - 1) (C - 1) n := by
  have hmem : ∀ z, z ∈ cellsN l C R 0 ↔ z ∈ (x, y) :: cellsN less C R 0 := by
    intro z; rw [List.mem_cons, cellsN_mem, cellsN_mem]; constructor
    · rintro ⟨a, b, c, d⟩
      by_cases e : z = (x, y)
      · exact .inl e
      · refine .inr ⟨a, b, c, ?_⟩
        rw [h1 _ _ (by omega) c, d, Bool.true_and, Bool.not_eq_true']; rw [Bool.and_eq_false_iff, decide_eq_false_iff_not, decide_eq_false_iff_not]
        by_cases e1 : z.1 = x
        · exact .inr (fun e2 => e (by rw [← e1, ← e2]))
        · exact .inl e1
    · rintro (rfl | ⟨a, b, c, d⟩)
      · exact ⟨by omega, by dsimp only; omega, hy, hc⟩
      · rw [h1 _ _ (by omega) c, Bool.and_eq_true] at d
        exact ⟨a, b, c, d.1⟩
  have hnd : ((x, y) :: cellsN less C R 0).Nodup := by
    rw [List.nodup_cons]; refine ⟨fun h => ?_, cellsN_nodup _ _ _ _⟩; have := (cellsN_mem.1 h).2.2.2; dsimp only at this; rw [h1 x y hx hy] at this; simp at this
  unfold rooksN; rw [Ct.cnt_same rq_sym (cellsN_nodup _ _ _ _) hnd hmem, Ct.cnt_cons, if_pos rfl, if_neg (by omega)]; simp only [Bool.true_and, Nat.add_sub_cancel]
  congr 1
  refine rooks_map (l := less) (l' := s) (R := R) (C := C) (R' := R - 1) (C' := C - 1) (fun z => (shN x z.1, shN y z.2)) (rq (x, y)) (fun a b => ?_) (fun a b e => ?_) (fun z => ?_) n
  · unfold rq
    congr 1
    · rw [decide_eq_decide]; exact ⟨fun h e => h (by dsimp only; rw [e]), fun h e => h (shN_inj e)⟩
    · rw [decide_eq_decide]; exact ⟨fun h e => h (by dsimp only; rw [e]), fun h e => h (shN_inj e)⟩
  · obtain ⟨a1, a2⟩ := a
    obtain ⟨b1, b2⟩ := b; simp only [Prod.mk.injEq] at e ⊢; exact ⟨shN_inj e.1, shN_inj e.2⟩
  · have hq : rq (x, y) z = true ↔ z.1 ≠ x ∧ z.2 ≠ y := by
      unfold rq; rw [Bool.and_eq_true, decide_eq_true_iff, decide_eq_true_iff]; exact ⟨fun h => ⟨fun e => h.1 e.symm, fun e => h.2 e.symm⟩, fun h => ⟨fun e => h.1 e.symm, fun e => h.2 e.symm⟩⟩
    rw [hq, cellsN_mem]; constructor
    · rintro ⟨⟨a, b, c, d⟩, e1, e2⟩
      rw [h1 _ _ (by omega) c, Bool.and_eq_true] at d; have f1 := shN_of e1; have f2 := shN_of e2; refine ⟨(if z.1 < x then z.1 else z.1 - 1, if z.2 < y then z.2 else z.2 - 1), cellsN_mem.2 ⟨by omega, ?_, ?_, ?_⟩, ?_⟩
      · dsimp only; split <;> omega
      · dsimp only; split <;> omega
      · dsimp only
        rw [h2 _ _ (by split <;> omega) (by split <;> omega), f1, f2]; exact d.1
      · dsimp only
        rw [f1, f2]
    · rintro ⟨a, ha, rfl⟩
      obtain ⟨_, b, c, d⟩ := cellsN_mem.1 ha; rw [h2 _ _ (by omega) c] at d; dsimp only; have g1 : shN x a.1 < R := by unfold shN; split <;> omega
      have g2 : shN y a.2 < C := by unfold shN; split <;> omega
      refine ⟨⟨by omega, by omega, g2, ?_⟩, shN_ne _ _, shN_ne _ _⟩; rw [h1 _ _ g1 g2, d, decide_eq_false (shN_ne _ _)]; rfl
end Go.Proofs.Ytdoflpghemgbdaa.P
namespace Go.Proofs.Ytdoflpghemgbdaa.P
open Go.RowKit Go.Proofs.YtdoflpghemgbdaaW.PrintWords Go.Proofs.YtdoflpghemgbdaaW.PrintLast Go.Proofs.YtdoflpghemgbdaaW.PrintMore
set_option linter.unusedVariables false
set_option linter.unusedSimpArgs false
theorem ways_rows {l l' : List Int} {C : Nat} : ∀ (d r : Nat) (t : Int) (k : Nat), (∀ i j : Nat, r ≤ i → i < r + d → j < C → hasC l (i : Int) (j : Int) = hasC l' (i : Int) (j : Int)) → ways l C d r t k = ways l' C d r t k
  | 0, _, _, _, _ => rfl
  | d + 1, r, t, k, h => by
    rw [ways_succ, ways_succ, ways_rows d (r + 1) t k (fun i j h1 h2 h3 => h i j (by omega) (by omega) h3)]
    congr 1
    refine sumTo_congr (fun c hc => ?_); unfold term freeB; rw [h r c (Nat.le_refl _) (by omega) hc]
    split
    · split
      · rfl
      · exact ways_rows d (r + 1) _ _ (fun i j h1 h2 h3 => h i j (by omega) (by omega) h3)
    · rfl
theorem gain_rows {l l' : List Int} {C : Nat} (d r : Nat) (t : Int) (k : Nat) (h : ∀ i j : Nat, r ≤ i → i < r + d → j < C → hasC l (i : Int) (j : Int) = hasC l' (i : Int) (j : Int)) : gain l C d r t k = gain l' C d r t k := by
  unfold gain; rw [ways_rows d r t _ h]
section
variable {l less : List Int} {R C : Nat} (hR : R ≤ 6) (hC : C ≤ 6) (hl : l.length = R) (hmask : ∀ i : Nat, i < R → 0 ≤ rd l (i : Int) ∧ rd l (i : Int) ≤ 63) {x y : Nat} (hx : x < R) (hy : y < C)
  (hless : ∀ i j : Nat, i < R → j < C → hasC less (i : Int) (j : Int) = (hasC l (i : Int) (j : Int) && !(decide (i = x) && decide (j = y)))) (kk : Nat)
def others (l less : List Int) (C x y kk d r : Nat) (t : Int) (b : Bool) : Nat := if x < r then (if b = true then 0 else gain l C d r t kk) else gain less C d r t kk
def onB (x y : Nat) (p : List Int) : Bool := decide (rd p (x : Int) = (y : Int))
def branch (l less : List Int) (C x y kk d r : Nat) (t : Int) (b : Bool) (c : Nat) : Nat := if freeB l r c t = true then others l less C x y kk d (r + 1) (orb t (c : Int)) (if x = r then decide (c = y) else b) else 0
include hC hless hx in
theorem others_succ {d r : Nat} (hr : r + (d + 1) = R) (t : Int) (ht : Cols C t) (b : Bool) : others l less C x y kk (d + 1) r t b = others l less C x y kk d (r + 1) t (if x = r then false else b) + sumTo (branch l less C x y kk d r t b) C := by
  have hrest : ∀ i j : Nat, x + 1 ≤ i → i < R → j < C → hasC less (i : Int) (j : Int) = hasC l (i : Int) (j : Int) := fun i j h1 h2 h3 => by rw [hless i j h2 h3, decide_eq_false (by omega)]; simp
  by_cases h1 : x < r
  · have e : others l less C x y kk (d + 1) r t b = if b = true then 0 else gain l C (d + 1) r t kk := by unfold others; rw [if_pos h1]
    have e2 : others l less C x y kk d (r + 1) t (if x = r then false else b) = if b = true then 0 else gain l C d (r + 1) t kk := by unfold others; rw [if_neg (show ¬ x = r by omega), if_pos (show x < r + 1 by omega)]
    have e3 : ∀ c, c < C → branch l less C x y kk d r t b c = if b = true then 0 else gterm l C d r t kk c := by
      intro c hc; unfold branch others gterm; rw [if_neg (show ¬ x = r by omega), if_pos (show x < r + 1 by omega)]; cases b <;> simp
    rw [e, e2, sumTo_congr e3]; cases b with
    | true => simp only [if_true]; rw [sumTo_zero]
    | false => simp only [Bool.false_eq_true, if_false]; exact gain_succ l hC d r t ht kk
  · have e : others l less C x y kk (d + 1) r t b = gain less C (d + 1) r t kk := by unfold others; rw [if_neg h1]
    by_cases h2 : x = r
    · subst h2
      have e2 : others l less C x y kk d (x + 1) t (if x = x then false else b) = gain less C d (x + 1) t kk := by
        unfold others; rw [if_pos (rfl : x = x), if_pos (show x < x + 1 by omega), if_neg (by simp)]; exact gain_rows d (x + 1) t kk (fun i j a b c => (hrest i j a (by omega) c).symm)
      have e3 : ∀ c, c < C → branch l less C x y kk d x t b c = gterm less C d x t kk c := by
        intro c hc; unfold branch others gterm freeB; rw [if_pos (rfl : x = x), if_pos (show x < x + 1 by omega), hless x c hx hc, decide_eq_true (rfl : x = x), Bool.true_and]
        by_cases hcy : c = y
        · simp [hcy]
        · rw [decide_eq_false hcy]
          simp only [Bool.not_false, Bool.and_true, Bool.false_eq_true, if_false]
          split
          · exact gain_rows d (x + 1) _ kk (fun i j a b c => (hrest i j a (by omega) c).symm)
          · rfl
      rw [e, e2, sumTo_congr e3]; exact gain_succ less hC d x t ht kk
    · have e2 : others l less C x y kk d (r + 1) t (if x = r then false else b) = gain less C d (r + 1) t kk := by unfold others; rw [if_neg (show ¬ x < r + 1 by omega)]
      have e3 : ∀ c, c < C → branch l less C x y kk d r t b c = gterm less C d r t kk c := by
        intro c hc; unfold branch others gterm freeB; rw [if_neg (show ¬ x < r + 1 by omega), hless r c (by omega) hc, decide_eq_false (show ¬ r = x by omega)]; simp
      rw [e, e2, sumTo_congr e3]; exact gain_succ less hC d r t ht kk
theorem onB_set {p : List Int} {r : Nat} (v : Int) (h : r < p.length) (x y : Nat) : onB x y (p.set r v) = if x = r then decide (v = (y : Int)) else onB x y p := by
  unfold onB
  by_cases e : x = r
  · subst e
    rw [if_pos rfl]; have : rd (p.set x v) (x : Int) = v := by unfold rd; simp [h]
    rw [this]
  · rw [if_neg e]
    have : rd (p.set r v) (x : Int) = rd p (x : Int) := by unfold rd; simp [Ne.symm e]
    rw [this]
theorem onB_take {p p1 : List Int} {r : Nat} (h : p1.take r = p.take r) {x : Nat} (hx : x < r) (y : Nat) : onB x y p1 = onB x y p := by
  have e : ∀ q : List Int, rd q (x : Int) = rd (q.take r) (x : Int) := fun q => by unfold rd; simp [hx]
  unfold onB; rw [e p1, e p, h]
def Told (R x y kk : Nat) (total oth : Nat) (new : List (List Int)) : Prop := new.length = total ∧ (∀ q ∈ new, q.length = R) ∧ (new.filter fun q => !onB x y q).length = oth
theorem Told.app {R x y kk a b c d : Nat} {u v : List (List Int)} (h : Told R x y kk a b u) (h' : Told R x y kk c d v) : Told R x y kk (a + c) (b + d) (u ++ v) := by
  refine ⟨by rw [List.length_append, h.1, h'.1], fun q hq => ?_, by rw [List.filter_append, List.length_append, h.2.2, h'.2.2]⟩; rcases List.mem_append.1 hq with e | e
  · exact h.2.1 q e
  · exact h'.2.1 q e
include hR hC hl hmask hx hy hless in
theorem withw_ev : ∀ (d r : Nat) (t : Int) (p : List Int) (out : List (List Int)), r + d = R → Cols C t → p.length = R → cnt (p.take r) = pop t → out.length + 7 ^ d ≤ 900000 →
    ∃ (p' : List Int) (new : List (List Int)), p'.length = R ∧ p'.take r = p.take r ∧ Ev (fun k => impl_Board_with.w (kk : Int) k (R : Int) (C : Int) l (r : Int) t p out) (p', out ++ new) ∧ Told R x y kk (gain l C d r t kk) (others l less C x y kk d r t (onB x y p)) new := by
  intro d
  induction d with
  | zero =>
    intro r t p out hr ht hp hcnt hg; obtain ⟨K, hK⟩ := ev_get (rooks_ev p (by omega)); have hcp : cnt p = pop t := by rw [← hcnt, List.take_of_length_le (by omega)]
    refine ⟨p, if pop t = kk then [p] else [], hp, rfl, ⟨K + 1, fun k hk => ?_⟩, ?_⟩
    · obtain ⟨k, rfl⟩ : ∃ m, k = m + 1 := ⟨k - 1, by omega⟩
      dsimp only; rw [impl_Board_with.w, if_pos (by omega), impl_Board_with_1.f, hK k (by omega), Option.bind_some, hcp]
      by_cases e : pop t = kk
      · rw [if_pos e, if_pos (show ((pop t : Nat) : Int) = (kk : Int) by omega), if_pos (show p.length ≤ 1000 ∧ out.length ≤ 1000000 from ⟨by omega, by omega⟩)]; rfl
      · rw [if_neg e, if_neg (show ¬ ((pop t : Nat) : Int) = (kk : Int) by omega), List.append_nil]; rfl
    · unfold Told others
      rw [if_pos (show x < r by omega)]; have hga : gain l C 0 r t kk = if pop t = kk then 1 else 0 := by
        unfold gain
        by_cases e : pop t = kk
        · rw [if_pos e, if_pos (by omega), ways, if_pos (by omega)]
        · rw [if_neg e]
          by_cases e2 : pop t ≤ kk
          · rw [if_pos e2, ways, if_neg (by omega)]
          · rw [if_neg e2]
      rw [hga]
      by_cases e : pop t = kk
      · simp only [if_pos e]
        refine ⟨rfl, fun q hq => by rw [List.mem_singleton] at hq; subst hq; exact hp, ?_⟩; cases hb : onB x y p <;> simp [hb]
      · simp only [if_neg e]
        exact ⟨rfl, fun q hq => (List.not_mem_nil hq).elim, by simp⟩
  | succ d ih =>
    intro r t p out hr ht hp hcnt hg; have hrR : r < R := by omega
    have hp7 : 7 ^ (d + 1) = 7 * 7 ^ d := by rw [Nat.pow_succ, Nat.mul_comm]
    have hpos : 0 < 7 ^ d := Nat.pow_pos (by omega); have loop : ∀ (e c : Nat), C - c = e → c ≤ C → ∀ (p1 : List Int) (o1 : List (List Int)), p1.length = R → p1.take r = p.take r → o1.length + e * 7 ^ d ≤ 900000 →
        ∃ (p' : List Int) (new : List (List Int)) (a b : Nat), p'.length = R ∧ p'.take r = p.take r ∧ Ev (fun k => impl_Board_with.w0 (kk : Int) k (R : Int) (C : Int) l (r : Int) t p1 o1 (c : Int)) (p', o1 ++ new) ∧ Told R x y kk a b new ∧ sumTo (gterm l C d r t kk) c + a = sumTo (gterm l C d r t kk) C ∧ sumTo (branch l less C x y kk d r t (onB x y p)) c + b = sumTo (branch l less C x y kk d r t (onB x y p)) C := by
      intro e
      induction e with
      | zero =>
        intro c he hc p1 o1 hp1 ht1 ho; obtain rfl : c = C := by omega
        refine ⟨p1, [], 0, 0, hp1, ht1, ⟨1, fun k hk => ?_⟩, ⟨rfl, fun q hq => (List.not_mem_nil hq).elim, rfl⟩, by omega, by omega⟩; obtain ⟨k, rfl⟩ : ∃ m, k = m + 1 := ⟨k - 1, by omega⟩
        dsimp only; rw [impl_Board_with.w0, if_neg (by omega), List.append_nil]
      | succ e ihe =>
        intro c he hc p1 o1 hp1 ht1 ho; have hc1 : c < C := by omega
        have hsk := skips_eq hC hl hmask hrR hc1 ht; have hs7 : (e + 1) * 7 ^ d = e * 7 ^ d + 7 ^ d := by rw [Nat.succ_mul]
        by_cases hf : freeB l r c t = true
        · have hb : hasM t (c : Int) = false := by
            unfold freeB at hf; rw [Bool.and_eq_true, Bool.not_eq_true'] at hf; exact hf.2
          have hco := cols_orb hC ht hc1 hb; have hle := gain_le l hC d (r + 1) (orb t (c : Int)) kk; obtain ⟨p2, n2, hp2, ht2, hev, hto⟩ := ih (r + 1) (orb t (c : Int)) (p1.set r (c : Int)) o1 (by omega) hco.1 (by rw [List.length_set]; exact hp1) (by rw [cnt_set p1 r _ (by omega), ht1, hcnt, hco.2, if_neg (by omega)]) (by omega); have ht3 : p2.take r = p.take r := by
            have := congrArg (List.take r) ht2; rw [List.take_take, List.take_take, Nat.min_eq_left (by omega), List.take_set_of_le (Nat.le_refl r)] at this; rw [this, ht1]
          obtain ⟨p3, n3, a, b, hp3, ht4, hev2, hto2, s1, s2⟩ := ihe (c + 1) (by omega) (by omega) p2 (o1 ++ n2) hp2 ht3 (by rw [List.length_append, hto.1]; omega); refine ⟨p3, n2 ++ n3, _, _, hp3, ht4, ?_, hto.app hto2, ?_, ?_⟩
          · obtain ⟨K1, k1⟩ := ev_get hev
            obtain ⟨K2, k2⟩ := ev_get hev2; refine ⟨K1 + K2 + 1, fun k hk => ?_⟩; obtain ⟨k, rfl⟩ : ∃ m, k = m + 1 := ⟨k - 1, by omega⟩
            dsimp only; have hmo : impl_Board_walk_1.more t (c : Int) = orb t (c : Int) := by unfold impl_Board_walk_1.more; rw [if_pos (by omega)]; exact orb_more hC ht hc1
            rw [impl_Board_with.w0, if_pos (by omega), hsk, Option.bind_some, hf, if_neg (by simp), if_pos (by omega), if_pos (by omega), hmo, Int.toNat_natCast, w64 ((r : Int) + 1) (by omega) (by omega), show (r : Int) + 1 = ((r + 1 : Nat) : Int) by omega, k1 k (by omega), Option.bind_some, w64 ((c : Int) + 1) (by omega) (by omega), show (c : Int) + 1 = ((c + 1 : Nat) : Int) by omega, ← List.append_assoc]; exact k2 k (by omega)
          · rw [sumTo] at s1
            have : gterm l C d r t kk c = gain l C d (r + 1) (orb t (c : Int)) kk := by unfold gterm; rw [if_pos hf]
            omega
          · rw [sumTo] at s2
            have e1 : branch l less C x y kk d r t (onB x y p) c = others l less C x y kk d (r + 1) (orb t (c : Int)) (onB x y (p1.set r (c : Int))) := by
              unfold branch; rw [if_pos hf, onB_set _ (by omega)]
              by_cases e2 : x = r
              · rw [if_pos e2, if_pos e2]
                congr 1
                rw [decide_eq_decide]; omega
              · rw [if_neg e2, if_neg e2]
                by_cases e3 : x < r
                · rw [onB_take ht1 e3]
                · unfold others; rw [if_neg (show ¬ x < r + 1 by omega), if_neg (show ¬ x < r + 1 by omega)]
            omega
        · have hf1 : freeB l r c t = false := by simpa using hf
          obtain ⟨p3, n3, a, b, hp3, ht4, hev2, hto2, s1, s2⟩ := ihe (c + 1) (by omega) (by omega) p1 o1 hp1 ht1 (by omega); refine ⟨p3, n3, a, b, hp3, ht4, ?_, hto2, ?_, ?_⟩
          · obtain ⟨K2, k2⟩ := ev_get hev2
            refine ⟨K2 + 1, fun k hk => ?_⟩; obtain ⟨k, rfl⟩ : ∃ m, k = m + 1 := ⟨k - 1, by omega⟩
            dsimp only; rw [impl_Board_with.w0, if_pos (by omega), hsk, Option.bind_some, hf1, if_pos (by simp), w64 ((c : Int) + 1) (by omega) (by omega), show (c : Int) + 1 = ((c + 1 : Nat) : Int) by omega]; exact k2 k (by omega)
          · rw [sumTo] at s1
            have : gterm l C d r t kk c = 0 := by unfold gterm; rw [if_neg hf]
            omega
          · rw [sumTo] at s2
            have : branch l less C x y kk d r t (onB x y p) c = 0 := by unfold branch; rw [if_neg hf]
            omega
    have hle := gain_le l hC d (r + 1) t kk; obtain ⟨p2, n2, hp2, ht2, hev, hto⟩ := ih (r + 1) t (p.set r (-1)) out (by omega) ht (by rw [List.length_set]; exact hp) (by rw [cnt_set p r _ (by omega), hcnt, if_pos rfl]; omega) (by omega); have ht3 : p2.take r = p.take r := by
      have := congrArg (List.take r) ht2; rw [List.take_take, List.take_take, Nat.min_eq_left (by omega), List.take_set_of_le (Nat.le_refl r)] at this; exact this
    have hC7 : C * 7 ^ d ≤ 6 * 7 ^ d := Nat.mul_le_mul_right _ hC; obtain ⟨p3, n3, a, b, hp3, ht4, hev2, hto2, s1, s2⟩ := loop C 0 (by omega) (by omega) p2 (out ++ n2) hp2 ht3 (by rw [List.length_append, hto.1]; omega); refine ⟨p3, n2 ++ n3, hp3, ht4, ?_, ?_⟩
    · obtain ⟨K1, k1⟩ := ev_get hev
      obtain ⟨K2, k2⟩ := ev_get hev2; refine ⟨K1 + K2 + 2, fun k hk => ?_⟩; obtain ⟨k, rfl⟩ : ∃ m, k = m + 2 := ⟨k - 2, by omega⟩
      dsimp only; have hsk : impl_Board_walk_1.skips (R : Int) (C : Int) l (r : Int) t (-1) = some false := by unfold impl_Board_walk_1.skips; rw [if_neg (by omega)]
      have hmo : impl_Board_walk_1.more t (-1) = t := by unfold impl_Board_walk_1.more; rw [if_neg (by omega)]
      rw [impl_Board_with.w, if_neg (by omega), impl_Board_with.w0, if_pos (by omega), hsk, Option.bind_some, if_neg (by simp), if_pos (by omega), if_pos (by omega), hmo, Int.toNat_natCast, w64 ((r : Int) + 1) (by omega) (by omega), show (r : Int) + 1 = ((r + 1 : Nat) : Int) by omega, k1 k (by omega), Option.bind_some, w64 ((-1 : Int) + 1) (by omega) (by omega), show (-1 : Int) + 1 = ((0 : Nat) : Int) by omega, ← List.append_assoc]; exact k2 k (by omega)
    · have h1 := gain_succ l hC d r t ht kk
      have h2 := others_succ (l := l) (less := less) hC hx hless kk (d := d) (r := r) hr t ht (onB x y p); have e1 : onB x y (p.set r (-1)) = if x = r then false else onB x y p := by
        rw [onB_set _ (by omega)]
        by_cases e : x = r
        · rw [if_pos e, if_pos e]; exact decide_eq_false (by omega)
        · rw [if_neg e, if_neg e]
      rw [e1] at hto; simp only [sumTo, Nat.zero_add] at s1 s2; rw [h1, h2, ← s1, ← s2]; exact hto.app hto2
end
end Go.Proofs.Ytdoflpghemgbdaa.P
namespace Go.Proofs.Ytdoflpghemgbdaa.P
open Go.RowKit Go.Proofs.YtdoflpghemgbdaaW.PrintWords Go.Proofs.YtdoflpghemgbdaaW.PrintLast Go.Proofs.YtdoflpghemgbdaaW.PrintMore
set_option linter.unusedVariables false
set_option linter.unusedSimpArgs false
def Bytes (s : List Int) : Prop := ∀ x ∈ s, 0 ≤ x ∧ x ≤ 255
theorem bytes_of {s : List Int} (h : ∀ x ∈ s, (Lit.int .u8 x).wf = true) : Bytes s := by
  intro x hx; have := h x hx; simp [Lit.wf, IntKind.wrap, IntKind.bits, IntKind.signed, IntKind.min, IntKind.max] at this
  omega
theorem u64_wrap (n : Int) : IntKind.u64.wrap n = n % 18446744073709551616 := by simp [IntKind.wrap, IntKind.bits, IntKind.signed]
theorem seed_byte (n : Int) : 0 ≤ Go.bits .and .u64 (IntKind.u64.wrap n / 1099511627776) 255 ∧ Go.bits .and .u64 (IntKind.u64.wrap n / 1099511627776) 255 ≤ 255 := by
  have h0 : 0 ≤ IntKind.u64.wrap n / 1099511627776 := by rw [u64_wrap]; omega
  have h1 : IntKind.u64.wrap n / 1099511627776 < 2 ^ 24 := by rw [u64_wrap]; omega
  have := bits_mask .u64 24 (by decide) (fun n h0 h1 => by rw [u64_wrap]; omega) 8 (by decide) _ h0 h1; have e : (2 : Int) ^ 8 - 1 = 255 := by decide
  rw [e] at this; rw [this]; omega
theorem next_ok {s : List Int} (hs : Bytes s) (a b : Int) (h0 : 0 ≤ a) (h1 : a ≤ 4611686018427387904) : ∃ x b', spec_l1Cur_next.f s a b = some (x, a + 1, b') ∧ 0 ≤ x ∧ x ≤ 255 := by
  unfold spec_l1Cur_next.f; rw [w64 (a + 1) (by omega) (by omega)]
  by_cases h : a < (s.length : Int)
  · rw [if_pos h, if_pos h0, if_pos (by omega)]
    have hx := hs (rd s a) (by
      obtain ⟨n, rfl⟩ : ∃ n : Nat, a = (n : Int) := ⟨a.toNat, by omega⟩
      rw [rd_nat _ _ (show n < s.length by omega)]; exact List.getElem_mem _)
    rw [w64 _ (by omega) (by omega)]; exact ⟨_, _, rfl, hx⟩
  · rw [if_neg h, if_neg (by omega)]
    have hx := seed_byte ((IntKind.u64.wrap (IntKind.u64.wrap (b * 6364136223846793005))) + 1442695040888963407); rw [w64 (Go.bits _ _ _ _) (by omega) (by omega)]; exact ⟨_, _, rfl, hx⟩
theorem pick_ok {s : List Int} (hs : Bytes s) (a b n : Int) (h0 : 0 ≤ a) (h1 : a ≤ 4000000000000000000) : ∃ x a' b', spec_l1Cur_pick.f s a b n = some (x, a', b') ∧ 0 ≤ x ∧ (x < n ∨ n ≤ 1 ∧ x = 0) ∧ a ≤ a' ∧ a' ≤ a + 2 := by
  unfold spec_l1Cur_pick.f
  by_cases h : n ≤ 1
  · rw [if_pos h]
    exact ⟨0, a, b, rfl, by omega, .inr ⟨h, rfl⟩, by omega, by omega⟩
  · rw [if_neg h]
    obtain ⟨x, b1, e1, h2, h3⟩ := next_ok hs a b h0 (by omega); rw [e1]; simp only [Option.bind_some]
    by_cases h4 : n > 200
    · obtain ⟨y, b2, e2, h5, h6⟩ := next_ok hs (a + 1) b1 (by omega) (by omega)
      rw [if_pos h4, e2]; simp only [Option.bind_some]; rw [if_neg (by omega), w64 (x * 256) (by omega) (by omega), w64 _ (by omega) (by omega)]; refine ⟨_, _, _, rfl, Int.tmod_nonneg _ (by omega), .inl (Int.tmod_lt_of_pos _ (by omega)), by omega, by omega⟩
    · rw [if_neg h4, if_neg (by omega)]
      refine ⟨_, _, _, rfl, Int.tmod_nonneg _ (by omega), .inl (Int.tmod_lt_of_pos _ (by omega)), by omega, by omega⟩
theorem one_ok {s : List Int} (hs : Bytes s) (a b n : Int) (h0 : 0 ≤ a) (h1 : a ≤ 4000000000000000000) : ∃ x a' b', spec_l1Cur_one.f s a b n = some (x, a', b') ∧ a ≤ a' ∧ a' ≤ a + 2 := by
  obtain ⟨x, a', b', e, _, _, h4, h5⟩ := pick_ok hs a b n h0 h1; unfold spec_l1Cur_one.f; rw [e]; exact ⟨_, _, _, rfl, h4, h5⟩
theorem among_ok {s : List Int} (hs : Bytes s) (a b : Int) (l : List Int) (hl : 0 < l.length) (h0 : 0 ≤ a) (h1 : a ≤ 4000000000000000000) : ∃ x a' b', spec_l1Cur_among.f s a b l = some (x, a', b') ∧ x ∈ l ∧ a ≤ a' ∧ a' ≤ a + 2 := by
  obtain ⟨x, a', b', e, h2, h3, h4, h5⟩ := pick_ok hs a b (l.length : Int) h0 h1; unfold spec_l1Cur_among.f; rw [e]; simp only [Option.bind_some]; have hx : x < (l.length : Int) := by omega
  rw [if_pos h2, if_pos hx]; refine ⟨_, _, _, rfl, ?_, h4, h5⟩; obtain ⟨n, rfl⟩ : ∃ n : Nat, x = (n : Int) := ⟨x.toNat, by omega⟩
  rw [rd_nat _ _ (show n < l.length by omega)]; exact List.getElem_mem _
theorem big_eq (a b : List Int) (ha : a.length ≤ 140737488351232) (hb : b.length ≤ 140737488351232) : ∃ x, laws_big.f a b = some x := by
  unfold laws_big.f
  repeat (first | exact ⟨_, rfl⟩ | split | simp only [Option.bind_some])
end Go.Proofs.Ytdoflpghemgbdaa.P
namespace Go.Proofs.Ytdoflpghemgbdaa.P
open Go.RowKit Go.Proofs.YtdoflpghemgbdaaW.PrintWords Go.Proofs.YtdoflpghemgbdaaW.PrintLast Go.Proofs.YtdoflpghemgbdaaW.PrintMore
set_option linter.unusedVariables false
set_option linter.unusedSimpArgs false
theorem sides_ok {s : List Int} (hs : Bytes s) (a b : Int) (h0 : 0 ≤ a) (h1 : a ≤ 1000000000) : ∃ (v : Nat) (a' b' : Int), spec_l1Cur_sides.f s a b = some ((v : Int), a', b') ∧ 1 ≤ v ∧ v ≤ 6 ∧ a ≤ a' ∧ a' ≤ a + 4 := by
  obtain ⟨x, a1, b1, e1, h2, h3⟩ := one_ok hs a b 8 h0 (by omega); cases x with
  | true => exact ⟨6, a1, b1, by simp only [spec_l1Cur_sides.f, e1, Option.bind_some, if_true]; rfl, by omega, by omega, by omega, by omega⟩
  | false =>
    obtain ⟨y, a2, b2, e2, h4, h5, h6, h7⟩ := pick_ok hs a1 b1 5 (by omega) (by omega); refine ⟨(1 + y).toNat, a2, b2, ?_, by omega, by omega, by omega, by omega⟩; simp only [spec_l1Cur_sides.f, e1, Option.bind_some, Bool.false_eq_true, if_false, e2]; rw [w64 _ (by omega) (by omega), show (((1 + y).toNat : Nat) : Int) = 1 + y by omega]
theorem boardOf_f (k : Nat) (C R i a b Rr Cc x a1 b1 a2 b2 : Int) (s l : List Int) (hC : 0 ≤ C) (hi : i < R) (h0 : 0 ≤ i) (hl : i < (l.length : Int)) (e1 : spec_l1Cur_pick.f s a b (shl .i64 1 C) = some (x, a1, b1)) (e2 : spec_l1Cur_one.f s a1 b1 3 = some (false, a2, b2)) :
    spec_l1Cur_boardOf.l0 (k + 1) C R i s a b Rr Cc l = spec_l1Cur_boardOf.l0 k C R (wrap64 (i + 1)) s a2 b2 Rr Cc (l.set i.toNat x) := by
  rw [spec_l1Cur_boardOf.l0, if_pos hi, if_pos hC, e1, Option.bind_some, if_pos h0, if_pos hl, Option.bind_some, e2, Option.bind_some, if_neg (by simp)]
theorem boardOf_t (k : Nat) (C R i a b Rr Cc x a1 b1 a2 b2 z a3 b3 : Int) (s l : List Int) (hC : 0 ≤ C) (hi : i < R) (h0 : 0 ≤ i) (hl : i < (l.length : Int)) (e1 : spec_l1Cur_pick.f s a b (shl .i64 1 C) = some (x, a1, b1)) (e2 : spec_l1Cur_one.f s a1 b1 3 = some (true, a2, b2)) (e3 : spec_l1Cur_pick.f s a2 b2 (wrap64 (C + 1)) = some (z, a3, b3)) (hz : 0 ≤ z) :
    spec_l1Cur_boardOf.l0 (k + 1) C R i s a b Rr Cc l = spec_l1Cur_boardOf.l0 k C R (wrap64 (i + 1)) s a3 b3 Rr Cc ((l.set i.toNat x).set i.toNat (wrap64 (shl .i64 1 z - 1))) := by
  rw [spec_l1Cur_boardOf.l0, if_pos hi, if_pos hC, e1, Option.bind_some, if_pos h0, if_pos hl, Option.bind_some, e2, Option.bind_some, if_pos rfl, e3, Option.bind_some, if_pos hz]
theorem boardOf_l0 {s : List Int} (hs : Bytes s) (R C : Nat) (hR : R ≤ 6) (hC : C ≤ 6) : ∀ (d i : Nat) (l : List Int) (a b : Int), R - i = d → i ≤ R → l.length = R → 0 ≤ a → a + 6 * d ≤ 1000001000 →
    ∃ l' a' b', Ev (fun k => spec_l1Cur_boardOf.l0 k (C : Int) (R : Int) (i : Int) s a b (R : Int) (C : Int) l) ((R : Int), (C : Int), l', a', b') ∧ l'.length = R ∧ a ≤ a' ∧ a' ≤ a + 6 * d := by
  intro d
  induction d with
  | zero =>
    intro i l a b hd hi hl h0 h1; refine ⟨l, a, b, ⟨1, fun k hk => ?_⟩, hl, by omega, by omega⟩; obtain ⟨k, rfl⟩ : ∃ m, k = m + 1 := ⟨k - 1, by omega⟩
    dsimp only; rw [spec_l1Cur_boardOf.l0, if_neg (by omega)]
  | succ d ih =>
    intro i l a b hd hi hl h0 h1; have e0 : wrap64 ((i : Int) + 1) = ((i + 1 : Nat) : Int) := by rw [w64 _ (by omega) (by omega)]; omega
    have e9 : wrap64 ((C : Int) + 1) = (C : Int) + 1 := w64 _ (by omega) (by omega); obtain ⟨x, a1, b1, e1, _, _, h4, h5⟩ := pick_ok hs a b (shl .i64 1 (C : Int)) h0 (by omega); obtain ⟨y, a2, b2, e2, h6, h7⟩ := one_ok hs a1 b1 3 (by omega) (by omega); cases y with
    | false =>
      obtain ⟨l', a', b', ⟨K, hK⟩, h8, h9, h10⟩ := ih (i + 1) (l.set i x) a2 b2 (by omega) (by omega) (by simpa using hl) (by omega) (by omega); refine ⟨l', a', b', ⟨K + 1, fun k hk => ?_⟩, h8, by omega, by omega⟩; obtain ⟨k, rfl⟩ : ∃ m, k = m + 1 := ⟨k - 1, by omega⟩
      have h := boardOf_f k (C : Int) (R : Int) (i : Int) a b (R : Int) (C : Int) x a1 b1 a2 b2 s l (by omega) (by omega) (by omega) (by omega) e1 e2; rw [e0, Int.toNat_natCast] at h; exact h.trans (hK k (by omega))
    | true =>
      obtain ⟨z, a3, b3, e3, h8, _, h10, h11⟩ := pick_ok hs a2 b2 (wrap64 ((C : Int) + 1)) (by omega) (by omega); obtain ⟨l', a', b', ⟨K, hK⟩, h12, h13, h14⟩ := ih (i + 1) ((l.set i x).set i (wrap64 (shl .i64 1 z - 1))) a3 b3 (by omega) (by omega) (by simpa using hl) (by omega) (by omega); refine ⟨l', a', b', ⟨K + 1, fun k hk => ?_⟩, h12, by omega, by omega⟩; obtain ⟨k, rfl⟩ : ∃ m, k = m + 1 := ⟨k - 1, by omega⟩
      have h := boardOf_t k (C : Int) (R : Int) (i : Int) a b (R : Int) (C : Int) x a1 b1 a2 b2 z a3 b3 s l (by omega) (by omega) (by omega) (by omega) e1 e2 e3 h8; rw [e0, Int.toNat_natCast] at h; exact h.trans (hK k (by omega))
theorem boardOf_ok {s : List Int} (hs : Bytes s) (R C : Nat) (hR : R ≤ 6) (hC : C ≤ 6) (a b : Int) (h0 : 0 ≤ a) (h1 : a ≤ 1000000000) :
    ∃ l' a' b', Ev (fun k => spec_l1Cur_boardOf.f k s a b (R : Int) (C : Int)) ((R : Int), (C : Int), l', a', b') ∧ l'.length = R ∧ a ≤ a' ∧ a' ≤ a + 36 := by
  obtain ⟨l', a', b', e, h2, h3, h4⟩ := boardOf_l0 hs R C hR hC R 0 (List.replicate R 0) a b (by omega) (by omega) (by simp) h0 (by omega); obtain ⟨K, hK⟩ := ev_get e; refine ⟨l', a', b', ⟨K, fun k hk => ?_⟩, h2, h3, by omega⟩; simp only [spec_l1Cur_boardOf.f, spec_boEmpty.f]; rw [if_pos (by omega), if_pos (by omega)]; simp only [Option.bind_some, Int.toNat_natCast, List.length_replicate]; exact hK k hk
theorem board_ok {s : List Int} (hs : Bytes s) (a b : Int) (h0 : 0 ≤ a) (h1 : a ≤ 100000000) :
    ∃ R C l a' b', Ev (fun k => spec_l1Cur_board.f k s a b) (R, C, l, a', b') ∧ l.length ≤ 7 ∧ (-1 ≤ R ∧ R ≤ 7) ∧ (-1 ≤ C ∧ C ≤ 4611686018427387904) ∧ a ≤ a' ∧ a' ≤ a + 60 := by
  obtain ⟨R, a1, b1, e1, r1, r6, h2, h3⟩ := sides_ok hs a b h0 (by omega); obtain ⟨C, a2, b2, e2, c1, c6, h4, h5⟩ := sides_ok hs a1 b1 (by omega) (by omega); obtain ⟨l, a3, b3, e3, hl, h6, h7⟩ := boardOf_ok hs R C r6 c6 a2 b2 (by omega) (by omega); obtain ⟨x, a4, b4, e4, h8, h9, h10, h11⟩ := pick_ok hs a3 b3 18 (by omega) (by omega); obtain ⟨K, hK⟩ := ev_get e3; have hf : ∀ k, K ≤ k → spec_l1Cur_board.f k s a b = (if x = 0 then ((spec_l1Cur_among.f s a4 b4 [(-1), 0, wrap64 ((R : Int) + 1), 7]).bind fun bt1720 => (some (bt1720.1, (C : Int), l, bt1720.2.1, bt1720.2.2))) else (if x = 1 then ((spec_l1Cur_among.f s a4 b4 [(-1), 0, 7, 4611686018427387904]).bind fun bt1726 => (some ((R : Int), bt1726.1, l, bt1726.2.1, bt1726.2.2))) else (if x = 2 then ((spec_l1Cur_pick.f s a4 b4 (l.length : Int)).bind fun bt1729 => ((spec_l1Cur_among.f s bt1729.2.1 bt1729.2.2 [(-1), 64, 4611686018427387904]).bind fun bt1735 => (if 0 ≤ bt1729.1 then (if bt1729.1 < (l.length : Int) then (some ((R : Int), (C : Int), l.set bt1729.1.toNat bt1735.1, bt1735.2.1, bt1735.2.2)) else (none)) else (none)))) else (if x = 3 then (if l.length < 17592186044416 then (some ((R : Int), (C : Int), l ++ [0], a4, b4)) else (none)) else (some ((R : Int), (C : Int), l, a4, b4)))))) := by
    intro k hk; simp only [spec_l1Cur_board.f, e1, Option.bind_some, e2, hK k hk, e4]
  by_cases x0 : x = 0
  · obtain ⟨y, a5, b5, e5, h12, h13, h14⟩ := among_ok hs a4 b4 [(-1), 0, wrap64 ((R : Int) + 1), 7] (by simp) (by omega) (by omega)
    refine ⟨y, C, l, a5, b5, ⟨K, fun k hk => ?_⟩, by omega, ?_, by omega, by omega, by omega⟩
    · refine (hf k hk).trans ?_; rw [if_pos x0, e5]; rfl
    · rw [w64 _ (by omega) (by omega)] at h12
      simp only [List.mem_cons, List.not_mem_nil, or_false] at h12; omega
  · by_cases x1 : x = 1
    · obtain ⟨y, a5, b5, e5, h12, h13, h14⟩ := among_ok hs a4 b4 [(-1), 0, 7, 4611686018427387904] (by simp) (by omega) (by omega)
      refine ⟨R, y, l, a5, b5, ⟨K, fun k hk => ?_⟩, by omega, by omega, ?_, by omega, by omega⟩
      · refine (hf k hk).trans ?_; rw [if_neg x0, if_pos x1, e5]; rfl
      · simp only [List.mem_cons, List.not_mem_nil, or_false] at h12
        omega
    · by_cases x2 : x = 2
      · obtain ⟨y, a5, b5, e5, h12, h13, h14, h15⟩ := pick_ok hs a4 b4 (l.length : Int) (by omega) (by omega)
        obtain ⟨z, a6, b6, e6, h16, h17, h18⟩ := among_ok hs a5 b5 [(-1), 64, 4611686018427387904] (by simp) (by omega) (by omega); refine ⟨R, C, l.set y.toNat z, a6, b6, ⟨K, fun k hk => ?_⟩, by simp; omega, by omega, by omega, by omega, by omega⟩; refine (hf k hk).trans ?_; rw [if_neg x0, if_neg x1, if_pos x2, e5]; simp only [Option.bind_some]; rw [e6]; simp only [Option.bind_some]; rw [if_pos h12, if_pos (by omega)]
      · by_cases x3 : x = 3
        · refine ⟨R, C, l ++ [0], a4, b4, ⟨K, fun k hk => ?_⟩, by simp; omega, by omega, by omega, by omega, by omega⟩
          refine (hf k hk).trans ?_; rw [if_neg x0, if_neg x1, if_neg x2, if_pos x3, if_pos (by omega)]
        · refine ⟨R, C, l, a4, b4, ⟨K, fun k hk => ?_⟩, by omega, by omega, by omega, by omega, by omega⟩
          refine (hf k hk).trans ?_; rw [if_neg x0, if_neg x1, if_neg x2, if_neg x3]
end Go.Proofs.Ytdoflpghemgbdaa.P
namespace Go.Proofs.Ytdoflpghemgbdaa.P
open Go.RowKit Go.Proofs.YtdoflpghemgbdaaW.PrintWords Go.Proofs.YtdoflpghemgbdaaW.PrintLast Go.Proofs.YtdoflpghemgbdaaW.PrintMore
set_option linter.unusedVariables false
set_option linter.unusedSimpArgs false
theorem evb {α : Type} {g g' : Nat → Option α} {r : α} (K : Nat) (h : Ev g' r) (hs : ∀ k, K ≤ k → g (k + 1) = g' k) : Ev g r := by
  obtain ⟨K2, h2⟩ := ev_get h; refine ⟨K + K2 + 1, fun k hk => ?_⟩; obtain ⟨k, rfl⟩ : ∃ m, k = m + 1 := ⟨k - 1, by omega⟩
  rw [hs k (by omega)]; exact h2 k (by omega)
theorem evz {α : Type} {g : Nat → Option α} {r : α} (hs : ∀ k, g (k + 1) = some r) : Ev g r := by
  refine ⟨1, fun k hk => ?_⟩; obtain ⟨k, rfl⟩ : ∃ m, k = m + 1 := ⟨k - 1, by omega⟩
  exact hs k
def short (l : List Int) : Nat → List Int
  | 0 => []
  | n + 1 => if rd l (n : Int) = 0 then short l n else l.take (n + 1)
theorem short_take (l : List Int) : ∀ n, n ≤ l.length → short (l.take n) n = short l n
  | 0, _ => rfl
  | n + 1, h => by
    have e : rd (l.take (n + 1)) (n : Int) = rd l (n : Int) := by
      rw [rd_nat _ _ (by rw [List.length_take]; omega), rd_nat _ _ (by omega)]; simp
    have ih := short_take l n (by omega); have ih2 := short_take (l.take (n + 1)) n (by rw [List.length_take]; omega); rw [List.take_take, Nat.min_eq_left (by omega)] at ih2; rw [short, short, e, ← ih2, ih, List.take_take, Nat.min_self]
end Go.Proofs.Ytdoflpghemgbdaa.P
namespace Go.Proofs.Ytdoflpghemgbdaa.Pure
open Go.RowKit Go.Proofs.Ytdoflpghemgbdaa.P Go.Proofs.YtdoflpghemgbdaaW.PrintWords Go.Proofs.YtdoflpghemgbdaaW.PrintLast
set_option linter.unusedSimpArgs false
set_option linter.unusedVariables false
namespace PutC
theorem bits_put : ∀ m : Fin 64, ∀ c : Fin 6,
    (Go.bits .or .i64 (Go.bits .andNot .i64 (m.val : Int) (shl .i64 1 (c.val : Int))) (shl .i64 1 (c.val : Int))) = Go.bits .or .i64 (m.val : Int) (shl .i64 1 (c.val : Int)) ∧
    wrap64 (Go.bits .or .i64 (m.val : Int) (shl .i64 1 (c.val : Int)) - shl .i64 1 (c.val : Int)) = Go.bits .andNot .i64 (m.val : Int) (shl .i64 1 (c.val : Int)) := by decide +kernel
theorem bits_put' (m c : Int) (h0 : 0 ≤ m) (h1 : m ≤ 63) (h2 : 0 ≤ c) (h3 : c ≤ 5) :
    (Go.bits .or .i64 (Go.bits .andNot .i64 m (shl .i64 1 c)) (shl .i64 1 c)) = Go.bits .or .i64 m (shl .i64 1 c) ∧
    wrap64 (Go.bits .or .i64 m (shl .i64 1 c) - shl .i64 1 c) = Go.bits .andNot .i64 m (shl .i64 1 c) := by
  have h := bits_put ⟨m.toNat, by omega⟩ ⟨c.toNat, by omega⟩; simp only [show ((m.toNat : Nat) : Int) = m by omega, show ((c.toNat : Nat) : Int) = c by omega] at h; exact h
def R (r c : Int) (l : List Int) (x y : Int) (on : Bool) : Int × Int × List Int × Bool :=
  if (boardB r c l && placeB r c x y) = true then (r, c, l.set x.toNat (if on = true then Go.bits .or .i64 (rd l x) (shl .i64 1 y) else Go.bits .andNot .i64 (rd l x) (shl .i64 1 y)), true) else (0, 0, [], false)
theorem row_at {r c x y : Int} {l : List Int} (h : (boardB r c l && placeB r c x y) = true) : (0 ≤ x ∧ x < l.length) ∧ (0 ≤ y ∧ y ≤ 5) ∧ l.length ≤ 6 ∧ 0 ≤ rd l x ∧ rd l x ≤ 63 := by
  rw [Bool.and_eq_true] at h; obtain ⟨hr, hc, hl, hm⟩ := (boardB_iff r c l).1 h.1; have hp := of_decide_eq_true h.2; have hx : x.toNat < l.length := by omega
  have hp6 := pow_le6 c hc.2; have := hm l[x.toNat] (List.getElem_mem hx); have e : rd l x = l[x.toNat] := by
    have := rd_nat l x.toNat hx; rwa [show ((x.toNat : Nat) : Int) = x by omega] at this
  rw [e]; refine ⟨by omega, by omega, by omega, by omega, by omega⟩
theorem own_eq (l : List Int) (h : l.length < 17592186044416) : spec_l1Own.f l = some l := by
  unfold spec_l1Own.f; simp [h]
theorem rd_set (l : List Int) (x v : Int) (h0 : 0 ≤ x) (h1 : x < l.length) : rd (l.set x.toNat v) x = v := by
  unfold rd; rw [List.getD_eq_getElem?_getD, List.getElem?_set_self (by omega)]; rfl
theorem impl_ev (r c : Int) (l : List Int) (x y : Int) (on : Bool) (hb : l.length ≤ 1152921504606846976) : Ev (fun k => impl_PutCell.f k r c l x y on) (R r c l x y on) := by
  refine ⟨1, fun k hk => ?_⟩; obtain ⟨k, rfl⟩ : ∃ m, k = m + 1 := ⟨k - 1, by omega⟩
  unfold R; simp only [impl_PutCell.f, impl_IsBoard.f, Option.bind_some]
  by_cases hbo : boardB r c l = true
  · have hbi := (boardB_iff r c l).1 hbo
    rw [if_pos hbo, place_eq r c l x y (by omega) (by omega), Option.bind_some, impl_PutCell.j0]
    by_cases hp : placeB r c x y = true
    · have h : (boardB r c l && placeB r c x y) = true := by rw [hbo, hp]; rfl
      obtain ⟨hx, hy, hl, hm0, hm1⟩ := row_at h; obtain ⟨e1, e2⟩ := bits_put' (rd l x) y hm0 hm1 hy.1 hy.2; rw [if_pos h, hp, if_neg (by simp)]; have hcl : slices_Clone_int_int.f l = some l := if_pos (by omega); simp only [impl_Board_copied.f, hcl, Option.bind_some]; rw [if_pos hx.1, if_pos hx.2, if_pos hy.1]; cases on with
      | true => simp only [if_true, rd_set l x _ hx.1 hx.2, e1, List.set_set]
      | false => simp
    · simp only [Bool.not_eq_true] at hp
      rw [hp, hbo]; simp
  · simp only [Bool.not_eq_true] at hbo
    rw [hbo, if_neg (by simp), impl_PutCell.j0]; simp
end PutC
end Go.Proofs.Ytdoflpghemgbdaa.Pure
namespace Go.Proofs.Ytdoflpghemgbdaa.P
open Go.RowKit Go.Proofs.YtdoflpghemgbdaaW.PrintWords Go.Proofs.YtdoflpghemgbdaaW.PrintLast Go.Proofs.YtdoflpghemgbdaaW.PrintMore
set_option linter.unusedVariables false
set_option linter.unusedSimpArgs false
theorem bit_add : ∀ i : Fin 6, ∀ m : Fin 64, m.val < 2 ^ i.val → Go.bits .or .i64 (m.val : Int) (shl .i64 1 (i.val : Int)) = ((m.val + 2 ^ i.val : Nat) : Int) ∧ m.val + 2 ^ i.val < 2 ^ (i.val + 1) ∧ hasM ((m.val + 2 ^ i.val : Nat) : Int) (i.val : Int) = true ∧ hasM (m.val : Int) (i.val : Int) = false := by decide +kernel
theorem bit_low : ∀ i j : Fin 6, ∀ m : Fin 64, m.val < 2 ^ i.val → j.val < i.val → hasM ((m.val + 2 ^ i.val : Nat) : Int) (j.val : Int) = hasM (m.val : Int) (j.val : Int) := by decide +kernel
def Cols_ (l : List Int) (C : Nat) (f : Nat → Nat) (A : List Int) : Prop := A.length = C ∧ ∀ j, j < C → ∃ m : Nat, rd A (j : Int) = (m : Int) ∧ m < 2 ^ f j ∧ ∀ i, i < f j → hasM (m : Int) (i : Int) = hasC l (i : Int) (j : Int)
theorem cols_congr {l : List Int} {C : Nat} {f g : Nat → Nat} {A : List Int} (h : Cols_ l C f A) (e : ∀ j, j < C → f j = g j) : Cols_ l C g A := ⟨h.1, fun j hj => by rw [← e j hj]; exact h.2 j hj⟩
theorem turn_in {R C : Nat} {l : List Int} (h : boardB (R : Int) (C : Int) l = true) (hR : R ≤ 6) (hC : C ≤ 6) {i : Nat} (hi : i < R) (res : Int × Int × List Int)
    (hrec : ∀ A, Cols_ l C (fun _ => i + 1) A → ∃ A', Cols_ l C (fun _ => R) A' ∧ Ev (fun k => impl_Board_turned.l0 k (R : Int) ((i + 1 : Nat) : Int) (R : Int) (C : Int) l (C : Int) (R : Int) A) ((C : Int), (R : Int), A')) : ∀ (d j : Nat) (A : List Int), C - j = d → j ≤ C → Cols_ l C (fun j' => if j' < j then i + 1 else i) A →
    ∃ A', Cols_ l C (fun _ => R) A' ∧ Ev (fun k => impl_Board_turned.l1 k (i : Int) (R : Int) (i : Int) (C : Int) (j : Int) (R : Int) (C : Int) l (C : Int) (R : Int) A) ((C : Int), (R : Int), A') := by
  intro d
  induction d with
  | zero =>
    intro j A hd hj hA; obtain ⟨A', h1, hev⟩ := hrec A (cols_congr hA (fun j' hj' => by rw [if_pos (by omega)])); obtain ⟨K, hK⟩ := ev_get hev; refine ⟨A', h1, K + 1, fun k hk => ?_⟩; obtain ⟨k, rfl⟩ : ∃ m, k = m + 1 := ⟨k - 1, by omega⟩
    dsimp only; rw [impl_Board_turned.l1, if_neg (by omega), w64 _ (by omega) (by omega), show (i : Int) + 1 = ((i + 1 : Nat) : Int) by omega]; exact hK k (by omega)
  | succ d ih =>
    intro j A hd hj hA; have hjC : j < C := by omega
    obtain ⟨m, e1, e2, e3⟩ := hA.2 j hjC; dsimp only at e2 e3; rw [if_neg (by omega)] at e2; rw [if_neg (by omega)] at e3; have h64 : m < 64 := Nat.lt_of_lt_of_le e2 (Nat.le_trans (Nat.pow_le_pow_right (by omega) (show i ≤ 6 by omega)) (by decide)); obtain ⟨b1, b2, b3, b4⟩ := bit_add ⟨i, by omega⟩ ⟨m, h64⟩ e2; have hhas := has_eq h (i := (i : Int)) (j := (j : Int)) (by omega) (by omega) (by omega) (by omega)
    by_cases hc : hasC l (i : Int) (j : Int) = true
    · have hA2 : Cols_ l C (fun j' => if j' < j + 1 then i + 1 else i) (A.set j ((m + 2 ^ i : Nat) : Int)) := by
        refine ⟨by rw [List.length_set]; exact hA.1, fun j' hj' => ?_⟩; dsimp only
        by_cases e : j' = j
        · subst e
          refine ⟨m + 2 ^ i, ?_, by rw [if_pos (by omega)]; exact b2, fun i' hi' => ?_⟩
          · have hl : j' < A.length := by rw [hA.1]; exact hj'
            generalize ((m + 2 ^ i : Nat) : Int) = v; unfold rd; simp [hl]
          · rw [if_pos (by omega)] at hi'
            by_cases e4 : i' = i
            · subst e4; rw [b3, hc]
            · have := bit_low ⟨i, by omega⟩ ⟨i', by omega⟩ ⟨m, h64⟩ e2 (by simp only; omega)
              simp only at this; rw [this]; exact e3 i' (by omega)
        · obtain ⟨m', f1, f2, f3⟩ := hA.2 j' hj'
          dsimp only at f2 f3; have hif : (if j' < j then i + 1 else i) = if j' < j + 1 then i + 1 else i := by
            by_cases e5 : j' < j
            · rw [if_pos e5, if_pos (by omega)]
            · rw [if_neg e5, if_neg (by omega)]
          rw [hif] at f2 f3; refine ⟨m', ?_, f2, f3⟩; rw [← f1]; generalize ((m + 2 ^ i : Nat) : Int) = v; unfold rd; simp [Ne.symm e]
      obtain ⟨A', h1, hev⟩ := ih (j + 1) _ (by omega) (by omega) hA2; obtain ⟨K, hK⟩ := ev_get hev; refine ⟨A', h1, K + 1, fun k hk => ?_⟩; obtain ⟨k, rfl⟩ : ∃ m, k = m + 1 := ⟨k - 1, by omega⟩
      dsimp only; rw [impl_Board_turned.l1, if_pos (by omega), hhas, Option.bind_some, if_pos hc, if_pos (by omega), if_pos (by rw [hA.1]; omega), if_pos (by omega), e1, b1, Int.toNat_natCast, w64 _ (by omega) (by omega), show (j : Int) + 1 = ((j + 1 : Nat) : Int) by omega]; exact hK k (by omega)
    · have hA2 : Cols_ l C (fun j' => if j' < j + 1 then i + 1 else i) A := by
        refine ⟨hA.1, fun j' hj' => ?_⟩; dsimp only
        by_cases e : j' = j
        · subst e
          rw [if_pos (by omega)]; refine ⟨m, e1, Nat.lt_of_lt_of_le e2 (Nat.pow_le_pow_right (by omega) (by omega)), fun i' hi' => ?_⟩
          by_cases e4 : i' = i
          · subst e4
            rw [b4]; simpa using hc
          · exact e3 i' (by omega)
        · have hif : (if j' < j then i + 1 else i) = if j' < j + 1 then i + 1 else i := by
            by_cases e5 : j' < j
            · rw [if_pos e5, if_pos (by omega)]
            · rw [if_neg e5, if_neg (by omega)]
          rw [← hif]; exact hA.2 j' hj'
      obtain ⟨A', h1, hev⟩ := ih (j + 1) _ (by omega) (by omega) hA2; obtain ⟨K, hK⟩ := ev_get hev; refine ⟨A', h1, K + 1, fun k hk => ?_⟩; obtain ⟨k, rfl⟩ : ∃ m, k = m + 1 := ⟨k - 1, by omega⟩
      dsimp only; rw [impl_Board_turned.l1, if_pos (by omega), hhas, Option.bind_some, if_neg hc, w64 _ (by omega) (by omega), show (j : Int) + 1 = ((j + 1 : Nat) : Int) by omega]; exact hK k (by omega)
theorem turn_out {R C : Nat} {l : List Int} (h : boardB (R : Int) (C : Int) l = true) (hR : R ≤ 6) (hC : C ≤ 6) : ∀ (d i : Nat) (A : List Int), R - i = d → i ≤ R → Cols_ l C (fun _ => i) A →
    ∃ A', Cols_ l C (fun _ => R) A' ∧ Ev (fun k => impl_Board_turned.l0 k (R : Int) (i : Int) (R : Int) (C : Int) l (C : Int) (R : Int) A) ((C : Int), (R : Int), A') := by
  intro d
  induction d with
  | zero =>
    intro i A hd hi hA; obtain rfl : i = R := by omega
    refine ⟨A, hA, 1, fun k hk => ?_⟩; obtain ⟨k, rfl⟩ : ∃ m, k = m + 1 := ⟨k - 1, by omega⟩
    dsimp only; rw [impl_Board_turned.l0, if_neg (by omega)]
  | succ d ih =>
    intro i A hd hi hA; obtain ⟨A', h1, hev⟩ := turn_in h hR hC (i := i) (by omega) ((0 : Int), (0 : Int), []) (fun A2 hA2 => ih (i + 1) A2 (by omega) (by omega) hA2) C 0 A (by omega) (by omega) (cols_congr hA (fun j _ => by rw [if_neg (by omega)])); obtain ⟨K, hK⟩ := ev_get hev; refine ⟨A', h1, K + 1, fun k hk => ?_⟩; obtain ⟨k, rfl⟩ : ∃ m, k = m + 1 := ⟨k - 1, by omega⟩
    have := hK k (by omega); rw [show ((0 : Nat) : Int) = 0 from rfl] at this; dsimp only; rw [impl_Board_turned.l0, if_pos (by omega)]; exact this
theorem turned_ev {R C : Nat} {l : List Int} (h : boardB (R : Int) (C : Int) l = true) (hR : R ≤ 6) (hC : C ≤ 6) :
    ∃ l', Ev (fun k => impl_Board_turned.f k (R : Int) (C : Int) l) ((C : Int), (R : Int), l') ∧ Cols_ l C (fun _ => R) l' := by
  obtain ⟨A', h1, hev⟩ := turn_out h hR hC R 0 (List.replicate C 0) (by omega) (by omega) ⟨by simp, fun j hj => ⟨0, by unfold rd; simp [hj], by simp, fun i hi => absurd hi (Nat.not_lt_zero _)⟩⟩; obtain ⟨K, hK⟩ := ev_get hev; refine ⟨A', ⟨K, fun k hk => ?_⟩, h1⟩; have := hK k hk; rw [show ((0 : Nat) : Int) = 0 from rfl] at this; simp only [impl_Board_turned.f, impl_newBoard.f]; rw [if_pos (by omega), if_pos (by omega), Option.bind_some, Int.toNat_natCast]; exact this
def mirF (C : Nat) (x : Int) : Nat → Nat → Int → Int
  | 0, _, m => m
  | d + 1, c, m => mirF C x d (c + 1) (if hasM x (c : Int) = true then Go.bits .or .i64 m (wrap64 (2 ^ min (C - 1 - c) 64)) else m)
theorem mir_fin : ∀ C : Fin 7, ∀ x : Fin 64, 0 ≤ mirF C.val (x.val : Int) C.val 0 0 ∧ mirF C.val (x.val : Int) C.val 0 0 ≤ ((2 ^ C.val : Nat) : Int) - 1 := by decide +kernel
theorem mir_has : ∀ C : Fin 7, ∀ x : Fin 64, ∀ j : Fin 6, j.val < C.val → hasM (mirF C.val (x.val : Int) C.val 0 0) ((C.val - 1 - j.val : Nat) : Int) = hasM (x.val : Int) (j.val : Int) := by decide +kernel
theorem mir_c0 {R C : Nat} {l : List Int} (h : boardB (R : Int) (C : Int) l = true) (hR : R ≤ 6) (hC : C ≤ 6) {i : Nat} (hi : i < R) : ∀ (d c : Nat) (m : Int), C - c = d → c ≤ C → Ev (fun k => impl_MirrorBoard.c0 (R : Int) (C : Int) l (i : Int) k m (c : Int)) (mirF C (rd l (i : Int)) d c m) := by
  intro d
  induction d with
  | zero =>
    intro c m hd hc; refine ⟨1, fun k hk => ?_⟩; obtain ⟨k, rfl⟩ : ∃ m, k = m + 1 := ⟨k - 1, by omega⟩
    dsimp only; rw [impl_MirrorBoard.c0, if_neg (by omega)]; rfl
  | succ d ih =>
    intro c m hd hc; have hhas := has_eq h (i := (i : Int)) (j := (c : Int)) (by omega) (by omega) (by omega) (by omega); have hw : wrap64 (wrap64 ((C : Int) - 1) - (c : Int)) = ((C - 1 - c : Nat) : Int) := by rw [w64 ((C : Int) - 1) (by omega) (by omega), w64 _ (by omega) (by omega)]; omega
    rw [mirF]
    by_cases hc1 : hasC l (i : Int) (c : Int) = true
    · have hc2 : hasM (rd l (i : Int)) (c : Int) = true := hc1
      rw [if_pos hc2]; obtain ⟨K, hK⟩ := ev_get (ih (c + 1) (Go.bits .or .i64 m (wrap64 (2 ^ min (C - 1 - c) 64))) (by omega) (by omega)); refine ⟨K + 1, fun k hk => ?_⟩; obtain ⟨k, rfl⟩ : ∃ m, k = m + 1 := ⟨k - 1, by omega⟩
      dsimp only; rw [impl_MirrorBoard.c0, if_pos (by omega), hhas, Option.bind_some, if_pos hc1, hw, if_pos (by omega), Int.toNat_natCast, w64 ((c : Int) + 1) (by omega) (by omega), show (c : Int) + 1 = ((c + 1 : Nat) : Int) by omega]; exact hK k (by omega)
    · have hc2 : ¬ hasM (rd l (i : Int)) (c : Int) = true := hc1
      rw [if_neg hc2]; obtain ⟨K, hK⟩ := ev_get (ih (c + 1) m (by omega) (by omega)); refine ⟨K + 1, fun k hk => ?_⟩; obtain ⟨k, rfl⟩ : ∃ m, k = m + 1 := ⟨k - 1, by omega⟩
      dsimp only; rw [impl_MirrorBoard.c0, if_pos (by omega), hhas, Option.bind_some, if_neg hc1, w64 ((c : Int) + 1) (by omega) (by omega), show (c : Int) + 1 = ((c + 1 : Nat) : Int) by omega]; exact hK k (by omega)
theorem mir_mono {R C : Int} {l : List Int} {r : Int} : ∀ k m c, LeO (impl_MirrorBoard.c0 R C l r k m c) (impl_MirrorBoard.c0 R C l r (k + 1) m c)
  | 0, _, _ => fun r h => by simp [impl_MirrorBoard.c0] at h
  | k + 1, m, c => by
    unfold impl_MirrorBoard.c0; refine LeO.ite ?_ (LeO.refl _); exact LeO.bind (LeO.refl _) (fun b => LeO.ite (LeO.ite (mir_mono k _ _) (LeO.refl _)) (mir_mono k _ _))
theorem mir_fn {R C : Nat} {l : List Int} (h : boardB (R : Int) (C : Int) l = true) (hR : R ≤ 6) (hC : C ≤ 6) {i : Nat} (hi : i < R) : impl_MirrorBoard.fn (R : Int) (C : Int) l (i : Int) = some (mirF C (rd l (i : Int)) C 0 0) := by
  obtain ⟨K, hK⟩ := ev_get (mir_c0 h hR hC hi C 0 0 (by omega) (by omega)); exact Fn.lim_of (fun k => mir_mono k _ _) (hK K (Nat.le_refl _))
def Mir (l : List Int) (R C n : Nat) (A : List Int) : Prop := A.length = R ∧ ∀ i, i < n → i < R → rd A (i : Int) = mirF C (rd l (i : Int)) C 0 0
theorem mir_l0 {R C : Nat} {l : List Int} (h : boardB (R : Int) (C : Int) l = true) (hR : R ≤ 6) (hC : C ≤ 6) : ∀ (d i : Nat) (A : List Int), R - i = d → i ≤ R → Mir l R C i A →
    ∃ A', Mir l R C R A' ∧ Ev (fun k => impl_Board_mapped.l0 k (impl_MirrorBoard.fn (R : Int) (C : Int) l) (R : Int) (i : Int) (R : Int) (C : Int) A) ((R : Int), (C : Int), A') := by
  intro d
  induction d with
  | zero =>
    intro i A hd hi hA; obtain rfl : i = R := by omega
    refine ⟨A, hA, 1, fun k hk => ?_⟩; obtain ⟨k, rfl⟩ : ∃ m, k = m + 1 := ⟨k - 1, by omega⟩
    dsimp only; rw [impl_Board_mapped.l0, if_neg (by omega)]
  | succ d ih =>
    intro i A hd hi hA; have hiR : i < R := by omega
    have hA2 : Mir l R C (i + 1) (A.set i (mirF C (rd l (i : Int)) C 0 0)) := by
      refine ⟨by rw [List.length_set]; exact hA.1, fun j hj hjR => ?_⟩
      by_cases e : j = i
      · subst e
        have hl : j < A.length := by rw [hA.1]; exact hjR
        generalize mirF C (rd l (j : Int)) C 0 0 = v; unfold rd; simp [hl]
      · rw [← hA.2 j (by omega) hjR]
        generalize mirF C (rd l (i : Int)) C 0 0 = v; unfold rd; simp [Ne.symm e]
    obtain ⟨A', h1, hev⟩ := ih (i + 1) _ (by omega) (by omega) hA2; obtain ⟨K, hK⟩ := ev_get hev; refine ⟨A', h1, K + 1, fun k hk => ?_⟩; obtain ⟨k, rfl⟩ : ∃ m, k = m + 1 := ⟨k - 1, by omega⟩
    dsimp only; rw [impl_Board_mapped.l0, if_pos (by omega), FnCall89.f, mir_fn h hR hC hiR, Option.bind_some, if_pos (by omega), if_pos (by rw [hA.1]; omega), Int.toNat_natCast, w64 _ (by omega) (by omega), show (i : Int) + 1 = ((i + 1 : Nat) : Int) by omega]; exact hK k (by omega)
theorem mirror_ev {R C : Nat} {l : List Int} (h : boardB (R : Int) (C : Int) l = true) (hR : R ≤ 6) (hC : C ≤ 6) :
    ∃ l', Ev (fun k => impl_MirrorBoard.f k (R : Int) (C : Int) l) ((R : Int), (C : Int), l', true) ∧ l'.length = R ∧ (∀ i : Nat, i < R → 0 ≤ rd l' (i : Int) ∧ rd l' (i : Int) ≤ ((2 ^ C : Nat) : Int) - 1) ∧ ∀ i j : Nat, i < R → j < C → hasC l' (i : Int) ((C - 1 - j : Nat) : Int) = hasC l (i : Int) (j : Int) := by
  obtain ⟨A', h1, hev⟩ := mir_l0 h hR hC R 0 (List.replicate R 0) (by omega) (by omega) ⟨by simp, fun i hi => absurd hi (Nat.not_lt_zero _)⟩; obtain ⟨K, hK⟩ := ev_get hev; have hm : ∀ i : Nat, i < R → 0 ≤ rd l (i : Int) ∧ rd l (i : Int) ≤ 63 := fun i hi => board_row h (by omega) (by omega)
  refine ⟨A', ⟨K, fun k hk => ?_⟩, h1.1, fun i hi => ?_, fun i j hi hj => ?_⟩
  · have := hK k hk
    rw [show ((0 : Nat) : Int) = 0 from rfl] at this; simp only [impl_MirrorBoard.f, impl_IsBoard.f, Option.bind_some, h, if_true, impl_Board_mapped.f, impl_newBoard.f]; rw [if_pos (by omega), if_pos (by omega), Option.bind_some, Int.toNat_natCast]; simp only [List.length_replicate]; rw [this, Option.bind_some]
  · rw [h1.2 i hi hi]
    have hx := hm i hi; have := mir_fin ⟨C, by omega⟩ ⟨(rd l (i : Int)).toNat, by omega⟩; simpa only [show (((rd l (i : Int)).toNat : Nat) : Int) = rd l (i : Int) by omega] using this
  · unfold hasC
    rw [h1.2 i hi hi]; have hx := hm i hi; have := mir_has ⟨C, by omega⟩ ⟨(rd l (i : Int)).toNat, by omega⟩ ⟨j, by omega⟩ hj; simpa only [show (((rd l (i : Int)).toNat : Nat) : Int) = rd l (i : Int) by omega] using this
theorem short_le (l : List Int) : ∀ n, n ≤ l.length → (short l n).length ≤ n
  | 0, _ => Nat.le_refl _
  | n + 1, h => by
    rw [short]
    split
    · have := short_le l n (by omega); omega
    · rw [List.length_take]; omega
theorem trimT_ev : ∀ (l : List Int), l.length ≤ 1000 → Ev (fun k => impl_trimmed.l0 k l) (short l l.length) := by
  intro l
  induction hn : l.length generalizing l with
  | zero =>
    intro _; have : l = [] := List.length_eq_zero_iff.1 hn; subst this; exact evz (fun k => by rw [impl_trimmed.l0, if_neg (by simp)]; rfl)
  | succ n ih =>
    intro hl; have hw : wrap64 ((l.length : Int) - 1) = (n : Int) := by rw [w64 _ (by omega) (by omega)]; omega
    have htl : (l.take n).length = n := by rw [List.length_take]; omega
    by_cases h0 : rd l (n : Int) = 0
    · have e : short l (n + 1) = short (l.take n) n := by rw [short, if_pos h0, short_take l n (by omega)]
      rw [e]; refine evb 0 (ih (l.take n) htl (by omega)) (fun k _ => ?_); rw [impl_trimmed.l0, hw, if_pos (by omega), if_pos (by omega), if_pos (by omega), if_pos h0, if_pos (by omega), Int.toNat_natCast]
    · have e : short l (n + 1) = l := by rw [short, if_neg h0, List.take_of_length_le (by omega)]
      rw [e]; exact evz (fun k => by rw [impl_trimmed.l0, hw, if_pos (by omega), if_pos (by omega), if_pos (by omega), if_neg h0])
theorem shortT_ev (l : List Int) (hl : l.length ≤ 1000) : ∀ n : Nat, n ≤ l.length → Ev (fun k => spec_roShort.l0 k l (n : Int)) (short l n)
  | 0, _ => evz (fun k => by rw [spec_roShort.l0, if_neg (by omega), if_pos (by omega), if_pos (by omega)]; rfl)
  | n + 1, h => by
    have hw : wrap64 (((n + 1 : Nat) : Int) - 1) = (n : Int) := by rw [w64 _ (by omega) (by omega)]; omega
    by_cases h0 : rd l (n : Int) = 0
    · rw [short, if_pos h0]
      refine evb 0 (shortT_ev l hl n (by omega)) (fun k _ => ?_); rw [spec_roShort.l0, hw, if_pos (by omega), if_pos (by omega), if_pos (by omega), if_pos h0]
    · rw [short, if_neg h0]
      exact evz (fun k => by rw [spec_roShort.l0, hw, if_pos (by omega), if_pos (by omega), if_pos (by omega), if_neg h0, if_pos (by omega), if_pos (by omega), Int.toNat_natCast])
end Go.Proofs.Ytdoflpghemgbdaa.P
namespace Go.Proofs.Ytdoflpghemgbdaa.Pure
open Go.RowKit Go.Proofs.Ytdoflpghemgbdaa.P Go.Proofs.YtdoflpghemgbdaaW.PrintWords Go.Proofs.YtdoflpghemgbdaaW.PrintLast
set_option linter.unusedSimpArgs false
set_option linter.unusedVariables false
namespace FnExactNumbersByCell
def num (l : List Int) (R C : Nat) : List Int := tab (min R C) (fun k => (P.ways l C R 0 0 k : Int))
theorem ways_k0 (l : List Int) (C : Nat) : ∀ (d r : Nat) (t : Int), P.ways l C d r t 0 = 1
  | 0, _, _ => rfl
  | d + 1, r, t => by
    rw [ways_succ, ways_k0 l C d]; have : sumTo (term l C d r t 0) C = sumTo (fun _ => 0) C := sumTo_congr (fun c _ => by unfold term; split <;> rfl); rw [this, sumTo_zero]
theorem num_one (l : List Int) (R C : Nat) (h : min R C = 0) : num l R C = [1] := by
  unfold num; rw [h]; simp [tab, ways_k0]
theorem specNum_ev {l : List Int} {R C : Nat} (hR : R ≤ 6) (hC : C ≤ 6) (hl : l.length = R) : Ev (fun k => spec_roNumbers.f k (R : Int) (C : Int) l) (num l R C) := by
  obtain ⟨K, hK⟩ := ev_get (roWays_ev hR hC hl rfl R 0 0 (by omega) (cols_zero C)); refine ⟨K, fun k hk => ?_⟩; simp only [spec_roNumbers.f]; have := hK k hk; rw [show ((0 : Nat) : Int) = 0 from rfl] at this; rw [this]; rfl
theorem implNum_ev {l : List Int} {R C : Nat} (hR : R ≤ 6) (hC : C ≤ 6) (hl : l.length = R) (hmask : ∀ i : Nat, i < R → 0 ≤ rd l (i : Int) ∧ rd l (i : Int) ≤ 63) : Ev (fun k => impl_Board_numbers.f k (R : Int) (C : Int) l) (num l R C) := by
  obtain ⟨p', _, _, h⟩ := walk_ev hR hC hl rfl hmask R 0 0 (List.replicate R 0) (fun _ => 0) (by omega) (cols_zero C) (by simp) (by rw [pop_zero]; rfl) (fun k => by
    have : 7 ^ R ≤ 7 ^ 6 := Nat.pow_le_pow_right (by omega) hR; have e : (7 : Nat) ^ 6 = 117649 := by decide
    omega)
  obtain ⟨K, hK⟩ := ev_get h; have hm : mn (R : Int) (C : Int) = ((min R C : Nat) : Int) := by unfold mn; split <;> omega
  refine ⟨K, fun k hk => ?_⟩; simp only [impl_Board_numbers.f, hm]; rw [w64 _ (by omega) (by omega), if_pos (by omega), if_pos (by omega), show (((min R C : Nat) : Int) + 1).toNat = min R C + 1 by omega, tab_repl]; simp only [impl_Board_walk.f]; have := hK k hk; rw [show ((0 : Nat) : Int) = 0 from rfl] at this; rw [if_pos (by omega), if_pos (by omega), Int.toNat_natCast, this, Option.bind_some]; refine congrArg some (tab_congr (fun k hk => ?_)); rw [gain, pop_zero, if_pos (Nat.zero_le _), Nat.sub_zero]; omega
def sf (y m : Int) : Int := Go.bits .or .i64 (Go.bits .and .i64 m (wrap64 ((shl .i64 1 y) - 1))) (shl .i64 (shr .i64 m (wrap64 (y + 1))) y)
theorem sf_fin : ∀ m : Fin 64, ∀ y : Fin 6, 0 ≤ sf (y.val : Int) (m.val : Int) ∧ sf (y.val : Int) (m.val : Int) ≤ 63 := by decide +kernel
theorem sub_fin : ∀ m : Fin 64, ∀ y : Fin 6, hasM (m.val : Int) (y.val : Int) = true → wrap64 ((m.val : Int) - shl .i64 1 (y.val : Int)) = Go.bits .andNot .i64 (m.val : Int) (shl .i64 1 (y.val : Int)) := by decide +kernel
theorem and_fin : ∀ m : Fin 64, ∀ y : Fin 6, 0 ≤ Go.bits .andNot .i64 (m.val : Int) (shl .i64 1 (y.val : Int)) ∧ Go.bits .andNot .i64 (m.val : Int) (shl .i64 1 (y.val : Int)) ≤ 63 := by decide +kernel
def strikeFrom (x : Nat) (y : Int) : Nat → List Int → List Int
  | _, [] => []
  | i, m :: s => if i = x then strikeFrom x y (i + 1) s else sf y m :: strikeFrom x y (i + 1) s
theorem strike_mem (x : Nat) (y : Int) : ∀ (s : List Int) (i : Nat) (v : Int), v ∈ strikeFrom x y i s → ∃ m ∈ s, v = sf y m
  | [], _, _, h => by simp [strikeFrom] at h
  | m :: s, i, v, h => by
    rw [strikeFrom] at h
    split at h
    · obtain ⟨m', h1, h2⟩ := strike_mem x y s (i + 1) v h
      exact ⟨m', List.mem_cons_of_mem _ h1, h2⟩
    · rcases List.mem_cons.1 h with rfl | h
      · exact ⟨m, List.mem_cons_self .., rfl⟩
      · obtain ⟨m', h1, h2⟩ := strike_mem x y s (i + 1) v h
        exact ⟨m', List.mem_cons_of_mem _ h1, h2⟩
theorem strike_len (x : Nat) (y : Int) : ∀ (s : List Int) (i : Nat), (strikeFrom x y i s).length = if i ≤ x ∧ x < i + s.length then s.length - 1 else s.length
  | [], i => by simp [strikeFrom]
  | m :: s, i => by
    rw [strikeFrom]
    by_cases e : i = x
    · rw [if_pos e, strike_len x y s (i + 1), if_neg (by omega), if_pos ⟨by omega, by simp; omega⟩]; simp
    · rw [if_neg e, List.length_cons, strike_len x y s (i + 1), List.length_cons]
      by_cases e2 : i + 1 ≤ x ∧ x < i + 1 + s.length
      · rw [if_pos e2, if_pos (by omega)]; omega
      · rw [if_neg e2, if_neg (by omega)]
theorem strike_l0 (l : List Int) (hl : l.length ≤ 6) (x : Nat) (y : Int) (hy : 0 ≤ y ∧ y ≤ 5) (a b : Int) : ∀ (d i : Nat) (acc : List Int), l.length - i = d → i ≤ l.length → acc.length ≤ i →
    Ev (fun k => spec_boStrike.l0 k (x : Int) y l (l.length : Int) (i : Int) a b acc) (a, b, acc ++ strikeFrom x y i (l.drop i)) := by
  intro d
  induction d with
  | zero =>
    intro i acc hd hi ha; refine ⟨1, fun k hk => ?_⟩; obtain ⟨k, rfl⟩ : ∃ m, k = m + 1 := ⟨k - 1, by omega⟩
    dsimp only; rw [spec_boStrike.l0, if_neg (by omega), List.drop_eq_nil_of_le (by omega), strikeFrom, List.append_nil]
  | succ d ih =>
    intro i acc hd hi ha; have h1 : i < l.length := by omega
    rw [drop_cons l i h1, strikeFrom]
    by_cases e : i = x
    · obtain ⟨K, hK⟩ := ev_get (ih (i + 1) acc (by omega) (by omega) (by omega))
      refine ⟨K + 1, fun k hk => ?_⟩; obtain ⟨k, rfl⟩ : ∃ m, k = m + 1 := ⟨k - 1, by omega⟩
      dsimp only; rw [if_pos e, spec_boStrike.l0, if_pos (by omega), if_pos (by omega), if_pos (by omega), if_pos (by omega), w64 _ (by omega) (by omega)]; exact hK k (by omega)
    · obtain ⟨K, hK⟩ := ev_get (ih (i + 1) (acc ++ [sf y l[i]]) (by omega) (by omega) (by simp; omega))
      refine ⟨K + 1, fun k hk => ?_⟩; obtain ⟨k, rfl⟩ : ∃ m, k = m + 1 := ⟨k - 1, by omega⟩
      dsimp only; have hw : 0 ≤ wrap64 (y + 1) := by rw [w64 _ (by omega) (by omega)]; omega
      rw [if_neg e, spec_boStrike.l0, if_pos (by omega), if_pos (by omega), if_pos (by omega), if_neg (by omega), if_pos hy.1, if_pos hw, if_pos (by omega), rd_nat l i h1, w64 ((i : Int) + 1) (by omega) (by omega)]; have := hK k (by omega); rw [List.append_assoc, List.singleton_append] at this; exact this
theorem strike_same : ∀ (k : Nat) (x y : Int) (l : List Int) (n i a b : Int) (acc : List Int), impl_Board_strike.l0 k x y l n i a b acc = spec_boStrike.l0 k x y l n i a b acc
  | 0, _, _, _, _, _, _, _, _ => rfl
  | k + 1, x, y, l, n, i, a, b, acc => by
    rw [impl_Board_strike.l0, spec_boStrike.l0]; simp only [strike_same k]
def good (r c : Int) (l : List Int) (x y : Int) : Bool := (boardB r c l && placeB r c x y) && hasC l x y
def R (r c : Int) (l : List Int) (x y : Int) : List Int × List Int × Bool :=
  if good r c l x y = true then (num (l.set x.toNat (Go.bits .andNot .i64 (rd l x) (shl .i64 1 y))) r.toNat c.toNat, num (strikeFrom x.toNat y 0 l) (r.toNat - 1) (c.toNat - 1), true) else ([], [], false)
theorem masks {r c : Int} {l : List Int} (h : boardB r c l = true) : ∀ i : Nat, i < l.length → 0 ≤ rd l (i : Int) ∧ rd l (i : Int) ≤ 63 := by
  intro i hi; obtain ⟨hr, hc, hl, hm⟩ := (boardB_iff r c l).1 h; exact board_row h (by omega) (by omega)
theorem masks_set {l : List Int} {X : Nat} {v : Int} (hl : ∀ i : Nat, i < l.length → 0 ≤ rd l (i : Int) ∧ rd l (i : Int) ≤ 63) (hv : 0 ≤ v ∧ v ≤ 63) : ∀ i : Nat, i < l.length → 0 ≤ rd (l.set X v) (i : Int) ∧ rd (l.set X v) (i : Int) ≤ 63 := by
  intro i hi; have h := hl i hi; rw [rd_nat _ _ hi] at h; rw [rd_nat _ _ (by rw [List.length_set]; exact hi), List.getElem_set]
  split
  · exact hv
  · exact h
theorem masks_strike {l : List Int} {X : Nat} {y : Int} (hy : 0 ≤ y ∧ y ≤ 5) (hl : ∀ i : Nat, i < l.length → 0 ≤ rd l (i : Int) ∧ rd l (i : Int) ≤ 63) : ∀ i : Nat, i < (strikeFrom X y 0 l).length → 0 ≤ rd (strikeFrom X y 0 l) (i : Int) ∧ rd (strikeFrom X y 0 l) (i : Int) ≤ 63 := by
  intro i hi; rw [rd_nat _ _ hi]; obtain ⟨m, hm, e⟩ := strike_mem X y l 0 _ (List.getElem_mem hi); obtain ⟨j, hj, rfl⟩ := List.getElem_of_mem hm; have h := hl j hj; rw [rd_nat _ _ hj] at h; rw [e]; have := sf_fin ⟨(l[j]).toNat, by omega⟩ ⟨y.toNat, by omega⟩; simpa only [show (((l[j]).toNat : Nat) : Int) = l[j] by omega, show ((y.toNat : Nat) : Int) = y by omega] using this
theorem spec_ev (r c : Int) (l : List Int) (x y : Int) (hb : l.length ≤ 1152921504606846976) : Ev (fun k => spec_NumbersByCell.f k r c l x y) (R r c l x y) := by
  obtain ⟨K1, h1⟩ := ev_get (boPlace_ev r c l x y hb); unfold R good
  by_cases h : (boardB r c l && placeB r c x y) = true
  case neg =>
    refine ⟨K1 + 1, fun k hk => ?_⟩; obtain ⟨k, rfl⟩ : ∃ m, k = m + 1 := ⟨k - 1, by omega⟩
    rw [Bool.not_eq_true] at h; simp only [spec_NumbersByCell.f, h1 (k + 1) (by omega), Option.bind_some, h, Bool.false_eq_true, if_false, Bool.false_and]; rw [spec_NumbersByCell.j0, if_pos rfl]
  have h0 := h; rw [Bool.and_eq_true] at h; obtain ⟨hr, hc, hl, hm⟩ := (boardB_iff r c l).1 h.1; have hp := of_decide_eq_true h.2; have hh := boHas_eq (j := y) h.1 hp.1.1 (by omega) hp.2.1
  by_cases hc1 : hasC l x y = true
  case neg =>
    rw [Bool.not_eq_true] at hc1; refine ⟨K1 + 1, fun k hk => ?_⟩; obtain ⟨k, rfl⟩ : ∃ m, k = m + 1 := ⟨k - 1, by omega⟩
    simp only [spec_NumbersByCell.f, h1 (k + 1) (by omega), Option.bind_some, h0, hh, hc1, Bool.and_false, Bool.false_eq_true, if_false, if_true, Bool.not_false]; rw [spec_NumbersByCell.j0, if_pos rfl]
  obtain ⟨Rn, rfl⟩ : ∃ n : Nat, r = (n : Int) := ⟨r.toNat, by omega⟩
  obtain ⟨Cn, rfl⟩ : ∃ n : Nat, c = (n : Int) := ⟨c.toNat, by omega⟩
  obtain ⟨X, rfl⟩ : ∃ n : Nat, x = (n : Int) := ⟨x.toNat, by omega⟩
  have hrow := board_row h.1 hp.1.1 (by omega); have hsub : wrap64 (rd l (X : Int) - shl .i64 1 y) = Go.bits .andNot .i64 (rd l (X : Int)) (shl .i64 1 y) := by
    have := sub_fin ⟨(rd l (X : Int)).toNat, by omega⟩ ⟨y.toNat, by omega⟩; simp only [show (((rd l (X : Int)).toNat : Nat) : Int) = rd l (X : Int) by omega, show ((y.toNat : Nat) : Int) = y by omega] at this; exact this hc1
  have hsl : (strikeFrom X y 0 l).length = Rn - 1 := by rw [strike_len, if_pos (by omega)]; omega
  obtain ⟨K2, h2⟩ := ev_get (specNum_ev (l := l.set X (Go.bits .andNot .i64 (rd l (X : Int)) (shl .i64 1 y))) (R := Rn) (C := Cn) (by omega) (by omega) (by rw [List.length_set]; omega)); obtain ⟨K3, h3⟩ := ev_get (strike_l0 l (by omega) X y (by omega) (((Rn - 1 : Nat) : Int)) (((Cn - 1 : Nat) : Int)) l.length 0 [] (by omega) (by omega) (by simp)); obtain ⟨K4, h4⟩ := ev_get (specNum_ev (l := strikeFrom X y 0 l) (R := Rn - 1) (C := Cn - 1) (by omega) (by omega) hsl); refine ⟨K1 + K2 + K3 + K4 + 1, fun k hk => ?_⟩; obtain ⟨k, rfl⟩ : ∃ m, k = m + 1 := ⟨k - 1, by omega⟩
  have h3' := h3 k (by omega); simp only [List.nil_append, List.drop_zero] at h3'; have hst : spec_boStrike.f k (Rn : Int) (Cn : Int) l (X : Int) y = some (((Rn - 1 : Nat) : Int), ((Cn - 1 : Nat) : Int), strikeFrom X y 0 l) := by
    simp only [spec_boStrike.f]; rw [w64 _ (by omega) (by omega), w64 _ (by omega) (by omega), show (Rn : Int) - 1 = ((Rn - 1 : Nat) : Int) by omega, show (Cn : Int) - 1 = ((Cn - 1 : Nat) : Int) by omega]; exact h3'
  simp only [spec_NumbersByCell.f, h1 (k + 1) (by omega), Option.bind_some, h0, hh, hc1, Bool.and_self, if_true, Bool.not_true]; rw [spec_NumbersByCell.j0, if_neg (by simp), spec_boOwn.f, PutC.own_eq l (by omega), Option.bind_some, Option.bind_some]; simp only [Int.toNat_natCast]; rw [if_pos (by omega), if_pos (by omega), if_pos hp.2.1, hsub, h2 k (by omega), Option.bind_some, hst, Option.bind_some]; simp only [h4 k (by omega), Option.bind_some]
theorem impl_ev (r c : Int) (l : List Int) (x y : Int) (hb : l.length ≤ 1152921504606846976) : Ev (fun k => impl_NumbersByCell.f k r c l x y) (R r c l x y) := by
  unfold R good; have none_ : ∀ k, impl_NumbersByCell.j0 (k + 1) x y true r c l = some (([] : List Int), ([] : List Int), false) := by
    intro k; rw [impl_NumbersByCell.j0, if_pos rfl]
  by_cases hbo : boardB r c l = true
  case neg =>
    rw [Bool.not_eq_true] at hbo; refine ⟨1, fun k hk => ?_⟩; obtain ⟨k, rfl⟩ : ∃ m, k = m + 1 := ⟨k - 1, by omega⟩
    simp only [impl_NumbersByCell.f, impl_IsBoard.f, Option.bind_some, hbo, Bool.false_eq_true, if_false, Bool.false_and]; exact none_ k
  obtain ⟨hr, hc, hl, hm⟩ := (boardB_iff r c l).1 hbo; have hpl := place_eq r c l x y (by omega) (by omega)
  by_cases hpb : placeB r c x y = true
  case neg =>
    rw [Bool.not_eq_true] at hpb; refine ⟨1, fun k hk => ?_⟩; obtain ⟨k, rfl⟩ : ∃ m, k = m + 1 := ⟨k - 1, by omega⟩
    simp only [impl_NumbersByCell.f, impl_IsBoard.f, Option.bind_some, hbo, hpl, hpb, Bool.false_eq_true, if_true, if_false, Bool.false_and, Bool.and_false]; exact none_ k
  have hp := of_decide_eq_true hpb; have hh := has_eq (j := y) hbo hp.1.1 (by omega) hp.2.1 (by omega)
  by_cases hc1 : hasC l x y = true
  case neg =>
    rw [Bool.not_eq_true] at hc1; refine ⟨1, fun k hk => ?_⟩; obtain ⟨k, rfl⟩ : ∃ m, k = m + 1 := ⟨k - 1, by omega⟩
    simp only [impl_NumbersByCell.f, impl_IsBoard.f, Option.bind_some, hbo, hpl, hpb, hh, hc1, Bool.false_eq_true, if_true, if_false, Bool.and_false, Bool.not_false]; exact none_ k
  obtain ⟨K1, h1⟩ := ev_get (PutC.impl_ev r c l x y false hb); obtain ⟨Rn, rfl⟩ : ∃ n : Nat, r = (n : Int) := ⟨r.toNat, by omega⟩
  obtain ⟨Cn, rfl⟩ : ∃ n : Nat, c = (n : Int) := ⟨c.toNat, by omega⟩
  obtain ⟨X, rfl⟩ : ∃ n : Nat, x = (n : Int) := ⟨x.toNat, by omega⟩
  have hrow := board_row hbo hp.1.1 (by omega); have hand := and_fin ⟨(rd l (X : Int)).toNat, by omega⟩ ⟨y.toNat, by omega⟩; simp only [show (((rd l (X : Int)).toNat : Nat) : Int) = rd l (X : Int) by omega, show ((y.toNat : Nat) : Int) = y by omega] at hand; have hsl : (strikeFrom X y 0 l).length = Rn - 1 := by rw [strike_len, if_pos (by omega)]; omega
  obtain ⟨K2, h2⟩ := ev_get (implNum_ev (l := l.set X (Go.bits .andNot .i64 (rd l (X : Int)) (shl .i64 1 y))) (R := Rn) (C := Cn) (by omega) (by omega) (by rw [List.length_set]; omega) (fun i hi => masks_set (masks hbo) hand i (by omega))); obtain ⟨K3, h3⟩ := ev_get (strike_l0 l (by omega) X y (by omega) (((Rn - 1 : Nat) : Int)) (((Cn - 1 : Nat) : Int)) l.length 0 [] (by omega) (by omega) (by simp)); obtain ⟨K4, h4⟩ := ev_get (implNum_ev (l := strikeFrom X y 0 l) (R := Rn - 1) (C := Cn - 1) (by omega) (by omega) hsl (fun i hi => masks_strike (by omega) (masks hbo) i (by omega))); refine ⟨K1 + K2 + K3 + K4 + 2, fun k hk => ?_⟩; obtain ⟨k, rfl⟩ : ∃ m, k = m + 2 := ⟨k - 2, by omega⟩
  have h3' := h3 k (by omega); simp only [List.nil_append, List.drop_zero] at h3'; have hst : impl_Board_strike.f k (Rn : Int) (Cn : Int) l (X : Int) y = some (((Rn - 1 : Nat) : Int), ((Cn - 1 : Nat) : Int), strikeFrom X y 0 l) := by
    simp only [impl_Board_strike.f, strike_same]; rw [w64 _ (by omega) (by omega), w64 _ (by omega) (by omega), show (Rn : Int) - 1 = ((Rn - 1 : Nat) : Int) by omega, show (Cn : Int) - 1 = ((Cn - 1 : Nat) : Int) by omega]; exact h3'
  have hput := h1 (k + 1) (by omega); rw [PutC.R, if_pos (by rw [hbo, hpb]; rfl), if_neg (by simp)] at hput; simp only [impl_NumbersByCell.f, impl_IsBoard.f, Option.bind_some, hbo, hpl, hpb, hh, hc1, if_true, Bool.and_self, Bool.not_true]; rw [impl_NumbersByCell.j0, if_neg (by simp), hput, Option.bind_some, Option.bind_some]; simp only [Int.toNat_natCast]; have ev1 : ∀ b : Bool, b = decide ((Rn : Int) > 1 ∧ (Cn : Int) > 1) → impl_NumbersByCell.j1 (k + 1) (X : Int) y [1] b (Rn : Int) (Cn : Int) l (Rn : Int) (Cn : Int) (l.set X (Go.bits .andNot .i64 (rd l (X : Int)) (shl .i64 1 y))) = some (num (l.set X (Go.bits .andNot .i64 (rd l (X : Int)) (shl .i64 1 y))) Rn Cn, num (strikeFrom X y 0 l) (Rn - 1) (Cn - 1), true) := by
    intro b hbd
    by_cases hg : (Rn : Int) > 1 ∧ (Cn : Int) > 1
    · rw [decide_eq_true hg] at hbd
      subst hbd; rw [impl_NumbersByCell.j1, if_pos rfl, hst, Option.bind_some]; simp only [h4 k (by omega), h2 k (by omega), Option.bind_some]
    · rw [decide_eq_false hg] at hbd
      subst hbd; rw [impl_NumbersByCell.j1, if_neg (by simp)]; simp only [h2 k (by omega), Option.bind_some]; rw [num_one (strikeFrom X y 0 l) (Rn - 1) (Cn - 1) (by omega)]
  by_cases hR1 : (Rn : Int) > 1
  · rw [if_pos hR1]
    exact ev1 _ (by simp [hR1])
  · rw [if_neg hR1]
    exact ev1 _ (by simp [hR1])
theorem R_small (r c : Int) (l : List Int) (x y : Int) (hb : l.length ≤ 1152921504606846976) : (R r c l x y).1.length ≤ 1000 ∧ (R r c l x y).2.1.length ≤ 1000 := by
  unfold R
  by_cases h : good r c l x y = true
  · rw [if_pos h]
    unfold good at h; rw [Bool.and_eq_true, Bool.and_eq_true] at h; obtain ⟨hr, hc, hl, hm⟩ := (boardB_iff r c l).1 h.1.1; simp only [num, tab_len]; omega
  · rw [if_neg h]; simp
end FnExactNumbersByCell
namespace FnRookNumbersAddUp
open FnExactNumbersByCell
theorem less_fin : ∀ m : Fin 64, ∀ y : Fin 6, ∀ j : Fin 6, hasM (Go.bits .andNot .i64 (m.val : Int) (shl .i64 1 (y.val : Int))) (j.val : Int) = (hasM (m.val : Int) (j.val : Int) && !decide (j = y)) := by decide +kernel
theorem strike_fin : ∀ m : Fin 64, ∀ y : Fin 6, ∀ j : Fin 5, hasM (sf (y.val : Int) (m.val : Int)) (j.val : Int) = hasM (m.val : Int) ((shN y.val j.val : Nat) : Int) := by decide +kernel
theorem less_has {l : List Int} {R C : Nat} (hC : C ≤ 6) (hl : l.length = R) (hmask : ∀ i : Nat, i < R → 0 ≤ rd l (i : Int) ∧ rd l (i : Int) ≤ 63) {x y : Nat} (hx : x < R) (hy : y < C) {i j : Nat} (hi : i < R) (hj : j < C) :
    hasC (l.set x (Go.bits .andNot .i64 (rd l (x : Int)) (shl .i64 1 (y : Int)))) (i : Int) (j : Int) = (hasC l (i : Int) (j : Int) && !(decide (i = x) && decide (j = y))) := by
  unfold hasC
  by_cases e : i = x
  · subst e
    have h1 : rd (l.set i (Go.bits .andNot .i64 (rd l (i : Int)) (shl .i64 1 (y : Int)))) (i : Int) = Go.bits .andNot .i64 (rd l (i : Int)) (shl .i64 1 (y : Int)) := by
      generalize Go.bits .andNot .i64 (rd l (i : Int)) (shl .i64 1 (y : Int)) = v; unfold rd; simp [show i < l.length by omega]
    have hm := hmask i hi; have h2 := less_fin ⟨(rd l (i : Int)).toNat, by omega⟩ ⟨y, by omega⟩ ⟨j, by omega⟩; simp only [show (((rd l (i : Int)).toNat : Nat) : Int) = rd l (i : Int) by omega, Fin.mk.injEq] at h2; rw [h1, h2, decide_eq_true (rfl : i = i), Bool.true_and]
  · have h1 : ∀ v, rd (l.set x v) (i : Int) = rd l (i : Int) := fun v => by unfold rd; simp [Ne.symm e]
    rw [h1, decide_eq_false e]; simp
theorem strike_get (x : Nat) (y : Int) : ∀ (l : List Int) (s i : Nat), (strikeFrom x y s l)[i]? = (l[if s ≤ x ∧ x ≤ s + i then i + 1 else i]?).map (sf y)
  | [], _, _ => by simp [strikeFrom]
  | m :: l, s, i => by
    rw [strikeFrom]
    by_cases e : s = x
    · subst e
      rw [if_pos rfl, strike_get s y l (s + 1) i, if_neg (by omega), if_pos (by omega)]; rfl
    · rw [if_neg e]
      cases i with
      | zero => rw [if_neg (by omega)]; rfl
      | succ i =>
        rw [List.getElem?_cons_succ, strike_get x y l (s + 1) i]
        by_cases h : s ≤ x ∧ x ≤ s + (i + 1)
        · rw [if_pos (by omega), if_pos h]; rfl
        · rw [if_neg (by omega), if_neg h]; rfl
theorem strike_has {l : List Int} {R C : Nat} (hC : C ≤ 6) (hl : l.length = R) (hmask : ∀ i : Nat, i < R → 0 ≤ rd l (i : Int) ∧ rd l (i : Int) ≤ 63) {x y : Nat} (hx : x < R) (hy : y < C) {i j : Nat} (hi : i < R - 1) (hj : j < C - 1) :
    hasC (strikeFrom x (y : Int) 0 l) (i : Int) (j : Int) = hasC l (shN x i : Int) (shN y j : Int) := by
  have g1 : shN x i < R := by unfold shN; split <;> omega
  have h0 := strike_get x (y : Int) l 0 i; have e0 : (if 0 ≤ x ∧ x ≤ 0 + i then i + 1 else i) = shN x i := by
    unfold shN
    by_cases h : i < x
    · rw [if_pos h, if_neg (by omega)]
    · rw [if_neg h, if_pos (by omega)]
  rw [e0, List.getElem?_eq_getElem (show shN x i < l.length by omega)] at h0; have hm := hmask _ g1; have g1l : shN x i < l.length := by omega
  have e1 : rd l (shN x i : Int) = l[shN x i]'g1l := rd_nat _ _ g1l; have e2 : rd (strikeFrom x (y : Int) 0 l) (i : Int) = sf (y : Int) (rd l (shN x i : Int)) := by
    rw [e1]; unfold rd; rw [Int.toNat_natCast, List.getD_eq_getElem?_getD, h0]; rfl
  have h2 := strike_fin ⟨(rd l (shN x i : Int)).toNat, by omega⟩ ⟨y, by omega⟩ ⟨j, by omega⟩; simp only [show (((rd l (shN x i : Int)).toNat : Nat) : Int) = rd l (shN x i : Int) by omega] at h2; unfold hasC; rw [e2, h2]
theorem num_len (l : List Int) (R C : Nat) : (num l R C).length = min R C + 1 := tab_len _ _
theorem num_rd (l : List Int) {R C : Nat} (hC : C ≤ 6) {k : Nat} (hk : k ≤ min R C) : rd (num l R C) (k : Int) = (rooksN l R C k : Int) := by
  unfold num; rw [tab_rd _ _ k hk, ways_rooks l hC k]
theorem rooks_over (l : List Int) {R C : Nat} (hC : C ≤ 6) {k : Nat} (hk : min R C < k) : rooksN l R C k = 0 := by
  rw [← ways_rooks l hC k]
  by_cases h : 0 < P.ways l C R 0 0 k
  · have := ways_pos l hC R 0 0 k (cols_zero C) h
    rw [pop_zero] at this; omega
  · omega
theorem rooks_small (l : List Int) {R C : Nat} (hR : R ≤ 6) (hC : C ≤ 6) (k : Nat) : rooksN l R C k ≤ 117649 := by
  rw [← ways_rooks l hC k]; exact ways_small l hC R 0 0 k hR
def lessL (l : List Int) (x y : Nat) : List Int := l.set x (Go.bits .andNot .i64 (rd l (x : Int)) (shl .i64 1 (y : Int)))
theorem split_eq {l : List Int} {R C : Nat} (hC : C ≤ 6) (hl : l.length = R) (hmask : ∀ i : Nat, i < R → 0 ≤ rd l (i : Int) ∧ rd l (i : Int) ≤ 63) {x y : Nat} (hx : x < R) (hy : y < C) (hc : hasC l (x : Int) (y : Int) = true) (n : Nat) :
    rooksN l R C (n + 1) = rooksN (lessL l x y) R C (n + 1) + rooksN (strikeFrom x (y : Int) 0 l) (R - 1) (C - 1) n :=
  rooks_split hx hy hc (fun i j hi hj => less_has hC hl hmask hx hy hi hj) (fun i j hi hj => strike_has hC hl hmask hx hy hi hj) n
theorem count_l0 {R : Nat} (x y : Nat) (hx : x < R) (L : List (List Int)) (hL : L.length ≤ 200000) (hq : ∀ q ∈ L, q.length = R) : ∀ (d i : Nat) (n : Int), L.length - i = d → i ≤ L.length → 0 ≤ n → n + ((L.drop i).filter fun q => onB x y q).length ≤ 1000000 →
    Ev (fun k => impl_CountWithCell.l0 k (x : Int) (y : Int) n L (L.length : Int) (i : Int)) (n + ((L.drop i).filter fun q => onB x y q).length, true) := by
  intro d
  induction d with
  | zero =>
    intro i n hd hi h0 h1; refine ⟨1, fun k hk => ?_⟩; obtain ⟨k, rfl⟩ : ∃ m, k = m + 1 := ⟨k - 1, by omega⟩
    dsimp only; rw [impl_CountWithCell.l0, if_neg (by omega), List.drop_of_length_le (by omega)]; simp
  | succ d ih =>
    intro i n hd hi h0 h1; have hlt : i < L.length := by omega
    have hqi := hq L[i] (List.getElem_mem hlt); rw [List.drop_eq_getElem_cons hlt, List.filter_cons] at h1 ⊢
    by_cases hb : onB x y L[i] = true
    · rw [if_pos hb, List.length_cons] at h1 ⊢
      obtain ⟨K, hK⟩ := ev_get (ih (i + 1) (n + 1) (by omega) (by omega) (by omega) (by omega)); refine ⟨K + 1, fun k hk => ?_⟩; obtain ⟨k, rfl⟩ : ∃ m, k = m + 1 := ⟨k - 1, by omega⟩
      have hk' := hK k (by omega); have he : rd L[i] (x : Int) = (y : Int) := of_decide_eq_true hb; dsimp only at hk' ⊢; rw [impl_CountWithCell.l0, if_pos (by omega), if_pos (by omega), if_pos (by omega), if_pos (by omega), rdL_nat _ _ hlt, if_pos (by omega), if_pos he, w64 (n + 1) (by omega) (by omega), w64 ((i : Int) + 1) (by omega) (by omega), show (i : Int) + 1 = ((i + 1 : Nat) : Int) by omega, hk']
      congr 2; omega
    · rw [if_neg hb] at h1 ⊢
      obtain ⟨K, hK⟩ := ev_get (ih (i + 1) n (by omega) (by omega) (by omega) (by omega)); refine ⟨K + 1, fun k hk => ?_⟩; obtain ⟨k, rfl⟩ : ∃ m, k = m + 1 := ⟨k - 1, by omega⟩
      have he : ¬ rd L[i] (x : Int) = (y : Int) := fun e => hb (decide_eq_true e)
      dsimp only; rw [impl_CountWithCell.l0, if_pos (by omega), if_pos (by omega), if_pos (by omega), if_pos (by omega), rdL_nat _ _ hlt, if_pos (by omega), if_neg he, w64 ((i : Int) + 1) (by omega) (by omega), show (i : Int) + 1 = ((i + 1 : Nat) : Int) by omega]; exact hK k (by omega)
def cwR (r c : Int) (l : List Int) (x y k : Int) : Int × Bool := if ((boardB r c l && placeB r c x y) && inB k 0 6) = true then ((rooksN l r.toNat c.toNat k.toNat : Int) - (rooksN (lessL l x.toNat y.toNat) r.toNat c.toNat k.toNat : Int), true) else (0, false)
theorem with_ev {l : List Int} {R C : Nat} (hR : R ≤ 6) (hC : C ≤ 6) (hl : l.length = R) (hmask : ∀ i : Nat, i < R → 0 ≤ rd l (i : Int) ∧ rd l (i : Int) ≤ 63) {x y : Nat} (hx : x < R) (hy : y < C) (kk : Nat) :
    ∃ L, Ev (fun k => impl_Board_with.f k (R : Int) (C : Int) l (kk : Int)) L ∧ L.length = rooksN l R C kk ∧ (∀ q ∈ L, q.length = R) ∧ (L.filter fun q => !onB x y q).length = rooksN (lessL l x y) R C kk := by
  have h7 : 7 ^ R ≤ 7 ^ 6 := Nat.pow_le_pow_right (by omega) hR; have e7 : (7 : Nat) ^ 6 = 117649 := by decide
  obtain ⟨p', new, _, _, hev, h1, h2, h3⟩ := withw_ev hR hC hl hmask hx hy (less := lessL l x y) (fun i j hi hj => less_has hC hl hmask hx hy hi hj) kk R 0 0 (List.replicate R 0) [] (by omega) (cols_zero C) (by simp) (by rw [pop_zero]; rfl) (by simp; omega); obtain ⟨K, hK⟩ := ev_get hev; refine ⟨new, ⟨K, fun k hk => ?_⟩, ?_, h2, ?_⟩
  · have := hK k hk
    rw [show ((0 : Nat) : Int) = 0 from rfl] at this; simp only [impl_Board_with.f, impl_Board_with.wk]; rw [if_pos (by omega), if_pos (by omega), Int.toNat_natCast, this, Option.bind_some, List.nil_append]
  · rw [h1]; unfold gain; rw [pop_zero, if_pos (Nat.zero_le _), Nat.sub_zero, ways_rooks l hC]
  · rw [h3]; unfold others gain; rw [if_neg (by omega), pop_zero, if_pos (Nat.zero_le _), Nat.sub_zero, ways_rooks _ hC]
theorem filter_both {α : Type} (p : α → Bool) : ∀ L : List α, (L.filter p).length + (L.filter fun q => !p q).length = L.length
  | [] => rfl
  | a :: L => by
    have := filter_both p L; rw [List.filter_cons, List.filter_cons]; cases p a <;> simp <;> omega
theorem cw_impl (r c : Int) (l : List Int) (x y kk : Int) : Ev (fun k => impl_CountWithCell.f k r c l x y kk) (cwR r c l x y kk) := by
  unfold cwR; have none_ : ∀ k, impl_CountWithCell.j0 (k + 1) x y kk true r c l = some (0, false) := fun k => by rw [impl_CountWithCell.j0, if_pos rfl]
  by_cases hb : boardB r c l = true
  case neg =>
    rw [Bool.not_eq_true] at hb; refine ⟨1, fun k hk => ?_⟩; obtain ⟨k, rfl⟩ : ∃ m, k = m + 1 := ⟨k - 1, by omega⟩
    simp only [impl_CountWithCell.f, impl_IsBoard.f, Option.bind_some, hb, Bool.false_eq_true, if_false, Bool.false_and]; exact none_ k
  obtain ⟨hr, hc, hl, hm⟩ := (boardB_iff r c l).1 hb; have hpl := place_eq r c l x y (by omega) (by omega)
  by_cases hp : placeB r c x y = true
  case neg =>
    rw [Bool.not_eq_true] at hp; refine ⟨1, fun k hk => ?_⟩; obtain ⟨k, rfl⟩ : ∃ m, k = m + 1 := ⟨k - 1, by omega⟩
    simp only [impl_CountWithCell.f, impl_IsBoard.f, Option.bind_some, hb, hpl, hp, Bool.false_eq_true, if_true, if_false, Bool.false_and, Bool.and_false]; exact none_ k
  by_cases hk : inB kk 0 6 = true
  case neg =>
    rw [Bool.not_eq_true] at hk; refine ⟨1, fun k hk2 => ?_⟩; obtain ⟨k, rfl⟩ : ∃ m, k = m + 1 := ⟨k - 1, by omega⟩
    simp only [impl_CountWithCell.f, impl_IsBoard.f, Option.bind_some, hb, hpl, hp, within_eq, hk, Bool.false_eq_true, if_true, if_false, Bool.and_false, Bool.not_false]; exact none_ k
  have hpp : (0 ≤ x ∧ x ≤ r - 1) ∧ (0 ≤ y ∧ y ≤ c - 1) := of_decide_eq_true hp; have hk2 : 0 ≤ kk ∧ kk ≤ 6 := by simpa [inB] using hk
  obtain ⟨R', rfl⟩ : ∃ R' : Nat, r = R' := ⟨r.toNat, by omega⟩
  obtain ⟨C', rfl⟩ : ∃ C' : Nat, c = C' := ⟨c.toNat, by omega⟩
  obtain ⟨X, rfl⟩ : ∃ X : Nat, x = X := ⟨x.toNat, by omega⟩
  obtain ⟨Y, rfl⟩ : ∃ Y : Nat, y = Y := ⟨y.toNat, by omega⟩
  obtain ⟨n, rfl⟩ : ∃ n : Nat, kk = n := ⟨kk.toNat, by omega⟩
  simp only [Int.toNat_natCast, hb, hp, hk, Bool.and_true, if_true]; have hmask : ∀ i : Nat, i < R' → 0 ≤ rd l (i : Int) ∧ rd l (i : Int) ≤ 63 := fun i hi => board_row hb (by omega) (by omega)
  obtain ⟨L, hev, h1, h2, h3⟩ := with_ev (R := R') (C := C') (by omega) (by omega) (by omega) hmask (x := X) (y := Y) (by omega) (by omega) n; have hs := rooks_small l (R := R') (C := C') (by omega) (by omega) n; have hfb := filter_both (fun q => onB X Y q) L; obtain ⟨K1, k1⟩ := ev_get hev; obtain ⟨K2, k2⟩ := ev_get (count_l0 X Y (by omega) L (by omega) h2 L.length 0 0 (by omega) (by omega) (by omega) (by rw [List.drop_zero]; omega)); refine ⟨K1 + K2 + 1, fun k hk3 => ?_⟩; obtain ⟨k, rfl⟩ : ∃ m, k = m + 1 := ⟨k - 1, by omega⟩
  have k2' := k2 k (by omega); rw [List.drop_zero, show ((0 : Nat) : Int) = 0 from rfl] at k2'; simp only [impl_CountWithCell.f, impl_IsBoard.f, Option.bind_some, hb, hpl, hp, within_eq, hk, if_true, Bool.not_true]; rw [impl_CountWithCell.j0, if_neg (by simp), k1 k (by omega), Option.bind_some, k2']
  congr 2
  omega
theorem rooks_congr {l l' : List Int} {R C : Nat} (hC : C ≤ 6) (h : ∀ i j : Nat, i < R → j < C → hasC l (i : Int) (j : Int) = hasC l' (i : Int) (j : Int)) (n : Nat) : rooksN l R C n = rooksN l' R C n := by
  rw [← ways_rooks l hC n, ← ways_rooks l' hC n]; exact ways_rows R 0 0 n (fun i j _ h2 h3 => h i j (by omega) h3)
theorem cw_spec (r c : Int) (l : List Int) (x y kk : Int) (hlb : l.length ≤ 1152921504606846976) : Ev (fun k => spec_CountWithCell.f k r c l x y kk) (cwR r c l x y kk) := by
  obtain ⟨K1, k1⟩ := ev_get (boPlace_ev r c l x y hlb); unfold cwR
  by_cases h : (boardB r c l && placeB r c x y) = true
  case neg =>
    rw [Bool.not_eq_true] at h; refine ⟨K1 + 1, fun k hk => ?_⟩; obtain ⟨k, rfl⟩ : ∃ m, k = m + 1 := ⟨k - 1, by omega⟩
    simp only [spec_CountWithCell.f, k1 (k + 1) (by omega), Option.bind_some, h, Bool.false_eq_true, if_false, Bool.false_and]; rw [spec_CountWithCell.j0, if_pos rfl]
  by_cases hk : inB kk 0 6 = true
  case neg =>
    rw [Bool.not_eq_true] at hk; refine ⟨K1 + 1, fun k hk2 => ?_⟩; obtain ⟨k, rfl⟩ : ∃ m, k = m + 1 := ⟨k - 1, by omega⟩
    simp only [spec_CountWithCell.f, k1 (k + 1) (by omega), Option.bind_some, h, hk, l1In_eq, Bool.and_false, Bool.false_eq_true, if_false, if_true, Bool.not_false]; rw [spec_CountWithCell.j0, if_pos rfl]
  have h0 := h; rw [Bool.and_eq_true] at h; obtain ⟨hb, hp⟩ := h; obtain ⟨hr, hc, hl, hm⟩ := (boardB_iff r c l).1 hb; have hpp : (0 ≤ x ∧ x ≤ r - 1) ∧ (0 ≤ y ∧ y ≤ c - 1) := of_decide_eq_true hp; have hk2 : 0 ≤ kk ∧ kk ≤ 6 := by simpa [inB] using hk
  have hh := boHas_eq (j := y) hb hpp.1.1 (by omega) hpp.2.1; obtain ⟨R', rfl⟩ : ∃ R' : Nat, r = R' := ⟨r.toNat, by omega⟩
  obtain ⟨C', rfl⟩ : ∃ C' : Nat, c = C' := ⟨c.toNat, by omega⟩
  obtain ⟨X, rfl⟩ : ∃ X : Nat, x = X := ⟨x.toNat, by omega⟩
  obtain ⟨Y, rfl⟩ : ∃ Y : Nat, y = Y := ⟨y.toNat, by omega⟩
  obtain ⟨n, rfl⟩ : ∃ n : Nat, kk = n := ⟨kk.toNat, by omega⟩
  simp only [Int.toNat_natCast, h0, hk, Bool.and_true, if_true]; have hmask : ∀ i : Nat, i < R' → 0 ≤ rd l (i : Int) ∧ rd l (i : Int) ≤ 63 := fun i hi => board_row hb (by omega) (by omega)
  by_cases hn : n = 0
  · subst hn
    rw [rooks_zero, rooks_zero]; refine ⟨K1 + 2, fun k hk3 => ?_⟩; obtain ⟨k, rfl⟩ : ∃ m, k = m + 2 := ⟨k - 2, by omega⟩
    simp only [spec_CountWithCell.f, k1 (k + 2) (by omega), Option.bind_some, h0, hk, l1In_eq, if_true, Bool.not_true]; rw [spec_CountWithCell.j0, if_neg (by simp), if_pos (show ((0 : Nat) : Int) = 0 from rfl), spec_CountWithCell.j1, if_pos rfl]; rfl
  by_cases hc1 : hasC l (X : Int) (Y : Int) = true
  case neg =>
    rw [Bool.not_eq_true] at hc1; have e : rooksN (lessL l X Y) R' C' n = rooksN l R' C' n := rooks_congr (by omega) (fun i j hi hj => by
      unfold lessL; rw [less_has (by omega) (by omega) hmask (by omega) (by omega) hi hj]
      by_cases e1 : i = X ∧ j = Y
      · obtain ⟨rfl, rfl⟩ := e1; rw [hc1]; rfl
      · have : (decide (i = X) && decide (j = Y)) = false := by
          rw [Bool.and_eq_false_iff, decide_eq_false_iff_not, decide_eq_false_iff_not]; omega
        rw [this]; simp) n
    rw [e]; refine ⟨K1 + 2, fun k hk3 => ?_⟩; obtain ⟨k, rfl⟩ : ∃ m, k = m + 2 := ⟨k - 2, by omega⟩
    simp only [spec_CountWithCell.f, k1 (k + 2) (by omega), Option.bind_some, h0, hk, l1In_eq, if_true, Bool.not_true]; rw [spec_CountWithCell.j0, if_neg (by simp), if_neg (by omega), hh, hc1, Option.bind_some, spec_CountWithCell.j1, if_pos (show (!false) = true from rfl)]
    congr 2; omega
  obtain ⟨m, rfl⟩ : ∃ m, n = m + 1 := ⟨n - 1, by omega⟩
  have hsplit := split_eq (R := R') (C := C') (by omega) (by omega) hmask (x := X) (y := Y) (by omega) (by omega) hc1 m; have hsl : (strikeFrom X (Y : Int) 0 l).length = R' - 1 := by rw [strike_len, if_pos (by omega)]; omega
  obtain ⟨K3, k3⟩ := ev_get (strike_l0 l (by omega) X (Y : Int) (by omega) (((R' - 1 : Nat) : Int)) (((C' - 1 : Nat) : Int)) l.length 0 [] (by omega) (by omega) (by simp)); obtain ⟨K4, k4⟩ := ev_get (specNum_ev (l := strikeFrom X (Y : Int) 0 l) (R := R' - 1) (C := C' - 1) (by omega) (by omega) hsl); refine ⟨K1 + K3 + K4 + 2, fun k hk3 => ?_⟩; obtain ⟨k, rfl⟩ : ∃ m, k = m + 2 := ⟨k - 2, by omega⟩
  have k3' := k3 k (by omega); simp only [List.nil_append, List.drop_zero] at k3'; have hst : spec_boStrike.f k (R' : Int) (C' : Int) l (X : Int) (Y : Int) = some (((R' - 1 : Nat) : Int), ((C' - 1 : Nat) : Int), strikeFrom X (Y : Int) 0 l) := by
    simp only [spec_boStrike.f]; rw [w64 _ (by omega) (by omega), w64 _ (by omega) (by omega), show (R' : Int) - 1 = ((R' - 1 : Nat) : Int) by omega, show (C' : Int) - 1 = ((C' - 1 : Nat) : Int) by omega]; exact k3'
  simp only [spec_CountWithCell.f, k1 (k + 2) (by omega), Option.bind_some, h0, hk, l1In_eq, if_true, Bool.not_true]; rw [spec_CountWithCell.j0, if_neg (by simp), if_neg (by omega), hh, hc1, Option.bind_some, spec_CountWithCell.j1, if_neg (by simp), hst, Option.bind_some, w64 _ (by omega) (by omega), show ((m + 1 : Nat) : Int) - 1 = (m : Int) by omega]; simp only [spec_roOf.f, k4 k (by omega), Option.bind_some, num_len]
  by_cases hm2 : m ≤ min (R' - 1) (C' - 1)
  · rw [if_neg (by omega), if_pos (by omega), if_pos (by omega), num_rd _ (by omega) hm2, Option.bind_some]
    congr 2; omega
  · rw [if_pos (by omega), Option.bind_some]
    have := rooks_over (strikeFrom X (Y : Int) 0 l) (R := R' - 1) (C := C' - 1) (by omega) (k := m) (by omega)
    congr 2; omega
theorem rsame_l0 (a : List Int) (ha : a.length ≤ 1000) : ∀ (d i : Nat), a.length - i = d → i ≤ a.length → Ev (fun k => laws_rSame.l0 k a a (a.length : Int) (i : Int)) true := by
  intro d
  induction d with
  | zero =>
    intro i hd hi; exact ⟨1, fun k hk => by
      obtain ⟨k, rfl⟩ : ∃ m, k = m + 1 := ⟨k - 1, by omega⟩
      dsimp only; rw [laws_rSame.l0, if_neg (by omega)]⟩
  | succ d ih =>
    intro i hd hi; obtain ⟨K, hK⟩ := ev_get (ih (i + 1) (by omega) (by omega)); refine ⟨K + 1, fun k hk => ?_⟩; obtain ⟨k, rfl⟩ : ∃ m, k = m + 1 := ⟨k - 1, by omega⟩
    dsimp only; rw [laws_rSame.l0, if_pos (by omega), if_pos (by omega), if_pos (by omega), if_pos (by omega), if_pos rfl, w64 _ (by omega) (by omega), show (i : Int) + 1 = ((i + 1 : Nat) : Int) by omega]; exact hK k (by omega)
theorem rsame_ev (a : List Int) (ha : a.length ≤ 1000) : Ev (fun k => laws_rSame.f k a a) true := by
  obtain ⟨K, hK⟩ := ev_get (rsame_l0 a ha a.length 0 (by omega) (by omega)); exact ⟨K, fun k hk => by simp only [laws_rSame.f, if_true]; exact hK k hk⟩
theorem rshort_same : ∀ (k : Nat) (l : List Int) (n : Int), laws_rShort.l0 k l n = spec_roShort.l0 k l n
  | 0, _, _ => rfl
  | k + 1, l, n => by rw [laws_rShort.l0, spec_roShort.l0]; simp only [rshort_same k]
theorem on_eq (r c : Int) (l : List Int) (x y : Int) : laws_rOn.f r c l x y = some (good r c l x y) := by
  unfold good; simp only [laws_rOn.f, impl_HasCell.f, impl_IsBoard.f, Option.bind_some]
  by_cases hb : boardB r c l = true
  · have hbb := (boardB_iff r c l).1 hb
    rw [if_pos hb, place_eq r c l x y (by omega) (by omega), Option.bind_some, hb, Bool.true_and]
    by_cases hp : placeB r c x y = true
    · have hpp : (0 ≤ x ∧ x ≤ r - 1) ∧ (0 ≤ y ∧ y ≤ c - 1) := of_decide_eq_true hp
      rw [if_pos hp, has_eq hb (by omega) (by omega) (by omega) (by omega), Option.bind_some, Option.bind_some, if_pos rfl, hp, Bool.true_and]
    · rw [if_neg hp]
      simp only [Bool.not_eq_true] at hp; rw [hp]; rfl
  · rw [if_neg hb]
    simp only [Bool.not_eq_true] at hb; rw [hb]; rfl
theorem cellRow_count (l : List Int) (i C : Nat) : ∀ (d j : Nat), C - j = d → (cellRow l i C j).length = ((List.range' j (C - j)).filter fun (c : Nat) => hasC l (i : Int) (c : Int)).length
  | 0, j, h => by rw [cellRow_nil l i C j (by omega), h]; rfl
  | d + 1, j, h => by
    rw [cellRow_step l i C j (by omega), List.length_append, cellRow_count l i C d (j + 1) (by omega), crange'_step j C (by omega), List.filter_cons]
    split <;> simp <;> omega
theorem cells_count (l : List Int) (R C : Nat) : ∀ (d i : Nat), R - i = d → (cellsFrom l R C i).length = (cellsN l C (R - i) i).length
  | 0, i, h => by rw [cellsFrom_nil l R C i (by omega), h]; rfl
  | d + 1, i, h => by
    rw [cellsFrom_step l R C i (by omega), List.length_append, cells_count l R C d (i + 1) (by omega), show R - i = (R - (i + 1)) + 1 by omega, cellsN, List.length_append, cellRow_count l i C C 0 (by omega)]
    congr 1
    unfold rowN; rw [List.length_map, List.range_eq_range', Nat.sub_zero]
def numR (r c : Int) (l : List Int) : List Int × Bool := if boardB r c l = true then (num l r.toNat c.toNat, true) else ([], false)
def mostR (r c : Int) (l : List Int) : Int × Bool := if boardB r c l = true then (((short (num l r.toNat c.toNat) (num l r.toNat c.toNat).length).length : Int) - 1, true) else (0, false)
theorem board_nat {r c : Int} {l : List Int} (h : boardB r c l = true) : ∃ R C : Nat, r = (R : Int) ∧ c = (C : Int) ∧ (1 ≤ R ∧ R ≤ 6) ∧ (1 ≤ C ∧ C ≤ 6) ∧ l.length = R ∧ ∀ i : Nat, i < R → 0 ≤ rd l (i : Int) ∧ rd l (i : Int) ≤ 63 := by
  obtain ⟨hr, hc, hl, hm⟩ := (boardB_iff r c l).1 h; exact ⟨r.toNat, c.toNat, by omega, by omega, by omega, by omega, by omega, fun i hi => board_row h (by omega) (by omega)⟩
theorem rn_impl (r c : Int) (l : List Int) : Ev (fun k => impl_RookNumbers.f k r c l) (numR r c l) := by
  unfold numR
  by_cases h : boardB r c l = true
  · obtain ⟨R, C, rfl, rfl, hR, hC, hl, hm⟩ := board_nat h
    obtain ⟨K, hK⟩ := ev_get (implNum_ev (l := l) (R := R) (C := C) (by omega) (by omega) hl hm); exact ⟨K, fun k hk => by simp only [impl_RookNumbers.f, impl_IsBoard.f, Option.bind_some, h, if_true, hK k hk, Int.toNat_natCast]⟩
  · exact ⟨0, fun k hk => by simp only [impl_RookNumbers.f, impl_IsBoard.f, Option.bind_some, if_neg h]⟩
theorem rn_spec (r c : Int) (l : List Int) (hlb : l.length ≤ 1152921504606846976) : Ev (fun k => spec_RookNumbers.f k r c l) (numR r c l) := by
  obtain ⟨K0, k0⟩ := ev_get (boGood_ev r c l hlb); unfold numR
  by_cases h : boardB r c l = true
  · obtain ⟨R, C, rfl, rfl, hR, hC, hl, hm⟩ := board_nat h
    obtain ⟨K, hK⟩ := ev_get (specNum_ev (l := l) (R := R) (C := C) (by omega) (by omega) hl); exact ⟨K0 + K, fun k hk => by simp only [spec_RookNumbers.f, k0 k (by omega), Option.bind_some, h, if_true, hK k (by omega), Int.toNat_natCast]⟩
  · exact ⟨K0, fun k hk => by simp only [spec_RookNumbers.f, k0 k (by omega), Option.bind_some, if_neg h]⟩
theorem num_short (l : List Int) {R C : Nat} (hC : C ≤ 6) : (num l R C).length ≤ 1000 := by rw [num_len]; omega
theorem most_impl (r c : Int) (l : List Int) : Ev (fun k => impl_MostRooks.f k r c l) (mostR r c l) := by
  unfold mostR
  by_cases h : boardB r c l = true
  · obtain ⟨R, C, rfl, rfl, hR, hC, hl, hm⟩ := board_nat h
    obtain ⟨K, hK⟩ := ev_get (implNum_ev (l := l) (R := R) (C := C) (by omega) (by omega) hl hm); obtain ⟨K2, k2⟩ := ev_get (trimT_ev (num l R C) (num_short l (by omega))); have hs := short_le (num l R C) (num l R C).length (Nat.le_refl _); have hn := num_short l (R := R) (C := C) (by omega); exact ⟨K + K2, fun k hk => by simp only [impl_MostRooks.f, impl_IsBoard.f, Option.bind_some, h, if_true, impl_Board_most.f, hK k (by omega), impl_trimmed.f, k2 k (by omega), Int.toNat_natCast]; rw [w64 _ (by omega) (by omega)]⟩
  · exact ⟨0, fun k hk => by simp only [impl_MostRooks.f, impl_IsBoard.f, Option.bind_some, if_neg h]⟩
theorem most_spec (r c : Int) (l : List Int) (hlb : l.length ≤ 1152921504606846976) : Ev (fun k => spec_MostRooks.f k r c l) (mostR r c l) := by
  obtain ⟨K0, k0⟩ := ev_get (boGood_ev r c l hlb); unfold mostR
  by_cases h : boardB r c l = true
  · obtain ⟨R, C, rfl, rfl, hR, hC, hl, hm⟩ := board_nat h
    obtain ⟨K, hK⟩ := ev_get (specNum_ev (l := l) (R := R) (C := C) (by omega) (by omega) hl); obtain ⟨K2, k2⟩ := ev_get (shortT_ev (num l R C) (num_short l (by omega)) _ (Nat.le_refl _)); have hs := short_le (num l R C) (num l R C).length (Nat.le_refl _); have hn := num_short l (R := R) (C := C) (by omega); exact ⟨K0 + K + K2, fun k hk => by simp only [spec_MostRooks.f, k0 k (by omega), Option.bind_some, h, if_true, hK k (by omega), spec_roShort.f, k2 k (by omega), Int.toNat_natCast]; rw [w64 _ (by omega) (by omega)]⟩
  · exact ⟨K0, fun k hk => by simp only [spec_MostRooks.f, k0 k (by omega), Option.bind_some, if_neg h]⟩
theorem num_turn {l l' : List Int} {R C : Nat} (hR : R ≤ 6) (hC : C ≤ 6) (h : ∀ i j : Nat, i < R → j < C → hasC l' (j : Int) (i : Int) = hasC l (i : Int) (j : Int)) : num l' C R = num l R C := by
  unfold num; rw [Nat.min_comm C R]; exact tab_congr (fun k hk => by rw [ways_rooks l' hR, ways_rooks l hC, rooks_turn h])
theorem num_mirror {l l' : List Int} {R C : Nat} (hC : C ≤ 6) (h : ∀ i j : Nat, i < R → j < C → hasC l' (i : Int) ((C - 1 - j : Nat) : Int) = hasC l (i : Int) (j : Int)) : num l' R C = num l R C :=
  tab_congr (fun k hk => by rw [ways_rooks l' hC, ways_rooks l hC, rooks_mirror h])
theorem j6_ev (r c : Int) (l : List Int) : Ev (fun k => laws_FnRookNumbersAddUp.j6 k (numR r c l).1 (numR r c l).2 (mostR r c l).1 false r c l) true := by
  unfold numR mostR
  by_cases hb : boardB r c l = true
  case neg =>
    rw [if_neg hb, if_neg hb]; refine ⟨1, fun k hk => ?_⟩; obtain ⟨k, rfl⟩ : ∃ m, k = m + 1 := ⟨k - 1, by omega⟩
    dsimp only; rw [laws_FnRookNumbersAddUp.j6, if_neg (by simp), if_neg (by simp)]
  rw [if_pos hb, if_pos hb]; obtain ⟨R, C, rfl, rfl, hR, hC, hl, hm⟩ := board_nat hb; simp only [Int.toNat_natCast]; obtain ⟨K1, k1⟩ := ev_get (CellsOf_ev (R : Int) (C : Int) l); rw [if_pos hb] at k1; obtain ⟨lt, hev2, ht⟩ := turned_ev hb hR.2 hC.2; obtain ⟨K2, k2⟩ := ev_get hev2; obtain ⟨lm, hev3, hml, hmm, hmh⟩ := mirror_ev hb hR.2 hC.2; obtain ⟨K3, k3⟩ := ev_get hev3; have htm : ∀ i : Nat, i < C → 0 ≤ rd lt (i : Int) ∧ rd lt (i : Int) ≤ 63 := by
    intro j hj; obtain ⟨m, e1, e2, _⟩ := ht.2 j hj; have : 2 ^ R ≤ 2 ^ 6 := Nat.pow_le_pow_right (by omega) hR.2; have e6 : (2 : Nat) ^ 6 = 64 := by decide
    dsimp only at e2; rw [e1]; omega
  obtain ⟨K4, k4⟩ := ev_get (implNum_ev (l := lt) (R := C) (C := R) (by omega) (by omega) ht.1 htm); have hp6 : ((2 ^ C : Nat) : Int) ≤ 64 := by
    have h1 : 2 ^ C ≤ 2 ^ 6 := Nat.pow_le_pow_right (by omega) hC.2; have h2 : (2 : Nat) ^ 6 = 64 := by decide
    omega
  obtain ⟨K5, k5⟩ := ev_get (implNum_ev (l := lm) (R := R) (C := C) (by omega) (by omega) hml (fun i hi => by have := hmm i hi; omega)); rw [num_turn (l := l) (l' := lt) hR.2 hC.2 (fun i j hi hj => by
    obtain ⟨m, e1, _, e3⟩ := ht.2 j hj; unfold hasC at e3 ⊢; rw [e1]; exact e3 i hi)] at k4
  rw [num_mirror (l := l) (l' := lm) hC.2 hmh] at k5; have hbt : boardB (C : Int) (R : Int) lt = true := by
    rw [boardB_iff]; refine ⟨by omega, by omega, by rw [ht.1], fun m hmem => ?_⟩; obtain ⟨j, hj, rfl⟩ := List.getElem_of_mem hmem; obtain ⟨m', e1, e2, _⟩ := ht.2 j (by rw [← ht.1]; exact hj); rw [rd_nat _ _ hj] at e1; dsimp only at e2; rw [e1, Int.toNat_natCast]; have e3 : (2 : Int) ^ R = ((2 ^ R : Nat) : Int) := by simp
    rw [e3]; omega
  have hbm : boardB (R : Int) (C : Int) lm = true := by
    rw [boardB_iff]; refine ⟨by omega, by omega, by rw [hml], fun m hmem => ?_⟩; obtain ⟨j, hj, rfl⟩ := List.getElem_of_mem hmem; have h1 := hmm j (by rw [← hml]; exact hj); rw [rd_nat _ _ hj] at h1; rw [Int.toNat_natCast]; have e3 : (2 : Int) ^ C = ((2 ^ C : Nat) : Int) := by simp
    rw [e3]; exact h1
  have n0 : rd (num l R C) 0 = 1 := by
    have := num_rd l (R := R) (C := C) hC.2 (k := 0) (by omega); rw [rooks_zero] at this; exact this
  have n1 : rd (num l R C) 1 = ((cells (R : Int) (C : Int) l).length : Int) := by
    have := num_rd l (R := R) (C := C) hC.2 (k := 1) (by omega); rw [rooks_one] at this; unfold cells; rw [Int.toNat_natCast, Int.toNat_natCast, cells_count l R C R 0 (by omega), Nat.sub_zero]; exact this
  have hlen := num_len l R C; have hs := short_le (num l R C) (num l R C).length (Nat.le_refl _); obtain ⟨K6, k6⟩ := ev_get (rsame_ev (num l R C) (by omega)); obtain ⟨K7, k7⟩ := ev_get (shortT_ev (num l R C) (by omega) _ (Nat.le_refl _)); refine ⟨K1 + K2 + K3 + K4 + K5 + K6 + K7 + 1, fun k hk => ?_⟩; obtain ⟨k, rfl⟩ : ∃ m, k = m + 1 := ⟨k - 1, by omega⟩
  dsimp only; rw [laws_FnRookNumbersAddUp.j6, if_neg (by simp), if_pos rfl]; simp only [impl_CountCells.f, k1 k (by omega), Option.bind_some, impl_TurnBoard.f, impl_IsBoard.f, hb, if_true, k2 k (by omega), k3 k (by omega), impl_RookNumbers.f, hbt, k4 k (by omega), hbm, k5 k (by omega)]; rw [if_pos (by omega), if_pos n0, if_pos (by omega), if_pos n1]; simp only [k6 k (by omega), Option.bind_some, if_true, laws_rShort.f, rshort_same, k7 k (by omega)]; rw [w64 _ (by omega) (by omega)]
  congr 1
  rw [beq_iff_eq]; omega
theorem drawBoard_ok {s : List Int} (hs : Bytes s) : ∃ r c l, Ev (fun k => spec_DrawRookNumbers.f k s) (r, c, l) ∧ l.length ≤ 7 := by
  obtain ⟨R, C, l, a, b, e1, hl, _⟩ := board_ok hs 0 0 (by omega) (by omega); obtain ⟨K, hK⟩ := ev_get e1; exact ⟨R, C, l, ⟨K, fun k hk => by simp only [spec_DrawRookNumbers.f, spec_DrawIsBoard.f, hK k hk, Option.bind_some]⟩, hl⟩
theorem draw_j0 {s : List Int} (hs : Bytes s) (a b : Int) (h0 : 0 ≤ a) (h1 : a ≤ 1000000) (r c : Int) (l : List Int) : ∃ x y, ∀ k, spec_DrawNumbersByCell.j0 (k + 1) false s a b r c l = some (r, c, l, x, y) := by
  obtain ⟨x1, a1, b1, e1, _, _, h2, h3⟩ := pick_ok hs a b 7 (by omega) (by omega); obtain ⟨x2, a2, b2, e2, _, _, h4, h5⟩ := pick_ok hs a1 b1 7 (by omega) (by omega); exact ⟨wrap64 (x1 - 1), wrap64 (x2 - 1), fun k => by rw [spec_DrawNumbersByCell.j0, if_neg (by simp), e1, Option.bind_some]; dsimp only; rw [e2, Option.bind_some]⟩
theorem drawNumbers_ok {s : List Int} (hs : Bytes s) : ∃ r c l x y, Ev (fun k => spec_DrawNumbersByCell.f k s) (r, c, l, x, y) ∧ l.length ≤ 7 := by
  obtain ⟨R, C, l, a, b, e1, hl, _, _, h2, h3⟩ := board_ok hs 0 0 (by omega) (by omega); obtain ⟨K1, k1⟩ := ev_get e1; obtain ⟨K2, k2⟩ := ev_get (boGood_ev R C l (by omega))
  by_cases hb : boardB R C l = true
  case neg =>
    obtain ⟨x, y, hxy⟩ := draw_j0 hs a b (by omega) (by omega) R C l; refine ⟨R, C, l, x, y, ⟨K1 + K2 + 1, fun k hk => ?_⟩, hl⟩; obtain ⟨k, rfl⟩ : ∃ m, k = m + 1 := ⟨k - 1, by omega⟩
    simp only [spec_DrawNumbersByCell.f, k1 (k + 1) (by omega), Option.bind_some, k2 (k + 1) (by omega), if_neg hb]; exact hxy k
  obtain ⟨K3, k3⟩ := ev_get (boCells_ev hb)
  by_cases hc : ((cells R C l).length : Int) > 0
  case neg =>
    obtain ⟨x, y, hxy⟩ := draw_j0 hs a b (by omega) (by omega) R C l; refine ⟨R, C, l, x, y, ⟨K1 + K2 + K3 + 1, fun k hk => ?_⟩, hl⟩; obtain ⟨k, rfl⟩ : ∃ m, k = m + 1 := ⟨k - 1, by omega⟩
    simp only [spec_DrawNumbersByCell.f, k1 (k + 1) (by omega), Option.bind_some, k2 (k + 1) (by omega), if_pos hb, k3 (k + 1) (by omega), if_neg hc]; exact hxy k
  obtain ⟨o, a1, b1, e2, h4, h5⟩ := one_ok hs a b 5 (by omega) (by omega); cases o with
  | true =>
    obtain ⟨x, y, hxy⟩ := draw_j0 hs a1 b1 (by omega) (by omega) R C l; refine ⟨R, C, l, x, y, ⟨K1 + K2 + K3 + 1, fun k hk => ?_⟩, hl⟩; obtain ⟨k, rfl⟩ : ∃ m, k = m + 1 := ⟨k - 1, by omega⟩
    simp only [spec_DrawNumbersByCell.f, k1 (k + 1) (by omega), Option.bind_some, k2 (k + 1) (by omega), if_pos hb, k3 (k + 1) (by omega), if_pos hc, e2, Bool.not_true]; exact hxy k
  | false =>
    have hcl := cells_len hb; obtain ⟨m, a2, b2, e3, h6, h7, h8, h9⟩ := pick_ok hs a1 b1 ((cells R C l).length : Int) (by omega) (by omega); obtain ⟨n, rfl⟩ : ∃ n : Nat, m = (n : Int) := ⟨m.toNat, by omega⟩
    have hn : n < (cells R C l).length := by omega
    obtain ⟨p, q, e4, _, _⟩ := cells_cell hb (List.getElem_mem hn); refine ⟨R, C, l, p, q, ⟨K1 + K2 + K3 + 1, fun k hk => ?_⟩, hl⟩; obtain ⟨k, rfl⟩ : ∃ m, k = m + 1 := ⟨k - 1, by omega⟩
    simp only [spec_DrawNumbersByCell.f, k1 (k + 1) (by omega), Option.bind_some, k2 (k + 1) (by omega), if_pos hb, k3 (k + 1) (by omega), if_pos hc, e2, Bool.not_false]; rw [spec_DrawNumbersByCell.j0, if_pos rfl, k3 k (by omega), Option.bind_some, e3, Option.bind_some]; dsimp only; rw [if_pos (by omega), if_pos (by omega), rdL_nat _ _ hn, e4, if_pos (by simp), if_pos (by simp), rd0, rd1]
theorem drawCW_ok {s : List Int} (hs : Bytes s) : ∃ r c l x y n, Ev (fun k => spec_DrawCountWithCell.f k s) (r, c, l, x, y, n) ∧ l.length ≤ 7 := by
  obtain ⟨r, c, l, x, y, e0, hl⟩ := drawNumbers_ok hs; obtain ⟨K, hK⟩ := ev_get e0; obtain ⟨o, a1, b1, e1, h2, h3⟩ := one_ok hs 0 0 12 (by omega) (by omega); cases o with
  | true =>
    obtain ⟨n, a2, b2, e2, _⟩ := among_ok hs a1 b1 [(-1), 6, 7] (by simp) (by omega) (by omega); exact ⟨r, c, l, x, y, n, ⟨K, fun k hk => by simp only [spec_DrawCountWithCell.f, hK k hk, Option.bind_some, spec_l1Cur_rooks.f, e1, if_true, e2]⟩, hl⟩
  | false =>
    obtain ⟨n, a2, b2, e2, _⟩ := pick_ok hs a1 b1 5 (by omega) (by omega); exact ⟨r, c, l, x, y, n, ⟨K, fun k hk => by simp only [spec_DrawCountWithCell.f, hK k hk, Option.bind_some, spec_l1Cur_rooks.f, e1, Bool.false_eq_true, if_false, e2]⟩, hl⟩
theorem j5_ev {s : List Int} (hs : Bytes s) (r c : Int) (l : List Int) : Ev (fun k => laws_FnRookNumbersAddUp.j5 k s (numR r c l).1 (numR r c l).2 (mostR r c l).1 r c l) true := by
  obtain ⟨r1, c1, l1, x, y, n, e0, hl⟩ := drawCW_ok hs; obtain ⟨K0, k0⟩ := ev_get e0; obtain ⟨K1, k1⟩ := ev_get (cw_impl r1 c1 l1 x y n); obtain ⟨K2, k2⟩ := ev_get (cw_spec r1 c1 l1 x y n (by omega)); obtain ⟨K3, k3⟩ := ev_get (j6_ev r c l); generalize cwR r1 c1 l1 x y n = V at k1 k2; refine ⟨K0 + K1 + K2 + K3 + 1, fun k hk => ?_⟩; obtain ⟨k, rfl⟩ : ∃ m, k = m + 1 := ⟨k - 1, by omega⟩
  have k3' := k3 k (by omega); dsimp only at k3' ⊢; rw [laws_FnRookNumbersAddUp.j5, k0 k (by omega), Option.bind_some]; dsimp only; rw [k1 k (by omega), Option.bind_some, k2 k (by omega), Option.bind_some]; simp only [bne_self_eq_false, Bool.false_eq_true, if_false]; exact k3'
theorem l0_ev {s : List Int} (hs : Bytes s) (r c : Int) (l : List Int) {L : List Int} {R C : Nat} (hb : boardB (R : Int) (C : Int) L = true) (hR : 1 ≤ R ∧ R ≤ 6) (hC : 1 ≤ C ∧ C ≤ 6) (hL : L.length = R) (hmask : ∀ i : Nat, i < R → 0 ≤ rd L (i : Int) ∧ rd L (i : Int) ≤ 63) {x y : Nat} (hx : x < R) (hy : y < C) (hc : hasC L (x : Int) (y : Int) = true) :
    ∀ (d i : Nat), min R C + 1 - i = d → i ≤ min R C + 1 → Ev (fun k => laws_FnRookNumbersAddUp.l0 k s (numR r c l).1 (numR r c l).2 (mostR r c l).1 (x : Int) (y : Int) (num (lessL L x y) R C) (num (strikeFrom x (y : Int) 0 L) (R - 1) (C - 1)) (num L R C) ((num L R C).length : Int) (i : Int) r c l (R : Int) (C : Int) L) true := by
  have hpl : placeB (R : Int) (C : Int) (x : Int) (y : Int) = true := by unfold placeB; exact decide_eq_true ⟨by omega, by omega⟩
  have n1 := num_len L R C; have n2 := num_len (lessL L x y) R C; have n3 := num_len (strikeFrom x (y : Int) 0 L) (R - 1) (C - 1); intro d
  induction d with
  | zero =>
    intro i hd hi; obtain ⟨K, hK⟩ := ev_get (j5_ev hs r c l); refine ⟨K + 1, fun k hk => ?_⟩; obtain ⟨k, rfl⟩ : ∃ m, k = m + 1 := ⟨k - 1, by omega⟩
    dsimp only; rw [laws_FnRookNumbersAddUp.l0, if_neg (by omega)]; exact hK k (by omega)
  | succ d ih =>
    intro i hd hi; have him : i ≤ min R C := by omega
    obtain ⟨K, hK⟩ := ev_get (ih (i + 1) (by omega) (by omega)); obtain ⟨K2, k2⟩ := ev_get (cw_impl (R : Int) (C : Int) L (x : Int) (y : Int) (i : Int)); have hcw : cwR (R : Int) (C : Int) L (x : Int) (y : Int) (i : Int) = ((rooksN L R C i : Int) - (rooksN (lessL L x y) R C i : Int), true) := by
      unfold cwR; rw [hb, hpl, show inB (i : Int) 0 6 = true by simp [inB]; omega, if_pos (by simp)]; simp only [Int.toNat_natCast]
    rw [hcw] at k2; have r1 := num_rd L (R := R) (C := C) hC.2 him; have r2 := num_rd (lessL L x y) (R := R) (C := C) hC.2 him; have s1 := rooks_small L hR.2 hC.2 i; have s2 := rooks_small (lessL L x y) hR.2 hC.2 i; refine ⟨K + K2 + 2, fun k hk => ?_⟩; obtain ⟨k, rfl⟩ : ∃ m, k = m + 2 := ⟨k - 2, by omega⟩
    have hK' := hK k (by omega); dsimp only at hK' ⊢; rw [laws_FnRookNumbersAddUp.l0, if_pos (by omega), if_pos (by omega), if_pos (by omega), if_pos (by omega)]
    by_cases h0 : i = 0
    · subst h0
      rw [if_neg (by omega), laws_FnRookNumbersAddUp.j4, if_neg (by simp), k2 k (by omega), Option.bind_some]; dsimp only; rw [if_pos (by rw [r1, r2, rooks_zero, rooks_zero]), if_pos rfl, if_pos (by omega), if_pos (by omega), if_pos (by rw [r1, r2, w64 _ (by omega) (by omega)]), w64 _ (by omega) (by omega), show ((0 : Nat) : Int) + 1 = ((0 + 1 : Nat) : Int) by omega]; exact hK'
    · obtain ⟨m, rfl⟩ : ∃ m, i = m + 1 := ⟨i - 1, by omega⟩
      have hsp := split_eq hC.2 hL hmask hx hy hc m; have r3 := num_rd (strikeFrom x (y : Int) 0 L) (R := R - 1) (C := C - 1) (by omega) (k := m) (by omega); have s3 := rooks_small (strikeFrom x (y : Int) 0 L) (R := R - 1) (C := C - 1) (by omega) (by omega) m; have hw : wrap64 (((m + 1 : Nat) : Int) - 1) = (m : Int) := by rw [w64 _ (by omega) (by omega)]; omega
      rw [if_pos (by omega), hw, decide_eq_true (by omega), laws_FnRookNumbersAddUp.j4, if_pos rfl, hw, if_pos (by omega), if_pos (by omega), k2 k (by omega), Option.bind_some]; dsimp only; rw [if_pos (by rw [r1, r2, r3, w64 _ (by omega) (by omega)]; omega), if_pos rfl, if_pos (by omega), if_pos (by omega), if_pos (by rw [r1, r2, w64 _ (by omega) (by omega)]), w64 _ (by omega) (by omega), show ((m + 1 : Nat) : Int) + 1 = ((m + 1 + 1 : Nat) : Int) by omega]; exact hK'
theorem j0_ev {s : List Int} (hs : Bytes s) (r c : Int) (l : List Int) : Ev (fun k => laws_FnRookNumbersAddUp.j0 k s (numR r c l).1 (numR r c l).2 (mostR r c l).1 false r c l) true := by
  obtain ⟨r1, c1, L, x, y, e0, hl⟩ := drawNumbers_ok hs; obtain ⟨K0, k0⟩ := ev_get e0; obtain ⟨K1, k1⟩ := ev_get (impl_ev r1 c1 L x y (by omega)); obtain ⟨K2, k2⟩ := ev_get (spec_ev r1 c1 L x y (by omega)); have hsm := R_small r1 c1 L x y (by omega); obtain ⟨K3, k3⟩ := ev_get (rsame_ev (R r1 c1 L x y).1 hsm.1); obtain ⟨K4, k4⟩ := ev_get (rsame_ev (R r1 c1 L x y).2.1 hsm.2); have hg : (R r1 c1 L x y).2.2 = good r1 c1 L x y := by unfold R; split <;> simp_all
  have main : Ev (fun k => laws_FnRookNumbersAddUp.j1 k s (numR r c l).1 (numR r c l).2 (mostR r c l).1 x y (R r1 c1 L x y).1 (R r1 c1 L x y).2.1 (good r1 c1 L x y) false r c l r1 c1 L) true := by
    by_cases h : good r1 c1 L x y = true
    · have h2 := h
      unfold good at h2; rw [Bool.and_eq_true, Bool.and_eq_true] at h2; obtain ⟨⟨hb, hp⟩, hc⟩ := h2; have hpp : (0 ≤ x ∧ x ≤ r1 - 1) ∧ (0 ≤ y ∧ y ≤ c1 - 1) := of_decide_eq_true hp; obtain ⟨R', C', rfl, rfl, hR, hC, hLl, hmask⟩ := board_nat hb; obtain ⟨X, rfl⟩ : ∃ X : Nat, x = X := ⟨x.toNat, by omega⟩
      obtain ⟨Y, rfl⟩ : ∃ Y : Nat, y = Y := ⟨y.toNat, by omega⟩
      obtain ⟨K5, k5⟩ := ev_get (rn_impl (R' : Int) (C' : Int) L); obtain ⟨K6, k6⟩ := ev_get (l0_ev hs r c l hb hR hC hLl hmask (x := X) (y := Y) (by omega) (by omega) hc (min R' C' + 1) 0 (by omega) (by omega)); have e1 : R (R' : Int) (C' : Int) L (X : Int) (Y : Int) = (num (lessL L X Y) R' C', num (strikeFrom X (Y : Int) 0 L) (R' - 1) (C' - 1), true) := by
        unfold R lessL; rw [if_pos h]; simp only [Int.toNat_natCast]
      have e2 : numR (R' : Int) (C' : Int) L = (num L R' C', true) := by unfold numR; rw [if_pos hb, Int.toNat_natCast, Int.toNat_natCast]
      rw [e1, h]; rw [e2] at k5; refine ⟨K5 + K6 + 2, fun k hk => ?_⟩; obtain ⟨k, rfl⟩ : ∃ m, k = m + 2 := ⟨k - 2, by omega⟩
      have k6' := k6 k (by omega); dsimp only at k6' ⊢; rw [laws_FnRookNumbersAddUp.j1, if_neg (by simp), if_pos rfl, k5 (k + 1) (by omega), Option.bind_some]; dsimp only; rw [if_pos rfl, num_len, num_len, bne_self_eq_false, laws_FnRookNumbersAddUp.j2, if_neg (by simp)]; exact k6'
    · obtain ⟨K, hK⟩ := ev_get (j5_ev hs r c l)
      refine ⟨K + 1, fun k hk => ?_⟩; obtain ⟨k, rfl⟩ : ∃ m, k = m + 1 := ⟨k - 1, by omega⟩
      dsimp only; rw [laws_FnRookNumbersAddUp.j1, if_neg (by simp), if_neg h]; exact hK k (by omega)
  obtain ⟨K5, k5⟩ := ev_get main; rw [← hg] at k5; refine ⟨K0 + K1 + K2 + K3 + K4 + K5 + 1, fun k hk => ?_⟩; obtain ⟨k, rfl⟩ : ∃ m, k = m + 1 := ⟨k - 1, by omega⟩
  have k5' := k5 k (by omega); have hon := on_eq r1 c1 L x y; rw [← hg] at hon; dsimp only at k5' ⊢; rw [laws_FnRookNumbersAddUp.j0, if_neg (by simp), k0 k (by omega), Option.bind_some]; dsimp only; rw [k1 k (by omega), Option.bind_some, k2 k (by omega), Option.bind_some, bne_self_eq_false, if_neg (by simp), k3 k (by omega), Option.bind_some, if_pos rfl, k4 k (by omega), Option.bind_some, if_pos rfl, hon, Option.bind_some, bne_self_eq_false]; exact k5'
end FnRookNumbersAddUp
open FnRookNumbersAddUp FnExactNumbersByCell in
theorem FnRookNumbersAddUp : laws_FnRookNumbersAddUp.Pure := by
  intro l0 l1 ha hb hc hd he hf; have hs0 := bytes_of hc; have hs1 := bytes_of hf; obtain ⟨x, hx⟩ := big_eq l0 l1 (by omega) (by omega); cases x with
  | true => exact ⟨0, by unfold laws_FnRookNumbersAddUp.f; rw [hx]; simp⟩
  | false =>
    obtain ⟨r, c, l, e0, hl⟩ := drawBoard_ok hs0; obtain ⟨K0, k0⟩ := ev_get e0; obtain ⟨K1, k1⟩ := ev_get (rn_impl r c l); obtain ⟨K2, k2⟩ := ev_get (rn_spec r c l (by omega)); obtain ⟨K3, k3⟩ := ev_get (most_impl r c l); obtain ⟨K4, k4⟩ := ev_get (most_spec r c l (by omega)); have hn : (numR r c l).1.length ≤ 1000 := by
      unfold numR
      by_cases h : boardB r c l = true
      · obtain ⟨R, C, rfl, rfl, hR, hC, _⟩ := board_nat h
        rw [if_pos h, Int.toNat_natCast, Int.toNat_natCast]; exact num_short l (by omega)
      · rw [if_neg h]; simp
    obtain ⟨K5, k5⟩ := ev_get (rsame_ev (numR r c l).1 hn); obtain ⟨K6, k6⟩ := ev_get (j0_ev hs1 r c l); have hm : (mostR r c l).2 = (numR r c l).2 := by unfold mostR numR; split <;> rfl
    obtain ⟨m, hmm⟩ : ∃ m, m = K0 + K1 + K2 + K3 + K4 + K5 + K6 := ⟨_, rfl⟩
    refine ⟨m, ?_⟩; have k6' := k6 m (by omega); try dsimp only at k6'
    unfold laws_FnRookNumbersAddUp.f; rw [hx]; simp only [Option.bind_some, Bool.false_eq_true, if_false, k0 m (by omega), k1 m (by omega), k2 m (by omega), k3 m (by omega), k4 m (by omega), bne_self_eq_false, k5 m (by omega), if_true, hm]; exact k6'
end Go.Proofs.Ytdoflpghemgbdaa.Pure
