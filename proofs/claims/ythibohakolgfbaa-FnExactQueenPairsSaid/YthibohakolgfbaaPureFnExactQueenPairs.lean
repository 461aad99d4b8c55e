/- For every board QueenPairs returns what the reference returns, and leaves its argument as it was: no condition but that the argument can be read. -/
import Derived.Test.YthibohakolgfbaaPx0
import Derived.Test.YthibohakolgfbaaPx1
import Derived.Test.YthibohakolgfbaaPx10
import Derived.Test.YthibohakolgfbaaPx12
import Derived.Test.YthibohakolgfbaaPx13
import Derived.Test.YthibohakolgfbaaPx14
import Derived.Test.YthibohakolgfbaaPx15
import Derived.Test.YthibohakolgfbaaPx16
import Derived.Test.YthibohakolgfbaaPx17
import Derived.Test.YthibohakolgfbaaPx18
import Derived.Test.YthibohakolgfbaaPx2
import Derived.Test.YthibohakolgfbaaPx3
import Derived.Test.YthibohakolgfbaaPx4
namespace Go.Proofs.Ythibohakolgfbaa.P
open Go.RowKit Go.Proofs.YthibohakolgfbaaW.PrintWords Go.Proofs.YthibohakolgfbaaW.PrintLast Go.Proofs.YthibohakolgfbaaW.PrintMore
set_option linter.unusedVariables false
set_option linter.unusedSimpArgs false
theorem w64 (n : Int) (h : -9223372036854775808 ≤ n) (h2 : n ≤ 9223372036854775807) : wrap64 n = n := by unfold wrap64; omega
theorem rd_nat (l : List Int) (i : Nat) (h : i < l.length) : rd l (i : Int) = l[i] := by
  unfold rd; simp [List.getD_eq_getElem?_getD, List.getElem?_eq_getElem h]
theorem drop_cons (l : List Int) (i : Nat) (h : i < l.length) : l.drop i = l[i] :: l.drop (i + 1) := List.drop_eq_getElem_cons h
theorem ev_get {α : Type} {g : Nat → Option α} {r : α} (h : Ev g r) : ∃ K, ∀ k, K ≤ k → g k = some r := h
theorem take_set_succ {α : Type} (l : List α) (i : Nat) (x : α) (h : i < l.length) : (l.set i x).take (i + 1) = l.take i ++ [x] := by
  rw [List.take_add_one, List.take_set_of_le (Nat.le_refl _)]
  simp [h]
theorem toIntS_l0 (x0 : List Int) (hl : x0.length ≤ 1152921504606846976) : ∀ (d i : Nat) (x3 : List Int) (k : Nat), x0.length - i = d → i ≤ x0.length → x3.length = x0.length → d < k →
    laws_toIntS.l0 k x0 x3 (i : Int) = some (x3.take i ++ x0.drop i) := by
  intro d
  induction d with
  | zero =>
    intro i x3 k hd hi hx hk
    obtain ⟨k, rfl⟩ : ∃ m, k = m + 1 := ⟨k - 1, by omega⟩
    rw [laws_toIntS.l0, if_neg (by omega)]
    have : i = x0.length := by omega
    subst this
    simp [← hx]
  | succ d ih =>
    intro i x3 k hd hi hx hk
    obtain ⟨k, rfl⟩ : ∃ m, k = m + 1 := ⟨k - 1, by omega⟩
    have h1 : i < x0.length := by omega
    rw [laws_toIntS.l0, if_pos (by omega), if_pos (by omega), if_pos (by omega), w64 _ (by omega) (by omega)]
    have := ih (i + 1) (x3.set i (rd x0 i)) k (by omega) (by omega) (by simp [hx]) (by omega)
    rw [show ((i : Int) + 1) = ((i + 1 : Nat) : Int) by omega, show (i : Int).toNat = i by omega, this, rd_nat _ _ h1, drop_cons x0 i h1]
    congr 1
    rw [take_set_succ _ _ _ (by omega)]
    simp
theorem toIntS_ev (l : List Int) (hl : l.length ≤ 35184372088832) : Ev (fun k => laws_toIntS.f k l) l := by
  refine ⟨l.length + 1, fun k hk => ?_⟩
  simp only [laws_toIntS.f]
  rw [if_pos (by omega), if_pos (by omega)]
  have := toIntS_l0 l (by omega) l.length 0 (List.replicate l.length 0) k (by omega) (by omega) (by simp) (by omega)
  simpa using this
theorem eqIntS_l0 (a b : List Int) (hl : a.length = b.length) (hb : a.length ≤ 1152921504606846976) : ∀ (d i : Nat) (k : Nat), a.length - i = d → i ≤ a.length → d < k →
    laws_eqIntS.l0 k a b (i : Int) = some (decide (a.drop i = b.drop i)) := by
  intro d
  induction d with
  | zero =>
    intro i k hd hi hk
    obtain ⟨k, rfl⟩ : ∃ m, k = m + 1 := ⟨k - 1, by omega⟩
    rw [laws_eqIntS.l0, if_neg (by omega)]
    simp [List.drop_eq_nil_of_le (show a.length ≤ i by omega), List.drop_eq_nil_of_le (show b.length ≤ i by omega)]
  | succ d ih =>
    intro i k hd hi hk
    obtain ⟨k, rfl⟩ : ∃ m, k = m + 1 := ⟨k - 1, by omega⟩
    have h1 : i < a.length := by omega
    rw [laws_eqIntS.l0, if_pos (by omega), if_pos (by omega), if_pos (by omega), w64 _ (by omega) (by omega), rd_nat _ _ h1, rd_nat _ _ (show i < b.length by omega)]
    rw [show ((i : Int) + 1) = ((i + 1 : Nat) : Int) by omega, ih (i + 1) k (by omega) (by omega) (by omega)]
    rw [drop_cons a i h1, drop_cons b i (by omega)]
    generalize a.drop (i + 1) = ta, b.drop (i + 1) = tb
    by_cases h : a[i] = b[i]
    · simp [h]
    · simp [h]
theorem eqIntS_ev (a b : List Int) (hb : a.length ≤ 1152921504606846976) : Ev (fun k => laws_eqIntS.f k a b) (decide (a = b)) := by
  refine ⟨a.length + 1, fun k hk => ?_⟩
  simp only [laws_eqIntS.f]
  by_cases h : a.length = b.length
  · rw [if_pos (by omega)]
    have := eqIntS_l0 a b h hb a.length 0 k (by omega) (by omega) (by omega)
    simpa using this
  · rw [if_neg (by omega)]
    congr 1
    symm
    apply decide_eq_false
    intro e
    exact h (by rw [e])
def marks (n : Nat) (k : Int) : List Int := (List.range n).map fun (i : Nat) => k + (i : Int)
theorem marks_succ (n : Nat) (k : Int) : marks (n + 1) k = k :: marks n (k + 1) := by
  unfold marks
  rw [List.range_succ_eq_map, List.map_cons, List.map_map]
  congr 1
  · simp
  · apply List.map_congr_left
    intro a _
    simp
    omega
theorem markIntS_l0 : ∀ (d i : Nat) (x0 : List Int) (x1 : Int) (k : Nat), x0.length - i = d → i ≤ x0.length → d < k → x0.length ≤ 1152921504606846976 → 0 ≤ x1 → x1 + d ≤ 4611686018427387904 →
    laws_markIntS.l0 k x0 x1 (i : Int) = some (x1 + d, x0.take i ++ marks d x1) := by
  intro d
  induction d with
  | zero =>
    intro i x0 x1 k hd hi hk hb h0 h1
    obtain ⟨k, rfl⟩ : ∃ m, k = m + 1 := ⟨k - 1, by omega⟩
    rw [laws_markIntS.l0, if_neg (by omega)]
    have : i = x0.length := by omega
    subst this
    simp [marks]
  | succ d ih =>
    intro i x0 x1 k hd hi hk hb h0 h1
    obtain ⟨k, rfl⟩ : ∃ m, k = m + 1 := ⟨k - 1, by omega⟩
    rw [laws_markIntS.l0, if_pos (by omega), if_pos (by omega), w64 _ (by omega) (by omega), w64 _ (by omega) (by omega)]
    rw [show ((i : Int) + 1) = ((i + 1 : Nat) : Int) by omega, show (i : Int).toNat = i by omega]
    rw [ih (i + 1) (x0.set i x1) (x1 + 1) k (by simp; omega) (by simp; omega) (by omega) (by simpa using hb) (by omega) (by omega)]
    rw [marks_succ]
    congr 2
    · omega
    · rw [take_set_succ _ _ _ (by omega)]
      simp
theorem markIntS_ev (l : List Int) (k1 : Int) (hb : l.length ≤ 1152921504606846976) (h0 : 0 ≤ k1) (h1 : k1 + l.length ≤ 4611686018427387904) : Ev (fun k => laws_markIntS.f k l k1) (k1 + l.length, marks l.length k1) := by
  refine ⟨l.length + 1, fun k hk => ?_⟩
  simp only [laws_markIntS.f]
  have := markIntS_l0 l.length 0 l k1 k (by omega) (by omega) (by omega) hb h0 h1
  simpa using this
def inB (n lo hi : Int) : Bool := decide (lo ≤ n ∧ n ≤ hi)
theorem l1In_eq (a b c : Int) : spec_l1In.f a b c = some (inB a b c) := by
  unfold spec_l1In.f inB
  by_cases h : a ≥ b
  · rw [if_pos h]; congr 1; simp; omega
  · rw [if_neg h]; congr 1; symm; apply decide_eq_false; omega
def allIn (l : List Int) (lo hi : Int) : Bool := l.all fun x => inB x lo hi
theorem l1All_l0 (lo hi : Int) (l : List Int) (hb : l.length ≤ 1152921504606846976) : ∀ (d i : Nat) (k : Nat), l.length - i = d → i ≤ l.length → d < k →
    spec_l1All.l0 k lo hi l (l.length : Int) (i : Int) = some (allIn (l.drop i) lo hi) := by
  intro d
  induction d with
  | zero =>
    intro i k hd hi' hk
    obtain ⟨k, rfl⟩ : ∃ m, k = m + 1 := ⟨k - 1, by omega⟩
    rw [spec_l1All.l0, if_neg (by omega), List.drop_eq_nil_of_le (by omega)]
    rfl
  | succ d ih =>
    intro i k hd hi' hk
    obtain ⟨k, rfl⟩ : ∃ m, k = m + 1 := ⟨k - 1, by omega⟩
    have h1 : i < l.length := by omega
    rw [spec_l1All.l0, if_pos (by omega), if_pos (by omega), if_pos (by omega), l1In_eq, Option.bind_some, w64 _ (by omega) (by omega), rd_nat _ _ h1]
    rw [show ((i : Int) + 1) = ((i + 1 : Nat) : Int) by omega, ih (i + 1) k (by omega) (by omega) (by omega), drop_cons l i h1]
    unfold allIn
    rw [List.all_cons]
    generalize l.drop (i + 1) = tl
    by_cases h : inB l[i] lo hi = true
    · rw [if_pos h, h]; simp
    · rw [if_neg h]; simp at h; rw [h]; simp
theorem l1All_ev (l : List Int) (lo hi : Int) (hb : l.length ≤ 1152921504606846976) : Ev (fun k => spec_l1All.f k l lo hi) (allIn l lo hi) := by
  refine ⟨l.length + 1, fun k hk => ?_⟩
  simp only [spec_l1All.f]
  have := l1All_l0 lo hi l hb l.length 0 k (by omega) (by omega) (by omega)
  simpa using this
end Go.Proofs.Ythibohakolgfbaa.P
namespace Go.Proofs.Ythibohakolgfbaa.P
open Go.RowKit Go.Proofs.YthibohakolgfbaaW.PrintWords Go.Proofs.YthibohakolgfbaaW.PrintLast Go.Proofs.YthibohakolgfbaaW.PrintMore
set_option linter.unusedVariables false
set_option linter.unusedSimpArgs false
theorem boardB_iff (r c : Int) (l : List Int) : boardB r c l = true ↔ (1 ≤ r ∧ r ≤ 6) ∧ (1 ≤ c ∧ c ≤ 6) ∧ (l.length : Int) = r ∧ ∀ m ∈ l, 0 ≤ m ∧ m ≤ 2 ^ c.toNat - 1 := by
  unfold boardB
  simp only [Bool.and_eq_true, decide_eq_true_eq, List.all_eq_true]
  constructor
  · rintro ⟨⟨⟨a, b⟩, c⟩, d⟩; exact ⟨a, b, c, d⟩
  · rintro ⟨a, b, c, d⟩; exact ⟨⟨⟨a, b⟩, c⟩, d⟩
theorem shl_one (c : Int) (h0 : 0 ≤ c) (h1 : c ≤ 62) : shl .i64 1 c = 2 ^ c.toNat := by
  unfold shl
  rw [Int.one_mul, Nat.min_eq_left (show c.toNat ≤ IntKind.i64.bits by have : IntKind.i64.bits = 64 := rfl; omega)]
  rw [i64_w, w64]
  · have : (0 : Int) ≤ 2 ^ c.toNat := Int.le_of_lt (Int.pow_pos (by decide))
    omega
  · have h : (2 : Int) ^ c.toNat ≤ 2 ^ 62 := by
      have := Nat.pow_le_pow_right (show 0 < 2 by decide) (show c.toNat ≤ 62 by omega)
      exact_mod_cast this
    have e : (2 : Int) ^ 62 = 4611686018427387904 := by decide
    omega
theorem pow_le6 (c : Int) (h1 : c ≤ 6) : (2 : Int) ^ c.toNat ≤ 64 := by
  have := Nat.pow_le_pow_right (show 0 < 2 by decide) (show c.toNat ≤ 6 by omega)
  have h : (2 : Int) ^ c.toNat ≤ 2 ^ 6 := by exact_mod_cast this
  exact h
theorem pow_pos2 (c : Int) : (1 : Int) ≤ 2 ^ c.toNat := by
  have : (0 : Int) < 2 ^ c.toNat := Int.pow_pos (by decide)
  omega
theorem boSide_eq (a : Int) : spec_boSide.f a = some (inB a 1 6) := by
  simp only [spec_boSide.f, l1In_eq, Option.bind_some]
theorem boGood_ev (r c : Int) (l : List Int) (hb : l.length ≤ 1152921504606846976) : Ev (fun k => spec_boGood.f k r c l) (boardB r c l) := by
  by_cases h1 : 1 ≤ r ∧ r ≤ 6
  · by_cases h2 : 1 ≤ c ∧ c ≤ 6
    · by_cases h3 : (l.length : Int) = r
      · obtain ⟨K, hK⟩ := ev_get (l1All_ev l 0 (2 ^ c.toNat - 1) hb)
        refine ⟨K, fun k hk => ?_⟩
        have hp := pow_le6 c h2.2
        have hp2 := pow_pos2 c
        simp only [spec_boGood.f, boSide_eq, Option.bind_some]
        rw [if_pos (by simpa [inB] using h1), if_pos (by simpa [inB] using h2), if_pos h3, if_pos (by omega), shl_one c (by omega) (by omega), w64 _ (by omega) (by omega), hK k hk, Option.bind_some]
        congr 1
        unfold boardB allIn inB
        simp [h1, h2, h3]
      · refine ⟨0, fun k hk => ?_⟩
        simp only [spec_boGood.f, boSide_eq, Option.bind_some]
        rw [if_pos (by simpa [inB] using h1), if_pos (by simpa [inB] using h2), if_neg h3]
        congr 1; unfold boardB; simp [h3]
    · refine ⟨0, fun k hk => ?_⟩
      simp only [spec_boGood.f, boSide_eq, Option.bind_some]
      rw [if_pos (by simpa [inB] using h1), if_neg (by simpa [inB] using h2)]
      congr 1; unfold boardB; rw [decide_eq_false h2]; simp
  · refine ⟨0, fun k hk => ?_⟩
    simp only [spec_boGood.f, boSide_eq, Option.bind_some]
    rw [if_neg (by simpa [inB] using h1)]
    congr 1; unfold boardB; rw [decide_eq_false h1]; simp
theorem szBoard_eq (r c : Int) (l : List Int) (left : Int) (h0 : 0 ≤ left) (h1 : left ≤ 1048576) (hl : l.length ≤ maxLen) : laws_szBoard.f r c l left = some (if left - l.length < 0 then -1 else left - l.length) := by
  simp only [laws_szBoard.f, laws_szIntS.f]
  simp only [maxLen] at hl
  rw [w64 _ (by omega) (by omega)]
  split
  · simp only [Option.bind_some]; simp
  · simp only [Option.bind_some]; simp [*]
theorem toBoard_ev (r c : Int) (l : List Int) (hl : l.length ≤ 35184372088832) : Ev (fun k => laws_toBoard.f k r c l) (r, c, l) := by
  obtain ⟨K, hK⟩ := ev_get (toIntS_ev l hl)
  refine ⟨K, fun k hk => ?_⟩
  simp only [laws_toBoard.f, hK k hk, Option.bind_some]
theorem eqBoard_ev (r c : Int) (l : List Int) (hb : l.length ≤ 1152921504606846976) : Ev (fun k => laws_eqBoard.f k r c l r c l) true := by
  obtain ⟨K, hK⟩ := ev_get (eqIntS_ev l l hb)
  refine ⟨K, fun k hk => ?_⟩
  simp only [laws_eqBoard.f, hK k hk, Option.bind_some, if_true, decide_true]
theorem markBoard_ev (r c : Int) (l : List Int) (hb : l.length ≤ 1152921504606846976) : Ev (fun k => laws_markBoard.f k r c l 1) (1 + l.length, marks l.length 1) := by
  obtain ⟨K, hK⟩ := ev_get (markIntS_ev l 1 hb (by omega) (by omega))
  refine ⟨K, fun k hk => ?_⟩
  simp only [laws_markBoard.f, hK k hk, Option.bind_some]
end Go.Proofs.Ythibohakolgfbaa.P
namespace Go.Proofs.Ythibohakolgfbaa.P
open Go.RowKit Go.Proofs.YthibohakolgfbaaW.PrintWords Go.Proofs.YthibohakolgfbaaW.PrintLast Go.Proofs.YthibohakolgfbaaW.PrintMore
set_option linter.unusedVariables false
set_option linter.unusedSimpArgs false
theorem rdL_nat (s : List (List Int)) (i : Nat) (h : i < s.length) : rd_L1 s (i : Int) = s[i] := by
  unfold rd_L1; simp [List.getD_eq_getElem?_getD, List.getElem?_eq_getElem h]
end Go.Proofs.Ythibohakolgfbaa.P
namespace Go.Proofs.Ythibohakolgfbaa.P
open Go.RowKit Go.Proofs.YthibohakolgfbaaW.PrintWords Go.Proofs.YthibohakolgfbaaW.PrintLast Go.Proofs.YthibohakolgfbaaW.PrintMore
set_option linter.unusedVariables false
set_option linter.unusedSimpArgs false
/-- A mask has a column. -/
def hasM (m : Int) (j : Int) : Bool := Int.tmod (shr .i64 m j) 2 == 1
theorem has_bits : ∀ m : Fin 64, ∀ c : Fin 6, (Go.bits .and .i64 (shr .i64 (m.val : Int) (c.val : Int)) 1 == 1) = hasM (m.val : Int) (c.val : Int) := by decide +kernel
theorem has_bits' (m c : Int) (h0 : 0 ≤ m) (h1 : m ≤ 63) (h2 : 0 ≤ c) (h3 : c ≤ 5) : (Go.bits .and .i64 (shr .i64 m c) 1 == 1) = hasM m c := by
  have h := has_bits ⟨m.toNat, by omega⟩ ⟨c.toNat, by omega⟩
  simp only [show ((m.toNat : Nat) : Int) = m by omega, show ((c.toNat : Nat) : Int) = c by omega] at h
  exact h
/-- The board has the cell. -/
def hasC (l : List Int) (i j : Int) : Bool := hasM (rd l i) j
theorem board_row {r c : Int} {l : List Int} (h : boardB r c l = true) {i : Int} (h0 : 0 ≤ i) (h1 : i < r) : 0 ≤ rd l i ∧ rd l i ≤ 63 := by
  obtain ⟨hr, hc, hl, hm⟩ := (boardB_iff r c l).1 h
  have hp6 := pow_le6 c hc.2
  have hx : i.toNat < l.length := by omega
  have := hm l[i.toNat] (List.getElem_mem hx)
  have e : rd l i = l[i.toNat] := by
    have := rd_nat l i.toNat hx
    rwa [show ((i.toNat : Nat) : Int) = i by omega] at this
  rw [e]; omega
theorem boHas_eq {r c : Int} {l : List Int} (h : boardB r c l = true) {i j : Int} (h0 : 0 ≤ i) (h1 : i < r) (h2 : 0 ≤ j) : spec_boHas.f r c l i j = some (hasC l i j) := by
  obtain ⟨hr, hc, hl, hm⟩ := (boardB_iff r c l).1 h
  simp only [spec_boHas.f]
  rw [if_pos h0, if_pos (by omega), if_pos h2]
  rfl
theorem has_eq {r c : Int} {l : List Int} (h : boardB r c l = true) {i j : Int} (h0 : 0 ≤ i) (h1 : i < r) (h2 : 0 ≤ j) (h3 : j < c) : impl_Board_has.f r c l i j = some (hasC l i j) := by
  obtain ⟨hr, hc, hl, hm⟩ := (boardB_iff r c l).1 h
  have hb := board_row h h0 h1
  simp only [impl_Board_has.f]
  rw [if_pos h0, if_pos (by omega), if_pos h2, has_bits' _ _ hb.1 hb.2 h2 (by omega)]
  rfl
theorem crange'_step (s n : Nat) (h : s < n) : List.range' s (n - s) = s :: List.range' (s + 1) (n - (s + 1)) := by
  rw [show n - s = (n - (s + 1)) + 1 by omega, List.range'_succ]
def cellRow (l : List Int) (i C j : Nat) : List (List Int) := (List.range' j (C - j)).flatMap fun (j : Nat) => if hasC l (i : Int) (j : Int) = true then [[(i : Int), (j : Int)]] else []
def cellsFrom (l : List Int) (R C i : Nat) : List (List Int) := (List.range' i (R - i)).flatMap fun (i : Nat) => cellRow l i C 0
theorem cellRow_step (l : List Int) (i C j : Nat) (h : j < C) : cellRow l i C j = (if hasC l (i : Int) (j : Int) = true then [[(i : Int), (j : Int)]] else []) ++ cellRow l i C (j + 1) := by
  unfold cellRow
  rw [crange'_step j C h, List.flatMap_cons]
theorem cellRow_nil (l : List Int) (i C j : Nat) (h : C ≤ j) : cellRow l i C j = [] := by
  unfold cellRow
  rw [show C - j = 0 by omega]; rfl
theorem cellsFrom_step (l : List Int) (R C i : Nat) (h : i < R) : cellsFrom l R C i = cellRow l i C 0 ++ cellsFrom l R C (i + 1) := by
  unfold cellsFrom
  rw [crange'_step i R h, List.flatMap_cons]
theorem cellsFrom_nil (l : List Int) (R C i : Nat) (h : R ≤ i) : cellsFrom l R C i = [] := by
  unfold cellsFrom
  rw [show R - i = 0 by omega]; rfl
theorem cellRow_len (l : List Int) (i C : Nat) : ∀ (d j : Nat), C - j = d → (cellRow l i C j).length ≤ d
  | 0, j, h => by rw [cellRow_nil l i C j (by omega)]; simp
  | d + 1, j, h => by
    rw [cellRow_step l i C j (by omega), List.length_append]
    have := cellRow_len l i C d (j + 1) (by omega)
    split <;> simp <;> omega
theorem cellsFrom_len (l : List Int) (R C : Nat) : ∀ (d i : Nat), R - i = d → (cellsFrom l R C i).length ≤ d * C
  | 0, i, h => by rw [cellsFrom_nil l R C i (by omega)]; simp
  | d + 1, i, h => by
    rw [cellsFrom_step l R C i (by omega), List.length_append, Nat.succ_mul]
    have := cellsFrom_len l R C d (i + 1) (by omega)
    have := cellRow_len l i C C 0 (by omega)
    omega
theorem cellRow_mem (l : List Int) (i C j : Nat) (x : List Int) : x ∈ cellRow l i C j ↔ ∃ q, j ≤ q ∧ q < C ∧ hasC l (i : Int) (q : Int) = true ∧ x = [(i : Int), (q : Int)] := by
  unfold cellRow
  rw [List.mem_flatMap]
  constructor
  · rintro ⟨q, hq, hx⟩
    rw [List.mem_range'_1] at hq
    split at hx
    · rename_i hh
      exact ⟨q, by omega, by omega, hh, by simpa using hx⟩
    · cases hx
  · rintro ⟨q, h1, h2, h3, rfl⟩
    refine ⟨q, by rw [List.mem_range'_1]; omega, ?_⟩
    rw [if_pos h3]; simp
theorem cellsFrom_mem (l : List Int) (R C i : Nat) (x : List Int) : x ∈ cellsFrom l R C i ↔ ∃ p q, i ≤ p ∧ p < R ∧ q < C ∧ hasC l (p : Int) (q : Int) = true ∧ x = [(p : Int), (q : Int)] := by
  unfold cellsFrom
  rw [List.mem_flatMap]
  constructor
  · rintro ⟨p, hp, hx⟩
    rw [List.mem_range'_1] at hp
    obtain ⟨q, _, h2, h3, h4⟩ := (cellRow_mem l p C 0 x).1 hx
    exact ⟨p, q, by omega, by omega, h2, h3, h4⟩
  · rintro ⟨p, q, h1, h2, h3, h4, h5⟩
    exact ⟨p, by rw [List.mem_range'_1]; omega, (cellRow_mem l p C 0 x).2 ⟨q, by omega, h3, h4, h5⟩⟩
def cells (r c : Int) (l : List Int) : List (List Int) := cellsFrom l r.toNat c.toNat 0
/-- Two numbers from 0 to 5. -/
def Cell6 (x : List Int) : Prop := ∃ p q : Int, x = [p, q] ∧ (0 ≤ p ∧ p ≤ 5) ∧ (0 ≤ q ∧ q ≤ 5)
theorem cells_cell {r c : Int} {l : List Int} (h : boardB r c l = true) {x : List Int} (hx : x ∈ cells r c l) : Cell6 x := by
  obtain ⟨hr, hc, _, _⟩ := (boardB_iff r c l).1 h
  obtain ⟨p, q, _, h2, h3, _, rfl⟩ := (cellsFrom_mem l _ _ _ x).1 hx
  exact ⟨p, q, rfl, by omega, by omega⟩
theorem cells_len {r c : Int} {l : List Int} (h : boardB r c l = true) : (cells r c l).length ≤ 36 := by
  obtain ⟨hr, hc, _, _⟩ := (boardB_iff r c l).1 h
  have := cellsFrom_len l r.toNat c.toNat r.toNat 0 (by omega)
  have h2 : r.toNat * c.toNat ≤ 6 * 6 := Nat.mul_le_mul (by omega) (by omega)
  unfold cells; omega
theorem boCells_ev {r c : Int} {l : List Int} (h : boardB r c l = true) : Ev (fun k => spec_boCells.f k r c l) (cells r c l) := by
  obtain ⟨hr, hc, hl, hm⟩ := (boardB_iff r c l).1 h
  obtain ⟨R, rfl⟩ : ∃ R : Nat, r = R := ⟨r.toNat, by omega⟩
  obtain ⟨C, rfl⟩ : ∃ C : Nat, c = C := ⟨c.toNat, by omega⟩
  have hout : ∀ (d i : Nat) (acc : List (List Int)), R - i = d → i ≤ R → acc.length ≤ 6 * i → Ev (fun k => spec_boCells.l0 k acc (i : Int) (R : Int) (C : Int) l) (acc ++ cellsFrom l R C i) := by
    intro d
    induction d with
    | zero =>
      intro i acc hd hi ha
      refine ⟨1, fun k hk => ?_⟩
      obtain ⟨k, rfl⟩ : ∃ m, k = m + 1 := ⟨k - 1, by omega⟩
      dsimp only
      rw [spec_boCells.l0, if_neg (by omega), cellsFrom_nil l R C i (by omega), List.append_nil]
    | succ d ih =>
      intro i acc hd hi ha
      have hin : ∀ (e j : Nat) (acc : List (List Int)), C - j = e → j ≤ C → acc.length ≤ 6 * i + j → Ev (fun k => spec_boCells.l1 k acc (i : Int) (j : Int) (R : Int) (C : Int) l) (acc ++ cellRow l i C j ++ cellsFrom l R C (i + 1)) := by
        intro e
        induction e with
        | zero =>
          intro j acc he hj ha
          obtain ⟨K, hK⟩ := ev_get (ih (i + 1) acc (by omega) (by omega) (by omega))
          refine ⟨K + 1, fun k hk => ?_⟩
          obtain ⟨k, rfl⟩ : ∃ m, k = m + 1 := ⟨k - 1, by omega⟩
          dsimp only
          rw [spec_boCells.l1, if_neg (by omega), cellRow_nil l i C j (by omega), List.append_nil, w64 _ (by omega) (by omega), show ((i : Int) + 1) = ((i + 1 : Nat) : Int) by omega]
          exact hK k (by omega)
        | succ e ihe =>
          intro j acc he hj ha
          obtain ⟨K1, h1⟩ := ev_get (ihe (j + 1) (acc ++ [[(i : Int), (j : Int)]]) (by omega) (by omega) (by simp; omega))
          obtain ⟨K2, h2⟩ := ev_get (ihe (j + 1) acc (by omega) (by omega) (by omega))
          refine ⟨K1 + K2 + 1, fun k hk => ?_⟩
          obtain ⟨k, rfl⟩ : ∃ m, k = m + 1 := ⟨k - 1, by omega⟩
          dsimp only
          rw [spec_boCells.l1, if_pos (by omega), boHas_eq h (by omega) (by omega) (by omega), Option.bind_some, if_pos (show acc.length < 5864062014805 by omega), w64 ((j : Int) + 1) (by omega) (by omega), show ((j : Int) + 1) = ((j + 1 : Nat) : Int) by omega, h1 k (by omega), h2 k (by omega), cellRow_step l i C j (by omega)]
          by_cases hh : hasC l (i : Int) (j : Int) = true
          · rw [if_pos hh, if_pos hh]; simp [List.append_assoc]
          · rw [if_neg hh, if_neg hh]; simp
      obtain ⟨K, hK⟩ := ev_get (hin C 0 acc (by omega) (by omega) (by omega))
      refine ⟨K + 1, fun k hk => ?_⟩
      obtain ⟨k, rfl⟩ : ∃ m, k = m + 1 := ⟨k - 1, by omega⟩
      dsimp only
      rw [spec_boCells.l0, if_pos (by omega), cellsFrom_step l R C i (by omega), ← List.append_assoc]
      exact hK k (by omega)
  obtain ⟨K, hK⟩ := ev_get (hout R 0 [] (by omega) (by omega) (by simp))
  refine ⟨K, fun k hk => ?_⟩
  simp only [spec_boCells.f]
  simpa [cells] using hK k hk
theorem CellsOf_ev (r c : Int) (l : List Int) : Ev (fun k => impl_CellsOf.f k r c l) (if boardB r c l = true then (cells r c l, true) else ([], false)) := by
  by_cases h0 : ¬ boardB r c l = true
  · refine ⟨0, fun k hk => ?_⟩
    simp only [impl_CellsOf.f, impl_IsBoard.f, Option.bind_some, if_neg h0]
  have h := Classical.not_not.1 h0
  rw [if_pos h]
  obtain ⟨hr, hc, hl, hm⟩ := (boardB_iff r c l).1 h
  obtain ⟨R, rfl⟩ : ∃ R : Nat, r = R := ⟨r.toNat, by omega⟩
  obtain ⟨C, rfl⟩ : ∃ C : Nat, c = C := ⟨c.toNat, by omega⟩
  have hout : ∀ (d i : Nat) (acc : List (List Int)), R - i = d → i ≤ R → acc.length ≤ 6 * i → Ev (fun k => impl_CellsOf.l0 k acc (R : Int) (i : Int) (R : Int) (C : Int) l) (acc ++ cellsFrom l R C i, true) := by
    intro d
    induction d with
    | zero =>
      intro i acc hd hi ha
      refine ⟨1, fun k hk => ?_⟩
      obtain ⟨k, rfl⟩ : ∃ m, k = m + 1 := ⟨k - 1, by omega⟩
      dsimp only
      rw [impl_CellsOf.l0, if_neg (by omega), cellsFrom_nil l R C i (by omega), List.append_nil]
    | succ d ih =>
      intro i acc hd hi ha
      have hin : ∀ (e j : Nat) (acc : List (List Int)), C - j = e → j ≤ C → acc.length ≤ 6 * i + j → Ev (fun k => impl_CellsOf.l1 k acc (i : Int) (R : Int) (i : Int) (C : Int) (j : Int) (R : Int) (C : Int) l) (acc ++ cellRow l i C j ++ cellsFrom l R C (i + 1), true) := by
        intro e
        induction e with
        | zero =>
          intro j acc he hj ha
          obtain ⟨K, hK⟩ := ev_get (ih (i + 1) acc (by omega) (by omega) (by omega))
          refine ⟨K + 1, fun k hk => ?_⟩
          obtain ⟨k, rfl⟩ : ∃ m, k = m + 1 := ⟨k - 1, by omega⟩
          dsimp only
          rw [impl_CellsOf.l1, if_neg (by omega), cellRow_nil l i C j (by omega), List.append_nil, w64 _ (by omega) (by omega), show ((i : Int) + 1) = ((i + 1 : Nat) : Int) by omega]
          exact hK k (by omega)
        | succ e ihe =>
          intro j acc he hj ha
          obtain ⟨K1, h1⟩ := ev_get (ihe (j + 1) (acc ++ [[(i : Int), (j : Int)]]) (by omega) (by omega) (by simp; omega))
          obtain ⟨K2, h2⟩ := ev_get (ihe (j + 1) acc (by omega) (by omega) (by omega))
          refine ⟨K1 + K2 + 1, fun k hk => ?_⟩
          obtain ⟨k, rfl⟩ : ∃ m, k = m + 1 := ⟨k - 1, by omega⟩
          dsimp only
          rw [impl_CellsOf.l1, if_pos (by omega), has_eq h (by omega) (by omega) (by omega) (by omega), Option.bind_some, if_pos (show acc.length < 5864062014805 by omega), w64 ((j : Int) + 1) (by omega) (by omega), show ((j : Int) + 1) = ((j + 1 : Nat) : Int) by omega, h1 k (by omega), h2 k (by omega), cellRow_step l i C j (by omega)]
          by_cases hh : hasC l (i : Int) (j : Int) = true
          · rw [if_pos hh, if_pos hh]; simp [List.append_assoc]
          · rw [if_neg hh, if_neg hh]; simp
      obtain ⟨K, hK⟩ := ev_get (hin C 0 acc (by omega) (by omega) (by omega))
      refine ⟨K + 1, fun k hk => ?_⟩
      obtain ⟨k, rfl⟩ : ∃ m, k = m + 1 := ⟨k - 1, by omega⟩
      dsimp only
      rw [impl_CellsOf.l0, if_pos (by omega), cellsFrom_step l R C i (by omega), ← List.append_assoc]
      exact hK k (by omega)
  obtain ⟨K, hK⟩ := ev_get (hout R 0 [] (by omega) (by omega) (by simp))
  refine ⟨K, fun k hk => ?_⟩
  simp only [impl_CellsOf.f, impl_IsBoard.f, Option.bind_some, if_pos h]
  simpa [cells] using hK k hk
theorem rd0 (p q : Int) : rd [p, q] 0 = p := by simp [rd]
theorem rd1 (p q : Int) : rd [p, q] 1 = q := by simp [rd]
def attackB (x y : List Int) : Bool := decide ((rd x 0 - rd y 0).natAbs = (rd x 1 - rd y 1).natAbs)
def queenB (x y : List Int) : Bool := attackB x y || decide (rd x 0 = rd y 0) || decide (rd x 1 = rd y 1)
theorem bAbs_eq (n : Int) (h : -1000 ≤ n) (h2 : n ≤ 1000) : spec_l1Abs.f n = some (n.natAbs : Int) := by
  unfold spec_l1Abs.f spec_l1Most.f
  rw [w64 _ (by omega) (by omega)]
  split
  · simp only [Option.bind_some]; congr 1; omega
  · simp only [Option.bind_some]; congr 1; omega
theorem biAttack_eq {x y : List Int} (hx : Cell6 x) (hy : Cell6 y) : spec_biAttack.f x y = some (attackB x y) := by
  obtain ⟨p, q, rfl, h1, h2⟩ := hx
  obtain ⟨p', q', rfl, h3, h4⟩ := hy
  simp only [spec_biAttack.f, rd0, rd1]
  rw [if_pos (by simp), if_pos (by simp), w64 _ (by omega) (by omega), bAbs_eq _ (by omega) (by omega), Option.bind_some, if_pos (by simp), if_pos (by simp), w64 _ (by omega) (by omega), bAbs_eq _ (by omega) (by omega), Option.bind_some]
  congr 1
  unfold attackB
  rw [Bool.eq_iff_iff, beq_iff_eq, decide_eq_true_iff, rd0, rd1, rd0, rd1]
  omega
theorem biDisturb2_eq {x y : List Int} (hx : Cell6 x) (hy : Cell6 y) : spec_biDisturb.f x y 2 = some (queenB x y) := by
  have ha := biAttack_eq hx hy
  obtain ⟨p, q, rfl, h1, h2⟩ := hx
  obtain ⟨p', q', rfl, h3, h4⟩ := hy
  simp only [spec_biDisturb.f, ha, Option.bind_some]
  rw [if_neg (by decide), if_neg (by decide)]
  unfold queenB
  cases attackB [p, q] [p', q'] with
  | true => simp
  | false =>
    rw [if_neg (by simp), if_pos (by simp), if_pos (by simp), rd0, rd0, rd1, rd1]
    by_cases h : p = p'
    · rw [if_pos h]; simp [h]
    · rw [if_neg h, if_pos (by simp), if_pos (by simp)]
      congr 1
      rw [decide_eq_false h]
      simp only [Bool.false_or]
      rw [Bool.eq_iff_iff, beq_iff_eq, decide_eq_true_iff]
theorem asBishops_eq {x y : List Int} (hx : Cell6 x) (hy : Cell6 y) : impl_asBishops.f x y = some (!attackB x y) := by
  obtain ⟨p, q, rfl, h1, h2⟩ := hx
  obtain ⟨p', q', rfl, h3, h4⟩ := hy
  simp only [impl_asBishops.f, rd0, rd1]
  rw [if_pos (by simp), if_pos (by simp), if_pos (by simp), if_pos (by simp), w64 _ (by omega) (by omega), w64 _ (by omega) (by omega), w64 _ (by omega) (by omega), w64 _ (by omega) (by omega)]
  unfold attackB
  simp only [rd0, rd1]
  by_cases h : p + q = p' + q'
  · rw [if_pos h]; congr 1; rw [decide_eq_true (by omega)]; rfl
  · rw [if_neg h]; congr 1
    rw [Bool.eq_iff_iff, bne_iff_ne, Bool.not_eq_true', decide_eq_false_iff_not]
    omega
theorem asQueens_eq {x y : List Int} (hx : Cell6 x) (hy : Cell6 y) : impl_asQueens.f x y = some (!queenB x y) := by
  have ha := asBishops_eq hx hy
  obtain ⟨p, q, rfl, h1, h2⟩ := hx
  obtain ⟨p', q', rfl, h3, h4⟩ := hy
  simp only [impl_asQueens.f, ha, Option.bind_some, rd0, rd1]
  rw [if_pos (by simp), if_pos (by simp)]
  unfold queenB
  simp only [rd0, rd1]
  by_cases h : p = p'
  · rw [if_pos h]; simp [h]
  · rw [if_neg h, if_pos (by simp), if_pos (by simp)]
    by_cases h5 : q = q'
    · rw [if_pos h5]; simp [h5]
    · rw [if_neg h5]; simp [h, h5]
def cntRow (D : List Int → List Int → Bool) (C : List (List Int)) (i j : Nat) : Nat := ((C.take i).drop j).countP (D (C.getD i []))
def cntFrom (D : List Int → List Int → Bool) (C : List (List Int)) : Nat → Nat → Nat
  | 0, _ => 0
  | d + 1, i => cntRow D C i 0 + cntFrom D C d (i + 1)
theorem cntRow_step (D : List Int → List Int → Bool) (C : List (List Int)) (i j : Nat) (hi : i < C.length) (hj : j < i) : cntRow D C i j = (if D C[i] (C[j]'(by omega)) = true then 1 else 0) + cntRow D C i (j + 1) := by
  unfold cntRow
  rw [List.drop_eq_getElem_cons (by rw [List.length_take]; omega), List.countP_cons, List.getElem_take, List.getD_eq_getElem?_getD, List.getElem?_eq_getElem hi]
  simp only [Option.getD_some]
  omega
theorem cntRow_nil (D : List Int → List Int → Bool) (C : List (List Int)) (i j : Nat) (hj : i ≤ j) : cntRow D C i j = 0 := by
  unfold cntRow
  rw [List.drop_eq_nil_of_le (by rw [List.length_take]; omega)]; rfl
theorem pair_loop (C : List (List Int)) (D : List Int → List Int → Bool) (l0 : Nat → Int → Int → Option (Int × Bool)) (l1 : Nat → Int → Nat → Int → Option (Int × Bool)) (t : Bool) (hC : C.length ≤ 36)
    (hend : ∀ k x (i : Nat), C.length ≤ i → l0 (k + 1) x (i : Int) = some (x, t))
    (hrow : ∀ (i : Nat), i < C.length → ∀ k x, l0 (k + 1) x (i : Int) = l1 k x i 0)
    (hrend : ∀ (i : Nat), i < C.length → ∀ k x (j : Nat), i ≤ j → l1 (k + 1) x i (j : Int) = l0 k x ((i + 1 : Nat) : Int))
    (hstep : ∀ (i : Nat) (hi : i < C.length) (j : Nat) (hj : j < i), ∀ k x, l1 (k + 1) x i (j : Int) = if D C[i] (C[j]'(by omega)) = true then l1 k (wrap64 (x + 1)) i ((j + 1 : Nat) : Int) else l1 k x i ((j + 1 : Nat) : Int)) :
    ∀ (d i : Nat) (x : Int), C.length - i = d → i ≤ C.length → 0 ≤ x → x ≤ 36 * i → Ev (fun k => l0 k x (i : Int)) (x + (cntFrom D C d i : Nat), t) := by
  intro d
  induction d with
  | zero =>
    intro i x hd hi h0 h1
    refine ⟨1, fun k hk => ?_⟩
    obtain ⟨k, rfl⟩ : ∃ m, k = m + 1 := ⟨k - 1, by omega⟩
    dsimp only
    rw [hend k x i (by omega)]
    simp [cntFrom]
  | succ d ih =>
    intro i x hd hi h0 h1
    have hi1 : i < C.length := by omega
    have hin : ∀ (e j : Nat) (x : Int), i - j = e → j ≤ i → 0 ≤ x → x ≤ 36 * i + j → Ev (fun k => l1 k x i (j : Int)) (x + ((cntRow D C i j + cntFrom D C d (i + 1) : Nat) : Int), t) := by
      intro e
      induction e with
      | zero =>
        intro j x he hj h0 h1
        obtain ⟨K, hK⟩ := ev_get (ih (i + 1) x (by omega) (by omega) h0 (by omega))
        refine ⟨K + 1, fun k hk => ?_⟩
        obtain ⟨k, rfl⟩ : ∃ m, k = m + 1 := ⟨k - 1, by omega⟩
        dsimp only
        rw [hrend i hi1 k x j (by omega), hK k (by omega), cntRow_nil D C i j (by omega), Nat.zero_add]
      | succ e ihe =>
        intro j x he hj h0 h1
        have hj1 : j < i := by omega
        obtain ⟨K1, k1⟩ := ev_get (ihe (j + 1) (x + 1) (by omega) (by omega) (by omega) (by omega))
        obtain ⟨K2, k2⟩ := ev_get (ihe (j + 1) x (by omega) (by omega) h0 (by omega))
        refine ⟨K1 + K2 + 1, fun k hk => ?_⟩
        obtain ⟨k, rfl⟩ : ∃ m, k = m + 1 := ⟨k - 1, by omega⟩
        dsimp only
        rw [hstep i hi1 j hj1 k x, w64 (x + 1) (by omega) (by omega), k1 k (by omega), k2 k (by omega), cntRow_step D C i j hi1 hj1]
        by_cases h : D C[i] (C[j]'(by omega)) = true
        · rw [if_pos h, if_pos h]; congr 2; omega
        · rw [if_neg h, if_neg h, Nat.zero_add]
    obtain ⟨K, hK⟩ := ev_get (hin i 0 x (by omega) (by omega) h0 (by omega))
    refine ⟨K + 1, fun k hk => ?_⟩
    obtain ⟨k, rfl⟩ : ∃ m, k = m + 1 := ⟨k - 1, by omega⟩
    dsimp only
    rw [hrow i hi1 k x]
    exact hK k (by omega)
end Go.Proofs.Ythibohakolgfbaa.P
namespace Go.Proofs.Ythibohakolgfbaa.Pure
open Go.RowKit Go.Proofs.Ythibohakolgfbaa.P Go.Proofs.YthibohakolgfbaaW.PrintWords Go.Proofs.YthibohakolgfbaaW.PrintLast
set_option linter.unusedSimpArgs false
set_option linter.unusedVariables false
namespace FnExactQueenPairs
def cnt (r c : Int) (l : List Int) : Nat := cntFrom queenB (cells r c l) (cells r c l).length 0
def R (r c : Int) (l : List Int) : Int × Bool := if boardB r c l = true then ((cnt r c l : Int), true) else (0, false)
theorem getC {r c : Int} {l : List Int} (h : boardB r c l = true) (i : Nat) (hi : i < (cells r c l).length) : Cell6 (cells r c l)[i] := cells_cell h (List.getElem_mem hi)
theorem spec_ev (r c : Int) (l : List Int) (hb : l.length ≤ 1152921504606846976) : Ev (fun k => spec_QueenPairs.f k r c l) (R r c l) := by
  obtain ⟨K1, h1⟩ := ev_get (boGood_ev r c l hb)
  unfold R
  by_cases h : boardB r c l = true
  · obtain ⟨K2, h2⟩ := ev_get (boCells_ev h)
    have hlen := cells_len h
    obtain ⟨K3, h3⟩ := ev_get (pair_loop (cells r c l) queenB (fun k x i => spec_QueenPairs.l0 k x (cells r c l) (cells r c l) ((cells r c l).length : Int) i)
      (fun k x i j => spec_QueenPairs.l1 k x (cells r c l) ((cells r c l).getD i []) (cells r c l) ((cells r c l).length : Int) (i : Int) ((cells r c l).take i) (((cells r c l).take i).length : Int) j) true hlen
      (fun k x i hi => by show spec_QueenPairs.l0 (k + 1) x _ _ _ (i : Int) = _; rw [spec_QueenPairs.l0, if_neg (by omega)])
      (fun i hi k x => by
        show spec_QueenPairs.l0 (k + 1) x _ _ _ (i : Int) = _
        rw [spec_QueenPairs.l0, if_pos (by omega), if_pos (by omega), if_pos (by omega), if_pos (by omega), Option.bind_some, rdL_nat _ _ hi, show ((i : Int)).toNat = i by omega, List.getD_eq_getElem?_getD, List.getElem?_eq_getElem hi]
        rfl)
      (fun i hi k x j hj => by
        show spec_QueenPairs.l1 (k + 1) x _ _ _ _ _ _ _ (j : Int) = _
        rw [spec_QueenPairs.l1, if_neg (by rw [List.length_take]; omega), w64 _ (by omega) (by omega), show ((i : Int) + 1) = ((i + 1 : Nat) : Int) by omega])
      (fun i hi j hj k x => by
        have hjt : j < ((cells r c l).take i).length := by rw [List.length_take]; omega
        show spec_QueenPairs.l1 (k + 1) x _ _ _ _ _ _ _ (j : Int) = _
        rw [spec_QueenPairs.l1, if_pos (by omega), if_pos (by omega), if_pos (by omega), rdL_nat _ _ hjt, List.getElem_take, List.getD_eq_getElem?_getD, List.getElem?_eq_getElem hi, Option.getD_some, biDisturb2_eq (getC h i hi) (getC h j (by omega)), Option.bind_some, w64 ((j : Int) + 1) (by omega) (by omega), show ((j : Int) + 1) = ((j + 1 : Nat) : Int) by omega])
      (cells r c l).length 0 0 (by omega) (by omega) (by omega) (by omega))
    refine ⟨K1 + K2 + K3, fun k hk => ?_⟩
    simp only [spec_QueenPairs.f, h1 k (by omega), Option.bind_some, if_pos h, h2 k (by omega)]
    have := h3 k (by omega)
    simpa [cnt] using this
  · refine ⟨K1, fun k hk => ?_⟩
    simp only [spec_QueenPairs.f, h1 k (by omega), Option.bind_some, if_neg h]
theorem impl_ev (r c : Int) (l : List Int) (hb : l.length ≤ 1152921504606846976) : Ev (fun k => impl_QueenPairs.f k r c l) (R r c l) := by
  obtain ⟨K1, h1⟩ := ev_get (CellsOf_ev r c l)
  unfold R
  by_cases h : boardB r c l = true
  · rw [if_pos h] at h1
    have hlen := cells_len h
    obtain ⟨K3, h3⟩ := ev_get (pair_loop (cells r c l) queenB (fun k x i => impl_QueenPairs.l0 k (cells r c l) true x (cells r c l) ((cells r c l).length : Int) i)
      (fun k x i j => impl_QueenPairs.l1 k (cells r c l) true x ((cells r c l).getD i []) (cells r c l) ((cells r c l).length : Int) (i : Int) ((cells r c l).take i) (((cells r c l).take i).length : Int) j) true hlen
      (fun k x i hi => by show impl_QueenPairs.l0 (k + 1) _ _ x _ _ (i : Int) = _; rw [impl_QueenPairs.l0, if_neg (by omega)])
      (fun i hi k x => by
        show impl_QueenPairs.l0 (k + 1) _ _ x _ _ (i : Int) = _
        rw [impl_QueenPairs.l0, if_pos (by omega), if_pos (by omega), if_pos (by omega), if_pos (by omega), Option.bind_some, rdL_nat _ _ hi, show ((i : Int)).toNat = i by omega, List.getD_eq_getElem?_getD, List.getElem?_eq_getElem hi]
        rfl)
      (fun i hi k x j hj => by
        show impl_QueenPairs.l1 (k + 1) _ _ x _ _ _ _ _ _ (j : Int) = _
        rw [impl_QueenPairs.l1, if_neg (by rw [List.length_take]; omega), w64 _ (by omega) (by omega), show ((i : Int) + 1) = ((i + 1 : Nat) : Int) by omega])
      (fun i hi j hj k x => by
        have hjt : j < ((cells r c l).take i).length := by rw [List.length_take]; omega
        show impl_QueenPairs.l1 (k + 1) _ _ x _ _ _ _ _ _ (j : Int) = _
        rw [impl_QueenPairs.l1, if_pos (by omega), if_pos (by omega), if_pos (by omega), rdL_nat _ _ hjt, List.getElem_take, List.getD_eq_getElem?_getD, List.getElem?_eq_getElem hi, Option.getD_some, asQueens_eq (getC h i hi) (getC h j (by omega)), Option.bind_some, w64 ((j : Int) + 1) (by omega) (by omega), show ((j : Int) + 1) = ((j + 1 : Nat) : Int) by omega]
        cases queenB (cells r c l)[i] (cells r c l)[j] <;> rfl)
      (cells r c l).length 0 0 (by omega) (by omega) (by omega) (by omega))
    refine ⟨K1 + K3, fun k hk => ?_⟩
    simp only [impl_QueenPairs.f, h1 k (by omega), Option.bind_some, if_pos h]
    have := h3 k (by omega)
    simpa [cnt] using this
  · rw [if_neg h] at h1
    refine ⟨K1 + 1, fun k hk => ?_⟩
    obtain ⟨k, rfl⟩ : ∃ m, k = m + 1 := ⟨k - 1, by omega⟩
    simp only [impl_QueenPairs.f, h1 (k + 1) (by omega), Option.bind_some, if_neg h]
    rw [impl_QueenPairs.l0, if_neg (by simp)]
end FnExactQueenPairs
open FnExactQueenPairs in
theorem FnExactQueenPairs : laws_FnExactQueenPairs.Pure := by
  intro a0_0 a0_1 l0_2 hy0 hy1 hy2
  have hl_l0_2 := hy2.1
  simp only [maxLen] at hl_l0_2
  by_cases hb_l0_2 : (1048576 : Int) - l0_2.length < 0
  · refine ⟨0, ?_⟩
    unfold laws_FnExactQueenPairs.f
    rw [szBoard_eq a0_0 a0_1 l0_2 _ (by omega) (by omega) (by simp only [maxLen]; omega), if_pos hb_l0_2, Option.bind_some, if_pos (by omega)]
  have h1 := (szBoard_eq a0_0 a0_1 l0_2 ((1048576 : Int)) (by omega) (by omega) (by simp only [maxLen]; omega)).trans (by rw [if_neg hb_l0_2])
  obtain ⟨K2, h2⟩ := ev_get (spec_ev a0_0 a0_1 l0_2 (by omega))
  obtain ⟨K3, h3⟩ := ev_get (impl_ev a0_0 a0_1 l0_2 (by omega))
  generalize R a0_0 a0_1 l0_2 = R at *
  obtain ⟨K4, h4⟩ := ev_get (toBoard_ev a0_0 a0_1 l0_2 (by omega))
  obtain ⟨K5, h5⟩ := ev_get (eqBoard_ev a0_0 a0_1 l0_2 (by omega))
  obtain ⟨K6, h6⟩ := ev_get (markBoard_ev a0_0 a0_1 l0_2 (by omega))
  have em_l0_2 : ¬ ((1 : Int) + l0_2.length < 0) := by omega
  obtain ⟨m, hm⟩ : ∃ m, m = K2 + K3 + K4 + K5 + K6 := ⟨_, rfl⟩
  replace h2 := fun j => h2 (m + j) (by omega)
  replace h3 := fun j => h3 (m + j) (by omega)
  replace h4 := fun j => h4 (m + j) (by omega)
  replace h5 := fun j => h5 (m + j) (by omega)
  replace h6 := fun j => h6 (m + j) (by omega)
  clear hm
  refine ⟨m + 2, ?_⟩
  unfold laws_FnExactQueenPairs.f
  simp only [h1, h2, h3, h4, h5, h6, Option.bind_some, decide_true, if_true, bne_self_eq_false, Bool.false_eq_true, if_false, if_neg hb_l0_2, if_neg em_l0_2]
  rw [laws_FnExactQueenPairs.j0]
  simp only [h1, h2, h3, h4, h5, h6, Option.bind_some, decide_true, if_true, bne_self_eq_false, Bool.false_eq_true, if_false, if_neg hb_l0_2, if_neg em_l0_2]
end Go.Proofs.Ythibohakolgfbaa.Pure
