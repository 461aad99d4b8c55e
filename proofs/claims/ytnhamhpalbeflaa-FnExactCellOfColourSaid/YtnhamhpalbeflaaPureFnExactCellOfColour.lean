/- For all arguments CellOfColour returns what the reference returns, and leaves its board as it was: no condition but that the arguments can be read. -/
import Derived.Test.YtnhamhpalbeflaaQ5c71cf2213
import Derived.Test.YtnhamhpalbeflaaQa6c99d4994
import Derived.Test.YtnhamhpalbeflaaQf6f8bf20c8
import Derived.Test.YtnhamhpalbeflaaQf062672348
import Derived.Test.YtnhamhpalbeflaaQ17cc13a0c6
namespace Go.Proofs.Ytnhamhpalbeflaa.P
open Go.RowKit Go.Proofs.YtnhamhpalbeflaaW.PrintWords Go.Proofs.YtnhamhpalbeflaaW.PrintLast Go.Proofs.YtnhamhpalbeflaaW.PrintMore
set_option linter.unusedVariables false
set_option linter.unusedSimpArgs false
theorem w64 (n : Int) (h : -9223372036854775808 ≤ n) (h2 : n ≤ 9223372036854775807) : wrap64 n = n := by unfold wrap64; omega
theorem rd_nat (l : List Int) (i : Nat) (h : i < l.length) : rd l (i : Int) = l[i] := by
  unfold rd; simp [List.getD_eq_getElem?_getD, List.getElem?_eq_getElem h]
theorem drop_cons (l : List Int) (i : Nat) (h : i < l.length) : l.drop i = l[i] :: l.drop (i + 1) := List.drop_eq_getElem_cons h
theorem ev_get {α : Type} {g : Nat → Option α} {r : α} (h : Ev g r) : ∃ K, ∀ k, K ≤ k → g k = some r := h
theorem take_set_succ {α : Type} (l : List α) (i : Nat) (x : α) (h : i < l.length) : (l.set i x).take (i + 1) = l.take i ++ [x] := by
  rw [List.take_add_one, List.take_set_of_le (Nat.le_refl _)]
  simp [h]
theorem toIntS_l0 (x0 : List Int) (hl : x0.length ≤ 1152921504606846976) : ∀ (d i : Nat) (x3 : List Int) (k : Nat), x0.length - i = d → i ≤ x0.length → x3.length = x0.length → d < k →
    laws_toIntS.l0 k x0 x3 (i : Int) = some (x3.take i ++ x0.drop i) := by
  intro d
  induction d with
  | zero =>
    intro i x3 k hd hi hx hk
    obtain ⟨k, rfl⟩ : ∃ m, k = m + 1 := ⟨k - 1, by omega⟩
    rw [laws_toIntS.l0, if_neg (by omega)]
    have : i = x0.length := by omega
    subst this
    simp [← hx]
  | succ d ih =>
    intro i x3 k hd hi hx hk
    obtain ⟨k, rfl⟩ : ∃ m, k = m + 1 := ⟨k - 1, by omega⟩
    have h1 : i < x0.length := by omega
    rw [laws_toIntS.l0, if_pos (by omega), if_pos (by omega), if_pos (by omega), w64 _ (by omega) (by omega)]
    have := ih (i + 1) (x3.set i (rd x0 i)) k (by omega) (by omega) (by simp [hx]) (by omega)
    rw [show ((i : Int) + 1) = ((i + 1 : Nat) : Int) by omega, show (i : Int).toNat = i by omega, this, rd_nat _ _ h1, drop_cons x0 i h1]
    congr 1
    rw [take_set_succ _ _ _ (by omega)]
    simp
theorem toIntS_ev (l : List Int) (hl : l.length ≤ 35184372088832) : Ev (fun k => laws_toIntS.f k l) l := by
  refine ⟨l.length + 1, fun k hk => ?_⟩
  simp only [laws_toIntS.f]
  rw [if_pos (by omega), if_pos (by omega)]
  have := toIntS_l0 l (by omega) l.length 0 (List.replicate l.length 0) k (by omega) (by omega) (by simp) (by omega)
  simpa using this
theorem eqIntS_l0 (a b : List Int) (hl : a.length = b.length) (hb : a.length ≤ 1152921504606846976) : ∀ (d i : Nat) (k : Nat), a.length - i = d → i ≤ a.length → d < k →
    laws_eqIntS.l0 k a b (i : Int) = some (decide (a.drop i = b.drop i)) := by
  intro d
  induction d with
  | zero =>
    intro i k hd hi hk
    obtain ⟨k, rfl⟩ : ∃ m, k = m + 1 := ⟨k - 1, by omega⟩
    rw [laws_eqIntS.l0, if_neg (by omega)]
    simp [List.drop_eq_nil_of_le (show a.length ≤ i by omega), List.drop_eq_nil_of_le (show b.length ≤ i by omega)]
  | succ d ih =>
    intro i k hd hi hk
    obtain ⟨k, rfl⟩ : ∃ m, k = m + 1 := ⟨k - 1, by omega⟩
    have h1 : i < a.length := by omega
    rw [laws_eqIntS.l0, if_pos (by omega), if_pos (by omega), if_pos (by omega), w64 _ (by omega) (by omega), rd_nat _ _ h1, rd_nat _ _ (show i < b.length by omega)]
    rw [show ((i : Int) + 1) = ((i + 1 : Nat) : Int) by omega, ih (i + 1) k (by omega) (by omega) (by omega)]
    rw [drop_cons a i h1, drop_cons b i (by omega)]
    generalize a.drop (i + 1) = ta, b.drop (i + 1) = tb
    by_cases h : a[i] = b[i]
    · simp [h]
    · simp [h]
theorem eqIntS_ev (a b : List Int) (hb : a.length ≤ 1152921504606846976) : Ev (fun k => laws_eqIntS.f k a b) (decide (a = b)) := by
  refine ⟨a.length + 1, fun k hk => ?_⟩
  simp only [laws_eqIntS.f]
  by_cases h : a.length = b.length
  · rw [if_pos (by omega)]
    have := eqIntS_l0 a b h hb a.length 0 k (by omega) (by omega) (by omega)
    simpa using this
  · rw [if_neg (by omega)]
    congr 1
    symm
    apply decide_eq_false
    intro e
    exact h (by rw [e])
def inB (n lo hi : Int) : Bool := decide (lo ≤ n ∧ n ≤ hi)
theorem l1In_eq (a b c : Int) : spec_l1In.f a b c = some (inB a b c) := by
  unfold spec_l1In.f inB
  by_cases h : a ≥ b
  · rw [if_pos h]; congr 1; simp; omega
  · rw [if_neg h]; congr 1; symm; apply decide_eq_false; omega
theorem within_eq (a b c : Int) : impl_within.f a b c = some (inB a b c) := by
  unfold impl_within.f inB
  by_cases h : b ≤ a
  · rw [if_pos h]; congr 1; simp; omega
  · rw [if_neg h]; congr 1; symm; apply decide_eq_false; omega
def allIn (l : List Int) (lo hi : Int) : Bool := l.all fun x => inB x lo hi
theorem l1All_l0 (lo hi : Int) (l : List Int) (hb : l.length ≤ 1152921504606846976) : ∀ (d i : Nat) (k : Nat), l.length - i = d → i ≤ l.length → d < k →
    spec_l1All.l0 k lo hi l (l.length : Int) (i : Int) = some (allIn (l.drop i) lo hi) := by
  intro d
  induction d with
  | zero =>
    intro i k hd hi' hk
    obtain ⟨k, rfl⟩ : ∃ m, k = m + 1 := ⟨k - 1, by omega⟩
    rw [spec_l1All.l0, if_neg (by omega), List.drop_eq_nil_of_le (by omega)]
    rfl
  | succ d ih =>
    intro i k hd hi' hk
    obtain ⟨k, rfl⟩ : ∃ m, k = m + 1 := ⟨k - 1, by omega⟩
    have h1 : i < l.length := by omega
    rw [spec_l1All.l0, if_pos (by omega), if_pos (by omega), if_pos (by omega), l1In_eq, Option.bind_some, w64 _ (by omega) (by omega), rd_nat _ _ h1]
    rw [show ((i : Int) + 1) = ((i + 1 : Nat) : Int) by omega, ih (i + 1) k (by omega) (by omega) (by omega), drop_cons l i h1]
    unfold allIn
    rw [List.all_cons]
    generalize l.drop (i + 1) = tl
    by_cases h : inB l[i] lo hi = true
    · rw [if_pos h, h]; simp
    · rw [if_neg h]; simp at h; rw [h]; simp
theorem l1All_ev (l : List Int) (lo hi : Int) (hb : l.length ≤ 1152921504606846976) : Ev (fun k => spec_l1All.f k l lo hi) (allIn l lo hi) := by
  refine ⟨l.length + 1, fun k hk => ?_⟩
  simp only [spec_l1All.f]
  have := l1All_l0 lo hi l hb l.length 0 k (by omega) (by omega) (by omega)
  simpa using this
end Go.Proofs.Ytnhamhpalbeflaa.P
namespace Go.Proofs.Ytnhamhpalbeflaa.P
open Go.RowKit Go.Proofs.YtnhamhpalbeflaaW.PrintWords Go.Proofs.YtnhamhpalbeflaaW.PrintLast Go.Proofs.YtnhamhpalbeflaaW.PrintMore
set_option linter.unusedVariables false
set_option linter.unusedSimpArgs false
theorem boardB_iff (r c : Int) (l : List Int) : boardB r c l = true ↔ (1 ≤ r ∧ r ≤ 6) ∧ (1 ≤ c ∧ c ≤ 6) ∧ (l.length : Int) = r ∧ ∀ m ∈ l, 0 ≤ m ∧ m ≤ 2 ^ c.toNat - 1 := by
  unfold boardB
  simp only [Bool.and_eq_true, decide_eq_true_eq, List.all_eq_true]
  constructor
  · rintro ⟨⟨⟨a, b⟩, c⟩, d⟩; exact ⟨a, b, c, d⟩
  · rintro ⟨a, b, c, d⟩; exact ⟨⟨⟨a, b⟩, c⟩, d⟩
theorem shl_one (c : Int) (h0 : 0 ≤ c) (h1 : c ≤ 62) : shl .i64 1 c = 2 ^ c.toNat := by
  unfold shl
  rw [Int.one_mul, Nat.min_eq_left (show c.toNat ≤ IntKind.i64.bits by have : IntKind.i64.bits = 64 := rfl; omega)]
  rw [i64_w, w64]
  · have : (0 : Int) ≤ 2 ^ c.toNat := Int.le_of_lt (Int.pow_pos (by decide))
    omega
  · have h : (2 : Int) ^ c.toNat ≤ 2 ^ 62 := by
      have := Nat.pow_le_pow_right (show 0 < 2 by decide) (show c.toNat ≤ 62 by omega)
      exact_mod_cast this
    have e : (2 : Int) ^ 62 = 4611686018427387904 := by decide
    omega
theorem pow_le6 (c : Int) (h1 : c ≤ 6) : (2 : Int) ^ c.toNat ≤ 64 := by
  have := Nat.pow_le_pow_right (show 0 < 2 by decide) (show c.toNat ≤ 6 by omega)
  have h : (2 : Int) ^ c.toNat ≤ 2 ^ 6 := by exact_mod_cast this
  exact h
theorem pow_pos2 (c : Int) : (1 : Int) ≤ 2 ^ c.toNat := by
  have : (0 : Int) < 2 ^ c.toNat := Int.pow_pos (by decide)
  omega
theorem boSide_eq (a : Int) : spec_boSide.f a = some (inB a 1 6) := by
  simp only [spec_boSide.f, l1In_eq, Option.bind_some]
theorem boGood_ev (r c : Int) (l : List Int) (hb : l.length ≤ 1152921504606846976) : Ev (fun k => spec_boGood.f k r c l) (boardB r c l) := by
  by_cases h1 : 1 ≤ r ∧ r ≤ 6
  · by_cases h2 : 1 ≤ c ∧ c ≤ 6
    · by_cases h3 : (l.length : Int) = r
      · obtain ⟨K, hK⟩ := ev_get (l1All_ev l 0 (2 ^ c.toNat - 1) hb)
        refine ⟨K, fun k hk => ?_⟩
        have hp := pow_le6 c h2.2
        have hp2 := pow_pos2 c
        simp only [spec_boGood.f, boSide_eq, Option.bind_some]
        rw [if_pos (by simpa [inB] using h1), if_pos (by simpa [inB] using h2), if_pos h3, if_pos (by omega), shl_one c (by omega) (by omega), w64 _ (by omega) (by omega), hK k hk, Option.bind_some]
        congr 1
        unfold boardB allIn inB
        simp [h1, h2, h3]
      · refine ⟨0, fun k hk => ?_⟩
        simp only [spec_boGood.f, boSide_eq, Option.bind_some]
        rw [if_pos (by simpa [inB] using h1), if_pos (by simpa [inB] using h2), if_neg h3]
        congr 1; unfold boardB; simp [h3]
    · refine ⟨0, fun k hk => ?_⟩
      simp only [spec_boGood.f, boSide_eq, Option.bind_some]
      rw [if_pos (by simpa [inB] using h1), if_neg (by simpa [inB] using h2)]
      congr 1; unfold boardB; rw [decide_eq_false h2]; simp
  · refine ⟨0, fun k hk => ?_⟩
    simp only [spec_boGood.f, boSide_eq, Option.bind_some]
    rw [if_neg (by simpa [inB] using h1)]
    congr 1; unfold boardB; rw [decide_eq_false h1]; simp
theorem szBoard_eq (r c : Int) (l : List Int) (left : Int) (h0 : 0 ≤ left) (h1 : left ≤ 1048576) (hl : l.length ≤ maxLen) : laws_szBoard.f r c l left = some (if left - l.length < 0 then -1 else left - l.length) := by
  simp only [laws_szBoard.f, laws_szIntS.f]
  simp only [maxLen] at hl
  rw [w64 _ (by omega) (by omega)]
  split
  · simp only [Option.bind_some]; simp
  · simp only [Option.bind_some]; simp [*]
theorem toBoard_ev (r c : Int) (l : List Int) (hl : l.length ≤ 35184372088832) : Ev (fun k => laws_toBoard.f k r c l) (r, c, l) := by
  obtain ⟨K, hK⟩ := ev_get (toIntS_ev l hl)
  refine ⟨K, fun k hk => ?_⟩
  simp only [laws_toBoard.f, hK k hk, Option.bind_some]
theorem eqBoard_ev (r c : Int) (l : List Int) (hb : l.length ≤ 1152921504606846976) : Ev (fun k => laws_eqBoard.f k r c l r c l) true := by
  obtain ⟨K, hK⟩ := ev_get (eqIntS_ev l l hb)
  refine ⟨K, fun k hk => ?_⟩
  simp only [laws_eqBoard.f, hK k hk, Option.bind_some, if_true, decide_true]
end Go.Proofs.Ytnhamhpalbeflaa.P
namespace Go.Proofs.Ytnhamhpalbeflaa.P
open Go.RowKit Go.Proofs.YtnhamhpalbeflaaW.PrintWords Go.Proofs.YtnhamhpalbeflaaW.PrintLast Go.Proofs.YtnhamhpalbeflaaW.PrintMore
set_option linter.unusedVariables false
set_option linter.unusedSimpArgs false
/-- A mask has a column. -/
def hasM (m : Int) (j : Int) : Bool := Int.tmod (shr .i64 m j) 2 == 1
theorem has_bits : ∀ m : Fin 64, ∀ c : Fin 6, (Go.bits .and .i64 (shr .i64 (m.val : Int) (c.val : Int)) 1 == 1) = hasM (m.val : Int) (c.val : Int) := by decide +kernel
theorem has_bits' (m c : Int) (h0 : 0 ≤ m) (h1 : m ≤ 63) (h2 : 0 ≤ c) (h3 : c ≤ 5) : (Go.bits .and .i64 (shr .i64 m c) 1 == 1) = hasM m c := by
  have h := has_bits ⟨m.toNat, by omega⟩ ⟨c.toNat, by omega⟩
  simp only [show ((m.toNat : Nat) : Int) = m by omega, show ((c.toNat : Nat) : Int) = c by omega] at h
  exact h
/-- The board has the cell. -/
def hasC (l : List Int) (i j : Int) : Bool := hasM (rd l i) j
theorem board_row {r c : Int} {l : List Int} (h : boardB r c l = true) {i : Int} (h0 : 0 ≤ i) (h1 : i < r) : 0 ≤ rd l i ∧ rd l i ≤ 63 := by
  obtain ⟨hr, hc, hl, hm⟩ := (boardB_iff r c l).1 h
  have hp6 := pow_le6 c hc.2
  have hx : i.toNat < l.length := by omega
  have := hm l[i.toNat] (List.getElem_mem hx)
  have e : rd l i = l[i.toNat] := by
    have := rd_nat l i.toNat hx
    rwa [show ((i.toNat : Nat) : Int) = i by omega] at this
  rw [e]; omega
theorem has_eq {r c : Int} {l : List Int} (h : boardB r c l = true) {i j : Int} (h0 : 0 ≤ i) (h1 : i < r) (h2 : 0 ≤ j) (h3 : j < c) : impl_Board_has.f r c l i j = some (hasC l i j) := by
  obtain ⟨hr, hc, hl, hm⟩ := (boardB_iff r c l).1 h
  have hb := board_row h h0 h1
  simp only [impl_Board_has.f]
  rw [if_pos h0, if_pos (by omega), if_pos h2, has_bits' _ _ hb.1 hb.2 h2 (by omega)]
  rfl
def cellRow (l : List Int) (i C j : Nat) : List (List Int) := (List.range' j (C - j)).flatMap fun (j : Nat) => if hasC l (i : Int) (j : Int) = true then [[(i : Int), (j : Int)]] else []
def cellsFrom (l : List Int) (R C i : Nat) : List (List Int) := (List.range' i (R - i)).flatMap fun (i : Nat) => cellRow l i C 0
def cells (r c : Int) (l : List Int) : List (List Int) := cellsFrom l r.toNat c.toNat 0
end Go.Proofs.Ytnhamhpalbeflaa.P
namespace Go.Proofs.Ytnhamhpalbeflaa.P
open Go.RowKit Go.Proofs.YtnhamhpalbeflaaW.PrintWords Go.Proofs.YtnhamhpalbeflaaW.PrintLast Go.Proofs.YtnhamhpalbeflaaW.PrintMore
set_option linter.unusedVariables false
set_option linter.unusedSimpArgs false
/-- The places of a colour, row by row. -/
def cellsQ (R C q : Nat) : List (Nat × Nat) := (List.range R).flatMap fun r => ((List.range C).filter fun c => (r + c) % 2 = q).map fun c => (r, c)
def upN (R C q : Nat) : List Nat := (List.range (R + C)).filter fun s => (cellsQ R C q).any fun x => x.1 + x.2 == s
def downN (R C q : Nat) : List Nat := (List.range (R + C)).filter fun s => (cellsQ R C q).any fun x => x.1 + C == s + x.2 + 1
def upL (R C q : Nat) : List Int := (upN R C q).map fun (s : Nat) => (s : Int)
def downL (R C q : Nat) : List Int := (downN R C q).map fun (s : Nat) => (s : Int)
/-- The place on two diagonals, if there is one. -/
def crossN (R C u d : Nat) : Option (Nat × Nat) := if C ≤ u + d + 1 ∧ (u + d + 1 - C) % 2 = 0 ∧ (u + d + 1 - C) / 2 < R ∧ (u + d + 1 - C) / 2 ≤ u ∧ u - (u + d + 1 - C) / 2 < C then some ((u + d + 1 - C) / 2, u - (u + d + 1 - C) / 2) else none
theorem lines_len : ∀ R : Fin 7, ∀ C : Fin 7, ∀ q : Fin 2, (upN R.val C.val q.val).length ≤ 6 ∧ (downN R.val C.val q.val).length ≤ 6 ∧ ((upN R.val C.val q.val).length = 0 ↔ (downN R.val C.val q.val).length = 0) := by decide +kernel
/-- A mask of the columns that f holds. -/
def mk (f : Nat → Bool) : Nat → Int
  | 0 => 0
  | j + 1 => mk f j + if f j = true then ((2 ^ j : Nat) : Int) else 0
theorem mk_nat (f : Nat → Bool) : ∀ j, ∃ m : Nat, mk f j = (m : Int) ∧ m < 2 ^ j
  | 0 => ⟨0, rfl, by decide⟩
  | j + 1 => by
    obtain ⟨m, e, h⟩ := mk_nat f j
    have e2 : 2 ^ (j + 1) = 2 ^ j + 2 ^ j := by rw [Nat.pow_succ]; omega
    simp only [mk, e]
    split
    · exact ⟨m + 2 ^ j, by omega, by omega⟩
    · exact ⟨m, by omega, by omega⟩
def sumL : List Int → Int
  | [] => 0
  | x :: l => x + sumL l
/-- Of places with columns: the bits of those that the board holds. -/
def bits (l : List Int) (xs : List ((Nat × Nat) × Nat)) : Int := sumL (xs.map fun x => if hasC l (x.1.1 : Int) (x.1.2 : Int) = true then ((2 ^ x.2 : Nat) : Int) else 0)
def crossB (R C : Nat) (l : List Int) (u d : Nat) : Bool := (crossN R C u d).any fun x => hasC l (x.1 : Int) (x.2 : Int)
/-- The cells of the colour board. -/
def colL (R C q : Nat) (l : List Int) : List Int := (upN R C q).map fun u => mk (fun k => crossB R C l u ((downN R C q).getD k 0)) (downN R C q).length
theorem colL_length (R C q : Nat) (l : List Int) : (colL R C q l).length = (upN R C q).length := by simp [colL]
end Go.Proofs.Ytnhamhpalbeflaa.P
namespace Go.Proofs.Ytnhamhpalbeflaa.P
open Go.RowKit Go.Proofs.YtnhamhpalbeflaaW.PrintWords Go.Proofs.YtnhamhpalbeflaaW.PrintLast Go.Proofs.YtnhamhpalbeflaaW.PrintMore
set_option linter.unusedVariables false
set_option linter.unusedSimpArgs false
theorem col_nat {R C q : Int} {l : List Int} (h : boardB R C l = true) (hq : inB q 0 1 = true) : ∃ R' C' q' : Nat, R = R' ∧ C = C' ∧ q = q' ∧ R' ≤ 6 ∧ C' ≤ 6 ∧ q' ≤ 1 := by
  have hb := (boardB_iff _ _ _).1 h
  have hq2 : 0 ≤ q ∧ q ≤ 1 := by simpa [inB] using hq
  exact ⟨R.toNat, C.toNat, q.toNat, by omega, by omega, by omega, by omega, by omega, by omega⟩
theorem diag_l (l : List Int) : ∀ k, (∀ q u d n i R C, impl_Board_diagonals.l0 k q u d n i R C l = impl_Board_diagonals.l0 k q u d n i R C []) ∧ (∀ q u d b n i m j R C, impl_Board_diagonals.l1 k q u d b n i m j R C l = impl_Board_diagonals.l1 k q u d b n i m j R C []) := by
  intro k
  induction k with
  | zero => exact ⟨fun _ _ _ _ _ _ _ => rfl, fun _ _ _ _ _ _ _ _ _ _ => rfl⟩
  | succ k ih =>
    refine ⟨fun q u d n i R C => ?_, fun q u d b n i m j R C => ?_⟩
    · unfold impl_Board_diagonals.l0
      rw [ih.2]
    · unfold impl_Board_diagonals.l1
      simp only [fun q u d b n i m j R C => ih.2 q u d b n i m j R C, fun q u d n i R C => ih.1 q u d n i R C]
theorem diag_ok : ∀ R : Fin 7, ∀ C : Fin 7, ∀ q : Fin 2, impl_Board_diagonals.f 60 (R.val : Int) (C.val : Int) [] (q.val : Int) = some (upL R.val C.val q.val, downL R.val C.val q.val) := by decide +kernel
theorem diag_ev (R C q : Nat) (hR : R ≤ 6) (hC : C ≤ 6) (hq : q ≤ 1) (l : List Int) : Ev (fun k => impl_Board_diagonals.f k (R : Int) (C : Int) l (q : Int)) (upL R C q, downL R C q) := by
  refine Ev.of (impl_Board_diagonals.mono _ _ _ _) (k := 60) ?_
  have h := diag_ok ⟨R, by omega⟩ ⟨C, by omega⟩ ⟨q, by omega⟩
  simp only at h
  rw [← h]
  exact (diag_l l 60).1 _ _ _ _ _ _ _
theorem lines_l (l : List Int) : ∀ k, (∀ q u d i R C, spec_biLines.l0 k q u d i R C l = spec_biLines.l0 k q u d i R C []) ∧ (∀ q u d i j R C, spec_biLines.l1 k q u d i j R C l = spec_biLines.l1 k q u d i j R C []) := by
  intro k
  induction k with
  | zero => exact ⟨fun _ _ _ _ _ _ => rfl, fun _ _ _ _ _ _ _ => rfl⟩
  | succ k ih =>
    refine ⟨fun q u d i R C => ?_, fun q u d i j R C => ?_⟩
    · unfold spec_biLines.l0
      rw [ih.2]
    · unfold spec_biLines.l1
      simp only [spec_biDiagonals.f, fun q u d i j R C => ih.2 q u d i j R C, fun q u d i R C => ih.1 q u d i R C]
theorem lines_ok : ∀ R : Fin 7, ∀ C : Fin 7, ∀ q : Fin 2, spec_biLines.f 60 (R.val : Int) (C.val : Int) [] (q.val : Int) = some (upL R.val C.val q.val, downL R.val C.val q.val) := by decide +kernel
theorem lines_ev (R C q : Nat) (hR : R ≤ 6) (hC : C ≤ 6) (hq : q ≤ 1) (l : List Int) : Ev (fun k => spec_biLines.f k (R : Int) (C : Int) l (q : Int)) (upL R C q, downL R C q) := by
  refine Ev.of (spec_biLines.mono _ _ _ _) (k := 60) ?_
  have h := lines_ok ⟨R, by omega⟩ ⟨C, by omega⟩ ⟨q, by omega⟩
  simp only at h
  rw [← h]
  exact (lines_l l 60).1 _ _ _ _ _ _
theorem upL_length (R C q : Nat) : (upL R C q).length = (upN R C q).length := by simp [upL]
theorem downL_length (R C q : Nat) : (downL R C q).length = (downN R C q).length := by simp [downL]
theorem upN_small : ∀ R : Fin 7, ∀ C : Fin 7, ∀ q : Fin 2, (∀ x ∈ upN R.val C.val q.val, x < 12) ∧ (∀ x ∈ downN R.val C.val q.val, x < 12) := by decide +kernel
theorem up_at {R C q : Nat} (hR : R ≤ 6) (hC : C ≤ 6) (hq : q ≤ 1) {i : Nat} (hi : i < (upN R C q).length) : rd (upL R C q) (i : Int) = ((upN R C q).getD i 0 : Nat) ∧ (upN R C q).getD i 0 < 12 := by
  have h := (upN_small ⟨R, by omega⟩ ⟨C, by omega⟩ ⟨q, by omega⟩).1 _ (List.getElem_mem hi)
  refine ⟨?_, by rw [List.getD_eq_getElem?_getD, List.getElem?_eq_getElem hi]; exact h⟩
  rw [rd_nat _ _ (by rw [upL_length]; exact hi)]
  simp [upL, hi, List.getD_eq_getElem?_getD]
theorem down_at {R C q : Nat} (hR : R ≤ 6) (hC : C ≤ 6) (hq : q ≤ 1) {i : Nat} (hi : i < (downN R C q).length) : rd (downL R C q) (i : Int) = ((downN R C q).getD i 0 : Nat) ∧ (downN R C q).getD i 0 < 12 := by
  have h := (upN_small ⟨R, by omega⟩ ⟨C, by omega⟩ ⟨q, by omega⟩).2 _ (List.getElem_mem hi)
  refine ⟨?_, by rw [List.getD_eq_getElem?_getD, List.getElem?_eq_getElem hi]; exact h⟩
  rw [rd_nat _ _ (by rw [downL_length]; exact hi)]
  simp [downL, hi, List.getD_eq_getElem?_getD]
def crossV (R C u d : Nat) : Int × Int × Bool := (impl_Board_crossing.f (R : Int) (C : Int) [] (u : Int) (d : Int)).getD (0, 0, false)
theorem cross_ok : ∀ R : Fin 7, ∀ C : Fin 7, ∀ u : Fin 12, ∀ d : Fin 12, impl_Board_crossing.f (R.val : Int) (C.val : Int) [] (u.val : Int) (d.val : Int) = some (crossV R.val C.val u.val d.val) ∧ crossN R.val C.val u.val d.val = (if (crossV R.val C.val u.val d.val).2.2 = true then some ((crossV R.val C.val u.val d.val).1.toNat, (crossV R.val C.val u.val d.val).2.1.toNat) else none) ∧ ((crossV R.val C.val u.val d.val).2.2 = true → (0 ≤ (crossV R.val C.val u.val d.val).1 ∧ (crossV R.val C.val u.val d.val).1 < R.val) ∧ (0 ≤ (crossV R.val C.val u.val d.val).2.1 ∧ (crossV R.val C.val u.val d.val).2.1 < C.val)) := by decide +kernel
theorem cross_eq {R C u d : Nat} (hR : R ≤ 6) (hC : C ≤ 6) (hu : u < 12) (hd : d < 12) (l : List Int) : impl_Board_crossing.f (R : Int) (C : Int) l (u : Int) (d : Int) = some (crossV R C u d) := (cross_ok ⟨R, by omega⟩ ⟨C, by omega⟩ ⟨u, hu⟩ ⟨d, hd⟩).1
theorem cell_ok : ∀ R : Fin 7, ∀ C : Fin 7, ∀ u : Fin 12, ∀ d : Fin 12, spec_biCell.j0 1 0 0 [(u.val : Int)] [(d.val : Int)] false (R.val : Int) (C.val : Int) [] = some (if (crossV R.val C.val u.val d.val).2.2 = true then ((crossV R.val C.val u.val d.val).1, (crossV R.val C.val u.val d.val).2.1, true) else (0, 0, false)) := by decide +kernel
theorem cell_j0 (k : Nat) (r c : Int) (U D : List Int) (R C : Int) (l : List Int) (h0 : 0 ≤ r) (h1 : r < (U.length : Int)) (h2 : 0 ≤ c) (h3 : c < (D.length : Int)) : spec_biCell.j0 (k + 1) r c U D false R C l = spec_biCell.j0 1 0 0 [rd U r] [rd D c] false R C [] := by
  rw [spec_biCell.j0, spec_biCell.j0]
  have e1 : rd [rd U r] 0 = rd U r := rfl
  have e2 : rd [rd D c] 0 = rd D c := rfl
  rw [if_pos h0, if_pos h1, if_pos h2, if_pos h3]
  simp only [e1, e2, List.length_singleton]
  rfl
end Go.Proofs.Ytnhamhpalbeflaa.P
namespace Go.Proofs.Ytnhamhpalbeflaa.P
open Go.RowKit Go.Proofs.YtnhamhpalbeflaaW.PrintWords Go.Proofs.YtnhamhpalbeflaaW.PrintLast Go.Proofs.YtnhamhpalbeflaaW.PrintMore
set_option linter.unusedVariables false
set_option linter.unusedSimpArgs false
theorem or_add' : ∀ r : Fin 6, ∀ m : Fin 64, m.val < 2 ^ r.val → Go.bits .or .i64 (m.val : Int) (shl .i64 1 (r.val : Int)) = ((m.val + 2 ^ r.val : Nat) : Int) := by decide +kernel
theorem mk_or (f : Nat → Bool) (j : Nat) (hj : j < 6) (h : f j = true) : Go.bits .or .i64 (mk f j) (shl .i64 1 (j : Int)) = mk f (j + 1) := by
  obtain ⟨m, e, hm⟩ := mk_nat f j
  have h64 : 2 ^ j ≤ 2 ^ 5 := Nat.pow_le_pow_right (by omega) (by omega)
  have := or_add' ⟨j, hj⟩ ⟨m, by omega⟩ hm
  simp only at this
  rw [mk, if_pos h, e, this]
  omega
theorem mk_same (f : Nat → Bool) (j : Nat) (h : f j = false) : mk f (j + 1) = mk f j := by
  rw [mk, if_neg (by simp [h])]; omega
theorem rd_set_same (L : List Int) (i : Nat) (v : Int) (h : i < L.length) : rd (L.set i v) (i : Int) = v := by
  rw [rd_nat _ _ (by simpa using h)]; simp
theorem col_in {R C q : Nat} {l : List Int} (h : boardB (R : Int) (C : Int) l = true) (hR : R ≤ 6) (hC : C ≤ 6) (hq : q ≤ 1) (n R' C' : Int) (i : Nat) (hi : i < (upN R C q).length) (L : List Int) (hL : L.length = (upN R C q).length) (res : Int × Int × List Int × Bool)
    (hn : Ev (fun k => impl_Board_coloured.l0 k (downL R C q) (upL R C q) n ((i + 1 : Nat) : Int) (R : Int) (C : Int) l R' C' (L.set i (mk (fun k => crossB R C l ((upN R C q).getD i 0) ((downN R C q).getD k 0)) (downN R C q).length))) res) :
    ∀ (d j : Nat), (downN R C q).length - j = d → j ≤ (downN R C q).length →
    Ev (fun k => impl_Board_coloured.l1 k (downL R C q) (i : Int) (((upN R C q).getD i 0 : Nat) : Int) (upL R C q) n (i : Int) (downL R C q) ((downN R C q).length : Int) (j : Int) (R : Int) (C : Int) l R' C' (L.set i (mk (fun k => crossB R C l ((upN R C q).getD i 0) ((downN R C q).getD k 0)) j))) res := by
  have hlen := lines_len ⟨R, by omega⟩ ⟨C, by omega⟩ ⟨q, by omega⟩
  simp only at hlen
  obtain ⟨hu1, hu2⟩ := up_at hR hC hq hi
  have hb := (boardB_iff _ _ _).1 h
  intro d
  induction d with
  | zero =>
    intro j hd hj
    have : j = (downN R C q).length := by omega
    subst this
    obtain ⟨K, hK⟩ := ev_get hn
    refine ⟨K + 1, fun k hk => ?_⟩
    obtain ⟨k, rfl⟩ : ∃ m, k = m + 1 := ⟨k - 1, by omega⟩
    have e := hK k (by omega)
    rw [show ((i + 1 : Nat) : Int) = (i : Int) + 1 by omega] at e
    dsimp only
    rw [impl_Board_coloured.l1, if_neg (by omega), w64 _ (by omega) (by omega)]
    exact e
  | succ d ih =>
    intro j hd hj
    have hj2 : j < (downN R C q).length := by omega
    obtain ⟨hd1, hd2⟩ := down_at hR hC hq hj2
    obtain ⟨K, hK⟩ := ev_get (ih (j + 1) (by omega) (by omega))
    refine ⟨K + 1, fun k hk => ?_⟩
    obtain ⟨k, rfl⟩ : ∃ m, k = m + 1 := ⟨k - 1, by omega⟩
    have e := hK k (by omega)
    rw [show ((j + 1 : Nat) : Int) = (j : Int) + 1 by omega] at e
    have hc := cross_eq hR hC hu2 hd2 l
    have ho := cross_ok ⟨R, by omega⟩ ⟨C, by omega⟩ ⟨_, hu2⟩ ⟨_, hd2⟩
    simp only at ho
    obtain ⟨_, ho1, ho2⟩ := ho
    dsimp only
    rw [impl_Board_coloured.l1, if_pos (by omega), if_pos (by omega), if_pos (by rw [downL_length]; omega), hd1, hc, Option.bind_some]
    rw [w64 ((j : Int) + 1) (by omega) (by omega)]
    cases ht : (crossV R C ((upN R C q).getD i 0) ((downN R C q).getD j 0)).2.2 with
    | false =>
      rw [ht] at ho1
      rw [if_neg (by simp)]
      rw [mk_same _ _ (by show crossB R C l _ _ = false; simp only [crossB, ho1]; rfl)] at e
      exact e
    | true =>
      rw [ht] at ho1 ho2
      obtain ⟨hx, hy⟩ := ho2 rfl
      rw [if_pos rfl, has_eq h hx.1 hx.2 hy.1 hy.2, Option.bind_some]
      have hcb : crossB R C l ((upN R C q).getD i 0) ((downN R C q).getD j 0) = hasC l (crossV R C ((upN R C q).getD i 0) ((downN R C q).getD j 0)).1 (crossV R C ((upN R C q).getD i 0) ((downN R C q).getD j 0)).2.1 := by
        simp only [crossB, ho1, if_true, Option.any_some]
        rw [Int.toNat_of_nonneg hx.1, Int.toNat_of_nonneg hy.1]
      by_cases hh : hasC l (crossV R C ((upN R C q).getD i 0) ((downN R C q).getD j 0)).1 (crossV R C ((upN R C q).getD i 0) ((downN R C q).getD j 0)).2.1 = true
      · rw [if_pos hh, if_pos (by omega), if_pos (by rw [List.length_set]; omega), rd_set_same _ _ _ (by omega), Int.toNat_natCast, List.set_set, mk_or _ _ (by omega) (by show crossB R C l _ _ = true; rw [hcb]; exact hh)]
        exact e
      · rw [if_neg hh]
        rw [mk_same _ _ (by show crossB R C l _ _ = false; rw [hcb]; simpa using hh)] at e
        exact e
theorem col_out {R C q : Nat} {l : List Int} (h : boardB (R : Int) (C : Int) l = true) (hR : R ≤ 6) (hC : C ≤ 6) (hq : q ≤ 1) (R' C' : Int) : ∀ (d i : Nat), (upN R C q).length - i = d → i ≤ (upN R C q).length →
    Ev (fun k => impl_Board_coloured.l0 k (downL R C q) (upL R C q) ((upN R C q).length : Int) (i : Int) (R : Int) (C : Int) l R' C' ((colL R C q l).take i ++ List.replicate ((upN R C q).length - i) 0)) (R', C', colL R C q l, true) := by
  have hlen := lines_len ⟨R, by omega⟩ ⟨C, by omega⟩ ⟨q, by omega⟩
  simp only at hlen
  intro d
  induction d with
  | zero =>
    intro i hd hi
    have : i = (upN R C q).length := by omega
    subst this
    refine ⟨1, fun k hk => ?_⟩
    obtain ⟨k, rfl⟩ : ∃ m, k = m + 1 := ⟨k - 1, by omega⟩
    dsimp only
    rw [impl_Board_coloured.l0, if_neg (by omega), Nat.sub_self, List.replicate_zero, List.append_nil, List.take_of_length_le (by rw [colL_length]; omega)]
  | succ d ih =>
    intro i hd hi
    have hi2 : i < (upN R C q).length := by omega
    obtain ⟨hu1, hu2⟩ := up_at hR hC hq hi2
    have hcl := colL_length R C q l
    have hLl : ((colL R C q l).take i ++ List.replicate ((upN R C q).length - i) (0 : Int)).length = (upN R C q).length := by simp [hcl]; omega
    have hrep : List.replicate ((upN R C q).length - i) (0 : Int) = 0 :: List.replicate ((upN R C q).length - (i + 1)) 0 := by
      rw [show (upN R C q).length - i = (upN R C q).length - (i + 1) + 1 by omega, List.replicate_succ]
    have htl : ((colL R C q l).take i).length = i := by rw [List.length_take, hcl]; omega
    have hset : ∀ v : Int, ((colL R C q l).take i ++ List.replicate ((upN R C q).length - i) (0 : Int)).set i v = (colL R C q l).take i ++ v :: List.replicate ((upN R C q).length - (i + 1)) 0 := by
      intro v
      rw [hrep, List.set_append_right _ _ (by omega), htl, Nat.sub_self, List.set_cons_zero]
    have hnext : (colL R C q l).take (i + 1) ++ List.replicate ((upN R C q).length - (i + 1)) 0 = ((colL R C q l).take i ++ List.replicate ((upN R C q).length - i) (0 : Int)).set i (mk (fun k => crossB R C l ((upN R C q).getD i 0) ((downN R C q).getD k 0)) (downN R C q).length) := by
      rw [hset, List.take_succ_eq_append_getElem (by omega), List.append_assoc]
      congr 1
      simp only [List.singleton_append, colL, List.getElem_map, List.getD_eq_getElem?_getD, List.getElem?_eq_getElem hi2, Option.getD_some]
    have hih := ih (i + 1) (by omega) (by omega)
    rw [hnext] at hih
    have hin := col_in h hR hC hq ((upN R C q).length : Int) R' C' i hi2 _ hLl _ hih (downN R C q).length 0 (by omega) (by omega)
    have h0 : ((colL R C q l).take i ++ List.replicate ((upN R C q).length - i) (0 : Int)).set i (mk (fun k => crossB R C l ((upN R C q).getD i 0) ((downN R C q).getD k 0)) 0) = (colL R C q l).take i ++ List.replicate ((upN R C q).length - i) (0 : Int) := by
      rw [hset, hrep]; rfl
    rw [h0] at hin
    obtain ⟨K, hK⟩ := ev_get hin
    refine ⟨K + 1, fun k hk => ?_⟩
    obtain ⟨k, rfl⟩ : ∃ m, k = m + 1 := ⟨k - 1, by omega⟩
    dsimp only
    rw [impl_Board_coloured.l0, if_pos (by omega), if_pos (by omega), if_pos (by rw [upL_length]; omega), hu1, downL_length]
    exact hK k (by omega)
def colR (R C q : Nat) (l : List Int) : Int × Int × List Int × Bool := if (upN R C q).length = 0 then (0, 0, [], false) else (((upN R C q).length : Int), ((downN R C q).length : Int), colL R C q l, true)
theorem coloured_ev {R C q : Nat} {l : List Int} (h : boardB (R : Int) (C : Int) l = true) (hR : R ≤ 6) (hC : C ≤ 6) (hq : q ≤ 1) : Ev (fun k => impl_Board_coloured.f k (R : Int) (C : Int) l (q : Int)) (colR R C q l) := by
  have hlen := lines_len ⟨R, by omega⟩ ⟨C, by omega⟩ ⟨q, by omega⟩
  simp only at hlen
  obtain ⟨K1, h1⟩ := ev_get (diag_ev R C q hR hC hq l)
  obtain ⟨K2, h2⟩ := ev_get (col_out h hR hC hq ((upN R C q).length : Int) ((downN R C q).length : Int) (upN R C q).length 0 (by omega) (by omega))
  unfold colR
  by_cases h0 : (upN R C q).length = 0
  · rw [if_pos h0]
    refine ⟨K1, fun k hk => ?_⟩
    simp only [impl_Board_coloured.f, h1 k (by omega), Option.bind_some, upL_length, h0]
    rfl
  · rw [if_neg h0]
    refine ⟨K1 + K2, fun k hk => ?_⟩
    have e := h2 k (by omega)
    simp only [impl_Board_coloured.f, h1 k (by omega), Option.bind_some, upL_length, downL_length, impl_newBoard.f]
    rw [if_neg (by omega), if_pos (by omega), if_pos (by omega)]
    simp only [Option.bind_some, Int.toNat_natCast]
    simpa using e
end Go.Proofs.Ytnhamhpalbeflaa.P
namespace Go.Proofs.Ytnhamhpalbeflaa.Pure
open Go.RowKit Go.Proofs.Ytnhamhpalbeflaa.P Go.Proofs.YtnhamhpalbeflaaW.PrintWords Go.Proofs.YtnhamhpalbeflaaW.PrintLast
set_option linter.unusedSimpArgs false
set_option linter.unusedVariables false
namespace FnExactCellOfColour
def cellV (R C : Nat) (u d : Nat) : Int × Int × Bool := if (crossV R C u d).2.2 = true then ((crossV R C u d).1, (crossV R C u d).2.1, true) else (0, 0, false)
def R (r c : Int) (l : List Int) (q x y : Int) : Int × Int × Bool := if boardB r c l = true ∧ inB q 0 1 = true ∧ inB x 0 (((upN r.toNat c.toNat q.toNat).length : Int) - 1) = true ∧ inB y 0 (((downN r.toNat c.toNat q.toNat).length : Int) - 1) = true then cellV r.toNat c.toNat ((upN r.toNat c.toNat q.toNat).getD x.toNat 0) ((downN r.toNat c.toNat q.toNat).getD y.toNat 0) else (0, 0, false)
theorem impl_ev (r c : Int) (l : List Int) (q x y : Int) : Ev (fun k => impl_CellOfColour.f k r c l q x y) (R r c l q x y) := by
  by_cases h : boardB r c l = true
  · by_cases hq : inB q 0 1 = true
    · obtain ⟨R', C', q', rfl, rfl, rfl, hR, hC, hQ⟩ := col_nat h hq
      have hlen := lines_len ⟨R', by omega⟩ ⟨C', by omega⟩ ⟨q', by omega⟩
      simp only at hlen
      obtain ⟨K1, h1⟩ := ev_get (coloured_ev h hR hC hQ)
      obtain ⟨K2, h2⟩ := ev_get (diag_ev R' C' q' hR hC hQ l)
      unfold R colR at *
      simp only [h, hq, Int.toNat_natCast, true_and]
      by_cases h0 : (upN R' C' q').length = 0
      · rw [if_pos h0] at h1
        refine ⟨K1 + 1, fun k hk => ?_⟩
        obtain ⟨k, rfl⟩ : ∃ m, k = m + 1 := ⟨k - 1, by omega⟩
        rw [if_neg (fun hh => by have := hh.1; simp [inB] at this; omega)]
        simp only [impl_CellOfColour.f, impl_ColourBoard.f, impl_IsBoard.f, impl_isColour.f, Option.bind_some, h, hq, within_eq, if_true, h1 (k + 1) (by omega), Bool.false_eq_true, if_false, impl_CellOfColour.j0]
      · rw [if_neg h0] at h1
        by_cases hx : inB x 0 (((upN R' C' q').length : Int) - 1) = true
        · by_cases hy : inB y 0 (((downN R' C' q').length : Int) - 1) = true
          · have hx2 : 0 ≤ x ∧ x ≤ ((upN R' C' q').length : Int) - 1 := by simpa [inB] using hx
            have hy2 : 0 ≤ y ∧ y ≤ ((downN R' C' q').length : Int) - 1 := by simpa [inB] using hy
            obtain ⟨i, rfl⟩ : ∃ i : Nat, x = (i : Int) := ⟨x.toNat, by omega⟩
            obtain ⟨j, rfl⟩ : ∃ j : Nat, y = (j : Int) := ⟨y.toNat, by omega⟩
            obtain ⟨u1, u2⟩ := up_at hR hC hQ (i := i) (by omega)
            obtain ⟨d1, d2⟩ := down_at hR hC hQ (i := j) (by omega)
            refine ⟨K1 + K2 + 1, fun k hk => ?_⟩
            obtain ⟨k, rfl⟩ : ∃ m, k = m + 1 := ⟨k - 1, by omega⟩
            rw [if_pos ⟨hx, hy⟩]
            simp only [impl_CellOfColour.f, impl_ColourBoard.f, impl_IsBoard.f, impl_isColour.f, Option.bind_some, h, hq, within_eq, if_true, h1 (k + 1) (by omega), impl_Board_place.f, w64 (((upN R' C' q').length : Int) - 1) (by omega) (by omega), w64 (((downN R' C' q').length : Int) - 1) (by omega) (by omega), hx, hy, Bool.not_true, impl_CellOfColour.j0, Bool.false_eq_true, if_false, h2 k (by omega), upL_length, downL_length]
            rw [if_pos (by omega), if_pos (by omega), if_pos (by omega), if_pos (by omega), u1, d1, cross_eq hR hC u2 d2 l]
            unfold cellV
            rw [Int.toNat_natCast, Int.toNat_natCast]
            generalize crossV R' C' ((upN R' C' q').getD i 0) ((downN R' C' q').getD j 0) = V
            obtain ⟨a, b, t⟩ := V
            cases t <;> rfl
          · refine ⟨K1 + 1, fun k hk => ?_⟩
            obtain ⟨k, rfl⟩ : ∃ m, k = m + 1 := ⟨k - 1, by omega⟩
            rw [if_neg (fun hh => hy hh.2)]
            simp only [Bool.not_eq_true] at hy
            simp only [impl_CellOfColour.f, impl_ColourBoard.f, impl_IsBoard.f, impl_isColour.f, Option.bind_some, h, hq, within_eq, if_true, h1 (k + 1) (by omega), impl_Board_place.f, w64 (((upN R' C' q').length : Int) - 1) (by omega) (by omega), w64 (((downN R' C' q').length : Int) - 1) (by omega) (by omega), hx, hy, Bool.not_false, impl_CellOfColour.j0]
        · refine ⟨K1 + 1, fun k hk => ?_⟩
          obtain ⟨k, rfl⟩ : ∃ m, k = m + 1 := ⟨k - 1, by omega⟩
          rw [if_neg (fun hh => hx hh.1)]
          simp only [Bool.not_eq_true] at hx
          simp only [impl_CellOfColour.f, impl_ColourBoard.f, impl_IsBoard.f, impl_isColour.f, Option.bind_some, h, hq, within_eq, if_true, h1 (k + 1) (by omega), impl_Board_place.f, w64 (((upN R' C' q').length : Int) - 1) (by omega) (by omega), hx, Bool.false_eq_true, if_false, Bool.not_false, impl_CellOfColour.j0]
    · refine ⟨1, fun k hk => ?_⟩
      obtain ⟨k, rfl⟩ : ∃ m, k = m + 1 := ⟨k - 1, by omega⟩
      unfold R
      rw [if_neg (fun hh => hq hh.2.1)]
      simp only [Bool.not_eq_true] at hq
      simp only [impl_CellOfColour.f, impl_ColourBoard.f, impl_IsBoard.f, impl_isColour.f, Option.bind_some, h, hq, within_eq, if_true, Bool.false_eq_true, if_false, impl_CellOfColour.j0]
  · refine ⟨1, fun k hk => ?_⟩
    obtain ⟨k, rfl⟩ : ∃ m, k = m + 1 := ⟨k - 1, by omega⟩
    unfold R
    rw [if_neg (fun hh => h hh.1)]
    simp only [Bool.not_eq_true] at h
    simp only [impl_CellOfColour.f, impl_ColourBoard.f, impl_IsBoard.f, Option.bind_some, h, Bool.false_eq_true, if_false, if_true, impl_CellOfColour.j0]
theorem spec_ev (r c : Int) (l : List Int) (q x y : Int) (hl : l.length ≤ 1152921504606846976) : Ev (fun k => spec_CellOfColour.f k r c l q x y) (R r c l q x y) := by
  obtain ⟨K0, h0⟩ := ev_get (boGood_ev r c l hl)
  by_cases h : boardB r c l = true
  · by_cases hq : inB q 0 1 = true
    · obtain ⟨R', C', q', rfl, rfl, rfl, hR, hC, hQ⟩ := col_nat h hq
      have hlen := lines_len ⟨R', by omega⟩ ⟨C', by omega⟩ ⟨q', by omega⟩
      simp only at hlen
      obtain ⟨K2, h2⟩ := ev_get (lines_ev R' C' q' hR hC hQ l)
      unfold R
      simp only [h, hq, Int.toNat_natCast, true_and]
      by_cases hx : inB x 0 (((upN R' C' q').length : Int) - 1) = true
      · by_cases hy : inB y 0 (((downN R' C' q').length : Int) - 1) = true
        · have hx2 : 0 ≤ x ∧ x ≤ ((upN R' C' q').length : Int) - 1 := by simpa [inB] using hx
          have hy2 : 0 ≤ y ∧ y ≤ ((downN R' C' q').length : Int) - 1 := by simpa [inB] using hy
          obtain ⟨i, rfl⟩ : ∃ i : Nat, x = (i : Int) := ⟨x.toNat, by omega⟩
          obtain ⟨j, rfl⟩ : ∃ j : Nat, y = (j : Int) := ⟨y.toNat, by omega⟩
          obtain ⟨u1, u2⟩ := up_at hR hC hQ (i := i) (by omega)
          obtain ⟨d1, d2⟩ := down_at hR hC hQ (i := j) (by omega)
          have hc := cell_ok ⟨R', by omega⟩ ⟨C', by omega⟩ ⟨_, u2⟩ ⟨_, d2⟩
          simp only at hc
          refine ⟨K0 + K2 + 1, fun k hk => ?_⟩
          obtain ⟨k, rfl⟩ : ∃ m, k = m + 1 := ⟨k - 1, by omega⟩
          rw [if_pos ⟨hx, hy⟩]
          simp only [spec_CellOfColour.f, h0 (k + 1) (by omega), spec_biColour.f, spec_biCell.f, Option.bind_some, h, hq, l1In_eq, if_true, h2 (k + 1) (by omega), upL_length, downL_length, w64 (((upN R' C' q').length : Int) - 1) (by omega) (by omega), w64 (((downN R' C' q').length : Int) - 1) (by omega) (by omega), hx, hy, Bool.not_true]
          rw [cell_j0 k _ _ _ _ _ _ l (by omega) (by rw [upL_length]; omega) (by omega) (by rw [downL_length]; omega), u1, d1, hc]
          unfold cellV
          rw [Int.toNat_natCast, Int.toNat_natCast]
          generalize crossV R' C' ((upN R' C' q').getD i 0) ((downN R' C' q').getD j 0) = V
          obtain ⟨a, b, t⟩ := V
          cases t <;> rfl
        · refine ⟨K0 + K2 + 1, fun k hk => ?_⟩
          obtain ⟨k, rfl⟩ : ∃ m, k = m + 1 := ⟨k - 1, by omega⟩
          rw [if_neg (fun hh => hy hh.2)]
          simp only [Bool.not_eq_true] at hy
          simp only [spec_CellOfColour.f, h0 (k + 1) (by omega), spec_biColour.f, spec_biCell.f, Option.bind_some, h, hq, l1In_eq, if_true, h2 (k + 1) (by omega), upL_length, downL_length, w64 (((upN R' C' q').length : Int) - 1) (by omega) (by omega), w64 (((downN R' C' q').length : Int) - 1) (by omega) (by omega), hx, hy, Bool.not_false, spec_biCell.j0]
      · refine ⟨K0 + K2 + 1, fun k hk => ?_⟩
        obtain ⟨k, rfl⟩ : ∃ m, k = m + 1 := ⟨k - 1, by omega⟩
        rw [if_neg (fun hh => hx hh.1)]
        simp only [Bool.not_eq_true] at hx
        simp only [spec_CellOfColour.f, h0 (k + 1) (by omega), spec_biColour.f, spec_biCell.f, Option.bind_some, h, hq, l1In_eq, if_true, h2 (k + 1) (by omega), upL_length, downL_length, w64 (((upN R' C' q').length : Int) - 1) (by omega) (by omega), hx, Bool.false_eq_true, if_false, spec_biCell.j0]
    · refine ⟨K0, fun k hk => ?_⟩
      unfold R
      rw [if_neg (fun hh => hq hh.2.1)]
      simp only [Bool.not_eq_true] at hq
      simp only [spec_CellOfColour.f, h0 k (by omega), spec_biColour.f, Option.bind_some, h, hq, l1In_eq, if_true, Bool.false_eq_true, if_false]
  · refine ⟨K0, fun k hk => ?_⟩
    unfold R
    rw [if_neg (fun hh => h hh.1)]
    simp only [Bool.not_eq_true] at h
    simp only [spec_CellOfColour.f, h0 k (by omega), Option.bind_some, h, Bool.false_eq_true, if_false]
end FnExactCellOfColour
open FnExactCellOfColour in
theorem FnExactCellOfColour : laws_FnExactCellOfColour.Pure := by
  intro r c l q x y hr hc hl hq hx hy
  have hlen := hl.1
  by_cases hbig : (1048576 : Int) - l.length < 0
  · refine ⟨0, ?_⟩
    unfold laws_FnExactCellOfColour.f
    rw [szBoard_eq r c l _ (by omega) (by omega) hlen, if_pos hbig, Option.bind_some, if_pos (by omega)]
  obtain ⟨K1, h1⟩ := ev_get (toBoard_ev r c l (by omega))
  obtain ⟨K2, h2⟩ := ev_get (impl_ev r c l q x y)
  obtain ⟨K3, h3⟩ := ev_get (eqBoard_ev r c l (by omega))
  obtain ⟨K4, h4⟩ := ev_get (spec_ev r c l q x y (by omega))
  refine ⟨K1 + K2 + K3 + K4 + 1, ?_⟩
  unfold laws_FnExactCellOfColour.f
  rw [szBoard_eq r c l _ (by omega) (by omega) hlen, if_neg hbig, Option.bind_some, if_neg hbig, h1 _ (by omega)]
  simp only [Option.bind_some]
  rw [h4 _ (by omega), h2 _ (by omega)]
  simp only [Option.bind_some, if_true, bne_self_eq_false]
  rw [laws_FnExactCellOfColour.j0, if_neg (by simp), h1 _ (by omega)]
  simp only [Option.bind_some]
  rw [h3 _ (by omega)]
  simp
end Go.Proofs.Ytnhamhpalbeflaa.Pure
