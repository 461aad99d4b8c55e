/- For all bytes that are drawn from: the least watching places are told alike by both, watch, are few, do without none of them, and no drawn places that watch are fewer: no condition but that the bytes can be read. -/
import Derived.Laws.BitsLemmas
import Derived.Test.YthlcaikplebpmaaPx0
import Derived.Test.YthlcaikplebpmaaQ44e93a7025
import Derived.Test.YthlcaikplebpmaaQ9e06a928a8
import Derived.Test.YthlcaikplebpmaaQ7ab77d5325
import Derived.Test.YthlcaikplebpmaaQ02e819e362
import Derived.Test.YthlcaikplebpmaaQ6f0335f73a
namespace Go.Proofs.Ythlcaikplebpmaa.P
open Go.RowKit Go.Proofs.YthlcaikplebpmaaW.PrintWords Go.Proofs.YthlcaikplebpmaaW.PrintLast Go.Proofs.YthlcaikplebpmaaW.PrintMore
set_option linter.unusedVariables false
set_option linter.unusedSimpArgs false
theorem w64 (n : Int) (h : -9223372036854775808 ≤ n) (h2 : n ≤ 9223372036854775807) : wrap64 n = n := by unfold wrap64; omega
theorem rd_nat (l : List Int) (i : Nat) (h : i < l.length) : rd l (i : Int) = l[i] := by
  unfold rd; simp [List.getD_eq_getElem?_getD, List.getElem?_eq_getElem h]
theorem drop_cons (l : List Int) (i : Nat) (h : i < l.length) : l.drop i = l[i] :: l.drop (i + 1) := List.drop_eq_getElem_cons h
theorem ev_get {α : Type} {g : Nat → Option α} {r : α} (h : Ev g r) : ∃ K, ∀ k, K ≤ k → g k = some r := h
def inB (n lo hi : Int) : Bool := decide (lo ≤ n ∧ n ≤ hi)
theorem l1In_eq (a b c : Int) : spec_l1In.f a b c = some (inB a b c) := by
  unfold spec_l1In.f inB
  by_cases h : a ≥ b
  · rw [if_pos h]; congr 1; simp; omega
  · rw [if_neg h]; congr 1; symm; apply decide_eq_false; omega
theorem within_eq (a b c : Int) : impl_within.f a b c = some (inB a b c) := by
  unfold impl_within.f inB
  by_cases h : b ≤ a
  · rw [if_pos h]; congr 1; simp; omega
  · rw [if_neg h]; congr 1; symm; apply decide_eq_false; omega
def allIn (l : List Int) (lo hi : Int) : Bool := l.all fun x => inB x lo hi
theorem l1All_l0 (lo hi : Int) (l : List Int) (hb : l.length ≤ 1152921504606846976) : ∀ (d i : Nat) (k : Nat), l.length - i = d → i ≤ l.length → d < k →
    spec_l1All.l0 k lo hi l (l.length : Int) (i : Int) = some (allIn (l.drop i) lo hi) := by
  intro d
  induction d with
  | zero =>
    intro i k hd hi' hk
    obtain ⟨k, rfl⟩ : ∃ m, k = m + 1 := ⟨k - 1, by omega⟩
    rw [spec_l1All.l0, if_neg (by omega), List.drop_eq_nil_of_le (by omega)]
    rfl
  | succ d ih =>
    intro i k hd hi' hk
    obtain ⟨k, rfl⟩ : ∃ m, k = m + 1 := ⟨k - 1, by omega⟩
    have h1 : i < l.length := by omega
    rw [spec_l1All.l0, if_pos (by omega), if_pos (by omega), if_pos (by omega), l1In_eq, Option.bind_some, w64 _ (by omega) (by omega), rd_nat _ _ h1]
    rw [show ((i : Int) + 1) = ((i + 1 : Nat) : Int) by omega, ih (i + 1) k (by omega) (by omega) (by omega), drop_cons l i h1]
    unfold allIn
    rw [List.all_cons]
    generalize l.drop (i + 1) = tl
    by_cases h : inB l[i] lo hi = true
    · rw [if_pos h, h]; simp
    · rw [if_neg h]; simp at h; rw [h]; simp
theorem l1All_ev (l : List Int) (lo hi : Int) (hb : l.length ≤ 1152921504606846976) : Ev (fun k => spec_l1All.f k l lo hi) (allIn l lo hi) := by
  refine ⟨l.length + 1, fun k hk => ?_⟩
  simp only [spec_l1All.f]
  have := l1All_l0 lo hi l hb l.length 0 k (by omega) (by omega) (by omega)
  simpa using this
end Go.Proofs.Ythlcaikplebpmaa.P
namespace Go.Proofs.Ythlcaikplebpmaa.P
open Go.RowKit Go.Proofs.YthlcaikplebpmaaW.PrintWords Go.Proofs.YthlcaikplebpmaaW.PrintLast Go.Proofs.YthlcaikplebpmaaW.PrintMore
set_option linter.unusedVariables false
set_option linter.unusedSimpArgs false
theorem isMany_eq (n : Int) : impl_isMany.f n = some (inB n 1 8) := by
  simp only [impl_isMany.f, within_eq, Option.bind_some]
theorem quSide_eq (n : Int) : spec_quSide.f n = some (inB n 1 8) := by
  simp only [spec_quSide.f, l1In_eq, Option.bind_some]
end Go.Proofs.Ythlcaikplebpmaa.P
namespace Go.Proofs.Ythlcaikplebpmaa.P
open Go.RowKit Go.Proofs.YthlcaikplebpmaaW.PrintWords Go.Proofs.YthlcaikplebpmaaW.PrintLast Go.Proofs.YthlcaikplebpmaaW.PrintMore
set_option linter.unusedVariables false
set_option linter.unusedSimpArgs false
theorem range'_step (s n : Nat) (h : s < n) : List.range' s (n - s) = s :: List.range' (s + 1) (n - (s + 1)) := by
  rw [show n - s = (n - (s + 1)) + 1 by omega, List.range'_succ]
theorem l1Abs_eq (n : Int) (h : -1000 ≤ n) (h2 : n ≤ 1000) : spec_l1Abs.f n = some (n.natAbs : Int) := by
  unfold spec_l1Abs.f spec_l1Most.f
  rw [w64 _ (by omega) (by omega)]
  split
  · simp only [Option.bind_some]; congr 1; omega
  · simp only [Option.bind_some]; congr 1; omega
end Go.Proofs.Ythlcaikplebpmaa.P
namespace Go.Proofs.Ythlcaikplebpmaa.P
open Go.RowKit Go.Proofs.YthlcaikplebpmaaW.PrintWords Go.Proofs.YthlcaikplebpmaaW.PrintLast Go.Proofs.YthlcaikplebpmaaW.PrintMore
set_option linter.unusedVariables false
set_option linter.unusedSimpArgs false
theorem rdL_mid (a b : List (List Int)) (l : List Int) : rd_L1 (a ++ l :: b) (a.length : Int) = l := by
  unfold rd_L1; simp
theorem rdL_nat (s : List (List Int)) (i : Nat) (h : i < s.length) : rd_L1 s (i : Int) = s[i] := by
  unfold rd_L1; simp [List.getD_eq_getElem?_getD, List.getElem?_eq_getElem h]
end Go.Proofs.Ythlcaikplebpmaa.P
namespace Go.Proofs.Ythlcaikplebpmaa.P
open Go.RowKit Go.Proofs.YthlcaikplebpmaaW.PrintWords Go.Proofs.YthlcaikplebpmaaW.PrintLast Go.Proofs.YthlcaikplebpmaaW.PrintMore
set_option linter.unusedVariables false
set_option linter.unusedSimpArgs false
/-- A place in which a queen reaches row r, column c. -/
def reach (x : List Int) (r c : Int) : Bool := decide (x.getD 0 0 = r ∨ x.getD 1 0 = c ∨ (x.getD 0 0 - r).natAbs = (x.getD 1 0 - c).natAbs)
def placeOk (n : Int) (x : List Int) : Bool := decide (x.length = 2 ∧ ∀ y ∈ x, 0 ≤ y ∧ y ≤ n - 1)
theorem placeOk_at {n : Int} {x : List Int} (h : placeOk n x = true) : ∃ a b, x = [a, b] ∧ 0 ≤ a ∧ a ≤ n - 1 ∧ 0 ≤ b ∧ b ≤ n - 1 := by
  unfold placeOk at h
  rw [decide_eq_true_iff] at h
  obtain ⟨h1, h2⟩ := h
  match x, h1 with
  | [a, b], _ =>
    have ha := h2 a (by simp)
    have hb := h2 b (by simp)
    exact ⟨a, b, rfl, ha.1, ha.2, hb.1, hb.2⟩
def cellOk (l : List (List Int)) (r c : Int) : Bool := l.any fun x => reach x r c
def rowOk (n : Nat) (l : List (List Int)) (r : Int) (c : Nat) : Bool := (List.range' c (n - c)).all fun (c : Nat) => cellOk l r (c : Int)
def allOk (n : Nat) (l : List (List Int)) (r : Nat) : Bool := (List.range' r (n - r)).all fun (r : Nat) => rowOk n l (r : Int) 0
theorem drop_cons' (l : List (List Int)) (i : Nat) (h : i < l.length) : l.drop i = l[i] :: l.drop (i + 1) := List.drop_eq_getElem_cons h
theorem rowOk_step (n : Nat) (l : List (List Int)) (r : Int) (c : Nat) (h : c < n) : rowOk n l r c = (cellOk l r c && rowOk n l r (c + 1)) := by
  unfold rowOk
  rw [range'_step c n h, List.all_cons]
theorem allOk_step (n : Nat) (l : List (List Int)) (r : Nat) (h : r < n) : allOk n l r = (rowOk n l r 0 && allOk n l (r + 1)) := by
  unfold allOk
  rw [range'_step r n h, List.all_cons]
theorem rowOk_nil (n : Nat) (l : List (List Int)) (r : Int) (c : Nat) (h : n ≤ c) : rowOk n l r c = true := by
  unfold rowOk
  rw [show n - c = 0 by omega]; rfl
theorem allOk_nil (n : Nat) (l : List (List Int)) (r : Nat) (h : n ≤ r) : allOk n l r = true := by
  unfold allOk
  rw [show n - r = 0 by omega]; rfl
theorem quWatched_l2 (n : Nat) (hn : n ≤ 8) (l : List (List Int)) (hl : l.length ≤ 64) (hp : ∀ x ∈ l, placeOk n x = true) (r c : Nat) (hr : r < n) (hc : c < n)
    (hout : Ev (fun k => spec_quWatched.l1 k (n : Int) l (r : Int) ((c + 1 : Nat) : Int)) (rowOk n l r (c + 1) && allOk n l (r + 1))) :
    ∀ (d i : Nat) (b : Bool), l.length - i = d → i ≤ l.length →
    Ev (fun k => spec_quWatched.l2 k (n : Int) l (r : Int) (c : Int) b l (l.length : Int) (i : Int)) ((b || (l.drop i).any fun x => reach x r c) && (rowOk n l r (c + 1) && allOk n l (r + 1))) := by
  intro d
  induction d with
  | zero =>
    intro i b hd hi
    obtain ⟨K, hK⟩ := ev_get hout
    refine ⟨K + 1, fun k hk => ?_⟩
    obtain ⟨k, rfl⟩ : ∃ m, k = m + 1 := ⟨k - 1, by omega⟩
    simp only [spec_quWatched.l2]
    rw [if_neg (by omega), w64 _ (by omega) (by omega), show ((c : Int) + 1) = ((c + 1 : Nat) : Int) by omega, hK k (by omega), List.drop_eq_nil_of_le (by omega)]
    cases b <;> simp
  | succ d ih =>
    intro i b hd hi
    have h1 : i < l.length := by omega
    obtain ⟨K1, h2⟩ := ev_get (ih (i + 1) true (by omega) (by omega))
    obtain ⟨K2, h3⟩ := ev_get (ih (i + 1) (decide ((l[i].getD 0 0 - r).natAbs = (l[i].getD 1 0 - c).natAbs)) (by omega) (by omega))
    refine ⟨K1 + K2 + 1, fun k hk => ?_⟩
    obtain ⟨k, rfl⟩ : ∃ m, k = m + 1 := ⟨k - 1, by omega⟩
    have h2 := h2 k (by omega)
    have h3 := h3 k (by omega)
    obtain ⟨x, y, he, hx1, hx2, hy1, hy2⟩ := placeOk_at (hp l[i] (List.getElem_mem h1))
    rw [drop_cons' l i h1, List.any_cons]
    generalize (l.drop (i + 1)).any (fun x => reach x r c) = rest at h2 h3 ⊢
    simp only [spec_quWatched.l2]
    rw [if_pos (by omega), if_pos (by omega), if_pos (by omega), rdL_nat _ _ h1, he, if_pos (by simp)]
    rw [he] at h3
    have e0 : rd [x, y] 0 = x := rfl
    have e1 : rd [x, y] 1 = y := rfl
    rw [e0, e1, w64 (x - r) (by omega) (by omega), l1Abs_eq _ (by omega) (by omega), Option.bind_some, if_pos (by simp), w64 (y - c) (by omega) (by omega), l1Abs_eq _ (by omega) (by omega), Option.bind_some, w64 ((i : Int) + 1) (by omega) (by omega), show ((i : Int) + 1) = ((i + 1 : Nat) : Int) by omega]
    have ee : ((((x - (r : Int)).natAbs : Int) == ((y - (c : Int)).natAbs : Int))) = decide ((x - (r : Int)).natAbs = (y - (c : Int)).natAbs) := by
      rw [Bool.eq_iff_iff, beq_iff_eq, decide_eq_true_iff]; omega
    rw [ee, h2]
    have e2 : ([x, y] : List Int).getD 0 0 = x := rfl
    have e3 : ([x, y] : List Int).getD 1 0 = y := rfl
    rw [e2, e3] at h3
    rw [h3]
    have hreach : reach [x, y] r c = decide (x = (r : Int) ∨ y = (c : Int) ∨ (x - (r : Int)).natAbs = (y - (c : Int)).natAbs) := rfl
    rw [hreach]
    cases b with
    | true => simp
    | false =>
      simp only [Bool.false_eq_true, if_false, Bool.false_or]
      by_cases ha : ((x - (r : Int)).natAbs : Int) = 0
      · rw [if_pos ha, decide_eq_true (show x = (r : Int) ∨ y = (c : Int) ∨ (x - (r : Int)).natAbs = (y - (c : Int)).natAbs from .inl (by omega))]
      · rw [if_neg ha]
        by_cases hb : ((y - (c : Int)).natAbs : Int) = 0
        · rw [if_pos hb, decide_eq_true (show x = (r : Int) ∨ y = (c : Int) ∨ (x - (r : Int)).natAbs = (y - (c : Int)).natAbs from .inr (.inl (by omega)))]
        · rw [if_neg hb]
          have : decide (x = (r : Int) ∨ y = (c : Int) ∨ (x - (r : Int)).natAbs = (y - (c : Int)).natAbs) = decide ((x - (r : Int)).natAbs = (y - (c : Int)).natAbs) := by
            rw [decide_eq_decide]; omega
          rw [this]
theorem quWatched_l1 (n : Nat) (hn : n ≤ 8) (l : List (List Int)) (hl : l.length ≤ 64) (hp : ∀ x ∈ l, placeOk n x = true) (r : Nat) (hr : r < n)
    (hout : Ev (fun k => spec_quWatched.l0 k (n : Int) l ((r + 1 : Nat) : Int)) (allOk n l (r + 1))) :
    ∀ (d c : Nat), n - c = d → c ≤ n →
    Ev (fun k => spec_quWatched.l1 k (n : Int) l (r : Int) (c : Int)) (rowOk n l r c && allOk n l (r + 1)) := by
  intro d
  induction d with
  | zero =>
    intro c hd hc
    obtain ⟨K, hK⟩ := ev_get hout
    refine ⟨K + 1, fun k hk => ?_⟩
    obtain ⟨k, rfl⟩ : ∃ m, k = m + 1 := ⟨k - 1, by omega⟩
    simp only [spec_quWatched.l1]
    rw [if_neg (by omega), w64 _ (by omega) (by omega), show ((r : Int) + 1) = ((r + 1 : Nat) : Int) by omega, hK k (by omega), rowOk_nil n l r c (by omega), Bool.true_and]
  | succ d ih =>
    intro c hd hc
    obtain ⟨K, hK⟩ := ev_get (quWatched_l2 n hn l hl hp r c hr (by omega) (ih (c + 1) (by omega) (by omega)) l.length 0 false (by omega) (by omega))
    refine ⟨K + 1, fun k hk => ?_⟩
    obtain ⟨k, rfl⟩ : ∃ m, k = m + 1 := ⟨k - 1, by omega⟩
    simp only [spec_quWatched.l1]
    have h := hK k (by omega)
    rw [if_pos (by omega), show (0 : Int) = ((0 : Nat) : Int) from rfl, h, rowOk_step n l r c (by omega), Bool.false_or, List.drop_zero, Bool.and_assoc]
    rfl
theorem quWatched_l0 (n : Nat) (hn : n ≤ 8) (l : List (List Int)) (hl : l.length ≤ 64) (hp : ∀ x ∈ l, placeOk n x = true) : ∀ (d r : Nat), n - r = d → r ≤ n →
    Ev (fun k => spec_quWatched.l0 k (n : Int) l (r : Int)) (allOk n l r) := by
  intro d
  induction d with
  | zero =>
    intro r hd hr
    refine ⟨1, fun k hk => ?_⟩
    obtain ⟨k, rfl⟩ : ∃ m, k = m + 1 := ⟨k - 1, by omega⟩
    simp only [spec_quWatched.l0]
    rw [if_neg (by omega), allOk_nil n l r (by omega)]
  | succ d ih =>
    intro r hd hr
    obtain ⟨K, hK⟩ := ev_get (quWatched_l1 n hn l hl hp r (by omega) (ih (r + 1) (by omega) (by omega)) n 0 (by omega) (by omega))
    refine ⟨K + 1, fun k hk => ?_⟩
    obtain ⟨k, rfl⟩ : ∃ m, k = m + 1 := ⟨k - 1, by omega⟩
    simp only [spec_quWatched.l0]
    have h := hK k (by omega)
    rw [if_pos (by omega), show (0 : Int) = ((0 : Nat) : Int) from rfl, h, allOk_step n l r (by omega)]
theorem quWatched_ev (n : Nat) (hn : n ≤ 8) (l : List (List Int)) (hl : l.length ≤ 64) (hp : ∀ x ∈ l, placeOk n x = true) : Ev (fun k => spec_quWatched.f k (n : Int) l) (allOk n l 0) := by
  obtain ⟨K, hK⟩ := ev_get (quWatched_l0 n hn l hl hp n 0 (by omega) (by omega))
  exact ⟨K, fun k hk => hK k hk⟩
theorem IndexFuncS (l : List (List Int)) (F : List Int → Option Bool) (P : List Int → Bool) (hF : ∀ x ∈ l, F x = some (P x)) (hb : l.length ≤ 1152921504606846976) : ∀ (d i : Nat) (k : Nat), l.length - i = d → i ≤ l.length → d < k →
    ∃ r : Int, slices_IndexFunc_int_int_191.l0 k l F (l.length : Int) (i : Int) = some r ∧ decide (r ≥ 0) = (l.drop i).any P := by
  intro d
  induction d with
  | zero =>
    intro i k hd hi hk
    obtain ⟨k, rfl⟩ : ∃ m, k = m + 1 := ⟨k - 1, by omega⟩
    exact ⟨-1, by rw [slices_IndexFunc_int_int_191.l0, if_neg (by omega)], by rw [List.drop_eq_nil_of_le (by omega)]; rfl⟩
  | succ d ih =>
    intro i k hd hi hk
    obtain ⟨k, rfl⟩ : ∃ m, k = m + 1 := ⟨k - 1, by omega⟩
    have h1 : i < l.length := by omega
    have hr := rdL_nat l i h1
    have hf := hF l[i] (List.getElem_mem h1)
    rw [List.drop_eq_getElem_cons h1, List.any_cons]
    by_cases hp : P l[i] = true
    · refine ⟨i, ?_, ?_⟩
      · rw [slices_IndexFunc_int_int_191.l0, if_pos (by omega), if_pos (by omega), if_pos (by omega), hr]
        simp only [FnCall57.f, hf, hp, Option.bind_some, if_true]
      · rw [hp, Bool.true_or]; simp
    · obtain ⟨r, h2, h3⟩ := ih (i + 1) k (by omega) (by omega) (by omega)
      refine ⟨r, ?_, ?_⟩
      · rw [slices_IndexFunc_int_int_191.l0, if_pos (by omega), if_pos (by omega), if_pos (by omega), hr]
        simp only [FnCall57.f, hf, hp, Option.bind_some]
        rw [if_neg (by simp), show wrap64 ((i : Int) + 1) = ((i + 1 : Nat) : Int) by unfold wrap64; omega]
        exact h2
      · rw [h3]; simp only [Bool.not_eq_true] at hp; rw [hp, Bool.false_or]
theorem ContainsFuncS_ev (l : List (List Int)) (F : List Int → Option Bool) (P : List Int → Bool) (hF : ∀ x ∈ l, F x = some (P x)) (hb : l.length ≤ 1152921504606846976) : Ev (fun k => slices_ContainsFunc_int_int_120.f k l F) (l.any P) := by
  refine ⟨l.length + 1, fun k hk => ?_⟩
  obtain ⟨r, h1, h2⟩ := IndexFuncS l F P hF hb l.length 0 k (by omega) (by omega) (by omega)
  simp only [slices_ContainsFunc_int_int_120.f, slices_IndexFunc_int_int_191.f]
  rw [show (0 : Int) = ((0 : Nat) : Int) from rfl, h1, Option.bind_some, show (((0 : Nat) : Int)) = 0 from rfl, h2]
  simp
theorem watching_fn (n : Nat) (hn : n ≤ 8) (x : List Int) (hx : placeOk n x = true) (r c : Nat) (hr : r < n) (hc : c < n) : impl_watching_1.fc (r : Int) (c : Int) x = some (reach x r c) := by
  obtain ⟨a, b, rfl, ha1, ha2, hb1, hb2⟩ := placeOk_at hx
  have e0 : rd [a, b] 0 = a := rfl
  have e1 : rd [a, b] 1 = b := rfl
  have hreach : reach [a, b] r c = decide (a = (r : Int) ∨ b = (c : Int) ∨ (a - (r : Int)).natAbs = (b - (c : Int)).natAbs) := rfl
  show impl_watching_1.f [a, b] (r : Int) (c : Int) = _
  unfold impl_watching_1.f
  rw [e0, e1, if_pos (by simp), hreach]
  by_cases h1 : a = (r : Int)
  · rw [if_pos h1]; simp [h1]
  · rw [if_neg h1, if_pos (by simp)]
    by_cases h2 : b = (c : Int)
    · rw [if_pos h2]; simp [h2]
    · rw [if_neg h2]
      unfold impl_attacked.f mx
      rw [w64 _ (by omega) (by omega), w64 _ (by omega) (by omega), w64 _ (by omega) (by omega), w64 _ (by omega) (by omega), Option.bind_some]
      congr 1
      rw [Bool.eq_iff_iff, beq_iff_eq, decide_eq_true_iff]
      split <;> split <;> omega
theorem watching_l1 (n : Nat) (hn : n ≤ 8) (l : List (List Int)) (hl : l.length ≤ 64) (hp : ∀ x ∈ l, placeOk n x = true) (r : Nat) (hr : r < n)
    (hout : Ev (fun k => impl_watching.l0 k (n : Int) l (n : Int) ((r + 1 : Nat) : Int)) (allOk n l (r + 1))) :
    ∀ (d c : Nat), n - c = d → c ≤ n →
    Ev (fun k => impl_watching.l1 k (n : Int) l (n : Int) (r : Int) (n : Int) (c : Int) (r : Int)) (rowOk n l r c && allOk n l (r + 1)) := by
  intro d
  induction d with
  | zero =>
    intro c hd hc
    obtain ⟨K, hK⟩ := ev_get hout
    refine ⟨K + 1, fun k hk => ?_⟩
    obtain ⟨k, rfl⟩ : ∃ m, k = m + 1 := ⟨k - 1, by omega⟩
    simp only [impl_watching.l1]
    rw [if_neg (by omega), w64 _ (by omega) (by omega), show ((r : Int) + 1) = ((r + 1 : Nat) : Int) by omega, hK k (by omega), rowOk_nil n l r c (by omega), Bool.true_and]
  | succ d ih =>
    intro c hd hc
    obtain ⟨K1, h1⟩ := ev_get (ih (c + 1) (by omega) (by omega))
    obtain ⟨K2, h2⟩ := ev_get (ContainsFuncS_ev l (impl_watching_1.fc (r : Int) (c : Int)) (fun x => reach x r c) (fun x hx => watching_fn n hn x (hp x hx) r c hr (by omega)) (by omega))
    refine ⟨K1 + K2 + 1, fun k hk => ?_⟩
    obtain ⟨k, rfl⟩ : ∃ m, k = m + 1 := ⟨k - 1, by omega⟩
    simp only [impl_watching.l1]
    rw [if_pos (by omega), h2 k (by omega), Option.bind_some, w64 _ (by omega) (by omega), show ((c : Int) + 1) = ((c + 1 : Nat) : Int) by omega, h1 k (by omega), rowOk_step n l r c (by omega)]
    show (if cellOk l r c = true then _ else _) = _
    cases cellOk l r c <;> simp
theorem watching_l0 (n : Nat) (hn : n ≤ 8) (l : List (List Int)) (hl : l.length ≤ 64) (hp : ∀ x ∈ l, placeOk n x = true) : ∀ (d r : Nat), n - r = d → r ≤ n →
    Ev (fun k => impl_watching.l0 k (n : Int) l (n : Int) (r : Int)) (allOk n l r) := by
  intro d
  induction d with
  | zero =>
    intro r hd hr
    refine ⟨1, fun k hk => ?_⟩
    obtain ⟨k, rfl⟩ : ∃ m, k = m + 1 := ⟨k - 1, by omega⟩
    simp only [impl_watching.l0]
    rw [if_neg (by omega), allOk_nil n l r (by omega)]
  | succ d ih =>
    intro r hd hr
    obtain ⟨K, hK⟩ := ev_get (watching_l1 n hn l hl hp r (by omega) (ih (r + 1) (by omega) (by omega)) n 0 (by omega) (by omega))
    refine ⟨K + 1, fun k hk => ?_⟩
    obtain ⟨k, rfl⟩ : ∃ m, k = m + 1 := ⟨k - 1, by omega⟩
    simp only [impl_watching.l0]
    have h := hK k (by omega)
    rw [if_pos (by omega), show (0 : Int) = ((0 : Nat) : Int) from rfl, h, allOk_step n l r (by omega)]
theorem watching_ev (n : Nat) (hn : n ≤ 8) (l : List (List Int)) (hl : l.length ≤ 64) (hp : ∀ x ∈ l, placeOk n x = true) : Ev (fun k => impl_watching.f k (n : Int) l) (allOk n l 0) := by
  obtain ⟨K, hK⟩ := ev_get (watching_l0 n hn l hl hp n 0 (by omega) (by omega))
  exact ⟨K, fun k hk => hK k hk⟩
end Go.Proofs.Ythlcaikplebpmaa.P
namespace Go.Proofs.Ythlcaikplebpmaa.P
open Go.RowKit Go.Proofs.YthlcaikplebpmaaW.PrintWords Go.Proofs.YthlcaikplebpmaaW.PrintLast Go.Proofs.YthlcaikplebpmaaW.PrintMore
set_option linter.unusedVariables false
set_option linter.unusedSimpArgs false
theorem boardB_iff (r c : Int) (l : List Int) : boardB r c l = true ↔ (1 ≤ r ∧ r ≤ 6) ∧ (1 ≤ c ∧ c ≤ 6) ∧ (l.length : Int) = r ∧ ∀ m ∈ l, 0 ≤ m ∧ m ≤ 2 ^ c.toNat - 1 := by
  unfold boardB
  simp only [Bool.and_eq_true, decide_eq_true_eq, List.all_eq_true]
  constructor
  · rintro ⟨⟨⟨a, b⟩, c⟩, d⟩; exact ⟨a, b, c, d⟩
  · rintro ⟨a, b, c, d⟩; exact ⟨⟨⟨a, b⟩, c⟩, d⟩
theorem pow_le6 (c : Int) (h1 : c ≤ 6) : (2 : Int) ^ c.toNat ≤ 64 := by
  have := Nat.pow_le_pow_right (show 0 < 2 by decide) (show c.toNat ≤ 6 by omega)
  have h : (2 : Int) ^ c.toNat ≤ 2 ^ 6 := by exact_mod_cast this
  exact h
end Go.Proofs.Ythlcaikplebpmaa.P
namespace Go.Proofs.Ythlcaikplebpmaa.P
open Go.RowKit Go.Proofs.YthlcaikplebpmaaW.PrintWords Go.Proofs.YthlcaikplebpmaaW.PrintLast Go.Proofs.YthlcaikplebpmaaW.PrintMore
set_option linter.unusedVariables false
set_option linter.unusedSimpArgs false
/-- A mask has a column. -/
def hasM (m : Int) (j : Int) : Bool := Int.tmod (shr .i64 m j) 2 == 1
theorem has_bits : ∀ m : Fin 64, ∀ c : Fin 6, (Go.bits .and .i64 (shr .i64 (m.val : Int) (c.val : Int)) 1 == 1) = hasM (m.val : Int) (c.val : Int) := by decide +kernel
theorem has_bits' (m c : Int) (h0 : 0 ≤ m) (h1 : m ≤ 63) (h2 : 0 ≤ c) (h3 : c ≤ 5) : (Go.bits .and .i64 (shr .i64 m c) 1 == 1) = hasM m c := by
  have h := has_bits ⟨m.toNat, by omega⟩ ⟨c.toNat, by omega⟩
  simp only [show ((m.toNat : Nat) : Int) = m by omega, show ((c.toNat : Nat) : Int) = c by omega] at h
  exact h
/-- The board has the cell. -/
def hasC (l : List Int) (i j : Int) : Bool := hasM (rd l i) j
theorem board_row {r c : Int} {l : List Int} (h : boardB r c l = true) {i : Int} (h0 : 0 ≤ i) (h1 : i < r) : 0 ≤ rd l i ∧ rd l i ≤ 63 := by
  obtain ⟨hr, hc, hl, hm⟩ := (boardB_iff r c l).1 h
  have hp6 := pow_le6 c hc.2
  have hx : i.toNat < l.length := by omega
  have := hm l[i.toNat] (List.getElem_mem hx)
  have e : rd l i = l[i.toNat] := by
    have := rd_nat l i.toNat hx
    rwa [show ((i.toNat : Nat) : Int) = i by omega] at this
  rw [e]; omega
theorem has_eq {r c : Int} {l : List Int} (h : boardB r c l = true) {i j : Int} (h0 : 0 ≤ i) (h1 : i < r) (h2 : 0 ≤ j) (h3 : j < c) : impl_Board_has.f r c l i j = some (hasC l i j) := by
  obtain ⟨hr, hc, hl, hm⟩ := (boardB_iff r c l).1 h
  have hb := board_row h h0 h1
  simp only [impl_Board_has.f]
  rw [if_pos h0, if_pos (by omega), if_pos h2, has_bits' _ _ hb.1 hb.2 h2 (by omega)]
  rfl
theorem crange'_step (s n : Nat) (h : s < n) : List.range' s (n - s) = s :: List.range' (s + 1) (n - (s + 1)) := by
  rw [show n - s = (n - (s + 1)) + 1 by omega, List.range'_succ]
def cellRow (l : List Int) (i C j : Nat) : List (List Int) := (List.range' j (C - j)).flatMap fun (j : Nat) => if hasC l (i : Int) (j : Int) = true then [[(i : Int), (j : Int)]] else []
def cellsFrom (l : List Int) (R C i : Nat) : List (List Int) := (List.range' i (R - i)).flatMap fun (i : Nat) => cellRow l i C 0
theorem cellRow_step (l : List Int) (i C j : Nat) (h : j < C) : cellRow l i C j = (if hasC l (i : Int) (j : Int) = true then [[(i : Int), (j : Int)]] else []) ++ cellRow l i C (j + 1) := by
  unfold cellRow
  rw [crange'_step j C h, List.flatMap_cons]
theorem cellRow_nil (l : List Int) (i C j : Nat) (h : C ≤ j) : cellRow l i C j = [] := by
  unfold cellRow
  rw [show C - j = 0 by omega]; rfl
theorem cellsFrom_step (l : List Int) (R C i : Nat) (h : i < R) : cellsFrom l R C i = cellRow l i C 0 ++ cellsFrom l R C (i + 1) := by
  unfold cellsFrom
  rw [crange'_step i R h, List.flatMap_cons]
theorem cellsFrom_nil (l : List Int) (R C i : Nat) (h : R ≤ i) : cellsFrom l R C i = [] := by
  unfold cellsFrom
  rw [show R - i = 0 by omega]; rfl
def cells (r c : Int) (l : List Int) : List (List Int) := cellsFrom l r.toNat c.toNat 0
theorem CellsOf_ev (r c : Int) (l : List Int) : Ev (fun k => impl_CellsOf.f k r c l) (if boardB r c l = true then (cells r c l, true) else ([], false)) := by
  by_cases h0 : ¬ boardB r c l = true
  · refine ⟨0, fun k hk => ?_⟩
    simp only [impl_CellsOf.f, impl_IsBoard.f, Option.bind_some, if_neg h0]
  have h := Classical.not_not.1 h0
  rw [if_pos h]
  obtain ⟨hr, hc, hl, hm⟩ := (boardB_iff r c l).1 h
  obtain ⟨R, rfl⟩ : ∃ R : Nat, r = R := ⟨r.toNat, by omega⟩
  obtain ⟨C, rfl⟩ : ∃ C : Nat, c = C := ⟨c.toNat, by omega⟩
  have hout : ∀ (d i : Nat) (acc : List (List Int)), R - i = d → i ≤ R → acc.length ≤ 6 * i → Ev (fun k => impl_CellsOf.l0 k acc (R : Int) (i : Int) (R : Int) (C : Int) l) (acc ++ cellsFrom l R C i, true) := by
    intro d
    induction d with
    | zero =>
      intro i acc hd hi ha
      refine ⟨1, fun k hk => ?_⟩
      obtain ⟨k, rfl⟩ : ∃ m, k = m + 1 := ⟨k - 1, by omega⟩
      dsimp only
      rw [impl_CellsOf.l0, if_neg (by omega), cellsFrom_nil l R C i (by omega), List.append_nil]
    | succ d ih =>
      intro i acc hd hi ha
      have hin : ∀ (e j : Nat) (acc : List (List Int)), C - j = e → j ≤ C → acc.length ≤ 6 * i + j → Ev (fun k => impl_CellsOf.l1 k acc (i : Int) (R : Int) (i : Int) (C : Int) (j : Int) (R : Int) (C : Int) l) (acc ++ cellRow l i C j ++ cellsFrom l R C (i + 1), true) := by
        intro e
        induction e with
        | zero =>
          intro j acc he hj ha
          obtain ⟨K, hK⟩ := ev_get (ih (i + 1) acc (by omega) (by omega) (by omega))
          refine ⟨K + 1, fun k hk => ?_⟩
          obtain ⟨k, rfl⟩ : ∃ m, k = m + 1 := ⟨k - 1, by omega⟩
          dsimp only
          rw [impl_CellsOf.l1, if_neg (by omega), cellRow_nil l i C j (by omega), List.append_nil, w64 _ (by omega) (by omega), show ((i : Int) + 1) = ((i + 1 : Nat) : Int) by omega]
          exact hK k (by omega)
        | succ e ihe =>
          intro j acc he hj ha
          obtain ⟨K1, h1⟩ := ev_get (ihe (j + 1) (acc ++ [[(i : Int), (j : Int)]]) (by omega) (by omega) (by simp; omega))
          obtain ⟨K2, h2⟩ := ev_get (ihe (j + 1) acc (by omega) (by omega) (by omega))
          refine ⟨K1 + K2 + 1, fun k hk => ?_⟩
          obtain ⟨k, rfl⟩ : ∃ m, k = m + 1 := ⟨k - 1, by omega⟩
          dsimp only
          rw [impl_CellsOf.l1, if_pos (by omega), has_eq h (by omega) (by omega) (by omega) (by omega), Option.bind_some, if_pos (show acc.length < 5864062014805 by omega), w64 ((j : Int) + 1) (by omega) (by omega), show ((j : Int) + 1) = ((j + 1 : Nat) : Int) by omega, h1 k (by omega), h2 k (by omega), cellRow_step l i C j (by omega)]
          by_cases hh : hasC l (i : Int) (j : Int) = true
          · rw [if_pos hh, if_pos hh]; simp [List.append_assoc]
          · rw [if_neg hh, if_neg hh]; simp
      obtain ⟨K, hK⟩ := ev_get (hin C 0 acc (by omega) (by omega) (by omega))
      refine ⟨K + 1, fun k hk => ?_⟩
      obtain ⟨k, rfl⟩ : ∃ m, k = m + 1 := ⟨k - 1, by omega⟩
      dsimp only
      rw [impl_CellsOf.l0, if_pos (by omega), cellsFrom_step l R C i (by omega), ← List.append_assoc]
      exact hK k (by omega)
  obtain ⟨K, hK⟩ := ev_get (hout R 0 [] (by omega) (by omega) (by simp))
  refine ⟨K, fun k hk => ?_⟩
  simp only [impl_CellsOf.f, impl_IsBoard.f, Option.bind_some, if_pos h]
  simpa [cells] using hK k hk
theorem rd0 (p q : Int) : rd [p, q] 0 = p := by simp [rd]
theorem rd1 (p q : Int) : rd [p, q] 1 = q := by simp [rd]
end Go.Proofs.Ythlcaikplebpmaa.P
namespace Go.Proofs.Ythlcaikplebpmaa.P
open Go.RowKit Go.Proofs.YthlcaikplebpmaaW.PrintWords Go.Proofs.YthlcaikplebpmaaW.PrintLast Go.Proofs.YthlcaikplebpmaaW.PrintMore
set_option linter.unusedVariables false
set_option linter.unusedSimpArgs false
section
variable (P : List (List Int) → Bool)
/-- The first list of so many places that goes on a list and is a good one. -/
def findL (most : Nat) : List (List Int) → List (List Int) → Option (List (List Int))
  | [], _ => none
  | x :: rest, list => match (if list.length + 1 = most then (if P (list ++ [x]) = true then some (list ++ [x]) else none) else findL most rest (list ++ [x])) with
    | some o => some o
    | none => findL most rest list
theorem findL_some (most : Nat) : ∀ suf list o, findL P most suf list = some o → ∃ s, s.Sublist suf ∧ o = list ++ s
  | [], list, o, h => by simp [findL] at h
  | x :: rest, list, o, h => by
    rw [findL] at h
    split at h
    · rename_i o' ho
      obtain rfl := Option.some.inj h
      by_cases hm : list.length + 1 = most
      · rw [if_pos hm] at ho
        split at ho
        · obtain rfl := Option.some.inj ho
          exact ⟨[x], List.Sublist.cons_cons x (List.nil_sublist _), rfl⟩
        · cases ho
      · rw [if_neg hm] at ho
        obtain ⟨s, h1, rfl⟩ := findL_some most rest (list ++ [x]) _ ho
        exact ⟨x :: s, List.Sublist.cons_cons x h1, by simp⟩
    · obtain ⟨s, h1, rfl⟩ := findL_some most rest list o h
      exact ⟨s, List.Sublist.cons x h1, rfl⟩
end
theorem evw {α : Type} {g g' : Nat → Option α} {r : α} (K : Nat) (h : Ev g' r) (hs : ∀ k, K ≤ k → g (k + 1) = g' k) : Ev g r := by
  obtain ⟨K2, h2⟩ := ev_get h
  refine ⟨K + K2 + 1, fun k hk => ?_⟩
  obtain ⟨k, rfl⟩ : ∃ m, k = m + 1 := ⟨k - 1, by omega⟩
  rw [hs k (by omega)]
  exact h2 k (by omega)
theorem evx {α : Type} {g : Nat → Option α} {r : α} (K : Nat) (hs : ∀ k, K ≤ k → g (k + 1) = some r) : Ev g r := by
  refine ⟨K + 1, fun k hk => ?_⟩
  obtain ⟨k, rfl⟩ : ∃ m, k = m + 1 := ⟨k - 1, by omega⟩
  exact hs k (by omega)
theorem at_step {i n : Nat} (h : i < n) (hn : n ≤ 1000) : n - (i + 1) = n - i - 1 ∧ i + 1 ≤ n ∧ ((i : Int) < (n : Int) ∧ 0 ≤ (i : Int) ∧ wrap64 ((i : Int) + 1) = ((i + 1 : Nat) : Int)) := by
  refine ⟨by omega, by omega, by omega, by omega, ?_⟩
  rw [w64 _ (by omega) (by omega)]; omega
/-- All places, in order. -/
def allc (n : Nat) : List (List Int) := (List.range (n * n)).map fun t => [((t / n : Nat) : Int), ((t % n : Nat) : Int)]
theorem allc_len (n : Nat) : (allc n).length = n * n := by simp [allc]
theorem allc_at {n t : Nat} (h : t < n * n) : (allc n).getD t [] = [((t / n : Nat) : Int), ((t % n : Nat) : Int)] := by
  simp [allc, List.getD_eq_getElem?_getD, h]
theorem allc_drop {n t : Nat} (h : t < n * n) : (allc n).drop t = [((t / n : Nat) : Int), ((t % n : Nat) : Int)] :: (allc n).drop (t + 1) := by
  rw [← allc_at h, List.drop_eq_getElem_cons (by rw [allc_len]; exact h), List.getD_eq_getElem?_getD, List.getElem?_eq_getElem (by rw [allc_len]; exact h)]
  rfl
theorem allc_ok : ∀ n : Fin 7, (allc n.val).Nodup ∧ ∀ x ∈ allc n.val, placeOk (n.val : Int) x = true ∧ x.length = 2 := by decide +kernel
def outW (o : Option (List (List Int))) (q : List (List Int)) : Bool × List (List Int) := match o with
  | some l => (true, l)
  | none => (false, q)
section
variable (n : Nat) (hn : n ≤ 6) (most : Nat) (all : List (List Int))
theorem lw_f_eq (k : Nat) (n most : Int) (all : List (List Int)) (fr : Int) (q : List (List Int)) (b : Bool) (h : (q.length : Int) = most) (hw : impl_watching.f k n q = some b) : impl_LeastWatch_1.f n most all (k + 1) fr q = some (b, q) := by
  rw [impl_LeastWatch_1.f, if_pos h, hw, Option.bind_some]
theorem lw_f_ne (k : Nat) (n most : Int) (all : List (List Int)) (fr : Int) (q : List (List Int)) (h : ¬ (q.length : Int) = most) : impl_LeastWatch_1.f n most all (k + 1) fr q = impl_LeastWatch_1.l0 n most all k fr q := by
  rw [impl_LeastWatch_1.f, if_neg h]
theorem lw_end (k : Nat) (n most : Int) (all : List (List Int)) (i : Int) (q : List (List Int)) (h : ¬ i < (all.length : Int)) : impl_LeastWatch_1.l0 n most all (k + 1) i q = some (false, q) := by
  rw [impl_LeastWatch_1.l0, if_neg h]
theorem lw_hit (k : Nat) (n most : Int) (all : List (List Int)) (i : Int) (q o : List (List Int)) (h : i < (all.length : Int)) (h0 : 0 ≤ i) (hq : q.length < 5864062014805) (hf : impl_LeastWatch_1.f n most all k (wrap64 (i + 1)) (q ++ [all.getD i.toNat []]) = some (true, o)) : impl_LeastWatch_1.l0 n most all (k + 1) i q = some (true, o) := by
  rw [impl_LeastWatch_1.l0, if_pos h, if_pos h0, if_pos hq, hf, Option.bind_some, if_pos rfl]
theorem lw_miss (k : Nat) (n most : Int) (all : List (List Int)) (i : Int) (q : List (List Int)) (h : i < (all.length : Int)) (h0 : 0 ≤ i) (hq : q.length < 5864062014805) (hf : impl_LeastWatch_1.f n most all k (wrap64 (i + 1)) (q ++ [all.getD i.toNat []]) = some (false, q ++ [all.getD i.toNat []])) : impl_LeastWatch_1.l0 n most all (k + 1) i q = impl_LeastWatch_1.l0 n most all k (wrap64 (i + 1)) q := by
  rw [impl_LeastWatch_1.l0, if_pos h, if_pos h0, if_pos hq, hf, Option.bind_some, if_neg (by simp), if_pos rfl]
variable {n hn most all}
theorem lw_loop (hn : n ≤ 6) (hall : all.length ≤ 36) (hok : ∀ x ∈ all, placeOk (n : Int) x = true) : ∀ (d i : Nat) (q : List (List Int)), all.length - i = d → i ≤ all.length → q.length ≤ i → q.length < most → (∀ x ∈ q, placeOk (n : Int) x = true) →
    Ev (fun k => impl_LeastWatch_1.l0 (n : Int) (most : Int) all k (i : Int) q) (outW (findL (fun l => allOk n l 0) most (all.drop i) q) q) := by
  intro d
  induction d with
  | zero =>
    intro i q hd hi hq hm hp
    have hle : all.length ≤ i := Nat.sub_eq_zero_iff_le.1 hd
    rw [List.drop_eq_nil_of_le hle]
    exact evx 0 (fun k _ => lw_end _ _ _ _ _ _ (by omega))
  | succ d ih =>
    intro i q hd hi hq hm hp
    have hi2 : i < all.length := Nat.lt_of_sub_eq_succ hd
    obtain ⟨g0, g2, g4⟩ := at_step hi2 (by omega)
    have g1 : all.length - (i + 1) = d := by rw [g0, hd]; rfl
    have hdr : all.drop i = all.getD i [] :: all.drop (i + 1) := by rw [List.drop_eq_getElem_cons hi2, List.getD_eq_getElem?_getD, List.getElem?_eq_getElem hi2]; rfl
    have hx : placeOk (n : Int) (all.getD i []) = true := by rw [List.getD_eq_getElem?_getD, List.getElem?_eq_getElem hi2]; exact hok _ (List.getElem_mem hi2)
    have hp2 : ∀ x ∈ q ++ [all.getD i []], placeOk (n : Int) x = true := by
      intro y hy
      rcases List.mem_append.1 hy with hy | hy
      · exact hp y hy
      · rw [List.mem_singleton.1 hy]; exact hx
    have hl2 : (q ++ [all.getD i []]).length = q.length + 1 := by rw [List.length_append, List.length_singleton]
    have hql : q.length < 5864062014805 := by omega
    have hwt := watching_ev n (by omega) (q ++ [all.getD i []]) (by omega) hp2
    rw [hdr, findL]
    by_cases hk : q.length + 1 = most
    · obtain ⟨K1, h1⟩ := ev_get hwt
      have hf : ∀ k, K1 + 1 ≤ k → impl_LeastWatch_1.f (n : Int) (most : Int) all k ((i + 1 : Nat) : Int) (q ++ [all.getD i []]) = some (allOk n (q ++ [all.getD i []]) 0, q ++ [all.getD i []]) := fun k hk2 => by
        obtain ⟨k, rfl⟩ : ∃ m, k = m + 1 := ⟨k - 1, by omega⟩
        exact lw_f_eq k _ _ _ _ _ _ (by rw [hl2]; omega) (h1 k (by omega))
      rw [if_pos hk]
      by_cases hP : allOk n (q ++ [all.getD i []]) 0 = true
      · simp only [if_pos hP]
        refine evx (K1 + 1) (fun k hk2 => ?_)
        have := hf k hk2
        rw [hP] at this
        exact lw_hit k _ _ _ _ _ _ g4.1 g4.2.1 hql (by rw [g4.2.2]; exact this)
      · simp only [if_neg hP]
        refine evw (K1 + 1) (ih (i + 1) q g1 g2 (by omega) hm hp) (fun k hk2 => ?_)
        have := hf k hk2
        simp only [Bool.not_eq_true] at hP
        rw [hP] at this
        rw [lw_miss k _ _ _ _ _ g4.1 g4.2.1 hql (by rw [g4.2.2]; exact this), g4.2.2]
    · rw [if_neg hk]
      have hin := evw (g := fun k => impl_LeastWatch_1.f (n : Int) (most : Int) all k ((i + 1 : Nat) : Int) (q ++ [all.getD i []])) 0 (ih (i + 1) (q ++ [all.getD i []]) g1 g2 (by omega) (by omega) hp2) (fun k _ => lw_f_ne k (n : Int) (most : Int) all ((i + 1 : Nat) : Int) (q ++ [all.getD i []]) (by rw [hl2]; omega))
      obtain ⟨K1, h1⟩ := ev_get hin
      cases hF : findL (fun l => allOk n l 0) most (all.drop (i + 1)) (q ++ [all.getD i []]) with
      | some o =>
        rw [hF] at h1
        exact evx K1 (fun k hk2 => lw_hit k _ _ _ _ _ _ g4.1 g4.2.1 hql (by rw [g4.2.2]; exact h1 k hk2))
      | none =>
        rw [hF] at h1
        exact evw K1 (ih (i + 1) q g1 g2 (by omega) hm hp) (fun k hk2 => by rw [lw_miss k _ _ _ _ _ g4.1 g4.2.1 hql (by rw [g4.2.2]; exact h1 k hk2), g4.2.2])
end
theorem qw_zero (k : Nat) (n : Int) (l : List (List Int)) (b : Bool) (h : spec_quWatched.f k n l = some b) : spec_quWatch.f (k + 1) n 0 l = some (l, b) := by
  rw [spec_quWatch.f, if_pos rfl, h, Option.bind_some]
theorem qw_first (k : Nat) (n m : Int) (h : m ≠ 0) : spec_quWatch.f (k + 1 + 1) n m [] = spec_quWatch.l0 k n m [] 0 := by
  rw [spec_quWatch.f, if_neg h, if_neg (by simp), spec_quWatch.j0]
theorem qw_more (k : Nat) (n m : Int) (l : List (List Int)) (a b t : Int) (h : m ≠ 0) (hl : (l.length : Int) > 0) (hw : wrap64 ((l.length : Int) - 1) = (l.length : Int) - 1) (hr : rd_L1 l ((l.length : Int) - 1) = [a, b]) (ht : wrap64 (wrap64 (wrap64 (a * n) + b) + 1) = t) : spec_quWatch.f (k + 1 + 1) n m l = spec_quWatch.l0 k n m l t := by
  rw [spec_quWatch.f, if_neg h, if_pos hl, hw, if_pos (by omega), if_pos (by omega), hr, if_pos (by simp), if_pos (by simp), rd0, rd1, ht, spec_quWatch.j0]
theorem qw_end (k : Nat) (n m : Int) (l : List (List Int)) (t : Int) (h : ¬ t < wrap64 (n * n)) : spec_quWatch.l0 (k + 1) n m l t = some ([], false) := by
  rw [spec_quWatch.l0, if_neg h]
theorem qw_step (k : Nat) (n m : Int) (l : List (List Int)) (t : Int) (o : List (List Int)) (b : Bool) (h : t < wrap64 (n * n)) (hn : n ≠ 0) (hl : l.length < 1000) (hf : spec_quWatch.f k n (wrap64 (m - 1)) (l ++ [[wrap64 (Int.tdiv t n), Int.tmod t n]]) = some (o, b)) :
    spec_quWatch.l0 (k + 1) n m l t = if b = true then some (o, true) else spec_quWatch.l0 k n m l (wrap64 (t + 1)) := by
  rw [spec_quWatch.l0, if_pos h, Option.bind_some, if_pos (by simp; omega), Option.bind_some, if_neg hn, Option.bind_some, if_pos (by simp; omega), List.nil_append, hf, Option.bind_some]
def outQ (o : Option (List (List Int))) : List (List Int) × Bool := match o with
  | some l => (l, true)
  | none => ([], false)
theorem place_next {n t : Nat} (hn : 1 ≤ n) (hn6 : n ≤ 6) (h : t < n * n) : wrap64 (Int.tdiv (t : Int) (n : Int)) = ((t / n : Nat) : Int) ∧ Int.tmod (t : Int) (n : Int) = ((t % n : Nat) : Int) ∧ wrap64 (wrap64 (wrap64 (((t / n : Nat) : Int) * (n : Int)) + ((t % n : Nat) : Int)) + 1) = ((t + 1 : Nat) : Int) := by
  have h36 : n * n ≤ 36 := Nat.mul_le_mul hn6 hn6
  have e1 : Int.tdiv (t : Int) (n : Int) = ((t / n : Nat) : Int) := by rw [Int.tdiv_eq_ediv_of_nonneg (Int.natCast_nonneg _)]; rfl
  have e2 : Int.tmod (t : Int) (n : Int) = ((t % n : Nat) : Int) := by rw [Int.tmod_eq_emod_of_nonneg (Int.natCast_nonneg _)]; rfl
  have d := Nat.div_add_mod t n
  have hdt : t / n ≤ t := Nat.div_le_self t n
  rw [e1, e2]
  clear e1 e2
  generalize t / n = a at d hdt ⊢
  generalize t % n = b at d ⊢
  generalize n * n = m at h h36
  have hm : (a : Int) * (n : Int) = ((n * a : Nat) : Int) := by rw [← Int.natCast_mul, Nat.mul_comm]
  rw [hm]
  generalize n * a = p at d ⊢
  refine ⟨w64 _ (by omega) (by omega), rfl, ?_⟩
  rw [w64 (p : Int) (by omega) (by omega), w64 ((p : Int) + (b : Int)) (by omega) (by omega), w64 ((p : Int) + (b : Int) + 1) (by omega) (by omega)]
  omega
theorem two_less {K k : Nat} (h : K + 2 ≤ k) : ∃ j, K ≤ j ∧ k = j + 1 + 1 := ⟨k - 2, by omega, by omega⟩
/-- The reference's search from place t on: so many are missing. -/
theorem qw_loop {n : Nat} (hn : 1 ≤ n) (hn6 : n ≤ 6) (m : Nat) (most : Nat) (hmost : most ≤ 36)
    (ih : ∀ (t : Nat) (l : List (List Int)), t < n * n → l.length + 1 + m = most → (∀ x ∈ l ++ [[((t / n : Nat) : Int), ((t % n : Nat) : Int)]], placeOk (n : Int) x = true) → l.length ≤ 36 →
      Ev (fun k => spec_quWatch.f k (n : Int) (m : Int) (l ++ [[((t / n : Nat) : Int), ((t % n : Nat) : Int)]])) (if m = 0 then (l ++ [[((t / n : Nat) : Int), ((t % n : Nat) : Int)]], allOk n (l ++ [[((t / n : Nat) : Int), ((t % n : Nat) : Int)]]) 0) else outQ (findL (fun l => allOk n l 0) most ((allc n).drop (t + 1)) (l ++ [[((t / n : Nat) : Int), ((t % n : Nat) : Int)]])))) :
    ∀ (d t : Nat) (l : List (List Int)), n * n - t = d → t ≤ n * n → l.length ≤ 36 → l.length + (m + 1) = most → (∀ x ∈ l, placeOk (n : Int) x = true) →
    Ev (fun k => spec_quWatch.l0 k (n : Int) ((m + 1 : Nat) : Int) l (t : Int)) (outQ (findL (fun l => allOk n l 0) most ((allc n).drop t) l)) := by
  have h36 : n * n ≤ 36 := Nat.mul_le_mul hn6 hn6
  have hnn : wrap64 ((n : Int) * (n : Int)) = ((n * n : Nat) : Int) := by
    rw [← Int.natCast_mul]; exact w64 _ (by omega) (by omega)
  have hm1 : wrap64 (((m + 1 : Nat) : Int) - 1) = wrap64 (m : Int) := by congr 1; omega
  intro d
  induction d with
  | zero =>
    intro t l hd ht hl hm hp
    have hle : n * n ≤ t := Nat.sub_eq_zero_iff_le.1 hd
    rw [List.drop_eq_nil_of_le (by rw [allc_len]; exact hle)]
    exact evx 0 (fun k _ => qw_end _ _ _ _ _ (by rw [hnn]; exact_mod_cast Nat.not_lt.2 hle))
  | succ d ihd =>
    intro t l hd ht hl hm hp
    have ht2 : t < n * n := Nat.lt_of_sub_eq_succ hd
    obtain ⟨g0, g2, g4⟩ := at_step ht2 (by omega)
    have g1 : n * n - (t + 1) = d := by rw [g0, hd]; rfl
    obtain ⟨p1, p2, p3⟩ := place_next hn hn6 ht2
    have hxm : [((t / n : Nat) : Int), ((t % n : Nat) : Int)] ∈ allc n := by
      rw [← allc_at ht2, List.getD_eq_getElem?_getD, List.getElem?_eq_getElem (by rw [allc_len]; exact ht2)]
      exact List.getElem_mem _
    have hx := ((allc_ok ⟨n, by omega⟩).2 _ hxm).1
    have hp2 : ∀ x ∈ l ++ [[((t / n : Nat) : Int), ((t % n : Nat) : Int)]], placeOk (n : Int) x = true := by
      intro y hy
      rcases List.mem_append.1 hy with hy | hy
      · exact hp y hy
      · rw [List.mem_singleton.1 hy]; exact hx
    have hlt : (t : Int) < wrap64 ((n : Int) * (n : Int)) := by rw [hnn]; exact_mod_cast ht2
    have hn0 : (n : Int) ≠ 0 := by omega
    have hwm : wrap64 (m : Int) = (m : Int) := w64 _ (by omega) (by omega)
    obtain ⟨K1, h1⟩ := ev_get (ih t l ht2 (by omega) hp2 hl)
    have hnext := ihd (t + 1) l g1 g2 hl hm hp
    rw [allc_drop ht2, findL]
    have hcase : (l.length + 1 = most) ↔ m = 0 := ⟨fun e => by omega, fun e => by omega⟩
    by_cases hk : m = 0
    · rw [if_pos (hcase.2 hk)]
      rw [if_pos hk] at h1
      by_cases hP : allOk n (l ++ [[((t / n : Nat) : Int), ((t % n : Nat) : Int)]]) 0 = true
      · simp only [if_pos hP]
        refine evx K1 (fun k hk2 => ?_)
        rw [qw_step k _ _ _ _ _ _ hlt hn0 (by omega) (by rw [hm1, hwm, p1, p2]; exact h1 k hk2), if_pos hP]
        rfl
      · simp only [if_neg hP]
        refine evw K1 hnext (fun k hk2 => ?_)
        rw [qw_step k _ _ _ _ _ _ hlt hn0 (by omega) (by rw [hm1, hwm, p1, p2]; exact h1 k hk2), if_neg hP, g4.2.2]
    · rw [if_neg (fun e => hk (hcase.1 e))]
      rw [if_neg hk] at h1
      cases hF : findL (fun l => allOk n l 0) most ((allc n).drop (t + 1)) (l ++ [[((t / n : Nat) : Int), ((t % n : Nat) : Int)]]) with
      | some o =>
        rw [hF] at h1
        refine evx K1 (fun k hk2 => ?_)
        rw [qw_step k _ _ _ _ o true hlt hn0 (by omega) (by rw [hm1, hwm, p1, p2]; exact h1 k hk2), if_pos rfl]
        rfl
      | none =>
        rw [hF] at h1
        refine evw K1 hnext (fun k hk2 => ?_)
        rw [qw_step k _ _ _ _ [] false hlt hn0 (by omega) (by rw [hm1, hwm, p1, p2]; exact h1 k hk2), if_neg (by simp), g4.2.2]
theorem qw_rec {n : Nat} (hn : 1 ≤ n) (hn6 : n ≤ 6) (most : Nat) (hmost : most ≤ 36) : ∀ (m t : Nat) (l : List (List Int)), t < n * n → l.length + 1 + m = most → (∀ x ∈ l ++ [[((t / n : Nat) : Int), ((t % n : Nat) : Int)]], placeOk (n : Int) x = true) → l.length ≤ 36 →
      Ev (fun k => spec_quWatch.f k (n : Int) (m : Int) (l ++ [[((t / n : Nat) : Int), ((t % n : Nat) : Int)]])) (if m = 0 then (l ++ [[((t / n : Nat) : Int), ((t % n : Nat) : Int)]], allOk n (l ++ [[((t / n : Nat) : Int), ((t % n : Nat) : Int)]]) 0) else outQ (findL (fun l => allOk n l 0) most ((allc n).drop (t + 1)) (l ++ [[((t / n : Nat) : Int), ((t % n : Nat) : Int)]])))
  | 0, t, l, ht, hm, hp, hl => by
    rw [if_pos rfl]
    obtain ⟨K, hK⟩ := ev_get (quWatched_ev n (by omega) (l ++ [[((t / n : Nat) : Int), ((t % n : Nat) : Int)]]) (by rw [List.length_append, List.length_singleton]; omega) hp)
    exact evx K (fun k hk => qw_zero k _ _ _ (hK k hk))
  | m + 1, t, l, ht, hm, hp, hl => by
    rw [if_neg (Nat.succ_ne_zero m)]
    have hl2 : (l ++ [[((t / n : Nat) : Int), ((t % n : Nat) : Int)]]).length = l.length + 1 := by rw [List.length_append, List.length_singleton]
    have hbig : l.length + 1 ≤ 36 := Nat.le_trans (Nat.le_add_right _ _) (hm ▸ hmost)
    have f3 : (l ++ [[((t / n : Nat) : Int), ((t % n : Nat) : Int)]]).length + (m + 1) = most := by rw [hl2]; exact hm
    have f4 : ((m + 1 : Nat) : Int) ≠ 0 := by exact_mod_cast Nat.succ_ne_zero m
    have f5 : (((l ++ [[((t / n : Nat) : Int), ((t % n : Nat) : Int)]]).length : Nat) : Int) > 0 := by rw [hl2]; exact_mod_cast Nat.succ_pos _
    have f6 : wrap64 ((((l ++ [[((t / n : Nat) : Int), ((t % n : Nat) : Int)]]).length : Nat) : Int) - 1) = (((l ++ [[((t / n : Nat) : Int), ((t % n : Nat) : Int)]]).length : Nat) : Int) - 1 := by
      rw [hl2]
      generalize l.length = z at hbig ⊢
      exact w64 _ (by omega) (by omega)
    have hlast : rd_L1 (l ++ [[((t / n : Nat) : Int), ((t % n : Nat) : Int)]]) ((((l ++ [[((t / n : Nat) : Int), ((t % n : Nat) : Int)]]).length : Nat) : Int) - 1) = [((t / n : Nat) : Int), ((t % n : Nat) : Int)] := by
      rw [hl2, show (((l.length + 1 : Nat) : Int) - 1) = (l.length : Int) by omega]
      exact rdL_mid l [] _
    have h := qw_loop hn hn6 m most hmost (qw_rec hn hn6 most hmost m) (n * n - (t + 1)) (t + 1) (l ++ [[((t / n : Nat) : Int), ((t % n : Nat) : Int)]]) rfl ht (by rw [hl2]; exact hbig) f3 hp
    obtain ⟨p1, p2, p3⟩ := place_next hn hn6 ht
    obtain ⟨K, hK⟩ := ev_get h
    clear h
    refine ⟨K + 2, fun k hk => ?_⟩
    obtain ⟨k, hk2, rfl⟩ := two_less hk
    show spec_quWatch.f (k + 1 + 1) _ _ _ = _
    rw [qw_more k _ _ _ _ _ ((t + 1 : Nat) : Int) f4 f5 f6 hlast p3]
    exact hK k hk2
theorem qw_ev {n : Nat} (hn : 1 ≤ n) (hn6 : n ≤ 6) (m : Nat) (hm : m + 1 ≤ 36) : Ev (fun k => spec_quWatch.f k (n : Int) ((m + 1 : Nat) : Int) []) (outQ (findL (fun l => allOk n l 0) (m + 1) (allc n) [])) := by
  have h := qw_loop hn hn6 m (m + 1) hm (qw_rec hn hn6 (m + 1) hm m) (n * n) 0 [] (Nat.sub_zero _) (Nat.zero_le _) (Nat.zero_le _) (Nat.zero_add _) (fun x hx => absurd hx (List.not_mem_nil))
  rw [List.drop_zero] at h
  obtain ⟨K, hK⟩ := ev_get h
  refine ⟨K + 2, fun k hk => ?_⟩
  obtain ⟨k, rfl⟩ : ∃ j, k = j + 1 + 1 := ⟨k - 2, by omega⟩
  show spec_quWatch.f (k + 1 + 1) _ _ _ = _
  rw [qw_first k _ _ (by omega)]
  exact hK k (by omega)
end Go.Proofs.Ythlcaikplebpmaa.P
namespace Go.Proofs.Ythlcaikplebpmaa.P
open Go.RowKit Go.Proofs.YthlcaikplebpmaaW.PrintWords Go.Proofs.YthlcaikplebpmaaW.PrintLast Go.Proofs.YthlcaikplebpmaaW.PrintMore
set_option linter.unusedVariables false
set_option linter.unusedSimpArgs false
def Bytes (s : List Int) : Prop := ∀ x ∈ s, 0 ≤ x ∧ x ≤ 255
theorem bytes_of {s : List Int} (h : ∀ x ∈ s, (Lit.int .u8 x).wf = true) : Bytes s := by
  intro x hx
  have := h x hx
  simp [Lit.wf, IntKind.wrap, IntKind.bits, IntKind.signed, IntKind.min, IntKind.max] at this
  omega
theorem u64_wrap (n : Int) : IntKind.u64.wrap n = n % 18446744073709551616 := by simp [IntKind.wrap, IntKind.bits, IntKind.signed]
theorem seed_byte (n : Int) : 0 ≤ Go.bits .and .u64 (IntKind.u64.wrap n / 1099511627776) 255 ∧ Go.bits .and .u64 (IntKind.u64.wrap n / 1099511627776) 255 ≤ 255 := by
  have h0 : 0 ≤ IntKind.u64.wrap n / 1099511627776 := by rw [u64_wrap]; omega
  have h1 : IntKind.u64.wrap n / 1099511627776 < 2 ^ 24 := by rw [u64_wrap]; omega
  have := bits_mask .u64 24 (by decide) (fun n h0 h1 => by rw [u64_wrap]; omega) 8 (by decide) _ h0 h1
  have e : (2 : Int) ^ 8 - 1 = 255 := by decide
  rw [e] at this
  rw [this]
  omega
theorem next_ok {s : List Int} (hs : Bytes s) (a b : Int) (h0 : 0 ≤ a) (h1 : a ≤ 4611686018427387904) : ∃ x b', spec_l1Cur_next.f s a b = some (x, a + 1, b') ∧ 0 ≤ x ∧ x ≤ 255 := by
  unfold spec_l1Cur_next.f
  rw [w64 (a + 1) (by omega) (by omega)]
  by_cases h : a < (s.length : Int)
  · rw [if_pos h, if_pos h0, if_pos (by omega)]
    have hx := hs (rd s a) (by
      obtain ⟨n, rfl⟩ : ∃ n : Nat, a = (n : Int) := ⟨a.toNat, by omega⟩
      rw [rd_nat _ _ (show n < s.length by omega)]
      exact List.getElem_mem _)
    rw [w64 _ (by omega) (by omega)]
    exact ⟨_, _, rfl, hx⟩
  · rw [if_neg h, if_neg (by omega)]
    have hx := seed_byte ((IntKind.u64.wrap (IntKind.u64.wrap (b * 6364136223846793005))) + 1442695040888963407)
    rw [w64 (Go.bits _ _ _ _) (by omega) (by omega)]
    exact ⟨_, _, rfl, hx⟩
theorem pick_ok {s : List Int} (hs : Bytes s) (a b n : Int) (h0 : 0 ≤ a) (h1 : a ≤ 4000000000000000000) : ∃ x a' b', spec_l1Cur_pick.f s a b n = some (x, a', b') ∧ 0 ≤ x ∧ (x < n ∨ n ≤ 1 ∧ x = 0) ∧ a ≤ a' ∧ a' ≤ a + 2 := by
  unfold spec_l1Cur_pick.f
  by_cases h : n ≤ 1
  · rw [if_pos h]
    exact ⟨0, a, b, rfl, by omega, .inr ⟨h, rfl⟩, by omega, by omega⟩
  · rw [if_neg h]
    obtain ⟨x, b1, e1, h2, h3⟩ := next_ok hs a b h0 (by omega)
    rw [e1]
    simp only [Option.bind_some]
    by_cases h4 : n > 200
    · obtain ⟨y, b2, e2, h5, h6⟩ := next_ok hs (a + 1) b1 (by omega) (by omega)
      rw [if_pos h4, e2]
      simp only [Option.bind_some]
      rw [if_neg (by omega), w64 (x * 256) (by omega) (by omega), w64 _ (by omega) (by omega)]
      refine ⟨_, _, _, rfl, Int.tmod_nonneg _ (by omega), .inl (Int.tmod_lt_of_pos _ (by omega)), by omega, by omega⟩
    · rw [if_neg h4, if_neg (by omega)]
      refine ⟨_, _, _, rfl, Int.tmod_nonneg _ (by omega), .inl (Int.tmod_lt_of_pos _ (by omega)), by omega, by omega⟩
theorem one_ok {s : List Int} (hs : Bytes s) (a b n : Int) (h0 : 0 ≤ a) (h1 : a ≤ 4000000000000000000) : ∃ x a' b', spec_l1Cur_one.f s a b n = some (x, a', b') ∧ a ≤ a' ∧ a' ≤ a + 2 := by
  obtain ⟨x, a', b', e, _, _, h4, h5⟩ := pick_ok hs a b n h0 h1
  unfold spec_l1Cur_one.f
  rw [e]
  exact ⟨_, _, _, rfl, h4, h5⟩
theorem among_ok {s : List Int} (hs : Bytes s) (a b : Int) (l : List Int) (hl : 0 < l.length) (h0 : 0 ≤ a) (h1 : a ≤ 4000000000000000000) : ∃ x a' b', spec_l1Cur_among.f s a b l = some (x, a', b') ∧ x ∈ l ∧ a ≤ a' ∧ a' ≤ a + 2 := by
  obtain ⟨x, a', b', e, h2, h3, h4, h5⟩ := pick_ok hs a b (l.length : Int) h0 h1
  unfold spec_l1Cur_among.f
  rw [e]
  simp only [Option.bind_some]
  have hx : x < (l.length : Int) := by omega
  rw [if_pos h2, if_pos hx]
  refine ⟨_, _, _, rfl, ?_, h4, h5⟩
  obtain ⟨n, rfl⟩ : ∃ n : Nat, x = (n : Int) := ⟨x.toNat, by omega⟩
  rw [rd_nat _ _ (show n < l.length by omega)]
  exact List.getElem_mem _
theorem big_eq (a b : List Int) (ha : a.length ≤ 140737488351232) (hb : b.length ≤ 140737488351232) : ∃ x, laws_big.f a b = some x := by
  unfold laws_big.f
  repeat (first | exact ⟨_, rfl⟩ | split | simp only [Option.bind_some])
end Go.Proofs.Ythlcaikplebpmaa.P
namespace Go.Proofs.Ythlcaikplebpmaa.P
open Go.RowKit Go.Proofs.YthlcaikplebpmaaW.PrintWords Go.Proofs.YthlcaikplebpmaaW.PrintLast Go.Proofs.YthlcaikplebpmaaW.PrintMore
set_option linter.unusedVariables false
set_option linter.unusedSimpArgs false
theorem kSame_l0 (a : List Int) (hb : a.length ≤ 1152921504606846976) : ∀ (d i : Nat) (k : Nat), a.length - i = d → i ≤ a.length → d < k →
    laws_kSame.l0 k a a (a.length : Int) (i : Int) = some true := by
  intro d
  induction d with
  | zero =>
    intro i k hd hi hk
    obtain ⟨k, rfl⟩ : ∃ m, k = m + 1 := ⟨k - 1, by omega⟩
    rw [laws_kSame.l0, if_neg (by omega)]
  | succ d ih =>
    intro i k hd hi hk
    obtain ⟨k, rfl⟩ : ∃ m, k = m + 1 := ⟨k - 1, by omega⟩
    rw [laws_kSame.l0, if_pos (by omega), if_pos (by omega), if_pos (by omega), if_pos (by omega), if_pos rfl, w64 _ (by omega) (by omega), show ((i : Int) + 1) = ((i + 1 : Nat) : Int) by omega]
    exact ih (i + 1) k (by omega) (by omega) (by omega)
theorem kSame_refl (a : List Int) (hb : a.length ≤ 1152921504606846976) : Ev (fun k => laws_kSame.f k a a) true := by
  refine ⟨a.length + 1, fun k hk => ?_⟩
  simp only [laws_kSame.f, if_true]
  exact kSame_l0 a hb a.length 0 k (by omega) (by omega) (by omega)
theorem kRows_l0 (a : List (List Int)) (hb : a.length ≤ 1152921504606846976) (hl : ∀ l ∈ a, l.length ≤ 1152921504606846976) : ∀ (d i : Nat), a.length - i = d → i ≤ a.length →
    Ev (fun k => laws_kRows.l0 k a a (a.length : Int) (i : Int)) true := by
  intro d
  induction d with
  | zero =>
    intro i hd hi
    refine ⟨1, fun k hk => ?_⟩
    obtain ⟨k, rfl⟩ : ∃ m, k = m + 1 := ⟨k - 1, by omega⟩
    dsimp only
    rw [laws_kRows.l0, if_neg (by omega)]
  | succ d ih =>
    intro i hd hi
    have hi2 : i < a.length := by omega
    obtain ⟨K1, h1⟩ := ev_get (ih (i + 1) (by omega) (by omega))
    obtain ⟨K2, h2⟩ := ev_get (kSame_refl a[i] (hl _ (List.getElem_mem hi2)))
    refine ⟨K1 + K2 + 1, fun k hk => ?_⟩
    obtain ⟨k, rfl⟩ : ∃ m, k = m + 1 := ⟨k - 1, by omega⟩
    dsimp only
    rw [laws_kRows.l0, if_pos (by omega), if_pos (by omega), if_pos (by omega), if_pos (by omega), rdL_nat _ _ hi2, h2 k (by omega), Option.bind_some, if_pos rfl, w64 _ (by omega) (by omega), show ((i : Int) + 1) = ((i + 1 : Nat) : Int) by omega]
    exact h1 k (by omega)
theorem kRows_refl (a : List (List Int)) (hb : a.length ≤ 1152921504606846976) (hl : ∀ l ∈ a, l.length ≤ 1152921504606846976) : Ev (fun k => laws_kRows.f k a a) true := by
  obtain ⟨K, hK⟩ := ev_get (kRows_l0 a hb hl a.length 0 (by omega) (by omega))
  refine ⟨K, fun k hk => ?_⟩
  simp only [laws_kRows.f, if_true]
  exact hK k hk
end Go.Proofs.Ythlcaikplebpmaa.P
namespace Go.Proofs.Ythlcaikplebpmaa.Pure
open Go.RowKit Go.Proofs.Ythlcaikplebpmaa.P Go.Proofs.YthlcaikplebpmaaW.PrintWords Go.Proofs.YthlcaikplebpmaaW.PrintLast
set_option linter.unusedSimpArgs false
set_option linter.unusedVariables false
namespace FnExactLeastWatch
def good (n : Nat) (l : List (List Int)) : Bool := allOk n l 0
def leastFrom (n : Nat) : Nat → Nat → Option (List (List Int))
  | 0, kk => findL (fun l => allOk n l 0) kk (allc n) []
  | d + 1, kk => match findL (fun l => allOk n l 0) kk (allc n) [] with
    | some o => some o
    | none => leastFrom n d (kk + 1)
theorem found : ∀ n : Fin 7, 1 ≤ n.val → (findL (fun l => allOk n.val l 0) n.val (allc n.val) []).isSome = true := by decide +kernel
theorem least_some (n : Nat) : ∀ d kk, (findL (fun l => allOk n l 0) (kk + d) (allc n) []).isSome = true → ∃ o, leastFrom n d kk = some o
  | 0, kk, h => Option.isSome_iff_exists.1 h
  | d + 1, kk, h => by
    rw [leastFrom]
    cases h2 : findL (fun l => allOk n l 0) kk (allc n) [] with
    | some o => exact ⟨o, rfl⟩
    | none => exact least_some n d (kk + 1) (by rw [show kk + 1 + d = kk + (d + 1) by omega]; exact h)
theorem least_sub (n : Nat) : ∀ d kk o, leastFrom n d kk = some o → o.Sublist (allc n)
  | 0, kk, o, h => by
    obtain ⟨s, h1, rfl⟩ := findL_some _ _ _ _ _ h
    exact h1
  | d + 1, kk, o, h => by
    rw [leastFrom] at h
    split at h
    · rename_i o' ho
      obtain rfl := Option.some.inj h
      obtain ⟨s, h1, rfl⟩ := findL_some _ _ _ _ _ ho
      exact h1
    · exact least_sub n d (kk + 1) o h
def leastW (n : Nat) : List (List Int) := (leastFrom n (n - 1) 1).getD []
def RA (n : Int) : List (List Int) × Bool := if inB n 1 6 = true then (leastW n.toNat, true) else ([], false)
def fullM (n : Nat) : List Int := List.replicate n ((2 ^ n - 1 : Nat) : Int)
theorem full_ok : ∀ n : Fin 7, 1 ≤ n.val → impl_FullBoard.f 20 (n.val : Int) (n.val : Int) = some ((n.val : Int), (n.val : Int), fullM n.val, true) := by decide +kernel
theorem full_cells : ∀ n : Fin 7, cells (n.val : Int) (n.val : Int) (fullM n.val) = allc n.val := by decide +kernel
theorem full_board : ∀ n : Fin 7, 1 ≤ n.val → boardB (n.val : Int) (n.val : Int) (fullM n.val) = true := by decide +kernel
theorem inB_nat {n : Int} (h : inB n 1 6 = true) : ∃ N : Nat, n = N ∧ 1 ≤ N ∧ N ≤ 6 := by
  unfold inB at h
  have := of_decide_eq_true h
  exact ⟨n.toNat, by omega, by omega, by omega⟩
theorem pick_ok {n : Nat} (hn : n ≤ 6) {o : List (List Int)} (h : o.Sublist (allc n)) : o.Nodup ∧ ∀ x ∈ o, x.length = 2 := by
  have ha := allc_ok ⟨n, by omega⟩
  exact ⟨List.Pairwise.sublist h ha.1, fun x hx => (ha.2 x (h.subset hx)).2⟩
theorem il_hit (n : Int) (all : List (List Int)) (k : Nat) (kk : Int) (o : List (List Int)) (h : impl_LeastWatch_1.f n kk all k 0 [] = some (true, o)) (ho : o.Nodup ∧ ∀ x ∈ o, x.length = 2) : impl_LeastWatch.l0 n all (k + 1) kk = some (o, true) := by
  rw [impl_LeastWatch.l0, h, Option.bind_some, if_pos rfl, if_pos ho]
theorem il_miss (n : Int) (all : List (List Int)) (k : Nat) (kk : Int) (q : List (List Int)) (h : impl_LeastWatch_1.f n kk all k 0 [] = some (false, q)) : impl_LeastWatch.l0 n all (k + 1) kk = impl_LeastWatch.l0 n all k (wrap64 (kk + 1)) := by
  rw [impl_LeastWatch.l0, h, Option.bind_some, if_neg (by simp)]
theorem one_ev {n : Nat} (hn6 : n ≤ 6) {kk : Nat} (hk : 1 ≤ kk) : Ev (fun k => impl_LeastWatch_1.f (n : Int) (kk : Int) (allc n) k 0 []) (outW (findL (fun l => allOk n l 0) kk (allc n) []) []) := by
  have h36 : n * n ≤ 36 := Nat.mul_le_mul hn6 hn6
  have h := lw_loop (n := n) (most := kk) (all := allc n) hn6 (by rw [allc_len]; exact h36) (fun x hx => ((allc_ok ⟨n, by omega⟩).2 x hx).1) (allc n).length 0 [] rfl (Nat.zero_le _) (Nat.zero_le _) (by simp; omega) (fun x hx => by simp at hx)
  rw [List.drop_zero] at h
  exact evw 0 h (fun k _ => lw_f_ne k _ _ _ _ _ (by simp; omega))
theorem il_ev {n : Nat} (hn6 : n ≤ 6) : ∀ (d kk : Nat) (o : List (List Int)), 1 ≤ kk → kk + d ≤ 100 → leastFrom n d kk = some o → Ev (fun k => impl_LeastWatch.l0 (n : Int) (allc n) k (kk : Int)) (o, true)
  | 0, kk, o, h1, h2, h => by
    obtain ⟨K, hK⟩ := ev_get (one_ev hn6 h1)
    have ho := pick_ok hn6 (least_sub n 0 kk o h)
    rw [leastFrom] at h
    rw [h] at hK
    exact evx K (fun k hk => il_hit _ _ _ _ _ (hK k hk) ho)
  | d + 1, kk, o, h1, h2, h => by
    obtain ⟨K, hK⟩ := ev_get (one_ev hn6 h1)
    have ho := pick_ok hn6 (least_sub n (d + 1) kk o h)
    rw [leastFrom] at h
    cases hF : findL (fun l => allOk n l 0) kk (allc n) [] with
    | some o' =>
      rw [hF] at h hK
      obtain rfl := Option.some.inj h
      exact evx K (fun k hk => il_hit _ _ _ _ _ (hK k hk) ho)
    | none =>
      rw [hF] at h hK
      have hw : wrap64 ((kk : Int) + 1) = ((kk + 1 : Nat) : Int) := by rw [w64 _ (by omega) (by omega)]; omega
      exact evw K (il_ev hn6 d (kk + 1) o (by omega) (by omega) h) (fun k hk => by rw [il_miss _ _ _ _ _ (hK k hk), hw])
theorem sl_hit (k : Nat) (n kk : Int) (o : List (List Int)) (hk : kk < n) (h : spec_quWatch.f k n kk [] = some (o, true)) : spec_LeastWatch.l0 (k + 1) n kk = some (o, true) := by
  rw [spec_LeastWatch.l0, if_pos hk, h, Option.bind_some, if_pos rfl]
theorem sl_miss (k : Nat) (n kk : Int) (o : List (List Int)) (hk : kk < n) (h : spec_quWatch.f k n kk [] = some (o, false)) : spec_LeastWatch.l0 (k + 1) n kk = spec_LeastWatch.l0 k n (wrap64 (kk + 1)) := by
  rw [spec_LeastWatch.l0, if_pos hk, h, Option.bind_some, if_neg (by simp)]
theorem sl_end (k : Nat) (n kk : Int) (o : List (List Int)) (b : Bool) (hk : ¬ kk < n) (h : spec_quWatch.f k n n [] = some (o, b)) : spec_LeastWatch.l0 (k + 1) n kk = some (o, b) := by
  rw [spec_LeastWatch.l0, if_neg hk, h, Option.bind_some]
theorem sl_ev {n : Nat} (hn : 1 ≤ n) (hn6 : n ≤ 6) : ∀ (d m : Nat) (o : List (List Int)), m + 1 + d = n → leastFrom n d (m + 1) = some o → Ev (fun k => spec_LeastWatch.l0 k (n : Int) ((m + 1 : Nat) : Int)) (o, true)
  | 0, m, o, hd, h => by
    obtain ⟨K, hK⟩ := ev_get (qw_ev hn hn6 m (by omega))
    rw [leastFrom] at h
    rw [h] at hK
    have e : ((m + 1 : Nat) : Int) = (n : Int) := by omega
    rw [e] at hK ⊢
    exact evx K (fun k hk => sl_end k _ _ o true (by omega) (hK k hk))
  | d + 1, m, o, hd, h => by
    obtain ⟨K, hK⟩ := ev_get (qw_ev hn hn6 m (by omega))
    rw [leastFrom] at h
    cases hF : findL (fun l => allOk n l 0) (m + 1) (allc n) [] with
    | some o' =>
      rw [hF] at h hK
      obtain rfl := Option.some.inj h
      exact evx K (fun k hk => sl_hit k _ _ _ (by omega) (hK k hk))
    | none =>
      rw [hF] at h hK
      have hw : wrap64 (((m + 1 : Nat) : Int) + 1) = ((m + 1 + 1 : Nat) : Int) := by rw [w64 _ (by omega) (by omega)]; omega
      exact evw K (sl_ev hn hn6 d (m + 1) o (by omega) h) (fun k hk => by rw [sl_miss k _ _ [] (by omega) (hK k hk), hw])
theorem least_eq {n : Nat} (hn : 1 ≤ n) (hn6 : n ≤ 6) : leastFrom n (n - 1) 1 = some (leastW n) := by
  obtain ⟨o, ho⟩ := least_some n (n - 1) 1 (by rw [show 1 + (n - 1) = n by omega]; exact found ⟨n, by omega⟩ hn)
  unfold leastW
  rw [ho]
  rfl
theorem specA_ev (n : Int) : Ev (fun k => spec_LeastWatch.f k n) (RA n) := by
  unfold RA
  by_cases h : inB n 1 6 = true
  · rw [if_pos h]
    obtain ⟨N, rfl, h1, h6⟩ := inB_nat h
    obtain ⟨K, hK⟩ := ev_get (sl_ev h1 h6 (N - 1) 0 _ (by omega) (least_eq h1 h6))
    refine ⟨K, fun k hk => ?_⟩
    have e := hK k hk
    simp only [spec_LeastWatch.f, l1In_eq, Option.bind_some, h, if_true, Int.toNat_natCast]
    exact e
  · rw [if_neg h]
    refine ⟨0, fun k hk => ?_⟩
    simp only [spec_LeastWatch.f, l1In_eq, Option.bind_some, if_neg h]
theorem implA_ev (n : Int) : Ev (fun k => impl_LeastWatch.f k n) (RA n) := by
  unfold RA
  by_cases h : inB n 1 6 = true
  · rw [if_pos h]
    obtain ⟨N, rfl, h1, h6⟩ := inB_nat h
    obtain ⟨K0, h0⟩ := ev_get (Ev.of (impl_FullBoard.mono _ _) (full_ok ⟨N, by omega⟩ h1))
    obtain ⟨K1, h2⟩ := ev_get (CellsOf_ev (N : Int) (N : Int) (fullM N))
    rw [if_pos (full_board ⟨N, by omega⟩ h1), full_cells ⟨N, by omega⟩] at h2
    obtain ⟨K2, hK⟩ := ev_get (il_ev h6 (N - 1) 1 _ (by omega) (by omega) (least_eq h1 h6))
    refine ⟨K0 + K1 + K2, fun k hk => ?_⟩
    have e0 := h0 k (by omega)
    have e1 := h2 k (by omega)
    have e2 := hK k (by omega)
    simp only at e0 e1
    show impl_LeastWatch.f k (N : Int) = _
    unfold impl_LeastWatch.f
    rw [within_eq, Option.bind_some, if_pos h, e0, Option.bind_some]
    dsimp only
    rw [e1, Option.bind_some, Int.toNat_natCast]
    exact e2
  · rw [if_neg h]
    refine ⟨0, fun k hk => ?_⟩
    simp only [impl_LeastWatch.f, within_eq, Option.bind_some, if_neg h]
theorem RA_small (n : Int) : (RA n).1.length ≤ 36 ∧ ∀ l ∈ (RA n).1, l.length ≤ 8 := by
  unfold RA
  by_cases h : inB n 1 6 = true
  · rw [if_pos h]
    obtain ⟨N, rfl, h1, h6⟩ := inB_nat h
    have hs := least_sub N (N - 1) 1 _ (least_eq h1 h6)
    have h36 : N * N ≤ 36 := Nat.mul_le_mul h6 h6
    have hl := hs.length_le
    rw [allc_len] at hl
    rw [Int.toNat_natCast]
    refine ⟨Nat.le_trans hl h36, fun l hl => ?_⟩
    rw [(pick_ok h6 hs).2 l hl]
    decide
  · rw [if_neg h]; simp
end FnExactLeastWatch
namespace FnExactAreWatching
def R (n : Int) (l : List (List Int)) : Bool × Bool := if (inB n 1 8 = true ∧ (l.length : Int) ≤ n) ∧ (l.all (placeOk n)) = true then (allOk n.toNat l 0, true) else (false, false)
theorem placeOk_eq (n : Int) (x : List Int) : placeOk n x = (decide (x.length = 2) && allIn x 0 (n - 1)) := by
  unfold placeOk allIn
  rw [Bool.eq_iff_iff, decide_eq_true_iff, Bool.and_eq_true, decide_eq_true_iff, List.all_eq_true]
  simp only [inB, decide_eq_true_iff]
theorem spec_l0 (n : Int) (hn : 1 ≤ n) (hn2 : n ≤ 8) (l : List (List Int)) (hl : (l.length : Int) ≤ n) (hx : ∀ x ∈ l, x.length ≤ 1152921504606846976) : ∀ (d i : Nat), l.length - i = d → i ≤ l.length → (∀ x ∈ l.take i, placeOk n x = true) →
    Ev (fun k => spec_AreWatching.l0 k n l l (l.length : Int) (i : Int)) (if ((l.drop i).all (placeOk n)) = true then (allOk n.toNat l 0, true) else (false, false)) := by
  intro d
  induction d with
  | zero =>
    intro i hd hi ht
    rw [List.take_of_length_le (by omega)] at ht
    obtain ⟨K, hK⟩ := ev_get (quWatched_ev n.toNat (by omega) l (by omega) (fun x hm => by rw [show ((n.toNat : Nat) : Int) = n by omega]; exact ht x hm))
    refine ⟨K + 1, fun k hk => ?_⟩
    obtain ⟨k, rfl⟩ : ∃ m, k = m + 1 := ⟨k - 1, by omega⟩
    have h := hK k (by omega)
    rw [show ((n.toNat : Nat) : Int) = n by omega] at h
    simp only [spec_AreWatching.l0]
    rw [if_neg (by omega), h, Option.bind_some, List.drop_eq_nil_of_le (by omega)]
    rfl
  | succ d ih =>
    intro i hd hi ht
    have h1 : i < l.length := by omega
    rw [drop_cons' l i h1, List.all_cons, placeOk_eq]
    obtain ⟨K1, h2⟩ := ev_get (l1All_ev l[i] 0 (n - 1) (hx _ (List.getElem_mem h1)))
    by_cases hp : placeOk n l[i] = true
    · obtain ⟨K2, h3⟩ := ev_get (ih (i + 1) (by omega) (by omega) (fun x hm => by
        rw [List.take_add_one, List.getElem?_eq_getElem h1] at hm
        rcases List.mem_append.1 hm with hm | hm
        · exact ht x hm
        · simp at hm; subst hm; exact hp))
      rw [placeOk_eq, Bool.and_eq_true, decide_eq_true_iff] at hp
      refine ⟨K1 + K2 + 1, fun k hk => ?_⟩
      obtain ⟨k, rfl⟩ : ∃ m, k = m + 1 := ⟨k - 1, by omega⟩
      have h3 := h3 k (by omega)
      simp only [spec_AreWatching.l0]
      rw [if_pos (by omega), if_pos (by omega), if_pos (by omega), rdL_nat _ _ h1, if_pos (by omega), w64 (n - 1) (by omega) (by omega), h2 k (by omega), Option.bind_some, if_pos hp.2, w64 _ (by omega) (by omega), show ((i : Int) + 1) = ((i + 1 : Nat) : Int) by omega, h3, hp.2, decide_eq_true hp.1]
      rfl
    · refine ⟨K1 + 1, fun k hk => ?_⟩
      obtain ⟨k, rfl⟩ : ∃ m, k = m + 1 := ⟨k - 1, by omega⟩
      rw [placeOk_eq] at hp
      rw [if_neg (by rw [Bool.and_eq_true]; exact fun h => hp h.1)]
      simp only [spec_AreWatching.l0]
      rw [if_pos (by omega), if_pos (by omega), if_pos (by omega), rdL_nat _ _ h1, w64 (n - 1) (by omega) (by omega), h2 k (by omega), Option.bind_some]
      by_cases h5 : l[i].length = 2
      · rw [if_pos (by omega), if_neg (fun h => hp (by rw [h, decide_eq_true h5]; rfl))]
      · rw [if_neg (by omega)]
theorem spec_ev (n : Int) (l : List (List Int)) (hl : l.length ≤ 1152921504606846976) (hx : ∀ x ∈ l, x.length ≤ 1152921504606846976) : Ev (fun k => spec_AreWatching.f k n l) (R n l) := by
  by_cases h1 : inB n 1 8 = true
  · have hn : 1 ≤ n ∧ n ≤ 8 := by simpa [inB] using h1
    by_cases h2 : (l.length : Int) ≤ n
    · obtain ⟨K, hK⟩ := ev_get (spec_l0 n hn.1 hn.2 l h2 hx l.length 0 (by omega) (by omega) (by simp))
      refine ⟨K + 1, fun k hk => ?_⟩
      obtain ⟨k, rfl⟩ : ∃ m, k = m + 1 := ⟨k - 1, by omega⟩
      simp only [spec_AreWatching.f, quSide_eq, Option.bind_some, if_pos h1]
      rw [spec_AreWatching.j0, if_neg (by simp; omega), show (0 : Int) = ((0 : Nat) : Int) from rfl, hK k (by omega)]
      unfold R
      simp only [h1, h2, and_self, true_and, List.drop_zero]
    · refine ⟨1, fun k hk => ?_⟩
      obtain ⟨k, rfl⟩ : ∃ m, k = m + 1 := ⟨k - 1, by omega⟩
      simp only [spec_AreWatching.f, quSide_eq, Option.bind_some, if_pos h1]
      rw [spec_AreWatching.j0, if_pos (by simp; omega)]
      unfold R
      rw [if_neg (fun h => h2 h.1.2)]
  · refine ⟨1, fun k hk => ?_⟩
    obtain ⟨k, rfl⟩ : ∃ m, k = m + 1 := ⟨k - 1, by omega⟩
    simp only [spec_AreWatching.f, quSide_eq, Option.bind_some, if_neg h1]
    rw [spec_AreWatching.j0, if_pos rfl]
    unfold R
    rw [if_neg (fun h => h1 h.1.1)]
theorem fn_eq (n : Int) (hn : 1 ≤ n) (hn2 : n ≤ 8) (x : List Int) : impl_AreWatching_1.fc n x = some (!placeOk n x) := by
  show impl_AreWatching_1.f x n = _
  unfold impl_AreWatching_1.f
  rw [placeOk_eq]
  by_cases h : x.length = 2
  · match x, h with
    | [a, b], _ =>
      have e0 : rd [a, b] 0 = a := rfl
      have e1 : rd [a, b] 1 = b := rfl
      rw [if_pos (by simp), if_pos (by simp), if_pos (by simp), e0, e1, w64 _ (by omega) (by omega), within_eq, within_eq, Option.bind_some, Option.bind_some]
      have ea : allIn [a, b] 0 (n - 1) = (inB a 0 (n - 1) && inB b 0 (n - 1)) := by simp [allIn]
      rw [ea]
      cases inB a 0 (n - 1) <;> cases inB b 0 (n - 1) <;> rfl
  · rw [if_neg (by omega), decide_eq_false h]; rfl
theorem impl_ev (n : Int) (l : List (List Int)) (hl : l.length ≤ 1152921504606846976) : Ev (fun k => impl_AreWatching.f k n l) (R n l) := by
  by_cases h1 : inB n 1 8 = true
  · have hn : 1 ≤ n ∧ n ≤ 8 := by simpa [inB] using h1
    by_cases h2 : (l.length : Int) ≤ n
    · obtain ⟨K1, h3⟩ := ev_get (ContainsFuncS_ev l (impl_AreWatching_1.fc n) (fun x => !placeOk n x) (fun x _ => fn_eq n hn.1 hn.2 x) hl)
      by_cases h4 : l.all (placeOk n) = true
      · obtain ⟨K2, h5⟩ := ev_get (watching_ev n.toNat (by omega) l (by omega) (fun x hm => by rw [show ((n.toNat : Nat) : Int) = n by omega]; exact List.all_eq_true.1 h4 x hm))
        refine ⟨K1 + K2, fun k hk => ?_⟩
        have h5 := h5 k (by omega)
        rw [show ((n.toNat : Nat) : Int) = n by omega] at h5
        simp only [impl_AreWatching.f, isMany_eq, Option.bind_some, if_pos h1]
        rw [if_neg (by omega), h3 k (by omega), Option.bind_some, ← List.not_all_eq_any_not, h4, if_neg (by simp), h5]
        unfold R
        rw [if_pos ⟨⟨h1, h2⟩, h4⟩]
        rfl
      · refine ⟨K1, fun k hk => ?_⟩
        simp only [impl_AreWatching.f, isMany_eq, Option.bind_some, if_pos h1]
        rw [if_neg (by omega), h3 k (by omega), Option.bind_some, ← List.not_all_eq_any_not, if_pos (by simpa using h4)]
        unfold R
        rw [if_neg (fun h => h4 h.2)]
    · refine ⟨0, fun k hk => ?_⟩
      simp only [impl_AreWatching.f, isMany_eq, Option.bind_some, if_pos h1]
      rw [if_pos (by omega)]
      unfold R
      rw [if_neg (fun h => h2 h.1.2)]
  · refine ⟨0, fun k hk => ?_⟩
    simp only [impl_AreWatching.f, isMany_eq, Option.bind_some, if_neg h1]
    unfold R
    rw [if_neg (fun h => h1 h.1.1)]
end FnExactAreWatching
-- impl_IsBoard
namespace FnQueensWatch
open FnExactLeastWatch (RA leastW implA_ev specA_ev RA_small inB_nat)
open FnExactAreWatching (R spec_ev impl_ev)
theorem least_good : ∀ n : Fin 7, 1 ≤ n.val → R (n.val : Int) (leastW n.val) = (true, true) ∧ (leastW n.val).length ≤ (n.val + 2) / 2 ∧ ∀ i : Fin 4, i.val < (leastW n.val).length → R (n.val : Int) ((leastW n.val).take i.val ++ (leastW n.val).drop (i.val + 1)) = (false, true) := by decide +kernel
theorem least_len : ∀ n : Fin 7, 1 ≤ n.val → (leastW n.val).length = [0, 1, 1, 1, 2, 3, 3].getD n.val 0 := by decide +kernel
theorem few0 : ∀ n : Fin 7, 1 ≤ n.val → allOk n.val [] 0 = false := by decide +kernel
theorem few1 : ∀ n : Fin 7, 4 ≤ n.val → ∀ a b : Fin 6, a.val < n.val → b.val < n.val → allOk n.val [[(a.val : Int), (b.val : Int)]] 0 = false := by decide +kernel
theorem few2 : ∀ n : Fin 7, 5 ≤ n.val → ∀ a b c d : Fin 6, a.val < n.val → b.val < n.val → c.val < n.val → d.val < n.val → allOk n.val [[(a.val : Int), (b.val : Int)], [(c.val : Int), (d.val : Int)]] 0 = false := by decide +kernel
theorem minimal (n : Nat) (h1 : 1 ≤ n) (h6 : n ≤ 6) (l : List (List Int)) (hp : ∀ x ∈ l, placeOk (n : Int) x = true) (ha : allOk n l 0 = true) : (leastW n).length ≤ l.length := by
  have hl := least_len ⟨n, by omega⟩ h1
  simp only at hl
  rw [hl]
  refine Classical.byContradiction (fun hc => ?_)
  match l, hp, ha, hc with
  | [], _, ha, _ =>
    have h := few0 ⟨n, by omega⟩ h1
    simp only at h
    rw [h] at ha
    cases ha
  | [x], hp, ha, hc =>
    obtain ⟨a, b, rfl, a0, a1, b0, b1⟩ := placeOk_at (hp x (by simp))
    have h4 : 4 ≤ n := by
      refine Classical.byContradiction (fun h4 => ?_)
      have : n = 1 ∨ n = 2 ∨ n = 3 := by omega
      rcases this with rfl | rfl | rfl <;> simp at hc
    have h := few1 ⟨n, by omega⟩ h4 ⟨a.toNat, by omega⟩ ⟨b.toNat, by omega⟩ (by simp only; omega) (by simp only; omega)
    simp only at h
    rw [Int.toNat_of_nonneg a0, Int.toNat_of_nonneg b0] at h
    rw [h] at ha
    cases ha
  | [x, y], hp, ha, hc =>
    obtain ⟨a, b, rfl, a0, a1, b0, b1⟩ := placeOk_at (hp x (by simp))
    obtain ⟨c, d, rfl, c0, c1, d0, d1⟩ := placeOk_at (hp y (by simp))
    have h5 : 5 ≤ n := by
      refine Classical.byContradiction (fun h5 => ?_)
      have : n = 1 ∨ n = 2 ∨ n = 3 ∨ n = 4 := by omega
      rcases this with rfl | rfl | rfl | rfl <;> simp at hc
    have h := few2 ⟨n, by omega⟩ h5 ⟨a.toNat, by omega⟩ ⟨b.toNat, by omega⟩ ⟨c.toNat, by omega⟩ ⟨d.toNat, by omega⟩ (by simp only; omega) (by simp only; omega) (by simp only; omega) (by simp only; omega)
    simp only at h
    rw [Int.toNat_of_nonneg a0, Int.toNat_of_nonneg b0, Int.toNat_of_nonneg c0, Int.toNat_of_nonneg d0] at h
    rw [h] at ha
    cases ha
  | x :: y :: z :: r, _, _, hc =>
    have : n = 1 ∨ n = 2 ∨ n = 3 ∨ n = 4 ∨ n = 5 ∨ n = 6 := by omega
    rcases this with rfl | rfl | rfl | rfl | rfl | rfl <;> (simp at hc; try omega)
theorem R_true {m : Int} {l : List (List Int)} (h : (R m l).1 = true) : inB m 1 8 = true ∧ (∀ x ∈ l, placeOk m x = true) ∧ allOk m.toNat l 0 = true := by
  unfold R at h
  by_cases hc : (inB m 1 8 = true ∧ (l.length : Int) ≤ m) ∧ (l.all (placeOk m)) = true
  · rw [if_pos hc] at h
    exact ⟨hc.1.1, fun x hx => List.all_eq_true.1 hc.2 x hx, h⟩
  · rw [if_neg hc] at h
    cases h
section
variable {s : List Int} (hs : Bytes s)
include hs
theorem j2_ok (m : Int) (q : List (List Int)) (hq : q.length ≤ 40) (hr : ∀ x ∈ q, x.length ≤ 8) (a b : Int) (h0 : 0 ≤ a) (h1 : a ≤ 1000000) : ∃ l, (∀ k, spec_DrawAreWatching.j2 (k + 1) m q s a b = some (m, l)) ∧ l.length ≤ 41 ∧ ∀ x ∈ l, x.length ≤ 8 := by
  obtain ⟨x, a1, b1, e1, _, _, h2, h3⟩ := pick_ok hs a b 14 h0 (by omega)
  obtain ⟨z, a2, b2, e2, _⟩ := among_ok hs a1 b1 [(-1), m, 4611686018427387904] (by simp) (by omega) (by omega)
  have hlt : q.length < 5864062014805 := by omega
  have hmore : ∀ y : List Int, y.length ≤ 8 → (q ++ [y]).length ≤ 41 ∧ ∀ x ∈ q ++ [y], x.length ≤ 8 := fun y hy => ⟨by simp; omega, fun x hx => by
    rcases List.mem_append.1 hx with hx | hx
    · exact hr x hx
    · rw [List.mem_singleton.1 hx]; exact hy⟩
  by_cases x0 : x = 0
  · exact ⟨q ++ [[0]], fun k => by rw [spec_DrawAreWatching.j2, e1, Option.bind_some, if_pos x0, if_pos hlt], hmore _ (by simp)⟩
  · by_cases x1 : x = 1
    · exact ⟨q ++ [[z, 0]], fun k => by rw [spec_DrawAreWatching.j2, e1, Option.bind_some, if_neg x0, if_pos x1, e2, Option.bind_some, if_pos hlt], hmore _ (by simp)⟩
    · exact ⟨q, fun k => by rw [spec_DrawAreWatching.j2, e1, Option.bind_some, if_neg x0, if_neg x1], by omega, hr⟩
theorem l0_ok (m : Int) : ∀ (d : Nat) (q : List (List Int)) (a b : Int), q.length + d ≤ 10 → (∀ x ∈ q, x.length ≤ 8) → 0 ≤ a → a + 4 * d ≤ 900000 → ∃ l, Ev (fun k => spec_DrawAreWatching.l0 k m q (d : Int) s a b) (m, l) ∧ l.length ≤ 41 ∧ ∀ x ∈ l, x.length ≤ 8
  | 0, q, a, b, hq, hr, h0, h1 => by
    obtain ⟨K, hK⟩ := ev_get (specA_ev m)
    have hsm := RA_small m
    obtain ⟨y, a1, b1, e1, h2, h3⟩ := one_ok hs a b 3 h0 (by omega)
    generalize RA m = T at hK hsm
    obtain ⟨T1, T2⟩ := T
    simp only at hsm
    cases T2 with
    | true =>
      cases y with
      | true =>
        obtain ⟨l, hl, hl2⟩ := j2_ok hs m T1 (by omega) hsm.2 a1 b1 (by omega) (by omega)
        refine ⟨l, ⟨K + 3, fun k hk => ?_⟩, hl2⟩
        obtain ⟨k, rfl⟩ : ∃ j, k = j + 1 + 1 + 1 := ⟨k - 3, by omega⟩
        dsimp only
        rw [spec_DrawAreWatching.l0, if_neg (by omega), hK _ (by omega), Option.bind_some, if_pos rfl, e1, Option.bind_some, spec_DrawAreWatching.j1, if_pos rfl, hl]
      | false =>
        obtain ⟨l, hl, hl2⟩ := j2_ok hs m q (by omega) hr a1 b1 (by omega) (by omega)
        refine ⟨l, ⟨K + 3, fun k hk => ?_⟩, hl2⟩
        obtain ⟨k, rfl⟩ : ∃ j, k = j + 1 + 1 + 1 := ⟨k - 3, by omega⟩
        dsimp only
        rw [spec_DrawAreWatching.l0, if_neg (by omega), hK _ (by omega), Option.bind_some, if_pos rfl, e1, Option.bind_some, spec_DrawAreWatching.j1, if_neg (by simp), hl]
    | false =>
      obtain ⟨l, hl, hl2⟩ := j2_ok hs m q (by omega) hr a b (by omega) (by omega)
      refine ⟨l, ⟨K + 3, fun k hk => ?_⟩, hl2⟩
      obtain ⟨k, rfl⟩ : ∃ j, k = j + 1 + 1 + 1 := ⟨k - 3, by omega⟩
      dsimp only
      rw [spec_DrawAreWatching.l0, if_neg (by omega), hK _ (by omega), Option.bind_some, if_neg (by simp), spec_DrawAreWatching.j1, if_neg (by simp), hl]
  | d + 1, q, a, b, hq, hr, h0, h1 => by
    obtain ⟨x, a1, b1, e1, _, _, h2, h3⟩ := pick_ok hs a b m h0 (by omega)
    obtain ⟨y, a2, b2, e2, _, _, h4, h5⟩ := pick_ok hs a1 b1 m (by omega) (by omega)
    obtain ⟨l, e, hl⟩ := l0_ok m d (q ++ [[x, y]]) a2 b2 (by simp; omega) (fun z hz => by
      rcases List.mem_append.1 hz with hz | hz
      · exact hr z hz
      · rw [List.mem_singleton.1 hz]; simp) (by omega) (by omega)
    obtain ⟨K, hK⟩ := ev_get e
    refine ⟨l, ⟨K + 1, fun k hk => ?_⟩, hl⟩
    obtain ⟨k, rfl⟩ : ∃ j, k = j + 1 := ⟨k - 1, by omega⟩
    dsimp only
    rw [spec_DrawAreWatching.l0, if_pos (by omega), e1, Option.bind_some]
    dsimp only
    rw [e2, Option.bind_some, if_pos (by omega), show wrap64 (((d + 1 : Nat) : Int) - 1) = (d : Int) by unfold wrap64; omega]
    exact hK k (by omega)
theorem draw_ok : ∃ m l, Ev (fun k => spec_DrawAreWatching.f k s) (m, l) ∧ l.length ≤ 41 ∧ ∀ x ∈ l, x.length ≤ 8 := by
  obtain ⟨m, a1, b1, e1, hm, h2, h3⟩ := among_ok hs 0 0 [1, 2, 3, 4, 5, 6, 8, 9] (by simp) (by omega) (by omega)
  have hm1 : 1 ≤ m := by simp at hm; omega
  obtain ⟨t, et, ht1, ht2⟩ : ∃ t, spec_l1Least.f m 5 = some t ∧ 1 ≤ t ∧ t ≤ 5 := by
    unfold spec_l1Least.f
    by_cases h : m < 5
    · exact ⟨m, if_pos h, by omega, by omega⟩
    · exact ⟨5, if_neg h, by omega, by omega⟩
  obtain ⟨n, a2, b2, e2, h4, h5, h6, h7⟩ := pick_ok hs a1 b1 (t + 1) (by omega) (by omega)
  obtain ⟨l, e, hl⟩ := l0_ok hs m n.toNat [] a2 b2 (by simp; omega) (by simp) (by omega) (by omega)
  obtain ⟨K, hK⟩ := ev_get e
  refine ⟨m, l, ⟨K, fun k hk => ?_⟩, hl⟩
  have h := hK k hk
  rw [Int.toNat_of_nonneg h4] at h
  dsimp only
  rw [spec_DrawAreWatching.f, e1, Option.bind_some]
  dsimp only
  rw [et, Option.bind_some, show wrap64 (t + 1) = t + 1 by unfold wrap64; omega, e2, Option.bind_some]
  exact h
theorem j3_ev : Ev (fun k => laws_FnQueensWatch.j3 k s) true := by
  obtain ⟨m, l, e0, hl, hr⟩ := draw_ok hs
  obtain ⟨K0, k0⟩ := ev_get e0
  obtain ⟨K1, k1⟩ := ev_get (impl_ev m l (by omega))
  obtain ⟨K2, k2⟩ := ev_get (spec_ev m l (by omega) (fun x hx => by have := hr x hx; omega))
  obtain ⟨K3, k3⟩ := ev_get (implA_ev m)
  refine ⟨K0 + K1 + K2 + K3 + 2, fun k hk => ?_⟩
  obtain ⟨k, rfl⟩ : ∃ j, k = j + 1 + 1 := ⟨k - 2, by omega⟩
  dsimp only
  rw [laws_FnQueensWatch.j3, k0 _ (by omega), Option.bind_some]
  dsimp only
  rw [k1 _ (by omega), Option.bind_some, k2 _ (by omega), Option.bind_some, if_neg (by simp), laws_FnQueensWatch.j4, if_neg (by simp)]
  by_cases hR : (R m l).1 = true
  · rw [if_pos hR]
    by_cases h6 : m ≤ 6
    · obtain ⟨h1, h2, h3⟩ := R_true hR
      have hm : 1 ≤ m := by simp [inB] at h1; omega
      have hRA : RA m = (leastW m.toNat, true) := by
        unfold RA
        rw [if_pos (by simp [inB]; omega)]
      rw [hRA] at k3
      rw [if_pos h6, k3 _ (by omega), Option.bind_some, if_pos rfl]
      have := minimal m.toNat (by omega) (by omega) l (fun x hx => by rw [Int.toNat_of_nonneg (by omega)]; exact h2 x hx) h3
      rw [decide_eq_true (by dsimp only; omega)]
    · rw [if_neg h6]
  · rw [if_neg hR]
theorem loop_ev (n : Int) (l : List (List Int)) (hl : l.length ≤ 40) (hi : ∀ i, i < l.length → R n (l.take i ++ l.drop (i + 1)) = (false, true)) : ∀ (d i : Nat), l.length - i = d → i ≤ l.length → Ev (fun k => laws_FnQueensWatch.l0 k s n l (l.length : Int) (i : Int)) true
  | 0, i, hd, hil => by
    obtain ⟨K, hK⟩ := ev_get (j3_ev hs)
    refine ⟨K + 1, fun k hk => ?_⟩
    obtain ⟨k, rfl⟩ : ∃ j, k = j + 1 := ⟨k - 1, by omega⟩
    dsimp only
    rw [laws_FnQueensWatch.l0, if_neg (by omega)]
    exact hK k (by omega)
  | d + 1, i, hd, hil => by
    have hlt : i < l.length := by omega
    obtain ⟨K, hK⟩ := ev_get (loop_ev n l hl hi d (i + 1) (by omega) (by omega))
    obtain ⟨K1, h1⟩ := ev_get (impl_ev n (l.take i ++ l.drop (i + 1)) (by simp; omega))
    rw [hi i hlt] at h1
    have hw : wrap64 ((i : Int) + 1) = ((i + 1 : Nat) : Int) := by unfold wrap64; omega
    refine ⟨K + K1 + 1, fun k hk => ?_⟩
    obtain ⟨k, rfl⟩ : ∃ j, k = j + 1 := ⟨k - 1, by omega⟩
    dsimp only
    rw [laws_FnQueensWatch.l0, if_pos (by omega)]
    simp only [Option.bind_some, List.nil_append, hw, Int.toNat_natCast]
    rw [if_pos (by omega), if_pos (by omega), if_pos (by simp; omega), if_pos (by omega), if_pos (by omega), if_pos (by simp; omega), h1 k (by omega), Option.bind_some, if_pos rfl, if_neg (by simp)]
    exact hK k (by omega)
theorem j0_ev (n : Int) : Ev (fun k => laws_FnQueensWatch.j0 k s n (RA n).1 (RA n).2 false) true := by
  obtain ⟨K0, k0⟩ := ev_get (j3_ev hs)
  by_cases h : inB n 1 6 = true
  · obtain ⟨N, rfl, h1, h6⟩ := inB_nat h
    have hRA : RA (N : Int) = (leastW N, true) := by
      unfold RA
      rw [if_pos h, Int.toNat_natCast]
    rw [hRA]
    obtain ⟨g1, g2, g3⟩ := least_good ⟨N, by omega⟩ h1
    simp only at g1 g2 g3
    have hlen : (leastW N).length ≤ 4 := by omega
    obtain ⟨K1, k1⟩ := ev_get (impl_ev (N : Int) (leastW N) (by omega))
    obtain ⟨K2, k2⟩ := ev_get (loop_ev hs (N : Int) (leastW N) (by omega) (fun i hi => g3 ⟨i, by omega⟩ hi) (leastW N).length 0 (by omega) (by omega))
    rw [g1] at k1
    refine ⟨K0 + K1 + K2 + 2, fun k hk => ?_⟩
    obtain ⟨k, rfl⟩ : ∃ j, k = j + 1 + 1 := ⟨k - 2, by omega⟩
    dsimp only
    have hw : wrap64 (Int.tdiv (wrap64 ((N : Int) + 2)) 2) = (((N + 2) / 2 : Nat) : Int) := by
      rw [show wrap64 ((N : Int) + 2) = ((N + 2 : Nat) : Int) by unfold wrap64; omega]
      rw [show Int.tdiv ((N + 2 : Nat) : Int) 2 = (((N + 2) / 2 : Nat) : Int) from rfl]
      unfold wrap64
      omega
    rw [laws_FnQueensWatch.j0, if_neg (by simp), if_pos rfl, k1 _ (by omega), Option.bind_some, if_pos rfl, if_pos rfl, laws_FnQueensWatch.j1, hw, if_neg (by rw [decide_eq_true_eq]; omega)]
    exact k2 k (by omega)
  · have hRA : RA n = ([], false) := by
      unfold RA
      rw [if_neg h]
    rw [hRA]
    refine ⟨K0 + 1, fun k hk => ?_⟩
    obtain ⟨k, rfl⟩ : ∃ j, k = j + 1 := ⟨k - 1, by omega⟩
    dsimp only
    rw [laws_FnQueensWatch.j0, if_neg (by simp), if_neg (by simp)]
    exact k0 k (by omega)
end
end FnQueensWatch
open FnQueensWatch FnExactLeastWatch in
theorem FnQueensWatch : laws_FnQueensWatch.Pure := by
  intro l0 l1 h0 h0' hc h1 h1' hf
  have hs0 := bytes_of hc
  have hs1 := bytes_of hf
  obtain ⟨x, hx⟩ := big_eq l0 l1 (by omega) (by omega)
  cases x with
  | true => exact ⟨0, by unfold laws_FnQueensWatch.f; rw [hx]; simp⟩
  | false =>
    obtain ⟨n, a1, b1, e1, _⟩ := among_ok hs0 0 0 [1, 2, 3, 4, 5, 6, 7, 0] (by simp) (by omega) (by omega)
    obtain ⟨K1, k1⟩ := ev_get (implA_ev n)
    obtain ⟨K2, k2⟩ := ev_get (specA_ev n)
    have hsm := RA_small n
    obtain ⟨K3, k3⟩ := ev_get (kRows_refl (RA n).1 (by omega) (fun b hb => by have := hsm.2 b hb; omega))
    obtain ⟨K4, k4⟩ := ev_get (j0_ev hs1 n)
    obtain ⟨m, hm⟩ : ∃ m, m = K1 + K2 + K3 + K4 := ⟨_, rfl⟩
    refine ⟨m, ?_⟩
    unfold laws_FnQueensWatch.f
    rw [hx]
    simp only [Option.bind_some, Bool.false_eq_true, if_false, spec_DrawLeastWatch.f, e1, k1 m (by omega), k2 m (by omega), bne_self_eq_false, k3 m (by omega), Bool.not_true]
    exact k4 m (by omega)
end Go.Proofs.Ythlcaikplebpmaa.Pure
