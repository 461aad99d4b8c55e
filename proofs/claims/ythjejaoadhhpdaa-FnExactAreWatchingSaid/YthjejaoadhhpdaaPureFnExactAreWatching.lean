/- For every number and all places AreWatching returns what the reference returns, and leaves its argument as it was: no condition but that the arguments can be read. -/
import Derived.Test.YthjejaoadhhpdaaLibS
import Derived.Test.YthjejaoadhhpdaaPx0
import Derived.Test.YthjejaoadhhpdaaPx31
import Derived.Test.YthjejaoadhhpdaaPx32
import Derived.Test.YthjejaoadhhpdaaPx33
import Derived.Test.YthjejaoadhhpdaaPx34
import Derived.Test.YthjejaoadhhpdaaPx35
import Derived.Test.YthjejaoadhhpdaaPx36
import Derived.Test.YthjejaoadhhpdaaPx4
import Derived.Test.YthjejaoadhhpdaaQLib3
namespace Go.Proofs.Ythjejaoadhhpdaa.P
open Go.RowKit Go.Proofs.YthjejaoadhhpdaaW.PrintWords Go.Proofs.YthjejaoadhhpdaaW.PrintLast Go.Proofs.YthjejaoadhhpdaaW.PrintMore
set_option linter.unusedVariables false
set_option linter.unusedSimpArgs false

/-- A place in which a queen reaches row r, column c. -/
def reach (x : List Int) (r c : Int) : Bool := decide (x.getD 0 0 = r ∨ x.getD 1 0 = c ∨ (x.getD 0 0 - r).natAbs = (x.getD 1 0 - c).natAbs)
def placeOk (n : Int) (x : List Int) : Bool := decide (x.length = 2 ∧ ∀ y ∈ x, 0 ≤ y ∧ y ≤ n - 1)
theorem placeOk_at {n : Int} {x : List Int} (h : placeOk n x = true) : ∃ a b, x = [a, b] ∧ 0 ≤ a ∧ a ≤ n - 1 ∧ 0 ≤ b ∧ b ≤ n - 1 := by
  unfold placeOk at h
  rw [decide_eq_true_iff] at h
  obtain ⟨h1, h2⟩ := h
  match x, h1 with
  | [a, b], _ =>
    have ha := h2 a (by simp)
    have hb := h2 b (by simp)
    exact ⟨a, b, rfl, ha.1, ha.2, hb.1, hb.2⟩
def cellOk (l : List (List Int)) (r c : Int) : Bool := l.any fun x => reach x r c
def rowOk (n : Nat) (l : List (List Int)) (r : Int) (c : Nat) : Bool := (List.range' c (n - c)).all fun (c : Nat) => cellOk l r (c : Int)
def allOk (n : Nat) (l : List (List Int)) (r : Nat) : Bool := (List.range' r (n - r)).all fun (r : Nat) => rowOk n l (r : Int) 0
theorem drop_cons' (l : List (List Int)) (i : Nat) (h : i < l.length) : l.drop i = l[i] :: l.drop (i + 1) := List.drop_eq_getElem_cons h
theorem rowOk_step (n : Nat) (l : List (List Int)) (r : Int) (c : Nat) (h : c < n) : rowOk n l r c = (cellOk l r c && rowOk n l r (c + 1)) := by
  unfold rowOk
  rw [range'_step c n h, List.all_cons]
theorem allOk_step (n : Nat) (l : List (List Int)) (r : Nat) (h : r < n) : allOk n l r = (rowOk n l r 0 && allOk n l (r + 1)) := by
  unfold allOk
  rw [range'_step r n h, List.all_cons]
theorem rowOk_nil (n : Nat) (l : List (List Int)) (r : Int) (c : Nat) (h : n ≤ c) : rowOk n l r c = true := by
  unfold rowOk
  rw [show n - c = 0 by omega]; rfl
theorem allOk_nil (n : Nat) (l : List (List Int)) (r : Nat) (h : n ≤ r) : allOk n l r = true := by
  unfold allOk
  rw [show n - r = 0 by omega]; rfl
theorem quWatched_l2 (n : Nat) (hn : n ≤ 8) (l : List (List Int)) (hl : l.length ≤ 64) (hp : ∀ x ∈ l, placeOk n x = true) (r c : Nat) (hr : r < n) (hc : c < n)
    (hout : Ev (fun k => spec_quWatched.l1 k (n : Int) l (r : Int) ((c + 1 : Nat) : Int)) (rowOk n l r (c + 1) && allOk n l (r + 1))) :
    ∀ (d i : Nat) (b : Bool), l.length - i = d → i ≤ l.length →
    Ev (fun k => spec_quWatched.l2 k (n : Int) l (r : Int) (c : Int) b l (l.length : Int) (i : Int)) ((b || (l.drop i).any fun x => reach x r c) && (rowOk n l r (c + 1) && allOk n l (r + 1))) := by
  intro d
  induction d with
  | zero =>
    intro i b hd hi
    obtain ⟨K, hK⟩ := ev_get hout
    refine ⟨K + 1, fun k hk => ?_⟩
    obtain ⟨k, rfl⟩ : ∃ m, k = m + 1 := ⟨k - 1, by omega⟩
    simp only [spec_quWatched.l2]
    rw [if_neg (by omega), w64 _ (by omega) (by omega), show ((c : Int) + 1) = ((c + 1 : Nat) : Int) by omega, hK k (by omega), List.drop_eq_nil_of_le (by omega)]
    cases b <;> simp
  | succ d ih =>
    intro i b hd hi
    have h1 : i < l.length := by omega
    obtain ⟨K1, h2⟩ := ev_get (ih (i + 1) true (by omega) (by omega))
    obtain ⟨K2, h3⟩ := ev_get (ih (i + 1) (decide ((l[i].getD 0 0 - r).natAbs = (l[i].getD 1 0 - c).natAbs)) (by omega) (by omega))
    refine ⟨K1 + K2 + 1, fun k hk => ?_⟩
    obtain ⟨k, rfl⟩ : ∃ m, k = m + 1 := ⟨k - 1, by omega⟩
    have h2 := h2 k (by omega)
    have h3 := h3 k (by omega)
    obtain ⟨x, y, he, hx1, hx2, hy1, hy2⟩ := placeOk_at (hp l[i] (List.getElem_mem h1))
    rw [drop_cons' l i h1, List.any_cons]
    generalize (l.drop (i + 1)).any (fun x => reach x r c) = rest at h2 h3 ⊢
    simp only [spec_quWatched.l2]
    rw [if_pos (by omega), if_pos (by omega), if_pos (by omega), rdL_nat _ _ h1, he, if_pos (by simp)]
    rw [he] at h3
    have e0 : rd [x, y] 0 = x := rfl
    have e1 : rd [x, y] 1 = y := rfl
    rw [e0, e1, w64 (x - r) (by omega) (by omega), l1Abs_eq _ (by omega) (by omega), Option.bind_some, if_pos (by simp), w64 (y - c) (by omega) (by omega), l1Abs_eq _ (by omega) (by omega), Option.bind_some, w64 ((i : Int) + 1) (by omega) (by omega), show ((i : Int) + 1) = ((i + 1 : Nat) : Int) by omega]
    have ee : ((((x - (r : Int)).natAbs : Int) == ((y - (c : Int)).natAbs : Int))) = decide ((x - (r : Int)).natAbs = (y - (c : Int)).natAbs) := by
      rw [Bool.eq_iff_iff, beq_iff_eq, decide_eq_true_iff]; omega
    rw [ee, h2]
    have e2 : ([x, y] : List Int).getD 0 0 = x := rfl
    have e3 : ([x, y] : List Int).getD 1 0 = y := rfl
    rw [e2, e3] at h3
    rw [h3]
    have hreach : reach [x, y] r c = decide (x = (r : Int) ∨ y = (c : Int) ∨ (x - (r : Int)).natAbs = (y - (c : Int)).natAbs) := rfl
    rw [hreach]
    cases b with
    | true => simp
    | false =>
      simp only [Bool.false_eq_true, if_false, Bool.false_or]
      by_cases ha : ((x - (r : Int)).natAbs : Int) = 0
      · rw [if_pos ha, decide_eq_true (show x = (r : Int) ∨ y = (c : Int) ∨ (x - (r : Int)).natAbs = (y - (c : Int)).natAbs from .inl (by omega))]
      · rw [if_neg ha]
        by_cases hb : ((y - (c : Int)).natAbs : Int) = 0
        · rw [if_pos hb, decide_eq_true (show x = (r : Int) ∨ y = (c : Int) ∨ (x - (r : Int)).natAbs = (y - (c : Int)).natAbs from .inr (.inl (by omega)))]
        · rw [if_neg hb]
          have : decide (x = (r : Int) ∨ y = (c : Int) ∨ (x - (r : Int)).natAbs = (y - (c : Int)).natAbs) = decide ((x - (r : Int)).natAbs = (y - (c : Int)).natAbs) := by
            rw [decide_eq_decide]; omega
          rw [this]
theorem quWatched_l1 (n : Nat) (hn : n ≤ 8) (l : List (List Int)) (hl : l.length ≤ 64) (hp : ∀ x ∈ l, placeOk n x = true) (r : Nat) (hr : r < n)
    (hout : Ev (fun k => spec_quWatched.l0 k (n : Int) l ((r + 1 : Nat) : Int)) (allOk n l (r + 1))) :
    ∀ (d c : Nat), n - c = d → c ≤ n →
    Ev (fun k => spec_quWatched.l1 k (n : Int) l (r : Int) (c : Int)) (rowOk n l r c && allOk n l (r + 1)) := by
  intro d
  induction d with
  | zero =>
    intro c hd hc
    obtain ⟨K, hK⟩ := ev_get hout
    refine ⟨K + 1, fun k hk => ?_⟩
    obtain ⟨k, rfl⟩ : ∃ m, k = m + 1 := ⟨k - 1, by omega⟩
    simp only [spec_quWatched.l1]
    rw [if_neg (by omega), w64 _ (by omega) (by omega), show ((r : Int) + 1) = ((r + 1 : Nat) : Int) by omega, hK k (by omega), rowOk_nil n l r c (by omega), Bool.true_and]
  | succ d ih =>
    intro c hd hc
    obtain ⟨K, hK⟩ := ev_get (quWatched_l2 n hn l hl hp r c hr (by omega) (ih (c + 1) (by omega) (by omega)) l.length 0 false (by omega) (by omega))
    refine ⟨K + 1, fun k hk => ?_⟩
    obtain ⟨k, rfl⟩ : ∃ m, k = m + 1 := ⟨k - 1, by omega⟩
    simp only [spec_quWatched.l1]
    have h := hK k (by omega)
    rw [if_pos (by omega), show (0 : Int) = ((0 : Nat) : Int) from rfl, h, rowOk_step n l r c (by omega), Bool.false_or, List.drop_zero, Bool.and_assoc]
    rfl
theorem quWatched_l0 (n : Nat) (hn : n ≤ 8) (l : List (List Int)) (hl : l.length ≤ 64) (hp : ∀ x ∈ l, placeOk n x = true) : ∀ (d r : Nat), n - r = d → r ≤ n →
    Ev (fun k => spec_quWatched.l0 k (n : Int) l (r : Int)) (allOk n l r) := by
  intro d
  induction d with
  | zero =>
    intro r hd hr
    refine ⟨1, fun k hk => ?_⟩
    obtain ⟨k, rfl⟩ : ∃ m, k = m + 1 := ⟨k - 1, by omega⟩
    simp only [spec_quWatched.l0]
    rw [if_neg (by omega), allOk_nil n l r (by omega)]
  | succ d ih =>
    intro r hd hr
    obtain ⟨K, hK⟩ := ev_get (quWatched_l1 n hn l hl hp r (by omega) (ih (r + 1) (by omega) (by omega)) n 0 (by omega) (by omega))
    refine ⟨K + 1, fun k hk => ?_⟩
    obtain ⟨k, rfl⟩ : ∃ m, k = m + 1 := ⟨k - 1, by omega⟩
    simp only [spec_quWatched.l0]
    have h := hK k (by omega)
    rw [if_pos (by omega), show (0 : Int) = ((0 : Nat) : Int) from rfl, h, allOk_step n l r (by omega)]
theorem quWatched_ev (n : Nat) (hn : n ≤ 8) (l : List (List Int)) (hl : l.length ≤ 64) (hp : ∀ x ∈ l, placeOk n x = true) : Ev (fun k => spec_quWatched.f k (n : Int) l) (allOk n l 0) := by
  obtain ⟨K, hK⟩ := ev_get (quWatched_l0 n hn l hl hp n 0 (by omega) (by omega))
  exact ⟨K, fun k hk => hK k hk⟩
theorem IndexFuncS (l : List (List Int)) (F : List Int → Option Bool) (P : List Int → Bool) (hF : ∀ x ∈ l, F x = some (P x)) (hb : l.length ≤ 1152921504606846976) : ∀ (d i : Nat) (k : Nat), l.length - i = d → i ≤ l.length → d < k →
    ∃ r : Int, slices_IndexFunc_int_int_105.l0 k l F (l.length : Int) (i : Int) = some r ∧ decide (r ≥ 0) = (l.drop i).any P := by
  intro d
  induction d with
  | zero =>
    intro i k hd hi hk
    obtain ⟨k, rfl⟩ : ∃ m, k = m + 1 := ⟨k - 1, by omega⟩
    exact ⟨-1, by rw [slices_IndexFunc_int_int_105.l0, if_neg (by omega)], by rw [List.drop_eq_nil_of_le (by omega)]; rfl⟩
  | succ d ih =>
    intro i k hd hi hk
    obtain ⟨k, rfl⟩ : ∃ m, k = m + 1 := ⟨k - 1, by omega⟩
    have h1 : i < l.length := by omega
    have hr := rdL_nat l i h1
    have hf := hF l[i] (List.getElem_mem h1)
    rw [List.drop_eq_getElem_cons h1, List.any_cons]
    by_cases hp : P l[i] = true
    · refine ⟨i, ?_, ?_⟩
      · rw [slices_IndexFunc_int_int_105.l0, if_pos (by omega), if_pos (by omega), if_pos (by omega), hr]
        simp only [FnCall27.f, hf, hp, Option.bind_some, if_true]
      · rw [hp, Bool.true_or]; simp
    · obtain ⟨r, h2, h3⟩ := ih (i + 1) k (by omega) (by omega) (by omega)
      refine ⟨r, ?_, ?_⟩
      · rw [slices_IndexFunc_int_int_105.l0, if_pos (by omega), if_pos (by omega), if_pos (by omega), hr]
        simp only [FnCall27.f, hf, hp, Option.bind_some]
        rw [if_neg (by simp), show wrap64 ((i : Int) + 1) = ((i + 1 : Nat) : Int) by unfold wrap64; omega]
        exact h2
      · rw [h3]; simp only [Bool.not_eq_true] at hp; rw [hp, Bool.false_or]
theorem ContainsFuncS_ev (l : List (List Int)) (F : List Int → Option Bool) (P : List Int → Bool) (hF : ∀ x ∈ l, F x = some (P x)) (hb : l.length ≤ 1152921504606846976) : Ev (fun k => slices_ContainsFunc_int_int_90.f k l F) (l.any P) := by
  refine ⟨l.length + 1, fun k hk => ?_⟩
  obtain ⟨r, h1, h2⟩ := IndexFuncS l F P hF hb l.length 0 k (by omega) (by omega) (by omega)
  simp only [slices_ContainsFunc_int_int_90.f, slices_IndexFunc_int_int_105.f]
  rw [show (0 : Int) = ((0 : Nat) : Int) from rfl, h1, Option.bind_some, show (((0 : Nat) : Int)) = 0 from rfl, h2]
  simp
theorem watching_fn (n : Nat) (hn : n ≤ 8) (x : List Int) (hx : placeOk n x = true) (r c : Nat) (hr : r < n) (hc : c < n) : impl_watching_1.fc (r : Int) (c : Int) x = some (reach x r c) := by
  obtain ⟨a, b, rfl, ha1, ha2, hb1, hb2⟩ := placeOk_at hx
  have e0 : rd [a, b] 0 = a := rfl
  have e1 : rd [a, b] 1 = b := rfl
  have hreach : reach [a, b] r c = decide (a = (r : Int) ∨ b = (c : Int) ∨ (a - (r : Int)).natAbs = (b - (c : Int)).natAbs) := rfl
  show impl_watching_1.f [a, b] (r : Int) (c : Int) = _
  unfold impl_watching_1.f
  rw [e0, e1, if_pos (by simp), hreach]
  by_cases h1 : a = (r : Int)
  · rw [if_pos h1]; simp [h1]
  · rw [if_neg h1, if_pos (by simp)]
    by_cases h2 : b = (c : Int)
    · rw [if_pos h2]; simp [h2]
    · rw [if_neg h2]
      unfold impl_attacked.f mx
      rw [w64 _ (by omega) (by omega), w64 _ (by omega) (by omega), w64 _ (by omega) (by omega), w64 _ (by omega) (by omega), Option.bind_some]
      congr 1
      rw [Bool.eq_iff_iff, beq_iff_eq, decide_eq_true_iff]
      split <;> split <;> omega
theorem watching_l1 (n : Nat) (hn : n ≤ 8) (l : List (List Int)) (hl : l.length ≤ 64) (hp : ∀ x ∈ l, placeOk n x = true) (r : Nat) (hr : r < n)
    (hout : Ev (fun k => impl_watching.l0 k (n : Int) l (n : Int) ((r + 1 : Nat) : Int)) (allOk n l (r + 1))) :
    ∀ (d c : Nat), n - c = d → c ≤ n →
    Ev (fun k => impl_watching.l1 k (n : Int) l (n : Int) (r : Int) (n : Int) (c : Int) (r : Int)) (rowOk n l r c && allOk n l (r + 1)) := by
  intro d
  induction d with
  | zero =>
    intro c hd hc
    obtain ⟨K, hK⟩ := ev_get hout
    refine ⟨K + 1, fun k hk => ?_⟩
    obtain ⟨k, rfl⟩ : ∃ m, k = m + 1 := ⟨k - 1, by omega⟩
    simp only [impl_watching.l1]
    rw [if_neg (by omega), w64 _ (by omega) (by omega), show ((r : Int) + 1) = ((r + 1 : Nat) : Int) by omega, hK k (by omega), rowOk_nil n l r c (by omega), Bool.true_and]
  | succ d ih =>
    intro c hd hc
    obtain ⟨K1, h1⟩ := ev_get (ih (c + 1) (by omega) (by omega))
    obtain ⟨K2, h2⟩ := ev_get (ContainsFuncS_ev l (impl_watching_1.fc (r : Int) (c : Int)) (fun x => reach x r c) (fun x hx => watching_fn n hn x (hp x hx) r c hr (by omega)) (by omega))
    refine ⟨K1 + K2 + 1, fun k hk => ?_⟩
    obtain ⟨k, rfl⟩ : ∃ m, k = m + 1 := ⟨k - 1, by omega⟩
    simp only [impl_watching.l1]
    rw [if_pos (by omega), h2 k (by omega), Option.bind_some, w64 _ (by omega) (by omega), show ((c : Int) + 1) = ((c + 1 : Nat) : Int) by omega, h1 k (by omega), rowOk_step n l r c (by omega)]
    show (if cellOk l r c = true then _ else _) = _
    cases cellOk l r c <;> simp
theorem watching_l0 (n : Nat) (hn : n ≤ 8) (l : List (List Int)) (hl : l.length ≤ 64) (hp : ∀ x ∈ l, placeOk n x = true) : ∀ (d r : Nat), n - r = d → r ≤ n →
    Ev (fun k => impl_watching.l0 k (n : Int) l (n : Int) (r : Int)) (allOk n l r) := by
  intro d
  induction d with
  | zero =>
    intro r hd hr
    refine ⟨1, fun k hk => ?_⟩
    obtain ⟨k, rfl⟩ : ∃ m, k = m + 1 := ⟨k - 1, by omega⟩
    simp only [impl_watching.l0]
    rw [if_neg (by omega), allOk_nil n l r (by omega)]
  | succ d ih =>
    intro r hd hr
    obtain ⟨K, hK⟩ := ev_get (watching_l1 n hn l hl hp r (by omega) (ih (r + 1) (by omega) (by omega)) n 0 (by omega) (by omega))
    refine ⟨K + 1, fun k hk => ?_⟩
    obtain ⟨k, rfl⟩ : ∃ m, k = m + 1 := ⟨k - 1, by omega⟩
    simp only [impl_watching.l0]
    have h := hK k (by omega)
    rw [if_pos (by omega), show (0 : Int) = ((0 : Nat) : Int) from rfl, h, allOk_step n l r (by omega)]
theorem watching_ev (n : Nat) (hn : n ≤ 8) (l : List (List Int)) (hl : l.length ≤ 64) (hp : ∀ x ∈ l, placeOk n x = true) : Ev (fun k => impl_watching.f k (n : Int) l) (allOk n l 0) := by
  obtain ⟨K, hK⟩ := ev_get (watching_l0 n hn l hl hp n 0 (by omega) (by omega))
  exact ⟨K, fun k hk => hK k hk⟩
end Go.Proofs.Ythjejaoadhhpdaa.P

namespace Go.Proofs.Ythjejaoadhhpdaa.Pure
open Go.RowKit Go.Proofs.Ythjejaoadhhpdaa.P Go.Proofs.YthjejaoadhhpdaaW.PrintWords Go.Proofs.YthjejaoadhhpdaaW.PrintLast
set_option linter.unusedSimpArgs false
set_option linter.unusedVariables false
namespace FnExactAreWatching
def R (n : Int) (l : List (List Int)) : Bool × Bool := if (inB n 1 8 = true ∧ (l.length : Int) ≤ n) ∧ (l.all (placeOk n)) = true then (allOk n.toNat l 0, true) else (false, false)
theorem placeOk_eq (n : Int) (x : List Int) : placeOk n x = (decide (x.length = 2) && allIn x 0 (n - 1)) := by
  unfold placeOk allIn
  rw [Bool.eq_iff_iff, decide_eq_true_iff, Bool.and_eq_true, decide_eq_true_iff, List.all_eq_true]
  simp only [inB, decide_eq_true_iff]
theorem spec_l0 (n : Int) (hn : 1 ≤ n) (hn2 : n ≤ 8) (l : List (List Int)) (hl : (l.length : Int) ≤ n) (hx : ∀ x ∈ l, x.length ≤ 1152921504606846976) : ∀ (d i : Nat), l.length - i = d → i ≤ l.length → (∀ x ∈ l.take i, placeOk n x = true) →
    Ev (fun k => spec_AreWatching.l0 k n l l (l.length : Int) (i : Int)) (if ((l.drop i).all (placeOk n)) = true then (allOk n.toNat l 0, true) else (false, false)) := by
  intro d
  induction d with
  | zero =>
    intro i hd hi ht
    rw [List.take_of_length_le (by omega)] at ht
    obtain ⟨K, hK⟩ := ev_get (quWatched_ev n.toNat (by omega) l (by omega) (fun x hm => by rw [show ((n.toNat : Nat) : Int) = n by omega]; exact ht x hm))
    refine ⟨K + 1, fun k hk => ?_⟩
    obtain ⟨k, rfl⟩ : ∃ m, k = m + 1 := ⟨k - 1, by omega⟩
    have h := hK k (by omega)
    rw [show ((n.toNat : Nat) : Int) = n by omega] at h
    simp only [spec_AreWatching.l0]
    rw [if_neg (by omega), h, Option.bind_some, List.drop_eq_nil_of_le (by omega)]
    rfl
  | succ d ih =>
    intro i hd hi ht
    have h1 : i < l.length := by omega
    rw [drop_cons' l i h1, List.all_cons, placeOk_eq]
    obtain ⟨K1, h2⟩ := ev_get (l1All_ev l[i] 0 (n - 1) (hx _ (List.getElem_mem h1)))
    by_cases hp : placeOk n l[i] = true
    · obtain ⟨K2, h3⟩ := ev_get (ih (i + 1) (by omega) (by omega) (fun x hm => by
        rw [List.take_add_one, List.getElem?_eq_getElem h1] at hm
        rcases List.mem_append.1 hm with hm | hm
        · exact ht x hm
        · simp at hm; subst hm; exact hp))
      rw [placeOk_eq, Bool.and_eq_true, decide_eq_true_iff] at hp
      refine ⟨K1 + K2 + 1, fun k hk => ?_⟩
      obtain ⟨k, rfl⟩ : ∃ m, k = m + 1 := ⟨k - 1, by omega⟩
      have h3 := h3 k (by omega)
      simp only [spec_AreWatching.l0]
      rw [if_pos (by omega), if_pos (by omega), if_pos (by omega), rdL_nat _ _ h1, if_pos (by omega), w64 (n - 1) (by omega) (by omega), h2 k (by omega), Option.bind_some, if_pos hp.2, w64 _ (by omega) (by omega), show ((i : Int) + 1) = ((i + 1 : Nat) : Int) by omega, h3, hp.2, decide_eq_true hp.1]
      rfl
    · refine ⟨K1 + 1, fun k hk => ?_⟩
      obtain ⟨k, rfl⟩ : ∃ m, k = m + 1 := ⟨k - 1, by omega⟩
      rw [placeOk_eq] at hp
      rw [if_neg (by rw [Bool.and_eq_true]; exact fun h => hp h.1)]
      simp only [spec_AreWatching.l0]
      rw [if_pos (by omega), if_pos (by omega), if_pos (by omega), rdL_nat _ _ h1, w64 (n - 1) (by omega) (by omega), h2 k (by omega), Option.bind_some]
      by_cases h5 : l[i].length = 2
      · rw [if_pos (by omega), if_neg (fun h => hp (by rw [h, decide_eq_true h5]; rfl))]
      · rw [if_neg (by omega)]
theorem spec_ev (n : Int) (l : List (List Int)) (hl : l.length ≤ 1152921504606846976) (hx : ∀ x ∈ l, x.length ≤ 1152921504606846976) : Ev (fun k => spec_AreWatching.f k n l) (R n l) := by
  by_cases h1 : inB n 1 8 = true
  · have hn : 1 ≤ n ∧ n ≤ 8 := by simpa [inB] using h1
    by_cases h2 : (l.length : Int) ≤ n
    · obtain ⟨K, hK⟩ := ev_get (spec_l0 n hn.1 hn.2 l h2 hx l.length 0 (by omega) (by omega) (by simp))
      refine ⟨K + 1, fun k hk => ?_⟩
      obtain ⟨k, rfl⟩ : ∃ m, k = m + 1 := ⟨k - 1, by omega⟩
      simp only [spec_AreWatching.f, quSide_eq, Option.bind_some, if_pos h1]
      rw [spec_AreWatching.j0, if_neg (by simp; omega), show (0 : Int) = ((0 : Nat) : Int) from rfl, hK k (by omega)]
      unfold R
      simp only [h1, h2, and_self, true_and, List.drop_zero]
    · refine ⟨1, fun k hk => ?_⟩
      obtain ⟨k, rfl⟩ : ∃ m, k = m + 1 := ⟨k - 1, by omega⟩
      simp only [spec_AreWatching.f, quSide_eq, Option.bind_some, if_pos h1]
      rw [spec_AreWatching.j0, if_pos (by simp; omega)]
      unfold R
      rw [if_neg (fun h => h2 h.1.2)]
  · refine ⟨1, fun k hk => ?_⟩
    obtain ⟨k, rfl⟩ : ∃ m, k = m + 1 := ⟨k - 1, by omega⟩
    simp only [spec_AreWatching.f, quSide_eq, Option.bind_some, if_neg h1]
    rw [spec_AreWatching.j0, if_pos rfl]
    unfold R
    rw [if_neg (fun h => h1 h.1.1)]
theorem fn_eq (n : Int) (hn : 1 ≤ n) (hn2 : n ≤ 8) (x : List Int) : impl_AreWatching_1.fc n x = some (!placeOk n x) := by
  show impl_AreWatching_1.f x n = _
  unfold impl_AreWatching_1.f
  rw [placeOk_eq]
  by_cases h : x.length = 2
  · match x, h with
    | [a, b], _ =>
      have e0 : rd [a, b] 0 = a := rfl
      have e1 : rd [a, b] 1 = b := rfl
      rw [if_pos (by simp), if_pos (by simp), if_pos (by simp), e0, e1, w64 _ (by omega) (by omega), within_eq, within_eq, Option.bind_some, Option.bind_some]
      have ea : allIn [a, b] 0 (n - 1) = (inB a 0 (n - 1) && inB b 0 (n - 1)) := by simp [allIn]
      rw [ea]
      cases inB a 0 (n - 1) <;> cases inB b 0 (n - 1) <;> rfl
  · rw [if_neg (by omega), decide_eq_false h]; rfl
theorem impl_ev (n : Int) (l : List (List Int)) (hl : l.length ≤ 1152921504606846976) : Ev (fun k => impl_AreWatching.f k n l) (R n l) := by
  by_cases h1 : inB n 1 8 = true
  · have hn : 1 ≤ n ∧ n ≤ 8 := by simpa [inB] using h1
    by_cases h2 : (l.length : Int) ≤ n
    · obtain ⟨K1, h3⟩ := ev_get (ContainsFuncS_ev l (impl_AreWatching_1.fc n) (fun x => !placeOk n x) (fun x _ => fn_eq n hn.1 hn.2 x) hl)
      by_cases h4 : l.all (placeOk n) = true
      · obtain ⟨K2, h5⟩ := ev_get (watching_ev n.toNat (by omega) l (by omega) (fun x hm => by rw [show ((n.toNat : Nat) : Int) = n by omega]; exact List.all_eq_true.1 h4 x hm))
        refine ⟨K1 + K2, fun k hk => ?_⟩
        have h5 := h5 k (by omega)
        rw [show ((n.toNat : Nat) : Int) = n by omega] at h5
        simp only [impl_AreWatching.f, isMany_eq, Option.bind_some, if_pos h1]
        rw [if_neg (by omega), h3 k (by omega), Option.bind_some, ← List.not_all_eq_any_not, h4, if_neg (by simp), h5]
        unfold R
        rw [if_pos ⟨⟨h1, h2⟩, h4⟩]
        rfl
      · refine ⟨K1, fun k hk => ?_⟩
        simp only [impl_AreWatching.f, isMany_eq, Option.bind_some, if_pos h1]
        rw [if_neg (by omega), h3 k (by omega), Option.bind_some, ← List.not_all_eq_any_not, if_pos (by simpa using h4)]
        unfold R
        rw [if_neg (fun h => h4 h.2)]
    · refine ⟨0, fun k hk => ?_⟩
      simp only [impl_AreWatching.f, isMany_eq, Option.bind_some, if_pos h1]
      rw [if_pos (by omega)]
      unfold R
      rw [if_neg (fun h => h2 h.1.2)]
  · refine ⟨0, fun k hk => ?_⟩
    simp only [impl_AreWatching.f, isMany_eq, Option.bind_some, if_neg h1]
    unfold R
    rw [if_neg (fun h => h1 h.1.1)]
end FnExactAreWatching
open FnExactAreWatching in
theorem FnExactAreWatching : laws_FnExactAreWatching.Pure := by
  intro n l hn hl
  have hlen := hl.1
  have hrow : ∀ x ∈ l, x.length ≤ maxLen := fun x hx => (hl.2 x hx).1
  obtain ⟨K0, h0⟩ := ev_get (szIntSS_ev l hlen hrow)
  by_cases hbig : 1048576 < l.length + total l
  · refine ⟨K0, ?_⟩
    unfold laws_FnExactAreWatching.f
    rw [h0 K0 (Nat.le_refl _), if_pos hbig, Option.bind_some, if_pos (by omega)]
  have hx : ∀ x ∈ l, x.length ≤ 1048576 := fun x hx => by have := total_mem hx; omega
  obtain ⟨K1, h1⟩ := ev_get (toIntSS_ev l (by omega) (fun x h => by have := hx x h; omega))
  obtain ⟨K2, h2⟩ := ev_get (spec_ev n l (by omega) (fun x h => by have := hx x h; omega))
  obtain ⟨K3, h3⟩ := ev_get (impl_ev n l (by omega))
  obtain ⟨K4, h4⟩ := ev_get (eqIntSS_ev l l (by omega) (fun x h => by have := hx x h; omega))
  generalize R n l = R at *
  obtain ⟨m, hm⟩ : ∃ m, m = K0 + K1 + K2 + K3 + K4 := ⟨_, rfl⟩
  refine ⟨m + 1, ?_⟩
  unfold laws_FnExactAreWatching.f
  rw [h0 _ (by omega), if_neg hbig, Option.bind_some, if_neg (by omega), h1 _ (by omega), Option.bind_some, h2 _ (by omega), Option.bind_some, Option.bind_some, h3 _ (by omega), Option.bind_some, bne_self_eq_false, bne_self_eq_false, if_neg (by simp), laws_FnExactAreWatching.j0, if_neg (by simp), h1 _ (by omega), Option.bind_some, h4 _ (by omega), Option.bind_some, if_pos (by simp)]
end Go.Proofs.Ythjejaoadhhpdaa.Pure
