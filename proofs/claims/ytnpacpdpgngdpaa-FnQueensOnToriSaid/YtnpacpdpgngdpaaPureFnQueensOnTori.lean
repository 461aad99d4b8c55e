/- For all bytes that are drawn from: queens are on a torus for some lists exactly if neither 2 nor 3 divides the number of rows; shifts keep them there: no condition but that the bytes can be read. -/
import Derived.Laws.BitsLemmas
import Derived.Test.YtnpacpdpgngdpaaPx0
import Derived.Test.YtnpacpdpgngdpaaQ7aa3faaa4f
import Derived.Test.YtnpacpdpgngdpaaQe055dea2b2
import Derived.Test.YtnpacpdpgngdpaaQc9a424d6e5
import Derived.Test.YtnpacpdpgngdpaaQ688861e3bd
import Derived.Test.YtnpacpdpgngdpaaQ39cf673806
import Derived.Test.YtnpacpdpgngdpaaQe47b9b2763
namespace Go.Proofs.Ytnpacpdpgngdpaa.P
open Go.RowKit Go.Proofs.YtnpacpdpgngdpaaW.PrintWords Go.Proofs.YtnpacpdpgngdpaaW.PrintLast Go.Proofs.YtnpacpdpgngdpaaW.PrintMore
set_option linter.unusedVariables false
set_option linter.unusedSimpArgs false
theorem w64 (n : Int) (h : -9223372036854775808 ≤ n) (h2 : n ≤ 9223372036854775807) : wrap64 n = n := by unfold wrap64; omega
theorem rd_nat (l : List Int) (i : Nat) (h : i < l.length) : rd l (i : Int) = l[i] := by
  unfold rd; simp [List.getD_eq_getElem?_getD, List.getElem?_eq_getElem h]
theorem drop_cons (l : List Int) (i : Nat) (h : i < l.length) : l.drop i = l[i] :: l.drop (i + 1) := List.drop_eq_getElem_cons h
theorem ev_get {α : Type} {g : Nat → Option α} {r : α} (h : Ev g r) : ∃ K, ∀ k, K ≤ k → g k = some r := h
def inB (n lo hi : Int) : Bool := decide (lo ≤ n ∧ n ≤ hi)
theorem l1In_eq (a b c : Int) : spec_l1In.f a b c = some (inB a b c) := by
  unfold spec_l1In.f inB
  by_cases h : a ≥ b
  · rw [if_pos h]; congr 1; simp; omega
  · rw [if_neg h]; congr 1; symm; apply decide_eq_false; omega
theorem within_eq (a b c : Int) : impl_within.f a b c = some (inB a b c) := by
  unfold impl_within.f inB
  by_cases h : b ≤ a
  · rw [if_pos h]; congr 1; simp; omega
  · rw [if_neg h]; congr 1; symm; apply decide_eq_false; omega
def allIn (l : List Int) (lo hi : Int) : Bool := l.all fun x => inB x lo hi
theorem l1All_l0 (lo hi : Int) (l : List Int) (hb : l.length ≤ 1152921504606846976) : ∀ (d i : Nat) (k : Nat), l.length - i = d → i ≤ l.length → d < k →
    spec_l1All.l0 k lo hi l (l.length : Int) (i : Int) = some (allIn (l.drop i) lo hi) := by
  intro d
  induction d with
  | zero =>
    intro i k hd hi' hk
    obtain ⟨k, rfl⟩ : ∃ m, k = m + 1 := ⟨k - 1, by omega⟩
    rw [spec_l1All.l0, if_neg (by omega), List.drop_eq_nil_of_le (by omega)]
    rfl
  | succ d ih =>
    intro i k hd hi' hk
    obtain ⟨k, rfl⟩ : ∃ m, k = m + 1 := ⟨k - 1, by omega⟩
    have h1 : i < l.length := by omega
    rw [spec_l1All.l0, if_pos (by omega), if_pos (by omega), if_pos (by omega), l1In_eq, Option.bind_some, w64 _ (by omega) (by omega), rd_nat _ _ h1]
    rw [show ((i : Int) + 1) = ((i + 1 : Nat) : Int) by omega, ih (i + 1) k (by omega) (by omega) (by omega), drop_cons l i h1]
    unfold allIn
    rw [List.all_cons]
    generalize l.drop (i + 1) = tl
    by_cases h : inB l[i] lo hi = true
    · rw [if_pos h, h]; simp
    · rw [if_neg h]; simp at h; rw [h]; simp
theorem l1All_ev (l : List Int) (lo hi : Int) (hb : l.length ≤ 1152921504606846976) : Ev (fun k => spec_l1All.f k l lo hi) (allIn l lo hi) := by
  refine ⟨l.length + 1, fun k hk => ?_⟩
  simp only [spec_l1All.f]
  have := l1All_l0 lo hi l hb l.length 0 k (by omega) (by omega) (by omega)
  simpa using this
end Go.Proofs.Ytnpacpdpgngdpaa.P
namespace Go.Proofs.Ytnpacpdpgngdpaa.P
open Go.RowKit Go.Proofs.YtnpacpdpgngdpaaW.PrintWords Go.Proofs.YtnpacpdpgngdpaaW.PrintLast Go.Proofs.YtnpacpdpgngdpaaW.PrintMore
set_option linter.unusedVariables false
set_option linter.unusedSimpArgs false
theorem l1Has_l0 (x : Int) (l : List Int) (hb : l.length ≤ 1152921504606846976) : ∀ (d i : Nat) (k : Nat), l.length - i = d → i ≤ l.length → d < k →
    spec_l1Has.l0 k x l (l.length : Int) (i : Int) = some (decide (x ∈ l.drop i)) := by
  intro d
  induction d with
  | zero =>
    intro i k hd hi' hk
    obtain ⟨k, rfl⟩ : ∃ m, k = m + 1 := ⟨k - 1, by omega⟩
    rw [spec_l1Has.l0, if_neg (by omega), List.drop_eq_nil_of_le (by omega)]
    rfl
  | succ d ih =>
    intro i k hd hi' hk
    obtain ⟨k, rfl⟩ : ∃ m, k = m + 1 := ⟨k - 1, by omega⟩
    have h1 : i < l.length := by omega
    rw [spec_l1Has.l0, if_pos (by omega), if_pos (by omega), if_pos (by omega), w64 _ (by omega) (by omega), rd_nat _ _ h1]
    rw [show ((i : Int) + 1) = ((i + 1 : Nat) : Int) by omega, ih (i + 1) k (by omega) (by omega) (by omega), drop_cons l i h1]
    generalize l.drop (i + 1) = tl
    by_cases h : l[i] = x
    · rw [if_pos h]; simp [h]
    · rw [if_neg h]; congr 1; simp [Ne.symm h]
theorem l1Has_ev (l : List Int) (x : Int) (hb : l.length ≤ 1152921504606846976) : Ev (fun k => spec_l1Has.f k l x) (decide (x ∈ l)) := by
  refine ⟨l.length + 1, fun k hk => ?_⟩
  simp only [spec_l1Has.f]
  have := l1Has_l0 x l hb l.length 0 k (by omega) (by omega) (by omega)
  simpa using this
/-- slices.Index tells at least 0 just for a member. -/
theorem Index_l0 (x : Int) (l : List Int) (hb : l.length ≤ 1152921504606846976) : ∀ (d i : Nat) (k : Nat), l.length - i = d → i ≤ l.length → d < k →
    slices_Index_int_int.l0 k l x (l.length : Int) (i : Int) = some (if x ∈ l.drop i then (i : Int) + ((l.drop i).idxOf x : Nat) else -1) := by
  intro d
  induction d with
  | zero =>
    intro i k hd hi' hk
    obtain ⟨k, rfl⟩ : ∃ m, k = m + 1 := ⟨k - 1, by omega⟩
    rw [slices_Index_int_int.l0, if_neg (by omega), List.drop_eq_nil_of_le (by omega)]
    rfl
  | succ d ih =>
    intro i k hd hi' hk
    obtain ⟨k, rfl⟩ : ∃ m, k = m + 1 := ⟨k - 1, by omega⟩
    have h1 : i < l.length := by omega
    rw [slices_Index_int_int.l0, if_pos (by omega), if_pos (by omega), if_pos (by omega), w64 _ (by omega) (by omega), rd_nat _ _ h1]
    rw [show ((i : Int) + 1) = ((i + 1 : Nat) : Int) by omega, ih (i + 1) k (by omega) (by omega) (by omega), drop_cons l i h1]
    generalize l.drop (i + 1) = tl
    by_cases h : x = l[i]
    · rw [if_pos h]; simp [h]
    · rw [if_neg h]; congr 1
      rw [List.idxOf_cons, show (l[i] == x) = false by simpa using Ne.symm h, cond_false]
      by_cases h2 : x ∈ tl
      · rw [if_pos h2, if_pos (by simp [h2])]; omega
      · rw [if_neg h2, if_neg (by simp [h, h2])]
theorem Index_ev (l : List Int) (x : Int) (hb : l.length ≤ 1152921504606846976) : Ev (fun k => slices_Index_int_int.f k l x) (if x ∈ l then (l.idxOf x : Int) else -1) := by
  refine ⟨l.length + 1, fun k hk => ?_⟩
  simp only [slices_Index_int_int.f]
  have := Index_l0 x l hb l.length 0 k (by omega) (by omega) (by omega)
  simpa using this
theorem Contains_ev (l : List Int) (x : Int) (hb : l.length ≤ 1152921504606846976) : Ev (fun k => slices_Contains_int_int.f k l x) (decide (x ∈ l)) := by
  obtain ⟨K, hK⟩ := ev_get (Index_ev l x hb)
  refine ⟨K, fun k hk => ?_⟩
  simp only [slices_Contains_int_int.f, hK k hk, Option.bind_some]
  congr 1
  by_cases h : x ∈ l
  · simp [h]
  · simp [h]
def permB (l : List Int) (n : Int) : Bool := decide ((l.length : Int) = n ∧ (∀ x ∈ l, 0 ≤ x ∧ x ≤ n - 1) ∧ l.Nodup)
def restOnce (l : List Int) (i : Nat) : Prop := ∀ j, i ≤ j → ∀ h : j < l.length, l[j] ∉ l.take j
theorem restOnce_iff (l : List Int) : restOnce l 0 ↔ l.Nodup := by
  constructor
  · intro h
    rw [List.nodup_iff_pairwise_ne, List.pairwise_iff_getElem]
    intro i j hi hj hij e
    exact h j (by omega) hj (by rw [← e]; exact List.mem_take_iff_getElem.2 ⟨i, by omega, rfl⟩)
  · intro h j _ hj hm
    rw [List.nodup_iff_pairwise_ne, List.pairwise_iff_getElem] at h
    obtain ⟨i, hi, e⟩ := List.mem_take_iff_getElem.1 hm
    exact h i j (by omega) hj (by omega) e
theorem restOnce_step (l : List Int) (i : Nat) (h : i < l.length) : restOnce l i ↔ l[i] ∉ l.take i ∧ restOnce l (i + 1) := by
  constructor
  · intro H
    exact ⟨H i (by omega) h, fun j hj hjl => H j (by omega) hjl⟩
  · rintro ⟨h0, H⟩ j hj hjl
    by_cases e : j = i
    · subst e; exact h0
    · exact H j (by omega) hjl
open Classical in
theorem isPerm_l0 (l : List Int) (n : Int) (hn : n = l.length) (hb : l.length ≤ 1152921504606846976) : ∀ (d i : Nat), l.length - i = d → i ≤ l.length →
    Ev (fun k => impl_isPerm.l0 k l n l (l.length : Int) (i : Int)) (decide ((∀ x ∈ l.drop i, 0 ≤ x ∧ x ≤ n - 1) ∧ restOnce l i)) := by
  intro d
  induction d with
  | zero =>
    intro i hd hi'
    refine ⟨1, fun k hk => ?_⟩
    obtain ⟨k, rfl⟩ : ∃ m, k = m + 1 := ⟨k - 1, by omega⟩
    simp only [impl_isPerm.l0]
    rw [if_neg (by omega)]
    congr 1
    symm
    apply decide_eq_true
    rw [List.drop_eq_nil_of_le (by omega)]
    exact ⟨by simp, fun j hj h => by omega⟩
  | succ d ih =>
    intro i hd hi'
    have h1 : i < l.length := by omega
    obtain ⟨K1, h3⟩ := ev_get (ih (i + 1) (by omega) (by omega))
    obtain ⟨K2, h4⟩ := ev_get (Contains_ev (l.take i) l[i] (by simp; omega))
    refine ⟨K1 + K2 + 1, fun k hk => ?_⟩
    obtain ⟨k, rfl⟩ : ∃ m, k = m + 1 := ⟨k - 1, by omega⟩
    simp only [impl_isPerm.l0]
    rw [if_pos (by omega), if_pos (by omega), if_pos (by omega), within_eq, Option.bind_some, w64 (n - 1) (by omega) (by omega), w64 _ (by omega) (by omega), rd_nat _ _ h1, if_pos (show (i : Int) ≤ (l.length : Int) by omega), show (i : Int).toNat = i by omega, show ((i : Int) + 1) = ((i + 1 : Nat) : Int) by omega, h4 k (by omega), h3 k (by omega), Option.bind_some]
    have hs := restOnce_step l i h1
    rw [drop_cons l i h1]
    by_cases h : inB l[i] 0 (n - 1) = true
    · rw [if_pos h]
      have h' : 0 ≤ l[i] ∧ l[i] ≤ n - 1 := by simpa [inB] using h
      by_cases h2 : l[i] ∈ l.take i
      · simp only [h2, decide_true, if_true]
        congr 1
        symm; apply decide_eq_false
        rintro ⟨_, hr⟩
        exact (hs.1 hr).1 h2
      · simp only [h2, decide_false, if_false, Bool.false_eq_true]
        congr 1
        rw [decide_eq_decide]
        constructor
        · rintro ⟨ha, hr⟩
          refine ⟨?_, hs.2 ⟨h2, hr⟩⟩
          intro x hx
          rcases List.mem_cons.1 hx with rfl | hx
          · exact h'
          · exact ha x hx
        · rintro ⟨ha, hr⟩
          exact ⟨fun x hx => ha x (List.mem_cons_of_mem _ hx), (hs.1 hr).2⟩
    · rw [if_neg h]
      congr 1
      symm; apply decide_eq_false
      rintro ⟨ha, _⟩
      exact h (by simpa [inB] using ha _ (List.mem_cons_self ..))
theorem isPerm_ev (l : List Int) (n : Int) (hb : l.length ≤ 1152921504606846976) : Ev (fun k => impl_isPerm.f k l n) (permB l n) := by
  by_cases h : (l.length : Int) = n
  · obtain ⟨K, hK⟩ := ev_get (isPerm_l0 l n h.symm hb l.length 0 (by omega) (by omega))
    refine ⟨K, fun k hk => ?_⟩
    simp only [impl_isPerm.f]
    rw [if_pos h]
    refine (hK k hk).trans ?_
    congr 1
    unfold permB
    rw [decide_eq_decide, restOnce_iff, List.drop_zero]
    exact ⟨fun ⟨a, b⟩ => ⟨h, a, b⟩, fun ⟨_, a, b⟩ => ⟨a, b⟩⟩
  · refine ⟨0, fun k hk => ?_⟩
    simp only [impl_isPerm.f]
    rw [if_neg h]
    congr 1
    symm; apply decide_eq_false
    exact fun ⟨a, _⟩ => h a
end Go.Proofs.Ytnpacpdpgngdpaa.P
namespace Go.Proofs.Ytnpacpdpgngdpaa.P
open Go.RowKit Go.Proofs.YtnpacpdpgngdpaaW.PrintWords Go.Proofs.YtnpacpdpgngdpaaW.PrintLast Go.Proofs.YtnpacpdpgngdpaaW.PrintMore
set_option linter.unusedVariables false
set_option linter.unusedSimpArgs false
/-- A list that has each of 0..n-1 once, n its length, 1 to 8. -/
def goodB (q : List Int) : Bool := decide (1 ≤ q.length ∧ q.length ≤ 8) && permB q q.length
theorem goodB_iff (q : List Int) : goodB q = true ↔ 1 ≤ q.length ∧ q.length ≤ 8 ∧ (∀ x ∈ q, 0 ≤ x ∧ x ≤ (q.length : Int) - 1) ∧ q.Nodup := by
  unfold goodB permB
  simp only [Bool.and_eq_true, decide_eq_true_eq]
  constructor
  · rintro ⟨⟨a, b⟩, _, c, d⟩; exact ⟨a, b, c, d⟩
  · rintro ⟨a, b, c, d⟩; exact ⟨⟨a, b⟩, trivial, c, d⟩
theorem isMany_eq (n : Int) : impl_isMany.f n = some (inB n 1 8) := by
  simp only [impl_isMany.f, within_eq, Option.bind_some]
theorem isList_ev (q : List Int) (hb : q.length ≤ 1152921504606846976) : Ev (fun k => impl_isList.f k q) (goodB q) := by
  obtain ⟨K, hK⟩ := ev_get (isPerm_ev q q.length hb)
  refine ⟨K, fun k hk => ?_⟩
  simp only [impl_isList.f, isMany_eq, Option.bind_some, hK k hk]
  unfold goodB inB
  by_cases h : 1 ≤ (q.length : Int) ∧ (q.length : Int) ≤ 8
  · rw [if_pos (by simpa using h)]
    rw [show decide (1 ≤ q.length ∧ q.length ≤ 8) = true by simp; omega, Bool.true_and]
  · rw [if_neg (by simpa using h)]
    rw [show decide (1 ≤ q.length ∧ q.length ≤ 8) = false by apply decide_eq_false; omega, Bool.false_and]
open Classical in
theorem quGood_l0 (l : List Int) (hb : l.length ≤ 1152921504606846976) : ∀ (d i : Nat), l.length - i = d → i ≤ l.length →
    Ev (fun k => spec_quGood.l0 k l l (l.length : Int) (i : Int)) (decide (restOnce l i)) := by
  intro d
  induction d with
  | zero =>
    intro i hd hi'
    refine ⟨1, fun k hk => ?_⟩
    obtain ⟨k, rfl⟩ : ∃ m, k = m + 1 := ⟨k - 1, by omega⟩
    simp only [spec_quGood.l0]
    rw [if_neg (by omega)]
    congr 1
    symm
    apply decide_eq_true
    exact fun j hj h => by omega
  | succ d ih =>
    intro i hd hi'
    have h1 : i < l.length := by omega
    obtain ⟨K1, h3⟩ := ev_get (ih (i + 1) (by omega) (by omega))
    obtain ⟨K2, h4⟩ := ev_get (l1Has_ev (l.take i) l[i] (by simp; omega))
    refine ⟨K1 + K2 + 1, fun k hk => ?_⟩
    obtain ⟨k, rfl⟩ : ∃ m, k = m + 1 := ⟨k - 1, by omega⟩
    simp only [spec_quGood.l0]
    rw [if_pos (by omega), if_pos (by omega), if_pos (by omega), w64 _ (by omega) (by omega), rd_nat _ _ h1, if_pos (show (i : Int) ≤ (l.length : Int) by omega), show (i : Int).toNat = i by omega, show ((i : Int) + 1) = ((i + 1 : Nat) : Int) by omega]
    simp only [Option.bind_some, h4 k (by omega), h3 k (by omega)]
    have hs := restOnce_step l i h1
    by_cases h2 : l[i] ∈ l.take i
    · simp only [h2, decide_true, if_true]
      congr 1
      symm; apply decide_eq_false
      exact fun hr => (hs.1 hr).1 h2
    · simp only [h2, decide_false, if_false, Bool.false_eq_true]
      congr 1
      rw [decide_eq_decide]
      exact ⟨fun hr => hs.2 ⟨h2, hr⟩, fun hr => (hs.1 hr).2⟩
theorem quGood_ev (q : List Int) (hb : q.length ≤ 1152921504606846976) : Ev (fun k => spec_quGood.f k q) (goodB q) := by
  obtain ⟨K1, h1⟩ := ev_get (l1All_ev q 0 ((q.length : Int) - 1) hb)
  obtain ⟨K2, h2⟩ := ev_get (quGood_l0 q hb q.length 0 (by omega) (by omega))
  refine ⟨K1 + K2 + 1, fun k hk => ?_⟩
  simp only [spec_quGood.f, l1In_eq, Option.bind_some]
  rw [w64 _ (by omega) (by omega), h1 k (by omega), Option.bind_some]
  obtain ⟨k, rfl⟩ : ∃ m, k = m + 1 := ⟨k - 1, by omega⟩
  simp only [spec_quGood.j0]
  unfold goodB permB
  by_cases h : 1 ≤ q.length ∧ q.length ≤ 8
  · rw [if_pos (by unfold inB; simp; omega), show decide (1 ≤ q.length ∧ q.length ≤ 8) = true by simpa using h, Bool.true_and]
    by_cases ha : allIn q 0 ((q.length : Int) - 1) = true
    · rw [ha, if_neg (by simp)]
      refine (h2 k (by omega)).trans ?_
      congr 1
      rw [decide_eq_decide, restOnce_iff]
      refine ⟨fun hn => ⟨rfl, ?_, hn⟩, fun hn => hn.2.2⟩
      unfold allIn at ha
      rw [List.all_eq_true] at ha
      intro x hx
      simpa [inB] using ha x hx
    · simp only [Bool.not_eq_true] at ha
      rw [ha, if_pos (by rfl)]
      congr 1
      symm; apply decide_eq_false
      rintro ⟨_, hx, _⟩
      unfold allIn at ha
      rw [List.all_eq_false] at ha
      obtain ⟨x, hm, hn⟩ := ha
      exact hn (by simpa [inB] using hx x hm)
  · rw [if_neg (by unfold inB; simp; omega), if_pos trivial, show decide (1 ≤ q.length ∧ q.length ≤ 8) = false by simpa using h, Bool.false_and]
theorem good_len {q : List Int} (h : goodB q = true) : 1 ≤ q.length ∧ q.length ≤ 8 := ⟨((goodB_iff q).1 h).1, ((goodB_iff q).1 h).2.1⟩
theorem good_at {q : List Int} (h : goodB q = true) (i : Nat) (hi : i < q.length) : 0 ≤ q[i] ∧ q[i] < q.length := by
  have := ((goodB_iff q).1 h).2.2.1 q[i] (List.getElem_mem hi)
  omega
end Go.Proofs.Ytnpacpdpgngdpaa.P
namespace Go.Proofs.Ytnpacpdpgngdpaa.P
open Go.RowKit Go.Proofs.YtnpacpdpgngdpaaW.PrintWords Go.Proofs.YtnpacpdpgngdpaaW.PrintLast Go.Proofs.YtnpacpdpgngdpaaW.PrintMore
set_option linter.unusedVariables false
set_option linter.unusedSimpArgs false
def straightL (n step : Int) : List Int := (List.range n.toNat).map fun (r : Nat) => (step * (r : Int)) % n
theorem straightL_length (n step : Int) : (straightL n step).length = n.toNat := by simp [straightL]
theorem straightL_take (n step : Int) (i : Nat) (h : i < n.toNat) : (straightL n step).take (i + 1) = (straightL n step).take i ++ [(step * (i : Int)) % n] := by
  rw [List.take_add_one]
  simp [straightL, List.getElem?_eq_getElem, h]
def straightR (n step : Int) : List Int × Bool :=
  if inB n 1 8 = true ∧ (min 1 (n - 1) ≤ step ∧ step ≤ n - 1) ∧ permB (straightL n step) n = true then (straightL n step, true) else ([], false)
theorem good_perm (q : List Int) (n : Int) (hl : (q.length : Int) = n) (hn : 1 ≤ n) (hn2 : n ≤ 8) : goodB q = permB q n := by
  unfold goodB
  rw [hl, show decide (1 ≤ q.length ∧ q.length ≤ 8) = true by simp; omega, Bool.true_and]
theorem specStraight_l0 (n step : Int) (hn : 1 ≤ n) (hn2 : n ≤ 8) (hs : 0 ≤ step) (hs2 : step ≤ 7) (K : Nat) (hK : ∀ k, K ≤ k → spec_quGood.f k (straightL n step) = some (goodB (straightL n step))) :
    ∀ (d i : Nat) (k : Nat), n.toNat - i = d → i ≤ n.toNat → d + K < k →
    spec_StraightQueens.l0 k n step ((straightL n step).take i) (i : Int) = some (if permB (straightL n step) n = true then (straightL n step, true) else ([], false)) := by
  intro d
  induction d with
  | zero =>
    intro i k hd hi hk
    obtain ⟨k, rfl⟩ : ∃ m, k = m + 1 := ⟨k - 1, by omega⟩
    rw [spec_StraightQueens.l0, if_neg (by omega), List.take_of_length_le (by rw [straightL_length]; omega), hK k (by omega), Option.bind_some,
      good_perm _ n (by rw [straightL_length]; omega) hn hn2]
    split <;> rfl
  | succ d ih =>
    intro i k hd hi hk
    obtain ⟨k, rfl⟩ : ∃ m, k = m + 1 := ⟨k - 1, by omega⟩
    have hi1 : i < n.toNat := by omega
    have hm1 : 0 ≤ step * (i : Int) := Int.mul_nonneg hs (by omega)
    have hm2 : step * (i : Int) ≤ 7 * 8 := Int.mul_le_mul hs2 (by omega) (by omega) (by omega)
    rw [spec_StraightQueens.l0, if_pos (by omega), if_neg (by omega), if_pos (by rw [List.length_take]; omega), w64 (step * (i : Int)) (by omega) (by omega), Int.tmod_eq_emod_of_nonneg hm1, w64 _ (by omega) (by omega),
      show ((i : Int) + 1) = ((i + 1 : Nat) : Int) by omega, ← straightL_take n step i hi1, ih (i + 1) k (by omega) (by omega) (by omega)]
theorem quSide_eq (n : Int) : spec_quSide.f n = some (inB n 1 8) := by
  simp only [spec_quSide.f, l1In_eq, Option.bind_some]
theorem l1Least_eq (a b : Int) : spec_l1Least.f a b = some (min a b) := by
  unfold spec_l1Least.f
  split <;> (congr 1; omega)
theorem specStraight_ev (n step : Int) : Ev (fun k => spec_StraightQueens.f k n step) (straightR n step) := by
  by_cases h1 : inB n 1 8 = true
  · have hn : 1 ≤ n ∧ n ≤ 8 := by simpa [inB] using h1
    by_cases h2 : min 1 (n - 1) ≤ step ∧ step ≤ n - 1
    · obtain ⟨K, hK⟩ := ev_get (quGood_ev (straightL n step) (by rw [straightL_length]; omega))
      refine ⟨K + n.toNat + 3, fun k hk => ?_⟩
      simp only [spec_StraightQueens.f, quSide_eq, Option.bind_some, h1, if_true]
      rw [w64 _ (by omega) (by omega), l1Least_eq, Option.bind_some, l1In_eq, Option.bind_some, show inB step (min 1 (n - 1)) (n - 1) = true by simpa [inB] using h2]
      obtain ⟨k, rfl⟩ : ∃ m, k = m + 1 := ⟨k - 1, by omega⟩
      rw [spec_StraightQueens.j0, if_neg (by simp)]
      have := specStraight_l0 n step hn.1 hn.2 (by omega) (by omega) K hK n.toNat 0 k (by omega) (by omega) (by omega)
      refine this.trans ?_
      unfold straightR
      simp only [h1, h2, true_and, and_self]
    · refine ⟨3, fun k hk => ?_⟩
      simp only [spec_StraightQueens.f, quSide_eq, Option.bind_some, h1, if_true]
      rw [w64 _ (by omega) (by omega), l1Least_eq, Option.bind_some, l1In_eq, Option.bind_some, show inB step (min 1 (n - 1)) (n - 1) = false by simp only [inB]; exact decide_eq_false h2]
      obtain ⟨k, rfl⟩ : ∃ m, k = m + 1 := ⟨k - 1, by omega⟩
      rw [spec_StraightQueens.j0, if_pos (by simp)]
      unfold straightR
      rw [if_neg (fun h => h2 h.2.1)]
  · refine ⟨3, fun k hk => ?_⟩
    simp only [spec_StraightQueens.f, quSide_eq, Option.bind_some, h1]
    obtain ⟨k, rfl⟩ : ∃ m, k = m + 1 := ⟨k - 1, by omega⟩
    rw [if_neg (by simp), spec_StraightQueens.j0, if_pos rfl]
    unfold straightR
    rw [if_neg (fun h => h1 h.1)]
theorem implStraight_l0 (n step : Int) (hn : 1 ≤ n) (hn2 : n ≤ 8) (hs : 0 ≤ step) (hs2 : step ≤ 7) (K : Nat) (hK : ∀ k, K ≤ k → impl_isPerm.f k (straightL n step) n = some (permB (straightL n step) n)) :
    ∀ (d i : Nat) (k : Nat), n.toNat - i = d → i ≤ n.toNat → d + K < k →
    impl_StraightQueens.l0 k n step ((straightL n step).take i) n (i : Int) = some (if permB (straightL n step) n = true then (straightL n step, true) else ([], false)) := by
  intro d
  induction d with
  | zero =>
    intro i k hd hi hk
    obtain ⟨k, rfl⟩ : ∃ m, k = m + 1 := ⟨k - 1, by omega⟩
    rw [impl_StraightQueens.l0, if_neg (by omega), List.take_of_length_le (by rw [straightL_length]; omega), hK k (by omega), Option.bind_some]
    split <;> rfl
  | succ d ih =>
    intro i k hd hi hk
    obtain ⟨k, rfl⟩ : ∃ m, k = m + 1 := ⟨k - 1, by omega⟩
    have hi1 : i < n.toNat := by omega
    have hm1 : 0 ≤ step * (i : Int) := Int.mul_nonneg hs (by omega)
    have hm2 : step * (i : Int) ≤ 7 * 8 := Int.mul_le_mul hs2 (by omega) (by omega) (by omega)
    rw [impl_StraightQueens.l0, if_pos (by omega), if_neg (by omega), if_pos (by rw [List.length_take]; omega), w64 (step * (i : Int)) (by omega) (by omega), Int.tmod_eq_emod_of_nonneg hm1, w64 _ (by omega) (by omega),
      show ((i : Int) + 1) = ((i + 1 : Nat) : Int) by omega, ← straightL_take n step i hi1, ih (i + 1) k (by omega) (by omega) (by omega)]
theorem mn_eq (a b : Int) : mn a b = min a b := by unfold mn; omega
theorem implStraight_ev (n step : Int) : Ev (fun k => impl_StraightQueens.f k n step) (straightR n step) := by
  by_cases h1 : inB n 1 8 = true
  · have hn : 1 ≤ n ∧ n ≤ 8 := by simpa [inB] using h1
    by_cases h2 : min 1 (n - 1) ≤ step ∧ step ≤ n - 1
    · obtain ⟨K, hK⟩ := ev_get (isPerm_ev (straightL n step) n (by rw [straightL_length]; omega))
      refine ⟨K + n.toNat + 3, fun k hk => ?_⟩
      simp only [impl_StraightQueens.f, isMany_eq, Option.bind_some, h1, if_true]
      rw [w64 _ (by omega) (by omega), mn_eq, within_eq, Option.bind_some, show inB step (min 1 (n - 1)) (n - 1) = true by simpa [inB] using h2]
      obtain ⟨k, rfl⟩ : ∃ m, k = m + 1 := ⟨k - 1, by omega⟩
      rw [impl_StraightQueens.j0, if_neg (by simp)]
      have := implStraight_l0 n step hn.1 hn.2 (by omega) (by omega) K hK n.toNat 0 k (by omega) (by omega) (by omega)
      refine this.trans ?_
      unfold straightR
      simp only [h1, h2, true_and, and_self]
    · refine ⟨3, fun k hk => ?_⟩
      simp only [impl_StraightQueens.f, isMany_eq, Option.bind_some, h1, if_true]
      rw [w64 _ (by omega) (by omega), mn_eq, within_eq, Option.bind_some, show inB step (min 1 (n - 1)) (n - 1) = false by simp only [inB]; exact decide_eq_false h2]
      obtain ⟨k, rfl⟩ : ∃ m, k = m + 1 := ⟨k - 1, by omega⟩
      rw [impl_StraightQueens.j0, if_pos (by simp)]
      unfold straightR
      rw [if_neg (fun h => h2 h.2.1)]
  · refine ⟨3, fun k hk => ?_⟩
    simp only [impl_StraightQueens.f, isMany_eq, Option.bind_some, h1]
    obtain ⟨k, rfl⟩ : ∃ m, k = m + 1 := ⟨k - 1, by omega⟩
    rw [if_neg (by simp), impl_StraightQueens.j0, if_pos rfl]
    unfold straightR
    rw [if_neg (fun h => h1 h.1)]
theorem straightR_len (n step : Int) : (straightR n step).1.length ≤ 8 := by
  unfold straightR
  split
  · rename_i h; have : 1 ≤ n ∧ n ≤ 8 := by simpa [inB] using h.1
    rw [straightL_length]; omega
  · simp
/-- Rows r and s attack each other. -/
def att (q : List Int) (r s : Nat) : Bool := decide ((q.getD r 0 - q.getD s 0).natAbs = ((s : Int) - (r : Int)).natAbs)
theorem range'_step (s n : Nat) (h : s < n) : List.range' s (n - s) = s :: List.range' (s + 1) (n - (s + 1)) := by
  rw [show n - s = (n - (s + 1)) + 1 by omega, List.range'_succ]
theorem l1Abs_eq (n : Int) (h : -1000 ≤ n) (h2 : n ≤ 1000) : spec_l1Abs.f n = some (n.natAbs : Int) := by
  unfold spec_l1Abs.f spec_l1Most.f
  rw [w64 _ (by omega) (by omega)]
  split
  · simp only [Option.bind_some]; congr 1; omega
  · simp only [Option.bind_some]; congr 1; omega
/-- At most 8 numbers, each in 0..7. -/
def Small (q : List Int) : Prop := q.length ≤ 8 ∧ ∀ i, ∀ h : i < q.length, 0 ≤ q[i] ∧ q[i] < 8
theorem good_small {q : List Int} (hg : goodB q = true) : Small q := ⟨(good_len hg).2, fun i h => by have := good_at hg i h; have := good_len hg; omega⟩
theorem attacked_eq (q : List Int) (hg : Small q) (r s : Nat) (hr : r < q.length) (hs : s < q.length) : impl_attacked.f (r : Int) q[r] (s : Int) q[s] = some (att q r s) := by
  have hl := hg.1
  have h1 := hg.2 r hr
  have h2 := hg.2 s hs
  unfold impl_attacked.f att mx
  rw [w64 _ (by omega) (by omega), w64 _ (by omega) (by omega), w64 _ (by omega) (by omega), w64 _ (by omega) (by omega)]
  congr 1
  simp only [List.getD_eq_getElem?_getD, List.getElem?_eq_getElem hr, List.getElem?_eq_getElem hs, Option.getD_some]
  rw [Bool.eq_iff_iff, beq_iff_eq, decide_eq_true_iff]
  split <;> split <;> omega
/-- No two rows attack each other. -/
def freeB (q : List Int) : Bool := decide (∀ s, s < q.length → ∀ r, r < s → att q r s = false)
def rowFree (q : List Int) (r s : Nat) : Prop := ∀ r', r ≤ r' → r' < s → att q r' s = false
def freeFrom (q : List Int) (s : Nat) : Prop := ∀ s', s ≤ s' → s' < q.length → rowFree q 0 s'
theorem rowFree_step (q : List Int) (r s : Nat) (h : r < s) : rowFree q r s ↔ att q r s = false ∧ rowFree q (r + 1) s := by
  constructor
  · intro H
    exact ⟨H r (by omega) h, fun r' h1 h2 => H r' (by omega) h2⟩
  · rintro ⟨h0, H⟩ r' h1 h2
    by_cases e : r' = r
    · subst e; exact h0
    · exact H r' (by omega) h2
theorem freeFrom_step (q : List Int) (s : Nat) (h : s < q.length) : freeFrom q s ↔ rowFree q 0 s ∧ freeFrom q (s + 1) := by
  constructor
  · intro H
    exact ⟨H s (by omega) h, fun s' h1 h2 => H s' (by omega) h2⟩
  · rintro ⟨h0, H⟩ s' h1 h2
    by_cases e : s' = s
    · subst e; exact h0
    · exact H s' (by omega) h2
theorem freeB_eq (q : List Int) : freeB q = true ↔ freeFrom q 0 := by
  unfold freeB
  rw [decide_eq_true_iff]
  exact ⟨fun h s _ hs r _ hr => h s hs r hr, fun h s hs r hr => h s (by omega) hs r (by omega) hr⟩
open Classical in
theorem areQueens_inner (q : List Int) (hg : Small q) (s : Nat) (hs : s < q.length)
    (hout : Ev (fun k => impl_areQueens.l0 k q q (q.length : Int) ((s + 1 : Nat) : Int)) (decide (freeFrom q (s + 1)))) :
    ∀ (d r : Nat), s - r = d → r ≤ s →
    Ev (fun k => impl_areQueens.l1 k q (s : Int) q[s] q (q.length : Int) (s : Int) (q.take s) ((q.take s).length : Int) (r : Int)) (decide (rowFree q r s ∧ freeFrom q (s + 1))) := by
  have hl := hg.1
  have ht : (q.take s).length = s := by rw [List.length_take]; omega
  intro d
  induction d with
  | zero =>
    intro r hd hr
    obtain ⟨K, hK⟩ := ev_get hout
    refine ⟨K + 1, fun k hk => ?_⟩
    obtain ⟨k, rfl⟩ : ∃ m, k = m + 1 := ⟨k - 1, by omega⟩
    simp only [impl_areQueens.l1]
    rw [ht, if_neg (by omega), w64 _ (by omega) (by omega), show ((s : Int) + 1) = ((s + 1 : Nat) : Int) by omega, hK k (by omega)]
    congr 1
    rw [decide_eq_decide]
    exact ⟨fun h => ⟨fun r' h1 h2 => by omega, h⟩, fun h => h.2⟩
  | succ d ih =>
    intro r hd hr
    have hr1 : r < s := by omega
    obtain ⟨K, hK⟩ := ev_get (ih (r + 1) (by omega) (by omega))
    refine ⟨K + 1, fun k hk => ?_⟩
    obtain ⟨k, rfl⟩ : ∃ m, k = m + 1 := ⟨k - 1, by omega⟩
    have hK := hK k (by omega)
    simp only [impl_areQueens.l1]
    rw [ht] at hK ⊢
    rw [if_pos (by omega), if_pos (by omega), if_pos (by omega), rd_nat _ _ (show r < (q.take s).length by omega), List.getElem_take, attacked_eq q hg r s (by omega) hs, Option.bind_some, w64 _ (by omega) (by omega), show ((r : Int) + 1) = ((r + 1 : Nat) : Int) by omega, hK]
    have hst := rowFree_step q r s hr1
    by_cases ha : att q r s = true
    · rw [if_pos ha]
      congr 1
      symm; apply decide_eq_false
      rintro ⟨h1, _⟩
      rw [(hst.1 h1).1] at ha; cases ha
    · rw [if_neg ha]
      congr 1
      rw [decide_eq_decide]
      exact ⟨fun h => ⟨hst.2 ⟨by simpa using ha, h.1⟩, h.2⟩, fun h => ⟨(hst.1 h.1).2, h.2⟩⟩
open Classical in
theorem areQueens_outer (q : List Int) (hg : Small q) : ∀ (d s : Nat), q.length - s = d → s ≤ q.length →
    Ev (fun k => impl_areQueens.l0 k q q (q.length : Int) (s : Int)) (decide (freeFrom q s)) := by
  have hl := hg.1
  intro d
  induction d with
  | zero =>
    intro s hd hs
    refine ⟨1, fun k hk => ?_⟩
    obtain ⟨k, rfl⟩ : ∃ m, k = m + 1 := ⟨k - 1, by omega⟩
    simp only [impl_areQueens.l0]
    rw [if_neg (by omega)]
    congr 1
    symm; apply decide_eq_true
    intro s' h1 h2; omega
  | succ d ih =>
    intro s hd hs
    have hs1 : s < q.length := by omega
    obtain ⟨K, hK⟩ := ev_get (areQueens_inner q hg s hs1 (ih (s + 1) (by omega) (by omega)) s 0 (by omega) (by omega))
    refine ⟨K + 1, fun k hk => ?_⟩
    obtain ⟨k, rfl⟩ : ∃ m, k = m + 1 := ⟨k - 1, by omega⟩
    simp only [impl_areQueens.l0]
    rw [if_pos (by omega), if_pos (by omega), if_pos (by omega), if_pos (by omega), Option.bind_some, rd_nat _ _ hs1, show (s : Int).toNat = s by omega]
    refine (hK k (by omega)).trans ?_
    congr 1
    rw [decide_eq_decide]
    exact (freeFrom_step q s hs1).symm
theorem areQueens_ev (q : List Int) (hg : Small q) : Ev (fun k => impl_areQueens.f k q) (freeB q) := by
  classical
  obtain ⟨K, hK⟩ := ev_get (areQueens_outer q hg q.length 0 (by omega) (by omega))
  refine ⟨K, fun k hk => ?_⟩
  simp only [impl_areQueens.f]
  refine (hK k hk).trans ?_
  congr 1
  rw [Bool.eq_iff_iff, decide_eq_true_iff, freeB_eq]
end Go.Proofs.Ytnpacpdpgngdpaa.P
namespace Go.Proofs.Ytnpacpdpgngdpaa.P
open Go.RowKit Go.Proofs.YtnpacpdpgngdpaaW.PrintWords Go.Proofs.YtnpacpdpgngdpaaW.PrintLast Go.Proofs.YtnpacpdpgngdpaaW.PrintMore
set_option linter.unusedVariables false
set_option linter.unusedSimpArgs false
/-- Rows r and s attack each other on a torus of n rows. -/
def tor (n : Int) (q : List Int) (r s : Nat) : Bool := decide (n ∣ ((s : Int) - r) + (q.getD s 0 - q.getD r 0) ∨ n ∣ ((s : Int) - r) - (q.getD s 0 - q.getD r 0))
def rowTor (n : Int) (q : List Int) (r s0 : Nat) : Prop := ∀ s, s0 ≤ s → s < q.length → tor n q r s = false
def colTor (n : Int) (q : List Int) (r0 s : Nat) : Prop := ∀ r, r0 ≤ r → r < s → tor n q r s = false
def torFrom (n : Int) (q : List Int) (r0 : Nat) : Prop := ∀ r, r0 ≤ r → rowTor n q r (r + 1)
def torTo (n : Int) (q : List Int) (s0 : Nat) : Prop := ∀ s, s0 ≤ s → s < q.length → colTor n q 0 s
theorem torFrom_torTo (n : Int) (q : List Int) : torFrom n q 0 ↔ torTo n q 0 := by
  constructor
  · intro h s _ hs r _ hr
    exact h r (by omega) s (by omega) hs
  · intro h r _ s hs hl
    exact h s (by omega) hl r (by omega) (by omega)
open Classical in
noncomputable def torB (q : List Int) : Bool := decide (torFrom q.length q 0)
theorem rowTor_step (n : Int) (q : List Int) (r s : Nat) (h : s < q.length) : rowTor n q r s ↔ tor n q r s = false ∧ rowTor n q r (s + 1) := by
  constructor
  · intro H
    exact ⟨H s (by omega) h, fun s' h1 h2 => H s' (by omega) h2⟩
  · rintro ⟨h0, H⟩ s' h1 h2
    by_cases e : s' = s
    · subst e; exact h0
    · exact H s' (by omega) h2
theorem colTor_step (n : Int) (q : List Int) (r s : Nat) (h : r < s) : colTor n q r s ↔ tor n q r s = false ∧ colTor n q (r + 1) s := by
  constructor
  · intro H
    exact ⟨H r (by omega) h, fun r' h1 h2 => H r' (by omega) h2⟩
  · rintro ⟨h0, H⟩ r' h1 h2
    by_cases e : r' = r
    · subst e; exact h0
    · exact H r' (by omega) h2
theorem torFrom_step (n : Int) (q : List Int) (r : Nat) : torFrom n q r ↔ rowTor n q r (r + 1) ∧ torFrom n q (r + 1) := by
  constructor
  · intro H
    exact ⟨H r (by omega), fun r' h1 => H r' (by omega)⟩
  · rintro ⟨h0, H⟩ r' h1
    by_cases e : r' = r
    · subst e; exact h0
    · exact H r' (by omega)
theorem torTo_step (n : Int) (q : List Int) (s : Nat) (h : s < q.length) : torTo n q s ↔ colTor n q 0 s ∧ torTo n q (s + 1) := by
  constructor
  · intro H
    exact ⟨H s (by omega) h, fun s' h1 h2 => H s' (by omega) h2⟩
  · rintro ⟨h0, H⟩ s' h1 h2
    by_cases e : s' = s
    · subst e; exact h0
    · exact H s' (by omega) h2
theorem tmod_dvd (a n : Int) : Int.tmod a n = 0 ↔ n ∣ a := (Int.dvd_iff_tmod_eq_zero).symm
theorem getD_eq (q : List Int) (i : Nat) (h : i < q.length) : q.getD i 0 = q[i] := by simp [List.getD_eq_getElem?_getD, List.getElem?_eq_getElem h]
open Classical in
theorem quTorus_inner (q : List Int) (hg : Small q) (r : Nat) (hr : r < q.length)
    (hout : Ev (fun k => spec_quTorus.l0 k q (q.length : Int) q (q.length : Int) ((r + 1 : Nat) : Int)) (decide (torFrom q.length q (r + 1)))) :
    ∀ (d s : Nat), q.length - s = d → r < s → s ≤ q.length →
    Ev (fun k => spec_quTorus.l1 k q (q.length : Int) (r : Int) q[r] (s : Int) q (q.length : Int) (r : Int)) (decide (rowTor q.length q r s ∧ torFrom q.length q (r + 1))) := by
  have hl := hg.1
  have hq := hg.2 r hr
  intro d
  induction d with
  | zero =>
    intro s hd hrs hs
    obtain ⟨K, hK⟩ := ev_get hout
    refine ⟨K + 1, fun k hk => ?_⟩
    obtain ⟨k, rfl⟩ : ∃ m, k = m + 1 := ⟨k - 1, by omega⟩
    simp only [spec_quTorus.l1]
    rw [if_neg (by omega), w64 _ (by omega) (by omega), show ((r : Int) + 1) = ((r + 1 : Nat) : Int) by omega, hK k (by omega)]
    congr 1
    rw [decide_eq_decide]
    exact ⟨fun h => ⟨fun s' h1 h2 => by omega, h⟩, fun h => h.2⟩
  | succ d ih =>
    intro s hd hrs hs
    have hs1 : s < q.length := by omega
    have hq2 := hg.2 s hs1
    obtain ⟨K, hK⟩ := ev_get (ih (s + 1) (by omega) (by omega) (by omega))
    refine ⟨K + 1, fun k hk => ?_⟩
    obtain ⟨k, rfl⟩ : ∃ m, k = m + 1 := ⟨k - 1, by omega⟩
    have hK := hK k (by omega)
    simp only [spec_quTorus.l1]
    rw [if_pos (by omega), if_pos (by omega), if_pos (by omega), if_neg (by omega), rd_nat _ _ hs1, w64 ((s : Int) - r) (by omega) (by omega), w64 ((s : Int) - r + q[s]) (by omega) (by omega), w64 ((s : Int) - r + q[s] - q[r]) (by omega) (by omega), w64 ((s : Int) - r - q[s]) (by omega) (by omega), w64 ((s : Int) - r - q[s] + q[r]) (by omega) (by omega), w64 ((s : Int) + 1) (by omega) (by omega), show ((s : Int) + 1) = ((s + 1 : Nat) : Int) by omega, hK]
    have hst := rowTor_step q.length q r s hs1
    have ht : (tor q.length q r s = true) ↔ ((q.length : Int) ∣ (s : Int) - r + q[s] - q[r] ∨ (q.length : Int) ∣ (s : Int) - r - q[s] + q[r]) := by
      unfold tor
      rw [decide_eq_true_iff, getD_eq q r hr, getD_eq q s hs1, show ((s : Int) - r) + (q[s] - q[r]) = (s : Int) - r + q[s] - q[r] by omega, show ((s : Int) - r) - (q[s] - q[r]) = (s : Int) - r - q[s] + q[r] by omega]
    by_cases h1 : Int.tmod ((s : Int) - r + q[s] - q[r]) q.length = 0
    · rw [if_pos h1]
      congr 1
      symm; apply decide_eq_false
      rintro ⟨h2, _⟩
      have := (hst.1 h2).1
      rw [ht.2 (.inl ((tmod_dvd _ _).1 h1))] at this; cases this
    · rw [if_neg h1]
      by_cases h2 : Int.tmod ((s : Int) - r - q[s] + q[r]) q.length = 0
      · rw [if_pos h2]
        congr 1
        symm; apply decide_eq_false
        rintro ⟨h3, _⟩
        have := (hst.1 h3).1
        rw [ht.2 (.inr ((tmod_dvd _ _).1 h2))] at this; cases this
      · rw [if_neg h2]
        congr 1
        rw [decide_eq_decide]
        have hf : tor q.length q r s = false := by
          rw [Bool.eq_false_iff]
          intro h; rcases ht.1 h with h | h
          · exact h1 ((tmod_dvd _ _).2 h)
          · exact h2 ((tmod_dvd _ _).2 h)
        exact ⟨fun h => ⟨hst.2 ⟨hf, h.1⟩, h.2⟩, fun h => ⟨(hst.1 h.1).2, h.2⟩⟩
open Classical in
theorem quTorus_outer (q : List Int) (hg : Small q) : ∀ (d r : Nat), q.length - r = d → r ≤ q.length →
    Ev (fun k => spec_quTorus.l0 k q (q.length : Int) q (q.length : Int) (r : Int)) (decide (torFrom q.length q r)) := by
  have hl := hg.1
  intro d
  induction d with
  | zero =>
    intro r hd hr
    refine ⟨1, fun k hk => ?_⟩
    obtain ⟨k, rfl⟩ : ∃ m, k = m + 1 := ⟨k - 1, by omega⟩
    simp only [spec_quTorus.l0]
    rw [if_neg (by omega)]
    congr 1
    symm; apply decide_eq_true
    intro r' h1 s h2 h3; omega
  | succ d ih =>
    intro r hd hr
    have hr1 : r < q.length := by omega
    obtain ⟨K, hK⟩ := ev_get (quTorus_inner q hg r hr1 (ih (r + 1) (by omega) (by omega)) (q.length - (r + 1)) (r + 1) (by omega) (by omega) (by omega))
    refine ⟨K + 1, fun k hk => ?_⟩
    obtain ⟨k, rfl⟩ : ∃ m, k = m + 1 := ⟨k - 1, by omega⟩
    simp only [spec_quTorus.l0]
    rw [if_pos (by omega), if_pos (by omega), if_pos (by omega), rd_nat _ _ hr1, w64 _ (by omega) (by omega), show ((r : Int) + 1) = ((r + 1 : Nat) : Int) by omega, hK k (by omega)]
    congr 1
    rw [decide_eq_decide]
    exact (torFrom_step _ q r).symm
theorem quTorus_ev (q : List Int) (hg : Small q) : Ev (fun k => spec_quTorus.f k q) (torB q) := by
  obtain ⟨K, hK⟩ := ev_get (quTorus_outer q hg q.length 0 (by omega) (by omega))
  exact ⟨K, fun k hk => hK k hk⟩
open Classical in
theorem onTorus_inner (q : List Int) (hg : Small q) (s : Nat) (hs : s < q.length)
    (hout : Ev (fun k => impl_onTorus_1.l0 k q (q.length : Int) q (q.length : Int) ((s + 1 : Nat) : Int)) (decide (torTo q.length q (s + 1)))) :
    ∀ (d r : Nat), s - r = d → r ≤ s →
    Ev (fun k => impl_onTorus_1.l1 k q (q.length : Int) (s : Int) q[s] q (q.length : Int) (s : Int) (q.take s) ((q.take s).length : Int) (r : Int)) (decide (colTor q.length q r s ∧ torTo q.length q (s + 1))) := by
  have hl := hg.1
  have hq2 := hg.2 s hs
  have ht : (q.take s).length = s := by rw [List.length_take]; omega
  intro d
  induction d with
  | zero =>
    intro r hd hr
    obtain ⟨K, hK⟩ := ev_get hout
    refine ⟨K + 1, fun k hk => ?_⟩
    obtain ⟨k, rfl⟩ : ∃ m, k = m + 1 := ⟨k - 1, by omega⟩
    simp only [impl_onTorus_1.l1]
    rw [ht, if_neg (by omega), w64 _ (by omega) (by omega), show ((s : Int) + 1) = ((s + 1 : Nat) : Int) by omega, hK k (by omega)]
    congr 1
    rw [decide_eq_decide]
    exact ⟨fun h => ⟨fun r' h1 h2 => by omega, h⟩, fun h => h.2⟩
  | succ d ih =>
    intro r hd hr
    have hr1 : r < s := by omega
    have hq := hg.2 r (by omega)
    obtain ⟨K, hK⟩ := ev_get (ih (r + 1) (by omega) (by omega))
    refine ⟨K + 1, fun k hk => ?_⟩
    obtain ⟨k, rfl⟩ : ∃ m, k = m + 1 := ⟨k - 1, by omega⟩
    have hK := hK k (by omega)
    simp only [impl_onTorus_1.l1]
    rw [ht] at hK ⊢
    rw [if_pos (by omega), if_pos (by omega), if_pos (by omega), if_neg (by omega), rd_nat _ _ (show r < (q.take s).length by omega), List.getElem_take, w64 ((r : Int) + q[r]) (by omega) (by omega), w64 ((r : Int) + q[r] - s) (by omega) (by omega), w64 ((r : Int) + q[r] - s - q[s]) (by omega) (by omega), w64 ((r : Int) - q[r]) (by omega) (by omega), w64 ((r : Int) - q[r] - s) (by omega) (by omega), w64 ((r : Int) - q[r] - s + q[s]) (by omega) (by omega), w64 ((r : Int) + 1) (by omega) (by omega), show ((r : Int) + 1) = ((r + 1 : Nat) : Int) by omega, hK]
    have hst := colTor_step q.length q r s hr1
    have ht : (tor q.length q r s = true) ↔ ((q.length : Int) ∣ (r : Int) + q[r] - s - q[s] ∨ (q.length : Int) ∣ (r : Int) - q[r] - s + q[s]) := by
      unfold tor
      rw [decide_eq_true_iff, getD_eq q r (by omega), getD_eq q s hs, ← Int.dvd_neg (b := (r : Int) + q[r] - s - q[s]), ← Int.dvd_neg (b := (r : Int) - q[r] - s + q[s]),
        show -((r : Int) + q[r] - s - q[s]) = ((s : Int) - r) + (q[s] - q[r]) by omega, show -((r : Int) - q[r] - s + q[s]) = ((s : Int) - r) - (q[s] - q[r]) by omega]
    by_cases h1 : Int.tmod ((r : Int) + q[r] - s - q[s]) q.length = 0
    · rw [if_pos h1]
      congr 1
      symm; apply decide_eq_false
      rintro ⟨h2, _⟩
      have := (hst.1 h2).1
      rw [ht.2 (.inl ((tmod_dvd _ _).1 h1))] at this; cases this
    · rw [if_neg h1]
      by_cases h2 : Int.tmod ((r : Int) - q[r] - s + q[s]) q.length = 0
      · rw [if_pos h2]
        congr 1
        symm; apply decide_eq_false
        rintro ⟨h3, _⟩
        have := (hst.1 h3).1
        rw [ht.2 (.inr ((tmod_dvd _ _).1 h2))] at this; cases this
      · rw [if_neg h2]
        congr 1
        rw [decide_eq_decide]
        have hf : tor q.length q r s = false := by
          rw [Bool.eq_false_iff]
          intro h; rcases ht.1 h with h | h
          · exact h1 ((tmod_dvd _ _).2 h)
          · exact h2 ((tmod_dvd _ _).2 h)
        exact ⟨fun h => ⟨hst.2 ⟨hf, h.1⟩, h.2⟩, fun h => ⟨(hst.1 h.1).2, h.2⟩⟩
open Classical in
theorem onTorus_outer (q : List Int) (hg : Small q) : ∀ (d s : Nat), q.length - s = d → s ≤ q.length →
    Ev (fun k => impl_onTorus_1.l0 k q (q.length : Int) q (q.length : Int) (s : Int)) (decide (torTo q.length q s)) := by
  have hl := hg.1
  intro d
  induction d with
  | zero =>
    intro s hd hs
    refine ⟨1, fun k hk => ?_⟩
    obtain ⟨k, rfl⟩ : ∃ m, k = m + 1 := ⟨k - 1, by omega⟩
    simp only [impl_onTorus_1.l0]
    rw [if_neg (by omega)]
    congr 1
    symm; apply decide_eq_true
    intro s' h1 h2; omega
  | succ d ih =>
    intro s hd hs
    have hs1 : s < q.length := by omega
    obtain ⟨K, hK⟩ := ev_get (onTorus_inner q hg s hs1 (ih (s + 1) (by omega) (by omega)) s 0 (by omega) (by omega))
    refine ⟨K + 1, fun k hk => ?_⟩
    obtain ⟨k, rfl⟩ : ∃ m, k = m + 1 := ⟨k - 1, by omega⟩
    simp only [impl_onTorus_1.l0]
    rw [if_pos (by omega), if_pos (by omega), if_pos (by omega), if_pos (by omega), Option.bind_some, rd_nat _ _ hs1, show (s : Int).toNat = s by omega]
    refine (hK k (by omega)).trans ?_
    congr 1
    rw [decide_eq_decide]
    exact (torTo_step _ q s hs1).symm
theorem onTorus_ev (q : List Int) (hg : Small q) : Ev (fun k => impl_onTorus_1.f k q (q.length : Int)) (torB q) := by
  obtain ⟨K, hK⟩ := ev_get (onTorus_outer q hg q.length 0 (by omega) (by omega))
  refine ⟨K, fun k hk => ?_⟩
  simp only [impl_onTorus_1.f]
  refine (hK k hk).trans ?_
  congr 1
  unfold torB
  exact decide_eq_decide.2 (torFrom_torTo _ q).symm
end Go.Proofs.Ytnpacpdpgngdpaa.P
namespace Go.Proofs.Ytnpacpdpgngdpaa.P
open Go.RowKit Go.Proofs.YtnpacpdpgngdpaaW.PrintWords Go.Proofs.YtnpacpdpgngdpaaW.PrintLast Go.Proofs.YtnpacpdpgngdpaaW.PrintMore
set_option linter.unusedVariables false
set_option linter.unusedSimpArgs false
/-- All lists of N numbers that go on a list, d numbers being missing, in order. -/
def P (N : Nat) : Nat → List Int → List (List Int)
  | 0, q => [q]
  | d + 1, q => (List.range' 0 (N - 0)).flatMap fun (c : Nat) => if (c : Int) ∈ q then [] else P N d (q ++ [(c : Int)])
def PF (N d : Nat) (q : List Int) (i : Nat) : List (List Int) := (List.range' i (N - i)).flatMap fun (c : Nat) => if (c : Int) ∈ q then [] else P N d (q ++ [(c : Int)])
theorem P_succ (N d : Nat) (q : List Int) : P N (d + 1) q = PF N d q 0 := rfl
theorem PF_step (N d : Nat) (q : List Int) (i : Nat) (h : i < N) : PF N d q i = (if (i : Int) ∈ q then [] else P N d (q ++ [(i : Int)])) ++ PF N d q (i + 1) := by
  unfold PF
  rw [range'_step i N h, List.flatMap_cons]
theorem PF_nil (N d : Nat) (q : List Int) (i : Nat) (h : N ≤ i) : PF N d q i = [] := by
  unfold PF
  rw [show N - i = 0 by omega]; rfl
def OkQ (N : Nat) (q : List Int) : Prop := q.length ≤ N ∧ ∀ x ∈ q, 0 ≤ x ∧ x < (N : Int)
theorem okq_nil (N : Nat) : OkQ N [] := ⟨by simp, by simp⟩
theorem okq_snoc {N : Nat} {q : List Int} (h : OkQ N q) (hl : q.length < N) {i : Nat} (hi : i < N) : OkQ N (q ++ [(i : Int)]) := by
  refine ⟨by simp; omega, fun x hx => ?_⟩
  rcases List.mem_append.1 hx with hx | hx
  · exact h.2 x hx
  · rw [List.mem_singleton.1 hx]; omega
theorem okq_small {N : Nat} (hN : N ≤ 8) {q : List Int} (h : OkQ N q) : Small q :=
  ⟨by have := h.1; omega, fun i hi => by have := h.2 q[i] (List.getElem_mem hi); omega⟩
theorem P_mem (N : Nat) : ∀ (d : Nat) (q : List Int), OkQ N q → q.length + d = N → ∀ x ∈ P N d q, OkQ N x ∧ x.length = N ∧ ∃ t, x = q ++ t
  | 0, q, h, hl, x, hx => by
    rw [P, List.mem_singleton] at hx
    subst hx
    exact ⟨h, hl, [], by simp⟩
  | d + 1, q, h, hl, x, hx => by
    rw [P, List.mem_flatMap] at hx
    obtain ⟨c, hc, hx⟩ := hx
    rw [List.mem_range'_1] at hc
    split at hx
    · cases hx
    · obtain ⟨h1, h2, t, h3⟩ := P_mem N d _ (okq_snoc h (by omega) (i := c) (by omega)) (by simp; omega) x hx
      exact ⟨h1, h2, (c : Int) :: t, by rw [h3]; simp⟩
theorem PF_len (N d : Nat) (q : List Int) (b : Nat) (hb : ∀ c, c < N → (P N d (q ++ [(c : Int)])).length ≤ b) : ∀ (e i : Nat), N - i = e → (PF N d q i).length ≤ e * b
  | 0, i, he => by rw [PF_nil N d q i (by omega)]; simp
  | e + 1, i, he => by
    rw [PF_step N d q i (by omega), List.length_append, Nat.succ_mul]
    have h1 := PF_len N d q b hb e (i + 1) (by omega)
    have h2 := hb i (by omega)
    split <;> simp <;> omega
theorem P_len (N : Nat) : ∀ (d : Nat) (q : List Int), (P N d q).length ≤ N ^ d
  | 0, q => by simp [P]
  | d + 1, q => by
    rw [P_succ]
    have := PF_len N d q (N ^ d) (fun c _ => P_len N d _) N 0 (by omega)
    rw [Nat.pow_succ, Nat.mul_comm]; exact this
theorem pow_bound {N d : Nat} (hN : N ≤ 8) (hd : d ≤ N) : N ^ d ≤ 16777216 :=
  Nat.le_trans (Nat.pow_le_pow_left hN d) (Nat.le_trans (Nat.pow_le_pow_right (by decide) (show d ≤ 8 by omega)) (by decide))
def Her (G : List Int → Bool) : Prop := ∀ q c, G (q ++ [c]) = true → G q = true
theorem her_pre {G : List Int → Bool} (h : Her G) : ∀ (t q : List Int), G (q ++ t) = true → G q = true
  | [], q, hq => by simpa using hq
  | c :: t, q, hq => h q c (her_pre h t (q ++ [c]) (by simpa using hq))
theorem P_none {N d : Nat} {q : List Int} {G : List Int → Bool} (h : Her G) (ho : OkQ N q) (hl : q.length + d = N) (hq : G q = false) : (P N d q).filter G = [] := by
  rw [List.filter_eq_nil_iff]
  intro x hx hg
  obtain ⟨_, _, t, rfl⟩ := P_mem N d q ho hl x hx
  rw [her_pre h t q hg] at hq
  cases hq
theorem own7 (l : List Int) (h : l.length < 17592186044416) : spec_l1Own.f l = some l := by
  unfold spec_l1Own.f; simp [h]
theorem clone7 (l : List Int) (h : l.length < 17592186044416) : slices_Clone_int_int.f l = some l := if_pos h
theorem grown_ev (N : Nat) (hN : N ≤ 8) (good : List Int → Option Bool) (G : List Int → Bool) (hgood : ∀ q, OkQ N q → good q = some (G q)) (hher : Her G) :
    ∀ (d : Nat) (q : List Int) (out : List (List Int)), OkQ N q → q.length + d = N → out.length + (P N d q).length ≤ 16777216 →
    Ev (fun k => impl_grown_1.f k good (N : Int) q out) (out ++ (P N d q).filter G) := by
  intro d
  induction d with
  | zero =>
    intro q out ho hl hb
    refine ⟨1, fun k hk => ?_⟩
    obtain ⟨k, rfl⟩ : ∃ m, k = m + 1 := ⟨k - 1, by omega⟩
    have hq8 := ho.1
    simp only [impl_grown_1.f, hgood q ho, Option.bind_some, P, List.length_singleton] at hb ⊢
    cases hG : G q with
    | false => simp [hG]
    | true => rw [if_pos rfl, if_pos (by omega), clone7 q (by omega), Option.bind_some, if_pos (by omega)]; simp [hG]
  | succ d ih =>
    intro q out ho hl hb
    have hq8 := ho.1
    have hloop : ∀ (e i : Nat) (out : List (List Int)), N - i = e → i ≤ N → out.length + (PF N d q i).length ≤ 16777216 →
        Ev (fun k => impl_grown_1.l0 k good (N : Int) q out (i : Int)) (out ++ (PF N d q i).filter G) := by
      intro e
      induction e with
      | zero =>
        intro i out he hi hb
        refine ⟨1, fun k hk => ?_⟩
        obtain ⟨k, rfl⟩ : ∃ m, k = m + 1 := ⟨k - 1, by omega⟩
        dsimp only
        rw [impl_grown_1.l0, if_neg (by omega), PF_nil N d q i (by omega)]; simp
      | succ e ihe =>
        intro i out he hi hb
        rw [PF_step N d q i (by omega)] at hb ⊢
        obtain ⟨K1, h1⟩ := ev_get (Contains_ev q (i : Int) (by omega))
        by_cases hc : (i : Int) ∈ q
        · simp only [if_pos hc, List.nil_append] at hb ⊢
          obtain ⟨K2, h2⟩ := ev_get (ihe (i + 1) out (by omega) (by omega) hb)
          refine ⟨K1 + K2 + 1, fun k hk => ?_⟩
          obtain ⟨k, rfl⟩ : ∃ m, k = m + 1 := ⟨k - 1, by omega⟩
          dsimp only
          rw [impl_grown_1.l0, if_pos (by omega), h1 k (by omega), Option.bind_some, decide_eq_true hc, if_pos rfl, w64 _ (by omega) (by omega), show ((i : Int) + 1) = ((i + 1 : Nat) : Int) by omega]
          exact h2 k (by omega)
        · simp only [if_neg hc, List.length_append] at hb ⊢
          have hf := List.length_filter_le G (P N d (q ++ [(i : Int)]))
          obtain ⟨K2, h2⟩ := ev_get (ih (q ++ [(i : Int)]) out (okq_snoc ho (by omega) (by omega)) (by simp; omega) (by omega))
          obtain ⟨K3, h3⟩ := ev_get (ihe (i + 1) (out ++ (P N d (q ++ [(i : Int)])).filter G) (by omega) (by omega) (by rw [List.length_append]; omega))
          refine ⟨K1 + K2 + K3 + 1, fun k hk => ?_⟩
          obtain ⟨k, rfl⟩ : ∃ m, k = m + 1 := ⟨k - 1, by omega⟩
          dsimp only
          rw [impl_grown_1.l0, if_pos (by omega), h1 k (by omega), Option.bind_some, decide_eq_false hc, if_neg (by simp), if_pos (by omega), h2 k (by omega), Option.bind_some, w64 _ (by omega) (by omega), show ((i : Int) + 1) = ((i + 1 : Nat) : Int) by omega, h3 k (by omega), List.filter_append, List.append_assoc]
    cases hG : G q with
    | false =>
      refine ⟨1, fun k hk => ?_⟩
      obtain ⟨k, rfl⟩ : ∃ m, k = m + 1 := ⟨k - 1, by omega⟩
      dsimp only
      rw [impl_grown_1.f, hgood q ho, Option.bind_some, hG, if_neg (by simp), P_none hher ho hl hG, List.append_nil]
    | true =>
      rw [P_succ] at hb ⊢
      obtain ⟨K, hK⟩ := ev_get (hloop N 0 out (by omega) (by omega) hb)
      refine ⟨K + 1, fun k hk => ?_⟩
      obtain ⟨k, rfl⟩ : ∃ m, k = m + 1 := ⟨k - 1, by omega⟩
      dsimp only
      rw [impl_grown_1.f, hgood q ho, Option.bind_some, hG, if_pos rfl, if_neg (by omega)]
      exact hK k (by omega)
/-- No number of the list attacks a new one in the next row. -/
def fr (q : List Int) (i : Int) (r : Nat) : Prop := ∀ r', r ≤ r' → ∀ h : r' < q.length, (i - q[r']).natAbs ≠ q.length - r'
theorem fr_step (q : List Int) (i : Int) (r : Nat) (h : r < q.length) : fr q i r ↔ (i - q[r]).natAbs ≠ q.length - r ∧ fr q i (r + 1) := by
  constructor
  · intro h1
    exact ⟨h1 r (Nat.le_refl _) h, fun r' h2 h3 => h1 r' (by omega) h3⟩
  · rintro ⟨h1, h2⟩ r' h3 h4
    rcases Nat.eq_or_lt_of_le h3 with h5 | h5
    · subst h5; exact h1
    · exact h2 r' h5 h4
theorem att_snoc (q : List Int) (c : Int) (r s : Nat) (hr : r < s) (hs : s < q.length) : att (q ++ [c]) r s = att q r s := by
  unfold att
  simp only [List.getD_eq_getElem?_getD, List.getElem?_append_left hs, List.getElem?_append_left (show r < q.length by omega)]
theorem att_last (q : List Int) (c : Int) (r : Nat) (hr : r < q.length) : att (q ++ [c]) r q.length = decide ((c - q[r]).natAbs = q.length - r) := by
  unfold att
  rw [decide_eq_decide]
  simp only [List.getD_eq_getElem?_getD, List.getElem?_append_left hr, List.getElem?_append_right (Nat.le_refl _), Nat.sub_self, List.getElem?_eq_getElem hr]
  simp
  omega
theorem freeB_snoc (q : List Int) (c : Int) : freeB (q ++ [c]) = true ↔ freeB q = true ∧ fr q c 0 := by
  unfold freeB
  simp only [decide_eq_true_iff, List.length_append, List.length_singleton]
  constructor
  · intro h
    refine ⟨fun s hs r hr => by rw [← att_snoc q c r s hr hs]; exact h s (by omega) r hr, fun r _ hr => ?_⟩
    have := h q.length (by omega) r hr
    rw [att_last q c r hr] at this
    simpa using this
  · rintro ⟨h1, h2⟩ s hs r hr
    by_cases hsl : s < q.length
    · rw [att_snoc q c r s hr hsl]; exact h1 s hsl r hr
    · obtain rfl : s = q.length := by omega
      rw [att_last q c r hr]
      simpa using h2 r (by omega) hr
theorem freeB_her : Her freeB := fun q c h => ((freeB_snoc q c).1 h).1
open Classical in
theorem quAll_ev (N : Nat) (hN : N ≤ 8) : ∀ (d : Nat) (q : List Int), OkQ N q → q.length + d = N → freeB q = true →
    Ev (fun k => spec_quAll.f k (N : Int) q) ((P N d q).filter freeB) := by
  intro d
  induction d with
  | zero =>
    intro q ho hl hf
    have hq8 := ho.1
    refine ⟨1, fun k hk => ?_⟩
    obtain ⟨k, rfl⟩ : ∃ m, k = m + 1 := ⟨k - 1, by omega⟩
    dsimp only
    rw [spec_quAll.f, if_pos (by omega), own7 q (by omega), Option.bind_some, P]
    simp [hf]
  | succ d ih =>
    intro q ho hl hf
    have hq8 := ho.1
    have hsm := okq_small hN ho
    have hloop : ∀ (e i : Nat) (acc : List (List Int)), N - i = e → i ≤ N → acc.length + (PF N d q i).length ≤ 16777216 →
        Ev (fun k => spec_quAll.l0 k (N : Int) q acc (i : Int)) (acc ++ (PF N d q i).filter freeB) := by
      intro e
      induction e with
      | zero =>
        intro i acc he hi hb
        refine ⟨1, fun k hk => ?_⟩
        obtain ⟨k, rfl⟩ : ∃ m, k = m + 1 := ⟨k - 1, by omega⟩
        dsimp only
        rw [spec_quAll.l0, if_neg (by omega), PF_nil N d q i (by omega)]; simp
      | succ e ihe =>
        intro i acc he hi hb
        have hi8 : i < N := by omega
        rw [PF_step N d q i hi8] at hb ⊢
        have hok := okq_snoc ho (by omega) hi8
        -- the rounds that ask the rows one by one
        have hin : ∀ (g r : Nat) (free : Bool), q.length - r = g → r ≤ q.length → (free = true → ((i : Int) ∉ q)) →
            Ev (fun k => spec_quAll.l1 k (N : Int) q acc (i : Int) free q (q.length : Int) (r : Int))
              ((if free = true ∧ fr q i r then acc ++ (P N d (q ++ [(i : Int)])).filter freeB else acc) ++ (PF N d q (i + 1)).filter freeB) ∨ (free = true ∧ fr q i r ∧ ¬ fr q i 0) := by
          intro g
          induction g with
          | zero =>
            intro r free hg hr hfree
            have hfr : fr q i r := fun r' h1 h2 => by omega
            by_cases hff : free = true
            · by_cases h0 : fr q i 0
              · left
                have hnew : freeB (q ++ [(i : Int)]) = true := (freeB_snoc q i).2 ⟨hf, h0⟩
                have hc := hfree hff
                simp only [if_neg hc, List.length_append] at hb
                have hlf := List.length_filter_le freeB (P N d (q ++ [(i : Int)]))
                obtain ⟨K1, h1⟩ := ev_get (ih (q ++ [(i : Int)]) hok (by simp; omega) hnew)
                obtain ⟨K2, h2⟩ := ev_get (ihe (i + 1) (acc ++ (P N d (q ++ [(i : Int)])).filter freeB) (by omega) (by omega) (by rw [List.length_append]; omega))
                refine ⟨K1 + K2 + 1, fun k hk => ?_⟩
                obtain ⟨k, rfl⟩ : ∃ m, k = m + 1 := ⟨k - 1, by omega⟩
                dsimp only
                rw [spec_quAll.l1, if_neg (by omega), if_pos hff, own7 q (by omega), Option.bind_some, if_pos (by omega), h1 k (by omega), Option.bind_some, if_pos (by omega), w64 _ (by omega) (by omega), show ((i : Int) + 1) = ((i + 1 : Nat) : Int) by omega, h2 k (by omega), if_pos ⟨hff, hfr⟩]
              · right; exact ⟨hff, hfr, h0⟩
            · left
              obtain ⟨K2, h2⟩ := ev_get (ihe (i + 1) acc (by omega) (by omega) (by simp only [List.length_append] at hb; omega))
              refine ⟨K2 + 1, fun k hk => ?_⟩
              obtain ⟨k, rfl⟩ : ∃ m, k = m + 1 := ⟨k - 1, by omega⟩
              dsimp only
              rw [spec_quAll.l1, if_neg (by omega), if_neg hff, w64 _ (by omega) (by omega), show ((i : Int) + 1) = ((i + 1 : Nat) : Int) by omega, h2 k (by omega), if_neg (fun h => hff h.1)]
          | succ g ihg =>
            intro r free hg hr hfree
            have hr1 : r < q.length := by omega
            have hx := hsm.2 r hr1
            have hst := fr_step q i r hr1
            by_cases hff : free = true
            · have habs : (((((i : Int) - q[r]).natAbs : Int)) != ((q.length : Int) - (r : Int))) = true ↔ ((i : Int) - q[r]).natAbs ≠ q.length - r := by
                rw [bne_iff_ne]; omega
              rcases ihg (r + 1) ((((((i : Int) - q[r]).natAbs : Int)) != ((q.length : Int) - (r : Int)))) (by omega) (by omega) (fun _ => hfree hff) with h | h
              · left
                obtain ⟨K, hK⟩ := ev_get h
                refine ⟨K + 1, fun k hk => ?_⟩
                obtain ⟨k, rfl⟩ : ∃ m, k = m + 1 := ⟨k - 1, by omega⟩
                dsimp only
                rw [spec_quAll.l1, if_pos (by omega), if_pos (by omega), if_pos (by omega), if_pos hff, rd_nat _ _ hr1, w64 ((i : Int) - q[r]) (by omega) (by omega), l1Abs_eq _ (by omega) (by omega), Option.bind_some, w64 ((q.length : Int) - r) (by omega) (by omega), w64 ((r : Int) + 1) (by omega) (by omega), show ((r : Int) + 1) = ((r + 1 : Nat) : Int) by omega, hK k (by omega)]
                have he : ((((((i : Int) - q[r]).natAbs : Int)) != ((q.length : Int) - (r : Int))) = true ∧ fr q i (r + 1)) ↔ (free = true ∧ fr q i r) := by
                  rw [habs, hst]; exact ⟨fun h => ⟨hff, h⟩, fun h => h.2⟩
                simp only [he]
              · right
                exact ⟨hff, hst.2 ⟨habs.1 h.1, h.2.1⟩, h.2.2⟩
            · left
              rcases ihg (r + 1) false (by omega) (by omega) (fun h => by cases h) with h | h
              · obtain ⟨K, hK⟩ := ev_get h
                refine ⟨K + 1, fun k hk => ?_⟩
                obtain ⟨k, rfl⟩ : ∃ m, k = m + 1 := ⟨k - 1, by omega⟩
                dsimp only
                rw [spec_quAll.l1, if_pos (by omega), if_pos (by omega), if_pos (by omega), if_neg hff, w64 ((r : Int) + 1) (by omega) (by omega), show ((r : Int) + 1) = ((r + 1 : Nat) : Int) by omega, hK k (by omega), if_neg (fun h => by cases h.1), if_neg (fun h => hff h.1)]
              · cases h.1
        obtain ⟨K1, h1⟩ := ev_get (l1Has_ev q (i : Int) (by omega))
        rcases hin q.length 0 (!decide ((i : Int) ∈ q)) (by omega) (by omega) (fun h => by simpa using h) with h | h
        · obtain ⟨K2, h2⟩ := ev_get h
          refine ⟨K1 + K2 + 1, fun k hk => ?_⟩
          obtain ⟨k, rfl⟩ : ∃ m, k = m + 1 := ⟨k - 1, by omega⟩
          dsimp only
          rw [spec_quAll.l0, if_pos (by omega), h1 k (by omega), Option.bind_some]
          refine (h2 k (by omega)).trans ?_
          congr 1
          rw [List.filter_append, ← List.append_assoc]
          congr 1
          by_cases hc : (i : Int) ∈ q
          · rw [if_neg (fun h => by simpa [hc] using h.1), if_pos hc]; simp
          · rw [if_neg hc]
            by_cases h0 : fr q i 0
            · rw [if_pos ⟨by simpa using hc, h0⟩]
            · rw [if_neg (fun h => h0 h.2)]
              have : freeB (q ++ [(i : Int)]) = false := by
                rw [Bool.eq_false_iff]
                intro h; exact h0 ((freeB_snoc q i).1 h).2
              rw [P_none freeB_her hok (by simp; omega) this, List.append_nil]
        · exact absurd h.2.1 h.2.2
    rw [P_succ]
    have hb := P_len N (d + 1) q
    have hp := pow_bound hN (show d + 1 ≤ N by omega)
    rw [P_succ] at hb
    obtain ⟨K, hK⟩ := ev_get (hloop N 0 [] (by omega) (by omega) (by simp; omega))
    refine ⟨K + 1, fun k hk => ?_⟩
    obtain ⟨k, rfl⟩ : ∃ m, k = m + 1 := ⟨k - 1, by omega⟩
    dsimp only
    rw [spec_quAll.f, if_neg (by omega)]
    simpa using hK k (by omega)
/-- The lists of queens. -/
def allQ (N : Nat) : List (List Int) := (P N N []).filter freeB
theorem allQ_len (N : Nat) (hN : N ≤ 8) : (allQ N).length ≤ 16777216 :=
  Nat.le_trans (List.length_filter_le _ _) (Nat.le_trans (P_len N N []) (pow_bound hN (Nat.le_refl _)))
theorem allQ_row {N : Nat} {x : List Int} (h : x ∈ allQ N) : OkQ N x ∧ x.length = N := by
  obtain ⟨h1, h2, _⟩ := P_mem N N [] (okq_nil N) (by simp) x (List.mem_filter.1 h).1
  exact ⟨h1, h2⟩
theorem freeB_nil : freeB [] = true := by unfold freeB; simp
theorem quAllQ_ev (N : Nat) (hN : N ≤ 8) : Ev (fun k => spec_quAll.f k (N : Int) ([] : List Int)) (allQ N) := quAll_ev N hN N [] (okq_nil N) (by simp) freeB_nil
end Go.Proofs.Ytnpacpdpgngdpaa.P
namespace Go.Proofs.Ytnpacpdpgngdpaa.P
open Go.RowKit Go.Proofs.YtnpacpdpgngdpaaW.PrintWords Go.Proofs.YtnpacpdpgngdpaaW.PrintLast Go.Proofs.YtnpacpdpgngdpaaW.PrintMore
set_option linter.unusedVariables false
set_option linter.unusedSimpArgs false
def Bytes (s : List Int) : Prop := ∀ x ∈ s, 0 ≤ x ∧ x ≤ 255
theorem bytes_of {s : List Int} (h : ∀ x ∈ s, (Lit.int .u8 x).wf = true) : Bytes s := by
  intro x hx
  have := h x hx
  simp [Lit.wf, IntKind.wrap, IntKind.bits, IntKind.signed, IntKind.min, IntKind.max] at this
  omega
theorem u64_wrap (n : Int) : IntKind.u64.wrap n = n % 18446744073709551616 := by simp [IntKind.wrap, IntKind.bits, IntKind.signed]
theorem seed_byte (n : Int) : 0 ≤ Go.bits .and .u64 (IntKind.u64.wrap n / 1099511627776) 255 ∧ Go.bits .and .u64 (IntKind.u64.wrap n / 1099511627776) 255 ≤ 255 := by
  have h0 : 0 ≤ IntKind.u64.wrap n / 1099511627776 := by rw [u64_wrap]; omega
  have h1 : IntKind.u64.wrap n / 1099511627776 < 2 ^ 24 := by rw [u64_wrap]; omega
  have := bits_mask .u64 24 (by decide) (fun n h0 h1 => by rw [u64_wrap]; omega) 8 (by decide) _ h0 h1
  have e : (2 : Int) ^ 8 - 1 = 255 := by decide
  rw [e] at this
  rw [this]
  omega
theorem next_ok {s : List Int} (hs : Bytes s) (a b : Int) (h0 : 0 ≤ a) (h1 : a ≤ 4611686018427387904) : ∃ x b', spec_l1Cur_next.f s a b = some (x, a + 1, b') ∧ 0 ≤ x ∧ x ≤ 255 := by
  unfold spec_l1Cur_next.f
  rw [w64 (a + 1) (by omega) (by omega)]
  by_cases h : a < (s.length : Int)
  · rw [if_pos h, if_pos h0, if_pos (by omega)]
    have hx := hs (rd s a) (by
      obtain ⟨n, rfl⟩ : ∃ n : Nat, a = (n : Int) := ⟨a.toNat, by omega⟩
      rw [rd_nat _ _ (show n < s.length by omega)]
      exact List.getElem_mem _)
    rw [w64 _ (by omega) (by omega)]
    exact ⟨_, _, rfl, hx⟩
  · rw [if_neg h, if_neg (by omega)]
    have hx := seed_byte ((IntKind.u64.wrap (IntKind.u64.wrap (b * 6364136223846793005))) + 1442695040888963407)
    rw [w64 (Go.bits _ _ _ _) (by omega) (by omega)]
    exact ⟨_, _, rfl, hx⟩
theorem pick_ok {s : List Int} (hs : Bytes s) (a b n : Int) (h0 : 0 ≤ a) (h1 : a ≤ 4000000000000000000) : ∃ x a' b', spec_l1Cur_pick.f s a b n = some (x, a', b') ∧ 0 ≤ x ∧ (x < n ∨ n ≤ 1 ∧ x = 0) ∧ a ≤ a' ∧ a' ≤ a + 2 := by
  unfold spec_l1Cur_pick.f
  by_cases h : n ≤ 1
  · rw [if_pos h]
    exact ⟨0, a, b, rfl, by omega, .inr ⟨h, rfl⟩, by omega, by omega⟩
  · rw [if_neg h]
    obtain ⟨x, b1, e1, h2, h3⟩ := next_ok hs a b h0 (by omega)
    rw [e1]
    simp only [Option.bind_some]
    by_cases h4 : n > 200
    · obtain ⟨y, b2, e2, h5, h6⟩ := next_ok hs (a + 1) b1 (by omega) (by omega)
      rw [if_pos h4, e2]
      simp only [Option.bind_some]
      rw [if_neg (by omega), w64 (x * 256) (by omega) (by omega), w64 _ (by omega) (by omega)]
      refine ⟨_, _, _, rfl, Int.tmod_nonneg _ (by omega), .inl (Int.tmod_lt_of_pos _ (by omega)), by omega, by omega⟩
    · rw [if_neg h4, if_neg (by omega)]
      refine ⟨_, _, _, rfl, Int.tmod_nonneg _ (by omega), .inl (Int.tmod_lt_of_pos _ (by omega)), by omega, by omega⟩
theorem one_ok {s : List Int} (hs : Bytes s) (a b n : Int) (h0 : 0 ≤ a) (h1 : a ≤ 4000000000000000000) : ∃ x a' b', spec_l1Cur_one.f s a b n = some (x, a', b') ∧ a ≤ a' ∧ a' ≤ a + 2 := by
  obtain ⟨x, a', b', e, _, _, h4, h5⟩ := pick_ok hs a b n h0 h1
  unfold spec_l1Cur_one.f
  rw [e]
  exact ⟨_, _, _, rfl, h4, h5⟩
theorem among_ok {s : List Int} (hs : Bytes s) (a b : Int) (l : List Int) (hl : 0 < l.length) (h0 : 0 ≤ a) (h1 : a ≤ 4000000000000000000) : ∃ x a' b', spec_l1Cur_among.f s a b l = some (x, a', b') ∧ x ∈ l ∧ a ≤ a' ∧ a' ≤ a + 2 := by
  obtain ⟨x, a', b', e, h2, h3, h4, h5⟩ := pick_ok hs a b (l.length : Int) h0 h1
  unfold spec_l1Cur_among.f
  rw [e]
  simp only [Option.bind_some]
  have hx : x < (l.length : Int) := by omega
  rw [if_pos h2, if_pos hx]
  refine ⟨_, _, _, rfl, ?_, h4, h5⟩
  obtain ⟨n, rfl⟩ : ∃ n : Nat, x = (n : Int) := ⟨x.toNat, by omega⟩
  rw [rd_nat _ _ (show n < l.length by omega)]
  exact List.getElem_mem _
theorem order4_j1 {s : List Int} (hs : Bytes s) (n : Int) (l : List Int) (x : Bool) (a b : Int) (h0 : 0 ≤ a) (h1 : a ≤ 1000000000000000000) (hx : x = true → 0 < l.length) :
    ∃ r a' b', (∀ k, spec_l1Cur_order4.j1 (k + 1) n l x s a b = some (r, a', b')) ∧ r.length = l.length ∧ a ≤ a' ∧ a' ≤ a + 4 := by
  cases x with
  | false => exact ⟨l, a, b, fun k => by simp [spec_l1Cur_order4.j1], rfl, by omega, by omega⟩
  | true =>
    obtain ⟨x, a1, b1, e1, h2, h3, h4, h5⟩ := pick_ok hs a b (l.length : Int) h0 (by omega)
    obtain ⟨y, a2, b2, e2, h6, h7, h8⟩ := among_ok hs a1 b1 [(-1), 0, n, 4611686018427387904] (by simp) (by omega) (by omega)
    have hp := hx rfl
    refine ⟨l.set x.toNat y, a2, b2, fun k => ?_, by simp, by omega, by omega⟩
    rw [spec_l1Cur_order4.j1, if_pos rfl, e1]
    simp only [Option.bind_some]
    rw [e2]
    simp only [Option.bind_some]
    rw [if_pos h2, if_pos (by omega)]
theorem order4_l0 {s : List Int} (hs : Bytes s) (n : Nat) (hn : n ≤ 1000) : ∀ (d i : Nat) (l : List Int) (a b : Int), n - i = d → i ≤ n → l.length = i → 0 ≤ a → a ≤ 1000000 + 2 * i →
    ∃ r a' b', (∀ k, d + 2 ≤ k → spec_l1Cur_order4.l0 k (n : Int) l (i : Int) s a b = some (r, a', b')) ∧ r.length = n ∧ a ≤ a' ∧ a' ≤ a + 2 * d + 10 := by
  intro d
  induction d with
  | zero =>
    intro i l a b hd hi hl h0 h1
    have e : i = n := by omega
    by_cases hp : (l.length : Int) > 0
    · obtain ⟨x, a1, b1, e1, h4, h5⟩ := one_ok hs a b 15 h0 (by omega)
      obtain ⟨r, a2, b2, e2, h6, h7, h8⟩ := order4_j1 hs n l x a1 b1 (by omega) (by omega) (fun _ => by omega)
      refine ⟨r, a2, b2, fun k hk => ?_, by omega, by omega, by omega⟩
      obtain ⟨k, rfl⟩ : ∃ m, k = m + 2 := ⟨k - 2, by omega⟩
      rw [spec_l1Cur_order4.l0, if_neg (by omega), if_pos hp, e1]
      simp only [Option.bind_some]
      exact e2 k
    · obtain ⟨r, a2, b2, e2, h6, h7, h8⟩ := order4_j1 hs n l false a b h0 (by omega) (fun h => by cases h)
      refine ⟨r, a2, b2, fun k hk => ?_, by omega, by omega, by omega⟩
      obtain ⟨k, rfl⟩ : ∃ m, k = m + 2 := ⟨k - 2, by omega⟩
      rw [spec_l1Cur_order4.l0, if_neg (by omega), if_neg hp]
      exact e2 k
  | succ d ih =>
    intro i l a b hd hi hl h0 h1
    obtain ⟨x, a1, b1, e1, h2, h3, h4, h5⟩ := pick_ok hs a b ((i : Int) + 1) h0 (by omega)
    have hx : x ≤ (l.length : Int) := by omega
    obtain ⟨m, rfl⟩ : ∃ m : Nat, x = (m : Int) := ⟨x.toNat, by omega⟩
    obtain ⟨r, a2, b2, e2, h6, h7, h8⟩ := ih (i + 1) ((l.take m ++ [(i : Int)]) ++ l.drop m) a1 b1 (by omega) (by omega) (by simp; omega) (by omega) (by omega)
    refine ⟨r, a2, b2, fun k hk => ?_, h6, by omega, by omega⟩
    obtain ⟨k, rfl⟩ : ∃ m, k = m + 1 := ⟨k - 1, by omega⟩
    rw [spec_l1Cur_order4.l0, if_pos (by omega), w64 _ (by omega) (by omega), e1]
    simp only [Option.bind_some]
    rw [if_pos h2, if_pos hx, Int.toNat_natCast, own7 _ (by simp; omega)]
    simp only [Option.bind_some]
    rw [if_pos (by simp; omega), if_pos (by simp; omega)]
    have := e2 k (by omega)
    rw [show ((i + 1 : Nat) : Int) = (i : Int) + 1 by omega] at this
    exact this
theorem order4_ok {s : List Int} (hs : Bytes s) (n : Nat) (hn : n ≤ 1000) (a b : Int) (h0 : 0 ≤ a) (h1 : a ≤ 1000000) :
    ∃ r a' b', Ev (fun k => spec_l1Cur_order4.f k s a b (n : Int)) (r, a', b') ∧ r.length = n ∧ a ≤ a' ∧ a' ≤ a + 2 * n + 10 := by
  obtain ⟨r, a', b', e, h2, h3, h4⟩ := order4_l0 hs n hn n 0 [] a b (by omega) (by omega) rfl h0 (by omega)
  exact ⟨r, a', b', ⟨n + 2, fun k hk => by simpa [spec_l1Cur_order4.f] using e k hk⟩, h2, h3, by omega⟩
theorem queens_j0 {s : List Int} (hs : Bytes s) (n : Nat) (hn : n ≤ 8) (all : List (List Int)) (ha : ∀ q ∈ all, q.length ≤ 8) (hl : all.length ≤ 16777216) (x : Bool) (hx : x = false → 0 < all.length) (a b : Int) (h0 : 0 ≤ a) (h1 : a ≤ 1000000) :
    ∃ r a' b', Ev (fun k => spec_l1Cur_queens.j0 k (n : Int) all x s a b) (r, a', b') ∧ r.length ≤ 9 := by
  cases x with
  | true =>
    obtain ⟨r, a1, b1, e, h2, _, _⟩ := order4_ok hs n (by omega) a b h0 h1
    obtain ⟨K, hK⟩ := ev_get e
    refine ⟨r, a1, b1, ⟨K + 1, fun k hk => ?_⟩, by omega⟩
    obtain ⟨k, rfl⟩ : ∃ m, k = m + 1 := ⟨k - 1, by omega⟩
    simp only [spec_l1Cur_queens.j0, if_true, hK k (by omega), Option.bind_some]
  | false =>
    have hp := hx rfl
    obtain ⟨y, a1, b1, e1, h2, h3, h4, h5⟩ := pick_ok hs a b (all.length : Int) h0 (by omega)
    obtain ⟨m, rfl⟩ : ∃ m : Nat, y = (m : Int) := ⟨y.toNat, by omega⟩
    have hm : m < all.length := by omega
    have hq : (rd_L1 all (m : Int)).length ≤ 8 := by
      have : rd_L1 all (m : Int) = all[m] := by simp [rd_L1, rdOf, List.getD_eq_getElem?_getD, List.getElem?_eq_getElem hm]
      rw [this]
      exact ha _ (List.getElem_mem hm)
    obtain ⟨z, a2, b2, e2, h6, h7⟩ := one_ok hs a1 b1 15 (by omega) (by omega)
    obtain ⟨v, a3, b3, e3, h8, h9, h10⟩ := among_ok hs a2 b2 [(-1), 0, (n : Int), wrap64 ((n : Int) + 1)] (by simp) (by omega) (by omega)
    refine ⟨if z = true then rd_L1 all (m : Int) ++ [v] else rd_L1 all (m : Int), if z = true then a3 else a2, if z = true then b3 else b2, ⟨1, fun k hk => ?_⟩, by split; (simp only [List.length_append, List.length_singleton]; omega); omega⟩
    obtain ⟨k, rfl⟩ : ∃ m, k = m + 1 := ⟨k - 1, by omega⟩
    simp only [spec_l1Cur_queens.j0, Bool.false_eq_true, if_false]
    rw [e1]
    simp only [Option.bind_some]
    rw [if_pos h2, if_pos (by omega), own7 _ (by omega)]
    simp only [Option.bind_some]
    rw [e2]
    simp only [Option.bind_some]
    cases z with
    | true =>
      simp only [if_true]
      rw [e3]
      simp only [Option.bind_some]
      rw [if_pos (by omega)]
    | false => simp
theorem queens_ok {s : List Int} (hs : Bytes s) (a b : Int) (h0 : 0 ≤ a) (h1 : a ≤ 900000) : ∃ r a' b', Ev (fun k => spec_l1Cur_queens.f k s a b) (r, a', b') ∧ r.length ≤ 9 := by
  obtain ⟨x, a1, b1, e1, h2, h3, h4, h5⟩ := pick_ok hs a b 7 h0 (by omega)
  obtain ⟨m, rfl⟩ : ∃ m : Nat, x = (m : Int) := ⟨x.toNat, by omega⟩
  obtain ⟨K, hK⟩ := ev_get (quAllQ_ev (m + 1) (by omega))
  have e : wrap64 (1 + (m : Int)) = ((m + 1 : Nat) : Int) := by rw [w64 _ (by omega) (by omega)]; omega
  have hrow : ∀ q ∈ allQ (m + 1), q.length ≤ 8 := fun q hq => by have := (allQ_row hq).2; omega
  by_cases hz : (allQ (m + 1)).length = 0
  · obtain ⟨r, a2, b2, e2, h6⟩ := queens_j0 hs (m + 1) (by omega) (allQ (m + 1)) hrow (allQ_len _ (by omega)) true (fun h => by cases h) a1 b1 (by omega) (by omega)
    obtain ⟨K2, hK2⟩ := ev_get e2
    refine ⟨r, a2, b2, ⟨K + K2, fun k hk => ?_⟩, h6⟩
    simp only [spec_l1Cur_queens.f, e1, Option.bind_some, e, hK k (by omega)]
    rw [if_pos (by omega), hK2 k (by omega)]
  · obtain ⟨z, a2, b2, e2, h6, h7⟩ := one_ok hs a1 b1 3 (by omega) (by omega)
    obtain ⟨r, a3, b3, e3, h8⟩ := queens_j0 hs (m + 1) (by omega) (allQ (m + 1)) hrow (allQ_len _ (by omega)) z (fun h => by omega) a2 b2 (by omega) (by omega)
    obtain ⟨K2, hK2⟩ := ev_get e3
    refine ⟨r, a3, b3, ⟨K + K2, fun k hk => ?_⟩, h8⟩
    simp only [spec_l1Cur_queens.f, e1, Option.bind_some, e, hK k (by omega)]
    rw [if_neg (by omega), e2]
    simp only [Option.bind_some]
    rw [hK2 k (by omega)]
theorem drawCount_ok {s : List Int} (hs : Bytes s) : ∃ n, spec_DrawCountQueens.f s = some n ∧ 0 ≤ n ∧ n ≤ 9 := by
  obtain ⟨x, a', b', e, h, _, _⟩ := among_ok hs 0 0 [1, 2, 3, 4, 5, 6, 7, 8, 9, 0] (by simp) (by omega) (by omega)
  refine ⟨x, ?_, ?_⟩
  · simp only [spec_DrawCountQueens.f, e, Option.bind_some]
  · simp only [List.mem_cons, List.not_mem_nil, or_false] at h
    omega
theorem big_eq (a b : List Int) (ha : a.length ≤ 140737488351232) (hb : b.length ≤ 140737488351232) : ∃ x, laws_big.f a b = some x := by
  unfold laws_big.f
  repeat (first | exact ⟨_, rfl⟩ | split | simp only [Option.bind_some])
end Go.Proofs.Ytnpacpdpgngdpaa.P
namespace Go.Proofs.Ytnpacpdpgngdpaa.P
open Go.RowKit Go.Proofs.YtnpacpdpgngdpaaW.PrintWords Go.Proofs.YtnpacpdpgngdpaaW.PrintLast Go.Proofs.YtnpacpdpgngdpaaW.PrintMore
set_option linter.unusedVariables false
set_option linter.unusedSimpArgs false
open Classical in
theorem onTorus_innerN (N : Nat) (hN1 : 1 ≤ N) (hN8 : N ≤ 8) (q : List Int) (hg : Small q) (s : Nat) (hs : s < q.length)
    (hout : Ev (fun k => impl_onTorus_1.l0 k q (N : Int) q (q.length : Int) ((s + 1 : Nat) : Int)) (decide (torTo N q (s + 1)))) :
    ∀ (d r : Nat), s - r = d → r ≤ s →
    Ev (fun k => impl_onTorus_1.l1 k q (N : Int) (s : Int) q[s] q (q.length : Int) (s : Int) (q.take s) ((q.take s).length : Int) (r : Int)) (decide (colTor N q r s ∧ torTo N q (s + 1))) := by
  have hl := hg.1
  have hq2 := hg.2 s hs
  have ht : (q.take s).length = s := by rw [List.length_take]; omega
  intro d
  induction d with
  | zero =>
    intro r hd hr
    obtain ⟨K, hK⟩ := ev_get hout
    refine ⟨K + 1, fun k hk => ?_⟩
    obtain ⟨k, rfl⟩ : ∃ m, k = m + 1 := ⟨k - 1, by omega⟩
    simp only [impl_onTorus_1.l1]
    rw [ht, if_neg (by omega), w64 _ (by omega) (by omega), show ((s : Int) + 1) = ((s + 1 : Nat) : Int) by omega, hK k (by omega)]
    congr 1
    rw [decide_eq_decide]
    exact ⟨fun h => ⟨fun r' h1 h2 => by omega, h⟩, fun h => h.2⟩
  | succ d ih =>
    intro r hd hr
    have hr1 : r < s := by omega
    have hq := hg.2 r (by omega)
    obtain ⟨K, hK⟩ := ev_get (ih (r + 1) (by omega) (by omega))
    refine ⟨K + 1, fun k hk => ?_⟩
    obtain ⟨k, rfl⟩ : ∃ m, k = m + 1 := ⟨k - 1, by omega⟩
    have hK := hK k (by omega)
    simp only [impl_onTorus_1.l1]
    rw [ht] at hK ⊢
    rw [if_pos (by omega), if_pos (by omega), if_pos (by omega), if_neg (by omega), rd_nat _ _ (show r < (q.take s).length by omega), List.getElem_take, w64 ((r : Int) + q[r]) (by omega) (by omega), w64 ((r : Int) + q[r] - s) (by omega) (by omega), w64 ((r : Int) + q[r] - s - q[s]) (by omega) (by omega), w64 ((r : Int) - q[r]) (by omega) (by omega), w64 ((r : Int) - q[r] - s) (by omega) (by omega), w64 ((r : Int) - q[r] - s + q[s]) (by omega) (by omega), w64 ((r : Int) + 1) (by omega) (by omega), show ((r : Int) + 1) = ((r + 1 : Nat) : Int) by omega, hK]
    have hst := colTor_step N q r s hr1
    have ht : (tor N q r s = true) ↔ ((N : Int) ∣ (r : Int) + q[r] - s - q[s] ∨ (N : Int) ∣ (r : Int) - q[r] - s + q[s]) := by
      unfold tor
      rw [decide_eq_true_iff, getD_eq q r (by omega), getD_eq q s hs, ← Int.dvd_neg (b := (r : Int) + q[r] - s - q[s]), ← Int.dvd_neg (b := (r : Int) - q[r] - s + q[s]),
        show -((r : Int) + q[r] - s - q[s]) = ((s : Int) - r) + (q[s] - q[r]) by omega, show -((r : Int) - q[r] - s + q[s]) = ((s : Int) - r) - (q[s] - q[r]) by omega]
    by_cases h1 : Int.tmod ((r : Int) + q[r] - s - q[s]) N = 0
    · rw [if_pos h1]
      congr 1
      symm; apply decide_eq_false
      rintro ⟨h2, _⟩
      have := (hst.1 h2).1
      rw [ht.2 (.inl ((tmod_dvd _ _).1 h1))] at this; cases this
    · rw [if_neg h1]
      by_cases h2 : Int.tmod ((r : Int) - q[r] - s + q[s]) N = 0
      · rw [if_pos h2]
        congr 1
        symm; apply decide_eq_false
        rintro ⟨h3, _⟩
        have := (hst.1 h3).1
        rw [ht.2 (.inr ((tmod_dvd _ _).1 h2))] at this; cases this
      · rw [if_neg h2]
        congr 1
        rw [decide_eq_decide]
        have hf : tor N q r s = false := by
          rw [Bool.eq_false_iff]
          intro h; rcases ht.1 h with h | h
          · exact h1 ((tmod_dvd _ _).2 h)
          · exact h2 ((tmod_dvd _ _).2 h)
        exact ⟨fun h => ⟨hst.2 ⟨hf, h.1⟩, h.2⟩, fun h => ⟨(hst.1 h.1).2, h.2⟩⟩
open Classical in
theorem onTorus_outerN (N : Nat) (hN1 : 1 ≤ N) (hN8 : N ≤ 8) (q : List Int) (hg : Small q) : ∀ (d s : Nat), q.length - s = d → s ≤ q.length →
    Ev (fun k => impl_onTorus_1.l0 k q (N : Int) q (q.length : Int) (s : Int)) (decide (torTo N q s)) := by
  have hl := hg.1
  intro d
  induction d with
  | zero =>
    intro s hd hs
    refine ⟨1, fun k hk => ?_⟩
    obtain ⟨k, rfl⟩ : ∃ m, k = m + 1 := ⟨k - 1, by omega⟩
    simp only [impl_onTorus_1.l0]
    rw [if_neg (by omega)]
    congr 1
    symm; apply decide_eq_true
    intro s' h1 h2; omega
  | succ d ih =>
    intro s hd hs
    have hs1 : s < q.length := by omega
    obtain ⟨K, hK⟩ := ev_get (onTorus_innerN N hN1 hN8 q hg s hs1 (ih (s + 1) (by omega) (by omega)) s 0 (by omega) (by omega))
    refine ⟨K + 1, fun k hk => ?_⟩
    obtain ⟨k, rfl⟩ : ∃ m, k = m + 1 := ⟨k - 1, by omega⟩
    simp only [impl_onTorus_1.l0]
    rw [if_pos (by omega), if_pos (by omega), if_pos (by omega), if_pos (by omega), Option.bind_some, rd_nat _ _ hs1, show (s : Int).toNat = s by omega]
    refine (hK k (by omega)).trans ?_
    congr 1
    rw [decide_eq_decide]
    exact (torTo_step _ q s hs1).symm
end Go.Proofs.Ytnpacpdpgngdpaa.P
namespace Go.Proofs.Ytnpacpdpgngdpaa.P
open Go.RowKit Go.Proofs.YtnpacpdpgngdpaaW.PrintWords Go.Proofs.YtnpacpdpgngdpaaW.PrintLast Go.Proofs.YtnpacpdpgngdpaaW.PrintMore
set_option linter.unusedVariables false
set_option linter.unusedSimpArgs false
theorem rdL_nat (s : List (List Int)) (i : Nat) (h : i < s.length) : rd_L1 s (i : Int) = s[i] := by
  unfold rd_L1; simp [List.getD_eq_getElem?_getD, List.getElem?_eq_getElem h]
end Go.Proofs.Ytnpacpdpgngdpaa.P
namespace Go.Proofs.Ytnpacpdpgngdpaa.P
open Go.RowKit Go.Proofs.YtnpacpdpgngdpaaW.PrintWords Go.Proofs.YtnpacpdpgngdpaaW.PrintLast Go.Proofs.YtnpacpdpgngdpaaW.PrintMore
set_option linter.unusedVariables false
set_option linter.unusedSimpArgs false
theorem kSame_l0 (a : List Int) (hb : a.length ≤ 1152921504606846976) : ∀ (d i : Nat) (k : Nat), a.length - i = d → i ≤ a.length → d < k →
    laws_kSame.l0 k a a (a.length : Int) (i : Int) = some true := by
  intro d
  induction d with
  | zero =>
    intro i k hd hi hk
    obtain ⟨k, rfl⟩ : ∃ m, k = m + 1 := ⟨k - 1, by omega⟩
    rw [laws_kSame.l0, if_neg (by omega)]
  | succ d ih =>
    intro i k hd hi hk
    obtain ⟨k, rfl⟩ : ∃ m, k = m + 1 := ⟨k - 1, by omega⟩
    rw [laws_kSame.l0, if_pos (by omega), if_pos (by omega), if_pos (by omega), if_pos (by omega), if_pos rfl, w64 _ (by omega) (by omega), show ((i : Int) + 1) = ((i + 1 : Nat) : Int) by omega]
    exact ih (i + 1) k (by omega) (by omega) (by omega)
theorem kSame_refl (a : List Int) (hb : a.length ≤ 1152921504606846976) : Ev (fun k => laws_kSame.f k a a) true := by
  refine ⟨a.length + 1, fun k hk => ?_⟩
  simp only [laws_kSame.f, if_true]
  exact kSame_l0 a hb a.length 0 k (by omega) (by omega) (by omega)
theorem P_of (N : Nat) : ∀ (t q : List Int), (∀ x ∈ t, 0 ≤ x ∧ x < (N : Int)) → (q ++ t).Nodup → q ++ t ∈ P N t.length q
  | [], q, _, _ => by simp [P]
  | c :: t, q, h, hn => by
    have hc := h c (List.mem_cons_self ..)
    obtain ⟨n, rfl⟩ : ∃ n : Nat, c = (n : Int) := ⟨c.toNat, by omega⟩
    have e : q ++ (n : Int) :: t = (q ++ [(n : Int)]) ++ t := by simp
    rw [e] at hn ⊢
    rw [List.length_cons, P, List.mem_flatMap]
    refine ⟨n, by rw [List.mem_range'_1]; omega, ?_⟩
    have hq : (n : Int) ∉ q := fun hq => by
      have h1 := (List.nodup_append.1 hn).1
      exact (List.nodup_append.1 h1).2.2 _ hq _ (List.mem_singleton.2 rfl) rfl
    rw [if_neg hq]
    exact P_of N t _ (fun x hx => h x (List.mem_cons_of_mem _ hx)) hn
theorem allQ_of {N : Nat} (x : List Int) (hl : x.length = N) (hx : ∀ y ∈ x, 0 ≤ y ∧ y < (N : Int)) (hn : x.Nodup) (hf : freeB x = true) : x ∈ allQ N := by
  unfold allQ
  rw [List.mem_filter]
  have := P_of N x [] hx (by simpa using hn)
  rw [hl] at this
  exact ⟨by simpa using this, hf⟩
end Go.Proofs.Ytnpacpdpgngdpaa.P
namespace Go.Proofs.Ytnpacpdpgngdpaa.P
open Go.RowKit Go.Proofs.YtnpacpdpgngdpaaW.PrintWords Go.Proofs.YtnpacpdpgngdpaaW.PrintLast Go.Proofs.YtnpacpdpgngdpaaW.PrintMore
set_option linter.unusedVariables false
set_option linter.unusedSimpArgs false
/-- Counting over a list: each round asks 'p' of one element. -/
theorem count_loopT (L : List (List Int)) (p : List Int → Bool) (l0 : Nat → Int → Int → Option (Int × Bool)) (t : Bool) (hL : L.length ≤ 16777216)
    (hend : ∀ k x i, (L.length : Int) ≤ i → l0 (k + 1) x i = some (x, t))
    (hstep : ∀ (i : Nat) (h : i < L.length), ∃ K, ∀ k, K ≤ k → ∀ x : Int, l0 (k + 1) x (i : Int) = if p L[i] = true then l0 k (wrap64 (x + 1)) ((i + 1 : Nat) : Int) else l0 k x ((i + 1 : Nat) : Int)) :
    ∀ (d i : Nat) (x : Int), L.length - i = d → i ≤ L.length → 0 ≤ x → x ≤ i → Ev (fun k => l0 k x (i : Int)) (x + ((L.drop i).countP p : Nat), t) := by
  intro d
  induction d with
  | zero =>
    intro i x hd hi h0 h1
    refine ⟨1, fun k hk => ?_⟩
    obtain ⟨k, rfl⟩ : ∃ m, k = m + 1 := ⟨k - 1, by omega⟩
    dsimp only
    rw [hend k x i (by omega), List.drop_eq_nil_of_le (by omega)]
    simp
  | succ d ih =>
    intro i x hd hi h0 h1
    have hil : i < L.length := by omega
    obtain ⟨K1, k1⟩ := hstep i hil
    obtain ⟨K2, k2⟩ := ev_get (ih (i + 1) (x + 1) (by omega) (by omega) (by omega) (by omega))
    obtain ⟨K3, k3⟩ := ev_get (ih (i + 1) x (by omega) (by omega) (by omega) (by omega))
    refine ⟨K1 + K2 + K3 + 1, fun k hk => ?_⟩
    obtain ⟨k, rfl⟩ : ∃ m, k = m + 1 := ⟨k - 1, by omega⟩
    dsimp only
    rw [k1 k (by omega) x, w64 (x + 1) (by omega) (by omega), k2 k (by omega), k3 k (by omega), List.drop_eq_getElem_cons hil, List.countP_cons]
    by_cases hp : p L[i] = true
    · rw [if_pos hp, if_pos hp]; congr 2; omega
    · rw [if_neg hp, if_neg hp]; rfl
open Classical in
noncomputable def torG (N : Nat) (q : List Int) : Bool := decide (torTo N q 0)
theorem tor_snoc (N : Int) (q : List Int) (c : Int) (r s : Nat) (hr : r < s) (hs : s < q.length) : tor N (q ++ [c]) r s = tor N q r s := by
  unfold tor
  simp only [List.getD_eq_getElem?_getD, List.getElem?_append_left hs, List.getElem?_append_left (show r < q.length by omega)]
open Classical in
theorem torG_her (N : Nat) : Her (torG N) := by
  intro q c h
  unfold torG at h ⊢
  have h := of_decide_eq_true h
  apply decide_eq_true
  intro s h0 hs r hr0 hr
  rw [← tor_snoc N q c r s hr hs]
  exact h s h0 (by simp; omega) r hr0 hr
open Classical in
theorem torG_lim (N : Nat) (h1 : 1 ≤ N) (h8 : N ≤ 8) (q : List Int) (h : OkQ N q) : impl_CountOnTorus.good (N : Int) q = some (torG N q) := by
  obtain ⟨K, hK⟩ := ev_get (onTorus_outerN N h1 h8 q (okq_small h8 h) q.length 0 (by omega) (by omega))
  unfold impl_CountOnTorus.good
  refine Fn.lim_of (impl_onTorus_1.mono q (N : Int)) (k := K) ?_
  simp only [impl_onTorus_1.f]
  refine (hK K (Nat.le_refl _)).trans ?_
  rfl
theorem grownT_ev (N : Nat) (h1 : 1 ≤ N) (h8 : N ≤ 8) : Ev (fun k => impl_grown.f k (N : Int) ([] : List Int) (impl_CountOnTorus.good (N : Int))) ((P N N []).filter (torG N)) := by
  have hb := P_len N N []
  have hp := pow_bound h8 (Nat.le_refl N)
  obtain ⟨K, hK⟩ := ev_get (grown_ev N h8 (impl_CountOnTorus.good (N : Int)) (torG N) (fun q h => torG_lim N h1 h8 q h) (torG_her N) N [] [] (okq_nil N) (by simp) (by simp; omega))
  refine ⟨K, fun k hk => ?_⟩
  simp only [impl_grown.f, clone7 [] (by simp), Option.bind_some]
  simpa using hK k hk
theorem tor_of_att (N : Int) (q : List Int) (r s : Nat) (hrs : r < s) (h : att q r s = true) : tor N q r s = true := by
  unfold att at h
  unfold tor
  have h := of_decide_eq_true h
  apply decide_eq_true
  by_cases e : (s : Int) - r = q.getD r 0 - q.getD s 0
  · left
    rw [show ((s : Int) - r) + (q.getD s 0 - q.getD r 0) = 0 by omega]
    exact Int.dvd_zero _
  · right
    rw [show ((s : Int) - r) - (q.getD s 0 - q.getD r 0) = 0 by omega]
    exact Int.dvd_zero _
open Classical in
theorem torG_free (N : Nat) (q : List Int) (h : torG N q = true) : freeB q = true := by
  unfold torG at h
  have h := of_decide_eq_true h
  unfold freeB
  apply decide_eq_true
  intro s hs r hr
  cases ha : att q r s with
  | false => rfl
  | true =>
    have := h s (by omega) hs r (by omega) hr
    rw [tor_of_att N q r s hr ha] at this
    cases this
open Classical in
theorem torB_torG {N : Nat} {q : List Int} (hl : q.length = N) : torB q = torG N q := by
  unfold torB torG
  rw [hl]
  exact decide_eq_decide.2 (torFrom_torTo _ q)
theorem torCount (N : Nat) : (allQ N).countP torB = ((P N N []).filter (torG N)).length := by
  rw [List.countP_eq_length_filter, allQ, List.filter_filter]
  congr 1
  apply List.filter_congr
  intro x hx
  obtain ⟨_, hl, _⟩ := P_mem N N [] (okq_nil N) (by simp) x hx
  rw [torB_torG hl]
  cases h : torG N x with
  | false => simp
  | true => simp [torG_free N x h]
theorem specTor_ev (N : Nat) (h1 : 1 ≤ N) (h8 : N ≤ 8) : Ev (fun k => spec_CountOnTorus.l0 k 0 (allQ N) ((allQ N).length : Int) 0) (((allQ N).countP torB : Nat), true) := by
  have hlen := allQ_len N h8
  have := count_loopT (allQ N) torB (fun k x i => spec_CountOnTorus.l0 k x (allQ N) ((allQ N).length : Int) i) true hlen
    (fun k x i hi => by show spec_CountOnTorus.l0 (k + 1) x _ _ i = _; rw [spec_CountOnTorus.l0, if_neg (by omega)])
    (fun i hi => by
      obtain ⟨ho, hl⟩ := allQ_row (List.getElem_mem hi)
      obtain ⟨K1, k1⟩ := ev_get (quTorus_ev (allQ N)[i] (okq_small h8 ho))
      refine ⟨K1, fun k hk x => ?_⟩
      show spec_CountOnTorus.l0 (k + 1) x _ _ (i : Int) = _
      rw [spec_CountOnTorus.l0, if_pos (by omega), if_pos (by omega), if_pos (by omega), rdL_nat _ _ hi, k1 k (by omega), Option.bind_some, w64 ((i : Int) + 1) (by omega) (by omega), show ((i : Int) + 1) = ((i + 1 : Nat) : Int) by omega])
    (allQ N).length 0 0 (by omega) (by omega) (by omega) (by omega)
  simpa using this
end Go.Proofs.Ytnpacpdpgngdpaa.P
namespace Go.Proofs.Ytnpacpdpgngdpaa.P
open Go.RowKit Go.Proofs.YtnpacpdpgngdpaaW.PrintWords Go.Proofs.YtnpacpdpgngdpaaW.PrintLast Go.Proofs.YtnpacpdpgngdpaaW.PrintMore
set_option linter.unusedVariables false
set_option linter.unusedSimpArgs false
theorem tmod_gt (a n : Int) (hn : 0 < n) : -n < Int.tmod a n := by
  by_cases h : 0 ≤ a
  · have := Int.tmod_nonneg n h; omega
  · have h2 := Int.tmod_lt_of_pos (-a) hn
    rw [Int.neg_tmod] at h2
    omega
theorem tmod_twice (a n : Int) (hn : 0 < n) : Int.tmod (Int.tmod a n + n) n = a % n := by
  have h1 := Int.tmod_lt_of_pos a hn
  have h2 : -n < Int.tmod a n := tmod_gt a n hn
  rw [Int.tmod_eq_emod_of_nonneg (by omega), Int.add_emod_right]
  have := Int.tmod_add_mul_tdiv a n
  rw [show Int.tmod a n = a - n * Int.tdiv a n by omega, Int.sub_mul_emod_self_left]
theorem tmod_hundred (a n : Int) (hn : 0 < n) (h : 0 ≤ a + 100 * n) : Int.tmod (a + 100 * n) n = a % n := by
  rw [Int.tmod_eq_emod_of_nonneg h]
  simp
def shiftGo (n rows columns : Int) : List Int → Nat → List Int → List Int
  | [], _, acc => acc
  | c :: cs, i, acc => shiftGo n rows columns cs (i + 1) (acc.set (((i : Int) + rows) % n).toNat ((c + columns) % n))
theorem shiftGo_length (n rows columns : Int) : ∀ (cs : List Int) (i : Nat) (acc : List Int), (shiftGo n rows columns cs i acc).length = acc.length
  | [], _, _ => rfl
  | _ :: cs, i, acc => by rw [shiftGo, shiftGo_length n rows columns cs]; simp
def shiftL (q : List Int) (rows columns : Int) : List Int := shiftGo q.length rows columns q 0 (List.replicate q.length 0)
theorem shiftL_length (q : List Int) (rows columns : Int) : (shiftL q rows columns).length = q.length := by unfold shiftL; rw [shiftGo_length]; simp
theorem quMod_eq (a n : Int) (hn : 0 < n) (hn2 : n ≤ 8) (ha : -1000 ≤ a) (ha2 : a ≤ 1000) : spec_quMod.f a n = some (a % n) := by
  have h1 := Int.tmod_lt_of_pos a hn
  have h2 : -n < Int.tmod a n := tmod_gt a n hn
  unfold spec_quMod.f
  rw [if_neg (by omega), w64 _ (by omega) (by omega), tmod_twice a n hn]
theorem specShift_l0 (q : List Int) (hg : goodB q = true) (rows columns : Int) (hr : -100 ≤ rows ∧ rows ≤ 100) (hc : -100 ≤ columns ∧ columns ≤ 100) : ∀ (d i : Nat) (acc : List Int) (k : Nat), q.length - i = d → i ≤ q.length → d < k → acc.length = q.length →
    spec_ShiftQueens.l0 k rows columns (q.length : Int) acc q (q.length : Int) (i : Int) = some (shiftGo q.length rows columns (q.drop i) i acc, true) := by
  have hl := good_len hg
  intro d
  induction d with
  | zero =>
    intro i acc k hd hi hk ha
    obtain ⟨k, rfl⟩ : ∃ m, k = m + 1 := ⟨k - 1, by omega⟩
    rw [spec_ShiftQueens.l0, if_neg (by omega), List.drop_eq_nil_of_le (by omega), shiftGo]
  | succ d ih =>
    intro i acc k hd hi hk ha
    obtain ⟨k, rfl⟩ : ∃ m, k = m + 1 := ⟨k - 1, by omega⟩
    have h1 : i < q.length := by omega
    have hx := good_at hg i h1
    have hm := Int.emod_lt_of_pos ((i : Int) + rows) (show (0 : Int) < q.length by omega)
    have hm0 := Int.emod_nonneg ((i : Int) + rows) (show (q.length : Int) ≠ 0 by omega)
    rw [spec_ShiftQueens.l0, if_pos (by omega), if_pos (by omega), if_pos (by omega), rd_nat _ _ h1, w64 ((i : Int) + rows) (by omega) (by omega), w64 (q[i] + columns) (by omega) (by omega), quMod_eq _ _ (by omega) (by omega) (by omega) (by omega), quMod_eq _ _ (by omega) (by omega) (by omega) (by omega)]
    simp only [Option.bind_some]
    rw [if_pos hm0, if_pos (by omega), w64 _ (by omega) (by omega)]
    rw [show ((i : Int) + 1) = ((i + 1 : Nat) : Int) by omega, ih (i + 1) _ k (by omega) (by omega) (by omega) (by simp [ha]), drop_cons q i h1, shiftGo]
theorem implShift_l0 (q : List Int) (hg : goodB q = true) (rows columns : Int) (hr : -100 ≤ rows ∧ rows ≤ 100) (hc : -100 ≤ columns ∧ columns ≤ 100) : ∀ (d i : Nat) (acc : List Int) (k : Nat), q.length - i = d → i ≤ q.length → d < k → acc.length = q.length →
    impl_ShiftQueens.l0 k rows columns (q.length : Int) acc q (q.length : Int) (i : Int) = some (shiftGo q.length rows columns (q.drop i) i acc, true) := by
  have hl := good_len hg
  intro d
  induction d with
  | zero =>
    intro i acc k hd hi hk ha
    obtain ⟨k, rfl⟩ : ∃ m, k = m + 1 := ⟨k - 1, by omega⟩
    rw [impl_ShiftQueens.l0, if_neg (by omega), List.drop_eq_nil_of_le (by omega), shiftGo]
  | succ d ih =>
    intro i acc k hd hi hk ha
    obtain ⟨k, rfl⟩ : ∃ m, k = m + 1 := ⟨k - 1, by omega⟩
    have h1 : i < q.length := by omega
    have hx := good_at hg i h1
    have hm := Int.emod_lt_of_pos ((i : Int) + rows) (show (0 : Int) < q.length by omega)
    have hm0 := Int.emod_nonneg ((i : Int) + rows) (show (q.length : Int) ≠ 0 by omega)
    rw [impl_ShiftQueens.l0, if_pos (by omega), if_pos (by omega), if_pos (by omega), if_neg (by omega), rd_nat _ _ h1, w64 (100 * (q.length : Int)) (by omega) (by omega), w64 ((i : Int) + rows) (by omega) (by omega), w64 (q[i] + columns) (by omega) (by omega), w64 ((i : Int) + rows + 100 * (q.length : Int)) (by omega) (by omega), w64 (q[i] + columns + 100 * (q.length : Int)) (by omega) (by omega),
      tmod_hundred _ _ (by omega) (by omega), tmod_hundred _ _ (by omega) (by omega)]
    rw [if_pos hm0, if_pos (by omega), w64 _ (by omega) (by omega)]
    rw [show ((i : Int) + 1) = ((i + 1 : Nat) : Int) by omega, ih (i + 1) _ k (by omega) (by omega) (by omega) (by simp [ha]), drop_cons q i h1, shiftGo]
def shiftR (q : List Int) (rows columns : Int) : List Int × Bool := if goodB q = true ∧ inB rows (-100) 100 = true ∧ inB columns (-100) 100 = true then (shiftL q rows columns, true) else ([], false)
theorem specShift_ev (q : List Int) (rows columns : Int) (hb : q.length ≤ 1152921504606846976) : Ev (fun k => spec_ShiftQueens.f k q rows columns) (shiftR q rows columns) := by
  obtain ⟨K1, h1⟩ := ev_get (quGood_ev q hb)
  unfold shiftR
  by_cases hg : goodB q = true
  · have hl := good_len hg
    by_cases hr : inB rows (-100) 100 = true
    · by_cases hc : inB columns (-100) 100 = true
      · refine ⟨K1 + q.length + 2, fun k hk => ?_⟩
        simp only [spec_ShiftQueens.f, h1 k (by omega), l1In_eq, Option.bind_some, hg, hr, hc, if_true]
        obtain ⟨k, rfl⟩ : ∃ m, k = m + 1 := ⟨k - 1, by omega⟩
        rw [spec_ShiftQueens.j0, if_neg (by simp), if_pos (by omega), if_pos (by omega)]
        have := specShift_l0 q hg rows columns (by simpa [inB] using hr) (by simpa [inB] using hc) q.length 0 (List.replicate q.length 0) k (by omega) (by omega) (by omega) (by simp)
        simpa [shiftL] using this
      · refine ⟨K1 + 1, fun k hk => ?_⟩
        simp only [spec_ShiftQueens.f, h1 k (by omega), l1In_eq, Option.bind_some, hg, hr, hc, if_true]
        obtain ⟨k, rfl⟩ : ∃ m, k = m + 1 := ⟨k - 1, by omega⟩
        rw [spec_ShiftQueens.j0, if_pos (by simp)]
        simp
    · refine ⟨K1 + 1, fun k hk => ?_⟩
      simp only [spec_ShiftQueens.f, h1 k (by omega), l1In_eq, Option.bind_some, hg, hr, if_true]
      obtain ⟨k, rfl⟩ : ∃ m, k = m + 1 := ⟨k - 1, by omega⟩
      rw [if_neg (by simp), spec_ShiftQueens.j0, if_pos rfl]
      simp
  · refine ⟨K1 + 1, fun k hk => ?_⟩
    simp only [spec_ShiftQueens.f, h1 k (by omega), Option.bind_some, hg, if_true]
    obtain ⟨k, rfl⟩ : ∃ m, k = m + 1 := ⟨k - 1, by omega⟩
    rw [if_neg (by simp), spec_ShiftQueens.j0, if_pos rfl]
    simp
theorem isShift_eq (n : Int) : impl_isShift.f n = some (inB n (-100) 100) := by
  simp only [impl_isShift.f, within_eq, Option.bind_some]
theorem implShift_ev (q : List Int) (rows columns : Int) (hb : q.length ≤ 1152921504606846976) : Ev (fun k => impl_ShiftQueens.f k q rows columns) (shiftR q rows columns) := by
  obtain ⟨K1, h1⟩ := ev_get (isList_ev q hb)
  unfold shiftR
  by_cases hg : goodB q = true
  · have hl := good_len hg
    by_cases hr : inB rows (-100) 100 = true
    · by_cases hc : inB columns (-100) 100 = true
      · refine ⟨K1 + q.length + 2, fun k hk => ?_⟩
        simp only [impl_ShiftQueens.f, h1 k (by omega), isShift_eq, Option.bind_some, hg, hr, hc, if_true]
        obtain ⟨k, rfl⟩ : ∃ m, k = m + 1 := ⟨k - 1, by omega⟩
        rw [impl_ShiftQueens.j0, if_neg (by simp), if_pos (by omega), if_pos (by omega)]
        have := implShift_l0 q hg rows columns (by simpa [inB] using hr) (by simpa [inB] using hc) q.length 0 (List.replicate q.length 0) k (by omega) (by omega) (by omega) (by simp)
        simpa [shiftL] using this
      · refine ⟨K1 + 1, fun k hk => ?_⟩
        simp only [impl_ShiftQueens.f, h1 k (by omega), isShift_eq, Option.bind_some, hg, hr, hc, if_true]
        obtain ⟨k, rfl⟩ : ∃ m, k = m + 1 := ⟨k - 1, by omega⟩
        rw [impl_ShiftQueens.j0, if_pos (by simp)]
        simp
    · refine ⟨K1 + 1, fun k hk => ?_⟩
      simp only [impl_ShiftQueens.f, h1 k (by omega), isShift_eq, Option.bind_some, hg, hr, if_true]
      obtain ⟨k, rfl⟩ : ∃ m, k = m + 1 := ⟨k - 1, by omega⟩
      rw [if_neg (by simp), impl_ShiftQueens.j0, if_pos rfl]
      simp
  · refine ⟨K1 + 1, fun k hk => ?_⟩
    simp only [impl_ShiftQueens.f, h1 k (by omega), Option.bind_some, hg, if_true]
    obtain ⟨k, rfl⟩ : ∃ m, k = m + 1 := ⟨k - 1, by omega⟩
    rw [if_neg (by simp), impl_ShiftQueens.j0, if_pos rfl]
    simp
theorem shiftR_len (q : List Int) (rows columns : Int) : (shiftR q rows columns).1.length ≤ 8 := by
  unfold shiftR
  split
  · rename_i h; have := good_len h.1; rw [shiftL_length]; omega
  · simp
end Go.Proofs.Ytnpacpdpgngdpaa.P
namespace Go.Proofs.Ytnpacpdpgngdpaa.P
open Go.RowKit Go.Proofs.YtnpacpdpgngdpaaW.PrintWords Go.Proofs.YtnpacpdpgngdpaaW.PrintLast Go.Proofs.YtnpacpdpgngdpaaW.PrintMore
set_option linter.unusedVariables false
set_option linter.unusedSimpArgs false
/-- Where the place j comes from. -/
theorem shift_pos (n R j i : Int) (hn : 0 < n) (hj0 : 0 ≤ j) (hj : j < n) (hi0 : 0 ≤ i) (hi : i < n) : j = (i + R) % n ↔ (j - R) % n = i := by
  constructor
  · rintro rfl
    rw [Int.emod_sub_emod, Int.add_sub_cancel, Int.emod_eq_of_lt hi0 hi]
  · rintro rfl
    rw [Int.emod_add_emod, Int.sub_add_cancel, Int.emod_eq_of_lt hj0 hj]
theorem shiftGo_get (n R C : Int) (hn : 0 < n) (j : Nat) (hj : (j : Int) < n) : ∀ (cs : List Int) (i : Nat) (acc : List Int), (i : Int) + cs.length = n → j < acc.length →
    (shiftGo n R C cs i acc).getD j 0 = if (i : Int) ≤ ((j : Int) - R) % n then (cs.getD ((((j : Int) - R) % n).toNat - i) 0 + C) % n else acc.getD j 0
  | [], i, acc, hl, ha => by
    have : ((j : Int) - R) % n < n := Int.emod_lt_of_pos _ hn
    simp only [List.length_nil] at hl
    rw [shiftGo, if_neg (by omega)]
  | c :: cs, i, acc, hl, ha => by
    have h0 : 0 ≤ ((j : Int) - R) % n := Int.emod_nonneg _ (by omega)
    have h1 : ((j : Int) - R) % n < n := Int.emod_lt_of_pos _ hn
    simp only [List.length_cons] at hl
    rw [shiftGo, shiftGo_get n R C hn j hj cs (i + 1) _ (by omega) (by simpa using ha)]
    have hp := shift_pos n R j i hn (by omega) hj (by omega) (by omega)
    have hq0 : 0 ≤ ((i : Int) + R) % n := Int.emod_nonneg _ (by omega)
    by_cases h2 : ((i + 1 : Nat) : Int) ≤ ((j : Int) - R) % n
    · rw [if_pos h2, if_pos (by omega)]
      obtain ⟨m, hm⟩ : ∃ m, (((j : Int) - R) % n).toNat - i = m + 1 := ⟨(((j : Int) - R) % n).toNat - i - 1, by omega⟩
      rw [hm, show (((j : Int) - R) % n).toNat - (i + 1) = m by omega]
      simp
    · rw [if_neg h2]
      by_cases h3 : ((j : Int) - R) % n = i
      · have e : (((i : Int) + R) % n).toNat = j := by rw [← hp.2 h3]; simp
        rw [if_pos (by omega), e, h3, Int.toNat_natCast, Nat.sub_self]
        simp [List.getD_eq_getElem?_getD, ha]
      · have e : (((i : Int) + R) % n).toNat ≠ j := fun e => h3 (hp.1 (by omega))
        rw [if_neg (by omega)]
        simp [List.getD_eq_getElem?_getD, List.getElem?_set, e]
theorem shiftL_get (q : List Int) (R C : Int) (j : Nat) (hj : j < q.length) : (shiftL q R C).getD j 0 = (q.getD (((j : Int) - R) % q.length).toNat 0 + C) % q.length := by
  unfold shiftL
  rw [shiftGo_get (q.length : Int) R C (by omega) j (by omega) q 0 _ (by simp) (by simpa using hj), if_pos (show ((0 : Nat) : Int) ≤ ((j : Int) - R) % (q.length : Int) from by have := Int.emod_nonneg ((j : Int) - R) (show (q.length : Int) ≠ 0 by omega); omega)]
  simp
/-- The place that a place comes from is a place. -/
theorem from_lt (q : List Int) (R : Int) (j : Nat) (hj : j < q.length) : (((j : Int) - R) % q.length).toNat < q.length := by
  have h0 : 0 ≤ ((j : Int) - R) % (q.length : Int) := Int.emod_nonneg _ (by omega)
  have h1 : ((j : Int) - R) % (q.length : Int) < q.length := Int.emod_lt_of_pos _ (by omega)
  omega
theorem shift_good {q : List Int} (hg : goodB q = true) (R C : Int) : goodB (shiftL q R C) = true := by
  have hl := good_len hg
  have hq := (goodB_iff q).1 hg
  rw [goodB_iff, shiftL_length]
  refine ⟨hl.1, hl.2, ?_, ?_⟩
  · intro x hx
    obtain ⟨j, hj, rfl⟩ := List.getElem_of_mem hx
    rw [shiftL_length] at hj
    rw [← getD_eq _ _ (by rw [shiftL_length]; exact hj), shiftL_get q R C j hj]
    have h0 := Int.emod_nonneg (q.getD (((j : Int) - R) % q.length).toNat 0 + C) (show (q.length : Int) ≠ 0 by omega)
    have h1 := Int.emod_lt_of_pos (q.getD (((j : Int) - R) % q.length).toNat 0 + C) (show (0 : Int) < q.length by omega)
    omega
  · rw [List.nodup_iff_pairwise_ne, List.pairwise_iff_getElem]
    intro i j hi hj hij e
    rw [shiftL_length] at hi hj
    rw [← getD_eq _ _ (by rw [shiftL_length]; exact hi), ← getD_eq _ _ (by rw [shiftL_length]; exact hj), shiftL_get q R C i hi, shiftL_get q R C j hj] at e
    have h1 := from_lt q R i hi
    have h2 := from_lt q R j hj
    rw [getD_eq _ _ h1, getD_eq _ _ h2] at e
    have a1 := good_at hg _ h1
    have a2 := good_at hg _ h2
    have e2 : q[(((i : Int) - R) % q.length).toNat] = q[(((j : Int) - R) % q.length).toNat] := by
      have h3 := Int.emod_emod_of_dvd
      have d : (q.length : Int) ∣ (q[(((i : Int) - R) % q.length).toNat] + C) - (q[(((j : Int) - R) % q.length).toNat] + C) := Int.dvd_of_emod_eq_zero (by rw [Int.sub_emod, e]; simp)
      rw [show (q[(((i : Int) - R) % q.length).toNat] + C) - (q[(((j : Int) - R) % q.length).toNat] + C) = q[(((i : Int) - R) % q.length).toNat] - q[(((j : Int) - R) % q.length).toNat] by omega] at d
      obtain ⟨z, hz⟩ := d
      have hz0 : z = 0 := by
        have b1 : (q.length : Int) * z < q.length := by omega
        have b2 : -(q.length : Int) < q.length * z := by omega
        rcases Int.lt_trichotomy z 0 with h | h | h
        · have : (q.length : Int) * z ≤ q.length * (-1) := Int.mul_le_mul_of_nonneg_left (by omega) (by omega)
          omega
        · exact h
        · have : (q.length : Int) * 1 ≤ q.length * z := Int.mul_le_mul_of_nonneg_left (by omega) (by omega)
          omega
      subst hz0
      omega
    have e3 := (List.getElem_inj hq.2.2.2).1 e2
    have c0 : 0 ≤ ((i : Int) - R) % (q.length : Int) := Int.emod_nonneg _ (by omega)
    have c1 : 0 ≤ ((j : Int) - R) % (q.length : Int) := Int.emod_nonneg _ (by omega)
    have e4 : ((i : Int) - R) % (q.length : Int) = ((j : Int) - R) % (q.length : Int) := by omega
    have p1 := (shift_pos q.length R i _ (by omega) (by omega) (by omega) c0 (by omega)).2 rfl
    have p2 := (shift_pos q.length R j _ (by omega) (by omega) (by omega) c1 (by omega)).2 rfl
    rw [e4] at p1
    omega
theorem shift_back {q : List Int} (hg : goodB q = true) (R C : Int) : shiftL (shiftL q R C) (-R) (-C) = q := by
  have hl := good_len hg
  apply List.ext_getElem
  · rw [shiftL_length, shiftL_length]
  · intro j h1 h2
    have hl2 := shiftL_length q R C
    rw [← getD_eq _ _ h1, shiftL_get _ _ _ j (by rw [hl2]; exact h2)]
    have h3 := from_lt (shiftL q R C) (-R) j (by rw [hl2]; exact h2)
    rw [hl2] at h3 ⊢
    rw [shiftL_get q R C _ h3]
    have c0 : 0 ≤ ((j : Int) - -R) % (q.length : Int) := Int.emod_nonneg _ (by omega)
    have e1 : ((((((j : Int) - -R) % (q.length : Int)).toNat : Nat) : Int) - R) % (q.length : Int) = j := by
      rw [show (((((j : Int) - -R) % (q.length : Int)).toNat : Nat) : Int) = ((j : Int) - -R) % (q.length : Int) by omega, Int.emod_sub_emod, show (j : Int) - -R - R = j by omega]
      exact Int.emod_eq_of_lt (by omega) (by omega)
    rw [e1, Int.toNat_natCast, getD_eq _ _ h2, Int.emod_add_emod, show q[j] + C + -C = q[j] by omega]
    have := good_at hg j h2
    exact Int.emod_eq_of_lt (by omega) (by omega)
/-- Two rows attack each other on a torus, whichever of them comes first. -/
def torP (n : Int) (q : List Int) (r s : Nat) : Prop := n ∣ ((s : Int) - r) + (q.getD s 0 - q.getD r 0) ∨ n ∣ ((s : Int) - r) - (q.getD s 0 - q.getD r 0)
theorem torP_symm {n : Int} {q : List Int} {r s : Nat} (h : torP n q r s) : torP n q s r := by
  rcases h with h | h
  · left
    have := Int.dvd_neg.2 h
    rw [show -(((s : Int) - r) + (q.getD s 0 - q.getD r 0)) = ((r : Int) - s) + (q.getD r 0 - q.getD s 0) by omega] at this
    exact this
  · right
    have := Int.dvd_neg.2 h
    rw [show -(((s : Int) - r) - (q.getD s 0 - q.getD r 0)) = ((r : Int) - s) - (q.getD r 0 - q.getD s 0) by omega] at this
    exact this
theorem torB_iff (q : List Int) : torB q = true ↔ ∀ r s : Nat, r < q.length → s < q.length → r ≠ s → ¬ torP q.length q r s := by
  classical
  unfold torB
  rw [decide_eq_true_iff]
  constructor
  · intro h r s hr hs hne hp
    rcases Nat.lt_or_gt_of_ne hne with hlt | hlt
    · have := h r (by omega) s (by omega) hs
      unfold tor at this
      exact of_decide_eq_false this hp
    · have := h s (by omega) r (by omega) hr
      unfold tor at this
      exact of_decide_eq_false this (torP_symm hp)
  · intro h r _ s hs hsl
    unfold tor
    exact decide_eq_false (h r s (by omega) hsl (by omega))
theorem dvd_shift {n a b : Int} (h : n ∣ a - b) : n ∣ a ↔ n ∣ b := by
  constructor
  · intro h1
    have := Int.dvd_sub h1 h
    rwa [show a - (a - b) = b by omega] at this
  · intro h1
    have := Int.dvd_add h h1
    rwa [show a - b + b = a by omega] at this
theorem emod_sub_dvd (a n : Int) : n ∣ a % n - a := by
  have := Int.emod_add_mul_ediv a n
  exact ⟨-(a / n), by rw [Int.mul_neg]; omega⟩
theorem torP_shift (q : List Int) (R C : Int) (i j : Nat) (hi : i < q.length) (hj : j < q.length) :
    torP q.length (shiftL q R C) i j ↔ torP q.length q (((i : Int) - R) % q.length).toNat (((j : Int) - R) % q.length).toNat := by
  unfold torP
  rw [shiftL_get q R C i hi, shiftL_get q R C j hj]
  have c0 : 0 ≤ ((i : Int) - R) % (q.length : Int) := Int.emod_nonneg _ (by omega)
  have c1 : 0 ≤ ((j : Int) - R) % (q.length : Int) := Int.emod_nonneg _ (by omega)
  rw [show (((((i : Int) - R) % (q.length : Int)).toNat : Nat) : Int) = ((i : Int) - R) % (q.length : Int) by omega, show (((((j : Int) - R) % (q.length : Int)).toNat : Nat) : Int) = ((j : Int) - R) % (q.length : Int) by omega]
  generalize q.getD (((i : Int) - R) % q.length).toNat 0 = x
  generalize q.getD (((j : Int) - R) % q.length).toNat 0 = y
  have d1 := emod_sub_dvd (x + C) q.length
  have d2 := emod_sub_dvd (y + C) q.length
  have d3 := emod_sub_dvd ((i : Int) - R) q.length
  have d4 := emod_sub_dvd ((j : Int) - R) q.length
  generalize (x + C) % (q.length : Int) = x' at *
  generalize (y + C) % (q.length : Int) = y' at *
  generalize ((i : Int) - R) % (q.length : Int) = i' at *
  generalize ((j : Int) - R) % (q.length : Int) = j' at *
  have e1 : (q.length : Int) ∣ (((j : Int) - i) + (y' - x')) - ((j' - i') + (y - x)) := by
    have := Int.dvd_sub (Int.dvd_add d2 d3) (Int.dvd_add d1 d4)
    rwa [show (y' - (y + C) + (i' - ((i : Int) - R))) - (x' - (x + C) + (j' - ((j : Int) - R))) = (((j : Int) - i) + (y' - x')) - ((j' - i') + (y - x)) by omega] at this
  have e2 : (q.length : Int) ∣ (((j : Int) - i) - (y' - x')) - ((j' - i') - (y - x)) := by
    have := Int.dvd_sub (Int.dvd_add d1 d3) (Int.dvd_add d2 d4)
    rwa [show (x' - (x + C) + (i' - ((i : Int) - R))) - (y' - (y + C) + (j' - ((j : Int) - R))) = (((j : Int) - i) - (y' - x')) - ((j' - i') - (y - x)) by omega] at this
  rw [dvd_shift e1, dvd_shift e2]
theorem shift_torus {q : List Int} (hg : goodB q = true) (R C : Int) : torB (shiftL q R C) = torB q := by
  have hl := good_len hg
  rw [Bool.eq_iff_iff, torB_iff, torB_iff, shiftL_length]
  have key : ∀ i : Nat, i < q.length → (((((i : Int) + R) % q.length).toNat : Nat) : Int) = ((i : Int) + R) % q.length ∧ (((i : Int) + R) % q.length).toNat < q.length ∧ (((((((i : Int) + R) % q.length).toNat : Nat) : Int) - R) % q.length).toNat = i := by
    intro i hi
    have c0 : 0 ≤ ((i : Int) + R) % (q.length : Int) := Int.emod_nonneg _ (by omega)
    have c1 : ((i : Int) + R) % (q.length : Int) < q.length := Int.emod_lt_of_pos _ (by omega)
    have e : (((((i : Int) + R) % q.length).toNat : Nat) : Int) = ((i : Int) + R) % q.length := by omega
    refine ⟨e, by omega, ?_⟩
    rw [e, (shift_pos q.length R _ i (by omega) c0 c1 (by omega) (by omega)).1 rfl]
    simp
  constructor
  · intro h r s hr hs hne hp
    obtain ⟨a1, a2, a3⟩ := key r hr
    obtain ⟨b1, b2, b3⟩ := key s hs
    refine h _ _ a2 b2 (fun e => hne ?_) ?_
    · rw [← a3, e, b3]
    · rw [torP_shift q R C _ _ a2 b2, a3, b3]
      exact hp
  · intro h i j hi hj hne hp
    rw [torP_shift q R C i j hi hj] at hp
    refine h _ _ (from_lt q R i hi) (from_lt q R j hj) (fun e => hne ?_) hp
    have c0 : 0 ≤ ((i : Int) - R) % (q.length : Int) := Int.emod_nonneg _ (by omega)
    have c1 : 0 ≤ ((j : Int) - R) % (q.length : Int) := Int.emod_nonneg _ (by omega)
    have d0 := from_lt q R i hi
    have d1 := from_lt q R j hj
    have p1 := (shift_pos q.length R i _ (by omega) (by omega) (by omega) c0 (by omega)).2 rfl
    have p2 := (shift_pos q.length R j _ (by omega) (by omega) (by omega) c1 (by omega)).2 rfl
    rw [show ((i : Int) - R) % (q.length : Int) = ((j : Int) - R) % (q.length : Int) by omega] at p1
    omega
theorem torus_free {q : List Int} (h : torB q = true) : freeB q = true := torG_free q.length q (by rw [← torB_torG rfl]; exact h)
def torC (N : Nat) (q : List Int) : Bool := (List.range q.length).all fun s => (List.range s).all fun r => !(decide (((s : Int) - r + (q.getD s 0 - q.getD r 0)) % N = 0) || decide (((s : Int) - r - (q.getD s 0 - q.getD r 0)) % N = 0))
theorem torC_eq (N : Nat) (q : List Int) : torG N q = torC N q := by
  classical
  unfold torG torC
  rw [Bool.eq_iff_iff, decide_eq_true_iff]
  simp only [List.all_eq_true, List.mem_range, Bool.not_eq_true', Bool.or_eq_false_iff, decide_eq_false_iff_not]
  constructor
  · intro h s hs r hr
    have := h s (by omega) hs r (by omega) hr
    unfold tor at this
    have := of_decide_eq_false this
    rw [not_or] at this
    exact ⟨fun e => this.1 (Int.dvd_of_emod_eq_zero e), fun e => this.2 (Int.dvd_of_emod_eq_zero e)⟩
  · intro h s _ hs r _ hr
    have := h s hs r hr
    unfold tor
    apply decide_eq_false
    rw [not_or]
    exact ⟨fun e => this.1 (Int.emod_eq_zero_of_dvd e), fun e => this.2 (Int.emod_eq_zero_of_dvd e)⟩
/-- Whether a list can be gone on with, row by row. -/
def goes (N : Nat) : Nat → List Int → Bool
  | 0, _ => true
  | d + 1, q => (List.range N).any fun c => !(decide ((c : Int) ∈ q)) && (torC N (q ++ [(c : Int)]) && goes N d (q ++ [(c : Int)]))
theorem goes_of (N : Nat) : ∀ (d : Nat) (q : List Int), (∃ t, t.length = d ∧ (q ++ t) ∈ P N d q ∧ torG N (q ++ t) = true) → goes N d q = true
  | 0, _, _ => rfl
  | d + 1, q, ⟨t, ht, hm, hg⟩ => by
    rw [P, List.mem_flatMap] at hm
    obtain ⟨c, hc, hm⟩ := hm
    rw [List.mem_range'_1] at hc
    split at hm
    · simp at hm
    rename_i hq
    obtain ⟨t2, ht2⟩ : ∃ t2, q ++ t = (q ++ [(c : Int)]) ++ t2 := by
      have pre : ∀ (d : Nat) (q x : List Int), x ∈ P N d q → ∃ t, x = q ++ t := by
        intro d
        induction d with
        | zero => intro q x hx; rw [P, List.mem_singleton] at hx; exact ⟨[], by simp [hx]⟩
        | succ d ih =>
          intro q x hx
          rw [P, List.mem_flatMap] at hx
          obtain ⟨c, _, hx⟩ := hx
          split at hx
          · simp at hx
          · obtain ⟨t, rfl⟩ := ih _ _ hx
            exact ⟨(c : Int) :: t, by simp⟩
      exact pre d _ _ hm
    unfold goes
    rw [List.any_eq_true]
    refine ⟨c, List.mem_range.2 (by omega), ?_⟩
    rw [ht2] at hm hg
    have hl : t2.length = d := by
      have := congrArg List.length ht2
      simp at this
      omega
    have h1 : torC N (q ++ [(c : Int)]) = true := by rw [← torC_eq]; exact her_pre (torG_her N) t2 _ hg
    have h2 := goes_of N d (q ++ [(c : Int)]) ⟨t2, hl, hm, hg⟩
    rw [h1, h2]
    simp [hq]
theorem torus_none (N : Nat) (h : goes N N [] = false) : (allQ N).countP torB = 0 := by
  rw [torCount, List.length_eq_zero_iff, List.filter_eq_nil_iff]
  intro x hx hg
  obtain ⟨_, hl, _⟩ := P_mem N N [] (okq_nil N) (by simp) x hx
  have := goes_of N N [] ⟨x, hl, by simpa using hx, by simpa using hg⟩
  rw [h] at this
  cases this
theorem torus_one {N : Nat} (x : List Int) (hl : x.length = N) (hx : ∀ y ∈ x, 0 ≤ y ∧ y < (N : Int)) (hn : x.Nodup) (hf : freeB x = true) (ht : torC N x = true) : (allQ N).countP torB ≠ 0 := by
  have := allQ_of x hl hx hn hf
  intro h
  rw [List.countP_eq_zero] at h
  exact h x this (by rw [torB_torG hl, torC_eq]; exact ht)
theorem torus_some {N : Nat} (h1 : 1 ≤ N) (h8 : N ≤ 8) : (allQ N).countP torB ≠ 0 ↔ N % 2 ≠ 0 ∧ N % 3 ≠ 0 := by
  obtain rfl | rfl | rfl | rfl | rfl | rfl | rfl | rfl : N = 1 ∨ N = 2 ∨ N = 3 ∨ N = 4 ∨ N = 5 ∨ N = 6 ∨ N = 7 ∨ N = 8 := by omega
  · exact ⟨fun _ => by decide, fun _ => torus_one [0] rfl (by decide) (by decide) (by decide +kernel) (by decide +kernel)⟩
  · exact ⟨fun h => (h (torus_none 2 (by decide +kernel))).elim, fun h => absurd h (by decide)⟩
  · exact ⟨fun h => (h (torus_none 3 (by decide +kernel))).elim, fun h => absurd h (by decide)⟩
  · exact ⟨fun h => (h (torus_none 4 (by decide +kernel))).elim, fun h => absurd h (by decide)⟩
  · exact ⟨fun _ => by decide, fun _ => torus_one [0, 2, 4, 1, 3] rfl (by decide) (by decide) (by decide +kernel) (by decide +kernel)⟩
  · exact ⟨fun h => (h (torus_none 6 (by decide +kernel))).elim, fun h => absurd h (by decide)⟩
  · exact ⟨fun _ => by decide, fun _ => torus_one [0, 2, 4, 6, 1, 3, 5] rfl (by decide) (by decide) (by decide +kernel) (by decide +kernel)⟩
  · exact ⟨fun h => (h (torus_none 8 (by decide +kernel))).elim, fun h => absurd h (by decide)⟩
theorem straight_all : ∀ m : Fin 9, ∀ s : Fin 9, 4 ≤ m.val → (straightR (m.val : Int) (s.val : Int)).2 = true →
    torC m.val (straightL (m.val : Int) (s.val : Int)) = ((straightR (m.val : Int) (((s.val : Int) + 1) % (m.val : Int))).2 && (straightR (m.val : Int) (((s.val : Int) + m.val - 1) % (m.val : Int))).2) := by decide +kernel
end Go.Proofs.Ytnpacpdpgngdpaa.P
namespace Go.Proofs.Ytnpacpdpgngdpaa.Pure
open Go.RowKit Go.Proofs.Ytnpacpdpgngdpaa.P Go.Proofs.YtnpacpdpgngdpaaW.PrintWords Go.Proofs.YtnpacpdpgngdpaaW.PrintLast
set_option linter.unusedSimpArgs false
set_option linter.unusedVariables false
namespace FnExactShiftQueens
def R (q : List Int) (rows columns : Int) : List Int × Bool := shiftR q rows columns
theorem spec_ev (q : List Int) (rows columns : Int) (hb : q.length ≤ 1152921504606846976) : Ev (fun k => spec_ShiftQueens.f k q rows columns) (R q rows columns) := specShift_ev q rows columns hb
theorem impl_ev (q : List Int) (rows columns : Int) (hb : q.length ≤ 1152921504606846976) : Ev (fun k => impl_ShiftQueens.f k q rows columns) (R q rows columns) := implShift_ev q rows columns hb
end FnExactShiftQueens
namespace FnExactAreOnTorus
noncomputable def R (q : List Int) : Bool × Bool := if goodB q = true then (torB q, true) else (false, false)
theorem spec_ev (q : List Int) (hb : q.length ≤ 1152921504606846976) : Ev (fun k => spec_AreOnTorus.f k q) (R q) := by
  obtain ⟨K1, h1⟩ := ev_get (quGood_ev q hb)
  unfold R
  by_cases h : goodB q = true
  · obtain ⟨K2, h2⟩ := ev_get (quTorus_ev q (good_small h))
    refine ⟨K1 + K2, fun k hk => ?_⟩
    simp only [spec_AreOnTorus.f, h1 k (by omega), h2 k (by omega), Option.bind_some, if_pos h]
  · refine ⟨K1, fun k hk => ?_⟩
    simp only [spec_AreOnTorus.f, h1 k (by omega), Option.bind_some, if_neg h]
theorem impl_ev (q : List Int) (hb : q.length ≤ 1152921504606846976) : Ev (fun k => impl_AreOnTorus.f k q) (R q) := by
  obtain ⟨K1, h1⟩ := ev_get (isList_ev q hb)
  unfold R
  by_cases h : goodB q = true
  · obtain ⟨K2, h2⟩ := ev_get (onTorus_ev q (good_small h))
    refine ⟨K1 + K2, fun k hk => ?_⟩
    simp only [impl_AreOnTorus.f, h1 k (by omega), h2 k (by omega), Option.bind_some, if_pos h]
  · refine ⟨K1, fun k hk => ?_⟩
    simp only [impl_AreOnTorus.f, h1 k (by omega), Option.bind_some, if_neg h]
end FnExactAreOnTorus
namespace FnExactCountOnTorus
noncomputable def R (n : Int) : Int × Bool := if inB n 1 8 = true then ((((allQ n.toNat).countP torB : Nat) : Int), true) else (0, false)
theorem inB_nat {n : Int} (h : inB n 1 8 = true) : ∃ N : Nat, n = N ∧ 1 ≤ N ∧ N ≤ 8 := by
  unfold inB at h
  have := of_decide_eq_true h
  exact ⟨n.toNat, by omega, by omega, by omega⟩
theorem spec_ev (n : Int) : Ev (fun k => spec_CountOnTorus.f k n) (R n) := by
  unfold R
  by_cases h : inB n 1 8 = true
  · obtain ⟨N, rfl, h1, h8⟩ := inB_nat h
    obtain ⟨K, hK⟩ := ev_get (quAllQ_ev N h8)
    obtain ⟨K2, hK2⟩ := ev_get (specTor_ev N h1 h8)
    refine ⟨K + K2, fun k hk => ?_⟩
    simp only [spec_CountOnTorus.f, quSide_eq, Option.bind_some, if_pos h, hK k (by omega), Int.toNat_natCast]
    exact hK2 k (by omega)
  · refine ⟨0, fun k hk => ?_⟩
    simp only [spec_CountOnTorus.f, quSide_eq, Option.bind_some, if_neg h]
theorem impl_ev (n : Int) : Ev (fun k => impl_CountOnTorus.f k n) (R n) := by
  unfold R
  by_cases h : inB n 1 8 = true
  · obtain ⟨N, rfl, h1, h8⟩ := inB_nat h
    obtain ⟨K, hK⟩ := ev_get (grownT_ev N h1 h8)
    refine ⟨K, fun k hk => ?_⟩
    simp only [impl_CountOnTorus.f, isMany_eq, Option.bind_some, if_pos h, hK k hk, Int.toNat_natCast, torCount N]
  · refine ⟨0, fun k hk => ?_⟩
    simp only [impl_CountOnTorus.f, isMany_eq, Option.bind_some, if_neg h]
end FnExactCountOnTorus
namespace FnExactStraightQueens
def R (n step : Int) : List Int × Bool := straightR n step
theorem spec_ev (n step : Int) : Ev (fun k => spec_StraightQueens.f k n step) (R n step) := specStraight_ev n step
theorem impl_ev (n step : Int) : Ev (fun k => impl_StraightQueens.f k n step) (R n step) := implStraight_ev n step
end FnExactStraightQueens
namespace FnExactAreQueens
def R (q : List Int) : Bool × Bool := if goodB q = true then (freeB q, true) else (false, false)
theorem impl_ev (q : List Int) (hb : q.length ≤ 1152921504606846976) : Ev (fun k => impl_AreQueens.f k q) (R q) := by
  obtain ⟨K1, h1⟩ := ev_get (isList_ev q hb)
  unfold R
  by_cases h : goodB q = true
  · obtain ⟨K2, h2⟩ := ev_get (areQueens_ev q (good_small h))
    refine ⟨K1 + K2, fun k hk => ?_⟩
    simp only [impl_AreQueens.f, h1 k (by omega), h2 k (by omega), Option.bind_some, if_pos h]
  · refine ⟨K1, fun k hk => ?_⟩
    simp only [impl_AreQueens.f, h1 k (by omega), Option.bind_some, if_neg h]
end FnExactAreQueens
namespace FnQueensOnTori
theorem drawTorus_ok {s : List Int} (hs : Bytes s) : ∃ r, Ev (fun k => spec_DrawAreOnTorus.f k s) r ∧ r.length ≤ 9 := by
  obtain ⟨x, a1, b1, e1, h1, h2, h3⟩ := among_ok hs 0 0 [1, 5, 7] (by simp) (by omega) (by omega)
  obtain ⟨y, a2, b2, e2, h4, h5, h6⟩ := among_ok hs a1 b1 [0, 2, 3] (by simp) (by omega) (by omega)
  obtain ⟨K, hK⟩ := ev_get (FnExactStraightQueens.spec_ev x y)
  have hR := straightR_len x y
  unfold FnExactStraightQueens.R at hK
  cases hz : (straightR x y).2 with
  | false =>
    obtain ⟨r, a3, b3, e3, h7⟩ := queens_ok hs a2 b2 (by omega) (by omega)
    obtain ⟨K2, hK2⟩ := ev_get e3
    refine ⟨r, ⟨K + K2, fun k hk => ?_⟩, h7⟩
    simp only [spec_DrawAreOnTorus.f, e1, Option.bind_some, e2, hK k (by omega), hz, Bool.false_eq_true, if_false, hK2 k (by omega)]
  | true =>
    obtain ⟨z, a3, b3, e3, h7, h8⟩ := one_ok hs a2 b2 2 (by omega) (by omega)
    cases z with
    | true =>
      refine ⟨(straightR x y).1, ⟨K, fun k hk => ?_⟩, by omega⟩
      simp only [spec_DrawAreOnTorus.f, e1, Option.bind_some, e2, hK k (by omega), hz, if_true, e3]
    | false =>
      obtain ⟨r, a4, b4, e4, h9⟩ := queens_ok hs a3 b3 (by omega) (by omega)
      obtain ⟨K2, hK2⟩ := ev_get e4
      refine ⟨r, ⟨K + K2, fun k hk => ?_⟩, h9⟩
      simp only [spec_DrawAreOnTorus.f, e1, Option.bind_some, e2, hK k (by omega), hz, if_true, e3, Bool.false_eq_true, if_false, hK2 k (by omega)]
theorem drawShift_ok {s : List Int} (hs : Bytes s) : ∃ q x y, Ev (fun k => spec_DrawShiftQueens.f k s) (q, x, y) ∧ q.length ≤ 9 ∧ -1000 ≤ x ∧ x ≤ 1000 ∧ -1000 ≤ y ∧ y ≤ 1000 := by
  obtain ⟨q, e0, h0⟩ := drawTorus_ok hs
  obtain ⟨x, a1, b1, e1, h1, h2, h3⟩ := among_ok hs 0 0 [0, 1, (-1), 5, 100, (-100), 101] (by simp) (by omega) (by omega)
  obtain ⟨y, a2, b2, e2, h4, h5, h6⟩ := among_ok hs a1 b1 [0, 1, (-1), 3, (-7), (-101)] (by simp) (by omega) (by omega)
  obtain ⟨K, hK⟩ := ev_get e0
  refine ⟨q, x, y, ⟨K, fun k hk => ?_⟩, h0, ?_⟩
  · simp only [spec_DrawShiftQueens.f, hK k hk, Option.bind_some, e1, e2]
  · simp only [List.mem_cons, List.not_mem_nil, or_false] at h1 h4
    omega
theorem drawStraight_ok {s : List Int} (hs : Bytes s) : ∃ m p, spec_DrawStraightQueens.f s = some (m, p) ∧ 0 ≤ m ∧ m ≤ 9 ∧ -1 ≤ p ∧ p ≤ 7 := by
  obtain ⟨x, a1, b1, e1, h1, h2, h3⟩ := among_ok hs 0 0 [1, 2, 4, 5, 6, 7, 8, 9, 0] (by simp) (by omega) (by omega)
  obtain ⟨y, a2, b2, e2, h4, h5, h6⟩ := among_ok hs a1 b1 [0, 1, 2, 3, 5, 7, (-1)] (by simp) (by omega) (by omega)
  refine ⟨x, y, ?_, ?_⟩
  · simp only [spec_DrawStraightQueens.f, e1, Option.bind_some, e2]
  · simp only [List.mem_cons, List.not_mem_nil, or_false] at h1 h4
    omega
/-- The last two calls, the same on both ways. -/
theorem last_ev {s : List Int} (hs : Bytes s) : Ev (fun k => (spec_DrawAreOnTorus.f k s).bind fun t => ((impl_AreOnTorus.f k t).bind fun b => ((spec_AreOnTorus.f k t).bind fun c => (if (b.2 == c.2) = true then (some (b.1 == c.1)) else (none))))) true := by
  obtain ⟨q, e0, h0⟩ := drawTorus_ok hs
  obtain ⟨K, hK⟩ := ev_get e0
  obtain ⟨K1, k1⟩ := ev_get (FnExactAreOnTorus.impl_ev q (by omega))
  obtain ⟨K2, k2⟩ := ev_get (FnExactAreOnTorus.spec_ev q (by omega))
  refine ⟨K + K1 + K2, fun k hk => ?_⟩
  simp only [hK k (by omega), Option.bind_some, k1 k (by omega), k2 k (by omega), beq_self_eq_true, if_true]
theorem j5_ev {s : List Int} (hs : Bytes s) : Ev (fun k => laws_FnQueensOnTori.j5 k s false) true := by
  obtain ⟨K, hK⟩ := ev_get (last_ev hs)
  refine ⟨K + 1, fun k hk => ?_⟩
  obtain ⟨k, rfl⟩ : ∃ m, k = m + 1 := ⟨k - 1, by omega⟩
  simp only [laws_FnQueensOnTori.j5, Bool.false_eq_true, if_false]
  exact hK k (by omega)
theorem straight_parts {m p : Int} (h : (straightR m p).2 = true) : (1 ≤ m ∧ m ≤ 8) ∧ (min 1 (m - 1) ≤ p ∧ p ≤ m - 1) ∧ permB (straightL m p) m = true ∧ (straightR m p).1 = straightL m p := by
  unfold straightR at h ⊢
  split at h
  · rename_i hc
    rw [if_pos hc]
    exact ⟨by simpa [inB] using hc.1, hc.2.1, hc.2.2, rfl⟩
  · cases h
theorem j4_ev {s : List Int} (hs : Bytes s) (m p : Int) (x : Bool) (hx : x = true → (straightR m p).2 = true ∧ 3 < m) : Ev (fun k => laws_FnQueensOnTori.j4 k s m p (straightR m p).1 x) true := by
  cases x with
  | false =>
    obtain ⟨K, hK⟩ := ev_get (last_ev hs)
    refine ⟨K + 1, fun k hk => ?_⟩
    obtain ⟨k, rfl⟩ : ∃ m, k = m + 1 := ⟨k - 1, by omega⟩
    simp only [laws_FnQueensOnTori.j4, Bool.false_eq_true, if_false]
    exact hK k (by omega)
  | true =>
    obtain ⟨h1, h3⟩ := hx rfl
    obtain ⟨hm, hp, hperm, hL⟩ := straight_parts h1
    obtain ⟨M, rfl⟩ : ∃ M : Nat, m = (M : Int) := ⟨m.toNat, by omega⟩
    obtain ⟨S, rfl⟩ : ∃ S : Nat, p = (S : Int) := ⟨p.toNat, by omega⟩
    have hlen := straightL_length (M : Int) (S : Int)
    rw [Int.toNat_natCast] at hlen
    have hg : goodB (straightL (M : Int) (S : Int)) = true := by rw [good_perm _ (M : Int) (by omega) (by omega) (by omega)]; exact hperm
    have htor : torB (straightL (M : Int) (S : Int)) = torC M (straightL (M : Int) (S : Int)) := by rw [torB_torG hlen, torC_eq]
    have hall := straight_all ⟨M, by omega⟩ ⟨S, by omega⟩ (by simp; omega) h1
    simp only at hall
    rw [← htor] at hall
    obtain ⟨K, hK⟩ := ev_get (j5_ev hs)
    obtain ⟨K1, k1⟩ := ev_get (FnExactAreOnTorus.impl_ev (straightL (M : Int) (S : Int)) (by omega))
    obtain ⟨K2, k2⟩ := ev_get (FnExactStraightQueens.impl_ev (M : Int) (((S : Int) + 1) % (M : Int)))
    obtain ⟨K3, k3⟩ := ev_get (FnExactStraightQueens.impl_ev (M : Int) (((S : Int) + M - 1) % (M : Int)))
    unfold FnExactStraightQueens.R at k2 k3
    unfold FnExactAreOnTorus.R at k1
    simp only [if_pos hg] at k1
    have t1 : Int.tmod (wrap64 ((S : Int) + 1)) (M : Int) = ((S : Int) + 1) % (M : Int) := by rw [w64 _ (by omega) (by omega), Int.tmod_eq_emod_of_nonneg (by omega)]
    have t2 : Int.tmod (wrap64 (wrap64 ((S : Int) + (M : Int)) - 1)) (M : Int) = ((S : Int) + M - 1) % (M : Int) := by rw [w64 ((S : Int) + (M : Int)) (by omega) (by omega), w64 _ (by omega) (by omega), Int.tmod_eq_emod_of_nonneg (by omega)]
    generalize ((S : Int) + 1) % (M : Int) = u at *
    generalize ((S : Int) + M - 1) % (M : Int) = v at *
    refine ⟨K + K1 + K2 + K3 + 1, fun k hk => ?_⟩
    obtain ⟨k, rfl⟩ : ∃ m, k = m + 1 := ⟨k - 1, by omega⟩
    simp only [laws_FnQueensOnTori.j4, if_true, hL, k1 k (by omega), Option.bind_some]
    rw [if_neg (by omega), t1, t2, k2 k (by omega)]
    simp only [Option.bind_some]
    rw [k3 k (by omega)]
    simp only [Option.bind_some, hall]
    cases hu : (straightR (M : Int) u).2 with
    | false =>
      simp only [Bool.false_eq_true, if_false, Bool.false_and, bne_self_eq_false]
      exact hK k (by omega)
    | true =>
      cases hv : (straightR (M : Int) v).2 with
      | false =>
        simp only [Bool.false_eq_true, if_false, if_true, Bool.and_false, bne_self_eq_false]
        exact hK k (by omega)
      | true =>
        have l1 : (straightR (M : Int) u).1.length = M := by rw [(straight_parts hu).2.2.2, straightL_length]; simp
        have l2 : (straightR (M : Int) v).1.length = M := by rw [(straight_parts hv).2.2.2, straightL_length]; simp
        simp only [if_true, Bool.and_true, l1, l2, beq_self_eq_true, bne_self_eq_false]
        exact hK k (by omega)
theorem j2_ev {s : List Int} (hs : Bytes s) : Ev (fun k => laws_FnQueensOnTori.j2 k s false) true := by
  obtain ⟨m, p, e, h1, h2, h3, h4⟩ := drawStraight_ok hs
  obtain ⟨K1, k1⟩ := ev_get (FnExactStraightQueens.impl_ev m p)
  obtain ⟨K2, k2⟩ := ev_get (FnExactStraightQueens.spec_ev m p)
  have hR := straightR_len m p
  unfold FnExactStraightQueens.R at k1 k2
  obtain ⟨K3, k3⟩ := ev_get (kSame_refl (straightR m p).1 (by omega))
  cases hz : (straightR m p).2 with
  | false =>
    obtain ⟨K4, k4⟩ := ev_get (j4_ev hs m p false (fun h => by cases h))
    refine ⟨K1 + K2 + K3 + K4 + 2, fun k hk => ?_⟩
    obtain ⟨k, rfl⟩ : ∃ m, k = m + 2 := ⟨k - 2, by omega⟩
    simp only [laws_FnQueensOnTori.j2, Bool.false_eq_true, if_false, e, Option.bind_some, k1 (k + 1) (by omega), k2 (k + 1) (by omega), bne_self_eq_false, k3 (k + 1) (by omega), Bool.not_true, laws_FnQueensOnTori.j3, hz]
    exact k4 k (by omega)
  | true =>
    obtain ⟨K4, k4⟩ := ev_get (j4_ev hs m p (decide (m > 3)) (fun h => ⟨hz, of_decide_eq_true h⟩))
    refine ⟨K1 + K2 + K3 + K4 + 2, fun k hk => ?_⟩
    obtain ⟨k, rfl⟩ : ∃ m, k = m + 2 := ⟨k - 2, by omega⟩
    simp only [laws_FnQueensOnTori.j2, Bool.false_eq_true, if_false, e, Option.bind_some, k1 (k + 1) (by omega), k2 (k + 1) (by omega), bne_self_eq_false, k3 (k + 1) (by omega), Bool.not_true, laws_FnQueensOnTori.j3, hz, if_true]
    exact k4 k (by omega)
theorem j1_ev {s : List Int} (hs : Bytes s) : Ev (fun k => laws_FnQueensOnTori.j1 k s) true := by
  obtain ⟨n, hn, hn0, hn9⟩ := drawCount_ok hs
  obtain ⟨K1, k1⟩ := ev_get (FnExactCountOnTorus.impl_ev n)
  obtain ⟨K2, k2⟩ := ev_get (FnExactCountOnTorus.spec_ev n)
  obtain ⟨K3, k3⟩ := ev_get (j2_ev hs)
  refine ⟨K1 + K2 + K3 + 1, fun k hk => ?_⟩
  obtain ⟨k, rfl⟩ : ∃ m, k = m + 1 := ⟨k - 1, by omega⟩
  simp only [laws_FnQueensOnTori.j1, spec_DrawCountOnTorus.f, hn, Option.bind_some, k1 k (by omega), k2 k (by omega), bne_self_eq_false, Bool.false_eq_true, if_false, if_true]
  unfold FnExactCountOnTorus.R
  by_cases h : inB n 1 8 = true
  · obtain ⟨N, rfl, h1, h8⟩ := FnExactCountOnTorus.inB_nat h
    have ht := torus_some h1 h8
    simp only [if_pos h, if_true, Int.toNat_natCast]
    rw [Int.tmod_eq_emod_of_nonneg (by omega), Int.tmod_eq_emod_of_nonneg (by omega)]
    by_cases h2 : (N : Int) % 2 = 0
    · have e : decide ((((allQ N).countP torB : Nat) : Int) > 0) = false := decide_eq_false (by
        intro hp
        have := (ht.1 (by omega)).1
        omega)
      rw [if_pos h2, e, bne_self_eq_false]
      exact k3 k (by omega)
    · have e : decide ((((allQ N).countP torB : Nat) : Int) > 0) = ((N : Int) % 3 != 0) := by
        rw [Bool.eq_iff_iff, decide_eq_true_iff, bne_iff_ne]
        constructor
        · intro hp
          have := (ht.1 (by omega)).2
          omega
        · intro hp
          have := ht.2 ⟨by omega, by omega⟩
          omega
      rw [if_neg h2, e, bne_self_eq_false]
      exact k3 k (by omega)
  · simp only [if_neg h, Bool.false_eq_true, if_false]
    exact k3 k (by omega)
theorem j0_ev {s : List Int} (hs : Bytes s) (q : List Int) (x y : Int) (hq : q.length ≤ 9) (hx : -1000 ≤ x ∧ x ≤ 1000) (hy : -1000 ≤ y ∧ y ≤ 1000) :
    Ev (fun k => laws_FnQueensOnTori.j0 k s q x y (shiftR q x y).1 (shiftR q x y).2 false) true := by
  obtain ⟨K, hK⟩ := ev_get (j1_ev hs)
  by_cases h : goodB q = true ∧ inB x (-100) 100 = true ∧ inB y (-100) 100 = true
  · have hR : shiftR q x y = (shiftL q x y, true) := by unfold shiftR; rw [if_pos h]
    have hg := shift_good h.1 x y
    have hx2 : -100 ≤ x ∧ x ≤ 100 := by simpa [inB] using h.2.1
    have hy2 : -100 ≤ y ∧ y ≤ 100 := by simpa [inB] using h.2.2
    have hl := shiftL_length q x y
    have hB : shiftR (shiftL q x y) (-x) (-y) = (q, true) := by
      unfold shiftR
      rw [if_pos ⟨hg, by simp [inB]; omega, by simp [inB]; omega⟩, shift_back h.1]
    obtain ⟨K1, k1⟩ := ev_get (FnExactAreOnTorus.impl_ev q (by omega))
    obtain ⟨K2, k2⟩ := ev_get (FnExactAreOnTorus.impl_ev (shiftL q x y) (by omega))
    obtain ⟨K3, k3⟩ := ev_get (FnExactShiftQueens.impl_ev (shiftL q x y) (-x) (-y) (by omega))
    obtain ⟨K4, k4⟩ := ev_get (FnExactAreQueens.impl_ev (shiftL q x y) (by omega))
    obtain ⟨K5, k5⟩ := ev_get (kSame_refl q (by omega))
    unfold FnExactAreOnTorus.R at k1 k2
    unfold FnExactAreQueens.R at k4
    unfold FnExactShiftQueens.R at k3
    simp only [if_pos hg, if_pos h.1, shift_torus h.1] at k1 k2 k4
    rw [hB] at k3
    refine ⟨K + K1 + K2 + K3 + K4 + K5 + 1, fun k hk => ?_⟩
    obtain ⟨k, rfl⟩ : ∃ m, k = m + 1 := ⟨k - 1, by omega⟩
    simp only [laws_FnQueensOnTori.j0, hR, Bool.false_eq_true, if_false, if_true, k1 k (by omega), k2 k (by omega), Option.bind_some, w64 (-x) (by omega) (by omega), w64 (-y) (by omega) (by omega), k3 k (by omega), k4 k (by omega), k5 k (by omega), bne_self_eq_false]
    cases ht : torB q with
    | false => simp only [Bool.false_eq_true, if_false]; exact hK k (by omega)
    | true =>
      have hf := torus_free (q := shiftL q x y) (by rw [shift_torus h.1]; exact ht)
      simp only [if_true, hf]
      exact hK k (by omega)
  · have hR : shiftR q x y = ([], false) := by unfold shiftR; rw [if_neg h]
    refine ⟨K + 1, fun k hk => ?_⟩
    obtain ⟨k, rfl⟩ : ∃ m, k = m + 1 := ⟨k - 1, by omega⟩
    simp only [laws_FnQueensOnTori.j0, hR, Bool.false_eq_true, if_false]
    exact hK k (by omega)
end FnQueensOnTori
open FnQueensOnTori in
theorem FnQueensOnTori : laws_FnQueensOnTori.Pure := by
  intro l0 l1 ha hb hc hd he hf
  have hs0 := bytes_of hc
  have hs1 := bytes_of hf
  obtain ⟨x, hx⟩ := big_eq l0 l1 (by omega) (by omega)
  cases x with
  | true => exact ⟨0, by unfold laws_FnQueensOnTori.f; rw [hx]; simp⟩
  | false =>
    obtain ⟨q, x, y, e0, hq, hx1, hx2, hy1, hy2⟩ := drawShift_ok hs0
    obtain ⟨K0, k0⟩ := ev_get e0
    obtain ⟨K1, k1⟩ := ev_get (FnExactShiftQueens.impl_ev q x y (by omega))
    obtain ⟨K2, k2⟩ := ev_get (FnExactShiftQueens.spec_ev q x y (by omega))
    unfold FnExactShiftQueens.R at k1 k2
    have hl := shiftR_len q x y
    obtain ⟨K3, k3⟩ := ev_get (kSame_refl (shiftR q x y).1 (by omega))
    obtain ⟨K4, k4⟩ := ev_get (j0_ev hs1 q x y hq ⟨hx1, hx2⟩ ⟨hy1, hy2⟩)
    obtain ⟨m, hm⟩ : ∃ m, m = K0 + K1 + K2 + K3 + K4 := ⟨_, rfl⟩
    refine ⟨m, ?_⟩
    unfold laws_FnQueensOnTori.f
    rw [hx]
    simp only [Option.bind_some, Bool.false_eq_true, if_false, k0 m (by omega), k1 m (by omega), k2 m (by omega), bne_self_eq_false, k3 m (by omega), Bool.not_true]
    exact k4 m (by omega)
end Go.Proofs.Ytnpacpdpgngdpaa.Pure
