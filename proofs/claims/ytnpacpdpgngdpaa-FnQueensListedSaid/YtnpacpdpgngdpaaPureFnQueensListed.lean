/- For all bytes that are drawn from: queens are told in order and counted, none attacks another one, and those that begin alike add up: no condition but that the bytes can be read. -/
import Derived.Laws.BitsLemmas
import Derived.Test.YtnpacpdpgngdpaaPx0
import Derived.Test.YtnpacpdpgngdpaaQb3e74b462c
import Derived.Test.YtnpacpdpgngdpaaQ0cbac963b1
import Derived.Test.YtnpacpdpgngdpaaQ9aa0533272
import Derived.Test.YtnpacpdpgngdpaaQc0c3f4387e
import Derived.Test.YtnpacpdpgngdpaaQa96f7b0473
namespace Go.Proofs.Ytnpacpdpgngdpaa.P
open Go.RowKit Go.Proofs.YtnpacpdpgngdpaaW.PrintWords Go.Proofs.YtnpacpdpgngdpaaW.PrintLast Go.Proofs.YtnpacpdpgngdpaaW.PrintMore
set_option linter.unusedVariables false
set_option linter.unusedSimpArgs false
theorem w64 (n : Int) (h : -9223372036854775808 ≤ n) (h2 : n ≤ 9223372036854775807) : wrap64 n = n := by unfold wrap64; omega
theorem rd_nat (l : List Int) (i : Nat) (h : i < l.length) : rd l (i : Int) = l[i] := by
  unfold rd; simp [List.getD_eq_getElem?_getD, List.getElem?_eq_getElem h]
theorem drop_cons (l : List Int) (i : Nat) (h : i < l.length) : l.drop i = l[i] :: l.drop (i + 1) := List.drop_eq_getElem_cons h
theorem ev_get {α : Type} {g : Nat → Option α} {r : α} (h : Ev g r) : ∃ K, ∀ k, K ≤ k → g k = some r := h
def inB (n lo hi : Int) : Bool := decide (lo ≤ n ∧ n ≤ hi)
theorem l1In_eq (a b c : Int) : spec_l1In.f a b c = some (inB a b c) := by
  unfold spec_l1In.f inB
  by_cases h : a ≥ b
  · rw [if_pos h]; congr 1; simp; omega
  · rw [if_neg h]; congr 1; symm; apply decide_eq_false; omega
theorem within_eq (a b c : Int) : impl_within.f a b c = some (inB a b c) := by
  unfold impl_within.f inB
  by_cases h : b ≤ a
  · rw [if_pos h]; congr 1; simp; omega
  · rw [if_neg h]; congr 1; symm; apply decide_eq_false; omega
def allIn (l : List Int) (lo hi : Int) : Bool := l.all fun x => inB x lo hi
theorem l1All_l0 (lo hi : Int) (l : List Int) (hb : l.length ≤ 1152921504606846976) : ∀ (d i : Nat) (k : Nat), l.length - i = d → i ≤ l.length → d < k →
    spec_l1All.l0 k lo hi l (l.length : Int) (i : Int) = some (allIn (l.drop i) lo hi) := by
  intro d
  induction d with
  | zero =>
    intro i k hd hi' hk
    obtain ⟨k, rfl⟩ : ∃ m, k = m + 1 := ⟨k - 1, by omega⟩
    rw [spec_l1All.l0, if_neg (by omega), List.drop_eq_nil_of_le (by omega)]
    rfl
  | succ d ih =>
    intro i k hd hi' hk
    obtain ⟨k, rfl⟩ : ∃ m, k = m + 1 := ⟨k - 1, by omega⟩
    have h1 : i < l.length := by omega
    rw [spec_l1All.l0, if_pos (by omega), if_pos (by omega), if_pos (by omega), l1In_eq, Option.bind_some, w64 _ (by omega) (by omega), rd_nat _ _ h1]
    rw [show ((i : Int) + 1) = ((i + 1 : Nat) : Int) by omega, ih (i + 1) k (by omega) (by omega) (by omega), drop_cons l i h1]
    unfold allIn
    rw [List.all_cons]
    generalize l.drop (i + 1) = tl
    by_cases h : inB l[i] lo hi = true
    · rw [if_pos h, h]; simp
    · rw [if_neg h]; simp at h; rw [h]; simp
theorem l1All_ev (l : List Int) (lo hi : Int) (hb : l.length ≤ 1152921504606846976) : Ev (fun k => spec_l1All.f k l lo hi) (allIn l lo hi) := by
  refine ⟨l.length + 1, fun k hk => ?_⟩
  simp only [spec_l1All.f]
  have := l1All_l0 lo hi l hb l.length 0 k (by omega) (by omega) (by omega)
  simpa using this
end Go.Proofs.Ytnpacpdpgngdpaa.P
namespace Go.Proofs.Ytnpacpdpgngdpaa.P
open Go.RowKit Go.Proofs.YtnpacpdpgngdpaaW.PrintWords Go.Proofs.YtnpacpdpgngdpaaW.PrintLast Go.Proofs.YtnpacpdpgngdpaaW.PrintMore
set_option linter.unusedVariables false
set_option linter.unusedSimpArgs false
theorem l1Has_l0 (x : Int) (l : List Int) (hb : l.length ≤ 1152921504606846976) : ∀ (d i : Nat) (k : Nat), l.length - i = d → i ≤ l.length → d < k →
    spec_l1Has.l0 k x l (l.length : Int) (i : Int) = some (decide (x ∈ l.drop i)) := by
  intro d
  induction d with
  | zero =>
    intro i k hd hi' hk
    obtain ⟨k, rfl⟩ : ∃ m, k = m + 1 := ⟨k - 1, by omega⟩
    rw [spec_l1Has.l0, if_neg (by omega), List.drop_eq_nil_of_le (by omega)]
    rfl
  | succ d ih =>
    intro i k hd hi' hk
    obtain ⟨k, rfl⟩ : ∃ m, k = m + 1 := ⟨k - 1, by omega⟩
    have h1 : i < l.length := by omega
    rw [spec_l1Has.l0, if_pos (by omega), if_pos (by omega), if_pos (by omega), w64 _ (by omega) (by omega), rd_nat _ _ h1]
    rw [show ((i : Int) + 1) = ((i + 1 : Nat) : Int) by omega, ih (i + 1) k (by omega) (by omega) (by omega), drop_cons l i h1]
    generalize l.drop (i + 1) = tl
    by_cases h : l[i] = x
    · rw [if_pos h]; simp [h]
    · rw [if_neg h]; congr 1; simp [Ne.symm h]
theorem l1Has_ev (l : List Int) (x : Int) (hb : l.length ≤ 1152921504606846976) : Ev (fun k => spec_l1Has.f k l x) (decide (x ∈ l)) := by
  refine ⟨l.length + 1, fun k hk => ?_⟩
  simp only [spec_l1Has.f]
  have := l1Has_l0 x l hb l.length 0 k (by omega) (by omega) (by omega)
  simpa using this
/-- slices.Index tells at least 0 just for a member. -/
theorem Index_l0 (x : Int) (l : List Int) (hb : l.length ≤ 1152921504606846976) : ∀ (d i : Nat) (k : Nat), l.length - i = d → i ≤ l.length → d < k →
    slices_Index_int_int.l0 k l x (l.length : Int) (i : Int) = some (if x ∈ l.drop i then (i : Int) + ((l.drop i).idxOf x : Nat) else -1) := by
  intro d
  induction d with
  | zero =>
    intro i k hd hi' hk
    obtain ⟨k, rfl⟩ : ∃ m, k = m + 1 := ⟨k - 1, by omega⟩
    rw [slices_Index_int_int.l0, if_neg (by omega), List.drop_eq_nil_of_le (by omega)]
    rfl
  | succ d ih =>
    intro i k hd hi' hk
    obtain ⟨k, rfl⟩ : ∃ m, k = m + 1 := ⟨k - 1, by omega⟩
    have h1 : i < l.length := by omega
    rw [slices_Index_int_int.l0, if_pos (by omega), if_pos (by omega), if_pos (by omega), w64 _ (by omega) (by omega), rd_nat _ _ h1]
    rw [show ((i : Int) + 1) = ((i + 1 : Nat) : Int) by omega, ih (i + 1) k (by omega) (by omega) (by omega), drop_cons l i h1]
    generalize l.drop (i + 1) = tl
    by_cases h : x = l[i]
    · rw [if_pos h]; simp [h]
    · rw [if_neg h]; congr 1
      rw [List.idxOf_cons, show (l[i] == x) = false by simpa using Ne.symm h, cond_false]
      by_cases h2 : x ∈ tl
      · rw [if_pos h2, if_pos (by simp [h2])]; omega
      · rw [if_neg h2, if_neg (by simp [h, h2])]
theorem Index_ev (l : List Int) (x : Int) (hb : l.length ≤ 1152921504606846976) : Ev (fun k => slices_Index_int_int.f k l x) (if x ∈ l then (l.idxOf x : Int) else -1) := by
  refine ⟨l.length + 1, fun k hk => ?_⟩
  simp only [slices_Index_int_int.f]
  have := Index_l0 x l hb l.length 0 k (by omega) (by omega) (by omega)
  simpa using this
theorem Contains_ev (l : List Int) (x : Int) (hb : l.length ≤ 1152921504606846976) : Ev (fun k => slices_Contains_int_int.f k l x) (decide (x ∈ l)) := by
  obtain ⟨K, hK⟩ := ev_get (Index_ev l x hb)
  refine ⟨K, fun k hk => ?_⟩
  simp only [slices_Contains_int_int.f, hK k hk, Option.bind_some]
  congr 1
  by_cases h : x ∈ l
  · simp [h]
  · simp [h]
def permB (l : List Int) (n : Int) : Bool := decide ((l.length : Int) = n ∧ (∀ x ∈ l, 0 ≤ x ∧ x ≤ n - 1) ∧ l.Nodup)
/-- What the loop of isPerm looks at from place i on. -/
def restPerm (l : List Int) (n : Int) (i : Nat) : Prop := ∀ j, i ≤ j → ∀ h : j < l.length, (0 ≤ l[j] ∧ l[j] ≤ n - 1) ∧ l[j] ∉ l.take j
def restOnce (l : List Int) (i : Nat) : Prop := ∀ j, i ≤ j → ∀ h : j < l.length, l[j] ∉ l.take j
theorem restOnce_iff (l : List Int) : restOnce l 0 ↔ l.Nodup := by
  constructor
  · intro h
    rw [List.nodup_iff_pairwise_ne, List.pairwise_iff_getElem]
    intro i j hi hj hij e
    exact h j (by omega) hj (by rw [← e]; exact List.mem_take_iff_getElem.2 ⟨i, by omega, rfl⟩)
  · intro h j _ hj hm
    rw [List.nodup_iff_pairwise_ne, List.pairwise_iff_getElem] at h
    obtain ⟨i, hi, e⟩ := List.mem_take_iff_getElem.1 hm
    exact h i j (by omega) hj (by omega) e
theorem restOnce_step (l : List Int) (i : Nat) (h : i < l.length) : restOnce l i ↔ l[i] ∉ l.take i ∧ restOnce l (i + 1) := by
  constructor
  · intro H
    exact ⟨H i (by omega) h, fun j hj hjl => H j (by omega) hjl⟩
  · rintro ⟨h0, H⟩ j hj hjl
    by_cases e : j = i
    · subst e; exact h0
    · exact H j (by omega) hjl
open Classical in
theorem isPerm_l0 (l : List Int) (n : Int) (hn : n = l.length) (hb : l.length ≤ 1152921504606846976) : ∀ (d i : Nat), l.length - i = d → i ≤ l.length →
    Ev (fun k => impl_isPerm.l0 k l n l (l.length : Int) (i : Int)) (decide ((∀ x ∈ l.drop i, 0 ≤ x ∧ x ≤ n - 1) ∧ restOnce l i)) := by
  intro d
  induction d with
  | zero =>
    intro i hd hi'
    refine ⟨1, fun k hk => ?_⟩
    obtain ⟨k, rfl⟩ : ∃ m, k = m + 1 := ⟨k - 1, by omega⟩
    simp only [impl_isPerm.l0]
    rw [if_neg (by omega)]
    congr 1
    symm
    apply decide_eq_true
    rw [List.drop_eq_nil_of_le (by omega)]
    exact ⟨by simp, fun j hj h => by omega⟩
  | succ d ih =>
    intro i hd hi'
    have h1 : i < l.length := by omega
    obtain ⟨K1, h3⟩ := ev_get (ih (i + 1) (by omega) (by omega))
    obtain ⟨K2, h4⟩ := ev_get (Contains_ev (l.take i) l[i] (by simp; omega))
    refine ⟨K1 + K2 + 1, fun k hk => ?_⟩
    obtain ⟨k, rfl⟩ : ∃ m, k = m + 1 := ⟨k - 1, by omega⟩
    simp only [impl_isPerm.l0]
    rw [if_pos (by omega), if_pos (by omega), if_pos (by omega), within_eq, Option.bind_some, w64 (n - 1) (by omega) (by omega), w64 _ (by omega) (by omega), rd_nat _ _ h1, if_pos (show (i : Int) ≤ (l.length : Int) by omega), show (i : Int).toNat = i by omega, show ((i : Int) + 1) = ((i + 1 : Nat) : Int) by omega, h4 k (by omega), h3 k (by omega), Option.bind_some]
    have hs := restOnce_step l i h1
    rw [drop_cons l i h1]
    by_cases h : inB l[i] 0 (n - 1) = true
    · rw [if_pos h]
      have h' : 0 ≤ l[i] ∧ l[i] ≤ n - 1 := by simpa [inB] using h
      by_cases h2 : l[i] ∈ l.take i
      · simp only [h2, decide_true, if_true]
        congr 1
        symm; apply decide_eq_false
        rintro ⟨_, hr⟩
        exact (hs.1 hr).1 h2
      · simp only [h2, decide_false, if_false, Bool.false_eq_true]
        congr 1
        rw [decide_eq_decide]
        constructor
        · rintro ⟨ha, hr⟩
          refine ⟨?_, hs.2 ⟨h2, hr⟩⟩
          intro x hx
          rcases List.mem_cons.1 hx with rfl | hx
          · exact h'
          · exact ha x hx
        · rintro ⟨ha, hr⟩
          exact ⟨fun x hx => ha x (List.mem_cons_of_mem _ hx), (hs.1 hr).2⟩
    · rw [if_neg h]
      congr 1
      symm; apply decide_eq_false
      rintro ⟨ha, _⟩
      exact h (by simpa [inB] using ha _ (List.mem_cons_self ..))
theorem isPerm_ev (l : List Int) (n : Int) (hb : l.length ≤ 1152921504606846976) : Ev (fun k => impl_isPerm.f k l n) (permB l n) := by
  by_cases h : (l.length : Int) = n
  · obtain ⟨K, hK⟩ := ev_get (isPerm_l0 l n h.symm hb l.length 0 (by omega) (by omega))
    refine ⟨K, fun k hk => ?_⟩
    simp only [impl_isPerm.f]
    rw [if_pos h]
    refine (hK k hk).trans ?_
    congr 1
    unfold permB
    rw [decide_eq_decide, restOnce_iff, List.drop_zero]
    exact ⟨fun ⟨a, b⟩ => ⟨h, a, b⟩, fun ⟨_, a, b⟩ => ⟨a, b⟩⟩
  · refine ⟨0, fun k hk => ?_⟩
    simp only [impl_isPerm.f]
    rw [if_neg h]
    congr 1
    symm; apply decide_eq_false
    exact fun ⟨a, _⟩ => h a
end Go.Proofs.Ytnpacpdpgngdpaa.P
namespace Go.Proofs.Ytnpacpdpgngdpaa.P
open Go.RowKit Go.Proofs.YtnpacpdpgngdpaaW.PrintWords Go.Proofs.YtnpacpdpgngdpaaW.PrintLast Go.Proofs.YtnpacpdpgngdpaaW.PrintMore
set_option linter.unusedVariables false
set_option linter.unusedSimpArgs false
/-- A list that has each of 0..n-1 once, n its length, 1 to 8. -/
def goodB (q : List Int) : Bool := decide (1 ≤ q.length ∧ q.length ≤ 8) && permB q q.length
theorem goodB_iff (q : List Int) : goodB q = true ↔ 1 ≤ q.length ∧ q.length ≤ 8 ∧ (∀ x ∈ q, 0 ≤ x ∧ x ≤ (q.length : Int) - 1) ∧ q.Nodup := by
  unfold goodB permB
  simp only [Bool.and_eq_true, decide_eq_true_eq]
  constructor
  · rintro ⟨⟨a, b⟩, _, c, d⟩; exact ⟨a, b, c, d⟩
  · rintro ⟨a, b, c, d⟩; exact ⟨⟨a, b⟩, trivial, c, d⟩
theorem isMany_eq (n : Int) : impl_isMany.f n = some (inB n 1 8) := by
  simp only [impl_isMany.f, within_eq, Option.bind_some]
theorem isList_ev (q : List Int) (hb : q.length ≤ 1152921504606846976) : Ev (fun k => impl_isList.f k q) (goodB q) := by
  obtain ⟨K, hK⟩ := ev_get (isPerm_ev q q.length hb)
  refine ⟨K, fun k hk => ?_⟩
  simp only [impl_isList.f, isMany_eq, Option.bind_some, hK k hk]
  unfold goodB inB
  by_cases h : 1 ≤ (q.length : Int) ∧ (q.length : Int) ≤ 8
  · rw [if_pos (by simpa using h)]
    rw [show decide (1 ≤ q.length ∧ q.length ≤ 8) = true by simp; omega, Bool.true_and]
  · rw [if_neg (by simpa using h)]
    rw [show decide (1 ≤ q.length ∧ q.length ≤ 8) = false by apply decide_eq_false; omega, Bool.false_and]
open Classical in
theorem quGood_l0 (l : List Int) (hb : l.length ≤ 1152921504606846976) : ∀ (d i : Nat), l.length - i = d → i ≤ l.length →
    Ev (fun k => spec_quGood.l0 k l l (l.length : Int) (i : Int)) (decide (restOnce l i)) := by
  intro d
  induction d with
  | zero =>
    intro i hd hi'
    refine ⟨1, fun k hk => ?_⟩
    obtain ⟨k, rfl⟩ : ∃ m, k = m + 1 := ⟨k - 1, by omega⟩
    simp only [spec_quGood.l0]
    rw [if_neg (by omega)]
    congr 1
    symm
    apply decide_eq_true
    exact fun j hj h => by omega
  | succ d ih =>
    intro i hd hi'
    have h1 : i < l.length := by omega
    obtain ⟨K1, h3⟩ := ev_get (ih (i + 1) (by omega) (by omega))
    obtain ⟨K2, h4⟩ := ev_get (l1Has_ev (l.take i) l[i] (by simp; omega))
    refine ⟨K1 + K2 + 1, fun k hk => ?_⟩
    obtain ⟨k, rfl⟩ : ∃ m, k = m + 1 := ⟨k - 1, by omega⟩
    simp only [spec_quGood.l0]
    rw [if_pos (by omega), if_pos (by omega), if_pos (by omega), w64 _ (by omega) (by omega), rd_nat _ _ h1, if_pos (show (i : Int) ≤ (l.length : Int) by omega), show (i : Int).toNat = i by omega, show ((i : Int) + 1) = ((i + 1 : Nat) : Int) by omega]
    simp only [Option.bind_some, h4 k (by omega), h3 k (by omega)]
    have hs := restOnce_step l i h1
    by_cases h2 : l[i] ∈ l.take i
    · simp only [h2, decide_true, if_true]
      congr 1
      symm; apply decide_eq_false
      exact fun hr => (hs.1 hr).1 h2
    · simp only [h2, decide_false, if_false, Bool.false_eq_true]
      congr 1
      rw [decide_eq_decide]
      exact ⟨fun hr => hs.2 ⟨h2, hr⟩, fun hr => (hs.1 hr).2⟩
theorem quGood_ev (q : List Int) (hb : q.length ≤ 1152921504606846976) : Ev (fun k => spec_quGood.f k q) (goodB q) := by
  obtain ⟨K1, h1⟩ := ev_get (l1All_ev q 0 ((q.length : Int) - 1) hb)
  obtain ⟨K2, h2⟩ := ev_get (quGood_l0 q hb q.length 0 (by omega) (by omega))
  refine ⟨K1 + K2 + 1, fun k hk => ?_⟩
  simp only [spec_quGood.f, l1In_eq, Option.bind_some]
  rw [w64 _ (by omega) (by omega), h1 k (by omega), Option.bind_some]
  obtain ⟨k, rfl⟩ : ∃ m, k = m + 1 := ⟨k - 1, by omega⟩
  simp only [spec_quGood.j0]
  unfold goodB permB
  by_cases h : 1 ≤ q.length ∧ q.length ≤ 8
  · rw [if_pos (by unfold inB; simp; omega), show decide (1 ≤ q.length ∧ q.length ≤ 8) = true by simpa using h, Bool.true_and]
    by_cases ha : allIn q 0 ((q.length : Int) - 1) = true
    · rw [ha, if_neg (by simp)]
      refine (h2 k (by omega)).trans ?_
      congr 1
      rw [decide_eq_decide, restOnce_iff]
      refine ⟨fun hn => ⟨rfl, ?_, hn⟩, fun hn => hn.2.2⟩
      unfold allIn at ha
      rw [List.all_eq_true] at ha
      intro x hx
      simpa [inB] using ha x hx
    · simp only [Bool.not_eq_true] at ha
      rw [ha, if_pos (by rfl)]
      congr 1
      symm; apply decide_eq_false
      rintro ⟨_, hx, _⟩
      unfold allIn at ha
      rw [List.all_eq_false] at ha
      obtain ⟨x, hm, hn⟩ := ha
      exact hn (by simpa [inB] using hx x hm)
  · rw [if_neg (by unfold inB; simp; omega), if_pos trivial, show decide (1 ≤ q.length ∧ q.length ≤ 8) = false by simpa using h, Bool.false_and]
theorem good_len {q : List Int} (h : goodB q = true) : 1 ≤ q.length ∧ q.length ≤ 8 := ⟨((goodB_iff q).1 h).1, ((goodB_iff q).1 h).2.1⟩
theorem good_at {q : List Int} (h : goodB q = true) (i : Nat) (hi : i < q.length) : 0 ≤ q[i] ∧ q[i] < q.length := by
  have := ((goodB_iff q).1 h).2.2.1 q[i] (List.getElem_mem hi)
  omega
end Go.Proofs.Ytnpacpdpgngdpaa.P
namespace Go.Proofs.Ytnpacpdpgngdpaa.P
open Go.RowKit Go.Proofs.YtnpacpdpgngdpaaW.PrintWords Go.Proofs.YtnpacpdpgngdpaaW.PrintLast Go.Proofs.YtnpacpdpgngdpaaW.PrintMore
set_option linter.unusedVariables false
set_option linter.unusedSimpArgs false
theorem quSide_eq (n : Int) : spec_quSide.f n = some (inB n 1 8) := by
  simp only [spec_quSide.f, l1In_eq, Option.bind_some]
/-- Rows r and s attack each other. -/
def att (q : List Int) (r s : Nat) : Bool := decide ((q.getD r 0 - q.getD s 0).natAbs = ((s : Int) - (r : Int)).natAbs)
def rowP (q : List Int) (r s : Nat) : List (List Int) := ((List.range' s (q.length - s)).filter fun s => att q r s).map fun (s : Nat) => [(r : Int), (s : Int)]
def allP (q : List Int) (r : Nat) : List (List Int) := (List.range' r (q.length - r)).flatMap fun r => rowP q r (r + 1)
theorem range'_step (s n : Nat) (h : s < n) : List.range' s (n - s) = s :: List.range' (s + 1) (n - (s + 1)) := by
  rw [show n - s = (n - (s + 1)) + 1 by omega, List.range'_succ]
theorem rowP_step (q : List Int) (r s : Nat) (h : s < q.length) : rowP q r s = (if att q r s = true then [[(r : Int), (s : Int)]] else []) ++ rowP q r (s + 1) := by
  unfold rowP
  rw [range'_step s q.length h, List.filter_cons]
  split <;> simp
theorem rowP_nil (q : List Int) (r s : Nat) (h : q.length ≤ s) : rowP q r s = [] := by
  unfold rowP
  rw [show q.length - s = 0 by omega]; rfl
theorem allP_step (q : List Int) (r : Nat) (h : r < q.length) : allP q r = rowP q r (r + 1) ++ allP q (r + 1) := by
  unfold allP
  rw [range'_step r q.length h, List.flatMap_cons]
theorem allP_nil (q : List Int) (r : Nat) (h : q.length ≤ r) : allP q r = [] := by
  unfold allP
  rw [show q.length - r = 0 by omega]; rfl
theorem l1Abs_eq (n : Int) (h : -1000 ≤ n) (h2 : n ≤ 1000) : spec_l1Abs.f n = some (n.natAbs : Int) := by
  unfold spec_l1Abs.f spec_l1Most.f
  rw [w64 _ (by omega) (by omega)]
  split
  · simp only [Option.bind_some]; congr 1; omega
  · simp only [Option.bind_some]; congr 1; omega
/-- At most 8 numbers, each in 0..7. -/
def Small (q : List Int) : Prop := q.length ≤ 8 ∧ ∀ i, ∀ h : i < q.length, 0 ≤ q[i] ∧ q[i] < 8
theorem good_small {q : List Int} (hg : goodB q = true) : Small q := ⟨(good_len hg).2, fun i h => by have := good_at hg i h; have := good_len hg; omega⟩
theorem attacked_eq (q : List Int) (hg : Small q) (r s : Nat) (hr : r < q.length) (hs : s < q.length) : impl_attacked.f (r : Int) q[r] (s : Int) q[s] = some (att q r s) := by
  have hl := hg.1
  have h1 := hg.2 r hr
  have h2 := hg.2 s hs
  unfold impl_attacked.f att mx
  rw [w64 _ (by omega) (by omega), w64 _ (by omega) (by omega), w64 _ (by omega) (by omega), w64 _ (by omega) (by omega)]
  congr 1
  simp only [List.getD_eq_getElem?_getD, List.getElem?_eq_getElem hr, List.getElem?_eq_getElem hs, Option.getD_some]
  rw [Bool.eq_iff_iff, beq_iff_eq, decide_eq_true_iff]
  split <;> split <;> omega
theorem quAttacks_inner (q : List Int) (hg : goodB q = true) (r : Nat) (hr : r < q.length)
    (hout : ∀ acc : List (List Int), acc.length ≤ 8 * (r + 1) → Ev (fun k => spec_quAttacks.l0 k q acc q (q.length : Int) ((r + 1 : Nat) : Int)) (acc ++ allP q (r + 1))) :
    ∀ (d s : Nat) (acc : List (List Int)), q.length - s = d → r < s → s ≤ q.length → acc.length ≤ 8 * r + (s - r) →
    Ev (fun k => spec_quAttacks.l1 k q acc (r : Int) q[r] (s : Int) q (q.length : Int) (r : Int)) (acc ++ rowP q r s ++ allP q (r + 1)) := by
  have hl := good_len hg
  have hq := good_at hg r hr
  intro d
  induction d with
  | zero =>
    intro s acc hd hrs hs ha
    obtain ⟨K, hK⟩ := ev_get (hout acc (by omega))
    refine ⟨K + 1, fun k hk => ?_⟩
    obtain ⟨k, rfl⟩ : ∃ m, k = m + 1 := ⟨k - 1, by omega⟩
    simp only [spec_quAttacks.l1]
    rw [if_neg (by omega), w64 _ (by omega) (by omega), show ((r : Int) + 1) = ((r + 1 : Nat) : Int) by omega, hK k (by omega), rowP_nil q r s (by omega), List.append_nil]
  | succ d ih =>
    intro s acc hd hrs hs ha
    have hs1 : s < q.length := by omega
    have hq2 := good_at hg s hs1
    obtain ⟨K1, h1⟩ := ev_get (ih (s + 1) (acc ++ [[(r : Int), (s : Int)]]) (by omega) (by omega) (by omega) (by simp; omega))
    obtain ⟨K2, h2⟩ := ev_get (ih (s + 1) acc (by omega) (by omega) (by omega) (by omega))
    refine ⟨K1 + K2 + 1, fun k hk => ?_⟩
    obtain ⟨k, rfl⟩ : ∃ m, k = m + 1 := ⟨k - 1, by omega⟩
    simp only [spec_quAttacks.l1]
    rw [if_pos (by omega), if_pos (by omega), rd_nat _ _ hs1, w64 (q[r] - q[s]) (by omega) (by omega), l1Abs_eq _ (by omega) (by omega), Option.bind_some, w64 ((s : Int) - (r : Int)) (by omega) (by omega), w64 ((s : Int) + 1) (by omega) (by omega), show ((s : Int) + 1) = ((s + 1 : Nat) : Int) by omega, h1 k (by omega), h2 k (by omega), rowP_step q r s hs1, if_pos (show acc.length < 5864062014805 by omega)]
    have he : (att q r s = true) ↔ (((q[r] - q[s]).natAbs : Int) = (s : Int) - (r : Int)) := by
      unfold att
      simp only [List.getD_eq_getElem?_getD, List.getElem?_eq_getElem hr, List.getElem?_eq_getElem hs1, Option.getD_some, decide_eq_true_iff]
      omega
    by_cases h : att q r s = true
    · rw [if_pos (he.1 h), if_pos h]; simp [List.append_assoc]
    · rw [if_neg (fun x => h (he.2 x)), if_neg h]; simp
theorem quAttacks_outer (q : List Int) (hg : goodB q = true) : ∀ (d r : Nat) (acc : List (List Int)), q.length - r = d → r ≤ q.length → acc.length ≤ 8 * r →
    Ev (fun k => spec_quAttacks.l0 k q acc q (q.length : Int) (r : Int)) (acc ++ allP q r) := by
  have hl := good_len hg
  intro d
  induction d with
  | zero =>
    intro r acc hd hr ha
    refine ⟨1, fun k hk => ?_⟩
    obtain ⟨k, rfl⟩ : ∃ m, k = m + 1 := ⟨k - 1, by omega⟩
    simp only [spec_quAttacks.l0]
    rw [if_neg (by omega), allP_nil q r (by omega), List.append_nil]
  | succ d ih =>
    intro r acc hd hr ha
    have hr1 : r < q.length := by omega
    obtain ⟨K, hK⟩ := ev_get (quAttacks_inner q hg r hr1 (fun acc ha => ih (r + 1) acc (by omega) (by omega) ha) (q.length - (r + 1)) (r + 1) acc (by omega) (by omega) (by omega) (by omega))
    refine ⟨K + 1, fun k hk => ?_⟩
    obtain ⟨k, rfl⟩ : ∃ m, k = m + 1 := ⟨k - 1, by omega⟩
    simp only [spec_quAttacks.l0]
    rw [if_pos (by omega), if_pos (by omega), if_pos (by omega), rd_nat _ _ hr1, w64 _ (by omega) (by omega), show ((r : Int) + 1) = ((r + 1 : Nat) : Int) by omega, hK k (by omega), allP_step q r hr1, List.append_assoc]
theorem quAttacks_ev (q : List Int) (hg : goodB q = true) : Ev (fun k => spec_quAttacks.f k q) (allP q 0) := by
  obtain ⟨K, hK⟩ := ev_get (quAttacks_outer q hg q.length 0 [] (by omega) (by omega) (by simp))
  refine ⟨K, fun k hk => ?_⟩
  simp only [spec_quAttacks.f]
  simpa using hK k hk
theorem allP_mem (q : List Int) (p : List Int) : p ∈ allP q 0 ↔ ∃ r s : Nat, r < s ∧ s < q.length ∧ att q r s = true ∧ p = [(r : Int), (s : Int)] := by
  unfold allP rowP
  simp only [List.mem_flatMap, List.mem_map, List.mem_filter, List.mem_range'_1]
  constructor
  · rintro ⟨r, ⟨_, hr⟩, s, ⟨⟨hs1, hs2⟩, ha⟩, rfl⟩
    exact ⟨r, s, by omega, by omega, ha, rfl⟩
  · rintro ⟨r, s, h1, h2, ha, rfl⟩
    exact ⟨r, ⟨by omega, by omega⟩, s, ⟨⟨by omega, by omega⟩, ha⟩, rfl⟩
/-- No two rows attack each other. -/
def freeB (q : List Int) : Bool := decide (∀ s, s < q.length → ∀ r, r < s → att q r s = false)
theorem freeB_allP (q : List Int) : (((allP q 0).length : Int) == 0) = freeB q := by
  rw [Bool.eq_iff_iff, beq_iff_eq]
  unfold freeB
  rw [decide_eq_true_iff]
  constructor
  · intro h s hs r hr
    have h0 : allP q 0 = [] := List.eq_nil_of_length_eq_zero (by omega)
    cases ha : att q r s with
    | false => rfl
    | true =>
      have : [(r : Int), (s : Int)] ∈ allP q 0 := (allP_mem q _).2 ⟨r, s, hr, hs, ha, rfl⟩
      rw [h0] at this; cases this
  · intro h
    have h0 : allP q 0 = [] := by
      rw [List.eq_nil_iff_forall_not_mem]
      intro p hp
      obtain ⟨r, s, h1, h2, ha, _⟩ := (allP_mem q p).1 hp
      rw [h s h2 r h1] at ha; cases ha
    rw [h0]; rfl
def rowFree (q : List Int) (r s : Nat) : Prop := ∀ r', r ≤ r' → r' < s → att q r' s = false
def freeFrom (q : List Int) (s : Nat) : Prop := ∀ s', s ≤ s' → s' < q.length → rowFree q 0 s'
theorem rowFree_step (q : List Int) (r s : Nat) (h : r < s) : rowFree q r s ↔ att q r s = false ∧ rowFree q (r + 1) s := by
  constructor
  · intro H
    exact ⟨H r (by omega) h, fun r' h1 h2 => H r' (by omega) h2⟩
  · rintro ⟨h0, H⟩ r' h1 h2
    by_cases e : r' = r
    · subst e; exact h0
    · exact H r' (by omega) h2
theorem freeFrom_step (q : List Int) (s : Nat) (h : s < q.length) : freeFrom q s ↔ rowFree q 0 s ∧ freeFrom q (s + 1) := by
  constructor
  · intro H
    exact ⟨H s (by omega) h, fun s' h1 h2 => H s' (by omega) h2⟩
  · rintro ⟨h0, H⟩ s' h1 h2
    by_cases e : s' = s
    · subst e; exact h0
    · exact H s' (by omega) h2
theorem freeB_eq (q : List Int) : freeB q = true ↔ freeFrom q 0 := by
  unfold freeB
  rw [decide_eq_true_iff]
  exact ⟨fun h s _ hs r _ hr => h s hs r hr, fun h s hs r hr => h s (by omega) hs r (by omega) hr⟩
open Classical in
theorem areQueens_inner (q : List Int) (hg : Small q) (s : Nat) (hs : s < q.length)
    (hout : Ev (fun k => impl_areQueens.l0 k q q (q.length : Int) ((s + 1 : Nat) : Int)) (decide (freeFrom q (s + 1)))) :
    ∀ (d r : Nat), s - r = d → r ≤ s →
    Ev (fun k => impl_areQueens.l1 k q (s : Int) q[s] q (q.length : Int) (s : Int) (q.take s) ((q.take s).length : Int) (r : Int)) (decide (rowFree q r s ∧ freeFrom q (s + 1))) := by
  have hl := hg.1
  have ht : (q.take s).length = s := by rw [List.length_take]; omega
  intro d
  induction d with
  | zero =>
    intro r hd hr
    obtain ⟨K, hK⟩ := ev_get hout
    refine ⟨K + 1, fun k hk => ?_⟩
    obtain ⟨k, rfl⟩ : ∃ m, k = m + 1 := ⟨k - 1, by omega⟩
    simp only [impl_areQueens.l1]
    rw [ht, if_neg (by omega), w64 _ (by omega) (by omega), show ((s : Int) + 1) = ((s + 1 : Nat) : Int) by omega, hK k (by omega)]
    congr 1
    rw [decide_eq_decide]
    exact ⟨fun h => ⟨fun r' h1 h2 => by omega, h⟩, fun h => h.2⟩
  | succ d ih =>
    intro r hd hr
    have hr1 : r < s := by omega
    obtain ⟨K, hK⟩ := ev_get (ih (r + 1) (by omega) (by omega))
    refine ⟨K + 1, fun k hk => ?_⟩
    obtain ⟨k, rfl⟩ : ∃ m, k = m + 1 := ⟨k - 1, by omega⟩
    have hK := hK k (by omega)
    simp only [impl_areQueens.l1]
    rw [ht] at hK ⊢
    rw [if_pos (by omega), if_pos (by omega), if_pos (by omega), rd_nat _ _ (show r < (q.take s).length by omega), List.getElem_take, attacked_eq q hg r s (by omega) hs, Option.bind_some, w64 _ (by omega) (by omega), show ((r : Int) + 1) = ((r + 1 : Nat) : Int) by omega, hK]
    have hst := rowFree_step q r s hr1
    by_cases ha : att q r s = true
    · rw [if_pos ha]
      congr 1
      symm; apply decide_eq_false
      rintro ⟨h1, _⟩
      rw [(hst.1 h1).1] at ha; cases ha
    · rw [if_neg ha]
      congr 1
      rw [decide_eq_decide]
      exact ⟨fun h => ⟨hst.2 ⟨by simpa using ha, h.1⟩, h.2⟩, fun h => ⟨(hst.1 h.1).2, h.2⟩⟩
open Classical in
theorem areQueens_outer (q : List Int) (hg : Small q) : ∀ (d s : Nat), q.length - s = d → s ≤ q.length →
    Ev (fun k => impl_areQueens.l0 k q q (q.length : Int) (s : Int)) (decide (freeFrom q s)) := by
  have hl := hg.1
  intro d
  induction d with
  | zero =>
    intro s hd hs
    refine ⟨1, fun k hk => ?_⟩
    obtain ⟨k, rfl⟩ : ∃ m, k = m + 1 := ⟨k - 1, by omega⟩
    simp only [impl_areQueens.l0]
    rw [if_neg (by omega)]
    congr 1
    symm; apply decide_eq_true
    intro s' h1 h2; omega
  | succ d ih =>
    intro s hd hs
    have hs1 : s < q.length := by omega
    obtain ⟨K, hK⟩ := ev_get (areQueens_inner q hg s hs1 (ih (s + 1) (by omega) (by omega)) s 0 (by omega) (by omega))
    refine ⟨K + 1, fun k hk => ?_⟩
    obtain ⟨k, rfl⟩ : ∃ m, k = m + 1 := ⟨k - 1, by omega⟩
    simp only [impl_areQueens.l0]
    rw [if_pos (by omega), if_pos (by omega), if_pos (by omega), if_pos (by omega), Option.bind_some, rd_nat _ _ hs1, show (s : Int).toNat = s by omega]
    refine (hK k (by omega)).trans ?_
    congr 1
    rw [decide_eq_decide]
    exact (freeFrom_step q s hs1).symm
theorem areQueens_ev (q : List Int) (hg : Small q) : Ev (fun k => impl_areQueens.f k q) (freeB q) := by
  classical
  obtain ⟨K, hK⟩ := ev_get (areQueens_outer q hg q.length 0 (by omega) (by omega))
  refine ⟨K, fun k hk => ?_⟩
  simp only [impl_areQueens.f]
  refine (hK k hk).trans ?_
  congr 1
  rw [Bool.eq_iff_iff, decide_eq_true_iff, freeB_eq]
end Go.Proofs.Ytnpacpdpgngdpaa.P
namespace Go.Proofs.Ytnpacpdpgngdpaa.P
open Go.RowKit Go.Proofs.YtnpacpdpgngdpaaW.PrintWords Go.Proofs.YtnpacpdpgngdpaaW.PrintLast Go.Proofs.YtnpacpdpgngdpaaW.PrintMore
set_option linter.unusedVariables false
set_option linter.unusedSimpArgs false
/-- All lists of N numbers that go on a list, d numbers being missing, in order. -/
def P (N : Nat) : Nat → List Int → List (List Int)
  | 0, q => [q]
  | d + 1, q => (List.range' 0 (N - 0)).flatMap fun (c : Nat) => if (c : Int) ∈ q then [] else P N d (q ++ [(c : Int)])
def PF (N d : Nat) (q : List Int) (i : Nat) : List (List Int) := (List.range' i (N - i)).flatMap fun (c : Nat) => if (c : Int) ∈ q then [] else P N d (q ++ [(c : Int)])
theorem P_succ (N d : Nat) (q : List Int) : P N (d + 1) q = PF N d q 0 := rfl
theorem PF_step (N d : Nat) (q : List Int) (i : Nat) (h : i < N) : PF N d q i = (if (i : Int) ∈ q then [] else P N d (q ++ [(i : Int)])) ++ PF N d q (i + 1) := by
  unfold PF
  rw [range'_step i N h, List.flatMap_cons]
theorem PF_nil (N d : Nat) (q : List Int) (i : Nat) (h : N ≤ i) : PF N d q i = [] := by
  unfold PF
  rw [show N - i = 0 by omega]; rfl
def OkQ (N : Nat) (q : List Int) : Prop := q.length ≤ N ∧ ∀ x ∈ q, 0 ≤ x ∧ x < (N : Int)
theorem okq_nil (N : Nat) : OkQ N [] := ⟨by simp, by simp⟩
theorem okq_snoc {N : Nat} {q : List Int} (h : OkQ N q) (hl : q.length < N) {i : Nat} (hi : i < N) : OkQ N (q ++ [(i : Int)]) := by
  refine ⟨by simp; omega, fun x hx => ?_⟩
  rcases List.mem_append.1 hx with hx | hx
  · exact h.2 x hx
  · rw [List.mem_singleton.1 hx]; omega
theorem okq_small {N : Nat} (hN : N ≤ 8) {q : List Int} (h : OkQ N q) : Small q :=
  ⟨by have := h.1; omega, fun i hi => by have := h.2 q[i] (List.getElem_mem hi); omega⟩
theorem P_mem (N : Nat) : ∀ (d : Nat) (q : List Int), OkQ N q → q.length + d = N → ∀ x ∈ P N d q, OkQ N x ∧ x.length = N ∧ ∃ t, x = q ++ t
  | 0, q, h, hl, x, hx => by
    rw [P, List.mem_singleton] at hx
    subst hx
    exact ⟨h, hl, [], by simp⟩
  | d + 1, q, h, hl, x, hx => by
    rw [P, List.mem_flatMap] at hx
    obtain ⟨c, hc, hx⟩ := hx
    rw [List.mem_range'_1] at hc
    split at hx
    · cases hx
    · obtain ⟨h1, h2, t, h3⟩ := P_mem N d _ (okq_snoc h (by omega) (i := c) (by omega)) (by simp; omega) x hx
      exact ⟨h1, h2, (c : Int) :: t, by rw [h3]; simp⟩
theorem PF_len (N d : Nat) (q : List Int) (b : Nat) (hb : ∀ c, c < N → (P N d (q ++ [(c : Int)])).length ≤ b) : ∀ (e i : Nat), N - i = e → (PF N d q i).length ≤ e * b
  | 0, i, he => by rw [PF_nil N d q i (by omega)]; simp
  | e + 1, i, he => by
    rw [PF_step N d q i (by omega), List.length_append, Nat.succ_mul]
    have h1 := PF_len N d q b hb e (i + 1) (by omega)
    have h2 := hb i (by omega)
    split <;> simp <;> omega
theorem P_len (N : Nat) : ∀ (d : Nat) (q : List Int), (P N d q).length ≤ N ^ d
  | 0, q => by simp [P]
  | d + 1, q => by
    rw [P_succ]
    have := PF_len N d q (N ^ d) (fun c _ => P_len N d _) N 0 (by omega)
    rw [Nat.pow_succ, Nat.mul_comm]; exact this
theorem pow_bound {N d : Nat} (hN : N ≤ 8) (hd : d ≤ N) : N ^ d ≤ 16777216 :=
  Nat.le_trans (Nat.pow_le_pow_left hN d) (Nat.le_trans (Nat.pow_le_pow_right (by decide) (show d ≤ 8 by omega)) (by decide))
def Her (G : List Int → Bool) : Prop := ∀ q c, G (q ++ [c]) = true → G q = true
theorem her_pre {G : List Int → Bool} (h : Her G) : ∀ (t q : List Int), G (q ++ t) = true → G q = true
  | [], q, hq => by simpa using hq
  | c :: t, q, hq => h q c (her_pre h t (q ++ [c]) (by simpa using hq))
theorem P_none {N d : Nat} {q : List Int} {G : List Int → Bool} (h : Her G) (ho : OkQ N q) (hl : q.length + d = N) (hq : G q = false) : (P N d q).filter G = [] := by
  rw [List.filter_eq_nil_iff]
  intro x hx hg
  obtain ⟨_, _, t, rfl⟩ := P_mem N d q ho hl x hx
  rw [her_pre h t q hg] at hq
  cases hq
theorem own7 (l : List Int) (h : l.length < 17592186044416) : spec_l1Own.f l = some l := by
  unfold spec_l1Own.f; simp [h]
theorem clone7 (l : List Int) (h : l.length < 17592186044416) : slices_Clone_int_int.f l = some l := if_pos h
theorem grown_ev (N : Nat) (hN : N ≤ 8) (good : List Int → Option Bool) (G : List Int → Bool) (hgood : ∀ q, OkQ N q → good q = some (G q)) (hher : Her G) :
    ∀ (d : Nat) (q : List Int) (out : List (List Int)), OkQ N q → q.length + d = N → out.length + (P N d q).length ≤ 16777216 →
    Ev (fun k => impl_grown_1.f k good (N : Int) q out) (out ++ (P N d q).filter G) := by
  intro d
  induction d with
  | zero =>
    intro q out ho hl hb
    refine ⟨1, fun k hk => ?_⟩
    obtain ⟨k, rfl⟩ : ∃ m, k = m + 1 := ⟨k - 1, by omega⟩
    have hq8 := ho.1
    simp only [impl_grown_1.f, hgood q ho, Option.bind_some, P, List.length_singleton] at hb ⊢
    cases hG : G q with
    | false => simp [hG]
    | true => rw [if_pos rfl, if_pos (by omega), clone7 q (by omega), Option.bind_some, if_pos (by omega)]; simp [hG]
  | succ d ih =>
    intro q out ho hl hb
    have hq8 := ho.1
    have hloop : ∀ (e i : Nat) (out : List (List Int)), N - i = e → i ≤ N → out.length + (PF N d q i).length ≤ 16777216 →
        Ev (fun k => impl_grown_1.l0 k good (N : Int) q out (i : Int)) (out ++ (PF N d q i).filter G) := by
      intro e
      induction e with
      | zero =>
        intro i out he hi hb
        refine ⟨1, fun k hk => ?_⟩
        obtain ⟨k, rfl⟩ : ∃ m, k = m + 1 := ⟨k - 1, by omega⟩
        dsimp only
        rw [impl_grown_1.l0, if_neg (by omega), PF_nil N d q i (by omega)]; simp
      | succ e ihe =>
        intro i out he hi hb
        rw [PF_step N d q i (by omega)] at hb ⊢
        obtain ⟨K1, h1⟩ := ev_get (Contains_ev q (i : Int) (by omega))
        by_cases hc : (i : Int) ∈ q
        · simp only [if_pos hc, List.nil_append] at hb ⊢
          obtain ⟨K2, h2⟩ := ev_get (ihe (i + 1) out (by omega) (by omega) hb)
          refine ⟨K1 + K2 + 1, fun k hk => ?_⟩
          obtain ⟨k, rfl⟩ : ∃ m, k = m + 1 := ⟨k - 1, by omega⟩
          dsimp only
          rw [impl_grown_1.l0, if_pos (by omega), h1 k (by omega), Option.bind_some, decide_eq_true hc, if_pos rfl, w64 _ (by omega) (by omega), show ((i : Int) + 1) = ((i + 1 : Nat) : Int) by omega]
          exact h2 k (by omega)
        · simp only [if_neg hc, List.length_append] at hb ⊢
          have hf := List.length_filter_le G (P N d (q ++ [(i : Int)]))
          obtain ⟨K2, h2⟩ := ev_get (ih (q ++ [(i : Int)]) out (okq_snoc ho (by omega) (by omega)) (by simp; omega) (by omega))
          obtain ⟨K3, h3⟩ := ev_get (ihe (i + 1) (out ++ (P N d (q ++ [(i : Int)])).filter G) (by omega) (by omega) (by rw [List.length_append]; omega))
          refine ⟨K1 + K2 + K3 + 1, fun k hk => ?_⟩
          obtain ⟨k, rfl⟩ : ∃ m, k = m + 1 := ⟨k - 1, by omega⟩
          dsimp only
          rw [impl_grown_1.l0, if_pos (by omega), h1 k (by omega), Option.bind_some, decide_eq_false hc, if_neg (by simp), if_pos (by omega), h2 k (by omega), Option.bind_some, w64 _ (by omega) (by omega), show ((i : Int) + 1) = ((i + 1 : Nat) : Int) by omega, h3 k (by omega), List.filter_append, List.append_assoc]
    cases hG : G q with
    | false =>
      refine ⟨1, fun k hk => ?_⟩
      obtain ⟨k, rfl⟩ : ∃ m, k = m + 1 := ⟨k - 1, by omega⟩
      dsimp only
      rw [impl_grown_1.f, hgood q ho, Option.bind_some, hG, if_neg (by simp), P_none hher ho hl hG, List.append_nil]
    | true =>
      rw [P_succ] at hb ⊢
      obtain ⟨K, hK⟩ := ev_get (hloop N 0 out (by omega) (by omega) hb)
      refine ⟨K + 1, fun k hk => ?_⟩
      obtain ⟨k, rfl⟩ : ∃ m, k = m + 1 := ⟨k - 1, by omega⟩
      dsimp only
      rw [impl_grown_1.f, hgood q ho, Option.bind_some, hG, if_pos rfl, if_neg (by omega)]
      exact hK k (by omega)
/-- No number of the list attacks a new one in the next row. -/
def fr (q : List Int) (i : Int) (r : Nat) : Prop := ∀ r', r ≤ r' → ∀ h : r' < q.length, (i - q[r']).natAbs ≠ q.length - r'
theorem fr_step (q : List Int) (i : Int) (r : Nat) (h : r < q.length) : fr q i r ↔ (i - q[r]).natAbs ≠ q.length - r ∧ fr q i (r + 1) := by
  constructor
  · intro h1
    exact ⟨h1 r (Nat.le_refl _) h, fun r' h2 h3 => h1 r' (by omega) h3⟩
  · rintro ⟨h1, h2⟩ r' h3 h4
    rcases Nat.eq_or_lt_of_le h3 with h5 | h5
    · subst h5; exact h1
    · exact h2 r' h5 h4
theorem att_snoc (q : List Int) (c : Int) (r s : Nat) (hr : r < s) (hs : s < q.length) : att (q ++ [c]) r s = att q r s := by
  unfold att
  simp only [List.getD_eq_getElem?_getD, List.getElem?_append_left hs, List.getElem?_append_left (show r < q.length by omega)]
theorem att_last (q : List Int) (c : Int) (r : Nat) (hr : r < q.length) : att (q ++ [c]) r q.length = decide ((c - q[r]).natAbs = q.length - r) := by
  unfold att
  rw [decide_eq_decide]
  simp only [List.getD_eq_getElem?_getD, List.getElem?_append_left hr, List.getElem?_append_right (Nat.le_refl _), Nat.sub_self, List.getElem?_eq_getElem hr]
  simp
  omega
theorem freeB_snoc (q : List Int) (c : Int) : freeB (q ++ [c]) = true ↔ freeB q = true ∧ fr q c 0 := by
  unfold freeB
  simp only [decide_eq_true_iff, List.length_append, List.length_singleton]
  constructor
  · intro h
    refine ⟨fun s hs r hr => by rw [← att_snoc q c r s hr hs]; exact h s (by omega) r hr, fun r _ hr => ?_⟩
    have := h q.length (by omega) r hr
    rw [att_last q c r hr] at this
    simpa using this
  · rintro ⟨h1, h2⟩ s hs r hr
    by_cases hsl : s < q.length
    · rw [att_snoc q c r s hr hsl]; exact h1 s hsl r hr
    · obtain rfl : s = q.length := by omega
      rw [att_last q c r hr]
      simpa using h2 r (by omega) hr
theorem freeB_her : Her freeB := fun q c h => ((freeB_snoc q c).1 h).1
open Classical in
theorem quAll_ev (N : Nat) (hN : N ≤ 8) : ∀ (d : Nat) (q : List Int), OkQ N q → q.length + d = N → freeB q = true →
    Ev (fun k => spec_quAll.f k (N : Int) q) ((P N d q).filter freeB) := by
  intro d
  induction d with
  | zero =>
    intro q ho hl hf
    have hq8 := ho.1
    refine ⟨1, fun k hk => ?_⟩
    obtain ⟨k, rfl⟩ : ∃ m, k = m + 1 := ⟨k - 1, by omega⟩
    dsimp only
    rw [spec_quAll.f, if_pos (by omega), own7 q (by omega), Option.bind_some, P]
    simp [hf]
  | succ d ih =>
    intro q ho hl hf
    have hq8 := ho.1
    have hsm := okq_small hN ho
    have hloop : ∀ (e i : Nat) (acc : List (List Int)), N - i = e → i ≤ N → acc.length + (PF N d q i).length ≤ 16777216 →
        Ev (fun k => spec_quAll.l0 k (N : Int) q acc (i : Int)) (acc ++ (PF N d q i).filter freeB) := by
      intro e
      induction e with
      | zero =>
        intro i acc he hi hb
        refine ⟨1, fun k hk => ?_⟩
        obtain ⟨k, rfl⟩ : ∃ m, k = m + 1 := ⟨k - 1, by omega⟩
        dsimp only
        rw [spec_quAll.l0, if_neg (by omega), PF_nil N d q i (by omega)]; simp
      | succ e ihe =>
        intro i acc he hi hb
        have hi8 : i < N := by omega
        rw [PF_step N d q i hi8] at hb ⊢
        have hok := okq_snoc ho (by omega) hi8
        -- the rounds that ask the rows one by one
        have hin : ∀ (g r : Nat) (free : Bool), q.length - r = g → r ≤ q.length → (free = true → ((i : Int) ∉ q)) →
            Ev (fun k => spec_quAll.l1 k (N : Int) q acc (i : Int) free q (q.length : Int) (r : Int))
              ((if free = true ∧ fr q i r then acc ++ (P N d (q ++ [(i : Int)])).filter freeB else acc) ++ (PF N d q (i + 1)).filter freeB) ∨ (free = true ∧ fr q i r ∧ ¬ fr q i 0) := by
          intro g
          induction g with
          | zero =>
            intro r free hg hr hfree
            have hfr : fr q i r := fun r' h1 h2 => by omega
            by_cases hff : free = true
            · by_cases h0 : fr q i 0
              · left
                have hnew : freeB (q ++ [(i : Int)]) = true := (freeB_snoc q i).2 ⟨hf, h0⟩
                have hc := hfree hff
                simp only [if_neg hc, List.length_append] at hb
                have hlf := List.length_filter_le freeB (P N d (q ++ [(i : Int)]))
                obtain ⟨K1, h1⟩ := ev_get (ih (q ++ [(i : Int)]) hok (by simp; omega) hnew)
                obtain ⟨K2, h2⟩ := ev_get (ihe (i + 1) (acc ++ (P N d (q ++ [(i : Int)])).filter freeB) (by omega) (by omega) (by rw [List.length_append]; omega))
                refine ⟨K1 + K2 + 1, fun k hk => ?_⟩
                obtain ⟨k, rfl⟩ : ∃ m, k = m + 1 := ⟨k - 1, by omega⟩
                dsimp only
                rw [spec_quAll.l1, if_neg (by omega), if_pos hff, own7 q (by omega), Option.bind_some, if_pos (by omega), h1 k (by omega), Option.bind_some, if_pos (by omega), w64 _ (by omega) (by omega), show ((i : Int) + 1) = ((i + 1 : Nat) : Int) by omega, h2 k (by omega), if_pos ⟨hff, hfr⟩]
              · right; exact ⟨hff, hfr, h0⟩
            · left
              obtain ⟨K2, h2⟩ := ev_get (ihe (i + 1) acc (by omega) (by omega) (by simp only [List.length_append] at hb; omega))
              refine ⟨K2 + 1, fun k hk => ?_⟩
              obtain ⟨k, rfl⟩ : ∃ m, k = m + 1 := ⟨k - 1, by omega⟩
              dsimp only
              rw [spec_quAll.l1, if_neg (by omega), if_neg hff, w64 _ (by omega) (by omega), show ((i : Int) + 1) = ((i + 1 : Nat) : Int) by omega, h2 k (by omega), if_neg (fun h => hff h.1)]
          | succ g ihg =>
            intro r free hg hr hfree
            have hr1 : r < q.length := by omega
            have hx := hsm.2 r hr1
            have hst := fr_step q i r hr1
            by_cases hff : free = true
            · have habs : (((((i : Int) - q[r]).natAbs : Int)) != ((q.length : Int) - (r : Int))) = true ↔ ((i : Int) - q[r]).natAbs ≠ q.length - r := by
                rw [bne_iff_ne]; omega
              rcases ihg (r + 1) ((((((i : Int) - q[r]).natAbs : Int)) != ((q.length : Int) - (r : Int)))) (by omega) (by omega) (fun _ => hfree hff) with h | h
              · left
                obtain ⟨K, hK⟩ := ev_get h
                refine ⟨K + 1, fun k hk => ?_⟩
                obtain ⟨k, rfl⟩ : ∃ m, k = m + 1 := ⟨k - 1, by omega⟩
                dsimp only
                rw [spec_quAll.l1, if_pos (by omega), if_pos (by omega), if_pos (by omega), if_pos hff, rd_nat _ _ hr1, w64 ((i : Int) - q[r]) (by omega) (by omega), l1Abs_eq _ (by omega) (by omega), Option.bind_some, w64 ((q.length : Int) - r) (by omega) (by omega), w64 ((r : Int) + 1) (by omega) (by omega), show ((r : Int) + 1) = ((r + 1 : Nat) : Int) by omega, hK k (by omega)]
                have he : ((((((i : Int) - q[r]).natAbs : Int)) != ((q.length : Int) - (r : Int))) = true ∧ fr q i (r + 1)) ↔ (free = true ∧ fr q i r) := by
                  rw [habs, hst]; exact ⟨fun h => ⟨hff, h⟩, fun h => h.2⟩
                simp only [he]
              · right
                exact ⟨hff, hst.2 ⟨habs.1 h.1, h.2.1⟩, h.2.2⟩
            · left
              rcases ihg (r + 1) false (by omega) (by omega) (fun h => by cases h) with h | h
              · obtain ⟨K, hK⟩ := ev_get h
                refine ⟨K + 1, fun k hk => ?_⟩
                obtain ⟨k, rfl⟩ : ∃ m, k = m + 1 := ⟨k - 1, by omega⟩
                dsimp only
                rw [spec_quAll.l1, if_pos (by omega), if_pos (by omega), if_pos (by omega), if_neg hff, w64 ((r : Int) + 1) (by omega) (by omega), show ((r : Int) + 1) = ((r + 1 : Nat) : Int) by omega, hK k (by omega), if_neg (fun h => by cases h.1), if_neg (fun h => hff h.1)]
              · cases h.1
        obtain ⟨K1, h1⟩ := ev_get (l1Has_ev q (i : Int) (by omega))
        rcases hin q.length 0 (!decide ((i : Int) ∈ q)) (by omega) (by omega) (fun h => by simpa using h) with h | h
        · obtain ⟨K2, h2⟩ := ev_get h
          refine ⟨K1 + K2 + 1, fun k hk => ?_⟩
          obtain ⟨k, rfl⟩ : ∃ m, k = m + 1 := ⟨k - 1, by omega⟩
          dsimp only
          rw [spec_quAll.l0, if_pos (by omega), h1 k (by omega), Option.bind_some]
          refine (h2 k (by omega)).trans ?_
          congr 1
          rw [List.filter_append, ← List.append_assoc]
          congr 1
          by_cases hc : (i : Int) ∈ q
          · rw [if_neg (fun h => by simpa [hc] using h.1), if_pos hc]; simp
          · rw [if_neg hc]
            by_cases h0 : fr q i 0
            · rw [if_pos ⟨by simpa using hc, h0⟩]
            · rw [if_neg (fun h => h0 h.2)]
              have : freeB (q ++ [(i : Int)]) = false := by
                rw [Bool.eq_false_iff]
                intro h; exact h0 ((freeB_snoc q i).1 h).2
              rw [P_none freeB_her hok (by simp; omega) this, List.append_nil]
        · exact absurd h.2.1 h.2.2
    rw [P_succ]
    have hb := P_len N (d + 1) q
    have hp := pow_bound hN (show d + 1 ≤ N by omega)
    rw [P_succ] at hb
    obtain ⟨K, hK⟩ := ev_get (hloop N 0 [] (by omega) (by omega) (by simp; omega))
    refine ⟨K + 1, fun k hk => ?_⟩
    obtain ⟨k, rfl⟩ : ∃ m, k = m + 1 := ⟨k - 1, by omega⟩
    dsimp only
    rw [spec_quAll.f, if_neg (by omega)]
    simpa using hK k (by omega)
theorem areQueens_lim (q : List Int) (h : Small q) : impl_areQueens.fn q = some (freeB q) := by
  obtain ⟨K, hK⟩ := ev_get (areQueens_ev q h)
  exact Fn.lim_of (impl_areQueens.mono q) (hK K (Nat.le_refl _))
theorem grownAll_ev (N : Nat) (hN : N ≤ 8) (q : List Int) (ho : OkQ N q) (d : Nat) (hd : q.length + d = N) :
    Ev (fun k => impl_grown.f k (N : Int) q impl_areQueens.fn) ((P N d q).filter freeB) := by
  have hb := P_len N d q
  have hp := pow_bound hN (show d ≤ N by omega)
  obtain ⟨K, hK⟩ := ev_get (grown_ev N hN impl_areQueens.fn freeB (fun q h => areQueens_lim q (okq_small hN h)) freeB_her d q [] ho hd (by simp; omega))
  refine ⟨K, fun k hk => ?_⟩
  simp only [impl_grown.f, clone7 q (by have := ho.1; omega), Option.bind_some]
  simpa using hK k hk
/-- The lists of queens. -/
def allQ (N : Nat) : List (List Int) := (P N N []).filter freeB
theorem allQ_len (N : Nat) (hN : N ≤ 8) : (allQ N).length ≤ 16777216 :=
  Nat.le_trans (List.length_filter_le _ _) (Nat.le_trans (P_len N N []) (pow_bound hN (Nat.le_refl _)))
theorem allQ_row {N : Nat} {x : List Int} (h : x ∈ allQ N) : OkQ N x ∧ x.length = N := by
  obtain ⟨h1, h2, _⟩ := P_mem N N [] (okq_nil N) (by simp) x (List.mem_filter.1 h).1
  exact ⟨h1, h2⟩
theorem freeB_nil : freeB [] = true := by unfold freeB; simp
theorem quAllQ_ev (N : Nat) (hN : N ≤ 8) : Ev (fun k => spec_quAll.f k (N : Int) ([] : List Int)) (allQ N) := quAll_ev N hN N [] (okq_nil N) (by simp) freeB_nil
theorem grownQ_ev (N : Nat) (hN : N ≤ 8) : Ev (fun k => impl_grown.f k (N : Int) ([] : List Int) impl_areQueens.fn) (allQ N) := grownAll_ev N hN [] (okq_nil N) N (by simp)
end Go.Proofs.Ytnpacpdpgngdpaa.P
namespace Go.Proofs.Ytnpacpdpgngdpaa.P
open Go.RowKit Go.Proofs.YtnpacpdpgngdpaaW.PrintWords Go.Proofs.YtnpacpdpgngdpaaW.PrintLast Go.Proofs.YtnpacpdpgngdpaaW.PrintMore
set_option linter.unusedVariables false
set_option linter.unusedSimpArgs false
def Bytes (s : List Int) : Prop := ∀ x ∈ s, 0 ≤ x ∧ x ≤ 255
theorem bytes_of {s : List Int} (h : ∀ x ∈ s, (Lit.int .u8 x).wf = true) : Bytes s := by
  intro x hx
  have := h x hx
  simp [Lit.wf, IntKind.wrap, IntKind.bits, IntKind.signed, IntKind.min, IntKind.max] at this
  omega
theorem u64_wrap (n : Int) : IntKind.u64.wrap n = n % 18446744073709551616 := by simp [IntKind.wrap, IntKind.bits, IntKind.signed]
theorem seed_byte (n : Int) : 0 ≤ Go.bits .and .u64 (IntKind.u64.wrap n / 1099511627776) 255 ∧ Go.bits .and .u64 (IntKind.u64.wrap n / 1099511627776) 255 ≤ 255 := by
  have h0 : 0 ≤ IntKind.u64.wrap n / 1099511627776 := by rw [u64_wrap]; omega
  have h1 : IntKind.u64.wrap n / 1099511627776 < 2 ^ 24 := by rw [u64_wrap]; omega
  have := bits_mask .u64 24 (by decide) (fun n h0 h1 => by rw [u64_wrap]; omega) 8 (by decide) _ h0 h1
  have e : (2 : Int) ^ 8 - 1 = 255 := by decide
  rw [e] at this
  rw [this]
  omega
theorem next_ok {s : List Int} (hs : Bytes s) (a b : Int) (h0 : 0 ≤ a) (h1 : a ≤ 4611686018427387904) : ∃ x b', spec_l1Cur_next.f s a b = some (x, a + 1, b') ∧ 0 ≤ x ∧ x ≤ 255 := by
  unfold spec_l1Cur_next.f
  rw [w64 (a + 1) (by omega) (by omega)]
  by_cases h : a < (s.length : Int)
  · rw [if_pos h, if_pos h0, if_pos (by omega)]
    have hx := hs (rd s a) (by
      obtain ⟨n, rfl⟩ : ∃ n : Nat, a = (n : Int) := ⟨a.toNat, by omega⟩
      rw [rd_nat _ _ (show n < s.length by omega)]
      exact List.getElem_mem _)
    rw [w64 _ (by omega) (by omega)]
    exact ⟨_, _, rfl, hx⟩
  · rw [if_neg h, if_neg (by omega)]
    have hx := seed_byte ((IntKind.u64.wrap (IntKind.u64.wrap (b * 6364136223846793005))) + 1442695040888963407)
    rw [w64 (Go.bits _ _ _ _) (by omega) (by omega)]
    exact ⟨_, _, rfl, hx⟩
theorem pick_ok {s : List Int} (hs : Bytes s) (a b n : Int) (h0 : 0 ≤ a) (h1 : a ≤ 4000000000000000000) : ∃ x a' b', spec_l1Cur_pick.f s a b n = some (x, a', b') ∧ 0 ≤ x ∧ (x < n ∨ n ≤ 1 ∧ x = 0) ∧ a ≤ a' ∧ a' ≤ a + 2 := by
  unfold spec_l1Cur_pick.f
  by_cases h : n ≤ 1
  · rw [if_pos h]
    exact ⟨0, a, b, rfl, by omega, .inr ⟨h, rfl⟩, by omega, by omega⟩
  · rw [if_neg h]
    obtain ⟨x, b1, e1, h2, h3⟩ := next_ok hs a b h0 (by omega)
    rw [e1]
    simp only [Option.bind_some]
    by_cases h4 : n > 200
    · obtain ⟨y, b2, e2, h5, h6⟩ := next_ok hs (a + 1) b1 (by omega) (by omega)
      rw [if_pos h4, e2]
      simp only [Option.bind_some]
      rw [if_neg (by omega), w64 (x * 256) (by omega) (by omega), w64 _ (by omega) (by omega)]
      refine ⟨_, _, _, rfl, Int.tmod_nonneg _ (by omega), .inl (Int.tmod_lt_of_pos _ (by omega)), by omega, by omega⟩
    · rw [if_neg h4, if_neg (by omega)]
      refine ⟨_, _, _, rfl, Int.tmod_nonneg _ (by omega), .inl (Int.tmod_lt_of_pos _ (by omega)), by omega, by omega⟩
theorem one_ok {s : List Int} (hs : Bytes s) (a b n : Int) (h0 : 0 ≤ a) (h1 : a ≤ 4000000000000000000) : ∃ x a' b', spec_l1Cur_one.f s a b n = some (x, a', b') ∧ a ≤ a' ∧ a' ≤ a + 2 := by
  obtain ⟨x, a', b', e, _, _, h4, h5⟩ := pick_ok hs a b n h0 h1
  unfold spec_l1Cur_one.f
  rw [e]
  exact ⟨_, _, _, rfl, h4, h5⟩
theorem among_ok {s : List Int} (hs : Bytes s) (a b : Int) (l : List Int) (hl : 0 < l.length) (h0 : 0 ≤ a) (h1 : a ≤ 4000000000000000000) : ∃ x a' b', spec_l1Cur_among.f s a b l = some (x, a', b') ∧ x ∈ l ∧ a ≤ a' ∧ a' ≤ a + 2 := by
  obtain ⟨x, a', b', e, h2, h3, h4, h5⟩ := pick_ok hs a b (l.length : Int) h0 h1
  unfold spec_l1Cur_among.f
  rw [e]
  simp only [Option.bind_some]
  have hx : x < (l.length : Int) := by omega
  rw [if_pos h2, if_pos hx]
  refine ⟨_, _, _, rfl, ?_, h4, h5⟩
  obtain ⟨n, rfl⟩ : ∃ n : Nat, x = (n : Int) := ⟨x.toNat, by omega⟩
  rw [rd_nat _ _ (show n < l.length by omega)]
  exact List.getElem_mem _
theorem order4_j1 {s : List Int} (hs : Bytes s) (n : Int) (l : List Int) (x : Bool) (a b : Int) (h0 : 0 ≤ a) (h1 : a ≤ 1000000000000000000) (hx : x = true → 0 < l.length) :
    ∃ r a' b', (∀ k, spec_l1Cur_order4.j1 (k + 1) n l x s a b = some (r, a', b')) ∧ r.length = l.length ∧ a ≤ a' ∧ a' ≤ a + 4 := by
  cases x with
  | false => exact ⟨l, a, b, fun k => by simp [spec_l1Cur_order4.j1], rfl, by omega, by omega⟩
  | true =>
    obtain ⟨x, a1, b1, e1, h2, h3, h4, h5⟩ := pick_ok hs a b (l.length : Int) h0 (by omega)
    obtain ⟨y, a2, b2, e2, h6, h7, h8⟩ := among_ok hs a1 b1 [(-1), 0, n, 4611686018427387904] (by simp) (by omega) (by omega)
    have hp := hx rfl
    refine ⟨l.set x.toNat y, a2, b2, fun k => ?_, by simp, by omega, by omega⟩
    rw [spec_l1Cur_order4.j1, if_pos rfl, e1]
    simp only [Option.bind_some]
    rw [e2]
    simp only [Option.bind_some]
    rw [if_pos h2, if_pos (by omega)]
theorem order4_l0 {s : List Int} (hs : Bytes s) (n : Nat) (hn : n ≤ 1000) : ∀ (d i : Nat) (l : List Int) (a b : Int), n - i = d → i ≤ n → l.length = i → 0 ≤ a → a ≤ 1000000 + 2 * i →
    ∃ r a' b', (∀ k, d + 2 ≤ k → spec_l1Cur_order4.l0 k (n : Int) l (i : Int) s a b = some (r, a', b')) ∧ r.length = n ∧ a ≤ a' ∧ a' ≤ a + 2 * d + 10 := by
  intro d
  induction d with
  | zero =>
    intro i l a b hd hi hl h0 h1
    have e : i = n := by omega
    by_cases hp : (l.length : Int) > 0
    · obtain ⟨x, a1, b1, e1, h4, h5⟩ := one_ok hs a b 15 h0 (by omega)
      obtain ⟨r, a2, b2, e2, h6, h7, h8⟩ := order4_j1 hs n l x a1 b1 (by omega) (by omega) (fun _ => by omega)
      refine ⟨r, a2, b2, fun k hk => ?_, by omega, by omega, by omega⟩
      obtain ⟨k, rfl⟩ : ∃ m, k = m + 2 := ⟨k - 2, by omega⟩
      rw [spec_l1Cur_order4.l0, if_neg (by omega), if_pos hp, e1]
      simp only [Option.bind_some]
      exact e2 k
    · obtain ⟨r, a2, b2, e2, h6, h7, h8⟩ := order4_j1 hs n l false a b h0 (by omega) (fun h => by cases h)
      refine ⟨r, a2, b2, fun k hk => ?_, by omega, by omega, by omega⟩
      obtain ⟨k, rfl⟩ : ∃ m, k = m + 2 := ⟨k - 2, by omega⟩
      rw [spec_l1Cur_order4.l0, if_neg (by omega), if_neg hp]
      exact e2 k
  | succ d ih =>
    intro i l a b hd hi hl h0 h1
    obtain ⟨x, a1, b1, e1, h2, h3, h4, h5⟩ := pick_ok hs a b ((i : Int) + 1) h0 (by omega)
    have hx : x ≤ (l.length : Int) := by omega
    obtain ⟨m, rfl⟩ : ∃ m : Nat, x = (m : Int) := ⟨x.toNat, by omega⟩
    obtain ⟨r, a2, b2, e2, h6, h7, h8⟩ := ih (i + 1) ((l.take m ++ [(i : Int)]) ++ l.drop m) a1 b1 (by omega) (by omega) (by simp; omega) (by omega) (by omega)
    refine ⟨r, a2, b2, fun k hk => ?_, h6, by omega, by omega⟩
    obtain ⟨k, rfl⟩ : ∃ m, k = m + 1 := ⟨k - 1, by omega⟩
    rw [spec_l1Cur_order4.l0, if_pos (by omega), w64 _ (by omega) (by omega), e1]
    simp only [Option.bind_some]
    rw [if_pos h2, if_pos hx, Int.toNat_natCast, own7 _ (by simp; omega)]
    simp only [Option.bind_some]
    rw [if_pos (by simp; omega), if_pos (by simp; omega)]
    have := e2 k (by omega)
    rw [show ((i + 1 : Nat) : Int) = (i : Int) + 1 by omega] at this
    exact this
theorem order4_ok {s : List Int} (hs : Bytes s) (n : Nat) (hn : n ≤ 1000) (a b : Int) (h0 : 0 ≤ a) (h1 : a ≤ 1000000) :
    ∃ r a' b', Ev (fun k => spec_l1Cur_order4.f k s a b (n : Int)) (r, a', b') ∧ r.length = n ∧ a ≤ a' ∧ a' ≤ a + 2 * n + 10 := by
  obtain ⟨r, a', b', e, h2, h3, h4⟩ := order4_l0 hs n hn n 0 [] a b (by omega) (by omega) rfl h0 (by omega)
  exact ⟨r, a', b', ⟨n + 2, fun k hk => by simpa [spec_l1Cur_order4.f] using e k hk⟩, h2, h3, by omega⟩
theorem queens_j0 {s : List Int} (hs : Bytes s) (n : Nat) (hn : n ≤ 8) (all : List (List Int)) (ha : ∀ q ∈ all, q.length ≤ 8) (hl : all.length ≤ 16777216) (x : Bool) (hx : x = false → 0 < all.length) (a b : Int) (h0 : 0 ≤ a) (h1 : a ≤ 1000000) :
    ∃ r a' b', Ev (fun k => spec_l1Cur_queens.j0 k (n : Int) all x s a b) (r, a', b') ∧ r.length ≤ 9 := by
  cases x with
  | true =>
    obtain ⟨r, a1, b1, e, h2, _, _⟩ := order4_ok hs n (by omega) a b h0 h1
    obtain ⟨K, hK⟩ := ev_get e
    refine ⟨r, a1, b1, ⟨K + 1, fun k hk => ?_⟩, by omega⟩
    obtain ⟨k, rfl⟩ : ∃ m, k = m + 1 := ⟨k - 1, by omega⟩
    simp only [spec_l1Cur_queens.j0, if_true, hK k (by omega), Option.bind_some]
  | false =>
    have hp := hx rfl
    obtain ⟨y, a1, b1, e1, h2, h3, h4, h5⟩ := pick_ok hs a b (all.length : Int) h0 (by omega)
    obtain ⟨m, rfl⟩ : ∃ m : Nat, y = (m : Int) := ⟨y.toNat, by omega⟩
    have hm : m < all.length := by omega
    have hq : (rd_L1 all (m : Int)).length ≤ 8 := by
      have : rd_L1 all (m : Int) = all[m] := by simp [rd_L1, rdOf, List.getD_eq_getElem?_getD, List.getElem?_eq_getElem hm]
      rw [this]
      exact ha _ (List.getElem_mem hm)
    obtain ⟨z, a2, b2, e2, h6, h7⟩ := one_ok hs a1 b1 15 (by omega) (by omega)
    obtain ⟨v, a3, b3, e3, h8, h9, h10⟩ := among_ok hs a2 b2 [(-1), 0, (n : Int), wrap64 ((n : Int) + 1)] (by simp) (by omega) (by omega)
    refine ⟨if z = true then rd_L1 all (m : Int) ++ [v] else rd_L1 all (m : Int), if z = true then a3 else a2, if z = true then b3 else b2, ⟨1, fun k hk => ?_⟩, by split; (simp only [List.length_append, List.length_singleton]; omega); omega⟩
    obtain ⟨k, rfl⟩ : ∃ m, k = m + 1 := ⟨k - 1, by omega⟩
    simp only [spec_l1Cur_queens.j0, Bool.false_eq_true, if_false]
    rw [e1]
    simp only [Option.bind_some]
    rw [if_pos h2, if_pos (by omega), own7 _ (by omega)]
    simp only [Option.bind_some]
    rw [e2]
    simp only [Option.bind_some]
    cases z with
    | true =>
      simp only [if_true]
      rw [e3]
      simp only [Option.bind_some]
      rw [if_pos (by omega)]
    | false => simp
theorem queens_ok {s : List Int} (hs : Bytes s) (a b : Int) (h0 : 0 ≤ a) (h1 : a ≤ 900000) : ∃ r a' b', Ev (fun k => spec_l1Cur_queens.f k s a b) (r, a', b') ∧ r.length ≤ 9 := by
  obtain ⟨x, a1, b1, e1, h2, h3, h4, h5⟩ := pick_ok hs a b 7 h0 (by omega)
  obtain ⟨m, rfl⟩ : ∃ m : Nat, x = (m : Int) := ⟨x.toNat, by omega⟩
  obtain ⟨K, hK⟩ := ev_get (quAllQ_ev (m + 1) (by omega))
  have e : wrap64 (1 + (m : Int)) = ((m + 1 : Nat) : Int) := by rw [w64 _ (by omega) (by omega)]; omega
  have hrow : ∀ q ∈ allQ (m + 1), q.length ≤ 8 := fun q hq => by have := (allQ_row hq).2; omega
  by_cases hz : (allQ (m + 1)).length = 0
  · obtain ⟨r, a2, b2, e2, h6⟩ := queens_j0 hs (m + 1) (by omega) (allQ (m + 1)) hrow (allQ_len _ (by omega)) true (fun h => by cases h) a1 b1 (by omega) (by omega)
    obtain ⟨K2, hK2⟩ := ev_get e2
    refine ⟨r, a2, b2, ⟨K + K2, fun k hk => ?_⟩, h6⟩
    simp only [spec_l1Cur_queens.f, e1, Option.bind_some, e, hK k (by omega)]
    rw [if_pos (by omega), hK2 k (by omega)]
  · obtain ⟨z, a2, b2, e2, h6, h7⟩ := one_ok hs a1 b1 3 (by omega) (by omega)
    obtain ⟨r, a3, b3, e3, h8⟩ := queens_j0 hs (m + 1) (by omega) (allQ (m + 1)) hrow (allQ_len _ (by omega)) z (fun h => by omega) a2 b2 (by omega) (by omega)
    obtain ⟨K2, hK2⟩ := ev_get e3
    refine ⟨r, a3, b3, ⟨K + K2, fun k hk => ?_⟩, h8⟩
    simp only [spec_l1Cur_queens.f, e1, Option.bind_some, e, hK k (by omega)]
    rw [if_neg (by omega), e2]
    simp only [Option.bind_some]
    rw [hK2 k (by omega)]
theorem drawQueens_ok {s : List Int} (hs : Bytes s) : ∃ r, Ev (fun k => spec_DrawAreQueens.f k s) r ∧ r.length ≤ 9 := by
  obtain ⟨r, a', b', e, h⟩ := queens_ok hs 0 0 (by omega) (by omega)
  obtain ⟨K, hK⟩ := ev_get e
  refine ⟨r, ⟨K, fun k hk => ?_⟩, h⟩
  simp only [spec_DrawAreQueens.f, hK k hk, Option.bind_some]
theorem drawCount_ok {s : List Int} (hs : Bytes s) : ∃ n, spec_DrawCountQueens.f s = some n ∧ 0 ≤ n ∧ n ≤ 9 := by
  obtain ⟨x, a', b', e, h, _, _⟩ := among_ok hs 0 0 [1, 2, 3, 4, 5, 6, 7, 8, 9, 0] (by simp) (by omega) (by omega)
  refine ⟨x, ?_, ?_⟩
  · simp only [spec_DrawCountQueens.f, e, Option.bind_some]
  · simp only [List.mem_cons, List.not_mem_nil, or_false] at h
    omega
theorem big_eq (a b : List Int) (ha : a.length ≤ 140737488351232) (hb : b.length ≤ 140737488351232) : ∃ x, laws_big.f a b = some x := by
  unfold laws_big.f
  repeat (first | exact ⟨_, rfl⟩ | split | simp only [Option.bind_some])
end Go.Proofs.Ytnpacpdpgngdpaa.P
namespace Go.Proofs.Ytnpacpdpgngdpaa.P
open Go.RowKit Go.Proofs.YtnpacpdpgngdpaaW.PrintWords Go.Proofs.YtnpacpdpgngdpaaW.PrintLast Go.Proofs.YtnpacpdpgngdpaaW.PrintMore
set_option linter.unusedVariables false
set_option linter.unusedSimpArgs false
theorem quAttacks_innerS (q : List Int) (hg : Small q) (r : Nat) (hr : r < q.length)
    (hout : ∀ acc : List (List Int), acc.length ≤ 8 * (r + 1) → Ev (fun k => spec_quAttacks.l0 k q acc q (q.length : Int) ((r + 1 : Nat) : Int)) (acc ++ allP q (r + 1))) :
    ∀ (d s : Nat) (acc : List (List Int)), q.length - s = d → r < s → s ≤ q.length → acc.length ≤ 8 * r + (s - r) →
    Ev (fun k => spec_quAttacks.l1 k q acc (r : Int) q[r] (s : Int) q (q.length : Int) (r : Int)) (acc ++ rowP q r s ++ allP q (r + 1)) := by
  have hl := hg.1
  have hq := hg.2 r hr
  intro d
  induction d with
  | zero =>
    intro s acc hd hrs hs ha
    obtain ⟨K, hK⟩ := ev_get (hout acc (by omega))
    refine ⟨K + 1, fun k hk => ?_⟩
    obtain ⟨k, rfl⟩ : ∃ m, k = m + 1 := ⟨k - 1, by omega⟩
    simp only [spec_quAttacks.l1]
    rw [if_neg (by omega), w64 _ (by omega) (by omega), show ((r : Int) + 1) = ((r + 1 : Nat) : Int) by omega, hK k (by omega), rowP_nil q r s (by omega), List.append_nil]
  | succ d ih =>
    intro s acc hd hrs hs ha
    have hs1 : s < q.length := by omega
    have hq2 := hg.2 s hs1
    obtain ⟨K1, h1⟩ := ev_get (ih (s + 1) (acc ++ [[(r : Int), (s : Int)]]) (by omega) (by omega) (by omega) (by simp; omega))
    obtain ⟨K2, h2⟩ := ev_get (ih (s + 1) acc (by omega) (by omega) (by omega) (by omega))
    refine ⟨K1 + K2 + 1, fun k hk => ?_⟩
    obtain ⟨k, rfl⟩ : ∃ m, k = m + 1 := ⟨k - 1, by omega⟩
    simp only [spec_quAttacks.l1]
    rw [if_pos (by omega), if_pos (by omega), rd_nat _ _ hs1, w64 (q[r] - q[s]) (by omega) (by omega), l1Abs_eq _ (by omega) (by omega), Option.bind_some, w64 ((s : Int) - (r : Int)) (by omega) (by omega), w64 ((s : Int) + 1) (by omega) (by omega), show ((s : Int) + 1) = ((s + 1 : Nat) : Int) by omega, h1 k (by omega), h2 k (by omega), rowP_step q r s hs1, if_pos (show acc.length < 5864062014805 by omega)]
    have he : (att q r s = true) ↔ (((q[r] - q[s]).natAbs : Int) = (s : Int) - (r : Int)) := by
      unfold att
      simp only [List.getD_eq_getElem?_getD, List.getElem?_eq_getElem hr, List.getElem?_eq_getElem hs1, Option.getD_some, decide_eq_true_iff]
      omega
    by_cases h : att q r s = true
    · rw [if_pos (he.1 h), if_pos h]; simp [List.append_assoc]
    · rw [if_neg (fun x => h (he.2 x)), if_neg h]; simp
theorem quAttacks_outerS (q : List Int) (hg : Small q) : ∀ (d r : Nat) (acc : List (List Int)), q.length - r = d → r ≤ q.length → acc.length ≤ 8 * r →
    Ev (fun k => spec_quAttacks.l0 k q acc q (q.length : Int) (r : Int)) (acc ++ allP q r) := by
  have hl := hg.1
  intro d
  induction d with
  | zero =>
    intro r acc hd hr ha
    refine ⟨1, fun k hk => ?_⟩
    obtain ⟨k, rfl⟩ : ∃ m, k = m + 1 := ⟨k - 1, by omega⟩
    simp only [spec_quAttacks.l0]
    rw [if_neg (by omega), allP_nil q r (by omega), List.append_nil]
  | succ d ih =>
    intro r acc hd hr ha
    have hr1 : r < q.length := by omega
    obtain ⟨K, hK⟩ := ev_get (quAttacks_innerS q hg r hr1 (fun acc ha => ih (r + 1) acc (by omega) (by omega) ha) (q.length - (r + 1)) (r + 1) acc (by omega) (by omega) (by omega) (by omega))
    refine ⟨K + 1, fun k hk => ?_⟩
    obtain ⟨k, rfl⟩ : ∃ m, k = m + 1 := ⟨k - 1, by omega⟩
    simp only [spec_quAttacks.l0]
    rw [if_pos (by omega), if_pos (by omega), if_pos (by omega), rd_nat _ _ hr1, w64 _ (by omega) (by omega), show ((r : Int) + 1) = ((r + 1 : Nat) : Int) by omega, hK k (by omega), allP_step q r hr1, List.append_assoc]
theorem quAttacks_evS (q : List Int) (hg : Small q) : Ev (fun k => spec_quAttacks.f k q) (allP q 0) := by
  obtain ⟨K, hK⟩ := ev_get (quAttacks_outerS q hg q.length 0 [] (by omega) (by omega) (by simp))
  refine ⟨K, fun k hk => ?_⟩
  simp only [spec_quAttacks.f]
  simpa using hK k hk
end Go.Proofs.Ytnpacpdpgngdpaa.P
namespace Go.Proofs.Ytnpacpdpgngdpaa.P
open Go.RowKit Go.Proofs.YtnpacpdpgngdpaaW.PrintWords Go.Proofs.YtnpacpdpgngdpaaW.PrintLast Go.Proofs.YtnpacpdpgngdpaaW.PrintMore
set_option linter.unusedVariables false
set_option linter.unusedSimpArgs false
theorem rdL_nat (s : List (List Int)) (i : Nat) (h : i < s.length) : rd_L1 s (i : Int) = s[i] := by
  unfold rd_L1; simp [List.getD_eq_getElem?_getD, List.getElem?_eq_getElem h]
end Go.Proofs.Ytnpacpdpgngdpaa.P
namespace Go.Proofs.Ytnpacpdpgngdpaa.P
open Go.RowKit Go.Proofs.YtnpacpdpgngdpaaW.PrintWords Go.Proofs.YtnpacpdpgngdpaaW.PrintLast Go.Proofs.YtnpacpdpgngdpaaW.PrintMore
set_option linter.unusedVariables false
set_option linter.unusedSimpArgs false
theorem kSame_l0 (a : List Int) (hb : a.length ≤ 1152921504606846976) : ∀ (d i : Nat) (k : Nat), a.length - i = d → i ≤ a.length → d < k →
    laws_kSame.l0 k a a (a.length : Int) (i : Int) = some true := by
  intro d
  induction d with
  | zero =>
    intro i k hd hi hk
    obtain ⟨k, rfl⟩ : ∃ m, k = m + 1 := ⟨k - 1, by omega⟩
    rw [laws_kSame.l0, if_neg (by omega)]
  | succ d ih =>
    intro i k hd hi hk
    obtain ⟨k, rfl⟩ : ∃ m, k = m + 1 := ⟨k - 1, by omega⟩
    rw [laws_kSame.l0, if_pos (by omega), if_pos (by omega), if_pos (by omega), if_pos (by omega), if_pos rfl, w64 _ (by omega) (by omega), show ((i : Int) + 1) = ((i + 1 : Nat) : Int) by omega]
    exact ih (i + 1) k (by omega) (by omega) (by omega)
theorem kSame_refl (a : List Int) (hb : a.length ≤ 1152921504606846976) : Ev (fun k => laws_kSame.f k a a) true := by
  refine ⟨a.length + 1, fun k hk => ?_⟩
  simp only [laws_kSame.f, if_true]
  exact kSame_l0 a hb a.length 0 k (by omega) (by omega) (by omega)
theorem kRows_l0 (a : List (List Int)) (hb : a.length ≤ 1152921504606846976) (hl : ∀ l ∈ a, l.length ≤ 1152921504606846976) : ∀ (d i : Nat), a.length - i = d → i ≤ a.length →
    Ev (fun k => laws_kRows.l0 k a a (a.length : Int) (i : Int)) true := by
  intro d
  induction d with
  | zero =>
    intro i hd hi
    refine ⟨1, fun k hk => ?_⟩
    obtain ⟨k, rfl⟩ : ∃ m, k = m + 1 := ⟨k - 1, by omega⟩
    dsimp only
    rw [laws_kRows.l0, if_neg (by omega)]
  | succ d ih =>
    intro i hd hi
    have hi2 : i < a.length := by omega
    obtain ⟨K1, h1⟩ := ev_get (ih (i + 1) (by omega) (by omega))
    obtain ⟨K2, h2⟩ := ev_get (kSame_refl a[i] (hl _ (List.getElem_mem hi2)))
    refine ⟨K1 + K2 + 1, fun k hk => ?_⟩
    obtain ⟨k, rfl⟩ : ∃ m, k = m + 1 := ⟨k - 1, by omega⟩
    dsimp only
    rw [laws_kRows.l0, if_pos (by omega), if_pos (by omega), if_pos (by omega), if_pos (by omega), rdL_nat _ _ hi2, h2 k (by omega), Option.bind_some, if_pos rfl, w64 _ (by omega) (by omega), show ((i : Int) + 1) = ((i + 1 : Nat) : Int) by omega]
    exact h1 k (by omega)
theorem kRows_refl (a : List (List Int)) (hb : a.length ≤ 1152921504606846976) (hl : ∀ l ∈ a, l.length ≤ 1152921504606846976) : Ev (fun k => laws_kRows.f k a a) true := by
  obtain ⟨K, hK⟩ := ev_get (kRows_l0 a hb hl a.length 0 (by omega) (by omega))
  refine ⟨K, fun k hk => ?_⟩
  simp only [laws_kRows.f, if_true]
  exact hK k hk
/-- A list comes before another one of the same length. -/
def lexLt (a b : List Int) : Prop := ∃ p c c' t t', a = p ++ c :: t ∧ b = p ++ c' :: t' ∧ c < c' ∧ t.length = t'.length
theorem kLess_l0 (p : List Int) (c c' : Int) (t t' : List Int) (hc : c < c') (hb : (p ++ c :: t).length ≤ 1152921504606846976) : ∀ (d i : Nat) (k : Nat), p.length - i = d → i ≤ p.length → d < k →
    laws_kLess.l0 k (p ++ c :: t) (p ++ c' :: t') ((p ++ c :: t).length : Int) (i : Int) = some true := by
  intro d
  induction d with
  | zero =>
    intro i k hd hi hk
    obtain ⟨k, rfl⟩ : ∃ m, k = m + 1 := ⟨k - 1, by omega⟩
    have e : i = p.length := by omega
    subst e
    have h1 : p.length < (p ++ c :: t).length := by simp
    have h2 : p.length < (p ++ c' :: t').length := by simp
    rw [laws_kLess.l0, if_pos (by omega), if_pos (by omega), if_pos (by omega), if_pos (by omega), rd_nat _ _ h1, rd_nat _ _ h2]
    simp only [List.getElem_append_right (Nat.le_refl _), Nat.sub_self, List.getElem_cons_zero]
    rw [if_neg (by omega), decide_eq_true hc]
  | succ d ih =>
    intro i k hd hi hk
    obtain ⟨k, rfl⟩ : ∃ m, k = m + 1 := ⟨k - 1, by omega⟩
    have h0 : i < p.length := by omega
    have h1 : i < (p ++ c :: t).length := by simp; omega
    have h2 : i < (p ++ c' :: t').length := by simp; omega
    rw [laws_kLess.l0, if_pos (by omega), if_pos (by omega), if_pos (by omega), if_pos (by omega), rd_nat _ _ h1, rd_nat _ _ h2, List.getElem_append_left h0, List.getElem_append_left h0, if_pos rfl, w64 _ (by omega) (by omega), show ((i : Int) + 1) = ((i + 1 : Nat) : Int) by omega]
    exact ih (i + 1) k (by omega) (by omega) (by omega)
theorem kLess_lt (a b : List Int) (h : lexLt a b) (hb : a.length ≤ 1152921504606846976) : Ev (fun k => laws_kLess.f k a b) true := by
  obtain ⟨p, c, c', t, t', rfl, rfl, hc, _⟩ := h
  refine ⟨p.length + 1, fun k hk => ?_⟩
  simp only [laws_kLess.f]
  exact kLess_l0 p c c' t t' hc hb p.length 0 k (by omega) (by omega) (by omega)
theorem P_nodup (N : Nat) : ∀ (d : Nat) (q : List Int), q.Nodup → ∀ x ∈ P N d q, x.Nodup
  | 0, q, h, x, hx => by
    rw [P, List.mem_singleton] at hx
    exact hx ▸ h
  | d + 1, q, h, x, hx => by
    rw [P, List.mem_flatMap] at hx
    obtain ⟨c, hc, hx⟩ := hx
    split at hx
    · simp at hx
    · rename_i hq
      refine P_nodup N d _ ?_ x hx
      rw [List.nodup_append]
      exact ⟨h, by simp, fun a ha b hb e => hq (by rw [List.mem_singleton] at hb; exact hb ▸ e ▸ ha)⟩
theorem P_of (N : Nat) : ∀ (t q : List Int), (∀ x ∈ t, 0 ≤ x ∧ x < (N : Int)) → (q ++ t).Nodup → q ++ t ∈ P N t.length q
  | [], q, _, _ => by simp [P]
  | c :: t, q, h, hn => by
    have hc := h c (List.mem_cons_self ..)
    obtain ⟨n, rfl⟩ : ∃ n : Nat, c = (n : Int) := ⟨c.toNat, by omega⟩
    have e : q ++ (n : Int) :: t = (q ++ [(n : Int)]) ++ t := by simp
    rw [e] at hn ⊢
    rw [List.length_cons, P, List.mem_flatMap]
    refine ⟨n, by rw [List.mem_range'_1]; omega, ?_⟩
    have hq : (n : Int) ∉ q := fun hq => by
      have h1 := (List.nodup_append.1 hn).1
      exact (List.nodup_append.1 h1).2.2 _ hq _ (List.mem_singleton.2 rfl) rfl
    rw [if_neg hq]
    exact P_of N t _ (fun x hx => h x (List.mem_cons_of_mem _ hx)) hn
theorem P_sorted (N : Nat) : ∀ (d : Nat) (q : List Int), OkQ N q → q.length + d = N → (P N d q).Pairwise lexLt
  | 0, q, _, _ => by simp [P]
  | d + 1, q, h, hl => by
    have key : ∀ (e i : Nat), N - i = e → (PF N d q i).Pairwise lexLt := by
      intro e
      induction e with
      | zero => intro i hi; rw [PF_nil N d q i (by omega)]; exact List.Pairwise.nil
      | succ e ih =>
        intro i hi
        have hiN : i < N := by omega
        rw [PF_step N d q i hiN, List.pairwise_append]
        refine ⟨?_, ih (i + 1) (by omega), ?_⟩
        · split
          · exact List.Pairwise.nil
          · exact P_sorted N d _ (okq_snoc h (by omega) hiN) (by simp; omega)
        · intro x hx y hy
          split at hx
          · simp at hx
          obtain ⟨_, hxl, t, rfl⟩ := P_mem N d _ (okq_snoc h (by omega) hiN) (by simp; omega) x hx
          unfold PF at hy
          rw [List.mem_flatMap] at hy
          obtain ⟨c, hc, hy⟩ := hy
          rw [List.mem_range'_1] at hc
          split at hy
          · simp at hy
          obtain ⟨_, hyl, t', rfl⟩ := P_mem N d _ (okq_snoc h (by omega) (show c < N by omega)) (by simp; omega) y hy
          refine ⟨q, i, c, t, t', by simp, by simp, by omega, ?_⟩
          simp at hxl hyl
          omega
    rw [P_succ]
    exact key N 0 (by omega)
theorem allQ_sorted (N : Nat) : (allQ N).Pairwise lexLt := (P_sorted N N [] (okq_nil N) (by simp)).filter _
theorem allQ_nodup {N : Nat} {x : List Int} (h : x ∈ allQ N) : x.Nodup := by
  unfold allQ at h
  rw [List.mem_filter] at h
  exact P_nodup N N [] (by simp) x h.1
theorem allQ_free {N : Nat} {x : List Int} (h : x ∈ allQ N) : freeB x = true := by
  unfold allQ at h
  rw [List.mem_filter] at h
  exact h.2
theorem allQ_good {N : Nat} (h1 : 1 ≤ N) (h8 : N ≤ 8) {x : List Int} (h : x ∈ allQ N) : goodB x = true := by
  have hr := allQ_row h
  rw [goodB_iff]
  refine ⟨by omega, by omega, fun y hy => ?_, allQ_nodup h⟩
  have := hr.1.2 y hy
  omega
theorem allQ_of {N : Nat} (x : List Int) (hl : x.length = N) (hx : ∀ y ∈ x, 0 ≤ y ∧ y < (N : Int)) (hn : x.Nodup) (hf : freeB x = true) : x ∈ allQ N := by
  unfold allQ
  rw [List.mem_filter]
  have := P_of N x [] hx (by simpa using hn)
  rw [hl] at this
  exact ⟨by simpa using this, hf⟩
theorem allQ_some {N : Nat} (h1 : 1 ≤ N) (h8 : N ≤ 8) : (allQ N).length = 0 ↔ N = 2 ∨ N = 3 := by
  have hne : ∀ {x : List Int}, x ∈ allQ N → (allQ N).length = 0 → False := fun hx h => by
    have := List.length_pos_of_mem hx
    omega
  constructor
  · intro h
    obtain rfl | rfl | rfl | rfl | rfl | rfl | rfl | rfl : N = 1 ∨ N = 2 ∨ N = 3 ∨ N = 4 ∨ N = 5 ∨ N = 6 ∨ N = 7 ∨ N = 8 := by omega
    · exact (hne (allQ_of [0] rfl (by decide) (by decide) (by decide +kernel)) h).elim
    · exact .inl rfl
    · exact .inr rfl
    · exact (hne (allQ_of [1, 3, 0, 2] rfl (by decide) (by decide) (by decide +kernel)) h).elim
    · exact (hne (allQ_of [0, 2, 4, 1, 3] rfl (by decide) (by decide) (by decide +kernel)) h).elim
    · exact (hne (allQ_of [1, 3, 5, 0, 2, 4] rfl (by decide) (by decide) (by decide +kernel)) h).elim
    · exact (hne (allQ_of [0, 2, 4, 6, 1, 3, 5] rfl (by decide) (by decide) (by decide +kernel)) h).elim
    · exact (hne (allQ_of [0, 4, 7, 5, 2, 6, 1, 3] rfl (by decide) (by decide) (by decide +kernel)) h).elim
  · rintro (rfl | rfl)
    · decide +kernel
    · decide +kernel
/-- Those that begin with each number add up. -/
theorem allQ_parts (N : Nat) (h : 1 ≤ N) : ∀ (e i : Nat), N - i = e → i ≤ N →
    ((PF N (N - 1) [] i).filter freeB).length = ((List.range' i (N - i)).map fun (c : Nat) => ((P N (N - 1) [(c : Int)]).filter freeB).length).sum := by
  intro e
  induction e with
  | zero => intro i hi _; rw [PF_nil _ _ _ _ (by omega), show N - i = 0 by omega]; rfl
  | succ e ih =>
    intro i hi _
    rw [PF_step _ _ _ _ (by omega), List.filter_append, List.length_append, ih (i + 1) (by omega) (by omega), range'_step i N (by omega), List.map_cons, List.sum_cons]
    simp
theorem allQ_sum (N : Nat) (h : 1 ≤ N) : (allQ N).length = ((List.range' 0 (N - 0)).map fun (c : Nat) => ((P N (N - 1) [(c : Int)]).filter freeB).length).sum := by
  rw [← allQ_parts N h N 0 (by omega) (by omega)]
  unfold allQ
  obtain ⟨M, rfl⟩ : ∃ M, N = M + 1 := ⟨N - 1, by omega⟩
  rfl
end Go.Proofs.Ytnpacpdpgngdpaa.P
namespace Go.Proofs.Ytnpacpdpgngdpaa.Pure
open Go.RowKit Go.Proofs.Ytnpacpdpgngdpaa.P Go.Proofs.YtnpacpdpgngdpaaW.PrintWords Go.Proofs.YtnpacpdpgngdpaaW.PrintLast
set_option linter.unusedSimpArgs false
set_option linter.unusedVariables false
namespace FnExactAllQueens
theorem inB_nat {n : Int} (h : inB n 1 8 = true) : ∃ N : Nat, n = N ∧ 1 ≤ N ∧ N ≤ 8 := by
  unfold inB at h
  have := of_decide_eq_true h
  exact ⟨n.toNat, by omega, by omega, by omega⟩
def RA (n : Int) : List (List Int) × Bool := if inB n 1 8 = true then (allQ n.toNat, true) else ([], false)
theorem specA_ev (n : Int) : Ev (fun k => spec_AllQueens.f k n) (RA n) := by
  unfold RA
  by_cases h : inB n 1 8 = true
  · obtain ⟨N, rfl, h1, h8⟩ := inB_nat h
    obtain ⟨K, hK⟩ := ev_get (quAllQ_ev N h8)
    refine ⟨K, fun k hk => ?_⟩
    simp only [spec_AllQueens.f, quSide_eq, Option.bind_some, if_pos h, hK k hk, Int.toNat_natCast]
  · refine ⟨0, fun k hk => ?_⟩
    simp only [spec_AllQueens.f, quSide_eq, Option.bind_some, if_neg h]
theorem implA_ev (n : Int) : Ev (fun k => impl_AllQueens.f k n) (RA n) := by
  unfold RA
  by_cases h : inB n 1 8 = true
  · obtain ⟨N, rfl, h1, h8⟩ := inB_nat h
    obtain ⟨K, hK⟩ := ev_get (grownQ_ev N h8)
    refine ⟨K, fun k hk => ?_⟩
    simp only [impl_AllQueens.f, isMany_eq, Option.bind_some, if_pos h, hK k hk, Int.toNat_natCast]
  · refine ⟨0, fun k hk => ?_⟩
    simp only [impl_AllQueens.f, isMany_eq, Option.bind_some, if_neg h]
theorem RA_small (n : Int) : (RA n).1.length ≤ 16777216 ∧ ∀ l ∈ (RA n).1, l.length ≤ 8 := by
  unfold RA
  split
  · rename_i h
    obtain ⟨N, rfl, h1, h8⟩ := inB_nat h
    refine ⟨allQ_len _ (by omega), fun l hl => ?_⟩
    have := (allQ_row hl).2
    omega
  · simp
end FnExactAllQueens
namespace FnExactCountQueens
def R (n : Int) : Int × Bool := if inB n 1 8 = true then (((allQ n.toNat).length : Int), true) else (0, false)
theorem inB_nat {n : Int} (h : inB n 1 8 = true) : ∃ N : Nat, n = N ∧ 1 ≤ N ∧ N ≤ 8 := by
  unfold inB at h
  have := of_decide_eq_true h
  exact ⟨n.toNat, by omega, by omega, by omega⟩
def RA (n : Int) : List (List Int) × Bool := if inB n 1 8 = true then (allQ n.toNat, true) else ([], false)
theorem specA_ev (n : Int) : Ev (fun k => spec_AllQueens.f k n) (RA n) := by
  unfold RA
  by_cases h : inB n 1 8 = true
  · obtain ⟨N, rfl, h1, h8⟩ := inB_nat h
    obtain ⟨K, hK⟩ := ev_get (quAllQ_ev N h8)
    refine ⟨K, fun k hk => ?_⟩
    simp only [spec_AllQueens.f, quSide_eq, Option.bind_some, if_pos h, hK k hk, Int.toNat_natCast]
  · refine ⟨0, fun k hk => ?_⟩
    simp only [spec_AllQueens.f, quSide_eq, Option.bind_some, if_neg h]
theorem implA_ev (n : Int) : Ev (fun k => impl_AllQueens.f k n) (RA n) := by
  unfold RA
  by_cases h : inB n 1 8 = true
  · obtain ⟨N, rfl, h1, h8⟩ := inB_nat h
    obtain ⟨K, hK⟩ := ev_get (grownQ_ev N h8)
    refine ⟨K, fun k hk => ?_⟩
    simp only [impl_AllQueens.f, isMany_eq, Option.bind_some, if_pos h, hK k hk, Int.toNat_natCast]
  · refine ⟨0, fun k hk => ?_⟩
    simp only [impl_AllQueens.f, isMany_eq, Option.bind_some, if_neg h]
theorem RA_small (n : Int) : (RA n).1.length ≤ 16777216 ∧ ∀ l ∈ (RA n).1, l.length ≤ 8 := by
  unfold RA
  split
  · rename_i h
    obtain ⟨N, rfl, h1, h8⟩ := inB_nat h
    refine ⟨allQ_len _ (by omega), fun l hl => ?_⟩
    have := (allQ_row hl).2
    omega
  · simp
theorem spec_ev (n : Int) : Ev (fun k => spec_CountQueens.f k n) (R n) := by
  unfold R
  by_cases h : inB n 1 8 = true
  · obtain ⟨N, rfl, h1, h8⟩ := inB_nat h
    obtain ⟨K, hK⟩ := ev_get (quAllQ_ev N h8)
    refine ⟨K, fun k hk => ?_⟩
    simp only [spec_CountQueens.f, quSide_eq, Option.bind_some, if_pos h, hK k hk, Int.toNat_natCast]
  · refine ⟨0, fun k hk => ?_⟩
    simp only [spec_CountQueens.f, quSide_eq, Option.bind_some, if_neg h]
theorem impl_ev (n : Int) : Ev (fun k => impl_CountQueens.f k n) (R n) := by
  obtain ⟨K, hK⟩ := ev_get (implA_ev n)
  refine ⟨K, fun k hk => ?_⟩
  simp only [impl_CountQueens.f, hK k hk, Option.bind_some]
  unfold RA R
  split <;> rfl
end FnExactCountQueens
namespace FnExactFirstQueens
def R (n : Int) : List Int × Bool := if inB n 1 8 = true then (if (allQ n.toNat).length = 0 then ([], false) else ((allQ n.toNat).headD [], true)) else ([], false)
theorem inB_nat {n : Int} (h : inB n 1 8 = true) : ∃ N : Nat, n = N ∧ 1 ≤ N ∧ N ≤ 8 := by
  unfold inB at h
  have := of_decide_eq_true h
  exact ⟨n.toNat, by omega, by omega, by omega⟩
def RA (n : Int) : List (List Int) × Bool := if inB n 1 8 = true then (allQ n.toNat, true) else ([], false)
theorem specA_ev (n : Int) : Ev (fun k => spec_AllQueens.f k n) (RA n) := by
  unfold RA
  by_cases h : inB n 1 8 = true
  · obtain ⟨N, rfl, h1, h8⟩ := inB_nat h
    obtain ⟨K, hK⟩ := ev_get (quAllQ_ev N h8)
    refine ⟨K, fun k hk => ?_⟩
    simp only [spec_AllQueens.f, quSide_eq, Option.bind_some, if_pos h, hK k hk, Int.toNat_natCast]
  · refine ⟨0, fun k hk => ?_⟩
    simp only [spec_AllQueens.f, quSide_eq, Option.bind_some, if_neg h]
theorem implA_ev (n : Int) : Ev (fun k => impl_AllQueens.f k n) (RA n) := by
  unfold RA
  by_cases h : inB n 1 8 = true
  · obtain ⟨N, rfl, h1, h8⟩ := inB_nat h
    obtain ⟨K, hK⟩ := ev_get (grownQ_ev N h8)
    refine ⟨K, fun k hk => ?_⟩
    simp only [impl_AllQueens.f, isMany_eq, Option.bind_some, if_pos h, hK k hk, Int.toNat_natCast]
  · refine ⟨0, fun k hk => ?_⟩
    simp only [impl_AllQueens.f, isMany_eq, Option.bind_some, if_neg h]
theorem RA_small (n : Int) : (RA n).1.length ≤ 16777216 ∧ ∀ l ∈ (RA n).1, l.length ≤ 8 := by
  unfold RA
  split
  · rename_i h
    obtain ⟨N, rfl, h1, h8⟩ := inB_nat h
    refine ⟨allQ_len _ (by omega), fun l hl => ?_⟩
    have := (allQ_row hl).2
    omega
  · simp
theorem rd_head (l : List (List Int)) : rd_L1 l 0 = l.headD [] := by cases l <;> rfl
theorem spec_ev (n : Int) : Ev (fun k => spec_FirstQueens.f k n) (R n) := by
  unfold R
  by_cases h : inB n 1 8 = true
  · obtain ⟨N, rfl, h1, h8⟩ := inB_nat h
    obtain ⟨K, hK⟩ := ev_get (quAllQ_ev N h8)
    refine ⟨K, fun k hk => ?_⟩
    simp only [spec_FirstQueens.f, quSide_eq, Option.bind_some, if_pos h, hK k hk, Int.toNat_natCast]
    by_cases h0 : (allQ N).length = 0
    · rw [if_pos h0, if_pos (by omega)]
    · rw [if_neg h0, if_neg (by omega), if_pos (by omega), rd_head]
  · refine ⟨0, fun k hk => ?_⟩
    simp only [spec_FirstQueens.f, quSide_eq, Option.bind_some, if_neg h]
theorem impl_ev (n : Int) : Ev (fun k => impl_FirstQueens.f k n) (R n) := by
  obtain ⟨K, hK⟩ := ev_get (implA_ev n)
  refine ⟨K, fun k hk => ?_⟩
  simp only [impl_FirstQueens.f, hK k hk, Option.bind_some]
  unfold RA R
  by_cases h : inB n 1 8 = true
  · simp only [if_pos h]
    by_cases h0 : (allQ n.toNat).length = 0
    · rw [if_pos h0, if_pos trivial, if_pos (by omega)]
    · rw [if_neg h0, if_pos trivial, if_neg (by omega), if_pos (by omega), rd_head]
  · simp only [if_neg h]
    rfl
theorem R_len (n : Int) : (R n).1.length ≤ 8 := by
  unfold R
  split
  · rename_i h
    obtain ⟨N, rfl, h1, h8⟩ := inB_nat h
    split
    · simp
    · show ((allQ (Int.toNat (N : Int))).headD []).length ≤ 8
      rw [Int.toNat_natCast]
      cases hq : allQ N with
      | nil => simp
      | cons x l =>
        have := (allQ_row (N := N) (x := x) (by rw [hq]; simp)).2
        show x.length ≤ 8
        omega
  · simp
end FnExactFirstQueens
namespace FnExactCountGoingOn
open Classical in
noncomputable def R (n : Int) (q : List Int) : Int × Bool := if inB n 1 8 = true ∧ (q.length : Int) ≤ n ∧ restPerm q n 0 then ((((P n.toNat (n.toNat - q.length) q).filter freeB).length : Int), true) else (0, false)
theorem inB_nat {n : Int} (h : inB n 1 8 = true) : ∃ N : Nat, n = N ∧ 1 ≤ N ∧ N ≤ 8 := by
  unfold inB at h
  have := of_decide_eq_true h
  exact ⟨n.toNat, by omega, by omega, by omega⟩
theorem restPerm_step (l : List Int) (n : Int) (i : Nat) (h : i < l.length) : restPerm l n i ↔ ((0 ≤ l[i] ∧ l[i] ≤ n - 1) ∧ l[i] ∉ l.take i) ∧ restPerm l n (i + 1) := by
  constructor
  · intro h1
    exact ⟨h1 i (Nat.le_refl _) h, fun j h2 h3 => h1 j (by omega) h3⟩
  · rintro ⟨h1, h2⟩ j h3 h4
    rcases Nat.eq_or_lt_of_le h3 with h5 | h5
    · subst h5; exact h1
    · exact h2 j h5 h4
theorem restPerm_ok {N : Nat} {q : List Int} (hl : q.length ≤ N) (h : restPerm q (N : Int) 0) : OkQ N q := by
  refine ⟨hl, fun x hx => ?_⟩
  obtain ⟨i, hi, rfl⟩ := List.getElem_of_mem hx
  have := (h i (by omega) hi).1
  omega
theorem restPerm_all {n : Int} {q : List Int} : restPerm q n 0 ↔ allIn q 0 (n - 1) = true ∧ restOnce q 0 := by
  unfold allIn
  rw [List.all_eq_true]
  constructor
  · intro h
    refine ⟨fun x hx => ?_, fun j h1 h2 => (h j h1 h2).2⟩
    obtain ⟨i, hi, rfl⟩ := List.getElem_of_mem hx
    exact decide_eq_true (h i (by omega) hi).1
  · rintro ⟨h1, h2⟩ j h3 h4
    exact ⟨of_decide_eq_true (h1 _ (List.getElem_mem h4)), h2 j h3 h4⟩
open Classical in
theorem impl_loop (N : Nat) (h1 : 1 ≤ N) (h8 : N ≤ 8) (q : List Int) (hl : q.length ≤ N) (c : Int) (hend : restPerm q (N : Int) 0 → Ev (fun k => (impl_grown.f k (N : Int) q impl_areQueens.fn).bind fun t => some ((t.length : Int), true)) (c, true)) :
    ∀ (d i : Nat), q.length - i = d → i ≤ q.length → (restPerm q (N : Int) i → restPerm q (N : Int) 0) →
    Ev (fun k => impl_CountGoingOn.l0 k (N : Int) q q (q.length : Int) (i : Int)) (if restPerm q (N : Int) i then (c, true) else (0, false)) := by
  intro d
  induction d with
  | zero =>
    intro i hd hi himp
    have hr : restPerm q (N : Int) i := fun j h2 h3 => by omega
    obtain ⟨K, hK⟩ := ev_get (hend (himp hr))
    refine ⟨K + 1, fun k hk => ?_⟩
    obtain ⟨k, rfl⟩ : ∃ m, k = m + 1 := ⟨k - 1, by omega⟩
    dsimp only
    rw [impl_CountGoingOn.l0, if_neg (by omega), if_pos hr]
    exact hK k (by omega)
  | succ d ih =>
    intro i hd hi himp
    have hil : i < q.length := by omega
    have hst := restPerm_step q (N : Int) i hil
    have hti : (q.take ((i : Int)).toNat) = q.take i := by rw [show ((i : Int)).toNat = i by omega]
    by_cases hin : inB q[i] 0 ((N : Int) - 1) = true
    · obtain ⟨K1, k1⟩ := ev_get (Contains_ev (q.take i) q[i] (by rw [List.length_take]; omega))
      by_cases hc : q[i] ∈ q.take i
      · refine ⟨K1 + 1, fun k hk => ?_⟩
        obtain ⟨k, rfl⟩ : ∃ m, k = m + 1 := ⟨k - 1, by omega⟩
        dsimp only
        rw [impl_CountGoingOn.l0, if_pos (by omega), if_pos (by omega), if_pos (by omega), rd_nat _ _ hil, w64 _ (by omega) (by omega), within_eq, Option.bind_some, if_pos hin, if_pos (by omega), hti, k1 k (by omega), Option.bind_some, if_pos (decide_eq_true hc), if_neg (fun h => (hst.1 h).1.2 hc)]
      · have hok : (0 ≤ q[i] ∧ q[i] ≤ (N : Int) - 1) ∧ q[i] ∉ q.take i := ⟨of_decide_eq_true hin, hc⟩
        obtain ⟨K2, k2⟩ := ev_get (ih (i + 1) (by omega) (by omega) (fun h => himp (hst.2 ⟨hok, h⟩)))
        refine ⟨K1 + K2 + 1, fun k hk => ?_⟩
        obtain ⟨k, rfl⟩ : ∃ m, k = m + 1 := ⟨k - 1, by omega⟩
        dsimp only
        rw [impl_CountGoingOn.l0, if_pos (by omega), if_pos (by omega), if_pos (by omega), rd_nat _ _ hil, w64 _ (by omega) (by omega), within_eq, Option.bind_some, if_pos hin, if_pos (by omega), hti, k1 k (by omega), Option.bind_some, if_neg (by simpa using hc), w64 _ (by omega) (by omega), show ((i : Int) + 1) = ((i + 1 : Nat) : Int) by omega, k2 k (by omega)]
        congr 1
        have : restPerm q (N : Int) i ↔ restPerm q (N : Int) (i + 1) := ⟨fun h => (hst.1 h).2, fun h => hst.2 ⟨hok, h⟩⟩
        simp only [this]
    · refine ⟨1, fun k hk => ?_⟩
      obtain ⟨k, rfl⟩ : ∃ m, k = m + 1 := ⟨k - 1, by omega⟩
      dsimp only
      rw [impl_CountGoingOn.l0, if_pos (by omega), if_pos (by omega), if_pos (by omega), rd_nat _ _ hil, w64 _ (by omega) (by omega), within_eq, Option.bind_some, if_neg hin, if_neg (fun h => hin (decide_eq_true (hst.1 h).1.1))]
open Classical in
theorem spec_loop (N : Nat) (h1 : 1 ≤ N) (h8 : N ≤ 8) (q : List Int) (hl : q.length ≤ N) (c : Int) (hend : restOnce q 0 → Ev (fun k => (spec_quAttacks.f k q).bind fun t544 => (if (t544.length : Int) > 0 then (some (0, true)) else ((spec_quAll.f k (N : Int) q).bind fun t547 => (some ((t547.length : Int), true))))) (c, true)) :
    ∀ (d i : Nat), q.length - i = d → i ≤ q.length → (restOnce q i → restOnce q 0) →
    Ev (fun k => spec_CountGoingOn.l0 k (N : Int) q q (q.length : Int) (i : Int)) (if restOnce q i then (c, true) else (0, false)) := by
  intro d
  induction d with
  | zero =>
    intro i hd hi himp
    have hr : restOnce q i := fun j h2 h3 => by omega
    obtain ⟨K, hK⟩ := ev_get (hend (himp hr))
    refine ⟨K + 1, fun k hk => ?_⟩
    obtain ⟨k, rfl⟩ : ∃ m, k = m + 1 := ⟨k - 1, by omega⟩
    dsimp only
    rw [spec_CountGoingOn.l0, if_neg (by omega), if_pos hr]
    exact hK k (by omega)
  | succ d ih =>
    intro i hd hi himp
    have hil : i < q.length := by omega
    have hst := restOnce_step q i hil
    have hti : (q.take ((i : Int)).toNat) = q.take i := by rw [show ((i : Int)).toNat = i by omega]
    obtain ⟨K1, k1⟩ := ev_get (l1Has_ev (q.take i) q[i] (by rw [List.length_take]; omega))
    by_cases hc : q[i] ∈ q.take i
    · refine ⟨K1 + 1, fun k hk => ?_⟩
      obtain ⟨k, rfl⟩ : ∃ m, k = m + 1 := ⟨k - 1, by omega⟩
      dsimp only
      rw [spec_CountGoingOn.l0, if_pos (by omega), if_pos (by omega), if_pos (by omega), if_pos (by omega), rd_nat _ _ hil, hti, k1 k (by omega), Option.bind_some, if_pos (decide_eq_true hc), if_neg (fun h => (hst.1 h).1 hc)]
    · obtain ⟨K2, k2⟩ := ev_get (ih (i + 1) (by omega) (by omega) (fun h => himp (hst.2 ⟨hc, h⟩)))
      refine ⟨K1 + K2 + 1, fun k hk => ?_⟩
      obtain ⟨k, rfl⟩ : ∃ m, k = m + 1 := ⟨k - 1, by omega⟩
      dsimp only
      rw [spec_CountGoingOn.l0, if_pos (by omega), if_pos (by omega), if_pos (by omega), if_pos (by omega), rd_nat _ _ hil, hti, k1 k (by omega), Option.bind_some, if_neg (by simpa using hc), w64 _ (by omega) (by omega), show ((i : Int) + 1) = ((i + 1 : Nat) : Int) by omega, k2 k (by omega)]
      congr 1
      have : restOnce q i ↔ restOnce q (i + 1) := ⟨fun h => (hst.1 h).2, fun h => hst.2 ⟨hc, h⟩⟩
      simp only [this]
theorem impl_ev (n : Int) (q : List Int) (hb : q.length ≤ 1152921504606846976) : Ev (fun k => impl_CountGoingOn.f k n q) (R n q) := by
  unfold R
  by_cases h : inB n 1 8 = true
  · obtain ⟨N, rfl, h1, h8⟩ := inB_nat h
    by_cases hl : (q.length : Int) ≤ (N : Int)
    · obtain ⟨K, hK⟩ := ev_get (impl_loop N h1 h8 q (by omega) ((((P N (N - q.length) q).filter freeB).length : Int)) (fun hp => by
        obtain ⟨K, hK⟩ := ev_get (grownAll_ev N h8 q (restPerm_ok (by omega) hp) (N - q.length) (by omega))
        refine ⟨K, fun k hk => ?_⟩
        simp only [hK k hk, Option.bind_some]) q.length 0 (by omega) (by omega) id)
      refine ⟨K + 1, fun k hk => ?_⟩
      obtain ⟨k, rfl⟩ : ∃ m, k = m + 1 := ⟨k - 1, by omega⟩
      simp only [impl_CountGoingOn.f, isMany_eq, Option.bind_some, if_pos h, decide_eq_false (show ¬ (q.length : Int) > (N : Int) by omega)]
      rw [impl_CountGoingOn.j0, if_neg (by simp)]
      refine (hK k (by omega)).trans ?_
      congr 1
      simp only [Int.toNat_natCast]
      by_cases hp : restPerm q (N : Int) 0
      · rw [if_pos hp, if_pos ⟨h, hl, hp⟩]
      · rw [if_neg hp, if_neg (fun h => hp h.2.2)]
    · refine ⟨1, fun k hk => ?_⟩
      obtain ⟨k, rfl⟩ : ∃ m, k = m + 1 := ⟨k - 1, by omega⟩
      simp only [impl_CountGoingOn.f, isMany_eq, Option.bind_some, if_pos h, decide_eq_true (show (q.length : Int) > (N : Int) by omega)]
      rw [impl_CountGoingOn.j0, if_pos rfl, if_neg (fun h => hl h.2.1)]
  · refine ⟨1, fun k hk => ?_⟩
    obtain ⟨k, rfl⟩ : ∃ m, k = m + 1 := ⟨k - 1, by omega⟩
    simp only [impl_CountGoingOn.f, isMany_eq, Option.bind_some, if_neg h]
    rw [impl_CountGoingOn.j0, if_pos rfl, if_neg (fun h2 => h h2.1)]
theorem spec_ev (n : Int) (q : List Int) (hb : q.length ≤ 1152921504606846976) : Ev (fun k => spec_CountGoingOn.f k n q) (R n q) := by
  unfold R
  by_cases h : inB n 1 8 = true
  · obtain ⟨N, rfl, h1, h8⟩ := inB_nat h
    by_cases hl : (q.length : Int) ≤ (N : Int)
    · obtain ⟨K1, k1⟩ := ev_get (l1All_ev q 0 ((N : Int) - 1) hb)
      by_cases ha : allIn q 0 ((N : Int) - 1) = true
      · obtain ⟨K, hK⟩ := ev_get (spec_loop N h1 h8 q (by omega) ((((P N (N - q.length) q).filter freeB).length : Int)) (fun hp => by
          have hok := restPerm_ok (show q.length ≤ N by omega) (restPerm_all.2 ⟨ha, hp⟩)
          obtain ⟨K1, k1⟩ := ev_get (quAttacks_evS q (okq_small h8 hok))
          have hfa := freeB_allP q
          by_cases hf : freeB q = true
          · obtain ⟨K2, k2⟩ := ev_get (quAll_ev N h8 (N - q.length) q hok (by omega) hf)
            refine ⟨K1 + K2, fun k hk => ?_⟩
            rw [hf, beq_iff_eq] at hfa
            simp only [k1 k (by omega), Option.bind_some, hfa, k2 k (by omega)]
            rw [if_neg (by omega)]
          · refine ⟨K1, fun k hk => ?_⟩
            rw [Bool.eq_false_iff.2 hf, beq_eq_false_iff_ne] at hfa
            simp only [k1 k (by omega), Option.bind_some]
            rw [if_pos (by omega), P_none freeB_her hok (by omega) (Bool.eq_false_iff.2 hf)]
            rfl) q.length 0 (by omega) (by omega) id)
        refine ⟨K + K1 + 1, fun k hk => ?_⟩
        obtain ⟨k, rfl⟩ : ∃ m, k = m + 1 := ⟨k - 1, by omega⟩
        simp only [spec_CountGoingOn.f, quSide_eq, Option.bind_some, if_pos h]
        rw [if_neg (by omega), w64 _ (by omega) (by omega), k1 (k + 1) (by omega), Option.bind_some, ha, spec_CountGoingOn.j0, if_neg (by simp)]
        refine (hK k (by omega)).trans ?_
        congr 1
        simp only [Int.toNat_natCast]
        by_cases hp : restOnce q 0
        · rw [if_pos hp, if_pos ⟨h, hl, restPerm_all.2 ⟨ha, hp⟩⟩]
        · rw [if_neg hp, if_neg (fun h => hp (restPerm_all.1 h.2.2).2)]
      · refine ⟨K1 + 1, fun k hk => ?_⟩
        obtain ⟨k, rfl⟩ : ∃ m, k = m + 1 := ⟨k - 1, by omega⟩
        simp only [spec_CountGoingOn.f, quSide_eq, Option.bind_some, if_pos h]
        rw [if_neg (by omega), w64 _ (by omega) (by omega), k1 (k + 1) (by omega), Option.bind_some, Bool.eq_false_iff.2 ha, spec_CountGoingOn.j0, if_pos (by simp), if_neg (fun h => ha (restPerm_all.1 h.2.2).1)]
    · refine ⟨1, fun k hk => ?_⟩
      obtain ⟨k, rfl⟩ : ∃ m, k = m + 1 := ⟨k - 1, by omega⟩
      simp only [spec_CountGoingOn.f, quSide_eq, Option.bind_some, if_pos h]
      rw [if_pos (by omega), spec_CountGoingOn.j0, if_pos rfl, if_neg (fun h => hl h.2.1)]
  · refine ⟨1, fun k hk => ?_⟩
    obtain ⟨k, rfl⟩ : ∃ m, k = m + 1 := ⟨k - 1, by omega⟩
    simp only [spec_CountGoingOn.f, quSide_eq, Option.bind_some, if_neg h]
    rw [spec_CountGoingOn.j0, if_pos rfl, if_neg (fun h2 => h h2.1)]
end FnExactCountGoingOn
namespace FnExactAttacksOf
def R (q : List Int) : List (List Int) × Bool := if goodB q = true then (allP q 0, true) else ([], false)
theorem spec_ev (q : List Int) (hb : q.length ≤ 1152921504606846976) : Ev (fun k => spec_AttacksOf.f k q) (R q) := by
  obtain ⟨K1, h1⟩ := ev_get (quGood_ev q hb)
  unfold R
  by_cases h : goodB q = true
  · obtain ⟨K2, h2⟩ := ev_get (quAttacks_ev q h)
    refine ⟨K1 + K2, fun k hk => ?_⟩
    simp only [spec_AttacksOf.f, h1 k (by omega), h2 k (by omega), Option.bind_some, if_pos h]
  · refine ⟨K1, fun k hk => ?_⟩
    simp only [spec_AttacksOf.f, h1 k (by omega), Option.bind_some, if_neg h]
theorem impl_inner (q : List Int) (hg : Small q) (r : Nat) (hr : r < q.length)
    (hout : ∀ acc : List (List Int), acc.length ≤ 8 * (r + 1) → Ev (fun k => impl_AttacksOf.l0 k q acc q (q.length : Int) ((r + 1 : Nat) : Int)) (acc ++ allP q (r + 1), true)) :
    ∀ (d s : Nat) (acc : List (List Int)), q.length - s = d → r < s → s ≤ q.length → acc.length ≤ 8 * r + (s - r) →
    Ev (fun k => impl_AttacksOf.l1 k q acc (r : Int) q[r] (s : Int) q (q.length : Int) (r : Int)) (acc ++ rowP q r s ++ allP q (r + 1), true) := by
  have hl := hg.1
  intro d
  induction d with
  | zero =>
    intro s acc hd hrs hs ha
    obtain ⟨K, hK⟩ := ev_get (hout acc (by omega))
    refine ⟨K + 1, fun k hk => ?_⟩
    obtain ⟨k, rfl⟩ : ∃ m, k = m + 1 := ⟨k - 1, by omega⟩
    simp only [impl_AttacksOf.l1]
    rw [if_neg (by omega), w64 _ (by omega) (by omega), show ((r : Int) + 1) = ((r + 1 : Nat) : Int) by omega, hK k (by omega), rowP_nil q r s (by omega), List.append_nil]
  | succ d ih =>
    intro s acc hd hrs hs ha
    have hs1 : s < q.length := by omega
    obtain ⟨K1, h1⟩ := ev_get (ih (s + 1) (acc ++ [[(r : Int), (s : Int)]]) (by omega) (by omega) (by omega) (by simp; omega))
    obtain ⟨K2, h2⟩ := ev_get (ih (s + 1) acc (by omega) (by omega) (by omega) (by omega))
    refine ⟨K1 + K2 + 1, fun k hk => ?_⟩
    obtain ⟨k, rfl⟩ : ∃ m, k = m + 1 := ⟨k - 1, by omega⟩
    simp only [impl_AttacksOf.l1]
    rw [if_pos (by omega), if_pos (by omega), rd_nat _ _ hs1, attacked_eq q hg r s hr hs1, Option.bind_some, w64 ((s : Int) + 1) (by omega) (by omega), show ((s : Int) + 1) = ((s + 1 : Nat) : Int) by omega, h1 k (by omega), h2 k (by omega), rowP_step q r s hs1, if_pos (show acc.length < 5864062014805 by omega)]
    by_cases h : att q r s = true
    · rw [if_pos h, if_pos h]; simp [List.append_assoc]
    · rw [if_neg h, if_neg h]; simp
theorem impl_outer (q : List Int) (hg : Small q) : ∀ (d r : Nat) (acc : List (List Int)), q.length - r = d → r ≤ q.length → acc.length ≤ 8 * r →
    Ev (fun k => impl_AttacksOf.l0 k q acc q (q.length : Int) (r : Int)) (acc ++ allP q r, true) := by
  have hl := hg.1
  intro d
  induction d with
  | zero =>
    intro r acc hd hr ha
    refine ⟨1, fun k hk => ?_⟩
    obtain ⟨k, rfl⟩ : ∃ m, k = m + 1 := ⟨k - 1, by omega⟩
    simp only [impl_AttacksOf.l0]
    rw [if_neg (by omega), allP_nil q r (by omega), List.append_nil]
  | succ d ih =>
    intro r acc hd hr ha
    have hr1 : r < q.length := by omega
    obtain ⟨K, hK⟩ := ev_get (impl_inner q hg r hr1 (fun acc ha => ih (r + 1) acc (by omega) (by omega) ha) (q.length - (r + 1)) (r + 1) acc (by omega) (by omega) (by omega) (by omega))
    refine ⟨K + 1, fun k hk => ?_⟩
    obtain ⟨k, rfl⟩ : ∃ m, k = m + 1 := ⟨k - 1, by omega⟩
    simp only [impl_AttacksOf.l0]
    rw [if_pos (by omega), if_pos (by omega), if_pos (by omega), rd_nat _ _ hr1, w64 _ (by omega) (by omega), show ((r : Int) + 1) = ((r + 1 : Nat) : Int) by omega, hK k (by omega), allP_step q r hr1, List.append_assoc]
theorem impl_ev (q : List Int) (hb : q.length ≤ 1152921504606846976) : Ev (fun k => impl_AttacksOf.f k q) (R q) := by
  obtain ⟨K1, h1⟩ := ev_get (isList_ev q hb)
  unfold R
  by_cases h : goodB q = true
  · obtain ⟨K2, h2⟩ := ev_get (impl_outer q (good_small h) q.length 0 [] (by omega) (by omega) (by simp))
    refine ⟨K1 + K2, fun k hk => ?_⟩
    simp only [impl_AttacksOf.f, h1 k (by omega), Option.bind_some, if_pos h]
    simpa using h2 k (by omega)
  · refine ⟨K1, fun k hk => ?_⟩
    simp only [impl_AttacksOf.f, h1 k (by omega), Option.bind_some, if_neg h]
theorem rowP_len (q : List Int) (r s : Nat) : (rowP q r s).length ≤ q.length - s := by
  unfold rowP
  rw [List.length_map]
  exact Nat.le_trans (List.length_filter_le _ _) (by simp)
theorem allP_len (q : List Int) (hl : q.length ≤ 8) : ∀ (d r : Nat), q.length - r = d → (allP q r).length ≤ 8 * d := by
  intro d
  induction d with
  | zero => intro r hd; rw [allP_nil q r (by omega)]; simp
  | succ d ih =>
    intro r hd
    rw [allP_step q r (by omega), List.length_append]
    have := ih (r + 1) (by omega)
    have := rowP_len q r (r + 1)
    omega
end FnExactAttacksOf
namespace FnExactAreQueens
def R (q : List Int) : Bool × Bool := if goodB q = true then (freeB q, true) else (false, false)
theorem impl_ev (q : List Int) (hb : q.length ≤ 1152921504606846976) : Ev (fun k => impl_AreQueens.f k q) (R q) := by
  obtain ⟨K1, h1⟩ := ev_get (isList_ev q hb)
  unfold R
  by_cases h : goodB q = true
  · obtain ⟨K2, h2⟩ := ev_get (areQueens_ev q (good_small h))
    refine ⟨K1 + K2, fun k hk => ?_⟩
    simp only [impl_AreQueens.f, h1 k (by omega), h2 k (by omega), Option.bind_some, if_pos h]
  · refine ⟨K1, fun k hk => ?_⟩
    simp only [impl_AreQueens.f, h1 k (by omega), Option.bind_some, if_neg h]
end FnExactAreQueens
namespace FnQueensListed
theorem most_some (a b : Int) : ∃ v, spec_l1Most.f a b = some v := by
  unfold spec_l1Most.f
  split <;> exact ⟨_, rfl⟩
theorem going_l0 {s : List Int} (hs : Bytes s) (n : Int) : ∀ (m : Nat) (q : List Int) (a b : Int), m ≤ 10 → q.length + m ≤ 100 → 0 ≤ a → a + 2 * m ≤ 1000 →
    ∃ r, Ev (fun k => spec_DrawCountGoingOn.l0 k n q (m : Int) s a b) (n, r) ∧ r.length ≤ q.length + m + 1
  | 0, q, a, b, _, hq, h0, h1 => by
    obtain ⟨x, a1, b1, e1, h2, h3⟩ := one_ok hs a b 12 h0 (by omega)
    cases x with
    | true =>
      obtain ⟨y, a2, b2, e2, h4, h5, h6⟩ := among_ok hs a1 b1 [(-1), n] (by simp) (by omega) (by omega)
      refine ⟨q ++ [y], ⟨1, fun k hk => ?_⟩, by simp⟩
      obtain ⟨k, rfl⟩ : ∃ m, k = m + 1 := ⟨k - 1, by omega⟩
      dsimp only
      rw [spec_DrawCountGoingOn.l0, if_neg (by omega), e1]
      simp only [Option.bind_some, if_true]
      rw [e2]
      simp only [Option.bind_some]
      rw [if_pos (by omega)]
    | false =>
      refine ⟨q, ⟨1, fun k hk => ?_⟩, by simp⟩
      obtain ⟨k, rfl⟩ : ∃ m, k = m + 1 := ⟨k - 1, by omega⟩
      dsimp only
      rw [spec_DrawCountGoingOn.l0, if_neg (by omega), e1]
      simp only [Option.bind_some, Bool.false_eq_true, if_false]
  | m + 1, q, a, b, hm, hq, h0, h1 => by
    obtain ⟨v, hv⟩ := most_some 1 n
    obtain ⟨y, a1, b1, e1, h2, h3, h4, h5⟩ := pick_ok hs a b v h0 (by omega)
    obtain ⟨r, e2, h6⟩ := going_l0 hs n m (q ++ [y]) a1 b1 (by omega) (by simp; omega) (by omega) (by omega)
    obtain ⟨K, hK⟩ := ev_get e2
    refine ⟨r, ⟨K + 1, fun k hk => ?_⟩, by simp at h6; omega⟩
    obtain ⟨k, rfl⟩ : ∃ m, k = m + 1 := ⟨k - 1, by omega⟩
    dsimp only
    rw [spec_DrawCountGoingOn.l0, if_pos (by omega), hv]
    simp only [Option.bind_some]
    rw [e1]
    simp only [Option.bind_some]
    rw [if_pos (by omega), w64 _ (by omega) (by omega), show (((m + 1 : Nat) : Int) - 1) = (m : Int) by omega]
    exact hK k (by omega)
theorem going_ok {s : List Int} (hs : Bytes s) : ∃ n q, Ev (fun k => spec_DrawCountGoingOn.f k s) (n, q) ∧ q.length ≤ 20 := by
  obtain ⟨n, a1, b1, e1, h2, h3, h4⟩ := among_ok hs 0 0 [1, 4, 5, 6, 7, 8, 9, 0] (by simp) (by omega) (by omega)
  obtain ⟨y, a2, b2, e2, h5, h6, h7, h8⟩ := pick_ok hs a1 b1 4 (by omega) (by omega)
  obtain ⟨m, rfl⟩ : ∃ m : Nat, y = (m : Int) := ⟨y.toNat, by omega⟩
  obtain ⟨r, e3, h9⟩ := going_l0 hs n m [] a2 b2 (by omega) (by simp; omega) (by omega) (by omega)
  obtain ⟨K, hK⟩ := ev_get e3
  refine ⟨n, r, ⟨K, fun k hk => ?_⟩, by simp at h9; omega⟩
  simp only [spec_DrawCountGoingOn.f, e1, Option.bind_some, e2, hK k hk]
theorem j4_ev {s : List Int} (hs : Bytes s) : Ev (fun k => laws_FnQueensListed.j4 k s) true := by
  obtain ⟨n, q, e1, hq⟩ := going_ok hs
  obtain ⟨p, e2, hp⟩ := drawQueens_ok hs
  obtain ⟨K1, h1⟩ := ev_get e1
  obtain ⟨K2, h2⟩ := ev_get e2
  obtain ⟨K3, h3⟩ := ev_get (FnExactCountGoingOn.impl_ev n q (by omega))
  obtain ⟨K4, h4⟩ := ev_get (FnExactCountGoingOn.spec_ev n q (by omega))
  obtain ⟨K5, h5⟩ := ev_get (FnExactAttacksOf.impl_ev p (by omega))
  obtain ⟨K6, h6⟩ := ev_get (FnExactAttacksOf.spec_ev p (by omega))
  obtain ⟨K7, h7⟩ := ev_get (FnExactAreQueens.impl_ev p (by omega))
  have hr : Ev (fun k => laws_kRows.f k (FnExactAttacksOf.R p).1 (FnExactAttacksOf.R p).1) true := by
    unfold FnExactAttacksOf.R
    split
    · rename_i hg
      have hl := (good_len hg).2
      have := FnExactAttacksOf.allP_len p (by omega) p.length 0 (by omega)
      refine kRows_refl (allP p 0) (by omega) (fun l hl => ?_)
      obtain ⟨r, s, _, _, _, rfl⟩ := (allP_mem p l).1 hl
      simp
    · exact kRows_refl _ (by simp) (by simp)
  obtain ⟨K8, h8⟩ := ev_get hr
  refine ⟨K1 + K2 + K3 + K4 + K5 + K6 + K7 + K8 + 1, fun k hk => ?_⟩
  obtain ⟨k, rfl⟩ : ∃ m, k = m + 1 := ⟨k - 1, by omega⟩
  simp only [laws_FnQueensListed.j4, spec_DrawAttacksOf.f, h1 k (by omega), h2 k (by omega), Option.bind_some, h3 k (by omega), h4 k (by omega), h5 k (by omega), h6 k (by omega), h7 k (by omega), h8 k (by omega), beq_self_eq_true, if_true]
  unfold FnExactAttacksOf.R FnExactAreQueens.R
  by_cases hg : goodB p = true
  · simp only [if_pos hg, beq_self_eq_true, if_true, freeB_allP]
  · simp only [if_neg hg, beq_self_eq_true, if_true, Bool.false_eq_true, if_false]
theorem headD_get (l : List (List Int)) (h : 0 < l.length) : l.headD [] = l[0] := by
  cases l with
  | nil => simp at h
  | cons x l => rfl
theorem row_at {N : Nat} {i : Nat} (h : i < (allQ N).length) : rd_L1 (allQ N) (i : Int) = (allQ N)[i] := rdL_nat _ _ h
theorem l1_ev {s : List Int} (hs : Bytes s) (N : Nat) (h1 : 1 ≤ N) (h8 : N ≤ 8) : ∀ (d i : Nat), (allQ N).length - i = d → i ≤ (allQ N).length →
    Ev (fun k => laws_FnQueensListed.l1 k s (allQ N) (allQ N) ((allQ N).length : Int) (i : Int)) true := by
  have hlen := allQ_len N h8
  intro d
  induction d with
  | zero =>
    intro i hd hi
    obtain ⟨K, hK⟩ := ev_get (j4_ev hs)
    refine ⟨K + 1, fun k hk => ?_⟩
    obtain ⟨k, rfl⟩ : ∃ m, k = m + 1 := ⟨k - 1, by omega⟩
    dsimp only
    rw [laws_FnQueensListed.l1, if_neg (by omega)]
    exact hK k (by omega)
  | succ d ih =>
    intro i hd hi
    have hi2 : i < (allQ N).length := by omega
    have hm := List.getElem_mem hi2
    obtain ⟨K1, k1⟩ := ev_get (ih (i + 1) (by omega) (by omega))
    obtain ⟨K2, k2⟩ := ev_get (FnExactAreQueens.impl_ev (allQ N)[i] (by have := (allQ_row hm).2; omega))
    have hR : FnExactAreQueens.R (allQ N)[i] = (true, true) := by unfold FnExactAreQueens.R; rw [if_pos (allQ_good h1 h8 hm), allQ_free hm]
    rw [hR] at k2
    by_cases h0 : i = 0
    · refine ⟨K1 + K2 + 1, fun k hk => ?_⟩
      obtain ⟨k, rfl⟩ : ∃ m, k = m + 1 := ⟨k - 1, by omega⟩
      dsimp only
      rw [laws_FnQueensListed.l1, if_pos (by omega), if_pos (by omega), if_pos (by omega), row_at hi2, k2 k (by omega)]
      simp only [Option.bind_some, if_true]
      rw [if_neg (by omega), w64 _ (by omega) (by omega), show ((i : Int) + 1) = ((i + 1 : Nat) : Int) by omega]
      exact k1 k (by omega)
    · have hi3 : i - 1 < (allQ N).length := by omega
      have hlt : lexLt (allQ N)[i - 1] (allQ N)[i] := (List.pairwise_iff_getElem.1 (allQ_sorted N)) (i - 1) i hi3 hi2 (by omega)
      obtain ⟨K3, k3⟩ := ev_get (kLess_lt _ _ hlt (by have := (allQ_row (List.getElem_mem hi3)).2; omega))
      refine ⟨K1 + K2 + K3 + 1, fun k hk => ?_⟩
      obtain ⟨k, rfl⟩ : ∃ m, k = m + 1 := ⟨k - 1, by omega⟩
      dsimp only
      rw [laws_FnQueensListed.l1, if_pos (by omega), if_pos (by omega), if_pos (by omega), row_at hi2, k2 k (by omega)]
      simp only [Option.bind_some, if_true]
      rw [if_pos (by omega), w64 ((i : Int) - 1) (by omega) (by omega), show ((i : Int) - 1) = ((i - 1 : Nat) : Int) by omega, if_pos (by omega), if_pos (by omega), row_at hi3, k3 k (by omega)]
      simp only [Option.bind_some, if_true]
      rw [w64 _ (by omega) (by omega), show ((i : Int) + 1) = ((i + 1 : Nat) : Int) by omega]
      exact k1 k (by omega)
theorem j2_ev {s : List Int} (hs : Bytes s) (N : Nat) (h1 : 1 ≤ N) (h8 : N ≤ 8) : Ev (fun k => laws_FnQueensListed.j2 k s (allQ N) false) true := by
  obtain ⟨K, hK⟩ := ev_get (l1_ev hs N h1 h8 (allQ N).length 0 (by omega) (by omega))
  refine ⟨K + 1, fun k hk => ?_⟩
  obtain ⟨k, rfl⟩ : ∃ m, k = m + 1 := ⟨k - 1, by omega⟩
  simp only [laws_FnQueensListed.j2, Bool.false_eq_true, if_false]
  exact hK k (by omega)
def part (N : Nat) (c : Nat) : Nat := ((P N (N - 1) [(c : Int)]).filter freeB).length
theorem going_one (N : Nat) (h1 : 1 ≤ N) (h8 : N ≤ 8) (c : Nat) (hc : c < N) : FnExactCountGoingOn.R (N : Int) [(c : Int)] = ((part N c : Int), true) := by
  unfold FnExactCountGoingOn.R
  rw [if_pos]
  · rfl
  · refine ⟨by unfold inB; simp; omega, by simp; omega, fun j _ hj => ?_⟩
    simp at hj
    subst hj
    simp
    omega
/-- Whether there are some at all, as the law asks. -/
theorem three_ok (N : Nat) (h1 : 1 ≤ N) (h8 : N ≤ 8) : decide ((allQ N).length ≠ 0) = (decide (N ≠ 2) && decide (N ≠ 3)) := by
  have := allQ_some h1 h8
  rw [Bool.eq_iff_iff]
  simp only [decide_eq_true_eq, Bool.and_eq_true]
  omega
theorem l0_ev {s : List Int} (hs : Bytes s) (N : Nat) (h1 : 1 ≤ N) (h8 : N ≤ 8) : ∀ (d i : Nat) (c : Nat), N - i = d → i ≤ N → c + ((List.range' i (N - i)).map (part N)).sum = (allQ N).length →
    Ev (fun k => laws_FnQueensListed.l0 k s (N : Int) (allQ N) ((allQ N).length : Int) ((allQ N).headD []) (decide ((allQ N).length ≠ 0)) (c : Int) (i : Int)) true := by
  have hlen := allQ_len N h8
  intro d
  induction d with
  | zero =>
    intro i c hd hi hc
    rw [show N - i = 0 by omega] at hc
    simp at hc
    obtain ⟨K, hK⟩ := ev_get (j2_ev hs N h1 h8)
    have ht := three_ok N h1 h8
    have hgt : decide (((allQ N).length : Int) > 0) = decide ((allQ N).length ≠ 0) := decide_eq_decide.2 (by omega)
    have hend : ∀ k, K + 1 ≤ k → (if (N : Int) = 2 then (laws_FnQueensListed.j2 k s (allQ N) (decide ((allQ N).length ≠ 0) != false)) else (laws_FnQueensListed.j2 k s (allQ N) (decide ((allQ N).length ≠ 0) != ((N : Int) != 3)))) = some true := by
      intro k hk
      by_cases h2 : N = 2
      · have e : decide ((allQ N).length ≠ 0) = false := by rw [ht]; simp [h2]
        rw [if_pos (by omega), e]
        exact hK k (by omega)
      · have e : decide ((allQ N).length ≠ 0) = ((N : Int) != 3) := by
          rw [ht, Bool.eq_iff_iff]
          simp [h2]
          omega
        rw [if_neg (by omega), ← e, bne_self_eq_false]
        exact hK k (by omega)
    by_cases hz : (allQ N).length = 0
    · refine ⟨K + 2, fun k hk => ?_⟩
      obtain ⟨k, rfl⟩ : ∃ m, k = m + 1 := ⟨k - 1, by omega⟩
      dsimp only
      rw [laws_FnQueensListed.l0, if_neg (by omega), if_pos (by omega), if_pos (by omega), hgt, bne_self_eq_false]
      simp only [Bool.false_eq_true, if_false]
      rw [if_neg (by simp [hz])]
      exact hend k (by omega)
    · have hh : (allQ N).headD [] = (allQ N)[0]'(by omega) := headD_get _ _
      obtain ⟨K2, k2⟩ := ev_get (kSame_refl ((allQ N)[0]'(by omega)) (by have := (allQ_row (List.getElem_mem (show 0 < (allQ N).length by omega))).2; omega))
      refine ⟨K + K2 + 2, fun k hk => ?_⟩
      obtain ⟨k, rfl⟩ : ∃ m, k = m + 1 := ⟨k - 1, by omega⟩
      dsimp only
      rw [laws_FnQueensListed.l0, if_neg (by omega), if_pos (by omega), if_pos (by omega), hgt, bne_self_eq_false]
      simp only [Bool.false_eq_true, if_false]
      rw [if_pos (by simpa using hz), if_pos (by omega), show (0 : Int) = ((0 : Nat) : Int) from rfl, row_at (show 0 < (allQ N).length by omega), hh, k2 k (by omega)]
      simp only [Option.bind_some, if_true]
      exact hend k (by omega)
  | succ d ih =>
    intro i c hd hi hc
    have hiN : i < N := by omega
    rw [range'_step i N hiN, List.map_cons, List.sum_cons] at hc
    obtain ⟨K1, k1⟩ := ev_get (ih (i + 1) (c + part N i) (by omega) (by omega) (by omega))
    obtain ⟨K2, k2⟩ := ev_get (FnExactCountGoingOn.impl_ev (N : Int) [(i : Int)] (by simp))
    rw [going_one N h1 h8 i hiN] at k2
    refine ⟨K1 + K2 + 1, fun k hk => ?_⟩
    obtain ⟨k, rfl⟩ : ∃ m, k = m + 1 := ⟨k - 1, by omega⟩
    dsimp only
    rw [laws_FnQueensListed.l0, if_pos (by omega), k2 k (by omega)]
    simp only [Option.bind_some, if_true]
    rw [w64 _ (by omega) (by omega), w64 _ (by omega) (by omega), show ((i : Int) + 1) = ((i + 1 : Nat) : Int) by omega, show ((c : Int) + (part N i : Int)) = ((c + part N i : Nat) : Int) by omega]
    exact k1 k (by omega)
end FnQueensListed
open FnQueensListed in
theorem FnQueensListed : laws_FnQueensListed.Pure := by
  intro l0 l1 ha hb hc hd he hf
  have hs0 := bytes_of hc
  have hs1 := bytes_of hf
  obtain ⟨x, hx⟩ := big_eq l0 l1 (by omega) (by omega)
  cases x with
  | true => exact ⟨0, by unfold laws_FnQueensListed.f; rw [hx]; simp⟩
  | false =>
    obtain ⟨n, hn, hn0, hn9⟩ := drawCount_ok hs0
    have hA : ∀ m, FnExactAllQueens.RA m = FnExactCountQueens.RA m := fun m => rfl
    obtain ⟨K1, k1⟩ := ev_get (FnExactAllQueens.implA_ev n)
    obtain ⟨K2, k2⟩ := ev_get (FnExactAllQueens.specA_ev n)
    obtain ⟨K3, k3⟩ := ev_get (FnExactCountQueens.impl_ev n)
    obtain ⟨K4, k4⟩ := ev_get (FnExactCountQueens.spec_ev n)
    obtain ⟨K5, k5⟩ := ev_get (FnExactFirstQueens.impl_ev n)
    obtain ⟨K6, k6⟩ := ev_get (FnExactFirstQueens.spec_ev n)
    have hr := FnExactAllQueens.RA_small n
    obtain ⟨K7, k7⟩ := ev_get (kRows_refl (FnExactAllQueens.RA n).1 (by omega) (fun l hl => by have := hr.2 l hl; omega))
    obtain ⟨K8, k8⟩ := ev_get (kSame_refl (FnExactFirstQueens.R n).1 (by have := FnExactFirstQueens.R_len n; omega))
    have hend : Ev (fun k => laws_FnQueensListed.j0 k l1 n (FnExactAllQueens.RA n).1 (FnExactAllQueens.RA n).2 (FnExactCountQueens.R n).1 (FnExactFirstQueens.R n).1 (FnExactFirstQueens.R n).2 ((FnExactCountQueens.R n).2 != (FnExactAllQueens.RA n).2)) true := by
      unfold FnExactAllQueens.RA FnExactCountQueens.R FnExactFirstQueens.R
      by_cases h : inB n 1 8 = true
      · obtain ⟨N, rfl, h1, h8⟩ := FnExactAllQueens.inB_nat h
        obtain ⟨K, hK⟩ := ev_get (l0_ev hs1 N h1 h8 N 0 0 (by omega) (by omega) (by rw [Nat.zero_add]; exact (allQ_sum N h1).symm))
        have hF : (if (allQ N).length = 0 then (([] : List Int), false) else ((allQ N).headD [], true)) = ((allQ N).headD [], decide ((allQ N).length ≠ 0)) := by
          by_cases hz : (allQ N).length = 0
          · have : allQ N = [] := List.eq_nil_of_length_eq_zero hz
            rw [if_pos hz, this]; rfl
          · rw [if_neg hz]; simp [hz]
        refine ⟨K + 1, fun k hk => ?_⟩
        obtain ⟨k, rfl⟩ : ∃ m, k = m + 1 := ⟨k - 1, by omega⟩
        simp only [if_pos h, Int.toNat_natCast, bne_self_eq_false, laws_FnQueensListed.j0, Bool.false_eq_true, if_false, if_true]
        rw [hF]
        exact hK k (by omega)
      · obtain ⟨K, hK⟩ := ev_get (j4_ev hs1)
        refine ⟨K + 1, fun k hk => ?_⟩
        obtain ⟨k, rfl⟩ : ∃ m, k = m + 1 := ⟨k - 1, by omega⟩
        simp only [if_neg h, bne_self_eq_false, laws_FnQueensListed.j0, Bool.false_eq_true, if_false]
        exact hK k (by omega)
    obtain ⟨K9, k9⟩ := ev_get hend
    refine ⟨K1 + K2 + K3 + K4 + K5 + K6 + K7 + K8 + K9, ?_⟩
    unfold laws_FnQueensListed.f spec_DrawAllQueens.f
    rw [hx, hn]
    simp only [Option.bind_some, Bool.false_eq_true, if_false, k1 _ (show K1 ≤ K1 + K2 + K3 + K4 + K5 + K6 + K7 + K8 + K9 by omega), k2 _ (show K2 ≤ K1 + K2 + K3 + K4 + K5 + K6 + K7 + K8 + K9 by omega), k3 _ (show K3 ≤ K1 + K2 + K3 + K4 + K5 + K6 + K7 + K8 + K9 by omega), k4 _ (show K4 ≤ K1 + K2 + K3 + K4 + K5 + K6 + K7 + K8 + K9 by omega), k5 _ (show K5 ≤ K1 + K2 + K3 + K4 + K5 + K6 + K7 + K8 + K9 by omega), k6 _ (show K6 ≤ K1 + K2 + K3 + K4 + K5 + K6 + K7 + K8 + K9 by omega), k7 _ (show K7 ≤ K1 + K2 + K3 + K4 + K5 + K6 + K7 + K8 + K9 by omega), k8 _ (show K8 ≤ K1 + K2 + K3 + K4 + K5 + K6 + K7 + K8 + K9 by omega), bne_self_eq_false, if_true]
    exact k9 _ (by omega)
end Go.Proofs.Ytnpacpdpgngdpaa.Pure
