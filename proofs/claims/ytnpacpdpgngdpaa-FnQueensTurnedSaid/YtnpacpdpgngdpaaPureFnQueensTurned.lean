/- For all bytes that are drawn from: turns and mirrors keep what attacks, and queens are counted up to them: no condition but that the bytes can be read. -/
import Derived.Laws.BitsLemmas
import Derived.Test.YtnpacpdpgngdpaaPx0
import Derived.Test.YtnpacpdpgngdpaaQc74da3dc26
import Derived.Test.YtnpacpdpgngdpaaQf34a463c0a
import Derived.Test.YtnpacpdpgngdpaaQ755427cc63
import Derived.Test.YtnpacpdpgngdpaaQb85a676f67
import Derived.Test.YtnpacpdpgngdpaaQec2268f9ee
import Derived.Test.YtnpacpdpgngdpaaQ959d17441d
namespace Go.Proofs.Ytnpacpdpgngdpaa.P
open Go.RowKit Go.Proofs.YtnpacpdpgngdpaaW.PrintWords Go.Proofs.YtnpacpdpgngdpaaW.PrintLast Go.Proofs.YtnpacpdpgngdpaaW.PrintMore
set_option linter.unusedVariables false
set_option linter.unusedSimpArgs false
theorem w64 (n : Int) (h : -9223372036854775808 ≤ n) (h2 : n ≤ 9223372036854775807) : wrap64 n = n := by unfold wrap64; omega
theorem rd_nat (l : List Int) (i : Nat) (h : i < l.length) : rd l (i : Int) = l[i] := by
  unfold rd; simp [List.getD_eq_getElem?_getD, List.getElem?_eq_getElem h]
theorem drop_cons (l : List Int) (i : Nat) (h : i < l.length) : l.drop i = l[i] :: l.drop (i + 1) := List.drop_eq_getElem_cons h
theorem ev_get {α : Type} {g : Nat → Option α} {r : α} (h : Ev g r) : ∃ K, ∀ k, K ≤ k → g k = some r := h
def inB (n lo hi : Int) : Bool := decide (lo ≤ n ∧ n ≤ hi)
theorem l1In_eq (a b c : Int) : spec_l1In.f a b c = some (inB a b c) := by
  unfold spec_l1In.f inB
  by_cases h : a ≥ b
  · rw [if_pos h]; congr 1; simp; omega
  · rw [if_neg h]; congr 1; symm; apply decide_eq_false; omega
theorem within_eq (a b c : Int) : impl_within.f a b c = some (inB a b c) := by
  unfold impl_within.f inB
  by_cases h : b ≤ a
  · rw [if_pos h]; congr 1; simp; omega
  · rw [if_neg h]; congr 1; symm; apply decide_eq_false; omega
def allIn (l : List Int) (lo hi : Int) : Bool := l.all fun x => inB x lo hi
theorem l1All_l0 (lo hi : Int) (l : List Int) (hb : l.length ≤ 1152921504606846976) : ∀ (d i : Nat) (k : Nat), l.length - i = d → i ≤ l.length → d < k →
    spec_l1All.l0 k lo hi l (l.length : Int) (i : Int) = some (allIn (l.drop i) lo hi) := by
  intro d
  induction d with
  | zero =>
    intro i k hd hi' hk
    obtain ⟨k, rfl⟩ : ∃ m, k = m + 1 := ⟨k - 1, by omega⟩
    rw [spec_l1All.l0, if_neg (by omega), List.drop_eq_nil_of_le (by omega)]
    rfl
  | succ d ih =>
    intro i k hd hi' hk
    obtain ⟨k, rfl⟩ : ∃ m, k = m + 1 := ⟨k - 1, by omega⟩
    have h1 : i < l.length := by omega
    rw [spec_l1All.l0, if_pos (by omega), if_pos (by omega), if_pos (by omega), l1In_eq, Option.bind_some, w64 _ (by omega) (by omega), rd_nat _ _ h1]
    rw [show ((i : Int) + 1) = ((i + 1 : Nat) : Int) by omega, ih (i + 1) k (by omega) (by omega) (by omega), drop_cons l i h1]
    unfold allIn
    rw [List.all_cons]
    generalize l.drop (i + 1) = tl
    by_cases h : inB l[i] lo hi = true
    · rw [if_pos h, h]; simp
    · rw [if_neg h]; simp at h; rw [h]; simp
theorem l1All_ev (l : List Int) (lo hi : Int) (hb : l.length ≤ 1152921504606846976) : Ev (fun k => spec_l1All.f k l lo hi) (allIn l lo hi) := by
  refine ⟨l.length + 1, fun k hk => ?_⟩
  simp only [spec_l1All.f]
  have := l1All_l0 lo hi l hb l.length 0 k (by omega) (by omega) (by omega)
  simpa using this
end Go.Proofs.Ytnpacpdpgngdpaa.P
namespace Go.Proofs.Ytnpacpdpgngdpaa.P
open Go.RowKit Go.Proofs.YtnpacpdpgngdpaaW.PrintWords Go.Proofs.YtnpacpdpgngdpaaW.PrintLast Go.Proofs.YtnpacpdpgngdpaaW.PrintMore
set_option linter.unusedVariables false
set_option linter.unusedSimpArgs false
theorem l1Has_l0 (x : Int) (l : List Int) (hb : l.length ≤ 1152921504606846976) : ∀ (d i : Nat) (k : Nat), l.length - i = d → i ≤ l.length → d < k →
    spec_l1Has.l0 k x l (l.length : Int) (i : Int) = some (decide (x ∈ l.drop i)) := by
  intro d
  induction d with
  | zero =>
    intro i k hd hi' hk
    obtain ⟨k, rfl⟩ : ∃ m, k = m + 1 := ⟨k - 1, by omega⟩
    rw [spec_l1Has.l0, if_neg (by omega), List.drop_eq_nil_of_le (by omega)]
    rfl
  | succ d ih =>
    intro i k hd hi' hk
    obtain ⟨k, rfl⟩ : ∃ m, k = m + 1 := ⟨k - 1, by omega⟩
    have h1 : i < l.length := by omega
    rw [spec_l1Has.l0, if_pos (by omega), if_pos (by omega), if_pos (by omega), w64 _ (by omega) (by omega), rd_nat _ _ h1]
    rw [show ((i : Int) + 1) = ((i + 1 : Nat) : Int) by omega, ih (i + 1) k (by omega) (by omega) (by omega), drop_cons l i h1]
    generalize l.drop (i + 1) = tl
    by_cases h : l[i] = x
    · rw [if_pos h]; simp [h]
    · rw [if_neg h]; congr 1; simp [Ne.symm h]
theorem l1Has_ev (l : List Int) (x : Int) (hb : l.length ≤ 1152921504606846976) : Ev (fun k => spec_l1Has.f k l x) (decide (x ∈ l)) := by
  refine ⟨l.length + 1, fun k hk => ?_⟩
  simp only [spec_l1Has.f]
  have := l1Has_l0 x l hb l.length 0 k (by omega) (by omega) (by omega)
  simpa using this
/-- slices.Index tells at least 0 just for a member. -/
theorem Index_l0 (x : Int) (l : List Int) (hb : l.length ≤ 1152921504606846976) : ∀ (d i : Nat) (k : Nat), l.length - i = d → i ≤ l.length → d < k →
    slices_Index_int_int.l0 k l x (l.length : Int) (i : Int) = some (if x ∈ l.drop i then (i : Int) + ((l.drop i).idxOf x : Nat) else -1) := by
  intro d
  induction d with
  | zero =>
    intro i k hd hi' hk
    obtain ⟨k, rfl⟩ : ∃ m, k = m + 1 := ⟨k - 1, by omega⟩
    rw [slices_Index_int_int.l0, if_neg (by omega), List.drop_eq_nil_of_le (by omega)]
    rfl
  | succ d ih =>
    intro i k hd hi' hk
    obtain ⟨k, rfl⟩ : ∃ m, k = m + 1 := ⟨k - 1, by omega⟩
    have h1 : i < l.length := by omega
    rw [slices_Index_int_int.l0, if_pos (by omega), if_pos (by omega), if_pos (by omega), w64 _ (by omega) (by omega), rd_nat _ _ h1]
    rw [show ((i : Int) + 1) = ((i + 1 : Nat) : Int) by omega, ih (i + 1) k (by omega) (by omega) (by omega), drop_cons l i h1]
    generalize l.drop (i + 1) = tl
    by_cases h : x = l[i]
    · rw [if_pos h]; simp [h]
    · rw [if_neg h]; congr 1
      rw [List.idxOf_cons, show (l[i] == x) = false by simpa using Ne.symm h, cond_false]
      by_cases h2 : x ∈ tl
      · rw [if_pos h2, if_pos (by simp [h2])]; omega
      · rw [if_neg h2, if_neg (by simp [h, h2])]
theorem Index_ev (l : List Int) (x : Int) (hb : l.length ≤ 1152921504606846976) : Ev (fun k => slices_Index_int_int.f k l x) (if x ∈ l then (l.idxOf x : Int) else -1) := by
  refine ⟨l.length + 1, fun k hk => ?_⟩
  simp only [slices_Index_int_int.f]
  have := Index_l0 x l hb l.length 0 k (by omega) (by omega) (by omega)
  simpa using this
theorem Contains_ev (l : List Int) (x : Int) (hb : l.length ≤ 1152921504606846976) : Ev (fun k => slices_Contains_int_int.f k l x) (decide (x ∈ l)) := by
  obtain ⟨K, hK⟩ := ev_get (Index_ev l x hb)
  refine ⟨K, fun k hk => ?_⟩
  simp only [slices_Contains_int_int.f, hK k hk, Option.bind_some]
  congr 1
  by_cases h : x ∈ l
  · simp [h]
  · simp [h]
def permB (l : List Int) (n : Int) : Bool := decide ((l.length : Int) = n ∧ (∀ x ∈ l, 0 ≤ x ∧ x ≤ n - 1) ∧ l.Nodup)
def restOnce (l : List Int) (i : Nat) : Prop := ∀ j, i ≤ j → ∀ h : j < l.length, l[j] ∉ l.take j
theorem restOnce_iff (l : List Int) : restOnce l 0 ↔ l.Nodup := by
  constructor
  · intro h
    rw [List.nodup_iff_pairwise_ne, List.pairwise_iff_getElem]
    intro i j hi hj hij e
    exact h j (by omega) hj (by rw [← e]; exact List.mem_take_iff_getElem.2 ⟨i, by omega, rfl⟩)
  · intro h j _ hj hm
    rw [List.nodup_iff_pairwise_ne, List.pairwise_iff_getElem] at h
    obtain ⟨i, hi, e⟩ := List.mem_take_iff_getElem.1 hm
    exact h i j (by omega) hj (by omega) e
theorem restOnce_step (l : List Int) (i : Nat) (h : i < l.length) : restOnce l i ↔ l[i] ∉ l.take i ∧ restOnce l (i + 1) := by
  constructor
  · intro H
    exact ⟨H i (by omega) h, fun j hj hjl => H j (by omega) hjl⟩
  · rintro ⟨h0, H⟩ j hj hjl
    by_cases e : j = i
    · subst e; exact h0
    · exact H j (by omega) hjl
open Classical in
theorem isPerm_l0 (l : List Int) (n : Int) (hn : n = l.length) (hb : l.length ≤ 1152921504606846976) : ∀ (d i : Nat), l.length - i = d → i ≤ l.length →
    Ev (fun k => impl_isPerm.l0 k l n l (l.length : Int) (i : Int)) (decide ((∀ x ∈ l.drop i, 0 ≤ x ∧ x ≤ n - 1) ∧ restOnce l i)) := by
  intro d
  induction d with
  | zero =>
    intro i hd hi'
    refine ⟨1, fun k hk => ?_⟩
    obtain ⟨k, rfl⟩ : ∃ m, k = m + 1 := ⟨k - 1, by omega⟩
    simp only [impl_isPerm.l0]
    rw [if_neg (by omega)]
    congr 1
    symm
    apply decide_eq_true
    rw [List.drop_eq_nil_of_le (by omega)]
    exact ⟨by simp, fun j hj h => by omega⟩
  | succ d ih =>
    intro i hd hi'
    have h1 : i < l.length := by omega
    obtain ⟨K1, h3⟩ := ev_get (ih (i + 1) (by omega) (by omega))
    obtain ⟨K2, h4⟩ := ev_get (Contains_ev (l.take i) l[i] (by simp; omega))
    refine ⟨K1 + K2 + 1, fun k hk => ?_⟩
    obtain ⟨k, rfl⟩ : ∃ m, k = m + 1 := ⟨k - 1, by omega⟩
    simp only [impl_isPerm.l0]
    rw [if_pos (by omega), if_pos (by omega), if_pos (by omega), within_eq, Option.bind_some, w64 (n - 1) (by omega) (by omega), w64 _ (by omega) (by omega), rd_nat _ _ h1, if_pos (show (i : Int) ≤ (l.length : Int) by omega), show (i : Int).toNat = i by omega, show ((i : Int) + 1) = ((i + 1 : Nat) : Int) by omega, h4 k (by omega), h3 k (by omega), Option.bind_some]
    have hs := restOnce_step l i h1
    rw [drop_cons l i h1]
    by_cases h : inB l[i] 0 (n - 1) = true
    · rw [if_pos h]
      have h' : 0 ≤ l[i] ∧ l[i] ≤ n - 1 := by simpa [inB] using h
      by_cases h2 : l[i] ∈ l.take i
      · simp only [h2, decide_true, if_true]
        congr 1
        symm; apply decide_eq_false
        rintro ⟨_, hr⟩
        exact (hs.1 hr).1 h2
      · simp only [h2, decide_false, if_false, Bool.false_eq_true]
        congr 1
        rw [decide_eq_decide]
        constructor
        · rintro ⟨ha, hr⟩
          refine ⟨?_, hs.2 ⟨h2, hr⟩⟩
          intro x hx
          rcases List.mem_cons.1 hx with rfl | hx
          · exact h'
          · exact ha x hx
        · rintro ⟨ha, hr⟩
          exact ⟨fun x hx => ha x (List.mem_cons_of_mem _ hx), (hs.1 hr).2⟩
    · rw [if_neg h]
      congr 1
      symm; apply decide_eq_false
      rintro ⟨ha, _⟩
      exact h (by simpa [inB] using ha _ (List.mem_cons_self ..))
theorem isPerm_ev (l : List Int) (n : Int) (hb : l.length ≤ 1152921504606846976) : Ev (fun k => impl_isPerm.f k l n) (permB l n) := by
  by_cases h : (l.length : Int) = n
  · obtain ⟨K, hK⟩ := ev_get (isPerm_l0 l n h.symm hb l.length 0 (by omega) (by omega))
    refine ⟨K, fun k hk => ?_⟩
    simp only [impl_isPerm.f]
    rw [if_pos h]
    refine (hK k hk).trans ?_
    congr 1
    unfold permB
    rw [decide_eq_decide, restOnce_iff, List.drop_zero]
    exact ⟨fun ⟨a, b⟩ => ⟨h, a, b⟩, fun ⟨_, a, b⟩ => ⟨a, b⟩⟩
  · refine ⟨0, fun k hk => ?_⟩
    simp only [impl_isPerm.f]
    rw [if_neg h]
    congr 1
    symm; apply decide_eq_false
    exact fun ⟨a, _⟩ => h a
end Go.Proofs.Ytnpacpdpgngdpaa.P
namespace Go.Proofs.Ytnpacpdpgngdpaa.P
open Go.RowKit Go.Proofs.YtnpacpdpgngdpaaW.PrintWords Go.Proofs.YtnpacpdpgngdpaaW.PrintLast Go.Proofs.YtnpacpdpgngdpaaW.PrintMore
set_option linter.unusedVariables false
set_option linter.unusedSimpArgs false
/-- A list that has each of 0..n-1 once, n its length, 1 to 8. -/
def goodB (q : List Int) : Bool := decide (1 ≤ q.length ∧ q.length ≤ 8) && permB q q.length
theorem goodB_iff (q : List Int) : goodB q = true ↔ 1 ≤ q.length ∧ q.length ≤ 8 ∧ (∀ x ∈ q, 0 ≤ x ∧ x ≤ (q.length : Int) - 1) ∧ q.Nodup := by
  unfold goodB permB
  simp only [Bool.and_eq_true, decide_eq_true_eq]
  constructor
  · rintro ⟨⟨a, b⟩, _, c, d⟩; exact ⟨a, b, c, d⟩
  · rintro ⟨a, b, c, d⟩; exact ⟨⟨a, b⟩, trivial, c, d⟩
theorem isMany_eq (n : Int) : impl_isMany.f n = some (inB n 1 8) := by
  simp only [impl_isMany.f, within_eq, Option.bind_some]
theorem isList_ev (q : List Int) (hb : q.length ≤ 1152921504606846976) : Ev (fun k => impl_isList.f k q) (goodB q) := by
  obtain ⟨K, hK⟩ := ev_get (isPerm_ev q q.length hb)
  refine ⟨K, fun k hk => ?_⟩
  simp only [impl_isList.f, isMany_eq, Option.bind_some, hK k hk]
  unfold goodB inB
  by_cases h : 1 ≤ (q.length : Int) ∧ (q.length : Int) ≤ 8
  · rw [if_pos (by simpa using h)]
    rw [show decide (1 ≤ q.length ∧ q.length ≤ 8) = true by simp; omega, Bool.true_and]
  · rw [if_neg (by simpa using h)]
    rw [show decide (1 ≤ q.length ∧ q.length ≤ 8) = false by apply decide_eq_false; omega, Bool.false_and]
open Classical in
theorem quGood_l0 (l : List Int) (hb : l.length ≤ 1152921504606846976) : ∀ (d i : Nat), l.length - i = d → i ≤ l.length →
    Ev (fun k => spec_quGood.l0 k l l (l.length : Int) (i : Int)) (decide (restOnce l i)) := by
  intro d
  induction d with
  | zero =>
    intro i hd hi'
    refine ⟨1, fun k hk => ?_⟩
    obtain ⟨k, rfl⟩ : ∃ m, k = m + 1 := ⟨k - 1, by omega⟩
    simp only [spec_quGood.l0]
    rw [if_neg (by omega)]
    congr 1
    symm
    apply decide_eq_true
    exact fun j hj h => by omega
  | succ d ih =>
    intro i hd hi'
    have h1 : i < l.length := by omega
    obtain ⟨K1, h3⟩ := ev_get (ih (i + 1) (by omega) (by omega))
    obtain ⟨K2, h4⟩ := ev_get (l1Has_ev (l.take i) l[i] (by simp; omega))
    refine ⟨K1 + K2 + 1, fun k hk => ?_⟩
    obtain ⟨k, rfl⟩ : ∃ m, k = m + 1 := ⟨k - 1, by omega⟩
    simp only [spec_quGood.l0]
    rw [if_pos (by omega), if_pos (by omega), if_pos (by omega), w64 _ (by omega) (by omega), rd_nat _ _ h1, if_pos (show (i : Int) ≤ (l.length : Int) by omega), show (i : Int).toNat = i by omega, show ((i : Int) + 1) = ((i + 1 : Nat) : Int) by omega]
    simp only [Option.bind_some, h4 k (by omega), h3 k (by omega)]
    have hs := restOnce_step l i h1
    by_cases h2 : l[i] ∈ l.take i
    · simp only [h2, decide_true, if_true]
      congr 1
      symm; apply decide_eq_false
      exact fun hr => (hs.1 hr).1 h2
    · simp only [h2, decide_false, if_false, Bool.false_eq_true]
      congr 1
      rw [decide_eq_decide]
      exact ⟨fun hr => hs.2 ⟨h2, hr⟩, fun hr => (hs.1 hr).2⟩
theorem quGood_ev (q : List Int) (hb : q.length ≤ 1152921504606846976) : Ev (fun k => spec_quGood.f k q) (goodB q) := by
  obtain ⟨K1, h1⟩ := ev_get (l1All_ev q 0 ((q.length : Int) - 1) hb)
  obtain ⟨K2, h2⟩ := ev_get (quGood_l0 q hb q.length 0 (by omega) (by omega))
  refine ⟨K1 + K2 + 1, fun k hk => ?_⟩
  simp only [spec_quGood.f, l1In_eq, Option.bind_some]
  rw [w64 _ (by omega) (by omega), h1 k (by omega), Option.bind_some]
  obtain ⟨k, rfl⟩ : ∃ m, k = m + 1 := ⟨k - 1, by omega⟩
  simp only [spec_quGood.j0]
  unfold goodB permB
  by_cases h : 1 ≤ q.length ∧ q.length ≤ 8
  · rw [if_pos (by unfold inB; simp; omega), show decide (1 ≤ q.length ∧ q.length ≤ 8) = true by simpa using h, Bool.true_and]
    by_cases ha : allIn q 0 ((q.length : Int) - 1) = true
    · rw [ha, if_neg (by simp)]
      refine (h2 k (by omega)).trans ?_
      congr 1
      rw [decide_eq_decide, restOnce_iff]
      refine ⟨fun hn => ⟨rfl, ?_, hn⟩, fun hn => hn.2.2⟩
      unfold allIn at ha
      rw [List.all_eq_true] at ha
      intro x hx
      simpa [inB] using ha x hx
    · simp only [Bool.not_eq_true] at ha
      rw [ha, if_pos (by rfl)]
      congr 1
      symm; apply decide_eq_false
      rintro ⟨_, hx, _⟩
      unfold allIn at ha
      rw [List.all_eq_false] at ha
      obtain ⟨x, hm, hn⟩ := ha
      exact hn (by simpa [inB] using hx x hm)
  · rw [if_neg (by unfold inB; simp; omega), if_pos trivial, show decide (1 ≤ q.length ∧ q.length ≤ 8) = false by simpa using h, Bool.false_and]
theorem good_len {q : List Int} (h : goodB q = true) : 1 ≤ q.length ∧ q.length ≤ 8 := ⟨((goodB_iff q).1 h).1, ((goodB_iff q).1 h).2.1⟩
theorem good_at {q : List Int} (h : goodB q = true) (i : Nat) (hi : i < q.length) : 0 ≤ q[i] ∧ q[i] < q.length := by
  have := ((goodB_iff q).1 h).2.2.1 q[i] (List.getElem_mem hi)
  omega
def mirrorL (q : List Int) : List Int := q.map fun x => (q.length : Int) - 1 - x
theorem mirrorL_length (q : List Int) : (mirrorL q).length = q.length := by simp [mirrorL]
theorem quMirror_l0 (q : List Int) (hg : goodB q = true) : ∀ (d i : Nat) (acc : List Int) (k : Nat), q.length - i = d → i ≤ q.length → d < k → acc.length = i →
    spec_quMirror.l0 k q acc q (q.length : Int) (i : Int) = some (acc ++ (mirrorL q).drop i) := by
  have hl := good_len hg
  intro d
  induction d with
  | zero =>
    intro i acc k hd hi hk ha
    obtain ⟨k, rfl⟩ : ∃ m, k = m + 1 := ⟨k - 1, by omega⟩
    rw [spec_quMirror.l0, if_neg (by omega), List.drop_eq_nil_of_le (by rw [mirrorL_length]; omega), List.append_nil]
  | succ d ih =>
    intro i acc k hd hi hk ha
    obtain ⟨k, rfl⟩ : ∃ m, k = m + 1 := ⟨k - 1, by omega⟩
    have h1 : i < q.length := by omega
    have hx := good_at hg i h1
    rw [spec_quMirror.l0, if_pos (by omega), if_pos (by omega), if_pos (by omega), if_pos (by omega), rd_nat _ _ h1, w64 ((i : Int) + 1) (by omega) (by omega), w64 ((q.length : Int) - 1) (by omega) (by omega), w64 _ (by omega) (by omega)]
    rw [show ((i : Int) + 1) = ((i + 1 : Nat) : Int) by omega, ih (i + 1) _ k (by omega) (by omega) (by omega) (by simp [ha])]
    rw [drop_cons (mirrorL q) i (by rw [mirrorL_length]; omega), List.append_assoc]
    congr 2
    simp only [List.singleton_append, List.cons.injEq, and_true]
    simp [mirrorL]
theorem quMirror_ev (q : List Int) (hg : goodB q = true) : Ev (fun k => spec_quMirror.f k q) (mirrorL q) := by
  refine ⟨q.length + 1, fun k hk => ?_⟩
  simp only [spec_quMirror.f]
  have := quMirror_l0 q hg q.length 0 [] k (by omega) (by omega) (by omega) rfl
  simpa using this
theorem mirror_l0 (q : List Int) (hg : goodB q = true) : ∀ (d i : Nat) (acc : List Int) (k : Nat), q.length - i = d → i ≤ q.length → d < k → acc.length = i →
    impl_mirror.l0 k q acc q (q.length : Int) (i : Int) = some (acc ++ (mirrorL q).drop i) := by
  have hl := good_len hg
  intro d
  induction d with
  | zero =>
    intro i acc k hd hi hk ha
    obtain ⟨k, rfl⟩ : ∃ m, k = m + 1 := ⟨k - 1, by omega⟩
    rw [impl_mirror.l0, if_neg (by omega), List.drop_eq_nil_of_le (by rw [mirrorL_length]; omega), List.append_nil]
  | succ d ih =>
    intro i acc k hd hi hk ha
    obtain ⟨k, rfl⟩ : ∃ m, k = m + 1 := ⟨k - 1, by omega⟩
    have h1 : i < q.length := by omega
    have hx := good_at hg i h1
    rw [impl_mirror.l0, if_pos (by omega), if_pos (by omega), if_pos (by omega), if_pos (by omega), rd_nat _ _ h1, w64 ((i : Int) + 1) (by omega) (by omega), w64 ((q.length : Int) - 1) (by omega) (by omega), w64 _ (by omega) (by omega)]
    rw [show ((i : Int) + 1) = ((i + 1 : Nat) : Int) by omega, ih (i + 1) _ k (by omega) (by omega) (by omega) (by simp [ha])]
    rw [drop_cons (mirrorL q) i (by rw [mirrorL_length]; omega), List.append_assoc]
    congr 2
    simp only [List.singleton_append, List.cons.injEq, and_true]
    simp [mirrorL]
theorem mirror_ev (q : List Int) (hg : goodB q = true) : Ev (fun k => impl_mirror.f k q) (mirrorL q) := by
  refine ⟨q.length + 1, fun k hk => ?_⟩
  simp only [impl_mirror.f]
  have := mirror_l0 q hg q.length 0 [] k (by omega) (by omega) (by omega) rfl
  simpa using this
end Go.Proofs.Ytnpacpdpgngdpaa.P
namespace Go.Proofs.Ytnpacpdpgngdpaa.P
open Go.RowKit Go.Proofs.YtnpacpdpgngdpaaW.PrintWords Go.Proofs.YtnpacpdpgngdpaaW.PrintLast Go.Proofs.YtnpacpdpgngdpaaW.PrintMore
set_option linter.unusedVariables false
set_option linter.unusedSimpArgs false
theorem quSide_eq (n : Int) : spec_quSide.f n = some (inB n 1 8) := by
  simp only [spec_quSide.f, l1In_eq, Option.bind_some]
/-- Rows r and s attack each other. -/
def att (q : List Int) (r s : Nat) : Bool := decide ((q.getD r 0 - q.getD s 0).natAbs = ((s : Int) - (r : Int)).natAbs)
def rowP (q : List Int) (r s : Nat) : List (List Int) := ((List.range' s (q.length - s)).filter fun s => att q r s).map fun (s : Nat) => [(r : Int), (s : Int)]
def allP (q : List Int) (r : Nat) : List (List Int) := (List.range' r (q.length - r)).flatMap fun r => rowP q r (r + 1)
theorem range'_step (s n : Nat) (h : s < n) : List.range' s (n - s) = s :: List.range' (s + 1) (n - (s + 1)) := by
  rw [show n - s = (n - (s + 1)) + 1 by omega, List.range'_succ]
theorem rowP_step (q : List Int) (r s : Nat) (h : s < q.length) : rowP q r s = (if att q r s = true then [[(r : Int), (s : Int)]] else []) ++ rowP q r (s + 1) := by
  unfold rowP
  rw [range'_step s q.length h, List.filter_cons]
  split <;> simp
theorem rowP_nil (q : List Int) (r s : Nat) (h : q.length ≤ s) : rowP q r s = [] := by
  unfold rowP
  rw [show q.length - s = 0 by omega]; rfl
theorem allP_step (q : List Int) (r : Nat) (h : r < q.length) : allP q r = rowP q r (r + 1) ++ allP q (r + 1) := by
  unfold allP
  rw [range'_step r q.length h, List.flatMap_cons]
theorem allP_nil (q : List Int) (r : Nat) (h : q.length ≤ r) : allP q r = [] := by
  unfold allP
  rw [show q.length - r = 0 by omega]; rfl
theorem l1Abs_eq (n : Int) (h : -1000 ≤ n) (h2 : n ≤ 1000) : spec_l1Abs.f n = some (n.natAbs : Int) := by
  unfold spec_l1Abs.f spec_l1Most.f
  rw [w64 _ (by omega) (by omega)]
  split
  · simp only [Option.bind_some]; congr 1; omega
  · simp only [Option.bind_some]; congr 1; omega
/-- At most 8 numbers, each in 0..7. -/
def Small (q : List Int) : Prop := q.length ≤ 8 ∧ ∀ i, ∀ h : i < q.length, 0 ≤ q[i] ∧ q[i] < 8
theorem good_small {q : List Int} (hg : goodB q = true) : Small q := ⟨(good_len hg).2, fun i h => by have := good_at hg i h; have := good_len hg; omega⟩
theorem attacked_eq (q : List Int) (hg : Small q) (r s : Nat) (hr : r < q.length) (hs : s < q.length) : impl_attacked.f (r : Int) q[r] (s : Int) q[s] = some (att q r s) := by
  have hl := hg.1
  have h1 := hg.2 r hr
  have h2 := hg.2 s hs
  unfold impl_attacked.f att mx
  rw [w64 _ (by omega) (by omega), w64 _ (by omega) (by omega), w64 _ (by omega) (by omega), w64 _ (by omega) (by omega)]
  congr 1
  simp only [List.getD_eq_getElem?_getD, List.getElem?_eq_getElem hr, List.getElem?_eq_getElem hs, Option.getD_some]
  rw [Bool.eq_iff_iff, beq_iff_eq, decide_eq_true_iff]
  split <;> split <;> omega
theorem allP_mem (q : List Int) (p : List Int) : p ∈ allP q 0 ↔ ∃ r s : Nat, r < s ∧ s < q.length ∧ att q r s = true ∧ p = [(r : Int), (s : Int)] := by
  unfold allP rowP
  simp only [List.mem_flatMap, List.mem_map, List.mem_filter, List.mem_range'_1]
  constructor
  · rintro ⟨r, ⟨_, hr⟩, s, ⟨⟨hs1, hs2⟩, ha⟩, rfl⟩
    exact ⟨r, s, by omega, by omega, ha, rfl⟩
  · rintro ⟨r, s, h1, h2, ha, rfl⟩
    exact ⟨r, ⟨by omega, by omega⟩, s, ⟨⟨by omega, by omega⟩, ha⟩, rfl⟩
/-- No two rows attack each other. -/
def freeB (q : List Int) : Bool := decide (∀ s, s < q.length → ∀ r, r < s → att q r s = false)
theorem freeB_allP (q : List Int) : (((allP q 0).length : Int) == 0) = freeB q := by
  rw [Bool.eq_iff_iff, beq_iff_eq]
  unfold freeB
  rw [decide_eq_true_iff]
  constructor
  · intro h s hs r hr
    have h0 : allP q 0 = [] := List.eq_nil_of_length_eq_zero (by omega)
    cases ha : att q r s with
    | false => rfl
    | true =>
      have : [(r : Int), (s : Int)] ∈ allP q 0 := (allP_mem q _).2 ⟨r, s, hr, hs, ha, rfl⟩
      rw [h0] at this; cases this
  · intro h
    have h0 : allP q 0 = [] := by
      rw [List.eq_nil_iff_forall_not_mem]
      intro p hp
      obtain ⟨r, s, h1, h2, ha, _⟩ := (allP_mem q p).1 hp
      rw [h s h2 r h1] at ha; cases ha
    rw [h0]; rfl
def rowFree (q : List Int) (r s : Nat) : Prop := ∀ r', r ≤ r' → r' < s → att q r' s = false
def freeFrom (q : List Int) (s : Nat) : Prop := ∀ s', s ≤ s' → s' < q.length → rowFree q 0 s'
theorem rowFree_step (q : List Int) (r s : Nat) (h : r < s) : rowFree q r s ↔ att q r s = false ∧ rowFree q (r + 1) s := by
  constructor
  · intro H
    exact ⟨H r (by omega) h, fun r' h1 h2 => H r' (by omega) h2⟩
  · rintro ⟨h0, H⟩ r' h1 h2
    by_cases e : r' = r
    · subst e; exact h0
    · exact H r' (by omega) h2
theorem freeFrom_step (q : List Int) (s : Nat) (h : s < q.length) : freeFrom q s ↔ rowFree q 0 s ∧ freeFrom q (s + 1) := by
  constructor
  · intro H
    exact ⟨H s (by omega) h, fun s' h1 h2 => H s' (by omega) h2⟩
  · rintro ⟨h0, H⟩ s' h1 h2
    by_cases e : s' = s
    · subst e; exact h0
    · exact H s' (by omega) h2
theorem freeB_eq (q : List Int) : freeB q = true ↔ freeFrom q 0 := by
  unfold freeB
  rw [decide_eq_true_iff]
  exact ⟨fun h s _ hs r _ hr => h s hs r hr, fun h s hs r hr => h s (by omega) hs r (by omega) hr⟩
open Classical in
theorem areQueens_inner (q : List Int) (hg : Small q) (s : Nat) (hs : s < q.length)
    (hout : Ev (fun k => impl_areQueens.l0 k q q (q.length : Int) ((s + 1 : Nat) : Int)) (decide (freeFrom q (s + 1)))) :
    ∀ (d r : Nat), s - r = d → r ≤ s →
    Ev (fun k => impl_areQueens.l1 k q (s : Int) q[s] q (q.length : Int) (s : Int) (q.take s) ((q.take s).length : Int) (r : Int)) (decide (rowFree q r s ∧ freeFrom q (s + 1))) := by
  have hl := hg.1
  have ht : (q.take s).length = s := by rw [List.length_take]; omega
  intro d
  induction d with
  | zero =>
    intro r hd hr
    obtain ⟨K, hK⟩ := ev_get hout
    refine ⟨K + 1, fun k hk => ?_⟩
    obtain ⟨k, rfl⟩ : ∃ m, k = m + 1 := ⟨k - 1, by omega⟩
    simp only [impl_areQueens.l1]
    rw [ht, if_neg (by omega), w64 _ (by omega) (by omega), show ((s : Int) + 1) = ((s + 1 : Nat) : Int) by omega, hK k (by omega)]
    congr 1
    rw [decide_eq_decide]
    exact ⟨fun h => ⟨fun r' h1 h2 => by omega, h⟩, fun h => h.2⟩
  | succ d ih =>
    intro r hd hr
    have hr1 : r < s := by omega
    obtain ⟨K, hK⟩ := ev_get (ih (r + 1) (by omega) (by omega))
    refine ⟨K + 1, fun k hk => ?_⟩
    obtain ⟨k, rfl⟩ : ∃ m, k = m + 1 := ⟨k - 1, by omega⟩
    have hK := hK k (by omega)
    simp only [impl_areQueens.l1]
    rw [ht] at hK ⊢
    rw [if_pos (by omega), if_pos (by omega), if_pos (by omega), rd_nat _ _ (show r < (q.take s).length by omega), List.getElem_take, attacked_eq q hg r s (by omega) hs, Option.bind_some, w64 _ (by omega) (by omega), show ((r : Int) + 1) = ((r + 1 : Nat) : Int) by omega, hK]
    have hst := rowFree_step q r s hr1
    by_cases ha : att q r s = true
    · rw [if_pos ha]
      congr 1
      symm; apply decide_eq_false
      rintro ⟨h1, _⟩
      rw [(hst.1 h1).1] at ha; cases ha
    · rw [if_neg ha]
      congr 1
      rw [decide_eq_decide]
      exact ⟨fun h => ⟨hst.2 ⟨by simpa using ha, h.1⟩, h.2⟩, fun h => ⟨(hst.1 h.1).2, h.2⟩⟩
open Classical in
theorem areQueens_outer (q : List Int) (hg : Small q) : ∀ (d s : Nat), q.length - s = d → s ≤ q.length →
    Ev (fun k => impl_areQueens.l0 k q q (q.length : Int) (s : Int)) (decide (freeFrom q s)) := by
  have hl := hg.1
  intro d
  induction d with
  | zero =>
    intro s hd hs
    refine ⟨1, fun k hk => ?_⟩
    obtain ⟨k, rfl⟩ : ∃ m, k = m + 1 := ⟨k - 1, by omega⟩
    simp only [impl_areQueens.l0]
    rw [if_neg (by omega)]
    congr 1
    symm; apply decide_eq_true
    intro s' h1 h2; omega
  | succ d ih =>
    intro s hd hs
    have hs1 : s < q.length := by omega
    obtain ⟨K, hK⟩ := ev_get (areQueens_inner q hg s hs1 (ih (s + 1) (by omega) (by omega)) s 0 (by omega) (by omega))
    refine ⟨K + 1, fun k hk => ?_⟩
    obtain ⟨k, rfl⟩ : ∃ m, k = m + 1 := ⟨k - 1, by omega⟩
    simp only [impl_areQueens.l0]
    rw [if_pos (by omega), if_pos (by omega), if_pos (by omega), if_pos (by omega), Option.bind_some, rd_nat _ _ hs1, show (s : Int).toNat = s by omega]
    refine (hK k (by omega)).trans ?_
    congr 1
    rw [decide_eq_decide]
    exact (freeFrom_step q s hs1).symm
theorem areQueens_ev (q : List Int) (hg : Small q) : Ev (fun k => impl_areQueens.f k q) (freeB q) := by
  classical
  obtain ⟨K, hK⟩ := ev_get (areQueens_outer q hg q.length 0 (by omega) (by omega))
  refine ⟨K, fun k hk => ?_⟩
  simp only [impl_areQueens.f]
  refine (hK k hk).trans ?_
  congr 1
  rw [Bool.eq_iff_iff, decide_eq_true_iff, freeB_eq]
end Go.Proofs.Ytnpacpdpgngdpaa.P
namespace Go.Proofs.Ytnpacpdpgngdpaa.P
open Go.RowKit Go.Proofs.YtnpacpdpgngdpaaW.PrintWords Go.Proofs.YtnpacpdpgngdpaaW.PrintLast Go.Proofs.YtnpacpdpgngdpaaW.PrintMore
set_option linter.unusedVariables false
set_option linter.unusedSimpArgs false
theorem getD_eq (q : List Int) (i : Nat) (h : i < q.length) : q.getD i 0 = q[i] := by simp [List.getD_eq_getElem?_getD, List.getElem?_eq_getElem h]
end Go.Proofs.Ytnpacpdpgngdpaa.P
namespace Go.Proofs.Ytnpacpdpgngdpaa.P
open Go.RowKit Go.Proofs.YtnpacpdpgngdpaaW.PrintWords Go.Proofs.YtnpacpdpgngdpaaW.PrintLast Go.Proofs.YtnpacpdpgngdpaaW.PrintMore
set_option linter.unusedVariables false
set_option linter.unusedSimpArgs false
/-- All lists of N numbers that go on a list, d numbers being missing, in order. -/
def P (N : Nat) : Nat → List Int → List (List Int)
  | 0, q => [q]
  | d + 1, q => (List.range' 0 (N - 0)).flatMap fun (c : Nat) => if (c : Int) ∈ q then [] else P N d (q ++ [(c : Int)])
def PF (N d : Nat) (q : List Int) (i : Nat) : List (List Int) := (List.range' i (N - i)).flatMap fun (c : Nat) => if (c : Int) ∈ q then [] else P N d (q ++ [(c : Int)])
theorem P_succ (N d : Nat) (q : List Int) : P N (d + 1) q = PF N d q 0 := rfl
theorem PF_step (N d : Nat) (q : List Int) (i : Nat) (h : i < N) : PF N d q i = (if (i : Int) ∈ q then [] else P N d (q ++ [(i : Int)])) ++ PF N d q (i + 1) := by
  unfold PF
  rw [range'_step i N h, List.flatMap_cons]
theorem PF_nil (N d : Nat) (q : List Int) (i : Nat) (h : N ≤ i) : PF N d q i = [] := by
  unfold PF
  rw [show N - i = 0 by omega]; rfl
def OkQ (N : Nat) (q : List Int) : Prop := q.length ≤ N ∧ ∀ x ∈ q, 0 ≤ x ∧ x < (N : Int)
theorem okq_nil (N : Nat) : OkQ N [] := ⟨by simp, by simp⟩
theorem okq_snoc {N : Nat} {q : List Int} (h : OkQ N q) (hl : q.length < N) {i : Nat} (hi : i < N) : OkQ N (q ++ [(i : Int)]) := by
  refine ⟨by simp; omega, fun x hx => ?_⟩
  rcases List.mem_append.1 hx with hx | hx
  · exact h.2 x hx
  · rw [List.mem_singleton.1 hx]; omega
theorem okq_small {N : Nat} (hN : N ≤ 8) {q : List Int} (h : OkQ N q) : Small q :=
  ⟨by have := h.1; omega, fun i hi => by have := h.2 q[i] (List.getElem_mem hi); omega⟩
theorem P_mem (N : Nat) : ∀ (d : Nat) (q : List Int), OkQ N q → q.length + d = N → ∀ x ∈ P N d q, OkQ N x ∧ x.length = N ∧ ∃ t, x = q ++ t
  | 0, q, h, hl, x, hx => by
    rw [P, List.mem_singleton] at hx
    subst hx
    exact ⟨h, hl, [], by simp⟩
  | d + 1, q, h, hl, x, hx => by
    rw [P, List.mem_flatMap] at hx
    obtain ⟨c, hc, hx⟩ := hx
    rw [List.mem_range'_1] at hc
    split at hx
    · cases hx
    · obtain ⟨h1, h2, t, h3⟩ := P_mem N d _ (okq_snoc h (by omega) (i := c) (by omega)) (by simp; omega) x hx
      exact ⟨h1, h2, (c : Int) :: t, by rw [h3]; simp⟩
theorem PF_len (N d : Nat) (q : List Int) (b : Nat) (hb : ∀ c, c < N → (P N d (q ++ [(c : Int)])).length ≤ b) : ∀ (e i : Nat), N - i = e → (PF N d q i).length ≤ e * b
  | 0, i, he => by rw [PF_nil N d q i (by omega)]; simp
  | e + 1, i, he => by
    rw [PF_step N d q i (by omega), List.length_append, Nat.succ_mul]
    have h1 := PF_len N d q b hb e (i + 1) (by omega)
    have h2 := hb i (by omega)
    split <;> simp <;> omega
theorem P_len (N : Nat) : ∀ (d : Nat) (q : List Int), (P N d q).length ≤ N ^ d
  | 0, q => by simp [P]
  | d + 1, q => by
    rw [P_succ]
    have := PF_len N d q (N ^ d) (fun c _ => P_len N d _) N 0 (by omega)
    rw [Nat.pow_succ, Nat.mul_comm]; exact this
theorem pow_bound {N d : Nat} (hN : N ≤ 8) (hd : d ≤ N) : N ^ d ≤ 16777216 :=
  Nat.le_trans (Nat.pow_le_pow_left hN d) (Nat.le_trans (Nat.pow_le_pow_right (by decide) (show d ≤ 8 by omega)) (by decide))
def Her (G : List Int → Bool) : Prop := ∀ q c, G (q ++ [c]) = true → G q = true
theorem her_pre {G : List Int → Bool} (h : Her G) : ∀ (t q : List Int), G (q ++ t) = true → G q = true
  | [], q, hq => by simpa using hq
  | c :: t, q, hq => h q c (her_pre h t (q ++ [c]) (by simpa using hq))
theorem P_none {N d : Nat} {q : List Int} {G : List Int → Bool} (h : Her G) (ho : OkQ N q) (hl : q.length + d = N) (hq : G q = false) : (P N d q).filter G = [] := by
  rw [List.filter_eq_nil_iff]
  intro x hx hg
  obtain ⟨_, _, t, rfl⟩ := P_mem N d q ho hl x hx
  rw [her_pre h t q hg] at hq
  cases hq
theorem own7 (l : List Int) (h : l.length < 17592186044416) : spec_l1Own.f l = some l := by
  unfold spec_l1Own.f; simp [h]
theorem clone7 (l : List Int) (h : l.length < 17592186044416) : slices_Clone_int_int.f l = some l := if_pos h
theorem grown_ev (N : Nat) (hN : N ≤ 8) (good : List Int → Option Bool) (G : List Int → Bool) (hgood : ∀ q, OkQ N q → good q = some (G q)) (hher : Her G) :
    ∀ (d : Nat) (q : List Int) (out : List (List Int)), OkQ N q → q.length + d = N → out.length + (P N d q).length ≤ 16777216 →
    Ev (fun k => impl_grown_1.f k good (N : Int) q out) (out ++ (P N d q).filter G) := by
  intro d
  induction d with
  | zero =>
    intro q out ho hl hb
    refine ⟨1, fun k hk => ?_⟩
    obtain ⟨k, rfl⟩ : ∃ m, k = m + 1 := ⟨k - 1, by omega⟩
    have hq8 := ho.1
    simp only [impl_grown_1.f, hgood q ho, Option.bind_some, P, List.length_singleton] at hb ⊢
    cases hG : G q with
    | false => simp [hG]
    | true => rw [if_pos rfl, if_pos (by omega), clone7 q (by omega), Option.bind_some, if_pos (by omega)]; simp [hG]
  | succ d ih =>
    intro q out ho hl hb
    have hq8 := ho.1
    have hloop : ∀ (e i : Nat) (out : List (List Int)), N - i = e → i ≤ N → out.length + (PF N d q i).length ≤ 16777216 →
        Ev (fun k => impl_grown_1.l0 k good (N : Int) q out (i : Int)) (out ++ (PF N d q i).filter G) := by
      intro e
      induction e with
      | zero =>
        intro i out he hi hb
        refine ⟨1, fun k hk => ?_⟩
        obtain ⟨k, rfl⟩ : ∃ m, k = m + 1 := ⟨k - 1, by omega⟩
        dsimp only
        rw [impl_grown_1.l0, if_neg (by omega), PF_nil N d q i (by omega)]; simp
      | succ e ihe =>
        intro i out he hi hb
        rw [PF_step N d q i (by omega)] at hb ⊢
        obtain ⟨K1, h1⟩ := ev_get (Contains_ev q (i : Int) (by omega))
        by_cases hc : (i : Int) ∈ q
        · simp only [if_pos hc, List.nil_append] at hb ⊢
          obtain ⟨K2, h2⟩ := ev_get (ihe (i + 1) out (by omega) (by omega) hb)
          refine ⟨K1 + K2 + 1, fun k hk => ?_⟩
          obtain ⟨k, rfl⟩ : ∃ m, k = m + 1 := ⟨k - 1, by omega⟩
          dsimp only
          rw [impl_grown_1.l0, if_pos (by omega), h1 k (by omega), Option.bind_some, decide_eq_true hc, if_pos rfl, w64 _ (by omega) (by omega), show ((i : Int) + 1) = ((i + 1 : Nat) : Int) by omega]
          exact h2 k (by omega)
        · simp only [if_neg hc, List.length_append] at hb ⊢
          have hf := List.length_filter_le G (P N d (q ++ [(i : Int)]))
          obtain ⟨K2, h2⟩ := ev_get (ih (q ++ [(i : Int)]) out (okq_snoc ho (by omega) (by omega)) (by simp; omega) (by omega))
          obtain ⟨K3, h3⟩ := ev_get (ihe (i + 1) (out ++ (P N d (q ++ [(i : Int)])).filter G) (by omega) (by omega) (by rw [List.length_append]; omega))
          refine ⟨K1 + K2 + K3 + 1, fun k hk => ?_⟩
          obtain ⟨k, rfl⟩ : ∃ m, k = m + 1 := ⟨k - 1, by omega⟩
          dsimp only
          rw [impl_grown_1.l0, if_pos (by omega), h1 k (by omega), Option.bind_some, decide_eq_false hc, if_neg (by simp), if_pos (by omega), h2 k (by omega), Option.bind_some, w64 _ (by omega) (by omega), show ((i : Int) + 1) = ((i + 1 : Nat) : Int) by omega, h3 k (by omega), List.filter_append, List.append_assoc]
    cases hG : G q with
    | false =>
      refine ⟨1, fun k hk => ?_⟩
      obtain ⟨k, rfl⟩ : ∃ m, k = m + 1 := ⟨k - 1, by omega⟩
      dsimp only
      rw [impl_grown_1.f, hgood q ho, Option.bind_some, hG, if_neg (by simp), P_none hher ho hl hG, List.append_nil]
    | true =>
      rw [P_succ] at hb ⊢
      obtain ⟨K, hK⟩ := ev_get (hloop N 0 out (by omega) (by omega) hb)
      refine ⟨K + 1, fun k hk => ?_⟩
      obtain ⟨k, rfl⟩ : ∃ m, k = m + 1 := ⟨k - 1, by omega⟩
      dsimp only
      rw [impl_grown_1.f, hgood q ho, Option.bind_some, hG, if_pos rfl, if_neg (by omega)]
      exact hK k (by omega)
/-- No number of the list attacks a new one in the next row. -/
def fr (q : List Int) (i : Int) (r : Nat) : Prop := ∀ r', r ≤ r' → ∀ h : r' < q.length, (i - q[r']).natAbs ≠ q.length - r'
theorem fr_step (q : List Int) (i : Int) (r : Nat) (h : r < q.length) : fr q i r ↔ (i - q[r]).natAbs ≠ q.length - r ∧ fr q i (r + 1) := by
  constructor
  · intro h1
    exact ⟨h1 r (Nat.le_refl _) h, fun r' h2 h3 => h1 r' (by omega) h3⟩
  · rintro ⟨h1, h2⟩ r' h3 h4
    rcases Nat.eq_or_lt_of_le h3 with h5 | h5
    · subst h5; exact h1
    · exact h2 r' h5 h4
theorem att_snoc (q : List Int) (c : Int) (r s : Nat) (hr : r < s) (hs : s < q.length) : att (q ++ [c]) r s = att q r s := by
  unfold att
  simp only [List.getD_eq_getElem?_getD, List.getElem?_append_left hs, List.getElem?_append_left (show r < q.length by omega)]
theorem att_last (q : List Int) (c : Int) (r : Nat) (hr : r < q.length) : att (q ++ [c]) r q.length = decide ((c - q[r]).natAbs = q.length - r) := by
  unfold att
  rw [decide_eq_decide]
  simp only [List.getD_eq_getElem?_getD, List.getElem?_append_left hr, List.getElem?_append_right (Nat.le_refl _), Nat.sub_self, List.getElem?_eq_getElem hr]
  simp
  omega
theorem freeB_snoc (q : List Int) (c : Int) : freeB (q ++ [c]) = true ↔ freeB q = true ∧ fr q c 0 := by
  unfold freeB
  simp only [decide_eq_true_iff, List.length_append, List.length_singleton]
  constructor
  · intro h
    refine ⟨fun s hs r hr => by rw [← att_snoc q c r s hr hs]; exact h s (by omega) r hr, fun r _ hr => ?_⟩
    have := h q.length (by omega) r hr
    rw [att_last q c r hr] at this
    simpa using this
  · rintro ⟨h1, h2⟩ s hs r hr
    by_cases hsl : s < q.length
    · rw [att_snoc q c r s hr hsl]; exact h1 s hsl r hr
    · obtain rfl : s = q.length := by omega
      rw [att_last q c r hr]
      simpa using h2 r (by omega) hr
theorem freeB_her : Her freeB := fun q c h => ((freeB_snoc q c).1 h).1
open Classical in
theorem quAll_ev (N : Nat) (hN : N ≤ 8) : ∀ (d : Nat) (q : List Int), OkQ N q → q.length + d = N → freeB q = true →
    Ev (fun k => spec_quAll.f k (N : Int) q) ((P N d q).filter freeB) := by
  intro d
  induction d with
  | zero =>
    intro q ho hl hf
    have hq8 := ho.1
    refine ⟨1, fun k hk => ?_⟩
    obtain ⟨k, rfl⟩ : ∃ m, k = m + 1 := ⟨k - 1, by omega⟩
    dsimp only
    rw [spec_quAll.f, if_pos (by omega), own7 q (by omega), Option.bind_some, P]
    simp [hf]
  | succ d ih =>
    intro q ho hl hf
    have hq8 := ho.1
    have hsm := okq_small hN ho
    have hloop : ∀ (e i : Nat) (acc : List (List Int)), N - i = e → i ≤ N → acc.length + (PF N d q i).length ≤ 16777216 →
        Ev (fun k => spec_quAll.l0 k (N : Int) q acc (i : Int)) (acc ++ (PF N d q i).filter freeB) := by
      intro e
      induction e with
      | zero =>
        intro i acc he hi hb
        refine ⟨1, fun k hk => ?_⟩
        obtain ⟨k, rfl⟩ : ∃ m, k = m + 1 := ⟨k - 1, by omega⟩
        dsimp only
        rw [spec_quAll.l0, if_neg (by omega), PF_nil N d q i (by omega)]; simp
      | succ e ihe =>
        intro i acc he hi hb
        have hi8 : i < N := by omega
        rw [PF_step N d q i hi8] at hb ⊢
        have hok := okq_snoc ho (by omega) hi8
        -- the rounds that ask the rows one by one
        have hin : ∀ (g r : Nat) (free : Bool), q.length - r = g → r ≤ q.length → (free = true → ((i : Int) ∉ q)) →
            Ev (fun k => spec_quAll.l1 k (N : Int) q acc (i : Int) free q (q.length : Int) (r : Int))
              ((if free = true ∧ fr q i r then acc ++ (P N d (q ++ [(i : Int)])).filter freeB else acc) ++ (PF N d q (i + 1)).filter freeB) ∨ (free = true ∧ fr q i r ∧ ¬ fr q i 0) := by
          intro g
          induction g with
          | zero =>
            intro r free hg hr hfree
            have hfr : fr q i r := fun r' h1 h2 => by omega
            by_cases hff : free = true
            · by_cases h0 : fr q i 0
              · left
                have hnew : freeB (q ++ [(i : Int)]) = true := (freeB_snoc q i).2 ⟨hf, h0⟩
                have hc := hfree hff
                simp only [if_neg hc, List.length_append] at hb
                have hlf := List.length_filter_le freeB (P N d (q ++ [(i : Int)]))
                obtain ⟨K1, h1⟩ := ev_get (ih (q ++ [(i : Int)]) hok (by simp; omega) hnew)
                obtain ⟨K2, h2⟩ := ev_get (ihe (i + 1) (acc ++ (P N d (q ++ [(i : Int)])).filter freeB) (by omega) (by omega) (by rw [List.length_append]; omega))
                refine ⟨K1 + K2 + 1, fun k hk => ?_⟩
                obtain ⟨k, rfl⟩ : ∃ m, k = m + 1 := ⟨k - 1, by omega⟩
                dsimp only
                rw [spec_quAll.l1, if_neg (by omega), if_pos hff, own7 q (by omega), Option.bind_some, if_pos (by omega), h1 k (by omega), Option.bind_some, if_pos (by omega), w64 _ (by omega) (by omega), show ((i : Int) + 1) = ((i + 1 : Nat) : Int) by omega, h2 k (by omega), if_pos ⟨hff, hfr⟩]
              · right; exact ⟨hff, hfr, h0⟩
            · left
              obtain ⟨K2, h2⟩ := ev_get (ihe (i + 1) acc (by omega) (by omega) (by simp only [List.length_append] at hb; omega))
              refine ⟨K2 + 1, fun k hk => ?_⟩
              obtain ⟨k, rfl⟩ : ∃ m, k = m + 1 := ⟨k - 1, by omega⟩
              dsimp only
              rw [spec_quAll.l1, if_neg (by omega), if_neg hff, w64 _ (by omega) (by omega), show ((i : Int) + 1) = ((i + 1 : Nat) : Int) by omega, h2 k (by omega), if_neg (fun h => hff h.1)]
          | succ g ihg =>
            intro r free hg hr hfree
            have hr1 : r < q.length := by omega
            have hx := hsm.2 r hr1
            have hst := fr_step q i r hr1
            by_cases hff : free = true
            · have habs : (((((i : Int) - q[r]).natAbs : Int)) != ((q.length : Int) - (r : Int))) = true ↔ ((i : Int) - q[r]).natAbs ≠ q.length - r := by
                rw [bne_iff_ne]; omega
              rcases ihg (r + 1) ((((((i : Int) - q[r]).natAbs : Int)) != ((q.length : Int) - (r : Int)))) (by omega) (by omega) (fun _ => hfree hff) with h | h
              · left
                obtain ⟨K, hK⟩ := ev_get h
                refine ⟨K + 1, fun k hk => ?_⟩
                obtain ⟨k, rfl⟩ : ∃ m, k = m + 1 := ⟨k - 1, by omega⟩
                dsimp only
                rw [spec_quAll.l1, if_pos (by omega), if_pos (by omega), if_pos (by omega), if_pos hff, rd_nat _ _ hr1, w64 ((i : Int) - q[r]) (by omega) (by omega), l1Abs_eq _ (by omega) (by omega), Option.bind_some, w64 ((q.length : Int) - r) (by omega) (by omega), w64 ((r : Int) + 1) (by omega) (by omega), show ((r : Int) + 1) = ((r + 1 : Nat) : Int) by omega, hK k (by omega)]
                have he : ((((((i : Int) - q[r]).natAbs : Int)) != ((q.length : Int) - (r : Int))) = true ∧ fr q i (r + 1)) ↔ (free = true ∧ fr q i r) := by
                  rw [habs, hst]; exact ⟨fun h => ⟨hff, h⟩, fun h => h.2⟩
                simp only [he]
              · right
                exact ⟨hff, hst.2 ⟨habs.1 h.1, h.2.1⟩, h.2.2⟩
            · left
              rcases ihg (r + 1) false (by omega) (by omega) (fun h => by cases h) with h | h
              · obtain ⟨K, hK⟩ := ev_get h
                refine ⟨K + 1, fun k hk => ?_⟩
                obtain ⟨k, rfl⟩ : ∃ m, k = m + 1 := ⟨k - 1, by omega⟩
                dsimp only
                rw [spec_quAll.l1, if_pos (by omega), if_pos (by omega), if_pos (by omega), if_neg hff, w64 ((r : Int) + 1) (by omega) (by omega), show ((r : Int) + 1) = ((r + 1 : Nat) : Int) by omega, hK k (by omega), if_neg (fun h => by cases h.1), if_neg (fun h => hff h.1)]
              · cases h.1
        obtain ⟨K1, h1⟩ := ev_get (l1Has_ev q (i : Int) (by omega))
        rcases hin q.length 0 (!decide ((i : Int) ∈ q)) (by omega) (by omega) (fun h => by simpa using h) with h | h
        · obtain ⟨K2, h2⟩ := ev_get h
          refine ⟨K1 + K2 + 1, fun k hk => ?_⟩
          obtain ⟨k, rfl⟩ : ∃ m, k = m + 1 := ⟨k - 1, by omega⟩
          dsimp only
          rw [spec_quAll.l0, if_pos (by omega), h1 k (by omega), Option.bind_some]
          refine (h2 k (by omega)).trans ?_
          congr 1
          rw [List.filter_append, ← List.append_assoc]
          congr 1
          by_cases hc : (i : Int) ∈ q
          · rw [if_neg (fun h => by simpa [hc] using h.1), if_pos hc]; simp
          · rw [if_neg hc]
            by_cases h0 : fr q i 0
            · rw [if_pos ⟨by simpa using hc, h0⟩]
            · rw [if_neg (fun h => h0 h.2)]
              have : freeB (q ++ [(i : Int)]) = false := by
                rw [Bool.eq_false_iff]
                intro h; exact h0 ((freeB_snoc q i).1 h).2
              rw [P_none freeB_her hok (by simp; omega) this, List.append_nil]
        · exact absurd h.2.1 h.2.2
    rw [P_succ]
    have hb := P_len N (d + 1) q
    have hp := pow_bound hN (show d + 1 ≤ N by omega)
    rw [P_succ] at hb
    obtain ⟨K, hK⟩ := ev_get (hloop N 0 [] (by omega) (by omega) (by simp; omega))
    refine ⟨K + 1, fun k hk => ?_⟩
    obtain ⟨k, rfl⟩ : ∃ m, k = m + 1 := ⟨k - 1, by omega⟩
    dsimp only
    rw [spec_quAll.f, if_neg (by omega)]
    simpa using hK k (by omega)
theorem areQueens_lim (q : List Int) (h : Small q) : impl_areQueens.fn q = some (freeB q) := by
  obtain ⟨K, hK⟩ := ev_get (areQueens_ev q h)
  exact Fn.lim_of (impl_areQueens.mono q) (hK K (Nat.le_refl _))
theorem grownAll_ev (N : Nat) (hN : N ≤ 8) (q : List Int) (ho : OkQ N q) (d : Nat) (hd : q.length + d = N) :
    Ev (fun k => impl_grown.f k (N : Int) q impl_areQueens.fn) ((P N d q).filter freeB) := by
  have hb := P_len N d q
  have hp := pow_bound hN (show d ≤ N by omega)
  obtain ⟨K, hK⟩ := ev_get (grown_ev N hN impl_areQueens.fn freeB (fun q h => areQueens_lim q (okq_small hN h)) freeB_her d q [] ho hd (by simp; omega))
  refine ⟨K, fun k hk => ?_⟩
  simp only [impl_grown.f, clone7 q (by have := ho.1; omega), Option.bind_some]
  simpa using hK k hk
/-- The lists of queens. -/
def allQ (N : Nat) : List (List Int) := (P N N []).filter freeB
theorem allQ_len (N : Nat) (hN : N ≤ 8) : (allQ N).length ≤ 16777216 :=
  Nat.le_trans (List.length_filter_le _ _) (Nat.le_trans (P_len N N []) (pow_bound hN (Nat.le_refl _)))
theorem allQ_row {N : Nat} {x : List Int} (h : x ∈ allQ N) : OkQ N x ∧ x.length = N := by
  obtain ⟨h1, h2, _⟩ := P_mem N N [] (okq_nil N) (by simp) x (List.mem_filter.1 h).1
  exact ⟨h1, h2⟩
theorem freeB_nil : freeB [] = true := by unfold freeB; simp
theorem quAllQ_ev (N : Nat) (hN : N ≤ 8) : Ev (fun k => spec_quAll.f k (N : Int) ([] : List Int)) (allQ N) := quAll_ev N hN N [] (okq_nil N) (by simp) freeB_nil
theorem grownQ_ev (N : Nat) (hN : N ≤ 8) : Ev (fun k => impl_grown.f k (N : Int) ([] : List Int) impl_areQueens.fn) (allQ N) := grownAll_ev N hN [] (okq_nil N) N (by simp)
end Go.Proofs.Ytnpacpdpgngdpaa.P
namespace Go.Proofs.Ytnpacpdpgngdpaa.P
open Go.RowKit Go.Proofs.YtnpacpdpgngdpaaW.PrintWords Go.Proofs.YtnpacpdpgngdpaaW.PrintLast Go.Proofs.YtnpacpdpgngdpaaW.PrintMore
set_option linter.unusedVariables false
set_option linter.unusedSimpArgs false
def Bytes (s : List Int) : Prop := ∀ x ∈ s, 0 ≤ x ∧ x ≤ 255
theorem bytes_of {s : List Int} (h : ∀ x ∈ s, (Lit.int .u8 x).wf = true) : Bytes s := by
  intro x hx
  have := h x hx
  simp [Lit.wf, IntKind.wrap, IntKind.bits, IntKind.signed, IntKind.min, IntKind.max] at this
  omega
theorem u64_wrap (n : Int) : IntKind.u64.wrap n = n % 18446744073709551616 := by simp [IntKind.wrap, IntKind.bits, IntKind.signed]
theorem seed_byte (n : Int) : 0 ≤ Go.bits .and .u64 (IntKind.u64.wrap n / 1099511627776) 255 ∧ Go.bits .and .u64 (IntKind.u64.wrap n / 1099511627776) 255 ≤ 255 := by
  have h0 : 0 ≤ IntKind.u64.wrap n / 1099511627776 := by rw [u64_wrap]; omega
  have h1 : IntKind.u64.wrap n / 1099511627776 < 2 ^ 24 := by rw [u64_wrap]; omega
  have := bits_mask .u64 24 (by decide) (fun n h0 h1 => by rw [u64_wrap]; omega) 8 (by decide) _ h0 h1
  have e : (2 : Int) ^ 8 - 1 = 255 := by decide
  rw [e] at this
  rw [this]
  omega
theorem next_ok {s : List Int} (hs : Bytes s) (a b : Int) (h0 : 0 ≤ a) (h1 : a ≤ 4611686018427387904) : ∃ x b', spec_l1Cur_next.f s a b = some (x, a + 1, b') ∧ 0 ≤ x ∧ x ≤ 255 := by
  unfold spec_l1Cur_next.f
  rw [w64 (a + 1) (by omega) (by omega)]
  by_cases h : a < (s.length : Int)
  · rw [if_pos h, if_pos h0, if_pos (by omega)]
    have hx := hs (rd s a) (by
      obtain ⟨n, rfl⟩ : ∃ n : Nat, a = (n : Int) := ⟨a.toNat, by omega⟩
      rw [rd_nat _ _ (show n < s.length by omega)]
      exact List.getElem_mem _)
    rw [w64 _ (by omega) (by omega)]
    exact ⟨_, _, rfl, hx⟩
  · rw [if_neg h, if_neg (by omega)]
    have hx := seed_byte ((IntKind.u64.wrap (IntKind.u64.wrap (b * 6364136223846793005))) + 1442695040888963407)
    rw [w64 (Go.bits _ _ _ _) (by omega) (by omega)]
    exact ⟨_, _, rfl, hx⟩
theorem pick_ok {s : List Int} (hs : Bytes s) (a b n : Int) (h0 : 0 ≤ a) (h1 : a ≤ 4000000000000000000) : ∃ x a' b', spec_l1Cur_pick.f s a b n = some (x, a', b') ∧ 0 ≤ x ∧ (x < n ∨ n ≤ 1 ∧ x = 0) ∧ a ≤ a' ∧ a' ≤ a + 2 := by
  unfold spec_l1Cur_pick.f
  by_cases h : n ≤ 1
  · rw [if_pos h]
    exact ⟨0, a, b, rfl, by omega, .inr ⟨h, rfl⟩, by omega, by omega⟩
  · rw [if_neg h]
    obtain ⟨x, b1, e1, h2, h3⟩ := next_ok hs a b h0 (by omega)
    rw [e1]
    simp only [Option.bind_some]
    by_cases h4 : n > 200
    · obtain ⟨y, b2, e2, h5, h6⟩ := next_ok hs (a + 1) b1 (by omega) (by omega)
      rw [if_pos h4, e2]
      simp only [Option.bind_some]
      rw [if_neg (by omega), w64 (x * 256) (by omega) (by omega), w64 _ (by omega) (by omega)]
      refine ⟨_, _, _, rfl, Int.tmod_nonneg _ (by omega), .inl (Int.tmod_lt_of_pos _ (by omega)), by omega, by omega⟩
    · rw [if_neg h4, if_neg (by omega)]
      refine ⟨_, _, _, rfl, Int.tmod_nonneg _ (by omega), .inl (Int.tmod_lt_of_pos _ (by omega)), by omega, by omega⟩
theorem one_ok {s : List Int} (hs : Bytes s) (a b n : Int) (h0 : 0 ≤ a) (h1 : a ≤ 4000000000000000000) : ∃ x a' b', spec_l1Cur_one.f s a b n = some (x, a', b') ∧ a ≤ a' ∧ a' ≤ a + 2 := by
  obtain ⟨x, a', b', e, _, _, h4, h5⟩ := pick_ok hs a b n h0 h1
  unfold spec_l1Cur_one.f
  rw [e]
  exact ⟨_, _, _, rfl, h4, h5⟩
theorem among_ok {s : List Int} (hs : Bytes s) (a b : Int) (l : List Int) (hl : 0 < l.length) (h0 : 0 ≤ a) (h1 : a ≤ 4000000000000000000) : ∃ x a' b', spec_l1Cur_among.f s a b l = some (x, a', b') ∧ x ∈ l ∧ a ≤ a' ∧ a' ≤ a + 2 := by
  obtain ⟨x, a', b', e, h2, h3, h4, h5⟩ := pick_ok hs a b (l.length : Int) h0 h1
  unfold spec_l1Cur_among.f
  rw [e]
  simp only [Option.bind_some]
  have hx : x < (l.length : Int) := by omega
  rw [if_pos h2, if_pos hx]
  refine ⟨_, _, _, rfl, ?_, h4, h5⟩
  obtain ⟨n, rfl⟩ : ∃ n : Nat, x = (n : Int) := ⟨x.toNat, by omega⟩
  rw [rd_nat _ _ (show n < l.length by omega)]
  exact List.getElem_mem _
theorem order4_j1 {s : List Int} (hs : Bytes s) (n : Int) (l : List Int) (x : Bool) (a b : Int) (h0 : 0 ≤ a) (h1 : a ≤ 1000000000000000000) (hx : x = true → 0 < l.length) :
    ∃ r a' b', (∀ k, spec_l1Cur_order4.j1 (k + 1) n l x s a b = some (r, a', b')) ∧ r.length = l.length ∧ a ≤ a' ∧ a' ≤ a + 4 := by
  cases x with
  | false => exact ⟨l, a, b, fun k => by simp [spec_l1Cur_order4.j1], rfl, by omega, by omega⟩
  | true =>
    obtain ⟨x, a1, b1, e1, h2, h3, h4, h5⟩ := pick_ok hs a b (l.length : Int) h0 (by omega)
    obtain ⟨y, a2, b2, e2, h6, h7, h8⟩ := among_ok hs a1 b1 [(-1), 0, n, 4611686018427387904] (by simp) (by omega) (by omega)
    have hp := hx rfl
    refine ⟨l.set x.toNat y, a2, b2, fun k => ?_, by simp, by omega, by omega⟩
    rw [spec_l1Cur_order4.j1, if_pos rfl, e1]
    simp only [Option.bind_some]
    rw [e2]
    simp only [Option.bind_some]
    rw [if_pos h2, if_pos (by omega)]
theorem order4_l0 {s : List Int} (hs : Bytes s) (n : Nat) (hn : n ≤ 1000) : ∀ (d i : Nat) (l : List Int) (a b : Int), n - i = d → i ≤ n → l.length = i → 0 ≤ a → a ≤ 1000000 + 2 * i →
    ∃ r a' b', (∀ k, d + 2 ≤ k → spec_l1Cur_order4.l0 k (n : Int) l (i : Int) s a b = some (r, a', b')) ∧ r.length = n ∧ a ≤ a' ∧ a' ≤ a + 2 * d + 10 := by
  intro d
  induction d with
  | zero =>
    intro i l a b hd hi hl h0 h1
    have e : i = n := by omega
    by_cases hp : (l.length : Int) > 0
    · obtain ⟨x, a1, b1, e1, h4, h5⟩ := one_ok hs a b 15 h0 (by omega)
      obtain ⟨r, a2, b2, e2, h6, h7, h8⟩ := order4_j1 hs n l x a1 b1 (by omega) (by omega) (fun _ => by omega)
      refine ⟨r, a2, b2, fun k hk => ?_, by omega, by omega, by omega⟩
      obtain ⟨k, rfl⟩ : ∃ m, k = m + 2 := ⟨k - 2, by omega⟩
      rw [spec_l1Cur_order4.l0, if_neg (by omega), if_pos hp, e1]
      simp only [Option.bind_some]
      exact e2 k
    · obtain ⟨r, a2, b2, e2, h6, h7, h8⟩ := order4_j1 hs n l false a b h0 (by omega) (fun h => by cases h)
      refine ⟨r, a2, b2, fun k hk => ?_, by omega, by omega, by omega⟩
      obtain ⟨k, rfl⟩ : ∃ m, k = m + 2 := ⟨k - 2, by omega⟩
      rw [spec_l1Cur_order4.l0, if_neg (by omega), if_neg hp]
      exact e2 k
  | succ d ih =>
    intro i l a b hd hi hl h0 h1
    obtain ⟨x, a1, b1, e1, h2, h3, h4, h5⟩ := pick_ok hs a b ((i : Int) + 1) h0 (by omega)
    have hx : x ≤ (l.length : Int) := by omega
    obtain ⟨m, rfl⟩ : ∃ m : Nat, x = (m : Int) := ⟨x.toNat, by omega⟩
    obtain ⟨r, a2, b2, e2, h6, h7, h8⟩ := ih (i + 1) ((l.take m ++ [(i : Int)]) ++ l.drop m) a1 b1 (by omega) (by omega) (by simp; omega) (by omega) (by omega)
    refine ⟨r, a2, b2, fun k hk => ?_, h6, by omega, by omega⟩
    obtain ⟨k, rfl⟩ : ∃ m, k = m + 1 := ⟨k - 1, by omega⟩
    rw [spec_l1Cur_order4.l0, if_pos (by omega), w64 _ (by omega) (by omega), e1]
    simp only [Option.bind_some]
    rw [if_pos h2, if_pos hx, Int.toNat_natCast, own7 _ (by simp; omega)]
    simp only [Option.bind_some]
    rw [if_pos (by simp; omega), if_pos (by simp; omega)]
    have := e2 k (by omega)
    rw [show ((i + 1 : Nat) : Int) = (i : Int) + 1 by omega] at this
    exact this
theorem order4_ok {s : List Int} (hs : Bytes s) (n : Nat) (hn : n ≤ 1000) (a b : Int) (h0 : 0 ≤ a) (h1 : a ≤ 1000000) :
    ∃ r a' b', Ev (fun k => spec_l1Cur_order4.f k s a b (n : Int)) (r, a', b') ∧ r.length = n ∧ a ≤ a' ∧ a' ≤ a + 2 * n + 10 := by
  obtain ⟨r, a', b', e, h2, h3, h4⟩ := order4_l0 hs n hn n 0 [] a b (by omega) (by omega) rfl h0 (by omega)
  exact ⟨r, a', b', ⟨n + 2, fun k hk => by simpa [spec_l1Cur_order4.f] using e k hk⟩, h2, h3, by omega⟩
theorem queens_j0 {s : List Int} (hs : Bytes s) (n : Nat) (hn : n ≤ 8) (all : List (List Int)) (ha : ∀ q ∈ all, q.length ≤ 8) (hl : all.length ≤ 16777216) (x : Bool) (hx : x = false → 0 < all.length) (a b : Int) (h0 : 0 ≤ a) (h1 : a ≤ 1000000) :
    ∃ r a' b', Ev (fun k => spec_l1Cur_queens.j0 k (n : Int) all x s a b) (r, a', b') ∧ r.length ≤ 9 := by
  cases x with
  | true =>
    obtain ⟨r, a1, b1, e, h2, _, _⟩ := order4_ok hs n (by omega) a b h0 h1
    obtain ⟨K, hK⟩ := ev_get e
    refine ⟨r, a1, b1, ⟨K + 1, fun k hk => ?_⟩, by omega⟩
    obtain ⟨k, rfl⟩ : ∃ m, k = m + 1 := ⟨k - 1, by omega⟩
    simp only [spec_l1Cur_queens.j0, if_true, hK k (by omega), Option.bind_some]
  | false =>
    have hp := hx rfl
    obtain ⟨y, a1, b1, e1, h2, h3, h4, h5⟩ := pick_ok hs a b (all.length : Int) h0 (by omega)
    obtain ⟨m, rfl⟩ : ∃ m : Nat, y = (m : Int) := ⟨y.toNat, by omega⟩
    have hm : m < all.length := by omega
    have hq : (rd_L1 all (m : Int)).length ≤ 8 := by
      have : rd_L1 all (m : Int) = all[m] := by simp [rd_L1, rdOf, List.getD_eq_getElem?_getD, List.getElem?_eq_getElem hm]
      rw [this]
      exact ha _ (List.getElem_mem hm)
    obtain ⟨z, a2, b2, e2, h6, h7⟩ := one_ok hs a1 b1 15 (by omega) (by omega)
    obtain ⟨v, a3, b3, e3, h8, h9, h10⟩ := among_ok hs a2 b2 [(-1), 0, (n : Int), wrap64 ((n : Int) + 1)] (by simp) (by omega) (by omega)
    refine ⟨if z = true then rd_L1 all (m : Int) ++ [v] else rd_L1 all (m : Int), if z = true then a3 else a2, if z = true then b3 else b2, ⟨1, fun k hk => ?_⟩, by split; (simp only [List.length_append, List.length_singleton]; omega); omega⟩
    obtain ⟨k, rfl⟩ : ∃ m, k = m + 1 := ⟨k - 1, by omega⟩
    simp only [spec_l1Cur_queens.j0, Bool.false_eq_true, if_false]
    rw [e1]
    simp only [Option.bind_some]
    rw [if_pos h2, if_pos (by omega), own7 _ (by omega)]
    simp only [Option.bind_some]
    rw [e2]
    simp only [Option.bind_some]
    cases z with
    | true =>
      simp only [if_true]
      rw [e3]
      simp only [Option.bind_some]
      rw [if_pos (by omega)]
    | false => simp
theorem queens_ok {s : List Int} (hs : Bytes s) (a b : Int) (h0 : 0 ≤ a) (h1 : a ≤ 900000) : ∃ r a' b', Ev (fun k => spec_l1Cur_queens.f k s a b) (r, a', b') ∧ r.length ≤ 9 := by
  obtain ⟨x, a1, b1, e1, h2, h3, h4, h5⟩ := pick_ok hs a b 7 h0 (by omega)
  obtain ⟨m, rfl⟩ : ∃ m : Nat, x = (m : Int) := ⟨x.toNat, by omega⟩
  obtain ⟨K, hK⟩ := ev_get (quAllQ_ev (m + 1) (by omega))
  have e : wrap64 (1 + (m : Int)) = ((m + 1 : Nat) : Int) := by rw [w64 _ (by omega) (by omega)]; omega
  have hrow : ∀ q ∈ allQ (m + 1), q.length ≤ 8 := fun q hq => by have := (allQ_row hq).2; omega
  by_cases hz : (allQ (m + 1)).length = 0
  · obtain ⟨r, a2, b2, e2, h6⟩ := queens_j0 hs (m + 1) (by omega) (allQ (m + 1)) hrow (allQ_len _ (by omega)) true (fun h => by cases h) a1 b1 (by omega) (by omega)
    obtain ⟨K2, hK2⟩ := ev_get e2
    refine ⟨r, a2, b2, ⟨K + K2, fun k hk => ?_⟩, h6⟩
    simp only [spec_l1Cur_queens.f, e1, Option.bind_some, e, hK k (by omega)]
    rw [if_pos (by omega), hK2 k (by omega)]
  · obtain ⟨z, a2, b2, e2, h6, h7⟩ := one_ok hs a1 b1 3 (by omega) (by omega)
    obtain ⟨r, a3, b3, e3, h8⟩ := queens_j0 hs (m + 1) (by omega) (allQ (m + 1)) hrow (allQ_len _ (by omega)) z (fun h => by omega) a2 b2 (by omega) (by omega)
    obtain ⟨K2, hK2⟩ := ev_get e3
    refine ⟨r, a3, b3, ⟨K + K2, fun k hk => ?_⟩, h8⟩
    simp only [spec_l1Cur_queens.f, e1, Option.bind_some, e, hK k (by omega)]
    rw [if_neg (by omega), e2]
    simp only [Option.bind_some]
    rw [hK2 k (by omega)]
theorem drawQueens_ok {s : List Int} (hs : Bytes s) : ∃ r, Ev (fun k => spec_DrawAreQueens.f k s) r ∧ r.length ≤ 9 := by
  obtain ⟨r, a', b', e, h⟩ := queens_ok hs 0 0 (by omega) (by omega)
  obtain ⟨K, hK⟩ := ev_get e
  refine ⟨r, ⟨K, fun k hk => ?_⟩, h⟩
  simp only [spec_DrawAreQueens.f, hK k hk, Option.bind_some]
theorem drawCount_ok {s : List Int} (hs : Bytes s) : ∃ n, spec_DrawCountQueens.f s = some n ∧ 0 ≤ n ∧ n ≤ 9 := by
  obtain ⟨x, a', b', e, h, _, _⟩ := among_ok hs 0 0 [1, 2, 3, 4, 5, 6, 7, 8, 9, 0] (by simp) (by omega) (by omega)
  refine ⟨x, ?_, ?_⟩
  · simp only [spec_DrawCountQueens.f, e, Option.bind_some]
  · simp only [List.mem_cons, List.not_mem_nil, or_false] at h
    omega
theorem big_eq (a b : List Int) (ha : a.length ≤ 140737488351232) (hb : b.length ≤ 140737488351232) : ∃ x, laws_big.f a b = some x := by
  unfold laws_big.f
  repeat (first | exact ⟨_, rfl⟩ | split | simp only [Option.bind_some])
end Go.Proofs.Ytnpacpdpgngdpaa.P
namespace Go.Proofs.Ytnpacpdpgngdpaa.P
open Go.RowKit Go.Proofs.YtnpacpdpgngdpaaW.PrintWords Go.Proofs.YtnpacpdpgngdpaaW.PrintLast Go.Proofs.YtnpacpdpgngdpaaW.PrintMore
set_option linter.unusedVariables false
set_option linter.unusedSimpArgs false
theorem rdL_nat (s : List (List Int)) (i : Nat) (h : i < s.length) : rd_L1 s (i : Int) = s[i] := by
  unfold rd_L1; simp [List.getD_eq_getElem?_getD, List.getElem?_eq_getElem h]
end Go.Proofs.Ytnpacpdpgngdpaa.P
namespace Go.Proofs.Ytnpacpdpgngdpaa.P
open Go.RowKit Go.Proofs.YtnpacpdpgngdpaaW.PrintWords Go.Proofs.YtnpacpdpgngdpaaW.PrintLast Go.Proofs.YtnpacpdpgngdpaaW.PrintMore
set_option linter.unusedVariables false
set_option linter.unusedSimpArgs false
theorem kSame_l0 (a : List Int) (hb : a.length ≤ 1152921504606846976) : ∀ (d i : Nat) (k : Nat), a.length - i = d → i ≤ a.length → d < k →
    laws_kSame.l0 k a a (a.length : Int) (i : Int) = some true := by
  intro d
  induction d with
  | zero =>
    intro i k hd hi hk
    obtain ⟨k, rfl⟩ : ∃ m, k = m + 1 := ⟨k - 1, by omega⟩
    rw [laws_kSame.l0, if_neg (by omega)]
  | succ d ih =>
    intro i k hd hi hk
    obtain ⟨k, rfl⟩ : ∃ m, k = m + 1 := ⟨k - 1, by omega⟩
    rw [laws_kSame.l0, if_pos (by omega), if_pos (by omega), if_pos (by omega), if_pos (by omega), if_pos rfl, w64 _ (by omega) (by omega), show ((i : Int) + 1) = ((i + 1 : Nat) : Int) by omega]
    exact ih (i + 1) k (by omega) (by omega) (by omega)
theorem kSame_refl (a : List Int) (hb : a.length ≤ 1152921504606846976) : Ev (fun k => laws_kSame.f k a a) true := by
  refine ⟨a.length + 1, fun k hk => ?_⟩
  simp only [laws_kSame.f, if_true]
  exact kSame_l0 a hb a.length 0 k (by omega) (by omega) (by omega)
/-- A list comes before another one of the same length. -/
def lexLt (a b : List Int) : Prop := ∃ p c c' t t', a = p ++ c :: t ∧ b = p ++ c' :: t' ∧ c < c' ∧ t.length = t'.length
theorem P_nodup (N : Nat) : ∀ (d : Nat) (q : List Int), q.Nodup → ∀ x ∈ P N d q, x.Nodup
  | 0, q, h, x, hx => by
    rw [P, List.mem_singleton] at hx
    exact hx ▸ h
  | d + 1, q, h, x, hx => by
    rw [P, List.mem_flatMap] at hx
    obtain ⟨c, hc, hx⟩ := hx
    split at hx
    · simp at hx
    · rename_i hq
      refine P_nodup N d _ ?_ x hx
      rw [List.nodup_append]
      exact ⟨h, by simp, fun a ha b hb e => hq (by rw [List.mem_singleton] at hb; exact hb ▸ e ▸ ha)⟩
theorem P_of (N : Nat) : ∀ (t q : List Int), (∀ x ∈ t, 0 ≤ x ∧ x < (N : Int)) → (q ++ t).Nodup → q ++ t ∈ P N t.length q
  | [], q, _, _ => by simp [P]
  | c :: t, q, h, hn => by
    have hc := h c (List.mem_cons_self ..)
    obtain ⟨n, rfl⟩ : ∃ n : Nat, c = (n : Int) := ⟨c.toNat, by omega⟩
    have e : q ++ (n : Int) :: t = (q ++ [(n : Int)]) ++ t := by simp
    rw [e] at hn ⊢
    rw [List.length_cons, P, List.mem_flatMap]
    refine ⟨n, by rw [List.mem_range'_1]; omega, ?_⟩
    have hq : (n : Int) ∉ q := fun hq => by
      have h1 := (List.nodup_append.1 hn).1
      exact (List.nodup_append.1 h1).2.2 _ hq _ (List.mem_singleton.2 rfl) rfl
    rw [if_neg hq]
    exact P_of N t _ (fun x hx => h x (List.mem_cons_of_mem _ hx)) hn
theorem P_sorted (N : Nat) : ∀ (d : Nat) (q : List Int), OkQ N q → q.length + d = N → (P N d q).Pairwise lexLt
  | 0, q, _, _ => by simp [P]
  | d + 1, q, h, hl => by
    have key : ∀ (e i : Nat), N - i = e → (PF N d q i).Pairwise lexLt := by
      intro e
      induction e with
      | zero => intro i hi; rw [PF_nil N d q i (by omega)]; exact List.Pairwise.nil
      | succ e ih =>
        intro i hi
        have hiN : i < N := by omega
        rw [PF_step N d q i hiN, List.pairwise_append]
        refine ⟨?_, ih (i + 1) (by omega), ?_⟩
        · split
          · exact List.Pairwise.nil
          · exact P_sorted N d _ (okq_snoc h (by omega) hiN) (by simp; omega)
        · intro x hx y hy
          split at hx
          · simp at hx
          obtain ⟨_, hxl, t, rfl⟩ := P_mem N d _ (okq_snoc h (by omega) hiN) (by simp; omega) x hx
          unfold PF at hy
          rw [List.mem_flatMap] at hy
          obtain ⟨c, hc, hy⟩ := hy
          rw [List.mem_range'_1] at hc
          split at hy
          · simp at hy
          obtain ⟨_, hyl, t', rfl⟩ := P_mem N d _ (okq_snoc h (by omega) (show c < N by omega)) (by simp; omega) y hy
          refine ⟨q, i, c, t, t', by simp, by simp, by omega, ?_⟩
          simp at hxl hyl
          omega
    rw [P_succ]
    exact key N 0 (by omega)
theorem allQ_sorted (N : Nat) : (allQ N).Pairwise lexLt := (P_sorted N N [] (okq_nil N) (by simp)).filter _
theorem allQ_nodup {N : Nat} {x : List Int} (h : x ∈ allQ N) : x.Nodup := by
  unfold allQ at h
  rw [List.mem_filter] at h
  exact P_nodup N N [] (by simp) x h.1
theorem allQ_free {N : Nat} {x : List Int} (h : x ∈ allQ N) : freeB x = true := by
  unfold allQ at h
  rw [List.mem_filter] at h
  exact h.2
theorem allQ_good {N : Nat} (h1 : 1 ≤ N) (h8 : N ≤ 8) {x : List Int} (h : x ∈ allQ N) : goodB x = true := by
  have hr := allQ_row h
  rw [goodB_iff]
  refine ⟨by omega, by omega, fun y hy => ?_, allQ_nodup h⟩
  have := hr.1.2 y hy
  omega
theorem allQ_of {N : Nat} (x : List Int) (hl : x.length = N) (hx : ∀ y ∈ x, 0 ≤ y ∧ y < (N : Int)) (hn : x.Nodup) (hf : freeB x = true) : x ∈ allQ N := by
  unfold allQ
  rw [List.mem_filter]
  have := P_of N x [] hx (by simpa using hn)
  rw [hl] at this
  exact ⟨by simpa using this, hf⟩
end Go.Proofs.Ytnpacpdpgngdpaa.P
namespace Go.Proofs.Ytnpacpdpgngdpaa.P
open Go.RowKit Go.Proofs.YtnpacpdpgngdpaaW.PrintWords Go.Proofs.YtnpacpdpgngdpaaW.PrintLast Go.Proofs.YtnpacpdpgngdpaaW.PrintMore
set_option linter.unusedVariables false
set_option linter.unusedSimpArgs false
def turnGo (n : Int) : List Int → Nat → List Int → List Int
  | [], _, acc => acc
  | c :: cs, i, acc => turnGo n cs (i + 1) (acc.set c.toNat (n - 1 - (i : Int)))
theorem turnGo_length (n : Int) : ∀ (cs : List Int) (i : Nat) (acc : List Int), (turnGo n cs i acc).length = acc.length
  | [], _, _ => rfl
  | _ :: cs, i, acc => by rw [turnGo, turnGo_length n cs]; simp
def turnL (q : List Int) : List Int := turnGo q.length q 0 (List.replicate q.length 0)
theorem turnL_length (q : List Int) : (turnL q).length = q.length := by unfold turnL; rw [turnGo_length]; simp
theorem quTurn_l0 (q : List Int) (hg : goodB q = true) : ∀ (d i : Nat) (acc : List Int) (k : Nat), q.length - i = d → i ≤ q.length → d < k → acc.length = q.length →
    spec_quTurn.l0 k q acc q (q.length : Int) (i : Int) = some (turnGo q.length (q.drop i) i acc) := by
  have hl := good_len hg
  intro d
  induction d with
  | zero =>
    intro i acc k hd hi hk ha
    obtain ⟨k, rfl⟩ : ∃ m, k = m + 1 := ⟨k - 1, by omega⟩
    rw [spec_quTurn.l0, if_neg (by omega), List.drop_eq_nil_of_le (by omega), turnGo]
  | succ d ih =>
    intro i acc k hd hi hk ha
    obtain ⟨k, rfl⟩ : ∃ m, k = m + 1 := ⟨k - 1, by omega⟩
    have h1 : i < q.length := by omega
    have hx := good_at hg i h1
    rw [spec_quTurn.l0, if_pos (by omega), if_pos (by omega), if_pos (by omega), rd_nat _ _ h1, if_pos (by omega), if_pos (by omega), w64 ((i : Int) + 1) (by omega) (by omega), w64 ((q.length : Int) - 1) (by omega) (by omega), w64 _ (by omega) (by omega)]
    rw [show ((i : Int) + 1) = ((i + 1 : Nat) : Int) by omega, ih (i + 1) _ k (by omega) (by omega) (by omega) (by simp [ha]), drop_cons q i h1, turnGo]
theorem quTurn_ev (q : List Int) (hg : goodB q = true) : Ev (fun k => spec_quTurn.f k q) (turnL q) := by
  have hl := good_len hg
  refine ⟨q.length + 1, fun k hk => ?_⟩
  simp only [spec_quTurn.f]
  rw [if_pos (by omega), if_pos (by omega)]
  have := quTurn_l0 q hg q.length 0 (List.replicate q.length 0) k (by omega) (by omega) (by omega) (by simp)
  simpa [turnL] using this
theorem turn_l0 (q : List Int) (hg : goodB q = true) : ∀ (d i : Nat) (acc : List Int) (k : Nat), q.length - i = d → i ≤ q.length → d < k → acc.length = q.length →
    impl_turn.l0 k q acc q (q.length : Int) (i : Int) = some (turnGo q.length (q.drop i) i acc) := by
  have hl := good_len hg
  intro d
  induction d with
  | zero =>
    intro i acc k hd hi hk ha
    obtain ⟨k, rfl⟩ : ∃ m, k = m + 1 := ⟨k - 1, by omega⟩
    rw [impl_turn.l0, if_neg (by omega), List.drop_eq_nil_of_le (by omega), turnGo]
  | succ d ih =>
    intro i acc k hd hi hk ha
    obtain ⟨k, rfl⟩ : ∃ m, k = m + 1 := ⟨k - 1, by omega⟩
    have h1 : i < q.length := by omega
    have hx := good_at hg i h1
    rw [impl_turn.l0, if_pos (by omega), if_pos (by omega), if_pos (by omega), rd_nat _ _ h1, if_pos (by omega), if_pos (by omega), w64 ((i : Int) + 1) (by omega) (by omega), w64 ((q.length : Int) - 1) (by omega) (by omega), w64 _ (by omega) (by omega)]
    rw [show ((i : Int) + 1) = ((i + 1 : Nat) : Int) by omega, ih (i + 1) _ k (by omega) (by omega) (by omega) (by simp [ha]), drop_cons q i h1, turnGo]
theorem turn_ev (q : List Int) (hg : goodB q = true) : Ev (fun k => impl_turn.f k q) (turnL q) := by
  have hl := good_len hg
  refine ⟨q.length + 1, fun k hk => ?_⟩
  simp only [impl_turn.f]
  rw [if_pos (by omega), if_pos (by omega)]
  have := turn_l0 q hg q.length 0 (List.replicate q.length 0) k (by omega) (by omega) (by omega) (by simp)
  simpa [turnL] using this
end Go.Proofs.Ytnpacpdpgngdpaa.P
namespace Go.Proofs.Ytnpacpdpgngdpaa.P
open Go.RowKit Go.Proofs.YtnpacpdpgngdpaaW.PrintWords Go.Proofs.YtnpacpdpgngdpaaW.PrintLast Go.Proofs.YtnpacpdpgngdpaaW.PrintMore
set_option linter.unusedVariables false
set_option linter.unusedSimpArgs false
/-- One to eight numbers, each less than their count. -/
def Rng (q : List Int) : Prop := (1 ≤ q.length ∧ q.length ≤ 8) ∧ ∀ x ∈ q, 0 ≤ x ∧ x < (q.length : Int)
theorem rng_len {q : List Int} (h : Rng q) : 1 ≤ q.length ∧ q.length ≤ 8 := h.1
theorem rng_at {q : List Int} (h : Rng q) (i : Nat) (hi : i < q.length) : 0 ≤ q[i] ∧ q[i] < q.length := h.2 _ (List.getElem_mem hi)
theorem good_rng {q : List Int} (h : goodB q = true) : Rng q := ⟨good_len h, fun x hx => by have := ((goodB_iff q).1 h).2.2.1 x hx; omega⟩
theorem quMirror_l0R (q : List Int) (hg : Rng q) : ∀ (d i : Nat) (acc : List Int) (k : Nat), q.length - i = d → i ≤ q.length → d < k → acc.length = i →
    spec_quMirror.l0 k q acc q (q.length : Int) (i : Int) = some (acc ++ (mirrorL q).drop i) := by
  have hl := rng_len hg
  intro d
  induction d with
  | zero =>
    intro i acc k hd hi hk ha
    obtain ⟨k, rfl⟩ : ∃ m, k = m + 1 := ⟨k - 1, by omega⟩
    rw [spec_quMirror.l0, if_neg (by omega), List.drop_eq_nil_of_le (by rw [mirrorL_length]; omega), List.append_nil]
  | succ d ih =>
    intro i acc k hd hi hk ha
    obtain ⟨k, rfl⟩ : ∃ m, k = m + 1 := ⟨k - 1, by omega⟩
    have h1 : i < q.length := by omega
    have hx := rng_at hg i h1
    rw [spec_quMirror.l0, if_pos (by omega), if_pos (by omega), if_pos (by omega), if_pos (by omega), rd_nat _ _ h1, w64 ((i : Int) + 1) (by omega) (by omega), w64 ((q.length : Int) - 1) (by omega) (by omega), w64 _ (by omega) (by omega)]
    rw [show ((i : Int) + 1) = ((i + 1 : Nat) : Int) by omega, ih (i + 1) _ k (by omega) (by omega) (by omega) (by simp [ha])]
    rw [drop_cons (mirrorL q) i (by rw [mirrorL_length]; omega), List.append_assoc]
    congr 2
    simp only [List.singleton_append, List.cons.injEq, and_true]
    simp [mirrorL]
theorem quMirror_evR (q : List Int) (hg : Rng q) : Ev (fun k => spec_quMirror.f k q) (mirrorL q) := by
  refine ⟨q.length + 1, fun k hk => ?_⟩
  simp only [spec_quMirror.f]
  have := quMirror_l0R q hg q.length 0 [] k (by omega) (by omega) (by omega) rfl
  simpa using this
theorem mirror_l0R (q : List Int) (hg : Rng q) : ∀ (d i : Nat) (acc : List Int) (k : Nat), q.length - i = d → i ≤ q.length → d < k → acc.length = i →
    impl_mirror.l0 k q acc q (q.length : Int) (i : Int) = some (acc ++ (mirrorL q).drop i) := by
  have hl := rng_len hg
  intro d
  induction d with
  | zero =>
    intro i acc k hd hi hk ha
    obtain ⟨k, rfl⟩ : ∃ m, k = m + 1 := ⟨k - 1, by omega⟩
    rw [impl_mirror.l0, if_neg (by omega), List.drop_eq_nil_of_le (by rw [mirrorL_length]; omega), List.append_nil]
  | succ d ih =>
    intro i acc k hd hi hk ha
    obtain ⟨k, rfl⟩ : ∃ m, k = m + 1 := ⟨k - 1, by omega⟩
    have h1 : i < q.length := by omega
    have hx := rng_at hg i h1
    rw [impl_mirror.l0, if_pos (by omega), if_pos (by omega), if_pos (by omega), if_pos (by omega), rd_nat _ _ h1, w64 ((i : Int) + 1) (by omega) (by omega), w64 ((q.length : Int) - 1) (by omega) (by omega), w64 _ (by omega) (by omega)]
    rw [show ((i : Int) + 1) = ((i + 1 : Nat) : Int) by omega, ih (i + 1) _ k (by omega) (by omega) (by omega) (by simp [ha])]
    rw [drop_cons (mirrorL q) i (by rw [mirrorL_length]; omega), List.append_assoc]
    congr 2
    simp only [List.singleton_append, List.cons.injEq, and_true]
    simp [mirrorL]
theorem mirror_evR (q : List Int) (hg : Rng q) : Ev (fun k => impl_mirror.f k q) (mirrorL q) := by
  refine ⟨q.length + 1, fun k hk => ?_⟩
  simp only [impl_mirror.f]
  have := mirror_l0R q hg q.length 0 [] k (by omega) (by omega) (by omega) rfl
  simpa using this
theorem quTurn_l0R (q : List Int) (hg : Rng q) : ∀ (d i : Nat) (acc : List Int) (k : Nat), q.length - i = d → i ≤ q.length → d < k → acc.length = q.length →
    spec_quTurn.l0 k q acc q (q.length : Int) (i : Int) = some (turnGo q.length (q.drop i) i acc) := by
  have hl := rng_len hg
  intro d
  induction d with
  | zero =>
    intro i acc k hd hi hk ha
    obtain ⟨k, rfl⟩ : ∃ m, k = m + 1 := ⟨k - 1, by omega⟩
    rw [spec_quTurn.l0, if_neg (by omega), List.drop_eq_nil_of_le (by omega), turnGo]
  | succ d ih =>
    intro i acc k hd hi hk ha
    obtain ⟨k, rfl⟩ : ∃ m, k = m + 1 := ⟨k - 1, by omega⟩
    have h1 : i < q.length := by omega
    have hx := rng_at hg i h1
    rw [spec_quTurn.l0, if_pos (by omega), if_pos (by omega), if_pos (by omega), rd_nat _ _ h1, if_pos (by omega), if_pos (by omega), w64 ((i : Int) + 1) (by omega) (by omega), w64 ((q.length : Int) - 1) (by omega) (by omega), w64 _ (by omega) (by omega)]
    rw [show ((i : Int) + 1) = ((i + 1 : Nat) : Int) by omega, ih (i + 1) _ k (by omega) (by omega) (by omega) (by simp [ha]), drop_cons q i h1, turnGo]
theorem quTurn_evR (q : List Int) (hg : Rng q) : Ev (fun k => spec_quTurn.f k q) (turnL q) := by
  have hl := rng_len hg
  refine ⟨q.length + 1, fun k hk => ?_⟩
  simp only [spec_quTurn.f]
  rw [if_pos (by omega), if_pos (by omega)]
  have := quTurn_l0R q hg q.length 0 (List.replicate q.length 0) k (by omega) (by omega) (by omega) (by simp)
  simpa [turnL] using this
theorem turn_l0R (q : List Int) (hg : Rng q) : ∀ (d i : Nat) (acc : List Int) (k : Nat), q.length - i = d → i ≤ q.length → d < k → acc.length = q.length →
    impl_turn.l0 k q acc q (q.length : Int) (i : Int) = some (turnGo q.length (q.drop i) i acc) := by
  have hl := rng_len hg
  intro d
  induction d with
  | zero =>
    intro i acc k hd hi hk ha
    obtain ⟨k, rfl⟩ : ∃ m, k = m + 1 := ⟨k - 1, by omega⟩
    rw [impl_turn.l0, if_neg (by omega), List.drop_eq_nil_of_le (by omega), turnGo]
  | succ d ih =>
    intro i acc k hd hi hk ha
    obtain ⟨k, rfl⟩ : ∃ m, k = m + 1 := ⟨k - 1, by omega⟩
    have h1 : i < q.length := by omega
    have hx := rng_at hg i h1
    rw [impl_turn.l0, if_pos (by omega), if_pos (by omega), if_pos (by omega), rd_nat _ _ h1, if_pos (by omega), if_pos (by omega), w64 ((i : Int) + 1) (by omega) (by omega), w64 ((q.length : Int) - 1) (by omega) (by omega), w64 _ (by omega) (by omega)]
    rw [show ((i : Int) + 1) = ((i + 1 : Nat) : Int) by omega, ih (i + 1) _ k (by omega) (by omega) (by omega) (by simp [ha]), drop_cons q i h1, turnGo]
theorem turn_evR (q : List Int) (hg : Rng q) : Ev (fun k => impl_turn.f k q) (turnL q) := by
  have hl := rng_len hg
  refine ⟨q.length + 1, fun k hk => ?_⟩
  simp only [impl_turn.f]
  rw [if_pos (by omega), if_pos (by omega)]
  have := turn_l0R q hg q.length 0 (List.replicate q.length 0) k (by omega) (by omega) (by omega) (by simp)
  simpa [turnL] using this
theorem turnGo_mem (n : Int) : ∀ (cs : List Int) (i : Nat) (acc : List Int), i + cs.length ≤ n → (∀ x ∈ acc, 0 ≤ x ∧ x < n) → ∀ x ∈ turnGo n cs i acc, 0 ≤ x ∧ x < n
  | [], _, _, _, ha => ha
  | c :: cs, i, acc, hl, ha => by
    simp only [List.length_cons] at hl
    refine turnGo_mem n cs (i + 1) _ (by omega) (fun x hx => ?_)
    rcases List.mem_or_eq_of_mem_set hx with h | rfl
    · exact ha x h
    · omega
theorem turnL_rng {q : List Int} (h : Rng q) : Rng (turnL q) := by
  have hl := h.1
  refine ⟨by rw [turnL_length]; exact hl, ?_⟩
  rw [turnL_length]
  refine turnGo_mem _ q 0 _ (by omega) (fun x hx => ?_)
  rw [List.mem_replicate] at hx
  omega
def lessL : List Int → List Int → Bool
  | x :: a, y :: b => if x = y then lessL a b else decide (x < y)
  | _, _ => false
theorem quLess_l0 (a b : List Int) (hl : a.length = b.length) (hb : a.length ≤ 1152921504606846976) : ∀ (d i : Nat) (k : Nat), a.length - i = d → i ≤ a.length → d < k →
    spec_quLess.l0 k b a (a.length : Int) (i : Int) = some (lessL (a.drop i) (b.drop i)) := by
  intro d
  induction d with
  | zero =>
    intro i k hd hi hk
    obtain ⟨k, rfl⟩ : ∃ m, k = m + 1 := ⟨k - 1, by omega⟩
    rw [spec_quLess.l0, if_neg (by omega), List.drop_eq_nil_of_le (show a.length ≤ i by omega)]
    rfl
  | succ d ih =>
    intro i k hd hi hk
    obtain ⟨k, rfl⟩ : ∃ m, k = m + 1 := ⟨k - 1, by omega⟩
    have h1 : i < a.length := by omega
    rw [spec_quLess.l0, if_pos (by omega), if_pos (by omega), if_pos (by omega), if_pos (by omega), rd_nat _ _ h1, rd_nat _ _ (show i < b.length by omega), w64 _ (by omega) (by omega), show ((i : Int) + 1) = ((i + 1 : Nat) : Int) by omega, ih (i + 1) k (by omega) (by omega) (by omega), drop_cons a i h1, drop_cons b i (by omega)]
    generalize a.drop (i + 1) = ta, b.drop (i + 1) = tb
    rw [lessL]
    split <;> rfl
theorem quLess_ev (a b : List Int) (hl : a.length = b.length) (hb : a.length ≤ 1152921504606846976) : Ev (fun k => spec_quLess.f k a b) (lessL a b) := by
  refine ⟨a.length + 1, fun k hk => ?_⟩
  simp only [spec_quLess.f]
  simpa using quLess_l0 a b hl hb a.length 0 k (by omega) (by omega) (by omega)
theorem Compare_l0 (a b : List Int) (hl : a.length = b.length) (hb : a.length ≤ 1152921504606846976) : ∀ (d i : Nat) (k : Nat), a.length - i = d → i ≤ a.length → d < k →
    ∃ c, slices_Compare_int_int.l0 k a b a (a.length : Int) (i : Int) = some c ∧ decide (c < 0) = lessL (a.drop i) (b.drop i) := by
  intro d
  induction d with
  | zero =>
    intro i k hd hi hk
    obtain ⟨k, rfl⟩ : ∃ m, k = m + 1 := ⟨k - 1, by omega⟩
    rw [slices_Compare_int_int.l0, if_neg (by omega), if_neg (by omega), List.drop_eq_nil_of_le (show a.length ≤ i by omega)]
    exact ⟨0, rfl, rfl⟩
  | succ d ih =>
    intro i k hd hi hk
    obtain ⟨k, rfl⟩ : ∃ m, k = m + 1 := ⟨k - 1, by omega⟩
    have h1 : i < a.length := by omega
    obtain ⟨c, h2, h3⟩ := ih (i + 1) k (by omega) (by omega) (by omega)
    rw [slices_Compare_int_int.l0, if_pos (by omega), if_pos (by omega), if_pos (by omega), if_neg (by omega), if_pos (by omega), rd_nat _ _ h1, rd_nat _ _ (show i < b.length by omega), w64 _ (by omega) (by omega), show ((i : Int) + 1) = ((i + 1 : Nat) : Int) by omega, h2, drop_cons a i h1, drop_cons b i (by omega)]
    have hi2 : i < b.length := by omega
    generalize a.drop (i + 1) = ta at h3 ⊢
    generalize b.drop (i + 1) = tb at h3 ⊢
    generalize a[i] = x
    generalize b[i] = y
    rw [lessL]
    have hn : ∀ z, cmp_isNaN_int.f z = some false := by intro z; simp [cmp_isNaN_int.f]
    simp only [cmp_Compare_int.f, hn, Option.bind_some, Bool.false_eq_true, if_false]
    by_cases h : x = y
    · subst h
      rw [if_neg (by omega), if_neg (by omega), Option.bind_some, if_pos rfl, if_pos rfl]
      exact ⟨c, rfl, h3⟩
    · by_cases h4 : x < y
      · rw [if_pos h4, Option.bind_some, if_neg (by omega), if_neg h]
        exact ⟨-1, rfl, by simp [h4]⟩
      · rw [if_neg h4, if_pos (by omega), Option.bind_some, if_neg (by omega), if_neg h]
        exact ⟨1, rfl, by simp [h4]⟩
theorem Compare_ev (a b : List Int) (hl : a.length = b.length) (hb : a.length ≤ 1152921504606846976) : ∃ K, ∀ k, K ≤ k → ∃ c, slices_Compare_int_int.f k a b = some c ∧ decide (c < 0) = lessL a b := by
  refine ⟨a.length + 1, fun k hk => ?_⟩
  simp only [slices_Compare_int_int.f]
  simpa using Compare_l0 a b hl hb a.length 0 k (by omega) (by omega) (by omega)
def stepL (q b : List Int) : List Int :=
  let q1 := turnL q
  let b1 := if lessL q1 b = true then q1 else b
  if lessL (mirrorL q1) b1 = true then mirrorL q1 else b1
def leastGo : Nat → List Int → List Int → List Int
  | 0, _, b => b
  | n + 1, q, b => leastGo n (turnL q) (stepL q b)
def leastL (q : List Int) : List Int := leastGo 4 q q
theorem stepL_length (q b : List Int) (h : b.length = q.length) : (stepL q b).length = q.length := by
  unfold stepL
  simp only []
  split <;> split <;> simp [mirrorL_length, turnL_length, h]
theorem l1Own_eq (l : List Int) (h : l.length < 17592186044416) : spec_l1Own.f l = some l := by
  simp only [spec_l1Own.f, Option.bind_some]
  rw [if_pos (by simpa using h), List.nil_append]
theorem Clone_eq (l : List Int) (h : l.length < 17592186044416) : slices_Clone_int_int.f l = some l := if_pos h
theorem quLeast_l0 : ∀ (d : Nat) (i : Nat) (q b : List Int), i + d = 4 → Rng q → b.length = q.length → Ev (fun k => spec_quLeast.l0 k q b (i : Int)) (leastGo d q b) := by
  intro d
  induction d with
  | zero =>
    intro i q b hi hq hb
    refine ⟨1, fun k hk => ?_⟩
    obtain ⟨k, rfl⟩ : ∃ m, k = m + 1 := ⟨k - 1, by omega⟩
    dsimp only
    rw [spec_quLeast.l0, if_neg (by omega)]
    rfl
  | succ d ih =>
    intro i q b hi hq hb
    have hl := hq.1
    have ht := turnL_length q
    have hm := mirrorL_length (turnL q)
    obtain ⟨K1, h1⟩ := ev_get (quTurn_evR q hq)
    obtain ⟨K2, h2⟩ := ev_get (quLess_ev (turnL q) b (by omega) (by omega))
    obtain ⟨K3, h3⟩ := ev_get (quMirror_evR (turnL q) (turnL_rng hq))
    obtain ⟨K4, h4⟩ := ev_get (quLess_ev (mirrorL (turnL q)) (if lessL (turnL q) b = true then turnL q else b) (by split <;> omega) (by omega))
    obtain ⟨K5, h5⟩ := ev_get (ih (i + 1) (turnL q) (stepL q b) (by omega) (turnL_rng hq) (by rw [stepL_length q b hb]; omega))
    refine ⟨K1 + K2 + K3 + K4 + K5 + 1, fun k hk => ?_⟩
    obtain ⟨k, rfl⟩ : ∃ m, k = m + 1 := ⟨k - 1, by omega⟩
    dsimp only
    rw [spec_quLeast.l0, if_pos (by omega), h1 k (by omega), Option.bind_some, h2 k (by omega), Option.bind_some, h3 k (by omega), Option.bind_some, h4 k (by omega), Option.bind_some, w64 _ (by omega) (by omega), show ((i : Int) + 1) = ((i + 1 : Nat) : Int) by omega]
    exact h5 k (by omega)
theorem quLeast_ev (q : List Int) (hq : Rng q) : Ev (fun k => spec_quLeast.f k q) (leastL q) := by
  have hl := hq.1
  obtain ⟨K, hK⟩ := ev_get (quLeast_l0 4 0 q q rfl hq rfl)
  refine ⟨K, fun k hk => ?_⟩
  simp only [spec_quLeast.f, l1Own_eq q (by omega), Option.bind_some]
  exact hK k hk
theorem least_l1 (d i : Nat) (q m b : List Int) (hb : b.length = q.length) (hm : m.length = q.length) (hl : q.length ≤ 8) (hi : i ≤ 4)
    (hout : ∀ b' : List Int, b'.length = q.length → Ev (fun k => impl_least.l0 k q b' ((i + 1 : Nat) : Int)) (leastGo d q b')) :
    Ev (fun k => impl_least.l1 k q m b (i : Int) 0) (leastGo d q (let b1 := if lessL q b = true then q else b; if lessL m b1 = true then m else b1)) := by
  have last : ∀ b' : List Int, b'.length = q.length → Ev (fun k => impl_least.l1 k q m b' (i : Int) 2) (leastGo d q b') := by
    intro b' hb'
    obtain ⟨K, hK⟩ := ev_get (hout b' hb')
    refine ⟨K + 1, fun k hk => ?_⟩
    obtain ⟨k, rfl⟩ : ∃ m, k = m + 1 := ⟨k - 1, by omega⟩
    dsimp only
    rw [impl_least.l1, if_neg (by omega), w64 _ (by omega) (by omega), show ((i : Int) + 1) = ((i + 1 : Nat) : Int) by omega]
    exact hK k (by omega)
  have second : ∀ b' : List Int, b'.length = q.length → Ev (fun k => impl_least.l1 k q m b' (i : Int) 1) (leastGo d q (if lessL m b' = true then m else b')) := by
    intro b' hb'
    obtain ⟨K1, h1⟩ := Compare_ev m b' (by omega) (by omega)
    obtain ⟨K2, h2⟩ := ev_get (last m hm)
    obtain ⟨K3, h3⟩ := ev_get (last b' hb')
    refine ⟨K1 + K2 + K3 + 1, fun k hk => ?_⟩
    obtain ⟨k, rfl⟩ : ∃ m, k = m + 1 := ⟨k - 1, by omega⟩
    obtain ⟨c, h4, h5⟩ := h1 k (by omega)
    dsimp only
    rw [impl_least.l1, if_pos (by omega), if_pos (by omega), if_neg (show ¬ ((1 : Int) = 0) by decide), h4, Option.bind_some, Clone_eq m (by omega), Option.bind_some, show wrap64 (1 + 1) = 2 from w64 _ (by decide) (by decide), h2 k (by omega), h3 k (by omega), ← h5]
    by_cases h : c < 0
    · rw [if_pos h, if_pos (decide_eq_true h)]
    · rw [if_neg h, if_neg (by simpa using h)]
  obtain ⟨K1, h1⟩ := Compare_ev q b (by omega) (by omega)
  obtain ⟨K2, h2⟩ := ev_get (second q rfl)
  obtain ⟨K3, h3⟩ := ev_get (second b hb)
  refine ⟨K1 + K2 + K3 + 1, fun k hk => ?_⟩
  obtain ⟨k, rfl⟩ : ∃ m, k = m + 1 := ⟨k - 1, by omega⟩
  obtain ⟨c, h4, h5⟩ := h1 k (by omega)
  dsimp only
  rw [impl_least.l1, if_pos (by omega), if_pos (by omega), if_pos rfl, h4, Option.bind_some, Clone_eq q (by omega), Option.bind_some, show wrap64 (0 + 1) = 1 from w64 _ (by decide) (by decide), h2 k (by omega), h3 k (by omega), ← h5]
  by_cases h : c < 0
  · rw [if_pos h]; simp [h]
  · rw [if_neg h]; simp [h]
theorem least_l0 : ∀ (d : Nat) (i : Nat) (q b : List Int), i + d = 4 → Rng q → b.length = q.length → Ev (fun k => impl_least.l0 k q b (i : Int)) (leastGo d q b) := by
  intro d
  induction d with
  | zero =>
    intro i q b hi hq hb
    refine ⟨1, fun k hk => ?_⟩
    obtain ⟨k, rfl⟩ : ∃ m, k = m + 1 := ⟨k - 1, by omega⟩
    dsimp only
    rw [impl_least.l0, if_neg (by omega)]
    rfl
  | succ d ih =>
    intro i q b hi hq hb
    have hl := hq.1
    have ht := turnL_length q
    have hm := mirrorL_length (turnL q)
    obtain ⟨K1, h1⟩ := ev_get (turn_evR q hq)
    obtain ⟨K2, h2⟩ := ev_get (mirror_evR (turnL q) (turnL_rng hq))
    obtain ⟨K3, h3⟩ := ev_get (least_l1 d i (turnL q) (mirrorL (turnL q)) b (by omega) hm (by omega) (by omega) (fun b' hb' => ih (i + 1) (turnL q) b' (by omega) (turnL_rng hq) hb'))
    refine ⟨K1 + K2 + K3 + 1, fun k hk => ?_⟩
    obtain ⟨k, rfl⟩ : ∃ m, k = m + 1 := ⟨k - 1, by omega⟩
    dsimp only
    rw [impl_least.l0, if_pos (by omega), h1 k (by omega), Option.bind_some, h2 k (by omega), Option.bind_some]
    exact h3 k (by omega)
theorem least_ev (q : List Int) (hq : Rng q) : Ev (fun k => impl_least.f k q) (leastL q) := by
  have hl := hq.1
  obtain ⟨K, hK⟩ := ev_get (least_l0 4 0 q q rfl hq rfl)
  refine ⟨K, fun k hk => ?_⟩
  simp only [impl_least.f, Clone_eq q (by omega), Option.bind_some]
  exact hK k hk
theorem leastGo_length : ∀ (n : Nat) (q b : List Int), b.length = q.length → (leastGo n q b).length = q.length
  | 0, _, _, h => h
  | n + 1, q, b, h => by
    rw [leastGo, leastGo_length n _ _ (by rw [stepL_length q b h, turnL_length]), turnL_length]
end Go.Proofs.Ytnpacpdpgngdpaa.P
namespace Go.Proofs.Ytnpacpdpgngdpaa.P
open Go.RowKit Go.Proofs.YtnpacpdpgngdpaaW.PrintWords Go.Proofs.YtnpacpdpgngdpaaW.PrintLast Go.Proofs.YtnpacpdpgngdpaaW.PrintMore
set_option linter.unusedVariables false
set_option linter.unusedSimpArgs false
theorem Equal_l0 (a b : List Int) (hl : a.length = b.length) (hb : a.length ≤ 1152921504606846976) : ∀ (d i : Nat) (k : Nat), a.length - i = d → i ≤ a.length → d < k →
    slices_Equal_int_int.l0 k a b (a.length : Int) (i : Int) = some (decide (a.drop i = b.drop i)) := by
  intro d
  induction d with
  | zero =>
    intro i k hd hi hk
    obtain ⟨k, rfl⟩ : ∃ m, k = m + 1 := ⟨k - 1, by omega⟩
    rw [slices_Equal_int_int.l0, if_neg (by omega)]
    simp [List.drop_eq_nil_of_le (show a.length ≤ i by omega), List.drop_eq_nil_of_le (show b.length ≤ i by omega)]
  | succ d ih =>
    intro i k hd hi hk
    obtain ⟨k, rfl⟩ : ∃ m, k = m + 1 := ⟨k - 1, by omega⟩
    have h1 : i < a.length := by omega
    rw [slices_Equal_int_int.l0, if_pos (by omega), if_pos (by omega), if_pos (by omega), if_pos (by omega), w64 _ (by omega) (by omega), rd_nat _ _ h1, rd_nat _ _ (show i < b.length by omega)]
    rw [show ((i : Int) + 1) = ((i + 1 : Nat) : Int) by omega, ih (i + 1) k (by omega) (by omega) (by omega)]
    rw [drop_cons a i h1, drop_cons b i (by omega)]
    generalize a.drop (i + 1) = ta, b.drop (i + 1) = tb
    by_cases h : a[i] = b[i]
    · simp [h]
    · simp [h]
theorem Equal_ev (a b : List Int) (hb : a.length ≤ 1152921504606846976) : Ev (fun k => slices_Equal_int_int.f k a b) (decide (a = b)) := by
  refine ⟨a.length + 1, fun k hk => ?_⟩
  simp only [slices_Equal_int_int.f]
  by_cases h : a.length = b.length
  · rw [if_pos (by omega)]
    have := Equal_l0 a b h hb a.length 0 k (by omega) (by omega) (by omega)
    simpa using this
  · rw [if_neg (by omega)]
    congr 1
    symm
    apply decide_eq_false
    intro e
    exact h (by rw [e])
theorem l1Same_l0 (a b : List Int) (hl : a.length = b.length) (hb : a.length ≤ 1152921504606846976) : ∀ (d i : Nat) (k : Nat), a.length - i = d → i ≤ a.length → d < k →
    spec_l1Same.l0 k a b (a.length : Int) (i : Int) = some (decide (a.drop i = b.drop i)) := by
  intro d
  induction d with
  | zero =>
    intro i k hd hi hk
    obtain ⟨k, rfl⟩ : ∃ m, k = m + 1 := ⟨k - 1, by omega⟩
    rw [spec_l1Same.l0, if_neg (by omega)]
    simp [List.drop_eq_nil_of_le (show a.length ≤ i by omega), List.drop_eq_nil_of_le (show b.length ≤ i by omega)]
  | succ d ih =>
    intro i k hd hi hk
    obtain ⟨k, rfl⟩ : ∃ m, k = m + 1 := ⟨k - 1, by omega⟩
    have h1 : i < a.length := by omega
    rw [spec_l1Same.l0, if_pos (by omega), if_pos (by omega), if_pos (by omega), if_pos (by omega), w64 _ (by omega) (by omega), rd_nat _ _ h1, rd_nat _ _ (show i < b.length by omega)]
    rw [show ((i : Int) + 1) = ((i + 1 : Nat) : Int) by omega, ih (i + 1) k (by omega) (by omega) (by omega)]
    rw [drop_cons a i h1, drop_cons b i (by omega)]
    generalize a.drop (i + 1) = ta, b.drop (i + 1) = tb
    by_cases h : a[i] = b[i]
    · simp [h]
    · simp [h]
theorem l1Same_ev (a b : List Int) (hb : a.length ≤ 1152921504606846976) : Ev (fun k => spec_l1Same.f k a b) (decide (a = b)) := by
  refine ⟨a.length + 1, fun k hk => ?_⟩
  simp only [spec_l1Same.f]
  by_cases h : a.length = b.length
  · rw [if_pos (by omega)]
    have := l1Same_l0 a b h hb a.length 0 k (by omega) (by omega) (by omega)
    simpa using this
  · rw [if_neg (by omega)]
    congr 1
    symm
    apply decide_eq_false
    intro e
    exact h (by rw [e])
/-- Counting over a list: each round asks 'p' of one element. -/
theorem count_loop (L : List (List Int)) (p : List Int → Bool) (l0 : Nat → Int → Int → Option (Int × Bool)) (t : Bool) (hL : L.length ≤ 16777216)
    (hend : ∀ k x i, (L.length : Int) ≤ i → l0 (k + 1) x i = some (x, t))
    (hstep : ∀ (i : Nat) (h : i < L.length), ∃ K, ∀ k, K ≤ k → ∀ x : Int, l0 (k + 1) x (i : Int) = if p L[i] = true then l0 k (wrap64 (x + 1)) ((i + 1 : Nat) : Int) else l0 k x ((i + 1 : Nat) : Int)) :
    ∀ (d i : Nat) (x : Int), L.length - i = d → i ≤ L.length → 0 ≤ x → x ≤ i → Ev (fun k => l0 k x (i : Int)) (x + ((L.drop i).countP p : Nat), t) := by
  intro d
  induction d with
  | zero =>
    intro i x hd hi h0 h1
    refine ⟨1, fun k hk => ?_⟩
    obtain ⟨k, rfl⟩ : ∃ m, k = m + 1 := ⟨k - 1, by omega⟩
    dsimp only
    rw [hend k x i (by omega), List.drop_eq_nil_of_le (by omega)]
    simp
  | succ d ih =>
    intro i x hd hi h0 h1
    have hil : i < L.length := by omega
    obtain ⟨K1, k1⟩ := hstep i hil
    obtain ⟨K2, k2⟩ := ev_get (ih (i + 1) (x + 1) (by omega) (by omega) (by omega) (by omega))
    obtain ⟨K3, k3⟩ := ev_get (ih (i + 1) x (by omega) (by omega) (by omega) (by omega))
    refine ⟨K1 + K2 + K3 + 1, fun k hk => ?_⟩
    obtain ⟨k, rfl⟩ : ∃ m, k = m + 1 := ⟨k - 1, by omega⟩
    dsimp only
    rw [k1 k (by omega) x, w64 (x + 1) (by omega) (by omega), k2 k (by omega), k3 k (by omega), List.drop_eq_getElem_cons hil, List.countP_cons]
    by_cases hp : p L[i] = true
    · rw [if_pos hp, if_pos hp]; congr 2; omega
    · rw [if_neg hp, if_neg hp]; rfl
def diff (q : List Int) : Bool := decide (q = leastL q)
theorem allQ_rng {N : Nat} (h1 : 1 ≤ N) (h8 : N ≤ 8) {q : List Int} (h : q ∈ allQ N) : Rng q := by
  obtain ⟨ho, hl⟩ := allQ_row h
  exact ⟨by omega, fun x hx => by have := ho.2 x hx; omega⟩
theorem leastL_length (q : List Int) : (leastL q).length = q.length := leastGo_length 4 q q rfl
theorem implDiff_ev (N : Nat) (h1 : 1 ≤ N) (h8 : N ≤ 8) (t : Bool) : Ev (fun k => impl_CountDifferent.l0 k t 0 (allQ N) ((allQ N).length : Int) 0) (((allQ N).countP diff : Nat), t) := by
  have hlen := allQ_len N h8
  have := count_loop (allQ N) diff (fun k x i => impl_CountDifferent.l0 k t x (allQ N) ((allQ N).length : Int) i) t hlen
    (fun k x i hi => by show impl_CountDifferent.l0 (k + 1) t x _ _ i = _; rw [impl_CountDifferent.l0, if_neg (by omega)])
    (fun i hi => by
      have hr := allQ_rng h1 h8 (List.getElem_mem hi)
      have hl := hr.1
      obtain ⟨K1, k1⟩ := ev_get (least_ev (allQ N)[i] hr)
      obtain ⟨K2, k2⟩ := ev_get (Equal_ev (allQ N)[i] (leastL (allQ N)[i]) (by omega))
      refine ⟨K1 + K2, fun k hk x => ?_⟩
      show impl_CountDifferent.l0 (k + 1) t x _ _ (i : Int) = _
      rw [impl_CountDifferent.l0, if_pos (by omega), if_pos (by omega), if_pos (by omega), rdL_nat _ _ hi, k1 k (by omega), Option.bind_some, k2 k (by omega), Option.bind_some, w64 ((i : Int) + 1) (by omega) (by omega), show ((i : Int) + 1) = ((i + 1 : Nat) : Int) by omega]
      rfl)
    (allQ N).length 0 0 (by omega) (by omega) (by omega) (by omega)
  simpa using this
theorem specDiff_ev (N : Nat) (h1 : 1 ≤ N) (h8 : N ≤ 8) : Ev (fun k => spec_CountDifferent.l0 k 0 (allQ N) ((allQ N).length : Int) 0) (((allQ N).countP diff : Nat), true) := by
  have hlen := allQ_len N h8
  have := count_loop (allQ N) diff (fun k x i => spec_CountDifferent.l0 k x (allQ N) ((allQ N).length : Int) i) true hlen
    (fun k x i hi => by show spec_CountDifferent.l0 (k + 1) x _ _ i = _; rw [spec_CountDifferent.l0, if_neg (by omega)])
    (fun i hi => by
      have hr := allQ_rng h1 h8 (List.getElem_mem hi)
      have hl := hr.1
      have hll := leastL_length (allQ N)[i]
      obtain ⟨K1, k1⟩ := ev_get (quLeast_ev (allQ N)[i] hr)
      obtain ⟨K2, k2⟩ := ev_get (l1Same_ev (leastL (allQ N)[i]) (allQ N)[i] (by omega))
      refine ⟨K1 + K2, fun k hk x => ?_⟩
      show spec_CountDifferent.l0 (k + 1) x _ _ (i : Int) = _
      rw [spec_CountDifferent.l0, if_pos (by omega), if_pos (by omega), if_pos (by omega), rdL_nat _ _ hi, k1 k (by omega), Option.bind_some, k2 k (by omega), Option.bind_some, w64 ((i : Int) + 1) (by omega) (by omega), show ((i : Int) + 1) = ((i + 1 : Nat) : Int) by omega]
      have : decide (leastL (allQ N)[i] = (allQ N)[i]) = diff (allQ N)[i] := decide_eq_decide.2 ⟨fun h => h.symm, fun h => h.symm⟩
      rw [this])
    (allQ N).length 0 0 (by omega) (by omega) (by omega) (by omega)
  simpa using this
end Go.Proofs.Ytnpacpdpgngdpaa.P
namespace Go.Proofs.Ytnpacpdpgngdpaa.P
open Go.RowKit Go.Proofs.YtnpacpdpgngdpaaW.PrintWords Go.Proofs.YtnpacpdpgngdpaaW.PrintLast Go.Proofs.YtnpacpdpgngdpaaW.PrintMore
set_option linter.unusedVariables false
set_option linter.unusedSimpArgs false
theorem kLessL_l0 (a b : List Int) (hl : a.length = b.length) (hb : a.length ≤ 1152921504606846976) : ∀ (d i : Nat) (k : Nat), a.length - i = d → i ≤ a.length → d < k →
    laws_kLess.l0 k a b (a.length : Int) (i : Int) = some (lessL (a.drop i) (b.drop i)) := by
  intro d
  induction d with
  | zero =>
    intro i k hd hi hk
    obtain ⟨k, rfl⟩ : ∃ m, k = m + 1 := ⟨k - 1, by omega⟩
    rw [laws_kLess.l0, if_neg (by omega), List.drop_eq_nil_of_le (show a.length ≤ i by omega)]
    rfl
  | succ d ih =>
    intro i k hd hi hk
    obtain ⟨k, rfl⟩ : ∃ m, k = m + 1 := ⟨k - 1, by omega⟩
    have h1 : i < a.length := by omega
    rw [laws_kLess.l0, if_pos (by omega), if_pos (by omega), if_pos (by omega), if_pos (by omega), rd_nat _ _ h1, rd_nat _ _ (show i < b.length by omega), w64 _ (by omega) (by omega), show ((i : Int) + 1) = ((i + 1 : Nat) : Int) by omega, ih (i + 1) k (by omega) (by omega) (by omega), drop_cons a i h1, drop_cons b i (by omega)]
    generalize a.drop (i + 1) = ta, b.drop (i + 1) = tb
    rw [lessL]
    split <;> rfl
theorem kLessL_ev (a b : List Int) (hl : a.length = b.length) (hb : a.length ≤ 1152921504606846976) : Ev (fun k => laws_kLess.f k a b) (lessL a b) := by
  refine ⟨a.length + 1, fun k hk => ?_⟩
  simp only [laws_kLess.f]
  simpa using kLessL_l0 a b hl hb a.length 0 k (by omega) (by omega) (by omega)
theorem nodup_len {α : Type} [DecidableEq α] : ∀ (l m : List α), l.Nodup → (∀ x ∈ l, x ∈ m) → l.length ≤ m.length
  | [], m, _, _ => Nat.zero_le _
  | a :: l, m, h, hs => by
    have h1 := List.nodup_cons.1 h
    have h2 := hs a (List.mem_cons_self ..)
    have h3 := nodup_len l (m.erase a) h1.2 (fun x hx => (List.mem_erase_of_ne (by intro e; subst e; exact h1.1 hx)).2 (hs x (List.mem_cons_of_mem _ hx)))
    have h4 := List.length_pos_of_mem h2
    rw [List.length_erase_of_mem h2] at h3
    simp only [List.length_cons]
    omega
def Gd (n : Nat) (q : List Int) : Prop := goodB q = true ∧ q.length = n
def on (q : List Int) (a b : Nat) : Prop := q.getD a 0 = (b : Int)
theorem gd_len {n : Nat} {q : List Int} (h : Gd n q) : 1 ≤ n ∧ n ≤ 8 := h.2 ▸ good_len h.1
theorem gd_at {n : Nat} {q : List Int} (h : Gd n q) {a : Nat} (ha : a < n) : ∃ b, b < n ∧ on q a b := by
  obtain ⟨hg, rfl⟩ := h
  have := good_at hg a ha
  exact ⟨q[a].toNat, by omega, by unfold on; rw [getD_eq q a ha]; omega⟩
theorem gd_inj {n : Nat} {q : List Int} (h : Gd n q) {a a' b : Nat} (ha : a < n) (ha' : a' < n) (h1 : on q a b) (h2 : on q a' b) : a = a' := by
  obtain ⟨hg, rfl⟩ := h
  unfold on at h1 h2
  rw [getD_eq q a ha] at h1
  rw [getD_eq q a' ha'] at h2
  exact (List.getElem_inj ((goodB_iff q).1 hg).2.2.2).1 (h1.trans h2.symm)
theorem gd_onto {n : Nat} {q : List Int} (h : Gd n q) {b : Nat} (hb : b < n) : ∃ a, a < n ∧ on q a b := by
  obtain ⟨hg, rfl⟩ := h
  have hq := (goodB_iff q).1 hg
  by_cases hm : (b : Int) ∈ q
  · obtain ⟨a, ha, e⟩ := List.getElem_of_mem hm
    exact ⟨a, ha, by unfold on; rw [getD_eq q a ha, e]⟩
  · have h1 := nodup_len q (((List.range q.length).map fun (x : Nat) => (x : Int)).erase (b : Int)) hq.2.2.2 (fun x hx => by
      have hx2 := hq.2.2.1 x hx
      refine (List.mem_erase_of_ne (by intro e; subst e; exact hm hx)).2 ?_
      rw [List.mem_map]
      exact ⟨x.toNat, List.mem_range.2 (by omega), by omega⟩)
    rw [List.length_erase_of_mem (by rw [List.mem_map]; exact ⟨b, List.mem_range.2 hb, rfl⟩)] at h1
    simp at h1
    omega
theorem gd_ext {n : Nat} {p q : List Int} (hp : Gd n p) (hq : Gd n q) (h : ∀ a b, a < n → b < n → on p a b → on q a b) : p = q := by
  apply List.ext_getElem
  · rw [hp.2, hq.2]
  · intro a h1 h2
    obtain ⟨b, hb, e⟩ := gd_at hp (show a < n by rw [← hp.2]; exact h1)
    have e2 := h a b (by rw [← hp.2]; exact h1) hb e
    unfold on at e e2
    rw [getD_eq p a h1] at e
    rw [getD_eq q a h2] at e2
    rw [e, e2]
theorem turnGo_miss (n : Int) (c : Nat) : ∀ (cs : List Int) (i : Nat) (acc : List Int), (∀ x ∈ cs, x.toNat ≠ c) → (turnGo n cs i acc).getD c 0 = acc.getD c 0
  | [], _, _, _ => rfl
  | x :: cs, i, acc, h => by
    rw [turnGo, turnGo_miss n c cs _ _ (fun y hy => h y (List.mem_cons_of_mem _ hy))]
    have := h x (List.mem_cons_self ..)
    simp [List.getD_eq_getElem?_getD, List.getElem?_set, this]
theorem turnGo_hit (n : Int) (c : Nat) : ∀ (cs : List Int) (i : Nat) (acc : List Int) (k : Nat), c < acc.length → (hk : k < cs.length) → cs[k].toNat = c → (∀ j, (hj : j < cs.length) → k < j → cs[j].toNat ≠ c) →
    (turnGo n cs i acc).getD c 0 = n - 1 - ((i + k : Nat) : Int)
  | x :: cs, i, acc, 0, ha, hk, he, hn => by
    rw [turnGo, turnGo_miss n c cs _ _ (fun y hy => by
      obtain ⟨j, hj, rfl⟩ := List.getElem_of_mem hy
      have := hn (j + 1) (by simp; omega) (by omega)
      simpa using this)]
    simp only [List.getElem_cons_zero] at he
    simp [List.getD_eq_getElem?_getD, he, ha]
  | x :: cs, i, acc, k + 1, ha, hk, he, hn => by
    rw [turnGo, turnGo_hit n c cs (i + 1) _ k (by simpa using ha) (by simpa using hk) (by simpa using he) (fun j hj hkj => by
      have := hn (j + 1) (by simp; omega) (by omega)
      simpa using this)]
    congr 1
    omega
theorem turn_val {n : Nat} {q : List Int} (h : Gd n q) {r c : Nat} (hr : r < n) (hc : c < n) (e : on q r c) : on (turnL q) c (n - 1 - r) := by
  have hinj := fun (a : Nat) (ha : a < n) (e2 : on q a c) => gd_inj h hr ha e e2
  obtain ⟨hg, rfl⟩ := h
  unfold on at e ⊢
  rw [getD_eq q r hr] at e
  unfold turnL
  rw [turnGo_hit (q.length : Int) c q 0 _ r (by simpa using hc) hr (by rw [e]; omega) (fun j hj hrj ej => by
    have h1 := good_at hg j hj
    have := hinj j hj (by unfold on; rw [getD_eq q j hj]; omega)
    omega)]
  omega
theorem turn_gd {n : Nat} {q : List Int} (h : Gd n q) : Gd n (turnL q) := by
  have hn := gd_len h
  have hl : (turnL q).length = n := (turnL_length q).trans h.2
  refine ⟨?_, hl⟩
  rw [goodB_iff, hl]
  refine ⟨hn.1, hn.2, fun x hx => ?_, ?_⟩
  · obtain ⟨c, hc, rfl⟩ := List.getElem_of_mem hx
    obtain ⟨r, hr, e⟩ := gd_onto h (show c < n by omega)
    have := turn_val h hr (by omega) e
    unfold on at this
    rw [getD_eq _ _ hc] at this
    omega
  · rw [List.nodup_iff_pairwise_ne, List.pairwise_iff_getElem]
    intro i j hi hj hij e
    obtain ⟨r, hr, e1⟩ := gd_onto h (show i < n by omega)
    obtain ⟨s, hs, e2⟩ := gd_onto h (show j < n by omega)
    have h1 := turn_val h hr (by omega) e1
    have h2 := turn_val h hs (by omega) e2
    unfold on at h1 h2 e1 e2
    rw [getD_eq _ _ hi] at h1
    rw [getD_eq _ _ hj] at h2
    have : r = s := by omega
    subst this
    omega
theorem on_T {n : Nat} {q : List Int} (h : Gd n q) {a b : Nat} (ha : a < n) (hb : b < n) : on (turnL q) a b ↔ on q (n - 1 - b) a := by
  constructor
  · intro e
    obtain ⟨r, hr, e1⟩ := gd_onto h ha
    have h1 := turn_val h hr ha e1
    unfold on at e h1
    have : n - 1 - b = r := by omega
    rw [this]
    exact e1
  · intro e
    have := turn_val h (show n - 1 - b < n by omega) ha e
    rwa [show n - 1 - (n - 1 - b) = b by omega] at this
theorem mirror_val {n : Nat} {q : List Int} (h : q.length = n) {a : Nat} (ha : a < n) : (mirrorL q).getD a 0 = (n : Int) - 1 - q.getD a 0 := by
  subst h
  rw [getD_eq q a ha, getD_eq _ _ (by rw [mirrorL_length]; exact ha)]
  simp [mirrorL]
theorem on_M {n : Nat} {q : List Int} (h : Gd n q) {a b : Nat} (ha : a < n) (hb : b < n) : on (mirrorL q) a b ↔ on q a (n - 1 - b) := by
  unfold on
  rw [mirror_val h.2 ha]
  omega
theorem mirror_gd {n : Nat} {q : List Int} (h : Gd n q) : Gd n (mirrorL q) := by
  have hn := gd_len h
  have hl : (mirrorL q).length = n := (mirrorL_length q).trans h.2
  refine ⟨?_, hl⟩
  rw [goodB_iff, hl]
  refine ⟨hn.1, hn.2, fun x hx => ?_, ?_⟩
  · obtain ⟨c, hc, rfl⟩ := List.getElem_of_mem hx
    have h1 := mirror_val h.2 (show c < n by omega)
    rw [getD_eq _ _ hc] at h1
    obtain ⟨b, hb, e⟩ := gd_at h (show c < n by omega)
    unfold on at e
    omega
  · rw [List.nodup_iff_pairwise_ne, List.pairwise_iff_getElem]
    intro i j hi hj hij e
    have h1 := mirror_val h.2 (show i < n by omega)
    have h2 := mirror_val h.2 (show j < n by omega)
    rw [getD_eq _ _ hi] at h1
    rw [getD_eq _ _ hj] at h2
    obtain ⟨b, hb, e1⟩ := gd_at h (show i < n by omega)
    have e2 : on q j b := by unfold on at e1 ⊢; omega
    have := gd_inj h (show i < n by omega) (show j < n by omega) e1 e2
    omega
theorem turn4 {n : Nat} {q : List Int} (h : Gd n q) : turnL (turnL (turnL (turnL q))) = q := by
  have h1 := turn_gd h
  have h2 := turn_gd h1
  have h3 := turn_gd h2
  refine gd_ext (turn_gd h3) h (fun a b ha hb e => ?_)
  rw [on_T h3 ha hb, on_T h2 (by omega) ha, on_T h1 (by omega) (by omega), on_T h (by omega) (by omega)] at e
  rwa [show n - 1 - (n - 1 - a) = a by omega, show n - 1 - (n - 1 - b) = b by omega] at e
theorem mirror2 {n : Nat} {q : List Int} (h : Gd n q) : mirrorL (mirrorL q) = q := by
  have h1 := mirror_gd h
  refine gd_ext (mirror_gd h1) h (fun a b ha hb e => ?_)
  rw [on_M h1 ha hb, on_M h ha (by omega)] at e
  rwa [show n - 1 - (n - 1 - b) = b by omega] at e
theorem turn_mirror {n : Nat} {q : List Int} (h : Gd n q) : turnL (mirrorL q) = mirrorL (turnL (turnL (turnL q))) := by
  have h1 := turn_gd h
  have h2 := turn_gd h1
  have h3 := turn_gd h2
  refine gd_ext (turn_gd (mirror_gd h)) (mirror_gd h3) (fun a b ha hb e => ?_)
  rw [on_T (mirror_gd h) ha hb, on_M h (by omega) ha] at e
  rw [on_M h3 ha hb, on_T h2 ha (by omega), on_T h1 (by omega) ha, on_T h (by omega) (by omega)]
  rwa [show n - 1 - (n - 1 - b) = b by omega]
theorem lessL_irr : ∀ a : List Int, lessL a a = false
  | [] => rfl
  | x :: a => by rw [lessL, if_pos rfl]; exact lessL_irr a
theorem lessL_trans : ∀ a b c : List Int, lessL a b = true → lessL b c = true → lessL a c = true
  | [], _, _, h, _ => by simp [lessL] at h
  | _ :: _, [], _, h, _ => by simp [lessL] at h
  | _ :: _, _ :: _, [], _, h => by simp [lessL] at h
  | x :: a, y :: b, z :: c, h1, h2 => by
    rw [lessL] at h1 h2 ⊢
    by_cases e1 : x = y
    · subst e1
      rw [if_pos rfl] at h1
      by_cases e2 : x = z
      · rw [if_pos e2] at h2 ⊢; exact lessL_trans a b c h1 h2
      · rw [if_neg e2] at h2 ⊢; exact h2
    · rw [if_neg e1] at h1
      have h1 := of_decide_eq_true h1
      by_cases e2 : y = z
      · subst e2
        rw [if_neg e1]
        exact decide_eq_true h1
      · rw [if_neg e2] at h2
        have h2 := of_decide_eq_true h2
        rw [if_neg (by omega)]
        exact decide_eq_true (by omega)
theorem lessL_total : ∀ a b : List Int, a.length = b.length → lessL a b = false → lessL b a = false → a = b
  | [], [], _, _, _ => rfl
  | [], _ :: _, h, _, _ => by simp at h
  | _ :: _, [], h, _, _ => by simp at h
  | x :: a, y :: b, hl, h1, h2 => by
    rw [lessL] at h1 h2
    by_cases e : x = y
    · subst e
      rw [if_pos rfl] at h1 h2
      rw [lessL_total a b (by simpa using hl) h1 h2]
    · rw [if_neg e] at h1
      rw [if_neg (fun h => e h.symm)] at h2
      have h1 := of_decide_eq_false h1
      have h2 := of_decide_eq_false h2
      omega
def pickL (b x : List Int) : List Int := if lessL x b = true then x else b
/-- What is not less than the first one is not less than the least one, or the least one is less than the first. -/
theorem pick_le : ∀ (l : List (List Int)) (b : List Int), l.foldl pickL b = b ∨ lessL (l.foldl pickL b) b = true
  | [], b => .inl rfl
  | y :: l, b => by
    rw [List.foldl_cons]
    have h := pick_le l (pickL b y)
    by_cases hy : lessL y b = true
    · have e : pickL b y = y := if_pos hy
      rw [e] at h ⊢
      rcases h with h | h
      · exact .inr (by rw [h]; exact hy)
      · exact .inr (lessL_trans _ _ _ h hy)
    · have e : pickL b y = b := if_neg hy
      rw [e] at h ⊢
      exact h
theorem pick_spec : ∀ (l : List (List Int)) (b : List Int), l.foldl pickL b ∈ b :: l ∧ ∀ x ∈ b :: l, lessL x (l.foldl pickL b) = false
  | [], b => by simp [lessL_irr]
  | y :: l, b => by
    obtain ⟨h1, h2⟩ := pick_spec l (pickL b y)
    rw [List.foldl_cons]
    have key : ∀ z, (lessL z (pickL b y) = false) → lessL z (l.foldl pickL (pickL b y)) = false := by
      intro z hz
      rcases pick_le l (pickL b y) with e | hlt
      · rw [e]; exact hz
      · cases hq : lessL z (l.foldl pickL (pickL b y)) with
        | false => rfl
        | true => rw [lessL_trans _ _ _ hq hlt] at hz; cases hz
    refine ⟨?_, fun x hx => ?_⟩
    · rcases List.mem_cons.1 h1 with e | hm
      · rw [e]
        unfold pickL
        split
        · exact List.mem_cons_of_mem _ (List.mem_cons_self ..)
        · exact List.mem_cons_self ..
      · exact List.mem_cons_of_mem _ (List.mem_cons_of_mem _ hm)
    · rcases List.mem_cons.1 hx with rfl | hx
      · apply key
        unfold pickL
        split
        · rename_i h
          cases hq : lessL x y with
          | false => rfl
          | true => have := lessL_trans _ _ _ h hq; rw [lessL_irr] at this; cases this
        · exact lessL_irr _
      · rcases List.mem_cons.1 hx with rfl | hx
        · apply key
          unfold pickL
          split
          · exact lessL_irr _
          · rename_i h; simpa using h
        · exact h2 x (List.mem_cons_of_mem _ hx)
/-- The eight lists (and two of them again), as the program goes through them. -/
def orbitL (q : List Int) : List (List Int) := [q, turnL q, mirrorL (turnL q), turnL (turnL q), mirrorL (turnL (turnL q)), turnL (turnL (turnL q)), mirrorL (turnL (turnL (turnL q))), turnL (turnL (turnL (turnL q))), mirrorL (turnL (turnL (turnL (turnL q))))]
theorem least_spec (q : List Int) : leastL q ∈ orbitL q ∧ ∀ x ∈ orbitL q, lessL x (leastL q) = false := pick_spec [turnL q, mirrorL (turnL q), turnL (turnL q), mirrorL (turnL (turnL q)), turnL (turnL (turnL q)), mirrorL (turnL (turnL (turnL q))), turnL (turnL (turnL (turnL q))), mirrorL (turnL (turnL (turnL (turnL q))))] q
theorem orbit_gd {n : Nat} {q : List Int} (h : Gd n q) : ∀ x ∈ orbitL q, Gd n x := by
  have h1 := turn_gd h
  have h2 := turn_gd h1
  have h3 := turn_gd h2
  have h4 := turn_gd h3
  intro x hx
  unfold orbitL at hx
  simp only [List.mem_cons, List.not_mem_nil, or_false] at hx
  rcases hx with rfl | rfl | rfl | rfl | rfl | rfl | rfl | rfl | rfl
  · exact h
  · exact h1
  · exact mirror_gd h1
  · exact h2
  · exact mirror_gd h2
  · exact h3
  · exact mirror_gd h3
  · exact h4
  · exact mirror_gd h4
theorem least_same {n : Nat} {p q : List Int} (hp : Gd n p) (hq : Gd n q) (h : ∀ x, x ∈ orbitL p ↔ x ∈ orbitL q) : leastL p = leastL q := by
  obtain ⟨a1, a2⟩ := least_spec p
  obtain ⟨b1, b2⟩ := least_spec q
  refine lessL_total _ _ ?_ ?_ ?_
  · rw [leastL_length, leastL_length, hp.2, hq.2]
  · exact b2 _ ((h _).1 a1)
  · exact a2 _ ((h _).2 b1)
theorem orbit_T {n : Nat} {q : List Int} (h : Gd n q) (x : List Int) : x ∈ orbitL (turnL q) ↔ x ∈ orbitL q := by
  unfold orbitL
  simp only [turn4 h, List.mem_cons, List.not_mem_nil, or_false]
  constructor <;> (intro hx; rcases hx with hx | hx | hx | hx | hx | hx | hx | hx | hx <;> simp [hx])
theorem orbit_M {n : Nat} {q : List Int} (h : Gd n q) (x : List Int) : x ∈ orbitL (mirrorL q) ↔ x ∈ orbitL q := by
  have h1 := turn_gd h
  have h2 := turn_gd h1
  have h3 := turn_gd h2
  unfold orbitL
  simp only [turn_mirror h, turn_mirror h3, turn4 h, turn_mirror h2, turn_mirror h1, mirror2 h, mirror2 h1, mirror2 h2, mirror2 h3, List.mem_cons, List.not_mem_nil, or_false]
  constructor <;> (intro hx; rcases hx with hx | hx | hx | hx | hx | hx | hx | hx | hx <;> simp [hx])
theorem least_T {n : Nat} {q : List Int} (h : Gd n q) : leastL (turnL q) = leastL q := least_same (turn_gd h) h (orbit_T h)
theorem least_M {n : Nat} {q : List Int} (h : Gd n q) : leastL (mirrorL q) = leastL q := least_same (mirror_gd h) h (orbit_M h)
theorem least_orbit {n : Nat} {q : List Int} (h : Gd n q) {x : List Int} (hx : x ∈ orbitL q) : leastL x = leastL q := by
  have h1 := turn_gd h
  have h2 := turn_gd h1
  have h3 := turn_gd h2
  have h4 := turn_gd h3
  unfold orbitL at hx
  simp only [List.mem_cons, List.not_mem_nil, or_false] at hx
  rcases hx with rfl | rfl | rfl | rfl | rfl | rfl | rfl | rfl | rfl
  · rfl
  · rw [least_T h]
  · rw [least_M h1, least_T h]
  · rw [least_T h1, least_T h]
  · rw [least_M h2, least_T h1, least_T h]
  · rw [least_T h2, least_T h1, least_T h]
  · rw [least_M h3, least_T h2, least_T h1, least_T h]
  · rw [least_T h3, least_T h2, least_T h1, least_T h]
  · rw [least_M h4, least_T h3, least_T h2, least_T h1, least_T h]
/-- What a list comes from is one of eight. -/
def eightL (q : List Int) : List (List Int) := [q, turnL q, turnL (turnL q), turnL (turnL (turnL q)), mirrorL q, mirrorL (turnL q), mirrorL (turnL (turnL q)), mirrorL (turnL (turnL (turnL q)))]
theorem eight_back {n : Nat} {q : List Int} (h : Gd n q) {x : List Int} (hx : x ∈ orbitL q) : q ∈ eightL x := by
  have h1 := turn_gd h
  have h2 := turn_gd h1
  have h3 := turn_gd h2
  have h4 := turn_gd h3
  have t0 := turn4 h
  have t1 := turn4 h1
  have t2 := turn4 h2
  have t3 := turn4 h3
  unfold orbitL at hx
  unfold eightL
  simp only [List.mem_cons, List.not_mem_nil, or_false] at hx ⊢
  rcases hx with rfl | rfl | rfl | rfl | rfl | rfl | rfl | rfl | rfl
  · simp
  · simp [t0]
  · simp only [turn_mirror h1, turn_mirror h2, turn_mirror h3, t0, turn_mirror h, mirror2 h, mirror2 h1, mirror2 h2, mirror2 h3]; simp
  · simp [t0]
  · simp only [turn_mirror h1, turn_mirror h2, turn_mirror h3, t0, turn_mirror h, mirror2 h, mirror2 h1, mirror2 h2, mirror2 h3]; simp
  · simp [t0]
  · simp only [turn_mirror h1, turn_mirror h2, turn_mirror h3, t0, turn_mirror h, mirror2 h, mirror2 h1, mirror2 h2, mirror2 h3]; simp
  · simp [t0]
  · simp only [turn_mirror h1, turn_mirror h2, turn_mirror h3, t0, turn_mirror h, mirror2 h, mirror2 h1, mirror2 h2, mirror2 h3]; simp
theorem att_on {q : List Int} {r s c d : Nat} (hr : on q r c) (hs : on q s d) : att q r s = decide (((c : Int) - d).natAbs = ((s : Int) - r).natAbs) := by
  unfold on at hr hs
  unfold att
  rw [hr, hs]
theorem allP_nodup (q : List Int) : (allP q 0).Nodup := by
  unfold allP
  rw [List.nodup_iff_pairwise_ne, List.pairwise_flatMap]
  constructor
  · intro r _
    unfold rowP
    rw [List.pairwise_map]
    refine (List.Pairwise.filter _ ?_)
    have := List.nodup_range' (s := r + 1) (n := q.length - (r + 1)) (step := 1) (by omega)
    rw [List.nodup_iff_pairwise_ne] at this
    refine this.imp (fun {a b} hab e => hab ?_)
    simp at e
    omega
  · have := List.nodup_range' (s := 0) (n := q.length - 0) (step := 1) (by omega)
    rw [List.nodup_iff_pairwise_ne] at this
    refine this.imp (fun {a b} hab x hx y hy e => hab ?_)
    unfold rowP at hx hy
    rw [List.mem_map] at hx hy
    obtain ⟨s, _, rfl⟩ := hx
    obtain ⟨s', _, rfl⟩ := hy
    simp at e
    omega
/-- Attacking pairs are attacking pairs behind a turn. -/
theorem att_turn {n : Nat} {q : List Int} (h : Gd n q) {r s c d : Nat} (hr : r < n) (hs : s < n) (hc : c < n) (hd : d < n) (e1 : on q r c) (e2 : on q s d) (ha : att q r s = true) : att (turnL q) c d = true ∧ att (turnL q) d c = true := by
  have h1 := turn_val h hr hc e1
  have h2 := turn_val h hs hd e2
  rw [att_on e1 e2] at ha
  have ha := of_decide_eq_true ha
  rw [att_on h1 h2, att_on h2 h1]
  exact ⟨decide_eq_true (by omega), decide_eq_true (by omega)⟩
theorem att_le {n : Nat} {q : List Int} (h : Gd n q) : (allP q 0).length ≤ (allP (turnL q) 0).length := by
  have hl := h.2
  have hl2 := (turn_gd h).2
  let f : List Int → List Int := fun p => if q.getD (p.getD 0 0).toNat 0 < q.getD (p.getD 1 0).toNat 0 then [q.getD (p.getD 0 0).toNat 0, q.getD (p.getD 1 0).toNat 0] else [q.getD (p.getD 1 0).toNat 0, q.getD (p.getD 0 0).toNat 0]
  have hf : ∀ r s : Nat, f [(r : Int), (s : Int)] = if q.getD r 0 < q.getD s 0 then [q.getD r 0, q.getD s 0] else [q.getD s 0, q.getD r 0] := fun r s => by simp [f]
  have := nodup_len ((allP q 0).map f) (allP (turnL q) 0) ?_ ?_
  · simpa using this
  · rw [List.nodup_iff_pairwise_ne, List.pairwise_map]
    have hn := allP_nodup q
    rw [List.nodup_iff_pairwise_ne] at hn
    refine List.Pairwise.imp_of_mem ?_ hn
    intro x y hx hy hxy e
    obtain ⟨r, s, hrs, hs, _, rfl⟩ := (allP_mem q x).1 hx
    obtain ⟨r', s', hrs', hs', _, rfl⟩ := (allP_mem q y).1 hy
    rw [hf, hf] at e
    obtain ⟨c, hc, ec⟩ := gd_at h (show r < n by omega)
    obtain ⟨d, hd, ed⟩ := gd_at h (show s < n by omega)
    obtain ⟨c', hc', ec'⟩ := gd_at h (show r' < n by omega)
    obtain ⟨d', hd', ed'⟩ := gd_at h (show s' < n by omega)
    have i1 := fun (e : c = c') => gd_inj h (show r < n by omega) (show r' < n by omega) ec (e ▸ ec')
    have i2 := fun (e : d = d') => gd_inj h (show s < n by omega) (show s' < n by omega) ed (e ▸ ed')
    have i3 := fun (e : c = d') => gd_inj h (show r < n by omega) (show s' < n by omega) ec (e ▸ ed')
    have i4 := fun (e : d = c') => gd_inj h (show s < n by omega) (show r' < n by omega) ed (e ▸ ec')
    unfold on at ec ed ec' ed'
    rw [ec, ed, ec', ed'] at e
    apply hxy
    have key : r = r' ∧ s = s' := by
      split at e <;> split at e <;> simp only [List.cons.injEq, and_true] at e
      · exact ⟨i1 (by omega), i2 (by omega)⟩
      · have := i3 (by omega); have := i4 (by omega); omega
      · have := i3 (by omega); have := i4 (by omega); omega
      · exact ⟨i1 (by omega), i2 (by omega)⟩
    rw [key.1, key.2]
  · intro x hx
    rw [List.mem_map] at hx
    obtain ⟨y, hy, rfl⟩ := hx
    obtain ⟨r, s, hrs, hs, ha, rfl⟩ := (allP_mem q y).1 hy
    obtain ⟨c, hc, ec⟩ := gd_at h (show r < n by omega)
    obtain ⟨d, hd, ed⟩ := gd_at h (show s < n by omega)
    have hne : c ≠ d := fun e => by have := gd_inj h (show r < n by omega) (show s < n by omega) ec (e ▸ ed); omega
    obtain ⟨a1, a2⟩ := att_turn h (by omega) (by omega) hc hd ec ed ha
    rw [hf, allP_mem]
    unfold on at ec ed
    rw [ec, ed]
    by_cases hcd : c < d
    · exact ⟨c, d, hcd, by omega, a1, if_pos (by omega)⟩
    · exact ⟨d, c, by omega, by omega, a2, if_neg (by omega)⟩
theorem att_same {n : Nat} {q : List Int} (h : Gd n q) : (allP (turnL q) 0).length = (allP q 0).length := by
  have h1 := turn_gd h
  have h2 := turn_gd h1
  have h3 := turn_gd h2
  have a0 := att_le h
  have a1 := att_le h1
  have a2 := att_le h2
  have a3 := att_le h3
  rw [turn4 h] at a3
  omega
theorem free_turn {n : Nat} {q : List Int} (h : Gd n q) (hf : freeB q = true) : freeB (turnL q) = true := by
  have h1 := freeB_allP q
  have h2 := freeB_allP (turnL q)
  have := att_same h
  rw [hf] at h1
  rw [← h2]
  rw [beq_iff_eq] at h1 ⊢
  omega
theorem free_mirror {n : Nat} {q : List Int} (h : Gd n q) (hf : freeB q = true) : freeB (mirrorL q) = true := by
  unfold freeB at hf ⊢
  have hf := of_decide_eq_true hf
  apply decide_eq_true
  intro s hs r hr
  have hl : (mirrorL q).length = q.length := mirrorL_length q
  have := hf s (by omega) r hr
  unfold att at this ⊢
  have := of_decide_eq_false this
  rw [mirror_val h.2 (show r < n by have := h.2; omega), mirror_val h.2 (show s < n by have := h.2; omega)]
  apply decide_eq_false
  omega
theorem allQ_gd {N : Nat} (h1 : 1 ≤ N) (h8 : N ≤ 8) {x : List Int} (h : x ∈ allQ N) : Gd N x := ⟨allQ_good h1 h8 h, (allQ_row h).2⟩
theorem allQ_in {N : Nat} {x : List Int} (h : Gd N x) (hf : freeB x = true) : x ∈ allQ N := by
  have hg := (goodB_iff x).1 h.1
  exact allQ_of x h.2 (fun y hy => by have := hg.2.2.1 y hy; have := h.2; omega) hg.2.2.2 hf
theorem orbit_free {N : Nat} {q : List Int} (h : Gd N q) (hf : freeB q = true) : ∀ x ∈ orbitL q, freeB x = true := by
  have h1 := turn_gd h
  have h2 := turn_gd h1
  have h3 := turn_gd h2
  have h4 := turn_gd h3
  have f1 := free_turn h hf
  have f2 := free_turn h1 f1
  have f3 := free_turn h2 f2
  have f4 := free_turn h3 f3
  intro x hx
  unfold orbitL at hx
  simp only [List.mem_cons, List.not_mem_nil, or_false] at hx
  rcases hx with rfl | rfl | rfl | rfl | rfl | rfl | rfl | rfl | rfl
  · exact hf
  · exact f1
  · exact free_mirror h1 f1
  · exact f2
  · exact free_mirror h2 f2
  · exact f3
  · exact free_mirror h3 f3
  · exact f4
  · exact free_mirror h4 f4
theorem allQ_ne (N : Nat) : (allQ N).Nodup := by
  rw [List.nodup_iff_pairwise_ne]
  refine (allQ_sorted N).imp (fun {a b} h e => ?_)
  obtain ⟨p, c, c', t, t', rfl, e2, hc, _⟩ := h
  rw [e2] at e
  have := List.append_cancel_left e
  simp at this
  omega
theorem count_diff {N : Nat} (h1 : 1 ≤ N) (h8 : N ≤ 8) : (allQ N).length ≤ 8 * (allQ N).countP diff := by
  have := nodup_len (allQ N) (((allQ N).filter diff).flatMap eightL) (allQ_ne N) (fun x hx => by
    have hg := allQ_gd h1 h8 hx
    have hf := allQ_free hx
    obtain ⟨hm, _⟩ := least_spec x
    rw [List.mem_flatMap]
    refine ⟨leastL x, ?_, eight_back hg hm⟩
    rw [List.mem_filter]
    refine ⟨allQ_in (orbit_gd hg _ hm) (orbit_free hg hf _ hm), ?_⟩
    unfold diff
    rw [least_orbit hg hm]
    simp)
  have hc : ∀ l : List (List Int), (l.flatMap eightL).length = 8 * l.length := by
    intro l
    induction l with
    | nil => rfl
    | cons a l ih => rw [List.flatMap_cons, List.length_append, ih, List.length_cons]; simp [eightL]; omega
  rw [hc, ← List.countP_eq_length_filter] at this
  exact this
end Go.Proofs.Ytnpacpdpgngdpaa.P
namespace Go.Proofs.Ytnpacpdpgngdpaa.Pure
open Go.RowKit Go.Proofs.Ytnpacpdpgngdpaa.P Go.Proofs.YtnpacpdpgngdpaaW.PrintWords Go.Proofs.YtnpacpdpgngdpaaW.PrintLast
set_option linter.unusedSimpArgs false
set_option linter.unusedVariables false
namespace FnExactLeastQueens
def R (q : List Int) : List Int × Bool := if goodB q = true then (leastL q, true) else ([], false)
theorem spec_ev (q : List Int) (hb : q.length ≤ 1152921504606846976) : Ev (fun k => spec_LeastQueens.f k q) (R q) := by
  obtain ⟨K1, h1⟩ := ev_get (quGood_ev q hb)
  unfold R
  by_cases h : goodB q = true
  · obtain ⟨K2, h2⟩ := ev_get (quLeast_ev q (good_rng h))
    refine ⟨K1 + K2, fun k hk => ?_⟩
    simp only [spec_LeastQueens.f, h1 k (by omega), h2 k (by omega), Option.bind_some, if_pos h]
  · refine ⟨K1, fun k hk => ?_⟩
    simp only [spec_LeastQueens.f, h1 k (by omega), Option.bind_some, if_neg h]
theorem impl_ev (q : List Int) (hb : q.length ≤ 1152921504606846976) : Ev (fun k => impl_LeastQueens.f k q) (R q) := by
  obtain ⟨K1, h1⟩ := ev_get (isList_ev q hb)
  unfold R
  by_cases h : goodB q = true
  · obtain ⟨K2, h2⟩ := ev_get (least_ev q (good_rng h))
    refine ⟨K1 + K2, fun k hk => ?_⟩
    simp only [impl_LeastQueens.f, h1 k (by omega), h2 k (by omega), Option.bind_some, if_pos h]
  · refine ⟨K1, fun k hk => ?_⟩
    simp only [impl_LeastQueens.f, h1 k (by omega), Option.bind_some, if_neg h]
theorem R_len (q : List Int) : (R q).1.length ≤ 8 := by
  unfold R
  split
  · rename_i h; have := good_len h; have h2 : (leastL q).length = q.length := leastGo_length 4 q q rfl; show (leastL q).length ≤ 8; omega
  · simp
end FnExactLeastQueens
namespace FnExactTurnQueens
def R (q : List Int) : List Int × Bool := if goodB q = true then (turnL q, true) else ([], false)
theorem spec_ev (q : List Int) (hb : q.length ≤ 1152921504606846976) : Ev (fun k => spec_TurnQueens.f k q) (R q) := by
  obtain ⟨K1, h1⟩ := ev_get (quGood_ev q hb)
  unfold R
  by_cases h : goodB q = true
  · obtain ⟨K2, h2⟩ := ev_get (quTurn_ev q h)
    refine ⟨K1 + K2, fun k hk => ?_⟩
    simp only [spec_TurnQueens.f, h1 k (by omega), h2 k (by omega), Option.bind_some, if_pos h]
  · refine ⟨K1, fun k hk => ?_⟩
    simp only [spec_TurnQueens.f, h1 k (by omega), Option.bind_some, if_neg h]
theorem impl_ev (q : List Int) (hb : q.length ≤ 1152921504606846976) : Ev (fun k => impl_TurnQueens.f k q) (R q) := by
  obtain ⟨K1, h1⟩ := ev_get (isList_ev q hb)
  unfold R
  by_cases h : goodB q = true
  · obtain ⟨K2, h2⟩ := ev_get (turn_ev q h)
    refine ⟨K1 + K2, fun k hk => ?_⟩
    simp only [impl_TurnQueens.f, h1 k (by omega), h2 k (by omega), Option.bind_some, if_pos h]
  · refine ⟨K1, fun k hk => ?_⟩
    simp only [impl_TurnQueens.f, h1 k (by omega), Option.bind_some, if_neg h]
theorem R_len (q : List Int) : (R q).1.length ≤ 64 := by
  unfold R
  split
  · rename_i h; have := good_len h; rw [turnL_length]; omega
  · simp
end FnExactTurnQueens
namespace FnExactMirrorQueens
def mirrorR (q : List Int) : List Int × Bool := if goodB q = true then (mirrorL q, true) else ([], false)
theorem spec_ev (q : List Int) (hb : q.length ≤ 1152921504606846976) : Ev (fun k => spec_MirrorQueens.f k q) (mirrorR q) := by
  obtain ⟨K1, h1⟩ := ev_get (quGood_ev q hb)
  unfold mirrorR
  by_cases h : goodB q = true
  · obtain ⟨K2, h2⟩ := ev_get (quMirror_ev q h)
    refine ⟨K1 + K2, fun k hk => ?_⟩
    simp only [spec_MirrorQueens.f, h1 k (by omega), h2 k (by omega), Option.bind_some, if_pos h]
  · refine ⟨K1, fun k hk => ?_⟩
    simp only [spec_MirrorQueens.f, h1 k (by omega), Option.bind_some, if_neg h]
theorem impl_ev (q : List Int) (hb : q.length ≤ 1152921504606846976) : Ev (fun k => impl_MirrorQueens.f k q) (mirrorR q) := by
  obtain ⟨K1, h1⟩ := ev_get (isList_ev q hb)
  unfold mirrorR
  by_cases h : goodB q = true
  · obtain ⟨K2, h2⟩ := ev_get (mirror_ev q h)
    refine ⟨K1 + K2, fun k hk => ?_⟩
    simp only [impl_MirrorQueens.f, h1 k (by omega), h2 k (by omega), Option.bind_some, if_pos h]
  · refine ⟨K1, fun k hk => ?_⟩
    simp only [impl_MirrorQueens.f, h1 k (by omega), Option.bind_some, if_neg h]
theorem R_len (q : List Int) : (mirrorR q).1.length ≤ 8 := by
  unfold mirrorR
  split
  · rename_i h; have := good_len h; rw [mirrorL_length]; omega
  · simp
end FnExactMirrorQueens
namespace FnExactCountDifferent
def R (n : Int) : Int × Bool := if inB n 1 8 = true then ((((allQ n.toNat).countP diff : Nat) : Int), true) else (0, false)
theorem inB_nat {n : Int} (h : inB n 1 8 = true) : ∃ N : Nat, n = N ∧ 1 ≤ N ∧ N ≤ 8 := by
  unfold inB at h
  have := of_decide_eq_true h
  exact ⟨n.toNat, by omega, by omega, by omega⟩
def RA (n : Int) : List (List Int) × Bool := if inB n 1 8 = true then (allQ n.toNat, true) else ([], false)
theorem implA_ev (n : Int) : Ev (fun k => impl_AllQueens.f k n) (RA n) := by
  unfold RA
  by_cases h : inB n 1 8 = true
  · obtain ⟨N, rfl, h1, h8⟩ := inB_nat h
    obtain ⟨K, hK⟩ := ev_get (grownQ_ev N h8)
    refine ⟨K, fun k hk => ?_⟩
    simp only [impl_AllQueens.f, isMany_eq, Option.bind_some, if_pos h, hK k hk, Int.toNat_natCast]
  · refine ⟨0, fun k hk => ?_⟩
    simp only [impl_AllQueens.f, isMany_eq, Option.bind_some, if_neg h]
theorem spec_ev (n : Int) : Ev (fun k => spec_CountDifferent.f k n) (R n) := by
  unfold R
  by_cases h : inB n 1 8 = true
  · obtain ⟨N, rfl, h1, h8⟩ := inB_nat h
    obtain ⟨K, hK⟩ := ev_get (quAllQ_ev N h8)
    obtain ⟨K2, hK2⟩ := ev_get (specDiff_ev N h1 h8)
    refine ⟨K + K2, fun k hk => ?_⟩
    simp only [spec_CountDifferent.f, quSide_eq, Option.bind_some, if_pos h, hK k (by omega), Int.toNat_natCast]
    exact hK2 k (by omega)
  · refine ⟨0, fun k hk => ?_⟩
    simp only [spec_CountDifferent.f, quSide_eq, Option.bind_some, if_neg h]
theorem impl_ev (n : Int) : Ev (fun k => impl_CountDifferent.f k n) (R n) := by
  obtain ⟨K, hK⟩ := ev_get (implA_ev n)
  unfold R
  by_cases h : inB n 1 8 = true
  · obtain ⟨N, rfl, h1, h8⟩ := inB_nat h
    obtain ⟨K2, hK2⟩ := ev_get (implDiff_ev N h1 h8 true)
    refine ⟨K + K2, fun k hk => ?_⟩
    simp only [impl_CountDifferent.f, hK k (by omega), Option.bind_some, RA, if_pos h, Int.toNat_natCast]
    exact hK2 k (by omega)
  · refine ⟨K + 1, fun k hk => ?_⟩
    obtain ⟨k, rfl⟩ : ∃ m, k = m + 1 := ⟨k - 1, by omega⟩
    simp only [impl_CountDifferent.f, hK (k + 1) (by omega), Option.bind_some, RA, if_neg h]
    rw [impl_CountDifferent.l0, if_neg (by simp)]
end FnExactCountDifferent
namespace FnExactCountQueens
def R (n : Int) : Int × Bool := if inB n 1 8 = true then (((allQ n.toNat).length : Int), true) else (0, false)
theorem inB_nat {n : Int} (h : inB n 1 8 = true) : ∃ N : Nat, n = N ∧ 1 ≤ N ∧ N ≤ 8 := by
  unfold inB at h
  have := of_decide_eq_true h
  exact ⟨n.toNat, by omega, by omega, by omega⟩
def RA (n : Int) : List (List Int) × Bool := if inB n 1 8 = true then (allQ n.toNat, true) else ([], false)
theorem implA_ev (n : Int) : Ev (fun k => impl_AllQueens.f k n) (RA n) := by
  unfold RA
  by_cases h : inB n 1 8 = true
  · obtain ⟨N, rfl, h1, h8⟩ := inB_nat h
    obtain ⟨K, hK⟩ := ev_get (grownQ_ev N h8)
    refine ⟨K, fun k hk => ?_⟩
    simp only [impl_AllQueens.f, isMany_eq, Option.bind_some, if_pos h, hK k hk, Int.toNat_natCast]
  · refine ⟨0, fun k hk => ?_⟩
    simp only [impl_AllQueens.f, isMany_eq, Option.bind_some, if_neg h]
theorem spec_ev (n : Int) : Ev (fun k => spec_CountQueens.f k n) (R n) := by
  unfold R
  by_cases h : inB n 1 8 = true
  · obtain ⟨N, rfl, h1, h8⟩ := inB_nat h
    obtain ⟨K, hK⟩ := ev_get (quAllQ_ev N h8)
    refine ⟨K, fun k hk => ?_⟩
    simp only [spec_CountQueens.f, quSide_eq, Option.bind_some, if_pos h, hK k hk, Int.toNat_natCast]
  · refine ⟨0, fun k hk => ?_⟩
    simp only [spec_CountQueens.f, quSide_eq, Option.bind_some, if_neg h]
theorem impl_ev (n : Int) : Ev (fun k => impl_CountQueens.f k n) (R n) := by
  obtain ⟨K, hK⟩ := ev_get (implA_ev n)
  refine ⟨K, fun k hk => ?_⟩
  simp only [impl_CountQueens.f, hK k hk, Option.bind_some]
  unfold RA R
  split <;> rfl
end FnExactCountQueens
namespace FnExactAttacksOf
def R (q : List Int) : List (List Int) × Bool := if goodB q = true then (allP q 0, true) else ([], false)
theorem impl_inner (q : List Int) (hg : Small q) (r : Nat) (hr : r < q.length)
    (hout : ∀ acc : List (List Int), acc.length ≤ 8 * (r + 1) → Ev (fun k => impl_AttacksOf.l0 k q acc q (q.length : Int) ((r + 1 : Nat) : Int)) (acc ++ allP q (r + 1), true)) :
    ∀ (d s : Nat) (acc : List (List Int)), q.length - s = d → r < s → s ≤ q.length → acc.length ≤ 8 * r + (s - r) →
    Ev (fun k => impl_AttacksOf.l1 k q acc (r : Int) q[r] (s : Int) q (q.length : Int) (r : Int)) (acc ++ rowP q r s ++ allP q (r + 1), true) := by
  have hl := hg.1
  intro d
  induction d with
  | zero =>
    intro s acc hd hrs hs ha
    obtain ⟨K, hK⟩ := ev_get (hout acc (by omega))
    refine ⟨K + 1, fun k hk => ?_⟩
    obtain ⟨k, rfl⟩ : ∃ m, k = m + 1 := ⟨k - 1, by omega⟩
    simp only [impl_AttacksOf.l1]
    rw [if_neg (by omega), w64 _ (by omega) (by omega), show ((r : Int) + 1) = ((r + 1 : Nat) : Int) by omega, hK k (by omega), rowP_nil q r s (by omega), List.append_nil]
  | succ d ih =>
    intro s acc hd hrs hs ha
    have hs1 : s < q.length := by omega
    obtain ⟨K1, h1⟩ := ev_get (ih (s + 1) (acc ++ [[(r : Int), (s : Int)]]) (by omega) (by omega) (by omega) (by simp; omega))
    obtain ⟨K2, h2⟩ := ev_get (ih (s + 1) acc (by omega) (by omega) (by omega) (by omega))
    refine ⟨K1 + K2 + 1, fun k hk => ?_⟩
    obtain ⟨k, rfl⟩ : ∃ m, k = m + 1 := ⟨k - 1, by omega⟩
    simp only [impl_AttacksOf.l1]
    rw [if_pos (by omega), if_pos (by omega), rd_nat _ _ hs1, attacked_eq q hg r s hr hs1, Option.bind_some, w64 ((s : Int) + 1) (by omega) (by omega), show ((s : Int) + 1) = ((s + 1 : Nat) : Int) by omega, h1 k (by omega), h2 k (by omega), rowP_step q r s hs1, if_pos (show acc.length < 5864062014805 by omega)]
    by_cases h : att q r s = true
    · rw [if_pos h, if_pos h]; simp [List.append_assoc]
    · rw [if_neg h, if_neg h]; simp
theorem impl_outer (q : List Int) (hg : Small q) : ∀ (d r : Nat) (acc : List (List Int)), q.length - r = d → r ≤ q.length → acc.length ≤ 8 * r →
    Ev (fun k => impl_AttacksOf.l0 k q acc q (q.length : Int) (r : Int)) (acc ++ allP q r, true) := by
  have hl := hg.1
  intro d
  induction d with
  | zero =>
    intro r acc hd hr ha
    refine ⟨1, fun k hk => ?_⟩
    obtain ⟨k, rfl⟩ : ∃ m, k = m + 1 := ⟨k - 1, by omega⟩
    simp only [impl_AttacksOf.l0]
    rw [if_neg (by omega), allP_nil q r (by omega), List.append_nil]
  | succ d ih =>
    intro r acc hd hr ha
    have hr1 : r < q.length := by omega
    obtain ⟨K, hK⟩ := ev_get (impl_inner q hg r hr1 (fun acc ha => ih (r + 1) acc (by omega) (by omega) ha) (q.length - (r + 1)) (r + 1) acc (by omega) (by omega) (by omega) (by omega))
    refine ⟨K + 1, fun k hk => ?_⟩
    obtain ⟨k, rfl⟩ : ∃ m, k = m + 1 := ⟨k - 1, by omega⟩
    simp only [impl_AttacksOf.l0]
    rw [if_pos (by omega), if_pos (by omega), if_pos (by omega), rd_nat _ _ hr1, w64 _ (by omega) (by omega), show ((r : Int) + 1) = ((r + 1 : Nat) : Int) by omega, hK k (by omega), allP_step q r hr1, List.append_assoc]
theorem impl_ev (q : List Int) (hb : q.length ≤ 1152921504606846976) : Ev (fun k => impl_AttacksOf.f k q) (R q) := by
  obtain ⟨K1, h1⟩ := ev_get (isList_ev q hb)
  unfold R
  by_cases h : goodB q = true
  · obtain ⟨K2, h2⟩ := ev_get (impl_outer q (good_small h) q.length 0 [] (by omega) (by omega) (by simp))
    refine ⟨K1 + K2, fun k hk => ?_⟩
    simp only [impl_AttacksOf.f, h1 k (by omega), Option.bind_some, if_pos h]
    simpa using h2 k (by omega)
  · refine ⟨K1, fun k hk => ?_⟩
    simp only [impl_AttacksOf.f, h1 k (by omega), Option.bind_some, if_neg h]
end FnExactAttacksOf
namespace FnQueensTurned
theorem j2_ev {s : List Int} (hs : Bytes s) : Ev (fun k => laws_FnQueensTurned.j2 k s) true := by
  obtain ⟨n, hn, hn0, hn9⟩ := drawCount_ok hs
  obtain ⟨K1, k1⟩ := ev_get (FnExactCountDifferent.impl_ev n)
  obtain ⟨K2, k2⟩ := ev_get (FnExactCountDifferent.spec_ev n)
  obtain ⟨K3, k3⟩ := ev_get (FnExactCountQueens.impl_ev n)
  refine ⟨K1 + K2 + K3 + 1, fun k hk => ?_⟩
  obtain ⟨k, rfl⟩ : ∃ m, k = m + 1 := ⟨k - 1, by omega⟩
  simp only [laws_FnQueensTurned.j2, spec_DrawCountDifferent.f, hn, Option.bind_some, k1 k (by omega), k2 k (by omega), k3 k (by omega), beq_self_eq_true, if_true]
  unfold FnExactCountDifferent.R FnExactCountQueens.R
  by_cases h : inB n 1 8 = true
  · obtain ⟨N, rfl, h1, h8⟩ := FnExactCountQueens.inB_nat h
    have hc := count_diff h1 h8
    have hl := allQ_len N h8
    have hle : (allQ N).countP diff ≤ (allQ N).length := List.countP_le_length
    simp only [if_pos h, Int.toNat_natCast, beq_self_eq_true, if_true]
    rw [if_pos (by omega), w64 _ (by omega) (by omega), decide_eq_true (by omega)]
  · simp only [if_neg h, beq_self_eq_true, if_true]
    rw [if_pos (by omega), w64 _ (by omega) (by omega), decide_eq_true (by omega)]
/-- The list behind so many turns. -/
def turned (q : List Int) : Nat → List Int
  | 0 => q
  | i + 1 => turnL (turned q i)
theorem turned_gd {n : Nat} {q : List Int} (h : Gd n q) : ∀ i, Gd n (turned q i)
  | 0 => h
  | i + 1 => turn_gd (turned_gd h i)
theorem turned_least {n : Nat} {q : List Int} (h : Gd n q) : ∀ i, leastL (turned q i) = leastL q
  | 0 => rfl
  | i + 1 => (least_T (turned_gd h i)).trans (turned_least h i)
theorem turned_att {n : Nat} {q : List Int} (h : Gd n q) : ∀ i, (allP (turned q i) 0).length = (allP q 0).length
  | 0 => rfl
  | i + 1 => (att_same (turned_gd h i)).trans (turned_att h i)
theorem turned_low {n : Nat} {q : List Int} (h : Gd n q) (i : Nat) : lessL (turned q i) (leastL q) = false := by
  rw [← turned_least h i]
  exact (least_spec (turned q i)).2 _ (by simp [orbitL])
theorem l0_ev {s : List Int} (hs : Bytes s) {n : Nat} {q : List Int} (h : Gd n q) : ∀ (d i : Nat), i + d = 4 →
    Ev (fun k => laws_FnQueensTurned.l0 k s q (leastL q) (mirrorL q) (turned q i) (allP q 0) true (i : Int)) true := by
  have hn := gd_len h
  have hm := mirror_gd h
  have hll : (leastL q).length = n := (leastL_length q).trans h.2
  intro d
  induction d with
  | zero =>
    intro i hi
    obtain rfl : i = 4 := by omega
    obtain ⟨K0, k0⟩ := ev_get (j2_ev hs)
    obtain ⟨K1, k1⟩ := ev_get (FnExactMirrorQueens.impl_ev (mirrorL q) (by rw [hm.2]; omega))
    obtain ⟨K2, k2⟩ := ev_get (FnExactLeastQueens.impl_ev (mirrorL q) (by rw [hm.2]; omega))
    obtain ⟨K3, k3⟩ := ev_get (kSame_refl q (by rw [h.2]; omega))
    obtain ⟨K4, k4⟩ := ev_get (kSame_refl (leastL q) (by omega))
    have e4 : turned q 4 = q := turn4 h
    unfold FnExactMirrorQueens.mirrorR at k1
    unfold FnExactLeastQueens.R at k2
    simp only [if_pos hm.1, mirror2 h, least_M h] at k1 k2
    refine ⟨K0 + K1 + K2 + K3 + K4 + 1, fun k hk => ?_⟩
    obtain ⟨k, rfl⟩ : ∃ m, k = m + 1 := ⟨k - 1, by omega⟩
    dsimp only
    rw [laws_FnQueensTurned.l0, if_neg (by omega), e4]
    simp only [k1 k (by omega), k2 k (by omega), k3 k (by omega), k4 k (by omega), Option.bind_some, if_true]
    exact k0 k (by omega)
  | succ d ih =>
    intro i hi
    have hg := turned_gd h i
    have hg1 := turned_gd h (i + 1)
    have hl1 : (turned q (i + 1)).length = n := hg1.2
    have hl0 : (turned q i).length = n := hg.2
    obtain ⟨K0, k0⟩ := ev_get (ih (i + 1) (by omega))
    obtain ⟨K1, k1⟩ := ev_get (FnExactTurnQueens.impl_ev (turned q i) (by omega))
    obtain ⟨K2, k2⟩ := ev_get (FnExactLeastQueens.impl_ev (turned q (i + 1)) (by omega))
    obtain ⟨K3, k3⟩ := ev_get (FnExactAttacksOf.impl_ev (turned q (i + 1)) (by omega))
    obtain ⟨K4, k4⟩ := ev_get (kSame_refl (leastL q) (by omega))
    obtain ⟨K5, k5⟩ := ev_get (kLessL_ev (turned q (i + 1)) (leastL q) (by omega) (by omega))
    unfold FnExactTurnQueens.R at k1
    unfold FnExactLeastQueens.R at k2
    unfold FnExactAttacksOf.R at k3
    simp only [if_pos hg.1, if_pos hg1.1, turned_least h] at k1 k2 k3
    rw [turned_low h] at k5
    have e1 : turnL (turned q i) = turned q (i + 1) := rfl
    rw [e1] at k1
    refine ⟨K0 + K1 + K2 + K3 + K4 + K5 + 1, fun k hk => ?_⟩
    obtain ⟨k, rfl⟩ : ∃ m, k = m + 1 := ⟨k - 1, by omega⟩
    dsimp only
    rw [laws_FnQueensTurned.l0, if_pos (by omega)]
    simp only [k1 k (by omega), k2 k (by omega), k3 k (by omega), k4 k (by omega), k5 k (by omega), Option.bind_some, if_true, turned_att h, Bool.false_eq_true, if_false]
    rw [w64 _ (by omega) (by omega), show ((i : Int) + 1) = ((i + 1 : Nat) : Int) by omega]
    exact k0 k (by omega)
end FnQueensTurned
open FnQueensTurned in
theorem FnQueensTurned : laws_FnQueensTurned.Pure := by
  intro l0 l1 ha hb hc hd he hf
  have hs0 := bytes_of hc
  have hs1 := bytes_of hf
  obtain ⟨x, hx⟩ := big_eq l0 l1 (by omega) (by omega)
  cases x with
  | true => exact ⟨0, by unfold laws_FnQueensTurned.f; rw [hx]; simp⟩
  | false =>
    obtain ⟨q, e0, hq⟩ := drawQueens_ok hs0
    obtain ⟨K0, k0⟩ := ev_get e0
    obtain ⟨K1, k1⟩ := ev_get (FnExactLeastQueens.impl_ev q (by omega))
    obtain ⟨K2, k2⟩ := ev_get (FnExactLeastQueens.spec_ev q (by omega))
    obtain ⟨K3, k3⟩ := ev_get (FnExactTurnQueens.impl_ev q (by omega))
    obtain ⟨K4, k4⟩ := ev_get (FnExactTurnQueens.spec_ev q (by omega))
    obtain ⟨K5, k5⟩ := ev_get (FnExactMirrorQueens.impl_ev q (by omega))
    obtain ⟨K6, k6⟩ := ev_get (FnExactMirrorQueens.spec_ev q (by omega))
    obtain ⟨K7, k7⟩ := ev_get (kSame_refl (FnExactLeastQueens.R q).1 (by have := FnExactLeastQueens.R_len q; omega))
    obtain ⟨K8, k8⟩ := ev_get (kSame_refl (FnExactTurnQueens.R q).1 (by have := FnExactTurnQueens.R_len q; omega))
    obtain ⟨K9, k9⟩ := ev_get (kSame_refl (FnExactMirrorQueens.mirrorR q).1 (by have := FnExactMirrorQueens.R_len q; omega))
    have hend : Ev (fun k => laws_FnQueensTurned.j0 k l1 q (FnExactLeastQueens.R q).1 (FnExactLeastQueens.R q).2 (FnExactMirrorQueens.mirrorR q).1 ((FnExactMirrorQueens.mirrorR q).2 != (FnExactLeastQueens.R q).2)) true := by
      unfold FnExactLeastQueens.R FnExactMirrorQueens.mirrorR
      by_cases h : goodB q = true
      · have hg : Gd q.length q := ⟨h, rfl⟩
        obtain ⟨L0, m0⟩ := ev_get (l0_ev hs1 hg 4 0 (by omega))
        obtain ⟨L1, m1⟩ := ev_get (FnExactAttacksOf.impl_ev q (by omega))
        unfold FnExactAttacksOf.R at m1
        simp only [if_pos h] at m1
        refine ⟨L0 + L1 + 1, fun k hk => ?_⟩
        obtain ⟨k, rfl⟩ : ∃ m, k = m + 1 := ⟨k - 1, by omega⟩
        simp only [if_pos h, laws_FnQueensTurned.j0, bne_self_eq_false, Bool.false_eq_true, if_false, if_true, m1 k (by omega), Option.bind_some]
        exact m0 k (by omega)
      · obtain ⟨L0, m0⟩ := ev_get (j2_ev hs1)
        refine ⟨L0 + 1, fun k hk => ?_⟩
        obtain ⟨k, rfl⟩ : ∃ m, k = m + 1 := ⟨k - 1, by omega⟩
        simp only [if_neg h, laws_FnQueensTurned.j0, bne_self_eq_false, Bool.false_eq_true, if_false]
        exact m0 k (by omega)
    have hT : ((FnExactTurnQueens.R q).2 != (FnExactLeastQueens.R q).2) = false := by
      unfold FnExactTurnQueens.R FnExactLeastQueens.R
      split <;> rfl
    obtain ⟨Ka, ka⟩ := ev_get hend
    obtain ⟨m, hm⟩ : ∃ m, m = K0 + K1 + K2 + K3 + K4 + K5 + K6 + K7 + K8 + K9 + Ka := ⟨_, rfl⟩
    refine ⟨m, ?_⟩
    unfold laws_FnQueensTurned.f spec_DrawLeastQueens.f
    rw [hx]
    simp only [Option.bind_some, Bool.false_eq_true, if_false, k0 m (by omega), k1 m (by omega), k2 m (by omega), k3 m (by omega), k4 m (by omega), k5 m (by omega), k6 m (by omega), k7 m (by omega), k8 m (by omega), k9 m (by omega), bne_self_eq_false, if_true, hT]
    exact ka m (by omega)
end Go.Proofs.Ytnpacpdpgngdpaa.Pure
