import Derived.Test.YthjejaoadhhpdaaPx1
import Derived.Test.YthjejaoadhhpdaaPx4
import Derived.Test.YthjejaoadhhpdaaLib
namespace Go.Proofs.Ythjejaoadhhpdaa.P
open Go.RowKit Go.Proofs.YthjejaoadhhpdaaW.PrintWords Go.Proofs.YthjejaoadhhpdaaW.PrintLast Go.Proofs.YthjejaoadhhpdaaW.PrintMore
set_option linter.unusedVariables false
set_option linter.unusedSimpArgs false

theorem l1Has_l0 (x : Int) (l : List Int) (hb : l.length ≤ 1152921504606846976) : ∀ (d i : Nat) (k : Nat), l.length - i = d → i ≤ l.length → d < k →
    spec_l1Has.l0 k x l (l.length : Int) (i : Int) = some (decide (x ∈ l.drop i)) := by
  intro d
  induction d with
  | zero =>
    intro i k hd hi' hk
    obtain ⟨k, rfl⟩ : ∃ m, k = m + 1 := ⟨k - 1, by omega⟩
    rw [spec_l1Has.l0, if_neg (by omega), List.drop_eq_nil_of_le (by omega)]
    rfl
  | succ d ih =>
    intro i k hd hi' hk
    obtain ⟨k, rfl⟩ : ∃ m, k = m + 1 := ⟨k - 1, by omega⟩
    have h1 : i < l.length := by omega
    rw [spec_l1Has.l0, if_pos (by omega), if_pos (by omega), if_pos (by omega), w64 _ (by omega) (by omega), rd_nat _ _ h1]
    rw [show ((i : Int) + 1) = ((i + 1 : Nat) : Int) by omega, ih (i + 1) k (by omega) (by omega) (by omega), drop_cons l i h1]
    generalize l.drop (i + 1) = tl
    by_cases h : l[i] = x
    · rw [if_pos h]; simp [h]
    · rw [if_neg h]; congr 1; simp [Ne.symm h]
theorem l1Has_ev (l : List Int) (x : Int) (hb : l.length ≤ 1152921504606846976) : Ev (fun k => spec_l1Has.f k l x) (decide (x ∈ l)) := by
  refine ⟨l.length + 1, fun k hk => ?_⟩
  simp only [spec_l1Has.f]
  have := l1Has_l0 x l hb l.length 0 k (by omega) (by omega) (by omega)
  simpa using this
/-- slices.Index tells at least 0 just for a member. -/
theorem Index_l0 (x : Int) (l : List Int) (hb : l.length ≤ 1152921504606846976) : ∀ (d i : Nat) (k : Nat), l.length - i = d → i ≤ l.length → d < k →
    slices_Index_int_int.l0 k l x (l.length : Int) (i : Int) = some (if x ∈ l.drop i then (i : Int) + ((l.drop i).idxOf x : Nat) else -1) := by
  intro d
  induction d with
  | zero =>
    intro i k hd hi' hk
    obtain ⟨k, rfl⟩ : ∃ m, k = m + 1 := ⟨k - 1, by omega⟩
    rw [slices_Index_int_int.l0, if_neg (by omega), List.drop_eq_nil_of_le (by omega)]
    rfl
  | succ d ih =>
    intro i k hd hi' hk
    obtain ⟨k, rfl⟩ : ∃ m, k = m + 1 := ⟨k - 1, by omega⟩
    have h1 : i < l.length := by omega
    rw [slices_Index_int_int.l0, if_pos (by omega), if_pos (by omega), if_pos (by omega), w64 _ (by omega) (by omega), rd_nat _ _ h1]
    rw [show ((i : Int) + 1) = ((i + 1 : Nat) : Int) by omega, ih (i + 1) k (by omega) (by omega) (by omega), drop_cons l i h1]
    generalize l.drop (i + 1) = tl
    by_cases h : x = l[i]
    · rw [if_pos h]; simp [h]
    · rw [if_neg h]; congr 1
      rw [List.idxOf_cons, show (l[i] == x) = false by simpa using Ne.symm h, cond_false]
      by_cases h2 : x ∈ tl
      · rw [if_pos h2, if_pos (by simp [h2])]; omega
      · rw [if_neg h2, if_neg (by simp [h, h2])]
theorem Index_ev (l : List Int) (x : Int) (hb : l.length ≤ 1152921504606846976) : Ev (fun k => slices_Index_int_int.f k l x) (if x ∈ l then (l.idxOf x : Int) else -1) := by
  refine ⟨l.length + 1, fun k hk => ?_⟩
  simp only [slices_Index_int_int.f]
  have := Index_l0 x l hb l.length 0 k (by omega) (by omega) (by omega)
  simpa using this
theorem Contains_ev (l : List Int) (x : Int) (hb : l.length ≤ 1152921504606846976) : Ev (fun k => slices_Contains_int_int.f k l x) (decide (x ∈ l)) := by
  obtain ⟨K, hK⟩ := ev_get (Index_ev l x hb)
  refine ⟨K, fun k hk => ?_⟩
  simp only [slices_Contains_int_int.f, hK k hk, Option.bind_some]
  congr 1
  by_cases h : x ∈ l
  · simp [h]
  · simp [h]
/-! #### lists that have each of 0..n-1 once -/
def permB (l : List Int) (n : Int) : Bool := decide ((l.length : Int) = n ∧ (∀ x ∈ l, 0 ≤ x ∧ x ≤ n - 1) ∧ l.Nodup)
/-- What the loop of isPerm looks at from place i on. -/
def restPerm (l : List Int) (n : Int) (i : Nat) : Prop := ∀ j, i ≤ j → ∀ h : j < l.length, (0 ≤ l[j] ∧ l[j] ≤ n - 1) ∧ l[j] ∉ l.take j
def restOnce (l : List Int) (i : Nat) : Prop := ∀ j, i ≤ j → ∀ h : j < l.length, l[j] ∉ l.take j
theorem restOnce_iff (l : List Int) : restOnce l 0 ↔ l.Nodup := by
  constructor
  · intro h
    rw [List.nodup_iff_pairwise_ne, List.pairwise_iff_getElem]
    intro i j hi hj hij e
    exact h j (by omega) hj (by rw [← e]; exact List.mem_take_iff_getElem.2 ⟨i, by omega, rfl⟩)
  · intro h j _ hj hm
    rw [List.nodup_iff_pairwise_ne, List.pairwise_iff_getElem] at h
    obtain ⟨i, hi, e⟩ := List.mem_take_iff_getElem.1 hm
    exact h i j (by omega) hj (by omega) e
theorem restOnce_step (l : List Int) (i : Nat) (h : i < l.length) : restOnce l i ↔ l[i] ∉ l.take i ∧ restOnce l (i + 1) := by
  constructor
  · intro H
    exact ⟨H i (by omega) h, fun j hj hjl => H j (by omega) hjl⟩
  · rintro ⟨h0, H⟩ j hj hjl
    by_cases e : j = i
    · subst e; exact h0
    · exact H j (by omega) hjl
open Classical in
theorem isPerm_l0 (l : List Int) (n : Int) (hn : n = l.length) (hb : l.length ≤ 1152921504606846976) : ∀ (d i : Nat), l.length - i = d → i ≤ l.length →
    Ev (fun k => impl_isPerm.l0 k l n l (l.length : Int) (i : Int)) (decide ((∀ x ∈ l.drop i, 0 ≤ x ∧ x ≤ n - 1) ∧ restOnce l i)) := by
  intro d
  induction d with
  | zero =>
    intro i hd hi'
    refine ⟨1, fun k hk => ?_⟩
    obtain ⟨k, rfl⟩ : ∃ m, k = m + 1 := ⟨k - 1, by omega⟩
    simp only [impl_isPerm.l0]
    rw [if_neg (by omega)]
    congr 1
    symm
    apply decide_eq_true
    rw [List.drop_eq_nil_of_le (by omega)]
    exact ⟨by simp, fun j hj h => by omega⟩
  | succ d ih =>
    intro i hd hi'
    have h1 : i < l.length := by omega
    obtain ⟨K1, h3⟩ := ev_get (ih (i + 1) (by omega) (by omega))
    obtain ⟨K2, h4⟩ := ev_get (Contains_ev (l.take i) l[i] (by simp; omega))
    refine ⟨K1 + K2 + 1, fun k hk => ?_⟩
    obtain ⟨k, rfl⟩ : ∃ m, k = m + 1 := ⟨k - 1, by omega⟩
    simp only [impl_isPerm.l0]
    rw [if_pos (by omega), if_pos (by omega), if_pos (by omega), within_eq, Option.bind_some, w64 (n - 1) (by omega) (by omega), w64 _ (by omega) (by omega), rd_nat _ _ h1, if_pos (show (i : Int) ≤ (l.length : Int) by omega), show (i : Int).toNat = i by omega, show ((i : Int) + 1) = ((i + 1 : Nat) : Int) by omega, h4 k (by omega), h3 k (by omega), Option.bind_some]
    have hs := restOnce_step l i h1
    rw [drop_cons l i h1]
    by_cases h : inB l[i] 0 (n - 1) = true
    · rw [if_pos h]
      have h' : 0 ≤ l[i] ∧ l[i] ≤ n - 1 := by simpa [inB] using h
      by_cases h2 : l[i] ∈ l.take i
      · simp only [h2, decide_true, if_true]
        congr 1
        symm; apply decide_eq_false
        rintro ⟨_, hr⟩
        exact (hs.1 hr).1 h2
      · simp only [h2, decide_false, if_false, Bool.false_eq_true]
        congr 1
        rw [decide_eq_decide]
        constructor
        · rintro ⟨ha, hr⟩
          refine ⟨?_, hs.2 ⟨h2, hr⟩⟩
          intro x hx
          rcases List.mem_cons.1 hx with rfl | hx
          · exact h'
          · exact ha x hx
        · rintro ⟨ha, hr⟩
          exact ⟨fun x hx => ha x (List.mem_cons_of_mem _ hx), (hs.1 hr).2⟩
    · rw [if_neg h]
      congr 1
      symm; apply decide_eq_false
      rintro ⟨ha, _⟩
      exact h (by simpa [inB] using ha _ (List.mem_cons_self ..))
theorem isPerm_ev (l : List Int) (n : Int) (hb : l.length ≤ 1152921504606846976) : Ev (fun k => impl_isPerm.f k l n) (permB l n) := by
  by_cases h : (l.length : Int) = n
  · obtain ⟨K, hK⟩ := ev_get (isPerm_l0 l n h.symm hb l.length 0 (by omega) (by omega))
    refine ⟨K, fun k hk => ?_⟩
    simp only [impl_isPerm.f]
    rw [if_pos h]
    refine (hK k hk).trans ?_
    congr 1
    unfold permB
    rw [decide_eq_decide, restOnce_iff, List.drop_zero]
    exact ⟨fun ⟨a, b⟩ => ⟨h, a, b⟩, fun ⟨_, a, b⟩ => ⟨a, b⟩⟩
  · refine ⟨0, fun k hk => ?_⟩
    simp only [impl_isPerm.f]
    rw [if_neg h]
    congr 1
    symm; apply decide_eq_false
    exact fun ⟨a, _⟩ => h a
end Go.Proofs.Ythjejaoadhhpdaa.P
