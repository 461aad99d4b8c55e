/- For every number CountOnTorus returns what the reference returns: no condition. -/
import Derived.Test.YthjejaoadhhpdaaPx0
import Derived.Test.YthjejaoadhhpdaaPx1
import Derived.Test.YthjejaoadhhpdaaPx12
import Derived.Test.YthjejaoadhhpdaaPx19
import Derived.Test.YthjejaoadhhpdaaPx2
import Derived.Test.YthjejaoadhhpdaaPx23
import Derived.Test.YthjejaoadhhpdaaPx24
import Derived.Test.YthjejaoadhhpdaaPx26
import Derived.Test.YthjejaoadhhpdaaPx27
import Derived.Test.YthjejaoadhhpdaaPx3
import Derived.Test.YthjejaoadhhpdaaPx32
import Derived.Test.YthjejaoadhhpdaaPx33
import Derived.Test.YthjejaoadhhpdaaPx4
namespace Go.Proofs.Ythjejaoadhhpdaa.P
open Go.RowKit Go.Proofs.YthjejaoadhhpdaaW.PrintWords Go.Proofs.YthjejaoadhhpdaaW.PrintLast Go.Proofs.YthjejaoadhhpdaaW.PrintMore
set_option linter.unusedVariables false
set_option linter.unusedSimpArgs false
theorem w64 (n : Int) (h : -9223372036854775808 ≤ n) (h2 : n ≤ 9223372036854775807) : wrap64 n = n := by unfold wrap64; omega
theorem rd_nat (l : List Int) (i : Nat) (h : i < l.length) : rd l (i : Int) = l[i] := by
  unfold rd; simp [List.getD_eq_getElem?_getD, List.getElem?_eq_getElem h]
theorem drop_cons (l : List Int) (i : Nat) (h : i < l.length) : l.drop i = l[i] :: l.drop (i + 1) := List.drop_eq_getElem_cons h
theorem ev_get {α : Type} {g : Nat → Option α} {r : α} (h : Ev g r) : ∃ K, ∀ k, K ≤ k → g k = some r := h
def inB (n lo hi : Int) : Bool := decide (lo ≤ n ∧ n ≤ hi)
theorem l1In_eq (a b c : Int) : spec_l1In.f a b c = some (inB a b c) := by
  unfold spec_l1In.f inB
  by_cases h : a ≥ b
  · rw [if_pos h]; congr 1; simp; omega
  · rw [if_neg h]; congr 1; symm; apply decide_eq_false; omega
theorem within_eq (a b c : Int) : impl_within.f a b c = some (inB a b c) := by
  unfold impl_within.f inB
  by_cases h : b ≤ a
  · rw [if_pos h]; congr 1; simp; omega
  · rw [if_neg h]; congr 1; symm; apply decide_eq_false; omega
end Go.Proofs.Ythjejaoadhhpdaa.P
namespace Go.Proofs.Ythjejaoadhhpdaa.P
open Go.RowKit Go.Proofs.YthjejaoadhhpdaaW.PrintWords Go.Proofs.YthjejaoadhhpdaaW.PrintLast Go.Proofs.YthjejaoadhhpdaaW.PrintMore
set_option linter.unusedVariables false
set_option linter.unusedSimpArgs false
theorem l1Has_l0 (x : Int) (l : List Int) (hb : l.length ≤ 1152921504606846976) : ∀ (d i : Nat) (k : Nat), l.length - i = d → i ≤ l.length → d < k →
    spec_l1Has.l0 k x l (l.length : Int) (i : Int) = some (decide (x ∈ l.drop i)) := by
  intro d
  induction d with
  | zero =>
    intro i k hd hi' hk
    obtain ⟨k, rfl⟩ : ∃ m, k = m + 1 := ⟨k - 1, by omega⟩
    rw [spec_l1Has.l0, if_neg (by omega), List.drop_eq_nil_of_le (by omega)]
    rfl
  | succ d ih =>
    intro i k hd hi' hk
    obtain ⟨k, rfl⟩ : ∃ m, k = m + 1 := ⟨k - 1, by omega⟩
    have h1 : i < l.length := by omega
    rw [spec_l1Has.l0, if_pos (by omega), if_pos (by omega), if_pos (by omega), w64 _ (by omega) (by omega), rd_nat _ _ h1]
    rw [show ((i : Int) + 1) = ((i + 1 : Nat) : Int) by omega, ih (i + 1) k (by omega) (by omega) (by omega), drop_cons l i h1]
    generalize l.drop (i + 1) = tl
    by_cases h : l[i] = x
    · rw [if_pos h]; simp [h]
    · rw [if_neg h]; congr 1; simp [Ne.symm h]
theorem l1Has_ev (l : List Int) (x : Int) (hb : l.length ≤ 1152921504606846976) : Ev (fun k => spec_l1Has.f k l x) (decide (x ∈ l)) := by
  refine ⟨l.length + 1, fun k hk => ?_⟩
  simp only [spec_l1Has.f]
  have := l1Has_l0 x l hb l.length 0 k (by omega) (by omega) (by omega)
  simpa using this
/-- slices.Index tells at least 0 just for a member. -/
theorem Index_l0 (x : Int) (l : List Int) (hb : l.length ≤ 1152921504606846976) : ∀ (d i : Nat) (k : Nat), l.length - i = d → i ≤ l.length → d < k →
    slices_Index_int_int.l0 k l x (l.length : Int) (i : Int) = some (if x ∈ l.drop i then (i : Int) + ((l.drop i).idxOf x : Nat) else -1) := by
  intro d
  induction d with
  | zero =>
    intro i k hd hi' hk
    obtain ⟨k, rfl⟩ : ∃ m, k = m + 1 := ⟨k - 1, by omega⟩
    rw [slices_Index_int_int.l0, if_neg (by omega), List.drop_eq_nil_of_le (by omega)]
    rfl
  | succ d ih =>
    intro i k hd hi' hk
    obtain ⟨k, rfl⟩ : ∃ m, k = m + 1 := ⟨k - 1, by omega⟩
    have h1 : i < l.length := by omega
    rw [slices_Index_int_int.l0, if_pos (by omega), if_pos (by omega), if_pos (by omega), w64 _ (by omega) (by omega), rd_nat _ _ h1]
    rw [show ((i : Int) + 1) = ((i + 1 : Nat) : Int) by omega, ih (i + 1) k (by omega) (by omega) (by omega), drop_cons l i h1]
    generalize l.drop (i + 1) = tl
    by_cases h : x = l[i]
    · rw [if_pos h]; simp [h]
    · rw [if_neg h]; congr 1
      rw [List.idxOf_cons, show (l[i] == x) = false by simpa using Ne.symm h, cond_false]
      by_cases h2 : x ∈ tl
      · rw [if_pos h2, if_pos (by simp [h2])]; omega
      · rw [if_neg h2, if_neg (by simp [h, h2])]
theorem Index_ev (l : List Int) (x : Int) (hb : l.length ≤ 1152921504606846976) : Ev (fun k => slices_Index_int_int.f k l x) (if x ∈ l then (l.idxOf x : Int) else -1) := by
  refine ⟨l.length + 1, fun k hk => ?_⟩
  simp only [slices_Index_int_int.f]
  have := Index_l0 x l hb l.length 0 k (by omega) (by omega) (by omega)
  simpa using this
theorem Contains_ev (l : List Int) (x : Int) (hb : l.length ≤ 1152921504606846976) : Ev (fun k => slices_Contains_int_int.f k l x) (decide (x ∈ l)) := by
  obtain ⟨K, hK⟩ := ev_get (Index_ev l x hb)
  refine ⟨K, fun k hk => ?_⟩
  simp only [slices_Contains_int_int.f, hK k hk, Option.bind_some]
  congr 1
  by_cases h : x ∈ l
  · simp [h]
  · simp [h]
end Go.Proofs.Ythjejaoadhhpdaa.P
namespace Go.Proofs.Ythjejaoadhhpdaa.P
open Go.RowKit Go.Proofs.YthjejaoadhhpdaaW.PrintWords Go.Proofs.YthjejaoadhhpdaaW.PrintLast Go.Proofs.YthjejaoadhhpdaaW.PrintMore
set_option linter.unusedVariables false
set_option linter.unusedSimpArgs false
theorem isMany_eq (n : Int) : impl_isMany.f n = some (inB n 1 8) := by
  simp only [impl_isMany.f, within_eq, Option.bind_some]
end Go.Proofs.Ythjejaoadhhpdaa.P
namespace Go.Proofs.Ythjejaoadhhpdaa.P
open Go.RowKit Go.Proofs.YthjejaoadhhpdaaW.PrintWords Go.Proofs.YthjejaoadhhpdaaW.PrintLast Go.Proofs.YthjejaoadhhpdaaW.PrintMore
set_option linter.unusedVariables false
set_option linter.unusedSimpArgs false
theorem quSide_eq (n : Int) : spec_quSide.f n = some (inB n 1 8) := by
  simp only [spec_quSide.f, l1In_eq, Option.bind_some]
/-- Rows r and s attack each other. -/
def att (q : List Int) (r s : Nat) : Bool := decide ((q.getD r 0 - q.getD s 0).natAbs = ((s : Int) - (r : Int)).natAbs)
theorem range'_step (s n : Nat) (h : s < n) : List.range' s (n - s) = s :: List.range' (s + 1) (n - (s + 1)) := by
  rw [show n - s = (n - (s + 1)) + 1 by omega, List.range'_succ]
theorem l1Abs_eq (n : Int) (h : -1000 ≤ n) (h2 : n ≤ 1000) : spec_l1Abs.f n = some (n.natAbs : Int) := by
  unfold spec_l1Abs.f spec_l1Most.f
  rw [w64 _ (by omega) (by omega)]
  split
  · simp only [Option.bind_some]; congr 1; omega
  · simp only [Option.bind_some]; congr 1; omega
/-- At most 8 numbers, each in 0..7. -/
def Small (q : List Int) : Prop := q.length ≤ 8 ∧ ∀ i, ∀ h : i < q.length, 0 ≤ q[i] ∧ q[i] < 8
/-- No two rows attack each other. -/
def freeB (q : List Int) : Bool := decide (∀ s, s < q.length → ∀ r, r < s → att q r s = false)
end Go.Proofs.Ythjejaoadhhpdaa.P
namespace Go.Proofs.Ythjejaoadhhpdaa.P
open Go.RowKit Go.Proofs.YthjejaoadhhpdaaW.PrintWords Go.Proofs.YthjejaoadhhpdaaW.PrintLast Go.Proofs.YthjejaoadhhpdaaW.PrintMore
set_option linter.unusedVariables false
set_option linter.unusedSimpArgs false
/-- Rows r and s attack each other on a torus of n rows. -/
def tor (n : Int) (q : List Int) (r s : Nat) : Bool := decide (n ∣ ((s : Int) - r) + (q.getD s 0 - q.getD r 0) ∨ n ∣ ((s : Int) - r) - (q.getD s 0 - q.getD r 0))
def rowTor (n : Int) (q : List Int) (r s0 : Nat) : Prop := ∀ s, s0 ≤ s → s < q.length → tor n q r s = false
def colTor (n : Int) (q : List Int) (r0 s : Nat) : Prop := ∀ r, r0 ≤ r → r < s → tor n q r s = false
def torFrom (n : Int) (q : List Int) (r0 : Nat) : Prop := ∀ r, r0 ≤ r → rowTor n q r (r + 1)
def torTo (n : Int) (q : List Int) (s0 : Nat) : Prop := ∀ s, s0 ≤ s → s < q.length → colTor n q 0 s
theorem torFrom_torTo (n : Int) (q : List Int) : torFrom n q 0 ↔ torTo n q 0 := by
  constructor
  · intro h s _ hs r _ hr
    exact h r (by omega) s (by omega) hs
  · intro h r _ s hs hl
    exact h s (by omega) hl r (by omega) (by omega)
open Classical in
noncomputable def torB (q : List Int) : Bool := decide (torFrom q.length q 0)
theorem rowTor_step (n : Int) (q : List Int) (r s : Nat) (h : s < q.length) : rowTor n q r s ↔ tor n q r s = false ∧ rowTor n q r (s + 1) := by
  constructor
  · intro H
    exact ⟨H s (by omega) h, fun s' h1 h2 => H s' (by omega) h2⟩
  · rintro ⟨h0, H⟩ s' h1 h2
    by_cases e : s' = s
    · subst e; exact h0
    · exact H s' (by omega) h2
theorem colTor_step (n : Int) (q : List Int) (r s : Nat) (h : r < s) : colTor n q r s ↔ tor n q r s = false ∧ colTor n q (r + 1) s := by
  constructor
  · intro H
    exact ⟨H r (by omega) h, fun r' h1 h2 => H r' (by omega) h2⟩
  · rintro ⟨h0, H⟩ r' h1 h2
    by_cases e : r' = r
    · subst e; exact h0
    · exact H r' (by omega) h2
theorem torFrom_step (n : Int) (q : List Int) (r : Nat) : torFrom n q r ↔ rowTor n q r (r + 1) ∧ torFrom n q (r + 1) := by
  constructor
  · intro H
    exact ⟨H r (by omega), fun r' h1 => H r' (by omega)⟩
  · rintro ⟨h0, H⟩ r' h1
    by_cases e : r' = r
    · subst e; exact h0
    · exact H r' (by omega)
theorem torTo_step (n : Int) (q : List Int) (s : Nat) (h : s < q.length) : torTo n q s ↔ colTor n q 0 s ∧ torTo n q (s + 1) := by
  constructor
  · intro H
    exact ⟨H s (by omega) h, fun s' h1 h2 => H s' (by omega) h2⟩
  · rintro ⟨h0, H⟩ s' h1 h2
    by_cases e : s' = s
    · subst e; exact h0
    · exact H s' (by omega) h2
theorem tmod_dvd (a n : Int) : Int.tmod a n = 0 ↔ n ∣ a := (Int.dvd_iff_tmod_eq_zero).symm
theorem getD_eq (q : List Int) (i : Nat) (h : i < q.length) : q.getD i 0 = q[i] := by simp [List.getD_eq_getElem?_getD, List.getElem?_eq_getElem h]
open Classical in
theorem quTorus_inner (q : List Int) (hg : Small q) (r : Nat) (hr : r < q.length)
    (hout : Ev (fun k => spec_quTorus.l0 k q (q.length : Int) q (q.length : Int) ((r + 1 : Nat) : Int)) (decide (torFrom q.length q (r + 1)))) :
    ∀ (d s : Nat), q.length - s = d → r < s → s ≤ q.length →
    Ev (fun k => spec_quTorus.l1 k q (q.length : Int) (r : Int) q[r] (s : Int) q (q.length : Int) (r : Int)) (decide (rowTor q.length q r s ∧ torFrom q.length q (r + 1))) := by
  have hl := hg.1
  have hq := hg.2 r hr
  intro d
  induction d with
  | zero =>
    intro s hd hrs hs
    obtain ⟨K, hK⟩ := ev_get hout
    refine ⟨K + 1, fun k hk => ?_⟩
    obtain ⟨k, rfl⟩ : ∃ m, k = m + 1 := ⟨k - 1, by omega⟩
    simp only [spec_quTorus.l1]
    rw [if_neg (by omega), w64 _ (by omega) (by omega), show ((r : Int) + 1) = ((r + 1 : Nat) : Int) by omega, hK k (by omega)]
    congr 1
    rw [decide_eq_decide]
    exact ⟨fun h => ⟨fun s' h1 h2 => by omega, h⟩, fun h => h.2⟩
  | succ d ih =>
    intro s hd hrs hs
    have hs1 : s < q.length := by omega
    have hq2 := hg.2 s hs1
    obtain ⟨K, hK⟩ := ev_get (ih (s + 1) (by omega) (by omega) (by omega))
    refine ⟨K + 1, fun k hk => ?_⟩
    obtain ⟨k, rfl⟩ : ∃ m, k = m + 1 := ⟨k - 1, by omega⟩
    have hK := hK k (by omega)
    simp only [spec_quTorus.l1]
    rw [if_pos (by omega), if_pos (by omega), if_pos (by omega), if_neg (by omega), rd_nat _ _ hs1, w64 ((s : Int) - r) (by omega) (by omega), w64 ((s : Int) - r + q[s]) (by omega) (by omega), w64 ((s : Int) - r + q[s] - q[r]) (by omega) (by omega), w64 ((s : Int) - r - q[s]) (by omega) (by omega), w64 ((s : Int) - r - q[s] + q[r]) (by omega) (by omega), w64 ((s : Int) + 1) (by omega) (by omega), show ((s : Int) + 1) = ((s + 1 : Nat) : Int) by omega, hK]
    have hst := rowTor_step q.length q r s hs1
    have ht : (tor q.length q r s = true) ↔ ((q.length : Int) ∣ (s : Int) - r + q[s] - q[r] ∨ (q.length : Int) ∣ (s : Int) - r - q[s] + q[r]) := by
      unfold tor
      rw [decide_eq_true_iff, getD_eq q r hr, getD_eq q s hs1, show ((s : Int) - r) + (q[s] - q[r]) = (s : Int) - r + q[s] - q[r] by omega, show ((s : Int) - r) - (q[s] - q[r]) = (s : Int) - r - q[s] + q[r] by omega]
    by_cases h1 : Int.tmod ((s : Int) - r + q[s] - q[r]) q.length = 0
    · rw [if_pos h1]
      congr 1
      symm; apply decide_eq_false
      rintro ⟨h2, _⟩
      have := (hst.1 h2).1
      rw [ht.2 (.inl ((tmod_dvd _ _).1 h1))] at this; cases this
    · rw [if_neg h1]
      by_cases h2 : Int.tmod ((s : Int) - r - q[s] + q[r]) q.length = 0
      · rw [if_pos h2]
        congr 1
        symm; apply decide_eq_false
        rintro ⟨h3, _⟩
        have := (hst.1 h3).1
        rw [ht.2 (.inr ((tmod_dvd _ _).1 h2))] at this; cases this
      · rw [if_neg h2]
        congr 1
        rw [decide_eq_decide]
        have hf : tor q.length q r s = false := by
          rw [Bool.eq_false_iff]
          intro h; rcases ht.1 h with h | h
          · exact h1 ((tmod_dvd _ _).2 h)
          · exact h2 ((tmod_dvd _ _).2 h)
        exact ⟨fun h => ⟨hst.2 ⟨hf, h.1⟩, h.2⟩, fun h => ⟨(hst.1 h.1).2, h.2⟩⟩
open Classical in
theorem quTorus_outer (q : List Int) (hg : Small q) : ∀ (d r : Nat), q.length - r = d → r ≤ q.length →
    Ev (fun k => spec_quTorus.l0 k q (q.length : Int) q (q.length : Int) (r : Int)) (decide (torFrom q.length q r)) := by
  have hl := hg.1
  intro d
  induction d with
  | zero =>
    intro r hd hr
    refine ⟨1, fun k hk => ?_⟩
    obtain ⟨k, rfl⟩ : ∃ m, k = m + 1 := ⟨k - 1, by omega⟩
    simp only [spec_quTorus.l0]
    rw [if_neg (by omega)]
    congr 1
    symm; apply decide_eq_true
    intro r' h1 s h2 h3; omega
  | succ d ih =>
    intro r hd hr
    have hr1 : r < q.length := by omega
    obtain ⟨K, hK⟩ := ev_get (quTorus_inner q hg r hr1 (ih (r + 1) (by omega) (by omega)) (q.length - (r + 1)) (r + 1) (by omega) (by omega) (by omega))
    refine ⟨K + 1, fun k hk => ?_⟩
    obtain ⟨k, rfl⟩ : ∃ m, k = m + 1 := ⟨k - 1, by omega⟩
    simp only [spec_quTorus.l0]
    rw [if_pos (by omega), if_pos (by omega), if_pos (by omega), rd_nat _ _ hr1, w64 _ (by omega) (by omega), show ((r : Int) + 1) = ((r + 1 : Nat) : Int) by omega, hK k (by omega)]
    congr 1
    rw [decide_eq_decide]
    exact (torFrom_step _ q r).symm
theorem quTorus_ev (q : List Int) (hg : Small q) : Ev (fun k => spec_quTorus.f k q) (torB q) := by
  obtain ⟨K, hK⟩ := ev_get (quTorus_outer q hg q.length 0 (by omega) (by omega))
  exact ⟨K, fun k hk => hK k hk⟩
end Go.Proofs.Ythjejaoadhhpdaa.P
namespace Go.Proofs.Ythjejaoadhhpdaa.P
open Go.RowKit Go.Proofs.YthjejaoadhhpdaaW.PrintWords Go.Proofs.YthjejaoadhhpdaaW.PrintLast Go.Proofs.YthjejaoadhhpdaaW.PrintMore
set_option linter.unusedVariables false
set_option linter.unusedSimpArgs false
/-- All lists of N numbers that go on a list, d numbers being missing, in order. -/
def P (N : Nat) : Nat → List Int → List (List Int)
  | 0, q => [q]
  | d + 1, q => (List.range' 0 (N - 0)).flatMap fun (c : Nat) => if (c : Int) ∈ q then [] else P N d (q ++ [(c : Int)])
def PF (N d : Nat) (q : List Int) (i : Nat) : List (List Int) := (List.range' i (N - i)).flatMap fun (c : Nat) => if (c : Int) ∈ q then [] else P N d (q ++ [(c : Int)])
theorem P_succ (N d : Nat) (q : List Int) : P N (d + 1) q = PF N d q 0 := rfl
theorem PF_step (N d : Nat) (q : List Int) (i : Nat) (h : i < N) : PF N d q i = (if (i : Int) ∈ q then [] else P N d (q ++ [(i : Int)])) ++ PF N d q (i + 1) := by
  unfold PF
  rw [range'_step i N h, List.flatMap_cons]
theorem PF_nil (N d : Nat) (q : List Int) (i : Nat) (h : N ≤ i) : PF N d q i = [] := by
  unfold PF
  rw [show N - i = 0 by omega]; rfl
def OkQ (N : Nat) (q : List Int) : Prop := q.length ≤ N ∧ ∀ x ∈ q, 0 ≤ x ∧ x < (N : Int)
theorem okq_nil (N : Nat) : OkQ N [] := ⟨by simp, by simp⟩
theorem okq_snoc {N : Nat} {q : List Int} (h : OkQ N q) (hl : q.length < N) {i : Nat} (hi : i < N) : OkQ N (q ++ [(i : Int)]) := by
  refine ⟨by simp; omega, fun x hx => ?_⟩
  rcases List.mem_append.1 hx with hx | hx
  · exact h.2 x hx
  · rw [List.mem_singleton.1 hx]; omega
theorem okq_small {N : Nat} (hN : N ≤ 8) {q : List Int} (h : OkQ N q) : Small q :=
  ⟨by have := h.1; omega, fun i hi => by have := h.2 q[i] (List.getElem_mem hi); omega⟩
theorem P_mem (N : Nat) : ∀ (d : Nat) (q : List Int), OkQ N q → q.length + d = N → ∀ x ∈ P N d q, OkQ N x ∧ x.length = N ∧ ∃ t, x = q ++ t
  | 0, q, h, hl, x, hx => by
    rw [P, List.mem_singleton] at hx
    subst hx
    exact ⟨h, hl, [], by simp⟩
  | d + 1, q, h, hl, x, hx => by
    rw [P, List.mem_flatMap] at hx
    obtain ⟨c, hc, hx⟩ := hx
    rw [List.mem_range'_1] at hc
    split at hx
    · cases hx
    · obtain ⟨h1, h2, t, h3⟩ := P_mem N d _ (okq_snoc h (by omega) (i := c) (by omega)) (by simp; omega) x hx
      exact ⟨h1, h2, (c : Int) :: t, by rw [h3]; simp⟩
theorem PF_len (N d : Nat) (q : List Int) (b : Nat) (hb : ∀ c, c < N → (P N d (q ++ [(c : Int)])).length ≤ b) : ∀ (e i : Nat), N - i = e → (PF N d q i).length ≤ e * b
  | 0, i, he => by rw [PF_nil N d q i (by omega)]; simp
  | e + 1, i, he => by
    rw [PF_step N d q i (by omega), List.length_append, Nat.succ_mul]
    have h1 := PF_len N d q b hb e (i + 1) (by omega)
    have h2 := hb i (by omega)
    split <;> simp <;> omega
theorem P_len (N : Nat) : ∀ (d : Nat) (q : List Int), (P N d q).length ≤ N ^ d
  | 0, q => by simp [P]
  | d + 1, q => by
    rw [P_succ]
    have := PF_len N d q (N ^ d) (fun c _ => P_len N d _) N 0 (by omega)
    rw [Nat.pow_succ, Nat.mul_comm]; exact this
theorem pow_bound {N d : Nat} (hN : N ≤ 8) (hd : d ≤ N) : N ^ d ≤ 16777216 :=
  Nat.le_trans (Nat.pow_le_pow_left hN d) (Nat.le_trans (Nat.pow_le_pow_right (by decide) (show d ≤ 8 by omega)) (by decide))
def Her (G : List Int → Bool) : Prop := ∀ q c, G (q ++ [c]) = true → G q = true
theorem her_pre {G : List Int → Bool} (h : Her G) : ∀ (t q : List Int), G (q ++ t) = true → G q = true
  | [], q, hq => by simpa using hq
  | c :: t, q, hq => h q c (her_pre h t (q ++ [c]) (by simpa using hq))
theorem P_none {N d : Nat} {q : List Int} {G : List Int → Bool} (h : Her G) (ho : OkQ N q) (hl : q.length + d = N) (hq : G q = false) : (P N d q).filter G = [] := by
  rw [List.filter_eq_nil_iff]
  intro x hx hg
  obtain ⟨_, _, t, rfl⟩ := P_mem N d q ho hl x hx
  rw [her_pre h t q hg] at hq
  cases hq
theorem own7 (l : List Int) (h : l.length < 17592186044416) : spec_l1Own.f l = some l := by
  unfold spec_l1Own.f; simp [h]
theorem clone7 (l : List Int) (h : l.length < 17592186044416) : slices_Clone_int_int.f l = some l := if_pos h
theorem grown_ev (N : Nat) (hN : N ≤ 8) (good : List Int → Option Bool) (G : List Int → Bool) (hgood : ∀ q, OkQ N q → good q = some (G q)) (hher : Her G) :
    ∀ (d : Nat) (q : List Int) (out : List (List Int)), OkQ N q → q.length + d = N → out.length + (P N d q).length ≤ 16777216 →
    Ev (fun k => impl_grown_1.f k good (N : Int) q out) (out ++ (P N d q).filter G) := by
  intro d
  induction d with
  | zero =>
    intro q out ho hl hb
    refine ⟨1, fun k hk => ?_⟩
    obtain ⟨k, rfl⟩ : ∃ m, k = m + 1 := ⟨k - 1, by omega⟩
    have hq8 := ho.1
    simp only [impl_grown_1.f, hgood q ho, Option.bind_some, P, List.length_singleton] at hb ⊢
    cases hG : G q with
    | false => simp [hG]
    | true => rw [if_pos rfl, if_pos (by omega), clone7 q (by omega), Option.bind_some, if_pos (by omega)]; simp [hG]
  | succ d ih =>
    intro q out ho hl hb
    have hq8 := ho.1
    have hloop : ∀ (e i : Nat) (out : List (List Int)), N - i = e → i ≤ N → out.length + (PF N d q i).length ≤ 16777216 →
        Ev (fun k => impl_grown_1.l0 k good (N : Int) q out (i : Int)) (out ++ (PF N d q i).filter G) := by
      intro e
      induction e with
      | zero =>
        intro i out he hi hb
        refine ⟨1, fun k hk => ?_⟩
        obtain ⟨k, rfl⟩ : ∃ m, k = m + 1 := ⟨k - 1, by omega⟩
        dsimp only
        rw [impl_grown_1.l0, if_neg (by omega), PF_nil N d q i (by omega)]; simp
      | succ e ihe =>
        intro i out he hi hb
        rw [PF_step N d q i (by omega)] at hb ⊢
        obtain ⟨K1, h1⟩ := ev_get (Contains_ev q (i : Int) (by omega))
        by_cases hc : (i : Int) ∈ q
        · simp only [if_pos hc, List.nil_append] at hb ⊢
          obtain ⟨K2, h2⟩ := ev_get (ihe (i + 1) out (by omega) (by omega) hb)
          refine ⟨K1 + K2 + 1, fun k hk => ?_⟩
          obtain ⟨k, rfl⟩ : ∃ m, k = m + 1 := ⟨k - 1, by omega⟩
          dsimp only
          rw [impl_grown_1.l0, if_pos (by omega), h1 k (by omega), Option.bind_some, decide_eq_true hc, if_pos rfl, w64 _ (by omega) (by omega), show ((i : Int) + 1) = ((i + 1 : Nat) : Int) by omega]
          exact h2 k (by omega)
        · simp only [if_neg hc, List.length_append] at hb ⊢
          have hf := List.length_filter_le G (P N d (q ++ [(i : Int)]))
          obtain ⟨K2, h2⟩ := ev_get (ih (q ++ [(i : Int)]) out (okq_snoc ho (by omega) (by omega)) (by simp; omega) (by omega))
          obtain ⟨K3, h3⟩ := ev_get (ihe (i + 1) (out ++ (P N d (q ++ [(i : Int)])).filter G) (by omega) (by omega) (by rw [List.length_append]; omega))
          refine ⟨K1 + K2 + K3 + 1, fun k hk => ?_⟩
          obtain ⟨k, rfl⟩ : ∃ m, k = m + 1 := ⟨k - 1, by omega⟩
          dsimp only
          rw [impl_grown_1.l0, if_pos (by omega), h1 k (by omega), Option.bind_some, decide_eq_false hc, if_neg (by simp), if_pos (by omega), h2 k (by omega), Option.bind_some, w64 _ (by omega) (by omega), show ((i : Int) + 1) = ((i + 1 : Nat) : Int) by omega, h3 k (by omega), List.filter_append, List.append_assoc]
    cases hG : G q with
    | false =>
      refine ⟨1, fun k hk => ?_⟩
      obtain ⟨k, rfl⟩ : ∃ m, k = m + 1 := ⟨k - 1, by omega⟩
      dsimp only
      rw [impl_grown_1.f, hgood q ho, Option.bind_some, hG, if_neg (by simp), P_none hher ho hl hG, List.append_nil]
    | true =>
      rw [P_succ] at hb ⊢
      obtain ⟨K, hK⟩ := ev_get (hloop N 0 out (by omega) (by omega) hb)
      refine ⟨K + 1, fun k hk => ?_⟩
      obtain ⟨k, rfl⟩ : ∃ m, k = m + 1 := ⟨k - 1, by omega⟩
      dsimp only
      rw [impl_grown_1.f, hgood q ho, Option.bind_some, hG, if_pos rfl, if_neg (by omega)]
      exact hK k (by omega)
/-- No number of the list attacks a new one in the next row. -/
def fr (q : List Int) (i : Int) (r : Nat) : Prop := ∀ r', r ≤ r' → ∀ h : r' < q.length, (i - q[r']).natAbs ≠ q.length - r'
theorem fr_step (q : List Int) (i : Int) (r : Nat) (h : r < q.length) : fr q i r ↔ (i - q[r]).natAbs ≠ q.length - r ∧ fr q i (r + 1) := by
  constructor
  · intro h1
    exact ⟨h1 r (Nat.le_refl _) h, fun r' h2 h3 => h1 r' (by omega) h3⟩
  · rintro ⟨h1, h2⟩ r' h3 h4
    rcases Nat.eq_or_lt_of_le h3 with h5 | h5
    · subst h5; exact h1
    · exact h2 r' h5 h4
theorem att_snoc (q : List Int) (c : Int) (r s : Nat) (hr : r < s) (hs : s < q.length) : att (q ++ [c]) r s = att q r s := by
  unfold att
  simp only [List.getD_eq_getElem?_getD, List.getElem?_append_left hs, List.getElem?_append_left (show r < q.length by omega)]
theorem att_last (q : List Int) (c : Int) (r : Nat) (hr : r < q.length) : att (q ++ [c]) r q.length = decide ((c - q[r]).natAbs = q.length - r) := by
  unfold att
  rw [decide_eq_decide]
  simp only [List.getD_eq_getElem?_getD, List.getElem?_append_left hr, List.getElem?_append_right (Nat.le_refl _), Nat.sub_self, List.getElem?_eq_getElem hr]
  simp
  omega
theorem freeB_snoc (q : List Int) (c : Int) : freeB (q ++ [c]) = true ↔ freeB q = true ∧ fr q c 0 := by
  unfold freeB
  simp only [decide_eq_true_iff, List.length_append, List.length_singleton]
  constructor
  · intro h
    refine ⟨fun s hs r hr => by rw [← att_snoc q c r s hr hs]; exact h s (by omega) r hr, fun r _ hr => ?_⟩
    have := h q.length (by omega) r hr
    rw [att_last q c r hr] at this
    simpa using this
  · rintro ⟨h1, h2⟩ s hs r hr
    by_cases hsl : s < q.length
    · rw [att_snoc q c r s hr hsl]; exact h1 s hsl r hr
    · obtain rfl : s = q.length := by omega
      rw [att_last q c r hr]
      simpa using h2 r (by omega) hr
theorem freeB_her : Her freeB := fun q c h => ((freeB_snoc q c).1 h).1
open Classical in
theorem quAll_ev (N : Nat) (hN : N ≤ 8) : ∀ (d : Nat) (q : List Int), OkQ N q → q.length + d = N → freeB q = true →
    Ev (fun k => spec_quAll.f k (N : Int) q) ((P N d q).filter freeB) := by
  intro d
  induction d with
  | zero =>
    intro q ho hl hf
    have hq8 := ho.1
    refine ⟨1, fun k hk => ?_⟩
    obtain ⟨k, rfl⟩ : ∃ m, k = m + 1 := ⟨k - 1, by omega⟩
    dsimp only
    rw [spec_quAll.f, if_pos (by omega), own7 q (by omega), Option.bind_some, P]
    simp [hf]
  | succ d ih =>
    intro q ho hl hf
    have hq8 := ho.1
    have hsm := okq_small hN ho
    have hloop : ∀ (e i : Nat) (acc : List (List Int)), N - i = e → i ≤ N → acc.length + (PF N d q i).length ≤ 16777216 →
        Ev (fun k => spec_quAll.l0 k (N : Int) q acc (i : Int)) (acc ++ (PF N d q i).filter freeB) := by
      intro e
      induction e with
      | zero =>
        intro i acc he hi hb
        refine ⟨1, fun k hk => ?_⟩
        obtain ⟨k, rfl⟩ : ∃ m, k = m + 1 := ⟨k - 1, by omega⟩
        dsimp only
        rw [spec_quAll.l0, if_neg (by omega), PF_nil N d q i (by omega)]; simp
      | succ e ihe =>
        intro i acc he hi hb
        have hi8 : i < N := by omega
        rw [PF_step N d q i hi8] at hb ⊢
        have hok := okq_snoc ho (by omega) hi8
        -- the rounds that ask the rows one by one
        have hin : ∀ (g r : Nat) (free : Bool), q.length - r = g → r ≤ q.length → (free = true → ((i : Int) ∉ q)) →
            Ev (fun k => spec_quAll.l1 k (N : Int) q acc (i : Int) free q (q.length : Int) (r : Int))
              ((if free = true ∧ fr q i r then acc ++ (P N d (q ++ [(i : Int)])).filter freeB else acc) ++ (PF N d q (i + 1)).filter freeB) ∨ (free = true ∧ fr q i r ∧ ¬ fr q i 0) := by
          intro g
          induction g with
          | zero =>
            intro r free hg hr hfree
            have hfr : fr q i r := fun r' h1 h2 => by omega
            by_cases hff : free = true
            · by_cases h0 : fr q i 0
              · left
                have hnew : freeB (q ++ [(i : Int)]) = true := (freeB_snoc q i).2 ⟨hf, h0⟩
                have hc := hfree hff
                simp only [if_neg hc, List.length_append] at hb
                have hlf := List.length_filter_le freeB (P N d (q ++ [(i : Int)]))
                obtain ⟨K1, h1⟩ := ev_get (ih (q ++ [(i : Int)]) hok (by simp; omega) hnew)
                obtain ⟨K2, h2⟩ := ev_get (ihe (i + 1) (acc ++ (P N d (q ++ [(i : Int)])).filter freeB) (by omega) (by omega) (by rw [List.length_append]; omega))
                refine ⟨K1 + K2 + 1, fun k hk => ?_⟩
                obtain ⟨k, rfl⟩ : ∃ m, k = m + 1 := ⟨k - 1, by omega⟩
                dsimp only
                rw [spec_quAll.l1, if_neg (by omega), if_pos hff, own7 q (by omega), Option.bind_some, if_pos (by omega), h1 k (by omega), Option.bind_some, if_pos (by omega), w64 _ (by omega) (by omega), show ((i : Int) + 1) = ((i + 1 : Nat) : Int) by omega, h2 k (by omega), if_pos ⟨hff, hfr⟩]
              · right; exact ⟨hff, hfr, h0⟩
            · left
              obtain ⟨K2, h2⟩ := ev_get (ihe (i + 1) acc (by omega) (by omega) (by simp only [List.length_append] at hb; omega))
              refine ⟨K2 + 1, fun k hk => ?_⟩
              obtain ⟨k, rfl⟩ : ∃ m, k = m + 1 := ⟨k - 1, by omega⟩
              dsimp only
              rw [spec_quAll.l1, if_neg (by omega), if_neg hff, w64 _ (by omega) (by omega), show ((i : Int) + 1) = ((i + 1 : Nat) : Int) by omega, h2 k (by omega), if_neg (fun h => hff h.1)]
          | succ g ihg =>
            intro r free hg hr hfree
            have hr1 : r < q.length := by omega
            have hx := hsm.2 r hr1
            have hst := fr_step q i r hr1
            by_cases hff : free = true
            · have habs : (((((i : Int) - q[r]).natAbs : Int)) != ((q.length : Int) - (r : Int))) = true ↔ ((i : Int) - q[r]).natAbs ≠ q.length - r := by
                rw [bne_iff_ne]; omega
              rcases ihg (r + 1) ((((((i : Int) - q[r]).natAbs : Int)) != ((q.length : Int) - (r : Int)))) (by omega) (by omega) (fun _ => hfree hff) with h | h
              · left
                obtain ⟨K, hK⟩ := ev_get h
                refine ⟨K + 1, fun k hk => ?_⟩
                obtain ⟨k, rfl⟩ : ∃ m, k = m + 1 := ⟨k - 1, by omega⟩
                dsimp only
                rw [spec_quAll.l1, if_pos (by omega), if_pos (by omega), if_pos (by omega), if_pos hff, rd_nat _ _ hr1, w64 ((i : Int) - q[r]) (by omega) (by omega), l1Abs_eq _ (by omega) (by omega), Option.bind_some, w64 ((q.length : Int) - r) (by omega) (by omega), w64 ((r : Int) + 1) (by omega) (by omega), show ((r : Int) + 1) = ((r + 1 : Nat) : Int) by omega, hK k (by omega)]
                have he : ((((((i : Int) - q[r]).natAbs : Int)) != ((q.length : Int) - (r : Int))) = true ∧ fr q i (r + 1)) ↔ (free = true ∧ fr q i r) := by
                  rw [habs, hst]; exact ⟨fun h => ⟨hff, h⟩, fun h => h.2⟩
                simp only [he]
              · right
                exact ⟨hff, hst.2 ⟨habs.1 h.1, h.2.1⟩, h.2.2⟩
            · left
              rcases ihg (r + 1) false (by omega) (by omega) (fun h => by cases h) with h | h
              · obtain ⟨K, hK⟩ := ev_get h
                refine ⟨K + 1, fun k hk => ?_⟩
                obtain ⟨k, rfl⟩ : ∃ m, k = m + 1 := ⟨k - 1, by omega⟩
                dsimp only
                rw [spec_quAll.l1, if_pos (by omega), if_pos (by omega), if_pos (by omega), if_neg hff, w64 ((r : Int) + 1) (by omega) (by omega), show ((r : Int) + 1) = ((r + 1 : Nat) : Int) by omega, hK k (by omega), if_neg (fun h => by cases h.1), if_neg (fun h => hff h.1)]
              · cases h.1
        obtain ⟨K1, h1⟩ := ev_get (l1Has_ev q (i : Int) (by omega))
        rcases hin q.length 0 (!decide ((i : Int) ∈ q)) (by omega) (by omega) (fun h => by simpa using h) with h | h
        · obtain ⟨K2, h2⟩ := ev_get h
          refine ⟨K1 + K2 + 1, fun k hk => ?_⟩
          obtain ⟨k, rfl⟩ : ∃ m, k = m + 1 := ⟨k - 1, by omega⟩
          dsimp only
          rw [spec_quAll.l0, if_pos (by omega), h1 k (by omega), Option.bind_some]
          refine (h2 k (by omega)).trans ?_
          congr 1
          rw [List.filter_append, ← List.append_assoc]
          congr 1
          by_cases hc : (i : Int) ∈ q
          · rw [if_neg (fun h => by simpa [hc] using h.1), if_pos hc]; simp
          · rw [if_neg hc]
            by_cases h0 : fr q i 0
            · rw [if_pos ⟨by simpa using hc, h0⟩]
            · rw [if_neg (fun h => h0 h.2)]
              have : freeB (q ++ [(i : Int)]) = false := by
                rw [Bool.eq_false_iff]
                intro h; exact h0 ((freeB_snoc q i).1 h).2
              rw [P_none freeB_her hok (by simp; omega) this, List.append_nil]
        · exact absurd h.2.1 h.2.2
    rw [P_succ]
    have hb := P_len N (d + 1) q
    have hp := pow_bound hN (show d + 1 ≤ N by omega)
    rw [P_succ] at hb
    obtain ⟨K, hK⟩ := ev_get (hloop N 0 [] (by omega) (by omega) (by simp; omega))
    refine ⟨K + 1, fun k hk => ?_⟩
    obtain ⟨k, rfl⟩ : ∃ m, k = m + 1 := ⟨k - 1, by omega⟩
    dsimp only
    rw [spec_quAll.f, if_neg (by omega)]
    simpa using hK k (by omega)
/-- The lists of queens. -/
def allQ (N : Nat) : List (List Int) := (P N N []).filter freeB
theorem allQ_len (N : Nat) (hN : N ≤ 8) : (allQ N).length ≤ 16777216 :=
  Nat.le_trans (List.length_filter_le _ _) (Nat.le_trans (P_len N N []) (pow_bound hN (Nat.le_refl _)))
theorem allQ_row {N : Nat} {x : List Int} (h : x ∈ allQ N) : OkQ N x ∧ x.length = N := by
  obtain ⟨h1, h2, _⟩ := P_mem N N [] (okq_nil N) (by simp) x (List.mem_filter.1 h).1
  exact ⟨h1, h2⟩
theorem freeB_nil : freeB [] = true := by unfold freeB; simp
theorem quAllQ_ev (N : Nat) (hN : N ≤ 8) : Ev (fun k => spec_quAll.f k (N : Int) ([] : List Int)) (allQ N) := quAll_ev N hN N [] (okq_nil N) (by simp) freeB_nil
end Go.Proofs.Ythjejaoadhhpdaa.P
namespace Go.Proofs.Ythjejaoadhhpdaa.P
open Go.RowKit Go.Proofs.YthjejaoadhhpdaaW.PrintWords Go.Proofs.YthjejaoadhhpdaaW.PrintLast Go.Proofs.YthjejaoadhhpdaaW.PrintMore
set_option linter.unusedVariables false
set_option linter.unusedSimpArgs false
open Classical in
theorem onTorus_innerN (N : Nat) (hN1 : 1 ≤ N) (hN8 : N ≤ 8) (q : List Int) (hg : Small q) (s : Nat) (hs : s < q.length)
    (hout : Ev (fun k => impl_onTorus_1.l0 k q (N : Int) q (q.length : Int) ((s + 1 : Nat) : Int)) (decide (torTo N q (s + 1)))) :
    ∀ (d r : Nat), s - r = d → r ≤ s →
    Ev (fun k => impl_onTorus_1.l1 k q (N : Int) (s : Int) q[s] q (q.length : Int) (s : Int) (q.take s) ((q.take s).length : Int) (r : Int)) (decide (colTor N q r s ∧ torTo N q (s + 1))) := by
  have hl := hg.1
  have hq2 := hg.2 s hs
  have ht : (q.take s).length = s := by rw [List.length_take]; omega
  intro d
  induction d with
  | zero =>
    intro r hd hr
    obtain ⟨K, hK⟩ := ev_get hout
    refine ⟨K + 1, fun k hk => ?_⟩
    obtain ⟨k, rfl⟩ : ∃ m, k = m + 1 := ⟨k - 1, by omega⟩
    simp only [impl_onTorus_1.l1]
    rw [ht, if_neg (by omega), w64 _ (by omega) (by omega), show ((s : Int) + 1) = ((s + 1 : Nat) : Int) by omega, hK k (by omega)]
    congr 1
    rw [decide_eq_decide]
    exact ⟨fun h => ⟨fun r' h1 h2 => by omega, h⟩, fun h => h.2⟩
  | succ d ih =>
    intro r hd hr
    have hr1 : r < s := by omega
    have hq := hg.2 r (by omega)
    obtain ⟨K, hK⟩ := ev_get (ih (r + 1) (by omega) (by omega))
    refine ⟨K + 1, fun k hk => ?_⟩
    obtain ⟨k, rfl⟩ : ∃ m, k = m + 1 := ⟨k - 1, by omega⟩
    have hK := hK k (by omega)
    simp only [impl_onTorus_1.l1]
    rw [ht] at hK ⊢
    rw [if_pos (by omega), if_pos (by omega), if_pos (by omega), if_neg (by omega), rd_nat _ _ (show r < (q.take s).length by omega), List.getElem_take, w64 ((r : Int) + q[r]) (by omega) (by omega), w64 ((r : Int) + q[r] - s) (by omega) (by omega), w64 ((r : Int) + q[r] - s - q[s]) (by omega) (by omega), w64 ((r : Int) - q[r]) (by omega) (by omega), w64 ((r : Int) - q[r] - s) (by omega) (by omega), w64 ((r : Int) - q[r] - s + q[s]) (by omega) (by omega), w64 ((r : Int) + 1) (by omega) (by omega), show ((r : Int) + 1) = ((r + 1 : Nat) : Int) by omega, hK]
    have hst := colTor_step N q r s hr1
    have ht : (tor N q r s = true) ↔ ((N : Int) ∣ (r : Int) + q[r] - s - q[s] ∨ (N : Int) ∣ (r : Int) - q[r] - s + q[s]) := by
      unfold tor
      rw [decide_eq_true_iff, getD_eq q r (by omega), getD_eq q s hs, ← Int.dvd_neg (b := (r : Int) + q[r] - s - q[s]), ← Int.dvd_neg (b := (r : Int) - q[r] - s + q[s]),
        show -((r : Int) + q[r] - s - q[s]) = ((s : Int) - r) + (q[s] - q[r]) by omega, show -((r : Int) - q[r] - s + q[s]) = ((s : Int) - r) - (q[s] - q[r]) by omega]
    by_cases h1 : Int.tmod ((r : Int) + q[r] - s - q[s]) N = 0
    · rw [if_pos h1]
      congr 1
      symm; apply decide_eq_false
      rintro ⟨h2, _⟩
      have := (hst.1 h2).1
      rw [ht.2 (.inl ((tmod_dvd _ _).1 h1))] at this; cases this
    · rw [if_neg h1]
      by_cases h2 : Int.tmod ((r : Int) - q[r] - s + q[s]) N = 0
      · rw [if_pos h2]
        congr 1
        symm; apply decide_eq_false
        rintro ⟨h3, _⟩
        have := (hst.1 h3).1
        rw [ht.2 (.inr ((tmod_dvd _ _).1 h2))] at this; cases this
      · rw [if_neg h2]
        congr 1
        rw [decide_eq_decide]
        have hf : tor N q r s = false := by
          rw [Bool.eq_false_iff]
          intro h; rcases ht.1 h with h | h
          · exact h1 ((tmod_dvd _ _).2 h)
          · exact h2 ((tmod_dvd _ _).2 h)
        exact ⟨fun h => ⟨hst.2 ⟨hf, h.1⟩, h.2⟩, fun h => ⟨(hst.1 h.1).2, h.2⟩⟩
open Classical in
theorem onTorus_outerN (N : Nat) (hN1 : 1 ≤ N) (hN8 : N ≤ 8) (q : List Int) (hg : Small q) : ∀ (d s : Nat), q.length - s = d → s ≤ q.length →
    Ev (fun k => impl_onTorus_1.l0 k q (N : Int) q (q.length : Int) (s : Int)) (decide (torTo N q s)) := by
  have hl := hg.1
  intro d
  induction d with
  | zero =>
    intro s hd hs
    refine ⟨1, fun k hk => ?_⟩
    obtain ⟨k, rfl⟩ : ∃ m, k = m + 1 := ⟨k - 1, by omega⟩
    simp only [impl_onTorus_1.l0]
    rw [if_neg (by omega)]
    congr 1
    symm; apply decide_eq_true
    intro s' h1 h2; omega
  | succ d ih =>
    intro s hd hs
    have hs1 : s < q.length := by omega
    obtain ⟨K, hK⟩ := ev_get (onTorus_innerN N hN1 hN8 q hg s hs1 (ih (s + 1) (by omega) (by omega)) s 0 (by omega) (by omega))
    refine ⟨K + 1, fun k hk => ?_⟩
    obtain ⟨k, rfl⟩ : ∃ m, k = m + 1 := ⟨k - 1, by omega⟩
    simp only [impl_onTorus_1.l0]
    rw [if_pos (by omega), if_pos (by omega), if_pos (by omega), if_pos (by omega), Option.bind_some, rd_nat _ _ hs1, show (s : Int).toNat = s by omega]
    refine (hK k (by omega)).trans ?_
    congr 1
    rw [decide_eq_decide]
    exact (torTo_step _ q s hs1).symm
end Go.Proofs.Ythjejaoadhhpdaa.P
namespace Go.Proofs.Ythjejaoadhhpdaa.P
open Go.RowKit Go.Proofs.YthjejaoadhhpdaaW.PrintWords Go.Proofs.YthjejaoadhhpdaaW.PrintLast Go.Proofs.YthjejaoadhhpdaaW.PrintMore
set_option linter.unusedVariables false
set_option linter.unusedSimpArgs false
theorem rdL_nat (s : List (List Int)) (i : Nat) (h : i < s.length) : rd_L1 s (i : Int) = s[i] := by
  unfold rd_L1; simp [List.getD_eq_getElem?_getD, List.getElem?_eq_getElem h]
end Go.Proofs.Ythjejaoadhhpdaa.P
namespace Go.Proofs.Ythjejaoadhhpdaa.P
open Go.RowKit Go.Proofs.YthjejaoadhhpdaaW.PrintWords Go.Proofs.YthjejaoadhhpdaaW.PrintLast Go.Proofs.YthjejaoadhhpdaaW.PrintMore
set_option linter.unusedVariables false
set_option linter.unusedSimpArgs false
/-- Counting over a list: each round asks 'p' of one element. -/
theorem count_loopT (L : List (List Int)) (p : List Int → Bool) (l0 : Nat → Int → Int → Option (Int × Bool)) (t : Bool) (hL : L.length ≤ 16777216)
    (hend : ∀ k x i, (L.length : Int) ≤ i → l0 (k + 1) x i = some (x, t))
    (hstep : ∀ (i : Nat) (h : i < L.length), ∃ K, ∀ k, K ≤ k → ∀ x : Int, l0 (k + 1) x (i : Int) = if p L[i] = true then l0 k (wrap64 (x + 1)) ((i + 1 : Nat) : Int) else l0 k x ((i + 1 : Nat) : Int)) :
    ∀ (d i : Nat) (x : Int), L.length - i = d → i ≤ L.length → 0 ≤ x → x ≤ i → Ev (fun k => l0 k x (i : Int)) (x + ((L.drop i).countP p : Nat), t) := by
  intro d
  induction d with
  | zero =>
    intro i x hd hi h0 h1
    refine ⟨1, fun k hk => ?_⟩
    obtain ⟨k, rfl⟩ : ∃ m, k = m + 1 := ⟨k - 1, by omega⟩
    dsimp only
    rw [hend k x i (by omega), List.drop_eq_nil_of_le (by omega)]
    simp
  | succ d ih =>
    intro i x hd hi h0 h1
    have hil : i < L.length := by omega
    obtain ⟨K1, k1⟩ := hstep i hil
    obtain ⟨K2, k2⟩ := ev_get (ih (i + 1) (x + 1) (by omega) (by omega) (by omega) (by omega))
    obtain ⟨K3, k3⟩ := ev_get (ih (i + 1) x (by omega) (by omega) (by omega) (by omega))
    refine ⟨K1 + K2 + K3 + 1, fun k hk => ?_⟩
    obtain ⟨k, rfl⟩ : ∃ m, k = m + 1 := ⟨k - 1, by omega⟩
    dsimp only
    rw [k1 k (by omega) x, w64 (x + 1) (by omega) (by omega), k2 k (by omega), k3 k (by omega), List.drop_eq_getElem_cons hil, List.countP_cons]
    by_cases hp : p L[i] = true
    · rw [if_pos hp, if_pos hp]; congr 2; omega
    · rw [if_neg hp, if_neg hp]; rfl
open Classical in
noncomputable def torG (N : Nat) (q : List Int) : Bool := decide (torTo N q 0)
theorem tor_snoc (N : Int) (q : List Int) (c : Int) (r s : Nat) (hr : r < s) (hs : s < q.length) : tor N (q ++ [c]) r s = tor N q r s := by
  unfold tor
  simp only [List.getD_eq_getElem?_getD, List.getElem?_append_left hs, List.getElem?_append_left (show r < q.length by omega)]
open Classical in
theorem torG_her (N : Nat) : Her (torG N) := by
  intro q c h
  unfold torG at h ⊢
  have h := of_decide_eq_true h
  apply decide_eq_true
  intro s h0 hs r hr0 hr
  rw [← tor_snoc N q c r s hr hs]
  exact h s h0 (by simp; omega) r hr0 hr
open Classical in
theorem torG_lim (N : Nat) (h1 : 1 ≤ N) (h8 : N ≤ 8) (q : List Int) (h : OkQ N q) : impl_CountOnTorus.good (N : Int) q = some (torG N q) := by
  obtain ⟨K, hK⟩ := ev_get (onTorus_outerN N h1 h8 q (okq_small h8 h) q.length 0 (by omega) (by omega))
  unfold impl_CountOnTorus.good
  refine Fn.lim_of (impl_onTorus_1.mono q (N : Int)) (k := K) ?_
  simp only [impl_onTorus_1.f]
  refine (hK K (Nat.le_refl _)).trans ?_
  rfl
theorem grownT_ev (N : Nat) (h1 : 1 ≤ N) (h8 : N ≤ 8) : Ev (fun k => impl_grown.f k (N : Int) ([] : List Int) (impl_CountOnTorus.good (N : Int))) ((P N N []).filter (torG N)) := by
  have hb := P_len N N []
  have hp := pow_bound h8 (Nat.le_refl N)
  obtain ⟨K, hK⟩ := ev_get (grown_ev N h8 (impl_CountOnTorus.good (N : Int)) (torG N) (fun q h => torG_lim N h1 h8 q h) (torG_her N) N [] [] (okq_nil N) (by simp) (by simp; omega))
  refine ⟨K, fun k hk => ?_⟩
  simp only [impl_grown.f, clone7 [] (by simp), Option.bind_some]
  simpa using hK k hk
theorem tor_of_att (N : Int) (q : List Int) (r s : Nat) (hrs : r < s) (h : att q r s = true) : tor N q r s = true := by
  unfold att at h
  unfold tor
  have h := of_decide_eq_true h
  apply decide_eq_true
  by_cases e : (s : Int) - r = q.getD r 0 - q.getD s 0
  · left
    rw [show ((s : Int) - r) + (q.getD s 0 - q.getD r 0) = 0 by omega]
    exact Int.dvd_zero _
  · right
    rw [show ((s : Int) - r) - (q.getD s 0 - q.getD r 0) = 0 by omega]
    exact Int.dvd_zero _
open Classical in
theorem torG_free (N : Nat) (q : List Int) (h : torG N q = true) : freeB q = true := by
  unfold torG at h
  have h := of_decide_eq_true h
  unfold freeB
  apply decide_eq_true
  intro s hs r hr
  cases ha : att q r s with
  | false => rfl
  | true =>
    have := h s (by omega) hs r (by omega) hr
    rw [tor_of_att N q r s hr ha] at this
    cases this
open Classical in
theorem torB_torG {N : Nat} {q : List Int} (hl : q.length = N) : torB q = torG N q := by
  unfold torB torG
  rw [hl]
  exact decide_eq_decide.2 (torFrom_torTo _ q)
theorem torCount (N : Nat) : (allQ N).countP torB = ((P N N []).filter (torG N)).length := by
  rw [List.countP_eq_length_filter, allQ, List.filter_filter]
  congr 1
  apply List.filter_congr
  intro x hx
  obtain ⟨_, hl, _⟩ := P_mem N N [] (okq_nil N) (by simp) x hx
  rw [torB_torG hl]
  cases h : torG N x with
  | false => simp
  | true => simp [torG_free N x h]
theorem specTor_ev (N : Nat) (h1 : 1 ≤ N) (h8 : N ≤ 8) : Ev (fun k => spec_CountOnTorus.l0 k 0 (allQ N) ((allQ N).length : Int) 0) (((allQ N).countP torB : Nat), true) := by
  have hlen := allQ_len N h8
  have := count_loopT (allQ N) torB (fun k x i => spec_CountOnTorus.l0 k x (allQ N) ((allQ N).length : Int) i) true hlen
    (fun k x i hi => by show spec_CountOnTorus.l0 (k + 1) x _ _ i = _; rw [spec_CountOnTorus.l0, if_neg (by omega)])
    (fun i hi => by
      obtain ⟨ho, hl⟩ := allQ_row (List.getElem_mem hi)
      obtain ⟨K1, k1⟩ := ev_get (quTorus_ev (allQ N)[i] (okq_small h8 ho))
      refine ⟨K1, fun k hk x => ?_⟩
      show spec_CountOnTorus.l0 (k + 1) x _ _ (i : Int) = _
      rw [spec_CountOnTorus.l0, if_pos (by omega), if_pos (by omega), if_pos (by omega), rdL_nat _ _ hi, k1 k (by omega), Option.bind_some, w64 ((i : Int) + 1) (by omega) (by omega), show ((i : Int) + 1) = ((i + 1 : Nat) : Int) by omega])
    (allQ N).length 0 0 (by omega) (by omega) (by omega) (by omega)
  simpa using this
end Go.Proofs.Ythjejaoadhhpdaa.P
namespace Go.Proofs.Ythjejaoadhhpdaa.Pure
open Go.RowKit Go.Proofs.Ythjejaoadhhpdaa.P Go.Proofs.YthjejaoadhhpdaaW.PrintWords Go.Proofs.YthjejaoadhhpdaaW.PrintLast
set_option linter.unusedSimpArgs false
set_option linter.unusedVariables false
namespace FnExactCountOnTorus
noncomputable def R (n : Int) : Int × Bool := if inB n 1 8 = true then ((((allQ n.toNat).countP torB : Nat) : Int), true) else (0, false)
theorem inB_nat {n : Int} (h : inB n 1 8 = true) : ∃ N : Nat, n = N ∧ 1 ≤ N ∧ N ≤ 8 := by
  unfold inB at h
  have := of_decide_eq_true h
  exact ⟨n.toNat, by omega, by omega, by omega⟩
theorem spec_ev (n : Int) : Ev (fun k => spec_CountOnTorus.f k n) (R n) := by
  unfold R
  by_cases h : inB n 1 8 = true
  · obtain ⟨N, rfl, h1, h8⟩ := inB_nat h
    obtain ⟨K, hK⟩ := ev_get (quAllQ_ev N h8)
    obtain ⟨K2, hK2⟩ := ev_get (specTor_ev N h1 h8)
    refine ⟨K + K2, fun k hk => ?_⟩
    simp only [spec_CountOnTorus.f, quSide_eq, Option.bind_some, if_pos h, hK k (by omega), Int.toNat_natCast]
    exact hK2 k (by omega)
  · refine ⟨0, fun k hk => ?_⟩
    simp only [spec_CountOnTorus.f, quSide_eq, Option.bind_some, if_neg h]
theorem impl_ev (n : Int) : Ev (fun k => impl_CountOnTorus.f k n) (R n) := by
  unfold R
  by_cases h : inB n 1 8 = true
  · obtain ⟨N, rfl, h1, h8⟩ := inB_nat h
    obtain ⟨K, hK⟩ := ev_get (grownT_ev N h1 h8)
    refine ⟨K, fun k hk => ?_⟩
    simp only [impl_CountOnTorus.f, isMany_eq, Option.bind_some, if_pos h, hK k hk, Int.toNat_natCast, torCount N]
  · refine ⟨0, fun k hk => ?_⟩
    simp only [impl_CountOnTorus.f, isMany_eq, Option.bind_some, if_neg h]
end FnExactCountOnTorus
open FnExactCountOnTorus in
theorem FnExactCountOnTorus : laws_FnExactCountOnTorus.Pure := by
  intro a0 hy0
  obtain ⟨K1, h1⟩ := ev_get (spec_ev a0)
  obtain ⟨K2, h2⟩ := ev_get (impl_ev a0)
  generalize R a0 = R at *
  obtain ⟨m, hm⟩ : ∃ m, m = K1 + K2 := ⟨_, rfl⟩
  replace h1 := fun j => h1 (m + j) (by omega)
  replace h2 := fun j => h2 (m + j) (by omega)
  clear hm
  refine ⟨m + 1, ?_⟩
  unfold laws_FnExactCountOnTorus.f
  simp only [h1, h2, Option.bind_some, decide_true, if_true, bne_self_eq_false, Bool.false_eq_true, if_false]
end Go.Proofs.Ythjejaoadhhpdaa.Pure
