import Derived.Test.YthjejaoadhhpdaaPx23
import Derived.Test.YthjejaoadhhpdaaPx24
import Derived.Test.YthjejaoadhhpdaaQLib3
namespace Go.Proofs.Ythjejaoadhhpdaa.P
open Go.RowKit Go.Proofs.YthjejaoadhhpdaaW.PrintWords Go.Proofs.YthjejaoadhhpdaaW.PrintLast Go.Proofs.YthjejaoadhhpdaaW.PrintMore
set_option linter.unusedVariables false
set_option linter.unusedSimpArgs false

/-- Rows r and s attack each other on a torus of n rows. -/
def tor (n : Int) (q : List Int) (r s : Nat) : Bool := decide (n ∣ ((s : Int) - r) + (q.getD s 0 - q.getD r 0) ∨ n ∣ ((s : Int) - r) - (q.getD s 0 - q.getD r 0))
def rowTor (n : Int) (q : List Int) (r s0 : Nat) : Prop := ∀ s, s0 ≤ s → s < q.length → tor n q r s = false
def colTor (n : Int) (q : List Int) (r0 s : Nat) : Prop := ∀ r, r0 ≤ r → r < s → tor n q r s = false
def torFrom (n : Int) (q : List Int) (r0 : Nat) : Prop := ∀ r, r0 ≤ r → rowTor n q r (r + 1)
def torTo (n : Int) (q : List Int) (s0 : Nat) : Prop := ∀ s, s0 ≤ s → s < q.length → colTor n q 0 s
theorem torFrom_torTo (n : Int) (q : List Int) : torFrom n q 0 ↔ torTo n q 0 := by
  constructor
  · intro h s _ hs r _ hr
    exact h r (by omega) s (by omega) hs
  · intro h r _ s hs hl
    exact h s (by omega) hl r (by omega) (by omega)
open Classical in
noncomputable def torB (q : List Int) : Bool := decide (torFrom q.length q 0)
theorem rowTor_step (n : Int) (q : List Int) (r s : Nat) (h : s < q.length) : rowTor n q r s ↔ tor n q r s = false ∧ rowTor n q r (s + 1) := by
  constructor
  · intro H
    exact ⟨H s (by omega) h, fun s' h1 h2 => H s' (by omega) h2⟩
  · rintro ⟨h0, H⟩ s' h1 h2
    by_cases e : s' = s
    · subst e; exact h0
    · exact H s' (by omega) h2
theorem colTor_step (n : Int) (q : List Int) (r s : Nat) (h : r < s) : colTor n q r s ↔ tor n q r s = false ∧ colTor n q (r + 1) s := by
  constructor
  · intro H
    exact ⟨H r (by omega) h, fun r' h1 h2 => H r' (by omega) h2⟩
  · rintro ⟨h0, H⟩ r' h1 h2
    by_cases e : r' = r
    · subst e; exact h0
    · exact H r' (by omega) h2
theorem torFrom_step (n : Int) (q : List Int) (r : Nat) : torFrom n q r ↔ rowTor n q r (r + 1) ∧ torFrom n q (r + 1) := by
  constructor
  · intro H
    exact ⟨H r (by omega), fun r' h1 => H r' (by omega)⟩
  · rintro ⟨h0, H⟩ r' h1
    by_cases e : r' = r
    · subst e; exact h0
    · exact H r' (by omega)
theorem torTo_step (n : Int) (q : List Int) (s : Nat) (h : s < q.length) : torTo n q s ↔ colTor n q 0 s ∧ torTo n q (s + 1) := by
  constructor
  · intro H
    exact ⟨H s (by omega) h, fun s' h1 h2 => H s' (by omega) h2⟩
  · rintro ⟨h0, H⟩ s' h1 h2
    by_cases e : s' = s
    · subst e; exact h0
    · exact H s' (by omega) h2
theorem tmod_dvd (a n : Int) : Int.tmod a n = 0 ↔ n ∣ a := (Int.dvd_iff_tmod_eq_zero).symm
theorem getD_eq (q : List Int) (i : Nat) (h : i < q.length) : q.getD i 0 = q[i] := by simp [List.getD_eq_getElem?_getD, List.getElem?_eq_getElem h]
open Classical in
theorem quTorus_inner (q : List Int) (hg : Small q) (r : Nat) (hr : r < q.length)
    (hout : Ev (fun k => spec_quTorus.l0 k q (q.length : Int) q (q.length : Int) ((r + 1 : Nat) : Int)) (decide (torFrom q.length q (r + 1)))) :
    ∀ (d s : Nat), q.length - s = d → r < s → s ≤ q.length →
    Ev (fun k => spec_quTorus.l1 k q (q.length : Int) (r : Int) q[r] (s : Int) q (q.length : Int) (r : Int)) (decide (rowTor q.length q r s ∧ torFrom q.length q (r + 1))) := by
  have hl := hg.1
  have hq := hg.2 r hr
  intro d
  induction d with
  | zero =>
    intro s hd hrs hs
    obtain ⟨K, hK⟩ := ev_get hout
    refine ⟨K + 1, fun k hk => ?_⟩
    obtain ⟨k, rfl⟩ : ∃ m, k = m + 1 := ⟨k - 1, by omega⟩
    simp only [spec_quTorus.l1]
    rw [if_neg (by omega), w64 _ (by omega) (by omega), show ((r : Int) + 1) = ((r + 1 : Nat) : Int) by omega, hK k (by omega)]
    congr 1
    rw [decide_eq_decide]
    exact ⟨fun h => ⟨fun s' h1 h2 => by omega, h⟩, fun h => h.2⟩
  | succ d ih =>
    intro s hd hrs hs
    have hs1 : s < q.length := by omega
    have hq2 := hg.2 s hs1
    obtain ⟨K, hK⟩ := ev_get (ih (s + 1) (by omega) (by omega) (by omega))
    refine ⟨K + 1, fun k hk => ?_⟩
    obtain ⟨k, rfl⟩ : ∃ m, k = m + 1 := ⟨k - 1, by omega⟩
    have hK := hK k (by omega)
    simp only [spec_quTorus.l1]
    rw [if_pos (by omega), if_pos (by omega), if_pos (by omega), if_neg (by omega), rd_nat _ _ hs1, w64 ((s : Int) - r) (by omega) (by omega), w64 ((s : Int) - r + q[s]) (by omega) (by omega), w64 ((s : Int) - r + q[s] - q[r]) (by omega) (by omega), w64 ((s : Int) - r - q[s]) (by omega) (by omega), w64 ((s : Int) - r - q[s] + q[r]) (by omega) (by omega), w64 ((s : Int) + 1) (by omega) (by omega), show ((s : Int) + 1) = ((s + 1 : Nat) : Int) by omega, hK]
    have hst := rowTor_step q.length q r s hs1
    have ht : (tor q.length q r s = true) ↔ ((q.length : Int) ∣ (s : Int) - r + q[s] - q[r] ∨ (q.length : Int) ∣ (s : Int) - r - q[s] + q[r]) := by
      unfold tor
      rw [decide_eq_true_iff, getD_eq q r hr, getD_eq q s hs1, show ((s : Int) - r) + (q[s] - q[r]) = (s : Int) - r + q[s] - q[r] by omega, show ((s : Int) - r) - (q[s] - q[r]) = (s : Int) - r - q[s] + q[r] by omega]
    by_cases h1 : Int.tmod ((s : Int) - r + q[s] - q[r]) q.length = 0
    · rw [if_pos h1]
      congr 1
      symm; apply decide_eq_false
      rintro ⟨h2, _⟩
      have := (hst.1 h2).1
      rw [ht.2 (.inl ((tmod_dvd _ _).1 h1))] at this; cases this
    · rw [if_neg h1]
      by_cases h2 : Int.tmod ((s : Int) - r - q[s] + q[r]) q.length = 0
      · rw [if_pos h2]
        congr 1
        symm; apply decide_eq_false
        rintro ⟨h3, _⟩
        have := (hst.1 h3).1
        rw [ht.2 (.inr ((tmod_dvd _ _).1 h2))] at this; cases this
      · rw [if_neg h2]
        congr 1
        rw [decide_eq_decide]
        have hf : tor q.length q r s = false := by
          rw [Bool.eq_false_iff]
          intro h; rcases ht.1 h with h | h
          · exact h1 ((tmod_dvd _ _).2 h)
          · exact h2 ((tmod_dvd _ _).2 h)
        exact ⟨fun h => ⟨hst.2 ⟨hf, h.1⟩, h.2⟩, fun h => ⟨(hst.1 h.1).2, h.2⟩⟩
open Classical in
theorem quTorus_outer (q : List Int) (hg : Small q) : ∀ (d r : Nat), q.length - r = d → r ≤ q.length →
    Ev (fun k => spec_quTorus.l0 k q (q.length : Int) q (q.length : Int) (r : Int)) (decide (torFrom q.length q r)) := by
  have hl := hg.1
  intro d
  induction d with
  | zero =>
    intro r hd hr
    refine ⟨1, fun k hk => ?_⟩
    obtain ⟨k, rfl⟩ : ∃ m, k = m + 1 := ⟨k - 1, by omega⟩
    simp only [spec_quTorus.l0]
    rw [if_neg (by omega)]
    congr 1
    symm; apply decide_eq_true
    intro r' h1 s h2 h3; omega
  | succ d ih =>
    intro r hd hr
    have hr1 : r < q.length := by omega
    obtain ⟨K, hK⟩ := ev_get (quTorus_inner q hg r hr1 (ih (r + 1) (by omega) (by omega)) (q.length - (r + 1)) (r + 1) (by omega) (by omega) (by omega))
    refine ⟨K + 1, fun k hk => ?_⟩
    obtain ⟨k, rfl⟩ : ∃ m, k = m + 1 := ⟨k - 1, by omega⟩
    simp only [spec_quTorus.l0]
    rw [if_pos (by omega), if_pos (by omega), if_pos (by omega), rd_nat _ _ hr1, w64 _ (by omega) (by omega), show ((r : Int) + 1) = ((r + 1 : Nat) : Int) by omega, hK k (by omega)]
    congr 1
    rw [decide_eq_decide]
    exact (torFrom_step _ q r).symm
theorem quTorus_ev (q : List Int) (hg : Small q) : Ev (fun k => spec_quTorus.f k q) (torB q) := by
  obtain ⟨K, hK⟩ := ev_get (quTorus_outer q hg q.length 0 (by omega) (by omega))
  exact ⟨K, fun k hk => hK k hk⟩
open Classical in
theorem onTorus_inner (q : List Int) (hg : Small q) (s : Nat) (hs : s < q.length)
    (hout : Ev (fun k => impl_onTorus_1.l0 k q (q.length : Int) q (q.length : Int) ((s + 1 : Nat) : Int)) (decide (torTo q.length q (s + 1)))) :
    ∀ (d r : Nat), s - r = d → r ≤ s →
    Ev (fun k => impl_onTorus_1.l1 k q (q.length : Int) (s : Int) q[s] q (q.length : Int) (s : Int) (q.take s) ((q.take s).length : Int) (r : Int)) (decide (colTor q.length q r s ∧ torTo q.length q (s + 1))) := by
  have hl := hg.1
  have hq2 := hg.2 s hs
  have ht : (q.take s).length = s := by rw [List.length_take]; omega
  intro d
  induction d with
  | zero =>
    intro r hd hr
    obtain ⟨K, hK⟩ := ev_get hout
    refine ⟨K + 1, fun k hk => ?_⟩
    obtain ⟨k, rfl⟩ : ∃ m, k = m + 1 := ⟨k - 1, by omega⟩
    simp only [impl_onTorus_1.l1]
    rw [ht, if_neg (by omega), w64 _ (by omega) (by omega), show ((s : Int) + 1) = ((s + 1 : Nat) : Int) by omega, hK k (by omega)]
    congr 1
    rw [decide_eq_decide]
    exact ⟨fun h => ⟨fun r' h1 h2 => by omega, h⟩, fun h => h.2⟩
  | succ d ih =>
    intro r hd hr
    have hr1 : r < s := by omega
    have hq := hg.2 r (by omega)
    obtain ⟨K, hK⟩ := ev_get (ih (r + 1) (by omega) (by omega))
    refine ⟨K + 1, fun k hk => ?_⟩
    obtain ⟨k, rfl⟩ : ∃ m, k = m + 1 := ⟨k - 1, by omega⟩
    have hK := hK k (by omega)
    simp only [impl_onTorus_1.l1]
    rw [ht] at hK ⊢
    rw [if_pos (by omega), if_pos (by omega), if_pos (by omega), if_neg (by omega), rd_nat _ _ (show r < (q.take s).length by omega), List.getElem_take, w64 ((r : Int) + q[r]) (by omega) (by omega), w64 ((r : Int) + q[r] - s) (by omega) (by omega), w64 ((r : Int) + q[r] - s - q[s]) (by omega) (by omega), w64 ((r : Int) - q[r]) (by omega) (by omega), w64 ((r : Int) - q[r] - s) (by omega) (by omega), w64 ((r : Int) - q[r] - s + q[s]) (by omega) (by omega), w64 ((r : Int) + 1) (by omega) (by omega), show ((r : Int) + 1) = ((r + 1 : Nat) : Int) by omega, hK]
    have hst := colTor_step q.length q r s hr1
    have ht : (tor q.length q r s = true) ↔ ((q.length : Int) ∣ (r : Int) + q[r] - s - q[s] ∨ (q.length : Int) ∣ (r : Int) - q[r] - s + q[s]) := by
      unfold tor
      rw [decide_eq_true_iff, getD_eq q r (by omega), getD_eq q s hs, ← Int.dvd_neg (b := (r : Int) + q[r] - s - q[s]), ← Int.dvd_neg (b := (r : Int) - q[r] - s + q[s]),
        show -((r : Int) + q[r] - s - q[s]) = ((s : Int) - r) + (q[s] - q[r]) by omega, show -((r : Int) - q[r] - s + q[s]) = ((s : Int) - r) - (q[s] - q[r]) by omega]
    by_cases h1 : Int.tmod ((r : Int) + q[r] - s - q[s]) q.length = 0
    · rw [if_pos h1]
      congr 1
      symm; apply decide_eq_false
      rintro ⟨h2, _⟩
      have := (hst.1 h2).1
      rw [ht.2 (.inl ((tmod_dvd _ _).1 h1))] at this; cases this
    · rw [if_neg h1]
      by_cases h2 : Int.tmod ((r : Int) - q[r] - s + q[s]) q.length = 0
      · rw [if_pos h2]
        congr 1
        symm; apply decide_eq_false
        rintro ⟨h3, _⟩
        have := (hst.1 h3).1
        rw [ht.2 (.inr ((tmod_dvd _ _).1 h2))] at this; cases this
      · rw [if_neg h2]
        congr 1
        rw [decide_eq_decide]
        have hf : tor q.length q r s = false := by
          rw [Bool.eq_false_iff]
          intro h; rcases ht.1 h with h | h
          · exact h1 ((tmod_dvd _ _).2 h)
          · exact h2 ((tmod_dvd _ _).2 h)
        exact ⟨fun h => ⟨hst.2 ⟨hf, h.1⟩, h.2⟩, fun h => ⟨(hst.1 h.1).2, h.2⟩⟩
open Classical in
theorem onTorus_outer (q : List Int) (hg : Small q) : ∀ (d s : Nat), q.length - s = d → s ≤ q.length →
    Ev (fun k => impl_onTorus_1.l0 k q (q.length : Int) q (q.length : Int) (s : Int)) (decide (torTo q.length q s)) := by
  have hl := hg.1
  intro d
  induction d with
  | zero =>
    intro s hd hs
    refine ⟨1, fun k hk => ?_⟩
    obtain ⟨k, rfl⟩ : ∃ m, k = m + 1 := ⟨k - 1, by omega⟩
    simp only [impl_onTorus_1.l0]
    rw [if_neg (by omega)]
    congr 1
    symm; apply decide_eq_true
    intro s' h1 h2; omega
  | succ d ih =>
    intro s hd hs
    have hs1 : s < q.length := by omega
    obtain ⟨K, hK⟩ := ev_get (onTorus_inner q hg s hs1 (ih (s + 1) (by omega) (by omega)) s 0 (by omega) (by omega))
    refine ⟨K + 1, fun k hk => ?_⟩
    obtain ⟨k, rfl⟩ : ∃ m, k = m + 1 := ⟨k - 1, by omega⟩
    simp only [impl_onTorus_1.l0]
    rw [if_pos (by omega), if_pos (by omega), if_pos (by omega), if_pos (by omega), Option.bind_some, rd_nat _ _ hs1, show (s : Int).toNat = s by omega]
    refine (hK k (by omega)).trans ?_
    congr 1
    rw [decide_eq_decide]
    exact (torTo_step _ q s hs1).symm
theorem onTorus_ev (q : List Int) (hg : Small q) : Ev (fun k => impl_onTorus_1.f k q (q.length : Int)) (torB q) := by
  obtain ⟨K, hK⟩ := ev_get (onTorus_outer q hg q.length 0 (by omega) (by omega))
  refine ⟨K, fun k hk => ?_⟩
  simp only [impl_onTorus_1.f]
  refine (hK k hk).trans ?_
  congr 1
  unfold torB
  exact decide_eq_decide.2 (torFrom_torTo _ q).symm
end Go.Proofs.Ythjejaoadhhpdaa.P
