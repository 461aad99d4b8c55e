import Derived.Test.YthjejaoadhhpdaaPx15
import Derived.Test.YthjejaoadhhpdaaPx2
import Derived.Test.YthjejaoadhhpdaaPx4
import Derived.Test.YthjejaoadhhpdaaLibH
namespace Go.Proofs.Ythjejaoadhhpdaa.P
open Go.RowKit Go.Proofs.YthjejaoadhhpdaaW.PrintWords Go.Proofs.YthjejaoadhhpdaaW.PrintLast Go.Proofs.YthjejaoadhhpdaaW.PrintMore
set_option linter.unusedVariables false
set_option linter.unusedSimpArgs false

/-- A list that has each of 0..n-1 once, n its length, 1 to 8. -/
def goodB (q : List Int) : Bool := decide (1 ≤ q.length ∧ q.length ≤ 8) && permB q q.length
theorem goodB_iff (q : List Int) : goodB q = true ↔ 1 ≤ q.length ∧ q.length ≤ 8 ∧ (∀ x ∈ q, 0 ≤ x ∧ x ≤ (q.length : Int) - 1) ∧ q.Nodup := by
  unfold goodB permB
  simp only [Bool.and_eq_true, decide_eq_true_eq]
  constructor
  · rintro ⟨⟨a, b⟩, _, c, d⟩; exact ⟨a, b, c, d⟩
  · rintro ⟨a, b, c, d⟩; exact ⟨⟨a, b⟩, trivial, c, d⟩
theorem isMany_eq (n : Int) : impl_isMany.f n = some (inB n 1 8) := by
  simp only [impl_isMany.f, within_eq, Option.bind_some]
theorem isList_ev (q : List Int) (hb : q.length ≤ 1152921504606846976) : Ev (fun k => impl_isList.f k q) (goodB q) := by
  obtain ⟨K, hK⟩ := ev_get (isPerm_ev q q.length hb)
  refine ⟨K, fun k hk => ?_⟩
  simp only [impl_isList.f, isMany_eq, Option.bind_some, hK k hk]
  unfold goodB inB
  by_cases h : 1 ≤ (q.length : Int) ∧ (q.length : Int) ≤ 8
  · rw [if_pos (by simpa using h)]
    rw [show decide (1 ≤ q.length ∧ q.length ≤ 8) = true by simp; omega, Bool.true_and]
  · rw [if_neg (by simpa using h)]
    rw [show decide (1 ≤ q.length ∧ q.length ≤ 8) = false by apply decide_eq_false; omega, Bool.false_and]
open Classical in
theorem quGood_l0 (l : List Int) (hb : l.length ≤ 1152921504606846976) : ∀ (d i : Nat), l.length - i = d → i ≤ l.length →
    Ev (fun k => spec_quGood.l0 k l l (l.length : Int) (i : Int)) (decide (restOnce l i)) := by
  intro d
  induction d with
  | zero =>
    intro i hd hi'
    refine ⟨1, fun k hk => ?_⟩
    obtain ⟨k, rfl⟩ : ∃ m, k = m + 1 := ⟨k - 1, by omega⟩
    simp only [spec_quGood.l0]
    rw [if_neg (by omega)]
    congr 1
    symm
    apply decide_eq_true
    exact fun j hj h => by omega
  | succ d ih =>
    intro i hd hi'
    have h1 : i < l.length := by omega
    obtain ⟨K1, h3⟩ := ev_get (ih (i + 1) (by omega) (by omega))
    obtain ⟨K2, h4⟩ := ev_get (l1Has_ev (l.take i) l[i] (by simp; omega))
    refine ⟨K1 + K2 + 1, fun k hk => ?_⟩
    obtain ⟨k, rfl⟩ : ∃ m, k = m + 1 := ⟨k - 1, by omega⟩
    simp only [spec_quGood.l0]
    rw [if_pos (by omega), if_pos (by omega), if_pos (by omega), w64 _ (by omega) (by omega), rd_nat _ _ h1, if_pos (show (i : Int) ≤ (l.length : Int) by omega), show (i : Int).toNat = i by omega, show ((i : Int) + 1) = ((i + 1 : Nat) : Int) by omega]
    simp only [Option.bind_some, h4 k (by omega), h3 k (by omega)]
    have hs := restOnce_step l i h1
    by_cases h2 : l[i] ∈ l.take i
    · simp only [h2, decide_true, if_true]
      congr 1
      symm; apply decide_eq_false
      exact fun hr => (hs.1 hr).1 h2
    · simp only [h2, decide_false, if_false, Bool.false_eq_true]
      congr 1
      rw [decide_eq_decide]
      exact ⟨fun hr => hs.2 ⟨h2, hr⟩, fun hr => (hs.1 hr).2⟩
theorem quGood_ev (q : List Int) (hb : q.length ≤ 1152921504606846976) : Ev (fun k => spec_quGood.f k q) (goodB q) := by
  obtain ⟨K1, h1⟩ := ev_get (l1All_ev q 0 ((q.length : Int) - 1) hb)
  obtain ⟨K2, h2⟩ := ev_get (quGood_l0 q hb q.length 0 (by omega) (by omega))
  refine ⟨K1 + K2 + 1, fun k hk => ?_⟩
  simp only [spec_quGood.f, l1In_eq, Option.bind_some]
  rw [w64 _ (by omega) (by omega), h1 k (by omega), Option.bind_some]
  obtain ⟨k, rfl⟩ : ∃ m, k = m + 1 := ⟨k - 1, by omega⟩
  simp only [spec_quGood.j0]
  unfold goodB permB
  by_cases h : 1 ≤ q.length ∧ q.length ≤ 8
  · rw [if_pos (by unfold inB; simp; omega), show decide (1 ≤ q.length ∧ q.length ≤ 8) = true by simpa using h, Bool.true_and]
    by_cases ha : allIn q 0 ((q.length : Int) - 1) = true
    · rw [ha, if_neg (by simp)]
      refine (h2 k (by omega)).trans ?_
      congr 1
      rw [decide_eq_decide, restOnce_iff]
      refine ⟨fun hn => ⟨rfl, ?_, hn⟩, fun hn => hn.2.2⟩
      unfold allIn at ha
      rw [List.all_eq_true] at ha
      intro x hx
      simpa [inB] using ha x hx
    · simp only [Bool.not_eq_true] at ha
      rw [ha, if_pos (by rfl)]
      congr 1
      symm; apply decide_eq_false
      rintro ⟨_, hx, _⟩
      unfold allIn at ha
      rw [List.all_eq_false] at ha
      obtain ⟨x, hm, hn⟩ := ha
      exact hn (by simpa [inB] using hx x hm)
  · rw [if_neg (by unfold inB; simp; omega), if_pos trivial, show decide (1 ≤ q.length ∧ q.length ≤ 8) = false by simpa using h, Bool.false_and]
theorem good_len {q : List Int} (h : goodB q = true) : 1 ≤ q.length ∧ q.length ≤ 8 := ⟨((goodB_iff q).1 h).1, ((goodB_iff q).1 h).2.1⟩
theorem good_at {q : List Int} (h : goodB q = true) (i : Nat) (hi : i < q.length) : 0 ≤ q[i] ∧ q[i] < q.length := by
  have := ((goodB_iff q).1 h).2.2.1 q[i] (List.getElem_mem hi)
  omega

/-! #### mirrors -/
def mirrorL (q : List Int) : List Int := q.map fun x => (q.length : Int) - 1 - x
theorem mirrorL_length (q : List Int) : (mirrorL q).length = q.length := by simp [mirrorL]
theorem quMirror_l0 (q : List Int) (hg : goodB q = true) : ∀ (d i : Nat) (acc : List Int) (k : Nat), q.length - i = d → i ≤ q.length → d < k → acc.length = i →
    spec_quMirror.l0 k q acc q (q.length : Int) (i : Int) = some (acc ++ (mirrorL q).drop i) := by
  have hl := good_len hg
  intro d
  induction d with
  | zero =>
    intro i acc k hd hi hk ha
    obtain ⟨k, rfl⟩ : ∃ m, k = m + 1 := ⟨k - 1, by omega⟩
    rw [spec_quMirror.l0, if_neg (by omega), List.drop_eq_nil_of_le (by rw [mirrorL_length]; omega), List.append_nil]
  | succ d ih =>
    intro i acc k hd hi hk ha
    obtain ⟨k, rfl⟩ : ∃ m, k = m + 1 := ⟨k - 1, by omega⟩
    have h1 : i < q.length := by omega
    have hx := good_at hg i h1
    rw [spec_quMirror.l0, if_pos (by omega), if_pos (by omega), if_pos (by omega), if_pos (by omega), rd_nat _ _ h1, w64 ((i : Int) + 1) (by omega) (by omega), w64 ((q.length : Int) - 1) (by omega) (by omega), w64 _ (by omega) (by omega)]
    rw [show ((i : Int) + 1) = ((i + 1 : Nat) : Int) by omega, ih (i + 1) _ k (by omega) (by omega) (by omega) (by simp [ha])]
    rw [drop_cons (mirrorL q) i (by rw [mirrorL_length]; omega), List.append_assoc]
    congr 2
    simp only [List.singleton_append, List.cons.injEq, and_true]
    simp [mirrorL]
theorem quMirror_ev (q : List Int) (hg : goodB q = true) : Ev (fun k => spec_quMirror.f k q) (mirrorL q) := by
  refine ⟨q.length + 1, fun k hk => ?_⟩
  simp only [spec_quMirror.f]
  have := quMirror_l0 q hg q.length 0 [] k (by omega) (by omega) (by omega) rfl
  simpa using this
theorem mirror_l0 (q : List Int) (hg : goodB q = true) : ∀ (d i : Nat) (acc : List Int) (k : Nat), q.length - i = d → i ≤ q.length → d < k → acc.length = i →
    impl_mirror.l0 k q acc q (q.length : Int) (i : Int) = some (acc ++ (mirrorL q).drop i) := by
  have hl := good_len hg
  intro d
  induction d with
  | zero =>
    intro i acc k hd hi hk ha
    obtain ⟨k, rfl⟩ : ∃ m, k = m + 1 := ⟨k - 1, by omega⟩
    rw [impl_mirror.l0, if_neg (by omega), List.drop_eq_nil_of_le (by rw [mirrorL_length]; omega), List.append_nil]
  | succ d ih =>
    intro i acc k hd hi hk ha
    obtain ⟨k, rfl⟩ : ∃ m, k = m + 1 := ⟨k - 1, by omega⟩
    have h1 : i < q.length := by omega
    have hx := good_at hg i h1
    rw [impl_mirror.l0, if_pos (by omega), if_pos (by omega), if_pos (by omega), if_pos (by omega), rd_nat _ _ h1, w64 ((i : Int) + 1) (by omega) (by omega), w64 ((q.length : Int) - 1) (by omega) (by omega), w64 _ (by omega) (by omega)]
    rw [show ((i : Int) + 1) = ((i + 1 : Nat) : Int) by omega, ih (i + 1) _ k (by omega) (by omega) (by omega) (by simp [ha])]
    rw [drop_cons (mirrorL q) i (by rw [mirrorL_length]; omega), List.append_assoc]
    congr 2
    simp only [List.singleton_append, List.cons.injEq, and_true]
    simp [mirrorL]
theorem mirror_ev (q : List Int) (hg : goodB q = true) : Ev (fun k => impl_mirror.f k q) (mirrorL q) := by
  refine ⟨q.length + 1, fun k hk => ?_⟩
  simp only [impl_mirror.f]
  have := mirror_l0 q hg q.length 0 [] k (by omega) (by omega) (by omega) rfl
  simpa using this
end Go.Proofs.Ythjejaoadhhpdaa.P
