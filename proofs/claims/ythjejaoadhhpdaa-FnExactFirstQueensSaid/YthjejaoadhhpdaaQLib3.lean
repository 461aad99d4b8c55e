import Derived.Test.YthjejaoadhhpdaaPx12
import Derived.Test.YthjejaoadhhpdaaPx13
import Derived.Test.YthjejaoadhhpdaaPx2
import Derived.Test.YthjejaoadhhpdaaPx27
import Derived.Test.YthjejaoadhhpdaaPx3
import Derived.Test.YthjejaoadhhpdaaPx4
import Derived.Test.YthjejaoadhhpdaaQLib
namespace Go.Proofs.Ythjejaoadhhpdaa.P
open Go.RowKit Go.Proofs.YthjejaoadhhpdaaW.PrintWords Go.Proofs.YthjejaoadhhpdaaW.PrintLast Go.Proofs.YthjejaoadhhpdaaW.PrintMore
set_option linter.unusedVariables false
set_option linter.unusedSimpArgs false

/-! #### straight lists -/
def straightL (n step : Int) : List Int := (List.range n.toNat).map fun (r : Nat) => (step * (r : Int)) % n
theorem straightL_length (n step : Int) : (straightL n step).length = n.toNat := by simp [straightL]
theorem straightL_take (n step : Int) (i : Nat) (h : i < n.toNat) : (straightL n step).take (i + 1) = (straightL n step).take i ++ [(step * (i : Int)) % n] := by
  rw [List.take_add_one]
  simp [straightL, List.getElem?_eq_getElem, h]
def straightR (n step : Int) : List Int × Bool :=
  if inB n 1 8 = true ∧ (min 1 (n - 1) ≤ step ∧ step ≤ n - 1) ∧ permB (straightL n step) n = true then (straightL n step, true) else ([], false)
theorem good_perm (q : List Int) (n : Int) (hl : (q.length : Int) = n) (hn : 1 ≤ n) (hn2 : n ≤ 8) : goodB q = permB q n := by
  unfold goodB
  rw [hl, show decide (1 ≤ q.length ∧ q.length ≤ 8) = true by simp; omega, Bool.true_and]
theorem specStraight_l0 (n step : Int) (hn : 1 ≤ n) (hn2 : n ≤ 8) (hs : 0 ≤ step) (hs2 : step ≤ 7) (K : Nat) (hK : ∀ k, K ≤ k → spec_quGood.f k (straightL n step) = some (goodB (straightL n step))) :
    ∀ (d i : Nat) (k : Nat), n.toNat - i = d → i ≤ n.toNat → d + K < k →
    spec_StraightQueens.l0 k n step ((straightL n step).take i) (i : Int) = some (if permB (straightL n step) n = true then (straightL n step, true) else ([], false)) := by
  intro d
  induction d with
  | zero =>
    intro i k hd hi hk
    obtain ⟨k, rfl⟩ : ∃ m, k = m + 1 := ⟨k - 1, by omega⟩
    rw [spec_StraightQueens.l0, if_neg (by omega), List.take_of_length_le (by rw [straightL_length]; omega), hK k (by omega), Option.bind_some,
      good_perm _ n (by rw [straightL_length]; omega) hn hn2]
    split <;> rfl
  | succ d ih =>
    intro i k hd hi hk
    obtain ⟨k, rfl⟩ : ∃ m, k = m + 1 := ⟨k - 1, by omega⟩
    have hi1 : i < n.toNat := by omega
    have hm1 : 0 ≤ step * (i : Int) := Int.mul_nonneg hs (by omega)
    have hm2 : step * (i : Int) ≤ 7 * 8 := Int.mul_le_mul hs2 (by omega) (by omega) (by omega)
    rw [spec_StraightQueens.l0, if_pos (by omega), if_neg (by omega), if_pos (by rw [List.length_take]; omega), w64 (step * (i : Int)) (by omega) (by omega), Int.tmod_eq_emod_of_nonneg hm1, w64 _ (by omega) (by omega),
      show ((i : Int) + 1) = ((i + 1 : Nat) : Int) by omega, ← straightL_take n step i hi1, ih (i + 1) k (by omega) (by omega) (by omega)]
theorem quSide_eq (n : Int) : spec_quSide.f n = some (inB n 1 8) := by
  simp only [spec_quSide.f, l1In_eq, Option.bind_some]
theorem l1Least_eq (a b : Int) : spec_l1Least.f a b = some (min a b) := by
  unfold spec_l1Least.f
  split <;> (congr 1; omega)
theorem specStraight_ev (n step : Int) : Ev (fun k => spec_StraightQueens.f k n step) (straightR n step) := by
  by_cases h1 : inB n 1 8 = true
  · have hn : 1 ≤ n ∧ n ≤ 8 := by simpa [inB] using h1
    by_cases h2 : min 1 (n - 1) ≤ step ∧ step ≤ n - 1
    · obtain ⟨K, hK⟩ := ev_get (quGood_ev (straightL n step) (by rw [straightL_length]; omega))
      refine ⟨K + n.toNat + 3, fun k hk => ?_⟩
      simp only [spec_StraightQueens.f, quSide_eq, Option.bind_some, h1, if_true]
      rw [w64 _ (by omega) (by omega), l1Least_eq, Option.bind_some, l1In_eq, Option.bind_some, show inB step (min 1 (n - 1)) (n - 1) = true by simpa [inB] using h2]
      obtain ⟨k, rfl⟩ : ∃ m, k = m + 1 := ⟨k - 1, by omega⟩
      rw [spec_StraightQueens.j0, if_neg (by simp)]
      have := specStraight_l0 n step hn.1 hn.2 (by omega) (by omega) K hK n.toNat 0 k (by omega) (by omega) (by omega)
      refine this.trans ?_
      unfold straightR
      simp only [h1, h2, true_and, and_self]
    · refine ⟨3, fun k hk => ?_⟩
      simp only [spec_StraightQueens.f, quSide_eq, Option.bind_some, h1, if_true]
      rw [w64 _ (by omega) (by omega), l1Least_eq, Option.bind_some, l1In_eq, Option.bind_some, show inB step (min 1 (n - 1)) (n - 1) = false by simp only [inB]; exact decide_eq_false h2]
      obtain ⟨k, rfl⟩ : ∃ m, k = m + 1 := ⟨k - 1, by omega⟩
      rw [spec_StraightQueens.j0, if_pos (by simp)]
      unfold straightR
      rw [if_neg (fun h => h2 h.2.1)]
  · refine ⟨3, fun k hk => ?_⟩
    simp only [spec_StraightQueens.f, quSide_eq, Option.bind_some, h1]
    obtain ⟨k, rfl⟩ : ∃ m, k = m + 1 := ⟨k - 1, by omega⟩
    rw [if_neg (by simp), spec_StraightQueens.j0, if_pos rfl]
    unfold straightR
    rw [if_neg (fun h => h1 h.1)]
theorem implStraight_l0 (n step : Int) (hn : 1 ≤ n) (hn2 : n ≤ 8) (hs : 0 ≤ step) (hs2 : step ≤ 7) (K : Nat) (hK : ∀ k, K ≤ k → impl_isPerm.f k (straightL n step) n = some (permB (straightL n step) n)) :
    ∀ (d i : Nat) (k : Nat), n.toNat - i = d → i ≤ n.toNat → d + K < k →
    impl_StraightQueens.l0 k n step ((straightL n step).take i) n (i : Int) = some (if permB (straightL n step) n = true then (straightL n step, true) else ([], false)) := by
  intro d
  induction d with
  | zero =>
    intro i k hd hi hk
    obtain ⟨k, rfl⟩ : ∃ m, k = m + 1 := ⟨k - 1, by omega⟩
    rw [impl_StraightQueens.l0, if_neg (by omega), List.take_of_length_le (by rw [straightL_length]; omega), hK k (by omega), Option.bind_some]
    split <;> rfl
  | succ d ih =>
    intro i k hd hi hk
    obtain ⟨k, rfl⟩ : ∃ m, k = m + 1 := ⟨k - 1, by omega⟩
    have hi1 : i < n.toNat := by omega
    have hm1 : 0 ≤ step * (i : Int) := Int.mul_nonneg hs (by omega)
    have hm2 : step * (i : Int) ≤ 7 * 8 := Int.mul_le_mul hs2 (by omega) (by omega) (by omega)
    rw [impl_StraightQueens.l0, if_pos (by omega), if_neg (by omega), if_pos (by rw [List.length_take]; omega), w64 (step * (i : Int)) (by omega) (by omega), Int.tmod_eq_emod_of_nonneg hm1, w64 _ (by omega) (by omega),
      show ((i : Int) + 1) = ((i + 1 : Nat) : Int) by omega, ← straightL_take n step i hi1, ih (i + 1) k (by omega) (by omega) (by omega)]
theorem mn_eq (a b : Int) : mn a b = min a b := by unfold mn; omega
theorem implStraight_ev (n step : Int) : Ev (fun k => impl_StraightQueens.f k n step) (straightR n step) := by
  by_cases h1 : inB n 1 8 = true
  · have hn : 1 ≤ n ∧ n ≤ 8 := by simpa [inB] using h1
    by_cases h2 : min 1 (n - 1) ≤ step ∧ step ≤ n - 1
    · obtain ⟨K, hK⟩ := ev_get (isPerm_ev (straightL n step) n (by rw [straightL_length]; omega))
      refine ⟨K + n.toNat + 3, fun k hk => ?_⟩
      simp only [impl_StraightQueens.f, isMany_eq, Option.bind_some, h1, if_true]
      rw [w64 _ (by omega) (by omega), mn_eq, within_eq, Option.bind_some, show inB step (min 1 (n - 1)) (n - 1) = true by simpa [inB] using h2]
      obtain ⟨k, rfl⟩ : ∃ m, k = m + 1 := ⟨k - 1, by omega⟩
      rw [impl_StraightQueens.j0, if_neg (by simp)]
      have := implStraight_l0 n step hn.1 hn.2 (by omega) (by omega) K hK n.toNat 0 k (by omega) (by omega) (by omega)
      refine this.trans ?_
      unfold straightR
      simp only [h1, h2, true_and, and_self]
    · refine ⟨3, fun k hk => ?_⟩
      simp only [impl_StraightQueens.f, isMany_eq, Option.bind_some, h1, if_true]
      rw [w64 _ (by omega) (by omega), mn_eq, within_eq, Option.bind_some, show inB step (min 1 (n - 1)) (n - 1) = false by simp only [inB]; exact decide_eq_false h2]
      obtain ⟨k, rfl⟩ : ∃ m, k = m + 1 := ⟨k - 1, by omega⟩
      rw [impl_StraightQueens.j0, if_pos (by simp)]
      unfold straightR
      rw [if_neg (fun h => h2 h.2.1)]
  · refine ⟨3, fun k hk => ?_⟩
    simp only [impl_StraightQueens.f, isMany_eq, Option.bind_some, h1]
    obtain ⟨k, rfl⟩ : ∃ m, k = m + 1 := ⟨k - 1, by omega⟩
    rw [if_neg (by simp), impl_StraightQueens.j0, if_pos rfl]
    unfold straightR
    rw [if_neg (fun h => h1 h.1)]
theorem straightR_len (n step : Int) : (straightR n step).1.length ≤ 8 := by
  unfold straightR
  split
  · rename_i h; have : 1 ≤ n ∧ n ≤ 8 := by simpa [inB] using h.1
    rw [straightL_length]; omega
  · simp

/-! #### attacks -/
/-- Rows r and s attack each other. -/
def att (q : List Int) (r s : Nat) : Bool := decide ((q.getD r 0 - q.getD s 0).natAbs = ((s : Int) - (r : Int)).natAbs)
def rowP (q : List Int) (r s : Nat) : List (List Int) := ((List.range' s (q.length - s)).filter fun s => att q r s).map fun (s : Nat) => [(r : Int), (s : Int)]
def allP (q : List Int) (r : Nat) : List (List Int) := (List.range' r (q.length - r)).flatMap fun r => rowP q r (r + 1)
theorem range'_step (s n : Nat) (h : s < n) : List.range' s (n - s) = s :: List.range' (s + 1) (n - (s + 1)) := by
  rw [show n - s = (n - (s + 1)) + 1 by omega, List.range'_succ]
theorem rowP_step (q : List Int) (r s : Nat) (h : s < q.length) : rowP q r s = (if att q r s = true then [[(r : Int), (s : Int)]] else []) ++ rowP q r (s + 1) := by
  unfold rowP
  rw [range'_step s q.length h, List.filter_cons]
  split <;> simp
theorem rowP_nil (q : List Int) (r s : Nat) (h : q.length ≤ s) : rowP q r s = [] := by
  unfold rowP
  rw [show q.length - s = 0 by omega]; rfl
theorem allP_step (q : List Int) (r : Nat) (h : r < q.length) : allP q r = rowP q r (r + 1) ++ allP q (r + 1) := by
  unfold allP
  rw [range'_step r q.length h, List.flatMap_cons]
theorem allP_nil (q : List Int) (r : Nat) (h : q.length ≤ r) : allP q r = [] := by
  unfold allP
  rw [show q.length - r = 0 by omega]; rfl
theorem l1Abs_eq (n : Int) (h : -1000 ≤ n) (h2 : n ≤ 1000) : spec_l1Abs.f n = some (n.natAbs : Int) := by
  unfold spec_l1Abs.f spec_l1Most.f
  rw [w64 _ (by omega) (by omega)]
  split
  · simp only [Option.bind_some]; congr 1; omega
  · simp only [Option.bind_some]; congr 1; omega
/-- At most 8 numbers, each in 0..7. -/
def Small (q : List Int) : Prop := q.length ≤ 8 ∧ ∀ i, ∀ h : i < q.length, 0 ≤ q[i] ∧ q[i] < 8
theorem good_small {q : List Int} (hg : goodB q = true) : Small q := ⟨(good_len hg).2, fun i h => by have := good_at hg i h; have := good_len hg; omega⟩
theorem attacked_eq (q : List Int) (hg : Small q) (r s : Nat) (hr : r < q.length) (hs : s < q.length) : impl_attacked.f (r : Int) q[r] (s : Int) q[s] = some (att q r s) := by
  have hl := hg.1
  have h1 := hg.2 r hr
  have h2 := hg.2 s hs
  unfold impl_attacked.f att mx
  rw [w64 _ (by omega) (by omega), w64 _ (by omega) (by omega), w64 _ (by omega) (by omega), w64 _ (by omega) (by omega)]
  congr 1
  simp only [List.getD_eq_getElem?_getD, List.getElem?_eq_getElem hr, List.getElem?_eq_getElem hs, Option.getD_some]
  rw [Bool.eq_iff_iff, beq_iff_eq, decide_eq_true_iff]
  split <;> split <;> omega
theorem quAttacks_inner (q : List Int) (hg : goodB q = true) (r : Nat) (hr : r < q.length)
    (hout : ∀ acc : List (List Int), acc.length ≤ 8 * (r + 1) → Ev (fun k => spec_quAttacks.l0 k q acc q (q.length : Int) ((r + 1 : Nat) : Int)) (acc ++ allP q (r + 1))) :
    ∀ (d s : Nat) (acc : List (List Int)), q.length - s = d → r < s → s ≤ q.length → acc.length ≤ 8 * r + (s - r) →
    Ev (fun k => spec_quAttacks.l1 k q acc (r : Int) q[r] (s : Int) q (q.length : Int) (r : Int)) (acc ++ rowP q r s ++ allP q (r + 1)) := by
  have hl := good_len hg
  have hq := good_at hg r hr
  intro d
  induction d with
  | zero =>
    intro s acc hd hrs hs ha
    obtain ⟨K, hK⟩ := ev_get (hout acc (by omega))
    refine ⟨K + 1, fun k hk => ?_⟩
    obtain ⟨k, rfl⟩ : ∃ m, k = m + 1 := ⟨k - 1, by omega⟩
    simp only [spec_quAttacks.l1]
    rw [if_neg (by omega), w64 _ (by omega) (by omega), show ((r : Int) + 1) = ((r + 1 : Nat) : Int) by omega, hK k (by omega), rowP_nil q r s (by omega), List.append_nil]
  | succ d ih =>
    intro s acc hd hrs hs ha
    have hs1 : s < q.length := by omega
    have hq2 := good_at hg s hs1
    obtain ⟨K1, h1⟩ := ev_get (ih (s + 1) (acc ++ [[(r : Int), (s : Int)]]) (by omega) (by omega) (by omega) (by simp; omega))
    obtain ⟨K2, h2⟩ := ev_get (ih (s + 1) acc (by omega) (by omega) (by omega) (by omega))
    refine ⟨K1 + K2 + 1, fun k hk => ?_⟩
    obtain ⟨k, rfl⟩ : ∃ m, k = m + 1 := ⟨k - 1, by omega⟩
    simp only [spec_quAttacks.l1]
    rw [if_pos (by omega), if_pos (by omega), rd_nat _ _ hs1, w64 (q[r] - q[s]) (by omega) (by omega), l1Abs_eq _ (by omega) (by omega), Option.bind_some, w64 ((s : Int) - (r : Int)) (by omega) (by omega), w64 ((s : Int) + 1) (by omega) (by omega), show ((s : Int) + 1) = ((s + 1 : Nat) : Int) by omega, h1 k (by omega), h2 k (by omega), rowP_step q r s hs1, if_pos (show acc.length < 5864062014805 by omega)]
    have he : (att q r s = true) ↔ (((q[r] - q[s]).natAbs : Int) = (s : Int) - (r : Int)) := by
      unfold att
      simp only [List.getD_eq_getElem?_getD, List.getElem?_eq_getElem hr, List.getElem?_eq_getElem hs1, Option.getD_some, decide_eq_true_iff]
      omega
    by_cases h : att q r s = true
    · rw [if_pos (he.1 h), if_pos h]; simp [List.append_assoc]
    · rw [if_neg (fun x => h (he.2 x)), if_neg h]; simp
theorem quAttacks_outer (q : List Int) (hg : goodB q = true) : ∀ (d r : Nat) (acc : List (List Int)), q.length - r = d → r ≤ q.length → acc.length ≤ 8 * r →
    Ev (fun k => spec_quAttacks.l0 k q acc q (q.length : Int) (r : Int)) (acc ++ allP q r) := by
  have hl := good_len hg
  intro d
  induction d with
  | zero =>
    intro r acc hd hr ha
    refine ⟨1, fun k hk => ?_⟩
    obtain ⟨k, rfl⟩ : ∃ m, k = m + 1 := ⟨k - 1, by omega⟩
    simp only [spec_quAttacks.l0]
    rw [if_neg (by omega), allP_nil q r (by omega), List.append_nil]
  | succ d ih =>
    intro r acc hd hr ha
    have hr1 : r < q.length := by omega
    obtain ⟨K, hK⟩ := ev_get (quAttacks_inner q hg r hr1 (fun acc ha => ih (r + 1) acc (by omega) (by omega) ha) (q.length - (r + 1)) (r + 1) acc (by omega) (by omega) (by omega) (by omega))
    refine ⟨K + 1, fun k hk => ?_⟩
    obtain ⟨k, rfl⟩ : ∃ m, k = m + 1 := ⟨k - 1, by omega⟩
    simp only [spec_quAttacks.l0]
    rw [if_pos (by omega), if_pos (by omega), if_pos (by omega), rd_nat _ _ hr1, w64 _ (by omega) (by omega), show ((r : Int) + 1) = ((r + 1 : Nat) : Int) by omega, hK k (by omega), allP_step q r hr1, List.append_assoc]
theorem quAttacks_ev (q : List Int) (hg : goodB q = true) : Ev (fun k => spec_quAttacks.f k q) (allP q 0) := by
  obtain ⟨K, hK⟩ := ev_get (quAttacks_outer q hg q.length 0 [] (by omega) (by omega) (by simp))
  refine ⟨K, fun k hk => ?_⟩
  simp only [spec_quAttacks.f]
  simpa using hK k hk
theorem allP_mem (q : List Int) (p : List Int) : p ∈ allP q 0 ↔ ∃ r s : Nat, r < s ∧ s < q.length ∧ att q r s = true ∧ p = [(r : Int), (s : Int)] := by
  unfold allP rowP
  simp only [List.mem_flatMap, List.mem_map, List.mem_filter, List.mem_range'_1]
  constructor
  · rintro ⟨r, ⟨_, hr⟩, s, ⟨⟨hs1, hs2⟩, ha⟩, rfl⟩
    exact ⟨r, s, by omega, by omega, ha, rfl⟩
  · rintro ⟨r, s, h1, h2, ha, rfl⟩
    exact ⟨r, ⟨by omega, by omega⟩, s, ⟨⟨by omega, by omega⟩, ha⟩, rfl⟩
/-- No two rows attack each other. -/
def freeB (q : List Int) : Bool := decide (∀ s, s < q.length → ∀ r, r < s → att q r s = false)
theorem freeB_allP (q : List Int) : (((allP q 0).length : Int) == 0) = freeB q := by
  rw [Bool.eq_iff_iff, beq_iff_eq]
  unfold freeB
  rw [decide_eq_true_iff]
  constructor
  · intro h s hs r hr
    have h0 : allP q 0 = [] := List.eq_nil_of_length_eq_zero (by omega)
    cases ha : att q r s with
    | false => rfl
    | true =>
      have : [(r : Int), (s : Int)] ∈ allP q 0 := (allP_mem q _).2 ⟨r, s, hr, hs, ha, rfl⟩
      rw [h0] at this; cases this
  · intro h
    have h0 : allP q 0 = [] := by
      rw [List.eq_nil_iff_forall_not_mem]
      intro p hp
      obtain ⟨r, s, h1, h2, ha, _⟩ := (allP_mem q p).1 hp
      rw [h s h2 r h1] at ha; cases ha
    rw [h0]; rfl
def rowFree (q : List Int) (r s : Nat) : Prop := ∀ r', r ≤ r' → r' < s → att q r' s = false
def freeFrom (q : List Int) (s : Nat) : Prop := ∀ s', s ≤ s' → s' < q.length → rowFree q 0 s'
theorem rowFree_step (q : List Int) (r s : Nat) (h : r < s) : rowFree q r s ↔ att q r s = false ∧ rowFree q (r + 1) s := by
  constructor
  · intro H
    exact ⟨H r (by omega) h, fun r' h1 h2 => H r' (by omega) h2⟩
  · rintro ⟨h0, H⟩ r' h1 h2
    by_cases e : r' = r
    · subst e; exact h0
    · exact H r' (by omega) h2
theorem freeFrom_step (q : List Int) (s : Nat) (h : s < q.length) : freeFrom q s ↔ rowFree q 0 s ∧ freeFrom q (s + 1) := by
  constructor
  · intro H
    exact ⟨H s (by omega) h, fun s' h1 h2 => H s' (by omega) h2⟩
  · rintro ⟨h0, H⟩ s' h1 h2
    by_cases e : s' = s
    · subst e; exact h0
    · exact H s' (by omega) h2
theorem freeB_eq (q : List Int) : freeB q = true ↔ freeFrom q 0 := by
  unfold freeB
  rw [decide_eq_true_iff]
  exact ⟨fun h s _ hs r _ hr => h s hs r hr, fun h s hs r hr => h s (by omega) hs r (by omega) hr⟩
open Classical in
theorem areQueens_inner (q : List Int) (hg : Small q) (s : Nat) (hs : s < q.length)
    (hout : Ev (fun k => impl_areQueens.l0 k q q (q.length : Int) ((s + 1 : Nat) : Int)) (decide (freeFrom q (s + 1)))) :
    ∀ (d r : Nat), s - r = d → r ≤ s →
    Ev (fun k => impl_areQueens.l1 k q (s : Int) q[s] q (q.length : Int) (s : Int) (q.take s) ((q.take s).length : Int) (r : Int)) (decide (rowFree q r s ∧ freeFrom q (s + 1))) := by
  have hl := hg.1
  have ht : (q.take s).length = s := by rw [List.length_take]; omega
  intro d
  induction d with
  | zero =>
    intro r hd hr
    obtain ⟨K, hK⟩ := ev_get hout
    refine ⟨K + 1, fun k hk => ?_⟩
    obtain ⟨k, rfl⟩ : ∃ m, k = m + 1 := ⟨k - 1, by omega⟩
    simp only [impl_areQueens.l1]
    rw [ht, if_neg (by omega), w64 _ (by omega) (by omega), show ((s : Int) + 1) = ((s + 1 : Nat) : Int) by omega, hK k (by omega)]
    congr 1
    rw [decide_eq_decide]
    exact ⟨fun h => ⟨fun r' h1 h2 => by omega, h⟩, fun h => h.2⟩
  | succ d ih =>
    intro r hd hr
    have hr1 : r < s := by omega
    obtain ⟨K, hK⟩ := ev_get (ih (r + 1) (by omega) (by omega))
    refine ⟨K + 1, fun k hk => ?_⟩
    obtain ⟨k, rfl⟩ : ∃ m, k = m + 1 := ⟨k - 1, by omega⟩
    have hK := hK k (by omega)
    simp only [impl_areQueens.l1]
    rw [ht] at hK ⊢
    rw [if_pos (by omega), if_pos (by omega), if_pos (by omega), rd_nat _ _ (show r < (q.take s).length by omega), List.getElem_take, attacked_eq q hg r s (by omega) hs, Option.bind_some, w64 _ (by omega) (by omega), show ((r : Int) + 1) = ((r + 1 : Nat) : Int) by omega, hK]
    have hst := rowFree_step q r s hr1
    by_cases ha : att q r s = true
    · rw [if_pos ha]
      congr 1
      symm; apply decide_eq_false
      rintro ⟨h1, _⟩
      rw [(hst.1 h1).1] at ha; cases ha
    · rw [if_neg ha]
      congr 1
      rw [decide_eq_decide]
      exact ⟨fun h => ⟨hst.2 ⟨by simpa using ha, h.1⟩, h.2⟩, fun h => ⟨(hst.1 h.1).2, h.2⟩⟩
open Classical in
theorem areQueens_outer (q : List Int) (hg : Small q) : ∀ (d s : Nat), q.length - s = d → s ≤ q.length →
    Ev (fun k => impl_areQueens.l0 k q q (q.length : Int) (s : Int)) (decide (freeFrom q s)) := by
  have hl := hg.1
  intro d
  induction d with
  | zero =>
    intro s hd hs
    refine ⟨1, fun k hk => ?_⟩
    obtain ⟨k, rfl⟩ : ∃ m, k = m + 1 := ⟨k - 1, by omega⟩
    simp only [impl_areQueens.l0]
    rw [if_neg (by omega)]
    congr 1
    symm; apply decide_eq_true
    intro s' h1 h2; omega
  | succ d ih =>
    intro s hd hs
    have hs1 : s < q.length := by omega
    obtain ⟨K, hK⟩ := ev_get (areQueens_inner q hg s hs1 (ih (s + 1) (by omega) (by omega)) s 0 (by omega) (by omega))
    refine ⟨K + 1, fun k hk => ?_⟩
    obtain ⟨k, rfl⟩ : ∃ m, k = m + 1 := ⟨k - 1, by omega⟩
    simp only [impl_areQueens.l0]
    rw [if_pos (by omega), if_pos (by omega), if_pos (by omega), if_pos (by omega), Option.bind_some, rd_nat _ _ hs1, show (s : Int).toNat = s by omega]
    refine (hK k (by omega)).trans ?_
    congr 1
    rw [decide_eq_decide]
    exact (freeFrom_step q s hs1).symm
theorem areQueens_ev (q : List Int) (hg : Small q) : Ev (fun k => impl_areQueens.f k q) (freeB q) := by
  classical
  obtain ⟨K, hK⟩ := ev_get (areQueens_outer q hg q.length 0 (by omega) (by omega))
  refine ⟨K, fun k hk => ?_⟩
  simp only [impl_areQueens.f]
  refine (hK k hk).trans ?_
  congr 1
  rw [Bool.eq_iff_iff, decide_eq_true_iff, freeB_eq]
end Go.Proofs.Ythjejaoadhhpdaa.P
