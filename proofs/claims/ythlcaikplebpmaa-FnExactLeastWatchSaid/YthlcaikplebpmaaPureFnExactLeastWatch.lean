/- For every number LeastWatch returns what the reference returns, in memory of its own: no condition. -/
import Derived.Test.YthlcaikplebpmaaPx0
import Derived.Test.YthlcaikplebpmaaQ887637c60c
import Derived.Test.YthlcaikplebpmaaQ16b8124aed
import Derived.Test.YthlcaikplebpmaaQ611dc6a13e
import Derived.Test.YthlcaikplebpmaaQ37b9dac438
namespace Go.Proofs.Ythlcaikplebpmaa.P
open Go.RowKit Go.Proofs.YthlcaikplebpmaaW.PrintWords Go.Proofs.YthlcaikplebpmaaW.PrintLast Go.Proofs.YthlcaikplebpmaaW.PrintMore
set_option linter.unusedVariables false
set_option linter.unusedSimpArgs false
theorem w64 (n : Int) (h : -9223372036854775808 ≤ n) (h2 : n ≤ 9223372036854775807) : wrap64 n = n := by unfold wrap64; omega
theorem rd_nat (l : List Int) (i : Nat) (h : i < l.length) : rd l (i : Int) = l[i] := by
  unfold rd; simp [List.getD_eq_getElem?_getD, List.getElem?_eq_getElem h]
theorem drop_cons (l : List Int) (i : Nat) (h : i < l.length) : l.drop i = l[i] :: l.drop (i + 1) := List.drop_eq_getElem_cons h
theorem ev_get {α : Type} {g : Nat → Option α} {r : α} (h : Ev g r) : ∃ K, ∀ k, K ≤ k → g k = some r := h
theorem take_set_succ {α : Type} (l : List α) (i : Nat) (x : α) (h : i < l.length) : (l.set i x).take (i + 1) = l.take i ++ [x] := by
  rw [List.take_add_one, List.take_set_of_le (Nat.le_refl _)]
  simp [h]
theorem eqIntS_l0 (a b : List Int) (hl : a.length = b.length) (hb : a.length ≤ 1152921504606846976) : ∀ (d i : Nat) (k : Nat), a.length - i = d → i ≤ a.length → d < k →
    laws_eqIntS.l0 k a b (i : Int) = some (decide (a.drop i = b.drop i)) := by
  intro d
  induction d with
  | zero =>
    intro i k hd hi hk
    obtain ⟨k, rfl⟩ : ∃ m, k = m + 1 := ⟨k - 1, by omega⟩
    rw [laws_eqIntS.l0, if_neg (by omega)]
    simp [List.drop_eq_nil_of_le (show a.length ≤ i by omega), List.drop_eq_nil_of_le (show b.length ≤ i by omega)]
  | succ d ih =>
    intro i k hd hi hk
    obtain ⟨k, rfl⟩ : ∃ m, k = m + 1 := ⟨k - 1, by omega⟩
    have h1 : i < a.length := by omega
    rw [laws_eqIntS.l0, if_pos (by omega), if_pos (by omega), if_pos (by omega), w64 _ (by omega) (by omega), rd_nat _ _ h1, rd_nat _ _ (show i < b.length by omega)]
    rw [show ((i : Int) + 1) = ((i + 1 : Nat) : Int) by omega, ih (i + 1) k (by omega) (by omega) (by omega)]
    rw [drop_cons a i h1, drop_cons b i (by omega)]
    generalize a.drop (i + 1) = ta, b.drop (i + 1) = tb
    by_cases h : a[i] = b[i]
    · simp [h]
    · simp [h]
theorem eqIntS_ev (a b : List Int) (hb : a.length ≤ 1152921504606846976) : Ev (fun k => laws_eqIntS.f k a b) (decide (a = b)) := by
  refine ⟨a.length + 1, fun k hk => ?_⟩
  simp only [laws_eqIntS.f]
  by_cases h : a.length = b.length
  · rw [if_pos (by omega)]
    have := eqIntS_l0 a b h hb a.length 0 k (by omega) (by omega) (by omega)
    simpa using this
  · rw [if_neg (by omega)]
    congr 1
    symm
    apply decide_eq_false
    intro e
    exact h (by rw [e])
def marks (n : Nat) (k : Int) : List Int := (List.range n).map fun (i : Nat) => k + (i : Int)
theorem marks_length (n : Nat) (k : Int) : (marks n k).length = n := by simp [marks]
theorem marks_succ (n : Nat) (k : Int) : marks (n + 1) k = k :: marks n (k + 1) := by
  unfold marks
  rw [List.range_succ_eq_map, List.map_cons, List.map_map]
  congr 1
  · simp
  · apply List.map_congr_left
    intro a _
    simp
    omega
theorem markIntS_l0 : ∀ (d i : Nat) (x0 : List Int) (x1 : Int) (k : Nat), x0.length - i = d → i ≤ x0.length → d < k → x0.length ≤ 1152921504606846976 → 0 ≤ x1 → x1 + d ≤ 4611686018427387904 →
    laws_markIntS.l0 k x0 x1 (i : Int) = some (x1 + d, x0.take i ++ marks d x1) := by
  intro d
  induction d with
  | zero =>
    intro i x0 x1 k hd hi hk hb h0 h1
    obtain ⟨k, rfl⟩ : ∃ m, k = m + 1 := ⟨k - 1, by omega⟩
    rw [laws_markIntS.l0, if_neg (by omega)]
    have : i = x0.length := by omega
    subst this
    simp [marks]
  | succ d ih =>
    intro i x0 x1 k hd hi hk hb h0 h1
    obtain ⟨k, rfl⟩ : ∃ m, k = m + 1 := ⟨k - 1, by omega⟩
    rw [laws_markIntS.l0, if_pos (by omega), if_pos (by omega), w64 _ (by omega) (by omega), w64 _ (by omega) (by omega)]
    rw [show ((i : Int) + 1) = ((i + 1 : Nat) : Int) by omega, show (i : Int).toNat = i by omega]
    rw [ih (i + 1) (x0.set i x1) (x1 + 1) k (by simp; omega) (by simp; omega) (by omega) (by simpa using hb) (by omega) (by omega)]
    rw [marks_succ]
    congr 2
    · omega
    · rw [take_set_succ _ _ _ (by omega)]
      simp
theorem markIntS_ev (l : List Int) (k1 : Int) (hb : l.length ≤ 1152921504606846976) (h0 : 0 ≤ k1) (h1 : k1 + l.length ≤ 4611686018427387904) : Ev (fun k => laws_markIntS.f k l k1) (k1 + l.length, marks l.length k1) := by
  refine ⟨l.length + 1, fun k hk => ?_⟩
  simp only [laws_markIntS.f]
  have := markIntS_l0 l.length 0 l k1 k (by omega) (by omega) (by omega) hb h0 h1
  simpa using this
theorem heldIntS_l0 (n : Nat) (k0 : Int) (hb : n ≤ 1152921504606846976) (h0 : 0 ≤ k0) (h1 : k0 + n ≤ 4611686018427387904) : ∀ (d i : Nat) (k : Nat), n - i = d → i ≤ n → d < k →
    laws_heldIntS.l0 k (marks n k0) (k0 + i) (i : Int) = some (k0 + n) := by
  intro d
  induction d with
  | zero =>
    intro i k hd hi hk
    obtain ⟨k, rfl⟩ : ∃ m, k = m + 1 := ⟨k - 1, by omega⟩
    rw [laws_heldIntS.l0, if_neg (by rw [marks_length]; omega)]
    congr 1; omega
  | succ d ih =>
    intro i k hd hi hk
    obtain ⟨k, rfl⟩ : ∃ m, k = m + 1 := ⟨k - 1, by omega⟩
    have h2 : i < (marks n k0).length := by rw [marks_length]; omega
    rw [laws_heldIntS.l0, if_pos (by rw [marks_length]; omega), if_pos (by omega), rd_nat _ _ h2, if_pos (by simp [marks]), w64 _ (by omega) (by omega), w64 _ (by omega) (by omega)]
    have := ih (i + 1) k (by omega) (by omega) (by omega)
    rw [show ((i : Int) + 1) = ((i + 1 : Nat) : Int) by omega, show (k0 + (i : Int) + 1) = k0 + ((i + 1 : Nat) : Int) by omega]
    exact this
theorem heldIntS_ev (n : Nat) (k0 : Int) (hb : n ≤ 1152921504606846976) (h0 : 0 ≤ k0) (h1 : k0 + n ≤ 4611686018427387904) : Ev (fun k => laws_heldIntS.f k (marks n k0) k0) (k0 + n) := by
  refine ⟨n + 1, fun k hk => ?_⟩
  simp only [laws_heldIntS.f]
  have := heldIntS_l0 n k0 hb h0 h1 n 0 k (by omega) (by omega) (by omega)
  simpa using this
def inB (n lo hi : Int) : Bool := decide (lo ≤ n ∧ n ≤ hi)
theorem l1In_eq (a b c : Int) : spec_l1In.f a b c = some (inB a b c) := by
  unfold spec_l1In.f inB
  by_cases h : a ≥ b
  · rw [if_pos h]; congr 1; simp; omega
  · rw [if_neg h]; congr 1; symm; apply decide_eq_false; omega
theorem within_eq (a b c : Int) : impl_within.f a b c = some (inB a b c) := by
  unfold impl_within.f inB
  by_cases h : b ≤ a
  · rw [if_pos h]; congr 1; simp; omega
  · rw [if_neg h]; congr 1; symm; apply decide_eq_false; omega
end Go.Proofs.Ythlcaikplebpmaa.P
namespace Go.Proofs.Ythlcaikplebpmaa.P
open Go.RowKit Go.Proofs.YthlcaikplebpmaaW.PrintWords Go.Proofs.YthlcaikplebpmaaW.PrintLast Go.Proofs.YthlcaikplebpmaaW.PrintMore
set_option linter.unusedVariables false
set_option linter.unusedSimpArgs false
theorem range'_step (s n : Nat) (h : s < n) : List.range' s (n - s) = s :: List.range' (s + 1) (n - (s + 1)) := by
  rw [show n - s = (n - (s + 1)) + 1 by omega, List.range'_succ]
theorem l1Abs_eq (n : Int) (h : -1000 ≤ n) (h2 : n ≤ 1000) : spec_l1Abs.f n = some (n.natAbs : Int) := by
  unfold spec_l1Abs.f spec_l1Most.f
  rw [w64 _ (by omega) (by omega)]
  split
  · simp only [Option.bind_some]; congr 1; omega
  · simp only [Option.bind_some]; congr 1; omega
end Go.Proofs.Ythlcaikplebpmaa.P
namespace Go.Proofs.Ythlcaikplebpmaa.P
open Go.RowKit Go.Proofs.YthlcaikplebpmaaW.PrintWords Go.Proofs.YthlcaikplebpmaaW.PrintLast Go.Proofs.YthlcaikplebpmaaW.PrintMore
set_option linter.unusedVariables false
set_option linter.unusedSimpArgs false
theorem rdL_mid (a b : List (List Int)) (l : List Int) : rd_L1 (a ++ l :: b) (a.length : Int) = l := by
  unfold rd_L1; simp
theorem rdL_nat (s : List (List Int)) (i : Nat) (h : i < s.length) : rd_L1 s (i : Int) = s[i] := by
  unfold rd_L1; simp [List.getD_eq_getElem?_getD, List.getElem?_eq_getElem h]
def total : List (List Int) → Nat
  | [] => 0
  | l :: s => l.length + total s
theorem total_le {s : List (List Int)} {c : Nat} (h : ∀ l ∈ s, l.length ≤ c) : total s ≤ c * s.length := by
  induction s with
  | nil => simp [total]
  | cons x s ih =>
    have h1 := h x (List.mem_cons_self ..)
    have h2 := ih (fun l hl => h l (List.mem_cons_of_mem _ hl))
    simp only [total, List.length_cons, Nat.mul_succ]
    omega
def marksS : List (List Int) → Int → List (List Int)
  | [], _ => []
  | l :: s, k => marks l.length k :: marksS s (k + l.length)
theorem eqIntSS_l0 : ∀ (rest rest2 done done2 : List (List Int)), rest.length = rest2.length → done.length = done2.length → (done ++ rest).length ≤ 1152921504606846976 → (∀ l ∈ rest, l.length ≤ 1152921504606846976) →
    Ev (fun k => laws_eqIntSS.l0 k (done ++ rest) (done2 ++ rest2) (done.length : Int)) (decide (rest = rest2)) := by
  intro rest
  induction rest with
  | nil =>
    intro rest2 done done2 h1 h2 hb hl
    refine ⟨1, fun k hk => ?_⟩
    obtain ⟨k, rfl⟩ : ∃ m, k = m + 1 := ⟨k - 1, by omega⟩
    simp only [laws_eqIntSS.l0]
    obtain rfl : rest2 = [] := List.length_eq_zero_iff.1 (by simpa using h1.symm)
    rw [if_neg (by simp)]; simp
  | cons l rest ih =>
    intro rest2 done done2 h1 h2 hb hl
    obtain ⟨l2, rest2, rfl⟩ : ∃ y t, rest2 = y :: t := by
      cases rest2 with
      | nil => simp at h1
      | cons y t => exact ⟨y, t, rfl⟩
    simp only [List.length_append, List.length_cons] at hb h1
    obtain ⟨K1, h3⟩ := ev_get (eqIntS_ev l l2 (hl l (List.mem_cons_self ..)))
    obtain ⟨K2, h4⟩ := ev_get (ih rest2 (done ++ [l]) (done2 ++ [l2]) (by omega) (by simp; omega) (by simp; omega) (fun l hm => hl l (List.mem_cons_of_mem _ hm)))
    refine ⟨K1 + K2 + 1, fun k hk => ?_⟩
    obtain ⟨k, rfl⟩ : ∃ m, k = m + 1 := ⟨k - 1, by omega⟩
    simp only [laws_eqIntSS.l0]
    have e : rd_L1 (done2 ++ l2 :: rest2) (done.length : Int) = l2 := by rw [h2]; exact rdL_mid _ _ _
    rw [if_pos (by simp; omega), if_pos (by omega), if_pos (by simp; omega), rdL_mid, e, h3 k (by omega), Option.bind_some, w64 _ (by omega) (by omega)]
    have h5 := h4 k (by omega)
    simp only [List.append_assoc, List.singleton_append, List.length_append, List.length_cons, List.length_nil] at h5
    by_cases h : l = l2
    · rw [if_pos (by simpa using h)]
      refine h5.trans ?_
      simp [h]
    · rw [if_neg (by simpa using h)]
      simp [h]
theorem eqIntSS_ev (a b : List (List Int)) (hb : a.length ≤ 1152921504606846976) (hl : ∀ l ∈ a, l.length ≤ 1152921504606846976) : Ev (fun k => laws_eqIntSS.f k a b) (decide (a = b)) := by
  by_cases h : a.length = b.length
  · obtain ⟨K, hK⟩ := ev_get (eqIntSS_l0 a b [] [] h rfl (by simpa using hb) hl)
    refine ⟨K, fun k hk => ?_⟩
    simp only [laws_eqIntSS.f]
    rw [if_pos (by omega)]
    simpa using hK k hk
  · refine ⟨0, fun k hk => ?_⟩
    simp only [laws_eqIntSS.f]
    rw [if_neg (by omega)]
    congr 1; symm; apply decide_eq_false
    exact fun e => h (by rw [e])
theorem markIntSS_l0 : ∀ (rest done : List (List Int)) (x1 : Int), (done ++ rest).length ≤ 1152921504606846976 → total rest ≤ 1152921504606846976 → 0 ≤ x1 → x1 + total rest ≤ 4611686018427387904 →
    Ev (fun k => laws_markIntSS.l0 k (done ++ rest) x1 (done.length : Int)) (x1 + total rest, done ++ marksS rest x1) := by
  intro rest
  induction rest with
  | nil =>
    intro done x1 hb ht h0 h1
    refine ⟨1, fun k hk => ?_⟩
    obtain ⟨k, rfl⟩ : ∃ m, k = m + 1 := ⟨k - 1, by omega⟩
    simp only [laws_markIntSS.l0]
    rw [if_neg (by simp)]
    simp [total, marksS]
  | cons l rest ih =>
    intro done x1 hb ht h0 h1
    simp only [List.length_append, List.length_cons, total] at hb ht h1
    obtain ⟨K1, h3⟩ := ev_get (markIntS_ev l x1 (by omega) h0 (by omega))
    obtain ⟨K2, h4⟩ := ev_get (ih (done ++ [marks l.length x1]) (x1 + l.length) (by simp; omega) (by omega) (by omega) (by omega))
    refine ⟨K1 + K2 + 1, fun k hk => ?_⟩
    obtain ⟨k, rfl⟩ : ∃ m, k = m + 1 := ⟨k - 1, by omega⟩
    simp only [laws_markIntSS.l0]
    rw [if_pos (by simp; omega), if_pos (by omega), rdL_mid, h3 k (by omega), Option.bind_some, w64 _ (by omega) (by omega), show ((done.length : Int)).toNat = done.length by omega, List.set_append_right _ _ (Nat.le_refl _), Nat.sub_self, List.set_cons_zero]
    have h5 := h4 k (by omega)
    simp only [List.append_assoc, List.singleton_append, List.length_append, List.length_cons, List.length_nil] at h5
    refine h5.trans ?_
    simp only [total, marksS, Option.some.injEq, Prod.mk.injEq, and_true]
    omega
theorem markIntSS_ev (s : List (List Int)) (k0 : Int) (hb : s.length ≤ 1152921504606846976) (ht : total s ≤ 1152921504606846976) (h0 : 0 ≤ k0) (h1 : k0 + total s ≤ 4611686018427387904) :
    Ev (fun k => laws_markIntSS.f k s k0) (k0 + total s, marksS s k0) := by
  have := markIntSS_l0 s [] k0 (by simpa using hb) ht h0 h1
  simpa [laws_markIntSS.f] using this
theorem heldIntSS_l0 : ∀ (rest done : List (List Int)) (x1 : Int), (done ++ rest).length ≤ 1152921504606846976 → total rest ≤ 1152921504606846976 → 0 ≤ x1 → x1 + total rest ≤ 4611686018427387904 →
    Ev (fun k => laws_heldIntSS.l0 k (done ++ marksS rest x1) x1 (done.length : Int)) (x1 + total rest) := by
  intro rest
  induction rest with
  | nil =>
    intro done x1 hb ht h0 h1
    refine ⟨1, fun k hk => ?_⟩
    obtain ⟨k, rfl⟩ : ∃ m, k = m + 1 := ⟨k - 1, by omega⟩
    show laws_heldIntSS.l0 (k + 1) (done ++ []) x1 (done.length : Int) = _
    simp only [laws_heldIntSS.l0]
    rw [if_neg (by simp)]
    simp [total]
  | cons l rest ih =>
    intro done x1 hb ht h0 h1
    simp only [List.length_append, List.length_cons, total] at hb ht h1
    obtain ⟨K1, h3⟩ := ev_get (heldIntS_ev l.length x1 (by omega) h0 (by omega))
    obtain ⟨K2, h4⟩ := ev_get (ih (done ++ [marks l.length x1]) (x1 + l.length) (by simp; omega) (by omega) (by omega) (by omega))
    refine ⟨K1 + K2 + 1, fun k hk => ?_⟩
    obtain ⟨k, rfl⟩ : ∃ m, k = m + 1 := ⟨k - 1, by omega⟩
    show laws_heldIntSS.l0 (k + 1) (done ++ marks l.length x1 :: marksS rest (x1 + l.length)) x1 (done.length : Int) = _
    simp only [laws_heldIntSS.l0]
    rw [if_pos (by simp; omega), if_pos (by omega), rdL_mid, h3 k (by omega), Option.bind_some, if_neg (by omega), w64 _ (by omega) (by omega)]
    have h5 := h4 k (by omega)
    simp only [List.append_assoc, List.singleton_append, List.length_append, List.length_cons, List.length_nil] at h5
    refine h5.trans ?_
    simp only [total, Option.some.injEq]
    omega
theorem heldIntSS_ev (s : List (List Int)) (k0 : Int) (hb : s.length ≤ 1152921504606846976) (ht : total s ≤ 1152921504606846976) (h0 : 0 ≤ k0) (h1 : k0 + total s ≤ 4611686018427387904) :
    Ev (fun k => laws_heldIntSS.f k (marksS s k0) k0) (k0 + total s) := by
  have := heldIntSS_l0 s [] k0 (by simpa using hb) ht h0 h1
  simpa [laws_heldIntSS.f] using this
end Go.Proofs.Ythlcaikplebpmaa.P
namespace Go.Proofs.Ythlcaikplebpmaa.P
open Go.RowKit Go.Proofs.YthlcaikplebpmaaW.PrintWords Go.Proofs.YthlcaikplebpmaaW.PrintLast Go.Proofs.YthlcaikplebpmaaW.PrintMore
set_option linter.unusedVariables false
set_option linter.unusedSimpArgs false
/-- A place in which a queen reaches row r, column c. -/
def reach (x : List Int) (r c : Int) : Bool := decide (x.getD 0 0 = r ∨ x.getD 1 0 = c ∨ (x.getD 0 0 - r).natAbs = (x.getD 1 0 - c).natAbs)
def placeOk (n : Int) (x : List Int) : Bool := decide (x.length = 2 ∧ ∀ y ∈ x, 0 ≤ y ∧ y ≤ n - 1)
theorem placeOk_at {n : Int} {x : List Int} (h : placeOk n x = true) : ∃ a b, x = [a, b] ∧ 0 ≤ a ∧ a ≤ n - 1 ∧ 0 ≤ b ∧ b ≤ n - 1 := by
  unfold placeOk at h
  rw [decide_eq_true_iff] at h
  obtain ⟨h1, h2⟩ := h
  match x, h1 with
  | [a, b], _ =>
    have ha := h2 a (by simp)
    have hb := h2 b (by simp)
    exact ⟨a, b, rfl, ha.1, ha.2, hb.1, hb.2⟩
def cellOk (l : List (List Int)) (r c : Int) : Bool := l.any fun x => reach x r c
def rowOk (n : Nat) (l : List (List Int)) (r : Int) (c : Nat) : Bool := (List.range' c (n - c)).all fun (c : Nat) => cellOk l r (c : Int)
def allOk (n : Nat) (l : List (List Int)) (r : Nat) : Bool := (List.range' r (n - r)).all fun (r : Nat) => rowOk n l (r : Int) 0
theorem drop_cons' (l : List (List Int)) (i : Nat) (h : i < l.length) : l.drop i = l[i] :: l.drop (i + 1) := List.drop_eq_getElem_cons h
theorem rowOk_step (n : Nat) (l : List (List Int)) (r : Int) (c : Nat) (h : c < n) : rowOk n l r c = (cellOk l r c && rowOk n l r (c + 1)) := by
  unfold rowOk
  rw [range'_step c n h, List.all_cons]
theorem allOk_step (n : Nat) (l : List (List Int)) (r : Nat) (h : r < n) : allOk n l r = (rowOk n l r 0 && allOk n l (r + 1)) := by
  unfold allOk
  rw [range'_step r n h, List.all_cons]
theorem rowOk_nil (n : Nat) (l : List (List Int)) (r : Int) (c : Nat) (h : n ≤ c) : rowOk n l r c = true := by
  unfold rowOk
  rw [show n - c = 0 by omega]; rfl
theorem allOk_nil (n : Nat) (l : List (List Int)) (r : Nat) (h : n ≤ r) : allOk n l r = true := by
  unfold allOk
  rw [show n - r = 0 by omega]; rfl
theorem quWatched_l2 (n : Nat) (hn : n ≤ 8) (l : List (List Int)) (hl : l.length ≤ 64) (hp : ∀ x ∈ l, placeOk n x = true) (r c : Nat) (hr : r < n) (hc : c < n)
    (hout : Ev (fun k => spec_quWatched.l1 k (n : Int) l (r : Int) ((c + 1 : Nat) : Int)) (rowOk n l r (c + 1) && allOk n l (r + 1))) :
    ∀ (d i : Nat) (b : Bool), l.length - i = d → i ≤ l.length →
    Ev (fun k => spec_quWatched.l2 k (n : Int) l (r : Int) (c : Int) b l (l.length : Int) (i : Int)) ((b || (l.drop i).any fun x => reach x r c) && (rowOk n l r (c + 1) && allOk n l (r + 1))) := by
  intro d
  induction d with
  | zero =>
    intro i b hd hi
    obtain ⟨K, hK⟩ := ev_get hout
    refine ⟨K + 1, fun k hk => ?_⟩
    obtain ⟨k, rfl⟩ : ∃ m, k = m + 1 := ⟨k - 1, by omega⟩
    simp only [spec_quWatched.l2]
    rw [if_neg (by omega), w64 _ (by omega) (by omega), show ((c : Int) + 1) = ((c + 1 : Nat) : Int) by omega, hK k (by omega), List.drop_eq_nil_of_le (by omega)]
    cases b <;> simp
  | succ d ih =>
    intro i b hd hi
    have h1 : i < l.length := by omega
    obtain ⟨K1, h2⟩ := ev_get (ih (i + 1) true (by omega) (by omega))
    obtain ⟨K2, h3⟩ := ev_get (ih (i + 1) (decide ((l[i].getD 0 0 - r).natAbs = (l[i].getD 1 0 - c).natAbs)) (by omega) (by omega))
    refine ⟨K1 + K2 + 1, fun k hk => ?_⟩
    obtain ⟨k, rfl⟩ : ∃ m, k = m + 1 := ⟨k - 1, by omega⟩
    have h2 := h2 k (by omega)
    have h3 := h3 k (by omega)
    obtain ⟨x, y, he, hx1, hx2, hy1, hy2⟩ := placeOk_at (hp l[i] (List.getElem_mem h1))
    rw [drop_cons' l i h1, List.any_cons]
    generalize (l.drop (i + 1)).any (fun x => reach x r c) = rest at h2 h3 ⊢
    simp only [spec_quWatched.l2]
    rw [if_pos (by omega), if_pos (by omega), if_pos (by omega), rdL_nat _ _ h1, he, if_pos (by simp)]
    rw [he] at h3
    have e0 : rd [x, y] 0 = x := rfl
    have e1 : rd [x, y] 1 = y := rfl
    rw [e0, e1, w64 (x - r) (by omega) (by omega), l1Abs_eq _ (by omega) (by omega), Option.bind_some, if_pos (by simp), w64 (y - c) (by omega) (by omega), l1Abs_eq _ (by omega) (by omega), Option.bind_some, w64 ((i : Int) + 1) (by omega) (by omega), show ((i : Int) + 1) = ((i + 1 : Nat) : Int) by omega]
    have ee : ((((x - (r : Int)).natAbs : Int) == ((y - (c : Int)).natAbs : Int))) = decide ((x - (r : Int)).natAbs = (y - (c : Int)).natAbs) := by
      rw [Bool.eq_iff_iff, beq_iff_eq, decide_eq_true_iff]; omega
    rw [ee, h2]
    have e2 : ([x, y] : List Int).getD 0 0 = x := rfl
    have e3 : ([x, y] : List Int).getD 1 0 = y := rfl
    rw [e2, e3] at h3
    rw [h3]
    have hreach : reach [x, y] r c = decide (x = (r : Int) ∨ y = (c : Int) ∨ (x - (r : Int)).natAbs = (y - (c : Int)).natAbs) := rfl
    rw [hreach]
    cases b with
    | true => simp
    | false =>
      simp only [Bool.false_eq_true, if_false, Bool.false_or]
      by_cases ha : ((x - (r : Int)).natAbs : Int) = 0
      · rw [if_pos ha, decide_eq_true (show x = (r : Int) ∨ y = (c : Int) ∨ (x - (r : Int)).natAbs = (y - (c : Int)).natAbs from .inl (by omega))]
      · rw [if_neg ha]
        by_cases hb : ((y - (c : Int)).natAbs : Int) = 0
        · rw [if_pos hb, decide_eq_true (show x = (r : Int) ∨ y = (c : Int) ∨ (x - (r : Int)).natAbs = (y - (c : Int)).natAbs from .inr (.inl (by omega)))]
        · rw [if_neg hb]
          have : decide (x = (r : Int) ∨ y = (c : Int) ∨ (x - (r : Int)).natAbs = (y - (c : Int)).natAbs) = decide ((x - (r : Int)).natAbs = (y - (c : Int)).natAbs) := by
            rw [decide_eq_decide]; omega
          rw [this]
theorem quWatched_l1 (n : Nat) (hn : n ≤ 8) (l : List (List Int)) (hl : l.length ≤ 64) (hp : ∀ x ∈ l, placeOk n x = true) (r : Nat) (hr : r < n)
    (hout : Ev (fun k => spec_quWatched.l0 k (n : Int) l ((r + 1 : Nat) : Int)) (allOk n l (r + 1))) :
    ∀ (d c : Nat), n - c = d → c ≤ n →
    Ev (fun k => spec_quWatched.l1 k (n : Int) l (r : Int) (c : Int)) (rowOk n l r c && allOk n l (r + 1)) := by
  intro d
  induction d with
  | zero =>
    intro c hd hc
    obtain ⟨K, hK⟩ := ev_get hout
    refine ⟨K + 1, fun k hk => ?_⟩
    obtain ⟨k, rfl⟩ : ∃ m, k = m + 1 := ⟨k - 1, by omega⟩
    simp only [spec_quWatched.l1]
    rw [if_neg (by omega), w64 _ (by omega) (by omega), show ((r : Int) + 1) = ((r + 1 : Nat) : Int) by omega, hK k (by omega), rowOk_nil n l r c (by omega), Bool.true_and]
  | succ d ih =>
    intro c hd hc
    obtain ⟨K, hK⟩ := ev_get (quWatched_l2 n hn l hl hp r c hr (by omega) (ih (c + 1) (by omega) (by omega)) l.length 0 false (by omega) (by omega))
    refine ⟨K + 1, fun k hk => ?_⟩
    obtain ⟨k, rfl⟩ : ∃ m, k = m + 1 := ⟨k - 1, by omega⟩
    simp only [spec_quWatched.l1]
    have h := hK k (by omega)
    rw [if_pos (by omega), show (0 : Int) = ((0 : Nat) : Int) from rfl, h, rowOk_step n l r c (by omega), Bool.false_or, List.drop_zero, Bool.and_assoc]
    rfl
theorem quWatched_l0 (n : Nat) (hn : n ≤ 8) (l : List (List Int)) (hl : l.length ≤ 64) (hp : ∀ x ∈ l, placeOk n x = true) : ∀ (d r : Nat), n - r = d → r ≤ n →
    Ev (fun k => spec_quWatched.l0 k (n : Int) l (r : Int)) (allOk n l r) := by
  intro d
  induction d with
  | zero =>
    intro r hd hr
    refine ⟨1, fun k hk => ?_⟩
    obtain ⟨k, rfl⟩ : ∃ m, k = m + 1 := ⟨k - 1, by omega⟩
    simp only [spec_quWatched.l0]
    rw [if_neg (by omega), allOk_nil n l r (by omega)]
  | succ d ih =>
    intro r hd hr
    obtain ⟨K, hK⟩ := ev_get (quWatched_l1 n hn l hl hp r (by omega) (ih (r + 1) (by omega) (by omega)) n 0 (by omega) (by omega))
    refine ⟨K + 1, fun k hk => ?_⟩
    obtain ⟨k, rfl⟩ : ∃ m, k = m + 1 := ⟨k - 1, by omega⟩
    simp only [spec_quWatched.l0]
    have h := hK k (by omega)
    rw [if_pos (by omega), show (0 : Int) = ((0 : Nat) : Int) from rfl, h, allOk_step n l r (by omega)]
theorem quWatched_ev (n : Nat) (hn : n ≤ 8) (l : List (List Int)) (hl : l.length ≤ 64) (hp : ∀ x ∈ l, placeOk n x = true) : Ev (fun k => spec_quWatched.f k (n : Int) l) (allOk n l 0) := by
  obtain ⟨K, hK⟩ := ev_get (quWatched_l0 n hn l hl hp n 0 (by omega) (by omega))
  exact ⟨K, fun k hk => hK k hk⟩
theorem IndexFuncS (l : List (List Int)) (F : List Int → Option Bool) (P : List Int → Bool) (hF : ∀ x ∈ l, F x = some (P x)) (hb : l.length ≤ 1152921504606846976) : ∀ (d i : Nat) (k : Nat), l.length - i = d → i ≤ l.length → d < k →
    ∃ r : Int, slices_IndexFunc_int_int_191.l0 k l F (l.length : Int) (i : Int) = some r ∧ decide (r ≥ 0) = (l.drop i).any P := by
  intro d
  induction d with
  | zero =>
    intro i k hd hi hk
    obtain ⟨k, rfl⟩ : ∃ m, k = m + 1 := ⟨k - 1, by omega⟩
    exact ⟨-1, by rw [slices_IndexFunc_int_int_191.l0, if_neg (by omega)], by rw [List.drop_eq_nil_of_le (by omega)]; rfl⟩
  | succ d ih =>
    intro i k hd hi hk
    obtain ⟨k, rfl⟩ : ∃ m, k = m + 1 := ⟨k - 1, by omega⟩
    have h1 : i < l.length := by omega
    have hr := rdL_nat l i h1
    have hf := hF l[i] (List.getElem_mem h1)
    rw [List.drop_eq_getElem_cons h1, List.any_cons]
    by_cases hp : P l[i] = true
    · refine ⟨i, ?_, ?_⟩
      · rw [slices_IndexFunc_int_int_191.l0, if_pos (by omega), if_pos (by omega), if_pos (by omega), hr]
        simp only [FnCall57.f, hf, hp, Option.bind_some, if_true]
      · rw [hp, Bool.true_or]; simp
    · obtain ⟨r, h2, h3⟩ := ih (i + 1) k (by omega) (by omega) (by omega)
      refine ⟨r, ?_, ?_⟩
      · rw [slices_IndexFunc_int_int_191.l0, if_pos (by omega), if_pos (by omega), if_pos (by omega), hr]
        simp only [FnCall57.f, hf, hp, Option.bind_some]
        rw [if_neg (by simp), show wrap64 ((i : Int) + 1) = ((i + 1 : Nat) : Int) by unfold wrap64; omega]
        exact h2
      · rw [h3]; simp only [Bool.not_eq_true] at hp; rw [hp, Bool.false_or]
theorem ContainsFuncS_ev (l : List (List Int)) (F : List Int → Option Bool) (P : List Int → Bool) (hF : ∀ x ∈ l, F x = some (P x)) (hb : l.length ≤ 1152921504606846976) : Ev (fun k => slices_ContainsFunc_int_int_120.f k l F) (l.any P) := by
  refine ⟨l.length + 1, fun k hk => ?_⟩
  obtain ⟨r, h1, h2⟩ := IndexFuncS l F P hF hb l.length 0 k (by omega) (by omega) (by omega)
  simp only [slices_ContainsFunc_int_int_120.f, slices_IndexFunc_int_int_191.f]
  rw [show (0 : Int) = ((0 : Nat) : Int) from rfl, h1, Option.bind_some, show (((0 : Nat) : Int)) = 0 from rfl, h2]
  simp
theorem watching_fn (n : Nat) (hn : n ≤ 8) (x : List Int) (hx : placeOk n x = true) (r c : Nat) (hr : r < n) (hc : c < n) : impl_watching_1.fc (r : Int) (c : Int) x = some (reach x r c) := by
  obtain ⟨a, b, rfl, ha1, ha2, hb1, hb2⟩ := placeOk_at hx
  have e0 : rd [a, b] 0 = a := rfl
  have e1 : rd [a, b] 1 = b := rfl
  have hreach : reach [a, b] r c = decide (a = (r : Int) ∨ b = (c : Int) ∨ (a - (r : Int)).natAbs = (b - (c : Int)).natAbs) := rfl
  show impl_watching_1.f [a, b] (r : Int) (c : Int) = _
  unfold impl_watching_1.f
  rw [e0, e1, if_pos (by simp), hreach]
  by_cases h1 : a = (r : Int)
  · rw [if_pos h1]; simp [h1]
  · rw [if_neg h1, if_pos (by simp)]
    by_cases h2 : b = (c : Int)
    · rw [if_pos h2]; simp [h2]
    · rw [if_neg h2]
      unfold impl_attacked.f mx
      rw [w64 _ (by omega) (by omega), w64 _ (by omega) (by omega), w64 _ (by omega) (by omega), w64 _ (by omega) (by omega), Option.bind_some]
      congr 1
      rw [Bool.eq_iff_iff, beq_iff_eq, decide_eq_true_iff]
      split <;> split <;> omega
theorem watching_l1 (n : Nat) (hn : n ≤ 8) (l : List (List Int)) (hl : l.length ≤ 64) (hp : ∀ x ∈ l, placeOk n x = true) (r : Nat) (hr : r < n)
    (hout : Ev (fun k => impl_watching.l0 k (n : Int) l (n : Int) ((r + 1 : Nat) : Int)) (allOk n l (r + 1))) :
    ∀ (d c : Nat), n - c = d → c ≤ n →
    Ev (fun k => impl_watching.l1 k (n : Int) l (n : Int) (r : Int) (n : Int) (c : Int) (r : Int)) (rowOk n l r c && allOk n l (r + 1)) := by
  intro d
  induction d with
  | zero =>
    intro c hd hc
    obtain ⟨K, hK⟩ := ev_get hout
    refine ⟨K + 1, fun k hk => ?_⟩
    obtain ⟨k, rfl⟩ : ∃ m, k = m + 1 := ⟨k - 1, by omega⟩
    simp only [impl_watching.l1]
    rw [if_neg (by omega), w64 _ (by omega) (by omega), show ((r : Int) + 1) = ((r + 1 : Nat) : Int) by omega, hK k (by omega), rowOk_nil n l r c (by omega), Bool.true_and]
  | succ d ih =>
    intro c hd hc
    obtain ⟨K1, h1⟩ := ev_get (ih (c + 1) (by omega) (by omega))
    obtain ⟨K2, h2⟩ := ev_get (ContainsFuncS_ev l (impl_watching_1.fc (r : Int) (c : Int)) (fun x => reach x r c) (fun x hx => watching_fn n hn x (hp x hx) r c hr (by omega)) (by omega))
    refine ⟨K1 + K2 + 1, fun k hk => ?_⟩
    obtain ⟨k, rfl⟩ : ∃ m, k = m + 1 := ⟨k - 1, by omega⟩
    simp only [impl_watching.l1]
    rw [if_pos (by omega), h2 k (by omega), Option.bind_some, w64 _ (by omega) (by omega), show ((c : Int) + 1) = ((c + 1 : Nat) : Int) by omega, h1 k (by omega), rowOk_step n l r c (by omega)]
    show (if cellOk l r c = true then _ else _) = _
    cases cellOk l r c <;> simp
theorem watching_l0 (n : Nat) (hn : n ≤ 8) (l : List (List Int)) (hl : l.length ≤ 64) (hp : ∀ x ∈ l, placeOk n x = true) : ∀ (d r : Nat), n - r = d → r ≤ n →
    Ev (fun k => impl_watching.l0 k (n : Int) l (n : Int) (r : Int)) (allOk n l r) := by
  intro d
  induction d with
  | zero =>
    intro r hd hr
    refine ⟨1, fun k hk => ?_⟩
    obtain ⟨k, rfl⟩ : ∃ m, k = m + 1 := ⟨k - 1, by omega⟩
    simp only [impl_watching.l0]
    rw [if_neg (by omega), allOk_nil n l r (by omega)]
  | succ d ih =>
    intro r hd hr
    obtain ⟨K, hK⟩ := ev_get (watching_l1 n hn l hl hp r (by omega) (ih (r + 1) (by omega) (by omega)) n 0 (by omega) (by omega))
    refine ⟨K + 1, fun k hk => ?_⟩
    obtain ⟨k, rfl⟩ : ∃ m, k = m + 1 := ⟨k - 1, by omega⟩
    simp only [impl_watching.l0]
    have h := hK k (by omega)
    rw [if_pos (by omega), show (0 : Int) = ((0 : Nat) : Int) from rfl, h, allOk_step n l r (by omega)]
theorem watching_ev (n : Nat) (hn : n ≤ 8) (l : List (List Int)) (hl : l.length ≤ 64) (hp : ∀ x ∈ l, placeOk n x = true) : Ev (fun k => impl_watching.f k (n : Int) l) (allOk n l 0) := by
  obtain ⟨K, hK⟩ := ev_get (watching_l0 n hn l hl hp n 0 (by omega) (by omega))
  exact ⟨K, fun k hk => hK k hk⟩
end Go.Proofs.Ythlcaikplebpmaa.P
namespace Go.Proofs.Ythlcaikplebpmaa.P
open Go.RowKit Go.Proofs.YthlcaikplebpmaaW.PrintWords Go.Proofs.YthlcaikplebpmaaW.PrintLast Go.Proofs.YthlcaikplebpmaaW.PrintMore
set_option linter.unusedVariables false
set_option linter.unusedSimpArgs false
theorem boardB_iff (r c : Int) (l : List Int) : boardB r c l = true ↔ (1 ≤ r ∧ r ≤ 6) ∧ (1 ≤ c ∧ c ≤ 6) ∧ (l.length : Int) = r ∧ ∀ m ∈ l, 0 ≤ m ∧ m ≤ 2 ^ c.toNat - 1 := by
  unfold boardB
  simp only [Bool.and_eq_true, decide_eq_true_eq, List.all_eq_true]
  constructor
  · rintro ⟨⟨⟨a, b⟩, c⟩, d⟩; exact ⟨a, b, c, d⟩
  · rintro ⟨a, b, c, d⟩; exact ⟨⟨⟨a, b⟩, c⟩, d⟩
theorem pow_le6 (c : Int) (h1 : c ≤ 6) : (2 : Int) ^ c.toNat ≤ 64 := by
  have := Nat.pow_le_pow_right (show 0 < 2 by decide) (show c.toNat ≤ 6 by omega)
  have h : (2 : Int) ^ c.toNat ≤ 2 ^ 6 := by exact_mod_cast this
  exact h
end Go.Proofs.Ythlcaikplebpmaa.P
namespace Go.Proofs.Ythlcaikplebpmaa.P
open Go.RowKit Go.Proofs.YthlcaikplebpmaaW.PrintWords Go.Proofs.YthlcaikplebpmaaW.PrintLast Go.Proofs.YthlcaikplebpmaaW.PrintMore
set_option linter.unusedVariables false
set_option linter.unusedSimpArgs false
/-- A mask has a column. -/
def hasM (m : Int) (j : Int) : Bool := Int.tmod (shr .i64 m j) 2 == 1
theorem has_bits : ∀ m : Fin 64, ∀ c : Fin 6, (Go.bits .and .i64 (shr .i64 (m.val : Int) (c.val : Int)) 1 == 1) = hasM (m.val : Int) (c.val : Int) := by decide +kernel
theorem has_bits' (m c : Int) (h0 : 0 ≤ m) (h1 : m ≤ 63) (h2 : 0 ≤ c) (h3 : c ≤ 5) : (Go.bits .and .i64 (shr .i64 m c) 1 == 1) = hasM m c := by
  have h := has_bits ⟨m.toNat, by omega⟩ ⟨c.toNat, by omega⟩
  simp only [show ((m.toNat : Nat) : Int) = m by omega, show ((c.toNat : Nat) : Int) = c by omega] at h
  exact h
/-- The board has the cell. -/
def hasC (l : List Int) (i j : Int) : Bool := hasM (rd l i) j
theorem board_row {r c : Int} {l : List Int} (h : boardB r c l = true) {i : Int} (h0 : 0 ≤ i) (h1 : i < r) : 0 ≤ rd l i ∧ rd l i ≤ 63 := by
  obtain ⟨hr, hc, hl, hm⟩ := (boardB_iff r c l).1 h
  have hp6 := pow_le6 c hc.2
  have hx : i.toNat < l.length := by omega
  have := hm l[i.toNat] (List.getElem_mem hx)
  have e : rd l i = l[i.toNat] := by
    have := rd_nat l i.toNat hx
    rwa [show ((i.toNat : Nat) : Int) = i by omega] at this
  rw [e]; omega
theorem has_eq {r c : Int} {l : List Int} (h : boardB r c l = true) {i j : Int} (h0 : 0 ≤ i) (h1 : i < r) (h2 : 0 ≤ j) (h3 : j < c) : impl_Board_has.f r c l i j = some (hasC l i j) := by
  obtain ⟨hr, hc, hl, hm⟩ := (boardB_iff r c l).1 h
  have hb := board_row h h0 h1
  simp only [impl_Board_has.f]
  rw [if_pos h0, if_pos (by omega), if_pos h2, has_bits' _ _ hb.1 hb.2 h2 (by omega)]
  rfl
theorem crange'_step (s n : Nat) (h : s < n) : List.range' s (n - s) = s :: List.range' (s + 1) (n - (s + 1)) := by
  rw [show n - s = (n - (s + 1)) + 1 by omega, List.range'_succ]
def cellRow (l : List Int) (i C j : Nat) : List (List Int) := (List.range' j (C - j)).flatMap fun (j : Nat) => if hasC l (i : Int) (j : Int) = true then [[(i : Int), (j : Int)]] else []
def cellsFrom (l : List Int) (R C i : Nat) : List (List Int) := (List.range' i (R - i)).flatMap fun (i : Nat) => cellRow l i C 0
theorem cellRow_step (l : List Int) (i C j : Nat) (h : j < C) : cellRow l i C j = (if hasC l (i : Int) (j : Int) = true then [[(i : Int), (j : Int)]] else []) ++ cellRow l i C (j + 1) := by
  unfold cellRow
  rw [crange'_step j C h, List.flatMap_cons]
theorem cellRow_nil (l : List Int) (i C j : Nat) (h : C ≤ j) : cellRow l i C j = [] := by
  unfold cellRow
  rw [show C - j = 0 by omega]; rfl
theorem cellsFrom_step (l : List Int) (R C i : Nat) (h : i < R) : cellsFrom l R C i = cellRow l i C 0 ++ cellsFrom l R C (i + 1) := by
  unfold cellsFrom
  rw [crange'_step i R h, List.flatMap_cons]
theorem cellsFrom_nil (l : List Int) (R C i : Nat) (h : R ≤ i) : cellsFrom l R C i = [] := by
  unfold cellsFrom
  rw [show R - i = 0 by omega]; rfl
def cells (r c : Int) (l : List Int) : List (List Int) := cellsFrom l r.toNat c.toNat 0
theorem CellsOf_ev (r c : Int) (l : List Int) : Ev (fun k => impl_CellsOf.f k r c l) (if boardB r c l = true then (cells r c l, true) else ([], false)) := by
  by_cases h0 : ¬ boardB r c l = true
  · refine ⟨0, fun k hk => ?_⟩
    simp only [impl_CellsOf.f, impl_IsBoard.f, Option.bind_some, if_neg h0]
  have h := Classical.not_not.1 h0
  rw [if_pos h]
  obtain ⟨hr, hc, hl, hm⟩ := (boardB_iff r c l).1 h
  obtain ⟨R, rfl⟩ : ∃ R : Nat, r = R := ⟨r.toNat, by omega⟩
  obtain ⟨C, rfl⟩ : ∃ C : Nat, c = C := ⟨c.toNat, by omega⟩
  have hout : ∀ (d i : Nat) (acc : List (List Int)), R - i = d → i ≤ R → acc.length ≤ 6 * i → Ev (fun k => impl_CellsOf.l0 k acc (R : Int) (i : Int) (R : Int) (C : Int) l) (acc ++ cellsFrom l R C i, true) := by
    intro d
    induction d with
    | zero =>
      intro i acc hd hi ha
      refine ⟨1, fun k hk => ?_⟩
      obtain ⟨k, rfl⟩ : ∃ m, k = m + 1 := ⟨k - 1, by omega⟩
      dsimp only
      rw [impl_CellsOf.l0, if_neg (by omega), cellsFrom_nil l R C i (by omega), List.append_nil]
    | succ d ih =>
      intro i acc hd hi ha
      have hin : ∀ (e j : Nat) (acc : List (List Int)), C - j = e → j ≤ C → acc.length ≤ 6 * i + j → Ev (fun k => impl_CellsOf.l1 k acc (i : Int) (R : Int) (i : Int) (C : Int) (j : Int) (R : Int) (C : Int) l) (acc ++ cellRow l i C j ++ cellsFrom l R C (i + 1), true) := by
        intro e
        induction e with
        | zero =>
          intro j acc he hj ha
          obtain ⟨K, hK⟩ := ev_get (ih (i + 1) acc (by omega) (by omega) (by omega))
          refine ⟨K + 1, fun k hk => ?_⟩
          obtain ⟨k, rfl⟩ : ∃ m, k = m + 1 := ⟨k - 1, by omega⟩
          dsimp only
          rw [impl_CellsOf.l1, if_neg (by omega), cellRow_nil l i C j (by omega), List.append_nil, w64 _ (by omega) (by omega), show ((i : Int) + 1) = ((i + 1 : Nat) : Int) by omega]
          exact hK k (by omega)
        | succ e ihe =>
          intro j acc he hj ha
          obtain ⟨K1, h1⟩ := ev_get (ihe (j + 1) (acc ++ [[(i : Int), (j : Int)]]) (by omega) (by omega) (by simp; omega))
          obtain ⟨K2, h2⟩ := ev_get (ihe (j + 1) acc (by omega) (by omega) (by omega))
          refine ⟨K1 + K2 + 1, fun k hk => ?_⟩
          obtain ⟨k, rfl⟩ : ∃ m, k = m + 1 := ⟨k - 1, by omega⟩
          dsimp only
          rw [impl_CellsOf.l1, if_pos (by omega), has_eq h (by omega) (by omega) (by omega) (by omega), Option.bind_some, if_pos (show acc.length < 5864062014805 by omega), w64 ((j : Int) + 1) (by omega) (by omega), show ((j : Int) + 1) = ((j + 1 : Nat) : Int) by omega, h1 k (by omega), h2 k (by omega), cellRow_step l i C j (by omega)]
          by_cases hh : hasC l (i : Int) (j : Int) = true
          · rw [if_pos hh, if_pos hh]; simp [List.append_assoc]
          · rw [if_neg hh, if_neg hh]; simp
      obtain ⟨K, hK⟩ := ev_get (hin C 0 acc (by omega) (by omega) (by omega))
      refine ⟨K + 1, fun k hk => ?_⟩
      obtain ⟨k, rfl⟩ : ∃ m, k = m + 1 := ⟨k - 1, by omega⟩
      dsimp only
      rw [impl_CellsOf.l0, if_pos (by omega), cellsFrom_step l R C i (by omega), ← List.append_assoc]
      exact hK k (by omega)
  obtain ⟨K, hK⟩ := ev_get (hout R 0 [] (by omega) (by omega) (by simp))
  refine ⟨K, fun k hk => ?_⟩
  simp only [impl_CellsOf.f, impl_IsBoard.f, Option.bind_some, if_pos h]
  simpa [cells] using hK k hk
theorem rd0 (p q : Int) : rd [p, q] 0 = p := by simp [rd]
theorem rd1 (p q : Int) : rd [p, q] 1 = q := by simp [rd]
end Go.Proofs.Ythlcaikplebpmaa.P
namespace Go.Proofs.Ythlcaikplebpmaa.P
open Go.RowKit Go.Proofs.YthlcaikplebpmaaW.PrintWords Go.Proofs.YthlcaikplebpmaaW.PrintLast Go.Proofs.YthlcaikplebpmaaW.PrintMore
set_option linter.unusedVariables false
set_option linter.unusedSimpArgs false
section
variable (P : List (List Int) → Bool)
/-- The first list of so many places that goes on a list and is a good one. -/
def findL (most : Nat) : List (List Int) → List (List Int) → Option (List (List Int))
  | [], _ => none
  | x :: rest, list => match (if list.length + 1 = most then (if P (list ++ [x]) = true then some (list ++ [x]) else none) else findL most rest (list ++ [x])) with
    | some o => some o
    | none => findL most rest list
theorem findL_some (most : Nat) : ∀ suf list o, findL P most suf list = some o → ∃ s, s.Sublist suf ∧ o = list ++ s
  | [], list, o, h => by simp [findL] at h
  | x :: rest, list, o, h => by
    rw [findL] at h
    split at h
    · rename_i o' ho
      obtain rfl := Option.some.inj h
      by_cases hm : list.length + 1 = most
      · rw [if_pos hm] at ho
        split at ho
        · obtain rfl := Option.some.inj ho
          exact ⟨[x], List.Sublist.cons_cons x (List.nil_sublist _), rfl⟩
        · cases ho
      · rw [if_neg hm] at ho
        obtain ⟨s, h1, rfl⟩ := findL_some most rest (list ++ [x]) _ ho
        exact ⟨x :: s, List.Sublist.cons_cons x h1, by simp⟩
    · obtain ⟨s, h1, rfl⟩ := findL_some most rest list o h
      exact ⟨s, List.Sublist.cons x h1, rfl⟩
end
theorem evw {α : Type} {g g' : Nat → Option α} {r : α} (K : Nat) (h : Ev g' r) (hs : ∀ k, K ≤ k → g (k + 1) = g' k) : Ev g r := by
  obtain ⟨K2, h2⟩ := ev_get h
  refine ⟨K + K2 + 1, fun k hk => ?_⟩
  obtain ⟨k, rfl⟩ : ∃ m, k = m + 1 := ⟨k - 1, by omega⟩
  rw [hs k (by omega)]
  exact h2 k (by omega)
theorem evx {α : Type} {g : Nat → Option α} {r : α} (K : Nat) (hs : ∀ k, K ≤ k → g (k + 1) = some r) : Ev g r := by
  refine ⟨K + 1, fun k hk => ?_⟩
  obtain ⟨k, rfl⟩ : ∃ m, k = m + 1 := ⟨k - 1, by omega⟩
  exact hs k (by omega)
theorem at_step {i n : Nat} (h : i < n) (hn : n ≤ 1000) : n - (i + 1) = n - i - 1 ∧ i + 1 ≤ n ∧ ((i : Int) < (n : Int) ∧ 0 ≤ (i : Int) ∧ wrap64 ((i : Int) + 1) = ((i + 1 : Nat) : Int)) := by
  refine ⟨by omega, by omega, by omega, by omega, ?_⟩
  rw [w64 _ (by omega) (by omega)]; omega
/-- All places, in order. -/
def allc (n : Nat) : List (List Int) := (List.range (n * n)).map fun t => [((t / n : Nat) : Int), ((t % n : Nat) : Int)]
theorem allc_len (n : Nat) : (allc n).length = n * n := by simp [allc]
theorem allc_at {n t : Nat} (h : t < n * n) : (allc n).getD t [] = [((t / n : Nat) : Int), ((t % n : Nat) : Int)] := by
  simp [allc, List.getD_eq_getElem?_getD, h]
theorem allc_drop {n t : Nat} (h : t < n * n) : (allc n).drop t = [((t / n : Nat) : Int), ((t % n : Nat) : Int)] :: (allc n).drop (t + 1) := by
  rw [← allc_at h, List.drop_eq_getElem_cons (by rw [allc_len]; exact h), List.getD_eq_getElem?_getD, List.getElem?_eq_getElem (by rw [allc_len]; exact h)]
  rfl
theorem allc_ok : ∀ n : Fin 7, (allc n.val).Nodup ∧ ∀ x ∈ allc n.val, placeOk (n.val : Int) x = true ∧ x.length = 2 := by decide +kernel
def outW (o : Option (List (List Int))) (q : List (List Int)) : Bool × List (List Int) := match o with
  | some l => (true, l)
  | none => (false, q)
section
variable (n : Nat) (hn : n ≤ 6) (most : Nat) (all : List (List Int))
theorem lw_f_eq (k : Nat) (n most : Int) (all : List (List Int)) (fr : Int) (q : List (List Int)) (b : Bool) (h : (q.length : Int) = most) (hw : impl_watching.f k n q = some b) : impl_LeastWatch_1.f n most all (k + 1) fr q = some (b, q) := by
  rw [impl_LeastWatch_1.f, if_pos h, hw, Option.bind_some]
theorem lw_f_ne (k : Nat) (n most : Int) (all : List (List Int)) (fr : Int) (q : List (List Int)) (h : ¬ (q.length : Int) = most) : impl_LeastWatch_1.f n most all (k + 1) fr q = impl_LeastWatch_1.l0 n most all k fr q := by
  rw [impl_LeastWatch_1.f, if_neg h]
theorem lw_end (k : Nat) (n most : Int) (all : List (List Int)) (i : Int) (q : List (List Int)) (h : ¬ i < (all.length : Int)) : impl_LeastWatch_1.l0 n most all (k + 1) i q = some (false, q) := by
  rw [impl_LeastWatch_1.l0, if_neg h]
theorem lw_hit (k : Nat) (n most : Int) (all : List (List Int)) (i : Int) (q o : List (List Int)) (h : i < (all.length : Int)) (h0 : 0 ≤ i) (hq : q.length < 5864062014805) (hf : impl_LeastWatch_1.f n most all k (wrap64 (i + 1)) (q ++ [all.getD i.toNat []]) = some (true, o)) : impl_LeastWatch_1.l0 n most all (k + 1) i q = some (true, o) := by
  rw [impl_LeastWatch_1.l0, if_pos h, if_pos h0, if_pos hq, hf, Option.bind_some, if_pos rfl]
theorem lw_miss (k : Nat) (n most : Int) (all : List (List Int)) (i : Int) (q : List (List Int)) (h : i < (all.length : Int)) (h0 : 0 ≤ i) (hq : q.length < 5864062014805) (hf : impl_LeastWatch_1.f n most all k (wrap64 (i + 1)) (q ++ [all.getD i.toNat []]) = some (false, q ++ [all.getD i.toNat []])) : impl_LeastWatch_1.l0 n most all (k + 1) i q = impl_LeastWatch_1.l0 n most all k (wrap64 (i + 1)) q := by
  rw [impl_LeastWatch_1.l0, if_pos h, if_pos h0, if_pos hq, hf, Option.bind_some, if_neg (by simp), if_pos rfl]
variable {n hn most all}
theorem lw_loop (hn : n ≤ 6) (hall : all.length ≤ 36) (hok : ∀ x ∈ all, placeOk (n : Int) x = true) : ∀ (d i : Nat) (q : List (List Int)), all.length - i = d → i ≤ all.length → q.length ≤ i → q.length < most → (∀ x ∈ q, placeOk (n : Int) x = true) →
    Ev (fun k => impl_LeastWatch_1.l0 (n : Int) (most : Int) all k (i : Int) q) (outW (findL (fun l => allOk n l 0) most (all.drop i) q) q) := by
  intro d
  induction d with
  | zero =>
    intro i q hd hi hq hm hp
    have hle : all.length ≤ i := Nat.sub_eq_zero_iff_le.1 hd
    rw [List.drop_eq_nil_of_le hle]
    exact evx 0 (fun k _ => lw_end _ _ _ _ _ _ (by omega))
  | succ d ih =>
    intro i q hd hi hq hm hp
    have hi2 : i < all.length := Nat.lt_of_sub_eq_succ hd
    obtain ⟨g0, g2, g4⟩ := at_step hi2 (by omega)
    have g1 : all.length - (i + 1) = d := by rw [g0, hd]; rfl
    have hdr : all.drop i = all.getD i [] :: all.drop (i + 1) := by rw [List.drop_eq_getElem_cons hi2, List.getD_eq_getElem?_getD, List.getElem?_eq_getElem hi2]; rfl
    have hx : placeOk (n : Int) (all.getD i []) = true := by rw [List.getD_eq_getElem?_getD, List.getElem?_eq_getElem hi2]; exact hok _ (List.getElem_mem hi2)
    have hp2 : ∀ x ∈ q ++ [all.getD i []], placeOk (n : Int) x = true := by
      intro y hy
      rcases List.mem_append.1 hy with hy | hy
      · exact hp y hy
      · rw [List.mem_singleton.1 hy]; exact hx
    have hl2 : (q ++ [all.getD i []]).length = q.length + 1 := by rw [List.length_append, List.length_singleton]
    have hql : q.length < 5864062014805 := by omega
    have hwt := watching_ev n (by omega) (q ++ [all.getD i []]) (by omega) hp2
    rw [hdr, findL]
    by_cases hk : q.length + 1 = most
    · obtain ⟨K1, h1⟩ := ev_get hwt
      have hf : ∀ k, K1 + 1 ≤ k → impl_LeastWatch_1.f (n : Int) (most : Int) all k ((i + 1 : Nat) : Int) (q ++ [all.getD i []]) = some (allOk n (q ++ [all.getD i []]) 0, q ++ [all.getD i []]) := fun k hk2 => by
        obtain ⟨k, rfl⟩ : ∃ m, k = m + 1 := ⟨k - 1, by omega⟩
        exact lw_f_eq k _ _ _ _ _ _ (by rw [hl2]; omega) (h1 k (by omega))
      rw [if_pos hk]
      by_cases hP : allOk n (q ++ [all.getD i []]) 0 = true
      · simp only [if_pos hP]
        refine evx (K1 + 1) (fun k hk2 => ?_)
        have := hf k hk2
        rw [hP] at this
        exact lw_hit k _ _ _ _ _ _ g4.1 g4.2.1 hql (by rw [g4.2.2]; exact this)
      · simp only [if_neg hP]
        refine evw (K1 + 1) (ih (i + 1) q g1 g2 (by omega) hm hp) (fun k hk2 => ?_)
        have := hf k hk2
        simp only [Bool.not_eq_true] at hP
        rw [hP] at this
        rw [lw_miss k _ _ _ _ _ g4.1 g4.2.1 hql (by rw [g4.2.2]; exact this), g4.2.2]
    · rw [if_neg hk]
      have hin := evw (g := fun k => impl_LeastWatch_1.f (n : Int) (most : Int) all k ((i + 1 : Nat) : Int) (q ++ [all.getD i []])) 0 (ih (i + 1) (q ++ [all.getD i []]) g1 g2 (by omega) (by omega) hp2) (fun k _ => lw_f_ne k (n : Int) (most : Int) all ((i + 1 : Nat) : Int) (q ++ [all.getD i []]) (by rw [hl2]; omega))
      obtain ⟨K1, h1⟩ := ev_get hin
      cases hF : findL (fun l => allOk n l 0) most (all.drop (i + 1)) (q ++ [all.getD i []]) with
      | some o =>
        rw [hF] at h1
        exact evx K1 (fun k hk2 => lw_hit k _ _ _ _ _ _ g4.1 g4.2.1 hql (by rw [g4.2.2]; exact h1 k hk2))
      | none =>
        rw [hF] at h1
        exact evw K1 (ih (i + 1) q g1 g2 (by omega) hm hp) (fun k hk2 => by rw [lw_miss k _ _ _ _ _ g4.1 g4.2.1 hql (by rw [g4.2.2]; exact h1 k hk2), g4.2.2])
end
theorem qw_zero (k : Nat) (n : Int) (l : List (List Int)) (b : Bool) (h : spec_quWatched.f k n l = some b) : spec_quWatch.f (k + 1) n 0 l = some (l, b) := by
  rw [spec_quWatch.f, if_pos rfl, h, Option.bind_some]
theorem qw_first (k : Nat) (n m : Int) (h : m ≠ 0) : spec_quWatch.f (k + 1 + 1) n m [] = spec_quWatch.l0 k n m [] 0 := by
  rw [spec_quWatch.f, if_neg h, if_neg (by simp), spec_quWatch.j0]
theorem qw_more (k : Nat) (n m : Int) (l : List (List Int)) (a b t : Int) (h : m ≠ 0) (hl : (l.length : Int) > 0) (hw : wrap64 ((l.length : Int) - 1) = (l.length : Int) - 1) (hr : rd_L1 l ((l.length : Int) - 1) = [a, b]) (ht : wrap64 (wrap64 (wrap64 (a * n) + b) + 1) = t) : spec_quWatch.f (k + 1 + 1) n m l = spec_quWatch.l0 k n m l t := by
  rw [spec_quWatch.f, if_neg h, if_pos hl, hw, if_pos (by omega), if_pos (by omega), hr, if_pos (by simp), if_pos (by simp), rd0, rd1, ht, spec_quWatch.j0]
theorem qw_end (k : Nat) (n m : Int) (l : List (List Int)) (t : Int) (h : ¬ t < wrap64 (n * n)) : spec_quWatch.l0 (k + 1) n m l t = some ([], false) := by
  rw [spec_quWatch.l0, if_neg h]
theorem qw_step (k : Nat) (n m : Int) (l : List (List Int)) (t : Int) (o : List (List Int)) (b : Bool) (h : t < wrap64 (n * n)) (hn : n ≠ 0) (hl : l.length < 1000) (hf : spec_quWatch.f k n (wrap64 (m - 1)) (l ++ [[wrap64 (Int.tdiv t n), Int.tmod t n]]) = some (o, b)) :
    spec_quWatch.l0 (k + 1) n m l t = if b = true then some (o, true) else spec_quWatch.l0 k n m l (wrap64 (t + 1)) := by
  rw [spec_quWatch.l0, if_pos h, Option.bind_some, if_pos (by simp; omega), Option.bind_some, if_neg hn, Option.bind_some, if_pos (by simp; omega), List.nil_append, hf, Option.bind_some]
def outQ (o : Option (List (List Int))) : List (List Int) × Bool := match o with
  | some l => (l, true)
  | none => ([], false)
theorem place_next {n t : Nat} (hn : 1 ≤ n) (hn6 : n ≤ 6) (h : t < n * n) : wrap64 (Int.tdiv (t : Int) (n : Int)) = ((t / n : Nat) : Int) ∧ Int.tmod (t : Int) (n : Int) = ((t % n : Nat) : Int) ∧ wrap64 (wrap64 (wrap64 (((t / n : Nat) : Int) * (n : Int)) + ((t % n : Nat) : Int)) + 1) = ((t + 1 : Nat) : Int) := by
  have h36 : n * n ≤ 36 := Nat.mul_le_mul hn6 hn6
  have e1 : Int.tdiv (t : Int) (n : Int) = ((t / n : Nat) : Int) := by rw [Int.tdiv_eq_ediv_of_nonneg (Int.natCast_nonneg _)]; rfl
  have e2 : Int.tmod (t : Int) (n : Int) = ((t % n : Nat) : Int) := by rw [Int.tmod_eq_emod_of_nonneg (Int.natCast_nonneg _)]; rfl
  have d := Nat.div_add_mod t n
  have hdt : t / n ≤ t := Nat.div_le_self t n
  rw [e1, e2]
  clear e1 e2
  generalize t / n = a at d hdt ⊢
  generalize t % n = b at d ⊢
  generalize n * n = m at h h36
  have hm : (a : Int) * (n : Int) = ((n * a : Nat) : Int) := by rw [← Int.natCast_mul, Nat.mul_comm]
  rw [hm]
  generalize n * a = p at d ⊢
  refine ⟨w64 _ (by omega) (by omega), rfl, ?_⟩
  rw [w64 (p : Int) (by omega) (by omega), w64 ((p : Int) + (b : Int)) (by omega) (by omega), w64 ((p : Int) + (b : Int) + 1) (by omega) (by omega)]
  omega
theorem two_less {K k : Nat} (h : K + 2 ≤ k) : ∃ j, K ≤ j ∧ k = j + 1 + 1 := ⟨k - 2, by omega, by omega⟩
/-- The reference's search from place t on: so many are missing. -/
theorem qw_loop {n : Nat} (hn : 1 ≤ n) (hn6 : n ≤ 6) (m : Nat) (most : Nat) (hmost : most ≤ 36)
    (ih : ∀ (t : Nat) (l : List (List Int)), t < n * n → l.length + 1 + m = most → (∀ x ∈ l ++ [[((t / n : Nat) : Int), ((t % n : Nat) : Int)]], placeOk (n : Int) x = true) → l.length ≤ 36 →
      Ev (fun k => spec_quWatch.f k (n : Int) (m : Int) (l ++ [[((t / n : Nat) : Int), ((t % n : Nat) : Int)]])) (if m = 0 then (l ++ [[((t / n : Nat) : Int), ((t % n : Nat) : Int)]], allOk n (l ++ [[((t / n : Nat) : Int), ((t % n : Nat) : Int)]]) 0) else outQ (findL (fun l => allOk n l 0) most ((allc n).drop (t + 1)) (l ++ [[((t / n : Nat) : Int), ((t % n : Nat) : Int)]])))) :
    ∀ (d t : Nat) (l : List (List Int)), n * n - t = d → t ≤ n * n → l.length ≤ 36 → l.length + (m + 1) = most → (∀ x ∈ l, placeOk (n : Int) x = true) →
    Ev (fun k => spec_quWatch.l0 k (n : Int) ((m + 1 : Nat) : Int) l (t : Int)) (outQ (findL (fun l => allOk n l 0) most ((allc n).drop t) l)) := by
  have h36 : n * n ≤ 36 := Nat.mul_le_mul hn6 hn6
  have hnn : wrap64 ((n : Int) * (n : Int)) = ((n * n : Nat) : Int) := by
    rw [← Int.natCast_mul]; exact w64 _ (by omega) (by omega)
  have hm1 : wrap64 (((m + 1 : Nat) : Int) - 1) = wrap64 (m : Int) := by congr 1; omega
  intro d
  induction d with
  | zero =>
    intro t l hd ht hl hm hp
    have hle : n * n ≤ t := Nat.sub_eq_zero_iff_le.1 hd
    rw [List.drop_eq_nil_of_le (by rw [allc_len]; exact hle)]
    exact evx 0 (fun k _ => qw_end _ _ _ _ _ (by rw [hnn]; exact_mod_cast Nat.not_lt.2 hle))
  | succ d ihd =>
    intro t l hd ht hl hm hp
    have ht2 : t < n * n := Nat.lt_of_sub_eq_succ hd
    obtain ⟨g0, g2, g4⟩ := at_step ht2 (by omega)
    have g1 : n * n - (t + 1) = d := by rw [g0, hd]; rfl
    obtain ⟨p1, p2, p3⟩ := place_next hn hn6 ht2
    have hxm : [((t / n : Nat) : Int), ((t % n : Nat) : Int)] ∈ allc n := by
      rw [← allc_at ht2, List.getD_eq_getElem?_getD, List.getElem?_eq_getElem (by rw [allc_len]; exact ht2)]
      exact List.getElem_mem _
    have hx := ((allc_ok ⟨n, by omega⟩).2 _ hxm).1
    have hp2 : ∀ x ∈ l ++ [[((t / n : Nat) : Int), ((t % n : Nat) : Int)]], placeOk (n : Int) x = true := by
      intro y hy
      rcases List.mem_append.1 hy with hy | hy
      · exact hp y hy
      · rw [List.mem_singleton.1 hy]; exact hx
    have hlt : (t : Int) < wrap64 ((n : Int) * (n : Int)) := by rw [hnn]; exact_mod_cast ht2
    have hn0 : (n : Int) ≠ 0 := by omega
    have hwm : wrap64 (m : Int) = (m : Int) := w64 _ (by omega) (by omega)
    obtain ⟨K1, h1⟩ := ev_get (ih t l ht2 (by omega) hp2 hl)
    have hnext := ihd (t + 1) l g1 g2 hl hm hp
    rw [allc_drop ht2, findL]
    have hcase : (l.length + 1 = most) ↔ m = 0 := ⟨fun e => by omega, fun e => by omega⟩
    by_cases hk : m = 0
    · rw [if_pos (hcase.2 hk)]
      rw [if_pos hk] at h1
      by_cases hP : allOk n (l ++ [[((t / n : Nat) : Int), ((t % n : Nat) : Int)]]) 0 = true
      · simp only [if_pos hP]
        refine evx K1 (fun k hk2 => ?_)
        rw [qw_step k _ _ _ _ _ _ hlt hn0 (by omega) (by rw [hm1, hwm, p1, p2]; exact h1 k hk2), if_pos hP]
        rfl
      · simp only [if_neg hP]
        refine evw K1 hnext (fun k hk2 => ?_)
        rw [qw_step k _ _ _ _ _ _ hlt hn0 (by omega) (by rw [hm1, hwm, p1, p2]; exact h1 k hk2), if_neg hP, g4.2.2]
    · rw [if_neg (fun e => hk (hcase.1 e))]
      rw [if_neg hk] at h1
      cases hF : findL (fun l => allOk n l 0) most ((allc n).drop (t + 1)) (l ++ [[((t / n : Nat) : Int), ((t % n : Nat) : Int)]]) with
      | some o =>
        rw [hF] at h1
        refine evx K1 (fun k hk2 => ?_)
        rw [qw_step k _ _ _ _ o true hlt hn0 (by omega) (by rw [hm1, hwm, p1, p2]; exact h1 k hk2), if_pos rfl]
        rfl
      | none =>
        rw [hF] at h1
        refine evw K1 hnext (fun k hk2 => ?_)
        rw [qw_step k _ _ _ _ [] false hlt hn0 (by omega) (by rw [hm1, hwm, p1, p2]; exact h1 k hk2), if_neg (by simp), g4.2.2]
theorem qw_rec {n : Nat} (hn : 1 ≤ n) (hn6 : n ≤ 6) (most : Nat) (hmost : most ≤ 36) : ∀ (m t : Nat) (l : List (List Int)), t < n * n → l.length + 1 + m = most → (∀ x ∈ l ++ [[((t / n : Nat) : Int), ((t % n : Nat) : Int)]], placeOk (n : Int) x = true) → l.length ≤ 36 →
      Ev (fun k => spec_quWatch.f k (n : Int) (m : Int) (l ++ [[((t / n : Nat) : Int), ((t % n : Nat) : Int)]])) (if m = 0 then (l ++ [[((t / n : Nat) : Int), ((t % n : Nat) : Int)]], allOk n (l ++ [[((t / n : Nat) : Int), ((t % n : Nat) : Int)]]) 0) else outQ (findL (fun l => allOk n l 0) most ((allc n).drop (t + 1)) (l ++ [[((t / n : Nat) : Int), ((t % n : Nat) : Int)]])))
  | 0, t, l, ht, hm, hp, hl => by
    rw [if_pos rfl]
    obtain ⟨K, hK⟩ := ev_get (quWatched_ev n (by omega) (l ++ [[((t / n : Nat) : Int), ((t % n : Nat) : Int)]]) (by rw [List.length_append, List.length_singleton]; omega) hp)
    exact evx K (fun k hk => qw_zero k _ _ _ (hK k hk))
  | m + 1, t, l, ht, hm, hp, hl => by
    rw [if_neg (Nat.succ_ne_zero m)]
    have hl2 : (l ++ [[((t / n : Nat) : Int), ((t % n : Nat) : Int)]]).length = l.length + 1 := by rw [List.length_append, List.length_singleton]
    have hbig : l.length + 1 ≤ 36 := Nat.le_trans (Nat.le_add_right _ _) (hm ▸ hmost)
    have f3 : (l ++ [[((t / n : Nat) : Int), ((t % n : Nat) : Int)]]).length + (m + 1) = most := by rw [hl2]; exact hm
    have f4 : ((m + 1 : Nat) : Int) ≠ 0 := by exact_mod_cast Nat.succ_ne_zero m
    have f5 : (((l ++ [[((t / n : Nat) : Int), ((t % n : Nat) : Int)]]).length : Nat) : Int) > 0 := by rw [hl2]; exact_mod_cast Nat.succ_pos _
    have f6 : wrap64 ((((l ++ [[((t / n : Nat) : Int), ((t % n : Nat) : Int)]]).length : Nat) : Int) - 1) = (((l ++ [[((t / n : Nat) : Int), ((t % n : Nat) : Int)]]).length : Nat) : Int) - 1 := by
      rw [hl2]
      generalize l.length = z at hbig ⊢
      exact w64 _ (by omega) (by omega)
    have hlast : rd_L1 (l ++ [[((t / n : Nat) : Int), ((t % n : Nat) : Int)]]) ((((l ++ [[((t / n : Nat) : Int), ((t % n : Nat) : Int)]]).length : Nat) : Int) - 1) = [((t / n : Nat) : Int), ((t % n : Nat) : Int)] := by
      rw [hl2, show (((l.length + 1 : Nat) : Int) - 1) = (l.length : Int) by omega]
      exact rdL_mid l [] _
    have h := qw_loop hn hn6 m most hmost (qw_rec hn hn6 most hmost m) (n * n - (t + 1)) (t + 1) (l ++ [[((t / n : Nat) : Int), ((t % n : Nat) : Int)]]) rfl ht (by rw [hl2]; exact hbig) f3 hp
    obtain ⟨p1, p2, p3⟩ := place_next hn hn6 ht
    obtain ⟨K, hK⟩ := ev_get h
    clear h
    refine ⟨K + 2, fun k hk => ?_⟩
    obtain ⟨k, hk2, rfl⟩ := two_less hk
    show spec_quWatch.f (k + 1 + 1) _ _ _ = _
    rw [qw_more k _ _ _ _ _ ((t + 1 : Nat) : Int) f4 f5 f6 hlast p3]
    exact hK k hk2
theorem qw_ev {n : Nat} (hn : 1 ≤ n) (hn6 : n ≤ 6) (m : Nat) (hm : m + 1 ≤ 36) : Ev (fun k => spec_quWatch.f k (n : Int) ((m + 1 : Nat) : Int) []) (outQ (findL (fun l => allOk n l 0) (m + 1) (allc n) [])) := by
  have h := qw_loop hn hn6 m (m + 1) hm (qw_rec hn hn6 (m + 1) hm m) (n * n) 0 [] (Nat.sub_zero _) (Nat.zero_le _) (Nat.zero_le _) (Nat.zero_add _) (fun x hx => absurd hx (List.not_mem_nil))
  rw [List.drop_zero] at h
  obtain ⟨K, hK⟩ := ev_get h
  refine ⟨K + 2, fun k hk => ?_⟩
  obtain ⟨k, rfl⟩ : ∃ j, k = j + 1 + 1 := ⟨k - 2, by omega⟩
  show spec_quWatch.f (k + 1 + 1) _ _ _ = _
  rw [qw_first k _ _ (by omega)]
  exact hK k (by omega)
end Go.Proofs.Ythlcaikplebpmaa.P
namespace Go.Proofs.Ythlcaikplebpmaa.Pure
open Go.RowKit Go.Proofs.Ythlcaikplebpmaa.P Go.Proofs.YthlcaikplebpmaaW.PrintWords Go.Proofs.YthlcaikplebpmaaW.PrintLast
set_option linter.unusedSimpArgs false
set_option linter.unusedVariables false
namespace FnExactLeastWatch
def good (n : Nat) (l : List (List Int)) : Bool := allOk n l 0
def leastFrom (n : Nat) : Nat → Nat → Option (List (List Int))
  | 0, kk => findL (fun l => allOk n l 0) kk (allc n) []
  | d + 1, kk => match findL (fun l => allOk n l 0) kk (allc n) [] with
    | some o => some o
    | none => leastFrom n d (kk + 1)
theorem found : ∀ n : Fin 7, 1 ≤ n.val → (findL (fun l => allOk n.val l 0) n.val (allc n.val) []).isSome = true := by decide +kernel
theorem least_some (n : Nat) : ∀ d kk, (findL (fun l => allOk n l 0) (kk + d) (allc n) []).isSome = true → ∃ o, leastFrom n d kk = some o
  | 0, kk, h => Option.isSome_iff_exists.1 h
  | d + 1, kk, h => by
    rw [leastFrom]
    cases h2 : findL (fun l => allOk n l 0) kk (allc n) [] with
    | some o => exact ⟨o, rfl⟩
    | none => exact least_some n d (kk + 1) (by rw [show kk + 1 + d = kk + (d + 1) by omega]; exact h)
theorem least_sub (n : Nat) : ∀ d kk o, leastFrom n d kk = some o → o.Sublist (allc n)
  | 0, kk, o, h => by
    obtain ⟨s, h1, rfl⟩ := findL_some _ _ _ _ _ h
    exact h1
  | d + 1, kk, o, h => by
    rw [leastFrom] at h
    split at h
    · rename_i o' ho
      obtain rfl := Option.some.inj h
      obtain ⟨s, h1, rfl⟩ := findL_some _ _ _ _ _ ho
      exact h1
    · exact least_sub n d (kk + 1) o h
def leastW (n : Nat) : List (List Int) := (leastFrom n (n - 1) 1).getD []
def RA (n : Int) : List (List Int) × Bool := if inB n 1 6 = true then (leastW n.toNat, true) else ([], false)
def fullM (n : Nat) : List Int := List.replicate n ((2 ^ n - 1 : Nat) : Int)
theorem full_ok : ∀ n : Fin 7, 1 ≤ n.val → impl_FullBoard.f 20 (n.val : Int) (n.val : Int) = some ((n.val : Int), (n.val : Int), fullM n.val, true) := by decide +kernel
theorem full_cells : ∀ n : Fin 7, cells (n.val : Int) (n.val : Int) (fullM n.val) = allc n.val := by decide +kernel
theorem full_board : ∀ n : Fin 7, 1 ≤ n.val → boardB (n.val : Int) (n.val : Int) (fullM n.val) = true := by decide +kernel
theorem inB_nat {n : Int} (h : inB n 1 6 = true) : ∃ N : Nat, n = N ∧ 1 ≤ N ∧ N ≤ 6 := by
  unfold inB at h
  have := of_decide_eq_true h
  exact ⟨n.toNat, by omega, by omega, by omega⟩
theorem pick_ok {n : Nat} (hn : n ≤ 6) {o : List (List Int)} (h : o.Sublist (allc n)) : o.Nodup ∧ ∀ x ∈ o, x.length = 2 := by
  have ha := allc_ok ⟨n, by omega⟩
  exact ⟨List.Pairwise.sublist h ha.1, fun x hx => (ha.2 x (h.subset hx)).2⟩
theorem il_hit (n : Int) (all : List (List Int)) (k : Nat) (kk : Int) (o : List (List Int)) (h : impl_LeastWatch_1.f n kk all k 0 [] = some (true, o)) (ho : o.Nodup ∧ ∀ x ∈ o, x.length = 2) : impl_LeastWatch.l0 n all (k + 1) kk = some (o, true) := by
  rw [impl_LeastWatch.l0, h, Option.bind_some, if_pos rfl, if_pos ho]
theorem il_miss (n : Int) (all : List (List Int)) (k : Nat) (kk : Int) (q : List (List Int)) (h : impl_LeastWatch_1.f n kk all k 0 [] = some (false, q)) : impl_LeastWatch.l0 n all (k + 1) kk = impl_LeastWatch.l0 n all k (wrap64 (kk + 1)) := by
  rw [impl_LeastWatch.l0, h, Option.bind_some, if_neg (by simp)]
theorem one_ev {n : Nat} (hn6 : n ≤ 6) {kk : Nat} (hk : 1 ≤ kk) : Ev (fun k => impl_LeastWatch_1.f (n : Int) (kk : Int) (allc n) k 0 []) (outW (findL (fun l => allOk n l 0) kk (allc n) []) []) := by
  have h36 : n * n ≤ 36 := Nat.mul_le_mul hn6 hn6
  have h := lw_loop (n := n) (most := kk) (all := allc n) hn6 (by rw [allc_len]; exact h36) (fun x hx => ((allc_ok ⟨n, by omega⟩).2 x hx).1) (allc n).length 0 [] rfl (Nat.zero_le _) (Nat.zero_le _) (by simp; omega) (fun x hx => by simp at hx)
  rw [List.drop_zero] at h
  exact evw 0 h (fun k _ => lw_f_ne k _ _ _ _ _ (by simp; omega))
theorem il_ev {n : Nat} (hn6 : n ≤ 6) : ∀ (d kk : Nat) (o : List (List Int)), 1 ≤ kk → kk + d ≤ 100 → leastFrom n d kk = some o → Ev (fun k => impl_LeastWatch.l0 (n : Int) (allc n) k (kk : Int)) (o, true)
  | 0, kk, o, h1, h2, h => by
    obtain ⟨K, hK⟩ := ev_get (one_ev hn6 h1)
    have ho := pick_ok hn6 (least_sub n 0 kk o h)
    rw [leastFrom] at h
    rw [h] at hK
    exact evx K (fun k hk => il_hit _ _ _ _ _ (hK k hk) ho)
  | d + 1, kk, o, h1, h2, h => by
    obtain ⟨K, hK⟩ := ev_get (one_ev hn6 h1)
    have ho := pick_ok hn6 (least_sub n (d + 1) kk o h)
    rw [leastFrom] at h
    cases hF : findL (fun l => allOk n l 0) kk (allc n) [] with
    | some o' =>
      rw [hF] at h hK
      obtain rfl := Option.some.inj h
      exact evx K (fun k hk => il_hit _ _ _ _ _ (hK k hk) ho)
    | none =>
      rw [hF] at h hK
      have hw : wrap64 ((kk : Int) + 1) = ((kk + 1 : Nat) : Int) := by rw [w64 _ (by omega) (by omega)]; omega
      exact evw K (il_ev hn6 d (kk + 1) o (by omega) (by omega) h) (fun k hk => by rw [il_miss _ _ _ _ _ (hK k hk), hw])
theorem sl_hit (k : Nat) (n kk : Int) (o : List (List Int)) (hk : kk < n) (h : spec_quWatch.f k n kk [] = some (o, true)) : spec_LeastWatch.l0 (k + 1) n kk = some (o, true) := by
  rw [spec_LeastWatch.l0, if_pos hk, h, Option.bind_some, if_pos rfl]
theorem sl_miss (k : Nat) (n kk : Int) (o : List (List Int)) (hk : kk < n) (h : spec_quWatch.f k n kk [] = some (o, false)) : spec_LeastWatch.l0 (k + 1) n kk = spec_LeastWatch.l0 k n (wrap64 (kk + 1)) := by
  rw [spec_LeastWatch.l0, if_pos hk, h, Option.bind_some, if_neg (by simp)]
theorem sl_end (k : Nat) (n kk : Int) (o : List (List Int)) (b : Bool) (hk : ¬ kk < n) (h : spec_quWatch.f k n n [] = some (o, b)) : spec_LeastWatch.l0 (k + 1) n kk = some (o, b) := by
  rw [spec_LeastWatch.l0, if_neg hk, h, Option.bind_some]
theorem sl_ev {n : Nat} (hn : 1 ≤ n) (hn6 : n ≤ 6) : ∀ (d m : Nat) (o : List (List Int)), m + 1 + d = n → leastFrom n d (m + 1) = some o → Ev (fun k => spec_LeastWatch.l0 k (n : Int) ((m + 1 : Nat) : Int)) (o, true)
  | 0, m, o, hd, h => by
    obtain ⟨K, hK⟩ := ev_get (qw_ev hn hn6 m (by omega))
    rw [leastFrom] at h
    rw [h] at hK
    have e : ((m + 1 : Nat) : Int) = (n : Int) := by omega
    rw [e] at hK ⊢
    exact evx K (fun k hk => sl_end k _ _ o true (by omega) (hK k hk))
  | d + 1, m, o, hd, h => by
    obtain ⟨K, hK⟩ := ev_get (qw_ev hn hn6 m (by omega))
    rw [leastFrom] at h
    cases hF : findL (fun l => allOk n l 0) (m + 1) (allc n) [] with
    | some o' =>
      rw [hF] at h hK
      obtain rfl := Option.some.inj h
      exact evx K (fun k hk => sl_hit k _ _ _ (by omega) (hK k hk))
    | none =>
      rw [hF] at h hK
      have hw : wrap64 (((m + 1 : Nat) : Int) + 1) = ((m + 1 + 1 : Nat) : Int) := by rw [w64 _ (by omega) (by omega)]; omega
      exact evw K (sl_ev hn hn6 d (m + 1) o (by omega) h) (fun k hk => by rw [sl_miss k _ _ [] (by omega) (hK k hk), hw])
theorem least_eq {n : Nat} (hn : 1 ≤ n) (hn6 : n ≤ 6) : leastFrom n (n - 1) 1 = some (leastW n) := by
  obtain ⟨o, ho⟩ := least_some n (n - 1) 1 (by rw [show 1 + (n - 1) = n by omega]; exact found ⟨n, by omega⟩ hn)
  unfold leastW
  rw [ho]
  rfl
theorem specA_ev (n : Int) : Ev (fun k => spec_LeastWatch.f k n) (RA n) := by
  unfold RA
  by_cases h : inB n 1 6 = true
  · rw [if_pos h]
    obtain ⟨N, rfl, h1, h6⟩ := inB_nat h
    obtain ⟨K, hK⟩ := ev_get (sl_ev h1 h6 (N - 1) 0 _ (by omega) (least_eq h1 h6))
    refine ⟨K, fun k hk => ?_⟩
    have e := hK k hk
    simp only [spec_LeastWatch.f, l1In_eq, Option.bind_some, h, if_true, Int.toNat_natCast]
    exact e
  · rw [if_neg h]
    refine ⟨0, fun k hk => ?_⟩
    simp only [spec_LeastWatch.f, l1In_eq, Option.bind_some, if_neg h]
theorem implA_ev (n : Int) : Ev (fun k => impl_LeastWatch.f k n) (RA n) := by
  unfold RA
  by_cases h : inB n 1 6 = true
  · rw [if_pos h]
    obtain ⟨N, rfl, h1, h6⟩ := inB_nat h
    obtain ⟨K0, h0⟩ := ev_get (Ev.of (impl_FullBoard.mono _ _) (full_ok ⟨N, by omega⟩ h1))
    obtain ⟨K1, h2⟩ := ev_get (CellsOf_ev (N : Int) (N : Int) (fullM N))
    rw [if_pos (full_board ⟨N, by omega⟩ h1), full_cells ⟨N, by omega⟩] at h2
    obtain ⟨K2, hK⟩ := ev_get (il_ev h6 (N - 1) 1 _ (by omega) (by omega) (least_eq h1 h6))
    refine ⟨K0 + K1 + K2, fun k hk => ?_⟩
    have e0 := h0 k (by omega)
    have e1 := h2 k (by omega)
    have e2 := hK k (by omega)
    simp only at e0 e1
    show impl_LeastWatch.f k (N : Int) = _
    unfold impl_LeastWatch.f
    rw [within_eq, Option.bind_some, if_pos h, e0, Option.bind_some]
    dsimp only
    rw [e1, Option.bind_some, Int.toNat_natCast]
    exact e2
  · rw [if_neg h]
    refine ⟨0, fun k hk => ?_⟩
    simp only [impl_LeastWatch.f, within_eq, Option.bind_some, if_neg h]
theorem RA_small (n : Int) : (RA n).1.length ≤ 36 ∧ ∀ l ∈ (RA n).1, l.length ≤ 8 := by
  unfold RA
  by_cases h : inB n 1 6 = true
  · rw [if_pos h]
    obtain ⟨N, rfl, h1, h6⟩ := inB_nat h
    have hs := least_sub N (N - 1) 1 _ (least_eq h1 h6)
    have h36 : N * N ≤ 36 := Nat.mul_le_mul h6 h6
    have hl := hs.length_le
    rw [allc_len] at hl
    rw [Int.toNat_natCast]
    refine ⟨Nat.le_trans hl h36, fun l hl => ?_⟩
    rw [(pick_ok h6 hs).2 l hl]
    decide
  · rw [if_neg h]; simp
end FnExactLeastWatch
open FnExactLeastWatch in
theorem FnExactLeastWatch : laws_FnExactLeastWatch.Pure := by
  intro a0 hy0
  obtain ⟨K1, h1⟩ := ev_get (specA_ev a0)
  obtain ⟨K2, h2⟩ := ev_get (implA_ev a0)
  have hr := RA_small a0
  have ht := total_le hr.2
  generalize RA a0 = R at *
  obtain ⟨K6, h6⟩ := ev_get (eqIntSS_ev R.1 R.1 (by omega) (fun l hl => by have := hr.2 l hl; omega))
  obtain ⟨K7, h7⟩ := ev_get (markIntSS_ev R.1 1 (by omega) (by omega) (by omega) (by omega))
  obtain ⟨K8, h8⟩ := ev_get (heldIntSS_ev R.1 1 (by omega) (by omega) (by omega) (by omega))
  obtain ⟨m, hm⟩ : ∃ m, m = K1 + K2 + K6 + K7 + K8 := ⟨_, rfl⟩
  refine ⟨m, ?_⟩
  unfold laws_FnExactLeastWatch.f
  rw [if_pos]
  exact ⟨R.1, R.2, _, _, h1 m (by omega), h2 m (by omega), (h6 m (by omega)).trans (by simp), by omega, h7 m (by omega), h8 m (by omega)⟩
end Go.Proofs.Ythlcaikplebpmaa.Pure
