/- For every list CyclesOfFiles returns what the reference returns, in memory of its own, and leaves its list as it was: no condition but that the argument can be read. -/
import Derived.Test.YthlcaikplebpmaaIs
import Derived.Test.YthlcaikplebpmaaPx0
import Derived.Test.YthlcaikplebpmaaQ8c66479705
import Derived.Test.YthlcaikplebpmaaQa73e2632b9
import Derived.Test.YthlcaikplebpmaaQc40099354e
namespace Go.Proofs.Ythlcaikplebpmaa.P
open Go.RowKit Go.Proofs.YthlcaikplebpmaaW.PrintWords Go.Proofs.YthlcaikplebpmaaW.PrintLast Go.Proofs.YthlcaikplebpmaaW.PrintMore
set_option linter.unusedVariables false
set_option linter.unusedSimpArgs false
theorem w64 (n : Int) (h : -9223372036854775808 ≤ n) (h2 : n ≤ 9223372036854775807) : wrap64 n = n := by unfold wrap64; omega
theorem rd_nat (l : List Int) (i : Nat) (h : i < l.length) : rd l (i : Int) = l[i] := by
  unfold rd; simp [List.getD_eq_getElem?_getD, List.getElem?_eq_getElem h]
theorem drop_cons (l : List Int) (i : Nat) (h : i < l.length) : l.drop i = l[i] :: l.drop (i + 1) := List.drop_eq_getElem_cons h
theorem ev_get {α : Type} {g : Nat → Option α} {r : α} (h : Ev g r) : ∃ K, ∀ k, K ≤ k → g k = some r := h
theorem take_set_succ {α : Type} (l : List α) (i : Nat) (x : α) (h : i < l.length) : (l.set i x).take (i + 1) = l.take i ++ [x] := by
  rw [List.take_add_one, List.take_set_of_le (Nat.le_refl _)]
  simp [h]
theorem toIntS_l0 (x0 : List Int) (hl : x0.length ≤ 1152921504606846976) : ∀ (d i : Nat) (x3 : List Int) (k : Nat), x0.length - i = d → i ≤ x0.length → x3.length = x0.length → d < k →
    laws_toIntS.l0 k x0 x3 (i : Int) = some (x3.take i ++ x0.drop i) := by
  intro d
  induction d with
  | zero =>
    intro i x3 k hd hi hx hk
    obtain ⟨k, rfl⟩ : ∃ m, k = m + 1 := ⟨k - 1, by omega⟩
    rw [laws_toIntS.l0, if_neg (by omega)]
    have : i = x0.length := by omega
    subst this
    simp [← hx]
  | succ d ih =>
    intro i x3 k hd hi hx hk
    obtain ⟨k, rfl⟩ : ∃ m, k = m + 1 := ⟨k - 1, by omega⟩
    have h1 : i < x0.length := by omega
    rw [laws_toIntS.l0, if_pos (by omega), if_pos (by omega), if_pos (by omega), w64 _ (by omega) (by omega)]
    have := ih (i + 1) (x3.set i (rd x0 i)) k (by omega) (by omega) (by simp [hx]) (by omega)
    rw [show ((i : Int) + 1) = ((i + 1 : Nat) : Int) by omega, show (i : Int).toNat = i by omega, this, rd_nat _ _ h1, drop_cons x0 i h1]
    congr 1
    rw [take_set_succ _ _ _ (by omega)]
    simp
theorem toIntS_ev (l : List Int) (hl : l.length ≤ 35184372088832) : Ev (fun k => laws_toIntS.f k l) l := by
  refine ⟨l.length + 1, fun k hk => ?_⟩
  simp only [laws_toIntS.f]
  rw [if_pos (by omega), if_pos (by omega)]
  have := toIntS_l0 l (by omega) l.length 0 (List.replicate l.length 0) k (by omega) (by omega) (by simp) (by omega)
  simpa using this
theorem eqIntS_l0 (a b : List Int) (hl : a.length = b.length) (hb : a.length ≤ 1152921504606846976) : ∀ (d i : Nat) (k : Nat), a.length - i = d → i ≤ a.length → d < k →
    laws_eqIntS.l0 k a b (i : Int) = some (decide (a.drop i = b.drop i)) := by
  intro d
  induction d with
  | zero =>
    intro i k hd hi hk
    obtain ⟨k, rfl⟩ : ∃ m, k = m + 1 := ⟨k - 1, by omega⟩
    rw [laws_eqIntS.l0, if_neg (by omega)]
    simp [List.drop_eq_nil_of_le (show a.length ≤ i by omega), List.drop_eq_nil_of_le (show b.length ≤ i by omega)]
  | succ d ih =>
    intro i k hd hi hk
    obtain ⟨k, rfl⟩ : ∃ m, k = m + 1 := ⟨k - 1, by omega⟩
    have h1 : i < a.length := by omega
    rw [laws_eqIntS.l0, if_pos (by omega), if_pos (by omega), if_pos (by omega), w64 _ (by omega) (by omega), rd_nat _ _ h1, rd_nat _ _ (show i < b.length by omega)]
    rw [show ((i : Int) + 1) = ((i + 1 : Nat) : Int) by omega, ih (i + 1) k (by omega) (by omega) (by omega)]
    rw [drop_cons a i h1, drop_cons b i (by omega)]
    generalize a.drop (i + 1) = ta, b.drop (i + 1) = tb
    by_cases h : a[i] = b[i]
    · simp [h]
    · simp [h]
theorem eqIntS_ev (a b : List Int) (hb : a.length ≤ 1152921504606846976) : Ev (fun k => laws_eqIntS.f k a b) (decide (a = b)) := by
  refine ⟨a.length + 1, fun k hk => ?_⟩
  simp only [laws_eqIntS.f]
  by_cases h : a.length = b.length
  · rw [if_pos (by omega)]
    have := eqIntS_l0 a b h hb a.length 0 k (by omega) (by omega) (by omega)
    simpa using this
  · rw [if_neg (by omega)]
    congr 1
    symm
    apply decide_eq_false
    intro e
    exact h (by rw [e])
def marks (n : Nat) (k : Int) : List Int := (List.range n).map fun (i : Nat) => k + (i : Int)
theorem marks_length (n : Nat) (k : Int) : (marks n k).length = n := by simp [marks]
theorem marks_succ (n : Nat) (k : Int) : marks (n + 1) k = k :: marks n (k + 1) := by
  unfold marks
  rw [List.range_succ_eq_map, List.map_cons, List.map_map]
  congr 1
  · simp
  · apply List.map_congr_left
    intro a _
    simp
    omega
theorem markIntS_l0 : ∀ (d i : Nat) (x0 : List Int) (x1 : Int) (k : Nat), x0.length - i = d → i ≤ x0.length → d < k → x0.length ≤ 1152921504606846976 → 0 ≤ x1 → x1 + d ≤ 4611686018427387904 →
    laws_markIntS.l0 k x0 x1 (i : Int) = some (x1 + d, x0.take i ++ marks d x1) := by
  intro d
  induction d with
  | zero =>
    intro i x0 x1 k hd hi hk hb h0 h1
    obtain ⟨k, rfl⟩ : ∃ m, k = m + 1 := ⟨k - 1, by omega⟩
    rw [laws_markIntS.l0, if_neg (by omega)]
    have : i = x0.length := by omega
    subst this
    simp [marks]
  | succ d ih =>
    intro i x0 x1 k hd hi hk hb h0 h1
    obtain ⟨k, rfl⟩ : ∃ m, k = m + 1 := ⟨k - 1, by omega⟩
    rw [laws_markIntS.l0, if_pos (by omega), if_pos (by omega), w64 _ (by omega) (by omega), w64 _ (by omega) (by omega)]
    rw [show ((i : Int) + 1) = ((i + 1 : Nat) : Int) by omega, show (i : Int).toNat = i by omega]
    rw [ih (i + 1) (x0.set i x1) (x1 + 1) k (by simp; omega) (by simp; omega) (by omega) (by simpa using hb) (by omega) (by omega)]
    rw [marks_succ]
    congr 2
    · omega
    · rw [take_set_succ _ _ _ (by omega)]
      simp
theorem markIntS_ev (l : List Int) (k1 : Int) (hb : l.length ≤ 1152921504606846976) (h0 : 0 ≤ k1) (h1 : k1 + l.length ≤ 4611686018427387904) : Ev (fun k => laws_markIntS.f k l k1) (k1 + l.length, marks l.length k1) := by
  refine ⟨l.length + 1, fun k hk => ?_⟩
  simp only [laws_markIntS.f]
  have := markIntS_l0 l.length 0 l k1 k (by omega) (by omega) (by omega) hb h0 h1
  simpa using this
theorem heldIntS_l0 (n : Nat) (k0 : Int) (hb : n ≤ 1152921504606846976) (h0 : 0 ≤ k0) (h1 : k0 + n ≤ 4611686018427387904) : ∀ (d i : Nat) (k : Nat), n - i = d → i ≤ n → d < k →
    laws_heldIntS.l0 k (marks n k0) (k0 + i) (i : Int) = some (k0 + n) := by
  intro d
  induction d with
  | zero =>
    intro i k hd hi hk
    obtain ⟨k, rfl⟩ : ∃ m, k = m + 1 := ⟨k - 1, by omega⟩
    rw [laws_heldIntS.l0, if_neg (by rw [marks_length]; omega)]
    congr 1; omega
  | succ d ih =>
    intro i k hd hi hk
    obtain ⟨k, rfl⟩ : ∃ m, k = m + 1 := ⟨k - 1, by omega⟩
    have h2 : i < (marks n k0).length := by rw [marks_length]; omega
    rw [laws_heldIntS.l0, if_pos (by rw [marks_length]; omega), if_pos (by omega), rd_nat _ _ h2, if_pos (by simp [marks]), w64 _ (by omega) (by omega), w64 _ (by omega) (by omega)]
    have := ih (i + 1) k (by omega) (by omega) (by omega)
    rw [show ((i : Int) + 1) = ((i + 1 : Nat) : Int) by omega, show (k0 + (i : Int) + 1) = k0 + ((i + 1 : Nat) : Int) by omega]
    exact this
theorem heldIntS_ev (n : Nat) (k0 : Int) (hb : n ≤ 1152921504606846976) (h0 : 0 ≤ k0) (h1 : k0 + n ≤ 4611686018427387904) : Ev (fun k => laws_heldIntS.f k (marks n k0) k0) (k0 + n) := by
  refine ⟨n + 1, fun k hk => ?_⟩
  simp only [laws_heldIntS.f]
  have := heldIntS_l0 n k0 hb h0 h1 n 0 k (by omega) (by omega) (by omega)
  simpa using this
def inB (n lo hi : Int) : Bool := decide (lo ≤ n ∧ n ≤ hi)
theorem l1In_eq (a b c : Int) : spec_l1In.f a b c = some (inB a b c) := by
  unfold spec_l1In.f inB
  by_cases h : a ≥ b
  · rw [if_pos h]; congr 1; simp; omega
  · rw [if_neg h]; congr 1; symm; apply decide_eq_false; omega
theorem within_eq (a b c : Int) : impl_within.f a b c = some (inB a b c) := by
  unfold impl_within.f inB
  by_cases h : b ≤ a
  · rw [if_pos h]; congr 1; simp; omega
  · rw [if_neg h]; congr 1; symm; apply decide_eq_false; omega
def allIn (l : List Int) (lo hi : Int) : Bool := l.all fun x => inB x lo hi
theorem l1All_l0 (lo hi : Int) (l : List Int) (hb : l.length ≤ 1152921504606846976) : ∀ (d i : Nat) (k : Nat), l.length - i = d → i ≤ l.length → d < k →
    spec_l1All.l0 k lo hi l (l.length : Int) (i : Int) = some (allIn (l.drop i) lo hi) := by
  intro d
  induction d with
  | zero =>
    intro i k hd hi' hk
    obtain ⟨k, rfl⟩ : ∃ m, k = m + 1 := ⟨k - 1, by omega⟩
    rw [spec_l1All.l0, if_neg (by omega), List.drop_eq_nil_of_le (by omega)]
    rfl
  | succ d ih =>
    intro i k hd hi' hk
    obtain ⟨k, rfl⟩ : ∃ m, k = m + 1 := ⟨k - 1, by omega⟩
    have h1 : i < l.length := by omega
    rw [spec_l1All.l0, if_pos (by omega), if_pos (by omega), if_pos (by omega), l1In_eq, Option.bind_some, w64 _ (by omega) (by omega), rd_nat _ _ h1]
    rw [show ((i : Int) + 1) = ((i + 1 : Nat) : Int) by omega, ih (i + 1) k (by omega) (by omega) (by omega), drop_cons l i h1]
    unfold allIn
    rw [List.all_cons]
    generalize l.drop (i + 1) = tl
    by_cases h : inB l[i] lo hi = true
    · rw [if_pos h, h]; simp
    · rw [if_neg h]; simp at h; rw [h]; simp
theorem l1All_ev (l : List Int) (lo hi : Int) (hb : l.length ≤ 1152921504606846976) : Ev (fun k => spec_l1All.f k l lo hi) (allIn l lo hi) := by
  refine ⟨l.length + 1, fun k hk => ?_⟩
  simp only [spec_l1All.f]
  have := l1All_l0 lo hi l hb l.length 0 k (by omega) (by omega) (by omega)
  simpa using this
end Go.Proofs.Ythlcaikplebpmaa.P
namespace Go.Proofs.Ythlcaikplebpmaa.P
open Go.RowKit Go.Proofs.YthlcaikplebpmaaW.PrintWords Go.Proofs.YthlcaikplebpmaaW.PrintLast Go.Proofs.YthlcaikplebpmaaW.PrintMore
set_option linter.unusedVariables false
set_option linter.unusedSimpArgs false
theorem boardB_iff (r c : Int) (l : List Int) : boardB r c l = true ↔ (1 ≤ r ∧ r ≤ 6) ∧ (1 ≤ c ∧ c ≤ 6) ∧ (l.length : Int) = r ∧ ∀ m ∈ l, 0 ≤ m ∧ m ≤ 2 ^ c.toNat - 1 := by
  unfold boardB
  simp only [Bool.and_eq_true, decide_eq_true_eq, List.all_eq_true]
  constructor
  · rintro ⟨⟨⟨a, b⟩, c⟩, d⟩; exact ⟨a, b, c, d⟩
  · rintro ⟨a, b, c, d⟩; exact ⟨⟨⟨a, b⟩, c⟩, d⟩
theorem pow_le6 (c : Int) (h1 : c ≤ 6) : (2 : Int) ^ c.toNat ≤ 64 := by
  have := Nat.pow_le_pow_right (show 0 < 2 by decide) (show c.toNat ≤ 6 by omega)
  have h : (2 : Int) ^ c.toNat ≤ 2 ^ 6 := by exact_mod_cast this
  exact h
end Go.Proofs.Ythlcaikplebpmaa.P
namespace Go.Proofs.Ythlcaikplebpmaa.P
open Go.RowKit Go.Proofs.YthlcaikplebpmaaW.PrintWords Go.Proofs.YthlcaikplebpmaaW.PrintLast Go.Proofs.YthlcaikplebpmaaW.PrintMore
set_option linter.unusedVariables false
set_option linter.unusedSimpArgs false
theorem rdL_mid (a b : List (List Int)) (l : List Int) : rd_L1 (a ++ l :: b) (a.length : Int) = l := by
  unfold rd_L1; simp
def total : List (List Int) → Nat
  | [] => 0
  | l :: s => l.length + total s
theorem total_le {s : List (List Int)} {c : Nat} (h : ∀ l ∈ s, l.length ≤ c) : total s ≤ c * s.length := by
  induction s with
  | nil => simp [total]
  | cons x s ih =>
    have h1 := h x (List.mem_cons_self ..)
    have h2 := ih (fun l hl => h l (List.mem_cons_of_mem _ hl))
    simp only [total, List.length_cons, Nat.mul_succ]
    omega
def marksS : List (List Int) → Int → List (List Int)
  | [], _ => []
  | l :: s, k => marks l.length k :: marksS s (k + l.length)
theorem eqIntSS_l0 : ∀ (rest rest2 done done2 : List (List Int)), rest.length = rest2.length → done.length = done2.length → (done ++ rest).length ≤ 1152921504606846976 → (∀ l ∈ rest, l.length ≤ 1152921504606846976) →
    Ev (fun k => laws_eqIntSS.l0 k (done ++ rest) (done2 ++ rest2) (done.length : Int)) (decide (rest = rest2)) := by
  intro rest
  induction rest with
  | nil =>
    intro rest2 done done2 h1 h2 hb hl
    refine ⟨1, fun k hk => ?_⟩
    obtain ⟨k, rfl⟩ : ∃ m, k = m + 1 := ⟨k - 1, by omega⟩
    simp only [laws_eqIntSS.l0]
    obtain rfl : rest2 = [] := List.length_eq_zero_iff.1 (by simpa using h1.symm)
    rw [if_neg (by simp)]; simp
  | cons l rest ih =>
    intro rest2 done done2 h1 h2 hb hl
    obtain ⟨l2, rest2, rfl⟩ : ∃ y t, rest2 = y :: t := by
      cases rest2 with
      | nil => simp at h1
      | cons y t => exact ⟨y, t, rfl⟩
    simp only [List.length_append, List.length_cons] at hb h1
    obtain ⟨K1, h3⟩ := ev_get (eqIntS_ev l l2 (hl l (List.mem_cons_self ..)))
    obtain ⟨K2, h4⟩ := ev_get (ih rest2 (done ++ [l]) (done2 ++ [l2]) (by omega) (by simp; omega) (by simp; omega) (fun l hm => hl l (List.mem_cons_of_mem _ hm)))
    refine ⟨K1 + K2 + 1, fun k hk => ?_⟩
    obtain ⟨k, rfl⟩ : ∃ m, k = m + 1 := ⟨k - 1, by omega⟩
    simp only [laws_eqIntSS.l0]
    have e : rd_L1 (done2 ++ l2 :: rest2) (done.length : Int) = l2 := by rw [h2]; exact rdL_mid _ _ _
    rw [if_pos (by simp; omega), if_pos (by omega), if_pos (by simp; omega), rdL_mid, e, h3 k (by omega), Option.bind_some, w64 _ (by omega) (by omega)]
    have h5 := h4 k (by omega)
    simp only [List.append_assoc, List.singleton_append, List.length_append, List.length_cons, List.length_nil] at h5
    by_cases h : l = l2
    · rw [if_pos (by simpa using h)]
      refine h5.trans ?_
      simp [h]
    · rw [if_neg (by simpa using h)]
      simp [h]
theorem eqIntSS_ev (a b : List (List Int)) (hb : a.length ≤ 1152921504606846976) (hl : ∀ l ∈ a, l.length ≤ 1152921504606846976) : Ev (fun k => laws_eqIntSS.f k a b) (decide (a = b)) := by
  by_cases h : a.length = b.length
  · obtain ⟨K, hK⟩ := ev_get (eqIntSS_l0 a b [] [] h rfl (by simpa using hb) hl)
    refine ⟨K, fun k hk => ?_⟩
    simp only [laws_eqIntSS.f]
    rw [if_pos (by omega)]
    simpa using hK k hk
  · refine ⟨0, fun k hk => ?_⟩
    simp only [laws_eqIntSS.f]
    rw [if_neg (by omega)]
    congr 1; symm; apply decide_eq_false
    exact fun e => h (by rw [e])
theorem markIntSS_l0 : ∀ (rest done : List (List Int)) (x1 : Int), (done ++ rest).length ≤ 1152921504606846976 → total rest ≤ 1152921504606846976 → 0 ≤ x1 → x1 + total rest ≤ 4611686018427387904 →
    Ev (fun k => laws_markIntSS.l0 k (done ++ rest) x1 (done.length : Int)) (x1 + total rest, done ++ marksS rest x1) := by
  intro rest
  induction rest with
  | nil =>
    intro done x1 hb ht h0 h1
    refine ⟨1, fun k hk => ?_⟩
    obtain ⟨k, rfl⟩ : ∃ m, k = m + 1 := ⟨k - 1, by omega⟩
    simp only [laws_markIntSS.l0]
    rw [if_neg (by simp)]
    simp [total, marksS]
  | cons l rest ih =>
    intro done x1 hb ht h0 h1
    simp only [List.length_append, List.length_cons, total] at hb ht h1
    obtain ⟨K1, h3⟩ := ev_get (markIntS_ev l x1 (by omega) h0 (by omega))
    obtain ⟨K2, h4⟩ := ev_get (ih (done ++ [marks l.length x1]) (x1 + l.length) (by simp; omega) (by omega) (by omega) (by omega))
    refine ⟨K1 + K2 + 1, fun k hk => ?_⟩
    obtain ⟨k, rfl⟩ : ∃ m, k = m + 1 := ⟨k - 1, by omega⟩
    simp only [laws_markIntSS.l0]
    rw [if_pos (by simp; omega), if_pos (by omega), rdL_mid, h3 k (by omega), Option.bind_some, w64 _ (by omega) (by omega), show ((done.length : Int)).toNat = done.length by omega, List.set_append_right _ _ (Nat.le_refl _), Nat.sub_self, List.set_cons_zero]
    have h5 := h4 k (by omega)
    simp only [List.append_assoc, List.singleton_append, List.length_append, List.length_cons, List.length_nil] at h5
    refine h5.trans ?_
    simp only [total, marksS, Option.some.injEq, Prod.mk.injEq, and_true]
    omega
theorem markIntSS_ev (s : List (List Int)) (k0 : Int) (hb : s.length ≤ 1152921504606846976) (ht : total s ≤ 1152921504606846976) (h0 : 0 ≤ k0) (h1 : k0 + total s ≤ 4611686018427387904) :
    Ev (fun k => laws_markIntSS.f k s k0) (k0 + total s, marksS s k0) := by
  have := markIntSS_l0 s [] k0 (by simpa using hb) ht h0 h1
  simpa [laws_markIntSS.f] using this
theorem heldIntSS_l0 : ∀ (rest done : List (List Int)) (x1 : Int), (done ++ rest).length ≤ 1152921504606846976 → total rest ≤ 1152921504606846976 → 0 ≤ x1 → x1 + total rest ≤ 4611686018427387904 →
    Ev (fun k => laws_heldIntSS.l0 k (done ++ marksS rest x1) x1 (done.length : Int)) (x1 + total rest) := by
  intro rest
  induction rest with
  | nil =>
    intro done x1 hb ht h0 h1
    refine ⟨1, fun k hk => ?_⟩
    obtain ⟨k, rfl⟩ : ∃ m, k = m + 1 := ⟨k - 1, by omega⟩
    show laws_heldIntSS.l0 (k + 1) (done ++ []) x1 (done.length : Int) = _
    simp only [laws_heldIntSS.l0]
    rw [if_neg (by simp)]
    simp [total]
  | cons l rest ih =>
    intro done x1 hb ht h0 h1
    simp only [List.length_append, List.length_cons, total] at hb ht h1
    obtain ⟨K1, h3⟩ := ev_get (heldIntS_ev l.length x1 (by omega) h0 (by omega))
    obtain ⟨K2, h4⟩ := ev_get (ih (done ++ [marks l.length x1]) (x1 + l.length) (by simp; omega) (by omega) (by omega) (by omega))
    refine ⟨K1 + K2 + 1, fun k hk => ?_⟩
    obtain ⟨k, rfl⟩ : ∃ m, k = m + 1 := ⟨k - 1, by omega⟩
    show laws_heldIntSS.l0 (k + 1) (done ++ marks l.length x1 :: marksS rest (x1 + l.length)) x1 (done.length : Int) = _
    simp only [laws_heldIntSS.l0]
    rw [if_pos (by simp; omega), if_pos (by omega), rdL_mid, h3 k (by omega), Option.bind_some, if_neg (by omega), w64 _ (by omega) (by omega)]
    have h5 := h4 k (by omega)
    simp only [List.append_assoc, List.singleton_append, List.length_append, List.length_cons, List.length_nil] at h5
    refine h5.trans ?_
    simp only [total, Option.some.injEq]
    omega
theorem heldIntSS_ev (s : List (List Int)) (k0 : Int) (hb : s.length ≤ 1152921504606846976) (ht : total s ≤ 1152921504606846976) (h0 : 0 ≤ k0) (h1 : k0 + total s ≤ 4611686018427387904) :
    Ev (fun k => laws_heldIntSS.f k (marksS s k0) k0) (k0 + total s) := by
  have := heldIntSS_l0 s [] k0 (by simpa using hb) ht h0 h1
  simpa [laws_heldIntSS.f] using this
end Go.Proofs.Ythlcaikplebpmaa.P
namespace Go.Proofs.Ythlcaikplebpmaa.P
open Go.RowKit Go.Proofs.YthlcaikplebpmaaW.PrintWords Go.Proofs.YthlcaikplebpmaaW.PrintLast Go.Proofs.YthlcaikplebpmaaW.PrintMore
set_option linter.unusedVariables false
set_option linter.unusedSimpArgs false
/-- A mask has a column. -/
def hasM (m : Int) (j : Int) : Bool := Int.tmod (shr .i64 m j) 2 == 1
theorem has_bits : ∀ m : Fin 64, ∀ c : Fin 6, (Go.bits .and .i64 (shr .i64 (m.val : Int) (c.val : Int)) 1 == 1) = hasM (m.val : Int) (c.val : Int) := by decide +kernel
theorem has_bits' (m c : Int) (h0 : 0 ≤ m) (h1 : m ≤ 63) (h2 : 0 ≤ c) (h3 : c ≤ 5) : (Go.bits .and .i64 (shr .i64 m c) 1 == 1) = hasM m c := by
  have h := has_bits ⟨m.toNat, by omega⟩ ⟨c.toNat, by omega⟩
  simp only [show ((m.toNat : Nat) : Int) = m by omega, show ((c.toNat : Nat) : Int) = c by omega] at h
  exact h
/-- The board has the cell. -/
def hasC (l : List Int) (i j : Int) : Bool := hasM (rd l i) j
theorem board_row {r c : Int} {l : List Int} (h : boardB r c l = true) {i : Int} (h0 : 0 ≤ i) (h1 : i < r) : 0 ≤ rd l i ∧ rd l i ≤ 63 := by
  obtain ⟨hr, hc, hl, hm⟩ := (boardB_iff r c l).1 h
  have hp6 := pow_le6 c hc.2
  have hx : i.toNat < l.length := by omega
  have := hm l[i.toNat] (List.getElem_mem hx)
  have e : rd l i = l[i.toNat] := by
    have := rd_nat l i.toNat hx
    rwa [show ((i.toNat : Nat) : Int) = i by omega] at this
  rw [e]; omega
theorem boHas_eq {r c : Int} {l : List Int} (h : boardB r c l = true) {i j : Int} (h0 : 0 ≤ i) (h1 : i < r) (h2 : 0 ≤ j) : spec_boHas.f r c l i j = some (hasC l i j) := by
  obtain ⟨hr, hc, hl, hm⟩ := (boardB_iff r c l).1 h
  simp only [spec_boHas.f]
  rw [if_pos h0, if_pos (by omega), if_pos h2]
  rfl
theorem has_eq {r c : Int} {l : List Int} (h : boardB r c l = true) {i j : Int} (h0 : 0 ≤ i) (h1 : i < r) (h2 : 0 ≤ j) (h3 : j < c) : impl_Board_has.f r c l i j = some (hasC l i j) := by
  obtain ⟨hr, hc, hl, hm⟩ := (boardB_iff r c l).1 h
  have hb := board_row h h0 h1
  simp only [impl_Board_has.f]
  rw [if_pos h0, if_pos (by omega), if_pos h2, has_bits' _ _ hb.1 hb.2 h2 (by omega)]
  rfl
def cellRow (l : List Int) (i C j : Nat) : List (List Int) := (List.range' j (C - j)).flatMap fun (j : Nat) => if hasC l (i : Int) (j : Int) = true then [[(i : Int), (j : Int)]] else []
def cellsFrom (l : List Int) (R C i : Nat) : List (List Int) := (List.range' i (R - i)).flatMap fun (i : Nat) => cellRow l i C 0
def cells (r c : Int) (l : List Int) : List (List Int) := cellsFrom l r.toNat c.toNat 0
end Go.Proofs.Ythlcaikplebpmaa.P
namespace Go.Proofs.Ythlcaikplebpmaa.P
open Go.RowKit Go.Proofs.YthlcaikplebpmaaW.PrintWords Go.Proofs.YthlcaikplebpmaaW.PrintLast Go.Proofs.YthlcaikplebpmaaW.PrintMore
set_option linter.unusedVariables false
set_option linter.unusedSimpArgs false
/-- How many cells the column c has in the first rows. -/
def ht (l : List Int) (c : Nat) : Nat → Nat
  | 0 => 0
  | r + 1 => ht l c r + if hasC l (r : Int) (c : Int) = true then 1 else 0
end Go.Proofs.Ythlcaikplebpmaa.P
namespace Go.Proofs.Ythlcaikplebpmaa.P
open Go.RowKit Go.Proofs.YthlcaikplebpmaaW.PrintWords Go.Proofs.YthlcaikplebpmaaW.PrintLast Go.Proofs.YthlcaikplebpmaaW.PrintMore
set_option linter.unusedVariables false
set_option linter.unusedSimpArgs false
def fileB (R : Int) (l f : List Int) : Nat → Nat → Bool
  | 0, _ => true
  | d + 1, i => if rd f (i : Int) = -1 then fileB R l f d (i + 1) else if inB (rd f (i : Int)) 0 (R - 1) = true then (if hasC l (rd f (i : Int)) (i : Int) = true then fileB R l f d (i + 1) else false) else false
theorem isFile_l0 {R C : Int} {l f : List Int} (h : boardB R C l = true) (hf : (f.length : Int) = C) : ∀ (d i : Nat), f.length - i = d → i ≤ f.length →
    Ev (fun k => impl_Board_isFile.l0 k f (f.length : Int) (i : Int) R C l) (fileB R l f d i) := by
  have hb := (boardB_iff _ _ _).1 h
  intro d
  induction d with
  | zero =>
    intro i hd hi
    refine ⟨1, fun k hk => ?_⟩
    obtain ⟨k, rfl⟩ : ∃ m, k = m + 1 := ⟨k - 1, by omega⟩
    dsimp only
    rw [impl_Board_isFile.l0, if_neg (by omega)]
    rfl
  | succ d ih =>
    intro i hd hi
    obtain ⟨K, hK⟩ := ev_get (ih (i + 1) (by omega) (by omega))
    refine ⟨K + 1, fun k hk => ?_⟩
    obtain ⟨k, rfl⟩ : ∃ m, k = m + 1 := ⟨k - 1, by omega⟩
    dsimp only
    rw [impl_Board_isFile.l0, if_pos (by omega), if_pos (by omega), if_pos (by omega), w64 ((i : Int) + 1) (by omega) (by omega), w64 (R - 1) (by omega) (by omega), show ((i : Int) + 1) = ((i + 1 : Nat) : Int) by omega, hK k (by omega), within_eq, Option.bind_some]
    simp only [fileB]
    split
    · rfl
    split
    · rename_i h2
      have h3 : 0 ≤ rd f (i : Int) ∧ rd f (i : Int) ≤ R - 1 := by simpa [inB] using h2
      rw [has_eq h h3.1 (by omega) (by omega) (by omega), Option.bind_some]
      split <;> rfl
    · rfl
theorem fiGood_l0 {R C : Int} {l f : List Int} (h : boardB R C l = true) (hf : (f.length : Int) = C) (hr : allIn f (-1) (R - 1) = true) : ∀ (d i : Nat), f.length - i = d → i ≤ f.length →
    Ev (fun k => spec_fiGood.l0 k f (f.length : Int) (i : Int) R C l) (fileB R l f d i) := by
  have hb := (boardB_iff _ _ _).1 h
  intro d
  induction d with
  | zero =>
    intro i hd hi
    refine ⟨1, fun k hk => ?_⟩
    obtain ⟨k, rfl⟩ : ∃ m, k = m + 1 := ⟨k - 1, by omega⟩
    dsimp only
    rw [spec_fiGood.l0, if_neg (by omega)]
    rfl
  | succ d ih =>
    intro i hd hi
    have hi2 : i < f.length := by omega
    have hin : -1 ≤ rd f (i : Int) ∧ rd f (i : Int) ≤ R - 1 := by
      unfold allIn at hr
      rw [List.all_eq_true] at hr
      have := hr _ (List.getElem_mem hi2)
      rw [rd_nat _ _ hi2]
      simpa [inB] using this
    obtain ⟨K, hK⟩ := ev_get (ih (i + 1) (by omega) (by omega))
    refine ⟨K + 1, fun k hk => ?_⟩
    obtain ⟨k, rfl⟩ : ∃ m, k = m + 1 := ⟨k - 1, by omega⟩
    dsimp only
    rw [spec_fiGood.l0, if_pos (by omega), if_pos (by omega), if_pos (by omega), w64 ((i : Int) + 1) (by omega) (by omega), show ((i : Int) + 1) = ((i + 1 : Nat) : Int) by omega, hK k (by omega)]
    simp only [fileB]
    by_cases h2 : rd f (i : Int) = -1
    · rw [if_pos h2, if_neg (by omega)]
    · rw [if_neg h2, if_pos (by omega), boHas_eq h (by omega) (by omega) (by omega), Option.bind_some, if_pos (show inB (rd f (i : Int)) 0 (R - 1) = true by simp [inB]; omega)]
      split <;> rfl
theorem fileB_out {R : Int} {l f : List Int} (hR : 1 ≤ R) : ∀ (d i : Nat), f.length - i = d → i ≤ f.length → (∃ j, i ≤ j ∧ ∃ h : j < f.length, ¬ (-1 ≤ f[j] ∧ f[j] ≤ R - 1)) → fileB R l f d i = false
  | 0, i, hd, hi, ⟨j, h1, h2, _⟩ => by omega
  | d + 1, i, hd, hi, ⟨j, h1, h2, h3⟩ => by
    have hi2 : i < f.length := by omega
    simp only [fileB]
    by_cases e : i = j
    · subst e
      rw [rd_nat _ _ hi2, if_neg (by omega), if_neg (by simp [inB]; omega)]
    · have := fileB_out (R := R) (l := l) (f := f) hR d (i + 1) (by omega) (by omega) ⟨j, by omega, h2, h3⟩
      rw [this]
      split
      · rfl
      · split
        · split <;> rfl
        · rfl
end Go.Proofs.Ythlcaikplebpmaa.P
namespace Go.Proofs.Ythlcaikplebpmaa.P
open Go.RowKit Go.Proofs.YthlcaikplebpmaaW.PrintWords Go.Proofs.YthlcaikplebpmaaW.PrintLast Go.Proofs.YthlcaikplebpmaaW.PrintMore
set_option linter.unusedVariables false
set_option linter.unusedSimpArgs false
theorem idxI_at : ∀ (b : List Int) (x : Int) (i p : Nat), b.Nodup → b[p]? = some x → impl_CyclesOfFiles.idxI b x i = ((i + p : Nat) : Int)
  | [], x, i, p, _, h => by simp at h
  | y :: b, x, i, p, hn, h => by
    rw [List.nodup_cons] at hn
    rw [impl_CyclesOfFiles.idxI]
    cases p with
    | zero =>
      have : y = x := by simpa using h
      rw [if_pos this]; rfl
    | succ p =>
      have h' : b[p]? = some x := by simpa using h
      have : y ≠ x := fun e => hn.1 (e ▸ List.mem_of_getElem? h')
      rw [if_neg this, idxI_at b x (i + 1) p hn.2 h', show i + 1 + p = i + (p + 1) by omega]
theorem idxI_none : ∀ (b : List Int) (x : Int) (i : Nat), x ∉ b → impl_CyclesOfFiles.idxI b x i = -1
  | [], _, _, _ => rfl
  | y :: b, x, i, h => by
    rw [List.mem_cons, not_or] at h
    rw [impl_CyclesOfFiles.idxI, if_neg (fun e => h.1 e.symm), idxI_none b x (i + 1) h.2]
theorem rowK_none (b : List Int) (x j : Int) (h : x ∉ b) : ∀ a, a ≤ b.length → spec_CyclesOfFiles.rowK b x j a = b
  | 0, _ => rfl
  | a + 1, ha => by
    rw [spec_CyclesOfFiles.rowK, if_neg, rowK_none b x j h a (by omega)]
    intro e
    apply h
    rw [List.getD_eq_getElem?_getD, List.getElem?_eq_getElem (by omega), Option.getD_some] at e
    exact e ▸ List.getElem_mem _
theorem rowK_at (b : List Int) (x j : Int) (p : Nat) (hn : b.Nodup) (hp : b[p]? = some x) : ∀ a, p < a → a ≤ b.length → spec_CyclesOfFiles.rowK b x j a = Cap.insL b (p + 1) j
  | 0, h, _ => by omega
  | a + 1, h, ha => by
    obtain ⟨hpl, hpe⟩ := List.getElem?_eq_some_iff.1 hp
    rw [spec_CyclesOfFiles.rowK]
    by_cases e : a = p
    · subst e
      rw [if_pos (by rw [List.getD_eq_getElem?_getD, hp]; rfl)]
    · rw [if_neg, rowK_at b x j p hn hp a (by omega) (by omega)]
      intro e2
      rw [List.getD_eq_getElem?_getD, List.getElem?_eq_getElem (by omega), Option.getD_some] at e2
      have := List.pairwise_iff_getElem.1 hn p a hpl (by omega) (by omega)
      exact this (by rw [hpe, e2])
theorem mapK_all (out : List (List Int)) (x j : Int) : spec_CyclesOfFiles.mapK out x j out.length = out.map fun b => spec_CyclesOfFiles.rowK b x j b.length := by
  refine List.ext_getElem (by simp [spec_CyclesOfFiles.mapK]) (fun i h1 h2 => ?_)
  have hi : i < out.length := by simpa using h2
  simp [spec_CyclesOfFiles.mapK, hi, List.getD_eq_getElem?_getD, List.getElem?_eq_getElem hi]
theorem map_none (x j : Int) : ∀ (out : List (List Int)), x ∉ out.flatten → (out.map fun b => spec_CyclesOfFiles.rowK b x j b.length) = out
  | [], _ => rfl
  | b :: out, h => by
    rw [List.flatten_cons, List.mem_append, not_or] at h
    rw [List.map_cons, rowK_none b x j h.1 _ (Nat.le_refl _), map_none x j out h.2]
theorem step_eq (x j : Int) : ∀ (out : List (List Int)), out.flatten.Nodup → (out.map fun b => spec_CyclesOfFiles.rowK b x j b.length) = impl_CyclesOfFiles.stepI out x j
  | [], _ => rfl
  | b :: out, h => by
    rw [List.flatten_cons, List.nodup_append] at h
    obtain ⟨h1, h2, h3⟩ := h
    rw [List.map_cons, impl_CyclesOfFiles.stepI]
    by_cases hx : x ∈ b
    · obtain ⟨p, hp⟩ := List.mem_iff_getElem?.1 hx
      have hpl : p < b.length := (List.getElem?_eq_some_iff.1 hp).1
      rw [idxI_at b x 0 p h1 hp, if_pos (by omega), rowK_at b x j p h1 hp _ hpl (Nat.le_refl _), map_none x j out (fun hy => h3 x hx x hy rfl)]
      simp
    · rw [idxI_none b x 0 hx, if_neg (by omega), rowK_none b x j hx _ (Nat.le_refl _), step_eq x j out h2]
theorem insL_perm (l : List Int) (i : Nat) (x : Int) : (Cap.insL l i x).Perm (x :: l) := by
  unfold Cap.insL
  rw [List.append_assoc, List.singleton_append]
  refine List.perm_middle.trans ?_
  rw [List.take_append_drop]
theorem step_perm (x j : Int) : ∀ (out : List (List Int)), (impl_CyclesOfFiles.stepI out x j).flatten.Perm (if x ∈ out.flatten then j :: out.flatten else out.flatten)
  | [] => by simp [impl_CyclesOfFiles.stepI]
  | b :: out => by
    rw [impl_CyclesOfFiles.stepI]
    by_cases hx : x ∈ b
    · have hi : 0 ≤ impl_CyclesOfFiles.idxI b x 0 := by
        obtain h | h := impl_CyclesOfFiles.idxI_ge b x 0
        · exfalso
          have : ∀ (b : List Int) (i : Nat), x ∈ b → (i : Int) ≤ impl_CyclesOfFiles.idxI b x i := by
            intro b
            induction b with
            | nil => intro i h; simp at h
            | cons y b ih =>
              intro i h
              rw [impl_CyclesOfFiles.idxI]
              by_cases e : y = x
              · rw [if_pos e]; omega
              · rw [if_neg e]
                have := ih (i + 1) ((List.mem_cons.1 h).resolve_left (fun e2 => e e2.symm))
                omega
          have := this b 0 hx
          omega
        · omega
      rw [if_pos hi, List.flatten_cons, List.flatten_cons, if_pos (List.mem_append_left _ hx)]
      exact ((insL_perm b _ j).append_right _)
    · rw [idxI_none b x 0 hx, if_neg (by omega), List.flatten_cons, List.flatten_cons]
      have ih := step_perm x j out
      by_cases hy : x ∈ out.flatten
      · rw [if_pos hy] at ih
        rw [if_pos (List.mem_append_right _ hy)]
        exact (ih.append_left b).trans List.perm_middle
      · rw [if_neg hy] at ih
        rw [if_neg (fun h => (List.mem_append.1 h).elim hx hy)]
        exact ih.append_left b
def CyInv (j : Nat) (out : List (List Int)) : Prop := out.flatten.Nodup ∧ ∀ y ∈ out.flatten, y < (j : Int)
theorem inv_step {j : Nat} {out : List (List Int)} (h : CyInv j out) (x : Int) : CyInv (j + 1) (impl_CyclesOfFiles.stepI out x (j : Int)) := by
  have hp := step_perm x (j : Int) out
  have hj : (j : Int) ∉ out.flatten := fun hm => by have := h.2 _ hm; omega
  by_cases hx : x ∈ out.flatten
  · rw [if_pos hx] at hp
    refine ⟨hp.nodup_iff.2 (List.nodup_cons.2 ⟨hj, h.1⟩), fun y hy => ?_⟩
    rcases List.mem_cons.1 (hp.mem_iff.1 hy) with rfl | hy
    · omega
    · have := h.2 y hy; omega
  · rw [if_neg hx] at hp
    exact ⟨hp.nodup_iff.2 h.1, fun y hy => by have := h.2 y (hp.mem_iff.1 hy); omega⟩
theorem inv_new {j : Nat} {out : List (List Int)} (h : CyInv j out) : CyInv (j + 1) (out ++ [[(j : Int)]]) := by
  have e : (out ++ [[(j : Int)]]).flatten = out.flatten ++ [(j : Int)] := by simp
  refine ⟨?_, fun y hy => ?_⟩
  · rw [e, List.nodup_append]
    refine ⟨h.1, by simp, fun a ha b hb => ?_⟩
    rw [List.mem_singleton.1 hb]
    have := h.2 a ha
    omega
  · rw [e] at hy
    rcases List.mem_append.1 hy with hy | hy
    · have := h.2 y hy; omega
    · rw [List.mem_singleton.1 hy]; omega
theorem go_eq : ∀ (l : List Int) (j : Nat) (out : List (List Int)), (∀ x ∈ l, -1 ≤ x) → CyInv j out → spec_CyclesOfFiles.goS l j out = impl_CyclesOfFiles.goI l j out
  | [], _, _, _, _ => rfl
  | x :: l, j, out, hx, h => by
    have h0 := hx x (List.mem_cons_self ..)
    rw [spec_CyclesOfFiles.goS, impl_CyclesOfFiles.goI]
    by_cases e : x = -1
    · rw [if_pos (by omega), if_pos e]
      exact go_eq l (j + 1) _ (fun y hy => hx y (List.mem_cons_of_mem _ hy)) (inv_new h)
    · rw [if_neg (by omega), if_neg e, mapK_all, step_eq x j out h.1]
      exact go_eq l (j + 1) _ (fun y hy => hx y (List.mem_cons_of_mem _ hy)) (inv_step h x)
theorem go_len : ∀ (l : List Int) (j : Nat) (out : List (List Int)), out.length ≤ j → (∀ b ∈ out, b.length ≤ j) → (impl_CyclesOfFiles.goI l j out).length ≤ j + l.length ∧ ∀ b ∈ impl_CyclesOfFiles.goI l j out, b.length ≤ j + l.length
  | [], j, out, h1, h2 => ⟨h1, h2⟩
  | x :: l, j, out, h1, h2 => by
    rw [impl_CyclesOfFiles.goI, List.length_cons, show j + (l.length + 1) = j + 1 + l.length by omega]
    by_cases e : x = -1
    · rw [if_pos e]
      refine go_len l (j + 1) _ (by simp; omega) (fun b hb => ?_)
      rcases List.mem_append.1 hb with hb | hb
      · have := h2 b hb; omega
      · rw [List.mem_singleton.1 hb]; simp
    · rw [if_neg e]
      obtain ⟨h3, h4⟩ := impl_CyclesOfFiles.step_rows x (j : Int) j out h2
      exact go_len l (j + 1) _ (by omega) h4
theorem index_l0 (b : List Int) (x : Int) (hb : b.length ≤ 1000) : ∀ (d i : Nat) (k : Nat), b.length - i = d → i ≤ b.length → d < k → slices_Index_int_int.l0 k b x (b.length : Int) (i : Int) = some (impl_CyclesOfFiles.idxI (b.drop i) x i) := by
  intro d
  induction d with
  | zero =>
    intro i k hd hi hk
    obtain ⟨k, rfl⟩ : ∃ m, k = m + 1 := ⟨k - 1, by omega⟩
    rw [slices_Index_int_int.l0, if_neg (by omega), List.drop_eq_nil_of_le (by omega)]; rfl
  | succ d ih =>
    intro i k hd hi hk
    obtain ⟨k, rfl⟩ : ∃ m, k = m + 1 := ⟨k - 1, by omega⟩
    have hlt : i < b.length := by omega
    have e := ih (i + 1) k (by omega) (by omega) (by omega)
    rw [slices_Index_int_int.l0, if_pos (by omega), if_pos (by omega), if_pos (by omega), rd_nat _ _ hlt, List.drop_eq_getElem_cons hlt, impl_CyclesOfFiles.idxI]
    by_cases h : x = b[i]
    · rw [if_pos h, if_pos h.symm]
    · rw [if_neg h, if_neg (fun h2 => h h2.symm), w64 _ (by omega) (by omega), show (i : Int) + 1 = ((i + 1 : Nat) : Int) by omega, e]
theorem index_f (b : List Int) (x : Int) (hb : b.length ≤ 1000) (k : Nat) (hk : 1001 ≤ k) : slices_Index_int_int.f k b x = some (impl_CyclesOfFiles.idxI b x 0) := by
  have := index_l0 b x hb b.length 0 k (by omega) (by omega) (by omega)
  rw [List.drop_zero] at this
  exact this
def arrC (n : Nat) : List Int := ((spec_fiArrow.f 100 (n : Int)).getD (0, 0, [])).2.2
theorem arr_all : ∀ n : Fin 7, 1 ≤ n.val → spec_fiArrow.f 100 (n.val : Int) = some ((n.val : Int), (n.val : Int), arrC n.val) ∧ impl_ArrowBoard.f 100 (n.val : Int) = some ((n.val : Int), (n.val : Int), arrC n.val, true) ∧ impl_IsBoard.f (n.val : Int) (n.val : Int) (arrC n.val) = some true := by decide +kernel
def goodF (l : List Int) : Prop := (1 ≤ l.length ∧ l.length ≤ 6) ∧ fileB (l.length : Int) (arrC l.length) l l.length 0 = true
instance (l : List Int) : Decidable (goodF l) := by unfold goodF; infer_instance
theorem good_low {l : List Int} (h : goodF l) : ∀ x ∈ l, -1 ≤ x := by
  intro x hx
  obtain ⟨j, hj, rfl⟩ := List.getElem_of_mem hx
  refine Classical.byContradiction (fun hn => ?_)
  have := fileB_out (R := (l.length : Int)) (l := arrC l.length) (f := l) (by have := h.1; omega) l.length 0 (by omega) (by omega) ⟨j, by omega, hj, fun hh => hn hh.1⟩
  rw [h.2] at this
  exact absurd this (by simp)
def cycR (l : List Int) : List (List Int) × Bool := if goodF l then (impl_CyclesOfFiles.goI l 0 [], true) else ([], false)
theorem implCycles_ev (l : List Int) (hl : l.length ≤ 1152921504606846976) : Ev (fun k => impl_CyclesOfFiles.f k l) (cycR l) := by
  unfold cycR
  by_cases hn : 1 ≤ l.length ∧ l.length ≤ 6
  · obtain ⟨_, h2, h3'⟩ := arr_all ⟨l.length, by omega⟩ hn.1
    have h3 : boardB (l.length : Int) (l.length : Int) (arrC l.length) = true := Option.some.inj h3'
    obtain ⟨K1, k1⟩ := ev_get (Ev.of (impl_ArrowBoard.mono (l.length : Int)) h2)
    obtain ⟨K2, k2⟩ := ev_get (isFile_l0 h3 rfl l.length 0 (by omega) (by omega))
    refine ⟨K1 + K2 + 1001, fun k hk => ?_⟩
    have hf : impl_Board_isFile.f k (l.length : Int) (l.length : Int) (arrC l.length) l = some (fileB (l.length : Int) (arrC l.length) l l.length 0) := by
      unfold impl_Board_isFile.f
      rw [if_pos rfl]
      exact k2 k (by omega)
    show impl_CyclesOfFiles.f k l = _
    unfold impl_CyclesOfFiles.f
    rw [k1 k (by omega), Option.bind_some, if_pos rfl]
    dsimp only
    rw [hf, Option.bind_some]
    by_cases hg : fileB (l.length : Int) (arrC l.length) l l.length 0 = true
    · have hok : impl_CyclesOfFiles.okS k l := ⟨by omega, fun b x hb => index_f b x hb k (by omega)⟩
      rw [if_pos hg, if_pos hok, if_pos ⟨hn, hg⟩]
    · rw [if_neg hg, if_neg (fun h => hg h.2)]
  · refine ⟨0, fun k _ => ?_⟩
    have h0 : impl_ArrowBoard.f k (l.length : Int) = some (0, 0, [], false) := by
      have : inB (l.length : Int) 1 6 = false := by simp [inB]; omega
      simp only [impl_ArrowBoard.f, impl_isThings.f, within_eq, Option.bind_some, this, Bool.false_eq_true, if_false]
    show impl_CyclesOfFiles.f k l = _
    unfold impl_CyclesOfFiles.f
    rw [h0, Option.bind_some, if_neg (by simp), if_neg (fun h => hn h.1)]
theorem specCycles_ev (l : List Int) (hl : l.length ≤ 1152921504606846976) : Ev (fun k => spec_CyclesOfFiles.f k l) (cycR l) := by
  unfold cycR
  by_cases hn : 1 ≤ l.length ∧ l.length ≤ 6
  · obtain ⟨h1, _, h3'⟩ := arr_all ⟨l.length, by omega⟩ hn.1
    have h3 : boardB (l.length : Int) (l.length : Int) (arrC l.length) = true := Option.some.inj h3'
    obtain ⟨K1, k1⟩ := ev_get (Ev.of (spec_fiArrow.mono (l.length : Int)) h1)
    obtain ⟨K2, k2⟩ := ev_get (l1All_ev l (-1) ((l.length : Int) - 1) hl)
    have ht : spec_fiThings.f (l.length : Int) = some true := by
      have : inB (l.length : Int) 1 6 = true := by simp [inB]; omega
      simp only [spec_fiThings.f, l1In_eq, Option.bind_some, this]
    have hfi : Ev (fun k => spec_fiGood.f k (l.length : Int) (l.length : Int) (arrC l.length) l) (fileB (l.length : Int) (arrC l.length) l l.length 0) := by
      cases hr : allIn l (-1) ((l.length : Int) - 1) with
      | true =>
        obtain ⟨K3, k3⟩ := ev_get (fiGood_l0 h3 rfl hr l.length 0 (by omega) (by omega))
        refine ⟨K2 + K3 + 1, fun k hk => ?_⟩
        obtain ⟨k, rfl⟩ : ∃ m, k = m + 1 := ⟨k - 1, by omega⟩
        have e := k3 k (by omega)
        simp only [spec_fiGood.f, w64 ((l.length : Int) - 1) (by omega) (by omega), k2 (k + 1) (by omega), Option.bind_some, hr, Bool.not_true, spec_fiGood.j0, Bool.false_eq_true, if_false, if_true]
        exact e
      | false =>
        have ho : fileB (l.length : Int) (arrC l.length) l l.length 0 = false := by
          refine fileB_out (by omega) l.length 0 (by omega) (by omega) ?_
          unfold allIn at hr
          rw [List.all_eq_false] at hr
          obtain ⟨x, hx, hx2⟩ := hr
          obtain ⟨j, hj, rfl⟩ := List.getElem_of_mem hx
          exact ⟨j, by omega, hj, fun hh => hx2 (by simp [inB]; omega)⟩
        refine ⟨K2 + 1, fun k hk => ?_⟩
        obtain ⟨k, rfl⟩ : ∃ m, k = m + 1 := ⟨k - 1, by omega⟩
        simp only [spec_fiGood.f, w64 ((l.length : Int) - 1) (by omega) (by omega), k2 (k + 1) (by omega), Option.bind_some, hr, Bool.not_false, spec_fiGood.j0, if_true, ho]
    obtain ⟨K4, k4⟩ := ev_get hfi
    refine ⟨K1 + K4, fun k hk => ?_⟩
    show spec_CyclesOfFiles.f k l = _
    unfold spec_CyclesOfFiles.f
    rw [ht, Option.bind_some, if_pos rfl, k1 k (by omega), Option.bind_some]
    dsimp only
    rw [k4 k (by omega), Option.bind_some]
    by_cases hg : fileB (l.length : Int) (arrC l.length) l l.length 0 = true
    · rw [if_pos hg, if_pos (by omega), if_pos ⟨hn, hg⟩, go_eq l 0 [] (good_low ⟨hn, hg⟩) ⟨by simp, by simp⟩]
    · rw [if_neg hg, if_neg (fun h => hg h.2)]
  · refine ⟨0, fun k _ => ?_⟩
    have ht : spec_fiThings.f (l.length : Int) = some false := by
      have : inB (l.length : Int) 1 6 = false := by simp [inB]; omega
      simp only [spec_fiThings.f, l1In_eq, Option.bind_some, this]
    show spec_CyclesOfFiles.f k l = _
    unfold spec_CyclesOfFiles.f
    rw [ht, Option.bind_some, if_neg (by simp), if_neg (fun h => hn h.1)]
theorem cycR_small (l : List Int) : (cycR l).1.length ≤ 6 ∧ ∀ x ∈ (cycR l).1, x.length ≤ 6 := by
  unfold cycR
  by_cases h : goodF l
  · rw [if_pos h]
    have := go_len l 0 [] (by simp) (by simp)
    have hl := h.1
    exact ⟨by have := this.1; dsimp only; omega, fun x hx => by have := this.2 x hx; omega⟩
  · rw [if_neg h]; simp
end Go.Proofs.Ythlcaikplebpmaa.P
namespace Go.Proofs.Ythlcaikplebpmaa.Pure
open Go.RowKit Go.Proofs.Ythlcaikplebpmaa.P Go.Proofs.YthlcaikplebpmaaW.PrintWords Go.Proofs.YthlcaikplebpmaaW.PrintLast
set_option linter.unusedSimpArgs false
set_option linter.unusedVariables false
namespace FnExactCyclesOfFiles
def R (l : List Int) : List (List Int) × Bool := cycR l
theorem impl_ev (l : List Int) (hl : l.length ≤ 1152921504606846976) : Ev (fun k => impl_CyclesOfFiles.f k l) (R l) := implCycles_ev l hl
theorem spec_ev (l : List Int) (hl : l.length ≤ 1152921504606846976) : Ev (fun k => spec_CyclesOfFiles.f k l) (R l) := specCycles_ev l hl
theorem R_small (l : List Int) (hl : l.length ≤ 1152921504606846976) : (R l).1.length ≤ 6 ∧ ∀ x ∈ (R l).1, x.length ≤ 6 := cycR_small l
end FnExactCyclesOfFiles
open FnExactCyclesOfFiles in
theorem FnExactCyclesOfFiles : laws_FnExactCyclesOfFiles.Pure := by
  intro l0 hy0 hy1 hy2
  by_cases hbig : 1048576 < (l0.length : Int)
  · exact ⟨0, by unfold laws_FnExactCyclesOfFiles.f; rw [if_pos hbig]⟩
  obtain ⟨K1, h1⟩ := ev_get (spec_ev l0 (by omega))
  obtain ⟨K2, h2⟩ := ev_get (impl_ev l0 (by omega))
  have hr := R_small l0 (by omega)
  have ht := total_le hr.2
  generalize R l0 = R at *
  obtain ⟨K3, h3⟩ := ev_get (toIntS_ev l0 (by omega))
  obtain ⟨K4, h4⟩ := ev_get (eqIntS_ev l0 l0 (by omega))
  obtain ⟨K5, h5⟩ := ev_get (markIntS_ev l0 1 (by omega) (by omega) (by omega))
  obtain ⟨K6, h6⟩ := ev_get (eqIntSS_ev R.1 R.1 (by omega) (fun l hl => by have := hr.2 l hl; omega))
  obtain ⟨K7, h7⟩ := ev_get (markIntSS_ev R.1 1 (by omega) (by omega) (by omega) (by omega))
  obtain ⟨K8, h8⟩ := ev_get (heldIntSS_ev R.1 1 (by omega) (by omega) (by omega) (by omega))
  obtain ⟨m, hm⟩ : ∃ m, m = K1 + K2 + K3 + K4 + K5 + K6 + K7 + K8 := ⟨_, rfl⟩
  refine ⟨m, ?_⟩
  unfold laws_FnExactCyclesOfFiles.f
  rw [if_neg hbig, if_pos]
  exact ⟨R.1, R.2, _, _, _, _, h3 m (by omega), h1 m (by omega), h2 m (by omega), (h6 m (by omega)).trans (by simp), (h4 m (by omega)).trans (by simp), by omega, h5 m (by omega), by omega, h7 m (by omega), h8 m (by omega)⟩
end Go.Proofs.Ythlcaikplebpmaa.Pure
