import Derived.Test.YthjejaoadhhpdaaPx0
import Derived.Test.YthjejaoadhhpdaaPx29
import Derived.Test.YthjejaoadhhpdaaPx30
import Derived.Test.YthjejaoadhhpdaaPx32
import Derived.Test.YthjejaoadhhpdaaPx7
import Derived.Test.YthjejaoadhhpdaaPx8
import Derived.Test.YthjejaoadhhpdaaLib
namespace Go.Proofs.Ythjejaoadhhpdaa.P
open Go.RowKit Go.Proofs.YthjejaoadhhpdaaW.PrintWords Go.Proofs.YthjejaoadhhpdaaW.PrintLast Go.Proofs.YthjejaoadhhpdaaW.PrintMore
set_option linter.unusedVariables false
set_option linter.unusedSimpArgs false

theorem rdL_mid (a b : List (List Int)) (l : List Int) : rd_L1 (a ++ l :: b) (a.length : Int) = l := by
  unfold rd_L1; simp
theorem rdL_nat (s : List (List Int)) (i : Nat) (h : i < s.length) : rd_L1 s (i : Int) = s[i] := by
  unfold rd_L1; simp [List.getD_eq_getElem?_getD, List.getElem?_eq_getElem h]
def total : List (List Int) → Nat
  | [] => 0
  | l :: s => l.length + total s
theorem total_mem {s : List (List Int)} {l : List Int} (h : l ∈ s) : l.length ≤ total s := by
  induction s with
  | nil => cases h
  | cons x s ih =>
    rcases List.mem_cons.1 h with rfl | h
    · simp [total]
    · have := ih h; simp [total]; omega
theorem total_le {s : List (List Int)} {c : Nat} (h : ∀ l ∈ s, l.length ≤ c) : total s ≤ c * s.length := by
  induction s with
  | nil => simp [total]
  | cons x s ih =>
    have h1 := h x (List.mem_cons_self ..)
    have h2 := ih (fun l hl => h l (List.mem_cons_of_mem _ hl))
    simp only [total, List.length_cons, Nat.mul_succ]
    omega
def marksS : List (List Int) → Int → List (List Int)
  | [], _ => []
  | l :: s, k => marks l.length k :: marksS s (k + l.length)
theorem marksS_length (s : List (List Int)) (k : Int) : (marksS s k).length = s.length := by
  induction s generalizing k with
  | nil => rfl
  | cons l s ih => simp [marksS, ih]
theorem toIntSS_l0 : ∀ (rest done : List (List Int)) (x3 : List (List Int)), (done ++ rest).length ≤ 1152921504606846976 → (∀ l ∈ rest, l.length ≤ 35184372088832) → x3.length = rest.length →
    Ev (fun k => laws_toIntSS.l0 k (done ++ rest) (done ++ x3) (done.length : Int)) (done ++ rest) := by
  intro rest
  induction rest with
  | nil =>
    intro done x3 hb hl hx
    refine ⟨1, fun k hk => ?_⟩
    obtain ⟨k, rfl⟩ : ∃ m, k = m + 1 := ⟨k - 1, by omega⟩
    simp only [laws_toIntSS.l0]
    obtain rfl : x3 = [] := List.length_eq_zero_iff.1 (by simpa using hx)
    rw [if_neg (by simp)]
  | cons l rest ih =>
    intro done x3 hb hl hx
    obtain ⟨y, x4, rfl⟩ : ∃ y t, x3 = y :: t := by
      cases x3 with
      | nil => simp at hx
      | cons y t => exact ⟨y, t, rfl⟩
    simp only [List.length_append, List.length_cons] at hb hx
    obtain ⟨K1, h1⟩ := ev_get (toIntS_ev l (hl l (List.mem_cons_self ..)))
    obtain ⟨K2, h2⟩ := ev_get (ih (done ++ [l]) x4 (by simp; omega) (fun l hm => hl l (List.mem_cons_of_mem _ hm)) (by omega))
    refine ⟨K1 + K2 + 1, fun k hk => ?_⟩
    obtain ⟨k, rfl⟩ : ∃ m, k = m + 1 := ⟨k - 1, by omega⟩
    simp only [laws_toIntSS.l0]
    rw [if_pos (by simp; omega), if_pos (by omega), rdL_mid, h1 k (by omega), Option.bind_some, if_pos (by simp; omega), w64 _ (by omega) (by omega)]
    have h3 := h2 k (by omega)
    simp only [List.append_assoc, List.singleton_append, List.length_append, List.length_cons, List.length_nil] at h3
    rw [show ((done.length : Int)).toNat = done.length by omega, List.set_append_right _ _ (Nat.le_refl _), Nat.sub_self, List.set_cons_zero]
    exact h3
theorem toIntSS_ev (s : List (List Int)) (hb : s.length ≤ 11728124029610) (hl : ∀ l ∈ s, l.length ≤ 35184372088832) : Ev (fun k => laws_toIntSS.f k s) s := by
  obtain ⟨K, hK⟩ := ev_get (toIntSS_l0 s [] (List.replicate s.length []) (by simp; omega) hl (by simp))
  refine ⟨K, fun k hk => ?_⟩
  simp only [laws_toIntSS.f]
  rw [if_pos (by omega), if_pos (by omega)]
  simpa using hK k hk
theorem eqIntSS_l0 : ∀ (rest rest2 done done2 : List (List Int)), rest.length = rest2.length → done.length = done2.length → (done ++ rest).length ≤ 1152921504606846976 → (∀ l ∈ rest, l.length ≤ 1152921504606846976) →
    Ev (fun k => laws_eqIntSS.l0 k (done ++ rest) (done2 ++ rest2) (done.length : Int)) (decide (rest = rest2)) := by
  intro rest
  induction rest with
  | nil =>
    intro rest2 done done2 h1 h2 hb hl
    refine ⟨1, fun k hk => ?_⟩
    obtain ⟨k, rfl⟩ : ∃ m, k = m + 1 := ⟨k - 1, by omega⟩
    simp only [laws_eqIntSS.l0]
    obtain rfl : rest2 = [] := List.length_eq_zero_iff.1 (by simpa using h1.symm)
    rw [if_neg (by simp)]; simp
  | cons l rest ih =>
    intro rest2 done done2 h1 h2 hb hl
    obtain ⟨l2, rest2, rfl⟩ : ∃ y t, rest2 = y :: t := by
      cases rest2 with
      | nil => simp at h1
      | cons y t => exact ⟨y, t, rfl⟩
    simp only [List.length_append, List.length_cons] at hb h1
    obtain ⟨K1, h3⟩ := ev_get (eqIntS_ev l l2 (hl l (List.mem_cons_self ..)))
    obtain ⟨K2, h4⟩ := ev_get (ih rest2 (done ++ [l]) (done2 ++ [l2]) (by omega) (by simp; omega) (by simp; omega) (fun l hm => hl l (List.mem_cons_of_mem _ hm)))
    refine ⟨K1 + K2 + 1, fun k hk => ?_⟩
    obtain ⟨k, rfl⟩ : ∃ m, k = m + 1 := ⟨k - 1, by omega⟩
    simp only [laws_eqIntSS.l0]
    have e : rd_L1 (done2 ++ l2 :: rest2) (done.length : Int) = l2 := by rw [h2]; exact rdL_mid _ _ _
    rw [if_pos (by simp; omega), if_pos (by omega), if_pos (by simp; omega), rdL_mid, e, h3 k (by omega), Option.bind_some, w64 _ (by omega) (by omega)]
    have h5 := h4 k (by omega)
    simp only [List.append_assoc, List.singleton_append, List.length_append, List.length_cons, List.length_nil] at h5
    by_cases h : l = l2
    · rw [if_pos (by simpa using h)]
      refine h5.trans ?_
      simp [h]
    · rw [if_neg (by simpa using h)]
      simp [h]
theorem eqIntSS_ev (a b : List (List Int)) (hb : a.length ≤ 1152921504606846976) (hl : ∀ l ∈ a, l.length ≤ 1152921504606846976) : Ev (fun k => laws_eqIntSS.f k a b) (decide (a = b)) := by
  by_cases h : a.length = b.length
  · obtain ⟨K, hK⟩ := ev_get (eqIntSS_l0 a b [] [] h rfl (by simpa using hb) hl)
    refine ⟨K, fun k hk => ?_⟩
    simp only [laws_eqIntSS.f]
    rw [if_pos (by omega)]
    simpa using hK k hk
  · refine ⟨0, fun k hk => ?_⟩
    simp only [laws_eqIntSS.f]
    rw [if_neg (by omega)]
    congr 1; symm; apply decide_eq_false
    exact fun e => h (by rw [e])
theorem markIntSS_l0 : ∀ (rest done : List (List Int)) (x1 : Int), (done ++ rest).length ≤ 1152921504606846976 → total rest ≤ 1152921504606846976 → 0 ≤ x1 → x1 + total rest ≤ 4611686018427387904 →
    Ev (fun k => laws_markIntSS.l0 k (done ++ rest) x1 (done.length : Int)) (x1 + total rest, done ++ marksS rest x1) := by
  intro rest
  induction rest with
  | nil =>
    intro done x1 hb ht h0 h1
    refine ⟨1, fun k hk => ?_⟩
    obtain ⟨k, rfl⟩ : ∃ m, k = m + 1 := ⟨k - 1, by omega⟩
    simp only [laws_markIntSS.l0]
    rw [if_neg (by simp)]
    simp [total, marksS]
  | cons l rest ih =>
    intro done x1 hb ht h0 h1
    simp only [List.length_append, List.length_cons, total] at hb ht h1
    obtain ⟨K1, h3⟩ := ev_get (markIntS_ev l x1 (by omega) h0 (by omega))
    obtain ⟨K2, h4⟩ := ev_get (ih (done ++ [marks l.length x1]) (x1 + l.length) (by simp; omega) (by omega) (by omega) (by omega))
    refine ⟨K1 + K2 + 1, fun k hk => ?_⟩
    obtain ⟨k, rfl⟩ : ∃ m, k = m + 1 := ⟨k - 1, by omega⟩
    simp only [laws_markIntSS.l0]
    rw [if_pos (by simp; omega), if_pos (by omega), rdL_mid, h3 k (by omega), Option.bind_some, w64 _ (by omega) (by omega), show ((done.length : Int)).toNat = done.length by omega, List.set_append_right _ _ (Nat.le_refl _), Nat.sub_self, List.set_cons_zero]
    have h5 := h4 k (by omega)
    simp only [List.append_assoc, List.singleton_append, List.length_append, List.length_cons, List.length_nil] at h5
    refine h5.trans ?_
    simp only [total, marksS, Option.some.injEq, Prod.mk.injEq, and_true]
    omega
theorem markIntSS_ev (s : List (List Int)) (k0 : Int) (hb : s.length ≤ 1152921504606846976) (ht : total s ≤ 1152921504606846976) (h0 : 0 ≤ k0) (h1 : k0 + total s ≤ 4611686018427387904) :
    Ev (fun k => laws_markIntSS.f k s k0) (k0 + total s, marksS s k0) := by
  have := markIntSS_l0 s [] k0 (by simpa using hb) ht h0 h1
  simpa [laws_markIntSS.f] using this
theorem heldIntSS_l0 : ∀ (rest done : List (List Int)) (x1 : Int), (done ++ rest).length ≤ 1152921504606846976 → total rest ≤ 1152921504606846976 → 0 ≤ x1 → x1 + total rest ≤ 4611686018427387904 →
    Ev (fun k => laws_heldIntSS.l0 k (done ++ marksS rest x1) x1 (done.length : Int)) (x1 + total rest) := by
  intro rest
  induction rest with
  | nil =>
    intro done x1 hb ht h0 h1
    refine ⟨1, fun k hk => ?_⟩
    obtain ⟨k, rfl⟩ : ∃ m, k = m + 1 := ⟨k - 1, by omega⟩
    show laws_heldIntSS.l0 (k + 1) (done ++ []) x1 (done.length : Int) = _
    simp only [laws_heldIntSS.l0]
    rw [if_neg (by simp)]
    simp [total]
  | cons l rest ih =>
    intro done x1 hb ht h0 h1
    simp only [List.length_append, List.length_cons, total] at hb ht h1
    obtain ⟨K1, h3⟩ := ev_get (heldIntS_ev l.length x1 (by omega) h0 (by omega))
    obtain ⟨K2, h4⟩ := ev_get (ih (done ++ [marks l.length x1]) (x1 + l.length) (by simp; omega) (by omega) (by omega) (by omega))
    refine ⟨K1 + K2 + 1, fun k hk => ?_⟩
    obtain ⟨k, rfl⟩ : ∃ m, k = m + 1 := ⟨k - 1, by omega⟩
    show laws_heldIntSS.l0 (k + 1) (done ++ marks l.length x1 :: marksS rest (x1 + l.length)) x1 (done.length : Int) = _
    simp only [laws_heldIntSS.l0]
    rw [if_pos (by simp; omega), if_pos (by omega), rdL_mid, h3 k (by omega), Option.bind_some, if_neg (by omega), w64 _ (by omega) (by omega)]
    have h5 := h4 k (by omega)
    simp only [List.append_assoc, List.singleton_append, List.length_append, List.length_cons, List.length_nil] at h5
    refine h5.trans ?_
    simp only [total, Option.some.injEq]
    omega
theorem heldIntSS_ev (s : List (List Int)) (k0 : Int) (hb : s.length ≤ 1152921504606846976) (ht : total s ≤ 1152921504606846976) (h0 : 0 ≤ k0) (h1 : k0 + total s ≤ 4611686018427387904) :
    Ev (fun k => laws_heldIntSS.f k (marksS s k0) k0) (k0 + total s) := by
  have := heldIntSS_l0 s [] k0 (by simpa using hb) ht h0 h1
  simpa [laws_heldIntSS.f] using this
theorem szIntSS_l0 : ∀ (rest done : List (List Int)) (x1 : Int), (done ++ rest).length ≤ 1152921504606846976 → (∀ l ∈ rest, l.length ≤ maxLen) → 0 ≤ x1 → x1 ≤ 1048576 →
    Ev (fun k => laws_szIntSS.l0 k (done ++ rest) x1 (done.length : Int)) (if x1 < total rest then -1 else x1 - total rest) := by
  intro rest
  induction rest with
  | nil =>
    intro done x1 hb hl h0 h1
    refine ⟨1, fun k hk => ?_⟩
    obtain ⟨k, rfl⟩ : ∃ m, k = m + 1 := ⟨k - 1, by omega⟩
    simp only [laws_szIntSS.l0]
    rw [if_neg (by simp), if_neg (by simp [total]; omega)]
    simp [total]
  | cons l rest ih =>
    intro done x1 hb hl h0 h1
    simp only [List.length_append, List.length_cons] at hb
    have hl0 := hl l (List.mem_cons_self ..)
    simp only [maxLen] at hl0
    by_cases hs : x1 - (l.length : Int) < 0
    · refine ⟨1, fun k hk => ?_⟩
      obtain ⟨k, rfl⟩ : ∃ m, k = m + 1 := ⟨k - 1, by omega⟩
      simp only [laws_szIntSS.l0, laws_szIntS.f]
      rw [if_pos (by simp; omega), if_pos (by omega), rdL_mid, w64 _ (by omega) (by omega), if_pos hs, Option.bind_some, if_pos (by omega), if_pos (by simp only [total]; omega)]
    · obtain ⟨K, hK⟩ := ev_get (ih (done ++ [l]) (x1 - l.length) (by simp; omega) (fun l hm => hl l (List.mem_cons_of_mem _ hm)) (by omega) (by omega))
      refine ⟨K + 1, fun k hk => ?_⟩
      obtain ⟨k, rfl⟩ : ∃ m, k = m + 1 := ⟨k - 1, by omega⟩
      simp only [laws_szIntSS.l0, laws_szIntS.f]
      rw [if_pos (by simp; omega), if_pos (by omega), rdL_mid, w64 (x1 - (l.length : Int)) (by omega) (by omega), if_neg hs, Option.bind_some, if_neg (by omega), w64 _ (by omega) (by omega)]
      have h5 := hK k (by omega)
      simp only [List.append_assoc, List.singleton_append, List.length_append, List.length_cons, List.length_nil] at h5
      refine h5.trans ?_
      have ht : total (l :: rest) = l.length + total rest := rfl
      by_cases h6 : x1 - (l.length : Int) < (total rest : Int)
      · rw [if_pos h6, if_pos (by rw [ht]; omega)]
      · rw [if_neg h6, if_neg (by rw [ht]; omega)]
        congr 1; rw [ht]; omega
theorem szIntSS_ev (s : List (List Int)) (hb : s.length ≤ maxLen) (hl : ∀ l ∈ s, l.length ≤ maxLen) :
    Ev (fun k => laws_szIntSS.f k s 1048576) (if 1048576 < s.length + total s then -1 else 1048576 - (s.length : Int) - total s) := by
  simp only [maxLen] at hb
  by_cases h : (1048576 : Int) - s.length < 0
  · refine ⟨0, fun k hk => ?_⟩
    simp only [laws_szIntSS.f]
    rw [w64 _ (by omega) (by omega), if_pos h, if_pos (by omega)]
  · obtain ⟨K, hK⟩ := ev_get (szIntSS_l0 s [] (1048576 - s.length) (by simp; omega) hl (by omega) (by omega))
    refine ⟨K, fun k hk => ?_⟩
    simp only [laws_szIntSS.f]
    rw [w64 _ (by omega) (by omega), if_neg h]
    refine (hK k hk).trans ?_
    by_cases h6 : (1048576 : Int) - (s.length : Int) < (total s : Int)
    · rw [if_pos h6, if_pos (by omega)]
    · rw [if_neg h6, if_neg (by omega)]
end Go.Proofs.Ythjejaoadhhpdaa.P
