/- For all rows of numbers FilesOfCycles returns what the reference returns, leaves its arguments as they were and shares no memory: no condition but that the arguments can be read. -/
import Derived.Test.YthibohakolgfbaaPx0
import Derived.Test.YthibohakolgfbaaQ9a7cff383d
import Derived.Test.YthibohakolgfbaaQ39d991b42c
import Derived.Test.YthibohakolgfbaaQ42a57f82b3
import Derived.Test.YthibohakolgfbaaQ705b1a2ecb
import Derived.Test.YthibohakolgfbaaQ7c7280ea9a
import Derived.Test.YthibohakolgfbaaQef938ca73c
import Derived.Test.YthibohakolgfbaaQ16870a573b
import Derived.Test.YthibohakolgfbaaQa734591eb8
import Derived.Test.YthibohakolgfbaaPx45
namespace Go.Proofs.Ythibohakolgfbaa.P
open Go.RowKit Go.Proofs.YthibohakolgfbaaW.PrintWords Go.Proofs.YthibohakolgfbaaW.PrintLast Go.Proofs.YthibohakolgfbaaW.PrintMore
set_option linter.unusedVariables false
set_option linter.unusedSimpArgs false
theorem w64 (n : Int) (h : -9223372036854775808 ≤ n) (h2 : n ≤ 9223372036854775807) : wrap64 n = n := by unfold wrap64; omega
theorem rd_nat (l : List Int) (i : Nat) (h : i < l.length) : rd l (i : Int) = l[i] := by
  unfold rd; simp [List.getD_eq_getElem?_getD, List.getElem?_eq_getElem h]
theorem drop_cons (l : List Int) (i : Nat) (h : i < l.length) : l.drop i = l[i] :: l.drop (i + 1) := List.drop_eq_getElem_cons h
theorem ev_get {α : Type} {g : Nat → Option α} {r : α} (h : Ev g r) : ∃ K, ∀ k, K ≤ k → g k = some r := h
theorem take_set_succ {α : Type} (l : List α) (i : Nat) (x : α) (h : i < l.length) : (l.set i x).take (i + 1) = l.take i ++ [x] := by
  rw [List.take_add_one, List.take_set_of_le (Nat.le_refl _)]
  simp [h]
theorem toIntS_l0 (x0 : List Int) (hl : x0.length ≤ 1152921504606846976) : ∀ (d i : Nat) (x3 : List Int) (k : Nat), x0.length - i = d → i ≤ x0.length → x3.length = x0.length → d < k →
    laws_toIntS.l0 k x0 x3 (i : Int) = some (x3.take i ++ x0.drop i) := by
  intro d
  induction d with
  | zero =>
    intro i x3 k hd hi hx hk
    obtain ⟨k, rfl⟩ : ∃ m, k = m + 1 := ⟨k - 1, by omega⟩
    rw [laws_toIntS.l0, if_neg (by omega)]
    have : i = x0.length := by omega
    subst this
    simp [← hx]
  | succ d ih =>
    intro i x3 k hd hi hx hk
    obtain ⟨k, rfl⟩ : ∃ m, k = m + 1 := ⟨k - 1, by omega⟩
    have h1 : i < x0.length := by omega
    rw [laws_toIntS.l0, if_pos (by omega), if_pos (by omega), if_pos (by omega), w64 _ (by omega) (by omega)]
    have := ih (i + 1) (x3.set i (rd x0 i)) k (by omega) (by omega) (by simp [hx]) (by omega)
    rw [show ((i : Int) + 1) = ((i + 1 : Nat) : Int) by omega, show (i : Int).toNat = i by omega, this, rd_nat _ _ h1, drop_cons x0 i h1]
    congr 1
    rw [take_set_succ _ _ _ (by omega)]
    simp
theorem toIntS_ev (l : List Int) (hl : l.length ≤ 35184372088832) : Ev (fun k => laws_toIntS.f k l) l := by
  refine ⟨l.length + 1, fun k hk => ?_⟩
  simp only [laws_toIntS.f]
  rw [if_pos (by omega), if_pos (by omega)]
  have := toIntS_l0 l (by omega) l.length 0 (List.replicate l.length 0) k (by omega) (by omega) (by simp) (by omega)
  simpa using this
theorem eqIntS_l0 (a b : List Int) (hl : a.length = b.length) (hb : a.length ≤ 1152921504606846976) : ∀ (d i : Nat) (k : Nat), a.length - i = d → i ≤ a.length → d < k →
    laws_eqIntS.l0 k a b (i : Int) = some (decide (a.drop i = b.drop i)) := by
  intro d
  induction d with
  | zero =>
    intro i k hd hi hk
    obtain ⟨k, rfl⟩ : ∃ m, k = m + 1 := ⟨k - 1, by omega⟩
    rw [laws_eqIntS.l0, if_neg (by omega)]
    simp [List.drop_eq_nil_of_le (show a.length ≤ i by omega), List.drop_eq_nil_of_le (show b.length ≤ i by omega)]
  | succ d ih =>
    intro i k hd hi hk
    obtain ⟨k, rfl⟩ : ∃ m, k = m + 1 := ⟨k - 1, by omega⟩
    have h1 : i < a.length := by omega
    rw [laws_eqIntS.l0, if_pos (by omega), if_pos (by omega), if_pos (by omega), w64 _ (by omega) (by omega), rd_nat _ _ h1, rd_nat _ _ (show i < b.length by omega)]
    rw [show ((i : Int) + 1) = ((i + 1 : Nat) : Int) by omega, ih (i + 1) k (by omega) (by omega) (by omega)]
    rw [drop_cons a i h1, drop_cons b i (by omega)]
    generalize a.drop (i + 1) = ta, b.drop (i + 1) = tb
    by_cases h : a[i] = b[i]
    · simp [h]
    · simp [h]
theorem eqIntS_ev (a b : List Int) (hb : a.length ≤ 1152921504606846976) : Ev (fun k => laws_eqIntS.f k a b) (decide (a = b)) := by
  refine ⟨a.length + 1, fun k hk => ?_⟩
  simp only [laws_eqIntS.f]
  by_cases h : a.length = b.length
  · rw [if_pos (by omega)]
    have := eqIntS_l0 a b h hb a.length 0 k (by omega) (by omega) (by omega)
    simpa using this
  · rw [if_neg (by omega)]
    congr 1
    symm
    apply decide_eq_false
    intro e
    exact h (by rw [e])
def marks (n : Nat) (k : Int) : List Int := (List.range n).map fun (i : Nat) => k + (i : Int)
theorem marks_length (n : Nat) (k : Int) : (marks n k).length = n := by simp [marks]
theorem marks_succ (n : Nat) (k : Int) : marks (n + 1) k = k :: marks n (k + 1) := by
  unfold marks
  rw [List.range_succ_eq_map, List.map_cons, List.map_map]
  congr 1
  · simp
  · apply List.map_congr_left
    intro a _
    simp
    omega
theorem markIntS_l0 : ∀ (d i : Nat) (x0 : List Int) (x1 : Int) (k : Nat), x0.length - i = d → i ≤ x0.length → d < k → x0.length ≤ 1152921504606846976 → 0 ≤ x1 → x1 + d ≤ 4611686018427387904 →
    laws_markIntS.l0 k x0 x1 (i : Int) = some (x1 + d, x0.take i ++ marks d x1) := by
  intro d
  induction d with
  | zero =>
    intro i x0 x1 k hd hi hk hb h0 h1
    obtain ⟨k, rfl⟩ : ∃ m, k = m + 1 := ⟨k - 1, by omega⟩
    rw [laws_markIntS.l0, if_neg (by omega)]
    have : i = x0.length := by omega
    subst this
    simp [marks]
  | succ d ih =>
    intro i x0 x1 k hd hi hk hb h0 h1
    obtain ⟨k, rfl⟩ : ∃ m, k = m + 1 := ⟨k - 1, by omega⟩
    rw [laws_markIntS.l0, if_pos (by omega), if_pos (by omega), w64 _ (by omega) (by omega), w64 _ (by omega) (by omega)]
    rw [show ((i : Int) + 1) = ((i + 1 : Nat) : Int) by omega, show (i : Int).toNat = i by omega]
    rw [ih (i + 1) (x0.set i x1) (x1 + 1) k (by simp; omega) (by simp; omega) (by omega) (by simpa using hb) (by omega) (by omega)]
    rw [marks_succ]
    congr 2
    · omega
    · rw [take_set_succ _ _ _ (by omega)]
      simp
theorem markIntS_ev (l : List Int) (k1 : Int) (hb : l.length ≤ 1152921504606846976) (h0 : 0 ≤ k1) (h1 : k1 + l.length ≤ 4611686018427387904) : Ev (fun k => laws_markIntS.f k l k1) (k1 + l.length, marks l.length k1) := by
  refine ⟨l.length + 1, fun k hk => ?_⟩
  simp only [laws_markIntS.f]
  have := markIntS_l0 l.length 0 l k1 k (by omega) (by omega) (by omega) hb h0 h1
  simpa using this
theorem heldIntS_l0 (n : Nat) (k0 : Int) (hb : n ≤ 1152921504606846976) (h0 : 0 ≤ k0) (h1 : k0 + n ≤ 4611686018427387904) : ∀ (d i : Nat) (k : Nat), n - i = d → i ≤ n → d < k →
    laws_heldIntS.l0 k (marks n k0) (k0 + i) (i : Int) = some (k0 + n) := by
  intro d
  induction d with
  | zero =>
    intro i k hd hi hk
    obtain ⟨k, rfl⟩ : ∃ m, k = m + 1 := ⟨k - 1, by omega⟩
    rw [laws_heldIntS.l0, if_neg (by rw [marks_length]; omega)]
    congr 1; omega
  | succ d ih =>
    intro i k hd hi hk
    obtain ⟨k, rfl⟩ : ∃ m, k = m + 1 := ⟨k - 1, by omega⟩
    have h2 : i < (marks n k0).length := by rw [marks_length]; omega
    rw [laws_heldIntS.l0, if_pos (by rw [marks_length]; omega), if_pos (by omega), rd_nat _ _ h2, if_pos (by simp [marks]), w64 _ (by omega) (by omega), w64 _ (by omega) (by omega)]
    have := ih (i + 1) k (by omega) (by omega) (by omega)
    rw [show ((i : Int) + 1) = ((i + 1 : Nat) : Int) by omega, show (k0 + (i : Int) + 1) = k0 + ((i + 1 : Nat) : Int) by omega]
    exact this
theorem heldIntS_ev (n : Nat) (k0 : Int) (hb : n ≤ 1152921504606846976) (h0 : 0 ≤ k0) (h1 : k0 + n ≤ 4611686018427387904) : Ev (fun k => laws_heldIntS.f k (marks n k0) k0) (k0 + n) := by
  refine ⟨n + 1, fun k hk => ?_⟩
  simp only [laws_heldIntS.f]
  have := heldIntS_l0 n k0 hb h0 h1 n 0 k (by omega) (by omega) (by omega)
  simpa using this
def inB (n lo hi : Int) : Bool := decide (lo ≤ n ∧ n ≤ hi)
theorem l1In_eq (a b c : Int) : spec_l1In.f a b c = some (inB a b c) := by
  unfold spec_l1In.f inB
  by_cases h : a ≥ b
  · rw [if_pos h]; congr 1; simp; omega
  · rw [if_neg h]; congr 1; symm; apply decide_eq_false; omega
theorem within_eq (a b c : Int) : impl_within.f a b c = some (inB a b c) := by
  unfold impl_within.f inB
  by_cases h : b ≤ a
  · rw [if_pos h]; congr 1; simp; omega
  · rw [if_neg h]; congr 1; symm; apply decide_eq_false; omega
end Go.Proofs.Ythibohakolgfbaa.P
namespace Go.Proofs.Ythibohakolgfbaa.P
open Go.RowKit Go.Proofs.YthibohakolgfbaaW.PrintWords Go.Proofs.YthibohakolgfbaaW.PrintLast Go.Proofs.YthibohakolgfbaaW.PrintMore
set_option linter.unusedVariables false
set_option linter.unusedSimpArgs false
theorem l1Has_l0 (x : Int) (l : List Int) (hb : l.length ≤ 1152921504606846976) : ∀ (d i : Nat) (k : Nat), l.length - i = d → i ≤ l.length → d < k →
    spec_l1Has.l0 k x l (l.length : Int) (i : Int) = some (decide (x ∈ l.drop i)) := by
  intro d
  induction d with
  | zero =>
    intro i k hd hi' hk
    obtain ⟨k, rfl⟩ : ∃ m, k = m + 1 := ⟨k - 1, by omega⟩
    rw [spec_l1Has.l0, if_neg (by omega), List.drop_eq_nil_of_le (by omega)]
    rfl
  | succ d ih =>
    intro i k hd hi' hk
    obtain ⟨k, rfl⟩ : ∃ m, k = m + 1 := ⟨k - 1, by omega⟩
    have h1 : i < l.length := by omega
    rw [spec_l1Has.l0, if_pos (by omega), if_pos (by omega), if_pos (by omega), w64 _ (by omega) (by omega), rd_nat _ _ h1]
    rw [show ((i : Int) + 1) = ((i + 1 : Nat) : Int) by omega, ih (i + 1) k (by omega) (by omega) (by omega), drop_cons l i h1]
    generalize l.drop (i + 1) = tl
    by_cases h : l[i] = x
    · rw [if_pos h]; simp [h]
    · rw [if_neg h]; congr 1; simp [Ne.symm h]
theorem l1Has_ev (l : List Int) (x : Int) (hb : l.length ≤ 1152921504606846976) : Ev (fun k => spec_l1Has.f k l x) (decide (x ∈ l)) := by
  refine ⟨l.length + 1, fun k hk => ?_⟩
  simp only [spec_l1Has.f]
  have := l1Has_l0 x l hb l.length 0 k (by omega) (by omega) (by omega)
  simpa using this
/-- slices.Index tells at least 0 just for a member. -/
theorem Index_l0 (x : Int) (l : List Int) (hb : l.length ≤ 1152921504606846976) : ∀ (d i : Nat) (k : Nat), l.length - i = d → i ≤ l.length → d < k →
    slices_Index_int_int.l0 k l x (l.length : Int) (i : Int) = some (if x ∈ l.drop i then (i : Int) + ((l.drop i).idxOf x : Nat) else -1) := by
  intro d
  induction d with
  | zero =>
    intro i k hd hi' hk
    obtain ⟨k, rfl⟩ : ∃ m, k = m + 1 := ⟨k - 1, by omega⟩
    rw [slices_Index_int_int.l0, if_neg (by omega), List.drop_eq_nil_of_le (by omega)]
    rfl
  | succ d ih =>
    intro i k hd hi' hk
    obtain ⟨k, rfl⟩ : ∃ m, k = m + 1 := ⟨k - 1, by omega⟩
    have h1 : i < l.length := by omega
    rw [slices_Index_int_int.l0, if_pos (by omega), if_pos (by omega), if_pos (by omega), w64 _ (by omega) (by omega), rd_nat _ _ h1]
    rw [show ((i : Int) + 1) = ((i + 1 : Nat) : Int) by omega, ih (i + 1) k (by omega) (by omega) (by omega), drop_cons l i h1]
    generalize l.drop (i + 1) = tl
    by_cases h : x = l[i]
    · rw [if_pos h]; simp [h]
    · rw [if_neg h]; congr 1
      rw [List.idxOf_cons, show (l[i] == x) = false by simpa using Ne.symm h, cond_false]
      by_cases h2 : x ∈ tl
      · rw [if_pos h2, if_pos (by simp [h2])]; omega
      · rw [if_neg h2, if_neg (by simp [h, h2])]
theorem Index_ev (l : List Int) (x : Int) (hb : l.length ≤ 1152921504606846976) : Ev (fun k => slices_Index_int_int.f k l x) (if x ∈ l then (l.idxOf x : Int) else -1) := by
  refine ⟨l.length + 1, fun k hk => ?_⟩
  simp only [slices_Index_int_int.f]
  have := Index_l0 x l hb l.length 0 k (by omega) (by omega) (by omega)
  simpa using this
theorem Contains_ev (l : List Int) (x : Int) (hb : l.length ≤ 1152921504606846976) : Ev (fun k => slices_Contains_int_int.f k l x) (decide (x ∈ l)) := by
  obtain ⟨K, hK⟩ := ev_get (Index_ev l x hb)
  refine ⟨K, fun k hk => ?_⟩
  simp only [slices_Contains_int_int.f, hK k hk, Option.bind_some]
  congr 1
  by_cases h : x ∈ l
  · simp [h]
  · simp [h]
def permB (l : List Int) (n : Int) : Bool := decide ((l.length : Int) = n ∧ (∀ x ∈ l, 0 ≤ x ∧ x ≤ n - 1) ∧ l.Nodup)
def restOnce (l : List Int) (i : Nat) : Prop := ∀ j, i ≤ j → ∀ h : j < l.length, l[j] ∉ l.take j
theorem restOnce_iff (l : List Int) : restOnce l 0 ↔ l.Nodup := by
  constructor
  · intro h
    rw [List.nodup_iff_pairwise_ne, List.pairwise_iff_getElem]
    intro i j hi hj hij e
    exact h j (by omega) hj (by rw [← e]; exact List.mem_take_iff_getElem.2 ⟨i, by omega, rfl⟩)
  · intro h j _ hj hm
    rw [List.nodup_iff_pairwise_ne, List.pairwise_iff_getElem] at h
    obtain ⟨i, hi, e⟩ := List.mem_take_iff_getElem.1 hm
    exact h i j (by omega) hj (by omega) e
theorem restOnce_step (l : List Int) (i : Nat) (h : i < l.length) : restOnce l i ↔ l[i] ∉ l.take i ∧ restOnce l (i + 1) := by
  constructor
  · intro H
    exact ⟨H i (by omega) h, fun j hj hjl => H j (by omega) hjl⟩
  · rintro ⟨h0, H⟩ j hj hjl
    by_cases e : j = i
    · subst e; exact h0
    · exact H j (by omega) hjl
open Classical in
theorem isPerm_l0 (l : List Int) (n : Int) (hn : n = l.length) (hb : l.length ≤ 1152921504606846976) : ∀ (d i : Nat), l.length - i = d → i ≤ l.length →
    Ev (fun k => impl_isPerm.l0 k l n l (l.length : Int) (i : Int)) (decide ((∀ x ∈ l.drop i, 0 ≤ x ∧ x ≤ n - 1) ∧ restOnce l i)) := by
  intro d
  induction d with
  | zero =>
    intro i hd hi'
    refine ⟨1, fun k hk => ?_⟩
    obtain ⟨k, rfl⟩ : ∃ m, k = m + 1 := ⟨k - 1, by omega⟩
    simp only [impl_isPerm.l0]
    rw [if_neg (by omega)]
    congr 1
    symm
    apply decide_eq_true
    rw [List.drop_eq_nil_of_le (by omega)]
    exact ⟨by simp, fun j hj h => by omega⟩
  | succ d ih =>
    intro i hd hi'
    have h1 : i < l.length := by omega
    obtain ⟨K1, h3⟩ := ev_get (ih (i + 1) (by omega) (by omega))
    obtain ⟨K2, h4⟩ := ev_get (Contains_ev (l.take i) l[i] (by simp; omega))
    refine ⟨K1 + K2 + 1, fun k hk => ?_⟩
    obtain ⟨k, rfl⟩ : ∃ m, k = m + 1 := ⟨k - 1, by omega⟩
    simp only [impl_isPerm.l0]
    rw [if_pos (by omega), if_pos (by omega), if_pos (by omega), within_eq, Option.bind_some, w64 (n - 1) (by omega) (by omega), w64 _ (by omega) (by omega), rd_nat _ _ h1, if_pos (show (i : Int) ≤ (l.length : Int) by omega), show (i : Int).toNat = i by omega, show ((i : Int) + 1) = ((i + 1 : Nat) : Int) by omega, h4 k (by omega), h3 k (by omega), Option.bind_some]
    have hs := restOnce_step l i h1
    rw [drop_cons l i h1]
    by_cases h : inB l[i] 0 (n - 1) = true
    · rw [if_pos h]
      have h' : 0 ≤ l[i] ∧ l[i] ≤ n - 1 := by simpa [inB] using h
      by_cases h2 : l[i] ∈ l.take i
      · simp only [h2, decide_true, if_true]
        congr 1
        symm; apply decide_eq_false
        rintro ⟨_, hr⟩
        exact (hs.1 hr).1 h2
      · simp only [h2, decide_false, if_false, Bool.false_eq_true]
        congr 1
        rw [decide_eq_decide]
        constructor
        · rintro ⟨ha, hr⟩
          refine ⟨?_, hs.2 ⟨h2, hr⟩⟩
          intro x hx
          rcases List.mem_cons.1 hx with rfl | hx
          · exact h'
          · exact ha x hx
        · rintro ⟨ha, hr⟩
          exact ⟨fun x hx => ha x (List.mem_cons_of_mem _ hx), (hs.1 hr).2⟩
    · rw [if_neg h]
      congr 1
      symm; apply decide_eq_false
      rintro ⟨ha, _⟩
      exact h (by simpa [inB] using ha _ (List.mem_cons_self ..))
theorem isPerm_ev (l : List Int) (n : Int) (hb : l.length ≤ 1152921504606846976) : Ev (fun k => impl_isPerm.f k l n) (permB l n) := by
  by_cases h : (l.length : Int) = n
  · obtain ⟨K, hK⟩ := ev_get (isPerm_l0 l n h.symm hb l.length 0 (by omega) (by omega))
    refine ⟨K, fun k hk => ?_⟩
    simp only [impl_isPerm.f]
    rw [if_pos h]
    refine (hK k hk).trans ?_
    congr 1
    unfold permB
    rw [decide_eq_decide, restOnce_iff, List.drop_zero]
    exact ⟨fun ⟨a, b⟩ => ⟨h, a, b⟩, fun ⟨_, a, b⟩ => ⟨a, b⟩⟩
  · refine ⟨0, fun k hk => ?_⟩
    simp only [impl_isPerm.f]
    rw [if_neg h]
    congr 1
    symm; apply decide_eq_false
    exact fun ⟨a, _⟩ => h a
end Go.Proofs.Ythibohakolgfbaa.P
namespace Go.Proofs.Ythibohakolgfbaa.P
open Go.RowKit Go.Proofs.YthibohakolgfbaaW.PrintWords Go.Proofs.YthibohakolgfbaaW.PrintLast Go.Proofs.YthibohakolgfbaaW.PrintMore
set_option linter.unusedVariables false
set_option linter.unusedSimpArgs false
theorem rdL_mid (a b : List (List Int)) (l : List Int) : rd_L1 (a ++ l :: b) (a.length : Int) = l := by
  unfold rd_L1; simp
def total : List (List Int) → Nat
  | [] => 0
  | l :: s => l.length + total s
theorem total_mem {s : List (List Int)} {l : List Int} (h : l ∈ s) : l.length ≤ total s := by
  induction s with
  | nil => cases h
  | cons x s ih =>
    rcases List.mem_cons.1 h with rfl | h
    · simp [total]
    · have := ih h; simp [total]; omega
def marksS : List (List Int) → Int → List (List Int)
  | [], _ => []
  | l :: s, k => marks l.length k :: marksS s (k + l.length)
theorem toIntSS_l0 : ∀ (rest done : List (List Int)) (x3 : List (List Int)), (done ++ rest).length ≤ 1152921504606846976 → (∀ l ∈ rest, l.length ≤ 35184372088832) → x3.length = rest.length →
    Ev (fun k => laws_toIntSS.l0 k (done ++ rest) (done ++ x3) (done.length : Int)) (done ++ rest) := by
  intro rest
  induction rest with
  | nil =>
    intro done x3 hb hl hx
    refine ⟨1, fun k hk => ?_⟩
    obtain ⟨k, rfl⟩ : ∃ m, k = m + 1 := ⟨k - 1, by omega⟩
    simp only [laws_toIntSS.l0]
    obtain rfl : x3 = [] := List.length_eq_zero_iff.1 (by simpa using hx)
    rw [if_neg (by simp)]
  | cons l rest ih =>
    intro done x3 hb hl hx
    obtain ⟨y, x4, rfl⟩ : ∃ y t, x3 = y :: t := by
      cases x3 with
      | nil => simp at hx
      | cons y t => exact ⟨y, t, rfl⟩
    simp only [List.length_append, List.length_cons] at hb hx
    obtain ⟨K1, h1⟩ := ev_get (toIntS_ev l (hl l (List.mem_cons_self ..)))
    obtain ⟨K2, h2⟩ := ev_get (ih (done ++ [l]) x4 (by simp; omega) (fun l hm => hl l (List.mem_cons_of_mem _ hm)) (by omega))
    refine ⟨K1 + K2 + 1, fun k hk => ?_⟩
    obtain ⟨k, rfl⟩ : ∃ m, k = m + 1 := ⟨k - 1, by omega⟩
    simp only [laws_toIntSS.l0]
    rw [if_pos (by simp; omega), if_pos (by omega), rdL_mid, h1 k (by omega), Option.bind_some, if_pos (by simp; omega), w64 _ (by omega) (by omega)]
    have h3 := h2 k (by omega)
    simp only [List.append_assoc, List.singleton_append, List.length_append, List.length_cons, List.length_nil] at h3
    rw [show ((done.length : Int)).toNat = done.length by omega, List.set_append_right _ _ (Nat.le_refl _), Nat.sub_self, List.set_cons_zero]
    exact h3
theorem toIntSS_ev (s : List (List Int)) (hb : s.length ≤ 11728124029610) (hl : ∀ l ∈ s, l.length ≤ 35184372088832) : Ev (fun k => laws_toIntSS.f k s) s := by
  obtain ⟨K, hK⟩ := ev_get (toIntSS_l0 s [] (List.replicate s.length []) (by simp; omega) hl (by simp))
  refine ⟨K, fun k hk => ?_⟩
  simp only [laws_toIntSS.f]
  rw [if_pos (by omega), if_pos (by omega)]
  simpa using hK k hk
theorem eqIntSS_l0 : ∀ (rest rest2 done done2 : List (List Int)), rest.length = rest2.length → done.length = done2.length → (done ++ rest).length ≤ 1152921504606846976 → (∀ l ∈ rest, l.length ≤ 1152921504606846976) →
    Ev (fun k => laws_eqIntSS.l0 k (done ++ rest) (done2 ++ rest2) (done.length : Int)) (decide (rest = rest2)) := by
  intro rest
  induction rest with
  | nil =>
    intro rest2 done done2 h1 h2 hb hl
    refine ⟨1, fun k hk => ?_⟩
    obtain ⟨k, rfl⟩ : ∃ m, k = m + 1 := ⟨k - 1, by omega⟩
    simp only [laws_eqIntSS.l0]
    obtain rfl : rest2 = [] := List.length_eq_zero_iff.1 (by simpa using h1.symm)
    rw [if_neg (by simp)]; simp
  | cons l rest ih =>
    intro rest2 done done2 h1 h2 hb hl
    obtain ⟨l2, rest2, rfl⟩ : ∃ y t, rest2 = y :: t := by
      cases rest2 with
      | nil => simp at h1
      | cons y t => exact ⟨y, t, rfl⟩
    simp only [List.length_append, List.length_cons] at hb h1
    obtain ⟨K1, h3⟩ := ev_get (eqIntS_ev l l2 (hl l (List.mem_cons_self ..)))
    obtain ⟨K2, h4⟩ := ev_get (ih rest2 (done ++ [l]) (done2 ++ [l2]) (by omega) (by simp; omega) (by simp; omega) (fun l hm => hl l (List.mem_cons_of_mem _ hm)))
    refine ⟨K1 + K2 + 1, fun k hk => ?_⟩
    obtain ⟨k, rfl⟩ : ∃ m, k = m + 1 := ⟨k - 1, by omega⟩
    simp only [laws_eqIntSS.l0]
    have e : rd_L1 (done2 ++ l2 :: rest2) (done.length : Int) = l2 := by rw [h2]; exact rdL_mid _ _ _
    rw [if_pos (by simp; omega), if_pos (by omega), if_pos (by simp; omega), rdL_mid, e, h3 k (by omega), Option.bind_some, w64 _ (by omega) (by omega)]
    have h5 := h4 k (by omega)
    simp only [List.append_assoc, List.singleton_append, List.length_append, List.length_cons, List.length_nil] at h5
    by_cases h : l = l2
    · rw [if_pos (by simpa using h)]
      refine h5.trans ?_
      simp [h]
    · rw [if_neg (by simpa using h)]
      simp [h]
theorem eqIntSS_ev (a b : List (List Int)) (hb : a.length ≤ 1152921504606846976) (hl : ∀ l ∈ a, l.length ≤ 1152921504606846976) : Ev (fun k => laws_eqIntSS.f k a b) (decide (a = b)) := by
  by_cases h : a.length = b.length
  · obtain ⟨K, hK⟩ := ev_get (eqIntSS_l0 a b [] [] h rfl (by simpa using hb) hl)
    refine ⟨K, fun k hk => ?_⟩
    simp only [laws_eqIntSS.f]
    rw [if_pos (by omega)]
    simpa using hK k hk
  · refine ⟨0, fun k hk => ?_⟩
    simp only [laws_eqIntSS.f]
    rw [if_neg (by omega)]
    congr 1; symm; apply decide_eq_false
    exact fun e => h (by rw [e])
theorem markIntSS_l0 : ∀ (rest done : List (List Int)) (x1 : Int), (done ++ rest).length ≤ 1152921504606846976 → total rest ≤ 1152921504606846976 → 0 ≤ x1 → x1 + total rest ≤ 4611686018427387904 →
    Ev (fun k => laws_markIntSS.l0 k (done ++ rest) x1 (done.length : Int)) (x1 + total rest, done ++ marksS rest x1) := by
  intro rest
  induction rest with
  | nil =>
    intro done x1 hb ht h0 h1
    refine ⟨1, fun k hk => ?_⟩
    obtain ⟨k, rfl⟩ : ∃ m, k = m + 1 := ⟨k - 1, by omega⟩
    simp only [laws_markIntSS.l0]
    rw [if_neg (by simp)]
    simp [total, marksS]
  | cons l rest ih =>
    intro done x1 hb ht h0 h1
    simp only [List.length_append, List.length_cons, total] at hb ht h1
    obtain ⟨K1, h3⟩ := ev_get (markIntS_ev l x1 (by omega) h0 (by omega))
    obtain ⟨K2, h4⟩ := ev_get (ih (done ++ [marks l.length x1]) (x1 + l.length) (by simp; omega) (by omega) (by omega) (by omega))
    refine ⟨K1 + K2 + 1, fun k hk => ?_⟩
    obtain ⟨k, rfl⟩ : ∃ m, k = m + 1 := ⟨k - 1, by omega⟩
    simp only [laws_markIntSS.l0]
    rw [if_pos (by simp; omega), if_pos (by omega), rdL_mid, h3 k (by omega), Option.bind_some, w64 _ (by omega) (by omega), show ((done.length : Int)).toNat = done.length by omega, List.set_append_right _ _ (Nat.le_refl _), Nat.sub_self, List.set_cons_zero]
    have h5 := h4 k (by omega)
    simp only [List.append_assoc, List.singleton_append, List.length_append, List.length_cons, List.length_nil] at h5
    refine h5.trans ?_
    simp only [total, marksS, Option.some.injEq, Prod.mk.injEq, and_true]
    omega
theorem markIntSS_ev (s : List (List Int)) (k0 : Int) (hb : s.length ≤ 1152921504606846976) (ht : total s ≤ 1152921504606846976) (h0 : 0 ≤ k0) (h1 : k0 + total s ≤ 4611686018427387904) :
    Ev (fun k => laws_markIntSS.f k s k0) (k0 + total s, marksS s k0) := by
  have := markIntSS_l0 s [] k0 (by simpa using hb) ht h0 h1
  simpa [laws_markIntSS.f] using this
theorem szIntSS_l0 : ∀ (rest done : List (List Int)) (x1 : Int), (done ++ rest).length ≤ 1152921504606846976 → (∀ l ∈ rest, l.length ≤ maxLen) → 0 ≤ x1 → x1 ≤ 1048576 →
    Ev (fun k => laws_szIntSS.l0 k (done ++ rest) x1 (done.length : Int)) (if x1 < total rest then -1 else x1 - total rest) := by
  intro rest
  induction rest with
  | nil =>
    intro done x1 hb hl h0 h1
    refine ⟨1, fun k hk => ?_⟩
    obtain ⟨k, rfl⟩ : ∃ m, k = m + 1 := ⟨k - 1, by omega⟩
    simp only [laws_szIntSS.l0]
    rw [if_neg (by simp), if_neg (by simp [total]; omega)]
    simp [total]
  | cons l rest ih =>
    intro done x1 hb hl h0 h1
    simp only [List.length_append, List.length_cons] at hb
    have hl0 := hl l (List.mem_cons_self ..)
    simp only [maxLen] at hl0
    by_cases hs : x1 - (l.length : Int) < 0
    · refine ⟨1, fun k hk => ?_⟩
      obtain ⟨k, rfl⟩ : ∃ m, k = m + 1 := ⟨k - 1, by omega⟩
      simp only [laws_szIntSS.l0, laws_szIntS.f]
      rw [if_pos (by simp; omega), if_pos (by omega), rdL_mid, w64 _ (by omega) (by omega), if_pos hs, Option.bind_some, if_pos (by omega), if_pos (by simp only [total]; omega)]
    · obtain ⟨K, hK⟩ := ev_get (ih (done ++ [l]) (x1 - l.length) (by simp; omega) (fun l hm => hl l (List.mem_cons_of_mem _ hm)) (by omega) (by omega))
      refine ⟨K + 1, fun k hk => ?_⟩
      obtain ⟨k, rfl⟩ : ∃ m, k = m + 1 := ⟨k - 1, by omega⟩
      simp only [laws_szIntSS.l0, laws_szIntS.f]
      rw [if_pos (by simp; omega), if_pos (by omega), rdL_mid, w64 (x1 - (l.length : Int)) (by omega) (by omega), if_neg hs, Option.bind_some, if_neg (by omega), w64 _ (by omega) (by omega)]
      have h5 := hK k (by omega)
      simp only [List.append_assoc, List.singleton_append, List.length_append, List.length_cons, List.length_nil] at h5
      refine h5.trans ?_
      have ht : total (l :: rest) = l.length + total rest := rfl
      by_cases h6 : x1 - (l.length : Int) < (total rest : Int)
      · rw [if_pos h6, if_pos (by rw [ht]; omega)]
      · rw [if_neg h6, if_neg (by rw [ht]; omega)]
        congr 1; rw [ht]; omega
theorem szIntSS_ev (s : List (List Int)) (hb : s.length ≤ maxLen) (hl : ∀ l ∈ s, l.length ≤ maxLen) :
    Ev (fun k => laws_szIntSS.f k s 1048576) (if 1048576 < s.length + total s then -1 else 1048576 - (s.length : Int) - total s) := by
  simp only [maxLen] at hb
  by_cases h : (1048576 : Int) - s.length < 0
  · refine ⟨0, fun k hk => ?_⟩
    simp only [laws_szIntSS.f]
    rw [w64 _ (by omega) (by omega), if_pos h, if_pos (by omega)]
  · obtain ⟨K, hK⟩ := ev_get (szIntSS_l0 s [] (1048576 - s.length) (by simp; omega) hl (by omega) (by omega))
    refine ⟨K, fun k hk => ?_⟩
    simp only [laws_szIntSS.f]
    rw [w64 _ (by omega) (by omega), if_neg h]
    refine (hK k hk).trans ?_
    by_cases h6 : (1048576 : Int) - (s.length : Int) < (total s : Int)
    · rw [if_pos h6, if_pos (by omega)]
    · rw [if_neg h6, if_neg (by omega)]
end Go.Proofs.Ythibohakolgfbaa.P
namespace Go.Proofs.Ythibohakolgfbaa.P
open Go.RowKit Go.Proofs.YthibohakolgfbaaW.PrintWords Go.Proofs.YthibohakolgfbaaW.PrintLast Go.Proofs.YthibohakolgfbaaW.PrintMore
set_option linter.unusedVariables false
set_option linter.unusedSimpArgs false
/-- A block by itself. -/
def RowOk (r : Bool) (b : List Int) : Prop := (∀ x ∈ b, rd b 0 ≤ x) ∧ (r = true → ∀ i, ∀ h : i + 1 < b.length, b[i] ≤ b[i + 1])
def HeadOk (prev : Option Int) (b : List Int) : Prop := ∀ p, prev = some p → p < rd b 0
def ZOk (r : Bool) : Option Int → List (List Int) → Prop
  | _, [] => True
  | prev, b :: rest => RowOk r b ∧ HeadOk prev b ∧ ZOk r (some (rd b 0)) rest
def AllNe (s : List (List Int)) : Prop := ∀ b ∈ s, b ≠ []
def BlkOk (r : Bool) (s : List (List Int)) : Prop := AllNe s ∧ total s ≤ 6 ∧ ZOk r none s ∧ 1 ≤ total s ∧ (∀ x ∈ s.flatten, 0 ≤ x ∧ x ≤ (total s : Int) - 1) ∧ s.flatten.Nodup
theorem total_flat (s : List (List Int)) : s.flatten.length = total s := by
  induction s with
  | nil => rfl
  | cons b s ih => simp [total, ih]
/-- What the program's areBlocks looks at from a block on. -/
def AreFrom (r : Bool) : List Int → Option Int → List (List Int) → Prop
  | all, _, [] => (1 ≤ all.length ∧ all.length ≤ 6) ∧ permB all all.length = true
  | all, prev, b :: rest => b ≠ [] ∧ all.length + b.length ≤ 6 ∧ RowOk r b ∧ HeadOk prev b ∧ AreFrom r (all ++ b) (some (rd b 0)) rest
theorem are_iff (r : Bool) : ∀ (rest : List (List Int)) (all : List Int) (prev : Option Int), all.length ≤ 6 →
    (AreFrom r all prev rest ↔ AllNe rest ∧ all.length + total rest ≤ 6 ∧ ZOk r prev rest ∧ 1 ≤ all.length + total rest ∧ (∀ x ∈ all ++ rest.flatten, 0 ≤ x ∧ x ≤ ((all.length + total rest : Nat) : Int) - 1) ∧ (all ++ rest.flatten).Nodup) := by
  intro rest
  induction rest with
  | nil =>
    intro all prev ha
    simp only [AreFrom, permB, decide_eq_true_eq, AllNe, total, ZOk, List.flatten_nil, List.append_nil, Nat.add_zero]
    constructor
    · rintro ⟨⟨h1, h2⟩, _, h3, h4⟩; exact ⟨by simp, h2, trivial, h1, h3, h4⟩
    · rintro ⟨_, h2, _, h1, h3, h4⟩; exact ⟨⟨h1, h2⟩, trivial, h3, h4⟩
  | cons b rest ih =>
    intro all prev ha
    simp only [AreFrom, ZOk, List.flatten_cons]
    have ht : total (b :: rest) = b.length + total rest := rfl
    have hA : AllNe (b :: rest) ↔ b ≠ [] ∧ AllNe rest := by simp [AllNe]
    by_cases h6 : all.length + b.length ≤ 6
    · rw [ih (all ++ b) (some (rd b 0)) (by rw [List.length_append]; omega), hA, ht, List.append_assoc, List.length_append, ← Nat.add_assoc]
      constructor
      · rintro ⟨h1, _, h3, h4, h5, h6, h7, h8, h9, h10⟩; exact ⟨⟨h1, h5⟩, h6, ⟨h3, h4, h7⟩, h8, h9, h10⟩
      · rintro ⟨⟨h1, h5⟩, h6', ⟨h3, h4, h7⟩, h8, h9, h10⟩; exact ⟨h1, h6, h3, h4, h5, h6', h7, h8, h9, h10⟩
    · rw [ht]
      exact ⟨fun h => absurd h.2.1 h6, fun h => by have := h.2.1; omega⟩
/-- What the reference's loop looks at in a block, from a place on. -/
def SpRow (r : Bool) (n : Int) (seen : List Int) (b : List Int) (j : Nat) : Prop := ∀ k, j ≤ k → ∀ h : k < b.length, (0 ≤ b[k] ∧ b[k] ≤ n - 1) ∧ b[k] ∉ seen ++ b.take k ∧ (0 < k → rd b 0 ≤ b[k] ∧ (r = true → rd b ((k : Int) - 1) ≤ b[k]))
def HeadLe (prev : Option Int) (b : List Int) : Prop := ∀ p, prev = some p → p ≤ rd b 0
def SpFrom (r : Bool) (n : Int) : List Int → Option Int → List (List Int) → Prop
  | _, _, [] => True
  | seen, prev, b :: rest => SpRow r n seen b 0 ∧ HeadLe prev b ∧ SpFrom r n (seen ++ b) (some (rd b 0)) rest
theorem rd_zero_mem {b : List Int} (h : b ≠ []) : rd b 0 ∈ b := by
  cases b with
  | nil => exact absurd rfl h
  | cons x b => simp [rd]
theorem nodup_app_iff (seen b : List Int) (hs : seen.Nodup) : (seen ++ b).Nodup ↔ ∀ k, ∀ h : k < b.length, b[k] ∉ seen ++ b.take k := by
  rw [List.nodup_append]
  constructor
  · rintro ⟨_, hb, hd⟩ k hk hm
    rcases List.mem_append.1 hm with h | h
    · exact hd _ h _ (List.getElem_mem hk) rfl
    · exact (restOnce_iff b).2 hb k (Nat.zero_le _) hk h
  · intro H
    refine ⟨hs, (restOnce_iff b).1 (fun k _ hk hm => H k hk (List.mem_append_right _ hm)), ?_⟩
    intro x hx y hy e
    obtain ⟨k, hk, rfl⟩ := List.getElem_of_mem hy
    exact H k hk (List.mem_append_left _ (e ▸ hx))
theorem spRow_iff (r : Bool) (n : Int) (seen b : List Int) (hs : seen.Nodup) (hb : b ≠ []) : SpRow r n seen b 0 ↔ RowOk r b ∧ (∀ x ∈ b, 0 ≤ x ∧ x ≤ n - 1) ∧ (seen ++ b).Nodup := by
  rw [nodup_app_iff seen b hs]
  have h0 : 0 < b.length := List.length_pos_iff.2 hb
  have e0 : rd b 0 = b[0] := rd_nat b 0 h0
  constructor
  · intro H
    refine ⟨⟨fun x hx => ?_, fun hr i hi => ?_⟩, fun x hx => ?_, fun k hk => (H k (Nat.zero_le _) hk).2.1⟩
    · obtain ⟨k, hk, rfl⟩ := List.getElem_of_mem hx
      by_cases hk0 : k = 0
      · subst hk0; rw [e0]; exact Int.le_refl _
      · exact ((H k (Nat.zero_le _) hk).2.2 (by omega)).1
    · have := ((H (i + 1) (Nat.zero_le _) hi).2.2 (by omega)).2 hr
      rwa [show ((i + 1 : Nat) : Int) - 1 = (i : Int) by omega, rd_nat b i (by omega)] at this
    · obtain ⟨k, hk, rfl⟩ := List.getElem_of_mem hx
      exact (H k (Nat.zero_le _) hk).1
  · rintro ⟨⟨h1, h2⟩, h3, h4⟩ k _ hk
    refine ⟨h3 _ (List.getElem_mem hk), h4 k hk, fun hk0 => ⟨h1 _ (List.getElem_mem hk), fun hr => ?_⟩⟩
    obtain ⟨i, rfl⟩ : ∃ i, k = i + 1 := ⟨k - 1, by omega⟩
    rw [show ((i + 1 : Nat) : Int) - 1 = (i : Int) by omega, rd_nat b i (by omega)]
    exact h2 hr i hk
theorem sp_iff (r : Bool) (n : Int) : ∀ (rest : List (List Int)) (seen : List Int) (prev : Option Int), seen.Nodup → AllNe rest → (∀ p, prev = some p → p ∈ seen) →
    (SpFrom r n seen prev rest ↔ ZOk r prev rest ∧ (∀ x ∈ rest.flatten, 0 ≤ x ∧ x ≤ n - 1) ∧ (seen ++ rest.flatten).Nodup) := by
  intro rest
  induction rest with
  | nil => intro seen prev hs _ _; simp [SpFrom, ZOk, hs]
  | cons b rest ih =>
    intro seen prev hs hne hp
    have hb : b ≠ [] := hne b (List.mem_cons_self ..)
    have hne' : AllNe rest := fun x hx => hne x (List.mem_cons_of_mem _ hx)
    simp only [SpFrom, ZOk, List.flatten_cons]
    rw [spRow_iff r n seen b hs hb]
    have hm := rd_zero_mem hb
    have hh : (seen ++ b).Nodup → (HeadLe prev b ↔ HeadOk prev b) := by
      intro hn
      constructor
      · intro H p e
        have h1 := H p e
        have h2 := (List.nodup_append.1 hn).2.2 p (hp p e) _ hm
        omega
      · intro H p e
        have h1 := H p e
        omega
    constructor
    · rintro ⟨⟨h1, h2, h3⟩, h4, h5⟩
      have h6 := (ih (seen ++ b) (some (rd b 0)) h3 hne' (fun p e => by cases e; exact List.mem_append_right _ hm)).1 h5
      refine ⟨⟨h1, (hh h3).1 h4, h6.1⟩, ?_, ?_⟩
      · intro x hx
        rcases List.mem_append.1 hx with h | h
        · exact h2 x h
        · exact h6.2.1 x h
      · rw [← List.append_assoc]; exact h6.2.2
    · rintro ⟨⟨h1, h4, h5⟩, h2, h3⟩
      rw [← List.append_assoc] at h3
      have h7 : (seen ++ b).Nodup := (List.nodup_append.1 h3).1
      exact ⟨⟨h1, fun x hx => h2 x (List.mem_append_left _ hx), h7⟩, (hh h7).2 h4, (ih (seen ++ b) (some (rd b 0)) h7 hne' (fun p e => by cases e; exact List.mem_append_right _ hm)).2 ⟨h5, fun x hx => h2 x (List.mem_append_right _ hx), h3⟩⟩
theorem allNe_len {s : List (List Int)} (h : AllNe s) : s.length ≤ total s := by
  induction s with
  | nil => exact Nat.le_refl _
  | cons b s ih =>
    have h1 := List.length_pos_iff.2 (h b (List.mem_cons_self ..))
    have h2 := ih (fun x hx => h x (List.mem_cons_of_mem _ hx))
    have : total (b :: s) = b.length + total s := rfl
    simp only [List.length_cons]; omega
theorem Min_l0 (b : List Int) (hb : b.length ≤ 1152921504606846976) : ∀ (d i : Nat) (m : Int), b.length - i = d → i ≤ b.length →
    ∃ m', Ev (fun k => slices_Min_int_int.l0 k b m (i : Int)) m' ∧ m' ≤ m ∧ (m' = m ↔ ∀ x ∈ b.drop i, m ≤ x) := by
  intro d
  induction d with
  | zero =>
    intro i m hd hi
    refine ⟨m, ⟨1, fun k hk => ?_⟩, Int.le_refl _, ?_⟩
    · obtain ⟨k, rfl⟩ : ∃ m, k = m + 1 := ⟨k - 1, by omega⟩
      simp only [slices_Min_int_int.l0]
      rw [if_neg (by omega)]
    · rw [List.drop_eq_nil_of_le (by omega)]; simp
  | succ d ih =>
    intro i m hd hi
    have h1 : i < b.length := by omega
    obtain ⟨m', h2, h3, h4⟩ := ih (i + 1) (mn m b[i]) (by omega) (by omega)
    obtain ⟨K, hK⟩ := ev_get h2
    have hmn : mn m b[i] ≤ m ∧ (mn m b[i] = m ↔ m ≤ b[i]) := by unfold mn; split <;> omega
    refine ⟨m', ⟨K + 1, fun k hk => ?_⟩, by omega, ?_⟩
    · obtain ⟨k, rfl⟩ : ∃ m, k = m + 1 := ⟨k - 1, by omega⟩
      simp only [slices_Min_int_int.l0]
      rw [if_pos (by omega), if_pos (by omega), w64 _ (by omega) (by omega), rd_nat _ _ h1, show ((i : Int) + 1) = ((i + 1 : Nat) : Int) by omega]
      exact hK k (by omega)
    · rw [drop_cons b i h1]
      constructor
      · intro e x hx
        rcases List.mem_cons.1 hx with rfl | hx
        · exact hmn.2.1 (by omega)
        · have : m' = mn m b[i] := by omega
          have := h4.1 this x hx
          omega
      · intro H
        have h5 := hmn.2.2 (H _ (List.mem_cons_self ..))
        rw [h5] at h4
        exact h4.2 (fun x hx => H x (List.mem_cons_of_mem _ hx))
theorem Min_ev (b : List Int) (hb : b.length ≤ 1152921504606846976) (h : b ≠ []) : ∃ m, Ev (fun k => slices_Min_int_int.f k b) m ∧ (m = rd b 0 ↔ ∀ x ∈ b, rd b 0 ≤ x) := by
  obtain ⟨m, h1, h2, h3⟩ := Min_l0 b hb (b.length - 1) 1 (rd b 0) rfl (List.length_pos_iff.2 h)
  obtain ⟨K, hK⟩ := ev_get h1
  have h0 := List.length_pos_iff.2 h
  refine ⟨m, ⟨K, fun k hk => ?_⟩, ?_⟩
  · simp only [slices_Min_int_int.f]
    rw [if_neg (by omega), if_pos (by omega)]
    exact hK k hk
  · rw [h3]
    cases b with
    | nil => exact absurd rfl h
    | cons x b => simp [rd]
theorem less_eq (a b : Int) : cmp_Less_int.f a b = some (decide (a < b)) := by
  simp [cmp_Less_int.f, cmp_isNaN_int.f]
open Classical in
theorem IsSorted_l0 (b : List Int) (hb : b.length ≤ 1152921504606846976) : ∀ (i : Nat), i < b.length →
    Ev (fun k => slices_IsSorted_int_int.l0 k b (i : Int)) (decide (∀ j, j < i → ∀ h : j + 1 < b.length, b[j] ≤ b[j + 1])) := by
  intro i
  induction i with
  | zero =>
    intro hi
    refine ⟨1, fun k hk => ?_⟩
    obtain ⟨k, rfl⟩ : ∃ m, k = m + 1 := ⟨k - 1, by omega⟩
    simp only [slices_IsSorted_int_int.l0]
    rw [if_neg (by omega)]
    exact congrArg some (decide_eq_true (fun j hj => absurd hj (Nat.not_lt_zero j))).symm
  | succ i ih =>
    intro hi
    obtain ⟨K, hK⟩ := ev_get (ih (by omega))
    refine ⟨K + 1, fun k hk => ?_⟩
    obtain ⟨k, rfl⟩ : ∃ m, k = m + 1 := ⟨k - 1, by omega⟩
    simp only [slices_IsSorted_int_int.l0]
    rw [if_pos (by omega), if_pos (by omega), if_pos (by omega), w64 _ (by omega) (by omega), show ((i + 1 : Nat) : Int) - 1 = (i : Int) by omega, if_pos (by omega), if_pos (by omega), less_eq, Option.bind_some, rd_nat _ _ hi, rd_nat _ _ (show i < b.length by omega)]
    by_cases h : b[i + 1] < b[i]
    · rw [if_pos (decide_eq_true h)]
      congr 1; symm; apply decide_eq_false
      intro H; have := H i (by omega) hi; omega
    · rw [if_neg (by simpa using h), hK k (by omega)]
      congr 1
      rw [decide_eq_decide]
      constructor
      · intro H j hj hj'
        by_cases e : j = i
        · subst e; omega
        · exact H j (by omega) hj'
      · exact fun H j hj hj' => H j (by omega) hj'
open Classical in
theorem IsSorted_ev (b : List Int) (hb : b.length ≤ 1152921504606846976) (h : b ≠ []) : Ev (fun k => slices_IsSorted_int_int.f k b) (decide (∀ i, ∀ h : i + 1 < b.length, b[i] ≤ b[i + 1])) := by
  have h0 := List.length_pos_iff.2 h
  obtain ⟨K, hK⟩ := ev_get (IsSorted_l0 b hb (b.length - 1) (by omega))
  refine ⟨K, fun k hk => ?_⟩
  simp only [slices_IsSorted_int_int.f]
  rw [w64 _ (by omega) (by omega), show (b.length : Int) - 1 = ((b.length - 1 : Nat) : Int) by omega]
  refine (hK k hk).trans ?_
  congr 1
  rw [decide_eq_decide]
  exact ⟨fun H i hi => H i (by omega) hi, fun H j _ hj => H j hj⟩
/-- The program's areBlocks tells whether the blocks are good. -/
theorem last_head (done : List (List Int)) (b : List Int) : ((done ++ [b]).getLast?.map fun c => rd c 0) = some (rd b 0) := by simp
theorem isThings_eq (n : Int) : impl_isThings.f n = some (inB n 1 6) := by
  simp only [impl_isThings.f, within_eq, Option.bind_some]
open Classical in
theorem areBlocks_l0 (r : Bool) : ∀ (rest done : List (List Int)), (done ++ rest).length ≤ 1152921504606846976 → (∀ b ∈ rest, b.length ≤ 1048576) → (∀ b ∈ done, b ≠ []) → done.flatten.length ≤ 6 →
    Ev (fun k => impl_areBlocks.l0 k (done ++ rest) r done.flatten (done ++ rest) ((done ++ rest).length : Int) (done.length : Int)) (decide (AreFrom r done.flatten (done.getLast?.map fun c => rd c 0) rest)) := by
  intro rest
  induction rest with
  | nil =>
    intro done hb hl hd h6
    obtain ⟨K, hK⟩ := ev_get (isPerm_ev done.flatten (done.flatten.length : Int) (by omega))
    refine ⟨K + 1, fun k hk => ?_⟩
    obtain ⟨k, rfl⟩ : ∃ m, k = m + 1 := ⟨k - 1, by omega⟩
    simp only [impl_areBlocks.l0]
    rw [if_neg (by simp), isThings_eq, Option.bind_some]
    by_cases h1 : 1 ≤ done.flatten.length
    · have h2 : inB (done.flatten.length : Int) 1 6 = true := by unfold inB; exact decide_eq_true ⟨by omega, by omega⟩
      rw [if_pos h2, hK k (by omega)]
      simp only [Option.bind_some]
      refine congrArg some ?_
      rw [Bool.eq_iff_iff, decide_eq_true_eq]
      simp only [AreFrom]
      exact ⟨fun h => ⟨⟨h1, h6⟩, h⟩, fun h => h.2⟩
    · have h2 : ¬ inB (done.flatten.length : Int) 1 6 = true := by unfold inB; rw [decide_eq_true_eq]; omega
      rw [if_neg h2]
      congr 1; symm; apply decide_eq_false
      simp only [AreFrom]
      exact fun h => h1 h.1.1
  | cons b rest ih =>
    intro done hb hl hd h6
    simp only [List.length_append, List.length_cons] at hb
    have hlb := hl b (List.mem_cons_self ..)
    have e1 : rd_L1 (done ++ b :: rest) (done.length : Int) = b := rdL_mid _ _ _
    have hlen : ((done ++ b :: rest).length : Int) = (done.length : Int) + 1 + (rest.length : Int) := by simp; omega
    by_cases hb0 : b = []
    · refine ⟨1, fun k hk => ?_⟩
      obtain ⟨k, rfl⟩ : ∃ m, k = m + 1 := ⟨k - 1, by omega⟩
      simp only [impl_areBlocks.l0]
      rw [if_pos (by omega), if_pos (by omega), if_pos (by omega), e1, if_pos (by subst hb0; rfl)]
      congr 1; symm; apply decide_eq_false
      exact fun h => h.1 hb0
    have hbl : 0 < b.length := List.length_pos_iff.2 hb0
    by_cases hs : done.flatten.length + b.length ≤ 6
    case neg =>
      refine ⟨1, fun k hk => ?_⟩
      obtain ⟨k, rfl⟩ : ∃ m, k = m + 1 := ⟨k - 1, by omega⟩
      simp only [impl_areBlocks.l0]
      rw [if_pos (by omega), if_pos (by omega), if_pos (by omega), e1, if_neg (by omega), w64 ((done.flatten.length : Int) + (b.length : Int)) (by omega) (by omega), if_pos (by omega)]
      congr 1; symm; apply decide_eq_false
      exact fun h => hs h.2.1
    obtain ⟨m, hm, hm2⟩ := Min_ev b (by omega) hb0
    obtain ⟨K1, k1⟩ := ev_get hm
    obtain ⟨K2, k2⟩ := ev_get (IsSorted_ev b (by omega) hb0)
    have hrec := ih (done ++ [b]) (by simp; omega) (fun x hx => hl x (List.mem_cons_of_mem _ hx)) (by
      intro x hx
      rcases List.mem_append.1 hx with h | h
      · exact hd x h
      · rw [List.mem_singleton.1 h]; exact hb0) (by simp only [List.flatten_append, List.flatten_cons, List.flatten_nil, List.append_nil, List.length_append]; exact hs)
    rw [last_head] at hrec
    simp only [List.append_assoc, List.singleton_append, List.flatten_append, List.flatten_cons, List.flatten_nil, List.append_nil, List.length_append, List.length_cons, List.length_nil] at hrec
    obtain ⟨K3, k3⟩ := ev_get hrec
    refine ⟨K1 + K2 + K3 + 1, fun k hk => ?_⟩
    obtain ⟨k, rfl⟩ : ∃ m, k = m + 1 := ⟨k - 1, by omega⟩
    have k3' : impl_areBlocks.l0 k (done ++ b :: rest) r (done.flatten ++ b) (done ++ b :: rest) ((done ++ b :: rest).length : Int) (wrap64 ((done.length : Int) + 1)) = some (decide (AreFrom r (done.flatten ++ b) (some (rd b 0)) rest)) := by
      rw [w64 _ (by omega) (by omega)]
      have := k3 k (by omega)
      rw [List.length_append, List.length_cons]
      exact this
    simp only [impl_areBlocks.l0]
    rw [if_pos (by omega), if_pos (by omega), if_pos (by omega), e1, if_neg (by omega), w64 ((done.flatten.length : Int) + (b.length : Int)) (by omega) (by omega), if_neg (by omega), k1 k (by omega), Option.bind_some, if_pos (by omega)]
    by_cases hmin : m = rd b 0
    case neg =>
      rw [if_neg hmin]
      congr 1; symm; apply decide_eq_false
      exact fun h => hmin (hm2.2 h.2.2.1.1)
    rw [if_pos hmin]
    -- what is behind the row's own tests
    have tail : (if (done.length : Int) > 0 then (if 0 ≤ (wrap64 ((done.length : Int) - 1)) then (if (wrap64 ((done.length : Int) - 1)) < ((done ++ b :: rest).length : Int) then (if 0 < ((rd_L1 (done ++ b :: rest) (wrap64 ((done.length : Int) - 1))).length : Int) then (if (rd b 0) ≤ (rd (rd_L1 (done ++ b :: rest) (wrap64 ((done.length : Int) - 1))) 0) then (some false) else (if done.flatten.length + b.length < 17592186044416 then (impl_areBlocks.l0 k (done ++ b :: rest) r (done.flatten ++ b) (done ++ b :: rest) ((done ++ b :: rest).length : Int) (wrap64 ((done.length : Int) + 1))) else (none))) else (none)) else (none)) else (none)) else (if done.flatten.length + b.length < 17592186044416 then (impl_areBlocks.l0 k (done ++ b :: rest) r (done.flatten ++ b) (done ++ b :: rest) ((done ++ b :: rest).length : Int) (wrap64 ((done.length : Int) + 1))) else (none)))
        = some (decide (HeadOk (done.getLast?.map fun c => rd c 0) b ∧ AreFrom r (done.flatten ++ b) (some (rd b 0)) rest)) := by
      rw [k3', if_pos (show done.flatten.length + b.length < 17592186044416 by omega)]
      rcases List.eq_nil_or_concat done with rfl | ⟨d0, p, rfl⟩
      · rw [if_neg (by simp)]
        congr 1
        rw [decide_eq_decide]
        exact ⟨fun h => ⟨fun q hq => by simp at hq, h⟩, fun h => h.2⟩
      · have hp : p ≠ [] := hd p (by simp)
        have hpl : 0 < p.length := List.length_pos_iff.2 hp
        have e2 : rd_L1 (d0 ++ [p] ++ b :: rest) (wrap64 (((d0 ++ [p]).length : Int) - 1)) = p := by
          rw [List.append_assoc, List.singleton_append, w64 _ (by simp) (by simp at hb ⊢; omega), show ((d0 ++ [p]).length : Int) - 1 = (d0.length : Int) by simp]
          exact rdL_mid _ _ _
        simp only [List.concat_eq_append] at *
        rw [if_pos (by simp), if_pos (by rw [w64 _ (by simp) (by simp at hb ⊢; omega)]; simp), if_pos (by rw [w64 _ (by simp) (by simp at hb ⊢; omega)]; simp; omega), e2, if_pos (by omega), last_head]
        by_cases h : rd b 0 ≤ rd p 0
        · rw [if_pos h]
          congr 1; symm; apply decide_eq_false
          intro hh; have := hh.1 _ rfl; omega
        · rw [if_neg h]
          congr 1
          rw [decide_eq_decide]
          exact ⟨fun hh => ⟨fun q hq => by cases hq; omega, hh⟩, fun hh => hh.2⟩
    have fin : (if r = true then some (decide (∀ i, ∀ h : i + 1 < b.length, b[i] ≤ b[i + 1])) else some true) = some (decide (RowOk r b)) := by
      have hx : ∀ x ∈ b, rd b 0 ≤ x := hm2.1 hmin
      cases r
      · simp only [RowOk, Bool.false_eq_true, if_false]
        congr 1; symm; apply decide_eq_true
        exact ⟨hx, fun h => by cases h⟩
      · simp only [RowOk, if_true]
        congr 1
        rw [decide_eq_decide]
        exact ⟨fun h => ⟨hx, fun _ => h⟩, fun h => h.2 trivial⟩
    rw [tail, k2 k (by omega)]
    cases r
    · rw [if_neg (by simp)]
      rw [if_neg (by simp)] at fin
      have hrow : RowOk false b := by simpa using fin.symm
      congr 1
      rw [decide_eq_decide]
      exact ⟨fun h => ⟨hb0, hs, hrow, h.1, h.2⟩, fun h => ⟨h.2.2.2.1, h.2.2.2.2⟩⟩
    · rw [if_pos rfl, Option.bind_some]
      rw [if_pos rfl] at fin
      have fin' := Option.some.inj fin
      rw [fin']
      by_cases hrow : RowOk true b
      · rw [if_pos (decide_eq_true hrow)]
        congr 1
        rw [decide_eq_decide]
        exact ⟨fun h => ⟨hb0, hs, hrow, h.1, h.2⟩, fun h => ⟨h.2.2.2.1, h.2.2.2.2⟩⟩
      · rw [if_neg (by simpa using hrow)]
        congr 1; symm; apply decide_eq_false
        exact fun h => hrow h.2.2.1
open Classical in
theorem areBlocks_ev (r : Bool) (s : List (List Int)) (hb : s.length ≤ 1152921504606846976) (hl : ∀ b ∈ s, b.length ≤ 1048576) : Ev (fun k => impl_areBlocks.f k s r) (decide (BlkOk r s)) := by
  obtain ⟨K, hK⟩ := ev_get (areBlocks_l0 r s [] (by simpa using hb) hl (by simp) (by simp))
  refine ⟨K, fun k hk => ?_⟩
  simp only [impl_areBlocks.f]
  refine (hK k hk).trans ?_
  congr 1
  rw [decide_eq_decide]
  have h := are_iff r s [] none (by simp)
  simp only [List.length_nil, Nat.zero_add, List.nil_append] at h
  exact h
theorem spRow_step (r : Bool) (n : Int) (seen b : List Int) (j : Nat) (h : j < b.length) : SpRow r n seen b j ↔ ((0 ≤ b[j] ∧ b[j] ≤ n - 1) ∧ b[j] ∉ seen ++ b.take j ∧ (0 < j → rd b 0 ≤ b[j] ∧ (r = true → rd b ((j : Int) - 1) ≤ b[j]))) ∧ SpRow r n seen b (j + 1) := by
  constructor
  · exact fun H => ⟨H j (Nat.le_refl _) h, fun k hk => H k (by omega)⟩
  · rintro ⟨H0, H⟩ k hk hkl
    rcases Nat.eq_or_lt_of_le hk with e | e
    · subst e; exact H0
    · exact H k e hkl
open Classical in
theorem fiBlocks_l2 (s : List (List Int)) (r : Bool) (n : Int) (hn : 0 ≤ n ∧ n ≤ 6) (done rest : List (List Int)) (b : List Int) (hs : s = done ++ b :: rest) (hb0 : b ≠ []) (hbl : b.length ≤ 6) (hdn : ∀ x ∈ done, x ≠ []) (hlen : s.length ≤ 6) (seen : List Int) (hseen : seen.length + b.length ≤ 100)
    (hrec : Ev (fun k => spec_fiBlocks.l1 k s r n (seen ++ b) s (s.length : Int) ((done.length + 1 : Nat) : Int)) (if SpFrom r n (seen ++ b) (some (rd b 0)) rest then n else 0)) :
    ∀ (d j : Nat), b.length - j = d → j ≤ b.length →
    Ev (fun k => spec_fiBlocks.l2 k s r n (seen ++ b.take j) (done.length : Int) b s (s.length : Int) (done.length : Int) b (b.length : Int) (j : Int)) (if SpRow r n seen b j ∧ HeadLe (done.getLast?.map fun c => rd c 0) b ∧ SpFrom r n (seen ++ b) (some (rd b 0)) rest then n else 0) := by
  have h0l : 0 < b.length := List.length_pos_iff.2 hb0
  have hsl : s.length = done.length + 1 + rest.length := by rw [hs]; simp; omega
  intro d
  induction d with
  | zero =>
    intro j hd hj
    obtain rfl : j = b.length := by omega
    obtain ⟨K, hK⟩ := ev_get hrec
    refine ⟨K + 1, fun k hk => ?_⟩
    obtain ⟨k, rfl⟩ : ∃ m, k = m + 1 := ⟨k - 1, by omega⟩
    have hK' := hK k (by omega)
    have hrow : SpRow r n seen b b.length := fun k h1 h2 => by omega
    simp only [spec_fiBlocks.l2]
    rw [if_neg (by omega), List.take_length, w64 ((done.length : Int) + 1) (by omega) (by omega), show (done.length : Int) + 1 = ((done.length + 1 : Nat) : Int) by omega, hK']
    rcases List.eq_nil_or_concat done with rfl | ⟨d0, p, rfl⟩
    · rw [if_neg (by simp)]
      congr 1
      have : HeadLe (([] : List (List Int)).getLast?.map fun c => rd c 0) b := fun q hq => by simp at hq
      simp only [hrow, this, true_and]
    · simp only [List.concat_eq_append] at *
      have hp : p ≠ [] := hdn p (by simp)
      have hpl : 0 < p.length := List.length_pos_iff.2 hp
      have e2 : rd_L1 s (wrap64 (((d0 ++ [p]).length : Int) - 1)) = p := by
        rw [hs, List.append_assoc, List.singleton_append, w64 _ (by simp) (by simp at hsl ⊢; omega), show ((d0 ++ [p]).length : Int) - 1 = (d0.length : Int) by simp]
        exact rdL_mid _ _ _
      rw [if_pos (by simp), if_pos (by omega), if_pos (by rw [w64 _ (by simp) (by simp at hsl ⊢; omega)]; simp), if_pos (by rw [w64 _ (by simp) (by simp at hsl ⊢; omega)]; simp at hsl ⊢; omega), e2, if_pos (by omega), last_head]
      by_cases h : rd b 0 < rd p 0
      · rw [if_pos h, if_neg (fun hh => by have := hh.2.1 _ rfl; omega)]
      · rw [if_neg h]
        have : HeadLe (some (rd p 0)) b := fun q hq => by cases hq; omega
        simp only [hrow, this, true_and]
  | succ d ih =>
    intro j hd hj
    have h1 : j < b.length := by omega
    obtain ⟨K1, k1⟩ := ev_get (ih (j + 1) (by omega) (by omega))
    have htl : (seen ++ b.take j).length = seen.length + j := by simp; omega
    obtain ⟨K2, k2⟩ := ev_get (l1Has_ev (seen ++ b.take j) b[j] (by omega))
    refine ⟨K1 + K2 + 1, fun k hk => ?_⟩
    obtain ⟨k, rfl⟩ : ∃ m, k = m + 1 := ⟨k - 1, by omega⟩
    have hst := spRow_step r n seen b j h1
    have k1' : spec_fiBlocks.l2 k s r n ((seen ++ b.take j) ++ [b[j]]) (done.length : Int) b s (s.length : Int) (done.length : Int) b (b.length : Int) (wrap64 ((j : Int) + 1)) = some (if SpRow r n seen b (j + 1) ∧ HeadLe (done.getLast?.map fun c => rd c 0) b ∧ SpFrom r n (seen ++ b) (some (rd b 0)) rest then n else 0) := by
      have := k1 k (by omega)
      rw [w64 _ (by omega) (by omega), List.append_assoc, List.take_append_getElem h1]
      exact this
    simp only [spec_fiBlocks.l2]
    rw [if_pos (by omega), if_pos (by omega), if_pos (by omega), rd_nat b j h1, w64 (n - 1) (by omega) (by omega), l1In_eq, Option.bind_some, k2 k (by omega), Option.bind_some, k1', if_pos (show (seen ++ b.take j).length < 17592186044416 by omega)]
    by_cases c1 : inB b[j] 0 (n - 1) = true
    case neg =>
      rw [if_neg c1, if_neg (fun hh => c1 (by unfold inB; exact decide_eq_true ((hst.1 hh.1).1.1)))]
    have c1' : 0 ≤ b[j] ∧ b[j] ≤ n - 1 := by simpa [inB] using c1
    rw [if_pos c1]
    by_cases c2 : b[j] ∈ seen ++ b.take j
    · rw [if_pos (decide_eq_true c2), if_neg (fun hh => (hst.1 hh.1).1.2.1 c2)]
    rw [if_neg (by simpa using c2)]
    by_cases c3 : 0 < j
    case neg =>
      rw [if_neg (by omega)]
      congr 1
      have : SpRow r n seen b j ↔ SpRow r n seen b (j + 1) := ⟨fun h => (hst.1 h).2, fun h => hst.2 ⟨⟨c1', c2, fun h => absurd h c3⟩, h⟩⟩
      simp only [this]
    rw [if_pos (by omega), if_pos (by omega)]
    by_cases c4 : b[j] < rd b 0
    · rw [if_pos c4, if_neg (fun hh => by have := ((hst.1 hh.1).1.2.2 c3).1; omega)]
    rw [if_neg c4]
    have goon : (r = true → rd b ((j : Int) - 1) ≤ b[j]) → (if SpRow r n seen b (j + 1) ∧ HeadLe (done.getLast?.map fun c => rd c 0) b ∧ SpFrom r n (seen ++ b) (some (rd b 0)) rest then n else 0) = (if SpRow r n seen b j ∧ HeadLe (done.getLast?.map fun c => rd c 0) b ∧ SpFrom r n (seen ++ b) (some (rd b 0)) rest then n else 0) := by
      intro hr
      have : SpRow r n seen b j ↔ SpRow r n seen b (j + 1) := ⟨fun h => (hst.1 h).2, fun h => hst.2 ⟨⟨c1', c2, fun _ => ⟨by omega, hr⟩⟩, h⟩⟩
      simp only [this]
    cases r
    · rw [if_neg (by simp)]
      exact congrArg some (goon (fun h => by cases h))
    · rw [if_pos rfl, w64 ((j : Int) - 1) (by omega) (by omega), if_pos (by omega), if_pos (by omega)]
      by_cases c5 : b[j] < rd b ((j : Int) - 1)
      · rw [if_pos c5, if_neg (fun hh => by have := ((hst.1 hh.1).1.2.2 c3).2 rfl; omega)]
      · rw [if_neg c5]
        exact congrArg some (goon (fun _ => by omega))
open Classical in
theorem fiBlocks_l1 (s : List (List Int)) (r : Bool) (n : Int) (hn : 0 ≤ n ∧ n ≤ 6) (hlen : s.length ≤ 6) (hne : AllNe s) (h6 : ∀ b ∈ s, b.length ≤ 6) : ∀ (rest done : List (List Int)), s = done ++ rest → ∀ seen : List Int, seen.length + 6 * rest.length ≤ 100 →
    Ev (fun k => spec_fiBlocks.l1 k s r n seen s (s.length : Int) (done.length : Int)) (if SpFrom r n seen (done.getLast?.map fun c => rd c 0) rest then n else 0) := by
  intro rest
  induction rest with
  | nil =>
    intro done hs seen hl
    refine ⟨1, fun k hk => ?_⟩
    obtain ⟨k, rfl⟩ : ∃ m, k = m + 1 := ⟨k - 1, by omega⟩
    simp only [spec_fiBlocks.l1]
    have hsl := congrArg List.length hs
    rw [List.append_nil] at hsl
    rw [if_neg (by omega), if_pos (show SpFrom r n seen _ [] from trivial)]
  | cons b rest ih =>
    intro done hs seen hl
    have hbm : b ∈ s := by rw [hs]; simp
    have hb6 := h6 b hbm
    have hsl : s.length = done.length + 1 + rest.length := by rw [hs]; simp; omega
    simp only [List.length_cons] at hl
    have hrec := ih (done ++ [b]) (by rw [hs]; simp) (seen ++ b) (by rw [List.length_append]; omega)
    rw [last_head, List.length_append, List.length_singleton] at hrec
    obtain ⟨K, hK⟩ := ev_get (fiBlocks_l2 s r n hn done rest b hs (hne b hbm) hb6 (fun x hx => hne x (by rw [hs]; exact List.mem_append_left _ hx)) hlen seen (by omega) hrec b.length 0 (by omega) (by omega))
    refine ⟨K + 1, fun k hk => ?_⟩
    obtain ⟨k, rfl⟩ : ∃ m, k = m + 1 := ⟨k - 1, by omega⟩
    have e1 : rd_L1 s (done.length : Int) = b := by rw [hs]; exact rdL_mid _ _ _
    simp only [spec_fiBlocks.l1]
    rw [if_pos (by omega), if_pos (by omega), if_pos (by omega), e1]
    have := hK k (by omega)
    rw [List.take_zero, List.append_nil] at this
    refine this.trans (congrArg some ?_)
    by_cases hS : SpFrom r n seen (done.getLast?.map fun c => rd c 0) (b :: rest)
    · rw [if_pos hS]; exact if_pos hS
    · rw [if_neg hS]; exact if_neg hS
open Classical in
theorem fiBlocks_l0 (s : List (List Int)) (r : Bool) (hlen : s.length ≤ 6) (hbl : ∀ b ∈ s, b.length ≤ 1048576) (res : Int) (hrec : AllNe s → total s ≤ 6 → Ev (fun k => spec_fiBlocks.l1 k s r (total s : Int) [] s (s.length : Int) 0) res) : ∀ (rest done : List (List Int)), s = done ++ rest → AllNe done → total done ≤ 6 →
    Ev (fun k => spec_fiBlocks.l0 k s r (total done : Int) s (s.length : Int) (done.length : Int)) (if AllNe s ∧ total s ≤ 6 then res else 0) := by
  intro rest
  induction rest with
  | nil =>
    intro done hs hd h6
    rw [List.append_nil] at hs; subst hs
    obtain ⟨K, hK⟩ := ev_get (hrec hd h6)
    refine ⟨K + 1, fun k hk => ?_⟩
    obtain ⟨k, rfl⟩ : ∃ m, k = m + 1 := ⟨k - 1, by omega⟩
    simp only [spec_fiBlocks.l0]
    rw [if_neg (by omega), if_pos ⟨hd, h6⟩]
    exact hK k (by omega)
  | cons b rest ih =>
    intro done hs hd h6
    have e1 : rd_L1 s (done.length : Int) = b := by rw [hs]; exact rdL_mid _ _ _
    have hsl : s.length = done.length + 1 + rest.length := by rw [hs]; simp; omega
    have hbm : b ∈ s := by rw [hs]; simp
    have hb := hbl b hbm
    have ht : total s = total done + b.length + total rest := by
      rw [hs, ← total_flat, ← total_flat, ← total_flat]; simp; omega
    by_cases hb0 : b = []
    · refine ⟨1, fun k hk => ?_⟩
      obtain ⟨k, rfl⟩ : ∃ m, k = m + 1 := ⟨k - 1, by omega⟩
      simp only [spec_fiBlocks.l0]
      rw [if_pos (by omega), if_pos (by omega), if_pos (by omega), e1, if_pos (by subst hb0; rfl), if_neg (fun h => h.1 b hbm hb0)]
    have h0l := List.length_pos_iff.2 hb0
    by_cases hs6 : total done + b.length ≤ 6
    case neg =>
      refine ⟨1, fun k hk => ?_⟩
      obtain ⟨k, rfl⟩ : ∃ m, k = m + 1 := ⟨k - 1, by omega⟩
      simp only [spec_fiBlocks.l0]
      rw [if_pos (by omega), if_pos (by omega), if_pos (by omega), e1, if_neg (by omega), w64 (6 - _) (by omega) (by omega), if_pos (by omega), if_neg (fun h => by have := h.2; omega)]
    have htd : total (done ++ [b]) = total done + b.length := by rw [← total_flat, ← total_flat]; simp
    obtain ⟨K, hK⟩ := ev_get (ih (done ++ [b]) (by rw [hs]; simp) (fun x hx => by
      rcases List.mem_append.1 hx with h | h
      · exact hd x h
      · rw [List.mem_singleton.1 h]; exact hb0) (by omega))
    refine ⟨K + 1, fun k hk => ?_⟩
    obtain ⟨k, rfl⟩ : ∃ m, k = m + 1 := ⟨k - 1, by omega⟩
    simp only [spec_fiBlocks.l0]
    rw [if_pos (by omega), if_pos (by omega), if_pos (by omega), e1, if_neg (by omega), w64 (6 - _) (by omega) (by omega), if_neg (by omega), w64 _ (by omega) (by omega), w64 _ (by omega) (by omega)]
    have := hK k (by omega)
    rw [htd, List.length_append, List.length_singleton] at this
    rw [← this]
    congr 1
open Classical in
theorem fiBlocks_ev (r : Bool) (s : List (List Int)) (hl : ∀ b ∈ s, b.length ≤ 1048576) (hb : s.length ≤ 1152921504606846976) : Ev (fun k => spec_fiBlocks.f k s r) (if BlkOk r s then (total s : Int) else 0) := by
  by_cases hlen : s.length ≤ 6
  case neg =>
    refine ⟨0, fun k hk => ?_⟩
    simp only [spec_fiBlocks.f]
    rw [if_pos (by omega), if_neg]
    intro h
    have := allNe_len h.1
    have := h.2.1
    omega
  have hl1 : AllNe s → total s ≤ 6 → Ev (fun k => spec_fiBlocks.l1 k s r (total s : Int) [] s (s.length : Int) 0) (if SpFrom r (total s : Int) [] none s then (total s : Int) else 0) := by
    intro h1 h2
    exact fiBlocks_l1 s r (total s : Int) ⟨by omega, by omega⟩ hlen h1 (fun b hb => by have := total_mem hb; omega) s [] rfl [] (by simp; omega)
  obtain ⟨K, hK⟩ := ev_get (fiBlocks_l0 s r hlen hl _ hl1 s [] rfl (fun x hx => by simp at hx) (by simp [total]))
  refine ⟨K, fun k hk => ?_⟩
  simp only [spec_fiBlocks.f]
  rw [if_neg (by omega)]
  refine (hK k hk).trans ?_
  congr 1
  by_cases h1 : AllNe s ∧ total s ≤ 6
  · rw [if_pos h1]
    have h2 := sp_iff r (total s : Int) s [] none List.nodup_nil h1.1 (fun p e => by cases e)
    rw [List.nil_append] at h2
    by_cases h3 : BlkOk r s
    · rw [if_pos h3, if_pos (h2.2 ⟨h3.2.2.1, h3.2.2.2.2⟩)]
    · rw [if_neg h3]
      by_cases h4 : SpFrom r (total s : Int) [] none s
      · rw [if_pos h4]
        have h5 := h2.1 h4
        have : ¬ 1 ≤ total s := fun h => h3 ⟨h1.1, h1.2, h5.1, h, h5.2⟩
        omega
      · rw [if_neg h4]
  · rw [if_neg h1, if_neg (fun h => h1 ⟨h.1, h.2.1⟩)]
end Go.Proofs.Ythibohakolgfbaa.P
namespace Go.Proofs.Ythibohakolgfbaa.Pure
open Go.RowKit Go.Proofs.Ythibohakolgfbaa.P Go.Proofs.YthibohakolgfbaaW.PrintWords Go.Proofs.YthibohakolgfbaaW.PrintLast
set_option linter.unusedSimpArgs false
set_option linter.unusedVariables false
namespace FnExactFilesOfCycles
def InR (n : Nat) (b : List Int) : Prop := ∀ x ∈ b, 0 ≤ x ∧ x < n
def ll (x : Int) (b : List Int) : Nat → Int
  | 0 => -1
  | m + 1 => if rd b m < x then rd b m else ll x b m
def cF (b : List Int) : Nat → Nat → List Int → List Int
  | 0, _, o => o
  | d + 1, j, o => cF b d (j + 1) (o.set (rd b j).toNat (ll (rd b j) b j))
theorem cF_len (b : List Int) : ∀ (d j : Nat) (o : List Int), (cF b d j o).length = o.length
  | 0, _, _ => rfl
  | d + 1, j, o => by rw [cF, cF_len b d, List.length_set]
theorem cF_other (n : Nat) (b : List Int) (hb : InR n b) (p : Int) (hp0 : 0 ≤ p) (hp : p ∉ b) : ∀ (d j : Nat) (o : List Int), b.length - j = d → (cF b d j o)[p.toNat]? = o[p.toNat]?
  | 0, _, _, _ => rfl
  | d + 1, j, o, hd => by
    have h1 : j < b.length := by omega
    have hm := List.getElem_mem h1
    have hx := hb _ hm
    have hne : p ≠ b[j] := fun e => hp (e ▸ hm)
    rw [cF, cF_other n b hb p hp0 hp d (j + 1) _ (by omega), rd_nat b j h1, List.getElem?_set_ne (by omega)]
def Rel2 (n : Nat) (done I S : List Int) : Prop := I.length = n ∧ S.length = n ∧ ∀ p : Nat, p < n → (p : Int) ∈ done → I[p]? = S[p]?
theorem rel_cF (n : Nat) (b : List Int) (hb : InR n b) (done : List Int) : ∀ (d j : Nat) (I S : List Int), b.length - j = d → j ≤ b.length → Rel2 n (done ++ b.take j) I S → Rel2 n (done ++ b) (cF b d j I) (cF b d j S)
  | 0, j, I, S, hd, hj, h => by rw [List.take_of_length_le (by omega)] at h; exact h
  | d + 1, j, I, S, hd, hj, ⟨h1, h2, h3⟩ => by
    have hj1 : j < b.length := by omega
    have hx := hb _ (List.getElem_mem hj1)
    refine rel_cF n b hb done d (j + 1) _ _ (by omega) (by omega) ⟨by rw [List.length_set]; exact h1, by rw [List.length_set]; exact h2, fun p hp hm => ?_⟩
    rw [rd_nat b j hj1]
    by_cases e : p = (b[j]).toNat
    · subst e
      rw [List.getElem?_set_self (by omega), List.getElem?_set_self (by omega)]
    · rw [List.getElem?_set_ne (by omega), List.getElem?_set_ne (by omega)]
      refine h3 p hp ?_
      rw [← List.take_append_getElem hj1, ← List.append_assoc, List.mem_append, List.mem_singleton] at hm
      exact hm.resolve_right (by omega)
theorem rel_all (n : Nat) : ∀ (rest : List (List Int)) (done I S : List Int), (∀ b ∈ rest, InR n b) → Rel2 n done I S →
    Rel2 n (done ++ rest.flatten) (rest.foldl (fun o b => cF b b.length 0 o) I) (rest.foldl (fun o b => cF b b.length 0 o) S) := by
  intro rest
  induction rest with
  | nil => intro done I S _ h; simpa using h
  | cons b rest ih =>
    intro done I S hb h
    rw [List.flatten_cons, ← List.append_assoc]
    exact ih (done ++ b) _ _ (fun c hc => hb c (List.mem_cons_of_mem _ hc)) (rel_cF n b (hb b (List.mem_cons_self ..)) done b.length 0 I S (by omega) (by omega) (by simpa using h))
theorem ndlt : ∀ (n : Nat) (l : List Int), l.Nodup → (∀ x ∈ l, 0 ≤ x ∧ x < n) → l.length ≤ n
  | 0, l, _, hb => by
    cases l with
    | nil => simp
    | cons x l => exact absurd (hb x (.head _)) (by omega)
  | n + 1, l, hn, hb => by
    by_cases hm : (n : Int) ∈ l
    · have := ndlt n (l.erase n) (hn.erase _) (fun x hx => by
        have h1 := (hn.mem_erase_iff).1 hx
        have := hb x h1.2
        have := h1.1
        omega)
      rw [List.length_erase_of_mem hm] at this
      omega
    · have := ndlt n l hn (fun x hx => by
        have := hb x hx
        have : x ≠ n := fun e => hm (e ▸ hx)
        omega)
      omega
theorem all_in {n : Nat} {l : List Int} (hn : l.Nodup) (hl : l.length = n) (hb : ∀ x ∈ l, 0 ≤ x ∧ x < n) (p : Nat) (hp : p < n) : (p : Int) ∈ l := by
  refine Classical.byContradiction (fun h => ?_)
  have := ndlt n ((p : Int) :: l) (List.nodup_cons.2 ⟨h, hn⟩) (fun x hx => by
    rcases List.mem_cons.1 hx with rfl | hx
    · omega
    · exact hb x hx)
  rw [List.length_cons] at this
  omega
def files (s : List (List Int)) : List Int := s.foldl (fun o b => cF b b.length 0 o) (List.replicate (total s) (-1))
theorem foldl_len (f : List Int → List Int → List Int) (hf : ∀ o b, (f o b).length = o.length) : ∀ (s : List (List Int)) (o : List Int), (s.foldl f o).length = o.length
  | [], _ => rfl
  | b :: s, o => by rw [List.foldl_cons, foldl_len f hf s, hf]
theorem files_len (s : List (List Int)) : (files s).length = total s := by
  unfold files
  rw [foldl_len _ (fun o b => cF_len b b.length 0 o), List.length_replicate]
theorem blk_in {s : List (List Int)} {r : Bool} (h : BlkOk r s) : s.length ≤ 6 ∧ (∀ b ∈ s, b.length ≤ 6) ∧ (∀ b ∈ s, InR (total s) b) ∧ (∀ b ∈ s, b ≠ []) := by
  have h1 := allNe_len h.1
  have h2 := h.2.1
  refine ⟨by omega, fun b hb => by have := total_mem hb; omega, fun b hb x hx => ?_, h.1⟩
  have := h.2.2.2.2.1 x (List.mem_flatten.2 ⟨b, hb, hx⟩)
  omega
theorem files_eq {s : List (List Int)} {r : Bool} (h : BlkOk r s) : s.foldl (fun o b => cF b b.length 0 o) (List.replicate (total s) 0) = files s := by
  have hin := blk_in h
  have h1 := rel_all (total s) s [] (List.replicate (total s) (-1)) (List.replicate (total s) 0) hin.2.2.1 ⟨by simp, by simp, fun p hp h => by simp at h⟩
  rw [List.nil_append] at h1
  symm
  apply List.ext_getElem?
  intro p
  by_cases hp : p < total s
  · exact h1.2.2 p hp (all_in h.2.2.2.2.2 (total_flat s) (fun x hx => by have := h.2.2.2.2.1 x hx; omega) p hp)
  · rw [List.getElem?_eq_none (by rw [files_len]; omega), List.getElem?_eq_none (by rw [foldl_len _ (fun o b => cF_len b b.length 0 o), List.length_replicate]; omega)]
open Classical in
noncomputable def R (s : List (List Int)) : List Int × Bool := if BlkOk false s then (files s, true) else ([], false)
theorem set_self' {o : List Int} {i : Nat} {v : Int} (h : o[i]? = some v) : o.set i v = o := by
  apply List.ext_getElem?
  intro p
  by_cases e : p = i
  · subst e
    have := (List.getElem?_eq_some_iff.1 h).1
    rw [List.getElem?_set_self this, h]
  · rw [List.getElem?_set_ne (by omega)]
theorem rd_opt {o : List Int} {x : Int} {v : Int} (h0 : 0 ≤ x) (h : o[x.toNat]? = some v) : rd o x = v := by
  obtain ⟨h1, h2⟩ := List.getElem?_eq_some_iff.1 h
  have := rd_nat o x.toNat h1
  rw [show ((x.toNat : Nat) : Int) = x by omega] at this
  rw [this, h2]
theorem impl_l2 (s : List (List Int)) (i n : Nat) (hn : n ≤ 6) (b : List Int) (hb : b.length ≤ 6) (hx : InR n b) (j : Nat) (hj : j < b.length) (res : List Int × Bool) : ∀ (m : Nat) (o : List Int), m ≤ j → o.length = n → o[(b[j]).toNat]? = some (-1) →
    Ev (fun k => impl_FilesOfCycles.l1 k (o.set (b[j]).toNat (ll b[j] b m)) b s (s.length : Int) (i : Int) b (b.length : Int) ((j + 1 : Nat) : Int)) res →
    Ev (fun k => impl_FilesOfCycles.l2 k o b b[j] ((m : Int) - 1) s (s.length : Int) (i : Int) b (b.length : Int) (j : Int)) res := by
  have hxj := hx _ (List.getElem_mem hj)
  intro m
  induction m with
  | zero =>
    intro o hm ho hv hrec
    rw [ll, set_self' hv] at hrec
    obtain ⟨K, hK⟩ := ev_get hrec
    refine ⟨K + 2, fun k hk => ?_⟩
    obtain ⟨k, rfl⟩ : ∃ m, k = m + 2 := ⟨k - 2, by omega⟩
    dsimp only
    rw [impl_FilesOfCycles.l2, if_neg (by omega), impl_FilesOfCycles.j3, if_neg (by simp), w64 _ (by omega) (by omega)]
    exact hK k (by omega)
  | succ m ih =>
    intro o hm ho hv hrec
    have hmb : m < b.length := by omega
    have hxm := hx _ (List.getElem_mem hmb)
    have er : ((m + 1 : Nat) : Int) - 1 = (m : Int) := by omega
    have et : ((rd o b[j]) == (-1)) = true := by rw [rd_opt hxj.1 hv]; rfl
    rw [ll, rd_nat b m hmb] at hrec
    by_cases hlt : b[m] < b[j]
    · rw [if_pos hlt] at hrec
      obtain ⟨K, hK⟩ := ev_get hrec
      have hv2 : rd (o.set (b[j]).toNat b[m]) b[j] = b[m] := rd_opt hxj.1 (List.getElem?_set_self (by omega))
      refine ⟨K + 4, fun k hk => ?_⟩
      obtain ⟨k, rfl⟩ : ∃ m, k = m + 4 := ⟨k - 4, by omega⟩
      dsimp only
      rw [impl_FilesOfCycles.l2, er, if_pos (by omega), if_pos (by omega), if_pos (by omega), et, impl_FilesOfCycles.j3, if_pos rfl, if_pos (by omega), if_pos (by omega), rd_nat b m hmb, if_pos hlt, if_pos (by omega), if_pos (by omega), w64 _ (by omega) (by omega), impl_FilesOfCycles.l2]
      have fin : ∀ c : Bool, c = false → impl_FilesOfCycles.j3 (k + 1) (o.set (b[j]).toNat b[m]) b b[j] ((m : Int) - 1) s (s.length : Int) (i : Int) b (b.length : Int) (j : Int) c = some res := by
        rintro c rfl
        rw [impl_FilesOfCycles.j3, if_neg (by simp), w64 _ (by omega) (by omega)]
        exact hK k (by omega)
      by_cases h0 : (m : Int) - 1 ≥ 0
      · rw [if_pos h0, if_pos (by omega), if_pos (by rw [List.length_set]; omega), hv2]
        refine fin _ ?_
        rw [beq_eq_false_iff_ne]; omega
      · rw [if_neg h0]
        exact fin _ rfl
    · rw [if_neg hlt] at hrec
      obtain ⟨K, hK⟩ := ev_get (ih o (by omega) ho hv hrec)
      refine ⟨K + 2, fun k hk => ?_⟩
      obtain ⟨k, rfl⟩ : ∃ m, k = m + 2 := ⟨k - 2, by omega⟩
      dsimp only
      rw [impl_FilesOfCycles.l2, er, if_pos (by omega), if_pos (by omega), if_pos (by omega), et, impl_FilesOfCycles.j3, if_pos rfl, if_pos (by omega), if_pos (by omega), rd_nat b m hmb, if_neg hlt, w64 _ (by omega) (by omega)]
      exact hK k (by omega)
theorem impl_l1 (s : List (List Int)) (i n : Nat) (hn : n ≤ 6) (hi : i ≤ 1000) (b : List Int) (hb : b.length ≤ 6) (hx : InR n b) (hnd : b.Nodup) (res : List Int × Bool) : ∀ (d j : Nat) (o : List Int), o.length = n → b.length - j = d → j ≤ b.length → (∀ m, j ≤ m → ∀ h : m < b.length, o[(b[m]).toNat]? = some (-1)) →
    Ev (fun k => impl_FilesOfCycles.l0 k (cF b d j o) s (s.length : Int) ((i + 1 : Nat) : Int)) res →
    Ev (fun k => impl_FilesOfCycles.l1 k o b s (s.length : Int) (i : Int) b (b.length : Int) (j : Int)) res := by
  intro d
  induction d with
  | zero =>
    intro j o ho hd hj hv hrec
    obtain ⟨K, hK⟩ := ev_get hrec
    refine ⟨K + 1, fun k hk => ?_⟩
    obtain ⟨k, rfl⟩ : ∃ m, k = m + 1 := ⟨k - 1, by omega⟩
    dsimp only
    rw [impl_FilesOfCycles.l1, if_neg (by omega), w64 _ (by omega) (by omega)]
    exact hK k (by omega)
  | succ d ih =>
    intro j o ho hd hj hv hrec
    have hj1 : j < b.length := by omega
    have hxj := hx _ (List.getElem_mem hj1)
    rw [cF, rd_nat b j hj1] at hrec
    have h2 := ih (j + 1) (o.set (b[j]).toNat (ll b[j] b j)) (by rw [List.length_set]; exact ho) (by omega) (by omega) (fun m hm hml => by
      have hxm := hx _ (List.getElem_mem hml)
      have hne : b[m] ≠ b[j] := by
        have := List.pairwise_iff_getElem.1 (List.nodup_iff_pairwise_ne.1 hnd) j m hj1 hml (by omega)
        exact fun e => this e.symm
      rw [List.getElem?_set_ne (by omega)]
      exact hv m (by omega) hml) hrec
    obtain ⟨K, hK⟩ := ev_get (impl_l2 s i n hn b hb hx j hj1 res j o (Nat.le_refl _) ho (hv j (Nat.le_refl _) hj1) h2)
    refine ⟨K + 1, fun k hk => ?_⟩
    obtain ⟨k, rfl⟩ : ∃ m, k = m + 1 := ⟨k - 1, by omega⟩
    dsimp only
    rw [impl_FilesOfCycles.l1, if_pos (by omega), if_pos (by omega), if_pos (by omega), rd_nat b j hj1, w64 _ (by omega) (by omega)]
    exact hK k (by omega)
theorem impl_l0 (s : List (List Int)) (n : Nat) (hn : n ≤ 6) (hs6 : s.length ≤ 6) (hlen : ∀ b ∈ s, b.length ≤ 6) (hin : ∀ b ∈ s, InR n b) (hnd : s.flatten.Nodup) : ∀ (rest done : List (List Int)) (o : List Int), s = done ++ rest → o.length = n → (∀ x ∈ rest.flatten, o[x.toNat]? = some (-1)) →
    Ev (fun k => impl_FilesOfCycles.l0 k o s (s.length : Int) (done.length : Int)) (rest.foldl (fun o b => cF b b.length 0 o) o, true) := by
  intro rest
  induction rest with
  | nil =>
    intro done o hs ho hv
    refine ⟨1, fun k hk => ?_⟩
    obtain ⟨k, rfl⟩ : ∃ m, k = m + 1 := ⟨k - 1, by omega⟩
    have := congrArg List.length hs
    rw [List.append_nil] at this
    dsimp only
    rw [impl_FilesOfCycles.l0, if_neg (by omega)]
    rfl
  | cons b rest ih =>
    intro done o hs ho hv
    have hsl : s.length = done.length + 1 + rest.length := by rw [hs]; simp; omega
    have e1 : rd_L1 s (done.length : Int) = b := by rw [hs]; exact rdL_mid _ _ _
    have hbm : b ∈ s := by rw [hs]; simp
    have hnd2 : (b ++ rest.flatten).Nodup := by
      rw [hs, List.flatten_append, List.flatten_cons] at hnd
      exact (List.nodup_append.1 hnd).2.1
    have h2 := ih (done ++ [b]) (cF b b.length 0 o) (by rw [hs]; simp) (by rw [cF_len]; exact ho) (fun x hx => by
      have hxr : 0 ≤ x := by
        obtain ⟨c, hc, hxc⟩ := List.mem_flatten.1 hx
        exact (hin c (by rw [hs]; simp [hc]) x hxc).1
      rw [cF_other n b (hin b hbm) x hxr (fun h => (List.nodup_append.1 hnd2).2.2 x h x hx rfl) b.length 0 o (by omega)]
      exact hv x (by rw [List.flatten_cons]; exact List.mem_append_right _ hx))
    rw [List.length_append, List.length_singleton] at h2
    obtain ⟨K, hK⟩ := ev_get (impl_l1 s done.length n hn (by omega) b (hlen b hbm) (hin b hbm) (List.nodup_append.1 hnd2).1 _ b.length 0 o ho (by omega) (by omega) (fun m _ hm => hv _ (by rw [List.flatten_cons]; exact List.mem_append_left _ (List.getElem_mem hm))) h2)
    refine ⟨K + 1, fun k hk => ?_⟩
    obtain ⟨k, rfl⟩ : ∃ m, k = m + 1 := ⟨k - 1, by omega⟩
    dsimp only
    rw [impl_FilesOfCycles.l0, if_pos (by omega), if_pos (by omega), if_pos (by omega), e1]
    exact hK k (by omega)
theorem spec_l2 (s : List (List Int)) (i n : Nat) (hn : n ≤ 6) (b : List Int) (hb : b.length ≤ 6) (hx : InR n b) (j : Nat) (hj : j < b.length) (res : List Int × Bool) (o : List Int) (ho : o.length = n)
    (hrec : Ev (fun k => spec_FilesOfCycles.l1 k (o.set (b[j]).toNat (ll b[j] b j)) b s (s.length : Int) (i : Int) b (b.length : Int) ((j + 1 : Nat) : Int)) res) : ∀ (d m : Nat), j - m = d → m ≤ j →
    Ev (fun k => spec_FilesOfCycles.l2 k (o.set (b[j]).toNat (ll b[j] b m)) b b[j] s (s.length : Int) (i : Int) b (b.length : Int) (j : Int) (b.take j) ((b.take j).length : Int) (m : Int)) res := by
  have hxj := hx _ (List.getElem_mem hj)
  have htl : (b.take j).length = j := by rw [List.length_take]; omega
  intro d
  induction d with
  | zero =>
    intro m hd hm
    obtain rfl : m = j := by omega
    obtain ⟨K, hK⟩ := ev_get hrec
    refine ⟨K + 1, fun k hk => ?_⟩
    obtain ⟨k, rfl⟩ : ∃ m, k = m + 1 := ⟨k - 1, by omega⟩
    dsimp only
    rw [spec_FilesOfCycles.l2, if_neg (by omega), w64 _ (by omega) (by omega)]
    exact hK k (by omega)
  | succ d ih =>
    intro m hd hm
    have hmb : m < b.length := by omega
    have h2 := ih (m + 1) (by omega) (by omega)
    have er : rd (b.take j) (m : Int) = b[m] := by rw [rd_nat _ _ (by omega), List.getElem_take]
    rw [ll, rd_nat b m hmb] at h2
    obtain ⟨K, hK⟩ := ev_get h2
    refine ⟨K + 1, fun k hk => ?_⟩
    obtain ⟨k, rfl⟩ : ∃ m, k = m + 1 := ⟨k - 1, by omega⟩
    dsimp only
    rw [spec_FilesOfCycles.l2, if_pos (by omega), if_pos (by omega), if_pos (by omega), er, w64 _ (by omega) (by omega)]
    have := hK k (by omega)
    by_cases hlt : b[m] < b[j]
    · rw [if_pos hlt] at this
      rw [if_pos hlt, if_pos (by omega), if_pos (by rw [List.length_set]; omega), List.set_set]
      exact this
    · rw [if_neg hlt] at this
      rw [if_neg hlt]
      exact this
theorem spec_l1 (s : List (List Int)) (i n : Nat) (hn : n ≤ 6) (hi : i ≤ 1000) (b : List Int) (hb : b.length ≤ 6) (hx : InR n b) (res : List Int × Bool) : ∀ (d j : Nat) (o : List Int), o.length = n → b.length - j = d → j ≤ b.length →
    Ev (fun k => spec_FilesOfCycles.l0 k (cF b d j o) s (s.length : Int) ((i + 1 : Nat) : Int)) res →
    Ev (fun k => spec_FilesOfCycles.l1 k o b s (s.length : Int) (i : Int) b (b.length : Int) (j : Int)) res := by
  intro d
  induction d with
  | zero =>
    intro j o ho hd hj hrec
    obtain ⟨K, hK⟩ := ev_get hrec
    refine ⟨K + 1, fun k hk => ?_⟩
    obtain ⟨k, rfl⟩ : ∃ m, k = m + 1 := ⟨k - 1, by omega⟩
    dsimp only
    rw [spec_FilesOfCycles.l1, if_neg (by omega), w64 _ (by omega) (by omega)]
    exact hK k (by omega)
  | succ d ih =>
    intro j o ho hd hj hrec
    have hj1 : j < b.length := by omega
    have hxj := hx _ (List.getElem_mem hj1)
    rw [cF, rd_nat b j hj1] at hrec
    have h2 := ih (j + 1) (o.set (b[j]).toNat (ll b[j] b j)) (by rw [List.length_set]; exact ho) (by omega) (by omega) hrec
    obtain ⟨K, hK⟩ := ev_get (spec_l2 s i n hn b hb hx j hj1 res o ho h2 j 0 (by omega) (by omega))
    refine ⟨K + 1, fun k hk => ?_⟩
    obtain ⟨k, rfl⟩ : ∃ m, k = m + 1 := ⟨k - 1, by omega⟩
    dsimp only
    rw [spec_FilesOfCycles.l1, if_pos (by omega), if_pos (by omega), if_pos (by omega), rd_nat b j hj1, if_pos (by omega), if_pos (by omega), if_pos (by omega), Option.bind_some, show ((j : Nat) : Int).toNat = j by omega]
    exact hK k (by omega)
theorem spec_l0 (s : List (List Int)) (n : Nat) (hn : n ≤ 6) (hs6 : s.length ≤ 6) (hlen : ∀ b ∈ s, b.length ≤ 6) (hin : ∀ b ∈ s, InR n b) : ∀ (rest done : List (List Int)) (o : List Int), s = done ++ rest → o.length = n →
    Ev (fun k => spec_FilesOfCycles.l0 k o s (s.length : Int) (done.length : Int)) (rest.foldl (fun o b => cF b b.length 0 o) o, true) := by
  intro rest
  induction rest with
  | nil =>
    intro done o hs ho
    refine ⟨1, fun k hk => ?_⟩
    obtain ⟨k, rfl⟩ : ∃ m, k = m + 1 := ⟨k - 1, by omega⟩
    have := congrArg List.length hs
    rw [List.append_nil] at this
    dsimp only
    rw [spec_FilesOfCycles.l0, if_neg (by omega)]
    rfl
  | cons b rest ih =>
    intro done o hs ho
    have hsl : s.length = done.length + 1 + rest.length := by rw [hs]; simp; omega
    have e1 : rd_L1 s (done.length : Int) = b := by rw [hs]; exact rdL_mid _ _ _
    have hbm : b ∈ s := by rw [hs]; simp
    have h2 := ih (done ++ [b]) (cF b b.length 0 o) (by rw [hs]; simp) (by rw [cF_len]; exact ho)
    rw [List.length_append, List.length_singleton] at h2
    obtain ⟨K, hK⟩ := ev_get (spec_l1 s done.length n hn (by omega) b (hlen b hbm) (hin b hbm) _ b.length 0 o ho (by omega) (by omega) h2)
    refine ⟨K + 1, fun k hk => ?_⟩
    obtain ⟨k, rfl⟩ : ∃ m, k = m + 1 := ⟨k - 1, by omega⟩
    dsimp only
    rw [spec_FilesOfCycles.l0, if_pos (by omega), if_pos (by omega), if_pos (by omega), e1]
    exact hK k (by omega)
theorem size_l0 (s : List (List Int)) (h6 : total s ≤ 6) (hs6 : s.length ≤ 6) : ∀ (rest done : List (List Int)), s = done ++ rest →
    Ev (fun k => impl_size.l0 k (total done : Int) s (s.length : Int) (done.length : Int)) (total s : Int) := by
  intro rest
  induction rest with
  | nil =>
    intro done hs
    rw [List.append_nil] at hs; subst hs
    refine ⟨1, fun k hk => ?_⟩
    obtain ⟨k, rfl⟩ : ∃ m, k = m + 1 := ⟨k - 1, by omega⟩
    dsimp only
    rw [impl_size.l0, if_neg (by omega)]
  | cons b rest ih =>
    intro done hs
    have hsl : s.length = done.length + 1 + rest.length := by rw [hs]; simp; omega
    have e1 : rd_L1 s (done.length : Int) = b := by rw [hs]; exact rdL_mid _ _ _
    have ht : total s = total done + b.length + total rest := by rw [hs, ← total_flat, ← total_flat, ← total_flat]; simp; omega
    have htd : total (done ++ [b]) = total done + b.length := by rw [← total_flat, ← total_flat]; simp
    obtain ⟨K, hK⟩ := ev_get (ih (done ++ [b]) (by rw [hs]; simp))
    refine ⟨K + 1, fun k hk => ?_⟩
    obtain ⟨k, rfl⟩ : ∃ m, k = m + 1 := ⟨k - 1, by omega⟩
    dsimp only
    rw [impl_size.l0, if_pos (by omega), if_pos (by omega), if_pos (by omega), e1, w64 _ (by omega) (by omega), w64 _ (by omega) (by omega)]
    have := hK k (by omega)
    rw [htd, List.length_append, List.length_singleton] at this
    exact this
theorem size_ev {r : Bool} {s : List (List Int)} (h : BlkOk r s) : Ev (fun k => impl_size.f k s) (total s : Int) := by
  have hin := blk_in h
  exact size_l0 s h.2.1 hin.1 s [] rfl
theorem repeat_eq (n : Nat) (h : 1 ≤ n ∧ n ≤ 6) : slices_Repeat_int_int.f [-1] (n : Int) = some (List.replicate n (-1)) := by
  unfold slices_Repeat_int_int.f
  rw [if_pos ⟨rfl, by omega, by omega⟩]
  simp [rd]
theorem spec_ev (s : List (List Int)) (hb : s.length ≤ 1152921504606846976) (hx : ∀ x ∈ s, x.length ≤ 1048576) : Ev (fun k => spec_FilesOfCycles.f k s) (R s) := by
  obtain ⟨K1, h1⟩ := ev_get (fiBlocks_ev false s hx hb)
  unfold R
  by_cases h : BlkOk false s
  · have hin := blk_in h
    have ht := h.2.2.2.1
    have ht2 := h.2.1
    obtain ⟨K2, h2⟩ := ev_get (spec_l0 s (total s) h.2.1 hin.1 hin.2.1 hin.2.2.1 s [] (List.replicate (total s) 0) rfl (by simp))
    rw [if_pos h] at h1
    refine ⟨K1 + K2, fun k hk => ?_⟩
    simp only [spec_FilesOfCycles.f, h1 k (by omega), Option.bind_some, if_pos h]
    rw [if_neg (by omega), if_pos (by omega), if_pos (by omega), show ((total s : Nat) : Int).toNat = total s by omega]
    refine (h2 k (by omega)).trans ?_
    rw [files_eq h]
  · rw [if_neg h] at h1
    refine ⟨K1, fun k hk => ?_⟩
    simp only [spec_FilesOfCycles.f, h1 k (by omega), Option.bind_some, if_neg h, if_true]
open Classical in
theorem impl_ev (s : List (List Int)) (hb : s.length ≤ 1152921504606846976) (hx : ∀ x ∈ s, x.length ≤ 1048576) : Ev (fun k => impl_FilesOfCycles.f k s) (R s) := by
  obtain ⟨K1, h1⟩ := ev_get (areBlocks_ev false s hb hx)
  unfold R
  by_cases h : BlkOk false s
  · have hin := blk_in h
    have ht := h.2.2.2.1
    have ht2 := h.2.1
    obtain ⟨K2, h2⟩ := ev_get (size_ev h)
    obtain ⟨K3, h3⟩ := ev_get (impl_l0 s (total s) h.2.1 hin.1 hin.2.1 hin.2.2.1 h.2.2.2.2.2 s [] (List.replicate (total s) (-1)) rfl (by simp) (fun x hx => by have := h.2.2.2.2.1 x hx; rw [List.getElem?_replicate, if_pos (by omega)]))
    refine ⟨K1 + K2 + K3, fun k hk => ?_⟩
    simp only [impl_FilesOfCycles.f, h1 k (by omega), Option.bind_some, if_pos h, decide_eq_true h, if_true, h2 k (by omega), repeat_eq (total s) ⟨ht, ht2⟩]
    exact h3 k (by omega)
  · refine ⟨K1, fun k hk => ?_⟩
    simp only [impl_FilesOfCycles.f, h1 k (by omega), Option.bind_some, if_neg h, decide_eq_false h, Bool.false_eq_true, if_false]
open Classical in
theorem R_small (s : List (List Int)) (hb : s.length ≤ 1152921504606846976) (hx : ∀ x ∈ s, x.length ≤ 1048576) : (R s).1.length ≤ 1000 := by
  unfold R
  by_cases h : BlkOk false s
  · rw [if_pos h, files_len]; have := h.2.1; omega
  · rw [if_neg h]; simp
end FnExactFilesOfCycles
open FnExactFilesOfCycles in
theorem FnExactFilesOfCycles : laws_FnExactFilesOfCycles.Pure := by
  intro l0 hy0
  have hl := hy0.1
  simp only [maxLen] at hl
  have hr : ∀ x ∈ l0, x.length ≤ maxLen := fun x hx => (hy0.2 x hx).1
  obtain ⟨K0, h0⟩ := ev_get (szIntSS_ev l0 (by simp only [maxLen]; omega) hr)
  by_cases hb : 1048576 < l0.length + total l0
  · refine ⟨K0, ?_⟩
    unfold laws_FnExactFilesOfCycles.f
    rw [if_pos ⟨_, h0 K0 (Nat.le_refl _), by rw [if_pos hb]; omega⟩]
  rw [if_neg hb] at h0
  have hx : ∀ x ∈ l0, x.length ≤ 1048576 := fun x hx => by have := total_mem hx; omega
  obtain ⟨K1, h1⟩ := ev_get (spec_ev l0 (by omega) hx)
  obtain ⟨K2, h2⟩ := ev_get (impl_ev l0 (by omega) hx)
  have hs := R_small l0 (by omega) hx
  generalize R l0 = R at *
  obtain ⟨K3, h3⟩ := ev_get (toIntSS_ev l0 (by omega) (fun x h => by have := hx x h; omega))
  obtain ⟨K4, h4⟩ := ev_get (eqIntS_ev R.1 R.1 (by omega))
  obtain ⟨K5, h5⟩ := ev_get (eqIntSS_ev l0 l0 (by omega) (fun x h => by have := hx x h; omega))
  obtain ⟨K6, h6⟩ := ev_get (markIntSS_ev l0 1 (by omega) (by omega) (by omega) (by omega))
  obtain ⟨K7, h7⟩ := ev_get (markIntS_ev R.1 1 (by omega) (by omega) (by omega))
  obtain ⟨K8, h8⟩ := ev_get (heldIntS_ev R.1.length 1 (by omega) (by omega) (by omega))
  refine ⟨K0 + K1 + K2 + K3 + K4 + K5 + K6 + K7 + K8, ?_⟩
  unfold laws_FnExactFilesOfCycles.f
  rw [if_neg, if_pos]
  · refine ⟨_, R.1, R.2, _, _, _, _, ?_, h0 _ (by omega), h3 _ (by omega), h1 _ (by omega), h2 _ (by omega), (h4 _ (by omega)).trans (by simp), (h5 _ (by omega)).trans (by simp), ?_, h6 _ (by omega), ?_, h7 _ (by omega), h8 _ (by omega)⟩ <;> omega
  · rintro ⟨s0, e, hlt⟩
    rw [h0 _ (by omega)] at e
    have := Option.some.inj e
    omega
end Go.Proofs.Ythibohakolgfbaa.Pure
