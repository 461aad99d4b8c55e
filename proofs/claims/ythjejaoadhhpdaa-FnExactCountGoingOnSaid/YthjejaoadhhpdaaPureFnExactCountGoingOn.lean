/- For every number and every list of numbers CountGoingOn returns what the reference returns, and leaves its argument as it was: no condition but that the list can be read. -/
import Derived.Test.YthjejaoadhhpdaaPx26
import Derived.Test.YthjejaoadhhpdaaPx27
import Derived.Test.YthjejaoadhhpdaaPx3
import Derived.Test.YthjejaoadhhpdaaPx30
import Derived.Test.YthjejaoadhhpdaaPx31
import Derived.Test.YthjejaoadhhpdaaPx32
import Derived.Test.YthjejaoadhhpdaaPx24
import Derived.Test.YthjejaoadhhpdaaPx19
import Derived.Test.YthjejaoadhhpdaaPx12
import Derived.Test.YthjejaoadhhpdaaPx13
import Derived.Test.YthjejaoadhhpdaaPx2
import Derived.Test.YthjejaoadhhpdaaPx4
import Derived.Test.YthjejaoadhhpdaaPx15
import Derived.Test.YthjejaoadhhpdaaPx1
import Derived.Test.YthjejaoadhhpdaaPx6
import Derived.Test.YthjejaoadhhpdaaPx8
import Derived.Test.YthjejaoadhhpdaaPx23
namespace Go.Proofs.Ythjejaoadhhpdaa.P
open Go.RowKit Go.Proofs.YthjejaoadhhpdaaW.PrintWords Go.Proofs.YthjejaoadhhpdaaW.PrintLast Go.Proofs.YthjejaoadhhpdaaW.PrintMore
set_option linter.unusedVariables false
set_option linter.unusedSimpArgs false

/-! #### general -/
theorem w64 (n : Int) (h : -9223372036854775808 ≤ n) (h2 : n ≤ 9223372036854775807) : wrap64 n = n := by unfold wrap64; omega
theorem rd_nat (l : List Int) (i : Nat) (h : i < l.length) : rd l (i : Int) = l[i] := by
  unfold rd; simp [List.getD_eq_getElem?_getD, List.getElem?_eq_getElem h]
theorem drop_cons (l : List Int) (i : Nat) (h : i < l.length) : l.drop i = l[i] :: l.drop (i + 1) := List.drop_eq_getElem_cons h
theorem ev_if_pos {α : Type} {c : Prop} [Decidable c] {a b : Nat → Option α} {r : α} (h : c) (k : Ev a r) : Ev (fun n => if c then a n else b n) r := by simpa only [if_pos h] using k
theorem ev_if_neg {α : Type} {c : Prop} [Decidable c] {a b : Nat → Option α} {r : α} (h : ¬ c) (k : Ev b r) : Ev (fun n => if c then a n else b n) r := by simpa only [if_neg h] using k
theorem ev_get {α : Type} {g : Nat → Option α} {r : α} (h : Ev g r) : ∃ K, ∀ k, K ≤ k → g k = some r := h
theorem ev_some {α : Type} (r : α) : Ev (fun _ => some r) r := Ev.now r
theorem ev_eq {α : Type} {g : Nat → Option α} {r r' : α} (h : Ev g r) (e : r = r') : Ev g r' := e ▸ h
theorem ev_cbind {α β : Type} {g : Option α} {f : Nat → α → Option β} {a : α} {r : β} (h : g = some a) (k : Ev (fun n => f n a) r) : Ev (fun n => g.bind (f n)) r := by
  subst h; simpa using k
theorem ev_const {α : Type} {g : Option α} {r : α} (h : g = some r) : Ev (fun _ => g) r := ⟨0, fun _ _ => h⟩

theorem take_set_succ {α : Type} (l : List α) (i : Nat) (x : α) (h : i < l.length) : (l.set i x).take (i + 1) = l.take i ++ [x] := by
  rw [List.take_add_one, List.take_set_of_le (Nat.le_refl _)]
  simp [h]

/-! #### toIntS -/
theorem toIntS_l0 (x0 : List Int) (hl : x0.length ≤ 1152921504606846976) : ∀ (d i : Nat) (x3 : List Int) (k : Nat), x0.length - i = d → i ≤ x0.length → x3.length = x0.length → d < k →
    laws_toIntS.l0 k x0 x3 (i : Int) = some (x3.take i ++ x0.drop i) := by
  intro d
  induction d with
  | zero =>
    intro i x3 k hd hi hx hk
    obtain ⟨k, rfl⟩ : ∃ m, k = m + 1 := ⟨k - 1, by omega⟩
    rw [laws_toIntS.l0, if_neg (by omega)]
    have : i = x0.length := by omega
    subst this
    simp [← hx]
  | succ d ih =>
    intro i x3 k hd hi hx hk
    obtain ⟨k, rfl⟩ : ∃ m, k = m + 1 := ⟨k - 1, by omega⟩
    have h1 : i < x0.length := by omega
    rw [laws_toIntS.l0, if_pos (by omega), if_pos (by omega), if_pos (by omega), w64 _ (by omega) (by omega)]
    have := ih (i + 1) (x3.set i (rd x0 i)) k (by omega) (by omega) (by simp [hx]) (by omega)
    rw [show ((i : Int) + 1) = ((i + 1 : Nat) : Int) by omega, show (i : Int).toNat = i by omega, this, rd_nat _ _ h1, drop_cons x0 i h1]
    congr 1
    rw [take_set_succ _ _ _ (by omega)]
    simp
theorem toIntS_ev (l : List Int) (hl : l.length ≤ 35184372088832) : Ev (fun k => laws_toIntS.f k l) l := by
  refine ⟨l.length + 1, fun k hk => ?_⟩
  simp only [laws_toIntS.f]
  rw [if_pos (by omega), if_pos (by omega)]
  have := toIntS_l0 l (by omega) l.length 0 (List.replicate l.length 0) k (by omega) (by omega) (by simp) (by omega)
  simpa using this
/-! #### eqIntS -/
theorem eqIntS_l0 (a b : List Int) (hl : a.length = b.length) (hb : a.length ≤ 1152921504606846976) : ∀ (d i : Nat) (k : Nat), a.length - i = d → i ≤ a.length → d < k →
    laws_eqIntS.l0 k a b (i : Int) = some (decide (a.drop i = b.drop i)) := by
  intro d
  induction d with
  | zero =>
    intro i k hd hi hk
    obtain ⟨k, rfl⟩ : ∃ m, k = m + 1 := ⟨k - 1, by omega⟩
    rw [laws_eqIntS.l0, if_neg (by omega)]
    simp [List.drop_eq_nil_of_le (show a.length ≤ i by omega), List.drop_eq_nil_of_le (show b.length ≤ i by omega)]
  | succ d ih =>
    intro i k hd hi hk
    obtain ⟨k, rfl⟩ : ∃ m, k = m + 1 := ⟨k - 1, by omega⟩
    have h1 : i < a.length := by omega
    rw [laws_eqIntS.l0, if_pos (by omega), if_pos (by omega), if_pos (by omega), w64 _ (by omega) (by omega), rd_nat _ _ h1, rd_nat _ _ (show i < b.length by omega)]
    rw [show ((i : Int) + 1) = ((i + 1 : Nat) : Int) by omega, ih (i + 1) k (by omega) (by omega) (by omega)]
    rw [drop_cons a i h1, drop_cons b i (by omega)]
    generalize a.drop (i + 1) = ta, b.drop (i + 1) = tb
    by_cases h : a[i] = b[i]
    · simp [h]
    · simp [h]
theorem eqIntS_ev (a b : List Int) (hb : a.length ≤ 1152921504606846976) : Ev (fun k => laws_eqIntS.f k a b) (decide (a = b)) := by
  refine ⟨a.length + 1, fun k hk => ?_⟩
  simp only [laws_eqIntS.f]
  by_cases h : a.length = b.length
  · rw [if_pos (by omega)]
    have := eqIntS_l0 a b h hb a.length 0 k (by omega) (by omega) (by omega)
    simpa using this
  · rw [if_neg (by omega)]
    congr 1
    symm
    apply decide_eq_false
    intro e
    exact h (by rw [e])
/-! #### marks -/
def marks (n : Nat) (k : Int) : List Int := (List.range n).map fun (i : Nat) => k + (i : Int)
theorem marks_length (n : Nat) (k : Int) : (marks n k).length = n := by simp [marks]
theorem marks_succ (n : Nat) (k : Int) : marks (n + 1) k = k :: marks n (k + 1) := by
  unfold marks
  rw [List.range_succ_eq_map, List.map_cons, List.map_map]
  congr 1
  · simp
  · apply List.map_congr_left
    intro a _
    simp
    omega
theorem marks_zero (k : Int) : marks 0 k = [] := rfl
theorem markIntS_l0 : ∀ (d i : Nat) (x0 : List Int) (x1 : Int) (k : Nat), x0.length - i = d → i ≤ x0.length → d < k → x0.length ≤ 1152921504606846976 → 0 ≤ x1 → x1 + d ≤ 4611686018427387904 →
    laws_markIntS.l0 k x0 x1 (i : Int) = some (x1 + d, x0.take i ++ marks d x1) := by
  intro d
  induction d with
  | zero =>
    intro i x0 x1 k hd hi hk hb h0 h1
    obtain ⟨k, rfl⟩ : ∃ m, k = m + 1 := ⟨k - 1, by omega⟩
    rw [laws_markIntS.l0, if_neg (by omega)]
    have : i = x0.length := by omega
    subst this
    simp [marks]
  | succ d ih =>
    intro i x0 x1 k hd hi hk hb h0 h1
    obtain ⟨k, rfl⟩ : ∃ m, k = m + 1 := ⟨k - 1, by omega⟩
    rw [laws_markIntS.l0, if_pos (by omega), if_pos (by omega), w64 _ (by omega) (by omega), w64 _ (by omega) (by omega)]
    rw [show ((i : Int) + 1) = ((i + 1 : Nat) : Int) by omega, show (i : Int).toNat = i by omega]
    rw [ih (i + 1) (x0.set i x1) (x1 + 1) k (by simp; omega) (by simp; omega) (by omega) (by simpa using hb) (by omega) (by omega)]
    rw [marks_succ]
    congr 2
    · omega
    · rw [take_set_succ _ _ _ (by omega)]
      simp
theorem markIntS_ev (l : List Int) (k1 : Int) (hb : l.length ≤ 1152921504606846976) (h0 : 0 ≤ k1) (h1 : k1 + l.length ≤ 4611686018427387904) : Ev (fun k => laws_markIntS.f k l k1) (k1 + l.length, marks l.length k1) := by
  refine ⟨l.length + 1, fun k hk => ?_⟩
  simp only [laws_markIntS.f]
  have := markIntS_l0 l.length 0 l k1 k (by omega) (by omega) (by omega) hb h0 h1
  simpa using this
theorem heldIntS_l0 (n : Nat) (k0 : Int) (hb : n ≤ 1152921504606846976) (h0 : 0 ≤ k0) (h1 : k0 + n ≤ 4611686018427387904) : ∀ (d i : Nat) (k : Nat), n - i = d → i ≤ n → d < k →
    laws_heldIntS.l0 k (marks n k0) (k0 + i) (i : Int) = some (k0 + n) := by
  intro d
  induction d with
  | zero =>
    intro i k hd hi hk
    obtain ⟨k, rfl⟩ : ∃ m, k = m + 1 := ⟨k - 1, by omega⟩
    rw [laws_heldIntS.l0, if_neg (by rw [marks_length]; omega)]
    congr 1; omega
  | succ d ih =>
    intro i k hd hi hk
    obtain ⟨k, rfl⟩ : ∃ m, k = m + 1 := ⟨k - 1, by omega⟩
    have h2 : i < (marks n k0).length := by rw [marks_length]; omega
    rw [laws_heldIntS.l0, if_pos (by rw [marks_length]; omega), if_pos (by omega), rd_nat _ _ h2, if_pos (by simp [marks]), w64 _ (by omega) (by omega), w64 _ (by omega) (by omega)]
    have := ih (i + 1) k (by omega) (by omega) (by omega)
    rw [show ((i : Int) + 1) = ((i + 1 : Nat) : Int) by omega, show (k0 + (i : Int) + 1) = k0 + ((i + 1 : Nat) : Int) by omega]
    exact this
theorem heldIntS_ev (n : Nat) (k0 : Int) (hb : n ≤ 1152921504606846976) (h0 : 0 ≤ k0) (h1 : k0 + n ≤ 4611686018427387904) : Ev (fun k => laws_heldIntS.f k (marks n k0) k0) (k0 + n) := by
  refine ⟨n + 1, fun k hk => ?_⟩
  simp only [laws_heldIntS.f]
  have := heldIntS_l0 n k0 hb h0 h1 n 0 k (by omega) (by omega) (by omega)
  simpa using this
/-! #### bounds, members -/
def inB (n lo hi : Int) : Bool := decide (lo ≤ n ∧ n ≤ hi)
theorem l1In_eq (a b c : Int) : spec_l1In.f a b c = some (inB a b c) := by
  unfold spec_l1In.f inB
  by_cases h : a ≥ b
  · rw [if_pos h]; congr 1; simp; omega
  · rw [if_neg h]; congr 1; symm; apply decide_eq_false; omega
theorem within_eq (a b c : Int) : impl_within.f a b c = some (inB a b c) := by
  unfold impl_within.f inB
  by_cases h : b ≤ a
  · rw [if_pos h]; congr 1; simp; omega
  · rw [if_neg h]; congr 1; symm; apply decide_eq_false; omega
def allIn (l : List Int) (lo hi : Int) : Bool := l.all fun x => inB x lo hi
theorem l1All_l0 (lo hi : Int) (l : List Int) (hb : l.length ≤ 1152921504606846976) : ∀ (d i : Nat) (k : Nat), l.length - i = d → i ≤ l.length → d < k →
    spec_l1All.l0 k lo hi l (l.length : Int) (i : Int) = some (allIn (l.drop i) lo hi) := by
  intro d
  induction d with
  | zero =>
    intro i k hd hi' hk
    obtain ⟨k, rfl⟩ : ∃ m, k = m + 1 := ⟨k - 1, by omega⟩
    rw [spec_l1All.l0, if_neg (by omega), List.drop_eq_nil_of_le (by omega)]
    rfl
  | succ d ih =>
    intro i k hd hi' hk
    obtain ⟨k, rfl⟩ : ∃ m, k = m + 1 := ⟨k - 1, by omega⟩
    have h1 : i < l.length := by omega
    rw [spec_l1All.l0, if_pos (by omega), if_pos (by omega), if_pos (by omega), l1In_eq, Option.bind_some, w64 _ (by omega) (by omega), rd_nat _ _ h1]
    rw [show ((i : Int) + 1) = ((i + 1 : Nat) : Int) by omega, ih (i + 1) k (by omega) (by omega) (by omega), drop_cons l i h1]
    unfold allIn
    rw [List.all_cons]
    generalize l.drop (i + 1) = tl
    by_cases h : inB l[i] lo hi = true
    · rw [if_pos h, h]; simp
    · rw [if_neg h]; simp at h; rw [h]; simp
theorem l1All_ev (l : List Int) (lo hi : Int) (hb : l.length ≤ 1152921504606846976) : Ev (fun k => spec_l1All.f k l lo hi) (allIn l lo hi) := by
  refine ⟨l.length + 1, fun k hk => ?_⟩
  simp only [spec_l1All.f]
  have := l1All_l0 lo hi l hb l.length 0 k (by omega) (by omega) (by omega)
  simpa using this
end Go.Proofs.Ythjejaoadhhpdaa.P

namespace Go.Proofs.Ythjejaoadhhpdaa.P
open Go.RowKit Go.Proofs.YthjejaoadhhpdaaW.PrintWords Go.Proofs.YthjejaoadhhpdaaW.PrintLast Go.Proofs.YthjejaoadhhpdaaW.PrintMore
set_option linter.unusedVariables false
set_option linter.unusedSimpArgs false

theorem l1Has_l0 (x : Int) (l : List Int) (hb : l.length ≤ 1152921504606846976) : ∀ (d i : Nat) (k : Nat), l.length - i = d → i ≤ l.length → d < k →
    spec_l1Has.l0 k x l (l.length : Int) (i : Int) = some (decide (x ∈ l.drop i)) := by
  intro d
  induction d with
  | zero =>
    intro i k hd hi' hk
    obtain ⟨k, rfl⟩ : ∃ m, k = m + 1 := ⟨k - 1, by omega⟩
    rw [spec_l1Has.l0, if_neg (by omega), List.drop_eq_nil_of_le (by omega)]
    rfl
  | succ d ih =>
    intro i k hd hi' hk
    obtain ⟨k, rfl⟩ : ∃ m, k = m + 1 := ⟨k - 1, by omega⟩
    have h1 : i < l.length := by omega
    rw [spec_l1Has.l0, if_pos (by omega), if_pos (by omega), if_pos (by omega), w64 _ (by omega) (by omega), rd_nat _ _ h1]
    rw [show ((i : Int) + 1) = ((i + 1 : Nat) : Int) by omega, ih (i + 1) k (by omega) (by omega) (by omega), drop_cons l i h1]
    generalize l.drop (i + 1) = tl
    by_cases h : l[i] = x
    · rw [if_pos h]; simp [h]
    · rw [if_neg h]; congr 1; simp [Ne.symm h]
theorem l1Has_ev (l : List Int) (x : Int) (hb : l.length ≤ 1152921504606846976) : Ev (fun k => spec_l1Has.f k l x) (decide (x ∈ l)) := by
  refine ⟨l.length + 1, fun k hk => ?_⟩
  simp only [spec_l1Has.f]
  have := l1Has_l0 x l hb l.length 0 k (by omega) (by omega) (by omega)
  simpa using this
/-- slices.Index tells at least 0 just for a member. -/
theorem Index_l0 (x : Int) (l : List Int) (hb : l.length ≤ 1152921504606846976) : ∀ (d i : Nat) (k : Nat), l.length - i = d → i ≤ l.length → d < k →
    slices_Index_int_int.l0 k l x (l.length : Int) (i : Int) = some (if x ∈ l.drop i then (i : Int) + ((l.drop i).idxOf x : Nat) else -1) := by
  intro d
  induction d with
  | zero =>
    intro i k hd hi' hk
    obtain ⟨k, rfl⟩ : ∃ m, k = m + 1 := ⟨k - 1, by omega⟩
    rw [slices_Index_int_int.l0, if_neg (by omega), List.drop_eq_nil_of_le (by omega)]
    rfl
  | succ d ih =>
    intro i k hd hi' hk
    obtain ⟨k, rfl⟩ : ∃ m, k = m + 1 := ⟨k - 1, by omega⟩
    have h1 : i < l.length := by omega
    rw [slices_Index_int_int.l0, if_pos (by omega), if_pos (by omega), if_pos (by omega), w64 _ (by omega) (by omega), rd_nat _ _ h1]
    rw [show ((i : Int) + 1) = ((i + 1 : Nat) : Int) by omega, ih (i + 1) k (by omega) (by omega) (by omega), drop_cons l i h1]
    generalize l.drop (i + 1) = tl
    by_cases h : x = l[i]
    · rw [if_pos h]; simp [h]
    · rw [if_neg h]; congr 1
      rw [List.idxOf_cons, show (l[i] == x) = false by simpa using Ne.symm h, cond_false]
      by_cases h2 : x ∈ tl
      · rw [if_pos h2, if_pos (by simp [h2])]; omega
      · rw [if_neg h2, if_neg (by simp [h, h2])]
theorem Index_ev (l : List Int) (x : Int) (hb : l.length ≤ 1152921504606846976) : Ev (fun k => slices_Index_int_int.f k l x) (if x ∈ l then (l.idxOf x : Int) else -1) := by
  refine ⟨l.length + 1, fun k hk => ?_⟩
  simp only [slices_Index_int_int.f]
  have := Index_l0 x l hb l.length 0 k (by omega) (by omega) (by omega)
  simpa using this
theorem Contains_ev (l : List Int) (x : Int) (hb : l.length ≤ 1152921504606846976) : Ev (fun k => slices_Contains_int_int.f k l x) (decide (x ∈ l)) := by
  obtain ⟨K, hK⟩ := ev_get (Index_ev l x hb)
  refine ⟨K, fun k hk => ?_⟩
  simp only [slices_Contains_int_int.f, hK k hk, Option.bind_some]
  congr 1
  by_cases h : x ∈ l
  · simp [h]
  · simp [h]
/-! #### lists that have each of 0..n-1 once -/
def permB (l : List Int) (n : Int) : Bool := decide ((l.length : Int) = n ∧ (∀ x ∈ l, 0 ≤ x ∧ x ≤ n - 1) ∧ l.Nodup)
/-- What the loop of isPerm looks at from place i on. -/
def restPerm (l : List Int) (n : Int) (i : Nat) : Prop := ∀ j, i ≤ j → ∀ h : j < l.length, (0 ≤ l[j] ∧ l[j] ≤ n - 1) ∧ l[j] ∉ l.take j
def restOnce (l : List Int) (i : Nat) : Prop := ∀ j, i ≤ j → ∀ h : j < l.length, l[j] ∉ l.take j
theorem restOnce_iff (l : List Int) : restOnce l 0 ↔ l.Nodup := by
  constructor
  · intro h
    rw [List.nodup_iff_pairwise_ne, List.pairwise_iff_getElem]
    intro i j hi hj hij e
    exact h j (by omega) hj (by rw [← e]; exact List.mem_take_iff_getElem.2 ⟨i, by omega, rfl⟩)
  · intro h j _ hj hm
    rw [List.nodup_iff_pairwise_ne, List.pairwise_iff_getElem] at h
    obtain ⟨i, hi, e⟩ := List.mem_take_iff_getElem.1 hm
    exact h i j (by omega) hj (by omega) e
theorem restOnce_step (l : List Int) (i : Nat) (h : i < l.length) : restOnce l i ↔ l[i] ∉ l.take i ∧ restOnce l (i + 1) := by
  constructor
  · intro H
    exact ⟨H i (by omega) h, fun j hj hjl => H j (by omega) hjl⟩
  · rintro ⟨h0, H⟩ j hj hjl
    by_cases e : j = i
    · subst e; exact h0
    · exact H j (by omega) hjl
open Classical in
theorem isPerm_l0 (l : List Int) (n : Int) (hn : n = l.length) (hb : l.length ≤ 1152921504606846976) : ∀ (d i : Nat), l.length - i = d → i ≤ l.length →
    Ev (fun k => impl_isPerm.l0 k l n l (l.length : Int) (i : Int)) (decide ((∀ x ∈ l.drop i, 0 ≤ x ∧ x ≤ n - 1) ∧ restOnce l i)) := by
  intro d
  induction d with
  | zero =>
    intro i hd hi'
    refine ⟨1, fun k hk => ?_⟩
    obtain ⟨k, rfl⟩ : ∃ m, k = m + 1 := ⟨k - 1, by omega⟩
    simp only [impl_isPerm.l0]
    rw [if_neg (by omega)]
    congr 1
    symm
    apply decide_eq_true
    rw [List.drop_eq_nil_of_le (by omega)]
    exact ⟨by simp, fun j hj h => by omega⟩
  | succ d ih =>
    intro i hd hi'
    have h1 : i < l.length := by omega
    obtain ⟨K1, h3⟩ := ev_get (ih (i + 1) (by omega) (by omega))
    obtain ⟨K2, h4⟩ := ev_get (Contains_ev (l.take i) l[i] (by simp; omega))
    refine ⟨K1 + K2 + 1, fun k hk => ?_⟩
    obtain ⟨k, rfl⟩ : ∃ m, k = m + 1 := ⟨k - 1, by omega⟩
    simp only [impl_isPerm.l0]
    rw [if_pos (by omega), if_pos (by omega), if_pos (by omega), within_eq, Option.bind_some, w64 (n - 1) (by omega) (by omega), w64 _ (by omega) (by omega), rd_nat _ _ h1, if_pos (show (i : Int) ≤ (l.length : Int) by omega), show (i : Int).toNat = i by omega, show ((i : Int) + 1) = ((i + 1 : Nat) : Int) by omega, h4 k (by omega), h3 k (by omega), Option.bind_some]
    have hs := restOnce_step l i h1
    rw [drop_cons l i h1]
    by_cases h : inB l[i] 0 (n - 1) = true
    · rw [if_pos h]
      have h' : 0 ≤ l[i] ∧ l[i] ≤ n - 1 := by simpa [inB] using h
      by_cases h2 : l[i] ∈ l.take i
      · simp only [h2, decide_true, if_true]
        congr 1
        symm; apply decide_eq_false
        rintro ⟨_, hr⟩
        exact (hs.1 hr).1 h2
      · simp only [h2, decide_false, if_false, Bool.false_eq_true]
        congr 1
        rw [decide_eq_decide]
        constructor
        · rintro ⟨ha, hr⟩
          refine ⟨?_, hs.2 ⟨h2, hr⟩⟩
          intro x hx
          rcases List.mem_cons.1 hx with rfl | hx
          · exact h'
          · exact ha x hx
        · rintro ⟨ha, hr⟩
          exact ⟨fun x hx => ha x (List.mem_cons_of_mem _ hx), (hs.1 hr).2⟩
    · rw [if_neg h]
      congr 1
      symm; apply decide_eq_false
      rintro ⟨ha, _⟩
      exact h (by simpa [inB] using ha _ (List.mem_cons_self ..))
theorem isPerm_ev (l : List Int) (n : Int) (hb : l.length ≤ 1152921504606846976) : Ev (fun k => impl_isPerm.f k l n) (permB l n) := by
  by_cases h : (l.length : Int) = n
  · obtain ⟨K, hK⟩ := ev_get (isPerm_l0 l n h.symm hb l.length 0 (by omega) (by omega))
    refine ⟨K, fun k hk => ?_⟩
    simp only [impl_isPerm.f]
    rw [if_pos h]
    refine (hK k hk).trans ?_
    congr 1
    unfold permB
    rw [decide_eq_decide, restOnce_iff, List.drop_zero]
    exact ⟨fun ⟨a, b⟩ => ⟨h, a, b⟩, fun ⟨_, a, b⟩ => ⟨a, b⟩⟩
  · refine ⟨0, fun k hk => ?_⟩
    simp only [impl_isPerm.f]
    rw [if_neg h]
    congr 1
    symm; apply decide_eq_false
    exact fun ⟨a, _⟩ => h a
end Go.Proofs.Ythjejaoadhhpdaa.P

namespace Go.Proofs.Ythjejaoadhhpdaa.P
open Go.RowKit Go.Proofs.YthjejaoadhhpdaaW.PrintWords Go.Proofs.YthjejaoadhhpdaaW.PrintLast Go.Proofs.YthjejaoadhhpdaaW.PrintMore
set_option linter.unusedVariables false
set_option linter.unusedSimpArgs false

/-- A list that has each of 0..n-1 once, n its length, 1 to 8. -/
def goodB (q : List Int) : Bool := decide (1 ≤ q.length ∧ q.length ≤ 8) && permB q q.length
theorem goodB_iff (q : List Int) : goodB q = true ↔ 1 ≤ q.length ∧ q.length ≤ 8 ∧ (∀ x ∈ q, 0 ≤ x ∧ x ≤ (q.length : Int) - 1) ∧ q.Nodup := by
  unfold goodB permB
  simp only [Bool.and_eq_true, decide_eq_true_eq]
  constructor
  · rintro ⟨⟨a, b⟩, _, c, d⟩; exact ⟨a, b, c, d⟩
  · rintro ⟨a, b, c, d⟩; exact ⟨⟨a, b⟩, trivial, c, d⟩
theorem isMany_eq (n : Int) : impl_isMany.f n = some (inB n 1 8) := by
  simp only [impl_isMany.f, within_eq, Option.bind_some]
theorem isList_ev (q : List Int) (hb : q.length ≤ 1152921504606846976) : Ev (fun k => impl_isList.f k q) (goodB q) := by
  obtain ⟨K, hK⟩ := ev_get (isPerm_ev q q.length hb)
  refine ⟨K, fun k hk => ?_⟩
  simp only [impl_isList.f, isMany_eq, Option.bind_some, hK k hk]
  unfold goodB inB
  by_cases h : 1 ≤ (q.length : Int) ∧ (q.length : Int) ≤ 8
  · rw [if_pos (by simpa using h)]
    rw [show decide (1 ≤ q.length ∧ q.length ≤ 8) = true by simp; omega, Bool.true_and]
  · rw [if_neg (by simpa using h)]
    rw [show decide (1 ≤ q.length ∧ q.length ≤ 8) = false by apply decide_eq_false; omega, Bool.false_and]
open Classical in
theorem quGood_l0 (l : List Int) (hb : l.length ≤ 1152921504606846976) : ∀ (d i : Nat), l.length - i = d → i ≤ l.length →
    Ev (fun k => spec_quGood.l0 k l l (l.length : Int) (i : Int)) (decide (restOnce l i)) := by
  intro d
  induction d with
  | zero =>
    intro i hd hi'
    refine ⟨1, fun k hk => ?_⟩
    obtain ⟨k, rfl⟩ : ∃ m, k = m + 1 := ⟨k - 1, by omega⟩
    simp only [spec_quGood.l0]
    rw [if_neg (by omega)]
    congr 1
    symm
    apply decide_eq_true
    exact fun j hj h => by omega
  | succ d ih =>
    intro i hd hi'
    have h1 : i < l.length := by omega
    obtain ⟨K1, h3⟩ := ev_get (ih (i + 1) (by omega) (by omega))
    obtain ⟨K2, h4⟩ := ev_get (l1Has_ev (l.take i) l[i] (by simp; omega))
    refine ⟨K1 + K2 + 1, fun k hk => ?_⟩
    obtain ⟨k, rfl⟩ : ∃ m, k = m + 1 := ⟨k - 1, by omega⟩
    simp only [spec_quGood.l0]
    rw [if_pos (by omega), if_pos (by omega), if_pos (by omega), w64 _ (by omega) (by omega), rd_nat _ _ h1, if_pos (show (i : Int) ≤ (l.length : Int) by omega), show (i : Int).toNat = i by omega, show ((i : Int) + 1) = ((i + 1 : Nat) : Int) by omega]
    simp only [Option.bind_some, h4 k (by omega), h3 k (by omega)]
    have hs := restOnce_step l i h1
    by_cases h2 : l[i] ∈ l.take i
    · simp only [h2, decide_true, if_true]
      congr 1
      symm; apply decide_eq_false
      exact fun hr => (hs.1 hr).1 h2
    · simp only [h2, decide_false, if_false, Bool.false_eq_true]
      congr 1
      rw [decide_eq_decide]
      exact ⟨fun hr => hs.2 ⟨h2, hr⟩, fun hr => (hs.1 hr).2⟩
theorem quGood_ev (q : List Int) (hb : q.length ≤ 1152921504606846976) : Ev (fun k => spec_quGood.f k q) (goodB q) := by
  obtain ⟨K1, h1⟩ := ev_get (l1All_ev q 0 ((q.length : Int) - 1) hb)
  obtain ⟨K2, h2⟩ := ev_get (quGood_l0 q hb q.length 0 (by omega) (by omega))
  refine ⟨K1 + K2 + 1, fun k hk => ?_⟩
  simp only [spec_quGood.f, l1In_eq, Option.bind_some]
  rw [w64 _ (by omega) (by omega), h1 k (by omega), Option.bind_some]
  obtain ⟨k, rfl⟩ : ∃ m, k = m + 1 := ⟨k - 1, by omega⟩
  simp only [spec_quGood.j0]
  unfold goodB permB
  by_cases h : 1 ≤ q.length ∧ q.length ≤ 8
  · rw [if_pos (by unfold inB; simp; omega), show decide (1 ≤ q.length ∧ q.length ≤ 8) = true by simpa using h, Bool.true_and]
    by_cases ha : allIn q 0 ((q.length : Int) - 1) = true
    · rw [ha, if_neg (by simp)]
      refine (h2 k (by omega)).trans ?_
      congr 1
      rw [decide_eq_decide, restOnce_iff]
      refine ⟨fun hn => ⟨rfl, ?_, hn⟩, fun hn => hn.2.2⟩
      unfold allIn at ha
      rw [List.all_eq_true] at ha
      intro x hx
      simpa [inB] using ha x hx
    · simp only [Bool.not_eq_true] at ha
      rw [ha, if_pos (by rfl)]
      congr 1
      symm; apply decide_eq_false
      rintro ⟨_, hx, _⟩
      unfold allIn at ha
      rw [List.all_eq_false] at ha
      obtain ⟨x, hm, hn⟩ := ha
      exact hn (by simpa [inB] using hx x hm)
  · rw [if_neg (by unfold inB; simp; omega), if_pos trivial, show decide (1 ≤ q.length ∧ q.length ≤ 8) = false by simpa using h, Bool.false_and]
theorem good_len {q : List Int} (h : goodB q = true) : 1 ≤ q.length ∧ q.length ≤ 8 := ⟨((goodB_iff q).1 h).1, ((goodB_iff q).1 h).2.1⟩
theorem good_at {q : List Int} (h : goodB q = true) (i : Nat) (hi : i < q.length) : 0 ≤ q[i] ∧ q[i] < q.length := by
  have := ((goodB_iff q).1 h).2.2.1 q[i] (List.getElem_mem hi)
  omega

/-! #### mirrors -/
def mirrorL (q : List Int) : List Int := q.map fun x => (q.length : Int) - 1 - x
theorem mirrorL_length (q : List Int) : (mirrorL q).length = q.length := by simp [mirrorL]
theorem quMirror_l0 (q : List Int) (hg : goodB q = true) : ∀ (d i : Nat) (acc : List Int) (k : Nat), q.length - i = d → i ≤ q.length → d < k → acc.length = i →
    spec_quMirror.l0 k q acc q (q.length : Int) (i : Int) = some (acc ++ (mirrorL q).drop i) := by
  have hl := good_len hg
  intro d
  induction d with
  | zero =>
    intro i acc k hd hi hk ha
    obtain ⟨k, rfl⟩ : ∃ m, k = m + 1 := ⟨k - 1, by omega⟩
    rw [spec_quMirror.l0, if_neg (by omega), List.drop_eq_nil_of_le (by rw [mirrorL_length]; omega), List.append_nil]
  | succ d ih =>
    intro i acc k hd hi hk ha
    obtain ⟨k, rfl⟩ : ∃ m, k = m + 1 := ⟨k - 1, by omega⟩
    have h1 : i < q.length := by omega
    have hx := good_at hg i h1
    rw [spec_quMirror.l0, if_pos (by omega), if_pos (by omega), if_pos (by omega), if_pos (by omega), rd_nat _ _ h1, w64 ((i : Int) + 1) (by omega) (by omega), w64 ((q.length : Int) - 1) (by omega) (by omega), w64 _ (by omega) (by omega)]
    rw [show ((i : Int) + 1) = ((i + 1 : Nat) : Int) by omega, ih (i + 1) _ k (by omega) (by omega) (by omega) (by simp [ha])]
    rw [drop_cons (mirrorL q) i (by rw [mirrorL_length]; omega), List.append_assoc]
    congr 2
    simp only [List.singleton_append, List.cons.injEq, and_true]
    simp [mirrorL]
theorem quMirror_ev (q : List Int) (hg : goodB q = true) : Ev (fun k => spec_quMirror.f k q) (mirrorL q) := by
  refine ⟨q.length + 1, fun k hk => ?_⟩
  simp only [spec_quMirror.f]
  have := quMirror_l0 q hg q.length 0 [] k (by omega) (by omega) (by omega) rfl
  simpa using this
theorem mirror_l0 (q : List Int) (hg : goodB q = true) : ∀ (d i : Nat) (acc : List Int) (k : Nat), q.length - i = d → i ≤ q.length → d < k → acc.length = i →
    impl_mirror.l0 k q acc q (q.length : Int) (i : Int) = some (acc ++ (mirrorL q).drop i) := by
  have hl := good_len hg
  intro d
  induction d with
  | zero =>
    intro i acc k hd hi hk ha
    obtain ⟨k, rfl⟩ : ∃ m, k = m + 1 := ⟨k - 1, by omega⟩
    rw [impl_mirror.l0, if_neg (by omega), List.drop_eq_nil_of_le (by rw [mirrorL_length]; omega), List.append_nil]
  | succ d ih =>
    intro i acc k hd hi hk ha
    obtain ⟨k, rfl⟩ : ∃ m, k = m + 1 := ⟨k - 1, by omega⟩
    have h1 : i < q.length := by omega
    have hx := good_at hg i h1
    rw [impl_mirror.l0, if_pos (by omega), if_pos (by omega), if_pos (by omega), if_pos (by omega), rd_nat _ _ h1, w64 ((i : Int) + 1) (by omega) (by omega), w64 ((q.length : Int) - 1) (by omega) (by omega), w64 _ (by omega) (by omega)]
    rw [show ((i : Int) + 1) = ((i + 1 : Nat) : Int) by omega, ih (i + 1) _ k (by omega) (by omega) (by omega) (by simp [ha])]
    rw [drop_cons (mirrorL q) i (by rw [mirrorL_length]; omega), List.append_assoc]
    congr 2
    simp only [List.singleton_append, List.cons.injEq, and_true]
    simp [mirrorL]
theorem mirror_ev (q : List Int) (hg : goodB q = true) : Ev (fun k => impl_mirror.f k q) (mirrorL q) := by
  refine ⟨q.length + 1, fun k hk => ?_⟩
  simp only [impl_mirror.f]
  have := mirror_l0 q hg q.length 0 [] k (by omega) (by omega) (by omega) rfl
  simpa using this
end Go.Proofs.Ythjejaoadhhpdaa.P

namespace Go.Proofs.Ythjejaoadhhpdaa.P
open Go.RowKit Go.Proofs.YthjejaoadhhpdaaW.PrintWords Go.Proofs.YthjejaoadhhpdaaW.PrintLast Go.Proofs.YthjejaoadhhpdaaW.PrintMore
set_option linter.unusedVariables false
set_option linter.unusedSimpArgs false

/-! #### straight lists -/
def straightL (n step : Int) : List Int := (List.range n.toNat).map fun (r : Nat) => (step * (r : Int)) % n
theorem straightL_length (n step : Int) : (straightL n step).length = n.toNat := by simp [straightL]
theorem straightL_take (n step : Int) (i : Nat) (h : i < n.toNat) : (straightL n step).take (i + 1) = (straightL n step).take i ++ [(step * (i : Int)) % n] := by
  rw [List.take_add_one]
  simp [straightL, List.getElem?_eq_getElem, h]
def straightR (n step : Int) : List Int × Bool :=
  if inB n 1 8 = true ∧ (min 1 (n - 1) ≤ step ∧ step ≤ n - 1) ∧ permB (straightL n step) n = true then (straightL n step, true) else ([], false)
theorem good_perm (q : List Int) (n : Int) (hl : (q.length : Int) = n) (hn : 1 ≤ n) (hn2 : n ≤ 8) : goodB q = permB q n := by
  unfold goodB
  rw [hl, show decide (1 ≤ q.length ∧ q.length ≤ 8) = true by simp; omega, Bool.true_and]
theorem specStraight_l0 (n step : Int) (hn : 1 ≤ n) (hn2 : n ≤ 8) (hs : 0 ≤ step) (hs2 : step ≤ 7) (K : Nat) (hK : ∀ k, K ≤ k → spec_quGood.f k (straightL n step) = some (goodB (straightL n step))) :
    ∀ (d i : Nat) (k : Nat), n.toNat - i = d → i ≤ n.toNat → d + K < k →
    spec_StraightQueens.l0 k n step ((straightL n step).take i) (i : Int) = some (if permB (straightL n step) n = true then (straightL n step, true) else ([], false)) := by
  intro d
  induction d with
  | zero =>
    intro i k hd hi hk
    obtain ⟨k, rfl⟩ : ∃ m, k = m + 1 := ⟨k - 1, by omega⟩
    rw [spec_StraightQueens.l0, if_neg (by omega), List.take_of_length_le (by rw [straightL_length]; omega), hK k (by omega), Option.bind_some,
      good_perm _ n (by rw [straightL_length]; omega) hn hn2]
    split <;> rfl
  | succ d ih =>
    intro i k hd hi hk
    obtain ⟨k, rfl⟩ : ∃ m, k = m + 1 := ⟨k - 1, by omega⟩
    have hi1 : i < n.toNat := by omega
    have hm1 : 0 ≤ step * (i : Int) := Int.mul_nonneg hs (by omega)
    have hm2 : step * (i : Int) ≤ 7 * 8 := Int.mul_le_mul hs2 (by omega) (by omega) (by omega)
    rw [spec_StraightQueens.l0, if_pos (by omega), if_neg (by omega), if_pos (by rw [List.length_take]; omega), w64 (step * (i : Int)) (by omega) (by omega), Int.tmod_eq_emod_of_nonneg hm1, w64 _ (by omega) (by omega),
      show ((i : Int) + 1) = ((i + 1 : Nat) : Int) by omega, ← straightL_take n step i hi1, ih (i + 1) k (by omega) (by omega) (by omega)]
theorem quSide_eq (n : Int) : spec_quSide.f n = some (inB n 1 8) := by
  simp only [spec_quSide.f, l1In_eq, Option.bind_some]
theorem l1Least_eq (a b : Int) : spec_l1Least.f a b = some (min a b) := by
  unfold spec_l1Least.f
  split <;> (congr 1; omega)
theorem specStraight_ev (n step : Int) : Ev (fun k => spec_StraightQueens.f k n step) (straightR n step) := by
  by_cases h1 : inB n 1 8 = true
  · have hn : 1 ≤ n ∧ n ≤ 8 := by simpa [inB] using h1
    by_cases h2 : min 1 (n - 1) ≤ step ∧ step ≤ n - 1
    · obtain ⟨K, hK⟩ := ev_get (quGood_ev (straightL n step) (by rw [straightL_length]; omega))
      refine ⟨K + n.toNat + 3, fun k hk => ?_⟩
      simp only [spec_StraightQueens.f, quSide_eq, Option.bind_some, h1, if_true]
      rw [w64 _ (by omega) (by omega), l1Least_eq, Option.bind_some, l1In_eq, Option.bind_some, show inB step (min 1 (n - 1)) (n - 1) = true by simpa [inB] using h2]
      obtain ⟨k, rfl⟩ : ∃ m, k = m + 1 := ⟨k - 1, by omega⟩
      rw [spec_StraightQueens.j0, if_neg (by simp)]
      have := specStraight_l0 n step hn.1 hn.2 (by omega) (by omega) K hK n.toNat 0 k (by omega) (by omega) (by omega)
      refine this.trans ?_
      unfold straightR
      simp only [h1, h2, true_and, and_self]
    · refine ⟨3, fun k hk => ?_⟩
      simp only [spec_StraightQueens.f, quSide_eq, Option.bind_some, h1, if_true]
      rw [w64 _ (by omega) (by omega), l1Least_eq, Option.bind_some, l1In_eq, Option.bind_some, show inB step (min 1 (n - 1)) (n - 1) = false by simp only [inB]; exact decide_eq_false h2]
      obtain ⟨k, rfl⟩ : ∃ m, k = m + 1 := ⟨k - 1, by omega⟩
      rw [spec_StraightQueens.j0, if_pos (by simp)]
      unfold straightR
      rw [if_neg (fun h => h2 h.2.1)]
  · refine ⟨3, fun k hk => ?_⟩
    simp only [spec_StraightQueens.f, quSide_eq, Option.bind_some, h1]
    obtain ⟨k, rfl⟩ : ∃ m, k = m + 1 := ⟨k - 1, by omega⟩
    rw [if_neg (by simp), spec_StraightQueens.j0, if_pos rfl]
    unfold straightR
    rw [if_neg (fun h => h1 h.1)]
theorem implStraight_l0 (n step : Int) (hn : 1 ≤ n) (hn2 : n ≤ 8) (hs : 0 ≤ step) (hs2 : step ≤ 7) (K : Nat) (hK : ∀ k, K ≤ k → impl_isPerm.f k (straightL n step) n = some (permB (straightL n step) n)) :
    ∀ (d i : Nat) (k : Nat), n.toNat - i = d → i ≤ n.toNat → d + K < k →
    impl_StraightQueens.l0 k n step ((straightL n step).take i) n (i : Int) = some (if permB (straightL n step) n = true then (straightL n step, true) else ([], false)) := by
  intro d
  induction d with
  | zero =>
    intro i k hd hi hk
    obtain ⟨k, rfl⟩ : ∃ m, k = m + 1 := ⟨k - 1, by omega⟩
    rw [impl_StraightQueens.l0, if_neg (by omega), List.take_of_length_le (by rw [straightL_length]; omega), hK k (by omega), Option.bind_some]
    split <;> rfl
  | succ d ih =>
    intro i k hd hi hk
    obtain ⟨k, rfl⟩ : ∃ m, k = m + 1 := ⟨k - 1, by omega⟩
    have hi1 : i < n.toNat := by omega
    have hm1 : 0 ≤ step * (i : Int) := Int.mul_nonneg hs (by omega)
    have hm2 : step * (i : Int) ≤ 7 * 8 := Int.mul_le_mul hs2 (by omega) (by omega) (by omega)
    rw [impl_StraightQueens.l0, if_pos (by omega), if_neg (by omega), if_pos (by rw [List.length_take]; omega), w64 (step * (i : Int)) (by omega) (by omega), Int.tmod_eq_emod_of_nonneg hm1, w64 _ (by omega) (by omega),
      show ((i : Int) + 1) = ((i + 1 : Nat) : Int) by omega, ← straightL_take n step i hi1, ih (i + 1) k (by omega) (by omega) (by omega)]
theorem mn_eq (a b : Int) : mn a b = min a b := by unfold mn; omega
theorem implStraight_ev (n step : Int) : Ev (fun k => impl_StraightQueens.f k n step) (straightR n step) := by
  by_cases h1 : inB n 1 8 = true
  · have hn : 1 ≤ n ∧ n ≤ 8 := by simpa [inB] using h1
    by_cases h2 : min 1 (n - 1) ≤ step ∧ step ≤ n - 1
    · obtain ⟨K, hK⟩ := ev_get (isPerm_ev (straightL n step) n (by rw [straightL_length]; omega))
      refine ⟨K + n.toNat + 3, fun k hk => ?_⟩
      simp only [impl_StraightQueens.f, isMany_eq, Option.bind_some, h1, if_true]
      rw [w64 _ (by omega) (by omega), mn_eq, within_eq, Option.bind_some, show inB step (min 1 (n - 1)) (n - 1) = true by simpa [inB] using h2]
      obtain ⟨k, rfl⟩ : ∃ m, k = m + 1 := ⟨k - 1, by omega⟩
      rw [impl_StraightQueens.j0, if_neg (by simp)]
      have := implStraight_l0 n step hn.1 hn.2 (by omega) (by omega) K hK n.toNat 0 k (by omega) (by omega) (by omega)
      refine this.trans ?_
      unfold straightR
      simp only [h1, h2, true_and, and_self]
    · refine ⟨3, fun k hk => ?_⟩
      simp only [impl_StraightQueens.f, isMany_eq, Option.bind_some, h1, if_true]
      rw [w64 _ (by omega) (by omega), mn_eq, within_eq, Option.bind_some, show inB step (min 1 (n - 1)) (n - 1) = false by simp only [inB]; exact decide_eq_false h2]
      obtain ⟨k, rfl⟩ : ∃ m, k = m + 1 := ⟨k - 1, by omega⟩
      rw [impl_StraightQueens.j0, if_pos (by simp)]
      unfold straightR
      rw [if_neg (fun h => h2 h.2.1)]
  · refine ⟨3, fun k hk => ?_⟩
    simp only [impl_StraightQueens.f, isMany_eq, Option.bind_some, h1]
    obtain ⟨k, rfl⟩ : ∃ m, k = m + 1 := ⟨k - 1, by omega⟩
    rw [if_neg (by simp), impl_StraightQueens.j0, if_pos rfl]
    unfold straightR
    rw [if_neg (fun h => h1 h.1)]
theorem straightR_len (n step : Int) : (straightR n step).1.length ≤ 8 := by
  unfold straightR
  split
  · rename_i h; have : 1 ≤ n ∧ n ≤ 8 := by simpa [inB] using h.1
    rw [straightL_length]; omega
  · simp

/-! #### attacks -/
/-- Rows r and s attack each other. -/
def att (q : List Int) (r s : Nat) : Bool := decide ((q.getD r 0 - q.getD s 0).natAbs = ((s : Int) - (r : Int)).natAbs)
def rowP (q : List Int) (r s : Nat) : List (List Int) := ((List.range' s (q.length - s)).filter fun s => att q r s).map fun (s : Nat) => [(r : Int), (s : Int)]
def allP (q : List Int) (r : Nat) : List (List Int) := (List.range' r (q.length - r)).flatMap fun r => rowP q r (r + 1)
theorem range'_step (s n : Nat) (h : s < n) : List.range' s (n - s) = s :: List.range' (s + 1) (n - (s + 1)) := by
  rw [show n - s = (n - (s + 1)) + 1 by omega, List.range'_succ]
theorem rowP_step (q : List Int) (r s : Nat) (h : s < q.length) : rowP q r s = (if att q r s = true then [[(r : Int), (s : Int)]] else []) ++ rowP q r (s + 1) := by
  unfold rowP
  rw [range'_step s q.length h, List.filter_cons]
  split <;> simp
theorem rowP_nil (q : List Int) (r s : Nat) (h : q.length ≤ s) : rowP q r s = [] := by
  unfold rowP
  rw [show q.length - s = 0 by omega]; rfl
theorem allP_step (q : List Int) (r : Nat) (h : r < q.length) : allP q r = rowP q r (r + 1) ++ allP q (r + 1) := by
  unfold allP
  rw [range'_step r q.length h, List.flatMap_cons]
theorem allP_nil (q : List Int) (r : Nat) (h : q.length ≤ r) : allP q r = [] := by
  unfold allP
  rw [show q.length - r = 0 by omega]; rfl
theorem l1Abs_eq (n : Int) (h : -1000 ≤ n) (h2 : n ≤ 1000) : spec_l1Abs.f n = some (n.natAbs : Int) := by
  unfold spec_l1Abs.f spec_l1Most.f
  rw [w64 _ (by omega) (by omega)]
  split
  · simp only [Option.bind_some]; congr 1; omega
  · simp only [Option.bind_some]; congr 1; omega
/-- At most 8 numbers, each in 0..7. -/
def Small (q : List Int) : Prop := q.length ≤ 8 ∧ ∀ i, ∀ h : i < q.length, 0 ≤ q[i] ∧ q[i] < 8
theorem good_small {q : List Int} (hg : goodB q = true) : Small q := ⟨(good_len hg).2, fun i h => by have := good_at hg i h; have := good_len hg; omega⟩
theorem attacked_eq (q : List Int) (hg : Small q) (r s : Nat) (hr : r < q.length) (hs : s < q.length) : impl_attacked.f (r : Int) q[r] (s : Int) q[s] = some (att q r s) := by
  have hl := hg.1
  have h1 := hg.2 r hr
  have h2 := hg.2 s hs
  unfold impl_attacked.f att mx
  rw [w64 _ (by omega) (by omega), w64 _ (by omega) (by omega), w64 _ (by omega) (by omega), w64 _ (by omega) (by omega)]
  congr 1
  simp only [List.getD_eq_getElem?_getD, List.getElem?_eq_getElem hr, List.getElem?_eq_getElem hs, Option.getD_some]
  rw [Bool.eq_iff_iff, beq_iff_eq, decide_eq_true_iff]
  split <;> split <;> omega
theorem quAttacks_inner (q : List Int) (hg : goodB q = true) (r : Nat) (hr : r < q.length)
    (hout : ∀ acc : List (List Int), acc.length ≤ 8 * (r + 1) → Ev (fun k => spec_quAttacks.l0 k q acc q (q.length : Int) ((r + 1 : Nat) : Int)) (acc ++ allP q (r + 1))) :
    ∀ (d s : Nat) (acc : List (List Int)), q.length - s = d → r < s → s ≤ q.length → acc.length ≤ 8 * r + (s - r) →
    Ev (fun k => spec_quAttacks.l1 k q acc (r : Int) q[r] (s : Int) q (q.length : Int) (r : Int)) (acc ++ rowP q r s ++ allP q (r + 1)) := by
  have hl := good_len hg
  have hq := good_at hg r hr
  intro d
  induction d with
  | zero =>
    intro s acc hd hrs hs ha
    obtain ⟨K, hK⟩ := ev_get (hout acc (by omega))
    refine ⟨K + 1, fun k hk => ?_⟩
    obtain ⟨k, rfl⟩ : ∃ m, k = m + 1 := ⟨k - 1, by omega⟩
    simp only [spec_quAttacks.l1]
    rw [if_neg (by omega), w64 _ (by omega) (by omega), show ((r : Int) + 1) = ((r + 1 : Nat) : Int) by omega, hK k (by omega), rowP_nil q r s (by omega), List.append_nil]
  | succ d ih =>
    intro s acc hd hrs hs ha
    have hs1 : s < q.length := by omega
    have hq2 := good_at hg s hs1
    obtain ⟨K1, h1⟩ := ev_get (ih (s + 1) (acc ++ [[(r : Int), (s : Int)]]) (by omega) (by omega) (by omega) (by simp; omega))
    obtain ⟨K2, h2⟩ := ev_get (ih (s + 1) acc (by omega) (by omega) (by omega) (by omega))
    refine ⟨K1 + K2 + 1, fun k hk => ?_⟩
    obtain ⟨k, rfl⟩ : ∃ m, k = m + 1 := ⟨k - 1, by omega⟩
    simp only [spec_quAttacks.l1]
    rw [if_pos (by omega), if_pos (by omega), rd_nat _ _ hs1, w64 (q[r] - q[s]) (by omega) (by omega), l1Abs_eq _ (by omega) (by omega), Option.bind_some, w64 ((s : Int) - (r : Int)) (by omega) (by omega), w64 ((s : Int) + 1) (by omega) (by omega), show ((s : Int) + 1) = ((s + 1 : Nat) : Int) by omega, h1 k (by omega), h2 k (by omega), rowP_step q r s hs1, if_pos (show acc.length < 5864062014805 by omega)]
    have he : (att q r s = true) ↔ (((q[r] - q[s]).natAbs : Int) = (s : Int) - (r : Int)) := by
      unfold att
      simp only [List.getD_eq_getElem?_getD, List.getElem?_eq_getElem hr, List.getElem?_eq_getElem hs1, Option.getD_some, decide_eq_true_iff]
      omega
    by_cases h : att q r s = true
    · rw [if_pos (he.1 h), if_pos h]; simp [List.append_assoc]
    · rw [if_neg (fun x => h (he.2 x)), if_neg h]; simp
theorem quAttacks_outer (q : List Int) (hg : goodB q = true) : ∀ (d r : Nat) (acc : List (List Int)), q.length - r = d → r ≤ q.length → acc.length ≤ 8 * r →
    Ev (fun k => spec_quAttacks.l0 k q acc q (q.length : Int) (r : Int)) (acc ++ allP q r) := by
  have hl := good_len hg
  intro d
  induction d with
  | zero =>
    intro r acc hd hr ha
    refine ⟨1, fun k hk => ?_⟩
    obtain ⟨k, rfl⟩ : ∃ m, k = m + 1 := ⟨k - 1, by omega⟩
    simp only [spec_quAttacks.l0]
    rw [if_neg (by omega), allP_nil q r (by omega), List.append_nil]
  | succ d ih =>
    intro r acc hd hr ha
    have hr1 : r < q.length := by omega
    obtain ⟨K, hK⟩ := ev_get (quAttacks_inner q hg r hr1 (fun acc ha => ih (r + 1) acc (by omega) (by omega) ha) (q.length - (r + 1)) (r + 1) acc (by omega) (by omega) (by omega) (by omega))
    refine ⟨K + 1, fun k hk => ?_⟩
    obtain ⟨k, rfl⟩ : ∃ m, k = m + 1 := ⟨k - 1, by omega⟩
    simp only [spec_quAttacks.l0]
    rw [if_pos (by omega), if_pos (by omega), if_pos (by omega), rd_nat _ _ hr1, w64 _ (by omega) (by omega), show ((r : Int) + 1) = ((r + 1 : Nat) : Int) by omega, hK k (by omega), allP_step q r hr1, List.append_assoc]
theorem quAttacks_ev (q : List Int) (hg : goodB q = true) : Ev (fun k => spec_quAttacks.f k q) (allP q 0) := by
  obtain ⟨K, hK⟩ := ev_get (quAttacks_outer q hg q.length 0 [] (by omega) (by omega) (by simp))
  refine ⟨K, fun k hk => ?_⟩
  simp only [spec_quAttacks.f]
  simpa using hK k hk
theorem allP_mem (q : List Int) (p : List Int) : p ∈ allP q 0 ↔ ∃ r s : Nat, r < s ∧ s < q.length ∧ att q r s = true ∧ p = [(r : Int), (s : Int)] := by
  unfold allP rowP
  simp only [List.mem_flatMap, List.mem_map, List.mem_filter, List.mem_range'_1]
  constructor
  · rintro ⟨r, ⟨_, hr⟩, s, ⟨⟨hs1, hs2⟩, ha⟩, rfl⟩
    exact ⟨r, s, by omega, by omega, ha, rfl⟩
  · rintro ⟨r, s, h1, h2, ha, rfl⟩
    exact ⟨r, ⟨by omega, by omega⟩, s, ⟨⟨by omega, by omega⟩, ha⟩, rfl⟩
/-- No two rows attack each other. -/
def freeB (q : List Int) : Bool := decide (∀ s, s < q.length → ∀ r, r < s → att q r s = false)
theorem freeB_allP (q : List Int) : (((allP q 0).length : Int) == 0) = freeB q := by
  rw [Bool.eq_iff_iff, beq_iff_eq]
  unfold freeB
  rw [decide_eq_true_iff]
  constructor
  · intro h s hs r hr
    have h0 : allP q 0 = [] := List.eq_nil_of_length_eq_zero (by omega)
    cases ha : att q r s with
    | false => rfl
    | true =>
      have : [(r : Int), (s : Int)] ∈ allP q 0 := (allP_mem q _).2 ⟨r, s, hr, hs, ha, rfl⟩
      rw [h0] at this; cases this
  · intro h
    have h0 : allP q 0 = [] := by
      rw [List.eq_nil_iff_forall_not_mem]
      intro p hp
      obtain ⟨r, s, h1, h2, ha, _⟩ := (allP_mem q p).1 hp
      rw [h s h2 r h1] at ha; cases ha
    rw [h0]; rfl
def rowFree (q : List Int) (r s : Nat) : Prop := ∀ r', r ≤ r' → r' < s → att q r' s = false
def freeFrom (q : List Int) (s : Nat) : Prop := ∀ s', s ≤ s' → s' < q.length → rowFree q 0 s'
theorem rowFree_step (q : List Int) (r s : Nat) (h : r < s) : rowFree q r s ↔ att q r s = false ∧ rowFree q (r + 1) s := by
  constructor
  · intro H
    exact ⟨H r (by omega) h, fun r' h1 h2 => H r' (by omega) h2⟩
  · rintro ⟨h0, H⟩ r' h1 h2
    by_cases e : r' = r
    · subst e; exact h0
    · exact H r' (by omega) h2
theorem freeFrom_step (q : List Int) (s : Nat) (h : s < q.length) : freeFrom q s ↔ rowFree q 0 s ∧ freeFrom q (s + 1) := by
  constructor
  · intro H
    exact ⟨H s (by omega) h, fun s' h1 h2 => H s' (by omega) h2⟩
  · rintro ⟨h0, H⟩ s' h1 h2
    by_cases e : s' = s
    · subst e; exact h0
    · exact H s' (by omega) h2
theorem freeB_eq (q : List Int) : freeB q = true ↔ freeFrom q 0 := by
  unfold freeB
  rw [decide_eq_true_iff]
  exact ⟨fun h s _ hs r _ hr => h s hs r hr, fun h s hs r hr => h s (by omega) hs r (by omega) hr⟩
open Classical in
theorem areQueens_inner (q : List Int) (hg : Small q) (s : Nat) (hs : s < q.length)
    (hout : Ev (fun k => impl_areQueens.l0 k q q (q.length : Int) ((s + 1 : Nat) : Int)) (decide (freeFrom q (s + 1)))) :
    ∀ (d r : Nat), s - r = d → r ≤ s →
    Ev (fun k => impl_areQueens.l1 k q (s : Int) q[s] q (q.length : Int) (s : Int) (q.take s) ((q.take s).length : Int) (r : Int)) (decide (rowFree q r s ∧ freeFrom q (s + 1))) := by
  have hl := hg.1
  have ht : (q.take s).length = s := by rw [List.length_take]; omega
  intro d
  induction d with
  | zero =>
    intro r hd hr
    obtain ⟨K, hK⟩ := ev_get hout
    refine ⟨K + 1, fun k hk => ?_⟩
    obtain ⟨k, rfl⟩ : ∃ m, k = m + 1 := ⟨k - 1, by omega⟩
    simp only [impl_areQueens.l1]
    rw [ht, if_neg (by omega), w64 _ (by omega) (by omega), show ((s : Int) + 1) = ((s + 1 : Nat) : Int) by omega, hK k (by omega)]
    congr 1
    rw [decide_eq_decide]
    exact ⟨fun h => ⟨fun r' h1 h2 => by omega, h⟩, fun h => h.2⟩
  | succ d ih =>
    intro r hd hr
    have hr1 : r < s := by omega
    obtain ⟨K, hK⟩ := ev_get (ih (r + 1) (by omega) (by omega))
    refine ⟨K + 1, fun k hk => ?_⟩
    obtain ⟨k, rfl⟩ : ∃ m, k = m + 1 := ⟨k - 1, by omega⟩
    have hK := hK k (by omega)
    simp only [impl_areQueens.l1]
    rw [ht] at hK ⊢
    rw [if_pos (by omega), if_pos (by omega), if_pos (by omega), rd_nat _ _ (show r < (q.take s).length by omega), List.getElem_take, attacked_eq q hg r s (by omega) hs, Option.bind_some, w64 _ (by omega) (by omega), show ((r : Int) + 1) = ((r + 1 : Nat) : Int) by omega, hK]
    have hst := rowFree_step q r s hr1
    by_cases ha : att q r s = true
    · rw [if_pos ha]
      congr 1
      symm; apply decide_eq_false
      rintro ⟨h1, _⟩
      rw [(hst.1 h1).1] at ha; cases ha
    · rw [if_neg ha]
      congr 1
      rw [decide_eq_decide]
      exact ⟨fun h => ⟨hst.2 ⟨by simpa using ha, h.1⟩, h.2⟩, fun h => ⟨(hst.1 h.1).2, h.2⟩⟩
open Classical in
theorem areQueens_outer (q : List Int) (hg : Small q) : ∀ (d s : Nat), q.length - s = d → s ≤ q.length →
    Ev (fun k => impl_areQueens.l0 k q q (q.length : Int) (s : Int)) (decide (freeFrom q s)) := by
  have hl := hg.1
  intro d
  induction d with
  | zero =>
    intro s hd hs
    refine ⟨1, fun k hk => ?_⟩
    obtain ⟨k, rfl⟩ : ∃ m, k = m + 1 := ⟨k - 1, by omega⟩
    simp only [impl_areQueens.l0]
    rw [if_neg (by omega)]
    congr 1
    symm; apply decide_eq_true
    intro s' h1 h2; omega
  | succ d ih =>
    intro s hd hs
    have hs1 : s < q.length := by omega
    obtain ⟨K, hK⟩ := ev_get (areQueens_inner q hg s hs1 (ih (s + 1) (by omega) (by omega)) s 0 (by omega) (by omega))
    refine ⟨K + 1, fun k hk => ?_⟩
    obtain ⟨k, rfl⟩ : ∃ m, k = m + 1 := ⟨k - 1, by omega⟩
    simp only [impl_areQueens.l0]
    rw [if_pos (by omega), if_pos (by omega), if_pos (by omega), if_pos (by omega), Option.bind_some, rd_nat _ _ hs1, show (s : Int).toNat = s by omega]
    refine (hK k (by omega)).trans ?_
    congr 1
    rw [decide_eq_decide]
    exact (freeFrom_step q s hs1).symm
theorem areQueens_ev (q : List Int) (hg : Small q) : Ev (fun k => impl_areQueens.f k q) (freeB q) := by
  classical
  obtain ⟨K, hK⟩ := ev_get (areQueens_outer q hg q.length 0 (by omega) (by omega))
  refine ⟨K, fun k hk => ?_⟩
  simp only [impl_areQueens.f]
  refine (hK k hk).trans ?_
  congr 1
  rw [Bool.eq_iff_iff, decide_eq_true_iff, freeB_eq]
end Go.Proofs.Ythjejaoadhhpdaa.P

namespace Go.Proofs.Ythjejaoadhhpdaa.P
open Go.RowKit Go.Proofs.YthjejaoadhhpdaaW.PrintWords Go.Proofs.YthjejaoadhhpdaaW.PrintLast Go.Proofs.YthjejaoadhhpdaaW.PrintMore
set_option linter.unusedVariables false
set_option linter.unusedSimpArgs false

/-- Rows r and s attack each other on a torus of n rows. -/
def tor (n : Int) (q : List Int) (r s : Nat) : Bool := decide (n ∣ ((s : Int) - r) + (q.getD s 0 - q.getD r 0) ∨ n ∣ ((s : Int) - r) - (q.getD s 0 - q.getD r 0))
def rowTor (n : Int) (q : List Int) (r s0 : Nat) : Prop := ∀ s, s0 ≤ s → s < q.length → tor n q r s = false
def colTor (n : Int) (q : List Int) (r0 s : Nat) : Prop := ∀ r, r0 ≤ r → r < s → tor n q r s = false
def torFrom (n : Int) (q : List Int) (r0 : Nat) : Prop := ∀ r, r0 ≤ r → rowTor n q r (r + 1)
def torTo (n : Int) (q : List Int) (s0 : Nat) : Prop := ∀ s, s0 ≤ s → s < q.length → colTor n q 0 s
theorem torFrom_torTo (n : Int) (q : List Int) : torFrom n q 0 ↔ torTo n q 0 := by
  constructor
  · intro h s _ hs r _ hr
    exact h r (by omega) s (by omega) hs
  · intro h r _ s hs hl
    exact h s (by omega) hl r (by omega) (by omega)
open Classical in
noncomputable def torB (q : List Int) : Bool := decide (torFrom q.length q 0)
theorem rowTor_step (n : Int) (q : List Int) (r s : Nat) (h : s < q.length) : rowTor n q r s ↔ tor n q r s = false ∧ rowTor n q r (s + 1) := by
  constructor
  · intro H
    exact ⟨H s (by omega) h, fun s' h1 h2 => H s' (by omega) h2⟩
  · rintro ⟨h0, H⟩ s' h1 h2
    by_cases e : s' = s
    · subst e; exact h0
    · exact H s' (by omega) h2
theorem colTor_step (n : Int) (q : List Int) (r s : Nat) (h : r < s) : colTor n q r s ↔ tor n q r s = false ∧ colTor n q (r + 1) s := by
  constructor
  · intro H
    exact ⟨H r (by omega) h, fun r' h1 h2 => H r' (by omega) h2⟩
  · rintro ⟨h0, H⟩ r' h1 h2
    by_cases e : r' = r
    · subst e; exact h0
    · exact H r' (by omega) h2
theorem torFrom_step (n : Int) (q : List Int) (r : Nat) : torFrom n q r ↔ rowTor n q r (r + 1) ∧ torFrom n q (r + 1) := by
  constructor
  · intro H
    exact ⟨H r (by omega), fun r' h1 => H r' (by omega)⟩
  · rintro ⟨h0, H⟩ r' h1
    by_cases e : r' = r
    · subst e; exact h0
    · exact H r' (by omega)
theorem torTo_step (n : Int) (q : List Int) (s : Nat) (h : s < q.length) : torTo n q s ↔ colTor n q 0 s ∧ torTo n q (s + 1) := by
  constructor
  · intro H
    exact ⟨H s (by omega) h, fun s' h1 h2 => H s' (by omega) h2⟩
  · rintro ⟨h0, H⟩ s' h1 h2
    by_cases e : s' = s
    · subst e; exact h0
    · exact H s' (by omega) h2
theorem tmod_dvd (a n : Int) : Int.tmod a n = 0 ↔ n ∣ a := (Int.dvd_iff_tmod_eq_zero).symm
theorem getD_eq (q : List Int) (i : Nat) (h : i < q.length) : q.getD i 0 = q[i] := by simp [List.getD_eq_getElem?_getD, List.getElem?_eq_getElem h]
open Classical in
theorem quTorus_inner (q : List Int) (hg : Small q) (r : Nat) (hr : r < q.length)
    (hout : Ev (fun k => spec_quTorus.l0 k q (q.length : Int) q (q.length : Int) ((r + 1 : Nat) : Int)) (decide (torFrom q.length q (r + 1)))) :
    ∀ (d s : Nat), q.length - s = d → r < s → s ≤ q.length →
    Ev (fun k => spec_quTorus.l1 k q (q.length : Int) (r : Int) q[r] (s : Int) q (q.length : Int) (r : Int)) (decide (rowTor q.length q r s ∧ torFrom q.length q (r + 1))) := by
  have hl := hg.1
  have hq := hg.2 r hr
  intro d
  induction d with
  | zero =>
    intro s hd hrs hs
    obtain ⟨K, hK⟩ := ev_get hout
    refine ⟨K + 1, fun k hk => ?_⟩
    obtain ⟨k, rfl⟩ : ∃ m, k = m + 1 := ⟨k - 1, by omega⟩
    simp only [spec_quTorus.l1]
    rw [if_neg (by omega), w64 _ (by omega) (by omega), show ((r : Int) + 1) = ((r + 1 : Nat) : Int) by omega, hK k (by omega)]
    congr 1
    rw [decide_eq_decide]
    exact ⟨fun h => ⟨fun s' h1 h2 => by omega, h⟩, fun h => h.2⟩
  | succ d ih =>
    intro s hd hrs hs
    have hs1 : s < q.length := by omega
    have hq2 := hg.2 s hs1
    obtain ⟨K, hK⟩ := ev_get (ih (s + 1) (by omega) (by omega) (by omega))
    refine ⟨K + 1, fun k hk => ?_⟩
    obtain ⟨k, rfl⟩ : ∃ m, k = m + 1 := ⟨k - 1, by omega⟩
    have hK := hK k (by omega)
    simp only [spec_quTorus.l1]
    rw [if_pos (by omega), if_pos (by omega), if_pos (by omega), if_neg (by omega), rd_nat _ _ hs1, w64 ((s : Int) - r) (by omega) (by omega), w64 ((s : Int) - r + q[s]) (by omega) (by omega), w64 ((s : Int) - r + q[s] - q[r]) (by omega) (by omega), w64 ((s : Int) - r - q[s]) (by omega) (by omega), w64 ((s : Int) - r - q[s] + q[r]) (by omega) (by omega), w64 ((s : Int) + 1) (by omega) (by omega), show ((s : Int) + 1) = ((s + 1 : Nat) : Int) by omega, hK]
    have hst := rowTor_step q.length q r s hs1
    have ht : (tor q.length q r s = true) ↔ ((q.length : Int) ∣ (s : Int) - r + q[s] - q[r] ∨ (q.length : Int) ∣ (s : Int) - r - q[s] + q[r]) := by
      unfold tor
      rw [decide_eq_true_iff, getD_eq q r hr, getD_eq q s hs1, show ((s : Int) - r) + (q[s] - q[r]) = (s : Int) - r + q[s] - q[r] by omega, show ((s : Int) - r) - (q[s] - q[r]) = (s : Int) - r - q[s] + q[r] by omega]
    by_cases h1 : Int.tmod ((s : Int) - r + q[s] - q[r]) q.length = 0
    · rw [if_pos h1]
      congr 1
      symm; apply decide_eq_false
      rintro ⟨h2, _⟩
      have := (hst.1 h2).1
      rw [ht.2 (.inl ((tmod_dvd _ _).1 h1))] at this; cases this
    · rw [if_neg h1]
      by_cases h2 : Int.tmod ((s : Int) - r - q[s] + q[r]) q.length = 0
      · rw [if_pos h2]
        congr 1
        symm; apply decide_eq_false
        rintro ⟨h3, _⟩
        have := (hst.1 h3).1
        rw [ht.2 (.inr ((tmod_dvd _ _).1 h2))] at this; cases this
      · rw [if_neg h2]
        congr 1
        rw [decide_eq_decide]
        have hf : tor q.length q r s = false := by
          rw [Bool.eq_false_iff]
          intro h; rcases ht.1 h with h | h
          · exact h1 ((tmod_dvd _ _).2 h)
          · exact h2 ((tmod_dvd _ _).2 h)
        exact ⟨fun h => ⟨hst.2 ⟨hf, h.1⟩, h.2⟩, fun h => ⟨(hst.1 h.1).2, h.2⟩⟩
open Classical in
theorem quTorus_outer (q : List Int) (hg : Small q) : ∀ (d r : Nat), q.length - r = d → r ≤ q.length →
    Ev (fun k => spec_quTorus.l0 k q (q.length : Int) q (q.length : Int) (r : Int)) (decide (torFrom q.length q r)) := by
  have hl := hg.1
  intro d
  induction d with
  | zero =>
    intro r hd hr
    refine ⟨1, fun k hk => ?_⟩
    obtain ⟨k, rfl⟩ : ∃ m, k = m + 1 := ⟨k - 1, by omega⟩
    simp only [spec_quTorus.l0]
    rw [if_neg (by omega)]
    congr 1
    symm; apply decide_eq_true
    intro r' h1 s h2 h3; omega
  | succ d ih =>
    intro r hd hr
    have hr1 : r < q.length := by omega
    obtain ⟨K, hK⟩ := ev_get (quTorus_inner q hg r hr1 (ih (r + 1) (by omega) (by omega)) (q.length - (r + 1)) (r + 1) (by omega) (by omega) (by omega))
    refine ⟨K + 1, fun k hk => ?_⟩
    obtain ⟨k, rfl⟩ : ∃ m, k = m + 1 := ⟨k - 1, by omega⟩
    simp only [spec_quTorus.l0]
    rw [if_pos (by omega), if_pos (by omega), if_pos (by omega), rd_nat _ _ hr1, w64 _ (by omega) (by omega), show ((r : Int) + 1) = ((r + 1 : Nat) : Int) by omega, hK k (by omega)]
    congr 1
    rw [decide_eq_decide]
    exact (torFrom_step _ q r).symm
theorem quTorus_ev (q : List Int) (hg : Small q) : Ev (fun k => spec_quTorus.f k q) (torB q) := by
  obtain ⟨K, hK⟩ := ev_get (quTorus_outer q hg q.length 0 (by omega) (by omega))
  exact ⟨K, fun k hk => hK k hk⟩
open Classical in
theorem onTorus_inner (q : List Int) (hg : Small q) (s : Nat) (hs : s < q.length)
    (hout : Ev (fun k => impl_onTorus_1.l0 k q (q.length : Int) q (q.length : Int) ((s + 1 : Nat) : Int)) (decide (torTo q.length q (s + 1)))) :
    ∀ (d r : Nat), s - r = d → r ≤ s →
    Ev (fun k => impl_onTorus_1.l1 k q (q.length : Int) (s : Int) q[s] q (q.length : Int) (s : Int) (q.take s) ((q.take s).length : Int) (r : Int)) (decide (colTor q.length q r s ∧ torTo q.length q (s + 1))) := by
  have hl := hg.1
  have hq2 := hg.2 s hs
  have ht : (q.take s).length = s := by rw [List.length_take]; omega
  intro d
  induction d with
  | zero =>
    intro r hd hr
    obtain ⟨K, hK⟩ := ev_get hout
    refine ⟨K + 1, fun k hk => ?_⟩
    obtain ⟨k, rfl⟩ : ∃ m, k = m + 1 := ⟨k - 1, by omega⟩
    simp only [impl_onTorus_1.l1]
    rw [ht, if_neg (by omega), w64 _ (by omega) (by omega), show ((s : Int) + 1) = ((s + 1 : Nat) : Int) by omega, hK k (by omega)]
    congr 1
    rw [decide_eq_decide]
    exact ⟨fun h => ⟨fun r' h1 h2 => by omega, h⟩, fun h => h.2⟩
  | succ d ih =>
    intro r hd hr
    have hr1 : r < s := by omega
    have hq := hg.2 r (by omega)
    obtain ⟨K, hK⟩ := ev_get (ih (r + 1) (by omega) (by omega))
    refine ⟨K + 1, fun k hk => ?_⟩
    obtain ⟨k, rfl⟩ : ∃ m, k = m + 1 := ⟨k - 1, by omega⟩
    have hK := hK k (by omega)
    simp only [impl_onTorus_1.l1]
    rw [ht] at hK ⊢
    rw [if_pos (by omega), if_pos (by omega), if_pos (by omega), if_neg (by omega), rd_nat _ _ (show r < (q.take s).length by omega), List.getElem_take, w64 ((r : Int) + q[r]) (by omega) (by omega), w64 ((r : Int) + q[r] - s) (by omega) (by omega), w64 ((r : Int) + q[r] - s - q[s]) (by omega) (by omega), w64 ((r : Int) - q[r]) (by omega) (by omega), w64 ((r : Int) - q[r] - s) (by omega) (by omega), w64 ((r : Int) - q[r] - s + q[s]) (by omega) (by omega), w64 ((r : Int) + 1) (by omega) (by omega), show ((r : Int) + 1) = ((r + 1 : Nat) : Int) by omega, hK]
    have hst := colTor_step q.length q r s hr1
    have ht : (tor q.length q r s = true) ↔ ((q.length : Int) ∣ (r : Int) + q[r] - s - q[s] ∨ (q.length : Int) ∣ (r : Int) - q[r] - s + q[s]) := by
      unfold tor
      rw [decide_eq_true_iff, getD_eq q r (by omega), getD_eq q s hs, ← Int.dvd_neg (b := (r : Int) + q[r] - s - q[s]), ← Int.dvd_neg (b := (r : Int) - q[r] - s + q[s]),
        show -((r : Int) + q[r] - s - q[s]) = ((s : Int) - r) + (q[s] - q[r]) by omega, show -((r : Int) - q[r] - s + q[s]) = ((s : Int) - r) - (q[s] - q[r]) by omega]
    by_cases h1 : Int.tmod ((r : Int) + q[r] - s - q[s]) q.length = 0
    · rw [if_pos h1]
      congr 1
      symm; apply decide_eq_false
      rintro ⟨h2, _⟩
      have := (hst.1 h2).1
      rw [ht.2 (.inl ((tmod_dvd _ _).1 h1))] at this; cases this
    · rw [if_neg h1]
      by_cases h2 : Int.tmod ((r : Int) - q[r] - s + q[s]) q.length = 0
      · rw [if_pos h2]
        congr 1
        symm; apply decide_eq_false
        rintro ⟨h3, _⟩
        have := (hst.1 h3).1
        rw [ht.2 (.inr ((tmod_dvd _ _).1 h2))] at this; cases this
      · rw [if_neg h2]
        congr 1
        rw [decide_eq_decide]
        have hf : tor q.length q r s = false := by
          rw [Bool.eq_false_iff]
          intro h; rcases ht.1 h with h | h
          · exact h1 ((tmod_dvd _ _).2 h)
          · exact h2 ((tmod_dvd _ _).2 h)
        exact ⟨fun h => ⟨hst.2 ⟨hf, h.1⟩, h.2⟩, fun h => ⟨(hst.1 h.1).2, h.2⟩⟩
open Classical in
theorem onTorus_outer (q : List Int) (hg : Small q) : ∀ (d s : Nat), q.length - s = d → s ≤ q.length →
    Ev (fun k => impl_onTorus_1.l0 k q (q.length : Int) q (q.length : Int) (s : Int)) (decide (torTo q.length q s)) := by
  have hl := hg.1
  intro d
  induction d with
  | zero =>
    intro s hd hs
    refine ⟨1, fun k hk => ?_⟩
    obtain ⟨k, rfl⟩ : ∃ m, k = m + 1 := ⟨k - 1, by omega⟩
    simp only [impl_onTorus_1.l0]
    rw [if_neg (by omega)]
    congr 1
    symm; apply decide_eq_true
    intro s' h1 h2; omega
  | succ d ih =>
    intro s hd hs
    have hs1 : s < q.length := by omega
    obtain ⟨K, hK⟩ := ev_get (onTorus_inner q hg s hs1 (ih (s + 1) (by omega) (by omega)) s 0 (by omega) (by omega))
    refine ⟨K + 1, fun k hk => ?_⟩
    obtain ⟨k, rfl⟩ : ∃ m, k = m + 1 := ⟨k - 1, by omega⟩
    simp only [impl_onTorus_1.l0]
    rw [if_pos (by omega), if_pos (by omega), if_pos (by omega), if_pos (by omega), Option.bind_some, rd_nat _ _ hs1, show (s : Int).toNat = s by omega]
    refine (hK k (by omega)).trans ?_
    congr 1
    rw [decide_eq_decide]
    exact (torTo_step _ q s hs1).symm
theorem onTorus_ev (q : List Int) (hg : Small q) : Ev (fun k => impl_onTorus_1.f k q (q.length : Int)) (torB q) := by
  obtain ⟨K, hK⟩ := ev_get (onTorus_outer q hg q.length 0 (by omega) (by omega))
  refine ⟨K, fun k hk => ?_⟩
  simp only [impl_onTorus_1.f]
  refine (hK k hk).trans ?_
  congr 1
  unfold torB
  exact decide_eq_decide.2 (torFrom_torTo _ q).symm
end Go.Proofs.Ythjejaoadhhpdaa.P

namespace Go.Proofs.Ythjejaoadhhpdaa.P
open Go.RowKit Go.Proofs.YthjejaoadhhpdaaW.PrintWords Go.Proofs.YthjejaoadhhpdaaW.PrintLast Go.Proofs.YthjejaoadhhpdaaW.PrintMore
set_option linter.unusedVariables false
set_option linter.unusedSimpArgs false


/-- All lists of N numbers that go on a list, d numbers being missing, in order. -/
def P (N : Nat) : Nat → List Int → List (List Int)
  | 0, q => [q]
  | d + 1, q => (List.range' 0 (N - 0)).flatMap fun (c : Nat) => if (c : Int) ∈ q then [] else P N d (q ++ [(c : Int)])
def PF (N d : Nat) (q : List Int) (i : Nat) : List (List Int) := (List.range' i (N - i)).flatMap fun (c : Nat) => if (c : Int) ∈ q then [] else P N d (q ++ [(c : Int)])
theorem P_succ (N d : Nat) (q : List Int) : P N (d + 1) q = PF N d q 0 := rfl
theorem PF_step (N d : Nat) (q : List Int) (i : Nat) (h : i < N) : PF N d q i = (if (i : Int) ∈ q then [] else P N d (q ++ [(i : Int)])) ++ PF N d q (i + 1) := by
  unfold PF
  rw [range'_step i N h, List.flatMap_cons]
theorem PF_nil (N d : Nat) (q : List Int) (i : Nat) (h : N ≤ i) : PF N d q i = [] := by
  unfold PF
  rw [show N - i = 0 by omega]; rfl
def OkQ (N : Nat) (q : List Int) : Prop := q.length ≤ N ∧ ∀ x ∈ q, 0 ≤ x ∧ x < (N : Int)
theorem okq_nil (N : Nat) : OkQ N [] := ⟨by simp, by simp⟩
theorem okq_snoc {N : Nat} {q : List Int} (h : OkQ N q) (hl : q.length < N) {i : Nat} (hi : i < N) : OkQ N (q ++ [(i : Int)]) := by
  refine ⟨by simp; omega, fun x hx => ?_⟩
  rcases List.mem_append.1 hx with hx | hx
  · exact h.2 x hx
  · rw [List.mem_singleton.1 hx]; omega
theorem okq_small {N : Nat} (hN : N ≤ 8) {q : List Int} (h : OkQ N q) : Small q :=
  ⟨by have := h.1; omega, fun i hi => by have := h.2 q[i] (List.getElem_mem hi); omega⟩
theorem P_mem (N : Nat) : ∀ (d : Nat) (q : List Int), OkQ N q → q.length + d = N → ∀ x ∈ P N d q, OkQ N x ∧ x.length = N ∧ ∃ t, x = q ++ t
  | 0, q, h, hl, x, hx => by
    rw [P, List.mem_singleton] at hx
    subst hx
    exact ⟨h, hl, [], by simp⟩
  | d + 1, q, h, hl, x, hx => by
    rw [P, List.mem_flatMap] at hx
    obtain ⟨c, hc, hx⟩ := hx
    rw [List.mem_range'_1] at hc
    split at hx
    · cases hx
    · obtain ⟨h1, h2, t, h3⟩ := P_mem N d _ (okq_snoc h (by omega) (i := c) (by omega)) (by simp; omega) x hx
      exact ⟨h1, h2, (c : Int) :: t, by rw [h3]; simp⟩
theorem PF_len (N d : Nat) (q : List Int) (b : Nat) (hb : ∀ c, c < N → (P N d (q ++ [(c : Int)])).length ≤ b) : ∀ (e i : Nat), N - i = e → (PF N d q i).length ≤ e * b
  | 0, i, he => by rw [PF_nil N d q i (by omega)]; simp
  | e + 1, i, he => by
    rw [PF_step N d q i (by omega), List.length_append, Nat.succ_mul]
    have h1 := PF_len N d q b hb e (i + 1) (by omega)
    have h2 := hb i (by omega)
    split <;> simp <;> omega
theorem P_len (N : Nat) : ∀ (d : Nat) (q : List Int), (P N d q).length ≤ N ^ d
  | 0, q => by simp [P]
  | d + 1, q => by
    rw [P_succ]
    have := PF_len N d q (N ^ d) (fun c _ => P_len N d _) N 0 (by omega)
    rw [Nat.pow_succ, Nat.mul_comm]; exact this
theorem pow_bound {N d : Nat} (hN : N ≤ 8) (hd : d ≤ N) : N ^ d ≤ 16777216 :=
  Nat.le_trans (Nat.pow_le_pow_left hN d) (Nat.le_trans (Nat.pow_le_pow_right (by decide) (show d ≤ 8 by omega)) (by decide))
def Her (G : List Int → Bool) : Prop := ∀ q c, G (q ++ [c]) = true → G q = true
theorem her_pre {G : List Int → Bool} (h : Her G) : ∀ (t q : List Int), G (q ++ t) = true → G q = true
  | [], q, hq => by simpa using hq
  | c :: t, q, hq => h q c (her_pre h t (q ++ [c]) (by simpa using hq))
theorem P_none {N d : Nat} {q : List Int} {G : List Int → Bool} (h : Her G) (ho : OkQ N q) (hl : q.length + d = N) (hq : G q = false) : (P N d q).filter G = [] := by
  rw [List.filter_eq_nil_iff]
  intro x hx hg
  obtain ⟨_, _, t, rfl⟩ := P_mem N d q ho hl x hx
  rw [her_pre h t q hg] at hq
  cases hq
theorem own7 (l : List Int) (h : l.length < 17592186044416) : spec_l1Own.f l = some l := by
  unfold spec_l1Own.f; simp [h]
theorem clone7 (l : List Int) (h : l.length < 17592186044416) : slices_Clone_int_int.f l = some l := if_pos h
theorem grown_ev (N : Nat) (hN : N ≤ 8) (good : List Int → Option Bool) (G : List Int → Bool) (hgood : ∀ q, OkQ N q → good q = some (G q)) (hher : Her G) :
    ∀ (d : Nat) (q : List Int) (out : List (List Int)), OkQ N q → q.length + d = N → out.length + (P N d q).length ≤ 16777216 →
    Ev (fun k => impl_grown_1.f k good (N : Int) q out) (out ++ (P N d q).filter G) := by
  intro d
  induction d with
  | zero =>
    intro q out ho hl hb
    refine ⟨1, fun k hk => ?_⟩
    obtain ⟨k, rfl⟩ : ∃ m, k = m + 1 := ⟨k - 1, by omega⟩
    have hq8 := ho.1
    simp only [impl_grown_1.f, hgood q ho, Option.bind_some, P, List.length_singleton] at hb ⊢
    cases hG : G q with
    | false => simp [hG]
    | true => rw [if_pos rfl, if_pos (by omega), clone7 q (by omega), Option.bind_some, if_pos (by omega)]; simp [hG]
  | succ d ih =>
    intro q out ho hl hb
    have hq8 := ho.1
    have hloop : ∀ (e i : Nat) (out : List (List Int)), N - i = e → i ≤ N → out.length + (PF N d q i).length ≤ 16777216 →
        Ev (fun k => impl_grown_1.l0 k good (N : Int) q out (i : Int)) (out ++ (PF N d q i).filter G) := by
      intro e
      induction e with
      | zero =>
        intro i out he hi hb
        refine ⟨1, fun k hk => ?_⟩
        obtain ⟨k, rfl⟩ : ∃ m, k = m + 1 := ⟨k - 1, by omega⟩
        dsimp only
        rw [impl_grown_1.l0, if_neg (by omega), PF_nil N d q i (by omega)]; simp
      | succ e ihe =>
        intro i out he hi hb
        rw [PF_step N d q i (by omega)] at hb ⊢
        obtain ⟨K1, h1⟩ := ev_get (Contains_ev q (i : Int) (by omega))
        by_cases hc : (i : Int) ∈ q
        · simp only [if_pos hc, List.nil_append] at hb ⊢
          obtain ⟨K2, h2⟩ := ev_get (ihe (i + 1) out (by omega) (by omega) hb)
          refine ⟨K1 + K2 + 1, fun k hk => ?_⟩
          obtain ⟨k, rfl⟩ : ∃ m, k = m + 1 := ⟨k - 1, by omega⟩
          dsimp only
          rw [impl_grown_1.l0, if_pos (by omega), h1 k (by omega), Option.bind_some, decide_eq_true hc, if_pos rfl, w64 _ (by omega) (by omega), show ((i : Int) + 1) = ((i + 1 : Nat) : Int) by omega]
          exact h2 k (by omega)
        · simp only [if_neg hc, List.length_append] at hb ⊢
          have hf := List.length_filter_le G (P N d (q ++ [(i : Int)]))
          obtain ⟨K2, h2⟩ := ev_get (ih (q ++ [(i : Int)]) out (okq_snoc ho (by omega) (by omega)) (by simp; omega) (by omega))
          obtain ⟨K3, h3⟩ := ev_get (ihe (i + 1) (out ++ (P N d (q ++ [(i : Int)])).filter G) (by omega) (by omega) (by rw [List.length_append]; omega))
          refine ⟨K1 + K2 + K3 + 1, fun k hk => ?_⟩
          obtain ⟨k, rfl⟩ : ∃ m, k = m + 1 := ⟨k - 1, by omega⟩
          dsimp only
          rw [impl_grown_1.l0, if_pos (by omega), h1 k (by omega), Option.bind_some, decide_eq_false hc, if_neg (by simp), if_pos (by omega), h2 k (by omega), Option.bind_some, w64 _ (by omega) (by omega), show ((i : Int) + 1) = ((i + 1 : Nat) : Int) by omega, h3 k (by omega), List.filter_append, List.append_assoc]
    cases hG : G q with
    | false =>
      refine ⟨1, fun k hk => ?_⟩
      obtain ⟨k, rfl⟩ : ∃ m, k = m + 1 := ⟨k - 1, by omega⟩
      dsimp only
      rw [impl_grown_1.f, hgood q ho, Option.bind_some, hG, if_neg (by simp), P_none hher ho hl hG, List.append_nil]
    | true =>
      rw [P_succ] at hb ⊢
      obtain ⟨K, hK⟩ := ev_get (hloop N 0 out (by omega) (by omega) hb)
      refine ⟨K + 1, fun k hk => ?_⟩
      obtain ⟨k, rfl⟩ : ∃ m, k = m + 1 := ⟨k - 1, by omega⟩
      dsimp only
      rw [impl_grown_1.f, hgood q ho, Option.bind_some, hG, if_pos rfl, if_neg (by omega)]
      exact hK k (by omega)
/-- No number of the list attacks a new one in the next row. -/
def fr (q : List Int) (i : Int) (r : Nat) : Prop := ∀ r', r ≤ r' → ∀ h : r' < q.length, (i - q[r']).natAbs ≠ q.length - r'
theorem fr_step (q : List Int) (i : Int) (r : Nat) (h : r < q.length) : fr q i r ↔ (i - q[r]).natAbs ≠ q.length - r ∧ fr q i (r + 1) := by
  constructor
  · intro h1
    exact ⟨h1 r (Nat.le_refl _) h, fun r' h2 h3 => h1 r' (by omega) h3⟩
  · rintro ⟨h1, h2⟩ r' h3 h4
    rcases Nat.eq_or_lt_of_le h3 with h5 | h5
    · subst h5; exact h1
    · exact h2 r' h5 h4
theorem att_snoc (q : List Int) (c : Int) (r s : Nat) (hr : r < s) (hs : s < q.length) : att (q ++ [c]) r s = att q r s := by
  unfold att
  simp only [List.getD_eq_getElem?_getD, List.getElem?_append_left hs, List.getElem?_append_left (show r < q.length by omega)]
theorem att_last (q : List Int) (c : Int) (r : Nat) (hr : r < q.length) : att (q ++ [c]) r q.length = decide ((c - q[r]).natAbs = q.length - r) := by
  unfold att
  rw [decide_eq_decide]
  simp only [List.getD_eq_getElem?_getD, List.getElem?_append_left hr, List.getElem?_append_right (Nat.le_refl _), Nat.sub_self, List.getElem?_eq_getElem hr]
  simp
  omega
theorem freeB_snoc (q : List Int) (c : Int) : freeB (q ++ [c]) = true ↔ freeB q = true ∧ fr q c 0 := by
  unfold freeB
  simp only [decide_eq_true_iff, List.length_append, List.length_singleton]
  constructor
  · intro h
    refine ⟨fun s hs r hr => by rw [← att_snoc q c r s hr hs]; exact h s (by omega) r hr, fun r _ hr => ?_⟩
    have := h q.length (by omega) r hr
    rw [att_last q c r hr] at this
    simpa using this
  · rintro ⟨h1, h2⟩ s hs r hr
    by_cases hsl : s < q.length
    · rw [att_snoc q c r s hr hsl]; exact h1 s hsl r hr
    · obtain rfl : s = q.length := by omega
      rw [att_last q c r hr]
      simpa using h2 r (by omega) hr
theorem freeB_her : Her freeB := fun q c h => ((freeB_snoc q c).1 h).1
open Classical in
theorem quAll_ev (N : Nat) (hN : N ≤ 8) : ∀ (d : Nat) (q : List Int), OkQ N q → q.length + d = N → freeB q = true →
    Ev (fun k => spec_quAll.f k (N : Int) q) ((P N d q).filter freeB) := by
  intro d
  induction d with
  | zero =>
    intro q ho hl hf
    have hq8 := ho.1
    refine ⟨1, fun k hk => ?_⟩
    obtain ⟨k, rfl⟩ : ∃ m, k = m + 1 := ⟨k - 1, by omega⟩
    dsimp only
    rw [spec_quAll.f, if_pos (by omega), own7 q (by omega), Option.bind_some, P]
    simp [hf]
  | succ d ih =>
    intro q ho hl hf
    have hq8 := ho.1
    have hsm := okq_small hN ho
    have hloop : ∀ (e i : Nat) (acc : List (List Int)), N - i = e → i ≤ N → acc.length + (PF N d q i).length ≤ 16777216 →
        Ev (fun k => spec_quAll.l0 k (N : Int) q acc (i : Int)) (acc ++ (PF N d q i).filter freeB) := by
      intro e
      induction e with
      | zero =>
        intro i acc he hi hb
        refine ⟨1, fun k hk => ?_⟩
        obtain ⟨k, rfl⟩ : ∃ m, k = m + 1 := ⟨k - 1, by omega⟩
        dsimp only
        rw [spec_quAll.l0, if_neg (by omega), PF_nil N d q i (by omega)]; simp
      | succ e ihe =>
        intro i acc he hi hb
        have hi8 : i < N := by omega
        rw [PF_step N d q i hi8] at hb ⊢
        have hok := okq_snoc ho (by omega) hi8
        -- the rounds that ask the rows one by one
        have hin : ∀ (g r : Nat) (free : Bool), q.length - r = g → r ≤ q.length → (free = true → ((i : Int) ∉ q)) →
            Ev (fun k => spec_quAll.l1 k (N : Int) q acc (i : Int) free q (q.length : Int) (r : Int))
              ((if free = true ∧ fr q i r then acc ++ (P N d (q ++ [(i : Int)])).filter freeB else acc) ++ (PF N d q (i + 1)).filter freeB) ∨ (free = true ∧ fr q i r ∧ ¬ fr q i 0) := by
          intro g
          induction g with
          | zero =>
            intro r free hg hr hfree
            have hfr : fr q i r := fun r' h1 h2 => by omega
            by_cases hff : free = true
            · by_cases h0 : fr q i 0
              · left
                have hnew : freeB (q ++ [(i : Int)]) = true := (freeB_snoc q i).2 ⟨hf, h0⟩
                have hc := hfree hff
                simp only [if_neg hc, List.length_append] at hb
                have hlf := List.length_filter_le freeB (P N d (q ++ [(i : Int)]))
                obtain ⟨K1, h1⟩ := ev_get (ih (q ++ [(i : Int)]) hok (by simp; omega) hnew)
                obtain ⟨K2, h2⟩ := ev_get (ihe (i + 1) (acc ++ (P N d (q ++ [(i : Int)])).filter freeB) (by omega) (by omega) (by rw [List.length_append]; omega))
                refine ⟨K1 + K2 + 1, fun k hk => ?_⟩
                obtain ⟨k, rfl⟩ : ∃ m, k = m + 1 := ⟨k - 1, by omega⟩
                dsimp only
                rw [spec_quAll.l1, if_neg (by omega), if_pos hff, own7 q (by omega), Option.bind_some, if_pos (by omega), h1 k (by omega), Option.bind_some, if_pos (by omega), w64 _ (by omega) (by omega), show ((i : Int) + 1) = ((i + 1 : Nat) : Int) by omega, h2 k (by omega), if_pos ⟨hff, hfr⟩]
              · right; exact ⟨hff, hfr, h0⟩
            · left
              obtain ⟨K2, h2⟩ := ev_get (ihe (i + 1) acc (by omega) (by omega) (by simp only [List.length_append] at hb; omega))
              refine ⟨K2 + 1, fun k hk => ?_⟩
              obtain ⟨k, rfl⟩ : ∃ m, k = m + 1 := ⟨k - 1, by omega⟩
              dsimp only
              rw [spec_quAll.l1, if_neg (by omega), if_neg hff, w64 _ (by omega) (by omega), show ((i : Int) + 1) = ((i + 1 : Nat) : Int) by omega, h2 k (by omega), if_neg (fun h => hff h.1)]
          | succ g ihg =>
            intro r free hg hr hfree
            have hr1 : r < q.length := by omega
            have hx := hsm.2 r hr1
            have hst := fr_step q i r hr1
            by_cases hff : free = true
            · have habs : (((((i : Int) - q[r]).natAbs : Int)) != ((q.length : Int) - (r : Int))) = true ↔ ((i : Int) - q[r]).natAbs ≠ q.length - r := by
                rw [bne_iff_ne]; omega
              rcases ihg (r + 1) ((((((i : Int) - q[r]).natAbs : Int)) != ((q.length : Int) - (r : Int)))) (by omega) (by omega) (fun _ => hfree hff) with h | h
              · left
                obtain ⟨K, hK⟩ := ev_get h
                refine ⟨K + 1, fun k hk => ?_⟩
                obtain ⟨k, rfl⟩ : ∃ m, k = m + 1 := ⟨k - 1, by omega⟩
                dsimp only
                rw [spec_quAll.l1, if_pos (by omega), if_pos (by omega), if_pos (by omega), if_pos hff, rd_nat _ _ hr1, w64 ((i : Int) - q[r]) (by omega) (by omega), l1Abs_eq _ (by omega) (by omega), Option.bind_some, w64 ((q.length : Int) - r) (by omega) (by omega), w64 ((r : Int) + 1) (by omega) (by omega), show ((r : Int) + 1) = ((r + 1 : Nat) : Int) by omega, hK k (by omega)]
                have he : ((((((i : Int) - q[r]).natAbs : Int)) != ((q.length : Int) - (r : Int))) = true ∧ fr q i (r + 1)) ↔ (free = true ∧ fr q i r) := by
                  rw [habs, hst]; exact ⟨fun h => ⟨hff, h⟩, fun h => h.2⟩
                simp only [he]
              · right
                exact ⟨hff, hst.2 ⟨habs.1 h.1, h.2.1⟩, h.2.2⟩
            · left
              rcases ihg (r + 1) false (by omega) (by omega) (fun h => by cases h) with h | h
              · obtain ⟨K, hK⟩ := ev_get h
                refine ⟨K + 1, fun k hk => ?_⟩
                obtain ⟨k, rfl⟩ : ∃ m, k = m + 1 := ⟨k - 1, by omega⟩
                dsimp only
                rw [spec_quAll.l1, if_pos (by omega), if_pos (by omega), if_pos (by omega), if_neg hff, w64 ((r : Int) + 1) (by omega) (by omega), show ((r : Int) + 1) = ((r + 1 : Nat) : Int) by omega, hK k (by omega), if_neg (fun h => by cases h.1), if_neg (fun h => hff h.1)]
              · cases h.1
        obtain ⟨K1, h1⟩ := ev_get (l1Has_ev q (i : Int) (by omega))
        rcases hin q.length 0 (!decide ((i : Int) ∈ q)) (by omega) (by omega) (fun h => by simpa using h) with h | h
        · obtain ⟨K2, h2⟩ := ev_get h
          refine ⟨K1 + K2 + 1, fun k hk => ?_⟩
          obtain ⟨k, rfl⟩ : ∃ m, k = m + 1 := ⟨k - 1, by omega⟩
          dsimp only
          rw [spec_quAll.l0, if_pos (by omega), h1 k (by omega), Option.bind_some]
          refine (h2 k (by omega)).trans ?_
          congr 1
          rw [List.filter_append, ← List.append_assoc]
          congr 1
          by_cases hc : (i : Int) ∈ q
          · rw [if_neg (fun h => by simpa [hc] using h.1), if_pos hc]; simp
          · rw [if_neg hc]
            by_cases h0 : fr q i 0
            · rw [if_pos ⟨by simpa using hc, h0⟩]
            · rw [if_neg (fun h => h0 h.2)]
              have : freeB (q ++ [(i : Int)]) = false := by
                rw [Bool.eq_false_iff]
                intro h; exact h0 ((freeB_snoc q i).1 h).2
              rw [P_none freeB_her hok (by simp; omega) this, List.append_nil]
        · exact absurd h.2.1 h.2.2
    rw [P_succ]
    have hb := P_len N (d + 1) q
    have hp := pow_bound hN (show d + 1 ≤ N by omega)
    rw [P_succ] at hb
    obtain ⟨K, hK⟩ := ev_get (hloop N 0 [] (by omega) (by omega) (by simp; omega))
    refine ⟨K + 1, fun k hk => ?_⟩
    obtain ⟨k, rfl⟩ : ∃ m, k = m + 1 := ⟨k - 1, by omega⟩
    dsimp only
    rw [spec_quAll.f, if_neg (by omega)]
    simpa using hK k (by omega)
theorem areQueens_lim (q : List Int) (h : Small q) : impl_areQueens.fn q = some (freeB q) := by
  obtain ⟨K, hK⟩ := ev_get (areQueens_ev q h)
  exact Fn.lim_of (impl_areQueens.mono q) (hK K (Nat.le_refl _))
theorem grownAll_ev (N : Nat) (hN : N ≤ 8) (q : List Int) (ho : OkQ N q) (d : Nat) (hd : q.length + d = N) :
    Ev (fun k => impl_grown.f k (N : Int) q impl_areQueens.fn) ((P N d q).filter freeB) := by
  have hb := P_len N d q
  have hp := pow_bound hN (show d ≤ N by omega)
  obtain ⟨K, hK⟩ := ev_get (grown_ev N hN impl_areQueens.fn freeB (fun q h => areQueens_lim q (okq_small hN h)) freeB_her d q [] ho hd (by simp; omega))
  refine ⟨K, fun k hk => ?_⟩
  simp only [impl_grown.f, clone7 q (by have := ho.1; omega), Option.bind_some]
  simpa using hK k hk
/-- The lists of queens. -/
def allQ (N : Nat) : List (List Int) := (P N N []).filter freeB
theorem allQ_len (N : Nat) (hN : N ≤ 8) : (allQ N).length ≤ 16777216 :=
  Nat.le_trans (List.length_filter_le _ _) (Nat.le_trans (P_len N N []) (pow_bound hN (Nat.le_refl _)))
theorem allQ_row {N : Nat} {x : List Int} (h : x ∈ allQ N) : OkQ N x ∧ x.length = N := by
  obtain ⟨h1, h2, _⟩ := P_mem N N [] (okq_nil N) (by simp) x (List.mem_filter.1 h).1
  exact ⟨h1, h2⟩
theorem freeB_nil : freeB [] = true := by unfold freeB; simp
theorem quAllQ_ev (N : Nat) (hN : N ≤ 8) : Ev (fun k => spec_quAll.f k (N : Int) ([] : List Int)) (allQ N) := quAll_ev N hN N [] (okq_nil N) (by simp) freeB_nil
theorem grownQ_ev (N : Nat) (hN : N ≤ 8) : Ev (fun k => impl_grown.f k (N : Int) ([] : List Int) impl_areQueens.fn) (allQ N) := grownAll_ev N hN [] (okq_nil N) N (by simp)
end Go.Proofs.Ythjejaoadhhpdaa.P

namespace Go.Proofs.Ythjejaoadhhpdaa.P
open Go.RowKit Go.Proofs.YthjejaoadhhpdaaW.PrintWords Go.Proofs.YthjejaoadhhpdaaW.PrintLast Go.Proofs.YthjejaoadhhpdaaW.PrintMore
set_option linter.unusedVariables false
set_option linter.unusedSimpArgs false

theorem quAttacks_innerS (q : List Int) (hg : Small q) (r : Nat) (hr : r < q.length)
    (hout : ∀ acc : List (List Int), acc.length ≤ 8 * (r + 1) → Ev (fun k => spec_quAttacks.l0 k q acc q (q.length : Int) ((r + 1 : Nat) : Int)) (acc ++ allP q (r + 1))) :
    ∀ (d s : Nat) (acc : List (List Int)), q.length - s = d → r < s → s ≤ q.length → acc.length ≤ 8 * r + (s - r) →
    Ev (fun k => spec_quAttacks.l1 k q acc (r : Int) q[r] (s : Int) q (q.length : Int) (r : Int)) (acc ++ rowP q r s ++ allP q (r + 1)) := by
  have hl := hg.1
  have hq := hg.2 r hr
  intro d
  induction d with
  | zero =>
    intro s acc hd hrs hs ha
    obtain ⟨K, hK⟩ := ev_get (hout acc (by omega))
    refine ⟨K + 1, fun k hk => ?_⟩
    obtain ⟨k, rfl⟩ : ∃ m, k = m + 1 := ⟨k - 1, by omega⟩
    simp only [spec_quAttacks.l1]
    rw [if_neg (by omega), w64 _ (by omega) (by omega), show ((r : Int) + 1) = ((r + 1 : Nat) : Int) by omega, hK k (by omega), rowP_nil q r s (by omega), List.append_nil]
  | succ d ih =>
    intro s acc hd hrs hs ha
    have hs1 : s < q.length := by omega
    have hq2 := hg.2 s hs1
    obtain ⟨K1, h1⟩ := ev_get (ih (s + 1) (acc ++ [[(r : Int), (s : Int)]]) (by omega) (by omega) (by omega) (by simp; omega))
    obtain ⟨K2, h2⟩ := ev_get (ih (s + 1) acc (by omega) (by omega) (by omega) (by omega))
    refine ⟨K1 + K2 + 1, fun k hk => ?_⟩
    obtain ⟨k, rfl⟩ : ∃ m, k = m + 1 := ⟨k - 1, by omega⟩
    simp only [spec_quAttacks.l1]
    rw [if_pos (by omega), if_pos (by omega), rd_nat _ _ hs1, w64 (q[r] - q[s]) (by omega) (by omega), l1Abs_eq _ (by omega) (by omega), Option.bind_some, w64 ((s : Int) - (r : Int)) (by omega) (by omega), w64 ((s : Int) + 1) (by omega) (by omega), show ((s : Int) + 1) = ((s + 1 : Nat) : Int) by omega, h1 k (by omega), h2 k (by omega), rowP_step q r s hs1, if_pos (show acc.length < 5864062014805 by omega)]
    have he : (att q r s = true) ↔ (((q[r] - q[s]).natAbs : Int) = (s : Int) - (r : Int)) := by
      unfold att
      simp only [List.getD_eq_getElem?_getD, List.getElem?_eq_getElem hr, List.getElem?_eq_getElem hs1, Option.getD_some, decide_eq_true_iff]
      omega
    by_cases h : att q r s = true
    · rw [if_pos (he.1 h), if_pos h]; simp [List.append_assoc]
    · rw [if_neg (fun x => h (he.2 x)), if_neg h]; simp
theorem quAttacks_outerS (q : List Int) (hg : Small q) : ∀ (d r : Nat) (acc : List (List Int)), q.length - r = d → r ≤ q.length → acc.length ≤ 8 * r →
    Ev (fun k => spec_quAttacks.l0 k q acc q (q.length : Int) (r : Int)) (acc ++ allP q r) := by
  have hl := hg.1
  intro d
  induction d with
  | zero =>
    intro r acc hd hr ha
    refine ⟨1, fun k hk => ?_⟩
    obtain ⟨k, rfl⟩ : ∃ m, k = m + 1 := ⟨k - 1, by omega⟩
    simp only [spec_quAttacks.l0]
    rw [if_neg (by omega), allP_nil q r (by omega), List.append_nil]
  | succ d ih =>
    intro r acc hd hr ha
    have hr1 : r < q.length := by omega
    obtain ⟨K, hK⟩ := ev_get (quAttacks_innerS q hg r hr1 (fun acc ha => ih (r + 1) acc (by omega) (by omega) ha) (q.length - (r + 1)) (r + 1) acc (by omega) (by omega) (by omega) (by omega))
    refine ⟨K + 1, fun k hk => ?_⟩
    obtain ⟨k, rfl⟩ : ∃ m, k = m + 1 := ⟨k - 1, by omega⟩
    simp only [spec_quAttacks.l0]
    rw [if_pos (by omega), if_pos (by omega), if_pos (by omega), rd_nat _ _ hr1, w64 _ (by omega) (by omega), show ((r : Int) + 1) = ((r + 1 : Nat) : Int) by omega, hK k (by omega), allP_step q r hr1, List.append_assoc]
theorem quAttacks_evS (q : List Int) (hg : Small q) : Ev (fun k => spec_quAttacks.f k q) (allP q 0) := by
  obtain ⟨K, hK⟩ := ev_get (quAttacks_outerS q hg q.length 0 [] (by omega) (by omega) (by simp))
  refine ⟨K, fun k hk => ?_⟩
  simp only [spec_quAttacks.f]
  simpa using hK k hk

open Classical in
theorem onTorus_innerN (N : Nat) (hN1 : 1 ≤ N) (hN8 : N ≤ 8) (q : List Int) (hg : Small q) (s : Nat) (hs : s < q.length)
    (hout : Ev (fun k => impl_onTorus_1.l0 k q (N : Int) q (q.length : Int) ((s + 1 : Nat) : Int)) (decide (torTo N q (s + 1)))) :
    ∀ (d r : Nat), s - r = d → r ≤ s →
    Ev (fun k => impl_onTorus_1.l1 k q (N : Int) (s : Int) q[s] q (q.length : Int) (s : Int) (q.take s) ((q.take s).length : Int) (r : Int)) (decide (colTor N q r s ∧ torTo N q (s + 1))) := by
  have hl := hg.1
  have hq2 := hg.2 s hs
  have ht : (q.take s).length = s := by rw [List.length_take]; omega
  intro d
  induction d with
  | zero =>
    intro r hd hr
    obtain ⟨K, hK⟩ := ev_get hout
    refine ⟨K + 1, fun k hk => ?_⟩
    obtain ⟨k, rfl⟩ : ∃ m, k = m + 1 := ⟨k - 1, by omega⟩
    simp only [impl_onTorus_1.l1]
    rw [ht, if_neg (by omega), w64 _ (by omega) (by omega), show ((s : Int) + 1) = ((s + 1 : Nat) : Int) by omega, hK k (by omega)]
    congr 1
    rw [decide_eq_decide]
    exact ⟨fun h => ⟨fun r' h1 h2 => by omega, h⟩, fun h => h.2⟩
  | succ d ih =>
    intro r hd hr
    have hr1 : r < s := by omega
    have hq := hg.2 r (by omega)
    obtain ⟨K, hK⟩ := ev_get (ih (r + 1) (by omega) (by omega))
    refine ⟨K + 1, fun k hk => ?_⟩
    obtain ⟨k, rfl⟩ : ∃ m, k = m + 1 := ⟨k - 1, by omega⟩
    have hK := hK k (by omega)
    simp only [impl_onTorus_1.l1]
    rw [ht] at hK ⊢
    rw [if_pos (by omega), if_pos (by omega), if_pos (by omega), if_neg (by omega), rd_nat _ _ (show r < (q.take s).length by omega), List.getElem_take, w64 ((r : Int) + q[r]) (by omega) (by omega), w64 ((r : Int) + q[r] - s) (by omega) (by omega), w64 ((r : Int) + q[r] - s - q[s]) (by omega) (by omega), w64 ((r : Int) - q[r]) (by omega) (by omega), w64 ((r : Int) - q[r] - s) (by omega) (by omega), w64 ((r : Int) - q[r] - s + q[s]) (by omega) (by omega), w64 ((r : Int) + 1) (by omega) (by omega), show ((r : Int) + 1) = ((r + 1 : Nat) : Int) by omega, hK]
    have hst := colTor_step N q r s hr1
    have ht : (tor N q r s = true) ↔ ((N : Int) ∣ (r : Int) + q[r] - s - q[s] ∨ (N : Int) ∣ (r : Int) - q[r] - s + q[s]) := by
      unfold tor
      rw [decide_eq_true_iff, getD_eq q r (by omega), getD_eq q s hs, ← Int.dvd_neg (b := (r : Int) + q[r] - s - q[s]), ← Int.dvd_neg (b := (r : Int) - q[r] - s + q[s]),
        show -((r : Int) + q[r] - s - q[s]) = ((s : Int) - r) + (q[s] - q[r]) by omega, show -((r : Int) - q[r] - s + q[s]) = ((s : Int) - r) - (q[s] - q[r]) by omega]
    by_cases h1 : Int.tmod ((r : Int) + q[r] - s - q[s]) N = 0
    · rw [if_pos h1]
      congr 1
      symm; apply decide_eq_false
      rintro ⟨h2, _⟩
      have := (hst.1 h2).1
      rw [ht.2 (.inl ((tmod_dvd _ _).1 h1))] at this; cases this
    · rw [if_neg h1]
      by_cases h2 : Int.tmod ((r : Int) - q[r] - s + q[s]) N = 0
      · rw [if_pos h2]
        congr 1
        symm; apply decide_eq_false
        rintro ⟨h3, _⟩
        have := (hst.1 h3).1
        rw [ht.2 (.inr ((tmod_dvd _ _).1 h2))] at this; cases this
      · rw [if_neg h2]
        congr 1
        rw [decide_eq_decide]
        have hf : tor N q r s = false := by
          rw [Bool.eq_false_iff]
          intro h; rcases ht.1 h with h | h
          · exact h1 ((tmod_dvd _ _).2 h)
          · exact h2 ((tmod_dvd _ _).2 h)
        exact ⟨fun h => ⟨hst.2 ⟨hf, h.1⟩, h.2⟩, fun h => ⟨(hst.1 h.1).2, h.2⟩⟩
open Classical in
theorem onTorus_outerN (N : Nat) (hN1 : 1 ≤ N) (hN8 : N ≤ 8) (q : List Int) (hg : Small q) : ∀ (d s : Nat), q.length - s = d → s ≤ q.length →
    Ev (fun k => impl_onTorus_1.l0 k q (N : Int) q (q.length : Int) (s : Int)) (decide (torTo N q s)) := by
  have hl := hg.1
  intro d
  induction d with
  | zero =>
    intro s hd hs
    refine ⟨1, fun k hk => ?_⟩
    obtain ⟨k, rfl⟩ : ∃ m, k = m + 1 := ⟨k - 1, by omega⟩
    simp only [impl_onTorus_1.l0]
    rw [if_neg (by omega)]
    congr 1
    symm; apply decide_eq_true
    intro s' h1 h2; omega
  | succ d ih =>
    intro s hd hs
    have hs1 : s < q.length := by omega
    obtain ⟨K, hK⟩ := ev_get (onTorus_innerN N hN1 hN8 q hg s hs1 (ih (s + 1) (by omega) (by omega)) s 0 (by omega) (by omega))
    refine ⟨K + 1, fun k hk => ?_⟩
    obtain ⟨k, rfl⟩ : ∃ m, k = m + 1 := ⟨k - 1, by omega⟩
    simp only [impl_onTorus_1.l0]
    rw [if_pos (by omega), if_pos (by omega), if_pos (by omega), if_pos (by omega), Option.bind_some, rd_nat _ _ hs1, show (s : Int).toNat = s by omega]
    refine (hK k (by omega)).trans ?_
    congr 1
    rw [decide_eq_decide]
    exact (torTo_step _ q s hs1).symm
end Go.Proofs.Ythjejaoadhhpdaa.P

namespace Go.Proofs.Ythjejaoadhhpdaa.Pure
open Go.RowKit Go.Proofs.Ythjejaoadhhpdaa.P Go.Proofs.YthjejaoadhhpdaaW.PrintWords Go.Proofs.YthjejaoadhhpdaaW.PrintLast
set_option linter.unusedSimpArgs false
set_option linter.unusedVariables false
namespace FnExactCountGoingOn
open Classical in
noncomputable def R (n : Int) (q : List Int) : Int × Bool := if inB n 1 8 = true ∧ (q.length : Int) ≤ n ∧ restPerm q n 0 then ((((P n.toNat (n.toNat - q.length) q).filter freeB).length : Int), true) else (0, false)
theorem inB_nat {n : Int} (h : inB n 1 8 = true) : ∃ N : Nat, n = N ∧ 1 ≤ N ∧ N ≤ 8 := by
  unfold inB at h
  have := of_decide_eq_true h
  exact ⟨n.toNat, by omega, by omega, by omega⟩
theorem restPerm_step (l : List Int) (n : Int) (i : Nat) (h : i < l.length) : restPerm l n i ↔ ((0 ≤ l[i] ∧ l[i] ≤ n - 1) ∧ l[i] ∉ l.take i) ∧ restPerm l n (i + 1) := by
  constructor
  · intro h1
    exact ⟨h1 i (Nat.le_refl _) h, fun j h2 h3 => h1 j (by omega) h3⟩
  · rintro ⟨h1, h2⟩ j h3 h4
    rcases Nat.eq_or_lt_of_le h3 with h5 | h5
    · subst h5; exact h1
    · exact h2 j h5 h4
theorem restPerm_ok {N : Nat} {q : List Int} (hl : q.length ≤ N) (h : restPerm q (N : Int) 0) : OkQ N q := by
  refine ⟨hl, fun x hx => ?_⟩
  obtain ⟨i, hi, rfl⟩ := List.getElem_of_mem hx
  have := (h i (by omega) hi).1
  omega
theorem restPerm_all {n : Int} {q : List Int} : restPerm q n 0 ↔ allIn q 0 (n - 1) = true ∧ restOnce q 0 := by
  unfold allIn
  rw [List.all_eq_true]
  constructor
  · intro h
    refine ⟨fun x hx => ?_, fun j h1 h2 => (h j h1 h2).2⟩
    obtain ⟨i, hi, rfl⟩ := List.getElem_of_mem hx
    exact decide_eq_true (h i (by omega) hi).1
  · rintro ⟨h1, h2⟩ j h3 h4
    exact ⟨of_decide_eq_true (h1 _ (List.getElem_mem h4)), h2 j h3 h4⟩
open Classical in
theorem impl_loop (N : Nat) (h1 : 1 ≤ N) (h8 : N ≤ 8) (q : List Int) (hl : q.length ≤ N) (c : Int) (hend : restPerm q (N : Int) 0 → Ev (fun k => (impl_grown.f k (N : Int) q impl_areQueens.fn).bind fun t => some ((t.length : Int), true)) (c, true)) :
    ∀ (d i : Nat), q.length - i = d → i ≤ q.length → (restPerm q (N : Int) i → restPerm q (N : Int) 0) →
    Ev (fun k => impl_CountGoingOn.l0 k (N : Int) q q (q.length : Int) (i : Int)) (if restPerm q (N : Int) i then (c, true) else (0, false)) := by
  intro d
  induction d with
  | zero =>
    intro i hd hi himp
    have hr : restPerm q (N : Int) i := fun j h2 h3 => by omega
    obtain ⟨K, hK⟩ := ev_get (hend (himp hr))
    refine ⟨K + 1, fun k hk => ?_⟩
    obtain ⟨k, rfl⟩ : ∃ m, k = m + 1 := ⟨k - 1, by omega⟩
    dsimp only
    rw [impl_CountGoingOn.l0, if_neg (by omega), if_pos hr]
    exact hK k (by omega)
  | succ d ih =>
    intro i hd hi himp
    have hil : i < q.length := by omega
    have hst := restPerm_step q (N : Int) i hil
    have hti : (q.take ((i : Int)).toNat) = q.take i := by rw [show ((i : Int)).toNat = i by omega]
    by_cases hin : inB q[i] 0 ((N : Int) - 1) = true
    · obtain ⟨K1, k1⟩ := ev_get (Contains_ev (q.take i) q[i] (by rw [List.length_take]; omega))
      by_cases hc : q[i] ∈ q.take i
      · refine ⟨K1 + 1, fun k hk => ?_⟩
        obtain ⟨k, rfl⟩ : ∃ m, k = m + 1 := ⟨k - 1, by omega⟩
        dsimp only
        rw [impl_CountGoingOn.l0, if_pos (by omega), if_pos (by omega), if_pos (by omega), rd_nat _ _ hil, w64 _ (by omega) (by omega), within_eq, Option.bind_some, if_pos hin, if_pos (by omega), hti, k1 k (by omega), Option.bind_some, if_pos (decide_eq_true hc), if_neg (fun h => (hst.1 h).1.2 hc)]
      · have hok : (0 ≤ q[i] ∧ q[i] ≤ (N : Int) - 1) ∧ q[i] ∉ q.take i := ⟨of_decide_eq_true hin, hc⟩
        obtain ⟨K2, k2⟩ := ev_get (ih (i + 1) (by omega) (by omega) (fun h => himp (hst.2 ⟨hok, h⟩)))
        refine ⟨K1 + K2 + 1, fun k hk => ?_⟩
        obtain ⟨k, rfl⟩ : ∃ m, k = m + 1 := ⟨k - 1, by omega⟩
        dsimp only
        rw [impl_CountGoingOn.l0, if_pos (by omega), if_pos (by omega), if_pos (by omega), rd_nat _ _ hil, w64 _ (by omega) (by omega), within_eq, Option.bind_some, if_pos hin, if_pos (by omega), hti, k1 k (by omega), Option.bind_some, if_neg (by simpa using hc), w64 _ (by omega) (by omega), show ((i : Int) + 1) = ((i + 1 : Nat) : Int) by omega, k2 k (by omega)]
        congr 1
        have : restPerm q (N : Int) i ↔ restPerm q (N : Int) (i + 1) := ⟨fun h => (hst.1 h).2, fun h => hst.2 ⟨hok, h⟩⟩
        simp only [this]
    · refine ⟨1, fun k hk => ?_⟩
      obtain ⟨k, rfl⟩ : ∃ m, k = m + 1 := ⟨k - 1, by omega⟩
      dsimp only
      rw [impl_CountGoingOn.l0, if_pos (by omega), if_pos (by omega), if_pos (by omega), rd_nat _ _ hil, w64 _ (by omega) (by omega), within_eq, Option.bind_some, if_neg hin, if_neg (fun h => hin (decide_eq_true (hst.1 h).1.1))]
open Classical in
theorem spec_loop (N : Nat) (h1 : 1 ≤ N) (h8 : N ≤ 8) (q : List Int) (hl : q.length ≤ N) (c : Int) (hend : restOnce q 0 → Ev (fun k => (spec_quAttacks.f k q).bind fun t544 => (if (t544.length : Int) > 0 then (some (0, true)) else ((spec_quAll.f k (N : Int) q).bind fun t547 => (some ((t547.length : Int), true))))) (c, true)) :
    ∀ (d i : Nat), q.length - i = d → i ≤ q.length → (restOnce q i → restOnce q 0) →
    Ev (fun k => spec_CountGoingOn.l0 k (N : Int) q q (q.length : Int) (i : Int)) (if restOnce q i then (c, true) else (0, false)) := by
  intro d
  induction d with
  | zero =>
    intro i hd hi himp
    have hr : restOnce q i := fun j h2 h3 => by omega
    obtain ⟨K, hK⟩ := ev_get (hend (himp hr))
    refine ⟨K + 1, fun k hk => ?_⟩
    obtain ⟨k, rfl⟩ : ∃ m, k = m + 1 := ⟨k - 1, by omega⟩
    dsimp only
    rw [spec_CountGoingOn.l0, if_neg (by omega), if_pos hr]
    exact hK k (by omega)
  | succ d ih =>
    intro i hd hi himp
    have hil : i < q.length := by omega
    have hst := restOnce_step q i hil
    have hti : (q.take ((i : Int)).toNat) = q.take i := by rw [show ((i : Int)).toNat = i by omega]
    obtain ⟨K1, k1⟩ := ev_get (l1Has_ev (q.take i) q[i] (by rw [List.length_take]; omega))
    by_cases hc : q[i] ∈ q.take i
    · refine ⟨K1 + 1, fun k hk => ?_⟩
      obtain ⟨k, rfl⟩ : ∃ m, k = m + 1 := ⟨k - 1, by omega⟩
      dsimp only
      rw [spec_CountGoingOn.l0, if_pos (by omega), if_pos (by omega), if_pos (by omega), if_pos (by omega), rd_nat _ _ hil, hti, k1 k (by omega), Option.bind_some, if_pos (decide_eq_true hc), if_neg (fun h => (hst.1 h).1 hc)]
    · obtain ⟨K2, k2⟩ := ev_get (ih (i + 1) (by omega) (by omega) (fun h => himp (hst.2 ⟨hc, h⟩)))
      refine ⟨K1 + K2 + 1, fun k hk => ?_⟩
      obtain ⟨k, rfl⟩ : ∃ m, k = m + 1 := ⟨k - 1, by omega⟩
      dsimp only
      rw [spec_CountGoingOn.l0, if_pos (by omega), if_pos (by omega), if_pos (by omega), if_pos (by omega), rd_nat _ _ hil, hti, k1 k (by omega), Option.bind_some, if_neg (by simpa using hc), w64 _ (by omega) (by omega), show ((i : Int) + 1) = ((i + 1 : Nat) : Int) by omega, k2 k (by omega)]
      congr 1
      have : restOnce q i ↔ restOnce q (i + 1) := ⟨fun h => (hst.1 h).2, fun h => hst.2 ⟨hc, h⟩⟩
      simp only [this]
theorem impl_ev (n : Int) (q : List Int) (hb : q.length ≤ 1152921504606846976) : Ev (fun k => impl_CountGoingOn.f k n q) (R n q) := by
  unfold R
  by_cases h : inB n 1 8 = true
  · obtain ⟨N, rfl, h1, h8⟩ := inB_nat h
    by_cases hl : (q.length : Int) ≤ (N : Int)
    · obtain ⟨K, hK⟩ := ev_get (impl_loop N h1 h8 q (by omega) ((((P N (N - q.length) q).filter freeB).length : Int)) (fun hp => by
        obtain ⟨K, hK⟩ := ev_get (grownAll_ev N h8 q (restPerm_ok (by omega) hp) (N - q.length) (by omega))
        refine ⟨K, fun k hk => ?_⟩
        simp only [hK k hk, Option.bind_some]) q.length 0 (by omega) (by omega) id)
      refine ⟨K + 1, fun k hk => ?_⟩
      obtain ⟨k, rfl⟩ : ∃ m, k = m + 1 := ⟨k - 1, by omega⟩
      simp only [impl_CountGoingOn.f, isMany_eq, Option.bind_some, if_pos h, decide_eq_false (show ¬ (q.length : Int) > (N : Int) by omega)]
      rw [impl_CountGoingOn.j0, if_neg (by simp)]
      refine (hK k (by omega)).trans ?_
      congr 1
      simp only [Int.toNat_natCast]
      by_cases hp : restPerm q (N : Int) 0
      · rw [if_pos hp, if_pos ⟨h, hl, hp⟩]
      · rw [if_neg hp, if_neg (fun h => hp h.2.2)]
    · refine ⟨1, fun k hk => ?_⟩
      obtain ⟨k, rfl⟩ : ∃ m, k = m + 1 := ⟨k - 1, by omega⟩
      simp only [impl_CountGoingOn.f, isMany_eq, Option.bind_some, if_pos h, decide_eq_true (show (q.length : Int) > (N : Int) by omega)]
      rw [impl_CountGoingOn.j0, if_pos rfl, if_neg (fun h => hl h.2.1)]
  · refine ⟨1, fun k hk => ?_⟩
    obtain ⟨k, rfl⟩ : ∃ m, k = m + 1 := ⟨k - 1, by omega⟩
    simp only [impl_CountGoingOn.f, isMany_eq, Option.bind_some, if_neg h]
    rw [impl_CountGoingOn.j0, if_pos rfl, if_neg (fun h2 => h h2.1)]
theorem spec_ev (n : Int) (q : List Int) (hb : q.length ≤ 1152921504606846976) : Ev (fun k => spec_CountGoingOn.f k n q) (R n q) := by
  unfold R
  by_cases h : inB n 1 8 = true
  · obtain ⟨N, rfl, h1, h8⟩ := inB_nat h
    by_cases hl : (q.length : Int) ≤ (N : Int)
    · obtain ⟨K1, k1⟩ := ev_get (l1All_ev q 0 ((N : Int) - 1) hb)
      by_cases ha : allIn q 0 ((N : Int) - 1) = true
      · obtain ⟨K, hK⟩ := ev_get (spec_loop N h1 h8 q (by omega) ((((P N (N - q.length) q).filter freeB).length : Int)) (fun hp => by
          have hok := restPerm_ok (show q.length ≤ N by omega) (restPerm_all.2 ⟨ha, hp⟩)
          obtain ⟨K1, k1⟩ := ev_get (quAttacks_evS q (okq_small h8 hok))
          have hfa := freeB_allP q
          by_cases hf : freeB q = true
          · obtain ⟨K2, k2⟩ := ev_get (quAll_ev N h8 (N - q.length) q hok (by omega) hf)
            refine ⟨K1 + K2, fun k hk => ?_⟩
            rw [hf, beq_iff_eq] at hfa
            simp only [k1 k (by omega), Option.bind_some, hfa, k2 k (by omega)]
            rw [if_neg (by omega)]
          · refine ⟨K1, fun k hk => ?_⟩
            rw [Bool.eq_false_iff.2 hf, beq_eq_false_iff_ne] at hfa
            simp only [k1 k (by omega), Option.bind_some]
            rw [if_pos (by omega), P_none freeB_her hok (by omega) (Bool.eq_false_iff.2 hf)]
            rfl) q.length 0 (by omega) (by omega) id)
        refine ⟨K + K1 + 1, fun k hk => ?_⟩
        obtain ⟨k, rfl⟩ : ∃ m, k = m + 1 := ⟨k - 1, by omega⟩
        simp only [spec_CountGoingOn.f, quSide_eq, Option.bind_some, if_pos h]
        rw [if_neg (by omega), w64 _ (by omega) (by omega), k1 (k + 1) (by omega), Option.bind_some, ha, spec_CountGoingOn.j0, if_neg (by simp)]
        refine (hK k (by omega)).trans ?_
        congr 1
        simp only [Int.toNat_natCast]
        by_cases hp : restOnce q 0
        · rw [if_pos hp, if_pos ⟨h, hl, restPerm_all.2 ⟨ha, hp⟩⟩]
        · rw [if_neg hp, if_neg (fun h => hp (restPerm_all.1 h.2.2).2)]
      · refine ⟨K1 + 1, fun k hk => ?_⟩
        obtain ⟨k, rfl⟩ : ∃ m, k = m + 1 := ⟨k - 1, by omega⟩
        simp only [spec_CountGoingOn.f, quSide_eq, Option.bind_some, if_pos h]
        rw [if_neg (by omega), w64 _ (by omega) (by omega), k1 (k + 1) (by omega), Option.bind_some, Bool.eq_false_iff.2 ha, spec_CountGoingOn.j0, if_pos (by simp), if_neg (fun h => ha (restPerm_all.1 h.2.2).1)]
    · refine ⟨1, fun k hk => ?_⟩
      obtain ⟨k, rfl⟩ : ∃ m, k = m + 1 := ⟨k - 1, by omega⟩
      simp only [spec_CountGoingOn.f, quSide_eq, Option.bind_some, if_pos h]
      rw [if_pos (by omega), spec_CountGoingOn.j0, if_pos rfl, if_neg (fun h => hl h.2.1)]
  · refine ⟨1, fun k hk => ?_⟩
    obtain ⟨k, rfl⟩ : ∃ m, k = m + 1 := ⟨k - 1, by omega⟩
    simp only [spec_CountGoingOn.f, quSide_eq, Option.bind_some, if_neg h]
    rw [spec_CountGoingOn.j0, if_pos rfl, if_neg (fun h2 => h h2.1)]
end FnExactCountGoingOn
open FnExactCountGoingOn in
theorem FnExactCountGoingOn : laws_FnExactCountGoingOn.Pure := by
  intro a0 l1 hy0 hy1 hy2 hy3
  by_cases hbig : (l1.length : Int) > 1048576
  · exact ⟨0, by unfold laws_FnExactCountGoingOn.f; rw [if_pos hbig]⟩
  obtain ⟨K1, h1⟩ := ev_get (spec_ev a0 l1 (by omega))
  obtain ⟨K2, h2⟩ := ev_get (impl_ev a0 l1 (by omega))
  generalize R a0 l1 = R at *
  obtain ⟨K3, h3⟩ := ev_get (toIntS_ev l1 (by omega))
  obtain ⟨K4, h4⟩ := ev_get (eqIntS_ev l1 l1 (by omega))
  obtain ⟨K5, h5⟩ := ev_get (markIntS_ev l1 1 (by omega) (by omega) (by omega))
  have e1 : ¬ ((1 : Int) + l1.length < 0) := by omega
  obtain ⟨m, hm⟩ : ∃ m, m = K1 + K2 + K3 + K4 + K5 := ⟨_, rfl⟩
  replace h1 := fun j => h1 (m + j) (by omega)
  replace h2 := fun j => h2 (m + j) (by omega)
  replace h3 := fun j => h3 (m + j) (by omega)
  replace h4 := fun j => h4 (m + j) (by omega)
  replace h5 := fun j => h5 (m + j) (by omega)
  clear hm
  refine ⟨m + 2, ?_⟩
  unfold laws_FnExactCountGoingOn.f
  rw [if_neg hbig]
  simp only [h1, h2, h3, h4, h5, Option.bind_some, decide_true, if_true, bne_self_eq_false, Bool.false_eq_true, if_false, if_neg e1]
  rw [laws_FnExactCountGoingOn.j0]
  simp only [h1, h2, h3, h4, h5, Option.bind_some, decide_true, if_true, bne_self_eq_false, Bool.false_eq_true, if_false, if_neg e1]
end Go.Proofs.Ythjejaoadhhpdaa.Pure
