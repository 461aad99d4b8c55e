import Derived.Test.YthjejaoadhhpdaaPx1
import Derived.Test.YthjejaoadhhpdaaPx2
import Derived.Test.YthjejaoadhhpdaaPx3
import Derived.Test.YthjejaoadhhpdaaPx4
import Derived.Test.YthjejaoadhhpdaaPx5
namespace Go.Proofs.Ythjejaoadhhpdaa.P
open Go.RowKit Go.Proofs.YthjejaoadhhpdaaW.PrintWords Go.Proofs.YthjejaoadhhpdaaW.PrintLast Go.Proofs.YthjejaoadhhpdaaW.PrintMore
set_option linter.unusedVariables false
set_option linter.unusedSimpArgs false

/-! #### general -/
theorem w64 (n : Int) (h : -9223372036854775808 ≤ n) (h2 : n ≤ 9223372036854775807) : wrap64 n = n := by unfold wrap64; omega
theorem rd_nat (l : List Int) (i : Nat) (h : i < l.length) : rd l (i : Int) = l[i] := by
  unfold rd; simp [List.getD_eq_getElem?_getD, List.getElem?_eq_getElem h]
theorem drop_cons (l : List Int) (i : Nat) (h : i < l.length) : l.drop i = l[i] :: l.drop (i + 1) := List.drop_eq_getElem_cons h
theorem ev_if_pos {α : Type} {c : Prop} [Decidable c] {a b : Nat → Option α} {r : α} (h : c) (k : Ev a r) : Ev (fun n => if c then a n else b n) r := by simpa only [if_pos h] using k
theorem ev_if_neg {α : Type} {c : Prop} [Decidable c] {a b : Nat → Option α} {r : α} (h : ¬ c) (k : Ev b r) : Ev (fun n => if c then a n else b n) r := by simpa only [if_neg h] using k
theorem ev_get {α : Type} {g : Nat → Option α} {r : α} (h : Ev g r) : ∃ K, ∀ k, K ≤ k → g k = some r := h
theorem ev_some {α : Type} (r : α) : Ev (fun _ => some r) r := Ev.now r
theorem ev_eq {α : Type} {g : Nat → Option α} {r r' : α} (h : Ev g r) (e : r = r') : Ev g r' := e ▸ h
theorem ev_cbind {α β : Type} {g : Option α} {f : Nat → α → Option β} {a : α} {r : β} (h : g = some a) (k : Ev (fun n => f n a) r) : Ev (fun n => g.bind (f n)) r := by
  subst h; simpa using k
theorem ev_const {α : Type} {g : Option α} {r : α} (h : g = some r) : Ev (fun _ => g) r := ⟨0, fun _ _ => h⟩

theorem take_set_succ {α : Type} (l : List α) (i : Nat) (x : α) (h : i < l.length) : (l.set i x).take (i + 1) = l.take i ++ [x] := by
  rw [List.take_add_one, List.take_set_of_le (Nat.le_refl _)]
  simp [h]

/-! #### toIntS -/
theorem toIntS_l0 (x0 : List Int) (hl : x0.length ≤ 1152921504606846976) : ∀ (d i : Nat) (x3 : List Int) (k : Nat), x0.length - i = d → i ≤ x0.length → x3.length = x0.length → d < k →
    laws_toIntS.l0 k x0 x3 (i : Int) = some (x3.take i ++ x0.drop i) := by
  intro d
  induction d with
  | zero =>
    intro i x3 k hd hi hx hk
    obtain ⟨k, rfl⟩ : ∃ m, k = m + 1 := ⟨k - 1, by omega⟩
    rw [laws_toIntS.l0, if_neg (by omega)]
    have : i = x0.length := by omega
    subst this
    simp [← hx]
  | succ d ih =>
    intro i x3 k hd hi hx hk
    obtain ⟨k, rfl⟩ : ∃ m, k = m + 1 := ⟨k - 1, by omega⟩
    have h1 : i < x0.length := by omega
    rw [laws_toIntS.l0, if_pos (by omega), if_pos (by omega), if_pos (by omega), w64 _ (by omega) (by omega)]
    have := ih (i + 1) (x3.set i (rd x0 i)) k (by omega) (by omega) (by simp [hx]) (by omega)
    rw [show ((i : Int) + 1) = ((i + 1 : Nat) : Int) by omega, show (i : Int).toNat = i by omega, this, rd_nat _ _ h1, drop_cons x0 i h1]
    congr 1
    rw [take_set_succ _ _ _ (by omega)]
    simp
theorem toIntS_ev (l : List Int) (hl : l.length ≤ 35184372088832) : Ev (fun k => laws_toIntS.f k l) l := by
  refine ⟨l.length + 1, fun k hk => ?_⟩
  simp only [laws_toIntS.f]
  rw [if_pos (by omega), if_pos (by omega)]
  have := toIntS_l0 l (by omega) l.length 0 (List.replicate l.length 0) k (by omega) (by omega) (by simp) (by omega)
  simpa using this

/-! #### eqIntS -/
theorem eqIntS_l0 (a b : List Int) (hl : a.length = b.length) (hb : a.length ≤ 1152921504606846976) : ∀ (d i : Nat) (k : Nat), a.length - i = d → i ≤ a.length → d < k →
    laws_eqIntS.l0 k a b (i : Int) = some (decide (a.drop i = b.drop i)) := by
  intro d
  induction d with
  | zero =>
    intro i k hd hi hk
    obtain ⟨k, rfl⟩ : ∃ m, k = m + 1 := ⟨k - 1, by omega⟩
    rw [laws_eqIntS.l0, if_neg (by omega)]
    simp [List.drop_eq_nil_of_le (show a.length ≤ i by omega), List.drop_eq_nil_of_le (show b.length ≤ i by omega)]
  | succ d ih =>
    intro i k hd hi hk
    obtain ⟨k, rfl⟩ : ∃ m, k = m + 1 := ⟨k - 1, by omega⟩
    have h1 : i < a.length := by omega
    rw [laws_eqIntS.l0, if_pos (by omega), if_pos (by omega), if_pos (by omega), w64 _ (by omega) (by omega), rd_nat _ _ h1, rd_nat _ _ (show i < b.length by omega)]
    rw [show ((i : Int) + 1) = ((i + 1 : Nat) : Int) by omega, ih (i + 1) k (by omega) (by omega) (by omega)]
    rw [drop_cons a i h1, drop_cons b i (by omega)]
    generalize a.drop (i + 1) = ta, b.drop (i + 1) = tb
    by_cases h : a[i] = b[i]
    · simp [h]
    · simp [h]
theorem eqIntS_ev (a b : List Int) (hb : a.length ≤ 1152921504606846976) : Ev (fun k => laws_eqIntS.f k a b) (decide (a = b)) := by
  refine ⟨a.length + 1, fun k hk => ?_⟩
  simp only [laws_eqIntS.f]
  by_cases h : a.length = b.length
  · rw [if_pos (by omega)]
    have := eqIntS_l0 a b h hb a.length 0 k (by omega) (by omega) (by omega)
    simpa using this
  · rw [if_neg (by omega)]
    congr 1
    symm
    apply decide_eq_false
    intro e
    exact h (by rw [e])

/-! #### marks -/
def marks (n : Nat) (k : Int) : List Int := (List.range n).map fun (i : Nat) => k + (i : Int)
theorem marks_length (n : Nat) (k : Int) : (marks n k).length = n := by simp [marks]
theorem marks_succ (n : Nat) (k : Int) : marks (n + 1) k = k :: marks n (k + 1) := by
  unfold marks
  rw [List.range_succ_eq_map, List.map_cons, List.map_map]
  congr 1
  · simp
  · apply List.map_congr_left
    intro a _
    simp
    omega
theorem marks_zero (k : Int) : marks 0 k = [] := rfl
theorem markIntS_l0 : ∀ (d i : Nat) (x0 : List Int) (x1 : Int) (k : Nat), x0.length - i = d → i ≤ x0.length → d < k → x0.length ≤ 1152921504606846976 → 0 ≤ x1 → x1 + d ≤ 4611686018427387904 →
    laws_markIntS.l0 k x0 x1 (i : Int) = some (x1 + d, x0.take i ++ marks d x1) := by
  intro d
  induction d with
  | zero =>
    intro i x0 x1 k hd hi hk hb h0 h1
    obtain ⟨k, rfl⟩ : ∃ m, k = m + 1 := ⟨k - 1, by omega⟩
    rw [laws_markIntS.l0, if_neg (by omega)]
    have : i = x0.length := by omega
    subst this
    simp [marks]
  | succ d ih =>
    intro i x0 x1 k hd hi hk hb h0 h1
    obtain ⟨k, rfl⟩ : ∃ m, k = m + 1 := ⟨k - 1, by omega⟩
    rw [laws_markIntS.l0, if_pos (by omega), if_pos (by omega), w64 _ (by omega) (by omega), w64 _ (by omega) (by omega)]
    rw [show ((i : Int) + 1) = ((i + 1 : Nat) : Int) by omega, show (i : Int).toNat = i by omega]
    rw [ih (i + 1) (x0.set i x1) (x1 + 1) k (by simp; omega) (by simp; omega) (by omega) (by simpa using hb) (by omega) (by omega)]
    rw [marks_succ]
    congr 2
    · omega
    · rw [take_set_succ _ _ _ (by omega)]
      simp
theorem markIntS_ev (l : List Int) (k1 : Int) (hb : l.length ≤ 1152921504606846976) (h0 : 0 ≤ k1) (h1 : k1 + l.length ≤ 4611686018427387904) : Ev (fun k => laws_markIntS.f k l k1) (k1 + l.length, marks l.length k1) := by
  refine ⟨l.length + 1, fun k hk => ?_⟩
  simp only [laws_markIntS.f]
  have := markIntS_l0 l.length 0 l k1 k (by omega) (by omega) (by omega) hb h0 h1
  simpa using this
theorem heldIntS_l0 (n : Nat) (k0 : Int) (hb : n ≤ 1152921504606846976) (h0 : 0 ≤ k0) (h1 : k0 + n ≤ 4611686018427387904) : ∀ (d i : Nat) (k : Nat), n - i = d → i ≤ n → d < k →
    laws_heldIntS.l0 k (marks n k0) (k0 + i) (i : Int) = some (k0 + n) := by
  intro d
  induction d with
  | zero =>
    intro i k hd hi hk
    obtain ⟨k, rfl⟩ : ∃ m, k = m + 1 := ⟨k - 1, by omega⟩
    rw [laws_heldIntS.l0, if_neg (by rw [marks_length]; omega)]
    congr 1; omega
  | succ d ih =>
    intro i k hd hi hk
    obtain ⟨k, rfl⟩ : ∃ m, k = m + 1 := ⟨k - 1, by omega⟩
    have h2 : i < (marks n k0).length := by rw [marks_length]; omega
    rw [laws_heldIntS.l0, if_pos (by rw [marks_length]; omega), if_pos (by omega), rd_nat _ _ h2, if_pos (by simp [marks]), w64 _ (by omega) (by omega), w64 _ (by omega) (by omega)]
    have := ih (i + 1) k (by omega) (by omega) (by omega)
    rw [show ((i : Int) + 1) = ((i + 1 : Nat) : Int) by omega, show (k0 + (i : Int) + 1) = k0 + ((i + 1 : Nat) : Int) by omega]
    exact this
theorem heldIntS_ev (n : Nat) (k0 : Int) (hb : n ≤ 1152921504606846976) (h0 : 0 ≤ k0) (h1 : k0 + n ≤ 4611686018427387904) : Ev (fun k => laws_heldIntS.f k (marks n k0) k0) (k0 + n) := by
  refine ⟨n + 1, fun k hk => ?_⟩
  simp only [laws_heldIntS.f]
  have := heldIntS_l0 n k0 hb h0 h1 n 0 k (by omega) (by omega) (by omega)
  simpa using this

/-! #### bounds, members -/
def inB (n lo hi : Int) : Bool := decide (lo ≤ n ∧ n ≤ hi)
theorem l1In_eq (a b c : Int) : spec_l1In.f a b c = some (inB a b c) := by
  unfold spec_l1In.f inB
  by_cases h : a ≥ b
  · rw [if_pos h]; congr 1; simp; omega
  · rw [if_neg h]; congr 1; symm; apply decide_eq_false; omega
theorem within_eq (a b c : Int) : impl_within.f a b c = some (inB a b c) := by
  unfold impl_within.f inB
  by_cases h : b ≤ a
  · rw [if_pos h]; congr 1; simp; omega
  · rw [if_neg h]; congr 1; symm; apply decide_eq_false; omega
def allIn (l : List Int) (lo hi : Int) : Bool := l.all fun x => inB x lo hi
theorem l1All_l0 (lo hi : Int) (l : List Int) (hb : l.length ≤ 1152921504606846976) : ∀ (d i : Nat) (k : Nat), l.length - i = d → i ≤ l.length → d < k →
    spec_l1All.l0 k lo hi l (l.length : Int) (i : Int) = some (allIn (l.drop i) lo hi) := by
  intro d
  induction d with
  | zero =>
    intro i k hd hi' hk
    obtain ⟨k, rfl⟩ : ∃ m, k = m + 1 := ⟨k - 1, by omega⟩
    rw [spec_l1All.l0, if_neg (by omega), List.drop_eq_nil_of_le (by omega)]
    rfl
  | succ d ih =>
    intro i k hd hi' hk
    obtain ⟨k, rfl⟩ : ∃ m, k = m + 1 := ⟨k - 1, by omega⟩
    have h1 : i < l.length := by omega
    rw [spec_l1All.l0, if_pos (by omega), if_pos (by omega), if_pos (by omega), l1In_eq, Option.bind_some, w64 _ (by omega) (by omega), rd_nat _ _ h1]
    rw [show ((i : Int) + 1) = ((i + 1 : Nat) : Int) by omega, ih (i + 1) k (by omega) (by omega) (by omega), drop_cons l i h1]
    unfold allIn
    rw [List.all_cons]
    generalize l.drop (i + 1) = tl
    by_cases h : inB l[i] lo hi = true
    · rw [if_pos h, h]; simp
    · rw [if_neg h]; simp at h; rw [h]; simp
theorem l1All_ev (l : List Int) (lo hi : Int) (hb : l.length ≤ 1152921504606846976) : Ev (fun k => spec_l1All.f k l lo hi) (allIn l lo hi) := by
  refine ⟨l.length + 1, fun k hk => ?_⟩
  simp only [spec_l1All.f]
  have := l1All_l0 lo hi l hb l.length 0 k (by omega) (by omega) (by omega)
  simpa using this
theorem l1Has_l0 (x : Int) (l : List Int) (hb : l.length ≤ 1152921504606846976) : ∀ (d i : Nat) (k : Nat), l.length - i = d → i ≤ l.length → d < k →
    spec_l1Has.l0 k x l (l.length : Int) (i : Int) = some (decide (x ∈ l.drop i)) := by
  intro d
  induction d with
  | zero =>
    intro i k hd hi' hk
    obtain ⟨k, rfl⟩ : ∃ m, k = m + 1 := ⟨k - 1, by omega⟩
    rw [spec_l1Has.l0, if_neg (by omega), List.drop_eq_nil_of_le (by omega)]
    rfl
  | succ d ih =>
    intro i k hd hi' hk
    obtain ⟨k, rfl⟩ : ∃ m, k = m + 1 := ⟨k - 1, by omega⟩
    have h1 : i < l.length := by omega
    rw [spec_l1Has.l0, if_pos (by omega), if_pos (by omega), if_pos (by omega), w64 _ (by omega) (by omega), rd_nat _ _ h1]
    rw [show ((i : Int) + 1) = ((i + 1 : Nat) : Int) by omega, ih (i + 1) k (by omega) (by omega) (by omega), drop_cons l i h1]
    generalize l.drop (i + 1) = tl
    by_cases h : l[i] = x
    · rw [if_pos h]; simp [h]
    · rw [if_neg h]; congr 1; simp [Ne.symm h]
theorem l1Has_ev (l : List Int) (x : Int) (hb : l.length ≤ 1152921504606846976) : Ev (fun k => spec_l1Has.f k l x) (decide (x ∈ l)) := by
  refine ⟨l.length + 1, fun k hk => ?_⟩
  simp only [spec_l1Has.f]
  have := l1Has_l0 x l hb l.length 0 k (by omega) (by omega) (by omega)
  simpa using this
/-- slices.Index tells at least 0 just for a member. -/
theorem Index_l0 (x : Int) (l : List Int) (hb : l.length ≤ 1152921504606846976) : ∀ (d i : Nat) (k : Nat), l.length - i = d → i ≤ l.length → d < k →
    slices_Index_int_int.l0 k l x (l.length : Int) (i : Int) = some (if x ∈ l.drop i then (i : Int) + ((l.drop i).idxOf x : Nat) else -1) := by
  intro d
  induction d with
  | zero =>
    intro i k hd hi' hk
    obtain ⟨k, rfl⟩ : ∃ m, k = m + 1 := ⟨k - 1, by omega⟩
    rw [slices_Index_int_int.l0, if_neg (by omega), List.drop_eq_nil_of_le (by omega)]
    rfl
  | succ d ih =>
    intro i k hd hi' hk
    obtain ⟨k, rfl⟩ : ∃ m, k = m + 1 := ⟨k - 1, by omega⟩
    have h1 : i < l.length := by omega
    rw [slices_Index_int_int.l0, if_pos (by omega), if_pos (by omega), if_pos (by omega), w64 _ (by omega) (by omega), rd_nat _ _ h1]
    rw [show ((i : Int) + 1) = ((i + 1 : Nat) : Int) by omega, ih (i + 1) k (by omega) (by omega) (by omega), drop_cons l i h1]
    generalize l.drop (i + 1) = tl
    by_cases h : x = l[i]
    · rw [if_pos h]; simp [h]
    · rw [if_neg h]; congr 1
      rw [List.idxOf_cons, show (l[i] == x) = false by simpa using Ne.symm h, cond_false]
      by_cases h2 : x ∈ tl
      · rw [if_pos h2, if_pos (by simp [h2])]; omega
      · rw [if_neg h2, if_neg (by simp [h, h2])]
theorem Index_ev (l : List Int) (x : Int) (hb : l.length ≤ 1152921504606846976) : Ev (fun k => slices_Index_int_int.f k l x) (if x ∈ l then (l.idxOf x : Int) else -1) := by
  refine ⟨l.length + 1, fun k hk => ?_⟩
  simp only [slices_Index_int_int.f]
  have := Index_l0 x l hb l.length 0 k (by omega) (by omega) (by omega)
  simpa using this
theorem Contains_ev (l : List Int) (x : Int) (hb : l.length ≤ 1152921504606846976) : Ev (fun k => slices_Contains_int_int.f k l x) (decide (x ∈ l)) := by
  obtain ⟨K, hK⟩ := ev_get (Index_ev l x hb)
  refine ⟨K, fun k hk => ?_⟩
  simp only [slices_Contains_int_int.f, hK k hk, Option.bind_some]
  congr 1
  by_cases h : x ∈ l
  · simp [h]
  · simp [h]

/-! #### lists that have each of 0..n-1 once -/
def permB (l : List Int) (n : Int) : Bool := decide ((l.length : Int) = n ∧ (∀ x ∈ l, 0 ≤ x ∧ x ≤ n - 1) ∧ l.Nodup)
/-- What the loop of isPerm looks at from place i on. -/
def restPerm (l : List Int) (n : Int) (i : Nat) : Prop := ∀ j, i ≤ j → ∀ h : j < l.length, (0 ≤ l[j] ∧ l[j] ≤ n - 1) ∧ l[j] ∉ l.take j
def restOnce (l : List Int) (i : Nat) : Prop := ∀ j, i ≤ j → ∀ h : j < l.length, l[j] ∉ l.take j
theorem restOnce_iff (l : List Int) : restOnce l 0 ↔ l.Nodup := by
  constructor
  · intro h
    rw [List.nodup_iff_pairwise_ne, List.pairwise_iff_getElem]
    intro i j hi hj hij e
    exact h j (by omega) hj (by rw [← e]; exact List.mem_take_iff_getElem.2 ⟨i, by omega, rfl⟩)
  · intro h j _ hj hm
    rw [List.nodup_iff_pairwise_ne, List.pairwise_iff_getElem] at h
    obtain ⟨i, hi, e⟩ := List.mem_take_iff_getElem.1 hm
    exact h i j (by omega) hj (by omega) e
theorem restOnce_step (l : List Int) (i : Nat) (h : i < l.length) : restOnce l i ↔ l[i] ∉ l.take i ∧ restOnce l (i + 1) := by
  constructor
  · intro H
    exact ⟨H i (by omega) h, fun j hj hjl => H j (by omega) hjl⟩
  · rintro ⟨h0, H⟩ j hj hjl
    by_cases e : j = i
    · subst e; exact h0
    · exact H j (by omega) hjl
open Classical in
theorem isPerm_l0 (l : List Int) (n : Int) (hn : n = l.length) (hb : l.length ≤ 1152921504606846976) : ∀ (d i : Nat), l.length - i = d → i ≤ l.length →
    Ev (fun k => impl_isPerm.l0 k l n l (l.length : Int) (i : Int)) (decide ((∀ x ∈ l.drop i, 0 ≤ x ∧ x ≤ n - 1) ∧ restOnce l i)) := by
  intro d
  induction d with
  | zero =>
    intro i hd hi'
    refine ⟨1, fun k hk => ?_⟩
    obtain ⟨k, rfl⟩ : ∃ m, k = m + 1 := ⟨k - 1, by omega⟩
    simp only [impl_isPerm.l0]
    rw [if_neg (by omega)]
    congr 1
    symm
    apply decide_eq_true
    rw [List.drop_eq_nil_of_le (by omega)]
    exact ⟨by simp, fun j hj h => by omega⟩
  | succ d ih =>
    intro i hd hi'
    have h1 : i < l.length := by omega
    obtain ⟨K1, h3⟩ := ev_get (ih (i + 1) (by omega) (by omega))
    obtain ⟨K2, h4⟩ := ev_get (Contains_ev (l.take i) l[i] (by simp; omega))
    refine ⟨K1 + K2 + 1, fun k hk => ?_⟩
    obtain ⟨k, rfl⟩ : ∃ m, k = m + 1 := ⟨k - 1, by omega⟩
    simp only [impl_isPerm.l0]
    rw [if_pos (by omega), if_pos (by omega), if_pos (by omega), within_eq, Option.bind_some, w64 (n - 1) (by omega) (by omega), w64 _ (by omega) (by omega), rd_nat _ _ h1, if_pos (show (i : Int) ≤ (l.length : Int) by omega), show (i : Int).toNat = i by omega, show ((i : Int) + 1) = ((i + 1 : Nat) : Int) by omega, h4 k (by omega), h3 k (by omega), Option.bind_some]
    have hs := restOnce_step l i h1
    rw [drop_cons l i h1]
    by_cases h : inB l[i] 0 (n - 1) = true
    · rw [if_pos h]
      have h' : 0 ≤ l[i] ∧ l[i] ≤ n - 1 := by simpa [inB] using h
      by_cases h2 : l[i] ∈ l.take i
      · simp only [h2, decide_true, if_true]
        congr 1
        symm; apply decide_eq_false
        rintro ⟨_, hr⟩
        exact (hs.1 hr).1 h2
      · simp only [h2, decide_false, if_false, Bool.false_eq_true]
        congr 1
        rw [decide_eq_decide]
        constructor
        · rintro ⟨ha, hr⟩
          refine ⟨?_, hs.2 ⟨h2, hr⟩⟩
          intro x hx
          rcases List.mem_cons.1 hx with rfl | hx
          · exact h'
          · exact ha x hx
        · rintro ⟨ha, hr⟩
          exact ⟨fun x hx => ha x (List.mem_cons_of_mem _ hx), (hs.1 hr).2⟩
    · rw [if_neg h]
      congr 1
      symm; apply decide_eq_false
      rintro ⟨ha, _⟩
      exact h (by simpa [inB] using ha _ (List.mem_cons_self ..))
theorem isPerm_ev (l : List Int) (n : Int) (hb : l.length ≤ 1152921504606846976) : Ev (fun k => impl_isPerm.f k l n) (permB l n) := by
  by_cases h : (l.length : Int) = n
  · obtain ⟨K, hK⟩ := ev_get (isPerm_l0 l n h.symm hb l.length 0 (by omega) (by omega))
    refine ⟨K, fun k hk => ?_⟩
    simp only [impl_isPerm.f]
    rw [if_pos h]
    refine (hK k hk).trans ?_
    congr 1
    unfold permB
    rw [decide_eq_decide, restOnce_iff, List.drop_zero]
    exact ⟨fun ⟨a, b⟩ => ⟨h, a, b⟩, fun ⟨_, a, b⟩ => ⟨a, b⟩⟩
  · refine ⟨0, fun k hk => ?_⟩
    simp only [impl_isPerm.f]
    rw [if_neg h]
    congr 1
    symm; apply decide_eq_false
    exact fun ⟨a, _⟩ => h a

end Go.Proofs.Ythjejaoadhhpdaa.P
