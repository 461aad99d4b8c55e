import Derived.Test.YthjejaoadhhpdaaPx1
import Derived.Test.YthjejaoadhhpdaaPx3
import Derived.Test.YthjejaoadhhpdaaPx6
import Derived.Test.YthjejaoadhhpdaaPx8
namespace Go.Proofs.Ythjejaoadhhpdaa.P
open Go.RowKit Go.Proofs.YthjejaoadhhpdaaW.PrintWords Go.Proofs.YthjejaoadhhpdaaW.PrintLast Go.Proofs.YthjejaoadhhpdaaW.PrintMore
set_option linter.unusedVariables false
set_option linter.unusedSimpArgs false

/-! #### general -/
theorem w64 (n : Int) (h : -9223372036854775808 ≤ n) (h2 : n ≤ 9223372036854775807) : wrap64 n = n := by unfold wrap64; omega
theorem rd_nat (l : List Int) (i : Nat) (h : i < l.length) : rd l (i : Int) = l[i] := by
  unfold rd; simp [List.getD_eq_getElem?_getD, List.getElem?_eq_getElem h]
theorem drop_cons (l : List Int) (i : Nat) (h : i < l.length) : l.drop i = l[i] :: l.drop (i + 1) := List.drop_eq_getElem_cons h
theorem ev_if_pos {α : Type} {c : Prop} [Decidable c] {a b : Nat → Option α} {r : α} (h : c) (k : Ev a r) : Ev (fun n => if c then a n else b n) r := by simpa only [if_pos h] using k
theorem ev_if_neg {α : Type} {c : Prop} [Decidable c] {a b : Nat → Option α} {r : α} (h : ¬ c) (k : Ev b r) : Ev (fun n => if c then a n else b n) r := by simpa only [if_neg h] using k
theorem ev_get {α : Type} {g : Nat → Option α} {r : α} (h : Ev g r) : ∃ K, ∀ k, K ≤ k → g k = some r := h
theorem ev_some {α : Type} (r : α) : Ev (fun _ => some r) r := Ev.now r
theorem ev_eq {α : Type} {g : Nat → Option α} {r r' : α} (h : Ev g r) (e : r = r') : Ev g r' := e ▸ h
theorem ev_cbind {α β : Type} {g : Option α} {f : Nat → α → Option β} {a : α} {r : β} (h : g = some a) (k : Ev (fun n => f n a) r) : Ev (fun n => g.bind (f n)) r := by
  subst h; simpa using k
theorem ev_const {α : Type} {g : Option α} {r : α} (h : g = some r) : Ev (fun _ => g) r := ⟨0, fun _ _ => h⟩

theorem take_set_succ {α : Type} (l : List α) (i : Nat) (x : α) (h : i < l.length) : (l.set i x).take (i + 1) = l.take i ++ [x] := by
  rw [List.take_add_one, List.take_set_of_le (Nat.le_refl _)]
  simp [h]

/-! #### toIntS -/
theorem toIntS_l0 (x0 : List Int) (hl : x0.length ≤ 1152921504606846976) : ∀ (d i : Nat) (x3 : List Int) (k : Nat), x0.length - i = d → i ≤ x0.length → x3.length = x0.length → d < k →
    laws_toIntS.l0 k x0 x3 (i : Int) = some (x3.take i ++ x0.drop i) := by
  intro d
  induction d with
  | zero =>
    intro i x3 k hd hi hx hk
    obtain ⟨k, rfl⟩ : ∃ m, k = m + 1 := ⟨k - 1, by omega⟩
    rw [laws_toIntS.l0, if_neg (by omega)]
    have : i = x0.length := by omega
    subst this
    simp [← hx]
  | succ d ih =>
    intro i x3 k hd hi hx hk
    obtain ⟨k, rfl⟩ : ∃ m, k = m + 1 := ⟨k - 1, by omega⟩
    have h1 : i < x0.length := by omega
    rw [laws_toIntS.l0, if_pos (by omega), if_pos (by omega), if_pos (by omega), w64 _ (by omega) (by omega)]
    have := ih (i + 1) (x3.set i (rd x0 i)) k (by omega) (by omega) (by simp [hx]) (by omega)
    rw [show ((i : Int) + 1) = ((i + 1 : Nat) : Int) by omega, show (i : Int).toNat = i by omega, this, rd_nat _ _ h1, drop_cons x0 i h1]
    congr 1
    rw [take_set_succ _ _ _ (by omega)]
    simp
theorem toIntS_ev (l : List Int) (hl : l.length ≤ 35184372088832) : Ev (fun k => laws_toIntS.f k l) l := by
  refine ⟨l.length + 1, fun k hk => ?_⟩
  simp only [laws_toIntS.f]
  rw [if_pos (by omega), if_pos (by omega)]
  have := toIntS_l0 l (by omega) l.length 0 (List.replicate l.length 0) k (by omega) (by omega) (by simp) (by omega)
  simpa using this
/-! #### eqIntS -/
theorem eqIntS_l0 (a b : List Int) (hl : a.length = b.length) (hb : a.length ≤ 1152921504606846976) : ∀ (d i : Nat) (k : Nat), a.length - i = d → i ≤ a.length → d < k →
    laws_eqIntS.l0 k a b (i : Int) = some (decide (a.drop i = b.drop i)) := by
  intro d
  induction d with
  | zero =>
    intro i k hd hi hk
    obtain ⟨k, rfl⟩ : ∃ m, k = m + 1 := ⟨k - 1, by omega⟩
    rw [laws_eqIntS.l0, if_neg (by omega)]
    simp [List.drop_eq_nil_of_le (show a.length ≤ i by omega), List.drop_eq_nil_of_le (show b.length ≤ i by omega)]
  | succ d ih =>
    intro i k hd hi hk
    obtain ⟨k, rfl⟩ : ∃ m, k = m + 1 := ⟨k - 1, by omega⟩
    have h1 : i < a.length := by omega
    rw [laws_eqIntS.l0, if_pos (by omega), if_pos (by omega), if_pos (by omega), w64 _ (by omega) (by omega), rd_nat _ _ h1, rd_nat _ _ (show i < b.length by omega)]
    rw [show ((i : Int) + 1) = ((i + 1 : Nat) : Int) by omega, ih (i + 1) k (by omega) (by omega) (by omega)]
    rw [drop_cons a i h1, drop_cons b i (by omega)]
    generalize a.drop (i + 1) = ta, b.drop (i + 1) = tb
    by_cases h : a[i] = b[i]
    · simp [h]
    · simp [h]
theorem eqIntS_ev (a b : List Int) (hb : a.length ≤ 1152921504606846976) : Ev (fun k => laws_eqIntS.f k a b) (decide (a = b)) := by
  refine ⟨a.length + 1, fun k hk => ?_⟩
  simp only [laws_eqIntS.f]
  by_cases h : a.length = b.length
  · rw [if_pos (by omega)]
    have := eqIntS_l0 a b h hb a.length 0 k (by omega) (by omega) (by omega)
    simpa using this
  · rw [if_neg (by omega)]
    congr 1
    symm
    apply decide_eq_false
    intro e
    exact h (by rw [e])
/-! #### marks -/
def marks (n : Nat) (k : Int) : List Int := (List.range n).map fun (i : Nat) => k + (i : Int)
theorem marks_length (n : Nat) (k : Int) : (marks n k).length = n := by simp [marks]
theorem marks_succ (n : Nat) (k : Int) : marks (n + 1) k = k :: marks n (k + 1) := by
  unfold marks
  rw [List.range_succ_eq_map, List.map_cons, List.map_map]
  congr 1
  · simp
  · apply List.map_congr_left
    intro a _
    simp
    omega
theorem marks_zero (k : Int) : marks 0 k = [] := rfl
theorem markIntS_l0 : ∀ (d i : Nat) (x0 : List Int) (x1 : Int) (k : Nat), x0.length - i = d → i ≤ x0.length → d < k → x0.length ≤ 1152921504606846976 → 0 ≤ x1 → x1 + d ≤ 4611686018427387904 →
    laws_markIntS.l0 k x0 x1 (i : Int) = some (x1 + d, x0.take i ++ marks d x1) := by
  intro d
  induction d with
  | zero =>
    intro i x0 x1 k hd hi hk hb h0 h1
    obtain ⟨k, rfl⟩ : ∃ m, k = m + 1 := ⟨k - 1, by omega⟩
    rw [laws_markIntS.l0, if_neg (by omega)]
    have : i = x0.length := by omega
    subst this
    simp [marks]
  | succ d ih =>
    intro i x0 x1 k hd hi hk hb h0 h1
    obtain ⟨k, rfl⟩ : ∃ m, k = m + 1 := ⟨k - 1, by omega⟩
    rw [laws_markIntS.l0, if_pos (by omega), if_pos (by omega), w64 _ (by omega) (by omega), w64 _ (by omega) (by omega)]
    rw [show ((i : Int) + 1) = ((i + 1 : Nat) : Int) by omega, show (i : Int).toNat = i by omega]
    rw [ih (i + 1) (x0.set i x1) (x1 + 1) k (by simp; omega) (by simp; omega) (by omega) (by simpa using hb) (by omega) (by omega)]
    rw [marks_succ]
    congr 2
    · omega
    · rw [take_set_succ _ _ _ (by omega)]
      simp
theorem markIntS_ev (l : List Int) (k1 : Int) (hb : l.length ≤ 1152921504606846976) (h0 : 0 ≤ k1) (h1 : k1 + l.length ≤ 4611686018427387904) : Ev (fun k => laws_markIntS.f k l k1) (k1 + l.length, marks l.length k1) := by
  refine ⟨l.length + 1, fun k hk => ?_⟩
  simp only [laws_markIntS.f]
  have := markIntS_l0 l.length 0 l k1 k (by omega) (by omega) (by omega) hb h0 h1
  simpa using this
theorem heldIntS_l0 (n : Nat) (k0 : Int) (hb : n ≤ 1152921504606846976) (h0 : 0 ≤ k0) (h1 : k0 + n ≤ 4611686018427387904) : ∀ (d i : Nat) (k : Nat), n - i = d → i ≤ n → d < k →
    laws_heldIntS.l0 k (marks n k0) (k0 + i) (i : Int) = some (k0 + n) := by
  intro d
  induction d with
  | zero =>
    intro i k hd hi hk
    obtain ⟨k, rfl⟩ : ∃ m, k = m + 1 := ⟨k - 1, by omega⟩
    rw [laws_heldIntS.l0, if_neg (by rw [marks_length]; omega)]
    congr 1; omega
  | succ d ih =>
    intro i k hd hi hk
    obtain ⟨k, rfl⟩ : ∃ m, k = m + 1 := ⟨k - 1, by omega⟩
    have h2 : i < (marks n k0).length := by rw [marks_length]; omega
    rw [laws_heldIntS.l0, if_pos (by rw [marks_length]; omega), if_pos (by omega), rd_nat _ _ h2, if_pos (by simp [marks]), w64 _ (by omega) (by omega), w64 _ (by omega) (by omega)]
    have := ih (i + 1) k (by omega) (by omega) (by omega)
    rw [show ((i : Int) + 1) = ((i + 1 : Nat) : Int) by omega, show (k0 + (i : Int) + 1) = k0 + ((i + 1 : Nat) : Int) by omega]
    exact this
theorem heldIntS_ev (n : Nat) (k0 : Int) (hb : n ≤ 1152921504606846976) (h0 : 0 ≤ k0) (h1 : k0 + n ≤ 4611686018427387904) : Ev (fun k => laws_heldIntS.f k (marks n k0) k0) (k0 + n) := by
  refine ⟨n + 1, fun k hk => ?_⟩
  simp only [laws_heldIntS.f]
  have := heldIntS_l0 n k0 hb h0 h1 n 0 k (by omega) (by omega) (by omega)
  simpa using this
/-! #### bounds, members -/
def inB (n lo hi : Int) : Bool := decide (lo ≤ n ∧ n ≤ hi)
theorem l1In_eq (a b c : Int) : spec_l1In.f a b c = some (inB a b c) := by
  unfold spec_l1In.f inB
  by_cases h : a ≥ b
  · rw [if_pos h]; congr 1; simp; omega
  · rw [if_neg h]; congr 1; symm; apply decide_eq_false; omega
theorem within_eq (a b c : Int) : impl_within.f a b c = some (inB a b c) := by
  unfold impl_within.f inB
  by_cases h : b ≤ a
  · rw [if_pos h]; congr 1; simp; omega
  · rw [if_neg h]; congr 1; symm; apply decide_eq_false; omega
def allIn (l : List Int) (lo hi : Int) : Bool := l.all fun x => inB x lo hi
theorem l1All_l0 (lo hi : Int) (l : List Int) (hb : l.length ≤ 1152921504606846976) : ∀ (d i : Nat) (k : Nat), l.length - i = d → i ≤ l.length → d < k →
    spec_l1All.l0 k lo hi l (l.length : Int) (i : Int) = some (allIn (l.drop i) lo hi) := by
  intro d
  induction d with
  | zero =>
    intro i k hd hi' hk
    obtain ⟨k, rfl⟩ : ∃ m, k = m + 1 := ⟨k - 1, by omega⟩
    rw [spec_l1All.l0, if_neg (by omega), List.drop_eq_nil_of_le (by omega)]
    rfl
  | succ d ih =>
    intro i k hd hi' hk
    obtain ⟨k, rfl⟩ : ∃ m, k = m + 1 := ⟨k - 1, by omega⟩
    have h1 : i < l.length := by omega
    rw [spec_l1All.l0, if_pos (by omega), if_pos (by omega), if_pos (by omega), l1In_eq, Option.bind_some, w64 _ (by omega) (by omega), rd_nat _ _ h1]
    rw [show ((i : Int) + 1) = ((i + 1 : Nat) : Int) by omega, ih (i + 1) k (by omega) (by omega) (by omega), drop_cons l i h1]
    unfold allIn
    rw [List.all_cons]
    generalize l.drop (i + 1) = tl
    by_cases h : inB l[i] lo hi = true
    · rw [if_pos h, h]; simp
    · rw [if_neg h]; simp at h; rw [h]; simp
theorem l1All_ev (l : List Int) (lo hi : Int) (hb : l.length ≤ 1152921504606846976) : Ev (fun k => spec_l1All.f k l lo hi) (allIn l lo hi) := by
  refine ⟨l.length + 1, fun k hk => ?_⟩
  simp only [spec_l1All.f]
  have := l1All_l0 lo hi l hb l.length 0 k (by omega) (by omega) (by omega)
  simpa using this
end Go.Proofs.Ythjejaoadhhpdaa.P
