import Derived.Test.YthlcaikplebpmaaKg
import Derived.Laws.AppendOwn
import Derived.Laws.IdiomCopy
import Derived.Shelf.Spec.SlicesInsert
import Derived.Shelf.Spec.SlicesInsertGrow
namespace Go.Proofs.Ythlcaikplebpmaa.Cap
open Go.RowKit Go.Proofs.YthlcaikplebpmaaW.PrintWords Go.Proofs.YthlcaikplebpmaaW.PrintLast Go.Proofs.YthlcaikplebpmaaW.PrintMore
set_option linter.unusedVariables false
def putL : Array Value → Nat → List Value → Array Value
  | cur, _, [] => cur
  | cur, o, v :: r => putL (cur.setIfInBounds o v) (o + 1) r
theorem putL_size : ∀ (vs : List Value) (cur : Array Value) (o : Nat), (putL cur o vs).size = cur.size
  | [], _, _ => rfl
  | v :: r, cur, o => by rw [putL, putL_size r]; simp
theorem putL_get : ∀ (vs : List Value) (cur : Array Value) (o k : Nat), k < cur.size → (putL cur o vs)[k]? = if o ≤ k ∧ k < o + vs.length then vs[k - o]? else cur[k]?
  | [], cur, o, k, _ => by rw [if_neg (show ¬ (o ≤ k ∧ k < o + ([] : List Value).length) by rw [List.length_nil]; omega)]; rfl
  | v :: r, cur, o, k, h => by
    rw [putL, putL_get r _ _ _ (by simpa using h), List.length_cons, Array.getElem?_setIfInBounds]
    by_cases e : o = k
    · subst e
      rw [if_neg (by omega), if_pos (by omega), Nat.sub_self]
      simp [h]
    · rw [if_neg e]
      by_cases e2 : o + 1 ≤ k ∧ k < o + 1 + r.length
      · rw [if_pos e2, if_pos (by omega), show k - o = (k - (o + 1)) + 1 by omega, List.getElem?_cons_succ]
      · rw [if_neg e2, if_neg (by omega)]
section
variable {W : World} {g t : Nat}
theorem blk_puts : ∀ (vs : List Value) {W : World} {cur : Array Value} (o : Nat), W.heap[g]? = some (.cells cur t (0, 0)) → (W.setCells g o vs).heap[g]? = some (.cells (putL cur o vs) t (0, 0))
  | [], _, _, _, h => h
  | v :: r, W, cur, o, h => blk_puts r (o + 1) (blk_put h v)
theorem far_puts : ∀ (vs : List Value) (W : World) (o k : Nat), k ≠ g → (W.setCells g o vs).heap[k]? = W.heap[k]?
  | [], _, _, _, _ => rfl
  | v :: r, W, o, k, h => (far_puts r _ (o + 1) k h).trans (setCell_ne h)
theorem size_puts : ∀ (vs : List Value) (W : World) (o : Nat), (W.setCells g o vs).heap.size = W.heap.size
  | [], _, _ => rfl
  | v :: r, W, o => (size_puts r _ (o + 1)).trans setCell_size
theorem below_puts {N : Nat} {w : World} (hg : N ≤ g) : ∀ (vs : List Value) {W : World} (o : Nat), Below N w W → Below N w (W.setCells g o vs)
  | [], _, _, h => h
  | v :: r, W, o, h => below_puts hg r (o + 1) (h.setCell hg v)
theorem R_open {e base : Nat} {P : Nat → Prop} {v : Value} {l : List Int} (h : (Kd.int .i64).R e W base P v l) (hl : l ≠ []) :
    ∃ g cap cur, v = .slice (some ⟨g, 0, none⟩) l.length cap ∧ base ≤ g ∧ P g ∧ W.heap[g]? = some (.cells cur e (0, 0)) ∧ l.length ≤ cap ∧ cap ≤ maxLen ∧ cur.size = cap ∧ ∀ k (hk : k < l.length), cur[k]? = some (.int .i64 l[k]) := by
  have ho := Kd.own_of_R h
  obtain ⟨_, ⟨rfl, h0⟩ | ⟨g, cap, cur, rfl, hb, hh, hn, hm, hs, ht⟩⟩ := ho
  · exact absurd (List.length_eq_zero_iff.1 h0) hl
  · refine ⟨g, cap, cur, rfl, hb, h.1 g rfl, hh, hn, hm, by omega, fun k hk => ?_⟩
    have h1 : (cur.toList.take (l.length * 1))[k]? = (encs (Value.int .i64) l)[k]? := by rw [ht]
    rw [List.getElem?_take, if_pos (by omega)] at h1
    simp only [Array.getElem?_toList, encs, List.getElem?_map, List.getElem?_eq_getElem hk, Option.map_some] at h1
    exact h1
theorem R_shut {e base cap : Nat} {cur : Array Value} {l : List Int} (hb : base ≤ g) (hh : W.heap[g]? = some (.cells cur e (0, 0))) (hn : l.length ≤ cap) (hm : cap ≤ maxLen) (hs : cur.size = cap) (ht : ∀ k (hk : k < l.length), cur[k]? = some (.int .i64 l[k])) {P : Nat → Prop} (hP : P g) :
    (Kd.int .i64).R e W base P (.slice (some ⟨g, 0, none⟩) l.length cap) l := by
  refine Kd.R_of_own ⟨by simp [encs], .inr ⟨g, cap, cur, rfl, hb, hh, hn, hm, by omega, ?_⟩⟩ (fun k hk => (show g = k by simpa [Value.ownBlock] using hk) ▸ hP)
  refine List.ext_getElem (by simp [encs]; omega) (fun k h1 h2 => ?_)
  have hk : k < l.length := by simpa [encs] using h2
  have := ht k hk
  rw [Array.getElem?_eq_getElem (by omega)] at this
  simp only [List.getElem_take, Array.getElem_toList, encs, List.getElem_map]
  exact Option.some.inj this
theorem R_shutn {e base cap n : Nat} {cur : Array Value} {l : List Int} (hl : l.length = n) (hb : base ≤ g) (hh : W.heap[g]? = some (.cells cur e (0, 0))) (hn : n ≤ cap) (hm : cap ≤ maxLen) (hs : cur.size = cap) (ht : ∀ k (hk : k < l.length), cur[k]? = some (.int .i64 l[k])) {P : Nat → Prop} (hP : P g) :
    (Kd.int .i64).R e W base P (.slice (some ⟨g, 0, none⟩) n cap) l := by
  subst hl
  exact R_shut hb hh hn hm hs ht hP
end
/-- The row with a number put in. -/
def insL (l : List Int) (i : Nat) (x : Int) : List Int := l.take i ++ [x] ++ l.drop i
theorem insL_len (l : List Int) (i : Nat) (x : Int) (h : i ≤ l.length) : (insL l i x).length = l.length + 1 := by simp [insL]; omega
theorem insL_get (l : List Int) (i : Nat) (x : Int) (h : i ≤ l.length) (k : Nat) (hk : k < (insL l i x).length) : (insL l i x)[k]? = if k < i then l[k]? else if k = i then some x else l[k - 1]? := by
  unfold insL
  rw [List.append_assoc]
  by_cases h1 : k < i
  · rw [if_pos h1, List.getElem?_append_left (by simp; omega), List.getElem?_take, if_pos h1]
  · rw [if_neg h1, List.getElem?_append_right (by simp; omega), List.length_take, Nat.min_eq_left h]
    by_cases h2 : k = i
    · subst h2; simp
    · rw [if_neg h2, List.singleton_append, show k - i = (k - i - 1) + 1 by omega, List.getElem?_cons_succ, List.getElem?_drop, show i + (k - i - 1) = k - 1 by omega]
end Go.Proofs.Ythlcaikplebpmaa.Cap
