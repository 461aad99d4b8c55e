import Derived.Shelf.Sort.Plain
import Derived.Shelf.Slices.CompactI
import Derived.Lib.RowBridge
import Derived.Test.YtdoflpghemgbdaaWd
namespace Go.Proofs.YtdoflpghemgbdaaW.So
open Go.RowKit Go.Proofs.YtdoflpghemgbdaaW.PrintWords Go.Proofs.YtdoflpghemgbdaaW.PrintLast Go.Proofs.YtdoflpghemgbdaaW.PrintMore
set_option linter.unusedVariables false
set_option linter.unusedSimpArgs false
abbrev after (w : World) (n g : Nat) (ys : List Int) (os : Array Obj) : World := Go.Sort.grow (Go.Sort.putRow (Value.int .i64) (Go.Sort.ahead w n) g 0 ys.toArray) os
theorem far (w : World) (n g : Nat) (ys : List Int) (os : Array Obj) (i : Nat) (hi : i < w.heap.size) (hne : i ≠ g) : (after w n g ys os).heap[i]? = w.heap[i]? := by
  show ((w.heap.modify g _) ++ os)[i]? = _
  rw [Array.getElem?_append_left (by simpa using hi), Array.getElem?_modify, if_neg (fun h => hne h.symm)]
theorem near (w : World) (n g : Nat) (ys : List Int) (os : Array Obj) (cur : Array Value) (e : TypeId) (hg : w.heap[g]? = some (.cells cur e (0, 0))) : (after w n g ys os).heap[g]? = some (.cells (Go.Sort.putCells (Value.int .i64) 0 ys.toArray cur) e (0, 0)) := by
  have hi : g < w.heap.size := by
    by_cases h : g < w.heap.size
    · exact h
    · rw [Array.getElem?_eq_none (by omega)] at hg; cases hg
  show ((w.heap.modify g _) ++ os)[g]? = _
  rw [Array.getElem?_append_left (by simpa using hi), Array.getElem?_modify, if_pos rfl, hg]
  rfl
theorem size_le (w : World) (n g : Nat) (ys : List Int) (os : Array Obj) : w.heap.size ≤ (after w n g ys os).heap.size := by
  show _ ≤ ((w.heap.modify g _) ++ os).size
  simp
theorem put_take (ys : List Int) (cur : Array Value) (h : ys.length ≤ cur.size) : (Go.Sort.putCells (Value.int .i64) 0 ys.toArray cur).toList.take ys.length = encs (Value.int .i64) ys := by
  refine List.ext_getElem (by simp [Go.Sort.putCells, encs]; omega) (fun i h1 h2 => ?_)
  have hi : i < ys.length := by simpa [encs] using h2
  simp [Go.Sort.putCells, encs, hi]
theorem own {w : World} {base : Nat} {e : TypeId} {v : Value} {zs : List Int} (ho : w.ownsRow base e 1 v zs.length (encs (Value.int .i64) zs)) :
    (v = .slice none 0 0 ∧ zs = []) ∨ ∃ g cap, v = .slice (some ⟨g, 0, none⟩) zs.length cap ∧ base ≤ g ∧ g < w.heap.size ∧ zs.length ≤ maxLen ∧ Go.Sort.Holds (Value.int .i64) w g 0 zs.toArray ∧ ∀ n (os : Array Obj) (ys : List Int), ys.length = zs.length → (after w n g ys os).ownsRow base e 1 v ys.length (encs (Value.int .i64) ys) := by
  obtain ⟨hl, ⟨rfl, h0⟩ | ⟨g, cap, cur, rfl, hb, hg, hc, hm, hs, ht⟩⟩ := ho
  · exact .inl ⟨rfl, List.length_eq_zero_iff.1 h0⟩
  · have hi : g < w.heap.size := by
      by_cases h : g < w.heap.size
      · exact h
      · rw [Array.getElem?_eq_none (by omega)] at hg; cases hg
    refine .inr ⟨g, cap, rfl, hb, hi, by omega, fun j hj => ?_, fun n os ys hy => ⟨by simp [encs], .inr ⟨g, cap, _, by rw [hy], hb, near w n g ys os cur e hg, by omega, hm, by simp [Go.Sort.putCells]; omega, by rw [Nat.mul_one]; exact put_take ys cur (by omega)⟩⟩⟩
    have hj : j < zs.length := by simpa using hj
    have hx : cur[0 + j]? = some (Value.int .i64 zs[j]) := by
      have h1 : (cur.toList.take (zs.length * 1))[j]? = (encs (Value.int .i64) zs)[j]? := by rw [ht]
      rw [List.getElem?_take, if_pos (by omega)] at h1
      simp only [Array.getElem?_toList, encs, List.getElem?_map, List.getElem?_eq_getElem hj, Option.map_some] at h1
      rw [Nat.zero_add]; exact h1
    refine ⟨?_, ?_⟩
    · unfold World.cell?
      simp only [hg, Option.isSome_none, Bool.false_eq_true, if_false]
      rw [hx]
      simp [hj]
    · unfold World.frozen?
      simp [hg]
def ins (x : Int) : List Int → List Int
  | [] => [x]
  | y :: l => if x ≤ y then x :: y :: l else y :: ins x l
def sortI : List Int → List Int
  | [] => []
  | x :: l => ins x (sortI l)
theorem ins_perm (x : Int) : ∀ l, (ins x l).Perm (x :: l)
  | [] => .refl _
  | y :: l => by
    unfold ins
    split
    · exact .refl _
    · exact ((ins_perm x l).cons y).trans (.swap x y l)
theorem sortI_perm : ∀ l, (sortI l).Perm l
  | [] => .refl _
  | x :: l => (ins_perm x _).trans ((sortI_perm l).cons x)
theorem ins_sorted (x : Int) : ∀ l : List Int, l.Pairwise (· ≤ ·) → (ins x l).Pairwise (· ≤ ·)
  | [], _ => by simp [ins]
  | y :: l, h => by
    unfold ins
    rw [List.pairwise_cons] at h
    split
    · rename_i hx
      rw [List.pairwise_cons]
      refine ⟨fun z hz => ?_, List.pairwise_cons.2 h⟩
      rcases List.mem_cons.1 hz with rfl | hz
      · exact hx
      · have := h.1 z hz; omega
    · rename_i hx
      rw [List.pairwise_cons]
      refine ⟨fun z hz => ?_, ins_sorted x l h.2⟩
      rcases List.mem_cons.1 ((ins_perm x l).mem_iff.1 hz) with rfl | hz
      · omega
      · exact h.1 z hz
theorem sortI_sorted : ∀ l, (sortI l).Pairwise (· ≤ ·)
  | [] => .nil
  | x :: l => ins_sorted x _ (sortI_sorted l)
theorem sorted_eq : ∀ a b : List Int, a.Pairwise (· ≤ ·) → b.Pairwise (· ≤ ·) → a.Perm b → a = b
  | [], b, _, _, h => by rw [List.nil_perm] at h; exact h.symm
  | x :: a, [], _, _, h => by have := h.length_eq; simp at this
  | x :: a, y :: b, ha, hb, h => by
    rw [List.pairwise_cons] at ha hb
    have hx : x ∈ y :: b := h.mem_iff.1 (List.mem_cons_self)
    have hy : y ∈ x :: a := h.mem_iff.2 (List.mem_cons_self)
    have e : x = y := by
      rcases List.mem_cons.1 hx with e | hx
      · exact e
      · rcases List.mem_cons.1 hy with e | hy
        · exact e.symm
        · have := hb.1 x hx
          have := ha.1 y hy
          omega
    subst e
    rw [sorted_eq a b ha.2 hb.2 (List.Perm.cons_inv h)]
theorem mergeSort_eq (l : List Int) : (l.mergeSort fun x y => decide (x ≤ y)) = sortI l := by
  refine sorted_eq _ _ ?_ (sortI_sorted l) ((List.mergeSort_perm l _).trans (sortI_perm l).symm)
  have h := List.pairwise_mergeSort (le := fun (x y : Int) => decide (x ≤ y)) (fun a b c h1 h2 => by simp at *; omega) (fun a b => by simp; omega) l
  exact h.imp (fun h => by simpa using h)
theorem put_take2 (ys : List Int) (m : Nat) (hm : m ≤ ys.length) (cur : Array Value) (h : ys.length ≤ cur.size) : (Go.Sort.putCells (Value.int .i64) 0 ys.toArray cur).toList.take m = encs (Value.int .i64) (ys.take m) := by
  have := put_take ys cur h
  have e : (Go.Sort.putCells (Value.int .i64) 0 ys.toArray cur).toList.take m = ((Go.Sort.putCells (Value.int .i64) 0 ys.toArray cur).toList.take ys.length).take m := by rw [List.take_take, Nat.min_eq_left hm]
  rw [e, this]
  simp [encs]
/-- A row of the call's own, of which a head is kept behind a store of all its cells. -/
theorem own2 {w : World} {base : Nat} {e : TypeId} {v : Value} {zs : List Int} (ho : w.ownsRow base e 1 v zs.length (encs (Value.int .i64) zs)) :
    (v = .slice none 0 0 ∧ zs = []) ∨ ∃ g cap, v = .slice (some ⟨g, 0, none⟩) zs.length cap ∧ base ≤ g ∧ g < w.heap.size ∧ zs.length ≤ cap ∧ Go.Sort.Holds (Value.int .i64) w g 0 zs.toArray ∧ ∀ n (os : Array Obj) (ys : List Int) (m : Nat), ys.length = zs.length → m ≤ ys.length → (after w n g ys os).ownsRow base e 1 (.slice (some ⟨g, 0, none⟩) m cap) m (encs (Value.int .i64) (ys.take m)) := by
  rcases own ho with h | ⟨g, cap, rfl, hb, hi, hm, hH, hA⟩
  · exact .inl h
  · obtain ⟨hl, ⟨h, _⟩ | ⟨g2, cap2, cur, hv, hb2, hg, hc, hm2, hs, ht⟩⟩ := ho
    · cases h
    · injection hv with h1 h2 h3
      injection h1 with h1
      injection h1 with h1 _ _
      subst h1 h3
      exact .inr ⟨g, cap, rfl, hb, hi, hc, hH, fun n os ys m hy hm => ⟨by simp [encs]; omega, .inr ⟨g, cap, _, rfl, hb, near w n g ys os cur e hg, by omega, hm2, by simp [Go.Sort.putCells]; omega, by rw [Nat.mul_one]; exact put_take2 ys m hm cur (by omega)⟩⟩⟩
theorem after_none (w : World) (n g : Nat) (ys : List Int) : Go.Sort.putRow (Value.int .i64) (Go.Sort.ahead w n) g 0 ys.toArray = after w n g ys #[] := by
  simp [Go.Sort.grow, Go.Sort.putRow, Go.Sort.mapBlock]
end Go.Proofs.YtdoflpghemgbdaaW.So
