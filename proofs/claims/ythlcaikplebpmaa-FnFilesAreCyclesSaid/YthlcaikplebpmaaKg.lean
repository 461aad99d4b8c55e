import Derived.Test.YthlcaikplebpmaaWk
import Derived.Maps.RangeRun
import Derived.MapFrom
namespace Go.Proofs.Ythlcaikplebpmaa.Cap
open Go.RowKit Go.Proofs.YthlcaikplebpmaaW.PrintWords Go.Proofs.YthlcaikplebpmaaW.PrintLast Go.Proofs.YthlcaikplebpmaaW.PrintMore
set_option linter.unusedVariables false
def ent (x : Int × Nat) (i : Nat) : MapEntry := { key := .int .i64 x.1, val := .slice (some ⟨x.2, 0, none⟩) 37 37, born := i }
def ents (L : List (Int × Nat)) : List MapEntry := L.zipIdx.map fun p => ent p.1 p.2
def MapAt (W : World) (B : Nat) (L : List (Int × Nat)) : Prop := W.heap[B]? = some (.map (ents L).toArray L.length)
def IterAt (W : World) (r B n : Nat) (seen : Array Nat) : Prop := W.heap[r]? = some (.mapIter (some B) n seen n)
theorem ents_push (L : List (Int × Nat)) (x : Int × Nat) : ents (L ++ [x]) = ents L ++ [ent x L.length] := by
  unfold ents
  rw [List.zipIdx_append, List.map_append]
  simp
theorem ents_at {L : List (Int × Nat)} {e : MapEntry} (h : e ∈ ents L) : ∃ i x, L[i]? = some x ∧ e = ent x i := by
  unfold ents at h
  obtain ⟨p, hp, rfl⟩ := List.mem_map.1 h
  have := List.mk_mem_zipIdx_iff_getElem?.1 (show (p.1, p.2) ∈ L.zipIdx from hp)
  exact ⟨p.2, p.1, this, rfl⟩
theorem ents_mem {L : List (Int × Nat)} {i : Nat} {x : Int × Nat} (h : L[i]? = some x) : ent x i ∈ ents L :=
  List.mem_map.2 ⟨(x, i), List.mk_mem_zipIdx_iff_getElem?.2 h, rfl⟩
theorem ents_born (L : List (Int × Nat)) : (ents L).map (·.born) = List.range L.length := by
  unfold ents
  rw [List.map_map]
  refine List.ext_getElem (by simp) (fun i h1 h2 => ?_)
  simp [ent]
theorem ents_key {L : List (Int × Nat)} : ∀ e ∈ (ents L).toArray.toList, MapKept.IsKey (.int .i64) e.key := by
  intro e he
  obtain ⟨i, x, _, rfl⟩ := ents_at (by simpa using he)
  exact rfl
theorem setBlock_ne {W : World} {B k : Nat} {o : Obj} (h : k ≠ B) : (ChangeMaps.setBlock W B o).heap[k]? = W.heap[k]? := by
  show (W.heap.setIfInBounds B o)[k]? = _
  rw [Array.getElem?_setIfInBounds_ne (Ne.symm h)]
theorem setBlock_eq {W : World} {B : Nat} {o : Obj} (h : B < W.heap.size) : (ChangeMaps.setBlock W B o).heap[B]? = some o := by
  show (W.heap.setIfInBounds B o)[B]? = _
  simp [h]
theorem setBlock_size {W : World} {B : Nat} {o : Obj} : (ChangeMaps.setBlock W B o).heap.size = W.heap.size := by
  show (W.heap.setIfInBounds B o).size = _
  simp
theorem setBlock_below {N : Nat} {w W : World} {B : Nat} {o : Obj} (h : Below N w W) (hB : N ≤ B) : Below N w (ChangeMaps.setBlock W B o) :=
  ⟨h.os, h.tape, h.output, by rw [setBlock_size]; exact h.size, fun k hk => by rw [setBlock_ne (by omega)]; exact h.block k hk⟩
theorem lt_of_at {W : World} {k : Nat} {o : Obj} (h : W.heap[k]? = some o) : k < W.heap.size := (Array.getElem?_eq_some_iff.1 h).1
/-- A new key is laid into the map. -/
theorem MapAt.update {P : Program} {T kt et : TypeId} {N : Nat} {w W : World} {B : Nat} {L : List (Int × Nat)} (h : MapAt W B L) (hm : P.underlying T = some (.map kt et)) (hd : P.underlying kt = some (.int .i64)) (m : Int) (g : Nat) (hnew : ∀ x ∈ L, x.1 ≠ m) (hb : Below N w W) (hB : N ≤ B) :
    ∃ W2, (Instr.mapUpdate T (.map (some B)) (.int .i64 m) (.slice (some ⟨g, 0, none⟩) 37 37)).run P W = .ok () W2 ∧ MapAt W2 B (L ++ [(m, g)]) ∧ (∀ k, k ≠ B → W2.heap[k]? = W.heap[k]?) ∧ W2.heap.size = W.heap.size ∧ Below N w W2 := by
  have hk : MapKept.IsKey (.int .i64) (Value.int .i64 m) := rfl
  have hlt := lt_of_at h
  rcases MapKept.findNow_spec hk (ents L).toArray.toList 0 ents_key with ⟨h1, _⟩ | ⟨j, e, h1, h2, h3⟩
  · refine ⟨ChangeMaps.setBlock W B (.map (ents (L ++ [(m, g)])).toArray (L.length + 1)), ?_, ?_, fun k hk => setBlock_ne hk, setBlock_size, setBlock_below hb hB⟩
    · have e1 : ((ents L).toArray.push { key := .int .i64 m, val := .slice (some ⟨g, 0, none⟩) 37 37, born := L.length }) = (ents (L ++ [(m, g)])).toArray := by
        rw [ents_push]
        simp [ent]
      have hm2 := MapKept.run_getObj_map (P := P) h
      simp only [Instr.mapUpdate, Sem.run_bind, run_underlying hm, hm2, MapKept.run_checkKey hd hk, MapKept.run_findKey hd h1, MapKept.run_setObj_map _ h, Result.andThen, e1]
      rfl
    · show (ChangeMaps.setBlock W B _).heap[B]? = _
      rw [setBlock_eq hlt, List.length_append]
      rfl
  · exfalso
    have he : e ∈ ents L := by
      have := List.mem_of_getElem? h2
      simpa using this
    obtain ⟨i, x, hx, rfl⟩ := ents_at he
    have : x.1 = m := by
      have h3 : Value.int .i64 x.1 = .int .i64 m := h3
      injection h3
    exact hnew x (List.mem_of_getElem? hx) this
/-- The look at the one key that is there. -/
theorem MapAt.look {P : Program} {T kt et : TypeId} {W : World} {B : Nat} {m : Int} {g : Nat} (h : MapAt W B [(m, g)]) (hm : P.underlying T = some (.map kt et)) (hd : P.underlying kt = some (.int .i64)) :
    (Instr.lookup T (.map (some B)) (.int .i64 m) false).run P W = .ok (.slice (some ⟨g, 0, none⟩) 37 37) W := by
  have hk : MapKept.IsKey (.int .i64) (Value.int .i64 m) := rfl
  have h1 : Instr.findNow (.int .i64) (.int .i64 m) (ents [(m, g)]).toArray.toList 0 = some (some (0, .slice (some ⟨g, 0, none⟩) 37 37)) := by
    simp [ents, ent, Instr.findNow, Instr.sameNow]
  have h2 : (Instr.findKey kt (.int .i64 m) (ents [(m, g)])).run P W = .ok (some (0, .slice (some ⟨g, 0, none⟩) 37 37)) W := MapKept.run_findKey hd (by simpa using h1)
  simp [Instr.lookup, run_underlying hm, MapKept.run_getObj_map h, Result.andThen, MapKept.run_checkKey hd hk, h2]
theorem MapAt.range {P : Program} {T kt et : TypeId} {W : World} {B : Nat} {L : List (Int × Nat)} (h : MapAt W B L) (hm : P.underlying T = some (.map kt et)) :
    (Instr.range T (.map (some B))).run P W = .ok (.pointer (some ⟨W.heap.size, 0, none⟩)) (W.alloc (.mapIter (some B) L.length #[] L.length)) := run_range_map W T kt et B _ _ hm h
theorem contains_iff (seen : Array Nat) (i : Nat) : seen.contains i = true ↔ i ∈ seen := by simp
/-- A step of the range: nothing is left, or an entry comes that has not come before. -/
theorem MapAt.next {P : Program} {N : Nat} {w W : World} {B r : Nat} {L : List (Int × Nat)} {seen : Array Nat} (h : MapAt W B L) (hr : IterAt W r B L.length seen) (hb : Below N w W) (hN : N ≤ r) (ty : TypeId) :
    ((∀ i, i < L.length → seen.contains i = true) ∧ (Instr.next (.pointer (some ⟨r, 0, none⟩)) false ty).run P W = .ok (.tuple #[.bool false]) W) ∨
    ∃ i x W2, L[i]? = some x ∧ seen.contains i = false ∧ (Instr.next (.pointer (some ⟨r, 0, none⟩)) false ty).run P W = .ok (.tuple #[.bool true, .int .i64 x.1, .slice (some ⟨x.2, 0, none⟩) 37 37]) W2 ∧ IterAt W2 r B L.length (seen.push i) ∧ (∀ k, k ≠ r → W2.heap[k]? = W.heap[k]?) ∧ W2.heap.size = W.heap.size ∧ Below N w W2 ∧ (Instr.entry (.pointer (some ⟨r, 0, none⟩))).run P W2 = .ok (.tuple #[.int .i64 x.1, .slice (some ⟨x.2, 0, none⟩) 37 37]) W2 ∧ (leftOf (ents L).toArray (seen.push i)).size < (leftOf (ents L).toArray seen).size := by
  have hold : ∀ x ∈ (ents L).toArray.toList, x.born < L.length := by
    intro x hx
    have h1 : x.born ∈ (ents L).map (·.born) := List.mem_map.2 ⟨x, by simpa using hx, rfl⟩
    rw [ents_born] at h1
    simpa using h1
  have hBr : B ≠ r := fun e => by
    subst e
    unfold MapAt at h
    unfold IterAt at hr
    rw [h] at hr
    cases hr
  rcases run_next_at (P := P) W ty r B L.length L.length seen _ _ hr h hold (Nat.le_refl _) with ⟨h1, h2⟩ | ⟨e, he, w1, hw, hrun⟩
  · left
    refine ⟨fun i hi => ?_, h2⟩
    have h3 := all_seen _ _ h1 (ent L[i] i) (by simpa using ents_mem (List.getElem?_eq_getElem hi))
    exact h3
  · right
    obtain ⟨he1, he2⟩ := mem_left he
    obtain ⟨i, x, hx, rfl⟩ := ents_at (by simpa using he1)
    have hs1 : w1.heap.size = W.heap.size := by rcases hw with rfl | rfl <;> rfl
    have hh1 : ∀ k : Nat, w1.heap[k]? = W.heap[k]? := by intro k; rcases hw with rfl | rfl <;> rfl
    have hb1 : Below N w w1 := by rcases hw with rfl | rfl; exact hb; exact below_drew hb
    have hlt : r < w1.heap.size := by rw [hs1]; exact lt_of_at hr
    have hit : IterAt (ChangeMaps.setBlock w1 r (.mapIter (some B) L.length (seen.push i) L.length)) r B L.length (seen.push i) := setBlock_eq hlt
    have hmap : (ChangeMaps.setBlock w1 r (.mapIter (some B) L.length (seen.push i) L.length)).heap[B]? = some (.map (ents L).toArray L.length) := by rw [setBlock_ne hBr, hh1]; exact h
    refine ⟨i, x, _, hx, he2, hrun, hit, fun k hk => by rw [setBlock_ne hk, hh1], by rw [setBlock_size, hs1], setBlock_below hb1 hN, ?_, left_shrinks _ _ _ he⟩
    exact run_entry_at _ r B L.length seen _ _ (ent x i) hit hmap he1 (by rw [show (ents L).toArray.toList = ents L from by simp, ents_born]; exact List.nodup_range)
/-- What the entries that have come give, added up. -/
def sSum (c : Nat → Int) (seen : Array Nat) : Nat → Int
  | 0 => 0
  | n + 1 => sSum c seen n + (if seen.contains n = true then c n else 0)
theorem sSum_none (c : Nat → Int) : ∀ n, sSum c #[] n = 0
  | 0 => rfl
  | n + 1 => by rw [sSum, sSum_none c n]; simp
theorem sSum_out (c : Nat → Int) (seen : Array Nat) (i : Nat) : ∀ n, n ≤ i → sSum c (seen.push i) n = sSum c seen n
  | 0, _ => rfl
  | n + 1, h => by
    rw [sSum, sSum, sSum_out c seen i n (by omega), contains_push]
    have : (n == i) = false := by simp; omega
    rw [this, Bool.or_false]
theorem sSum_push (c : Nat → Int) (seen : Array Nat) (i : Nat) (hs : seen.contains i = false) : ∀ n, i < n → sSum c (seen.push i) n = sSum c seen n + c i
  | 0, h => by omega
  | n + 1, h => by
    rw [sSum, sSum, contains_push]
    by_cases e : i = n
    · subst e
      rw [sSum_out c seen i i (Nat.le_refl _), hs]
      simp
    · rw [sSum_push c seen i hs n (by omega)]
      have : (n == i) = false := by simp; omega
      rw [this, Bool.or_false]
      omega
theorem sSum_all (c : Nat → Int) (seen : Array Nat) : ∀ n, (∀ i, i < n → seen.contains i = true) → sSum c seen n = ((List.range n).map c).sum
  | 0, _ => rfl
  | n + 1, h => by
    rw [sSum, sSum_all c seen n (fun i hi => h i (by omega)), if_pos (h n (by omega)), List.range_succ, List.map_append, List.sum_append]
    simp
/-- A new row of 37 zeros. -/
def zeros : List Int := List.replicate 37 0
theorem run_make37 {P : Program} {T e : TypeId} (ht : P.underlying T = some (.slice e)) (hi : (P.info? e).map (fun i => (i.zero, i.size, i.bytes)) = some (some (.int .i64 0), 1, 8)) (W : World) :
    (Instr.makeSlice T (.int .i64 37) (.int .i64 37)).run P W = .ok (.slice (some ⟨W.heap.size, 0, none⟩) 37 37) (W.alloc (.cells (ints zeros) e)) := by
  have h := run_make_row' (P := P) T e (.int .i64 0) 8 ht hi rfl .i64 .i64 37 (by decide) (by decide) W
  have e1 : madeCells #[Value.int .i64 0] 37 = ints zeros := by kernel_rfl
  rw [e1] at h
  exact h
theorem setCell_ne {W : World} {p : Addr} {v : Value} {k : Nat} (h : k ≠ p.block) : (W.setCell p v).heap[k]? = W.heap[k]? := Below.heap_setCell _ _ _ _ h
theorem setCell_size {W : World} {p : Addr} {v : Value} : (W.setCell p v).heap.size = W.heap.size := by simp [World.setCell]
/-- The ways: a map of masks to rows of 37 numbers, each in a block of its own from the call's begin on. -/
structure Ways (base : Nat) (W : World) (B : Nat) (L : List (Int × Nat)) (K : List (Int × List Int)) : Prop where
  map : MapAt W B L
  lb : base ≤ B
  len : L.length = K.length
  row : ∀ (i : Nat) (x : Int × Nat) (y : Int × List Int), L[i]? = some x → K[i]? = some y → x.1 = y.1 ∧ y.2.length = 37 ∧ base ≤ x.2 ∧ x.2 ≠ B ∧ W.heap[x.2]? = some (.cells (ints y.2) 3 (0, 0))
theorem Ways.far {base B : Nat} {W W1 : World} {L : List (Int × Nat)} {K : List (Int × List Int)} (h : Ways base W B L K) (hs : ∀ k, k = B ∨ (∃ x ∈ L, x.2 = k) → W1.heap[k]? = W.heap[k]?) : Ways base W1 B L K :=
  ⟨by have := h.map; unfold MapAt at this ⊢; rw [hs B (.inl rfl)]; exact this, h.lb, h.len, fun i x y hx hy => by
    obtain ⟨a, b, c, d, e⟩ := h.row i x y hx hy
    exact ⟨a, b, c, d, by rw [hs x.2 (.inr ⟨x, List.mem_of_getElem? hx, rfl⟩)]; exact e⟩⟩
theorem Ways.blk {base B : Nat} {W : World} {L : List (Int × Nat)} {K : List (Int × List Int)} (h : Ways base W B L K) {k : Nat} (hk : k = B ∨ (∃ x ∈ L, x.2 = k)) : base ≤ k ∧ k < W.heap.size := by
  rcases hk with rfl | ⟨x, hx, rfl⟩
  · exact ⟨h.lb, lt_of_at h.map⟩
  · obtain ⟨i, hi⟩ := List.mem_iff_getElem?.1 hx
    have hl : i < K.length := by rw [← h.len]; exact (List.getElem?_eq_some_iff.1 hi).1
    obtain ⟨_, _, c, _, e⟩ := h.row i x K[i] hi (List.getElem?_eq_getElem hl)
    exact ⟨c, lt_of_at e⟩
theorem Ways.below {base B : Nat} {W W1 : World} {L : List (Int × Nat)} {K : List (Int × List Int)} (h : Ways base W B L K) (hb : Below W.heap.size W W1) : Ways base W1 B L K :=
  h.far (fun k hk => hb.block k (h.blk hk).2)
/-! ### What the ways are: closed formulas, no order -/
def comp (m b : Int) : Bool := Go.bits .and .i64 m (Go.bits .or .i64 (Go.bits .or .i64 b (b * 2)) (b / 2)) == 0
def valid (C m : Nat) : Bool := Go.bits .andNot .i64 (m : Int) (C : Int) == 0 && Go.bits .and .i64 (m : Int) ((m : Int) * 2) == 0
def vec (f : Nat → Int) : List Int := (List.range 37).map f
def gives (m : Int) (c : Nat) (y : Int × List Int) (i : Nat) : Int := if comp m y.1 = true then (if c ≤ i ∧ 0 < y.2.getD (i - c) 0 then y.2.getD (i - c) 0 else 0) else 0
def ownS (g : Int × List Int → Nat → Int) (K : List (Int × List Int)) (seen : Array Nat) : List Int := vec fun i => wrap64 (sSum (fun j => g (K.getD j (0, [])) i) seen K.length)
def ownV (g : Int × List Int → Nat → Int) (K : List (Int × List Int)) : List Int := vec fun i => wrap64 (((List.range K.length).map fun j => g (K.getD j (0, [])) i).sum)
def ownJ (S : Nat → Int) (p : Int → Bool) (c : Nat) (row : List Int) (j : Nat) : List Int := vec fun i => wrap64 (S i + (if c ≤ i ∧ i - c < j ∧ p (row.getD (i - c) 0) = true then row.getD (i - c) 0 else 0))
theorem if_same {a b : Prop} [Decidable a] [Decidable b] {α : Type} (h : a ↔ b) (x y : α) : (if a then x else y) = if b then x else y := by
  by_cases e : a
  · rw [if_pos e, if_pos (h.1 e)]
  · rw [if_neg e, if_neg (fun q => e (h.2 q))]
theorem vec_length (f : Nat → Int) : (vec f).length = 37 := by simp [vec]
theorem vec_get (f : Nat → Int) (i : Nat) (h : i < 37) : (vec f)[i]'(by rw [vec_length]; exact h) = f i := by simp [vec]
theorem vec_congr {f g : Nat → Int} (h : ∀ i, i < 37 → f i = g i) : vec f = vec g := by
  unfold vec
  exact List.map_congr_left (fun i hi => h i (by simpa using hi))
theorem vec_set (f : Nat → Int) (i : Nat) (x : Int) (h : i < 37) : (vec f).set i x = vec fun j => if j = i then x else f j := by
  refine List.ext_getElem (by simp [vec_length]) (fun j h1 h2 => ?_)
  have hj : j < 37 := by simpa [vec_length] using h2
  rw [List.getElem_set]
  refine Eq.trans ?_ (vec_get (fun j => if j = i then x else f j) j hj).symm
  by_cases e : i = j
  · rw [if_pos e, if_pos e.symm]
  · rw [if_neg e, if_neg (fun (e2 : j = i) => e e2.symm), vec_get _ _ hj]
theorem zeros_vec : zeros = vec fun _ => 0 := by decide
theorem ownS_none (g : Int × List Int → Nat → Int) (K : List (Int × List Int)) : ownS g K #[] = zeros := by
  rw [zeros_vec]
  exact vec_congr (fun i _ => by rw [sSum_none]; unfold wrap64; omega)
theorem ownS_all (g : Int × List Int → Nat → Int) (K : List (Int × List Int)) (seen : Array Nat) (h : ∀ i, i < K.length → seen.contains i = true) : ownS g K seen = ownV g K :=
  vec_congr (fun i _ => by rw [sSum_all _ _ _ h])
theorem wrap_add (a b : Int) : wrap64 (wrap64 a + b) = wrap64 (a + b) := by unfold wrap64; omega
theorem ownJ_zero (S : Nat → Int) (p : Int → Bool) (c : Nat) (row : List Int) : ownJ S p c row 0 = vec fun i => wrap64 (S i) :=
  vec_congr (fun i _ => by rw [if_neg (by omega), Int.add_zero])
theorem ownJ_skip (S : Nat → Int) (p : Int → Bool) (c : Nat) (row : List Int) (j : Nat) (h : p (row.getD j 0) = false) : ownJ S p c row (j + 1) = ownJ S p c row j :=
  vec_congr (fun i _ => by
    by_cases e : c ≤ i ∧ i - c = j
    · have h1 : p (row.getD (i - c) 0) = false := by rw [e.2]; exact h
      rw [if_neg (fun hh => by rw [h1] at hh; exact absurd hh.2.2 (by simp)), if_neg (fun hh => by rw [h1] at hh; exact absurd hh.2.2 (by simp))]
    · congr 2
      refine if_same ?_ _ _
      constructor
      · rintro ⟨a, b, d⟩; exact ⟨a, by omega, d⟩
      · rintro ⟨a, b, d⟩; exact ⟨a, by omega, d⟩)
theorem ownJ_add (S : Nat → Int) (p : Int → Bool) (c : Nat) (row : List Int) (j : Nat) (h : p (row.getD j 0) = true) (hj : j + c < 37) : (ownJ S p c row j).set (j + c) (wrap64 ((ownJ S p c row j)[j + c]'(by rw [show (ownJ S p c row j).length = 37 from vec_length _]; exact hj) + row.getD j 0)) = ownJ S p c row (j + 1) := by
  have e0 : (ownJ S p c row j)[j + c]'(by rw [show (ownJ S p c row j).length = 37 from vec_length _]; exact hj) = wrap64 (S (j + c)) := by
    have := vec_get (fun i => wrap64 (S i + (if c ≤ i ∧ i - c < j ∧ p (row.getD (i - c) 0) = true then row.getD (i - c) 0 else 0))) (j + c) hj
    refine this.trans ?_
    rw [if_neg (by omega), Int.add_zero]
  rw [e0, wrap_add]
  unfold ownJ
  rw [vec_set _ _ _ hj]
  refine vec_congr (fun i hi => ?_)
  by_cases e : i = j + c
  · subst e
    rw [if_pos rfl, if_pos ⟨by omega, by omega, by rw [show j + c - c = j by omega]; exact h⟩, show j + c - c = j by omega]
  · rw [if_neg e]
    congr 2
    refine if_same ?_ _ _
    constructor
    · rintro ⟨a, b, d⟩; exact ⟨a, by omega, d⟩
    · rintro ⟨a, b, d⟩; exact ⟨a, by omega, d⟩
/-- The ways of the next row of the board, up to a mask. -/
def upto (cnt : Nat → Nat) (K : List (Int × List Int)) (C : Nat) : Nat → List (Int × List Int)
  | 0 => []
  | m + 1 => if valid C m = true then upto cnt K C m ++ [((m : Int), ownV (gives m (cnt m)) K)] else upto cnt K C m
def waysOf (cnt : Nat → Nat) (K : List (Int × List Int)) : List Int → List (Int × List Int)
  | [] => K
  | x :: l => waysOf cnt (upto cnt K x.toNat (x.toNat + 1)) l
theorem ownS_push (g : Int × List Int → Nat → Int) (K : List (Int × List Int)) (seen : Array Nat) (i : Nat) (hs : seen.contains i = false) (hi : i < K.length) : ownS g K (seen.push i) = vec fun q => wrap64 (sSum (fun j => g (K.getD j (0, [])) q) seen K.length + g (K.getD i (0, [])) q) :=
  vec_congr (fun q _ => by rw [sSum_push _ _ _ hs _ hi])
theorem ownS_skip (g : Int × List Int → Nat → Int) (K : List (Int × List Int)) (seen : Array Nat) (i : Nat) (hs : seen.contains i = false) (hi : i < K.length) (hg : ∀ q, q < 37 → g (K.getD i (0, [])) q = 0) : ownS g K (seen.push i) = ownS g K seen := by
  rw [ownS_push g K seen i hs hi]
  exact vec_congr (fun q hq => by rw [hg q hq, Int.add_zero])
theorem ownJ_end (g : Int × List Int → Nat → Int) (p : Int → Bool) (c : Nat) (K : List (Int × List Int)) (seen : Array Nat) (i : Nat) (hs : seen.contains i = false) (hi : i < K.length) (row : List Int) (hg : ∀ q, q < 37 → g (K.getD i (0, [])) q = if c ≤ q ∧ p (row.getD (q - c) 0) = true then row.getD (q - c) 0 else 0) :
    ownJ (fun q => sSum (fun j => g (K.getD j (0, [])) q) seen K.length) p c row 37 = ownS g K (seen.push i) := by
  rw [ownS_push g K seen i hs hi]
  refine vec_congr (fun q hq => ?_)
  rw [hg q hq]
  congr 2
  refine if_same ?_ _ _
  constructor
  · rintro ⟨a, b, d⟩; exact ⟨a, d⟩
  · rintro ⟨a, d⟩; exact ⟨a, by omega, d⟩
theorem upto_key (cnt : Nat → Nat) (K : List (Int × List Int)) (C : Nat) : ∀ m, ∀ y ∈ upto cnt K C m, 0 ≤ y.1 ∧ y.1 < (m : Int) ∧ y.2.length = 37
  | 0, y, hy => by simp [upto] at hy
  | m + 1, y, hy => by
    rw [upto] at hy
    by_cases h : valid C m = true
    · rw [if_pos h] at hy
      rcases List.mem_append.1 hy with hy | hy
      · have := upto_key cnt K C m y hy
        exact ⟨this.1, by omega, this.2.2⟩
      · rw [List.mem_singleton.1 hy]
        exact ⟨by dsimp only; omega, by dsimp only; omega, vec_length _⟩
    · rw [if_neg h] at hy
      have := upto_key cnt K C m y hy
      exact ⟨this.1, by omega, this.2.2⟩
theorem MapAt.keep {W W1 : World} {B : Nat} {L : List (Int × Nat)} (h : MapAt W B L) (e : W1.heap[B]? = W.heap[B]?) : MapAt W1 B L := by
  unfold MapAt at h ⊢
  rw [e]; exact h
/-- The next map has one row more. -/
theorem Ways.more {base B : Nat} {W W1 : World} {L : List (Int × Nat)} {K : List (Int × List Int)} (h : Ways base W B L K) {m : Int} {g : Nat} {row : List Int} (hm : MapAt W1 B (L ++ [(m, g)])) (hs : ∀ k, k ≠ B → W1.heap[k]? = W.heap[k]?) (hr : W.heap[g]? = some (.cells (ints row) 3 (0, 0))) (hl : row.length = 37) (hg : base ≤ g) (hB : g ≠ B) : Ways base W1 B (L ++ [(m, g)]) (K ++ [(m, row)]) :=
  ⟨hm, h.lb, by rw [List.length_append, List.length_append, h.len]; rfl, fun i x y hx hy => by
    by_cases hi : i < L.length
    · rw [List.getElem?_append_left hi] at hx
      rw [List.getElem?_append_left (by rw [← h.len]; exact hi)] at hy
      obtain ⟨a, b, c, d, e⟩ := h.row i x y hx hy
      exact ⟨a, b, c, d, by rw [hs _ d]; exact e⟩
    · rw [List.getElem?_append_right (by omega)] at hx
      rw [List.getElem?_append_right (by rw [← h.len]; omega), ← h.len] at hy
      cases hq : i - L.length with
      | zero =>
        rw [hq] at hx hy
        obtain rfl := Option.some.inj hx
        obtain rfl := Option.some.inj hy
        exact ⟨rfl, hl, hg, hB, by rw [hs _ hB]; exact hr⟩
      | succ q => rw [hq] at hx; simp at hx⟩
theorem ints_cell {W : World} {g t : Nat} {l : List Int} (h : W.heap[g]? = some (.cells (ints l) t (0, 0))) (i : Nat) (hi : i < l.length) : W.cell? ⟨g, i, none⟩ = some (.int .i64 (l.getD i 0)) := by
  rw [blk_cell h i, ints_get l i hi, List.getD_eq_getElem?_getD, List.getElem?_eq_getElem hi]
  rfl
theorem ownJ_put (S : Nat → Int) (p : Int → Bool) (c : Nat) (row : List Int) (j : Nat) {oj rj : Int} (hr : row.getD j 0 = rj) (h : p rj = true) (hj : j + c < 37) (ho : (ownJ S p c row j).getD (j + c) 0 = oj) : (ownJ S p c row j).set (j + c) (wrap64 (oj + rj)) = ownJ S p c row (j + 1) := by
  have e := ownJ_add S p c row j (by rw [hr]; exact h) hj
  rw [hr] at e
  have e2 : oj = (ownJ S p c row j)[j + c]'(by rw [show (ownJ S p c row j).length = 37 from vec_length _]; exact hj) := by
    rw [← ho, List.getD_eq_getElem?_getD, List.getElem?_eq_getElem (by rw [show (ownJ S p c row j).length = 37 from vec_length _]; exact hj), Option.getD_some]
  rw [e2]
  exact e
/-- A row of numbers that fills its block is one of the call's own. -/
theorem ints_R {t base : Nat} {W : World} {g : Nat} {out : List Int} (h : W.heap[g]? = some (.cells (ints out) t (0, 0))) (hl : out.length ≤ 1000000) (hg : base ≤ g) : (Kd.int .i64).R t W base (fun _ => True) (.slice (some ⟨g, 0, none⟩) out.length out.length) out :=
  Kd.R_of_own ⟨by simp [encs], .inr ⟨g, out.length, ints out, rfl, hg, h, Nat.le_refl _, by simp only [maxLen]; omega, by simp [ints], by simp [ints, encs]; exact List.take_of_length_le (by simp)⟩⟩ (fun _ _ => trivial)
theorem small_sum {a b : Nat} (h : a + b < 37) : wrap64 ((a : Int) + (b : Int)) = (a : Int) + (b : Int) ∧ (0 ≤ (a : Int) + (b : Int)) = True ∧ ((a : Int) + (b : Int) < 37) = True ∧ ((a : Int) + (b : Int)).toNat = a + b := by
  refine ⟨?_, eq_true (by omega), eq_true (by omega), by omega⟩
  unfold wrap64; omega
end Go.Proofs.Ythlcaikplebpmaa.Cap
