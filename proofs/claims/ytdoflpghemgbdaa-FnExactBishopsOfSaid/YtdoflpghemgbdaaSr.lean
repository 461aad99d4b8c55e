import Derived.Shelf.SlSortCmp.Whole1
import Derived.Test.YtdoflpghemgbdaaWd
namespace Go.Proofs.YtdoflpghemgbdaaW.Sr
set_option linter.unusedVariables false
set_option linter.unusedSimpArgs false
def cmpR : List Int → List Int → Int
  | [], [] => 0
  | [], _ :: _ => -1
  | _ :: _, [] => 1
  | x :: a, y :: b => if x < y then -1 else if y < x then 1 else cmpR a b
theorem cmp_self : ∀ a, cmpR a a = 0
  | [] => rfl
  | x :: a => by rw [cmpR, if_neg (Int.lt_irrefl x), if_neg (Int.lt_irrefl x)]; exact cmp_self a
theorem cmp_anti : ∀ a b, cmpR b a = - cmpR a b
  | [], [] => rfl
  | [], _ :: _ => rfl
  | _ :: _, [] => rfl
  | x :: a, y :: b => by
    rw [cmpR, cmpR]
    by_cases h1 : x < y
    · rw [if_neg (show ¬ y < x by omega), if_pos h1, if_pos h1]; rfl
    · by_cases h2 : y < x
      · rw [if_pos h2, if_neg h1, if_pos h2]
      · rw [if_neg h2, if_neg h1, if_neg h1, if_neg h2]; exact cmp_anti a b
theorem cmp_zero : ∀ a b, cmpR a b = 0 → a = b
  | [], [], _ => rfl
  | [], _ :: _, h => by cases h
  | _ :: _, [], h => by cases h
  | x :: a, y :: b, h => by
    rw [cmpR] at h
    by_cases h1 : x < y
    · rw [if_pos h1] at h; cases h
    · rw [if_neg h1] at h
      by_cases h2 : y < x
      · rw [if_pos h2] at h; cases h
      · rw [if_neg h2] at h
        rw [cmp_zero a b h, show x = y by omega]
theorem cmp_trans : ∀ a b c, cmpR a b < 0 → cmpR b c < 0 → cmpR a c < 0
  | [], [], _, h, _ => by simp [cmpR] at h
  | [], _ :: _, [], _, h => by simp [cmpR] at h
  | [], _ :: _, _ :: _, _, _ => by simp [cmpR]
  | _ :: _, [], _, h, _ => by simp [cmpR] at h
  | _ :: _, _ :: _, [], _, h => by simp [cmpR] at h
  | x :: a, y :: b, z :: c, h1, h2 => by
    rw [cmpR] at h1 h2 ⊢
    by_cases e1 : x < y
    · by_cases e2 : y < z
      · rw [if_pos (show x < z by omega)]; omega
      · rw [if_neg e2] at h2
        by_cases e3 : z < y
        · rw [if_pos e3] at h2; omega
        · rw [if_pos (show x < z by omega)]; omega
    · rw [if_neg e1] at h1
      by_cases e3 : y < x
      · rw [if_pos e3] at h1; omega
      · rw [if_neg e3] at h1
        by_cases e2 : y < z
        · rw [if_pos (show x < z by omega)]; omega
        · rw [if_neg e2] at h2
          by_cases e4 : z < y
          · rw [if_pos e4] at h2; omega
          · rw [if_neg e4] at h2
            rw [if_neg (show ¬ x < z by omega), if_neg (show ¬ z < x by omega)]
            exact cmp_trans a b c h1 h2
/-- Not greater. -/
def leR (a b : List Int) : Prop := ¬ cmpR b a < 0
theorem le_trans {a b c : List Int} (h1 : leR a b) (h2 : leR b c) : leR a c := by
  unfold leR at *
  intro h
  by_cases e : cmpR a b < 0
  · exact h2 (cmp_trans c a b h e)
  · have h0 : cmpR a b = 0 := by have := cmp_anti a b; omega
    rw [cmp_zero a b h0] at h
    exact h2 h
theorem le_anti {a b : List Int} (h1 : leR a b) (h2 : leR b a) : a = b := by
  unfold leR at *
  have := cmp_anti a b
  exact cmp_zero a b (by omega)
theorem le_total (a b : List Int) : leR a b ∨ leR b a := by
  unfold leR
  have := cmp_anti a b
  omega
instance (a b : List Int) : Decidable (leR a b) := inferInstanceAs (Decidable (¬ _))
def insR (x : List Int) : List (List Int) → List (List Int)
  | [] => [x]
  | y :: l => if leR x y then x :: y :: l else y :: insR x l
def sortR : List (List Int) → List (List Int)
  | [] => []
  | x :: l => insR x (sortR l)
theorem insR_perm (x : List Int) : ∀ l, (insR x l).Perm (x :: l)
  | [] => .refl _
  | y :: l => by
    unfold insR
    split
    · exact .refl _
    · exact ((insR_perm x l).cons y).trans (.swap x y l)
theorem sortR_perm : ∀ l, (sortR l).Perm l
  | [] => .refl _
  | x :: l => (insR_perm x _).trans ((sortR_perm l).cons x)
theorem insR_sorted (x : List Int) : ∀ l : List (List Int), l.Pairwise leR → (insR x l).Pairwise leR
  | [], _ => by simp [insR]
  | y :: l, h => by
    unfold insR
    rw [List.pairwise_cons] at h
    split
    · rename_i hx
      rw [List.pairwise_cons]
      refine ⟨fun z hz => ?_, List.pairwise_cons.2 h⟩
      rcases List.mem_cons.1 hz with rfl | hz
      · exact hx
      · exact le_trans hx (h.1 z hz)
    · rename_i hx
      rw [List.pairwise_cons]
      refine ⟨fun z hz => ?_, insR_sorted x l h.2⟩
      rcases List.mem_cons.1 ((insR_perm x l).mem_iff.1 hz) with rfl | hz
      · exact (le_total z y).resolve_left hx
      · exact h.1 z hz
theorem sortR_sorted : ∀ l, (sortR l).Pairwise leR
  | [] => .nil
  | x :: l => insR_sorted x _ (sortR_sorted l)
theorem sorted_eq : ∀ a b : List (List Int), a.Pairwise leR → b.Pairwise leR → a.Perm b → a = b
  | [], b, _, _, h => by rw [List.nil_perm] at h; exact h.symm
  | x :: a, [], _, _, h => by have := h.length_eq; simp at this
  | x :: a, y :: b, ha, hb, h => by
    rw [List.pairwise_cons] at ha hb
    have hx : x ∈ y :: b := h.mem_iff.1 (List.mem_cons_self)
    have hy : y ∈ x :: a := h.mem_iff.2 (List.mem_cons_self)
    have e : x = y := by
      rcases List.mem_cons.1 hx with e | hx
      · exact e
      · rcases List.mem_cons.1 hy with e | hy
        · exact e.symm
        · exact le_anti (ha.1 y hy) (hb.1 x hx)
    subst e
    rw [sorted_eq a b ha.2 hb.2 (List.Perm.cons_inv h)]
open Go.RowKit Go.Proofs.YtdoflpghemgbdaaW.PrintWords Go.Proofs.YtdoflpghemgbdaaW.PrintLast Go.Proofs.YtdoflpghemgbdaaW.PrintMore
section heap
theorem far (enc : Nat → Value) (w : World) (n g : Nat) (is : Array Nat) (os : Array Obj) (i : Nat) (hi : i < w.heap.size) (hne : i ≠ g) : (Go.Proofs.sortWorld enc w g 0 n is os).heap[i]? = w.heap[i]? := by
  show ((w.heap.modify g _) ++ os)[i]? = _
  rw [Array.getElem?_append_left (by simpa using hi), Array.getElem?_modify, if_neg (fun h => hne h.symm)]
theorem near (enc : Nat → Value) (w : World) (n g : Nat) (is : Array Nat) (os : Array Obj) (cur : Array Value) (e : TypeId) (hg : w.heap[g]? = some (.cells cur e (0, 0))) : (Go.Proofs.sortWorld enc w g 0 n is os).heap[g]? = some (.cells (Go.Sort.putCells enc 0 is cur) e (0, 0)) := by
  have hi : g < w.heap.size := by
    by_cases h : g < w.heap.size
    · exact h
    · rw [Array.getElem?_eq_none (by omega)] at hg; cases hg
  show ((w.heap.modify g _) ++ os)[g]? = _
  rw [Array.getElem?_append_left (by simpa using hi), Array.getElem?_modify, if_pos rfl, hg]
  rfl
theorem size_le (enc : Nat → Value) (w : World) (n g : Nat) (is : Array Nat) (os : Array Obj) : w.heap.size ≤ (Go.Proofs.sortWorld enc w g 0 n is os).heap.size := by
  show _ ≤ ((w.heap.modify g _) ++ os).size
  simp
theorem put_take (enc : Nat → Value) (is : List Nat) (cur : Array Value) (h : is.length ≤ cur.size) : (Go.Sort.putCells enc 0 is.toArray cur).toList.take is.length = is.map enc := by
  refine List.ext_getElem (by simp [Go.Sort.putCells]; omega) (fun i h1 h2 => ?_)
  have hi : i < is.length := by simpa using h2
  simp [Go.Sort.putCells, hi]
theorem rows_own {α : Type} {d : Kd α} {e base : Nat} {ok : Nat → Prop} {w : World} {v : Value} {xs : List α} (hs : d.sz = 1) (x0 : α) (h : d.R e w base ok v xs) (hn : 0 < xs.length) :
    ∃ g cap enc, v = .slice (some ⟨g, 0, none⟩) xs.length cap ∧ base ≤ g ∧ ok g ∧ g < w.heap.size ∧ xs.length ≤ maxLen ∧ OneCell enc ∧ Go.Sort.Holds enc w g 0 (List.range xs.length).toArray ∧
      (∀ (i : Nat) (W : World), (∀ k, k < w.heap.size → k ≠ g → W.heap[k]? = w.heap[k]?) → d.K W (xs.getD (i % xs.length) x0) [enc i]) ∧
      ∀ (n : Nat) (os : Array Obj) (is : List Nat), is.length = xs.length → d.R e (Go.Proofs.sortWorld enc w g 0 n is.toArray os) base ok v (is.map fun i => xs.getD (i % xs.length) x0) := by
  obtain ⟨h0, inner, ⟨hl, hv⟩, hr⟩ := h
  rw [hs, Nat.mul_one] at hl
  rcases hv with ⟨rfl, hz⟩ | ⟨g, cap, cur, rfl, hb, hg, hc, hm, hcs, ht⟩
  · omega
  have hgl : g < w.heap.size := by
    by_cases h : g < w.heap.size
    · exact h
    · rw [Array.getElem?_eq_none (by omega)] at hg; cases hg
  rw [hs, Nat.mul_one] at hcs ht
  have hM : ∀ i, d.M w base (fun k => ok k ∧ some k ≠ (Value.slice (some ⟨g, 0, none⟩) xs.length cap).ownBlock) (xs.getD (i % xs.length) x0) [inner.getD (i % xs.length) (.int .i64 0)] := fun i => by
    have hi : i % xs.length < xs.length := Nat.mod_lt _ hn
    have h2 := hr.2 (i % xs.length) _ (List.getElem?_eq_getElem hi)
    rw [hs, Nat.mul_one] at h2
    have e1 : (inner.drop (i % xs.length)).take 1 = [inner.getD (i % xs.length) (.int .i64 0)] := by
      rw [List.drop_eq_getElem_cons (by omega), List.take_succ_cons, List.take_zero, List.getD_eq_getElem?_getD, List.getElem?_eq_getElem (by omega), Option.getD_some]
    rw [e1] at h2
    rw [List.getD_eq_getElem?_getD, List.getElem?_eq_getElem hi, Option.getD_some]
    exact h2
  refine ⟨g, cap, fun i => inner.getD (i % xs.length) (.int .i64 0), rfl, hb, h0 g rfl, hgl, by omega, fun i => d.K_one (d.K_of_M (hM i)) _ (List.mem_singleton.2 rfl), fun j hj => ?_, fun i W hW => ?_, fun n os is hi => ?_⟩
  · have hj : j < xs.length := by simpa using hj
    have hx : cur[0 + j]? = some (inner[j]'(by omega)) := by
      have h1 : (cur.toList.take xs.length)[j]? = inner[j]? := by rw [ht]
      have h2 : inner[j]? = some (inner[j]'(by omega)) := List.getElem?_eq_getElem (by omega)
      rw [List.getElem?_take, if_pos (by omega), h2] at h1
      rw [Nat.zero_add]; simpa using h1
    refine ⟨?_, ?_⟩
    · unfold World.cell?
      simp only [hg, Option.isSome_none, Bool.false_eq_true, if_false]
      rw [hx]
      simp [hj, Nat.mod_eq_of_lt hj, List.getD_eq_getElem?_getD, hl]
    · unfold World.frozen?
      simp [hg]
  · exact d.K_of_M (Kd.M_step (hM i) (fun k hk hlt => hW k hlt (fun e => hk.2 (by rw [e]; rfl))))
  · refine ⟨h0, is.map fun i => inner.getD (i % xs.length) (.int .i64 0), ⟨by simp [hs], .inr ⟨g, cap, _, by simp [hi], hb, near _ _ _ _ _ _ cur e hg, by simp; omega, hm, by simp [Go.Sort.putCells, hs]; omega, ?_⟩⟩, ⟨by simp [hs], fun j p hj => ?_⟩⟩
    · rw [hs, Nat.mul_one, List.length_map]
      exact put_take _ is cur (by omega)
    · rw [List.getElem?_map] at hj
      obtain ⟨i, hi2, rfl⟩ := Option.map_eq_some_iff.1 hj
      have hj2 := (List.getElem?_eq_some_iff.1 hi2).1
      have e1 : (((is.map fun i => inner.getD (i % xs.length) (.int .i64 0)).drop (j * d.sz)).take d.sz) = [inner.getD (i % xs.length) (.int .i64 0)] := by
        rw [hs, Nat.mul_one, List.drop_eq_getElem_cons (by simpa using hj2), List.take_succ_cons, List.take_zero, List.getElem_map, (List.getElem?_eq_some_iff.1 hi2).2]
      rw [e1]
      exact Kd.M_step (hM i) (fun k hk hlt => far _ _ _ _ _ _ k hlt (fun e => hk.2 (by rw [e]; rfl)))
theorem perm_get {α : Type} (x0 : α) (xs : List α) (is : List Nat) (h : is.Perm (List.range xs.length)) : (is.map fun i => xs.getD (i % xs.length) x0).Perm xs := by
  refine (h.map _).trans (List.Perm.of_eq (List.ext_getElem (by simp) (fun i h1 h2 => ?_)))
  have hi : i < xs.length := h2
  simp [Nat.mod_eq_of_lt hi, List.getD_eq_getElem?_getD, hi]
/-- What is asked of a comparison: not less is an order in which any two can be compared. -/
structure Ord {α : Type} (cmp : α → α → Int) : Prop where
  irrefl : ∀ x, ¬ cmp x x < 0
  trans : ∀ x y z, cmp x y < 0 → cmp y z < 0 → cmp x z < 0
  ntrans : ∀ x y z, ¬ cmp x y < 0 → ¬ cmp y z < 0 → ¬ cmp x z < 0
theorem Ord.swo {α β : Type} {cmp : α → α → Int} (h : Ord cmp) (f : β → α) : Go.Sort.SWO (ltOf fun i j => cmp (f i) (f j)) where
  irrefl := fun x => decide_eq_false (h.irrefl _)
  trans := fun x y z a b => decide_eq_true (h.trans _ _ _ (of_decide_eq_true a) (of_decide_eq_true b))
  ntrans := fun x y z a b => decide_eq_false (h.ntrans _ _ _ (of_decide_eq_false a) (of_decide_eq_false b))
theorem lex_ord : Ord cmpR where
  irrefl := fun _ h => by rw [cmp_self] at h; omega
  trans := cmp_trans
  ntrans := fun x y z a b => le_trans (a := z) (b := y) (c := x) b a
theorem rows_sorted {P : Program} {F g : Nat} {cb : Array Value} (hSF : ∀ (enc : Nat → Value), OneCell enc → ∀ (cf : Nat → Nat → Int), Go.Sort.SWO (ltOf cf) → ∀ (blk cap : Nat) (d : Array Nat) (w : World), CmpLays1 P g cb enc cf blk 0 d.size w → Go.Sort.Holds enc w blk 0 d → blk < w.heap.size → d.size < 4611686018427387904 →
      Calls P F #[.slice (some ⟨blk, 0, none⟩) d.size cap, .func (.func g) #[] cb] w fun e w' => e = .returned (.tuple #[]) ∧ ∃ d' n os, Go.Sort.PermIn 0 d.size d d' ∧ Go.Sort.SortedIn (ltOf cf) 0 d.size d' ∧ w' = sortWorld enc w blk 0 n d' os)
    {α : Type} {d : Kd α} (hs : d.sz = 1) (cmp : α → α → Int) (hO : Ord cmp) (x0 : α) {e base : Nat} {ok : Nat → Prop} {w : World} {v : Value} {xs : List α} (h : d.R e w base ok v xs) (hn : 0 < xs.length) (hl : xs.length < 4611686018427387904)
    (hcmp : ∀ (W : World) (x y : α) (u u2 : Value), x ∈ xs → y ∈ xs → d.K W x [u] → d.K W y [u2] → Calls P g (#[u, u2] ++ cb) W fun e w' => e = .returned (.int .i64 (cmp x y)) ∧ ∃ q os', w' = Go.Sort.grow (W.drewN q) os') :
    Calls P F #[v, .func (.func g) #[] cb] w fun e1 w' => e1 = .returned (.tuple #[]) ∧ ∃ ys : List α, ys.Perm xs ∧ ys.Pairwise (fun a b => ¬ cmp b a < 0) ∧ d.R e w' base ok v ys ∧ ∀ (N : Nat) (w0 : World), N ≤ base → Below N w0 w → Below N w0 w' := by
  obtain ⟨g0, cap, enc, rfl, hb, hokg, hgl, hm, h1, hH, hK, hR⟩ := rows_own hs x0 h hn
  have hmem : ∀ i, xs.getD (i % xs.length) x0 ∈ xs := fun i => by
    have hi : i % xs.length < xs.length := Nat.mod_lt _ hn
    rw [List.getD_eq_getElem?_getD, List.getElem?_eq_getElem hi, Option.getD_some]
    exact List.getElem_mem hi
  have hsz : (List.range xs.length).toArray.size = xs.length := by simp
  have hC : CmpLays1 P g cb enc (fun i j => cmp (xs.getD (i % xs.length) x0) (xs.getD (j % xs.length) x0)) g0 0 (List.range xs.length).toArray.size w := fun m os dk _ i j =>
    hcmp _ _ _ _ _ (hmem i) (hmem j) (hK i _ (fun k hk hne => far enc w m g0 dk os k hk hne)) (hK j _ (fun k hk hne => far enc w m g0 dk os k hk hne))
  have hc := hSF enc h1 _ (hO.swo fun i => xs.getD (i % xs.length) x0) g0 cap (List.range xs.length).toArray w hC hH hgl (by rw [hsz]; exact hl)
  rw [hsz] at hc
  refine hc.mono ?_
  rintro e1 w' ⟨he, d', n, os, hp, hS, rfl⟩
  obtain ⟨p1, _, p3⟩ := hp
  have hd : d'.toList.Perm (List.range xs.length) := by
    have e2 : d'.extract 0 xs.length = d' := by rw [← hsz, ← p1, Array.extract_size]
    have e3 : (List.range xs.length).toArray.extract 0 xs.length = (List.range xs.length).toArray := by simp
    rw [e2, e3] at p3
    exact p3
  have hdl : d'.toList.length = xs.length := by rw [hd.length_eq, List.length_range]
  have hds : d'.size = xs.length := by rw [← Array.length_toList]; exact hdl
  refine ⟨he, _, perm_get x0 xs d'.toList hd, ?_, hR n os d'.toList hdl, fun N w0 hN hB => hB.trans ⟨rfl, rfl, rfl, size_le enc w n g0 d' os, fun k hk => far enc w n g0 d' os k (by have := hB.size; omega) (by omega)⟩⟩
  rw [List.pairwise_iff_getElem]
  intro i j hi hj hij
  rw [List.length_map] at hi hj
  rw [List.getElem_map, List.getElem_map]
  have h2 := hS i j (Nat.zero_le _) hij (by omega)
  have hi2 : i < d'.size := by rw [← Array.length_toList]; exact hi
  have hj2 : j < d'.size := by rw [← Array.length_toList]; exact hj
  rw [getElem!_pos d' i hi2, getElem!_pos d' j hj2] at h2
  simpa using of_decide_eq_false h2
theorem S_of_tag {α : Type} {d : Kd α} {f : Nat → Nat} {e base : Nat} {ok : Nat → Prop} {w : World} {v : Value} {ys : List (α × Nat)} (h : (Kd.tag f d).R e w base ok v ys) (hn : (ys.map Prod.snd).Nodup) : Kd.S d e w base ok v (ys.map Prod.fst) := by
  obtain ⟨h0, inner, ho, hr⟩ := h
  have hl : (ys.map Prod.fst).zipIdx.length = ys.length := by simp
  refine ⟨fun k => (ys.map Prod.snd).idxOf (f k), h0, inner, by rw [hl]; exact ho, by rw [hl]; exact hr.1, fun j p hj => ?_⟩
  have hjl : j < ys.length := by have := (List.getElem?_eq_some_iff.1 hj).1; omega
  rw [List.getElem?_zipIdx, List.getElem?_map, List.getElem?_eq_getElem hjl] at hj
  simp only [Option.map_some, Option.some.injEq, Nat.zero_add] at hj
  subst hj
  have hm := hr.2 j _ (List.getElem?_eq_getElem hjl)
  refine d.M_mono (fun k hk => ⟨hk.1, ?_⟩) hm
  show (ys.map Prod.snd).idxOf (f k) = j
  have e1 : f k = (ys.map Prod.snd)[j]'(by rw [List.length_map]; exact hjl) := by rw [List.getElem_map]; exact hk.2
  rw [e1]
  exact List.Nodup.idxOf_getElem hn j _
theorem S_sorted {P : Program} {F g : Nat} {cb : Array Value} (hSF : ∀ (enc : Nat → Value), OneCell enc → ∀ (cf : Nat → Nat → Int), Go.Sort.SWO (ltOf cf) → ∀ (blk cap : Nat) (d : Array Nat) (w : World), CmpLays1 P g cb enc cf blk 0 d.size w → Go.Sort.Holds enc w blk 0 d → blk < w.heap.size → d.size < 4611686018427387904 →
      Calls P F #[.slice (some ⟨blk, 0, none⟩) d.size cap, .func (.func g) #[] cb] w fun e w' => e = .returned (.tuple #[]) ∧ ∃ d' n os, Go.Sort.PermIn 0 d.size d d' ∧ Go.Sort.SortedIn (ltOf cf) 0 d.size d' ∧ w' = sortWorld enc w blk 0 n d' os)
    {α : Type} {d : Kd α} (hs : d.sz = 1) (cmp : α → α → Int) (hO : Ord cmp) (x0 : α) {e base : Nat} {ok : Nat → Prop} {w : World} {v : Value} {xs : List α} (h : Kd.S d e w base ok v xs) (hn : 0 < xs.length) (hl : xs.length < 4611686018427387904)
    (hcmp : ∀ (W : World) (x y : α) (u u2 : Value), x ∈ xs → y ∈ xs → d.K W x [u] → d.K W y [u2] → Calls P g (#[u, u2] ++ cb) W fun e w' => e = .returned (.int .i64 (cmp x y)) ∧ ∃ q os', w' = Go.Sort.grow (W.drewN q) os') :
    Calls P F #[v, .func (.func g) #[] cb] w fun e1 w' => e1 = .returned (.tuple #[]) ∧ ∃ ys : List α, ys.Perm xs ∧ ys.Pairwise (fun a b => ¬ cmp b a < 0) ∧ Kd.S d e w' base ok v ys ∧ ∀ (N : Nat) (w0 : World), N ≤ base → Below N w0 w → Below N w0 w' := by
  obtain ⟨f, hR⟩ := h
  have hzl : xs.zipIdx.length = xs.length := by simp
  refine (rows_sorted hSF (d := Kd.tag f d) hs (fun a b => cmp a.1 b.1) ⟨fun x => hO.irrefl _, fun x y z => hO.trans _ _ _, fun x y z => hO.ntrans _ _ _⟩ (x0, 0) hR (by omega) (by omega) (fun W x y u u2 hx hy k1 k2 => hcmp W x.1 y.1 u u2 ?_ ?_ k1 k2)).mono ?_
  · exact List.fst_mem_of_mem_zipIdx hx
  · exact List.fst_mem_of_mem_zipIdx hy
  rintro e1 w' ⟨he, ys, hp, hpw, hR', hB⟩
  refine ⟨he, ys.map Prod.fst, ?_, by rw [List.pairwise_map]; exact hpw, S_of_tag hR' ?_, hB⟩
  · have := hp.map Prod.fst
    rwa [List.zipIdx_map_fst] at this
  · have := (hp.map Prod.snd).nodup_iff
    rw [this, List.zipIdx_map_snd]
    exact List.nodup_range'
/-- Nothing to sort. -/
theorem S_none {P : Program} {F g : Nat} {cb : Array Value} (hSF : ∀ (enc : Nat → Value), OneCell enc → ∀ (cf : Nat → Nat → Int), Go.Sort.SWO (ltOf cf) → ∀ (blk cap : Nat) (d : Array Nat) (w : World), CmpLays1 P g cb enc cf blk 0 d.size w → Go.Sort.Holds enc w blk 0 d → blk < w.heap.size → d.size < 4611686018427387904 →
      Calls P F #[.slice (some ⟨blk, 0, none⟩) d.size cap, .func (.func g) #[] cb] w fun e w' => e = .returned (.tuple #[]) ∧ ∃ d' n os, Go.Sort.PermIn 0 d.size d d' ∧ Go.Sort.SortedIn (ltOf cf) 0 d.size d' ∧ w' = sortWorld enc w blk 0 n d' os)
    {α : Type} {d : Kd α} {e base : Nat} {ok : Nat → Prop} {w : World} {v : Value} (h : Kd.S d e w base ok v ([] : List α)) (hv : ∃ b, v.ownBlock = some b)
    (hcmp : ∀ W : World, Calls P g (#[.slice none 0 0, .slice none 0 0] ++ cb) W fun e w' => e = .returned (.int .i64 0) ∧ ∃ q os', w' = Go.Sort.grow (W.drewN q) os') :
    Calls P F #[v, .func (.func g) #[] cb] w fun e1 w' => e1 = .returned (.tuple #[]) ∧ Kd.S d e w' base ok v ([] : List α) ∧ ∀ (N : Nat) (w0 : World), N ≤ base → Below N w0 w → Below N w0 w' := by
  obtain ⟨b, hb⟩ := hv
  obtain ⟨f, h0, inner, ⟨hl, hr⟩, hp⟩ := h
  rcases hr with ⟨rfl, _⟩ | ⟨g0, cap, cur, rfl, hg, hh, hc, hm, hcs, ht⟩
  · simp [Value.ownBlock] at hb
  have hlt : g0 < w.heap.size := by
    by_cases h : g0 < w.heap.size
    · exact h
    · rw [Array.getElem?_eq_none (by omega)] at hh; cases hh
  have hcall := hSF (fun _ => .slice none 0 0) (fun _ => rfl) (fun _ _ => 0) ⟨fun _ => rfl, fun _ _ _ h _ => by simp [ltOf] at h, fun _ _ _ _ _ => rfl⟩ g0 cap #[] w (fun m os dk _ i j => hcmp _) (fun j hj => absurd hj (Nat.not_lt_zero _)) hlt (by decide)
  refine hcall.mono ?_
  rintro e1 w' ⟨he, d', n, os, _, _, rfl⟩
  refine ⟨he, ⟨f, h0, [], ⟨by simp, .inr ⟨g0, cap, _, rfl, hg, near _ w n g0 d' os cur e hh, hc, hm, by simp [Go.Sort.putCells]; exact hcs, by simp⟩⟩, Reps.none _ _⟩, fun N w0 hN hB => hB.trans ⟨rfl, rfl, rfl, size_le _ w n g0 d' os, fun k hk => far _ w n g0 d' os k (by have := hB.size; omega) (by omega)⟩⟩
end heap
end Go.Proofs.YtdoflpghemgbdaaW.Sr
