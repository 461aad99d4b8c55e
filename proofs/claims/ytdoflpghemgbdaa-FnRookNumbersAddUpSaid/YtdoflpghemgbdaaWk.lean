import Derived.Test.YtdoflpghemgbdaaFn
namespace Go.Proofs.Ytdoflpghemgbdaa.Cap
open Go.RowKit Go.Proofs.YtdoflpghemgbdaaW.PrintWords Go.Proofs.YtdoflpghemgbdaaW.PrintLast Go.Proofs.YtdoflpghemgbdaaW.PrintMore
set_option linter.unusedVariables false
theorem blk_put {W : World} {g i t : Nat} {cs : Array Value} (h : W.heap[g]? = some (.cells cs t (0, 0))) (u : Value) : (W.setCell ⟨g, i, none⟩ u).heap[g]? = some (.cells (cs.setIfInBounds i u) t (0, 0)) := by
  have hlt := blk_lt h; have h' : W.heap[g] = .cells cs t (0, 0) := by simpa [Array.getElem?_eq_getElem hlt] using h
  show (W.heap.modify g _)[g]? = _; rw [Array.getElem?_eq_getElem (by simpa using hlt), Array.getElem_modify_self, h']; rfl
def ints (l : List Int) : Array Value := (l.map fun x => Value.int .i64 x).toArray
theorem ints_get (l : List Int) (i : Nat) (h : i < l.length) : (ints l)[i]? = some (.int .i64 l[i]) := by simp [ints, h]
theorem ints_set (l : List Int) (i : Nat) (x : Int) : (ints l).setIfInBounds i (.int .i64 x) = ints (l.set i x) := by simp [ints, List.map_set]
theorem ints_C {W : World} {g t : Nat} {l : List Int} (h : W.heap[g]? = some (.cells (ints l) t (0, 0))) (hl : l.length ≤ 9223372036854775807) : Kd.C (Kd.int .i64) W (some ⟨g, 0, none⟩) l.length l := by
  refine ⟨rfl, hl, fun _ => ⟨_, rfl, fun j p hp => ⟨[.int .i64 p], rfl, rfl, fun i u hu => ?_⟩⟩⟩; obtain ⟨hj, e⟩ := List.getElem?_eq_some_iff.1 hp; have hi : i = 0 := by
    have := (List.getElem?_eq_some_iff.1 hu).1; simp only [List.length_singleton] at this; omega
  subst hi; simp only [List.getElem?_cons_zero, Option.some.injEq] at hu; subst hu; have : (Addr.add ⟨g, 0, none⟩ (j * 1 + 0)) = ⟨g, j, none⟩ := by simp [Addr.add]; omega
  show W.cell? (Addr.add ⟨g, 0, none⟩ (j * 1 + 0)) = _; rw [this, blk_cell h j, ints_get l j hj, e]
theorem grown_put {W W1 : World} {g : Nat} (h : W.grownBy W1 (some g)) {p : Addr} (hp : p.block = g) (v : Value) : W.grownBy (W1.setCell p v) (some g) :=
  ⟨h.os, h.tape, h.output, by simpa [World.setCell] using h.size, fun k hk hne => (Below.heap_setCell _ _ _ _ (fun e => hne (by rw [e, hp]))).trans (h.block k hk hne)⟩
structure Cnt (tI tR : Nat) (w : World) (go ro : Nat) (W : World) (out : List Int) : Prop where
  bel : Below w.heap.size w W
  ne : go ≠ ro
  lo : w.heap.size ≤ go
  lr : w.heap.size ≤ ro
  len : out.length ≤ 1000000
  co : W.heap[go]? = some (.cells #[.slice (some ⟨ro, 0, none⟩) out.length out.length] tI (0, 0))
  ho : W.heap[ro]? = some (.cells (ints out) tR (0, 0))
section
variable {tI tR : Nat} {w W W1 : World} {go ro : Nat} {out : List Int}
theorem Cnt.below (h : Cnt tI tR w go ro W out) (hb : Below W.heap.size W W1) : Cnt tI tR w go ro W1 out :=
  ⟨below_then h.bel (h.bel.size) hb, h.ne, h.lo, h.lr, h.len, blk_below h.co hb, blk_below h.ho hb⟩
theorem Cnt.cello (h : Cnt tI tR w go ro W out) : W.cell? ⟨go, 0, none⟩ = some (.slice (some ⟨ro, 0, none⟩) out.length out.length) := cell_of_one h.co
theorem Cnt.cell (h : Cnt tI tR w go ro W out) (i : Nat) (hi : i < out.length) : W.cell? ⟨ro, i, none⟩ = some (.int .i64 out[i]) := (blk_cell h.ho i).trans (ints_get out i hi)
theorem Cnt.free (h : Cnt tI tR w go ro W out) (i : Nat) : W.frozen? ⟨ro, i, none⟩ = false := blk_frozen h.ho i
theorem Cnt.put (h : Cnt tI tR w go ro W out) (i : Nat) (x : Int) : Cnt tI tR w go ro (W.setCell ⟨ro, i, none⟩ (.int .i64 x)) (out.set i x) :=
  ⟨h.bel.setCell h.lr _, h.ne, h.lo, h.lr, by rw [List.length_set]; exact h.len, by rw [List.length_set]; exact blk_far h.co h.ne _, by rw [← ints_set]; exact blk_put h.ho _⟩
end
structure Wst (tB tD tI tG tX tR : Nat) (w : World) (gb gd gp gg gx go rp ro : Nat) (R C : Int) (Ab : Option Addr) (lb : List Int) (cb : Nat) (vd vx : Value) (W : World) (p out : List Int) : Prop where
  cnt : Cnt tI tR w go ro W out
  lg : w.heap.size ≤ gg
  lp : w.heap.size ≤ rp
  nd : [gb, gd, gp, gg, gx, go, rp, ro].Nodup
  lenp : p.length ≤ 1000000
  cb_ : W.heap[gb]? = some (.cells #[.int .i64 R, .int .i64 C, .slice Ab lb.length cb] tB (0, 0))
  cd : W.heap[gd]? = some (.cells #[vd] tD (0, 0))
  cp : W.heap[gp]? = some (.cells #[.slice (some ⟨rp, 0, none⟩) p.length p.length] tI (0, 0))
  cg : W.heap[gg]? = some (.cells #[.bool true] tG (0, 0))
  cx : W.heap[gx]? = some (.cells #[vx] tX (0, 0))
  hp : W.heap[rp]? = some (.cells (ints p) tR (0, 0))
  hC : Kd.C (Kd.int .i64) w Ab lb.length lb
  hcb : lb.length ≤ cb
section
variable {tB tD tI tG tX tR : Nat} {w W W1 : World} {gb gd gp gg gx go rp ro : Nat} {R C : Int} {Ab : Option Addr} {lb : List Int} {cb : Nat} {vd vx : Value} {p out out1 : List Int}
theorem Wst.below (h : Wst tB tD tI tG tX tR w gb gd gp gg gx go rp ro R C Ab lb cb vd vx W p out) (hb : Below W.heap.size W W1) : Wst tB tD tI tG tX tR w gb gd gp gg gx go rp ro R C Ab lb cb vd vx W1 p out :=
  ⟨h.cnt.below hb, h.lg, h.lp, h.nd, h.lenp, blk_below h.cb_ hb, blk_below h.cd hb, blk_below h.cp hb, blk_below h.cg hb, blk_below h.cx hb, blk_below h.hp hb, h.hC, h.hcb⟩
theorem Wst.b0 (h : Wst tB tD tI tG tX tR w gb gd gp gg gx go rp ro R C Ab lb cb vd vx W p out) : W.cell? ⟨gb, 0, none⟩ = some (.int .i64 R) := blk_cell h.cb_ 0
theorem Wst.b1 (h : Wst tB tD tI tG tX tR w gb gd gp gg gx go rp ro R C Ab lb cb vd vx W p out) : W.cell? ⟨gb, 1, none⟩ = some (.int .i64 C) := blk_cell h.cb_ 1
theorem Wst.b2 (h : Wst tB tD tI tG tX tR w gb gd gp gg gx go rp ro R C Ab lb cb vd vx W p out) : W.cell? ⟨gb, 2, none⟩ = some (.slice Ab lb.length cb) := blk_cell h.cb_ 2
theorem Wst.celld (h : Wst tB tD tI tG tX tR w gb gd gp gg gx go rp ro R C Ab lb cb vd vx W p out) : W.cell? ⟨gd, 0, none⟩ = some vd := cell_of_one h.cd
theorem Wst.cellp (h : Wst tB tD tI tG tX tR w gb gd gp gg gx go rp ro R C Ab lb cb vd vx W p out) : W.cell? ⟨gp, 0, none⟩ = some (.slice (some ⟨rp, 0, none⟩) p.length p.length) := cell_of_one h.cp
theorem Wst.cellg (h : Wst tB tD tI tG tX tR w gb gd gp gg gx go rp ro R C Ab lb cb vd vx W p out) : W.cell? ⟨gg, 0, none⟩ = some (.bool true) := cell_of_one h.cg
theorem Wst.freeg (h : Wst tB tD tI tG tX tR w gb gd gp gg gx go rp ro R C Ab lb cb vd vx W p out) : W.frozen? ⟨gg, 0, none⟩ = false := free_of_one h.cg
theorem Wst.cellx (h : Wst tB tD tI tG tX tR w gb gd gp gg gx go rp ro R C Ab lb cb vd vx W p out) : W.cell? ⟨gx, 0, none⟩ = some vx := cell_of_one h.cx
theorem Wst.cell (h : Wst tB tD tI tG tX tR w gb gd gp gg gx go rp ro R C Ab lb cb vd vx W p out) (i : Nat) (hi : i < p.length) : W.cell? ⟨rp, i, none⟩ = some (.int .i64 p[i]) := (blk_cell h.hp i).trans (ints_get p i hi)
theorem Wst.free (h : Wst tB tD tI tG tX tR w gb gd gp gg gx go rp ro R C Ab lb cb vd vx W p out) (i : Nat) : W.frozen? ⟨rp, i, none⟩ = false := blk_frozen h.hp i
theorem Wst.pC (h : Wst tB tD tI tG tX tR w gb gd gp gg gx go rp ro R C Ab lb cb vd vx W p out) : Kd.C (Kd.int .i64) W (some ⟨rp, 0, none⟩) p.length p := ints_C h.hp (by have := h.lenp; omega)
theorem Wst.bC (h : Wst tB tD tI tG tX tR w gb gd gp gg gx go rp ro R C Ab lb cb vd vx W p out) : Kd.C (Kd.int .i64) W Ab lb.length lb := Kd.C_below h.hC h.cnt.bel
theorem Wst.put (h : Wst tB tD tI tG tX tR w gb gd gp gg gx go rp ro R C Ab lb cb vd vx W p out) (i : Nat) (x : Int) : Wst tB tD tI tG tX tR w gb gd gp gg gx go rp ro R C Ab lb cb vd vx (W.setCell ⟨rp, i, none⟩ (.int .i64 x)) (p.set i x) out := by
  have hn := h.nd; simp only [List.nodup_cons, List.mem_cons, List.not_mem_nil, or_false, not_or] at hn; refine ⟨⟨h.cnt.bel.setCell h.lp _, h.cnt.ne, h.cnt.lo, h.cnt.lr, h.cnt.len, blk_far h.cnt.co ?_ _, blk_far h.cnt.ho ?_ _⟩, h.lg, h.lp, h.nd, by rw [List.length_set]; exact h.lenp, blk_far h.cb_ ?_ _, blk_far h.cd ?_ _, by rw [List.length_set]; exact blk_far h.cp (by dsimp only; intro e; simp_all) _, blk_far h.cg ?_ _, blk_far h.cx ?_ _, by rw [← ints_set]; exact blk_put h.hp _, h.hC, h.hcb⟩ <;> (dsimp only; intro e; simp_all)
theorem Wst.flag (h : Wst tB tD tI tG tX tR w gb gd gp gg gx go rp ro R C Ab lb cb vd vx W p out) : Wst tB tD tI tG tX tR w gb gd gp gg gx go rp ro R C Ab lb cb vd vx (W.setCell ⟨gg, 0, none⟩ (.bool true)) p out := by
  have hn := h.nd; simp only [List.nodup_cons, List.mem_cons, List.not_mem_nil, or_false, not_or] at hn; refine ⟨⟨h.cnt.bel.setCell h.lg _, h.cnt.ne, h.cnt.lo, h.cnt.lr, h.cnt.len, blk_far h.cnt.co ?_ _, blk_far h.cnt.ho ?_ _⟩, h.lg, h.lp, h.nd, h.lenp, blk_far h.cb_ ?_ _, blk_far h.cd ?_ _, blk_far h.cp ?_ _, one_setCell h.cg, blk_far h.cx ?_ _, blk_far h.hp ?_ _, h.hC, h.hcb⟩ <;> (dsimp only; intro e; simp_all)
theorem Wst.count (h : Wst tB tD tI tG tX tR w gb gd gp gg gx go rp ro R C Ab lb cb vd vx W p out) (hc : Cnt tI tR w go ro W1 out1) (hg : W.grownBy W1 (some ro)) : Wst tB tD tI tG tX tR w gb gd gp gg gx go rp ro R C Ab lb cb vd vx W1 p out1 := by
  have hn := h.nd; simp only [List.nodup_cons, List.mem_cons, List.not_mem_nil, or_false, not_or] at hn; refine ⟨hc, h.lg, h.lp, h.nd, h.lenp, blk_grown h.cb_ hg ?_, blk_grown h.cd hg ?_, blk_grown h.cp hg ?_, blk_grown h.cg hg ?_, blk_grown h.cx hg ?_, blk_grown h.hp hg ?_, h.hC, h.hcb⟩ <;> (intro e; have e := Option.some.inj e; simp_all)
end
theorem made_ints (n : Nat) : madeCells #[.int .i64 0] n = ints (List.replicate n 0) := by
  apply Array.ext
  · simp [madeCells, ints]
  · intro i h1 h2
    simp [madeCells, ints, Nat.mod_one]
section
variable {tB tD tI tG tX tR : Nat} {w W : World} {go ro n : Nat} {C : Int} {Ab : Option Addr} {lb : List Int} {cb : Nat} {vd vx : Value} {out : List Int}
theorem Wst.start (h : Cnt tI tR w go ro W out) (hC : Kd.C (Kd.int .i64) w Ab lb.length lb) (hcb : lb.length ≤ cb) (hn : n ≤ 1000) :
    Wst tB tD tI tG tX tR w W.heap.size (W.heap.size + 1) (W.heap.size + 1 + 1 + 1) (W.heap.size + 1 + 1 + 1 + 1) (W.heap.size + 1 + 1 + 1 + 1 + 1) go (W.heap.size + 1 + 1) ro (n : Int) C Ab lb cb vd vx
      ((((((W.alloc (.cells #[.int .i64 (n : Int), .int .i64 C, .slice Ab lb.length cb] tB)).alloc (.cells #[vd] tD)).alloc (.cells (madeCells #[.int .i64 0] n) tR)).alloc (.cells #[.slice (some ⟨W.heap.size + 1 + 1, 0, none⟩) n n] tI)).alloc (.cells #[.bool true] tG)).alloc (.cells #[vx] tX)) (List.replicate n 0) out := by
  have hs := h.bel.size; have h1 := blk_lt h.co; have h2 := blk_lt h.ho; have h3 := h.ne; refine ⟨h.below (below_alloc (below_alloc (below_alloc (below_alloc (below_alloc (below_alloc (Below.refl _ _) _) _) _) _) _) _), by omega, by omega, ?_, by simp; omega, ?_, ?_, ?_, ?_, ?_, ?_, hC, hcb⟩
  · simp only [List.nodup_cons, List.mem_cons, List.not_mem_nil, or_false, not_or, List.nodup_nil, and_true, not_false_eq_true]
    omega
  · exact blk_alloc (blk_alloc (blk_alloc (blk_alloc (blk_alloc (blk_new _ _) _) _) _) _) _
  · have := blk_alloc (blk_alloc (blk_alloc (blk_alloc (blk_new (W.alloc (.cells #[.int .i64 (n : Int), .int .i64 C, .slice Ab lb.length cb] tB)) (.cells #[vd] tD)) (.cells (madeCells #[.int .i64 0] n) tR)) (.cells #[.slice (some ⟨W.heap.size + 1 + 1, 0, none⟩) n n] tI)) (.cells #[.bool true] tG)) (.cells #[vx] tX)
    simpa using this
  · have := blk_alloc (blk_alloc (blk_new (((W.alloc (.cells #[.int .i64 (n : Int), .int .i64 C, .slice Ab lb.length cb] tB)).alloc (.cells #[vd] tD)).alloc (.cells (madeCells #[.int .i64 0] n) tR)) (.cells #[.slice (some ⟨W.heap.size + 1 + 1, 0, none⟩) n n] tI)) (.cells #[.bool true] tG)) (.cells #[vx] tX)
    simpa using this
  · have := blk_alloc (blk_new ((((W.alloc (.cells #[.int .i64 (n : Int), .int .i64 C, .slice Ab lb.length cb] tB)).alloc (.cells #[vd] tD)).alloc (.cells (madeCells #[.int .i64 0] n) tR)).alloc (.cells #[.slice (some ⟨W.heap.size + 1 + 1, 0, none⟩) n n] tI)) (.cells #[.bool true] tG)) (.cells #[vx] tX)
    simpa using this
  · have := blk_new (((((W.alloc (.cells #[.int .i64 (n : Int), .int .i64 C, .slice Ab lb.length cb] tB)).alloc (.cells #[vd] tD)).alloc (.cells (madeCells #[.int .i64 0] n) tR)).alloc (.cells #[.slice (some ⟨W.heap.size + 1 + 1, 0, none⟩) n n] tI)).alloc (.cells #[.bool true] tG)) (.cells #[vx] tX)
    simpa using this
  · rw [← made_ints]
    have := blk_alloc (blk_alloc (blk_alloc (blk_new ((W.alloc (.cells #[.int .i64 (n : Int), .int .i64 C, .slice Ab lb.length cb] tB)).alloc (.cells #[vd] tD)) (.cells (madeCells #[.int .i64 0] n) tR)) (.cells #[.slice (some ⟨W.heap.size + 1 + 1, 0, none⟩) n n] tI)) (.cells #[.bool true] tG)) (.cells #[vx] tX); simpa using this
end
theorem Cnt.row {tI tR : Nat} {w W : World} {go ro : Nat} {out : List Int} (h : Cnt tI tR w go ro W out) : (Kd.int .i64).R tR W w.heap.size (fun _ => True) (.slice (some ⟨ro, 0, none⟩) out.length out.length) out := by
  have hl := h.len; exact Kd.R_of_own ⟨by simp [encs], .inr ⟨ro, out.length, ints out, rfl, h.lr, h.ho, Nat.le_refl _, by simp only [maxLen]; omega, by simp [ints], by simp [ints, encs]; exact List.take_of_length_le (by simp)⟩⟩ (fun _ _ => trivial)
theorem Cnt.start {tB tI tR : Nat} {w : World} {bs : Array Value} {n : Nat} (hn : n ≤ 1000000) :
    Cnt tI tR w (w.heap.size + 1 + 1) (w.heap.size + 1) (((w.alloc (.cells bs tB)).alloc (.cells (madeCells #[.int .i64 0] n) tR)).alloc (.cells #[.slice (some ⟨w.heap.size + 1, 0, none⟩) n n] tI)) (List.replicate n 0) := by
  refine ⟨below_alloc (below_alloc (below_alloc (Below.refl _ _) _) _) _, by omega, by omega, by omega, by simp; omega, ?_, ?_⟩
  · have := blk_new ((w.alloc (.cells bs tB)).alloc (.cells (madeCells #[.int .i64 0] n) tR)) (.cells #[.slice (some ⟨w.heap.size + 1, 0, none⟩) n n] tI)
    simpa using this
  · rw [← made_ints]
    have := blk_alloc (blk_new (w.alloc (.cells bs tB)) (.cells (madeCells #[.int .i64 0] n) tR)) (.cells #[.slice (some ⟨w.heap.size + 1, 0, none⟩) n n] tI); simpa using this
end Go.Proofs.Ytdoflpghemgbdaa.Cap
