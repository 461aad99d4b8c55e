import Derived.Test.YthlcaikplebpmaaLn
namespace Go.Proofs.Ythlcaikplebpmaa.Cap
open Go.RowKit Go.Proofs.YthlcaikplebpmaaW.PrintWords Go.Proofs.YthlcaikplebpmaaW.PrintLast Go.Proofs.YthlcaikplebpmaaW.PrintMore
set_option linter.unusedVariables false
/-- A lent row, told by its value, as it is read now. -/
theorem Lent.now {e base : Nat} {U : Nat → Prop} {w0 W : World} {x : List Int} {A : Option Addr} {c : Nat} (h : Lent e base U w0 x [.slice A x.length c]) (hU : ∀ k, U k → W.heap[k]? = w0.heap[k]?) : x.length ≤ c ∧ (Kd.int .i64).C W A x.length x := by
  obtain ⟨A', c', e1, hl, hC⟩ := (h.move hU).cell
  injection e1 with e1 _
  injection e1 with e1 _ e3
  subst e1
  subst e3
  exact ⟨hl, hC⟩
/-- A list of borrowed rows and variables that stay. -/
structure Lw (eI bI tL tV : Nat) (w w0 : World) (U : Nat → Prop) (L : List (Nat × Nat × Value)) (gl : Nat) (W : World) (vl : Value) (q : List (List Int)) : Prop where
  bel : Below w.heap.size w W
  keep : ∀ k, U k → W.heap[k]? = w0.heap[k]?
  ul : ∀ k, U k → k < W.heap.size
  ll : w.heap.size ≤ gl
  ol : Off L gl
  uo : ∀ k, U k → k ≠ gl
  ux : ∀ k, U k → Off L k
  fix : Fix W L
  cl : W.heap[gl]? = some (.cells #[vl] tV (0, 0))
  hl : (lent eI bI U w0).R tL W w.heap.size (fun k => some k = vl.ownBlock) vl q
  nl : ∀ k, some k = vl.ownBlock → k ≠ gl ∧ Off L k ∧ ¬ U k
section
variable {eI bI tL tV : Nat} {w w0 : World} {U : Nat → Prop} {L : List (Nat × Nat × Value)} {gl : Nat} {W W1 w1 : World} {vl v1 : Value} {q q1 : List (List Int)}
theorem Lw.below (h : Lw eI bI tL tV w w0 U L gl W vl q) (hb : Below W.heap.size W W1) : Lw eI bI tL tV w w0 U L gl W1 vl q :=
  ⟨below_then h.bel h.bel.size hb, fun k hk => (hb.block k (h.ul k hk)).trans (h.keep k hk), fun k hk => Nat.lt_of_lt_of_le (h.ul k hk) hb.size, h.ll, h.ol, h.uo, h.ux, h.fix.below hb, blk_below h.cl hb, Kd.R_below h.hl hb, h.nl⟩
theorem Lw.celll (h : Lw eI bI tL tV w w0 U L gl W vl q) : W.cell? ⟨gl, 0, none⟩ = some vl := cell_of_one h.cl
theorem Lw.freel (h : Lw eI bI tL tV w w0 U L gl W vl q) : W.frozen? ⟨gl, 0, none⟩ = false := free_of_one h.cl
theorem Lw.rows {e : Nat} {A : Option Addr} {n c : Nat} (h : Lw eI bI tL tV w w0 U L gl W (.slice A n c) q) : n = q.length ∧ n ≤ c ∧ (Kd.slice e (Kd.int .i64)).C W A n q := by
  obtain ⟨e1, h1, h2⟩ := Kd.R_reads' h.hl
  subst e1
  exact ⟨rfl, h1, lent_C h2 h.keep⟩
theorem Lw.cutq {A : Option Addr} {n c : Nat} (h : Lw eI bI tL tV w w0 U L gl W (.slice A n c) q) (m : Nat) (hm : m ≤ q.length) (q1 : List (List Int)) (hq : q.take m = q1) : Lw eI bI tL tV w w0 U L gl (W.setCell ⟨gl, 0, none⟩ (.slice A m c)) (.slice A m c) q1 := by
  have hb : (Value.slice A m c).ownBlock = (Value.slice A n c).ownBlock := by cases A <;> rfl
  subst hq
  refine ⟨h.bel.setCell h.ll _, fun k hu => (Below.heap_setCell _ _ _ _ (h.uo k hu)).trans (h.keep k hu), fun k hu => by simpa [World.setCell] using h.ul k hu, h.ll, h.ol, h.uo, h.ux, h.fix.far h.ol _, one_setCell h.cl, ?_, by rw [hb]; exact h.nl⟩
  rw [hb]
  exact Kd.R_far (Kd.R_take h.hl hm) (fun k e => (h.nl k e).1) _
theorem Lw.setl (h : Lw eI bI tL tV w w0 U L gl W vl q) {ok : Nat → Prop} (bb : Below w.heap.size w w1) (hg : W.grownBy w1 vl.ownBlock) (hR : (lent eI bI U w0).R tL w1 w.heap.size ok v1 q1) (hat : v1.ownBlock = vl.ownBlock ∨ ∃ b, v1.ownBlock = some b ∧ W.heap.size ≤ b) :
    Lw eI bI tL tV w w0 U L gl (w1.setCell ⟨gl, 0, none⟩ v1) v1 q1 ∧ w1.cell? ⟨gl, 0, none⟩ = some vl ∧ w1.frozen? ⟨gl, 0, none⟩ = false := by
  have c1 : w1.heap[gl]? = some (.cells #[vl] tV (0, 0)) := blk_grown h.cl hg (fun e => (h.nl gl e).1 rfl)
  have hn : ∀ k, some k = v1.ownBlock → k ≠ gl ∧ Off L k ∧ ¬ U k := by
    intro k hk
    rcases hat with e | ⟨b, e, hb⟩
    · exact h.nl k (hk.trans e)
    · have : k = b := Option.some.inj (hk.trans e)
      subst this
      exact ⟨fun e => by have := blk_lt h.cl; omega, h.fix.off hb, fun e => by have := h.ul k e; omega⟩
  refine ⟨⟨bb.setCell h.ll _, fun k hu => ((Below.heap_setCell _ _ _ _ (h.uo k hu)).trans (hg.block k (h.ul k hu) (fun e => (h.nl k e).2.2 hu))).trans (h.keep k hu), fun k hu => by have := h.ul k hu; have := hg.size; simp only [World.setCell, Array.size_modify]; omega, h.ll, h.ol, h.uo, h.ux, (h.fix.grown hg (fun k hk => (h.nl k hk.symm).2.1)).far h.ol _, one_setCell c1, ?_, hn⟩, cell_of_one c1, free_of_one c1⟩
  exact Kd.R_far (Kd.R_tight rfl hR) (fun k hk => (hn k hk).1) _
theorem Lw.held (h : Lw eI bI tL tV w w0 U L gl W vl q) (hg : W.grownBy w1 vl.ownBlock) : Fix w1 L ∧ ∀ ad : Addr, U ad.block → w1.cell? ad = W.cell? ad :=
  ⟨h.fix.grown hg (fun k hk => (h.nl k hk.symm).2.1), fun ad hu => cell_same (hg.block ad.block (h.ul _ hu) (fun e => (h.nl _ e).2.2 hu))⟩
theorem Lw.elem (h : Lw eI bI tL tV w w0 U L gl W vl q) {A : Option Addr} {all : List (List Int)} (hA : (lent eI bI U w0).C w0 A all.length all) (hU : ∀ ad, A = some ad → U ad.block) (i : Int) (h0 : 0 ≤ i) (h1 : i < (all.length : Int)) :
    ∃ ad Ax c, A = some ad ∧ W.cell? (ad.add i.toNat) = some (.slice Ax (all.getD i.toNat []).length c) ∧ Lent eI bI U w0 (all.getD i.toNat []) [.slice Ax (all.getD i.toNat []).length c] := by
  have hA' := lent_same (W := W) hA (fun ad ha => h.keep _ (hU ad ha))
  obtain ⟨ad, c, e, hl, hk, hc⟩ := Kd.C_get hA' [] i h0 h1
  obtain ⟨Ax, cx, rfl, hlx, hCx⟩ := Lent.cell hk
  refine ⟨ad, Ax, cx, e, ?_, hk⟩
  have := hc 0 _ rfl
  simpa [lent] using this
/-- The list is made. -/
theorem Lw.start (hb : Below w.heap.size w W) (hk : ∀ k, U k → W.heap[k]? = w0.heap[k]?) (hul : ∀ k, U k → k < W.heap.size) (hf : Fix W L) (hux : ∀ k, U k → Off L k) :
    Lw eI bI tL tV w w0 U L (W.heap.size + 1) ((W.alloc (.cells #[] tL)).alloc (.cells #[.slice (some ⟨W.heap.size, 0, none⟩) 0 0] tV)) (.slice (some ⟨W.heap.size, 0, none⟩) 0 0) [] := by
  have hs := hb.size
  have hF : ∀ x ∈ L, x.1 < W.heap.size := fun x hx => blk_lt (hf x hx)
  have b1 : Below W.heap.size W ((W.alloc (.cells #[] tL)).alloc (.cells #[.slice (some ⟨W.heap.size, 0, none⟩) 0 0] tV)) := below_alloc (below_alloc (Below.refl _ _) _) _
  have z1 : (W.alloc (.cells #[] tL)).heap.size = W.heap.size + 1 := by simp
  refine ⟨below_then hb hs b1, fun k hu => (b1.block k (hul k hu)).trans (hk k hu), fun k hu => Nat.lt_of_lt_of_le (hul k hu) b1.size, by omega, fun x hx => by have := hF x hx; omega, fun k hu => by have := hul k hu; omega, hux, hf.below b1, ?_, ?_, fun k e => ?_⟩
  · have := blk_new (W.alloc (.cells #[] tL)) (.cells #[.slice (some ⟨W.heap.size, 0, none⟩) 0 0] tV)
    rw [z1] at this
    exact this
  · exact Kd.R_below (R_empty (lent eI bI U w0) tL w.heap.size W hs) (below_alloc (Below.refl _ _) _)
  · have : k = W.heap.size := by simpa [Value.ownBlock] using e
    subst this
    exact ⟨by omega, fun x hx => by have := hF x hx; omega, fun hu => by have := hul _ hu; omega⟩
/-- A variable more. -/
theorem Lw.boxn (h : Lw eI bI tL tV w w0 U L gl W vl q) (t : Nat) (v : Value) (n : Nat) (hn : n = W.heap.size) : Lw eI bI tL tV w w0 U ((n, t, v) :: L) gl (W.alloc (.cells #[v] t)) vl q := by
  subst hn
  have h' := h.below (below_alloc (Below.refl _ W) (.cells #[v] t))
  have hl := blk_lt h.cl
  refine ⟨h'.bel, h'.keep, h'.ul, h.ll, off_cons h.ol (by omega), h.uo, fun k hk => off_cons (h.ux k hk) (by have := h.ul k hk; omega), fun x hx => ?_, h'.cl, h'.hl, fun k hk => ?_⟩
  · rcases List.mem_cons.1 hx with rfl | hx
    · exact blk_new _ _
    · exact h'.fix x hx
  · obtain ⟨a1, a2, a3⟩ := h.nl k hk
    exact ⟨a1, off_cons a2 (by have := Kd.R_lt h.hl k hk.symm; omega), a3⟩
theorem Lw.sub (h : Lw eI bI tL tV w w0 U L gl W vl q) {L' : List (Nat × Nat × Value)} (hm : ∀ x ∈ L', x ∈ L) : Lw eI bI tL tV w w0 U L' gl W vl q :=
  ⟨h.bel, h.keep, h.ul, h.ll, fun y hy => h.ol y (hm y hy), h.uo, fun k hk y hy => h.ux k hk y (hm y hy), fun y hy => h.fix y (hm y hy), h.cl, h.hl, fun k hk => ⟨(h.nl k hk).1, fun y hy => (h.nl k hk).2.1 y (hm y hy), (h.nl k hk).2.2⟩⟩
/-- Different lent rows of two numbers lie apart. -/
theorem lent_S {eI bI tL base : Nat} {U : Nat → Prop} {w0 W : World} {v : Value} {xs : List (List Int)} (h : (lent eI bI U w0).R tL W base (fun k => some k = v.ownBlock) v xs) (hU : ∀ k, U k → W.heap[k]? = w0.heap[k]?) (hnu : ∀ k, some k = v.ownBlock → ¬ U k) (hb : base ≤ bI) (hnd : xs.Nodup) (h2 : ∀ x ∈ xs, x.length = 2) :
    Kd.S (Kd.slice eI (Kd.int .i64)) tL W base (fun _ => True) v xs := by
  obtain ⟨h0, inner, ho, hr⟩ := h
  have hrow : ∀ j x, xs[j]? = some x → Lent eI bI U W x ((inner.drop (j * 1)).take 1) := fun j x hj => Lent.move (hr.2 j x hj) hU
  refine ⟨fun k => (List.range xs.length).findIdx fun j => decide (((inner.drop (j * 1)).take 1).head?.bind Value.ownBlock = some k), fun _ _ => trivial, inner, by rw [List.length_zipIdx]; exact ho, by rw [List.length_zipIdx]; exact hr.1, fun j p hj => ?_⟩
  rw [List.getElem?_zipIdx, Nat.zero_add] at hj
  obtain ⟨x, hx, rfl⟩ := Option.map_eq_some_iff.1 hj
  obtain ⟨vj, ej, hRj⟩ := hrow j x hx
  have hjl : j < xs.length := (List.getElem?_eq_some_iff.1 hx).1
  show (Kd.slice eI (Kd.int .i64)).M W base _ x ((inner.drop (j * 1)).take 1)
  rw [ej]
  refine ⟨vj, rfl, Kd.R_lower (Kd.R_mono (Kd.R_bound (Kd.R_tight rfl hRj)) (fun k hk => ?_)) hb⟩
  obtain ⟨hk, _⟩ := hk
  have huk : U k := hRj.1 k hk.symm
  refine ⟨⟨trivial, fun e => hnu k e huk⟩, ?_⟩
  show (List.range xs.length).findIdx _ = j
  have hmem : decide (((inner.drop (j * 1)).take 1).head?.bind Value.ownBlock = some k) = true := by
    rw [ej]; exact decide_eq_true hk.symm
  have hle : (List.range xs.length).findIdx (fun j => decide (((inner.drop (j * 1)).take 1).head?.bind Value.ownBlock = some k)) < (List.range xs.length).length := by
    rw [List.findIdx_lt_length]
    exact ⟨j, List.mem_range.2 hjl, hmem⟩
  have hget := List.findIdx_getElem (w := hle)
  rw [List.getElem_range] at hget
  generalize (List.range xs.length).findIdx (fun j => decide (((inner.drop (j * 1)).take 1).head?.bind Value.ownBlock = some k)) = m at hget hle
  have hml : m < xs.length := by simpa using hle
  have hget := of_decide_eq_true hget
  obtain ⟨vm, em, hRm⟩ := hrow m xs[m] (List.getElem?_eq_getElem hml)
  rw [em] at hget
  have hgm : vm.ownBlock = some k := hget
  -- both rows begin at block k and have two numbers: they are one
  obtain ⟨A1, c1, e1, _, r1⟩ := Kd.R_reads hRj
  obtain ⟨A2, c2, e2, _, r2⟩ := Kd.R_reads hRm
  subst e1
  subst e2
  have hA1 : A1 = some ⟨k, 0, none⟩ := by
    cases A1 with
    | none => simp [Value.ownBlock] at hk
    | some ad => obtain ⟨g, rfl⟩ := Kd.R_head hRj; have : g = k := by simpa [Value.ownBlock] using hk.symm
                 rw [this]
  have hA2 : A2 = some ⟨k, 0, none⟩ := by
    cases A2 with
    | none => simp [Value.ownBlock] at hgm
    | some ad => obtain ⟨g, rfl⟩ := Kd.R_head hRm; have : g = k := by simpa [Value.ownBlock] using hgm
                 rw [this]
  subst hA1
  subst hA2
  have hx2 : x.length = 2 := h2 x (List.mem_of_getElem? hx)
  have hm2 : xs[m].length = 2 := h2 _ (List.getElem_mem hml)
  have hxe : x = xs[m] := by
    apply List.ext_getElem (by rw [hx2, hm2])
    intro i i1 i2
    obtain ⟨_, b1, d1⟩ := Kd.at_int r1 (i : Int) (by omega) (by omega)
    obtain ⟨_, b2, d2⟩ := Kd.at_int r2 (i : Int) (by omega) (by omega)
    cases b1
    cases b2
    rw [d1] at d2
    have := Option.some.inj d2
    injection this with _ this
    simpa [rd, List.getD_eq_getElem?_getD, i1, i2] using this
  have hxj : xs[j] = x := (List.getElem?_eq_some_iff.1 hx).2
  have hp := List.pairwise_iff_getElem.1 hnd
  have he : xs[m] = xs[j] := by rw [hxj]; exact hxe.symm
  rcases Nat.lt_trichotomy m j with hh | hh | hh
  · exact absurd he (hp m j hml hjl hh)
  · exact hh
  · exact absurd he.symm (hp j m hjl hml hh)
end
end Go.Proofs.Ythlcaikplebpmaa.Cap
