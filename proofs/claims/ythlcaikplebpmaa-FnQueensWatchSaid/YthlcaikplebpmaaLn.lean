import Derived.Test.YthlcaikplebpmaaFn
namespace Go.Proofs.Ythlcaikplebpmaa.Cap
open Go.RowKit Go.Proofs.YthlcaikplebpmaaW.PrintWords Go.Proofs.YthlcaikplebpmaaW.PrintLast Go.Proofs.YthlcaikplebpmaaW.PrintMore
set_option linter.unusedVariables false
theorem cell_same {W W1 : World} {a : Addr} (h : W1.heap[a.block]? = W.heap[a.block]?) : W1.cell? a = W.cell? a := by
  unfold World.cell?
  rw [h]
theorem add_block (ad : Addr) (n : Nat) : (ad.add n).block = ad.block := by
  unfold Addr.add
  split <;> rfl
/-- What is read of blocks that have stayed. -/
theorem reads_same {α : Type} {R R' : α → List Value → Prop} {size : Nat} {w w1 : World} {A : Option Addr} {n : Nat} {ps : List α} (h : ReadsRow R size w A n ps) (hA : ∀ ad, A = some ad → w1.heap[ad.block]? = w.heap[ad.block]?) (hR : ∀ p c, R p c → R' p c) : ReadsRow R' size w1 A n ps :=
  ⟨h.1, h.2.1, fun hn => by
    obtain ⟨ad, e, hc⟩ := h.2.2 hn
    refine ⟨ad, e, fun j p hj => ?_⟩
    obtain ⟨c, hs, hr, hcell⟩ := hc j p hj
    exact ⟨c, hs, hR _ _ hr, fun i u hu => (cell_same (by rw [add_block]; exact hA ad e)).trans (hcell i u hu)⟩⟩
/-- A row of numbers that lies in blocks (U) of a world (w0). -/
def Lent (e base : Nat) (U : Nat → Prop) (w0 : World) (x : List Int) (cs : List Value) : Prop := ∃ v, cs = [v] ∧ (Kd.int .i64).R e w0 base U v x
theorem Lent.cell {e base : Nat} {U : Nat → Prop} {w0 : World} {x : List Int} {cs : List Value} (h : Lent e base U w0 x cs) : ∃ A c, cs = [.slice A x.length c] ∧ x.length ≤ c ∧ (Kd.int .i64).C w0 A x.length x := by
  obtain ⟨v, rfl, hR⟩ := h
  obtain ⟨A, c, rfl, hl, hC⟩ := Kd.R_reads hR
  exact ⟨A, c, rfl, hl, hC⟩
def lent (e base : Nat) (U : Nat → Prop) (w0 : World) : Kd (List Int) where
  sz := 1
  E := []
  K := fun _ x cs => Lent e base U w0 x cs
  M := fun _ _ _ x cs => Lent e base U w0 x cs
  K_len := by
    intro w x cs h
    obtain ⟨A, c, rfl, _⟩ := h.cell
    rfl
  K_one := by
    intro w x cs h u hu
    obtain ⟨A, c, rfl, _⟩ := h.cell
    rw [List.mem_singleton.1 hu]
    rfl
  K_below := fun _ h => h
  K_of_M := fun h => h
  M_mono := fun _ h => h
  M_bound := fun h => h
  M_move := fun _ h => h
  M_lower := fun _ h => h
section
variable {e eO base : Nat} {U : Nat → Prop} {w0 W : World} {x : List Int} {cs : List Value} {A : Option Addr} {n c : Nat} {xs : List (List Int)}
theorem Lent.move (h : Lent e base U w0 x cs) (hU : ∀ k, U k → W.heap[k]? = w0.heap[k]?) : Lent e base U W x cs := by
  obtain ⟨v, rfl, hR⟩ := h
  exact ⟨v, rfl, Kd.R_move hR hU⟩
theorem lent_C {e2 : Nat} (h : (lent e base U w0).C W A n xs) (hU : ∀ k, U k → W.heap[k]? = w0.heap[k]?) : (Kd.slice e2 (Kd.int .i64)).C W A n xs :=
  ReadsRow.imp_ h (Below.refl _ _) (fun _ _ hp => (hp.move hU).cell)
/-- A list of lent rows in a block that has stayed. -/
theorem lent_same {w1 : World} (h : (lent e base U w0).C w1 A n xs) (hA : ∀ ad, A = some ad → W.heap[ad.block]? = w1.heap[ad.block]?) : (lent e base U w0).C W A n xs := reads_same h hA (fun _ _ hp => hp)
/-- Rows of a list of rows of the call's own are lent. -/
theorem lent_of {ok : Nat → Prop} (h : (Kd.slice e (Kd.int .i64)).R eO w0 base ok (.slice A n c) xs) :
    (lent e base (fun k => base ≤ k ∧ k < w0.heap.size) w0).C w0 A n xs ∧ ∀ ad, A = some ad → base ≤ ad.block ∧ ad.block < w0.heap.size := by
  obtain ⟨h0, inner, ho, hr⟩ := Kd.R_bound h
  have e1 := (Kd.R_reads' h).1
  refine ⟨?_, fun ad ha => ?_⟩
  · have h2 : OwnRow (fun (x : List Int) cs => Lent e base (fun k => base ≤ k ∧ k < w0.heap.size) w0 x cs) eO 1 w0 base (.slice A n c) xs := by
      refine ⟨inner, ho, hr.imp_ (fun p cs hp => ?_)⟩
      obtain ⟨v, rfl, hR⟩ := hp
      exact ⟨v, rfl, Kd.R_mono hR (fun k hk => ⟨hk.1.2.1, hk.1.2.2.1⟩)⟩
    obtain ⟨A', c', e', hl', hr'⟩ := OwnRow.reads h2
    injection e' with e1 e2 e3
    subst e1
    rw [e2]
    exact hr'
  · subst ha
    obtain ⟨g, rfl⟩ := Kd.R_head h
    have := h0 g (by simp [Value.ownBlock])
    exact ⟨this.2.1, this.2.2.1⟩
end
/-- What a function value does that is told lists of rows: blocks of its own (own), what they say (s). -/
structure Tells (P : Program) (eI : Nat) (w : World) {σ : Type} (vd : Value) (cb : σ → List (List Int) → Option (Bool × σ)) (D : (Nat → Prop) → World → σ → Prop) : Prop where
  move : ∀ own W W1 s, D own W s → (∀ k, own k → W1.heap[k]? = W.heap[k]?) → D own W1 s
  lies : ∀ own W s, D own W s → ∀ k, own k → w.heap.size ≤ k ∧ k < W.heap.size
  call : ∀ own W s A c l b s', D own W s → (∀ W', (∀ k, k < W.heap.size → ¬ own k → W'.heap[k]? = W.heap[k]?) → (Kd.slice eI (Kd.int .i64)).C W' A l.length l) → l.length ≤ c → cb s l = some (b, s') → Below w.heap.size w W →
    Fn.CallsV P vd #[.slice A l.length c] W fun e W' => e = .returned (.bool b) ∧ ∃ own', D own' W' s' ∧ (∀ k, own' k → own k ∨ W.heap.size ≤ k) ∧ Below w.heap.size w W' ∧ W.heap.size ≤ W'.heap.size ∧ ∀ k, k < W.heap.size → ¬ own k → W'.heap[k]? = W.heap[k]?
structure Lst (eI bI tL tV tG : Nat) (w w0 : World) (U : Nat → Prop) {σ : Type} (D : (Nat → Prop) → World → σ → Prop) (L : List (Nat × Nat × Value)) (gl gg : Nat) (own : Nat → Prop) (W : World) (vl : Value) (q : List (List Int)) (b : Bool) (s : σ) : Prop where
  bel : Below w.heap.size w W
  keep : ∀ k, U k → W.heap[k]? = w0.heap[k]?
  ul : ∀ k, U k → k < W.heap.size
  ne : gl ≠ gg
  ll : w.heap.size ≤ gl
  lg : w.heap.size ≤ gg
  ol : Off L gl
  og : Off L gg
  nd : L.Pairwise (fun a b => a.1 ≠ b.1)
  ux : ∀ k, U k → Off L k
  lL : ∀ x ∈ L, w.heap.size ≤ x.1
  uo : ∀ k, U k → k ≠ gl ∧ k ≠ gg
  fix : Fix W L
  cl : W.heap[gl]? = some (.cells #[vl] tV (0, 0))
  cg : W.heap[gg]? = some (.cells #[.bool b] tG (0, 0))
  hl : (lent eI bI U w0).R tL W w.heap.size (fun k => some k = vl.ownBlock) vl q
  nl : ∀ k, some k = vl.ownBlock → k ≠ gl ∧ k ≠ gg ∧ Off L k ∧ ¬ U k ∧ ¬ own k
  no : ∀ k, own k → k ≠ gl ∧ k ≠ gg ∧ Off L k ∧ ¬ U k
  d : D own W s
section
variable {P : Program} {eI bI tL tV tG : Nat} {w w0 : World} {U : Nat → Prop} {σ : Type} {vd : Value} {cb : σ → List (List Int) → Option (Bool × σ)} {D : (Nat → Prop) → World → σ → Prop} {L : List (Nat × Nat × Value)} {gl gg : Nat} {own own' : Nat → Prop} {W W1 w1 : World} {vl v1 : Value} {q q1 : List (List Int)} {b b' : Bool} {s s' : σ}
theorem Lst.below (hT : Tells P eI w vd cb D) (h : Lst eI bI tL tV tG w w0 U D L gl gg own W vl q b s) (hb : Below W.heap.size W W1) : Lst eI bI tL tV tG w w0 U D L gl gg own W1 vl q b s :=
  ⟨below_then h.bel h.bel.size hb, fun k hk => (hb.block k (h.ul k hk)).trans (h.keep k hk), fun k hk => Nat.lt_of_lt_of_le (h.ul k hk) hb.size, h.ne, h.ll, h.lg, h.ol, h.og, h.nd, h.ux, h.lL, h.uo, h.fix.below hb, blk_below h.cl hb, blk_below h.cg hb, Kd.R_below h.hl hb, h.nl, h.no,
    hT.move _ _ _ _ h.d (fun k hk => hb.block k (hT.lies _ _ _ h.d k hk).2)⟩
theorem Lst.celll (h : Lst eI bI tL tV tG w w0 U D L gl gg own W vl q b s) : W.cell? ⟨gl, 0, none⟩ = some vl := cell_of_one h.cl
theorem Lst.cellg (h : Lst eI bI tL tV tG w w0 U D L gl gg own W vl q b s) : W.cell? ⟨gg, 0, none⟩ = some (.bool b) := cell_of_one h.cg
theorem Lst.freel (h : Lst eI bI tL tV tG w w0 U D L gl gg own W vl q b s) : W.frozen? ⟨gl, 0, none⟩ = false := free_of_one h.cl
theorem Lst.freeg (h : Lst eI bI tL tV tG w w0 U D L gl gg own W vl q b s) : W.frozen? ⟨gg, 0, none⟩ = false := free_of_one h.cg
/-- The list, read. -/
theorem Lst.rows {e : Nat} {A : Option Addr} {n c : Nat} (h : Lst eI bI tL tV tG w w0 U D L gl gg own W (.slice A n c) q b s) : n = q.length ∧ n ≤ c ∧ (Kd.slice e (Kd.int .i64)).C W A n q := by
  obtain ⟨e1, h1, h2⟩ := Kd.R_reads' h.hl
  subst e1
  exact ⟨rfl, h1, lent_C h2 h.keep⟩
/-- It is read whatever the function writes. -/
theorem Lst.rowsAll {e : Nat} {A : Option Addr} {n c : Nat} (h : Lst eI bI tL tV tG w w0 U D L gl gg own W (.slice A n c) q b s) : ∀ W', (∀ k, k < W.heap.size → ¬ own k → W'.heap[k]? = W.heap[k]?) → (Kd.slice e (Kd.int .i64)).C W' A q.length q := by
  intro W' hk
  have h2 := Kd.R_step (w1 := W') h.hl (fun k e hlt => hk k hlt (h.nl k e).2.2.2.2)
  obtain ⟨e1, h1, h3⟩ := Kd.R_reads' h2
  subst e1
  exact lent_C h3 (fun k hu => (hk k (h.ul k hu) (fun e => (h.no k e).2.2.2 hu)).trans (h.keep k hu))
/-- The function has been told the list. -/
theorem Lst.told (hT : Tells P eI w vd cb D) (h : Lst eI bI tL tV tG w w0 U D L gl gg own W vl q b s) (hd : D own' W1 s') (ho : ∀ k, own' k → own k ∨ W.heap.size ≤ k) (hb : Below w.heap.size w W1) (hs : W.heap.size ≤ W1.heap.size) (hk : ∀ k, k < W.heap.size → ¬ own k → W1.heap[k]? = W.heap[k]?) :
    Lst eI bI tL tV tG w w0 U D L gl gg own' W1 vl q b s' := by
  have hl := blk_lt h.cl
  have hg := blk_lt h.cg
  have hF : ∀ x ∈ L, x.1 < W.heap.size := fun x hx => blk_lt (h.fix x hx)
  refine ⟨hb, fun k hu => (hk k (h.ul k hu) (fun e => (h.no k e).2.2.2 hu)).trans (h.keep k hu), fun k hu => Nat.lt_of_lt_of_le (h.ul k hu) hs, h.ne, h.ll, h.lg, h.ol, h.og, h.nd, h.ux, h.lL, h.uo, fun x hx => (hk _ (hF x hx) (fun e => (h.no _ e).2.2.1 x hx rfl)).trans (h.fix x hx), (hk _ hl (fun e => (h.no _ e).1 rfl)).trans h.cl, (hk _ hg (fun e => (h.no _ e).2.1 rfl)).trans h.cg, Kd.R_step h.hl (fun k e hlt => hk k hlt (h.nl k e).2.2.2.2), fun k e => ?_, fun k e => ?_, hd⟩
  · obtain ⟨a1, a2, a3, a4, a5⟩ := h.nl k e
    refine ⟨a1, a2, a3, a4, fun hh => ?_⟩
    rcases ho k hh with hh | hh
    · exact a5 hh
    · have := Kd.R_lt h.hl k e.symm; omega
  · rcases ho k e with hh | hh
    · exact h.no k hh
    · exact ⟨fun e => by omega, fun e => by omega, fun x hx e => by have := hF x hx; omega, fun hu => by have := h.ul k hu; omega⟩
/-- The flag is written. -/
theorem Lst.setg (hT : Tells P eI w vd cb D) (h : Lst eI bI tL tV tG w w0 U D L gl gg own W vl q b s) (b' : Bool) : Lst eI bI tL tV tG w w0 U D L gl gg own (W.setCell ⟨gg, 0, none⟩ (.bool b')) vl q b' s :=
  ⟨h.bel.setCell h.lg _, fun k hu => (Below.heap_setCell _ _ _ _ (h.uo k hu).2).trans (h.keep k hu), fun k hu => by simpa [World.setCell] using h.ul k hu, h.ne, h.ll, h.lg, h.ol, h.og, h.nd, h.ux, h.lL, h.uo, h.fix.far h.og _, one_far h.cl h.ne _, one_setCell h.cg, Kd.R_far h.hl (fun k e => (h.nl k e).2.1) _, h.nl, h.no,
    hT.move _ _ _ _ h.d (fun k e => Below.heap_setCell _ _ _ _ (h.no k e).2.1)⟩
/-- The list is cut. -/
theorem Lst.cut (hT : Tells P eI w vd cb D) {A : Option Addr} {n c : Nat} (h : Lst eI bI tL tV tG w w0 U D L gl gg own W (.slice A n c) q b s) (m : Nat) (hm : m ≤ q.length) : Lst eI bI tL tV tG w w0 U D L gl gg own (W.setCell ⟨gl, 0, none⟩ (.slice A m c)) (.slice A m c) (q.take m) b s := by
  have hb : (Value.slice A m c).ownBlock = (Value.slice A n c).ownBlock := by cases A <;> rfl
  refine ⟨h.bel.setCell h.ll _, fun k hu => (Below.heap_setCell _ _ _ _ (h.uo k hu).1).trans (h.keep k hu), fun k hu => by simpa [World.setCell] using h.ul k hu, h.ne, h.ll, h.lg, h.ol, h.og, h.nd, h.ux, h.lL, h.uo, h.fix.far h.ol _, one_setCell h.cl, one_far h.cg (fun e => h.ne e.symm) _, ?_, by rw [hb]; exact h.nl, h.no,
    hT.move _ _ _ _ h.d (fun k e => Below.heap_setCell _ _ _ _ (h.no k e).1)⟩
  rw [hb]
  exact Kd.R_far (Kd.R_take h.hl hm) (fun k e => (h.nl k e).1) _
theorem Lst.cutq (hT : Tells P eI w vd cb D) {A : Option Addr} {n c : Nat} (h : Lst eI bI tL tV tG w w0 U D L gl gg own W (.slice A n c) q b s) (m : Nat) (hm : m ≤ q.length) (q1 : List (List Int)) (hq : q.take m = q1) : Lst eI bI tL tV tG w w0 U D L gl gg own (W.setCell ⟨gl, 0, none⟩ (.slice A m c)) (.slice A m c) q1 b s := hq ▸ h.cut hT m hm
/-- The list has been appended to, and is stored. -/
theorem Lst.setl (hT : Tells P eI w vd cb D) (h : Lst eI bI tL tV tG w w0 U D L gl gg own W vl q b s) {ok : Nat → Prop} (bb : Below w.heap.size w w1) (hg : W.grownBy w1 vl.ownBlock) (hR : (lent eI bI U w0).R tL w1 w.heap.size ok v1 q1) (hat : v1.ownBlock = vl.ownBlock ∨ ∃ b, v1.ownBlock = some b ∧ W.heap.size ≤ b) :
    Lst eI bI tL tV tG w w0 U D L gl gg own (w1.setCell ⟨gl, 0, none⟩ v1) v1 q1 b s ∧ w1.cell? ⟨gl, 0, none⟩ = some vl ∧ w1.frozen? ⟨gl, 0, none⟩ = false := by
  have c1 : w1.heap[gl]? = some (.cells #[vl] tV (0, 0)) := blk_grown h.cl hg (fun e => (h.nl gl e).1 rfl)
  have c2 : w1.heap[gg]? = some (.cells #[.bool b] tG (0, 0)) := blk_grown h.cg hg (fun e => (h.nl gg e).2.1 rfl)
  have hn : ∀ k, some k = v1.ownBlock → k ≠ gl ∧ k ≠ gg ∧ Off L k ∧ ¬ U k ∧ ¬ own k := by
    intro k hk
    rcases hat with e | ⟨b, e, hb⟩
    · exact h.nl k (hk.trans e)
    · have : k = b := Option.some.inj (hk.trans e)
      subst this
      exact ⟨fun e => by have := blk_lt h.cl; omega, fun e => by have := blk_lt h.cg; omega, h.fix.off hb, fun e => by have := h.ul k e; omega, fun e => by have := (hT.lies _ _ _ h.d k e).2; omega⟩
  refine ⟨⟨bb.setCell h.ll _, fun k hu => ((Below.heap_setCell _ _ _ _ (h.uo k hu).1).trans (hg.block k (h.ul k hu) (fun e => (h.nl k e).2.2.2.1 hu))).trans (h.keep k hu), fun k hu => by have := h.ul k hu; have := hg.size; simp only [World.setCell, Array.size_modify]; omega, h.ne, h.ll, h.lg, h.ol, h.og, h.nd, h.ux, h.lL, h.uo, (h.fix.grown hg (fun k hk => (h.nl k hk.symm).2.2.1)).far h.ol _, one_setCell c1, one_far c2 (fun e => h.ne e.symm) _, ?_, hn, h.no, ?_⟩, cell_of_one c1, free_of_one c1⟩
  · exact Kd.R_far (Kd.R_tight rfl hR) (fun k hk => (hn k hk).1) _
  · exact hT.move _ _ _ _ h.d (fun k e => (Below.heap_setCell _ _ _ _ (h.no k e).1).trans (hg.block k (hT.lies _ _ _ h.d k e).2 (fun e2 => (h.nl k e2).2.2.2.2 e)))
theorem off_cons {L : List (Nat × Nat × Value)} {k g t : Nat} {v : Value} (h : Off L k) (hk : k ≠ g) : Off ((g, t, v) :: L) k := by
  intro x hx
  rcases List.mem_cons.1 hx with rfl | hx
  · exact hk
  · exact h x hx
/-- A variable more. -/
theorem Lst.box (hT : Tells P eI w vd cb D) (h : Lst eI bI tL tV tG w w0 U D L gl gg own W vl q b s) (t : Nat) (v : Value) : Lst eI bI tL tV tG w w0 U D ((W.heap.size, t, v) :: L) gl gg own (W.alloc (.cells #[v] t)) vl q b s := by
  have hb : Below W.heap.size W (W.alloc (.cells #[v] t)) := below_alloc (Below.refl _ _) _
  have h' := h.below hT hb
  have hl := blk_lt h.cl
  have hg := blk_lt h.cg
  have hF : ∀ x ∈ L, x.1 < W.heap.size := fun x hx => blk_lt (h.fix x hx)
  have hs := h.bel.size
  refine ⟨h'.bel, h'.keep, h'.ul, h.ne, h.ll, h.lg, off_cons h.ol (by omega), off_cons h.og (by omega), List.pairwise_cons.2 ⟨fun x hx => by have := hF x hx; dsimp only; omega, h.nd⟩, fun k hk => off_cons (h.ux k hk) (by have := h.ul k hk; omega), fun x hx => ?_, h.uo, fun x hx => ?_, h'.cl, h'.cg, h'.hl, fun k hk => ?_, fun k hk => ?_, h'.d⟩
  · rcases List.mem_cons.1 hx with rfl | hx
    · exact hs
    · exact h.lL x hx
  · rcases List.mem_cons.1 hx with rfl | hx
    · exact blk_new _ _
    · exact h'.fix x hx
  · obtain ⟨a1, a2, a3, a4, a5⟩ := h.nl k hk
    exact ⟨a1, a2, off_cons a3 (by have := Kd.R_lt h.hl k hk.symm; omega), a4, a5⟩
  · obtain ⟨a1, a2, a3, a4⟩ := h.no k hk
    exact ⟨a1, a2, off_cons a3 (by have := (hT.lies _ _ _ h.d k hk).2; omega), a4⟩
theorem Lst.boxn (hT : Tells P eI w vd cb D) (h : Lst eI bI tL tV tG w w0 U D L gl gg own W vl q b s) (t : Nat) (v : Value) (n : Nat) (hn : n = W.heap.size) : Lst eI bI tL tV tG w w0 U D ((n, t, v) :: L) gl gg own (W.alloc (.cells #[v] t)) vl q b s := hn ▸ h.box hT t v
theorem off_same {L : List (Nat × Nat × Value)} {k g t : Nat} {v v' : Value} (h : Off ((g, t, v) :: L) k) : Off ((g, t, v') :: L) k := off_cons (fun x hx => h x (List.mem_cons_of_mem _ hx)) (h _ (List.mem_cons_self ..))
/-- It is written. -/
theorem Lst.seti (hT : Tells P eI w vd cb D) {gi t : Nat} {v : Value} (h : Lst eI bI tL tV tG w w0 U D ((gi, t, v) :: L) gl gg own W vl q b s) (v' : Value) : Lst eI bI tL tV tG w w0 U D ((gi, t, v') :: L) gl gg own (W.setCell ⟨gi, 0, none⟩ v') vl q b s := by
  have hi : W.heap[gi]? = some (.cells #[v] t (0, 0)) := h.fix _ (List.mem_cons_self ..)
  have e1 : gl ≠ gi := h.ol _ (List.mem_cons_self ..)
  have e2 : gg ≠ gi := h.og _ (List.mem_cons_self ..)
  have hnd := List.pairwise_cons.1 h.nd
  refine ⟨h.bel.setCell (h.lL _ (List.mem_cons_self ..)) _, fun k hu => (Below.heap_setCell _ _ _ _ (h.ux k hu _ (List.mem_cons_self ..))).trans (h.keep k hu), fun k hu => by simpa [World.setCell] using h.ul k hu, h.ne, h.ll, h.lg, off_same h.ol, off_same h.og, List.pairwise_cons.2 ⟨hnd.1, hnd.2⟩, fun k hk => off_same (h.ux k hk), fun x hx => ?_, h.uo, fun x hx => ?_, one_far h.cl e1 _, one_far h.cg e2 _, Kd.R_far h.hl (fun k e => (h.nl k e).2.2.1 _ (List.mem_cons_self ..)) _, fun k hk => ?_, fun k hk => ?_, hT.move _ _ _ _ h.d (fun k e => Below.heap_setCell _ _ _ _ ((h.no k e).2.2.1 _ (List.mem_cons_self ..)))⟩
  · rcases List.mem_cons.1 hx with rfl | hx
    · exact h.lL (gi, t, v) (List.mem_cons_self ..)
    · exact h.lL x (List.mem_cons_of_mem _ hx)
  · rcases List.mem_cons.1 hx with rfl | hx
    · exact one_setCell hi
    · exact one_far (h.fix x (List.mem_cons_of_mem _ hx)) (fun e => hnd.1 x hx e.symm) _
  · obtain ⟨a1, a2, a3, a4, a5⟩ := h.nl k hk
    exact ⟨a1, a2, off_same a3, a4, a5⟩
  · obtain ⟨a1, a2, a3, a4⟩ := h.no k hk
    exact ⟨a1, a2, off_same a3, a4⟩
theorem Lst.drop {x : Nat × Nat × Value} (h : Lst eI bI tL tV tG w w0 U D (x :: L) gl gg own W vl q b s) : Lst eI bI tL tV tG w w0 U D L gl gg own W vl q b s :=
  ⟨h.bel, h.keep, h.ul, h.ne, h.ll, h.lg, fun y hy => h.ol y (List.mem_cons_of_mem _ hy), fun y hy => h.og y (List.mem_cons_of_mem _ hy), (List.pairwise_cons.1 h.nd).2, fun k hk y hy => h.ux k hk y (List.mem_cons_of_mem _ hy), fun y hy => h.lL y (List.mem_cons_of_mem _ hy), h.uo, fun y hy => h.fix y (List.mem_cons_of_mem _ hy), h.cl, h.cg, h.hl,
    fun k hk => ⟨(h.nl k hk).1, (h.nl k hk).2.1, fun y hy => (h.nl k hk).2.2.1 y (List.mem_cons_of_mem _ hy), (h.nl k hk).2.2.2.1, (h.nl k hk).2.2.2.2⟩, fun k hk => ⟨(h.no k hk).1, (h.no k hk).2.1, fun y hy => (h.no k hk).2.2.1 y (List.mem_cons_of_mem _ hy), (h.no k hk).2.2.2⟩, h.d⟩
theorem Lst.celli {gi t : Nat} {v : Value} (h : Lst eI bI tL tV tG w w0 U D ((gi, t, v) :: L) gl gg own W vl q b s) : W.cell? ⟨gi, 0, none⟩ = some v := h.fix.cell (.head _)
theorem Lst.freei {gi t : Nat} {v : Value} (h : Lst eI bI tL tV tG w w0 U D ((gi, t, v) :: L) gl gg own W vl q b s) : W.frozen? ⟨gi, 0, none⟩ = false := free_of_one (h.fix _ (List.mem_cons_self ..))
/-- An element of the list from which is borrowed. -/
theorem Lst.elem (h : Lst eI bI tL tV tG w w0 U D L gl gg own W vl q b s) {A : Option Addr} {all : List (List Int)} (hA : (lent eI bI U w0).C w0 A all.length all) (hU : ∀ ad, A = some ad → U ad.block) (i : Int) (h0 : 0 ≤ i) (h1 : i < (all.length : Int)) :
    ∃ ad Ax c, A = some ad ∧ W.cell? (ad.add i.toNat) = some (.slice Ax (all.getD i.toNat []).length c) ∧ Lent eI bI U w0 (all.getD i.toNat []) [.slice Ax (all.getD i.toNat []).length c] := by
  have hA' := lent_same (W := W) hA (fun ad ha => h.keep _ (hU ad ha))
  obtain ⟨ad, c, e, hl, hk, hc⟩ := Kd.C_get hA' [] i h0 h1
  obtain ⟨Ax, cx, rfl, hlx, hCx⟩ := Lent.cell hk
  refine ⟨ad, Ax, cx, e, ?_, hk⟩
  have := hc 0 _ rfl
  simpa [lent] using this
/-- While the list is appended to, the rest stays. -/
theorem Lst.held (h : Lst eI bI tL tV tG w w0 U D L gl gg own W vl q b s) (hg : W.grownBy w1 vl.ownBlock) : Fix w1 L ∧ ∀ ad : Addr, U ad.block → w1.cell? ad = W.cell? ad :=
  ⟨h.fix.grown hg (fun k hk => (h.nl k hk.symm).2.2.1), fun ad hu => cell_same (hg.block ad.block (h.ul _ hu) (fun e => (h.nl _ e).2.2.2.1 hu))⟩
theorem Lst.all (h : Lst eI bI tL tV tG w w0 U D L gl gg own W vl q b s) {e : Nat} {A : Option Addr} {n : Nat} {all : List (List Int)} (hA : (lent eI bI U w0).C w0 A n all) (hU : ∀ ad, A = some ad → U ad.block) : (Kd.slice e (Kd.int .i64)).C W A n all :=
  lent_C (lent_same (W := W) hA (fun ad ha => h.keep _ (hU ad ha))) h.keep
/-- Fewer variables are told. -/
theorem Lst.sub (h : Lst eI bI tL tV tG w w0 U D L gl gg own W vl q b s) {L' : List (Nat × Nat × Value)} (hm : ∀ x ∈ L', x ∈ L) (hnd : L'.Pairwise (fun a b => a.1 ≠ b.1)) : Lst eI bI tL tV tG w w0 U D L' gl gg own W vl q b s :=
  ⟨h.bel, h.keep, h.ul, h.ne, h.ll, h.lg, fun y hy => h.ol y (hm y hy), fun y hy => h.og y (hm y hy), hnd, fun k hk y hy => h.ux k hk y (hm y hy), fun y hy => h.lL y (hm y hy), h.uo, fun y hy => h.fix y (hm y hy), h.cl, h.cg, h.hl,
    fun k hk => ⟨(h.nl k hk).1, (h.nl k hk).2.1, fun y hy => (h.nl k hk).2.2.1 y (hm y hy), (h.nl k hk).2.2.2.1, (h.nl k hk).2.2.2.2⟩, fun k hk => ⟨(h.no k hk).1, (h.no k hk).2.1, fun y hy => (h.no k hk).2.2.1 y (hm y hy), (h.no k hk).2.2.2⟩, h.d⟩
theorem R_empty {α : Type} (d : Kd α) (e base : Nat) (W : World) (hb : base ≤ W.heap.size) : d.R e (W.alloc (.cells #[] e)) base (fun k => some k = (Value.slice (some ⟨W.heap.size, 0, none⟩) 0 0).ownBlock) (.slice (some ⟨W.heap.size, 0, none⟩) 0 0) [] := by
  refine ⟨fun k hk => hk.symm, [], ?_, ⟨by simp, fun j p hj => by simp at hj⟩⟩
  have h2 := World.ownsRow_lit (base := base) (e := e) (size := d.sz) W #[] 0 hb (by simp [maxLen]) (by simp)
  simpa using h2
/-- The list and the flag are made. -/
theorem Lst.start (hT : Tells P eI w vd cb D) (hd : D own W s) (hb : Below w.heap.size w W) (hk : ∀ k, U k → W.heap[k]? = w0.heap[k]?) (hul : ∀ k, U k → k < W.heap.size) (hno : ∀ k, own k → Off L k ∧ ¬ U k) (hf : Fix W L) (hnd : L.Pairwise (fun a b => a.1 ≠ b.1)) (hux : ∀ k, U k → Off L k) (hlL : ∀ x ∈ L, w.heap.size ≤ x.1) :
    Lst eI bI tL tV tG w w0 U D L (W.heap.size + 1) (W.heap.size + 1 + 1) own (((W.alloc (.cells #[] tL)).alloc (.cells #[.slice (some ⟨W.heap.size, 0, none⟩) 0 0] tV)).alloc (.cells #[.bool true] tG)) (.slice (some ⟨W.heap.size, 0, none⟩) 0 0) [] true s := by
  have hs := hb.size
  have hF : ∀ x ∈ L, x.1 < W.heap.size := fun x hx => blk_lt (hf x hx)
  have b1 : Below W.heap.size W (((W.alloc (.cells #[] tL)).alloc (.cells #[.slice (some ⟨W.heap.size, 0, none⟩) 0 0] tV)).alloc (.cells #[.bool true] tG)) := below_alloc (below_alloc (below_alloc (Below.refl _ _) _) _) _
  have z1 : (W.alloc (.cells #[] tL)).heap.size = W.heap.size + 1 := by simp
  have z2 : ((W.alloc (.cells #[] tL)).alloc (.cells #[.slice (some ⟨W.heap.size, 0, none⟩) 0 0] tV)).heap.size = W.heap.size + 1 + 1 := by simp
  refine ⟨below_then hb hs b1, fun k hu => (b1.block k (hul k hu)).trans (hk k hu), fun k hu => Nat.lt_of_lt_of_le (hul k hu) b1.size, by omega, by omega, by omega, fun x hx => by have := hF x hx; omega, fun x hx => by have := hF x hx; omega, hnd, hux, hlL, fun k hu => by have := hul k hu; omega, hf.below b1, ?_, ?_, ?_, fun k e => ?_, fun k e => ?_, hT.move _ _ _ _ hd (fun k e => b1.block k (hT.lies _ _ _ hd k e).2)⟩
  · have := blk_alloc (blk_new (W.alloc (.cells #[] tL)) (.cells #[.slice (some ⟨W.heap.size, 0, none⟩) 0 0] tV)) (.cells #[.bool true] tG)
    rw [z1] at this
    exact this
  · have := blk_new ((W.alloc (.cells #[] tL)).alloc (.cells #[.slice (some ⟨W.heap.size, 0, none⟩) 0 0] tV)) (.cells #[.bool true] tG)
    rw [z2] at this
    exact this
  · exact Kd.R_below (R_empty (lent eI bI U w0) tL w.heap.size W hs) (below_alloc (below_alloc (Below.refl _ _) _) _)
  · have : k = W.heap.size := by simpa [Value.ownBlock] using e
    subst this
    exact ⟨by omega, by omega, fun x hx => by have := hF x hx; omega, fun hu => by have := hul _ hu; omega, fun ho => by have := (hT.lies _ _ _ hd _ ho).2; omega⟩
  · have := (hT.lies _ _ _ hd k e).2
    exact ⟨by omega, by omega, (hno k e).1, (hno k e).2⟩
end
end Go.Proofs.Ythlcaikplebpmaa.Cap
