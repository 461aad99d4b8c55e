import Derived.Test.YtdoflpghemgbdaaWd
import Derived.OneCell
import Derived.Laws.EntriesVeiled
import Derived.Deep.RegionLaw
import Derived.Laws.CopyOwn
import Derived.Test.YtdoflpghemgbdaaProg
namespace Go.Proofs.Ytdoflpghemgbdaa.Fn
open Go.RowKit Go.Proofs.YtdoflpghemgbdaaW.PrintWords Go.Proofs.YtdoflpghemgbdaaW.PrintLast Go.Proofs.YtdoflpghemgbdaaW.PrintMore
set_option linter.unusedVariables false

def CallsV (P : Program) (v : Value) (args : Array Value) (w : World) (Q : Ending → World → Prop) : Prop :=
  ∃ f cap fn, v = .func (.func f) #[] cap ∧ P.funcs[f]? = some fn ∧ (fn.name == "runtime.NumGoroutine") = false ∧ fn.body.isSome = true ∧ Calls P f (args ++ cap) w Q
theorem CallsV.mono {P : Program} {v : Value} {args : Array Value} {w : World} {Q Q' : Ending → World → Prop} (h : CallsV P v args w Q) (k : ∀ e w', Q e w' → Q' e w') : CallsV P v args w Q' := by
  obtain ⟨f, cap, fn, h1, h2, h3, h4, h5⟩ := h; exact ⟨f, cap, fn, h1, h2, h3, h4, h5.mono k⟩
theorem callsV_of_args {P : Program} {v : Value} {args args' : Array Value} {w : World} {Q : Ending → World → Prop} (h : args = args') (hc : CallsV P v args' w Q) : CallsV P v args w Q := h ▸ hc
def bl (n m : Nat) : Array Bool := ((List.range n).map fun i => m.testBit i).toArray
open Classical in
noncomputable def lim {α : Type} (g : Nat → Option α) : Option α := if h : ∃ k r, g k = some r then g h.choose else none
theorem lim_get {α : Type} {g : Nat → Option α} {r : α} (h : lim g = some r) : ∃ k, g k = some r := by
  unfold lim at h
  split at h
  · exact ⟨_, h⟩
  · cases h
theorem lim_of {α : Type} {g : Nat → Option α} {r : α} (hm : ∀ k, LeO (g k) (g (k + 1))) {k : Nat} (h : g k = some r) : lim g = some r := by
  have he : ∃ k r, g k = some r := ⟨k, r, h⟩
  unfold lim; rw [dif_pos he]; obtain ⟨r', h'⟩ := he.choose_spec; rw [h']; have h1 := more_rounds hm k he.choose r h; have h2 := more_rounds hm he.choose k r' h'; rw [Nat.add_comm] at h2; rw [h2] at h1; exact h1
def okI (x : Int) : Prop := (Lit.int .i64 x).wf = true
def okL {α : Type} (ok : α → Prop) (l : List α) : Prop := l.length ≤ maxLen ∧ ∀ x ∈ l, ok x
section
variable {P : Program} {ops : Array Oper} {Q : Exit → Act → World → Prop}
theorem gate_value {rest : List Oper} {o : Oper} {a : Act} {W : World} {s : Nat} {xs : Array Operand} {ts : Array TypeId} (_ho : o.op = .call { callee := .value (.tmp s), args := xs, argTypes := ts }) (h : wpList P ops Q (o :: rest) a W) : wpList P ops Q (o :: rest) a W := h
theorem goesVw_ {rest : List Oper} {oi : Oper} {a : Act} {w : World} (N : Option Tmp) (hd : oi.dst = N) (hw : Region.wanted oi (yielded ops a.tmps) = true) {s : Operand} {xs : Array Operand} {ts : Array TypeId} (v : Value) (hv : a.eval s = v) (args : Array Value)
    (hop : oi.op = .call { callee := .value s, args := xs, argTypes := ts }) (hargs : xs.map a.eval = args)
    (h : CallsV P v args w fun e w' => ∃ v, e = .returned v ∧ wpList P ops Q rest (a.put N v) w') : wpList P ops Q (oi :: rest) a w := by
  obtain ⟨f, cap, fn, rfl, hf, hname, hb, hc⟩ := h; unfold wpList; rw [if_pos hw]; refine Or.inl ?_; have he := enters_ hf hname hb (args ++ cap) w; have hrun : (execOp a.eval oi).run P w = .ok (.enter f (args ++ cap)) w := by
    unfold execOp; simp [hop, resolve, Deferred.ofValue, invoke, hv, hargs, he]
  unfold Oper.wp; rw [hrun, Oper.upon_enter]; refine hc.mono fun e w'' hh => ?_
  obtain ⟨v, rfl, hk⟩ := hh; subst hd; exact hk
theorem goesV_ {rest : List Oper} {oi : Oper} {a : Act} {w : World} (N : Option Tmp) (hd : oi.dst = N) (hg : oi.guard = none) {s : Operand} {xs : Array Operand} {ts : Array TypeId} (v : Value) (hv : a.eval s = v) (args : Array Value)
    (hop : oi.op = .call { callee := .value s, args := xs, argTypes := ts }) (hargs : xs.map a.eval = args)
    (h : CallsV P v args w fun e w' => ∃ v, e = .returned v ∧ wpList P ops Q rest (a.put N v) w') : wpList P ops Q (oi :: rest) a w :=
  goesVw_ N hd (by unfold Region.wanted; rw [hg]) v hv args hop hargs h
theorem goesVk_ {oi : Oper} {N : Option Tmp} {a : Act} {w : World} {K : Act → World → Prop} (v : Value) (args : Array Value) (hw : Region.wanted oi (yielded ops a.tmps) = true) (hN : oi.dst = N) {s : Operand} {xs : Array Operand} {ts : Array TypeId}
    (hop : oi.op = .call { callee := .value s, args := xs, argTypes := ts }) (hv : a.eval s = v) (hargs : xs.map a.eval = args)
    (h : CallsV P v args w fun e w' => ∃ v, e = .returned v ∧ K (a.put N v) w') : if Region.wanted oi (yielded ops a.tmps) = true then Oper.wp P oi a w K Q else K (a.put N undef) w := by
  obtain ⟨f, cap, fn, rfl, hf, hname, hb, hc⟩ := h; refine call_ f (args ++ cap) hw hN ?_ hc; have he := enters_ hf hname hb (args ++ cap) w; unfold execOp; simp [hop, resolve, Deferred.ofValue, invoke, hv, hargs, he]
end
theorem law_span {T : Nat} {W W1 : World} (hb : Below W.heap.size W W1) (hT : T ≤ W.heap.size) : ∃ p q, (T ≤ p ∧ p ≤ q) ∧ p = W.heap.size ∧ q = W1.heap.size := ⟨_, _, ⟨hT, hb.size⟩, rfl, rfl⟩
end Go.Proofs.Ytdoflpghemgbdaa.Fn
namespace Go.Proofs.Ytdoflpghemgbdaa.Cap
open Go.RowKit Go.Proofs.YtdoflpghemgbdaaW.PrintWords Go.Proofs.YtdoflpghemgbdaaW.PrintLast Go.Proofs.YtdoflpghemgbdaaW.PrintMore

def Fix (W : World) (L : List (Nat × Nat × Value)) : Prop := ∀ x ∈ L, W.heap[x.1]? = some (.cells #[x.2.2] x.2.1 (0, 0))
def Off (L : List (Nat × Nat × Value)) (k : Nat) : Prop := ∀ x ∈ L, k ≠ x.1
theorem Fix.below {W W1 : World} {L : List (Nat × Nat × Value)} (h : Fix W L) (hb : Below W.heap.size W W1) : Fix W1 L := fun x hx => blk_below (h x hx) hb
theorem Fix.grown {W W1 : World} {L : List (Nat × Nat × Value)} (h : Fix W L) {row : Option Nat} (hg : W.grownBy W1 row) (ho : ∀ k, row = some k → Off L k) : Fix W1 L :=
  fun x hx => blk_grown (h x hx) hg (fun e => ho _ e.symm x hx rfl)
theorem Fix.far {W : World} {L : List (Nat × Nat × Value)} (h : Fix W L) {g : Nat} (ho : Off L g) (v : Value) : Fix (W.setCell ⟨g, 0, none⟩ v) L :=
  fun x hx => blk_far (h x hx) (fun e => ho x hx e.symm) v
theorem Fix.off {W : World} {L : List (Nat × Nat × Value)} (h : Fix W L) {k : Nat} (hk : W.heap.size ≤ k) : Off L k :=
  fun x hx e => by have := blk_lt (h x hx); omega
theorem Fix.cell {W : World} {L : List (Nat × Nat × Value)} (h : Fix W L) {g t : Nat} {v : Value} (hm : (g, t, v) ∈ L) : W.cell? ⟨g, 0, none⟩ = some v := cell_of_one (h _ hm)
theorem one_far {W : World} {g g' t : Nat} {v : Value} (h : W.heap[g]? = some (.cells #[v] t (0, 0))) (hne : g ≠ g') (u : Value) : (W.setCell ⟨g', 0, none⟩ u).heap[g]? = some (.cells #[v] t (0, 0)) := blk_far h hne u

structure QO (eI tI eO tO : Nat) (w : World) (L : List (Nat × Nat × Value)) (gq go : Nat) (W : World) (vq vo : Value) (q : List Int) (out : List (List Int)) : Prop where
  bel : Below w.heap.size w W
  ne : gq ≠ go
  lq : w.heap.size ≤ gq
  lo : w.heap.size ≤ go
  oq : Off L gq
  oo : Off L go
  fix : Fix W L
  cq : W.heap[gq]? = some (.cells #[vq] tI (0, 0))
  co : W.heap[go]? = some (.cells #[vo] tO (0, 0))
  nq : ∀ k, vq.ownBlock = some k → k ≠ gq ∧ k ≠ go ∧ Off L k
  hq : (Kd.int .i64).R eI W w.heap.size (fun k => some k = vq.ownBlock) vq q
  ho : Kd.S (Kd.slice eI (Kd.int .i64)) eO W w.heap.size (fun k => some k ≠ vq.ownBlock ∧ k ≠ gq ∧ k ≠ go ∧ Off L k) vo out
section
variable {eI tI eO tO : Nat} {w : World} {L : List (Nat × Nat × Value)} {gq go : Nat} {W W1 w1 : World} {vq vo v1 vc : Value} {q q1 c : List Int} {out out1 : List (List Int)}
theorem QO.below (h : QO eI tI eO tO w L gq go W vq vo q out) (hb : Below W.heap.size W W1) : QO eI tI eO tO w L gq go W1 vq vo q out :=
  ⟨below_then h.bel h.bel.size hb, h.ne, h.lq, h.lo, h.oq, h.oo, h.fix.below hb, blk_below h.cq hb, blk_below h.co hb, h.nq, Kd.R_below h.hq hb, Kd.S_below h.ho hb⟩
theorem QO.drew (h : QO eI tI eO tO w L gq go W vq vo q out) : QO eI tI eO tO w L gq go W.drew vq vo q out := h.below (below_drew (Below.refl _ _))
theorem QO.no (h : QO eI tI eO tO w L gq go W vq vo q out) {k : Nat} (hk : vo.ownBlock = some k) : some k ≠ vq.ownBlock ∧ k ≠ gq ∧ k ≠ go ∧ Off L k := (Kd.S_R h.ho).1 k hk
theorem QO.cellq (h : QO eI tI eO tO w L gq go W vq vo q out) : W.cell? ⟨gq, 0, none⟩ = some vq := cell_of_one h.cq
theorem QO.cello (h : QO eI tI eO tO w L gq go W vq vo q out) : W.cell? ⟨go, 0, none⟩ = some vo := cell_of_one h.co
theorem QO.setq (h : QO eI tI eO tO w L gq go W vq vo q out) {ok : Nat → Prop} (bb : Below w.heap.size w w1) (hg : W.grownBy w1 vq.ownBlock) (hR : (Kd.int .i64).R eI w1 w.heap.size ok v1 q1) (hat : v1.ownBlock = vq.ownBlock ∨ ∃ b, v1.ownBlock = some b ∧ W.heap.size ≤ b) :
    QO eI tI eO tO w L gq go (w1.setCell ⟨gq, 0, none⟩ v1) v1 vo q1 out ∧ w1.cell? ⟨gq, 0, none⟩ = some vq ∧ w1.frozen? ⟨gq, 0, none⟩ = false := by
  have c1 : w1.heap[gq]? = some (.cells #[vq] tI (0, 0)) := blk_grown h.cq hg (fun e => (h.nq gq e.symm).1 rfl); have c2 : w1.heap[go]? = some (.cells #[vo] tO (0, 0)) := blk_grown h.co hg (fun e => (h.nq go e.symm).2.1 rfl); have hn : ∀ k, v1.ownBlock = some k → k ≠ gq ∧ k ≠ go ∧ Off L k := by
    intro k hk; rcases hat with e | ⟨b, e, hb⟩
    · exact h.nq k (e ▸ hk)
    · have : k = b := by rw [hk] at e; exact Option.some.inj e
      subst this; exact ⟨fun e => by have := blk_lt h.cq; omega, fun e => by have := blk_lt h.co; omega, h.fix.off hb⟩
  refine ⟨⟨bb.setCell h.lq _, h.ne, h.lq, h.lo, h.oq, h.oo, (h.fix.grown hg (fun k hk => (h.nq k hk).2.2)).far h.oq _, one_setCell c1, one_far c2 (fun e => h.ne e.symm) _, hn, ?_, ?_⟩, cell_of_one c1, free_of_one c1⟩
  · exact Kd.R_far (Kd.R_tight rfl hR) (fun k hk => (hn k hk.symm).1) _
  · refine Kd.S_far (Kd.S_mono (Kd.S_grown (Kd.S_bound h.ho) hg (fun k hk => hk.1.1)) ?_) (fun k hk => hk.2.1) _
    rintro k ⟨⟨h1, h2⟩, _, h3, _⟩; refine ⟨?_, h2⟩; rcases hat with e | ⟨b, e, hb⟩
    · rw [e]; exact h1
    · rw [e]; intro e2; have := Option.some.inj e2; omega
theorem QO.seto (h : QO eI tI eO tO w L gq go W vq vo q out) (bb : Below w.heap.size w w1) (hg : W.grownBy w1 vo.ownBlock) (hS : Kd.S (Kd.slice eI (Kd.int .i64)) eO w1 w.heap.size (fun k => some k ≠ vq.ownBlock ∧ k ≠ gq ∧ k ≠ go ∧ Off L k) v1 out1) :
    QO eI tI eO tO w L gq go (w1.setCell ⟨go, 0, none⟩ v1) vq v1 q out1 ∧ w1.cell? ⟨go, 0, none⟩ = some vo ∧ w1.frozen? ⟨go, 0, none⟩ = false := by
  have c1 : w1.heap[gq]? = some (.cells #[vq] tI (0, 0)) := blk_grown h.cq hg (fun e => (h.no e.symm).2.1 rfl); have c2 : w1.heap[go]? = some (.cells #[vo] tO (0, 0)) := blk_grown h.co hg (fun e => (h.no e.symm).2.2.1 rfl); refine ⟨⟨bb.setCell h.lo _, h.ne, h.lq, h.lo, h.oq, h.oo, (h.fix.grown hg (fun k hk => (h.no hk).2.2.2)).far h.oo _, one_far c1 h.ne _, one_setCell c2, h.nq, ?_, ?_⟩, cell_of_one c2, free_of_one c2⟩
  · exact Kd.R_far (Kd.R_grown h.hq hg (fun k hk e => (h.no e.symm).1 hk)) (fun k hk => (h.nq k hk.symm).2.1) _
  · exact Kd.S_far hS (fun k hk => hk.2.2.1) _
theorem QO.fresh (h : QO eI tI eO tO w L gq go W vq vo q out) {k : Nat} (hk : W.heap.size ≤ k) : some k ≠ vq.ownBlock ∧ k ≠ gq ∧ k ≠ go ∧ Off L k :=
  ⟨fun e => by have := Kd.R_lt h.hq k e.symm; omega, fun e => by have := blk_lt h.cq; omega, fun e => by have := blk_lt h.co; omega, h.fix.off hk⟩
theorem QO.rowM (h : QO eI tI eO tO w L gq go W vq vo q out) (hc : (Kd.int .i64).R eI W1 W.heap.size (fun _ => True) vc c) : (Kd.slice eI (Kd.int .i64)).M W1 w.heap.size (fun k => some k = vc.ownBlock) c [vc] :=
  ⟨vc, rfl, Kd.R_lower (Kd.R_tight rfl hc) h.bel.size⟩
theorem QO.rowok (h : QO eI tI eO tO w L gq go W vq vo q out) (hc : (Kd.int .i64).R eI W1 W.heap.size (fun _ => True) vc c) :
    ∀ k, some k = vc.ownBlock → (some k ≠ vq.ownBlock ∧ k ≠ gq ∧ k ≠ go ∧ Off L k) ∧ some k ≠ vo.ownBlock := fun k hk =>
  ⟨h.fresh (Kd.R_base hc k hk.symm), fun e => by have := Kd.R_lt (Kd.S_R h.ho) k e.symm; have := Kd.R_base hc k hk.symm; omega⟩
theorem QO.rowS (h : QO eI tI eO tO w L gq go W vq vo q out) (hb : Below W.heap.size W W1) (hc : (Kd.int .i64).R eI W1 W.heap.size (fun _ => True) vc c) :
    Kd.S (Kd.slice eI (Kd.int .i64)) eO W1 w.heap.size (fun k => (some k ≠ vq.ownBlock ∧ k ≠ gq ∧ k ≠ go ∧ Off L k) ∧ ¬ some k = vc.ownBlock) vo out :=
  Kd.S_mono (Kd.S_below (Kd.S_bound h.ho) hb) (fun k hk => ⟨hk.1, fun e => by have := Kd.R_base hc k e.symm; have := hk.2.2.1; omega⟩)
end
end Go.Proofs.Ytdoflpghemgbdaa.Cap
