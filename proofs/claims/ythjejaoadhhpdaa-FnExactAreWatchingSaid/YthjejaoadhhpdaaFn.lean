import Derived.Test.YthjejaoadhhpdaaWMore
import Derived.Test.YthjejaoadhhpdaaProg
namespace Go.Proofs.Ythjejaoadhhpdaa.Fn
open Go.RowKit Go.Proofs.YthjejaoadhhpdaaW.PrintWords Go.Proofs.YthjejaoadhhpdaaW.PrintLast Go.Proofs.YthjejaoadhhpdaaW.PrintMore
set_option linter.unusedVariables false

/-- A function value that has captured some variables is called. -/
def CallsV (P : Program) (v : Value) (args : Array Value) (w : World) (Q : Ending → World → Prop) : Prop :=
  ∃ f cap fn, v = .func (.func f) #[] cap ∧ P.funcs[f]? = some fn ∧ (fn.name == "runtime.NumGoroutine") = false ∧ fn.body.isSome = true ∧ Calls P f (args ++ cap) w Q
theorem CallsV.mono {P : Program} {v : Value} {args : Array Value} {w : World} {Q Q' : Ending → World → Prop} (h : CallsV P v args w Q) (k : ∀ e w', Q e w' → Q' e w') : CallsV P v args w Q' := by
  obtain ⟨f, cap, fn, h1, h2, h3, h4, h5⟩ := h
  exact ⟨f, cap, fn, h1, h2, h3, h4, h5.mono k⟩
theorem callsV_of_args {P : Program} {v : Value} {args args' : Array Value} {w : World} {Q : Ending → World → Prop} (h : args = args') (hc : CallsV P v args' w Q) : CallsV P v args w Q := h ▸ hc
/-- What is known of numbers and lists that were handed in. -/
def okI (x : Int) : Prop := (Lit.int .i64 x).wf = true
def okL {α : Type} (ok : α → Prop) (l : List α) : Prop := l.length ≤ maxLen ∧ ∀ x ∈ l, ok x
section
variable {P : Program} {ops : Array Oper} {Q : Exit → Act → World → Prop}
/-- The operation is a call of the value in this place. -/
theorem gate_value {rest : List Oper} {o : Oper} {a : Act} {W : World} {s : Nat} {xs : Array Operand} {ts : Array TypeId} (_ho : o.op = .call { callee := .value (.tmp s), args := xs, argTypes := ts }) (h : wpList P ops Q (o :: rest) a W) : wpList P ops Q (o :: rest) a W := h
theorem goesVw_ {rest : List Oper} {oi : Oper} {a : Act} {w : World} (N : Option Tmp) (hd : oi.dst = N) (hw : Region.wanted oi (yielded ops a.tmps) = true) {s : Operand} {xs : Array Operand} {ts : Array TypeId} (v : Value) (hv : a.eval s = v) (args : Array Value)
    (hop : oi.op = .call { callee := .value s, args := xs, argTypes := ts }) (hargs : xs.map a.eval = args)
    (h : CallsV P v args w fun e w' => ∃ v, e = .returned v ∧ wpList P ops Q rest (a.put N v) w') : wpList P ops Q (oi :: rest) a w := by
  obtain ⟨f, cap, fn, rfl, hf, hname, hb, hc⟩ := h
  unfold wpList
  rw [if_pos hw]
  refine Or.inl ?_
  have he := enters_ hf hname hb (args ++ cap) w
  have hrun : (execOp a.eval oi).run P w = .ok (.enter f (args ++ cap)) w := by
    unfold execOp
    simp [hop, resolve, Deferred.ofValue, invoke, hv, hargs, he]
  unfold Oper.wp
  rw [hrun, Oper.upon_enter]
  refine hc.mono fun e w'' hh => ?_
  obtain ⟨v, rfl, hk⟩ := hh
  subst hd
  exact hk
theorem goesV_ {rest : List Oper} {oi : Oper} {a : Act} {w : World} (N : Option Tmp) (hd : oi.dst = N) (hg : oi.guard = none) {s : Operand} {xs : Array Operand} {ts : Array TypeId} (v : Value) (hv : a.eval s = v) (args : Array Value)
    (hop : oi.op = .call { callee := .value s, args := xs, argTypes := ts }) (hargs : xs.map a.eval = args)
    (h : CallsV P v args w fun e w' => ∃ v, e = .returned v ∧ wpList P ops Q rest (a.put N v) w') : wpList P ops Q (oi :: rest) a w :=
  goesVw_ N hd (by unfold Region.wanted; rw [hg]) v hv args hop hargs h
end
/-- The blocks of what a call has made: all between the sizes ahead of it and behind it. -/
theorem law_span {T : Nat} {W W1 : World} (hb : Below W.heap.size W W1) (hT : T ≤ W.heap.size) : ∃ p q, (T ≤ p ∧ p ≤ q) ∧ p = W.heap.size ∧ q = W1.heap.size := ⟨_, _, ⟨hT, hb.size⟩, rfl, rfl⟩
end Go.Proofs.Ythjejaoadhhpdaa.Fn
