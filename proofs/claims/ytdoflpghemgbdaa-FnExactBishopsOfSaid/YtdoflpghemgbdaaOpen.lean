import Derived.Test.YtdoflpghemgbdaaFn
import Derived.Deep.Slices
import Derived.ChangeArms
import Derived.ChangeSame
import Derived.ProofKit
import Derived.ShutString
import Derived.Lib.SmallJoins
import Derived.Deep.Strs
namespace Go.Proofs.Ytdoflpghemgbdaa.Fn
open Go.RowKit Go.ChangeShapes Go.WideShapes Go.Deep Go.Proofs.YtdoflpghemgbdaaW.PrintWords Go.Proofs.YtdoflpghemgbdaaW.PrintLast Go.Proofs.YtdoflpghemgbdaaW.PrintMore
set_option linter.unusedVariables false

def Opens {α : Type} {H : Type} (enc : TypeId × Value → H) (P : Program) (W : World) (d : Kd α) (ok : α → Prop) (t : TypeId) : Prop :=
  ∀ (spare : Nat → Bool) (held : Bool) (fuel : Nat) (v : Value) (y : DataW H × List MemPlace), DataW.trod enc P W 0 spare held fuel t [v] = some y → ∃ x, d.K W x [v] ∧ ok x
theorem opens_int {H : Type} {enc : TypeId × Value → H} {P : Program} {W : World} {t : TypeId} {k : IntKind} (hu : P.underlying t = some (.int k)) : Opens enc P W (Kd.int k) (fun x => (Lit.int k x).wf = true) t := by
  intro spare held fuel v y h
  obtain ⟨n, hn, _, hw⟩ := DataW.trod_int hu h
  exact ⟨n, hn, hw⟩
theorem opens_slice {α : Type} {H : Type} {enc : TypeId × Value → H} {P : Program} {W : World} {t e : TypeId} {d : Kd α} {ok : α → Prop} (z : α) (hu : P.underlying t = some (.slice e)) (hc : P.cellsOf e = 1) (hsz : d.sz = 1) (hd : Opens enc P W d ok e) :
    Opens enc P W (Kd.slice e d) (fun l => l.length ≤ maxLen ∧ ∀ x ∈ l, ok x) t := by
  intro spare held fuel v y h
  rcases open_slice1 hu hc h with ⟨hcs, _⟩ | ⟨a, len, cap, m, n, V, D, Pl, hcs, _, hl, hm, hmm, _, hel⟩
  · obtain rfl : v = .slice none 0 0 := by simpa using hcs
    exact ⟨[], ⟨none, 0, rfl, Nat.le_refl _, Kd.C_nil _ _⟩, by simp [maxLen], by simp⟩
  · obtain rfl : v = .slice (some a) len cap := by simpa using hcs
    have hlm : len ≤ m := by rw [hmm]; split <;> omega
    have hL : ∀ i, ∃ x, i < len → d.K W x [V i] ∧ ok x := by
      intro i
      by_cases hi : i < len
      · obtain ⟨_, h2⟩ := hel i (by omega)
        obtain ⟨x, hx⟩ := hd spare held n (V i) _ h2
        exact ⟨x, fun _ => hx⟩
      · exact ⟨z, fun h => absurd h hi⟩
    obtain ⟨L, hL⟩ : ∃ L : Nat → α, ∀ i, i < len → d.K W (L i) [V i] ∧ ok (L i) := ⟨fun i => Classical.choose (hL i), fun i hi => Classical.choose_spec (hL i) hi⟩
    have hlen : ((List.range len).map L).length = len := by simp
    refine ⟨(List.range len).map L, ⟨some a, cap, by rw [hlen], by rw [hlen]; exact hl, ?_⟩, by rw [hlen]; omega, ?_⟩
    · rw [hlen]
      refine ⟨hlen, by simp only [maxLen] at hm; omega, fun hp => ⟨a, rfl, fun j p hj => ?_⟩⟩
      rw [List.getElem?_map] at hj
      obtain ⟨j', hj', rfl⟩ := Option.map_eq_some_iff.1 hj
      obtain ⟨hlt, he⟩ := List.getElem?_eq_some_iff.1 hj'
      rw [List.getElem_range] at he
      subst he
      rw [List.length_range] at hlt
      refine ⟨[V j], by rw [hsz]; rfl, (hL j hlt).1, fun i u hu => ?_⟩
      obtain ⟨h1, _⟩ := hel j (by omega)
      cases i with
      | zero =>
        obtain rfl : V j = u := by simpa using hu
        rw [hsz, Nat.mul_one, Nat.add_zero]
        exact h1
      | succ i => simp at hu
    · intro x hx
      obtain ⟨i, hi, rfl⟩ := List.mem_map.1 hx
      exact (hL i (List.mem_range.1 hi)).2
/-- A slice among the arguments. -/
theorem open_arg_slice {α : Type} {H : Type} {enc : TypeId × Value → H} {P : Program} {W : World} {t e : TypeId} {d : Kd α} {ok : List α → Prop} {v : Value} {x : DataW H} {p : List MemPlace} {spare : Nat → Bool} {held : Bool}
    (hd : Opens enc P W (Kd.slice e d) ok t) (hone : v.cells = #[v]) (h : DataW.Trod enc P W 0 spare held t v x p) :
    ∃ (A : Option Addr) (l : List α) (c : Nat), v = .slice A l.length c ∧ l.length ≤ c ∧ d.C W A l.length l ∧ ok l := by
  obtain ⟨fuel, hf⟩ := h
  rw [hone] at hf
  obtain ⟨l, ⟨A, c, hv, hc, hC⟩, hok⟩ := hd spare held fuel v _ (by simpa using hf)
  exact ⟨A, l, c, by simpa using hv, hc, hC, hok⟩
/-- A struct of a struct of three cells and of one cell more, by value. -/
theorem open_agg31 {H : Type} {enc : TypeId × Value → H} {P : Program} {w : World} {base : Nat} {spare : Nat → Bool} {held : Bool} {r : Reach} {b0 : Nat} {t : TypeId} {f0 f1 g0 g1 g2 : Field} {v : Value} {d : DataW H} {p : List MemPlace} (hs : P.underlying t = some (.struct #[f0, f1])) (o0 : f0.offset = 0) (k0 : P.cellsOf f0.type = 3) (o1 : f1.offset = 3) (k1 : P.cellsOf f1.type = 1) (hC : P.cellsOf t = 4)
    (hs0 : P.underlying f0.type = some (.struct #[g0, g1, g2])) (hone : oneCellFields P #[g0, g1, g2] = true) (hv : Value.okWide P w r b0 t v) (h : DataW.Trod enc P w base spare held t v d p) :
    ∃ (v0 v1 v2 v3 : Value) (y0 y1 y2 y3 : DataW H × List MemPlace) (n m : Nat), v = .agg #[v0, v1, v2, v3] ∧
      DataW.trod enc P w base spare held n g0.type [v0] = some y0 ∧ DataW.trod enc P w base spare held n g1.type [v1] = some y1 ∧ DataW.trod enc P w base spare held n g2.type [v2] = some y2 ∧ DataW.trod enc P w base spare held m f1.type [v3] = some y3 := by
  obtain ⟨cs, rfl, hsz⟩ := okWide_struct hs hv
  obtain ⟨c0, c1, c2, c3, rfl⟩ := Go.Joins.array4 (hsz.trans hC)
  obtain ⟨fuel, hf⟩ := h
  obtain ⟨y, y3, m, _, _, h0, h3⟩ := trod_struct2 hs hf
  rw [o0, k0] at h0
  rw [o1, k1] at h3
  obtain ⟨y0, y1, y2, n, _, _, h0', h1', h2'⟩ := trod_struct3 hs0 h0
  obtain ⟨q0, r0⟩ := hone_of hone 0 g0 rfl
  obtain ⟨q1, r1⟩ := hone_of hone 1 g1 rfl
  obtain ⟨q2, r2⟩ := hone_of hone 2 g2 rfl
  exact ⟨c0, c1, c2, c3, y0, y1, y2, y3, n, m, rfl, by simpa [Value.cells, q0, r0] using h0', by simpa [Value.cells, q1, r1] using h1', by simpa [Value.cells, q2, r2] using h2', by simpa [Value.cells] using h3⟩
end Go.Proofs.Ytdoflpghemgbdaa.Fn
