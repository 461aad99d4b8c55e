import Derived.Test.YtnpacpdpgngdpaaFn
import Derived.Deep.Slices
import Derived.ChangeArms
import Derived.ChangeSame
import Derived.ProofKit
import Derived.ShutString
namespace Go.Proofs.Ytnpacpdpgngdpaa.Fn
open Go.RowKit Go.ChangeShapes Go.WideShapes Go.Deep Go.Proofs.YtnpacpdpgngdpaaW.PrintWords Go.Proofs.YtnpacpdpgngdpaaW.PrintLast Go.Proofs.YtnpacpdpgngdpaaW.PrintMore
set_option linter.unusedVariables false

def Opens {α : Type} {H : Type} (enc : TypeId × Value → H) (P : Program) (W : World) (d : Kd α) (ok : α → Prop) (t : TypeId) : Prop :=
  ∀ (spare : Nat → Bool) (held : Bool) (fuel : Nat) (v : Value) (y : DataW H × List MemPlace), DataW.trod enc P W 0 spare held fuel t [v] = some y → ∃ x, d.K W x [v] ∧ ok x
theorem opens_int {H : Type} {enc : TypeId × Value → H} {P : Program} {W : World} {t : TypeId} {k : IntKind} (hu : P.underlying t = some (.int k)) : Opens enc P W (Kd.int k) (fun x => (Lit.int k x).wf = true) t := by
  intro spare held fuel v y h
  obtain ⟨n, hn, _, hw⟩ := DataW.trod_int hu h
  exact ⟨n, hn, hw⟩
theorem opens_slice {α : Type} {H : Type} {enc : TypeId × Value → H} {P : Program} {W : World} {t e : TypeId} {d : Kd α} {ok : α → Prop} (z : α) (hu : P.underlying t = some (.slice e)) (hc : P.cellsOf e = 1) (hsz : d.sz = 1) (hd : Opens enc P W d ok e) :
    Opens enc P W (Kd.slice e d) (fun l => l.length ≤ maxLen ∧ ∀ x ∈ l, ok x) t := by
  intro spare held fuel v y h
  rcases open_slice1 hu hc h with ⟨hcs, _⟩ | ⟨a, len, cap, m, n, V, D, Pl, hcs, _, hl, hm, hmm, _, hel⟩
  · obtain rfl : v = .slice none 0 0 := by simpa using hcs
    exact ⟨[], ⟨none, 0, rfl, Nat.le_refl _, Kd.C_nil _ _⟩, by simp [maxLen], by simp⟩
  · obtain rfl : v = .slice (some a) len cap := by simpa using hcs
    have hlm : len ≤ m := by rw [hmm]; split <;> omega
    have hL : ∀ i, ∃ x, i < len → d.K W x [V i] ∧ ok x := by
      intro i
      by_cases hi : i < len
      · obtain ⟨_, h2⟩ := hel i (by omega)
        obtain ⟨x, hx⟩ := hd spare held n (V i) _ h2
        exact ⟨x, fun _ => hx⟩
      · exact ⟨z, fun h => absurd h hi⟩
    obtain ⟨L, hL⟩ : ∃ L : Nat → α, ∀ i, i < len → d.K W (L i) [V i] ∧ ok (L i) := ⟨fun i => Classical.choose (hL i), fun i hi => Classical.choose_spec (hL i) hi⟩
    have hlen : ((List.range len).map L).length = len := by simp
    refine ⟨(List.range len).map L, ⟨some a, cap, by rw [hlen], by rw [hlen]; exact hl, ?_⟩, by rw [hlen]; omega, ?_⟩
    · rw [hlen]
      refine ⟨hlen, by simp only [maxLen] at hm; omega, fun hp => ⟨a, rfl, fun j p hj => ?_⟩⟩
      rw [List.getElem?_map] at hj
      obtain ⟨j', hj', rfl⟩ := Option.map_eq_some_iff.1 hj
      obtain ⟨hlt, he⟩ := List.getElem?_eq_some_iff.1 hj'
      rw [List.getElem_range] at he
      subst he
      rw [List.length_range] at hlt
      refine ⟨[V j], by rw [hsz]; rfl, (hL j hlt).1, fun i u hu => ?_⟩
      obtain ⟨h1, _⟩ := hel j (by omega)
      cases i with
      | zero =>
        obtain rfl : V j = u := by simpa using hu
        rw [hsz, Nat.mul_one, Nat.add_zero]
        exact h1
      | succ i => simp at hu
    · intro x hx
      obtain ⟨i, hi, rfl⟩ := List.mem_map.1 hx
      exact (hL i (List.mem_range.1 hi)).2
/-- A slice among the arguments. -/
theorem open_arg_slice {α : Type} {H : Type} {enc : TypeId × Value → H} {P : Program} {W : World} {t e : TypeId} {d : Kd α} {ok : List α → Prop} {v : Value} {x : DataW H} {p : List MemPlace} {spare : Nat → Bool} {held : Bool}
    (hd : Opens enc P W (Kd.slice e d) ok t) (hone : v.cells = #[v]) (h : DataW.Trod enc P W 0 spare held t v x p) :
    ∃ (A : Option Addr) (l : List α) (c : Nat), v = .slice A l.length c ∧ l.length ≤ c ∧ d.C W A l.length l ∧ ok l := by
  obtain ⟨fuel, hf⟩ := h
  rw [hone] at hf
  obtain ⟨l, ⟨A, c, hv, hc, hC⟩, hok⟩ := hd spare held fuel v _ (by simpa using hf)
  exact ⟨A, l, c, by simpa using hv, hc, hC, hok⟩
end Go.Proofs.Ytnpacpdpgngdpaa.Fn
