/- For every number CountQueens returns what the reference returns: no condition. -/
import Derived.Test.YthjejaoadhhpdaaPx26
import Derived.Test.YthjejaoadhhpdaaPx27
import Derived.Test.YthjejaoadhhpdaaPx28
import Derived.Test.YthjejaoadhhpdaaQLib7
namespace Go.Proofs.Ythjejaoadhhpdaa.Pure
open Go.RowKit Go.Proofs.Ythjejaoadhhpdaa.P Go.Proofs.YthjejaoadhhpdaaW.PrintWords Go.Proofs.YthjejaoadhhpdaaW.PrintLast
set_option linter.unusedSimpArgs false
set_option linter.unusedVariables false
namespace FnExactCountQueens
def R (n : Int) : Int × Bool := if inB n 1 8 = true then (((allQ n.toNat).length : Int), true) else (0, false)
theorem inB_nat {n : Int} (h : inB n 1 8 = true) : ∃ N : Nat, n = N ∧ 1 ≤ N ∧ N ≤ 8 := by
  unfold inB at h
  have := of_decide_eq_true h
  exact ⟨n.toNat, by omega, by omega, by omega⟩
def RA (n : Int) : List (List Int) × Bool := if inB n 1 8 = true then (allQ n.toNat, true) else ([], false)
theorem specA_ev (n : Int) : Ev (fun k => spec_AllQueens.f k n) (RA n) := by
  unfold RA
  by_cases h : inB n 1 8 = true
  · obtain ⟨N, rfl, h1, h8⟩ := inB_nat h
    obtain ⟨K, hK⟩ := ev_get (quAllQ_ev N h8)
    refine ⟨K, fun k hk => ?_⟩
    simp only [spec_AllQueens.f, quSide_eq, Option.bind_some, if_pos h, hK k hk, Int.toNat_natCast]
  · refine ⟨0, fun k hk => ?_⟩
    simp only [spec_AllQueens.f, quSide_eq, Option.bind_some, if_neg h]
theorem implA_ev (n : Int) : Ev (fun k => impl_AllQueens.f k n) (RA n) := by
  unfold RA
  by_cases h : inB n 1 8 = true
  · obtain ⟨N, rfl, h1, h8⟩ := inB_nat h
    obtain ⟨K, hK⟩ := ev_get (grownQ_ev N h8)
    refine ⟨K, fun k hk => ?_⟩
    simp only [impl_AllQueens.f, isMany_eq, Option.bind_some, if_pos h, hK k hk, Int.toNat_natCast]
  · refine ⟨0, fun k hk => ?_⟩
    simp only [impl_AllQueens.f, isMany_eq, Option.bind_some, if_neg h]
theorem RA_small (n : Int) : (RA n).1.length ≤ 16777216 ∧ ∀ l ∈ (RA n).1, l.length ≤ 8 := by
  unfold RA
  split
  · rename_i h
    obtain ⟨N, rfl, h1, h8⟩ := inB_nat h
    refine ⟨allQ_len _ (by omega), fun l hl => ?_⟩
    have := (allQ_row hl).2
    omega
  · simp
theorem spec_ev (n : Int) : Ev (fun k => spec_CountQueens.f k n) (R n) := by
  unfold R
  by_cases h : inB n 1 8 = true
  · obtain ⟨N, rfl, h1, h8⟩ := inB_nat h
    obtain ⟨K, hK⟩ := ev_get (quAllQ_ev N h8)
    refine ⟨K, fun k hk => ?_⟩
    simp only [spec_CountQueens.f, quSide_eq, Option.bind_some, if_pos h, hK k hk, Int.toNat_natCast]
  · refine ⟨0, fun k hk => ?_⟩
    simp only [spec_CountQueens.f, quSide_eq, Option.bind_some, if_neg h]
theorem impl_ev (n : Int) : Ev (fun k => impl_CountQueens.f k n) (R n) := by
  obtain ⟨K, hK⟩ := ev_get (implA_ev n)
  refine ⟨K, fun k hk => ?_⟩
  simp only [impl_CountQueens.f, hK k hk, Option.bind_some]
  unfold RA R
  split <;> rfl
end FnExactCountQueens
open FnExactCountQueens in
theorem FnExactCountQueens : laws_FnExactCountQueens.Pure := by
  intro a0 hy0
  obtain ⟨K1, h1⟩ := ev_get (spec_ev a0)
  obtain ⟨K2, h2⟩ := ev_get (impl_ev a0)
  generalize R a0 = R at *
  obtain ⟨m, hm⟩ : ∃ m, m = K1 + K2 := ⟨_, rfl⟩
  replace h1 := fun j => h1 (m + j) (by omega)
  replace h2 := fun j => h2 (m + j) (by omega)
  clear hm
  refine ⟨m + 1, ?_⟩
  unfold laws_FnExactCountQueens.f
  simp only [h1, h2, Option.bind_some, decide_true, if_true, bne_self_eq_false, Bool.false_eq_true, if_false]
end Go.Proofs.Ythjejaoadhhpdaa.Pure
