/- For every number FirstQueens returns what the reference returns, in memory of its own: no condition. -/
import Derived.Test.YthjejaoadhhpdaaPx0
import Derived.Test.YthjejaoadhhpdaaPx27
import Derived.Test.YthjejaoadhhpdaaPx28
import Derived.Test.YthjejaoadhhpdaaPx29
import Derived.Test.YthjejaoadhhpdaaQLib7
namespace Go.Proofs.Ythjejaoadhhpdaa.Pure
open Go.RowKit Go.Proofs.Ythjejaoadhhpdaa.P Go.Proofs.YthjejaoadhhpdaaW.PrintWords Go.Proofs.YthjejaoadhhpdaaW.PrintLast
set_option linter.unusedSimpArgs false
set_option linter.unusedVariables false
namespace FnExactFirstQueens
def R (n : Int) : List Int × Bool := if inB n 1 8 = true then (if (allQ n.toNat).length = 0 then ([], false) else ((allQ n.toNat).headD [], true)) else ([], false)
theorem inB_nat {n : Int} (h : inB n 1 8 = true) : ∃ N : Nat, n = N ∧ 1 ≤ N ∧ N ≤ 8 := by
  unfold inB at h
  have := of_decide_eq_true h
  exact ⟨n.toNat, by omega, by omega, by omega⟩
def RA (n : Int) : List (List Int) × Bool := if inB n 1 8 = true then (allQ n.toNat, true) else ([], false)
theorem specA_ev (n : Int) : Ev (fun k => spec_AllQueens.f k n) (RA n) := by
  unfold RA
  by_cases h : inB n 1 8 = true
  · obtain ⟨N, rfl, h1, h8⟩ := inB_nat h
    obtain ⟨K, hK⟩ := ev_get (quAllQ_ev N h8)
    refine ⟨K, fun k hk => ?_⟩
    simp only [spec_AllQueens.f, quSide_eq, Option.bind_some, if_pos h, hK k hk, Int.toNat_natCast]
  · refine ⟨0, fun k hk => ?_⟩
    simp only [spec_AllQueens.f, quSide_eq, Option.bind_some, if_neg h]
theorem implA_ev (n : Int) : Ev (fun k => impl_AllQueens.f k n) (RA n) := by
  unfold RA
  by_cases h : inB n 1 8 = true
  · obtain ⟨N, rfl, h1, h8⟩ := inB_nat h
    obtain ⟨K, hK⟩ := ev_get (grownQ_ev N h8)
    refine ⟨K, fun k hk => ?_⟩
    simp only [impl_AllQueens.f, isMany_eq, Option.bind_some, if_pos h, hK k hk, Int.toNat_natCast]
  · refine ⟨0, fun k hk => ?_⟩
    simp only [impl_AllQueens.f, isMany_eq, Option.bind_some, if_neg h]
theorem RA_small (n : Int) : (RA n).1.length ≤ 16777216 ∧ ∀ l ∈ (RA n).1, l.length ≤ 8 := by
  unfold RA
  split
  · rename_i h
    obtain ⟨N, rfl, h1, h8⟩ := inB_nat h
    refine ⟨allQ_len _ (by omega), fun l hl => ?_⟩
    have := (allQ_row hl).2
    omega
  · simp
theorem rd_head (l : List (List Int)) : rd_L1 l 0 = l.headD [] := by cases l <;> rfl
theorem spec_ev (n : Int) : Ev (fun k => spec_FirstQueens.f k n) (R n) := by
  unfold R
  by_cases h : inB n 1 8 = true
  · obtain ⟨N, rfl, h1, h8⟩ := inB_nat h
    obtain ⟨K, hK⟩ := ev_get (quAllQ_ev N h8)
    refine ⟨K, fun k hk => ?_⟩
    simp only [spec_FirstQueens.f, quSide_eq, Option.bind_some, if_pos h, hK k hk, Int.toNat_natCast]
    by_cases h0 : (allQ N).length = 0
    · rw [if_pos h0, if_pos (by omega)]
    · rw [if_neg h0, if_neg (by omega), if_pos (by omega), rd_head]
  · refine ⟨0, fun k hk => ?_⟩
    simp only [spec_FirstQueens.f, quSide_eq, Option.bind_some, if_neg h]
theorem impl_ev (n : Int) : Ev (fun k => impl_FirstQueens.f k n) (R n) := by
  obtain ⟨K, hK⟩ := ev_get (implA_ev n)
  refine ⟨K, fun k hk => ?_⟩
  simp only [impl_FirstQueens.f, hK k hk, Option.bind_some]
  unfold RA R
  by_cases h : inB n 1 8 = true
  · simp only [if_pos h]
    by_cases h0 : (allQ n.toNat).length = 0
    · rw [if_pos h0, if_pos trivial, if_pos (by omega)]
    · rw [if_neg h0, if_pos trivial, if_neg (by omega), if_pos (by omega), rd_head]
  · simp only [if_neg h]
    rfl
theorem R_len (n : Int) : (R n).1.length ≤ 8 := by
  unfold R
  split
  · rename_i h
    obtain ⟨N, rfl, h1, h8⟩ := inB_nat h
    split
    · simp
    · show ((allQ (Int.toNat (N : Int))).headD []).length ≤ 8
      rw [Int.toNat_natCast]
      cases hq : allQ N with
      | nil => simp
      | cons x l =>
        have := (allQ_row (N := N) (x := x) (by rw [hq]; simp)).2
        show x.length ≤ 8
        omega
  · simp
end FnExactFirstQueens
open FnExactFirstQueens in
theorem FnExactFirstQueens : laws_FnExactFirstQueens.Pure := by
  intro a0 hy0
  obtain ⟨K1, h1⟩ := ev_get (spec_ev a0)
  obtain ⟨K2, h2⟩ := ev_get (impl_ev a0)
  have hr := R_len a0
  generalize R a0 = R at *
  obtain ⟨K3, h3⟩ := ev_get (eqIntS_ev R.1 R.1 (by omega))
  obtain ⟨K4, h4⟩ := ev_get (markIntS_ev R.1 1 (by omega) (by omega) (by omega))
  obtain ⟨K5, h5⟩ := ev_get (heldIntS_ev R.1.length 1 (by omega) (by omega) (by omega))
  have e0 : ¬ ((1 : Int) + R.1.length < 0) := by omega
  obtain ⟨m, hm⟩ : ∃ m, m = K1 + K2 + K3 + K4 + K5 := ⟨_, rfl⟩
  replace h1 := fun j => h1 (m + j) (by omega)
  replace h2 := fun j => h2 (m + j) (by omega)
  replace h3 := fun j => h3 (m + j) (by omega)
  replace h4 := fun j => h4 (m + j) (by omega)
  replace h5 := fun j => h5 (m + j) (by omega)
  clear hm
  refine ⟨m + 3, ?_⟩
  unfold laws_FnExactFirstQueens.f
  simp only [h1, h2, h3, h4, h5, Option.bind_some, decide_true, if_true, bne_self_eq_false, Bool.false_eq_true, if_false, if_neg e0]
  rw [laws_FnExactFirstQueens.j0]
  simp only [h1, h2, h3, h4, h5, Option.bind_some, decide_true, if_true, bne_self_eq_false, Bool.false_eq_true, if_false, if_neg e0]
  rw [laws_FnExactFirstQueens.j1]
  simp only [h1, h2, h3, h4, h5, Option.bind_some, decide_true, if_true, bne_self_eq_false, Bool.false_eq_true, if_false, if_neg e0]
end Go.Proofs.Ythjejaoadhhpdaa.Pure
