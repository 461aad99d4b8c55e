/- For all numbers StraightQueens returns what the reference returns, and shares no memory: no condition. -/
import Derived.Test.YthjejaoadhhpdaaPx10
import Derived.Test.YthjejaoadhhpdaaPx9
import Derived.Test.YthjejaoadhhpdaaQLib3
namespace Go.Proofs.Ythjejaoadhhpdaa.Pure
open Go.RowKit Go.Proofs.Ythjejaoadhhpdaa.P Go.Proofs.YthjejaoadhhpdaaW.PrintWords Go.Proofs.YthjejaoadhhpdaaW.PrintLast
set_option linter.unusedSimpArgs false
set_option linter.unusedVariables false
namespace FnExactStraightQueens
def R (n step : Int) : List Int × Bool := straightR n step
theorem spec_ev (n step : Int) : Ev (fun k => spec_StraightQueens.f k n step) (R n step) := specStraight_ev n step
theorem impl_ev (n step : Int) : Ev (fun k => impl_StraightQueens.f k n step) (R n step) := implStraight_ev n step
theorem R_len (n step : Int) : (R n step).1.length ≤ 64 := Nat.le_trans (straightR_len n step) (by decide)
end FnExactStraightQueens
open FnExactStraightQueens in
theorem FnExactStraightQueens : laws_FnExactStraightQueens.Pure := by
  intro a0 a1 hy0 hy1
  obtain ⟨K1, h1⟩ := ev_get (spec_ev a0 a1)
  obtain ⟨K2, h2⟩ := ev_get (impl_ev a0 a1)
  have hr := R_len a0 a1
  generalize R a0 a1 = R at *
  obtain ⟨K3, h3⟩ := ev_get (eqIntS_ev R.1 R.1 (by omega))
  obtain ⟨K4, h4⟩ := ev_get (markIntS_ev R.1 1 (by omega) (by omega) (by omega))
  obtain ⟨K5, h5⟩ := ev_get (heldIntS_ev R.1.length 1 (by omega) (by omega) (by omega))
  have e0 : ¬ ((1 : Int) + R.1.length < 0) := by omega
  obtain ⟨m, hm⟩ : ∃ m, m = K1 + K2 + K3 + K4 + K5 := ⟨_, rfl⟩
  replace h1 := fun j => h1 (m + j) (by omega)
  replace h2 := fun j => h2 (m + j) (by omega)
  replace h3 := fun j => h3 (m + j) (by omega)
  replace h4 := fun j => h4 (m + j) (by omega)
  replace h5 := fun j => h5 (m + j) (by omega)
  clear hm
  refine ⟨m + 3, ?_⟩
  unfold laws_FnExactStraightQueens.f
  simp only [h1, h2, h3, h4, h5, Option.bind_some, decide_true, if_true, bne_self_eq_false, Bool.false_eq_true, if_false, if_neg e0]
  rw [laws_FnExactStraightQueens.j0]
  simp only [h1, h2, h3, h4, h5, Option.bind_some, decide_true, if_true, bne_self_eq_false, Bool.false_eq_true, if_false, if_neg e0]
  rw [laws_FnExactStraightQueens.j1]
  simp only [h1, h2, h3, h4, h5, Option.bind_some, decide_true, if_true, bne_self_eq_false, Bool.false_eq_true, if_false, if_neg e0]
end Go.Proofs.Ythjejaoadhhpdaa.Pure
