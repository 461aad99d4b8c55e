/- For every list of numbers LeastQueens returns what the reference returns, leaves its argument as it was, and shares no memory: no condition but that the list can be read. -/
import Derived.Test.YthjejaoadhhpdaaPx19
import Derived.Test.YthjejaoadhhpdaaPx21
import Derived.Test.YthjejaoadhhpdaaPx22
import Derived.Test.YthjejaoadhhpdaaQLib6
namespace Go.Proofs.Ythjejaoadhhpdaa.Pure
open Go.RowKit Go.Proofs.Ythjejaoadhhpdaa.P Go.Proofs.YthjejaoadhhpdaaW.PrintWords Go.Proofs.YthjejaoadhhpdaaW.PrintLast
set_option linter.unusedSimpArgs false
set_option linter.unusedVariables false
namespace FnExactLeastQueens
def R (q : List Int) : List Int × Bool := if goodB q = true then (leastL q, true) else ([], false)
theorem spec_ev (q : List Int) (hb : q.length ≤ 1152921504606846976) : Ev (fun k => spec_LeastQueens.f k q) (R q) := by
  obtain ⟨K1, h1⟩ := ev_get (quGood_ev q hb)
  unfold R
  by_cases h : goodB q = true
  · obtain ⟨K2, h2⟩ := ev_get (quLeast_ev q (good_rng h))
    refine ⟨K1 + K2, fun k hk => ?_⟩
    simp only [spec_LeastQueens.f, h1 k (by omega), h2 k (by omega), Option.bind_some, if_pos h]
  · refine ⟨K1, fun k hk => ?_⟩
    simp only [spec_LeastQueens.f, h1 k (by omega), Option.bind_some, if_neg h]
theorem impl_ev (q : List Int) (hb : q.length ≤ 1152921504606846976) : Ev (fun k => impl_LeastQueens.f k q) (R q) := by
  obtain ⟨K1, h1⟩ := ev_get (isList_ev q hb)
  unfold R
  by_cases h : goodB q = true
  · obtain ⟨K2, h2⟩ := ev_get (least_ev q (good_rng h))
    refine ⟨K1 + K2, fun k hk => ?_⟩
    simp only [impl_LeastQueens.f, h1 k (by omega), h2 k (by omega), Option.bind_some, if_pos h]
  · refine ⟨K1, fun k hk => ?_⟩
    simp only [impl_LeastQueens.f, h1 k (by omega), Option.bind_some, if_neg h]
theorem R_len (q : List Int) : (R q).1.length ≤ 8 := by
  unfold R
  split
  · rename_i h; have := good_len h; have h2 : (leastL q).length = q.length := leastGo_length 4 q q rfl; show (leastL q).length ≤ 8; omega
  · simp
end FnExactLeastQueens
open FnExactLeastQueens in
theorem FnExactLeastQueens : laws_FnExactLeastQueens.Pure := by
  intro l0 hy0 hy1 hy2
  by_cases hbig : (l0.length : Int) > 1048576
  · exact ⟨0, by unfold laws_FnExactLeastQueens.f; rw [if_pos hbig]⟩
  obtain ⟨K1, h1⟩ := ev_get (spec_ev l0 (by omega))
  obtain ⟨K2, h2⟩ := ev_get (impl_ev l0 (by omega))
  have hr := R_len l0
  generalize R l0 = R at *
  obtain ⟨K3, h3⟩ := ev_get (eqIntS_ev R.1 R.1 (by omega))
  obtain ⟨K4, h4⟩ := ev_get (markIntS_ev R.1 1 (by omega) (by omega) (by omega))
  obtain ⟨K5, h5⟩ := ev_get (heldIntS_ev R.1.length 1 (by omega) (by omega) (by omega))
  obtain ⟨K6, h6⟩ := ev_get (toIntS_ev l0 (by omega))
  obtain ⟨K7, h7⟩ := ev_get (eqIntS_ev l0 l0 (by omega))
  obtain ⟨K8, h8⟩ := ev_get (markIntS_ev l0 1 (by omega) (by omega) (by omega))
  have e0 : ¬ ((1 : Int) + R.1.length < 0) := by omega
  have e1 : ¬ ((1 : Int) + l0.length < 0) := by omega
  obtain ⟨m, hm⟩ : ∃ m, m = K1 + K2 + K3 + K4 + K5 + K6 + K7 + K8 := ⟨_, rfl⟩
  replace h1 := fun j => h1 (m + j) (by omega)
  replace h2 := fun j => h2 (m + j) (by omega)
  replace h3 := fun j => h3 (m + j) (by omega)
  replace h4 := fun j => h4 (m + j) (by omega)
  replace h5 := fun j => h5 (m + j) (by omega)
  replace h6 := fun j => h6 (m + j) (by omega)
  replace h7 := fun j => h7 (m + j) (by omega)
  replace h8 := fun j => h8 (m + j) (by omega)
  clear hm
  refine ⟨m + 4, ?_⟩
  unfold laws_FnExactLeastQueens.f
  rw [if_neg hbig]
  simp only [h1, h2, h3, h4, h5, h6, h7, h8, Option.bind_some, decide_true, if_true, bne_self_eq_false, Bool.false_eq_true, if_false, if_neg e0, if_neg e1]
  rw [laws_FnExactLeastQueens.j0]
  simp only [h1, h2, h3, h4, h5, h6, h7, h8, Option.bind_some, decide_true, if_true, bne_self_eq_false, Bool.false_eq_true, if_false, if_neg e0, if_neg e1]
  rw [laws_FnExactLeastQueens.j1]
  simp only [h1, h2, h3, h4, h5, h6, h7, h8, Option.bind_some, decide_true, if_true, bne_self_eq_false, Bool.false_eq_true, if_false, if_neg e0, if_neg e1]
  rw [laws_FnExactLeastQueens.j2]
  simp only [h1, h2, h3, h4, h5, h6, h7, h8, Option.bind_some, decide_true, if_true, bne_self_eq_false, Bool.false_eq_true, if_false, if_neg e0, if_neg e1]
end Go.Proofs.Ythjejaoadhhpdaa.Pure
