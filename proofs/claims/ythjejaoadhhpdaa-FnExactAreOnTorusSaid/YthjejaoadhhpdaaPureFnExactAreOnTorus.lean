/- For every list of numbers AreOnTorus returns what the reference returns, and leaves its argument as it was: no condition but that the list can be read. -/
import Derived.Test.YthjejaoadhhpdaaPx24
import Derived.Test.YthjejaoadhhpdaaPx25
import Derived.Test.YthjejaoadhhpdaaPx26
import Derived.Test.YthjejaoadhhpdaaQLib4
namespace Go.Proofs.Ythjejaoadhhpdaa.Pure
open Go.RowKit Go.Proofs.Ythjejaoadhhpdaa.P Go.Proofs.YthjejaoadhhpdaaW.PrintWords Go.Proofs.YthjejaoadhhpdaaW.PrintLast
set_option linter.unusedSimpArgs false
set_option linter.unusedVariables false
namespace FnExactAreOnTorus
noncomputable def R (q : List Int) : Bool × Bool := if goodB q = true then (torB q, true) else (false, false)
theorem spec_ev (q : List Int) (hb : q.length ≤ 1152921504606846976) : Ev (fun k => spec_AreOnTorus.f k q) (R q) := by
  obtain ⟨K1, h1⟩ := ev_get (quGood_ev q hb)
  unfold R
  by_cases h : goodB q = true
  · obtain ⟨K2, h2⟩ := ev_get (quTorus_ev q (good_small h))
    refine ⟨K1 + K2, fun k hk => ?_⟩
    simp only [spec_AreOnTorus.f, h1 k (by omega), h2 k (by omega), Option.bind_some, if_pos h]
  · refine ⟨K1, fun k hk => ?_⟩
    simp only [spec_AreOnTorus.f, h1 k (by omega), Option.bind_some, if_neg h]
theorem impl_ev (q : List Int) (hb : q.length ≤ 1152921504606846976) : Ev (fun k => impl_AreOnTorus.f k q) (R q) := by
  obtain ⟨K1, h1⟩ := ev_get (isList_ev q hb)
  unfold R
  by_cases h : goodB q = true
  · obtain ⟨K2, h2⟩ := ev_get (onTorus_ev q (good_small h))
    refine ⟨K1 + K2, fun k hk => ?_⟩
    simp only [impl_AreOnTorus.f, h1 k (by omega), h2 k (by omega), Option.bind_some, if_pos h]
  · refine ⟨K1, fun k hk => ?_⟩
    simp only [impl_AreOnTorus.f, h1 k (by omega), Option.bind_some, if_neg h]
end FnExactAreOnTorus
open FnExactAreOnTorus in
theorem FnExactAreOnTorus : laws_FnExactAreOnTorus.Pure := by
  intro l0 hy0 hy1 hy2
  by_cases hbig : (l0.length : Int) > 1048576
  · exact ⟨0, by unfold laws_FnExactAreOnTorus.f; rw [if_pos hbig]⟩
  obtain ⟨K1, h1⟩ := ev_get (spec_ev l0 (by omega))
  obtain ⟨K2, h2⟩ := ev_get (impl_ev l0 (by omega))
  generalize R l0 = R at *
  obtain ⟨K3, h3⟩ := ev_get (toIntS_ev l0 (by omega))
  obtain ⟨K4, h4⟩ := ev_get (eqIntS_ev l0 l0 (by omega))
  obtain ⟨K5, h5⟩ := ev_get (markIntS_ev l0 1 (by omega) (by omega) (by omega))
  have e1 : ¬ ((1 : Int) + l0.length < 0) := by omega
  obtain ⟨m, hm⟩ : ∃ m, m = K1 + K2 + K3 + K4 + K5 := ⟨_, rfl⟩
  replace h1 := fun j => h1 (m + j) (by omega)
  replace h2 := fun j => h2 (m + j) (by omega)
  replace h3 := fun j => h3 (m + j) (by omega)
  replace h4 := fun j => h4 (m + j) (by omega)
  replace h5 := fun j => h5 (m + j) (by omega)
  clear hm
  refine ⟨m + 2, ?_⟩
  unfold laws_FnExactAreOnTorus.f
  rw [if_neg hbig]
  simp only [h1, h2, h3, h4, h5, Option.bind_some, decide_true, if_true, bne_self_eq_false, Bool.false_eq_true, if_false, if_neg e1]
  rw [laws_FnExactAreOnTorus.j0]
  simp only [h1, h2, h3, h4, h5, Option.bind_some, decide_true, if_true, bne_self_eq_false, Bool.false_eq_true, if_false, if_neg e1]
end Go.Proofs.Ythjejaoadhhpdaa.Pure
