/- For every list of numbers AttacksOf returns what the reference returns, in memory of its own, and leaves its argument as it was: no condition but that the list can be read. -/
import Derived.Test.YthjejaoadhhpdaaPx42
import Derived.Test.YthjejaoadhhpdaaPx8
import Derived.Test.YthjejaoadhhpdaaQLib3
import Derived.Test.YthjejaoadhhpdaaLibS
namespace Go.Proofs.Ythjejaoadhhpdaa.Pure
open Go.RowKit Go.Proofs.Ythjejaoadhhpdaa.P Go.Proofs.YthjejaoadhhpdaaW.PrintWords Go.Proofs.YthjejaoadhhpdaaW.PrintLast
set_option linter.unusedSimpArgs false
set_option linter.unusedVariables false
namespace FnExactAttacksOf
def R (q : List Int) : List (List Int) × Bool := if goodB q = true then (allP q 0, true) else ([], false)
theorem spec_ev (q : List Int) (hb : q.length ≤ 1152921504606846976) : Ev (fun k => spec_AttacksOf.f k q) (R q) := by
  obtain ⟨K1, h1⟩ := ev_get (quGood_ev q hb)
  unfold R
  by_cases h : goodB q = true
  · obtain ⟨K2, h2⟩ := ev_get (quAttacks_ev q h)
    refine ⟨K1 + K2, fun k hk => ?_⟩
    simp only [spec_AttacksOf.f, h1 k (by omega), h2 k (by omega), Option.bind_some, if_pos h]
  · refine ⟨K1, fun k hk => ?_⟩
    simp only [spec_AttacksOf.f, h1 k (by omega), Option.bind_some, if_neg h]
theorem impl_inner (q : List Int) (hg : Small q) (r : Nat) (hr : r < q.length)
    (hout : ∀ acc : List (List Int), acc.length ≤ 8 * (r + 1) → Ev (fun k => impl_AttacksOf.l0 k q acc q (q.length : Int) ((r + 1 : Nat) : Int)) (acc ++ allP q (r + 1), true)) :
    ∀ (d s : Nat) (acc : List (List Int)), q.length - s = d → r < s → s ≤ q.length → acc.length ≤ 8 * r + (s - r) →
    Ev (fun k => impl_AttacksOf.l1 k q acc (r : Int) q[r] (s : Int) q (q.length : Int) (r : Int)) (acc ++ rowP q r s ++ allP q (r + 1), true) := by
  have hl := hg.1
  intro d
  induction d with
  | zero =>
    intro s acc hd hrs hs ha
    obtain ⟨K, hK⟩ := ev_get (hout acc (by omega))
    refine ⟨K + 1, fun k hk => ?_⟩
    obtain ⟨k, rfl⟩ : ∃ m, k = m + 1 := ⟨k - 1, by omega⟩
    simp only [impl_AttacksOf.l1]
    rw [if_neg (by omega), w64 _ (by omega) (by omega), show ((r : Int) + 1) = ((r + 1 : Nat) : Int) by omega, hK k (by omega), rowP_nil q r s (by omega), List.append_nil]
  | succ d ih =>
    intro s acc hd hrs hs ha
    have hs1 : s < q.length := by omega
    obtain ⟨K1, h1⟩ := ev_get (ih (s + 1) (acc ++ [[(r : Int), (s : Int)]]) (by omega) (by omega) (by omega) (by simp; omega))
    obtain ⟨K2, h2⟩ := ev_get (ih (s + 1) acc (by omega) (by omega) (by omega) (by omega))
    refine ⟨K1 + K2 + 1, fun k hk => ?_⟩
    obtain ⟨k, rfl⟩ : ∃ m, k = m + 1 := ⟨k - 1, by omega⟩
    simp only [impl_AttacksOf.l1]
    rw [if_pos (by omega), if_pos (by omega), rd_nat _ _ hs1, attacked_eq q hg r s hr hs1, Option.bind_some, w64 ((s : Int) + 1) (by omega) (by omega), show ((s : Int) + 1) = ((s + 1 : Nat) : Int) by omega, h1 k (by omega), h2 k (by omega), rowP_step q r s hs1, if_pos (show acc.length < 5864062014805 by omega)]
    by_cases h : att q r s = true
    · rw [if_pos h, if_pos h]; simp [List.append_assoc]
    · rw [if_neg h, if_neg h]; simp
theorem impl_outer (q : List Int) (hg : Small q) : ∀ (d r : Nat) (acc : List (List Int)), q.length - r = d → r ≤ q.length → acc.length ≤ 8 * r →
    Ev (fun k => impl_AttacksOf.l0 k q acc q (q.length : Int) (r : Int)) (acc ++ allP q r, true) := by
  have hl := hg.1
  intro d
  induction d with
  | zero =>
    intro r acc hd hr ha
    refine ⟨1, fun k hk => ?_⟩
    obtain ⟨k, rfl⟩ : ∃ m, k = m + 1 := ⟨k - 1, by omega⟩
    simp only [impl_AttacksOf.l0]
    rw [if_neg (by omega), allP_nil q r (by omega), List.append_nil]
  | succ d ih =>
    intro r acc hd hr ha
    have hr1 : r < q.length := by omega
    obtain ⟨K, hK⟩ := ev_get (impl_inner q hg r hr1 (fun acc ha => ih (r + 1) acc (by omega) (by omega) ha) (q.length - (r + 1)) (r + 1) acc (by omega) (by omega) (by omega) (by omega))
    refine ⟨K + 1, fun k hk => ?_⟩
    obtain ⟨k, rfl⟩ : ∃ m, k = m + 1 := ⟨k - 1, by omega⟩
    simp only [impl_AttacksOf.l0]
    rw [if_pos (by omega), if_pos (by omega), if_pos (by omega), rd_nat _ _ hr1, w64 _ (by omega) (by omega), show ((r : Int) + 1) = ((r + 1 : Nat) : Int) by omega, hK k (by omega), allP_step q r hr1, List.append_assoc]
theorem impl_ev (q : List Int) (hb : q.length ≤ 1152921504606846976) : Ev (fun k => impl_AttacksOf.f k q) (R q) := by
  obtain ⟨K1, h1⟩ := ev_get (isList_ev q hb)
  unfold R
  by_cases h : goodB q = true
  · obtain ⟨K2, h2⟩ := ev_get (impl_outer q (good_small h) q.length 0 [] (by omega) (by omega) (by simp))
    refine ⟨K1 + K2, fun k hk => ?_⟩
    simp only [impl_AttacksOf.f, h1 k (by omega), Option.bind_some, if_pos h]
    simpa using h2 k (by omega)
  · refine ⟨K1, fun k hk => ?_⟩
    simp only [impl_AttacksOf.f, h1 k (by omega), Option.bind_some, if_neg h]
theorem rowP_len (q : List Int) (r s : Nat) : (rowP q r s).length ≤ q.length - s := by
  unfold rowP
  rw [List.length_map]
  exact Nat.le_trans (List.length_filter_le _ _) (by simp)
theorem allP_len (q : List Int) (hl : q.length ≤ 8) : ∀ (d r : Nat), q.length - r = d → (allP q r).length ≤ 8 * d := by
  intro d
  induction d with
  | zero => intro r hd; rw [allP_nil q r (by omega)]; simp
  | succ d ih =>
    intro r hd
    rw [allP_step q r (by omega), List.length_append]
    have := ih (r + 1) (by omega)
    have := rowP_len q r (r + 1)
    omega
theorem R_small (q : List Int) : (R q).1.length ≤ 64 ∧ ∀ l ∈ (R q).1, l.length ≤ 2 := by
  unfold R
  split
  · rename_i h
    have := good_len h
    refine ⟨?_, fun l hl => ?_⟩
    · have := allP_len q (by omega) q.length 0 (by omega)
      show (allP q 0).length ≤ 64
      omega
    · obtain ⟨r, s, _, _, _, rfl⟩ := (allP_mem q l).1 hl
      simp
  · simp
end FnExactAttacksOf
open FnExactAttacksOf in
theorem FnExactAttacksOf : laws_FnExactAttacksOf.Pure := by
  intro l0 hy0 hy1 hy2
  by_cases hbig : 1048576 < (l0.length : Int)
  · exact ⟨0, by unfold laws_FnExactAttacksOf.f; rw [if_pos hbig]⟩
  obtain ⟨K1, h1⟩ := ev_get (spec_ev l0 (by omega))
  obtain ⟨K2, h2⟩ := ev_get (impl_ev l0 (by omega))
  have hr := R_small l0
  have ht := total_le hr.2
  generalize R l0 = R at *
  obtain ⟨K3, h3⟩ := ev_get (toIntS_ev l0 (by omega))
  obtain ⟨K4, h4⟩ := ev_get (eqIntS_ev l0 l0 (by omega))
  obtain ⟨K5, h5⟩ := ev_get (markIntS_ev l0 1 (by omega) (by omega) (by omega))
  obtain ⟨K6, h6⟩ := ev_get (eqIntSS_ev R.1 R.1 (by omega) (fun l hl => by have := hr.2 l hl; omega))
  obtain ⟨K7, h7⟩ := ev_get (markIntSS_ev R.1 1 (by omega) (by omega) (by omega) (by omega))
  obtain ⟨K8, h8⟩ := ev_get (heldIntSS_ev R.1 1 (by omega) (by omega) (by omega) (by omega))
  obtain ⟨m, hm⟩ : ∃ m, m = K1 + K2 + K3 + K4 + K5 + K6 + K7 + K8 := ⟨_, rfl⟩
  refine ⟨m, ?_⟩
  unfold laws_FnExactAttacksOf.f
  rw [if_neg hbig, if_pos]
  exact ⟨R.1, R.2, _, _, _, _, h3 m (by omega), h1 m (by omega), h2 m (by omega), (h6 m (by omega)).trans (by simp), (h4 m (by omega)).trans (by simp), by omega, h5 m (by omega), by omega, h7 m (by omega), h8 m (by omega)⟩
end Go.Proofs.Ythjejaoadhhpdaa.Pure
