/- For every board, row and column DiagonalOf returns what the reference returns, and leaves its argument as it was: no condition but that the arguments can be read. -/
import Derived.Test.YthibohakolgfbaaPx1
import Derived.Test.YthibohakolgfbaaPx2
import Derived.Test.YthibohakolgfbaaPx3
import Derived.Test.YthibohakolgfbaaBLib
namespace Go.Proofs.Ythibohakolgfbaa.Pure
open Go.RowKit Go.Proofs.Ythibohakolgfbaa.P Go.Proofs.YthibohakolgfbaaW.PrintWords Go.Proofs.YthibohakolgfbaaW.PrintLast
set_option linter.unusedSimpArgs false
set_option linter.unusedVariables false
theorem FnExactDiagonalOf : laws_FnExactDiagonalOf.Pure := by
  intro r c l x y hr hc hl hx hy
  have hlen := hl.1
  by_cases hbig : (1048576 : Int) - l.length < 0
  · refine ⟨0, ?_⟩
    unfold laws_FnExactDiagonalOf.f
    rw [szBoard_eq r c l _ (by omega) (by omega) hlen, if_pos hbig, Option.bind_some, if_pos (by omega)]
  obtain ⟨K1, h1⟩ := ev_get (toBoard_ev r c l (by omega))
  obtain ⟨K2, h2⟩ := ev_get (boPlace_ev r c l x y (by omega))
  obtain ⟨K3, h3⟩ := ev_get (eqBoard_ev r c l (by omega))
  have hi : impl_DiagonalOf.f r c l x y = some (if (boardB r c l && placeB r c x y) = true then (wrap64 (x + y), wrap64 ((wrap64 ((wrap64 (x - y)) + c)) - 1), true) else (0, 0, false)) := by
    simp only [impl_DiagonalOf.f, impl_IsBoard.f, Option.bind_some]
    by_cases hb : boardB r c l = true
    · have := (boardB_iff r c l).1 hb
      rw [if_pos hb, place_eq r c l x y (by omega) (by omega), Option.bind_some, hb, Bool.true_and]
      split <;> rfl
    · simp only [Bool.not_eq_true] at hb
      rw [hb]; simp
  have hs : ∀ k, K2 ≤ k → spec_DiagonalOf.f k r c l x y = some (if (boardB r c l && placeB r c x y) = true then (wrap64 (x + y), wrap64 ((wrap64 ((wrap64 (x - y)) + c)) - 1), true) else (0, 0, false)) := by
    intro k hk
    simp only [spec_DiagonalOf.f, h2 k hk, spec_biDiagonals.f, Option.bind_some]
    split <;> rfl
  refine ⟨K1 + K2 + K3 + 1, ?_⟩
  unfold laws_FnExactDiagonalOf.f
  rw [szBoard_eq r c l _ (by omega) (by omega) hlen, if_neg hbig, Option.bind_some, if_neg hbig, h1 _ (by omega)]
  simp only [Option.bind_some]
  rw [hs _ (by omega), hi]
  simp only [Option.bind_some, if_true, bne_self_eq_false]
  rw [laws_FnExactDiagonalOf.j0, if_neg (by simp), h1 _ (by omega)]
  simp only [Option.bind_some]
  rw [h3 _ (by omega)]
  simp
end Go.Proofs.Ythibohakolgfbaa.Pure
