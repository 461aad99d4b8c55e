import Derived.Test.YthibohakolgfbaaPx1
import Derived.Test.YthibohakolgfbaaPx2
import Derived.Test.YthibohakolgfbaaLib
namespace Go.Proofs.Ythibohakolgfbaa.P
open Go.RowKit Go.Proofs.YthibohakolgfbaaW.PrintWords Go.Proofs.YthibohakolgfbaaW.PrintLast Go.Proofs.YthibohakolgfbaaW.PrintMore
set_option linter.unusedVariables false
set_option linter.unusedSimpArgs false

theorem boardB_iff (r c : Int) (l : List Int) : boardB r c l = true ↔ (1 ≤ r ∧ r ≤ 6) ∧ (1 ≤ c ∧ c ≤ 6) ∧ (l.length : Int) = r ∧ ∀ m ∈ l, 0 ≤ m ∧ m ≤ 2 ^ c.toNat - 1 := by
  unfold boardB
  simp only [Bool.and_eq_true, decide_eq_true_eq, List.all_eq_true]
  constructor
  · rintro ⟨⟨⟨a, b⟩, c⟩, d⟩; exact ⟨a, b, c, d⟩
  · rintro ⟨a, b, c, d⟩; exact ⟨⟨⟨a, b⟩, c⟩, d⟩
theorem shl_one (c : Int) (h0 : 0 ≤ c) (h1 : c ≤ 62) : shl .i64 1 c = 2 ^ c.toNat := by
  unfold shl
  rw [Int.one_mul, Nat.min_eq_left (show c.toNat ≤ IntKind.i64.bits by have : IntKind.i64.bits = 64 := rfl; omega)]
  rw [i64_w, w64]
  · have : (0 : Int) ≤ 2 ^ c.toNat := Int.le_of_lt (Int.pow_pos (by decide))
    omega
  · have h : (2 : Int) ^ c.toNat ≤ 2 ^ 62 := by
      have := Nat.pow_le_pow_right (show 0 < 2 by decide) (show c.toNat ≤ 62 by omega)
      exact_mod_cast this
    have e : (2 : Int) ^ 62 = 4611686018427387904 := by decide
    omega
theorem pow_le6 (c : Int) (h1 : c ≤ 6) : (2 : Int) ^ c.toNat ≤ 64 := by
  have := Nat.pow_le_pow_right (show 0 < 2 by decide) (show c.toNat ≤ 6 by omega)
  have h : (2 : Int) ^ c.toNat ≤ 2 ^ 6 := by exact_mod_cast this
  exact h
theorem pow_pos2 (c : Int) : (1 : Int) ≤ 2 ^ c.toNat := by
  have : (0 : Int) < 2 ^ c.toNat := Int.pow_pos (by decide)
  omega
theorem boSide_eq (a : Int) : spec_boSide.f a = some (inB a 1 6) := by
  simp only [spec_boSide.f, l1In_eq, Option.bind_some]
theorem boGood_ev (r c : Int) (l : List Int) (hb : l.length ≤ 1152921504606846976) : Ev (fun k => spec_boGood.f k r c l) (boardB r c l) := by
  by_cases h1 : 1 ≤ r ∧ r ≤ 6
  · by_cases h2 : 1 ≤ c ∧ c ≤ 6
    · by_cases h3 : (l.length : Int) = r
      · obtain ⟨K, hK⟩ := ev_get (l1All_ev l 0 (2 ^ c.toNat - 1) hb)
        refine ⟨K, fun k hk => ?_⟩
        have hp := pow_le6 c h2.2
        have hp2 := pow_pos2 c
        simp only [spec_boGood.f, boSide_eq, Option.bind_some]
        rw [if_pos (by simpa [inB] using h1), if_pos (by simpa [inB] using h2), if_pos h3, if_pos (by omega), shl_one c (by omega) (by omega), w64 _ (by omega) (by omega), hK k hk, Option.bind_some]
        congr 1
        unfold boardB allIn inB
        simp [h1, h2, h3]
      · refine ⟨0, fun k hk => ?_⟩
        simp only [spec_boGood.f, boSide_eq, Option.bind_some]
        rw [if_pos (by simpa [inB] using h1), if_pos (by simpa [inB] using h2), if_neg h3]
        congr 1; unfold boardB; simp [h3]
    · refine ⟨0, fun k hk => ?_⟩
      simp only [spec_boGood.f, boSide_eq, Option.bind_some]
      rw [if_pos (by simpa [inB] using h1), if_neg (by simpa [inB] using h2)]
      congr 1; unfold boardB; rw [decide_eq_false h2]; simp
  · refine ⟨0, fun k hk => ?_⟩
    simp only [spec_boGood.f, boSide_eq, Option.bind_some]
    rw [if_neg (by simpa [inB] using h1)]
    congr 1; unfold boardB; rw [decide_eq_false h1]; simp
def placeB (r c x y : Int) : Bool := decide ((0 ≤ x ∧ x ≤ r - 1) ∧ (0 ≤ y ∧ y ≤ c - 1))
theorem boPlace_ev (r c : Int) (l : List Int) (x y : Int) (hb : l.length ≤ 1152921504606846976) : Ev (fun k => spec_boPlace.f k r c l x y) (boardB r c l && placeB r c x y) := by
  obtain ⟨K, hK⟩ := ev_get (boGood_ev r c l hb)
  refine ⟨K, fun k hk => ?_⟩
  simp only [spec_boPlace.f, hK k hk, Option.bind_some]
  by_cases h : boardB r c l = true
  · have := (boardB_iff r c l).1 h
    rw [h, if_pos rfl, w64 _ (by omega) (by omega), w64 _ (by omega) (by omega), l1In_eq, l1In_eq, Option.bind_some, Option.bind_some]
    unfold inB placeB
    by_cases h1 : 0 ≤ x ∧ x ≤ r - 1
    · rw [if_pos (by simpa using h1)]; simp [h1]
    · rw [if_neg (by simpa using h1)]; congr 1; rw [Bool.true_and]; symm; apply decide_eq_false; exact fun hh => h1 hh.1
  · simp only [Bool.not_eq_true] at h
    rw [h]; simp
theorem place_eq (r c : Int) (l : List Int) (x y : Int) (hr : -1000 ≤ r ∧ r ≤ 1000) (hc : -1000 ≤ c ∧ c ≤ 1000) : impl_Board_place.f r c l x y = some (placeB r c x y) := by
  simp only [impl_Board_place.f]
  rw [w64 _ (by omega) (by omega), w64 _ (by omega) (by omega), within_eq, within_eq, Option.bind_some, Option.bind_some]
  unfold inB placeB
  by_cases h1 : 0 ≤ x ∧ x ≤ r - 1
  · rw [if_pos (by simpa using h1)]; simp [h1]
  · rw [if_neg (by simpa using h1)]; congr 1; symm; apply decide_eq_false; exact fun hh => h1 hh.1
theorem szBoard_eq (r c : Int) (l : List Int) (left : Int) (h0 : 0 ≤ left) (h1 : left ≤ 1048576) (hl : l.length ≤ maxLen) : laws_szBoard.f r c l left = some (if left - l.length < 0 then -1 else left - l.length) := by
  simp only [laws_szBoard.f, laws_szIntS.f]
  simp only [maxLen] at hl
  rw [w64 _ (by omega) (by omega)]
  split
  · simp only [Option.bind_some]; simp
  · simp only [Option.bind_some]; simp [*]
theorem toBoard_ev (r c : Int) (l : List Int) (hl : l.length ≤ 35184372088832) : Ev (fun k => laws_toBoard.f k r c l) (r, c, l) := by
  obtain ⟨K, hK⟩ := ev_get (toIntS_ev l hl)
  refine ⟨K, fun k hk => ?_⟩
  simp only [laws_toBoard.f, hK k hk, Option.bind_some]
theorem eqBoard_ev (r c : Int) (l : List Int) (hb : l.length ≤ 1152921504606846976) : Ev (fun k => laws_eqBoard.f k r c l r c l) true := by
  obtain ⟨K, hK⟩ := ev_get (eqIntS_ev l l hb)
  refine ⟨K, fun k hk => ?_⟩
  simp only [laws_eqBoard.f, hK k hk, Option.bind_some, if_true, decide_true]
end Go.Proofs.Ythibohakolgfbaa.P
