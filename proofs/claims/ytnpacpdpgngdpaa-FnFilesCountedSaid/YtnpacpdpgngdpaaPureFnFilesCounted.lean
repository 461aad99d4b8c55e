/- For all bytes that are drawn from: files are counted alike by both, the sum of powers is the value, arrow boards have the kinds of numbers: no condition but that the bytes can be read. -/
import Derived.Laws.BitsLemmas
import Derived.Test.YtnpacpdpgngdpaaQbaabd2c2bc
import Derived.Test.YtnpacpdpgngdpaaQ5e49eec671
import Derived.Test.YtnpacpdpgngdpaaQd1950a5485
import Derived.Test.YtnpacpdpgngdpaaQd7dd145bbf
import Derived.Test.YtnpacpdpgngdpaaQ34a903f869
import Derived.Test.YtnpacpdpgngdpaaQb6d77b62a6
import Derived.Test.YtnpacpdpgngdpaaQc8e7b46c3d
import Derived.Test.YtnpacpdpgngdpaaQ239bcffbe8
import Derived.Test.YtnpacpdpgngdpaaQ6f7dd83fb2
import Derived.Test.YtnpacpdpgngdpaaQb01b73ad36
namespace Go.Proofs.Ytnpacpdpgngdpaa.P
open Go.RowKit Go.Proofs.YtnpacpdpgngdpaaW.PrintWords Go.Proofs.YtnpacpdpgngdpaaW.PrintLast Go.Proofs.YtnpacpdpgngdpaaW.PrintMore
set_option linter.unusedVariables false
set_option linter.unusedSimpArgs false
theorem w64 (n : Int) (h : -9223372036854775808 ≤ n) (h2 : n ≤ 9223372036854775807) : wrap64 n = n := by unfold wrap64; omega
theorem rd_nat (l : List Int) (i : Nat) (h : i < l.length) : rd l (i : Int) = l[i] := by
  unfold rd; simp [List.getD_eq_getElem?_getD, List.getElem?_eq_getElem h]
theorem drop_cons (l : List Int) (i : Nat) (h : i < l.length) : l.drop i = l[i] :: l.drop (i + 1) := List.drop_eq_getElem_cons h
theorem ev_get {α : Type} {g : Nat → Option α} {r : α} (h : Ev g r) : ∃ K, ∀ k, K ≤ k → g k = some r := h
def inB (n lo hi : Int) : Bool := decide (lo ≤ n ∧ n ≤ hi)
theorem l1In_eq (a b c : Int) : spec_l1In.f a b c = some (inB a b c) := by
  unfold spec_l1In.f inB
  by_cases h : a ≥ b
  · rw [if_pos h]; congr 1; simp; omega
  · rw [if_neg h]; congr 1; symm; apply decide_eq_false; omega
theorem within_eq (a b c : Int) : impl_within.f a b c = some (inB a b c) := by
  unfold impl_within.f inB
  by_cases h : b ≤ a
  · rw [if_pos h]; congr 1; simp; omega
  · rw [if_neg h]; congr 1; symm; apply decide_eq_false; omega
def allIn (l : List Int) (lo hi : Int) : Bool := l.all fun x => inB x lo hi
theorem l1All_l0 (lo hi : Int) (l : List Int) (hb : l.length ≤ 1152921504606846976) : ∀ (d i : Nat) (k : Nat), l.length - i = d → i ≤ l.length → d < k →
    spec_l1All.l0 k lo hi l (l.length : Int) (i : Int) = some (allIn (l.drop i) lo hi) := by
  intro d
  induction d with
  | zero =>
    intro i k hd hi' hk
    obtain ⟨k, rfl⟩ : ∃ m, k = m + 1 := ⟨k - 1, by omega⟩
    rw [spec_l1All.l0, if_neg (by omega), List.drop_eq_nil_of_le (by omega)]
    rfl
  | succ d ih =>
    intro i k hd hi' hk
    obtain ⟨k, rfl⟩ : ∃ m, k = m + 1 := ⟨k - 1, by omega⟩
    have h1 : i < l.length := by omega
    rw [spec_l1All.l0, if_pos (by omega), if_pos (by omega), if_pos (by omega), l1In_eq, Option.bind_some, w64 _ (by omega) (by omega), rd_nat _ _ h1]
    rw [show ((i : Int) + 1) = ((i + 1 : Nat) : Int) by omega, ih (i + 1) k (by omega) (by omega) (by omega), drop_cons l i h1]
    unfold allIn
    rw [List.all_cons]
    generalize l.drop (i + 1) = tl
    by_cases h : inB l[i] lo hi = true
    · rw [if_pos h, h]; simp
    · rw [if_neg h]; simp at h; rw [h]; simp
theorem l1All_ev (l : List Int) (lo hi : Int) (hb : l.length ≤ 1152921504606846976) : Ev (fun k => spec_l1All.f k l lo hi) (allIn l lo hi) := by
  refine ⟨l.length + 1, fun k hk => ?_⟩
  simp only [spec_l1All.f]
  have := l1All_l0 lo hi l hb l.length 0 k (by omega) (by omega) (by omega)
  simpa using this
end Go.Proofs.Ytnpacpdpgngdpaa.P
namespace Go.Proofs.Ytnpacpdpgngdpaa.P
open Go.RowKit Go.Proofs.YtnpacpdpgngdpaaW.PrintWords Go.Proofs.YtnpacpdpgngdpaaW.PrintLast Go.Proofs.YtnpacpdpgngdpaaW.PrintMore
set_option linter.unusedVariables false
set_option linter.unusedSimpArgs false
def Bytes (s : List Int) : Prop := ∀ x ∈ s, 0 ≤ x ∧ x ≤ 255
theorem bytes_of {s : List Int} (h : ∀ x ∈ s, (Lit.int .u8 x).wf = true) : Bytes s := by
  intro x hx
  have := h x hx
  simp [Lit.wf, IntKind.wrap, IntKind.bits, IntKind.signed, IntKind.min, IntKind.max] at this
  omega
theorem u64_wrap (n : Int) : IntKind.u64.wrap n = n % 18446744073709551616 := by simp [IntKind.wrap, IntKind.bits, IntKind.signed]
theorem seed_byte (n : Int) : 0 ≤ Go.bits .and .u64 (IntKind.u64.wrap n / 1099511627776) 255 ∧ Go.bits .and .u64 (IntKind.u64.wrap n / 1099511627776) 255 ≤ 255 := by
  have h0 : 0 ≤ IntKind.u64.wrap n / 1099511627776 := by rw [u64_wrap]; omega
  have h1 : IntKind.u64.wrap n / 1099511627776 < 2 ^ 24 := by rw [u64_wrap]; omega
  have := bits_mask .u64 24 (by decide) (fun n h0 h1 => by rw [u64_wrap]; omega) 8 (by decide) _ h0 h1
  have e : (2 : Int) ^ 8 - 1 = 255 := by decide
  rw [e] at this
  rw [this]
  omega
theorem next_ok {s : List Int} (hs : Bytes s) (a b : Int) (h0 : 0 ≤ a) (h1 : a ≤ 4611686018427387904) : ∃ x b', spec_l1Cur_next.f s a b = some (x, a + 1, b') ∧ 0 ≤ x ∧ x ≤ 255 := by
  unfold spec_l1Cur_next.f
  rw [w64 (a + 1) (by omega) (by omega)]
  by_cases h : a < (s.length : Int)
  · rw [if_pos h, if_pos h0, if_pos (by omega)]
    have hx := hs (rd s a) (by
      obtain ⟨n, rfl⟩ : ∃ n : Nat, a = (n : Int) := ⟨a.toNat, by omega⟩
      rw [rd_nat _ _ (show n < s.length by omega)]
      exact List.getElem_mem _)
    rw [w64 _ (by omega) (by omega)]
    exact ⟨_, _, rfl, hx⟩
  · rw [if_neg h, if_neg (by omega)]
    have hx := seed_byte ((IntKind.u64.wrap (IntKind.u64.wrap (b * 6364136223846793005))) + 1442695040888963407)
    rw [w64 (Go.bits _ _ _ _) (by omega) (by omega)]
    exact ⟨_, _, rfl, hx⟩
theorem pick_ok {s : List Int} (hs : Bytes s) (a b n : Int) (h0 : 0 ≤ a) (h1 : a ≤ 4000000000000000000) : ∃ x a' b', spec_l1Cur_pick.f s a b n = some (x, a', b') ∧ 0 ≤ x ∧ (x < n ∨ n ≤ 1 ∧ x = 0) ∧ a ≤ a' ∧ a' ≤ a + 2 := by
  unfold spec_l1Cur_pick.f
  by_cases h : n ≤ 1
  · rw [if_pos h]
    exact ⟨0, a, b, rfl, by omega, .inr ⟨h, rfl⟩, by omega, by omega⟩
  · rw [if_neg h]
    obtain ⟨x, b1, e1, h2, h3⟩ := next_ok hs a b h0 (by omega)
    rw [e1]
    simp only [Option.bind_some]
    by_cases h4 : n > 200
    · obtain ⟨y, b2, e2, h5, h6⟩ := next_ok hs (a + 1) b1 (by omega) (by omega)
      rw [if_pos h4, e2]
      simp only [Option.bind_some]
      rw [if_neg (by omega), w64 (x * 256) (by omega) (by omega), w64 _ (by omega) (by omega)]
      refine ⟨_, _, _, rfl, Int.tmod_nonneg _ (by omega), .inl (Int.tmod_lt_of_pos _ (by omega)), by omega, by omega⟩
    · rw [if_neg h4, if_neg (by omega)]
      refine ⟨_, _, _, rfl, Int.tmod_nonneg _ (by omega), .inl (Int.tmod_lt_of_pos _ (by omega)), by omega, by omega⟩
theorem one_ok {s : List Int} (hs : Bytes s) (a b n : Int) (h0 : 0 ≤ a) (h1 : a ≤ 4000000000000000000) : ∃ x a' b', spec_l1Cur_one.f s a b n = some (x, a', b') ∧ a ≤ a' ∧ a' ≤ a + 2 := by
  obtain ⟨x, a', b', e, _, _, h4, h5⟩ := pick_ok hs a b n h0 h1
  unfold spec_l1Cur_one.f
  rw [e]
  exact ⟨_, _, _, rfl, h4, h5⟩
theorem among_ok {s : List Int} (hs : Bytes s) (a b : Int) (l : List Int) (hl : 0 < l.length) (h0 : 0 ≤ a) (h1 : a ≤ 4000000000000000000) : ∃ x a' b', spec_l1Cur_among.f s a b l = some (x, a', b') ∧ x ∈ l ∧ a ≤ a' ∧ a' ≤ a + 2 := by
  obtain ⟨x, a', b', e, h2, h3, h4, h5⟩ := pick_ok hs a b (l.length : Int) h0 h1
  unfold spec_l1Cur_among.f
  rw [e]
  simp only [Option.bind_some]
  have hx : x < (l.length : Int) := by omega
  rw [if_pos h2, if_pos hx]
  refine ⟨_, _, _, rfl, ?_, h4, h5⟩
  obtain ⟨n, rfl⟩ : ∃ n : Nat, x = (n : Int) := ⟨x.toNat, by omega⟩
  rw [rd_nat _ _ (show n < l.length by omega)]
  exact List.getElem_mem _
theorem big_eq (a b : List Int) (ha : a.length ≤ 140737488351232) (hb : b.length ≤ 140737488351232) : ∃ x, laws_big.f a b = some x := by
  unfold laws_big.f
  repeat (first | exact ⟨_, rfl⟩ | split | simp only [Option.bind_some])
end Go.Proofs.Ytnpacpdpgngdpaa.P
namespace Go.Proofs.Ytnpacpdpgngdpaa.P
open Go.RowKit Go.Proofs.YtnpacpdpgngdpaaW.PrintWords Go.Proofs.YtnpacpdpgngdpaaW.PrintLast Go.Proofs.YtnpacpdpgngdpaaW.PrintMore
set_option linter.unusedVariables false
set_option linter.unusedSimpArgs false
theorem boardB_iff (r c : Int) (l : List Int) : boardB r c l = true ↔ (1 ≤ r ∧ r ≤ 6) ∧ (1 ≤ c ∧ c ≤ 6) ∧ (l.length : Int) = r ∧ ∀ m ∈ l, 0 ≤ m ∧ m ≤ 2 ^ c.toNat - 1 := by
  unfold boardB
  simp only [Bool.and_eq_true, decide_eq_true_eq, List.all_eq_true]
  constructor
  · rintro ⟨⟨⟨a, b⟩, c⟩, d⟩; exact ⟨a, b, c, d⟩
  · rintro ⟨a, b, c, d⟩; exact ⟨⟨⟨a, b⟩, c⟩, d⟩
theorem shl_one (c : Int) (h0 : 0 ≤ c) (h1 : c ≤ 62) : shl .i64 1 c = 2 ^ c.toNat := by
  unfold shl
  rw [Int.one_mul, Nat.min_eq_left (show c.toNat ≤ IntKind.i64.bits by have : IntKind.i64.bits = 64 := rfl; omega)]
  rw [i64_w, w64]
  · have : (0 : Int) ≤ 2 ^ c.toNat := Int.le_of_lt (Int.pow_pos (by decide))
    omega
  · have h : (2 : Int) ^ c.toNat ≤ 2 ^ 62 := by
      have := Nat.pow_le_pow_right (show 0 < 2 by decide) (show c.toNat ≤ 62 by omega)
      exact_mod_cast this
    have e : (2 : Int) ^ 62 = 4611686018427387904 := by decide
    omega
theorem pow_le6 (c : Int) (h1 : c ≤ 6) : (2 : Int) ^ c.toNat ≤ 64 := by
  have := Nat.pow_le_pow_right (show 0 < 2 by decide) (show c.toNat ≤ 6 by omega)
  have h : (2 : Int) ^ c.toNat ≤ 2 ^ 6 := by exact_mod_cast this
  exact h
theorem pow_pos2 (c : Int) : (1 : Int) ≤ 2 ^ c.toNat := by
  have : (0 : Int) < 2 ^ c.toNat := Int.pow_pos (by decide)
  omega
theorem boSide_eq (a : Int) : spec_boSide.f a = some (inB a 1 6) := by
  simp only [spec_boSide.f, l1In_eq, Option.bind_some]
theorem boGood_ev (r c : Int) (l : List Int) (hb : l.length ≤ 1152921504606846976) : Ev (fun k => spec_boGood.f k r c l) (boardB r c l) := by
  by_cases h1 : 1 ≤ r ∧ r ≤ 6
  · by_cases h2 : 1 ≤ c ∧ c ≤ 6
    · by_cases h3 : (l.length : Int) = r
      · obtain ⟨K, hK⟩ := ev_get (l1All_ev l 0 (2 ^ c.toNat - 1) hb)
        refine ⟨K, fun k hk => ?_⟩
        have hp := pow_le6 c h2.2
        have hp2 := pow_pos2 c
        simp only [spec_boGood.f, boSide_eq, Option.bind_some]
        rw [if_pos (by simpa [inB] using h1), if_pos (by simpa [inB] using h2), if_pos h3, if_pos (by omega), shl_one c (by omega) (by omega), w64 _ (by omega) (by omega), hK k hk, Option.bind_some]
        congr 1
        unfold boardB allIn inB
        simp [h1, h2, h3]
      · refine ⟨0, fun k hk => ?_⟩
        simp only [spec_boGood.f, boSide_eq, Option.bind_some]
        rw [if_pos (by simpa [inB] using h1), if_pos (by simpa [inB] using h2), if_neg h3]
        congr 1; unfold boardB; simp [h3]
    · refine ⟨0, fun k hk => ?_⟩
      simp only [spec_boGood.f, boSide_eq, Option.bind_some]
      rw [if_pos (by simpa [inB] using h1), if_neg (by simpa [inB] using h2)]
      congr 1; unfold boardB; rw [decide_eq_false h2]; simp
  · refine ⟨0, fun k hk => ?_⟩
    simp only [spec_boGood.f, boSide_eq, Option.bind_some]
    rw [if_neg (by simpa [inB] using h1)]
    congr 1; unfold boardB; rw [decide_eq_false h1]; simp
end Go.Proofs.Ytnpacpdpgngdpaa.P
namespace Go.Proofs.Ytnpacpdpgngdpaa.P
open Go.RowKit Go.Proofs.YtnpacpdpgngdpaaW.PrintWords Go.Proofs.YtnpacpdpgngdpaaW.PrintLast Go.Proofs.YtnpacpdpgngdpaaW.PrintMore
set_option linter.unusedVariables false
set_option linter.unusedSimpArgs false
theorem sides_ok {s : List Int} (hs : Bytes s) (a b : Int) (h0 : 0 ≤ a) (h1 : a ≤ 1000000000) : ∃ (v : Nat) (a' b' : Int), spec_l1Cur_sides.f s a b = some ((v : Int), a', b') ∧ 1 ≤ v ∧ v ≤ 6 ∧ a ≤ a' ∧ a' ≤ a + 4 := by
  obtain ⟨x, a1, b1, e1, h2, h3⟩ := one_ok hs a b 8 h0 (by omega)
  cases x with
  | true => exact ⟨6, a1, b1, by simp only [spec_l1Cur_sides.f, e1, Option.bind_some, if_true]; rfl, by omega, by omega, by omega, by omega⟩
  | false =>
    obtain ⟨y, a2, b2, e2, h4, h5, h6, h7⟩ := pick_ok hs a1 b1 5 (by omega) (by omega)
    refine ⟨(1 + y).toNat, a2, b2, ?_, by omega, by omega, by omega, by omega⟩
    simp only [spec_l1Cur_sides.f, e1, Option.bind_some, Bool.false_eq_true, if_false, e2]
    rw [w64 _ (by omega) (by omega), show (((1 + y).toNat : Nat) : Int) = 1 + y by omega]
theorem boardOf_f (k : Nat) (C R i a b Rr Cc x a1 b1 a2 b2 : Int) (s l : List Int) (hC : 0 ≤ C) (hi : i < R) (h0 : 0 ≤ i) (hl : i < (l.length : Int)) (e1 : spec_l1Cur_pick.f s a b (shl .i64 1 C) = some (x, a1, b1)) (e2 : spec_l1Cur_one.f s a1 b1 3 = some (false, a2, b2)) :
    spec_l1Cur_boardOf.l0 (k + 1) C R i s a b Rr Cc l = spec_l1Cur_boardOf.l0 k C R (wrap64 (i + 1)) s a2 b2 Rr Cc (l.set i.toNat x) := by
  rw [spec_l1Cur_boardOf.l0, if_pos hi, if_pos hC, e1, Option.bind_some, if_pos h0, if_pos hl, Option.bind_some, e2, Option.bind_some, if_neg (by simp)]
theorem boardOf_t (k : Nat) (C R i a b Rr Cc x a1 b1 a2 b2 z a3 b3 : Int) (s l : List Int) (hC : 0 ≤ C) (hi : i < R) (h0 : 0 ≤ i) (hl : i < (l.length : Int)) (e1 : spec_l1Cur_pick.f s a b (shl .i64 1 C) = some (x, a1, b1)) (e2 : spec_l1Cur_one.f s a1 b1 3 = some (true, a2, b2)) (e3 : spec_l1Cur_pick.f s a2 b2 (wrap64 (C + 1)) = some (z, a3, b3)) (hz : 0 ≤ z) :
    spec_l1Cur_boardOf.l0 (k + 1) C R i s a b Rr Cc l = spec_l1Cur_boardOf.l0 k C R (wrap64 (i + 1)) s a3 b3 Rr Cc ((l.set i.toNat x).set i.toNat (wrap64 (shl .i64 1 z - 1))) := by
  rw [spec_l1Cur_boardOf.l0, if_pos hi, if_pos hC, e1, Option.bind_some, if_pos h0, if_pos hl, Option.bind_some, e2, Option.bind_some, if_pos rfl, e3, Option.bind_some, if_pos hz]
theorem boardOf_l0 {s : List Int} (hs : Bytes s) (R C : Nat) (hR : R ≤ 6) (hC : C ≤ 6) : ∀ (d i : Nat) (l : List Int) (a b : Int), R - i = d → i ≤ R → l.length = R → 0 ≤ a → a + 6 * d ≤ 1000001000 →
    ∃ l' a' b', Ev (fun k => spec_l1Cur_boardOf.l0 k (C : Int) (R : Int) (i : Int) s a b (R : Int) (C : Int) l) ((R : Int), (C : Int), l', a', b') ∧ l'.length = R ∧ a ≤ a' ∧ a' ≤ a + 6 * d := by
  intro d
  induction d with
  | zero =>
    intro i l a b hd hi hl h0 h1
    refine ⟨l, a, b, ⟨1, fun k hk => ?_⟩, hl, by omega, by omega⟩
    obtain ⟨k, rfl⟩ : ∃ m, k = m + 1 := ⟨k - 1, by omega⟩
    dsimp only
    rw [spec_l1Cur_boardOf.l0, if_neg (by omega)]
  | succ d ih =>
    intro i l a b hd hi hl h0 h1
    have e0 : wrap64 ((i : Int) + 1) = ((i + 1 : Nat) : Int) := by rw [w64 _ (by omega) (by omega)]; omega
    have e9 : wrap64 ((C : Int) + 1) = (C : Int) + 1 := w64 _ (by omega) (by omega)
    obtain ⟨x, a1, b1, e1, _, _, h4, h5⟩ := pick_ok hs a b (shl .i64 1 (C : Int)) h0 (by omega)
    obtain ⟨y, a2, b2, e2, h6, h7⟩ := one_ok hs a1 b1 3 (by omega) (by omega)
    cases y with
    | false =>
      obtain ⟨l', a', b', ⟨K, hK⟩, h8, h9, h10⟩ := ih (i + 1) (l.set i x) a2 b2 (by omega) (by omega) (by simpa using hl) (by omega) (by omega)
      refine ⟨l', a', b', ⟨K + 1, fun k hk => ?_⟩, h8, by omega, by omega⟩
      obtain ⟨k, rfl⟩ : ∃ m, k = m + 1 := ⟨k - 1, by omega⟩
      have h := boardOf_f k (C : Int) (R : Int) (i : Int) a b (R : Int) (C : Int) x a1 b1 a2 b2 s l (by omega) (by omega) (by omega) (by omega) e1 e2
      rw [e0, Int.toNat_natCast] at h
      exact h.trans (hK k (by omega))
    | true =>
      obtain ⟨z, a3, b3, e3, h8, _, h10, h11⟩ := pick_ok hs a2 b2 (wrap64 ((C : Int) + 1)) (by omega) (by omega)
      obtain ⟨l', a', b', ⟨K, hK⟩, h12, h13, h14⟩ := ih (i + 1) ((l.set i x).set i (wrap64 (shl .i64 1 z - 1))) a3 b3 (by omega) (by omega) (by simpa using hl) (by omega) (by omega)
      refine ⟨l', a', b', ⟨K + 1, fun k hk => ?_⟩, h12, by omega, by omega⟩
      obtain ⟨k, rfl⟩ : ∃ m, k = m + 1 := ⟨k - 1, by omega⟩
      have h := boardOf_t k (C : Int) (R : Int) (i : Int) a b (R : Int) (C : Int) x a1 b1 a2 b2 z a3 b3 s l (by omega) (by omega) (by omega) (by omega) e1 e2 e3 h8
      rw [e0, Int.toNat_natCast] at h
      exact h.trans (hK k (by omega))
theorem boardOf_ok {s : List Int} (hs : Bytes s) (R C : Nat) (hR : R ≤ 6) (hC : C ≤ 6) (a b : Int) (h0 : 0 ≤ a) (h1 : a ≤ 1000000000) :
    ∃ l' a' b', Ev (fun k => spec_l1Cur_boardOf.f k s a b (R : Int) (C : Int)) ((R : Int), (C : Int), l', a', b') ∧ l'.length = R ∧ a ≤ a' ∧ a' ≤ a + 36 := by
  obtain ⟨l', a', b', e, h2, h3, h4⟩ := boardOf_l0 hs R C hR hC R 0 (List.replicate R 0) a b (by omega) (by omega) (by simp) h0 (by omega)
  obtain ⟨K, hK⟩ := ev_get e
  refine ⟨l', a', b', ⟨K, fun k hk => ?_⟩, h2, h3, by omega⟩
  simp only [spec_l1Cur_boardOf.f, spec_boEmpty.f]
  rw [if_pos (by omega), if_pos (by omega)]
  simp only [Option.bind_some, Int.toNat_natCast, List.length_replicate]
  exact hK k hk
theorem board_ok {s : List Int} (hs : Bytes s) (a b : Int) (h0 : 0 ≤ a) (h1 : a ≤ 100000000) :
    ∃ R C l a' b', Ev (fun k => spec_l1Cur_board.f k s a b) (R, C, l, a', b') ∧ l.length ≤ 7 ∧ (-1 ≤ R ∧ R ≤ 7) ∧ (-1 ≤ C ∧ C ≤ 4611686018427387904) ∧ a ≤ a' ∧ a' ≤ a + 60 := by
  obtain ⟨R, a1, b1, e1, r1, r6, h2, h3⟩ := sides_ok hs a b h0 (by omega)
  obtain ⟨C, a2, b2, e2, c1, c6, h4, h5⟩ := sides_ok hs a1 b1 (by omega) (by omega)
  obtain ⟨l, a3, b3, e3, hl, h6, h7⟩ := boardOf_ok hs R C r6 c6 a2 b2 (by omega) (by omega)
  obtain ⟨x, a4, b4, e4, h8, h9, h10, h11⟩ := pick_ok hs a3 b3 18 (by omega) (by omega)
  obtain ⟨K, hK⟩ := ev_get e3
  have hf : ∀ k, K ≤ k → spec_l1Cur_board.f k s a b = (if x = 0 then ((spec_l1Cur_among.f s a4 b4 [(-1), 0, wrap64 ((R : Int) + 1), 7]).bind fun bt1720 => (some (bt1720.1, (C : Int), l, bt1720.2.1, bt1720.2.2))) else (if x = 1 then ((spec_l1Cur_among.f s a4 b4 [(-1), 0, 7, 4611686018427387904]).bind fun bt1726 => (some ((R : Int), bt1726.1, l, bt1726.2.1, bt1726.2.2))) else (if x = 2 then ((spec_l1Cur_pick.f s a4 b4 (l.length : Int)).bind fun bt1729 => ((spec_l1Cur_among.f s bt1729.2.1 bt1729.2.2 [(-1), 64, 4611686018427387904]).bind fun bt1735 => (if 0 ≤ bt1729.1 then (if bt1729.1 < (l.length : Int) then (some ((R : Int), (C : Int), l.set bt1729.1.toNat bt1735.1, bt1735.2.1, bt1735.2.2)) else (none)) else (none)))) else (if x = 3 then (if l.length < 17592186044416 then (some ((R : Int), (C : Int), l ++ [0], a4, b4)) else (none)) else (some ((R : Int), (C : Int), l, a4, b4)))))) := by
    intro k hk
    simp only [spec_l1Cur_board.f, e1, Option.bind_some, e2, hK k hk, e4]
  by_cases x0 : x = 0
  · obtain ⟨y, a5, b5, e5, h12, h13, h14⟩ := among_ok hs a4 b4 [(-1), 0, wrap64 ((R : Int) + 1), 7] (by simp) (by omega) (by omega)
    refine ⟨y, C, l, a5, b5, ⟨K, fun k hk => ?_⟩, by omega, ?_, by omega, by omega, by omega⟩
    · refine (hf k hk).trans ?_; rw [if_pos x0, e5]; rfl
    · rw [w64 _ (by omega) (by omega)] at h12
      simp only [List.mem_cons, List.not_mem_nil, or_false] at h12
      omega
  · by_cases x1 : x = 1
    · obtain ⟨y, a5, b5, e5, h12, h13, h14⟩ := among_ok hs a4 b4 [(-1), 0, 7, 4611686018427387904] (by simp) (by omega) (by omega)
      refine ⟨R, y, l, a5, b5, ⟨K, fun k hk => ?_⟩, by omega, by omega, ?_, by omega, by omega⟩
      · refine (hf k hk).trans ?_; rw [if_neg x0, if_pos x1, e5]; rfl
      · simp only [List.mem_cons, List.not_mem_nil, or_false] at h12
        omega
    · by_cases x2 : x = 2
      · obtain ⟨y, a5, b5, e5, h12, h13, h14, h15⟩ := pick_ok hs a4 b4 (l.length : Int) (by omega) (by omega)
        obtain ⟨z, a6, b6, e6, h16, h17, h18⟩ := among_ok hs a5 b5 [(-1), 64, 4611686018427387904] (by simp) (by omega) (by omega)
        refine ⟨R, C, l.set y.toNat z, a6, b6, ⟨K, fun k hk => ?_⟩, by simp; omega, by omega, by omega, by omega, by omega⟩
        refine (hf k hk).trans ?_; rw [if_neg x0, if_neg x1, if_pos x2, e5]
        simp only [Option.bind_some]
        rw [e6]
        simp only [Option.bind_some]
        rw [if_pos h12, if_pos (by omega)]
      · by_cases x3 : x = 3
        · refine ⟨R, C, l ++ [0], a4, b4, ⟨K, fun k hk => ?_⟩, by simp; omega, by omega, by omega, by omega, by omega⟩
          refine (hf k hk).trans ?_; rw [if_neg x0, if_neg x1, if_neg x2, if_pos x3, if_pos (by omega)]
        · refine ⟨R, C, l, a4, b4, ⟨K, fun k hk => ?_⟩, by omega, by omega, by omega, by omega, by omega⟩
          refine (hf k hk).trans ?_; rw [if_neg x0, if_neg x1, if_neg x2, if_neg x3]
end Go.Proofs.Ytnpacpdpgngdpaa.P
namespace Go.Proofs.Ytnpacpdpgngdpaa.P
open Go.RowKit Go.Proofs.YtnpacpdpgngdpaaW.PrintWords Go.Proofs.YtnpacpdpgngdpaaW.PrintLast Go.Proofs.YtnpacpdpgngdpaaW.PrintMore
set_option linter.unusedVariables false
set_option linter.unusedSimpArgs false
/-- A mask has a column. -/
def hasM (m : Int) (j : Int) : Bool := Int.tmod (shr .i64 m j) 2 == 1
theorem has_bits : ∀ m : Fin 64, ∀ c : Fin 6, (Go.bits .and .i64 (shr .i64 (m.val : Int) (c.val : Int)) 1 == 1) = hasM (m.val : Int) (c.val : Int) := by decide +kernel
theorem has_bits' (m c : Int) (h0 : 0 ≤ m) (h1 : m ≤ 63) (h2 : 0 ≤ c) (h3 : c ≤ 5) : (Go.bits .and .i64 (shr .i64 m c) 1 == 1) = hasM m c := by
  have h := has_bits ⟨m.toNat, by omega⟩ ⟨c.toNat, by omega⟩
  simp only [show ((m.toNat : Nat) : Int) = m by omega, show ((c.toNat : Nat) : Int) = c by omega] at h
  exact h
/-- The board has the cell. -/
def hasC (l : List Int) (i j : Int) : Bool := hasM (rd l i) j
theorem board_row {r c : Int} {l : List Int} (h : boardB r c l = true) {i : Int} (h0 : 0 ≤ i) (h1 : i < r) : 0 ≤ rd l i ∧ rd l i ≤ 63 := by
  obtain ⟨hr, hc, hl, hm⟩ := (boardB_iff r c l).1 h
  have hp6 := pow_le6 c hc.2
  have hx : i.toNat < l.length := by omega
  have := hm l[i.toNat] (List.getElem_mem hx)
  have e : rd l i = l[i.toNat] := by
    have := rd_nat l i.toNat hx
    rwa [show ((i.toNat : Nat) : Int) = i by omega] at this
  rw [e]; omega
theorem boHas_eq {r c : Int} {l : List Int} (h : boardB r c l = true) {i j : Int} (h0 : 0 ≤ i) (h1 : i < r) (h2 : 0 ≤ j) : spec_boHas.f r c l i j = some (hasC l i j) := by
  obtain ⟨hr, hc, hl, hm⟩ := (boardB_iff r c l).1 h
  simp only [spec_boHas.f]
  rw [if_pos h0, if_pos (by omega), if_pos h2]
  rfl
theorem has_eq {r c : Int} {l : List Int} (h : boardB r c l = true) {i j : Int} (h0 : 0 ≤ i) (h1 : i < r) (h2 : 0 ≤ j) (h3 : j < c) : impl_Board_has.f r c l i j = some (hasC l i j) := by
  obtain ⟨hr, hc, hl, hm⟩ := (boardB_iff r c l).1 h
  have hb := board_row h h0 h1
  simp only [impl_Board_has.f]
  rw [if_pos h0, if_pos (by omega), if_pos h2, has_bits' _ _ hb.1 hb.2 h2 (by omega)]
  rfl
def cellRow (l : List Int) (i C j : Nat) : List (List Int) := (List.range' j (C - j)).flatMap fun (j : Nat) => if hasC l (i : Int) (j : Int) = true then [[(i : Int), (j : Int)]] else []
def cellsFrom (l : List Int) (R C i : Nat) : List (List Int) := (List.range' i (R - i)).flatMap fun (i : Nat) => cellRow l i C 0
def cells (r c : Int) (l : List Int) : List (List Int) := cellsFrom l r.toNat c.toNat 0
end Go.Proofs.Ytnpacpdpgngdpaa.P
namespace Go.Proofs.Ytnpacpdpgngdpaa.P
open Go.RowKit Go.Proofs.YtnpacpdpgngdpaaW.PrintWords Go.Proofs.YtnpacpdpgngdpaaW.PrintLast Go.Proofs.YtnpacpdpgngdpaaW.PrintMore
set_option linter.unusedVariables false
set_option linter.unusedSimpArgs false
/-- How many cells the column c has in the first rows. -/
def ht (l : List Int) (c : Nat) : Nat → Nat
  | 0 => 0
  | r + 1 => ht l c r + if hasC l (r : Int) (c : Int) = true then 1 else 0
theorem ht_le (l : List Int) (c : Nat) : ∀ r, ht l c r ≤ r
  | 0 => Nat.le_refl _
  | r + 1 => by have := ht_le l c r; unfold ht; split <;> omega
def heightsL (l : List Int) (R C : Nat) : List Int := (List.range C).map fun c => (ht l c R : Int)
theorem heightsL_length (l : List Int) (R C : Nat) : (heightsL l R C).length = C := by simp [heightsL]
theorem heightsL_mem {l : List Int} {R C : Nat} {x : Int} (h : x ∈ heightsL l R C) : 0 ≤ x ∧ x ≤ R := by
  unfold heightsL at h
  rw [List.mem_map] at h
  obtain ⟨c, _, rfl⟩ := h
  have := ht_le l c R
  omega
theorem fiHeights_in {R C : Nat} {l : List Int} (h : boardB (R : Int) (C : Int) l = true) (acc : List Int) (c : Nat) (hc : c < C) (ha : acc.length ≤ 100) (res : List Int)
    (hout : Ev (fun k => spec_fiHeights.l0 k (acc ++ [(ht l c R : Int)]) ((c + 1 : Nat) : Int) (R : Int) (C : Int) l) res) : ∀ (d i : Nat), R - i = d → i ≤ R →
    Ev (fun k => spec_fiHeights.l1 k acc (c : Int) (ht l c i : Int) (i : Int) (R : Int) (C : Int) l) res := by
  have hb := (boardB_iff _ _ _).1 h
  intro d
  induction d with
  | zero =>
    intro i hd hi
    obtain rfl : i = R := by omega
    obtain ⟨K, hK⟩ := ev_get hout
    refine ⟨K + 1, fun k hk => ?_⟩
    obtain ⟨k, rfl⟩ : ∃ m, k = m + 1 := ⟨k - 1, by omega⟩
    dsimp only
    rw [spec_fiHeights.l1, if_neg (by omega), if_pos (by omega), w64 _ (by omega) (by omega), show ((c : Int) + 1) = ((c + 1 : Nat) : Int) by omega]
    exact hK k (by omega)
  | succ d ih =>
    intro i hd hi
    have hle := ht_le l c i
    obtain ⟨K, hK⟩ := ev_get (ih (i + 1) (by omega) (by omega))
    have hh := boHas_eq (j := (c : Int)) h (show 0 ≤ (i : Int) by omega) (by omega) (by omega)
    refine ⟨K + 1, fun k hk => ?_⟩
    obtain ⟨k, rfl⟩ : ∃ m, k = m + 1 := ⟨k - 1, by omega⟩
    have hKk := hK k (by omega)
    dsimp only
    rw [spec_fiHeights.l1, if_pos (by omega), hh, Option.bind_some, w64 ((i : Int) + 1) (by omega) (by omega), show ((i : Int) + 1) = ((i + 1 : Nat) : Int) by omega]
    unfold ht at hKk
    by_cases hx : hasC l (i : Int) (c : Int) = true
    · rw [if_pos hx] at hKk ⊢
      rw [w64 _ (by omega) (by omega), show ((ht l c i : Int) + 1) = ((ht l c i + 1 : Nat) : Int) by omega]
      exact hKk
    · rw [if_neg hx] at hKk ⊢
      exact hKk
theorem fiHeights_out {R C : Nat} {l : List Int} (h : boardB (R : Int) (C : Int) l = true) : ∀ (d c : Nat), C - c = d → c ≤ C →
    Ev (fun k => spec_fiHeights.l0 k ((List.range c).map fun c => (ht l c R : Int)) (c : Int) (R : Int) (C : Int) l) (heightsL l R C) := by
  have hb := (boardB_iff _ _ _).1 h
  intro d
  induction d with
  | zero =>
    intro c hd hc
    obtain rfl : c = C := by omega
    refine ⟨1, fun k hk => ?_⟩
    obtain ⟨k, rfl⟩ : ∃ m, k = m + 1 := ⟨k - 1, by omega⟩
    dsimp only
    rw [spec_fiHeights.l0, if_neg (by omega)]
    rfl
  | succ d ih =>
    intro c hd hc
    have := fiHeights_in h ((List.range c).map fun c => (ht l c R : Int)) c (by omega) (by simp; omega) (heightsL l R C) (by
      have := ih (c + 1) (by omega) (by omega)
      rw [List.range_succ, List.map_append] at this
      exact this) R 0 (by omega) (by omega)
    obtain ⟨K, hK⟩ := ev_get this
    refine ⟨K + 1, fun k hk => ?_⟩
    obtain ⟨k, rfl⟩ : ∃ m, k = m + 1 := ⟨k - 1, by omega⟩
    dsimp only
    rw [spec_fiHeights.l0, if_pos (by omega)]
    exact hK k (by omega)
theorem fiHeights_ev {R C : Nat} {l : List Int} (h : boardB (R : Int) (C : Int) l = true) : Ev (fun k => spec_fiHeights.f k (R : Int) (C : Int) l) (heightsL l R C) := by
  have := fiHeights_out h C 0 (by omega) (by omega)
  simpa [spec_fiHeights.f] using this
/-- The mask of a column, by rows. -/
def tm (l : List Int) (j : Nat) : Nat → Int
  | 0 => 0
  | r + 1 => if hasC l (r : Int) (j : Int) = true then Go.bits .or .i64 (tm l j r) (shl .i64 1 (r : Int)) else tm l j r
theorem or_add : ∀ r : Fin 6, ∀ m : Fin 64, m.val < 2 ^ r.val → Go.bits .or .i64 (m.val : Int) (shl .i64 1 (r.val : Int)) = ((m.val + 2 ^ r.val : Nat) : Int) := by decide +kernel
def onesN (m : Nat) : Nat := (List.range 6).countP fun i => m.testBit i
theorem ones_add : ∀ r : Fin 6, ∀ m : Fin 64, m.val < 2 ^ r.val → onesN (m.val + 2 ^ r.val) = onesN m.val + 1 := by decide +kernel
theorem ones_eq : ∀ m : Fin 64, bits_OnesCount.f (IntKind.u64.wrap (m.val : Int)) = some (onesN m.val : Int) := by decide +kernel
theorem tm_nat (l : List Int) (j : Nat) : ∀ r, r ≤ 6 → ∃ m : Nat, tm l j r = (m : Int) ∧ m < 2 ^ r ∧ onesN m = ht l j r
  | 0, _ => ⟨0, rfl, by decide, by show onesN 0 = 0; decide⟩
  | r + 1, h => by
    obtain ⟨m, e, hm, ho⟩ := tm_nat l j r (by omega)
    have h2 : 2 ^ r ≤ 2 ^ 5 := Nat.pow_le_pow_right (by decide) (by omega)
    have e5 : 2 ^ 5 = 32 := by decide
    have e6 : 2 ^ (r + 1) = 2 ^ r * 2 := Nat.pow_succ ..
    unfold tm ht
    split
    · have h1 := or_add ⟨r, by omega⟩ ⟨m, by omega⟩ hm
      have h3 := ones_add ⟨r, by omega⟩ ⟨m, by omega⟩ hm
      refine ⟨m + 2 ^ r, by rw [e]; exact h1, by omega, by rw [h3, ho]⟩
    · exact ⟨m, e, by omega, by omega⟩
theorem turned_in {R C : Nat} {l : List Int} (h : boardB (R : Int) (C : Int) l = true) (r : Nat) (hr : r < R) (res : Int × Int × List Int)
    (hout : ∀ L : List Int, L.length = C → (∀ j, j < C → L.getD j 0 = tm l j (r + 1)) → Ev (fun k => impl_Board_turned.l0 k (R : Int) ((r + 1 : Nat) : Int) (R : Int) (C : Int) l (C : Int) (R : Int) L) res) :
    ∀ (d c : Nat) (L : List Int), C - c = d → c ≤ C → L.length = C → (∀ j, j < C → L.getD j 0 = if j < c then tm l j (r + 1) else tm l j r) →
    Ev (fun k => impl_Board_turned.l1 k (r : Int) (R : Int) (r : Int) (C : Int) (c : Int) (R : Int) (C : Int) l (C : Int) (R : Int) L) res := by
  have hb := (boardB_iff _ _ _).1 h
  intro d
  induction d with
  | zero =>
    intro c L hd hc hL hj
    obtain ⟨K, hK⟩ := ev_get (hout L hL (fun j hj2 => by rw [hj j hj2, if_pos (by omega)]))
    refine ⟨K + 1, fun k hk => ?_⟩
    obtain ⟨k, rfl⟩ : ∃ m, k = m + 1 := ⟨k - 1, by omega⟩
    dsimp only
    rw [impl_Board_turned.l1, if_neg (by omega), w64 _ (by omega) (by omega), show ((r : Int) + 1) = ((r + 1 : Nat) : Int) by omega]
    exact hK k (by omega)
  | succ d ih =>
    intro c L hd hc hL hj
    have hcC : c < C := by omega
    have hh := has_eq h (show 0 ≤ (r : Int) by omega) (show (r : Int) < (R : Int) by omega) (show 0 ≤ (c : Int) by omega) (by omega)
    have ec : wrap64 ((c : Int) + 1) = ((c + 1 : Nat) : Int) := by rw [w64 _ (by omega) (by omega)]; omega
    have ev : rd L (c : Int) = tm l c r := by
      have := hj c hcC
      rw [if_neg (by omega)] at this
      rw [rd_nat _ _ (by omega)]
      rw [List.getD_eq_getElem?_getD, List.getElem?_eq_getElem (by omega)] at this
      simpa using this
    by_cases hx : hasC l (r : Int) (c : Int) = true
    · obtain ⟨K, hK⟩ := ev_get (ih (c + 1) (L.set c (Go.bits .or .i64 (tm l c r) (shl .i64 1 (r : Int)))) (by omega) (by omega) (by simpa using hL) (fun j hj2 => by
        by_cases e : j = c
        · subst e
          rw [if_pos (by omega)]
          have e2 : tm l j (r + 1) = Go.bits .or .i64 (tm l j r) (shl .i64 1 (r : Int)) := by rw [tm, if_pos hx]
          rw [e2]
          simp [List.getD_eq_getElem?_getD, hL, hj2]
        · have := hj j hj2
          rw [List.getD_eq_getElem?_getD, List.getElem?_set, if_neg (fun q => e q.symm), ← List.getD_eq_getElem?_getD, this]
          by_cases hjc : j < c
          · rw [if_pos hjc, if_pos (by omega)]
          · rw [if_neg hjc, if_neg (by omega)]))
      refine ⟨K + 1, fun k hk => ?_⟩
      obtain ⟨k, rfl⟩ : ∃ m, k = m + 1 := ⟨k - 1, by omega⟩
      dsimp only
      rw [impl_Board_turned.l1, if_pos (by omega), hh, Option.bind_some, if_pos hx, if_pos (by omega), if_pos (by omega), if_pos (by omega), ec, ev, Int.toNat_natCast]
      exact hK k (by omega)
    · obtain ⟨K, hK⟩ := ev_get (ih (c + 1) L (by omega) (by omega) hL (fun j hj2 => by
        have := hj j hj2
        rw [this]
        by_cases hjc : j < c
        · rw [if_pos hjc, if_pos (by omega)]
        · rw [if_neg hjc]
          by_cases e : j = c
          · subst e
            rw [if_pos (by omega), tm, if_neg hx]
          · rw [if_neg (by omega)]))
      refine ⟨K + 1, fun k hk => ?_⟩
      obtain ⟨k, rfl⟩ : ∃ m, k = m + 1 := ⟨k - 1, by omega⟩
      dsimp only
      rw [impl_Board_turned.l1, if_pos (by omega), hh, Option.bind_some, if_neg hx, ec]
      exact hK k (by omega)
def turnedL (l : List Int) (R C : Nat) : List Int := (List.range C).map fun j => tm l j R
theorem turned_out {R C : Nat} {l : List Int} (h : boardB (R : Int) (C : Int) l = true) : ∀ (d r : Nat) (L : List Int), R - r = d → r ≤ R → L.length = C → (∀ j, j < C → L.getD j 0 = tm l j r) →
    Ev (fun k => impl_Board_turned.l0 k (R : Int) (r : Int) (R : Int) (C : Int) l (C : Int) (R : Int) L) ((C : Int), (R : Int), turnedL l R C) := by
  intro d
  induction d with
  | zero =>
    intro r L hd hr hL hj
    obtain rfl : r = R := by omega
    refine ⟨1, fun k hk => ?_⟩
    obtain ⟨k, rfl⟩ : ∃ m, k = m + 1 := ⟨k - 1, by omega⟩
    dsimp only
    rw [impl_Board_turned.l0, if_neg (by omega)]
    congr 3
    unfold turnedL
    apply List.ext_getElem
    · simp [hL]
    · intro j h1 h2
      have := hj j (by omega)
      rw [List.getD_eq_getElem?_getD, List.getElem?_eq_getElem h1] at this
      simpa using this
  | succ d ih =>
    intro r L hd hr hL hj
    obtain ⟨K, hK⟩ := ev_get (turned_in h r (by omega) _ (fun L' h1 h2 => ih (r + 1) L' (by omega) (by omega) h1 h2) C 0 L (by omega) (by omega) hL (fun j hj2 => by rw [if_neg (by omega)]; exact hj j hj2))
    refine ⟨K + 1, fun k hk => ?_⟩
    obtain ⟨k, rfl⟩ : ∃ m, k = m + 1 := ⟨k - 1, by omega⟩
    dsimp only
    rw [impl_Board_turned.l0, if_pos (by omega)]
    exact hK k (by omega)
theorem turned_ev {R C : Nat} {l : List Int} (h : boardB (R : Int) (C : Int) l = true) : Ev (fun k => impl_Board_turned.f k (R : Int) (C : Int) l) ((C : Int), (R : Int), turnedL l R C) := by
  have hb := (boardB_iff _ _ _).1 h
  obtain ⟨K, hK⟩ := ev_get (turned_out h R 0 (List.replicate C 0) (by omega) (by omega) (by simp) (fun j hj => by simp [tm, List.getD_eq_getElem?_getD, hj]))
  refine ⟨K, fun k hk => ?_⟩
  simp only [impl_Board_turned.f, impl_newBoard.f]
  rw [if_pos (by omega), if_pos (by omega)]
  simp only [Option.bind_some, Int.toNat_natCast]
  exact hK k hk
theorem turnedL_board {R C : Nat} {l : List Int} (h : boardB (R : Int) (C : Int) l = true) : boardB (C : Int) (R : Int) (turnedL l R C) = true := by
  have hb := (boardB_iff _ _ _).1 h
  rw [boardB_iff]
  refine ⟨hb.2.1, hb.1, by simp [turnedL], fun m hm => ?_⟩
  unfold turnedL at hm
  rw [List.mem_map] at hm
  obtain ⟨j, _, rfl⟩ := hm
  obtain ⟨m, e, hm, _⟩ := tm_nat l j R (by omega)
  rw [e, Int.toNat_natCast]
  have : (m : Int) < 2 ^ R := by exact_mod_cast hm
  omega
theorem rowCounts_l0 (L : List Int) (hL : ∀ m ∈ L, 0 ≤ m ∧ m ≤ 63) (hl : L.length ≤ 6) : ∀ (d i : Nat) (acc : List Int), L.length - i = d → i ≤ L.length → acc.length = i →
    Ev (fun k => impl_RowCounts.l0 k acc L (L.length : Int) (i : Int)) (acc ++ (L.drop i).map (fun m => (onesN m.toNat : Int)), true) := by
  intro d
  induction d with
  | zero =>
    intro i acc hd hi ha
    refine ⟨1, fun k hk => ?_⟩
    obtain ⟨k, rfl⟩ : ∃ m, k = m + 1 := ⟨k - 1, by omega⟩
    dsimp only
    rw [impl_RowCounts.l0, if_neg (by omega), List.drop_eq_nil_of_le (by omega)]
    simp
  | succ d ih =>
    intro i acc hd hi ha
    have hi2 : i < L.length := by omega
    have hm := hL _ (List.getElem_mem hi2)
    obtain ⟨n, hn⟩ : ∃ n : Nat, L[i] = (n : Int) := ⟨L[i].toNat, by omega⟩
    have h1 := ones_eq ⟨n, by omega⟩
    obtain ⟨K, hK⟩ := ev_get (ih (i + 1) (acc ++ [(onesN n : Int)]) (by omega) (by omega) (by simp; omega))
    refine ⟨K + 1, fun k hk => ?_⟩
    obtain ⟨k, rfl⟩ : ∃ m, k = m + 1 := ⟨k - 1, by omega⟩
    dsimp only
    rw [impl_RowCounts.l0, if_pos (by omega), if_pos (by omega), if_pos (by omega), rd_nat _ _ hi2, hn, h1, Option.bind_some, if_pos (by omega), w64 _ (by omega) (by omega), show ((i : Int) + 1) = ((i + 1 : Nat) : Int) by omega]
    refine (hK k (by omega)).trans ?_
    rw [drop_cons L i hi2, List.map_cons, hn]
    simp
theorem heights_ev {R C : Nat} {l : List Int} (h : boardB (R : Int) (C : Int) l = true) : Ev (fun k => impl_Board_heights.f k (R : Int) (C : Int) l) (heightsL l R C) := by
  have hb := (boardB_iff _ _ _).1 h
  obtain ⟨K1, h1⟩ := ev_get (turned_ev h)
  have hB := turnedL_board h
  have hl : (turnedL l R C).length = C := by simp [turnedL]
  obtain ⟨K2, h2⟩ := ev_get (rowCounts_l0 (turnedL l R C) (fun m hm => by
    unfold turnedL at hm
    rw [List.mem_map] at hm
    obtain ⟨j, _, rfl⟩ := hm
    obtain ⟨m, e, hm, _⟩ := tm_nat l j R (by omega)
    have h2 : 2 ^ R ≤ 2 ^ 6 := Nat.pow_le_pow_right (by decide) (by omega)
    have e6 : 2 ^ 6 = 64 := by decide
    omega) (by omega) (turnedL l R C).length 0 [] (by omega) (by omega) rfl)
  refine ⟨K1 + K2, fun k hk => ?_⟩
  simp only [impl_Board_heights.f, h1 k (by omega), Option.bind_some, impl_RowCounts.f, impl_IsBoard.f, hB, if_true]
  have e : impl_RowCounts.l0 k [] (turnedL l R C) ((turnedL l R C).length : Int) 0 = _ := h2 k (by omega)
  simp only [List.drop_zero, List.nil_append] at e
  rw [e]
  simp only [Option.bind_some]
  congr 1
  unfold turnedL heightsL
  rw [List.map_map]
  apply List.map_congr_left
  intro j _
  obtain ⟨m, e, _, ho⟩ := tm_nat l j R (by omega)
  simp only [Function.comp, e, Int.toNat_natCast, ho]
theorem rd_mid (a b : List Int) (x : Int) : rd (a ++ x :: b) (a.length : Int) = x := by unfold rd; simp
theorem set_mid (a b : List Int) (x y : Int) : (a ++ x :: b).set a.length y = a ++ y :: b := by simp
/-- The list of a product by 1 and h: each number, and h times the one before. -/
def cv (h : Int) : List Int → Int → List Int
  | [], p => [h * p]
  | x :: a, p => (x + h * p) :: cv h a x
theorem cv_length (h : Int) : ∀ (a : List Int) (p : Int), (cv h a p).length = a.length + 1
  | [], _ => rfl
  | x :: a, p => by rw [cv, List.length_cons, cv_length h a x, List.length_cons]
theorem cv_bound (h M : Int) (h0 : 0 ≤ h) (h6 : h ≤ 6) (hM : 0 ≤ M) : ∀ (a : List Int) (p : Int), (∀ x ∈ a, 0 ≤ x ∧ x ≤ M) → 0 ≤ p → p ≤ M → ∀ y ∈ cv h a p, 0 ≤ y ∧ y ≤ 7 * M
  | [], p, _, p0, p1, y, hy => by
    rw [cv, List.mem_singleton] at hy
    subst hy
    have := Int.mul_le_mul h6 p1 p0 (by omega)
    have := Int.mul_nonneg h0 p0
    omega
  | x :: a, p, ha, p0, p1, y, hy => by
    have hx := ha x (List.mem_cons_self ..)
    rw [cv] at hy
    rcases List.mem_cons.1 hy with rfl | hy
    · have := Int.mul_le_mul h6 p1 p0 (by omega)
      have := Int.mul_nonneg h0 p0
      omega
    · exact cv_bound h M h0 h6 hM a x (fun z hz => ha z (List.mem_cons_of_mem _ hz)) hx.1 hx.2 y hy
def fileN (hs : List Int) : List Int := hs.foldl (fun a h => cv h a 0) [1]
/-- What is known of the numbers on the way. -/
def OkN (M : Int) (a : List Int) : Prop := ∀ x ∈ a, 0 ≤ x ∧ x ≤ M
theorem hp_bound {h p M : Int} (h0 : 0 ≤ h) (h6 : h ≤ 6) (p0 : 0 ≤ p) (p1 : p ≤ M) (hM : M ≤ 1000000000) : 0 ≤ h * p ∧ h * p ≤ 6000000000 := by
  have := Int.mul_le_mul h6 p1 p0 (by omega)
  have := Int.mul_nonneg h0 p0
  omega
theorem product_l0 (h : Int) (h0 : 0 ≤ h) (h6 : h ≤ 6) (a : List Int) (hl : a.length ≤ 100) (hb : OkN 1000000000 a) : ∀ (rest done D : List Int) (p : Int), a = done ++ rest → D.length = done.length → 0 ≤ p → p ≤ 1000000000 →
    Ev (fun k => impl_product.l0 k [1, h] (D ++ (h * p) :: List.replicate rest.length 0) a (a.length : Int) (done.length : Int)) (D ++ cv h rest p) := by
  intro rest
  induction rest with
  | nil =>
    intro done D p ha hD p0 p1
    refine ⟨1, fun k hk => ?_⟩
    obtain ⟨k, rfl⟩ : ∃ m, k = m + 1 := ⟨k - 1, by omega⟩
    have : a.length = done.length := by rw [ha]; simp
    dsimp only
    rw [impl_product.l0, if_neg (by omega)]
    simp [cv]
  | cons x rest ih =>
    intro done D p ha hD p0 p1
    have hla : a.length = done.length + (rest.length + 1) := by rw [ha]; simp
    have hx := hb x (by rw [ha]; simp)
    have hq := hp_bound h0 h6 p0 p1 (Int.le_refl _)
    have hq2 := hp_bound h0 h6 hx.1 hx.2 (Int.le_refl _)
    obtain ⟨K, hK⟩ := ev_get (ih (done ++ [x]) (D ++ [x + h * p]) x (by rw [ha]; simp) (by simp [hD]) hx.1 hx.2)
    refine ⟨K + 4, fun k hk => ?_⟩
    obtain ⟨k, rfl⟩ : ∃ m, k = m + 4 := ⟨k - 4, by omega⟩
    have hKk := hK k (by omega)
    have e1 : rd a (done.length : Int) = x := by rw [ha]; exact rd_mid _ _ _
    have e2 : rd (D ++ (h * p) :: List.replicate (rest.length + 1) 0) (done.length : Int) = h * p := by rw [← hD]; exact rd_mid _ _ _
    have e3 : (D ++ (h * p) :: List.replicate (rest.length + 1) 0).set done.length (h * p + x) = D ++ (h * p + x) :: List.replicate (rest.length + 1) 0 := by rw [← hD]; exact set_mid _ _ _ _
    have e4 : D ++ (h * p + x) :: List.replicate (rest.length + 1) 0 = (D ++ [h * p + x]) ++ 0 :: List.replicate rest.length 0 := by simp [List.replicate_succ]
    have e5 : rd ((D ++ [h * p + x]) ++ 0 :: List.replicate rest.length 0) ((done.length + 1 : Nat) : Int) = 0 := by
      rw [show done.length + 1 = (D ++ [h * p + x]).length by simp [hD]]; exact rd_mid _ _ _
    have e6 : ((D ++ [h * p + x]) ++ 0 :: List.replicate rest.length 0).set (done.length + 1) (0 + x * h) = (D ++ [h * p + x]) ++ (0 + x * h) :: List.replicate rest.length 0 := by
      rw [show done.length + 1 = (D ++ [h * p + x]).length by simp [hD]]; exact set_mid _ _ _ _
    have l1 : (D ++ (h * p) :: List.replicate (rest.length + 1) 0).length = done.length + rest.length + 2 := by simp [hD]; omega
    have l2 : ((D ++ [h * p + x]) ++ 0 :: List.replicate rest.length 0).length = done.length + rest.length + 2 := by simp [hD]; omega
    have hxh : x * h = h * x := Int.mul_comm _ _
    have s0 : rd [1, h] 0 = 1 := rfl
    have s1 : rd [1, h] 1 = h := rfl
    dsimp only
    rw [List.length_cons, impl_product.l0, if_pos (by omega), if_pos (by omega), if_pos (by omega), e1]
    rw [impl_product.l1, if_pos (by simp), if_pos (by omega), if_pos (by simp), w64 ((done.length : Int) + 0) (by omega) (by omega), Int.add_zero, if_pos (by omega), if_pos (by omega), e2, s0, Int.mul_one, w64 x (by omega) (by omega), w64 (h * p + x) (by omega) (by omega), Int.toNat_natCast, e3, e4, w64 (0 + 1) (by decide) (by decide)]
    rw [impl_product.l1, if_pos (by simp), if_pos (by omega), if_pos (by simp), w64 ((done.length : Int) + (0 + 1)) (by omega) (by omega), show ((done.length : Int) + (0 + 1)) = ((done.length + 1 : Nat) : Int) by omega, if_pos (by omega), if_pos (by omega), e5, show (0 : Int) + 1 = 1 from rfl, s1, w64 (x * h) (by omega) (by omega), w64 (0 + x * h) (by omega) (by omega), Int.toNat_natCast, e6, w64 (1 + 1) (by decide) (by decide)]
    rw [impl_product.l1, if_neg (by simp), w64 _ (by omega) (by omega)]
    rw [cv]
    have ea : D ++ (x + h * p) :: cv h rest x = (D ++ [x + h * p]) ++ cv h rest x := by simp
    rw [ea, ← hKk, Int.zero_add, hxh, Int.add_comm (h * p) x]
    simp only [List.length_append, List.length_singleton]
    rw [show ((done.length + 1 : Nat) : Int) = (done.length : Int) + 1 by omega]
theorem product_ev (h : Int) (h0 : 0 ≤ h) (h6 : h ≤ 6) (a : List Int) (hl : a.length ≤ 100) (hb : OkN 1000000000 a) : Ev (fun k => impl_product.f k a [1, h]) (cv h a 0) := by
  obtain ⟨K, hK⟩ := ev_get (product_l0 h h0 h6 a hl hb a [] [] 0 rfl rfl (by omega) (by omega))
  refine ⟨K, fun k hk => ?_⟩
  have e := hK k hk
  simp only [Int.mul_zero, List.nil_append, List.length_nil] at e
  simp only [impl_product.f, List.length_cons, List.length_nil]
  rw [w64 ((a.length : Int) + _) (by omega) (by omega), w64 _ (by omega) (by omega), if_pos (by omega), if_pos (by omega), show ((a.length : Int) + ((0 + 1 + 1 : Nat) : Int) - 1).toNat = a.length + 1 by omega, List.replicate_succ]
  exact e
theorem okN_step {h M : Int} {a : List Int} (h0 : 0 ≤ h) (h6 : h ≤ 6) (hM : 0 ≤ M) (ha : OkN M a) : OkN (7 * M) (cv h a 0) := fun y hy => cv_bound h M h0 h6 hM a 0 ha (by omega) hM y hy
theorem okN_le {M M' : Int} {a : List Int} (h : M ≤ M') (ha : OkN M a) : OkN M' a := fun x hx => by have := ha x hx; omega
/-- The bound behind so many columns. -/
def bd : Nat → Int
  | 0 => 1
  | j + 1 => 7 * bd j
theorem bd_le : ∀ j, j ≤ 6 → 0 ≤ bd j ∧ bd j ≤ 117649 := by
  intro j hj
  obtain rfl | rfl | rfl | rfl | rfl | rfl | rfl : j = 0 ∨ j = 1 ∨ j = 2 ∨ j = 3 ∨ j = 4 ∨ j = 5 ∨ j = 6 := by omega
  all_goals decide
theorem fileGo (hs : List Int) (hl : hs.length ≤ 6) (hb : ∀ x ∈ hs, 0 ≤ x ∧ x ≤ 6) : ∀ (rest done : List Int) (a : List Int), hs = done ++ rest → a.length = done.length + 1 → OkN (bd done.length) a → OkN (bd hs.length) (rest.foldl (fun a h => cv h a 0) a) ∧ (rest.foldl (fun a h => cv h a 0) a).length = hs.length + 1
  | [], done, a, e, hla, ha => by
    have : hs.length = done.length := by rw [e]; simp
    rw [this]
    exact ⟨ha, hla⟩
  | x :: rest, done, a, e, hla, ha => by
    have hx := hb x (by rw [e]; simp)
    have hlen : hs.length = done.length + (rest.length + 1) := by rw [e]; simp
    have hd := bd_le done.length (by omega)
    rw [List.foldl_cons]
    refine fileGo hs hl hb rest (done ++ [x]) (cv x a 0) (by rw [e]; simp) (by rw [cv_length]; simp [hla]) ?_
    rw [List.length_append, List.length_singleton]
    exact okN_step hx.1 hx.2 hd.1 ha
theorem fileN_ok (hs : List Int) (hl : hs.length ≤ 6) (hb : ∀ x ∈ hs, 0 ≤ x ∧ x ≤ 6) : OkN 117649 (fileN hs) ∧ (fileN hs).length = hs.length + 1 := by
  obtain ⟨h1, h2⟩ := fileGo hs hl hb hs [] [1] rfl rfl (fun x hx => by rw [List.mem_singleton] at hx; subst hx; decide)
  exact ⟨okN_le (bd_le hs.length hl).2 h1, h2⟩
theorem implFiles_l0 (hs : List Int) (hl : hs.length ≤ 6) (hb : ∀ x ∈ hs, 0 ≤ x ∧ x ≤ 6) : ∀ (rest done : List Int) (a : List Int), hs = done ++ rest → a.length = done.length + 1 → OkN (bd done.length) a →
    Ev (fun k => impl_FileNumbers.l0 k a hs (hs.length : Int) (done.length : Int)) (rest.foldl (fun a h => cv h a 0) a, true) := by
  intro rest
  induction rest with
  | nil =>
    intro done a e hla ha
    have : hs.length = done.length := by rw [e]; simp
    refine ⟨1, fun k hk => ?_⟩
    obtain ⟨k, rfl⟩ : ∃ m, k = m + 1 := ⟨k - 1, by omega⟩
    dsimp only
    rw [impl_FileNumbers.l0, if_neg (by omega)]
    rfl
  | cons x rest ih =>
    intro done a e hla ha
    have hlen : hs.length = done.length + (rest.length + 1) := by rw [e]; simp
    have hx := hb x (by rw [e]; simp)
    have hd := bd_le done.length (by omega)
    have er : rd hs (done.length : Int) = x := by rw [e]; exact rd_mid _ _ _
    obtain ⟨K1, h1⟩ := ev_get (product_ev x hx.1 hx.2 a (by omega) (okN_le (by omega) ha))
    obtain ⟨K2, h2⟩ := ev_get (ih (done ++ [x]) (cv x a 0) (by rw [e]; simp) (by rw [cv_length]; simp [hla]) (by rw [List.length_append, List.length_singleton]; exact okN_step hx.1 hx.2 hd.1 ha))
    refine ⟨K1 + K2 + 1, fun k hk => ?_⟩
    obtain ⟨k, rfl⟩ : ∃ m, k = m + 1 := ⟨k - 1, by omega⟩
    have e2 := h2 k (by omega)
    dsimp only
    rw [impl_FileNumbers.l0, if_pos (by omega), if_pos (by omega), if_pos (by omega), er, h1 k (by omega), Option.bind_some, w64 _ (by omega) (by omega)]
    rw [List.length_append, List.length_singleton, show ((done.length + 1 : Nat) : Int) = (done.length : Int) + 1 by omega] at e2
    rw [e2, List.foldl_cons]
def filesR (R C : Int) (l : List Int) : List Int × Bool := if boardB R C l = true then (fileN (heightsL l R.toNat C.toNat), true) else ([], false)
theorem heights_ok {R C : Nat} {l : List Int} (h : boardB (R : Int) (C : Int) l = true) : (heightsL l R C).length ≤ 6 ∧ ∀ x ∈ heightsL l R C, 0 ≤ x ∧ x ≤ 6 := by
  have hb := (boardB_iff _ _ _).1 h
  refine ⟨by rw [heightsL_length]; omega, fun x hx => ?_⟩
  have := heightsL_mem hx
  omega
theorem board_nat {R C : Int} {l : List Int} (h : boardB R C l = true) : ∃ R' C' : Nat, R = R' ∧ C = C' := by
  have hb := (boardB_iff _ _ _).1 h
  exact ⟨R.toNat, C.toNat, by omega, by omega⟩
theorem implFiles_ev (R C : Int) (l : List Int) : Ev (fun k => impl_FileNumbers.f k R C l) (filesR R C l) := by
  unfold filesR
  by_cases h : boardB R C l = true
  · obtain ⟨R, C, rfl, rfl⟩ := board_nat h
    obtain ⟨o1, o2⟩ := heights_ok h
    obtain ⟨K1, h1⟩ := ev_get (heights_ev h)
    obtain ⟨K2, h2⟩ := ev_get (implFiles_l0 (heightsL l R C) o1 o2 (heightsL l R C) [] [1] rfl rfl (fun x hx => by rw [List.mem_singleton] at hx; subst hx; decide))
    refine ⟨K1 + K2, fun k hk => ?_⟩
    have e := h2 k (by omega)
    simp only [impl_FileNumbers.f, impl_IsBoard.f, Option.bind_some, if_pos h, h1 k (by omega), Int.toNat_natCast]
    exact e
  · refine ⟨0, fun k hk => ?_⟩
    simp only [impl_FileNumbers.f, impl_IsBoard.f, Option.bind_some, if_neg h]
theorem specFiles_l1 (hs : List Int) (i : Nat) (h : Int) (h0 : 0 ≤ h) (h6 : h ≤ 6) (a : List Int) (hl : a.length ≤ 100) (hb : OkN 1000000000 a) (res : List Int × Bool)
    (hout : Ev (fun k => spec_FileNumbers.l0 k (cv h a 0) hs (hs.length : Int) (wrap64 ((i : Int) + 1))) res) : ∀ (rest done D : List Int) (p : Int), a = done ++ rest → D.length = done.length → 0 ≤ p → p ≤ 1000000000 → D ++ cv h rest p = cv h a 0 →
    Ev (fun k => spec_FileNumbers.l1 k h (D ++ (h * p) :: List.replicate rest.length 0) hs (hs.length : Int) (i : Int) a (a.length : Int) (done.length : Int)) res := by
  intro rest
  induction rest with
  | nil =>
    intro done D p ha hD p0 p1 hcv
    obtain ⟨K, hK⟩ := ev_get hout
    refine ⟨K + 1, fun k hk => ?_⟩
    obtain ⟨k, rfl⟩ : ∃ m, k = m + 1 := ⟨k - 1, by omega⟩
    have : a.length = done.length := by rw [ha]; simp
    dsimp only
    rw [spec_FileNumbers.l1, if_neg (by omega), List.length_nil, List.replicate_zero, show D ++ [h * p] = cv h a 0 from hcv]
    exact hK k (by omega)
  | cons x rest ih =>
    intro done D p ha hD p0 p1 hcv
    have hla : a.length = done.length + (rest.length + 1) := by rw [ha]; simp
    have hx := hb x (by rw [ha]; simp)
    have hq := hp_bound h0 h6 p0 p1 (Int.le_refl _)
    have hq2 := hp_bound h0 h6 hx.1 hx.2 (Int.le_refl _)
    obtain ⟨K, hK⟩ := ev_get (ih (done ++ [x]) (D ++ [x + h * p]) x (by rw [ha]; simp) (by simp [hD]) hx.1 hx.2 (by rw [← hcv]; simp [cv]))
    refine ⟨K + 1, fun k hk => ?_⟩
    obtain ⟨k, rfl⟩ : ∃ m, k = m + 1 := ⟨k - 1, by omega⟩
    have hKk := hK k (by omega)
    have e1 : rd a (done.length : Int) = x := by rw [ha]; exact rd_mid _ _ _
    have e2 : rd (D ++ (h * p) :: List.replicate (rest.length + 1) 0) (done.length : Int) = h * p := by rw [← hD]; exact rd_mid _ _ _
    have e3 : (D ++ (h * p) :: List.replicate (rest.length + 1) 0).set done.length (h * p + x) = D ++ (h * p + x) :: List.replicate (rest.length + 1) 0 := by rw [← hD]; exact set_mid _ _ _ _
    have e4 : D ++ (h * p + x) :: List.replicate (rest.length + 1) 0 = (D ++ [h * p + x]) ++ 0 :: List.replicate rest.length 0 := by simp [List.replicate_succ]
    have e5 : rd ((D ++ [h * p + x]) ++ 0 :: List.replicate rest.length 0) ((done.length : Int) + 1) = 0 := by
      rw [show (done.length : Int) + 1 = ((D ++ [h * p + x]).length : Int) by simp [hD]]; exact rd_mid _ _ _
    have e6 : ((D ++ [h * p + x]) ++ 0 :: List.replicate rest.length 0).set ((done.length : Int) + 1).toNat (0 + h * x) = (D ++ [h * p + x]) ++ (0 + h * x) :: List.replicate rest.length 0 := by
      rw [show ((done.length : Int) + 1).toNat = (D ++ [h * p + x]).length by simp [hD]]; exact set_mid _ _ _ _
    have l1 : (D ++ (h * p) :: List.replicate (rest.length + 1) 0).length = done.length + rest.length + 2 := by simp [hD]; omega
    have l2 : ((D ++ [h * p + x]) ++ 0 :: List.replicate rest.length 0).length = done.length + rest.length + 2 := by simp [hD]; omega
    dsimp only
    rw [List.length_cons, spec_FileNumbers.l1, if_pos (by omega), if_pos (by omega), if_pos (by omega), if_pos (by omega), e1, e2, w64 (h * p + x) (by omega) (by omega), Int.toNat_natCast, e3, Option.bind_some, w64 ((done.length : Int) + 1) (by omega) (by omega), if_pos (by omega), if_pos (by omega), e4, e5, w64 (h * x) (by omega) (by omega), w64 (0 + h * x) (by omega) (by omega), e6]
    rw [← hKk, Int.zero_add, Int.add_comm (h * p) x]
    simp only [List.length_append, List.length_singleton]
    rw [show ((done.length + 1 : Nat) : Int) = (done.length : Int) + 1 by omega]
theorem specFiles_l0 (hs : List Int) (hl : hs.length ≤ 6) (hb : ∀ x ∈ hs, 0 ≤ x ∧ x ≤ 6) : ∀ (rest done : List Int) (a : List Int), hs = done ++ rest → a.length = done.length + 1 → OkN (bd done.length) a →
    Ev (fun k => spec_FileNumbers.l0 k a hs (hs.length : Int) (done.length : Int)) (rest.foldl (fun a h => cv h a 0) a, true) := by
  intro rest
  induction rest with
  | nil =>
    intro done a e hla ha
    have : hs.length = done.length := by rw [e]; simp
    refine ⟨1, fun k hk => ?_⟩
    obtain ⟨k, rfl⟩ : ∃ m, k = m + 1 := ⟨k - 1, by omega⟩
    dsimp only
    rw [spec_FileNumbers.l0, if_neg (by omega)]
    rfl
  | cons x rest ih =>
    intro done a e hla ha
    have hlen : hs.length = done.length + (rest.length + 1) := by rw [e]; simp
    have hx := hb x (by rw [e]; simp)
    have hd := bd_le done.length (by omega)
    have er : rd hs (done.length : Int) = x := by rw [e]; exact rd_mid _ _ _
    have h2 := ih (done ++ [x]) (cv x a 0) (by rw [e]; simp) (by rw [cv_length]; simp [hla]) (by rw [List.length_append, List.length_singleton]; exact okN_step hx.1 hx.2 hd.1 ha)
    rw [List.length_append, List.length_singleton, show ((done.length + 1 : Nat) : Int) = wrap64 ((done.length : Int) + 1) by rw [w64 _ (by omega) (by omega)]; omega] at h2
    obtain ⟨K, hK⟩ := ev_get (specFiles_l1 hs done.length x hx.1 hx.2 a (by omega) (okN_le (by omega) ha) _ h2 a [] [] 0 rfl rfl (by omega) (by omega) rfl)
    refine ⟨K + 1, fun k hk => ?_⟩
    obtain ⟨k, rfl⟩ : ∃ m, k = m + 1 := ⟨k - 1, by omega⟩
    have e2 := hK k (by omega)
    simp only [Int.mul_zero, List.nil_append, List.length_nil] at e2
    dsimp only
    rw [spec_FileNumbers.l0, if_pos (by omega), if_pos (by omega), if_pos (by omega), er, w64 ((a.length : Int) + 1) (by omega) (by omega), if_pos (by omega), if_pos (by omega), show ((a.length : Int) + 1).toNat = a.length + 1 by omega, List.replicate_succ]
    exact e2
theorem specFiles_ev (R C : Int) (l : List Int) (hl : l.length ≤ 1152921504606846976) : Ev (fun k => spec_FileNumbers.f k R C l) (filesR R C l) := by
  obtain ⟨K0, h0⟩ := ev_get (boGood_ev R C l hl)
  unfold filesR
  by_cases h : boardB R C l = true
  · obtain ⟨R, C, rfl, rfl⟩ := board_nat h
    obtain ⟨o1, o2⟩ := heights_ok h
    obtain ⟨K1, h1⟩ := ev_get (fiHeights_ev h)
    obtain ⟨K2, h2⟩ := ev_get (specFiles_l0 (heightsL l R C) o1 o2 (heightsL l R C) [] [1] rfl rfl (fun x hx => by rw [List.mem_singleton] at hx; subst hx; decide))
    refine ⟨K0 + K1 + K2, fun k hk => ?_⟩
    have e := h2 k (by omega)
    simp only [spec_FileNumbers.f, h0 k (by omega), Option.bind_some, if_pos h, h1 k (by omega), Int.toNat_natCast]
    exact e
  · refine ⟨K0, fun k hk => ?_⟩
    simp only [spec_FileNumbers.f, h0 k (by omega), Option.bind_some, if_neg h]
end Go.Proofs.Ytnpacpdpgngdpaa.P
namespace Go.Proofs.Ytnpacpdpgngdpaa.P
open Go.RowKit Go.Proofs.YtnpacpdpgngdpaaW.PrintWords Go.Proofs.YtnpacpdpgngdpaaW.PrintLast Go.Proofs.YtnpacpdpgngdpaaW.PrintMore
set_option linter.unusedVariables false
set_option linter.unusedSimpArgs false
def valueN (x : Int) (hs : List Int) : Int := hs.foldl (fun o h => o * (x + h)) 1
def vb : Nat → Int
  | 0 => 1
  | j + 1 => 106 * vb j
theorem vb_le : ∀ j, j ≤ 6 → 1 ≤ vb j ∧ vb j ≤ 1418519112256 := by
  intro j hj
  obtain rfl | rfl | rfl | rfl | rfl | rfl | rfl : j = 0 ∨ j = 1 ∨ j = 2 ∨ j = 3 ∨ j = 4 ∨ j = 5 ∨ j = 6 := by omega
  all_goals decide
theorem mul_abs {a b A B : Int} (h1 : -A ≤ a) (h2 : a ≤ A) (h3 : -B ≤ b) (h4 : b ≤ B) (hA : 0 ≤ A) (hB : 0 ≤ B) : -(B * A) ≤ a * b ∧ a * b ≤ B * A := by
  rw [Int.mul_comm B A]
  have e : (a * b).natAbs ≤ (A * B).natAbs := by
    rw [Int.natAbs_mul, Int.natAbs_mul]
    exact Nat.mul_le_mul (by omega) (by omega)
  have : 0 ≤ A * B := Int.mul_nonneg hA hB
  omega
theorem value_l0 (l0 : Nat → Int → Int → List Int → Int → Int → Option (Int × Bool))
    (heq : ∀ k x o hs n i, l0 (k + 1) x o hs n i = if i < n then (if 0 ≤ i then (if i < (hs.length : Int) then (l0 k x (wrap64 (o * (wrap64 (x + (rd hs i))))) hs n (wrap64 (i + 1))) else (none)) else (none)) else (some (o, true)))
    (x : Int) (x0 : -100 ≤ x) (x1 : x ≤ 100) (hs : List Int) (hl : hs.length ≤ 6) (hb : ∀ h ∈ hs, 0 ≤ h ∧ h ≤ 6) : ∀ (rest done : List Int) (o : Int), hs = done ++ rest → -vb done.length ≤ o → o ≤ vb done.length →
    Ev (fun k => l0 k x o hs (hs.length : Int) (done.length : Int)) (rest.foldl (fun o h => o * (x + h)) o, true) := by
  intro rest
  induction rest with
  | nil =>
    intro done o e _ _
    have : hs.length = done.length := by rw [e]; simp
    refine ⟨1, fun k hk => ?_⟩
    obtain ⟨k, rfl⟩ : ∃ m, k = m + 1 := ⟨k - 1, by omega⟩
    dsimp only
    rw [heq, if_neg (by omega)]
    rfl
  | cons h rest ih =>
    intro done o e o0 o1
    have hlen : hs.length = done.length + (rest.length + 1) := by rw [e]; simp
    have hx := hb h (by rw [e]; simp)
    have hd := vb_le done.length (by omega)
    have hd2 := vb_le (done.length + 1) (by omega)
    have er : rd hs (done.length : Int) = h := by rw [e]; exact rd_mid _ _ _
    have hm := mul_abs o0 o1 (show -106 ≤ x + h by omega) (show x + h ≤ 106 by omega) (by omega) (by omega)
    have hv : vb (done.length + 1) = 106 * vb done.length := rfl
    obtain ⟨K, hK⟩ := ev_get (ih (done ++ [h]) (o * (x + h)) (by rw [e]; simp) (by rw [List.length_append, List.length_singleton]; omega) (by rw [List.length_append, List.length_singleton]; omega))
    refine ⟨K + 1, fun k hk => ?_⟩
    obtain ⟨k, rfl⟩ : ∃ m, k = m + 1 := ⟨k - 1, by omega⟩
    have e2 := hK k (by omega)
    rw [List.length_append, List.length_singleton, show ((done.length + 1 : Nat) : Int) = (done.length : Int) + 1 by omega] at e2
    dsimp only
    rw [heq, if_pos (by omega), if_pos (by omega), if_pos (by omega), er, w64 (x + h) (by omega) (by omega), w64 (o * (x + h)) (by omega) (by omega), w64 _ (by omega) (by omega), e2, List.foldl_cons]
def valueR (R C : Int) (l : List Int) (x : Int) : Int × Bool := if boardB R C l = true ∧ inB x (-100) 100 = true then (valueN x (heightsL l R.toNat C.toNat), true) else (0, false)
theorem implValue_ev (R C : Int) (l : List Int) (x : Int) : Ev (fun k => impl_FileValue.f k R C l x) (valueR R C l x) := by
  unfold valueR
  by_cases h : boardB R C l = true
  · by_cases hx : inB x (-100) 100 = true
    · obtain ⟨R, C, rfl, rfl⟩ := board_nat h
      obtain ⟨o1, o2⟩ := heights_ok h
      have hx2 : -100 ≤ x ∧ x ≤ 100 := by simpa [inB] using hx
      obtain ⟨K1, h1⟩ := ev_get (heights_ev h)
      obtain ⟨K2, h2⟩ := ev_get (value_l0 impl_FileValue.l0 (fun k x o hs n i => rfl) x hx2.1 hx2.2 (heightsL l R C) o1 o2 (heightsL l R C) [] 1 rfl (by decide) (by decide))
      refine ⟨K1 + K2 + 1, fun k hk => ?_⟩
      obtain ⟨k, rfl⟩ : ∃ m, k = m + 1 := ⟨k - 1, by omega⟩
      have e := h2 k (by omega)
      simp only [impl_FileValue.f, impl_IsBoard.f, Option.bind_some, h, hx, within_eq, if_true, Bool.not_true, impl_FileValue.j0, Bool.false_eq_true, if_false, h1 k (by omega), Int.toNat_natCast, and_self]
      exact e
    · refine ⟨1, fun k hk => ?_⟩
      obtain ⟨k, rfl⟩ : ∃ m, k = m + 1 := ⟨k - 1, by omega⟩
      simp only [Bool.not_eq_true] at hx
      simp only [impl_FileValue.f, impl_IsBoard.f, Option.bind_some, h, hx, within_eq, if_true, Bool.not_false, impl_FileValue.j0, Bool.false_eq_true, and_false, if_false]
  · refine ⟨1, fun k hk => ?_⟩
    obtain ⟨k, rfl⟩ : ∃ m, k = m + 1 := ⟨k - 1, by omega⟩
    simp only [Bool.not_eq_true] at h
    simp only [impl_FileValue.f, impl_IsBoard.f, Option.bind_some, h, Bool.false_eq_true, if_false, impl_FileValue.j0, if_true, false_and]
theorem specValue_ev (R C : Int) (l : List Int) (x : Int) (hl : l.length ≤ 1152921504606846976) : Ev (fun k => spec_FileValue.f k R C l x) (valueR R C l x) := by
  obtain ⟨K0, h0⟩ := ev_get (boGood_ev R C l hl)
  unfold valueR
  by_cases h : boardB R C l = true
  · by_cases hx : inB x (-100) 100 = true
    · obtain ⟨R, C, rfl, rfl⟩ := board_nat h
      obtain ⟨o1, o2⟩ := heights_ok h
      have hx2 : -100 ≤ x ∧ x ≤ 100 := by simpa [inB] using hx
      obtain ⟨K1, h1⟩ := ev_get (fiHeights_ev h)
      obtain ⟨K2, h2⟩ := ev_get (value_l0 spec_FileValue.l0 (fun k x o hs n i => rfl) x hx2.1 hx2.2 (heightsL l R C) o1 o2 (heightsL l R C) [] 1 rfl (by decide) (by decide))
      refine ⟨K0 + K1 + K2 + 1, fun k hk => ?_⟩
      obtain ⟨k, rfl⟩ : ∃ m, k = m + 1 := ⟨k - 1, by omega⟩
      have e := h2 k (by omega)
      simp only [spec_FileValue.f, h0 (k + 1) (by omega), Option.bind_some, h, hx, l1In_eq, if_true, Bool.not_true, spec_FileValue.j0, Bool.false_eq_true, if_false, h1 k (by omega), Int.toNat_natCast, and_self]
      exact e
    · refine ⟨K0 + 1, fun k hk => ?_⟩
      obtain ⟨k, rfl⟩ : ∃ m, k = m + 1 := ⟨k - 1, by omega⟩
      simp only [Bool.not_eq_true] at hx
      simp only [spec_FileValue.f, h0 (k + 1) (by omega), Option.bind_some, h, hx, l1In_eq, if_true, Bool.not_false, spec_FileValue.j0, Bool.false_eq_true, and_false, if_false]
  · refine ⟨K0 + 1, fun k hk => ?_⟩
    obtain ⟨k, rfl⟩ : ∃ m, k = m + 1 := ⟨k - 1, by omega⟩
    simp only [Bool.not_eq_true] at h
    simp only [spec_FileValue.f, h0 (k + 1) (by omega), Option.bind_some, h, Bool.false_eq_true, if_false, spec_FileValue.j0, if_true, false_and]
def hornN (x : Int) (s : Int) (l : List Int) : Int := l.foldl (fun s f => s * x + f) s
theorem horn_cv (x h : Int) : ∀ (a : List Int) (p A A' : Int), A = A' * x + p → hornN x (A + h * A') (cv h a p) = hornN x A a * (x + h)
  | [], p, A, A', e => by
    show (A + h * A') * x + h * p = A * (x + h)
    subst e
    simp only [Int.mul_add, Int.add_mul, Int.mul_comm, Int.mul_left_comm]
    omega
  | y :: a, p, A, A', e => by
    rw [cv]
    unfold hornN
    rw [List.foldl_cons, List.foldl_cons]
    have e2 : (A + h * A') * x + (y + h * p) = (A * x + y) + h * A := by
      subst e
      simp only [Int.mul_add, Int.add_mul, Int.mul_comm, Int.mul_left_comm]
      omega
    rw [e2]
    exact horn_cv x h a y (A * x + y) A rfl
theorem horn_files (x : Int) : ∀ (hs a : List Int), hornN x 0 (hs.foldl (fun a h => cv h a 0) a) = hs.foldl (fun o h => o * (x + h)) (hornN x 0 a)
  | [], a => rfl
  | h :: hs, a => by
    rw [List.foldl_cons, List.foldl_cons, horn_files x hs (cv h a 0)]
    have := horn_cv x h a 0 0 0 (by simp)
    simp only [Int.mul_zero, Int.add_zero] at this
    rw [this]
theorem horn_value (x : Int) (hs : List Int) : hornN x 0 (fileN hs) = valueN x hs := by
  unfold fileN valueN
  rw [horn_files, show hornN x 0 [1] = 1 by unfold hornN; simp]
def fileB (R : Int) (l f : List Int) : Nat → Nat → Bool
  | 0, _ => true
  | d + 1, i => if rd f (i : Int) = -1 then fileB R l f d (i + 1) else if inB (rd f (i : Int)) 0 (R - 1) = true then (if hasC l (rd f (i : Int)) (i : Int) = true then fileB R l f d (i + 1) else false) else false
theorem isFile_l0 {R C : Int} {l f : List Int} (h : boardB R C l = true) (hf : (f.length : Int) = C) : ∀ (d i : Nat), f.length - i = d → i ≤ f.length →
    Ev (fun k => impl_Board_isFile.l0 k f (f.length : Int) (i : Int) R C l) (fileB R l f d i) := by
  have hb := (boardB_iff _ _ _).1 h
  intro d
  induction d with
  | zero =>
    intro i hd hi
    refine ⟨1, fun k hk => ?_⟩
    obtain ⟨k, rfl⟩ : ∃ m, k = m + 1 := ⟨k - 1, by omega⟩
    dsimp only
    rw [impl_Board_isFile.l0, if_neg (by omega)]
    rfl
  | succ d ih =>
    intro i hd hi
    obtain ⟨K, hK⟩ := ev_get (ih (i + 1) (by omega) (by omega))
    refine ⟨K + 1, fun k hk => ?_⟩
    obtain ⟨k, rfl⟩ : ∃ m, k = m + 1 := ⟨k - 1, by omega⟩
    dsimp only
    rw [impl_Board_isFile.l0, if_pos (by omega), if_pos (by omega), if_pos (by omega), w64 ((i : Int) + 1) (by omega) (by omega), w64 (R - 1) (by omega) (by omega), show ((i : Int) + 1) = ((i + 1 : Nat) : Int) by omega, hK k (by omega), within_eq, Option.bind_some]
    simp only [fileB]
    split
    · rfl
    split
    · rename_i h2
      have h3 : 0 ≤ rd f (i : Int) ∧ rd f (i : Int) ≤ R - 1 := by simpa [inB] using h2
      rw [has_eq h h3.1 (by omega) (by omega) (by omega), Option.bind_some]
      split <;> rfl
    · rfl
theorem fiGood_l0 {R C : Int} {l f : List Int} (h : boardB R C l = true) (hf : (f.length : Int) = C) (hr : allIn f (-1) (R - 1) = true) : ∀ (d i : Nat), f.length - i = d → i ≤ f.length →
    Ev (fun k => spec_fiGood.l0 k f (f.length : Int) (i : Int) R C l) (fileB R l f d i) := by
  have hb := (boardB_iff _ _ _).1 h
  intro d
  induction d with
  | zero =>
    intro i hd hi
    refine ⟨1, fun k hk => ?_⟩
    obtain ⟨k, rfl⟩ : ∃ m, k = m + 1 := ⟨k - 1, by omega⟩
    dsimp only
    rw [spec_fiGood.l0, if_neg (by omega)]
    rfl
  | succ d ih =>
    intro i hd hi
    have hi2 : i < f.length := by omega
    have hin : -1 ≤ rd f (i : Int) ∧ rd f (i : Int) ≤ R - 1 := by
      unfold allIn at hr
      rw [List.all_eq_true] at hr
      have := hr _ (List.getElem_mem hi2)
      rw [rd_nat _ _ hi2]
      simpa [inB] using this
    obtain ⟨K, hK⟩ := ev_get (ih (i + 1) (by omega) (by omega))
    refine ⟨K + 1, fun k hk => ?_⟩
    obtain ⟨k, rfl⟩ : ∃ m, k = m + 1 := ⟨k - 1, by omega⟩
    dsimp only
    rw [spec_fiGood.l0, if_pos (by omega), if_pos (by omega), if_pos (by omega), w64 ((i : Int) + 1) (by omega) (by omega), show ((i : Int) + 1) = ((i + 1 : Nat) : Int) by omega, hK k (by omega)]
    simp only [fileB]
    by_cases h2 : rd f (i : Int) = -1
    · rw [if_pos h2, if_neg (by omega)]
    · rw [if_neg h2, if_pos (by omega), boHas_eq h (by omega) (by omega) (by omega), Option.bind_some, if_pos (show inB (rd f (i : Int)) 0 (R - 1) = true by simp [inB]; omega)]
      split <;> rfl
theorem fileB_out {R : Int} {l f : List Int} (hR : 1 ≤ R) : ∀ (d i : Nat), f.length - i = d → i ≤ f.length → (∃ j, i ≤ j ∧ ∃ h : j < f.length, ¬ (-1 ≤ f[j] ∧ f[j] ≤ R - 1)) → fileB R l f d i = false
  | 0, i, hd, hi, ⟨j, h1, h2, _⟩ => by omega
  | d + 1, i, hd, hi, ⟨j, h1, h2, h3⟩ => by
    have hi2 : i < f.length := by omega
    simp only [fileB]
    by_cases e : i = j
    · subst e
      rw [rd_nat _ _ hi2, if_neg (by omega), if_neg (by simp [inB]; omega)]
    · have := fileB_out (R := R) (l := l) (f := f) hR d (i + 1) (by omega) (by omega) ⟨j, by omega, h2, h3⟩
      rw [this]
      split
      · rfl
      · split
        · split <;> rfl
        · rfl
def isFileR (R C : Int) (l f : List Int) : Bool × Bool := if boardB R C l = true ∧ (f.length : Int) = C ∧ allIn f (-1) 999 = true then (fileB R l f f.length 0, true) else (false, false)
theorem implIsFile_ev (R C : Int) (l f : List Int) (hl : f.length ≤ 1152921504606846976) : Ev (fun k => impl_IsFilePlacement.f k R C l f) (isFileR R C l f) := by
  unfold isFileR
  by_cases h : boardB R C l = true
  · by_cases hf : (f.length : Int) = C
    · have hfn : impl_IsFilePlacement_1.fn = fun m => some (!(inB m (-1) 999)) := by
        funext m
        simp only [impl_IsFilePlacement_1.fn, impl_IsFilePlacement_1.f, within_eq, Option.bind_some]
      have hc := impl_IsBoard.contains f (fun m => !(inB m (-1) 999)) hl
      have he : f.any (fun m => !(inB m (-1) 999)) = !(allIn f (-1) 999) := by
        unfold allIn
        rw [List.not_all_eq_any_not]
      rw [he] at hc
      obtain ⟨K0, h0⟩ := ev_get (Ev.of (slices_ContainsFunc_int_int_215.mono f impl_IsFilePlacement_1.fn) (by rw [hfn]; exact hc))
      obtain ⟨K, hK⟩ := ev_get (isFile_l0 h hf f.length 0 (by omega) (by omega))
      refine ⟨K0 + K, fun k hk => ?_⟩
      have e := hK k (by omega)
      simp only [impl_IsFilePlacement.f, impl_IsBoard.f, Option.bind_some, h, if_true, hf, h0 k (by omega)]
      cases ha : allIn f (-1) 999 with
      | false => simp
      | true =>
        simp only [Bool.not_true, Bool.false_eq_true, if_false, impl_Board_isFile.f, if_pos hf, and_self, if_true, hf]
        rw [hf] at e
        rw [show ((0 : Nat) : Int) = 0 from rfl] at e
        rw [e]
        rfl
    · refine ⟨0, fun k hk => ?_⟩
      simp only [impl_IsFilePlacement.f, impl_IsBoard.f, Option.bind_some, h, if_true, if_neg hf, hf, false_and, and_false, if_false]
  · refine ⟨0, fun k hk => ?_⟩
    simp only [Bool.not_eq_true] at h
    simp only [impl_IsFilePlacement.f, impl_IsBoard.f, Option.bind_some, h, Bool.false_eq_true, if_false, false_and]
theorem specIsFile_ev (R C : Int) (l f : List Int) (hb : l.length ≤ 1152921504606846976) (hl : f.length ≤ 1152921504606846976) : Ev (fun k => spec_IsFilePlacement.f k R C l f) (isFileR R C l f) := by
  obtain ⟨K0, h0⟩ := ev_get (boGood_ev R C l hb)
  unfold isFileR
  by_cases h : boardB R C l = true
  · by_cases hf : (f.length : Int) = C
    · obtain ⟨K1, h1⟩ := ev_get (l1All_ev f (-1) 999 hl)
      have hbb := (boardB_iff _ _ _).1 h
      cases ha : allIn f (-1) 999 with
      | false =>
        refine ⟨K0 + K1, fun k hk => ?_⟩
        simp only [spec_IsFilePlacement.f, h0 k (by omega), Option.bind_some, h, if_true, if_pos hf, h1 k (by omega), ha, Bool.false_eq_true, if_false, and_false]
      | true =>
        obtain ⟨K2, h2⟩ := ev_get (l1All_ev f (-1) (R - 1) hl)
        cases hr : allIn f (-1) (R - 1) with
        | true =>
          obtain ⟨K3, h3⟩ := ev_get (fiGood_l0 h hf hr f.length 0 (by omega) (by omega))
          refine ⟨K0 + K1 + K2 + K3 + 1, fun k hk => ?_⟩
          obtain ⟨k, rfl⟩ : ∃ m, k = m + 1 := ⟨k - 1, by omega⟩
          have e := h3 k (by omega)
          simp only [spec_IsFilePlacement.f, h0 (k + 1) (by omega), Option.bind_some, h, if_true, if_pos hf, h1 (k + 1) (by omega), ha, spec_fiGood.f, w64 (R - 1) (by omega) (by omega), h2 (k + 1) (by omega), hr, Bool.not_true, spec_fiGood.j0, Bool.false_eq_true, if_false, hf, and_self]
          rw [hf] at e
          rw [show ((0 : Nat) : Int) = 0 from rfl] at e
          rw [e]
          rfl
        | false =>
          have ho : fileB R l f f.length 0 = false := by
            refine fileB_out (by omega) f.length 0 (by omega) (by omega) ?_
            unfold allIn at hr
            rw [List.all_eq_false] at hr
            obtain ⟨x, hx, hx2⟩ := hr
            obtain ⟨j, hj, rfl⟩ := List.getElem_of_mem hx
            exact ⟨j, by omega, hj, fun hh => hx2 (by simp [inB]; omega)⟩
          refine ⟨K0 + K1 + K2 + 1, fun k hk => ?_⟩
          obtain ⟨k, rfl⟩ : ∃ m, k = m + 1 := ⟨k - 1, by omega⟩
          simp only [spec_IsFilePlacement.f, h0 (k + 1) (by omega), Option.bind_some, h, if_true, if_pos hf, h1 (k + 1) (by omega), ha, spec_fiGood.f, w64 (R - 1) (by omega) (by omega), h2 (k + 1) (by omega), hr, Bool.not_false, spec_fiGood.j0, hf, and_self, ho]
    · refine ⟨K0, fun k hk => ?_⟩
      simp only [spec_IsFilePlacement.f, h0 k (by omega), Option.bind_some, h, if_true, if_neg hf, hf, false_and, and_false, if_false]
  · refine ⟨K0, fun k hk => ?_⟩
    simp only [Bool.not_eq_true] at h
    simp only [spec_IsFilePlacement.f, h0 k (by omega), Option.bind_some, h, Bool.false_eq_true, if_false, false_and]
end Go.Proofs.Ytnpacpdpgngdpaa.P
namespace Go.Proofs.Ytnpacpdpgngdpaa.P
open Go.RowKit Go.Proofs.YtnpacpdpgngdpaaW.PrintWords Go.Proofs.YtnpacpdpgngdpaaW.PrintLast Go.Proofs.YtnpacpdpgngdpaaW.PrintMore
set_option linter.unusedVariables false
set_option linter.unusedSimpArgs false
theorem kSame_l0 (a : List Int) (hb : a.length ≤ 1152921504606846976) : ∀ (d i : Nat) (k : Nat), a.length - i = d → i ≤ a.length → d < k →
    laws_kSame.l0 k a a (a.length : Int) (i : Int) = some true := by
  intro d
  induction d with
  | zero =>
    intro i k hd hi hk
    obtain ⟨k, rfl⟩ : ∃ m, k = m + 1 := ⟨k - 1, by omega⟩
    rw [laws_kSame.l0, if_neg (by omega)]
  | succ d ih =>
    intro i k hd hi hk
    obtain ⟨k, rfl⟩ : ∃ m, k = m + 1 := ⟨k - 1, by omega⟩
    rw [laws_kSame.l0, if_pos (by omega), if_pos (by omega), if_pos (by omega), if_pos (by omega), if_pos rfl, w64 _ (by omega) (by omega), show ((i : Int) + 1) = ((i + 1 : Nat) : Int) by omega]
    exact ih (i + 1) k (by omega) (by omega) (by omega)
theorem kSame_refl (a : List Int) (hb : a.length ≤ 1152921504606846976) : Ev (fun k => laws_kSame.f k a a) true := by
  refine ⟨a.length + 1, fun k hk => ?_⟩
  simp only [laws_kSame.f, if_true]
  exact kSame_l0 a hb a.length 0 k (by omega) (by omega) (by omega)
end Go.Proofs.Ytnpacpdpgngdpaa.P
namespace Go.Proofs.Ytnpacpdpgngdpaa.Pure
open Go.RowKit Go.Proofs.Ytnpacpdpgngdpaa.P Go.Proofs.YtnpacpdpgngdpaaW.PrintWords Go.Proofs.YtnpacpdpgngdpaaW.PrintLast
set_option linter.unusedSimpArgs false
set_option linter.unusedVariables false
namespace FnFilesCounted
theorem drawBoard_ok {s : List Int} (hs : Bytes s) : ∃ R C l, Ev (fun k => spec_DrawFileNumbers.f k s) (R, C, l) ∧ l.length ≤ 7 := by
  obtain ⟨R, C, l, a, b, e, hl, _, _, _, _⟩ := board_ok hs 0 0 (by omega) (by omega)
  obtain ⟨K, hK⟩ := ev_get e
  refine ⟨R, C, l, ⟨K, fun k hk => ?_⟩, hl⟩
  simp only [spec_DrawFileNumbers.f, hK k hk, Option.bind_some]
theorem drawValue_ok {s : List Int} (hs : Bytes s) : ∃ R C l x, Ev (fun k => spec_DrawFileValue.f k s) (R, C, l, x) ∧ l.length ≤ 7 := by
  obtain ⟨R, C, l, a, b, e, hl, _, _, h2, h3⟩ := board_ok hs 0 0 (by omega) (by omega)
  obtain ⟨x, a2, b2, e2, _, _, _⟩ := among_ok hs a b [0, 1, (-1), (-3), 7, 100, (-100), 101, (-101)] (by simp) (by omega) (by omega)
  obtain ⟨K, hK⟩ := ev_get e
  refine ⟨R, C, l, x, ⟨K, fun k hk => ?_⟩, hl⟩
  simp only [spec_DrawFileValue.f, hK k hk, Option.bind_some, e2]
theorem drawArrow_ok {s : List Int} (hs : Bytes s) : ∃ n, spec_DrawArrowBoard.f s = some n ∧ -1 ≤ n ∧ n ≤ 7 := by
  obtain ⟨x, a1, b1, e1, h1, h2, h3⟩ := among_ok hs 0 0 [1, 2, 3, 4, 5, 6, 7, 0, (-1)] (by simp) (by omega) (by omega)
  refine ⟨x, by simp only [spec_DrawArrowBoard.f, e1, Option.bind_some], ?_⟩
  simp only [List.mem_cons, List.not_mem_nil, or_false] at h1
  omega
theorem draw_j1 {s : List Int} (hs : Bytes s) (f : List Int) (hf : f.length ≤ 7) (a b R C : Int) (l : List Int) (h0 : 0 ≤ a) (h1 : a ≤ 1000000) :
    ∃ g, (∀ k, spec_DrawIsFilePlacement.j1 (k + 1) f s a b R C l = some (R, C, l, g)) ∧ g.length ≤ 8 := by
  obtain ⟨x, a1, b1, e1, h2, h3⟩ := one_ok hs a b 12 h0 (by omega)
  cases x with
  | false => exact ⟨f, fun k => by rw [spec_DrawIsFilePlacement.j1, e1, Option.bind_some, if_neg (by simp)], by omega⟩
  | true =>
    obtain ⟨y, a2, b2, e2, _, _, _⟩ := among_ok hs a1 b1 [(-1), 0, 999, 1000, (-2)] (by simp) (by omega) (by omega)
    exact ⟨f ++ [y], fun k => by rw [spec_DrawIsFilePlacement.j1, e1, Option.bind_some, if_pos rfl, e2, Option.bind_some, if_pos (by omega)], by simp; omega⟩
theorem draw_step (k : Nat) (f : List Int) (i : Int) (s : List Int) (a b R C : Int) (l : List Int) (x a1 b1 : Int) (hi : i < C) (hf : f.length < 17592186044416) (e1 : spec_l1Cur_pick.f s a b R = some (x, a1, b1)) (t : Bool) (e2 : spec_boHas.f R C l x i = some t) (z : Bool) (a2 b2 : Int) (e3 : spec_l1Cur_one.f s a1 b1 12 = some (z, a2, b2)) :
    spec_DrawIsFilePlacement.l0 (k + 1) f i s a b R C l = spec_DrawIsFilePlacement.l0 k (f ++ [if t = true then x else if z = true then x else -1]) (wrap64 (i + 1)) s (if t = true then a1 else a2) (if t = true then b1 else b2) R C l := by
  rw [spec_DrawIsFilePlacement.l0, if_pos hi, e1, Option.bind_some, e2, Option.bind_some]
  cases t with
  | true => simp only [if_true, if_pos hf]
  | false =>
    simp only [Bool.false_eq_true, if_false, e3, Option.bind_some, if_pos hf]
    cases z <;> simp
theorem draw_l0 {s : List Int} (hs : Bytes s) {R C : Nat} {l : List Int} (h : boardB (R : Int) (C : Int) l = true) : ∀ (d i : Nat) (f : List Int) (a b : Int), C - i = d → i ≤ C → f.length = i → 0 ≤ a → a ≤ 1000 + 10 * i →
    ∃ g, Ev (fun k => spec_DrawIsFilePlacement.l0 k f (i : Int) s a b (R : Int) (C : Int) l) ((R : Int), (C : Int), l, g) ∧ g.length ≤ 8 := by
  have hb := (boardB_iff _ _ _).1 h
  intro d
  induction d with
  | zero =>
    intro i f a b hd hi hf h0 h1
    obtain ⟨g, e, hg⟩ := draw_j1 hs f (by omega) a b (R : Int) (C : Int) l h0 (by omega)
    refine ⟨g, ⟨2, fun k hk => ?_⟩, hg⟩
    obtain ⟨k, rfl⟩ : ∃ m, k = m + 2 := ⟨k - 2, by omega⟩
    dsimp only
    rw [spec_DrawIsFilePlacement.l0, if_neg (by omega)]
    exact e k
  | succ d ih =>
    intro i f a b hd hi hf h0 h1
    obtain ⟨x, a1, b1, e1, h2, h3, h4, h5⟩ := pick_ok hs a b (R : Int) h0 (by omega)
    obtain ⟨z, a2, b2, e3, h6, h7⟩ := one_ok hs a1 b1 12 (by omega) (by omega)
    have q1 : C - (i + 1) = d := by omega
    have q2 : i + 1 ≤ C := by omega
    have q6 : (i : Int) < (C : Int) := by omega
    have q7 : f.length < 17592186044416 := by omega
    have q4 : ∀ t : Bool, 0 ≤ (if t = true then a1 else a2) ∧ (if t = true then a1 else a2) ≤ 1000 + 10 * ((i + 1 : Nat) : Int) := by
      intro t
      cases t
      · rw [if_neg (by simp)]; omega
      · rw [if_pos rfl]; omega
    obtain ⟨t, e2⟩ : ∃ t, spec_boHas.f (R : Int) (C : Int) l x (i : Int) = some t := ⟨_, boHas_eq h (show 0 ≤ x by omega) (show x < (R : Int) by omega) (show 0 ≤ (i : Int) by omega)⟩
    have e0 : wrap64 ((i : Int) + 1) = ((i + 1 : Nat) : Int) := by rw [w64 _ (by omega) (by omega)]; omega
    obtain ⟨y, hy⟩ : ∃ y : Int, y = if t = true then x else if z = true then x else -1 := ⟨_, rfl⟩
    obtain ⟨g, ⟨K, hK⟩, hg⟩ := ih (i + 1) (f ++ [y]) (if t = true then a1 else a2) (if t = true then b1 else b2) q1 q2 (by rw [List.length_append, List.length_singleton, hf]) (q4 t).1 (q4 t).2
    refine ⟨g, ⟨K + 1, fun k hk => ?_⟩, hg⟩
    obtain ⟨k, rfl⟩ : ∃ m, k = m + 1 := ⟨k - 1, by omega⟩
    have hh := draw_step k f (i : Int) s a b (R : Int) (C : Int) l x a1 b1 q6 q7 e1 t e2 z a2 b2 e3
    rw [e0, ← hy] at hh
    exact hh.trans (hK k (Nat.le_of_succ_le_succ hk))
theorem drawFile_ok {s : List Int} (hs : Bytes s) : ∃ R C l g, Ev (fun k => spec_DrawIsFilePlacement.f k s) (R, C, l, g) ∧ l.length ≤ 7 ∧ g.length ≤ 8 := by
  obtain ⟨R, C, l, a, b, e, hl, _, _, h2, h3⟩ := board_ok hs 0 0 (by omega) (by omega)
  obtain ⟨K, hK⟩ := ev_get e
  obtain ⟨K2, hK2⟩ := ev_get (boGood_ev R C l (by omega))
  by_cases h : boardB R C l = true
  · obtain ⟨R, C, rfl, rfl⟩ := board_nat h
    obtain ⟨g, e3, hg⟩ := draw_l0 hs h C 0 [] a b (by omega) (by omega) rfl h2 (by omega)
    obtain ⟨K3, hK3⟩ := ev_get e3
    refine ⟨R, C, l, g, ⟨K + K2 + K3, fun k hk => ?_⟩, hl, hg⟩
    simp only [spec_DrawIsFilePlacement.f, hK k (by omega), Option.bind_some, hK2 k (by omega), h, if_true]
    exact hK3 k (by omega)
  · obtain ⟨g, e3, hg⟩ := draw_j1 hs [] (by simp) a b R C l h2 (by omega)
    refine ⟨R, C, l, g, ⟨K + K2 + 1, fun k hk => ?_⟩, hl, hg⟩
    obtain ⟨k, rfl⟩ : ∃ m, k = m + 1 := ⟨k - 1, by omega⟩
    simp only [Bool.not_eq_true] at h
    simp only [spec_DrawIsFilePlacement.f, hK (k + 1) (by omega), Option.bind_some, hK2 (k + 1) (by omega), h, Bool.false_eq_true, if_false]
    exact e3 k
def arr (n : Int) : Int × Int × List Int × Bool := (impl_ArrowBoard.f 100 n).getD (0, 0, [], false)
theorem arr_ok : ∀ n : Fin 9, impl_ArrowBoard.f 100 ((n.val : Int) - 1) = some (arr ((n.val : Int) - 1)) ∧ spec_ArrowBoard.f 100 ((n.val : Int) - 1) = some (arr ((n.val : Int) - 1)) ∧ (arr ((n.val : Int) - 1)).2.2.1.length ≤ 6 := by decide +kernel
def rkL (n : Int) : List Int := ((impl_RookNumbers.f 300 (arr n).1 (arr n).2.1 (arr n).2.2.1).getD ([], false)).1
def flL (n : Int) : List Int := ((impl_FileNumbers.f 300 (arr n).1 (arr n).2.1 (arr n).2.2.1).getD ([], false)).1
theorem num_ok : ∀ n : Fin 9, (arr ((n.val : Int) - 1)).2.2.2 = true → (2 ≤ n.val ∧ n.val ≤ 7) ∧ impl_RookNumbers.f 300 (arr ((n.val : Int) - 1)).1 (arr ((n.val : Int) - 1)).2.1 (arr ((n.val : Int) - 1)).2.2.1 = some (rkL ((n.val : Int) - 1), true) ∧ impl_FileNumbers.f 300 (arr ((n.val : Int) - 1)).1 (arr ((n.val : Int) - 1)).2.1 (arr ((n.val : Int) - 1)).2.2.1 = some (flL ((n.val : Int) - 1), true) ∧ (rkL ((n.val : Int) - 1)).length = n.val ∧ (flL ((n.val : Int) - 1)).length = n.val := by decide +kernel
theorem st_ok : ∀ n : Fin 7, ∀ i : Fin 7, 1 ≤ n.val → i.val ≤ n.val → impl_StirlingSecond.f 400 (n.val : Int) ((n.val : Int) - (i.val : Int)) = some (rd (rkL (n.val : Int)) (i.val : Int), true) ∧ impl_StirlingFirst.f 400 (n.val : Int) ((n.val : Int) - (i.val : Int)) = some (rd (flL (n.val : Int)) (i.val : Int), true) := by decide +kernel
theorem last_ev {s : List Int} (hs : Bytes s) : Ev (fun k => (spec_DrawIsFilePlacement.f k s).bind fun b => ((impl_IsFilePlacement.f k b.1 b.2.1 b.2.2.1 b.2.2.2).bind fun c => ((spec_IsFilePlacement.f k b.1 b.2.1 b.2.2.1 b.2.2.2).bind fun d => (if (c.2 == d.2) = true then (some (c.1 == d.1)) else (none))))) true := by
  obtain ⟨R, C, l, g, e, hl, hg⟩ := drawFile_ok hs
  obtain ⟨K, hK⟩ := ev_get e
  obtain ⟨K1, k1⟩ := ev_get (implIsFile_ev R C l g (by omega))
  obtain ⟨K2, k2⟩ := ev_get (specIsFile_ev R C l g (by omega) (by omega))
  refine ⟨K + K1 + K2, fun k hk => ?_⟩
  simp only [hK k (by omega), Option.bind_some, k1 k (by omega), k2 k (by omega), beq_self_eq_true, if_true]
theorem l1_ev {s : List Int} (hs : Bytes s) (n : Nat) (h1 : 1 ≤ n) (h6 : n ≤ 6) (hr : (rkL (n : Int)).length = n + 1) (hf : (flL (n : Int)).length = n + 1) : ∀ (d i : Nat), n + 1 - i = d → i ≤ n + 1 →
    Ev (fun k => laws_FnFilesCounted.l1 k s (n : Int) (rkL (n : Int)) (flL (n : Int)) (i : Int)) true := by
  intro d
  induction d with
  | zero =>
    intro i hd hi
    obtain ⟨K, hK⟩ := ev_get (last_ev hs)
    refine ⟨K + 1, fun k hk => ?_⟩
    obtain ⟨k, rfl⟩ : ∃ m, k = m + 1 := ⟨k - 1, by omega⟩
    dsimp only
    rw [laws_FnFilesCounted.l1, if_neg (by omega)]
    exact hK k (by omega)
  | succ d ih =>
    intro i hd hi
    obtain ⟨K, hK⟩ := ev_get (ih (i + 1) (by omega) (by omega))
    have hst := st_ok ⟨n, by omega⟩ ⟨i, by omega⟩ h1 (by simp only; omega)
    simp only at hst
    obtain ⟨K1, k1⟩ := ev_get (Ev.of (impl_StirlingSecond.mono (n : Int) ((n : Int) - (i : Int))) hst.1)
    obtain ⟨K2, k2⟩ := ev_get (Ev.of (impl_StirlingFirst.mono (n : Int) ((n : Int) - (i : Int))) hst.2)
    refine ⟨K + K1 + K2 + 1, fun k hk => ?_⟩
    obtain ⟨k, rfl⟩ : ∃ m, k = m + 1 := ⟨k - 1, by omega⟩
    have e := hK k (by omega)
    rw [show ((i + 1 : Nat) : Int) = (i : Int) + 1 by omega] at e
    dsimp only
    rw [laws_FnFilesCounted.l1, if_pos (by omega), w64 ((n : Int) - (i : Int)) (by omega) (by omega), k1 k (by omega), Option.bind_some, k2 k (by omega), Option.bind_some, if_pos rfl, if_pos rfl, if_pos (by omega), if_pos (by omega), if_pos rfl, if_pos (by omega), if_pos rfl, w64 _ (by omega) (by omega)]
    exact e
theorem j3_ev {s : List Int} (hs : Bytes s) : Ev (fun k => laws_FnFilesCounted.j3 k s) true := by
  obtain ⟨n, hn, h0, h7⟩ := drawArrow_ok hs
  obtain ⟨m, rfl⟩ : ∃ m : Nat, n = (m : Int) - 1 := ⟨(n + 1).toNat, by omega⟩
  obtain ⟨hA, hB, hL⟩ := arr_ok ⟨m, by omega⟩
  have hN := num_ok ⟨m, by omega⟩
  simp only at hA hB hL hN
  obtain ⟨K1, k1⟩ := ev_get (Ev.of (impl_ArrowBoard.mono ((m : Int) - 1)) hA)
  obtain ⟨K2, k2⟩ := ev_get (Ev.of (spec_ArrowBoard.mono ((m : Int) - 1)) hB)
  obtain ⟨K3, k3⟩ := ev_get (kSame_refl (arr ((m : Int) - 1)).2.2.1 (by omega))
  cases ht : (arr ((m : Int) - 1)).2.2.2 with
  | false =>
    obtain ⟨K4, k4⟩ := ev_get (last_ev hs)
    refine ⟨K1 + K2 + K3 + K4 + 2, fun k hk => ?_⟩
    obtain ⟨k, rfl⟩ : ∃ m, k = m + 2 := ⟨k - 2, by omega⟩
    simp only [laws_FnFilesCounted.j3, hn, Option.bind_some, k1 (k + 1) (by omega), k2 (k + 1) (by omega), bne_self_eq_false, Bool.false_eq_true, if_false, laws_kBoard.f, if_true, k3 (k + 1) (by omega), Bool.not_true, laws_FnFilesCounted.j4, ht]
    exact k4 k (by omega)
  | true =>
    obtain ⟨⟨m2, m7⟩, hR, hF, lR, lF⟩ := hN ht
    obtain ⟨n, rfl⟩ : ∃ n, m = n + 1 := ⟨m - 1, by omega⟩
    have ec : ((n + 1 : Nat) : Int) - 1 = (n : Int) := by omega
    rw [ec] at hR hF lR lF k1 k2 k3 ht hn
    obtain ⟨K4, k4⟩ := ev_get (Ev.of (impl_RookNumbers.mono (arr (n : Int)).1 (arr (n : Int)).2.1 (arr (n : Int)).2.2.1) hR)
    obtain ⟨K5, k5⟩ := ev_get (Ev.of (impl_FileNumbers.mono (arr (n : Int)).1 (arr (n : Int)).2.1 (arr (n : Int)).2.2.1) hF)
    obtain ⟨K6, k6⟩ := ev_get (l1_ev hs n (by omega) (by omega) lR lF (n + 1) 0 (by omega) (by omega))
    refine ⟨K1 + K2 + K3 + K4 + K5 + K6 + 3, fun k hk => ?_⟩
    obtain ⟨k, rfl⟩ : ∃ m, k = m + 3 := ⟨k - 3, by omega⟩
    simp only [laws_FnFilesCounted.j3, hn, Option.bind_some, k1 (k + 2) (by omega), k2 (k + 2) (by omega), bne_self_eq_false, Bool.false_eq_true, if_false, laws_kBoard.f, if_true, k3 (k + 2) (by omega), Bool.not_true, laws_FnFilesCounted.j4, ht, k4 (k + 1) (by omega), k5 (k + 1) (by omega), laws_FnFilesCounted.j5]
    exact k6 k (by omega)
def hb : Nat → Int
  | 0 => 0
  | j + 1 => 101 * hb j + 117649
theorem hb_le : ∀ j, j ≤ 7 → 0 ≤ hb j ∧ hb j ≤ 200000000000000000 := by
  intro j hj
  obtain rfl | rfl | rfl | rfl | rfl | rfl | rfl | rfl : j = 0 ∨ j = 1 ∨ j = 2 ∨ j = 3 ∨ j = 4 ∨ j = 5 ∨ j = 6 ∨ j = 7 := by omega
  all_goals decide
theorem l0_step (k : Nat) (s : List Int) (x v : Int) (t : Bool) (sum : Int) (fs : List Int) (n i : Int) (hi : i < n) (h0 : 0 ≤ i) (h1 : i < (fs.length : Int)) :
    laws_FnFilesCounted.l0 (k + 1) s x v t sum fs n i = laws_FnFilesCounted.l0 k s x v t (wrap64 ((wrap64 (sum * x)) + (rd fs i))) fs n (wrap64 (i + 1)) := by
  rw [laws_FnFilesCounted.l0, if_pos hi, if_pos h0, if_pos h1]
theorem l0_ev {s : List Int} (hs : Bytes s) (x : Int) (x0 : -100 ≤ x) (x1 : x ≤ 100) (fs : List Int) (hl : fs.length ≤ 7) (hf : OkN 117649 fs) (v : Int) : ∀ (rest done : List Int) (sum : Int), fs = done ++ rest → -hb done.length ≤ sum → sum ≤ hb done.length → hornN x sum rest = v →
    Ev (fun k => laws_FnFilesCounted.l0 k s x v true sum fs (fs.length : Int) (done.length : Int)) true := by
  intro rest
  induction rest with
  | nil =>
    intro done sum e _ _ hv
    have : fs.length = done.length := by rw [e]; simp
    obtain ⟨K, hK⟩ := ev_get (j3_ev hs)
    refine ⟨K + 1, fun k hk => ?_⟩
    obtain ⟨k, rfl⟩ : ∃ m, k = m + 1 := ⟨k - 1, by omega⟩
    have hv2 : sum = v := hv
    dsimp only
    rw [laws_FnFilesCounted.l0, if_neg (by omega), if_pos rfl, if_pos hv2]
    exact hK k (by omega)
  | cons y rest ih =>
    intro done sum e o0 o1 hv
    have hlen : fs.length = done.length + (rest.length + 1) := by rw [e]; simp
    have hx := hf y (by rw [e]; simp)
    have hd := hb_le done.length (by omega)
    have hd2 := hb_le (done.length + 1) (by omega)
    have er : rd fs (done.length : Int) = y := by rw [e]; exact rd_mid _ _ _
    have hm := mul_abs o0 o1 (show -101 ≤ x by omega) (show x ≤ 101 by omega) (by omega) (by omega)
    have hv3 : hb (done.length + 1) = 101 * hb done.length + 117649 := rfl
    obtain ⟨K, hK⟩ := ev_get (ih (done ++ [y]) (sum * x + y) (by rw [e]; simp) (by rw [List.length_append, List.length_singleton]; omega) (by rw [List.length_append, List.length_singleton]; omega) hv)
    refine ⟨K + 1, fun k hk => ?_⟩
    obtain ⟨k, rfl⟩ : ∃ m, k = m + 1 := ⟨k - 1, by omega⟩
    have e2 := hK k (by omega)
    rw [List.length_append, List.length_singleton, show ((done.length + 1 : Nat) : Int) = (done.length : Int) + 1 by omega] at e2
    have h := l0_step k s x v true sum fs (fs.length : Int) (done.length : Int) (by omega) (by omega) (by omega)
    rw [er, w64 (sum * x) (by omega) (by omega), w64 (sum * x + y) (by omega) (by omega), w64 ((done.length : Int) + 1) (by omega) (by omega)] at h
    exact h.trans e2
theorem j1_ev {s : List Int} (hs : Bytes s) (R C : Int) (l : List Int) (x : Int) : Ev (fun k => laws_FnFilesCounted.j1 k s x (valueR R C l x).1 (valueR R C l x).2 false R C l) true := by
  unfold valueR
  by_cases h : boardB R C l = true ∧ inB x (-100) 100 = true
  · rw [if_pos h]
    have hx2 : -100 ≤ x ∧ x ≤ 100 := by simpa [inB] using h.2
    obtain ⟨K1, k1⟩ := ev_get (implFiles_ev R C l)
    unfold filesR at k1
    rw [if_pos h.1] at k1
    obtain ⟨R, C, rfl, rfl⟩ := board_nat h.1
    obtain ⟨o1, o2⟩ := heights_ok h.1
    obtain ⟨p1, p2⟩ := fileN_ok _ o1 o2
    simp only [Int.toNat_natCast] at *
    obtain ⟨K2, k2⟩ := ev_get (l0_ev hs x hx2.1 hx2.2 (fileN (heightsL l R C)) (by omega) p1 (valueN x (heightsL l R C)) (fileN (heightsL l R C)) [] 0 rfl (by decide) (by decide) (horn_value x _))
    refine ⟨K1 + K2 + 1, fun k hk => ?_⟩
    obtain ⟨k, rfl⟩ : ∃ m, k = m + 1 := ⟨k - 1, by omega⟩
    simp only [laws_FnFilesCounted.j1, Bool.false_eq_true, if_false, if_true, k1 k (by omega), Option.bind_some]
    exact k2 k (by omega)
  · rw [if_neg h]
    obtain ⟨K, hK⟩ := ev_get (j3_ev hs)
    refine ⟨K + 1, fun k hk => ?_⟩
    obtain ⟨k, rfl⟩ : ∃ m, k = m + 1 := ⟨k - 1, by omega⟩
    simp only [laws_FnFilesCounted.j1, Bool.false_eq_true, if_false]
    exact hK k (by omega)
theorem j0_ev {s : List Int} (hs : Bytes s) : Ev (fun k => laws_FnFilesCounted.j0 k s false) true := by
  obtain ⟨R, C, l, x, e, hl⟩ := drawValue_ok hs
  obtain ⟨K, hK⟩ := ev_get e
  obtain ⟨K1, k1⟩ := ev_get (implValue_ev R C l x)
  obtain ⟨K2, k2⟩ := ev_get (specValue_ev R C l x (by omega))
  obtain ⟨K3, k3⟩ := ev_get (j1_ev hs R C l x)
  refine ⟨K + K1 + K2 + K3 + 1, fun k hk => ?_⟩
  obtain ⟨k, rfl⟩ : ∃ m, k = m + 1 := ⟨k - 1, by omega⟩
  simp only [laws_FnFilesCounted.j0, Bool.false_eq_true, if_false, hK k (by omega), Option.bind_some, k1 k (by omega), k2 k (by omega), bne_self_eq_false]
  exact k3 k (by omega)
end FnFilesCounted
open FnFilesCounted in
theorem FnFilesCounted : laws_FnFilesCounted.Pure := by
  intro l0 l1 ha hb hc hd he hf
  have hs0 := bytes_of hc
  have hs1 := bytes_of hf
  obtain ⟨x, hx⟩ := big_eq l0 l1 (by omega) (by omega)
  cases x with
  | true => exact ⟨0, by unfold laws_FnFilesCounted.f; rw [hx]; simp⟩
  | false =>
    obtain ⟨R, C, l, e0, hl⟩ := drawBoard_ok hs0
    obtain ⟨K0, k0⟩ := ev_get e0
    obtain ⟨K1, k1⟩ := ev_get (implFiles_ev R C l)
    obtain ⟨K2, k2⟩ := ev_get (specFiles_ev R C l (by omega))
    have hlen : (filesR R C l).1.length ≤ 1152921504606846976 := by
      unfold filesR
      split
      · rename_i h
        obtain ⟨R, C, rfl, rfl⟩ := board_nat h
        obtain ⟨o1, o2⟩ := heights_ok h
        have := (fileN_ok _ o1 o2).2
        simp only [Int.toNat_natCast]
        omega
      · simp
    obtain ⟨K3, k3⟩ := ev_get (kSame_refl (filesR R C l).1 hlen)
    obtain ⟨K4, k4⟩ := ev_get (j0_ev hs1)
    obtain ⟨m, hm⟩ : ∃ m, m = K0 + K1 + K2 + K3 + K4 := ⟨_, rfl⟩
    refine ⟨m, ?_⟩
    unfold laws_FnFilesCounted.f
    rw [hx]
    simp only [Option.bind_some, Bool.false_eq_true, if_false, k0 m (by omega), k1 m (by omega), k2 m (by omega), bne_self_eq_false, k3 m (by omega), Bool.not_true]
    exact k4 m (by omega)
end Go.Proofs.Ytnpacpdpgngdpaa.Pure
