/- For all bytes that are drawn from: cycles and file placements on the arrow board are told alike by both, turn into each other and back, with a row less for each block more: no condition but that the bytes can be read. -/
import Derived.Test.YthlcaikplebpmaaIs
import Derived.Laws.BitsLemmas
import Derived.Test.YthlcaikplebpmaaPx0
import Derived.Test.YthlcaikplebpmaaQ189f40801e
import Derived.Test.YthlcaikplebpmaaQ51a4843c15
import Derived.Test.YthlcaikplebpmaaQ1e97019e3e
import Derived.Test.YthlcaikplebpmaaQ12fa181597
import Derived.Test.YthlcaikplebpmaaQ3d13ff768b
import Derived.Test.YthlcaikplebpmaaQ49fe55b005
import Derived.Test.YthlcaikplebpmaaQ9d9c7c2b41
import Derived.Test.YthlcaikplebpmaaQe801c6b909
import Derived.Test.YthlcaikplebpmaaQb30a44e1d8
import Derived.Test.YthlcaikplebpmaaQ5243cf6e44
import Derived.Test.YthlcaikplebpmaaQ0a9ec56b2f
namespace Go.Proofs.Ythlcaikplebpmaa.P
open Go.RowKit Go.Proofs.YthlcaikplebpmaaW.PrintWords Go.Proofs.YthlcaikplebpmaaW.PrintLast Go.Proofs.YthlcaikplebpmaaW.PrintMore
set_option linter.unusedVariables false
set_option linter.unusedSimpArgs false
theorem w64 (n : Int) (h : -9223372036854775808 ≤ n) (h2 : n ≤ 9223372036854775807) : wrap64 n = n := by unfold wrap64; omega
theorem rd_nat (l : List Int) (i : Nat) (h : i < l.length) : rd l (i : Int) = l[i] := by
  unfold rd; simp [List.getD_eq_getElem?_getD, List.getElem?_eq_getElem h]
theorem drop_cons (l : List Int) (i : Nat) (h : i < l.length) : l.drop i = l[i] :: l.drop (i + 1) := List.drop_eq_getElem_cons h
theorem ev_get {α : Type} {g : Nat → Option α} {r : α} (h : Ev g r) : ∃ K, ∀ k, K ≤ k → g k = some r := h
def inB (n lo hi : Int) : Bool := decide (lo ≤ n ∧ n ≤ hi)
theorem l1In_eq (a b c : Int) : spec_l1In.f a b c = some (inB a b c) := by
  unfold spec_l1In.f inB
  by_cases h : a ≥ b
  · rw [if_pos h]; congr 1; simp; omega
  · rw [if_neg h]; congr 1; symm; apply decide_eq_false; omega
theorem within_eq (a b c : Int) : impl_within.f a b c = some (inB a b c) := by
  unfold impl_within.f inB
  by_cases h : b ≤ a
  · rw [if_pos h]; congr 1; simp; omega
  · rw [if_neg h]; congr 1; symm; apply decide_eq_false; omega
def allIn (l : List Int) (lo hi : Int) : Bool := l.all fun x => inB x lo hi
theorem l1All_l0 (lo hi : Int) (l : List Int) (hb : l.length ≤ 1152921504606846976) : ∀ (d i : Nat) (k : Nat), l.length - i = d → i ≤ l.length → d < k →
    spec_l1All.l0 k lo hi l (l.length : Int) (i : Int) = some (allIn (l.drop i) lo hi) := by
  intro d
  induction d with
  | zero =>
    intro i k hd hi' hk
    obtain ⟨k, rfl⟩ : ∃ m, k = m + 1 := ⟨k - 1, by omega⟩
    rw [spec_l1All.l0, if_neg (by omega), List.drop_eq_nil_of_le (by omega)]
    rfl
  | succ d ih =>
    intro i k hd hi' hk
    obtain ⟨k, rfl⟩ : ∃ m, k = m + 1 := ⟨k - 1, by omega⟩
    have h1 : i < l.length := by omega
    rw [spec_l1All.l0, if_pos (by omega), if_pos (by omega), if_pos (by omega), l1In_eq, Option.bind_some, w64 _ (by omega) (by omega), rd_nat _ _ h1]
    rw [show ((i : Int) + 1) = ((i + 1 : Nat) : Int) by omega, ih (i + 1) k (by omega) (by omega) (by omega), drop_cons l i h1]
    unfold allIn
    rw [List.all_cons]
    generalize l.drop (i + 1) = tl
    by_cases h : inB l[i] lo hi = true
    · rw [if_pos h, h]; simp
    · rw [if_neg h]; simp at h; rw [h]; simp
theorem l1All_ev (l : List Int) (lo hi : Int) (hb : l.length ≤ 1152921504606846976) : Ev (fun k => spec_l1All.f k l lo hi) (allIn l lo hi) := by
  refine ⟨l.length + 1, fun k hk => ?_⟩
  simp only [spec_l1All.f]
  have := l1All_l0 lo hi l hb l.length 0 k (by omega) (by omega) (by omega)
  simpa using this
end Go.Proofs.Ythlcaikplebpmaa.P
namespace Go.Proofs.Ythlcaikplebpmaa.P
open Go.RowKit Go.Proofs.YthlcaikplebpmaaW.PrintWords Go.Proofs.YthlcaikplebpmaaW.PrintLast Go.Proofs.YthlcaikplebpmaaW.PrintMore
set_option linter.unusedVariables false
set_option linter.unusedSimpArgs false
theorem boardB_iff (r c : Int) (l : List Int) : boardB r c l = true ↔ (1 ≤ r ∧ r ≤ 6) ∧ (1 ≤ c ∧ c ≤ 6) ∧ (l.length : Int) = r ∧ ∀ m ∈ l, 0 ≤ m ∧ m ≤ 2 ^ c.toNat - 1 := by
  unfold boardB
  simp only [Bool.and_eq_true, decide_eq_true_eq, List.all_eq_true]
  constructor
  · rintro ⟨⟨⟨a, b⟩, c⟩, d⟩; exact ⟨a, b, c, d⟩
  · rintro ⟨a, b, c, d⟩; exact ⟨⟨⟨a, b⟩, c⟩, d⟩
theorem pow_le6 (c : Int) (h1 : c ≤ 6) : (2 : Int) ^ c.toNat ≤ 64 := by
  have := Nat.pow_le_pow_right (show 0 < 2 by decide) (show c.toNat ≤ 6 by omega)
  have h : (2 : Int) ^ c.toNat ≤ 2 ^ 6 := by exact_mod_cast this
  exact h
end Go.Proofs.Ythlcaikplebpmaa.P
namespace Go.Proofs.Ythlcaikplebpmaa.P
open Go.RowKit Go.Proofs.YthlcaikplebpmaaW.PrintWords Go.Proofs.YthlcaikplebpmaaW.PrintLast Go.Proofs.YthlcaikplebpmaaW.PrintMore
set_option linter.unusedVariables false
set_option linter.unusedSimpArgs false
theorem rdL_mid (a b : List (List Int)) (l : List Int) : rd_L1 (a ++ l :: b) (a.length : Int) = l := by
  unfold rd_L1; simp
theorem rdL_nat (s : List (List Int)) (i : Nat) (h : i < s.length) : rd_L1 s (i : Int) = s[i] := by
  unfold rd_L1; simp [List.getD_eq_getElem?_getD, List.getElem?_eq_getElem h]
def total : List (List Int) → Nat
  | [] => 0
  | l :: s => l.length + total s
theorem total_mem {s : List (List Int)} {l : List Int} (h : l ∈ s) : l.length ≤ total s := by
  induction s with
  | nil => cases h
  | cons x s ih =>
    rcases List.mem_cons.1 h with rfl | h
    · simp [total]
    · have := ih h; simp [total]; omega
end Go.Proofs.Ythlcaikplebpmaa.P
namespace Go.Proofs.Ythlcaikplebpmaa.P
open Go.RowKit Go.Proofs.YthlcaikplebpmaaW.PrintWords Go.Proofs.YthlcaikplebpmaaW.PrintLast Go.Proofs.YthlcaikplebpmaaW.PrintMore
set_option linter.unusedVariables false
set_option linter.unusedSimpArgs false
/-- A mask has a column. -/
def hasM (m : Int) (j : Int) : Bool := Int.tmod (shr .i64 m j) 2 == 1
theorem has_bits : ∀ m : Fin 64, ∀ c : Fin 6, (Go.bits .and .i64 (shr .i64 (m.val : Int) (c.val : Int)) 1 == 1) = hasM (m.val : Int) (c.val : Int) := by decide +kernel
theorem has_bits' (m c : Int) (h0 : 0 ≤ m) (h1 : m ≤ 63) (h2 : 0 ≤ c) (h3 : c ≤ 5) : (Go.bits .and .i64 (shr .i64 m c) 1 == 1) = hasM m c := by
  have h := has_bits ⟨m.toNat, by omega⟩ ⟨c.toNat, by omega⟩
  simp only [show ((m.toNat : Nat) : Int) = m by omega, show ((c.toNat : Nat) : Int) = c by omega] at h
  exact h
/-- The board has the cell. -/
def hasC (l : List Int) (i j : Int) : Bool := hasM (rd l i) j
theorem board_row {r c : Int} {l : List Int} (h : boardB r c l = true) {i : Int} (h0 : 0 ≤ i) (h1 : i < r) : 0 ≤ rd l i ∧ rd l i ≤ 63 := by
  obtain ⟨hr, hc, hl, hm⟩ := (boardB_iff r c l).1 h
  have hp6 := pow_le6 c hc.2
  have hx : i.toNat < l.length := by omega
  have := hm l[i.toNat] (List.getElem_mem hx)
  have e : rd l i = l[i.toNat] := by
    have := rd_nat l i.toNat hx
    rwa [show ((i.toNat : Nat) : Int) = i by omega] at this
  rw [e]; omega
theorem boHas_eq {r c : Int} {l : List Int} (h : boardB r c l = true) {i j : Int} (h0 : 0 ≤ i) (h1 : i < r) (h2 : 0 ≤ j) : spec_boHas.f r c l i j = some (hasC l i j) := by
  obtain ⟨hr, hc, hl, hm⟩ := (boardB_iff r c l).1 h
  simp only [spec_boHas.f]
  rw [if_pos h0, if_pos (by omega), if_pos h2]
  rfl
theorem has_eq {r c : Int} {l : List Int} (h : boardB r c l = true) {i j : Int} (h0 : 0 ≤ i) (h1 : i < r) (h2 : 0 ≤ j) (h3 : j < c) : impl_Board_has.f r c l i j = some (hasC l i j) := by
  obtain ⟨hr, hc, hl, hm⟩ := (boardB_iff r c l).1 h
  have hb := board_row h h0 h1
  simp only [impl_Board_has.f]
  rw [if_pos h0, if_pos (by omega), if_pos h2, has_bits' _ _ hb.1 hb.2 h2 (by omega)]
  rfl
def cellRow (l : List Int) (i C j : Nat) : List (List Int) := (List.range' j (C - j)).flatMap fun (j : Nat) => if hasC l (i : Int) (j : Int) = true then [[(i : Int), (j : Int)]] else []
def cellsFrom (l : List Int) (R C i : Nat) : List (List Int) := (List.range' i (R - i)).flatMap fun (i : Nat) => cellRow l i C 0
def cells (r c : Int) (l : List Int) : List (List Int) := cellsFrom l r.toNat c.toNat 0
end Go.Proofs.Ythlcaikplebpmaa.P
namespace Go.Proofs.Ythlcaikplebpmaa.P
open Go.RowKit Go.Proofs.YthlcaikplebpmaaW.PrintWords Go.Proofs.YthlcaikplebpmaaW.PrintLast Go.Proofs.YthlcaikplebpmaaW.PrintMore
set_option linter.unusedVariables false
set_option linter.unusedSimpArgs false
/-- How many cells the column c has in the first rows. -/
def ht (l : List Int) (c : Nat) : Nat → Nat
  | 0 => 0
  | r + 1 => ht l c r + if hasC l (r : Int) (c : Int) = true then 1 else 0
end Go.Proofs.Ythlcaikplebpmaa.P
namespace Go.Proofs.Ythlcaikplebpmaa.P
open Go.RowKit Go.Proofs.YthlcaikplebpmaaW.PrintWords Go.Proofs.YthlcaikplebpmaaW.PrintLast Go.Proofs.YthlcaikplebpmaaW.PrintMore
set_option linter.unusedVariables false
set_option linter.unusedSimpArgs false
def fileB (R : Int) (l f : List Int) : Nat → Nat → Bool
  | 0, _ => true
  | d + 1, i => if rd f (i : Int) = -1 then fileB R l f d (i + 1) else if inB (rd f (i : Int)) 0 (R - 1) = true then (if hasC l (rd f (i : Int)) (i : Int) = true then fileB R l f d (i + 1) else false) else false
theorem isFile_l0 {R C : Int} {l f : List Int} (h : boardB R C l = true) (hf : (f.length : Int) = C) : ∀ (d i : Nat), f.length - i = d → i ≤ f.length →
    Ev (fun k => impl_Board_isFile.l0 k f (f.length : Int) (i : Int) R C l) (fileB R l f d i) := by
  have hb := (boardB_iff _ _ _).1 h
  intro d
  induction d with
  | zero =>
    intro i hd hi
    refine ⟨1, fun k hk => ?_⟩
    obtain ⟨k, rfl⟩ : ∃ m, k = m + 1 := ⟨k - 1, by omega⟩
    dsimp only
    rw [impl_Board_isFile.l0, if_neg (by omega)]
    rfl
  | succ d ih =>
    intro i hd hi
    obtain ⟨K, hK⟩ := ev_get (ih (i + 1) (by omega) (by omega))
    refine ⟨K + 1, fun k hk => ?_⟩
    obtain ⟨k, rfl⟩ : ∃ m, k = m + 1 := ⟨k - 1, by omega⟩
    dsimp only
    rw [impl_Board_isFile.l0, if_pos (by omega), if_pos (by omega), if_pos (by omega), w64 ((i : Int) + 1) (by omega) (by omega), w64 (R - 1) (by omega) (by omega), show ((i : Int) + 1) = ((i + 1 : Nat) : Int) by omega, hK k (by omega), within_eq, Option.bind_some]
    simp only [fileB]
    split
    · rfl
    split
    · rename_i h2
      have h3 : 0 ≤ rd f (i : Int) ∧ rd f (i : Int) ≤ R - 1 := by simpa [inB] using h2
      rw [has_eq h h3.1 (by omega) (by omega) (by omega), Option.bind_some]
      split <;> rfl
    · rfl
theorem fiGood_l0 {R C : Int} {l f : List Int} (h : boardB R C l = true) (hf : (f.length : Int) = C) (hr : allIn f (-1) (R - 1) = true) : ∀ (d i : Nat), f.length - i = d → i ≤ f.length →
    Ev (fun k => spec_fiGood.l0 k f (f.length : Int) (i : Int) R C l) (fileB R l f d i) := by
  have hb := (boardB_iff _ _ _).1 h
  intro d
  induction d with
  | zero =>
    intro i hd hi
    refine ⟨1, fun k hk => ?_⟩
    obtain ⟨k, rfl⟩ : ∃ m, k = m + 1 := ⟨k - 1, by omega⟩
    dsimp only
    rw [spec_fiGood.l0, if_neg (by omega)]
    rfl
  | succ d ih =>
    intro i hd hi
    have hi2 : i < f.length := by omega
    have hin : -1 ≤ rd f (i : Int) ∧ rd f (i : Int) ≤ R - 1 := by
      unfold allIn at hr
      rw [List.all_eq_true] at hr
      have := hr _ (List.getElem_mem hi2)
      rw [rd_nat _ _ hi2]
      simpa [inB] using this
    obtain ⟨K, hK⟩ := ev_get (ih (i + 1) (by omega) (by omega))
    refine ⟨K + 1, fun k hk => ?_⟩
    obtain ⟨k, rfl⟩ : ∃ m, k = m + 1 := ⟨k - 1, by omega⟩
    dsimp only
    rw [spec_fiGood.l0, if_pos (by omega), if_pos (by omega), if_pos (by omega), w64 ((i : Int) + 1) (by omega) (by omega), show ((i : Int) + 1) = ((i + 1 : Nat) : Int) by omega, hK k (by omega)]
    simp only [fileB]
    by_cases h2 : rd f (i : Int) = -1
    · rw [if_pos h2, if_neg (by omega)]
    · rw [if_neg h2, if_pos (by omega), boHas_eq h (by omega) (by omega) (by omega), Option.bind_some, if_pos (show inB (rd f (i : Int)) 0 (R - 1) = true by simp [inB]; omega)]
      split <;> rfl
theorem fileB_out {R : Int} {l f : List Int} (hR : 1 ≤ R) : ∀ (d i : Nat), f.length - i = d → i ≤ f.length → (∃ j, i ≤ j ∧ ∃ h : j < f.length, ¬ (-1 ≤ f[j] ∧ f[j] ≤ R - 1)) → fileB R l f d i = false
  | 0, i, hd, hi, ⟨j, h1, h2, _⟩ => by omega
  | d + 1, i, hd, hi, ⟨j, h1, h2, h3⟩ => by
    have hi2 : i < f.length := by omega
    simp only [fileB]
    by_cases e : i = j
    · subst e
      rw [rd_nat _ _ hi2, if_neg (by omega), if_neg (by simp [inB]; omega)]
    · have := fileB_out (R := R) (l := l) (f := f) hR d (i + 1) (by omega) (by omega) ⟨j, by omega, h2, h3⟩
      rw [this]
      split
      · rfl
      · split
        · split <;> rfl
        · rfl
def isFileR (R C : Int) (l f : List Int) : Bool × Bool := if boardB R C l = true ∧ (f.length : Int) = C ∧ allIn f (-1) 999 = true then (fileB R l f f.length 0, true) else (false, false)
theorem implIsFile_ev (R C : Int) (l f : List Int) (hl : f.length ≤ 1152921504606846976) : Ev (fun k => impl_IsFilePlacement.f k R C l f) (isFileR R C l f) := by
  unfold isFileR
  by_cases h : boardB R C l = true
  · by_cases hf : (f.length : Int) = C
    · have hfn : impl_IsFilePlacement_1.fn = fun m => some (!(inB m (-1) 999)) := by
        funext m
        simp only [impl_IsFilePlacement_1.fn, impl_IsFilePlacement_1.f, within_eq, Option.bind_some]
      have hc := impl_IsBoard.contains f (fun m => !(inB m (-1) 999)) hl
      have he : f.any (fun m => !(inB m (-1) 999)) = !(allIn f (-1) 999) := by
        unfold allIn
        rw [List.not_all_eq_any_not]
      rw [he] at hc
      obtain ⟨K0, h0⟩ := ev_get (Ev.of (slices_ContainsFunc_int_int_151.mono f impl_IsFilePlacement_1.fn) (by rw [hfn]; exact hc))
      obtain ⟨K, hK⟩ := ev_get (isFile_l0 h hf f.length 0 (by omega) (by omega))
      refine ⟨K0 + K, fun k hk => ?_⟩
      have e := hK k (by omega)
      simp only [impl_IsFilePlacement.f, impl_IsBoard.f, Option.bind_some, h, if_true, hf, h0 k (by omega)]
      cases ha : allIn f (-1) 999 with
      | false => simp
      | true =>
        simp only [Bool.not_true, Bool.false_eq_true, if_false, impl_Board_isFile.f, if_pos hf, and_self, if_true, hf]
        rw [hf] at e
        rw [show ((0 : Nat) : Int) = 0 from rfl] at e
        rw [e]
        rfl
    · refine ⟨0, fun k hk => ?_⟩
      simp only [impl_IsFilePlacement.f, impl_IsBoard.f, Option.bind_some, h, if_true, if_neg hf, hf, false_and, and_false, if_false]
  · refine ⟨0, fun k hk => ?_⟩
    simp only [Bool.not_eq_true] at h
    simp only [impl_IsFilePlacement.f, impl_IsBoard.f, Option.bind_some, h, Bool.false_eq_true, if_false, false_and]
end Go.Proofs.Ythlcaikplebpmaa.P
namespace Go.Proofs.Ythlcaikplebpmaa.P
open Go.RowKit Go.Proofs.YthlcaikplebpmaaW.PrintWords Go.Proofs.YthlcaikplebpmaaW.PrintLast Go.Proofs.YthlcaikplebpmaaW.PrintMore
set_option linter.unusedVariables false
set_option linter.unusedSimpArgs false
theorem idxI_at : ∀ (b : List Int) (x : Int) (i p : Nat), b.Nodup → b[p]? = some x → impl_CyclesOfFiles.idxI b x i = ((i + p : Nat) : Int)
  | [], x, i, p, _, h => by simp at h
  | y :: b, x, i, p, hn, h => by
    rw [List.nodup_cons] at hn
    rw [impl_CyclesOfFiles.idxI]
    cases p with
    | zero =>
      have : y = x := by simpa using h
      rw [if_pos this]; rfl
    | succ p =>
      have h' : b[p]? = some x := by simpa using h
      have : y ≠ x := fun e => hn.1 (e ▸ List.mem_of_getElem? h')
      rw [if_neg this, idxI_at b x (i + 1) p hn.2 h', show i + 1 + p = i + (p + 1) by omega]
theorem idxI_none : ∀ (b : List Int) (x : Int) (i : Nat), x ∉ b → impl_CyclesOfFiles.idxI b x i = -1
  | [], _, _, _ => rfl
  | y :: b, x, i, h => by
    rw [List.mem_cons, not_or] at h
    rw [impl_CyclesOfFiles.idxI, if_neg (fun e => h.1 e.symm), idxI_none b x (i + 1) h.2]
theorem rowK_none (b : List Int) (x j : Int) (h : x ∉ b) : ∀ a, a ≤ b.length → spec_CyclesOfFiles.rowK b x j a = b
  | 0, _ => rfl
  | a + 1, ha => by
    rw [spec_CyclesOfFiles.rowK, if_neg, rowK_none b x j h a (by omega)]
    intro e
    apply h
    rw [List.getD_eq_getElem?_getD, List.getElem?_eq_getElem (by omega), Option.getD_some] at e
    exact e ▸ List.getElem_mem _
theorem rowK_at (b : List Int) (x j : Int) (p : Nat) (hn : b.Nodup) (hp : b[p]? = some x) : ∀ a, p < a → a ≤ b.length → spec_CyclesOfFiles.rowK b x j a = Cap.insL b (p + 1) j
  | 0, h, _ => by omega
  | a + 1, h, ha => by
    obtain ⟨hpl, hpe⟩ := List.getElem?_eq_some_iff.1 hp
    rw [spec_CyclesOfFiles.rowK]
    by_cases e : a = p
    · subst e
      rw [if_pos (by rw [List.getD_eq_getElem?_getD, hp]; rfl)]
    · rw [if_neg, rowK_at b x j p hn hp a (by omega) (by omega)]
      intro e2
      rw [List.getD_eq_getElem?_getD, List.getElem?_eq_getElem (by omega), Option.getD_some] at e2
      have := List.pairwise_iff_getElem.1 hn p a hpl (by omega) (by omega)
      exact this (by rw [hpe, e2])
theorem mapK_all (out : List (List Int)) (x j : Int) : spec_CyclesOfFiles.mapK out x j out.length = out.map fun b => spec_CyclesOfFiles.rowK b x j b.length := by
  refine List.ext_getElem (by simp [spec_CyclesOfFiles.mapK]) (fun i h1 h2 => ?_)
  have hi : i < out.length := by simpa using h2
  simp [spec_CyclesOfFiles.mapK, hi, List.getD_eq_getElem?_getD, List.getElem?_eq_getElem hi]
theorem map_none (x j : Int) : ∀ (out : List (List Int)), x ∉ out.flatten → (out.map fun b => spec_CyclesOfFiles.rowK b x j b.length) = out
  | [], _ => rfl
  | b :: out, h => by
    rw [List.flatten_cons, List.mem_append, not_or] at h
    rw [List.map_cons, rowK_none b x j h.1 _ (Nat.le_refl _), map_none x j out h.2]
theorem step_eq (x j : Int) : ∀ (out : List (List Int)), out.flatten.Nodup → (out.map fun b => spec_CyclesOfFiles.rowK b x j b.length) = impl_CyclesOfFiles.stepI out x j
  | [], _ => rfl
  | b :: out, h => by
    rw [List.flatten_cons, List.nodup_append] at h
    obtain ⟨h1, h2, h3⟩ := h
    rw [List.map_cons, impl_CyclesOfFiles.stepI]
    by_cases hx : x ∈ b
    · obtain ⟨p, hp⟩ := List.mem_iff_getElem?.1 hx
      have hpl : p < b.length := (List.getElem?_eq_some_iff.1 hp).1
      rw [idxI_at b x 0 p h1 hp, if_pos (by omega), rowK_at b x j p h1 hp _ hpl (Nat.le_refl _), map_none x j out (fun hy => h3 x hx x hy rfl)]
      simp
    · rw [idxI_none b x 0 hx, if_neg (by omega), rowK_none b x j hx _ (Nat.le_refl _), step_eq x j out h2]
theorem insL_perm (l : List Int) (i : Nat) (x : Int) : (Cap.insL l i x).Perm (x :: l) := by
  unfold Cap.insL
  rw [List.append_assoc, List.singleton_append]
  refine List.perm_middle.trans ?_
  rw [List.take_append_drop]
theorem step_perm (x j : Int) : ∀ (out : List (List Int)), (impl_CyclesOfFiles.stepI out x j).flatten.Perm (if x ∈ out.flatten then j :: out.flatten else out.flatten)
  | [] => by simp [impl_CyclesOfFiles.stepI]
  | b :: out => by
    rw [impl_CyclesOfFiles.stepI]
    by_cases hx : x ∈ b
    · have hi : 0 ≤ impl_CyclesOfFiles.idxI b x 0 := by
        obtain h | h := impl_CyclesOfFiles.idxI_ge b x 0
        · exfalso
          have : ∀ (b : List Int) (i : Nat), x ∈ b → (i : Int) ≤ impl_CyclesOfFiles.idxI b x i := by
            intro b
            induction b with
            | nil => intro i h; simp at h
            | cons y b ih =>
              intro i h
              rw [impl_CyclesOfFiles.idxI]
              by_cases e : y = x
              · rw [if_pos e]; omega
              · rw [if_neg e]
                have := ih (i + 1) ((List.mem_cons.1 h).resolve_left (fun e2 => e e2.symm))
                omega
          have := this b 0 hx
          omega
        · omega
      rw [if_pos hi, List.flatten_cons, List.flatten_cons, if_pos (List.mem_append_left _ hx)]
      exact ((insL_perm b _ j).append_right _)
    · rw [idxI_none b x 0 hx, if_neg (by omega), List.flatten_cons, List.flatten_cons]
      have ih := step_perm x j out
      by_cases hy : x ∈ out.flatten
      · rw [if_pos hy] at ih
        rw [if_pos (List.mem_append_right _ hy)]
        exact (ih.append_left b).trans List.perm_middle
      · rw [if_neg hy] at ih
        rw [if_neg (fun h => (List.mem_append.1 h).elim hx hy)]
        exact ih.append_left b
def CyInv (j : Nat) (out : List (List Int)) : Prop := out.flatten.Nodup ∧ ∀ y ∈ out.flatten, y < (j : Int)
theorem inv_step {j : Nat} {out : List (List Int)} (h : CyInv j out) (x : Int) : CyInv (j + 1) (impl_CyclesOfFiles.stepI out x (j : Int)) := by
  have hp := step_perm x (j : Int) out
  have hj : (j : Int) ∉ out.flatten := fun hm => by have := h.2 _ hm; omega
  by_cases hx : x ∈ out.flatten
  · rw [if_pos hx] at hp
    refine ⟨hp.nodup_iff.2 (List.nodup_cons.2 ⟨hj, h.1⟩), fun y hy => ?_⟩
    rcases List.mem_cons.1 (hp.mem_iff.1 hy) with rfl | hy
    · omega
    · have := h.2 y hy; omega
  · rw [if_neg hx] at hp
    exact ⟨hp.nodup_iff.2 h.1, fun y hy => by have := h.2 y (hp.mem_iff.1 hy); omega⟩
theorem inv_new {j : Nat} {out : List (List Int)} (h : CyInv j out) : CyInv (j + 1) (out ++ [[(j : Int)]]) := by
  have e : (out ++ [[(j : Int)]]).flatten = out.flatten ++ [(j : Int)] := by simp
  refine ⟨?_, fun y hy => ?_⟩
  · rw [e, List.nodup_append]
    refine ⟨h.1, by simp, fun a ha b hb => ?_⟩
    rw [List.mem_singleton.1 hb]
    have := h.2 a ha
    omega
  · rw [e] at hy
    rcases List.mem_append.1 hy with hy | hy
    · have := h.2 y hy; omega
    · rw [List.mem_singleton.1 hy]; omega
theorem go_eq : ∀ (l : List Int) (j : Nat) (out : List (List Int)), (∀ x ∈ l, -1 ≤ x) → CyInv j out → spec_CyclesOfFiles.goS l j out = impl_CyclesOfFiles.goI l j out
  | [], _, _, _, _ => rfl
  | x :: l, j, out, hx, h => by
    have h0 := hx x (List.mem_cons_self ..)
    rw [spec_CyclesOfFiles.goS, impl_CyclesOfFiles.goI]
    by_cases e : x = -1
    · rw [if_pos (by omega), if_pos e]
      exact go_eq l (j + 1) _ (fun y hy => hx y (List.mem_cons_of_mem _ hy)) (inv_new h)
    · rw [if_neg (by omega), if_neg e, mapK_all, step_eq x j out h.1]
      exact go_eq l (j + 1) _ (fun y hy => hx y (List.mem_cons_of_mem _ hy)) (inv_step h x)
theorem go_len : ∀ (l : List Int) (j : Nat) (out : List (List Int)), out.length ≤ j → (∀ b ∈ out, b.length ≤ j) → (impl_CyclesOfFiles.goI l j out).length ≤ j + l.length ∧ ∀ b ∈ impl_CyclesOfFiles.goI l j out, b.length ≤ j + l.length
  | [], j, out, h1, h2 => ⟨h1, h2⟩
  | x :: l, j, out, h1, h2 => by
    rw [impl_CyclesOfFiles.goI, List.length_cons, show j + (l.length + 1) = j + 1 + l.length by omega]
    by_cases e : x = -1
    · rw [if_pos e]
      refine go_len l (j + 1) _ (by simp; omega) (fun b hb => ?_)
      rcases List.mem_append.1 hb with hb | hb
      · have := h2 b hb; omega
      · rw [List.mem_singleton.1 hb]; simp
    · rw [if_neg e]
      obtain ⟨h3, h4⟩ := impl_CyclesOfFiles.step_rows x (j : Int) j out h2
      exact go_len l (j + 1) _ (by omega) h4
theorem index_l0 (b : List Int) (x : Int) (hb : b.length ≤ 1000) : ∀ (d i : Nat) (k : Nat), b.length - i = d → i ≤ b.length → d < k → slices_Index_int_int.l0 k b x (b.length : Int) (i : Int) = some (impl_CyclesOfFiles.idxI (b.drop i) x i) := by
  intro d
  induction d with
  | zero =>
    intro i k hd hi hk
    obtain ⟨k, rfl⟩ : ∃ m, k = m + 1 := ⟨k - 1, by omega⟩
    rw [slices_Index_int_int.l0, if_neg (by omega), List.drop_eq_nil_of_le (by omega)]; rfl
  | succ d ih =>
    intro i k hd hi hk
    obtain ⟨k, rfl⟩ : ∃ m, k = m + 1 := ⟨k - 1, by omega⟩
    have hlt : i < b.length := by omega
    have e := ih (i + 1) k (by omega) (by omega) (by omega)
    rw [slices_Index_int_int.l0, if_pos (by omega), if_pos (by omega), if_pos (by omega), rd_nat _ _ hlt, List.drop_eq_getElem_cons hlt, impl_CyclesOfFiles.idxI]
    by_cases h : x = b[i]
    · rw [if_pos h, if_pos h.symm]
    · rw [if_neg h, if_neg (fun h2 => h h2.symm), w64 _ (by omega) (by omega), show (i : Int) + 1 = ((i + 1 : Nat) : Int) by omega, e]
theorem index_f (b : List Int) (x : Int) (hb : b.length ≤ 1000) (k : Nat) (hk : 1001 ≤ k) : slices_Index_int_int.f k b x = some (impl_CyclesOfFiles.idxI b x 0) := by
  have := index_l0 b x hb b.length 0 k (by omega) (by omega) (by omega)
  rw [List.drop_zero] at this
  exact this
def arrC (n : Nat) : List Int := ((spec_fiArrow.f 100 (n : Int)).getD (0, 0, [])).2.2
theorem arr_all : ∀ n : Fin 7, 1 ≤ n.val → spec_fiArrow.f 100 (n.val : Int) = some ((n.val : Int), (n.val : Int), arrC n.val) ∧ impl_ArrowBoard.f 100 (n.val : Int) = some ((n.val : Int), (n.val : Int), arrC n.val, true) ∧ impl_IsBoard.f (n.val : Int) (n.val : Int) (arrC n.val) = some true := by decide +kernel
def goodF (l : List Int) : Prop := (1 ≤ l.length ∧ l.length ≤ 6) ∧ fileB (l.length : Int) (arrC l.length) l l.length 0 = true
instance (l : List Int) : Decidable (goodF l) := by unfold goodF; infer_instance
theorem good_low {l : List Int} (h : goodF l) : ∀ x ∈ l, -1 ≤ x := by
  intro x hx
  obtain ⟨j, hj, rfl⟩ := List.getElem_of_mem hx
  refine Classical.byContradiction (fun hn => ?_)
  have := fileB_out (R := (l.length : Int)) (l := arrC l.length) (f := l) (by have := h.1; omega) l.length 0 (by omega) (by omega) ⟨j, by omega, hj, fun hh => hn hh.1⟩
  rw [h.2] at this
  exact absurd this (by simp)
def cycR (l : List Int) : List (List Int) × Bool := if goodF l then (impl_CyclesOfFiles.goI l 0 [], true) else ([], false)
theorem implCycles_ev (l : List Int) (hl : l.length ≤ 1152921504606846976) : Ev (fun k => impl_CyclesOfFiles.f k l) (cycR l) := by
  unfold cycR
  by_cases hn : 1 ≤ l.length ∧ l.length ≤ 6
  · obtain ⟨_, h2, h3'⟩ := arr_all ⟨l.length, by omega⟩ hn.1
    have h3 : boardB (l.length : Int) (l.length : Int) (arrC l.length) = true := Option.some.inj h3'
    obtain ⟨K1, k1⟩ := ev_get (Ev.of (impl_ArrowBoard.mono (l.length : Int)) h2)
    obtain ⟨K2, k2⟩ := ev_get (isFile_l0 h3 rfl l.length 0 (by omega) (by omega))
    refine ⟨K1 + K2 + 1001, fun k hk => ?_⟩
    have hf : impl_Board_isFile.f k (l.length : Int) (l.length : Int) (arrC l.length) l = some (fileB (l.length : Int) (arrC l.length) l l.length 0) := by
      unfold impl_Board_isFile.f
      rw [if_pos rfl]
      exact k2 k (by omega)
    show impl_CyclesOfFiles.f k l = _
    unfold impl_CyclesOfFiles.f
    rw [k1 k (by omega), Option.bind_some, if_pos rfl]
    dsimp only
    rw [hf, Option.bind_some]
    by_cases hg : fileB (l.length : Int) (arrC l.length) l l.length 0 = true
    · have hok : impl_CyclesOfFiles.okS k l := ⟨by omega, fun b x hb => index_f b x hb k (by omega)⟩
      rw [if_pos hg, if_pos hok, if_pos ⟨hn, hg⟩]
    · rw [if_neg hg, if_neg (fun h => hg h.2)]
  · refine ⟨0, fun k _ => ?_⟩
    have h0 : impl_ArrowBoard.f k (l.length : Int) = some (0, 0, [], false) := by
      have : inB (l.length : Int) 1 6 = false := by simp [inB]; omega
      simp only [impl_ArrowBoard.f, impl_isThings.f, within_eq, Option.bind_some, this, Bool.false_eq_true, if_false]
    show impl_CyclesOfFiles.f k l = _
    unfold impl_CyclesOfFiles.f
    rw [h0, Option.bind_some, if_neg (by simp), if_neg (fun h => hn h.1)]
theorem specCycles_ev (l : List Int) (hl : l.length ≤ 1152921504606846976) : Ev (fun k => spec_CyclesOfFiles.f k l) (cycR l) := by
  unfold cycR
  by_cases hn : 1 ≤ l.length ∧ l.length ≤ 6
  · obtain ⟨h1, _, h3'⟩ := arr_all ⟨l.length, by omega⟩ hn.1
    have h3 : boardB (l.length : Int) (l.length : Int) (arrC l.length) = true := Option.some.inj h3'
    obtain ⟨K1, k1⟩ := ev_get (Ev.of (spec_fiArrow.mono (l.length : Int)) h1)
    obtain ⟨K2, k2⟩ := ev_get (l1All_ev l (-1) ((l.length : Int) - 1) hl)
    have ht : spec_fiThings.f (l.length : Int) = some true := by
      have : inB (l.length : Int) 1 6 = true := by simp [inB]; omega
      simp only [spec_fiThings.f, l1In_eq, Option.bind_some, this]
    have hfi : Ev (fun k => spec_fiGood.f k (l.length : Int) (l.length : Int) (arrC l.length) l) (fileB (l.length : Int) (arrC l.length) l l.length 0) := by
      cases hr : allIn l (-1) ((l.length : Int) - 1) with
      | true =>
        obtain ⟨K3, k3⟩ := ev_get (fiGood_l0 h3 rfl hr l.length 0 (by omega) (by omega))
        refine ⟨K2 + K3 + 1, fun k hk => ?_⟩
        obtain ⟨k, rfl⟩ : ∃ m, k = m + 1 := ⟨k - 1, by omega⟩
        have e := k3 k (by omega)
        simp only [spec_fiGood.f, w64 ((l.length : Int) - 1) (by omega) (by omega), k2 (k + 1) (by omega), Option.bind_some, hr, Bool.not_true, spec_fiGood.j0, Bool.false_eq_true, if_false, if_true]
        exact e
      | false =>
        have ho : fileB (l.length : Int) (arrC l.length) l l.length 0 = false := by
          refine fileB_out (by omega) l.length 0 (by omega) (by omega) ?_
          unfold allIn at hr
          rw [List.all_eq_false] at hr
          obtain ⟨x, hx, hx2⟩ := hr
          obtain ⟨j, hj, rfl⟩ := List.getElem_of_mem hx
          exact ⟨j, by omega, hj, fun hh => hx2 (by simp [inB]; omega)⟩
        refine ⟨K2 + 1, fun k hk => ?_⟩
        obtain ⟨k, rfl⟩ : ∃ m, k = m + 1 := ⟨k - 1, by omega⟩
        simp only [spec_fiGood.f, w64 ((l.length : Int) - 1) (by omega) (by omega), k2 (k + 1) (by omega), Option.bind_some, hr, Bool.not_false, spec_fiGood.j0, if_true, ho]
    obtain ⟨K4, k4⟩ := ev_get hfi
    refine ⟨K1 + K4, fun k hk => ?_⟩
    show spec_CyclesOfFiles.f k l = _
    unfold spec_CyclesOfFiles.f
    rw [ht, Option.bind_some, if_pos rfl, k1 k (by omega), Option.bind_some]
    dsimp only
    rw [k4 k (by omega), Option.bind_some]
    by_cases hg : fileB (l.length : Int) (arrC l.length) l l.length 0 = true
    · rw [if_pos hg, if_pos (by omega), if_pos ⟨hn, hg⟩, go_eq l 0 [] (good_low ⟨hn, hg⟩) ⟨by simp, by simp⟩]
    · rw [if_neg hg, if_neg (fun h => hg h.2)]
  · refine ⟨0, fun k _ => ?_⟩
    have ht : spec_fiThings.f (l.length : Int) = some false := by
      have : inB (l.length : Int) 1 6 = false := by simp [inB]; omega
      simp only [spec_fiThings.f, l1In_eq, Option.bind_some, this]
    show spec_CyclesOfFiles.f k l = _
    unfold spec_CyclesOfFiles.f
    rw [ht, Option.bind_some, if_neg (by simp), if_neg (fun h => hn h.1)]
theorem cycR_small (l : List Int) : (cycR l).1.length ≤ 6 ∧ ∀ x ∈ (cycR l).1, x.length ≤ 6 := by
  unfold cycR
  by_cases h : goodF l
  · rw [if_pos h]
    have := go_len l 0 [] (by simp) (by simp)
    have hl := h.1
    exact ⟨by have := this.1; dsimp only; omega, fun x hx => by have := this.2 x hx; omega⟩
  · rw [if_neg h]; simp
end Go.Proofs.Ythlcaikplebpmaa.P
namespace Go.Proofs.Ythlcaikplebpmaa.P
open Go.RowKit Go.Proofs.YthlcaikplebpmaaW.PrintWords Go.Proofs.YthlcaikplebpmaaW.PrintLast Go.Proofs.YthlcaikplebpmaaW.PrintMore
set_option linter.unusedVariables false
set_option linter.unusedSimpArgs false
theorem l1Has_l0 (x : Int) (l : List Int) (hb : l.length ≤ 1152921504606846976) : ∀ (d i : Nat) (k : Nat), l.length - i = d → i ≤ l.length → d < k →
    spec_l1Has.l0 k x l (l.length : Int) (i : Int) = some (decide (x ∈ l.drop i)) := by
  intro d
  induction d with
  | zero =>
    intro i k hd hi' hk
    obtain ⟨k, rfl⟩ : ∃ m, k = m + 1 := ⟨k - 1, by omega⟩
    rw [spec_l1Has.l0, if_neg (by omega), List.drop_eq_nil_of_le (by omega)]
    rfl
  | succ d ih =>
    intro i k hd hi' hk
    obtain ⟨k, rfl⟩ : ∃ m, k = m + 1 := ⟨k - 1, by omega⟩
    have h1 : i < l.length := by omega
    rw [spec_l1Has.l0, if_pos (by omega), if_pos (by omega), if_pos (by omega), w64 _ (by omega) (by omega), rd_nat _ _ h1]
    rw [show ((i : Int) + 1) = ((i + 1 : Nat) : Int) by omega, ih (i + 1) k (by omega) (by omega) (by omega), drop_cons l i h1]
    generalize l.drop (i + 1) = tl
    by_cases h : l[i] = x
    · rw [if_pos h]; simp [h]
    · rw [if_neg h]; congr 1; simp [Ne.symm h]
theorem l1Has_ev (l : List Int) (x : Int) (hb : l.length ≤ 1152921504606846976) : Ev (fun k => spec_l1Has.f k l x) (decide (x ∈ l)) := by
  refine ⟨l.length + 1, fun k hk => ?_⟩
  simp only [spec_l1Has.f]
  have := l1Has_l0 x l hb l.length 0 k (by omega) (by omega) (by omega)
  simpa using this
/-- slices.Index tells at least 0 just for a member. -/
theorem Index_l0 (x : Int) (l : List Int) (hb : l.length ≤ 1152921504606846976) : ∀ (d i : Nat) (k : Nat), l.length - i = d → i ≤ l.length → d < k →
    slices_Index_int_int.l0 k l x (l.length : Int) (i : Int) = some (if x ∈ l.drop i then (i : Int) + ((l.drop i).idxOf x : Nat) else -1) := by
  intro d
  induction d with
  | zero =>
    intro i k hd hi' hk
    obtain ⟨k, rfl⟩ : ∃ m, k = m + 1 := ⟨k - 1, by omega⟩
    rw [slices_Index_int_int.l0, if_neg (by omega), List.drop_eq_nil_of_le (by omega)]
    rfl
  | succ d ih =>
    intro i k hd hi' hk
    obtain ⟨k, rfl⟩ : ∃ m, k = m + 1 := ⟨k - 1, by omega⟩
    have h1 : i < l.length := by omega
    rw [slices_Index_int_int.l0, if_pos (by omega), if_pos (by omega), if_pos (by omega), w64 _ (by omega) (by omega), rd_nat _ _ h1]
    rw [show ((i : Int) + 1) = ((i + 1 : Nat) : Int) by omega, ih (i + 1) k (by omega) (by omega) (by omega), drop_cons l i h1]
    generalize l.drop (i + 1) = tl
    by_cases h : x = l[i]
    · rw [if_pos h]; simp [h]
    · rw [if_neg h]; congr 1
      rw [List.idxOf_cons, show (l[i] == x) = false by simpa using Ne.symm h, cond_false]
      by_cases h2 : x ∈ tl
      · rw [if_pos h2, if_pos (by simp [h2])]; omega
      · rw [if_neg h2, if_neg (by simp [h, h2])]
theorem Index_ev (l : List Int) (x : Int) (hb : l.length ≤ 1152921504606846976) : Ev (fun k => slices_Index_int_int.f k l x) (if x ∈ l then (l.idxOf x : Int) else -1) := by
  refine ⟨l.length + 1, fun k hk => ?_⟩
  simp only [slices_Index_int_int.f]
  have := Index_l0 x l hb l.length 0 k (by omega) (by omega) (by omega)
  simpa using this
theorem Contains_ev (l : List Int) (x : Int) (hb : l.length ≤ 1152921504606846976) : Ev (fun k => slices_Contains_int_int.f k l x) (decide (x ∈ l)) := by
  obtain ⟨K, hK⟩ := ev_get (Index_ev l x hb)
  refine ⟨K, fun k hk => ?_⟩
  simp only [slices_Contains_int_int.f, hK k hk, Option.bind_some]
  congr 1
  by_cases h : x ∈ l
  · simp [h]
  · simp [h]
def permB (l : List Int) (n : Int) : Bool := decide ((l.length : Int) = n ∧ (∀ x ∈ l, 0 ≤ x ∧ x ≤ n - 1) ∧ l.Nodup)
def restOnce (l : List Int) (i : Nat) : Prop := ∀ j, i ≤ j → ∀ h : j < l.length, l[j] ∉ l.take j
theorem restOnce_iff (l : List Int) : restOnce l 0 ↔ l.Nodup := by
  constructor
  · intro h
    rw [List.nodup_iff_pairwise_ne, List.pairwise_iff_getElem]
    intro i j hi hj hij e
    exact h j (by omega) hj (by rw [← e]; exact List.mem_take_iff_getElem.2 ⟨i, by omega, rfl⟩)
  · intro h j _ hj hm
    rw [List.nodup_iff_pairwise_ne, List.pairwise_iff_getElem] at h
    obtain ⟨i, hi, e⟩ := List.mem_take_iff_getElem.1 hm
    exact h i j (by omega) hj (by omega) e
theorem restOnce_step (l : List Int) (i : Nat) (h : i < l.length) : restOnce l i ↔ l[i] ∉ l.take i ∧ restOnce l (i + 1) := by
  constructor
  · intro H
    exact ⟨H i (by omega) h, fun j hj hjl => H j (by omega) hjl⟩
  · rintro ⟨h0, H⟩ j hj hjl
    by_cases e : j = i
    · subst e; exact h0
    · exact H j (by omega) hjl
open Classical in
theorem isPerm_l0 (l : List Int) (n : Int) (hn : n = l.length) (hb : l.length ≤ 1152921504606846976) : ∀ (d i : Nat), l.length - i = d → i ≤ l.length →
    Ev (fun k => impl_isPerm.l0 k l n l (l.length : Int) (i : Int)) (decide ((∀ x ∈ l.drop i, 0 ≤ x ∧ x ≤ n - 1) ∧ restOnce l i)) := by
  intro d
  induction d with
  | zero =>
    intro i hd hi'
    refine ⟨1, fun k hk => ?_⟩
    obtain ⟨k, rfl⟩ : ∃ m, k = m + 1 := ⟨k - 1, by omega⟩
    simp only [impl_isPerm.l0]
    rw [if_neg (by omega)]
    congr 1
    symm
    apply decide_eq_true
    rw [List.drop_eq_nil_of_le (by omega)]
    exact ⟨by simp, fun j hj h => by omega⟩
  | succ d ih =>
    intro i hd hi'
    have h1 : i < l.length := by omega
    obtain ⟨K1, h3⟩ := ev_get (ih (i + 1) (by omega) (by omega))
    obtain ⟨K2, h4⟩ := ev_get (Contains_ev (l.take i) l[i] (by simp; omega))
    refine ⟨K1 + K2 + 1, fun k hk => ?_⟩
    obtain ⟨k, rfl⟩ : ∃ m, k = m + 1 := ⟨k - 1, by omega⟩
    simp only [impl_isPerm.l0]
    rw [if_pos (by omega), if_pos (by omega), if_pos (by omega), within_eq, Option.bind_some, w64 (n - 1) (by omega) (by omega), w64 _ (by omega) (by omega), rd_nat _ _ h1, if_pos (show (i : Int) ≤ (l.length : Int) by omega), show (i : Int).toNat = i by omega, show ((i : Int) + 1) = ((i + 1 : Nat) : Int) by omega, h4 k (by omega), h3 k (by omega), Option.bind_some]
    have hs := restOnce_step l i h1
    rw [drop_cons l i h1]
    by_cases h : inB l[i] 0 (n - 1) = true
    · rw [if_pos h]
      have h' : 0 ≤ l[i] ∧ l[i] ≤ n - 1 := by simpa [inB] using h
      by_cases h2 : l[i] ∈ l.take i
      · simp only [h2, decide_true, if_true]
        congr 1
        symm; apply decide_eq_false
        rintro ⟨_, hr⟩
        exact (hs.1 hr).1 h2
      · simp only [h2, decide_false, if_false, Bool.false_eq_true]
        congr 1
        rw [decide_eq_decide]
        constructor
        · rintro ⟨ha, hr⟩
          refine ⟨?_, hs.2 ⟨h2, hr⟩⟩
          intro x hx
          rcases List.mem_cons.1 hx with rfl | hx
          · exact h'
          · exact ha x hx
        · rintro ⟨ha, hr⟩
          exact ⟨fun x hx => ha x (List.mem_cons_of_mem _ hx), (hs.1 hr).2⟩
    · rw [if_neg h]
      congr 1
      symm; apply decide_eq_false
      rintro ⟨ha, _⟩
      exact h (by simpa [inB] using ha _ (List.mem_cons_self ..))
theorem isPerm_ev (l : List Int) (n : Int) (hb : l.length ≤ 1152921504606846976) : Ev (fun k => impl_isPerm.f k l n) (permB l n) := by
  by_cases h : (l.length : Int) = n
  · obtain ⟨K, hK⟩ := ev_get (isPerm_l0 l n h.symm hb l.length 0 (by omega) (by omega))
    refine ⟨K, fun k hk => ?_⟩
    simp only [impl_isPerm.f]
    rw [if_pos h]
    refine (hK k hk).trans ?_
    congr 1
    unfold permB
    rw [decide_eq_decide, restOnce_iff, List.drop_zero]
    exact ⟨fun ⟨a, b⟩ => ⟨h, a, b⟩, fun ⟨_, a, b⟩ => ⟨a, b⟩⟩
  · refine ⟨0, fun k hk => ?_⟩
    simp only [impl_isPerm.f]
    rw [if_neg h]
    congr 1
    symm; apply decide_eq_false
    exact fun ⟨a, _⟩ => h a
end Go.Proofs.Ythlcaikplebpmaa.P
namespace Go.Proofs.Ythlcaikplebpmaa.P
open Go.RowKit Go.Proofs.YthlcaikplebpmaaW.PrintWords Go.Proofs.YthlcaikplebpmaaW.PrintLast Go.Proofs.YthlcaikplebpmaaW.PrintMore
set_option linter.unusedVariables false
set_option linter.unusedSimpArgs false
/-- A block by itself. -/
def RowOk (r : Bool) (b : List Int) : Prop := (∀ x ∈ b, rd b 0 ≤ x) ∧ (r = true → ∀ i, ∀ h : i + 1 < b.length, b[i] ≤ b[i + 1])
def HeadOk (prev : Option Int) (b : List Int) : Prop := ∀ p, prev = some p → p < rd b 0
def ZOk (r : Bool) : Option Int → List (List Int) → Prop
  | _, [] => True
  | prev, b :: rest => RowOk r b ∧ HeadOk prev b ∧ ZOk r (some (rd b 0)) rest
def AllNe (s : List (List Int)) : Prop := ∀ b ∈ s, b ≠ []
def BlkOk (r : Bool) (s : List (List Int)) : Prop := AllNe s ∧ total s ≤ 6 ∧ ZOk r none s ∧ 1 ≤ total s ∧ (∀ x ∈ s.flatten, 0 ≤ x ∧ x ≤ (total s : Int) - 1) ∧ s.flatten.Nodup
theorem total_flat (s : List (List Int)) : s.flatten.length = total s := by
  induction s with
  | nil => rfl
  | cons b s ih => simp [total, ih]
/-- What the program's areBlocks looks at from a block on. -/
def AreFrom (r : Bool) : List Int → Option Int → List (List Int) → Prop
  | all, _, [] => (1 ≤ all.length ∧ all.length ≤ 6) ∧ permB all all.length = true
  | all, prev, b :: rest => b ≠ [] ∧ all.length + b.length ≤ 6 ∧ RowOk r b ∧ HeadOk prev b ∧ AreFrom r (all ++ b) (some (rd b 0)) rest
theorem are_iff (r : Bool) : ∀ (rest : List (List Int)) (all : List Int) (prev : Option Int), all.length ≤ 6 →
    (AreFrom r all prev rest ↔ AllNe rest ∧ all.length + total rest ≤ 6 ∧ ZOk r prev rest ∧ 1 ≤ all.length + total rest ∧ (∀ x ∈ all ++ rest.flatten, 0 ≤ x ∧ x ≤ ((all.length + total rest : Nat) : Int) - 1) ∧ (all ++ rest.flatten).Nodup) := by
  intro rest
  induction rest with
  | nil =>
    intro all prev ha
    simp only [AreFrom, permB, decide_eq_true_eq, AllNe, total, ZOk, List.flatten_nil, List.append_nil, Nat.add_zero]
    constructor
    · rintro ⟨⟨h1, h2⟩, _, h3, h4⟩; exact ⟨by simp, h2, trivial, h1, h3, h4⟩
    · rintro ⟨_, h2, _, h1, h3, h4⟩; exact ⟨⟨h1, h2⟩, trivial, h3, h4⟩
  | cons b rest ih =>
    intro all prev ha
    simp only [AreFrom, ZOk, List.flatten_cons]
    have ht : total (b :: rest) = b.length + total rest := rfl
    have hA : AllNe (b :: rest) ↔ b ≠ [] ∧ AllNe rest := by simp [AllNe]
    by_cases h6 : all.length + b.length ≤ 6
    · rw [ih (all ++ b) (some (rd b 0)) (by rw [List.length_append]; omega), hA, ht, List.append_assoc, List.length_append, ← Nat.add_assoc]
      constructor
      · rintro ⟨h1, _, h3, h4, h5, h6, h7, h8, h9, h10⟩; exact ⟨⟨h1, h5⟩, h6, ⟨h3, h4, h7⟩, h8, h9, h10⟩
      · rintro ⟨⟨h1, h5⟩, h6', ⟨h3, h4, h7⟩, h8, h9, h10⟩; exact ⟨h1, h6, h3, h4, h5, h6', h7, h8, h9, h10⟩
    · rw [ht]
      exact ⟨fun h => absurd h.2.1 h6, fun h => by have := h.2.1; omega⟩
/-- What the reference's loop looks at in a block, from a place on. -/
def SpRow (r : Bool) (n : Int) (seen : List Int) (b : List Int) (j : Nat) : Prop := ∀ k, j ≤ k → ∀ h : k < b.length, (0 ≤ b[k] ∧ b[k] ≤ n - 1) ∧ b[k] ∉ seen ++ b.take k ∧ (0 < k → rd b 0 ≤ b[k] ∧ (r = true → rd b ((k : Int) - 1) ≤ b[k]))
def HeadLe (prev : Option Int) (b : List Int) : Prop := ∀ p, prev = some p → p ≤ rd b 0
def SpFrom (r : Bool) (n : Int) : List Int → Option Int → List (List Int) → Prop
  | _, _, [] => True
  | seen, prev, b :: rest => SpRow r n seen b 0 ∧ HeadLe prev b ∧ SpFrom r n (seen ++ b) (some (rd b 0)) rest
theorem rd_zero_mem {b : List Int} (h : b ≠ []) : rd b 0 ∈ b := by
  cases b with
  | nil => exact absurd rfl h
  | cons x b => simp [rd]
theorem nodup_app_iff (seen b : List Int) (hs : seen.Nodup) : (seen ++ b).Nodup ↔ ∀ k, ∀ h : k < b.length, b[k] ∉ seen ++ b.take k := by
  rw [List.nodup_append]
  constructor
  · rintro ⟨_, hb, hd⟩ k hk hm
    rcases List.mem_append.1 hm with h | h
    · exact hd _ h _ (List.getElem_mem hk) rfl
    · exact (restOnce_iff b).2 hb k (Nat.zero_le _) hk h
  · intro H
    refine ⟨hs, (restOnce_iff b).1 (fun k _ hk hm => H k hk (List.mem_append_right _ hm)), ?_⟩
    intro x hx y hy e
    obtain ⟨k, hk, rfl⟩ := List.getElem_of_mem hy
    exact H k hk (List.mem_append_left _ (e ▸ hx))
theorem spRow_iff (r : Bool) (n : Int) (seen b : List Int) (hs : seen.Nodup) (hb : b ≠ []) : SpRow r n seen b 0 ↔ RowOk r b ∧ (∀ x ∈ b, 0 ≤ x ∧ x ≤ n - 1) ∧ (seen ++ b).Nodup := by
  rw [nodup_app_iff seen b hs]
  have h0 : 0 < b.length := List.length_pos_iff.2 hb
  have e0 : rd b 0 = b[0] := rd_nat b 0 h0
  constructor
  · intro H
    refine ⟨⟨fun x hx => ?_, fun hr i hi => ?_⟩, fun x hx => ?_, fun k hk => (H k (Nat.zero_le _) hk).2.1⟩
    · obtain ⟨k, hk, rfl⟩ := List.getElem_of_mem hx
      by_cases hk0 : k = 0
      · subst hk0; rw [e0]; exact Int.le_refl _
      · exact ((H k (Nat.zero_le _) hk).2.2 (by omega)).1
    · have := ((H (i + 1) (Nat.zero_le _) hi).2.2 (by omega)).2 hr
      rwa [show ((i + 1 : Nat) : Int) - 1 = (i : Int) by omega, rd_nat b i (by omega)] at this
    · obtain ⟨k, hk, rfl⟩ := List.getElem_of_mem hx
      exact (H k (Nat.zero_le _) hk).1
  · rintro ⟨⟨h1, h2⟩, h3, h4⟩ k _ hk
    refine ⟨h3 _ (List.getElem_mem hk), h4 k hk, fun hk0 => ⟨h1 _ (List.getElem_mem hk), fun hr => ?_⟩⟩
    obtain ⟨i, rfl⟩ : ∃ i, k = i + 1 := ⟨k - 1, by omega⟩
    rw [show ((i + 1 : Nat) : Int) - 1 = (i : Int) by omega, rd_nat b i (by omega)]
    exact h2 hr i hk
theorem sp_iff (r : Bool) (n : Int) : ∀ (rest : List (List Int)) (seen : List Int) (prev : Option Int), seen.Nodup → AllNe rest → (∀ p, prev = some p → p ∈ seen) →
    (SpFrom r n seen prev rest ↔ ZOk r prev rest ∧ (∀ x ∈ rest.flatten, 0 ≤ x ∧ x ≤ n - 1) ∧ (seen ++ rest.flatten).Nodup) := by
  intro rest
  induction rest with
  | nil => intro seen prev hs _ _; simp [SpFrom, ZOk, hs]
  | cons b rest ih =>
    intro seen prev hs hne hp
    have hb : b ≠ [] := hne b (List.mem_cons_self ..)
    have hne' : AllNe rest := fun x hx => hne x (List.mem_cons_of_mem _ hx)
    simp only [SpFrom, ZOk, List.flatten_cons]
    rw [spRow_iff r n seen b hs hb]
    have hm := rd_zero_mem hb
    have hh : (seen ++ b).Nodup → (HeadLe prev b ↔ HeadOk prev b) := by
      intro hn
      constructor
      · intro H p e
        have h1 := H p e
        have h2 := (List.nodup_append.1 hn).2.2 p (hp p e) _ hm
        omega
      · intro H p e
        have h1 := H p e
        omega
    constructor
    · rintro ⟨⟨h1, h2, h3⟩, h4, h5⟩
      have h6 := (ih (seen ++ b) (some (rd b 0)) h3 hne' (fun p e => by cases e; exact List.mem_append_right _ hm)).1 h5
      refine ⟨⟨h1, (hh h3).1 h4, h6.1⟩, ?_, ?_⟩
      · intro x hx
        rcases List.mem_append.1 hx with h | h
        · exact h2 x h
        · exact h6.2.1 x h
      · rw [← List.append_assoc]; exact h6.2.2
    · rintro ⟨⟨h1, h4, h5⟩, h2, h3⟩
      rw [← List.append_assoc] at h3
      have h7 : (seen ++ b).Nodup := (List.nodup_append.1 h3).1
      exact ⟨⟨h1, fun x hx => h2 x (List.mem_append_left _ hx), h7⟩, (hh h7).2 h4, (ih (seen ++ b) (some (rd b 0)) h7 hne' (fun p e => by cases e; exact List.mem_append_right _ hm)).2 ⟨h5, fun x hx => h2 x (List.mem_append_right _ hx), h3⟩⟩
theorem allNe_len {s : List (List Int)} (h : AllNe s) : s.length ≤ total s := by
  induction s with
  | nil => exact Nat.le_refl _
  | cons b s ih =>
    have h1 := List.length_pos_iff.2 (h b (List.mem_cons_self ..))
    have h2 := ih (fun x hx => h x (List.mem_cons_of_mem _ hx))
    have : total (b :: s) = b.length + total s := rfl
    simp only [List.length_cons]; omega
theorem Min_l0 (b : List Int) (hb : b.length ≤ 1152921504606846976) : ∀ (d i : Nat) (m : Int), b.length - i = d → i ≤ b.length →
    ∃ m', Ev (fun k => slices_Min_int_int.l0 k b m (i : Int)) m' ∧ m' ≤ m ∧ (m' = m ↔ ∀ x ∈ b.drop i, m ≤ x) := by
  intro d
  induction d with
  | zero =>
    intro i m hd hi
    refine ⟨m, ⟨1, fun k hk => ?_⟩, Int.le_refl _, ?_⟩
    · obtain ⟨k, rfl⟩ : ∃ m, k = m + 1 := ⟨k - 1, by omega⟩
      simp only [slices_Min_int_int.l0]
      rw [if_neg (by omega)]
    · rw [List.drop_eq_nil_of_le (by omega)]; simp
  | succ d ih =>
    intro i m hd hi
    have h1 : i < b.length := by omega
    obtain ⟨m', h2, h3, h4⟩ := ih (i + 1) (mn m b[i]) (by omega) (by omega)
    obtain ⟨K, hK⟩ := ev_get h2
    have hmn : mn m b[i] ≤ m ∧ (mn m b[i] = m ↔ m ≤ b[i]) := by unfold mn; split <;> omega
    refine ⟨m', ⟨K + 1, fun k hk => ?_⟩, by omega, ?_⟩
    · obtain ⟨k, rfl⟩ : ∃ m, k = m + 1 := ⟨k - 1, by omega⟩
      simp only [slices_Min_int_int.l0]
      rw [if_pos (by omega), if_pos (by omega), w64 _ (by omega) (by omega), rd_nat _ _ h1, show ((i : Int) + 1) = ((i + 1 : Nat) : Int) by omega]
      exact hK k (by omega)
    · rw [drop_cons b i h1]
      constructor
      · intro e x hx
        rcases List.mem_cons.1 hx with rfl | hx
        · exact hmn.2.1 (by omega)
        · have : m' = mn m b[i] := by omega
          have := h4.1 this x hx
          omega
      · intro H
        have h5 := hmn.2.2 (H _ (List.mem_cons_self ..))
        rw [h5] at h4
        exact h4.2 (fun x hx => H x (List.mem_cons_of_mem _ hx))
theorem Min_ev (b : List Int) (hb : b.length ≤ 1152921504606846976) (h : b ≠ []) : ∃ m, Ev (fun k => slices_Min_int_int.f k b) m ∧ (m = rd b 0 ↔ ∀ x ∈ b, rd b 0 ≤ x) := by
  obtain ⟨m, h1, h2, h3⟩ := Min_l0 b hb (b.length - 1) 1 (rd b 0) rfl (List.length_pos_iff.2 h)
  obtain ⟨K, hK⟩ := ev_get h1
  have h0 := List.length_pos_iff.2 h
  refine ⟨m, ⟨K, fun k hk => ?_⟩, ?_⟩
  · simp only [slices_Min_int_int.f]
    rw [if_neg (by omega), if_pos (by omega)]
    exact hK k hk
  · rw [h3]
    cases b with
    | nil => exact absurd rfl h
    | cons x b => simp [rd]
theorem less_eq (a b : Int) : cmp_Less_int.f a b = some (decide (a < b)) := by
  simp [cmp_Less_int.f, cmp_isNaN_int.f]
open Classical in
theorem IsSorted_l0 (b : List Int) (hb : b.length ≤ 1152921504606846976) : ∀ (i : Nat), i < b.length →
    Ev (fun k => slices_IsSorted_int_int.l0 k b (i : Int)) (decide (∀ j, j < i → ∀ h : j + 1 < b.length, b[j] ≤ b[j + 1])) := by
  intro i
  induction i with
  | zero =>
    intro hi
    refine ⟨1, fun k hk => ?_⟩
    obtain ⟨k, rfl⟩ : ∃ m, k = m + 1 := ⟨k - 1, by omega⟩
    simp only [slices_IsSorted_int_int.l0]
    rw [if_neg (by omega)]
    exact congrArg some (decide_eq_true (fun j hj => absurd hj (Nat.not_lt_zero j))).symm
  | succ i ih =>
    intro hi
    obtain ⟨K, hK⟩ := ev_get (ih (by omega))
    refine ⟨K + 1, fun k hk => ?_⟩
    obtain ⟨k, rfl⟩ : ∃ m, k = m + 1 := ⟨k - 1, by omega⟩
    simp only [slices_IsSorted_int_int.l0]
    rw [if_pos (by omega), if_pos (by omega), if_pos (by omega), w64 _ (by omega) (by omega), show ((i + 1 : Nat) : Int) - 1 = (i : Int) by omega, if_pos (by omega), if_pos (by omega), less_eq, Option.bind_some, rd_nat _ _ hi, rd_nat _ _ (show i < b.length by omega)]
    by_cases h : b[i + 1] < b[i]
    · rw [if_pos (decide_eq_true h)]
      congr 1; symm; apply decide_eq_false
      intro H; have := H i (by omega) hi; omega
    · rw [if_neg (by simpa using h), hK k (by omega)]
      congr 1
      rw [decide_eq_decide]
      constructor
      · intro H j hj hj'
        by_cases e : j = i
        · subst e; omega
        · exact H j (by omega) hj'
      · exact fun H j hj hj' => H j (by omega) hj'
open Classical in
theorem IsSorted_ev (b : List Int) (hb : b.length ≤ 1152921504606846976) (h : b ≠ []) : Ev (fun k => slices_IsSorted_int_int.f k b) (decide (∀ i, ∀ h : i + 1 < b.length, b[i] ≤ b[i + 1])) := by
  have h0 := List.length_pos_iff.2 h
  obtain ⟨K, hK⟩ := ev_get (IsSorted_l0 b hb (b.length - 1) (by omega))
  refine ⟨K, fun k hk => ?_⟩
  simp only [slices_IsSorted_int_int.f]
  rw [w64 _ (by omega) (by omega), show (b.length : Int) - 1 = ((b.length - 1 : Nat) : Int) by omega]
  refine (hK k hk).trans ?_
  congr 1
  rw [decide_eq_decide]
  exact ⟨fun H i hi => H i (by omega) hi, fun H j _ hj => H j hj⟩
/-- The program's areBlocks tells whether the blocks are good. -/
theorem last_head (done : List (List Int)) (b : List Int) : ((done ++ [b]).getLast?.map fun c => rd c 0) = some (rd b 0) := by simp
theorem isThings_eq (n : Int) : impl_isThings.f n = some (inB n 1 6) := by
  simp only [impl_isThings.f, within_eq, Option.bind_some]
open Classical in
theorem areBlocks_l0 (r : Bool) : ∀ (rest done : List (List Int)), (done ++ rest).length ≤ 1152921504606846976 → (∀ b ∈ rest, b.length ≤ 1048576) → (∀ b ∈ done, b ≠ []) → done.flatten.length ≤ 6 →
    Ev (fun k => impl_areBlocks.l0 k (done ++ rest) r done.flatten (done ++ rest) ((done ++ rest).length : Int) (done.length : Int)) (decide (AreFrom r done.flatten (done.getLast?.map fun c => rd c 0) rest)) := by
  intro rest
  induction rest with
  | nil =>
    intro done hb hl hd h6
    obtain ⟨K, hK⟩ := ev_get (isPerm_ev done.flatten (done.flatten.length : Int) (by omega))
    refine ⟨K + 1, fun k hk => ?_⟩
    obtain ⟨k, rfl⟩ : ∃ m, k = m + 1 := ⟨k - 1, by omega⟩
    simp only [impl_areBlocks.l0]
    rw [if_neg (by simp), isThings_eq, Option.bind_some]
    by_cases h1 : 1 ≤ done.flatten.length
    · have h2 : inB (done.flatten.length : Int) 1 6 = true := by unfold inB; exact decide_eq_true ⟨by omega, by omega⟩
      rw [if_pos h2, hK k (by omega)]
      simp only [Option.bind_some]
      refine congrArg some ?_
      rw [Bool.eq_iff_iff, decide_eq_true_eq]
      simp only [AreFrom]
      exact ⟨fun h => ⟨⟨h1, h6⟩, h⟩, fun h => h.2⟩
    · have h2 : ¬ inB (done.flatten.length : Int) 1 6 = true := by unfold inB; rw [decide_eq_true_eq]; omega
      rw [if_neg h2]
      congr 1; symm; apply decide_eq_false
      simp only [AreFrom]
      exact fun h => h1 h.1.1
  | cons b rest ih =>
    intro done hb hl hd h6
    simp only [List.length_append, List.length_cons] at hb
    have hlb := hl b (List.mem_cons_self ..)
    have e1 : rd_L1 (done ++ b :: rest) (done.length : Int) = b := rdL_mid _ _ _
    have hlen : ((done ++ b :: rest).length : Int) = (done.length : Int) + 1 + (rest.length : Int) := by simp; omega
    by_cases hb0 : b = []
    · refine ⟨1, fun k hk => ?_⟩
      obtain ⟨k, rfl⟩ : ∃ m, k = m + 1 := ⟨k - 1, by omega⟩
      simp only [impl_areBlocks.l0]
      rw [if_pos (by omega), if_pos (by omega), if_pos (by omega), e1, if_pos (by subst hb0; rfl)]
      congr 1; symm; apply decide_eq_false
      exact fun h => h.1 hb0
    have hbl : 0 < b.length := List.length_pos_iff.2 hb0
    by_cases hs : done.flatten.length + b.length ≤ 6
    case neg =>
      refine ⟨1, fun k hk => ?_⟩
      obtain ⟨k, rfl⟩ : ∃ m, k = m + 1 := ⟨k - 1, by omega⟩
      simp only [impl_areBlocks.l0]
      rw [if_pos (by omega), if_pos (by omega), if_pos (by omega), e1, if_neg (by omega), w64 ((done.flatten.length : Int) + (b.length : Int)) (by omega) (by omega), if_pos (by omega)]
      congr 1; symm; apply decide_eq_false
      exact fun h => hs h.2.1
    obtain ⟨m, hm, hm2⟩ := Min_ev b (by omega) hb0
    obtain ⟨K1, k1⟩ := ev_get hm
    obtain ⟨K2, k2⟩ := ev_get (IsSorted_ev b (by omega) hb0)
    have hrec := ih (done ++ [b]) (by simp; omega) (fun x hx => hl x (List.mem_cons_of_mem _ hx)) (by
      intro x hx
      rcases List.mem_append.1 hx with h | h
      · exact hd x h
      · rw [List.mem_singleton.1 h]; exact hb0) (by simp only [List.flatten_append, List.flatten_cons, List.flatten_nil, List.append_nil, List.length_append]; exact hs)
    rw [last_head] at hrec
    simp only [List.append_assoc, List.singleton_append, List.flatten_append, List.flatten_cons, List.flatten_nil, List.append_nil, List.length_append, List.length_cons, List.length_nil] at hrec
    obtain ⟨K3, k3⟩ := ev_get hrec
    refine ⟨K1 + K2 + K3 + 1, fun k hk => ?_⟩
    obtain ⟨k, rfl⟩ : ∃ m, k = m + 1 := ⟨k - 1, by omega⟩
    have k3' : impl_areBlocks.l0 k (done ++ b :: rest) r (done.flatten ++ b) (done ++ b :: rest) ((done ++ b :: rest).length : Int) (wrap64 ((done.length : Int) + 1)) = some (decide (AreFrom r (done.flatten ++ b) (some (rd b 0)) rest)) := by
      rw [w64 _ (by omega) (by omega)]
      have := k3 k (by omega)
      rw [List.length_append, List.length_cons]
      exact this
    simp only [impl_areBlocks.l0]
    rw [if_pos (by omega), if_pos (by omega), if_pos (by omega), e1, if_neg (by omega), w64 ((done.flatten.length : Int) + (b.length : Int)) (by omega) (by omega), if_neg (by omega), k1 k (by omega), Option.bind_some, if_pos (by omega)]
    by_cases hmin : m = rd b 0
    case neg =>
      rw [if_neg hmin]
      congr 1; symm; apply decide_eq_false
      exact fun h => hmin (hm2.2 h.2.2.1.1)
    rw [if_pos hmin]
    -- what is behind the row's own tests
    have tail : (if (done.length : Int) > 0 then (if 0 ≤ (wrap64 ((done.length : Int) - 1)) then (if (wrap64 ((done.length : Int) - 1)) < ((done ++ b :: rest).length : Int) then (if 0 < ((rd_L1 (done ++ b :: rest) (wrap64 ((done.length : Int) - 1))).length : Int) then (if (rd b 0) ≤ (rd (rd_L1 (done ++ b :: rest) (wrap64 ((done.length : Int) - 1))) 0) then (some false) else (if done.flatten.length + b.length < 17592186044416 then (impl_areBlocks.l0 k (done ++ b :: rest) r (done.flatten ++ b) (done ++ b :: rest) ((done ++ b :: rest).length : Int) (wrap64 ((done.length : Int) + 1))) else (none))) else (none)) else (none)) else (none)) else (if done.flatten.length + b.length < 17592186044416 then (impl_areBlocks.l0 k (done ++ b :: rest) r (done.flatten ++ b) (done ++ b :: rest) ((done ++ b :: rest).length : Int) (wrap64 ((done.length : Int) + 1))) else (none)))
        = some (decide (HeadOk (done.getLast?.map fun c => rd c 0) b ∧ AreFrom r (done.flatten ++ b) (some (rd b 0)) rest)) := by
      rw [k3', if_pos (show done.flatten.length + b.length < 17592186044416 by omega)]
      rcases List.eq_nil_or_concat done with rfl | ⟨d0, p, rfl⟩
      · rw [if_neg (by simp)]
        congr 1
        rw [decide_eq_decide]
        exact ⟨fun h => ⟨fun q hq => by simp at hq, h⟩, fun h => h.2⟩
      · have hp : p ≠ [] := hd p (by simp)
        have hpl : 0 < p.length := List.length_pos_iff.2 hp
        have e2 : rd_L1 (d0 ++ [p] ++ b :: rest) (wrap64 (((d0 ++ [p]).length : Int) - 1)) = p := by
          rw [List.append_assoc, List.singleton_append, w64 _ (by simp) (by simp at hb ⊢; omega), show ((d0 ++ [p]).length : Int) - 1 = (d0.length : Int) by simp]
          exact rdL_mid _ _ _
        simp only [List.concat_eq_append] at *
        rw [if_pos (by simp), if_pos (by rw [w64 _ (by simp) (by simp at hb ⊢; omega)]; simp), if_pos (by rw [w64 _ (by simp) (by simp at hb ⊢; omega)]; simp; omega), e2, if_pos (by omega), last_head]
        by_cases h : rd b 0 ≤ rd p 0
        · rw [if_pos h]
          congr 1; symm; apply decide_eq_false
          intro hh; have := hh.1 _ rfl; omega
        · rw [if_neg h]
          congr 1
          rw [decide_eq_decide]
          exact ⟨fun hh => ⟨fun q hq => by cases hq; omega, hh⟩, fun hh => hh.2⟩
    have fin : (if r = true then some (decide (∀ i, ∀ h : i + 1 < b.length, b[i] ≤ b[i + 1])) else some true) = some (decide (RowOk r b)) := by
      have hx : ∀ x ∈ b, rd b 0 ≤ x := hm2.1 hmin
      cases r
      · simp only [RowOk, Bool.false_eq_true, if_false]
        congr 1; symm; apply decide_eq_true
        exact ⟨hx, fun h => by cases h⟩
      · simp only [RowOk, if_true]
        congr 1
        rw [decide_eq_decide]
        exact ⟨fun h => ⟨hx, fun _ => h⟩, fun h => h.2 trivial⟩
    rw [tail, k2 k (by omega)]
    cases r
    · rw [if_neg (by simp)]
      rw [if_neg (by simp)] at fin
      have hrow : RowOk false b := by simpa using fin.symm
      congr 1
      rw [decide_eq_decide]
      exact ⟨fun h => ⟨hb0, hs, hrow, h.1, h.2⟩, fun h => ⟨h.2.2.2.1, h.2.2.2.2⟩⟩
    · rw [if_pos rfl, Option.bind_some]
      rw [if_pos rfl] at fin
      have fin' := Option.some.inj fin
      rw [fin']
      by_cases hrow : RowOk true b
      · rw [if_pos (decide_eq_true hrow)]
        congr 1
        rw [decide_eq_decide]
        exact ⟨fun h => ⟨hb0, hs, hrow, h.1, h.2⟩, fun h => ⟨h.2.2.2.1, h.2.2.2.2⟩⟩
      · rw [if_neg (by simpa using hrow)]
        congr 1; symm; apply decide_eq_false
        exact fun h => hrow h.2.2.1
open Classical in
theorem areBlocks_ev (r : Bool) (s : List (List Int)) (hb : s.length ≤ 1152921504606846976) (hl : ∀ b ∈ s, b.length ≤ 1048576) : Ev (fun k => impl_areBlocks.f k s r) (decide (BlkOk r s)) := by
  obtain ⟨K, hK⟩ := ev_get (areBlocks_l0 r s [] (by simpa using hb) hl (by simp) (by simp))
  refine ⟨K, fun k hk => ?_⟩
  simp only [impl_areBlocks.f]
  refine (hK k hk).trans ?_
  congr 1
  rw [decide_eq_decide]
  have h := are_iff r s [] none (by simp)
  simp only [List.length_nil, Nat.zero_add, List.nil_append] at h
  exact h
theorem spRow_step (r : Bool) (n : Int) (seen b : List Int) (j : Nat) (h : j < b.length) : SpRow r n seen b j ↔ ((0 ≤ b[j] ∧ b[j] ≤ n - 1) ∧ b[j] ∉ seen ++ b.take j ∧ (0 < j → rd b 0 ≤ b[j] ∧ (r = true → rd b ((j : Int) - 1) ≤ b[j]))) ∧ SpRow r n seen b (j + 1) := by
  constructor
  · exact fun H => ⟨H j (Nat.le_refl _) h, fun k hk => H k (by omega)⟩
  · rintro ⟨H0, H⟩ k hk hkl
    rcases Nat.eq_or_lt_of_le hk with e | e
    · subst e; exact H0
    · exact H k e hkl
open Classical in
theorem fiBlocks_l2 (s : List (List Int)) (r : Bool) (n : Int) (hn : 0 ≤ n ∧ n ≤ 6) (done rest : List (List Int)) (b : List Int) (hs : s = done ++ b :: rest) (hb0 : b ≠ []) (hbl : b.length ≤ 6) (hdn : ∀ x ∈ done, x ≠ []) (hlen : s.length ≤ 6) (seen : List Int) (hseen : seen.length + b.length ≤ 100)
    (hrec : Ev (fun k => spec_fiBlocks.l1 k s r n (seen ++ b) s (s.length : Int) ((done.length + 1 : Nat) : Int)) (if SpFrom r n (seen ++ b) (some (rd b 0)) rest then n else 0)) :
    ∀ (d j : Nat), b.length - j = d → j ≤ b.length →
    Ev (fun k => spec_fiBlocks.l2 k s r n (seen ++ b.take j) (done.length : Int) b s (s.length : Int) (done.length : Int) b (b.length : Int) (j : Int)) (if SpRow r n seen b j ∧ HeadLe (done.getLast?.map fun c => rd c 0) b ∧ SpFrom r n (seen ++ b) (some (rd b 0)) rest then n else 0) := by
  have h0l : 0 < b.length := List.length_pos_iff.2 hb0
  have hsl : s.length = done.length + 1 + rest.length := by rw [hs]; simp; omega
  intro d
  induction d with
  | zero =>
    intro j hd hj
    obtain rfl : j = b.length := by omega
    obtain ⟨K, hK⟩ := ev_get hrec
    refine ⟨K + 1, fun k hk => ?_⟩
    obtain ⟨k, rfl⟩ : ∃ m, k = m + 1 := ⟨k - 1, by omega⟩
    have hK' := hK k (by omega)
    have hrow : SpRow r n seen b b.length := fun k h1 h2 => by omega
    simp only [spec_fiBlocks.l2]
    rw [if_neg (by omega), List.take_length, w64 ((done.length : Int) + 1) (by omega) (by omega), show (done.length : Int) + 1 = ((done.length + 1 : Nat) : Int) by omega, hK']
    rcases List.eq_nil_or_concat done with rfl | ⟨d0, p, rfl⟩
    · rw [if_neg (by simp)]
      congr 1
      have : HeadLe (([] : List (List Int)).getLast?.map fun c => rd c 0) b := fun q hq => by simp at hq
      simp only [hrow, this, true_and]
    · simp only [List.concat_eq_append] at *
      have hp : p ≠ [] := hdn p (by simp)
      have hpl : 0 < p.length := List.length_pos_iff.2 hp
      have e2 : rd_L1 s (wrap64 (((d0 ++ [p]).length : Int) - 1)) = p := by
        rw [hs, List.append_assoc, List.singleton_append, w64 _ (by simp) (by simp at hsl ⊢; omega), show ((d0 ++ [p]).length : Int) - 1 = (d0.length : Int) by simp]
        exact rdL_mid _ _ _
      rw [if_pos (by simp), if_pos (by omega), if_pos (by rw [w64 _ (by simp) (by simp at hsl ⊢; omega)]; simp), if_pos (by rw [w64 _ (by simp) (by simp at hsl ⊢; omega)]; simp at hsl ⊢; omega), e2, if_pos (by omega), last_head]
      by_cases h : rd b 0 < rd p 0
      · rw [if_pos h, if_neg (fun hh => by have := hh.2.1 _ rfl; omega)]
      · rw [if_neg h]
        have : HeadLe (some (rd p 0)) b := fun q hq => by cases hq; omega
        simp only [hrow, this, true_and]
  | succ d ih =>
    intro j hd hj
    have h1 : j < b.length := by omega
    obtain ⟨K1, k1⟩ := ev_get (ih (j + 1) (by omega) (by omega))
    have htl : (seen ++ b.take j).length = seen.length + j := by simp; omega
    obtain ⟨K2, k2⟩ := ev_get (l1Has_ev (seen ++ b.take j) b[j] (by omega))
    refine ⟨K1 + K2 + 1, fun k hk => ?_⟩
    obtain ⟨k, rfl⟩ : ∃ m, k = m + 1 := ⟨k - 1, by omega⟩
    have hst := spRow_step r n seen b j h1
    have k1' : spec_fiBlocks.l2 k s r n ((seen ++ b.take j) ++ [b[j]]) (done.length : Int) b s (s.length : Int) (done.length : Int) b (b.length : Int) (wrap64 ((j : Int) + 1)) = some (if SpRow r n seen b (j + 1) ∧ HeadLe (done.getLast?.map fun c => rd c 0) b ∧ SpFrom r n (seen ++ b) (some (rd b 0)) rest then n else 0) := by
      have := k1 k (by omega)
      rw [w64 _ (by omega) (by omega), List.append_assoc, List.take_append_getElem h1]
      exact this
    simp only [spec_fiBlocks.l2]
    rw [if_pos (by omega), if_pos (by omega), if_pos (by omega), rd_nat b j h1, w64 (n - 1) (by omega) (by omega), l1In_eq, Option.bind_some, k2 k (by omega), Option.bind_some, k1', if_pos (show (seen ++ b.take j).length < 17592186044416 by omega)]
    by_cases c1 : inB b[j] 0 (n - 1) = true
    case neg =>
      rw [if_neg c1, if_neg (fun hh => c1 (by unfold inB; exact decide_eq_true ((hst.1 hh.1).1.1)))]
    have c1' : 0 ≤ b[j] ∧ b[j] ≤ n - 1 := by simpa [inB] using c1
    rw [if_pos c1]
    by_cases c2 : b[j] ∈ seen ++ b.take j
    · rw [if_pos (decide_eq_true c2), if_neg (fun hh => (hst.1 hh.1).1.2.1 c2)]
    rw [if_neg (by simpa using c2)]
    by_cases c3 : 0 < j
    case neg =>
      rw [if_neg (by omega)]
      congr 1
      have : SpRow r n seen b j ↔ SpRow r n seen b (j + 1) := ⟨fun h => (hst.1 h).2, fun h => hst.2 ⟨⟨c1', c2, fun h => absurd h c3⟩, h⟩⟩
      simp only [this]
    rw [if_pos (by omega), if_pos (by omega)]
    by_cases c4 : b[j] < rd b 0
    · rw [if_pos c4, if_neg (fun hh => by have := ((hst.1 hh.1).1.2.2 c3).1; omega)]
    rw [if_neg c4]
    have goon : (r = true → rd b ((j : Int) - 1) ≤ b[j]) → (if SpRow r n seen b (j + 1) ∧ HeadLe (done.getLast?.map fun c => rd c 0) b ∧ SpFrom r n (seen ++ b) (some (rd b 0)) rest then n else 0) = (if SpRow r n seen b j ∧ HeadLe (done.getLast?.map fun c => rd c 0) b ∧ SpFrom r n (seen ++ b) (some (rd b 0)) rest then n else 0) := by
      intro hr
      have : SpRow r n seen b j ↔ SpRow r n seen b (j + 1) := ⟨fun h => (hst.1 h).2, fun h => hst.2 ⟨⟨c1', c2, fun _ => ⟨by omega, hr⟩⟩, h⟩⟩
      simp only [this]
    cases r
    · rw [if_neg (by simp)]
      exact congrArg some (goon (fun h => by cases h))
    · rw [if_pos rfl, w64 ((j : Int) - 1) (by omega) (by omega), if_pos (by omega), if_pos (by omega)]
      by_cases c5 : b[j] < rd b ((j : Int) - 1)
      · rw [if_pos c5, if_neg (fun hh => by have := ((hst.1 hh.1).1.2.2 c3).2 rfl; omega)]
      · rw [if_neg c5]
        exact congrArg some (goon (fun _ => by omega))
open Classical in
theorem fiBlocks_l1 (s : List (List Int)) (r : Bool) (n : Int) (hn : 0 ≤ n ∧ n ≤ 6) (hlen : s.length ≤ 6) (hne : AllNe s) (h6 : ∀ b ∈ s, b.length ≤ 6) : ∀ (rest done : List (List Int)), s = done ++ rest → ∀ seen : List Int, seen.length + 6 * rest.length ≤ 100 →
    Ev (fun k => spec_fiBlocks.l1 k s r n seen s (s.length : Int) (done.length : Int)) (if SpFrom r n seen (done.getLast?.map fun c => rd c 0) rest then n else 0) := by
  intro rest
  induction rest with
  | nil =>
    intro done hs seen hl
    refine ⟨1, fun k hk => ?_⟩
    obtain ⟨k, rfl⟩ : ∃ m, k = m + 1 := ⟨k - 1, by omega⟩
    simp only [spec_fiBlocks.l1]
    have hsl := congrArg List.length hs
    rw [List.append_nil] at hsl
    rw [if_neg (by omega), if_pos (show SpFrom r n seen _ [] from trivial)]
  | cons b rest ih =>
    intro done hs seen hl
    have hbm : b ∈ s := by rw [hs]; simp
    have hb6 := h6 b hbm
    have hsl : s.length = done.length + 1 + rest.length := by rw [hs]; simp; omega
    simp only [List.length_cons] at hl
    have hrec := ih (done ++ [b]) (by rw [hs]; simp) (seen ++ b) (by rw [List.length_append]; omega)
    rw [last_head, List.length_append, List.length_singleton] at hrec
    obtain ⟨K, hK⟩ := ev_get (fiBlocks_l2 s r n hn done rest b hs (hne b hbm) hb6 (fun x hx => hne x (by rw [hs]; exact List.mem_append_left _ hx)) hlen seen (by omega) hrec b.length 0 (by omega) (by omega))
    refine ⟨K + 1, fun k hk => ?_⟩
    obtain ⟨k, rfl⟩ : ∃ m, k = m + 1 := ⟨k - 1, by omega⟩
    have e1 : rd_L1 s (done.length : Int) = b := by rw [hs]; exact rdL_mid _ _ _
    simp only [spec_fiBlocks.l1]
    rw [if_pos (by omega), if_pos (by omega), if_pos (by omega), e1]
    have := hK k (by omega)
    rw [List.take_zero, List.append_nil] at this
    refine this.trans (congrArg some ?_)
    by_cases hS : SpFrom r n seen (done.getLast?.map fun c => rd c 0) (b :: rest)
    · rw [if_pos hS]; exact if_pos hS
    · rw [if_neg hS]; exact if_neg hS
open Classical in
theorem fiBlocks_l0 (s : List (List Int)) (r : Bool) (hlen : s.length ≤ 6) (hbl : ∀ b ∈ s, b.length ≤ 1048576) (res : Int) (hrec : AllNe s → total s ≤ 6 → Ev (fun k => spec_fiBlocks.l1 k s r (total s : Int) [] s (s.length : Int) 0) res) : ∀ (rest done : List (List Int)), s = done ++ rest → AllNe done → total done ≤ 6 →
    Ev (fun k => spec_fiBlocks.l0 k s r (total done : Int) s (s.length : Int) (done.length : Int)) (if AllNe s ∧ total s ≤ 6 then res else 0) := by
  intro rest
  induction rest with
  | nil =>
    intro done hs hd h6
    rw [List.append_nil] at hs; subst hs
    obtain ⟨K, hK⟩ := ev_get (hrec hd h6)
    refine ⟨K + 1, fun k hk => ?_⟩
    obtain ⟨k, rfl⟩ : ∃ m, k = m + 1 := ⟨k - 1, by omega⟩
    simp only [spec_fiBlocks.l0]
    rw [if_neg (by omega), if_pos ⟨hd, h6⟩]
    exact hK k (by omega)
  | cons b rest ih =>
    intro done hs hd h6
    have e1 : rd_L1 s (done.length : Int) = b := by rw [hs]; exact rdL_mid _ _ _
    have hsl : s.length = done.length + 1 + rest.length := by rw [hs]; simp; omega
    have hbm : b ∈ s := by rw [hs]; simp
    have hb := hbl b hbm
    have ht : total s = total done + b.length + total rest := by
      rw [hs, ← total_flat, ← total_flat, ← total_flat]; simp; omega
    by_cases hb0 : b = []
    · refine ⟨1, fun k hk => ?_⟩
      obtain ⟨k, rfl⟩ : ∃ m, k = m + 1 := ⟨k - 1, by omega⟩
      simp only [spec_fiBlocks.l0]
      rw [if_pos (by omega), if_pos (by omega), if_pos (by omega), e1, if_pos (by subst hb0; rfl), if_neg (fun h => h.1 b hbm hb0)]
    have h0l := List.length_pos_iff.2 hb0
    by_cases hs6 : total done + b.length ≤ 6
    case neg =>
      refine ⟨1, fun k hk => ?_⟩
      obtain ⟨k, rfl⟩ : ∃ m, k = m + 1 := ⟨k - 1, by omega⟩
      simp only [spec_fiBlocks.l0]
      rw [if_pos (by omega), if_pos (by omega), if_pos (by omega), e1, if_neg (by omega), w64 (6 - _) (by omega) (by omega), if_pos (by omega), if_neg (fun h => by have := h.2; omega)]
    have htd : total (done ++ [b]) = total done + b.length := by rw [← total_flat, ← total_flat]; simp
    obtain ⟨K, hK⟩ := ev_get (ih (done ++ [b]) (by rw [hs]; simp) (fun x hx => by
      rcases List.mem_append.1 hx with h | h
      · exact hd x h
      · rw [List.mem_singleton.1 h]; exact hb0) (by omega))
    refine ⟨K + 1, fun k hk => ?_⟩
    obtain ⟨k, rfl⟩ : ∃ m, k = m + 1 := ⟨k - 1, by omega⟩
    simp only [spec_fiBlocks.l0]
    rw [if_pos (by omega), if_pos (by omega), if_pos (by omega), e1, if_neg (by omega), w64 (6 - _) (by omega) (by omega), if_neg (by omega), w64 _ (by omega) (by omega), w64 _ (by omega) (by omega)]
    have := hK k (by omega)
    rw [htd, List.length_append, List.length_singleton] at this
    rw [← this]
    congr 1
open Classical in
theorem fiBlocks_ev (r : Bool) (s : List (List Int)) (hl : ∀ b ∈ s, b.length ≤ 1048576) (hb : s.length ≤ 1152921504606846976) : Ev (fun k => spec_fiBlocks.f k s r) (if BlkOk r s then (total s : Int) else 0) := by
  by_cases hlen : s.length ≤ 6
  case neg =>
    refine ⟨0, fun k hk => ?_⟩
    simp only [spec_fiBlocks.f]
    rw [if_pos (by omega), if_neg]
    intro h
    have := allNe_len h.1
    have := h.2.1
    omega
  have hl1 : AllNe s → total s ≤ 6 → Ev (fun k => spec_fiBlocks.l1 k s r (total s : Int) [] s (s.length : Int) 0) (if SpFrom r (total s : Int) [] none s then (total s : Int) else 0) := by
    intro h1 h2
    exact fiBlocks_l1 s r (total s : Int) ⟨by omega, by omega⟩ hlen h1 (fun b hb => by have := total_mem hb; omega) s [] rfl [] (by simp; omega)
  obtain ⟨K, hK⟩ := ev_get (fiBlocks_l0 s r hlen hl _ hl1 s [] rfl (fun x hx => by simp at hx) (by simp [total]))
  refine ⟨K, fun k hk => ?_⟩
  simp only [spec_fiBlocks.f]
  rw [if_neg (by omega)]
  refine (hK k hk).trans ?_
  congr 1
  by_cases h1 : AllNe s ∧ total s ≤ 6
  · rw [if_pos h1]
    have h2 := sp_iff r (total s : Int) s [] none List.nodup_nil h1.1 (fun p e => by cases e)
    rw [List.nil_append] at h2
    by_cases h3 : BlkOk r s
    · rw [if_pos h3, if_pos (h2.2 ⟨h3.2.2.1, h3.2.2.2.2⟩)]
    · rw [if_neg h3]
      by_cases h4 : SpFrom r (total s : Int) [] none s
      · rw [if_pos h4]
        have h5 := h2.1 h4
        have : ¬ 1 ≤ total s := fun h => h3 ⟨h1.1, h1.2, h5.1, h, h5.2⟩
        omega
      · rw [if_neg h4]
  · rw [if_neg h1, if_neg (fun h => h1 ⟨h.1, h.2.1⟩)]
end Go.Proofs.Ythlcaikplebpmaa.P
namespace Go.Proofs.Ythlcaikplebpmaa.P
open Go.RowKit Go.Proofs.YthlcaikplebpmaaW.PrintWords Go.Proofs.YthlcaikplebpmaaW.PrintLast Go.Proofs.YthlcaikplebpmaaW.PrintMore
set_option linter.unusedVariables false
set_option linter.unusedSimpArgs false
/-- All file placements on the arrow board. -/
def allF : Nat → List (List Int)
  | 0 => [[]]
  | n + 1 => (allF n).flatMap fun l => (List.range (n + 1)).map fun (v : Nat) => l ++ [(v : Int) - 1]
theorem mem_allF_snoc {n : Nat} {l : List Int} (h : l ∈ allF n) {x : Int} (h0 : -1 ≤ x) (h1 : x < (n : Int)) : l ++ [x] ∈ allF (n + 1) := by
  rw [allF, List.mem_flatMap]
  refine ⟨l, h, List.mem_map.2 ⟨(x + 1).toNat, List.mem_range.2 (by omega), ?_⟩⟩
  rw [show (((x + 1).toNat : Nat) : Int) - 1 = x by omega]
theorem mem_allF (l : List Int) (h : ∀ j, ∀ hj : j < l.length, -1 ≤ l[j] ∧ l[j] < (j : Int)) : ∀ n, n ≤ l.length → l.take n ∈ allF n
  | 0, _ => by simp [allF]
  | n + 1, hn => by
    have := h n (by omega)
    rw [List.take_add_one, List.getElem?_eq_getElem (by omega)]
    exact mem_allF_snoc (mem_allF l h n (by omega)) this.1 this.2
theorem arrow_has : ∀ n : Fin 7, ∀ r : Fin 7, ∀ c : Fin 7, 1 ≤ n.val → r.val < n.val → c.val < n.val → hasC (arrC n.val) (r.val : Int) (c.val : Int) = true → r.val < c.val := by decide +kernel
theorem fileB_at {R : Int} {l f : List Int} : ∀ (d i : Nat), fileB R l f d i = true → ∀ j, i ≤ j → j < i + d → rd f (j : Int) = -1 ∨ (0 ≤ rd f (j : Int) ∧ rd f (j : Int) ≤ R - 1) ∧ hasC l (rd f (j : Int)) (j : Int) = true
  | 0, i, _, j, h1, h2 => by omega
  | d + 1, i, h, j, h1, h2 => by
    rw [fileB] at h
    by_cases e : j = i
    · subst e
      by_cases a : rd f (j : Int) = -1
      · exact .inl a
      · rw [if_neg a] at h
        by_cases b : inB (rd f (j : Int)) 0 (R - 1) = true
        · rw [if_pos b] at h
          by_cases c : hasC l (rd f (j : Int)) (j : Int) = true
          · exact .inr ⟨by simpa [inB] using b, c⟩
          · rw [if_neg c] at h; exact absurd h (by simp)
        · rw [if_neg b] at h; exact absurd h (by simp)
    · have h' : fileB R l f d (i + 1) = true := by
        by_cases a : rd f (i : Int) = -1
        · rw [if_pos a] at h; exact h
        · rw [if_neg a] at h
          by_cases b : inB (rd f (i : Int)) 0 (R - 1) = true
          · rw [if_pos b] at h
            by_cases c : hasC l (rd f (i : Int)) (i : Int) = true
            · rw [if_pos c] at h; exact h
            · rw [if_neg c] at h; exact absurd h (by simp)
          · rw [if_neg b] at h; exact absurd h (by simp)
      exact fileB_at d (i + 1) h' j (by omega) (by omega)
theorem good_mem {l : List Int} (h : goodF l) : l ∈ allF l.length := by
  have := mem_allF l (fun j hj => ?_) l.length (Nat.le_refl _)
  · rw [List.take_length] at this; exact this
  · obtain ⟨⟨h1, h6⟩, hf⟩ := h
    have hj2 := fileB_at l.length 0 hf j (by omega) (by omega)
    rw [rd_nat l j hj] at hj2
    rcases hj2 with e | ⟨⟨e1, e2⟩, e3⟩
    · omega
    · have := arrow_has ⟨l.length, by omega⟩ ⟨(l[j]).toNat, by omega⟩ ⟨j, by omega⟩ h1 (by dsimp only; omega) hj (by
        dsimp only
        rw [show (((l[j]).toNat : Nat) : Int) = l[j] by omega]
        exact e3)
      dsimp only at this
      omega
/-- What holds of each file placement on the arrow board. -/
def fineB (l : List Int) : Bool := decide (goodF l) && decide (impl_FilesOfCycles.f 60 (impl_CyclesOfFiles.goI l 0 []) = some (l, true)) && decide (isFileR (l.length : Int) (l.length : Int) (arrC l.length) l = (true, true)) && decide ((l.filter fun x => decide (0 ≤ x)).length + (impl_CyclesOfFiles.goI l 0 []).length = l.length)
theorem fine_all : ∀ n : Fin 7, 1 ≤ n.val → (allF n.val).all fineB = true := by decide +kernel
theorem fine_of {n : Nat} (h1 : 1 ≤ n) (h6 : n ≤ 6) {l : List Int} (h : l ∈ allF n) : fineB l = true := List.all_eq_true.1 (fine_all ⟨n, by omega⟩ h1) l h
theorem goI_snoc : ∀ (l : List Int) (j : Nat) (out : List (List Int)) (x : Int), impl_CyclesOfFiles.goI (l ++ [x]) j out = if x = -1 then impl_CyclesOfFiles.goI l j out ++ [[((j + l.length : Nat) : Int)]] else impl_CyclesOfFiles.stepI (impl_CyclesOfFiles.goI l j out) x ((j + l.length : Nat) : Int)
  | [], j, out, x => by
    rw [List.nil_append, impl_CyclesOfFiles.goI, impl_CyclesOfFiles.goI]; rfl
  | y :: l, j, out, x => by
    rw [List.cons_append, impl_CyclesOfFiles.goI, goI_snoc l (j + 1), impl_CyclesOfFiles.goI, List.length_cons, show j + 1 + l.length = j + (l.length + 1) by omega]
theorem rd_head (x : Int) (b : List Int) : rd (x :: b) 0 = x := rfl
theorem cyc_less (N : Int) : ∀ (c : List (List Int)) (prev : Option Int), AllNe c → ZOk false prev c → c.flatten.Nodup → (∀ x ∈ c.flatten, x ≤ N) → N ∈ c.flatten →
    ∃ c' : List (List Int), AllNe c' ∧ ZOk false prev c' ∧ c.flatten.Perm (N :: c'.flatten) ∧ (c = c' ++ [[N]] ∨ ∃ x ∈ c'.flatten, c = impl_CyclesOfFiles.stepI c' x N)
  | [], _, _, _, _, _, h => by simp at h
  | b :: rest, prev, hne, hz, hn, hle, hN => by
    obtain ⟨hrow, hhead, hz2⟩ := hz
    rw [List.flatten_cons] at hn hle hN
    rw [List.nodup_append] at hn
    obtain ⟨hn1, hn2, hn3⟩ := hn
    have hner : AllNe rest := fun y hy => hne y (List.mem_cons_of_mem _ hy)
    by_cases hb : N ∈ b
    · obtain ⟨p, q, rfl⟩ := List.append_of_mem hb
      rcases List.eq_nil_or_concat p with rfl | ⟨p, x, rfl⟩
      case inl =>
        rw [List.nil_append] at hrow hn1 hz2 hle hn3 hhead ⊢
        have hq : q = [] := by
          cases q with
          | nil => rfl
          | cons y q =>
            exfalso
            have h1 := hrow.1 y (by simp)
            have h2 := hle y (by simp)
            rw [rd_head] at h1
            have : y = N := by omega
            rw [List.nodup_cons] at hn1
            exact hn1.1 (by rw [this]; simp)
        subst hq
        have hr : rest = [] := by
          cases rest with
          | nil => rfl
          | cons y rest =>
            exfalso
            have h1 := hz2.2.1 N rfl
            have hy : y ≠ [] := hner y (List.mem_cons_self ..)
            have h2 := hle (rd y 0) (by
              rw [List.flatten_cons]
              exact List.mem_append_right _ (List.mem_append_left _ (rd_zero_mem hy)))
            omega
        subst hr
        exact ⟨[], by simp [AllNe], trivial, by simp, .inl rfl⟩
      case inr =>
        rw [List.concat_eq_append] at hrow hn1 hz2 hle hn3 hhead ⊢
        have hx : p ++ [x] ≠ [] := by simp
        have hhd : ∀ q' : List Int, rd ((p ++ [x]) ++ q') 0 = rd (p ++ [x]) 0 := fun q' => by
          cases p with
          | nil => rfl
          | cons y p => rfl
        have e0 : rd ((p ++ [x]) ++ N :: q) 0 = rd ((p ++ [x]) ++ q) 0 := by rw [hhd, hhd]
        have hnd : ((p ++ [x]) ++ q).Nodup := by
          have := (List.perm_middle (a := N) (l₁ := p ++ [x]) (l₂ := q)).nodup_iff.1 hn1
          exact (List.nodup_cons.1 this).2
        refine ⟨((p ++ [x]) ++ q) :: rest, ?_, ⟨⟨fun y hy => ?_, fun h => by simp at h⟩, fun v hv => ?_, ?_⟩, ?_, .inr ⟨x, by simp, ?_⟩⟩
        · intro y hy
          rcases List.mem_cons.1 hy with rfl | hy
          · simp
          · exact hner y hy
        · rw [← e0]
          refine hrow.1 y ?_
          rcases List.mem_append.1 hy with hy | hy
          · exact List.mem_append_left _ hy
          · exact List.mem_append_right _ (List.mem_cons_of_mem _ hy)
        · rw [← e0]; exact hhead v hv
        · rw [← e0]; exact hz2
        · rw [List.flatten_cons, List.flatten_cons]
          exact (List.perm_middle.append_right _)
        · have hp : ((p ++ [x]) ++ q)[p.length]? = some x := by simp
          have hi := idxI_at ((p ++ [x]) ++ q) x 0 p.length hnd hp
          rw [impl_CyclesOfFiles.stepI, hi, if_pos (by omega), show ((0 + p.length : Nat) : Int).toNat + 1 = (p ++ [x]).length by simp]
          unfold Cap.insL
          rw [List.take_left, List.drop_left]
          simp
    · have hN2 : N ∈ rest.flatten := (List.mem_append.1 hN).resolve_left hb
      obtain ⟨c', h1, h2, h3, h4⟩ := cyc_less N rest (some (rd b 0)) hner hz2 hn2 (fun x hx => hle x (List.mem_append_right _ hx)) hN2
      have hp : ((b :: rest).flatten).Perm (N :: (b :: c').flatten) := by
        rw [List.flatten_cons, List.flatten_cons]
        exact (h3.append_left b).trans List.perm_middle
      have hA : AllNe (b :: c') := fun y hy => by
        rcases List.mem_cons.1 hy with rfl | hy
        · exact hne _ (List.mem_cons_self ..)
        · exact h1 y hy
      refine ⟨b :: c', hA, ⟨hrow, hhead, h2⟩, hp, ?_⟩
      rcases h4 with rfl | ⟨x, hx, rfl⟩
      · exact .inl rfl
      · refine .inr ⟨x, by rw [List.flatten_cons]; exact List.mem_append_right _ hx, ?_⟩
        have hxr : x ∈ (impl_CyclesOfFiles.stepI c' x N).flatten := h3.mem_iff.2 (List.mem_cons_of_mem _ hx)
        have hxb : x ∉ b := fun hh => hn3 x hh x hxr rfl
        rw [impl_CyclesOfFiles.stepI, idxI_none b x 0 hxb, if_neg (by omega)]
theorem nodup_lt : ∀ (n : Nat) (l : List Int), l.Nodup → (∀ x ∈ l, 0 ≤ x ∧ x < n) → l.length ≤ n
  | 0, l, _, hb => by
    cases l with
    | nil => simp
    | cons x l => exact absurd (hb x (.head _)) (by omega)
  | n + 1, l, hn, hb => by
    by_cases hm : (n : Int) ∈ l
    · have := nodup_lt n (l.erase n) (hn.erase _) (fun x hx => by
        have h1 := (hn.mem_erase_iff).1 hx
        have := hb x h1.2
        have := h1.1
        omega)
      rw [List.length_erase_of_mem hm] at this
      omega
    · have := nodup_lt n l hn (fun x hx => by
        have := hb x hx
        have : x ≠ n := fun e => hm (e ▸ hx)
        omega)
      omega
theorem cyc_go : ∀ (n : Nat) (c : List (List Int)), AllNe c → ZOk false none c → c.flatten.Nodup → (∀ x ∈ c.flatten, 0 ≤ x ∧ x < (n : Int)) → c.flatten.length = n → ∃ l ∈ allF n, l.length = n ∧ c = impl_CyclesOfFiles.goI l 0 []
  | 0, c, hne, _, _, _, hl => by
    refine ⟨[], by simp [allF], rfl, ?_⟩
    cases c with
    | nil => rfl
    | cons b c =>
      exfalso
      have := hne b (List.mem_cons_self ..)
      rw [List.flatten_cons, List.length_append] at hl
      exact this (List.length_eq_zero_iff.1 (by omega))
  | n + 1, c, hne, hz, hn, hb, hl => by
    have hN : (n : Int) ∈ c.flatten := by
      refine Classical.byContradiction (fun hh => ?_)
      have := nodup_lt n c.flatten hn (fun x hx => by
        have h1 := hb x hx
        have : x ≠ (n : Int) := fun e => hh (e ▸ hx)
        omega)
      omega
    obtain ⟨c', h1, h2, h3, h4⟩ := cyc_less (n : Int) c none hne hz hn (fun x hx => by have := hb x hx; omega) hN
    have hn' := h3.nodup_iff.1 hn
    rw [List.nodup_cons] at hn'
    have hl' : c'.flatten.length = n := by have := h3.length_eq; rw [List.length_cons] at this; omega
    have hb' : ∀ x ∈ c'.flatten, 0 ≤ x ∧ x < (n : Int) := fun x hx => by
      have h5 := hb x (h3.mem_iff.2 (List.mem_cons_of_mem _ hx))
      have : x ≠ (n : Int) := fun e => hn'.1 (e ▸ hx)
      omega
    obtain ⟨l, hl1, hl2, hl3⟩ := cyc_go n c' h1 h2 hn'.2 hb' hl'
    rcases h4 with h4 | ⟨x, hx, h4⟩
    · refine ⟨l ++ [-1], mem_allF_snoc hl1 (by omega) (by omega), by simp [hl2], ?_⟩
      rw [goI_snoc, if_pos rfl, ← hl3, h4, hl2, Nat.zero_add]
    · have hx' := hb' x hx
      refine ⟨l ++ [x], mem_allF_snoc hl1 (by omega) hx'.2, by simp [hl2], ?_⟩
      rw [goI_snoc, if_neg (by omega), ← hl3, h4, hl2, Nat.zero_add]
end Go.Proofs.Ythlcaikplebpmaa.P
namespace Go.Proofs.Ythlcaikplebpmaa.P
open Go.RowKit Go.Proofs.YthlcaikplebpmaaW.PrintWords Go.Proofs.YthlcaikplebpmaaW.PrintLast Go.Proofs.YthlcaikplebpmaaW.PrintMore
set_option linter.unusedVariables false
set_option linter.unusedSimpArgs false
def Bytes (s : List Int) : Prop := ∀ x ∈ s, 0 ≤ x ∧ x ≤ 255
theorem bytes_of {s : List Int} (h : ∀ x ∈ s, (Lit.int .u8 x).wf = true) : Bytes s := by
  intro x hx
  have := h x hx
  simp [Lit.wf, IntKind.wrap, IntKind.bits, IntKind.signed, IntKind.min, IntKind.max] at this
  omega
theorem u64_wrap (n : Int) : IntKind.u64.wrap n = n % 18446744073709551616 := by simp [IntKind.wrap, IntKind.bits, IntKind.signed]
theorem seed_byte (n : Int) : 0 ≤ Go.bits .and .u64 (IntKind.u64.wrap n / 1099511627776) 255 ∧ Go.bits .and .u64 (IntKind.u64.wrap n / 1099511627776) 255 ≤ 255 := by
  have h0 : 0 ≤ IntKind.u64.wrap n / 1099511627776 := by rw [u64_wrap]; omega
  have h1 : IntKind.u64.wrap n / 1099511627776 < 2 ^ 24 := by rw [u64_wrap]; omega
  have := bits_mask .u64 24 (by decide) (fun n h0 h1 => by rw [u64_wrap]; omega) 8 (by decide) _ h0 h1
  have e : (2 : Int) ^ 8 - 1 = 255 := by decide
  rw [e] at this
  rw [this]
  omega
theorem next_ok {s : List Int} (hs : Bytes s) (a b : Int) (h0 : 0 ≤ a) (h1 : a ≤ 4611686018427387904) : ∃ x b', spec_l1Cur_next.f s a b = some (x, a + 1, b') ∧ 0 ≤ x ∧ x ≤ 255 := by
  unfold spec_l1Cur_next.f
  rw [w64 (a + 1) (by omega) (by omega)]
  by_cases h : a < (s.length : Int)
  · rw [if_pos h, if_pos h0, if_pos (by omega)]
    have hx := hs (rd s a) (by
      obtain ⟨n, rfl⟩ : ∃ n : Nat, a = (n : Int) := ⟨a.toNat, by omega⟩
      rw [rd_nat _ _ (show n < s.length by omega)]
      exact List.getElem_mem _)
    rw [w64 _ (by omega) (by omega)]
    exact ⟨_, _, rfl, hx⟩
  · rw [if_neg h, if_neg (by omega)]
    have hx := seed_byte ((IntKind.u64.wrap (IntKind.u64.wrap (b * 6364136223846793005))) + 1442695040888963407)
    rw [w64 (Go.bits _ _ _ _) (by omega) (by omega)]
    exact ⟨_, _, rfl, hx⟩
theorem pick_ok {s : List Int} (hs : Bytes s) (a b n : Int) (h0 : 0 ≤ a) (h1 : a ≤ 4000000000000000000) : ∃ x a' b', spec_l1Cur_pick.f s a b n = some (x, a', b') ∧ 0 ≤ x ∧ (x < n ∨ n ≤ 1 ∧ x = 0) ∧ a ≤ a' ∧ a' ≤ a + 2 := by
  unfold spec_l1Cur_pick.f
  by_cases h : n ≤ 1
  · rw [if_pos h]
    exact ⟨0, a, b, rfl, by omega, .inr ⟨h, rfl⟩, by omega, by omega⟩
  · rw [if_neg h]
    obtain ⟨x, b1, e1, h2, h3⟩ := next_ok hs a b h0 (by omega)
    rw [e1]
    simp only [Option.bind_some]
    by_cases h4 : n > 200
    · obtain ⟨y, b2, e2, h5, h6⟩ := next_ok hs (a + 1) b1 (by omega) (by omega)
      rw [if_pos h4, e2]
      simp only [Option.bind_some]
      rw [if_neg (by omega), w64 (x * 256) (by omega) (by omega), w64 _ (by omega) (by omega)]
      refine ⟨_, _, _, rfl, Int.tmod_nonneg _ (by omega), .inl (Int.tmod_lt_of_pos _ (by omega)), by omega, by omega⟩
    · rw [if_neg h4, if_neg (by omega)]
      refine ⟨_, _, _, rfl, Int.tmod_nonneg _ (by omega), .inl (Int.tmod_lt_of_pos _ (by omega)), by omega, by omega⟩
theorem among_ok {s : List Int} (hs : Bytes s) (a b : Int) (l : List Int) (hl : 0 < l.length) (h0 : 0 ≤ a) (h1 : a ≤ 4000000000000000000) : ∃ x a' b', spec_l1Cur_among.f s a b l = some (x, a', b') ∧ x ∈ l ∧ a ≤ a' ∧ a' ≤ a + 2 := by
  obtain ⟨x, a', b', e, h2, h3, h4, h5⟩ := pick_ok hs a b (l.length : Int) h0 h1
  unfold spec_l1Cur_among.f
  rw [e]
  simp only [Option.bind_some]
  have hx : x < (l.length : Int) := by omega
  rw [if_pos h2, if_pos hx]
  refine ⟨_, _, _, rfl, ?_, h4, h5⟩
  obtain ⟨n, rfl⟩ : ∃ n : Nat, x = (n : Int) := ⟨x.toNat, by omega⟩
  rw [rd_nat _ _ (show n < l.length by omega)]
  exact List.getElem_mem _
theorem big_eq (a b : List Int) (ha : a.length ≤ 140737488351232) (hb : b.length ≤ 140737488351232) : ∃ x, laws_big.f a b = some x := by
  unfold laws_big.f
  repeat (first | exact ⟨_, rfl⟩ | split | simp only [Option.bind_some])
end Go.Proofs.Ythlcaikplebpmaa.P
namespace Go.Proofs.Ythlcaikplebpmaa.P
open Go.RowKit Go.Proofs.YthlcaikplebpmaaW.PrintWords Go.Proofs.YthlcaikplebpmaaW.PrintLast Go.Proofs.YthlcaikplebpmaaW.PrintMore
set_option linter.unusedVariables false
set_option linter.unusedSimpArgs false
theorem kSame_l0 (a : List Int) (hb : a.length ≤ 1152921504606846976) : ∀ (d i : Nat) (k : Nat), a.length - i = d → i ≤ a.length → d < k →
    laws_kSame.l0 k a a (a.length : Int) (i : Int) = some true := by
  intro d
  induction d with
  | zero =>
    intro i k hd hi hk
    obtain ⟨k, rfl⟩ : ∃ m, k = m + 1 := ⟨k - 1, by omega⟩
    rw [laws_kSame.l0, if_neg (by omega)]
  | succ d ih =>
    intro i k hd hi hk
    obtain ⟨k, rfl⟩ : ∃ m, k = m + 1 := ⟨k - 1, by omega⟩
    rw [laws_kSame.l0, if_pos (by omega), if_pos (by omega), if_pos (by omega), if_pos (by omega), if_pos rfl, w64 _ (by omega) (by omega), show ((i : Int) + 1) = ((i + 1 : Nat) : Int) by omega]
    exact ih (i + 1) k (by omega) (by omega) (by omega)
theorem kSame_refl (a : List Int) (hb : a.length ≤ 1152921504606846976) : Ev (fun k => laws_kSame.f k a a) true := by
  refine ⟨a.length + 1, fun k hk => ?_⟩
  simp only [laws_kSame.f, if_true]
  exact kSame_l0 a hb a.length 0 k (by omega) (by omega) (by omega)
theorem kRows_l0 (a : List (List Int)) (hb : a.length ≤ 1152921504606846976) (hl : ∀ l ∈ a, l.length ≤ 1152921504606846976) : ∀ (d i : Nat), a.length - i = d → i ≤ a.length →
    Ev (fun k => laws_kRows.l0 k a a (a.length : Int) (i : Int)) true := by
  intro d
  induction d with
  | zero =>
    intro i hd hi
    refine ⟨1, fun k hk => ?_⟩
    obtain ⟨k, rfl⟩ : ∃ m, k = m + 1 := ⟨k - 1, by omega⟩
    dsimp only
    rw [laws_kRows.l0, if_neg (by omega)]
  | succ d ih =>
    intro i hd hi
    have hi2 : i < a.length := by omega
    obtain ⟨K1, h1⟩ := ev_get (ih (i + 1) (by omega) (by omega))
    obtain ⟨K2, h2⟩ := ev_get (kSame_refl a[i] (hl _ (List.getElem_mem hi2)))
    refine ⟨K1 + K2 + 1, fun k hk => ?_⟩
    obtain ⟨k, rfl⟩ : ∃ m, k = m + 1 := ⟨k - 1, by omega⟩
    dsimp only
    rw [laws_kRows.l0, if_pos (by omega), if_pos (by omega), if_pos (by omega), if_pos (by omega), rdL_nat _ _ hi2, h2 k (by omega), Option.bind_some, if_pos rfl, w64 _ (by omega) (by omega), show ((i : Int) + 1) = ((i + 1 : Nat) : Int) by omega]
    exact h1 k (by omega)
theorem kRows_refl (a : List (List Int)) (hb : a.length ≤ 1152921504606846976) (hl : ∀ l ∈ a, l.length ≤ 1152921504606846976) : Ev (fun k => laws_kRows.f k a a) true := by
  obtain ⟨K, hK⟩ := ev_get (kRows_l0 a hb hl a.length 0 (by omega) (by omega))
  refine ⟨K, fun k hk => ?_⟩
  simp only [laws_kRows.f, if_true]
  exact hK k hk
end Go.Proofs.Ythlcaikplebpmaa.P
namespace Go.Proofs.Ythlcaikplebpmaa.Pure
open Go.RowKit Go.Proofs.Ythlcaikplebpmaa.P Go.Proofs.YthlcaikplebpmaaW.PrintWords Go.Proofs.YthlcaikplebpmaaW.PrintLast
set_option linter.unusedSimpArgs false
set_option linter.unusedVariables false
namespace FnExactFilesOfCycles
def InR (n : Nat) (b : List Int) : Prop := ∀ x ∈ b, 0 ≤ x ∧ x < n
def ll (x : Int) (b : List Int) : Nat → Int
  | 0 => -1
  | m + 1 => if rd b m < x then rd b m else ll x b m
def cF (b : List Int) : Nat → Nat → List Int → List Int
  | 0, _, o => o
  | d + 1, j, o => cF b d (j + 1) (o.set (rd b j).toNat (ll (rd b j) b j))
theorem cF_len (b : List Int) : ∀ (d j : Nat) (o : List Int), (cF b d j o).length = o.length
  | 0, _, _ => rfl
  | d + 1, j, o => by rw [cF, cF_len b d, List.length_set]
theorem cF_other (n : Nat) (b : List Int) (hb : InR n b) (p : Int) (hp0 : 0 ≤ p) (hp : p ∉ b) : ∀ (d j : Nat) (o : List Int), b.length - j = d → (cF b d j o)[p.toNat]? = o[p.toNat]?
  | 0, _, _, _ => rfl
  | d + 1, j, o, hd => by
    have h1 : j < b.length := by omega
    have hm := List.getElem_mem h1
    have hx := hb _ hm
    have hne : p ≠ b[j] := fun e => hp (e ▸ hm)
    rw [cF, cF_other n b hb p hp0 hp d (j + 1) _ (by omega), rd_nat b j h1, List.getElem?_set_ne (by omega)]
def Rel2 (n : Nat) (done I S : List Int) : Prop := I.length = n ∧ S.length = n ∧ ∀ p : Nat, p < n → (p : Int) ∈ done → I[p]? = S[p]?
theorem rel_cF (n : Nat) (b : List Int) (hb : InR n b) (done : List Int) : ∀ (d j : Nat) (I S : List Int), b.length - j = d → j ≤ b.length → Rel2 n (done ++ b.take j) I S → Rel2 n (done ++ b) (cF b d j I) (cF b d j S)
  | 0, j, I, S, hd, hj, h => by rw [List.take_of_length_le (by omega)] at h; exact h
  | d + 1, j, I, S, hd, hj, ⟨h1, h2, h3⟩ => by
    have hj1 : j < b.length := by omega
    have hx := hb _ (List.getElem_mem hj1)
    refine rel_cF n b hb done d (j + 1) _ _ (by omega) (by omega) ⟨by rw [List.length_set]; exact h1, by rw [List.length_set]; exact h2, fun p hp hm => ?_⟩
    rw [rd_nat b j hj1]
    by_cases e : p = (b[j]).toNat
    · subst e
      rw [List.getElem?_set_self (by omega), List.getElem?_set_self (by omega)]
    · rw [List.getElem?_set_ne (by omega), List.getElem?_set_ne (by omega)]
      refine h3 p hp ?_
      rw [← List.take_append_getElem hj1, ← List.append_assoc, List.mem_append, List.mem_singleton] at hm
      exact hm.resolve_right (by omega)
theorem rel_all (n : Nat) : ∀ (rest : List (List Int)) (done I S : List Int), (∀ b ∈ rest, InR n b) → Rel2 n done I S →
    Rel2 n (done ++ rest.flatten) (rest.foldl (fun o b => cF b b.length 0 o) I) (rest.foldl (fun o b => cF b b.length 0 o) S) := by
  intro rest
  induction rest with
  | nil => intro done I S _ h; simpa using h
  | cons b rest ih =>
    intro done I S hb h
    rw [List.flatten_cons, ← List.append_assoc]
    exact ih (done ++ b) _ _ (fun c hc => hb c (List.mem_cons_of_mem _ hc)) (rel_cF n b (hb b (List.mem_cons_self ..)) done b.length 0 I S (by omega) (by omega) (by simpa using h))
theorem ndlt : ∀ (n : Nat) (l : List Int), l.Nodup → (∀ x ∈ l, 0 ≤ x ∧ x < n) → l.length ≤ n
  | 0, l, _, hb => by
    cases l with
    | nil => simp
    | cons x l => exact absurd (hb x (.head _)) (by omega)
  | n + 1, l, hn, hb => by
    by_cases hm : (n : Int) ∈ l
    · have := ndlt n (l.erase n) (hn.erase _) (fun x hx => by
        have h1 := (hn.mem_erase_iff).1 hx
        have := hb x h1.2
        have := h1.1
        omega)
      rw [List.length_erase_of_mem hm] at this
      omega
    · have := ndlt n l hn (fun x hx => by
        have := hb x hx
        have : x ≠ n := fun e => hm (e ▸ hx)
        omega)
      omega
theorem all_in {n : Nat} {l : List Int} (hn : l.Nodup) (hl : l.length = n) (hb : ∀ x ∈ l, 0 ≤ x ∧ x < n) (p : Nat) (hp : p < n) : (p : Int) ∈ l := by
  refine Classical.byContradiction (fun h => ?_)
  have := ndlt n ((p : Int) :: l) (List.nodup_cons.2 ⟨h, hn⟩) (fun x hx => by
    rcases List.mem_cons.1 hx with rfl | hx
    · omega
    · exact hb x hx)
  rw [List.length_cons] at this
  omega
def files (s : List (List Int)) : List Int := s.foldl (fun o b => cF b b.length 0 o) (List.replicate (total s) (-1))
theorem foldl_len (f : List Int → List Int → List Int) (hf : ∀ o b, (f o b).length = o.length) : ∀ (s : List (List Int)) (o : List Int), (s.foldl f o).length = o.length
  | [], _ => rfl
  | b :: s, o => by rw [List.foldl_cons, foldl_len f hf s, hf]
theorem files_len (s : List (List Int)) : (files s).length = total s := by
  unfold files
  rw [foldl_len _ (fun o b => cF_len b b.length 0 o), List.length_replicate]
theorem blk_in {s : List (List Int)} {r : Bool} (h : BlkOk r s) : s.length ≤ 6 ∧ (∀ b ∈ s, b.length ≤ 6) ∧ (∀ b ∈ s, InR (total s) b) ∧ (∀ b ∈ s, b ≠ []) := by
  have h1 := allNe_len h.1
  have h2 := h.2.1
  refine ⟨by omega, fun b hb => by have := total_mem hb; omega, fun b hb x hx => ?_, h.1⟩
  have := h.2.2.2.2.1 x (List.mem_flatten.2 ⟨b, hb, hx⟩)
  omega
theorem files_eq {s : List (List Int)} {r : Bool} (h : BlkOk r s) : s.foldl (fun o b => cF b b.length 0 o) (List.replicate (total s) 0) = files s := by
  have hin := blk_in h
  have h1 := rel_all (total s) s [] (List.replicate (total s) (-1)) (List.replicate (total s) 0) hin.2.2.1 ⟨by simp, by simp, fun p hp h => by simp at h⟩
  rw [List.nil_append] at h1
  symm
  apply List.ext_getElem?
  intro p
  by_cases hp : p < total s
  · exact h1.2.2 p hp (all_in h.2.2.2.2.2 (total_flat s) (fun x hx => by have := h.2.2.2.2.1 x hx; omega) p hp)
  · rw [List.getElem?_eq_none (by rw [files_len]; omega), List.getElem?_eq_none (by rw [foldl_len _ (fun o b => cF_len b b.length 0 o), List.length_replicate]; omega)]
open Classical in
noncomputable def R (s : List (List Int)) : List Int × Bool := if BlkOk false s then (files s, true) else ([], false)
theorem set_self' {o : List Int} {i : Nat} {v : Int} (h : o[i]? = some v) : o.set i v = o := by
  apply List.ext_getElem?
  intro p
  by_cases e : p = i
  · subst e
    have := (List.getElem?_eq_some_iff.1 h).1
    rw [List.getElem?_set_self this, h]
  · rw [List.getElem?_set_ne (by omega)]
theorem rd_opt {o : List Int} {x : Int} {v : Int} (h0 : 0 ≤ x) (h : o[x.toNat]? = some v) : rd o x = v := by
  obtain ⟨h1, h2⟩ := List.getElem?_eq_some_iff.1 h
  have := rd_nat o x.toNat h1
  rw [show ((x.toNat : Nat) : Int) = x by omega] at this
  rw [this, h2]
theorem impl_l2 (s : List (List Int)) (i n : Nat) (hn : n ≤ 6) (b : List Int) (hb : b.length ≤ 6) (hx : InR n b) (j : Nat) (hj : j < b.length) (res : List Int × Bool) : ∀ (m : Nat) (o : List Int), m ≤ j → o.length = n → o[(b[j]).toNat]? = some (-1) →
    Ev (fun k => impl_FilesOfCycles.l1 k (o.set (b[j]).toNat (ll b[j] b m)) b s (s.length : Int) (i : Int) b (b.length : Int) ((j + 1 : Nat) : Int)) res →
    Ev (fun k => impl_FilesOfCycles.l2 k o b b[j] ((m : Int) - 1) s (s.length : Int) (i : Int) b (b.length : Int) (j : Int)) res := by
  have hxj := hx _ (List.getElem_mem hj)
  intro m
  induction m with
  | zero =>
    intro o hm ho hv hrec
    rw [ll, set_self' hv] at hrec
    obtain ⟨K, hK⟩ := ev_get hrec
    refine ⟨K + 2, fun k hk => ?_⟩
    obtain ⟨k, rfl⟩ : ∃ m, k = m + 2 := ⟨k - 2, by omega⟩
    dsimp only
    rw [impl_FilesOfCycles.l2, if_neg (by omega), impl_FilesOfCycles.j3, if_neg (by simp), w64 _ (by omega) (by omega)]
    exact hK k (by omega)
  | succ m ih =>
    intro o hm ho hv hrec
    have hmb : m < b.length := by omega
    have hxm := hx _ (List.getElem_mem hmb)
    have er : ((m + 1 : Nat) : Int) - 1 = (m : Int) := by omega
    have et : ((rd o b[j]) == (-1)) = true := by rw [rd_opt hxj.1 hv]; rfl
    rw [ll, rd_nat b m hmb] at hrec
    by_cases hlt : b[m] < b[j]
    · rw [if_pos hlt] at hrec
      obtain ⟨K, hK⟩ := ev_get hrec
      have hv2 : rd (o.set (b[j]).toNat b[m]) b[j] = b[m] := rd_opt hxj.1 (List.getElem?_set_self (by omega))
      refine ⟨K + 4, fun k hk => ?_⟩
      obtain ⟨k, rfl⟩ : ∃ m, k = m + 4 := ⟨k - 4, by omega⟩
      dsimp only
      rw [impl_FilesOfCycles.l2, er, if_pos (by omega), if_pos (by omega), if_pos (by omega), et, impl_FilesOfCycles.j3, if_pos rfl, if_pos (by omega), if_pos (by omega), rd_nat b m hmb, if_pos hlt, if_pos (by omega), if_pos (by omega), w64 _ (by omega) (by omega), impl_FilesOfCycles.l2]
      have fin : ∀ c : Bool, c = false → impl_FilesOfCycles.j3 (k + 1) (o.set (b[j]).toNat b[m]) b b[j] ((m : Int) - 1) s (s.length : Int) (i : Int) b (b.length : Int) (j : Int) c = some res := by
        rintro c rfl
        rw [impl_FilesOfCycles.j3, if_neg (by simp), w64 _ (by omega) (by omega)]
        exact hK k (by omega)
      by_cases h0 : (m : Int) - 1 ≥ 0
      · rw [if_pos h0, if_pos (by omega), if_pos (by rw [List.length_set]; omega), hv2]
        refine fin _ ?_
        rw [beq_eq_false_iff_ne]; omega
      · rw [if_neg h0]
        exact fin _ rfl
    · rw [if_neg hlt] at hrec
      obtain ⟨K, hK⟩ := ev_get (ih o (by omega) ho hv hrec)
      refine ⟨K + 2, fun k hk => ?_⟩
      obtain ⟨k, rfl⟩ : ∃ m, k = m + 2 := ⟨k - 2, by omega⟩
      dsimp only
      rw [impl_FilesOfCycles.l2, er, if_pos (by omega), if_pos (by omega), if_pos (by omega), et, impl_FilesOfCycles.j3, if_pos rfl, if_pos (by omega), if_pos (by omega), rd_nat b m hmb, if_neg hlt, w64 _ (by omega) (by omega)]
      exact hK k (by omega)
theorem impl_l1 (s : List (List Int)) (i n : Nat) (hn : n ≤ 6) (hi : i ≤ 1000) (b : List Int) (hb : b.length ≤ 6) (hx : InR n b) (hnd : b.Nodup) (res : List Int × Bool) : ∀ (d j : Nat) (o : List Int), o.length = n → b.length - j = d → j ≤ b.length → (∀ m, j ≤ m → ∀ h : m < b.length, o[(b[m]).toNat]? = some (-1)) →
    Ev (fun k => impl_FilesOfCycles.l0 k (cF b d j o) s (s.length : Int) ((i + 1 : Nat) : Int)) res →
    Ev (fun k => impl_FilesOfCycles.l1 k o b s (s.length : Int) (i : Int) b (b.length : Int) (j : Int)) res := by
  intro d
  induction d with
  | zero =>
    intro j o ho hd hj hv hrec
    obtain ⟨K, hK⟩ := ev_get hrec
    refine ⟨K + 1, fun k hk => ?_⟩
    obtain ⟨k, rfl⟩ : ∃ m, k = m + 1 := ⟨k - 1, by omega⟩
    dsimp only
    rw [impl_FilesOfCycles.l1, if_neg (by omega), w64 _ (by omega) (by omega)]
    exact hK k (by omega)
  | succ d ih =>
    intro j o ho hd hj hv hrec
    have hj1 : j < b.length := by omega
    have hxj := hx _ (List.getElem_mem hj1)
    rw [cF, rd_nat b j hj1] at hrec
    have h2 := ih (j + 1) (o.set (b[j]).toNat (ll b[j] b j)) (by rw [List.length_set]; exact ho) (by omega) (by omega) (fun m hm hml => by
      have hxm := hx _ (List.getElem_mem hml)
      have hne : b[m] ≠ b[j] := by
        have := List.pairwise_iff_getElem.1 (List.nodup_iff_pairwise_ne.1 hnd) j m hj1 hml (by omega)
        exact fun e => this e.symm
      rw [List.getElem?_set_ne (by omega)]
      exact hv m (by omega) hml) hrec
    obtain ⟨K, hK⟩ := ev_get (impl_l2 s i n hn b hb hx j hj1 res j o (Nat.le_refl _) ho (hv j (Nat.le_refl _) hj1) h2)
    refine ⟨K + 1, fun k hk => ?_⟩
    obtain ⟨k, rfl⟩ : ∃ m, k = m + 1 := ⟨k - 1, by omega⟩
    dsimp only
    rw [impl_FilesOfCycles.l1, if_pos (by omega), if_pos (by omega), if_pos (by omega), rd_nat b j hj1, w64 _ (by omega) (by omega)]
    exact hK k (by omega)
theorem impl_l0 (s : List (List Int)) (n : Nat) (hn : n ≤ 6) (hs6 : s.length ≤ 6) (hlen : ∀ b ∈ s, b.length ≤ 6) (hin : ∀ b ∈ s, InR n b) (hnd : s.flatten.Nodup) : ∀ (rest done : List (List Int)) (o : List Int), s = done ++ rest → o.length = n → (∀ x ∈ rest.flatten, o[x.toNat]? = some (-1)) →
    Ev (fun k => impl_FilesOfCycles.l0 k o s (s.length : Int) (done.length : Int)) (rest.foldl (fun o b => cF b b.length 0 o) o, true) := by
  intro rest
  induction rest with
  | nil =>
    intro done o hs ho hv
    refine ⟨1, fun k hk => ?_⟩
    obtain ⟨k, rfl⟩ : ∃ m, k = m + 1 := ⟨k - 1, by omega⟩
    have := congrArg List.length hs
    rw [List.append_nil] at this
    dsimp only
    rw [impl_FilesOfCycles.l0, if_neg (by omega)]
    rfl
  | cons b rest ih =>
    intro done o hs ho hv
    have hsl : s.length = done.length + 1 + rest.length := by rw [hs]; simp; omega
    have e1 : rd_L1 s (done.length : Int) = b := by rw [hs]; exact rdL_mid _ _ _
    have hbm : b ∈ s := by rw [hs]; simp
    have hnd2 : (b ++ rest.flatten).Nodup := by
      rw [hs, List.flatten_append, List.flatten_cons] at hnd
      exact (List.nodup_append.1 hnd).2.1
    have h2 := ih (done ++ [b]) (cF b b.length 0 o) (by rw [hs]; simp) (by rw [cF_len]; exact ho) (fun x hx => by
      have hxr : 0 ≤ x := by
        obtain ⟨c, hc, hxc⟩ := List.mem_flatten.1 hx
        exact (hin c (by rw [hs]; simp [hc]) x hxc).1
      rw [cF_other n b (hin b hbm) x hxr (fun h => (List.nodup_append.1 hnd2).2.2 x h x hx rfl) b.length 0 o (by omega)]
      exact hv x (by rw [List.flatten_cons]; exact List.mem_append_right _ hx))
    rw [List.length_append, List.length_singleton] at h2
    obtain ⟨K, hK⟩ := ev_get (impl_l1 s done.length n hn (by omega) b (hlen b hbm) (hin b hbm) (List.nodup_append.1 hnd2).1 _ b.length 0 o ho (by omega) (by omega) (fun m _ hm => hv _ (by rw [List.flatten_cons]; exact List.mem_append_left _ (List.getElem_mem hm))) h2)
    refine ⟨K + 1, fun k hk => ?_⟩
    obtain ⟨k, rfl⟩ : ∃ m, k = m + 1 := ⟨k - 1, by omega⟩
    dsimp only
    rw [impl_FilesOfCycles.l0, if_pos (by omega), if_pos (by omega), if_pos (by omega), e1]
    exact hK k (by omega)
theorem spec_l2 (s : List (List Int)) (i n : Nat) (hn : n ≤ 6) (b : List Int) (hb : b.length ≤ 6) (hx : InR n b) (j : Nat) (hj : j < b.length) (res : List Int × Bool) (o : List Int) (ho : o.length = n)
    (hrec : Ev (fun k => spec_FilesOfCycles.l1 k (o.set (b[j]).toNat (ll b[j] b j)) b s (s.length : Int) (i : Int) b (b.length : Int) ((j + 1 : Nat) : Int)) res) : ∀ (d m : Nat), j - m = d → m ≤ j →
    Ev (fun k => spec_FilesOfCycles.l2 k (o.set (b[j]).toNat (ll b[j] b m)) b b[j] s (s.length : Int) (i : Int) b (b.length : Int) (j : Int) (b.take j) ((b.take j).length : Int) (m : Int)) res := by
  have hxj := hx _ (List.getElem_mem hj)
  have htl : (b.take j).length = j := by rw [List.length_take]; omega
  intro d
  induction d with
  | zero =>
    intro m hd hm
    obtain rfl : m = j := by omega
    obtain ⟨K, hK⟩ := ev_get hrec
    refine ⟨K + 1, fun k hk => ?_⟩
    obtain ⟨k, rfl⟩ : ∃ m, k = m + 1 := ⟨k - 1, by omega⟩
    dsimp only
    rw [spec_FilesOfCycles.l2, if_neg (by omega), w64 _ (by omega) (by omega)]
    exact hK k (by omega)
  | succ d ih =>
    intro m hd hm
    have hmb : m < b.length := by omega
    have h2 := ih (m + 1) (by omega) (by omega)
    have er : rd (b.take j) (m : Int) = b[m] := by rw [rd_nat _ _ (by omega), List.getElem_take]
    rw [ll, rd_nat b m hmb] at h2
    obtain ⟨K, hK⟩ := ev_get h2
    refine ⟨K + 1, fun k hk => ?_⟩
    obtain ⟨k, rfl⟩ : ∃ m, k = m + 1 := ⟨k - 1, by omega⟩
    dsimp only
    rw [spec_FilesOfCycles.l2, if_pos (by omega), if_pos (by omega), if_pos (by omega), er, w64 _ (by omega) (by omega)]
    have := hK k (by omega)
    by_cases hlt : b[m] < b[j]
    · rw [if_pos hlt] at this
      rw [if_pos hlt, if_pos (by omega), if_pos (by rw [List.length_set]; omega), List.set_set]
      exact this
    · rw [if_neg hlt] at this
      rw [if_neg hlt]
      exact this
theorem spec_l1 (s : List (List Int)) (i n : Nat) (hn : n ≤ 6) (hi : i ≤ 1000) (b : List Int) (hb : b.length ≤ 6) (hx : InR n b) (res : List Int × Bool) : ∀ (d j : Nat) (o : List Int), o.length = n → b.length - j = d → j ≤ b.length →
    Ev (fun k => spec_FilesOfCycles.l0 k (cF b d j o) s (s.length : Int) ((i + 1 : Nat) : Int)) res →
    Ev (fun k => spec_FilesOfCycles.l1 k o b s (s.length : Int) (i : Int) b (b.length : Int) (j : Int)) res := by
  intro d
  induction d with
  | zero =>
    intro j o ho hd hj hrec
    obtain ⟨K, hK⟩ := ev_get hrec
    refine ⟨K + 1, fun k hk => ?_⟩
    obtain ⟨k, rfl⟩ : ∃ m, k = m + 1 := ⟨k - 1, by omega⟩
    dsimp only
    rw [spec_FilesOfCycles.l1, if_neg (by omega), w64 _ (by omega) (by omega)]
    exact hK k (by omega)
  | succ d ih =>
    intro j o ho hd hj hrec
    have hj1 : j < b.length := by omega
    have hxj := hx _ (List.getElem_mem hj1)
    rw [cF, rd_nat b j hj1] at hrec
    have h2 := ih (j + 1) (o.set (b[j]).toNat (ll b[j] b j)) (by rw [List.length_set]; exact ho) (by omega) (by omega) hrec
    obtain ⟨K, hK⟩ := ev_get (spec_l2 s i n hn b hb hx j hj1 res o ho h2 j 0 (by omega) (by omega))
    refine ⟨K + 1, fun k hk => ?_⟩
    obtain ⟨k, rfl⟩ : ∃ m, k = m + 1 := ⟨k - 1, by omega⟩
    dsimp only
    rw [spec_FilesOfCycles.l1, if_pos (by omega), if_pos (by omega), if_pos (by omega), rd_nat b j hj1, if_pos (by omega), if_pos (by omega), if_pos (by omega), Option.bind_some, show ((j : Nat) : Int).toNat = j by omega]
    exact hK k (by omega)
theorem spec_l0 (s : List (List Int)) (n : Nat) (hn : n ≤ 6) (hs6 : s.length ≤ 6) (hlen : ∀ b ∈ s, b.length ≤ 6) (hin : ∀ b ∈ s, InR n b) : ∀ (rest done : List (List Int)) (o : List Int), s = done ++ rest → o.length = n →
    Ev (fun k => spec_FilesOfCycles.l0 k o s (s.length : Int) (done.length : Int)) (rest.foldl (fun o b => cF b b.length 0 o) o, true) := by
  intro rest
  induction rest with
  | nil =>
    intro done o hs ho
    refine ⟨1, fun k hk => ?_⟩
    obtain ⟨k, rfl⟩ : ∃ m, k = m + 1 := ⟨k - 1, by omega⟩
    have := congrArg List.length hs
    rw [List.append_nil] at this
    dsimp only
    rw [spec_FilesOfCycles.l0, if_neg (by omega)]
    rfl
  | cons b rest ih =>
    intro done o hs ho
    have hsl : s.length = done.length + 1 + rest.length := by rw [hs]; simp; omega
    have e1 : rd_L1 s (done.length : Int) = b := by rw [hs]; exact rdL_mid _ _ _
    have hbm : b ∈ s := by rw [hs]; simp
    have h2 := ih (done ++ [b]) (cF b b.length 0 o) (by rw [hs]; simp) (by rw [cF_len]; exact ho)
    rw [List.length_append, List.length_singleton] at h2
    obtain ⟨K, hK⟩ := ev_get (spec_l1 s done.length n hn (by omega) b (hlen b hbm) (hin b hbm) _ b.length 0 o ho (by omega) (by omega) h2)
    refine ⟨K + 1, fun k hk => ?_⟩
    obtain ⟨k, rfl⟩ : ∃ m, k = m + 1 := ⟨k - 1, by omega⟩
    dsimp only
    rw [spec_FilesOfCycles.l0, if_pos (by omega), if_pos (by omega), if_pos (by omega), e1]
    exact hK k (by omega)
theorem size_l0 (s : List (List Int)) (h6 : total s ≤ 6) (hs6 : s.length ≤ 6) : ∀ (rest done : List (List Int)), s = done ++ rest →
    Ev (fun k => impl_size.l0 k (total done : Int) s (s.length : Int) (done.length : Int)) (total s : Int) := by
  intro rest
  induction rest with
  | nil =>
    intro done hs
    rw [List.append_nil] at hs; subst hs
    refine ⟨1, fun k hk => ?_⟩
    obtain ⟨k, rfl⟩ : ∃ m, k = m + 1 := ⟨k - 1, by omega⟩
    dsimp only
    rw [impl_size.l0, if_neg (by omega)]
  | cons b rest ih =>
    intro done hs
    have hsl : s.length = done.length + 1 + rest.length := by rw [hs]; simp; omega
    have e1 : rd_L1 s (done.length : Int) = b := by rw [hs]; exact rdL_mid _ _ _
    have ht : total s = total done + b.length + total rest := by rw [hs, ← total_flat, ← total_flat, ← total_flat]; simp; omega
    have htd : total (done ++ [b]) = total done + b.length := by rw [← total_flat, ← total_flat]; simp
    obtain ⟨K, hK⟩ := ev_get (ih (done ++ [b]) (by rw [hs]; simp))
    refine ⟨K + 1, fun k hk => ?_⟩
    obtain ⟨k, rfl⟩ : ∃ m, k = m + 1 := ⟨k - 1, by omega⟩
    dsimp only
    rw [impl_size.l0, if_pos (by omega), if_pos (by omega), if_pos (by omega), e1, w64 _ (by omega) (by omega), w64 _ (by omega) (by omega)]
    have := hK k (by omega)
    rw [htd, List.length_append, List.length_singleton] at this
    exact this
theorem size_ev {r : Bool} {s : List (List Int)} (h : BlkOk r s) : Ev (fun k => impl_size.f k s) (total s : Int) := by
  have hin := blk_in h
  exact size_l0 s h.2.1 hin.1 s [] rfl
theorem repeat_eq (n : Nat) (h : 1 ≤ n ∧ n ≤ 6) : slices_Repeat_int_int.f [-1] (n : Int) = some (List.replicate n (-1)) := by
  unfold slices_Repeat_int_int.f
  rw [if_pos ⟨rfl, by omega, by omega⟩]
  simp [rd]
theorem spec_ev (s : List (List Int)) (hb : s.length ≤ 1152921504606846976) (hx : ∀ x ∈ s, x.length ≤ 1048576) : Ev (fun k => spec_FilesOfCycles.f k s) (R s) := by
  obtain ⟨K1, h1⟩ := ev_get (fiBlocks_ev false s hx hb)
  unfold R
  by_cases h : BlkOk false s
  · have hin := blk_in h
    have ht := h.2.2.2.1
    have ht2 := h.2.1
    obtain ⟨K2, h2⟩ := ev_get (spec_l0 s (total s) h.2.1 hin.1 hin.2.1 hin.2.2.1 s [] (List.replicate (total s) 0) rfl (by simp))
    rw [if_pos h] at h1
    refine ⟨K1 + K2, fun k hk => ?_⟩
    simp only [spec_FilesOfCycles.f, h1 k (by omega), Option.bind_some, if_pos h]
    rw [if_neg (by omega), if_pos (by omega), if_pos (by omega), show ((total s : Nat) : Int).toNat = total s by omega]
    refine (h2 k (by omega)).trans ?_
    rw [files_eq h]
  · rw [if_neg h] at h1
    refine ⟨K1, fun k hk => ?_⟩
    simp only [spec_FilesOfCycles.f, h1 k (by omega), Option.bind_some, if_neg h, if_true]
open Classical in
theorem impl_ev (s : List (List Int)) (hb : s.length ≤ 1152921504606846976) (hx : ∀ x ∈ s, x.length ≤ 1048576) : Ev (fun k => impl_FilesOfCycles.f k s) (R s) := by
  obtain ⟨K1, h1⟩ := ev_get (areBlocks_ev false s hb hx)
  unfold R
  by_cases h : BlkOk false s
  · have hin := blk_in h
    have ht := h.2.2.2.1
    have ht2 := h.2.1
    obtain ⟨K2, h2⟩ := ev_get (size_ev h)
    obtain ⟨K3, h3⟩ := ev_get (impl_l0 s (total s) h.2.1 hin.1 hin.2.1 hin.2.2.1 h.2.2.2.2.2 s [] (List.replicate (total s) (-1)) rfl (by simp) (fun x hx => by have := h.2.2.2.2.1 x hx; rw [List.getElem?_replicate, if_pos (by omega)]))
    refine ⟨K1 + K2 + K3, fun k hk => ?_⟩
    simp only [impl_FilesOfCycles.f, h1 k (by omega), Option.bind_some, if_pos h, decide_eq_true h, if_true, h2 k (by omega), repeat_eq (total s) ⟨ht, ht2⟩]
    exact h3 k (by omega)
  · refine ⟨K1, fun k hk => ?_⟩
    simp only [impl_FilesOfCycles.f, h1 k (by omega), Option.bind_some, if_neg h, decide_eq_false h, Bool.false_eq_true, if_false]
open Classical in
theorem R_small (s : List (List Int)) (hb : s.length ≤ 1152921504606846976) (hx : ∀ x ∈ s, x.length ≤ 1048576) : (R s).1.length ≤ 1000 := by
  unfold R
  by_cases h : BlkOk false s
  · rw [if_pos h, files_len]; have := h.2.1; omega
  · rw [if_neg h]; simp
end FnExactFilesOfCycles
namespace FnFilesAreCycles
open FnExactFilesOfCycles
theorem filed_end {s : List Int} (hs : Bytes s) (f : List Int) (hf : 0 < f.length ∧ f.length ≤ 6) (a b : Int) (h0 : 0 ≤ a) (h1 : a ≤ 1000000) : ∃ g a' b', (∀ k, spec_l1Cur_filed.l0 (k + 1) f 0 s a b = some (g, a', b')) ∧ g.length ≤ 12 := by
  obtain ⟨x, a1, b1, e1, h2, h3, h4, h5⟩ := pick_ok hs a b 16 h0 (by omega)
  by_cases x0 : x = 0
  · obtain ⟨y, a2, b2, e2, h6, h7, h8, h9⟩ := pick_ok hs a1 b1 (f.length : Int) (by omega) (by omega)
    obtain ⟨z, a3, b3, e3, h10, _⟩ := among_ok hs a2 b2 [(-2), 5, 6, 4611686018427387904] (by simp) (by omega) (by omega)
    refine ⟨f.set y.toNat z, a3, b3, fun k => ?_, by rw [List.length_set]; omega⟩
    rw [spec_l1Cur_filed.l0, if_neg (by omega), e1, Option.bind_some, if_pos x0, e2, Option.bind_some, e3, Option.bind_some, if_pos h6, if_pos (by omega)]
  · by_cases x1 : x = 1
    · refine ⟨f ++ [0, 0, 0, 0, 0, 0], a1, b1, fun k => ?_, by simp; omega⟩
      rw [spec_l1Cur_filed.l0, if_neg (by omega), e1, Option.bind_some, if_neg x0, if_pos x1, Option.bind_some, if_pos (by simp; omega)]
    · by_cases x2 : x = 2
      · refine ⟨[], a1, b1, fun k => ?_, by simp⟩
        rw [spec_l1Cur_filed.l0, if_neg (by omega), e1, Option.bind_some, if_neg x0, if_neg x1, if_pos x2]
      · refine ⟨f, a1, b1, fun k => ?_, by omega⟩
        rw [spec_l1Cur_filed.l0, if_neg (by omega), e1, Option.bind_some, if_neg x0, if_neg x1, if_neg x2]
theorem filed_l0 {s : List Int} (hs : Bytes s) : ∀ (d : Nat) (f : List Int) (a b : Int), 0 < f.length + d → f.length + d ≤ 6 → 0 ≤ a → a + 2 * d ≤ 900000 → ∃ g a' b', Ev (fun k => spec_l1Cur_filed.l0 k f (d : Int) s a b) (g, a', b') ∧ g.length ≤ 12
  | 0, f, a, b, h1, h2, h3, h4 => by
    obtain ⟨g, a', b', e, hg⟩ := filed_end hs f ⟨by omega, by omega⟩ a b h3 (by omega)
    exact ⟨g, a', b', ⟨1, fun k hk => by obtain ⟨k, rfl⟩ : ∃ m, k = m + 1 := ⟨k - 1, by omega⟩; exact e k⟩, hg⟩
  | d + 1, f, a, b, h1, h2, h3, h4 => by
    obtain ⟨x, a1, b1, e1, h5, h6, h7, h8⟩ := pick_ok hs a b ((f.length : Int) + 1) h3 (by omega)
    obtain ⟨g, a', b', e, hg⟩ := filed_l0 hs d (f ++ [wrap64 (x - 1)]) a1 b1 (by simp; omega) (by simp; omega) (by omega) (by omega)
    obtain ⟨K, hK⟩ := ev_get e
    refine ⟨g, a', b', ⟨K + 1, fun k hk => ?_⟩, hg⟩
    obtain ⟨k, rfl⟩ : ∃ m, k = m + 1 := ⟨k - 1, by omega⟩
    dsimp only
    rw [spec_l1Cur_filed.l0, if_pos (by omega), w64 ((f.length : Int) + 1) (by omega) (by omega), e1, Option.bind_some, if_pos (by omega), w64 (((d + 1 : Nat) : Int) - 1) (by omega) (by omega), show ((d + 1 : Nat) : Int) - 1 = (d : Int) by omega]
    exact hK k (by omega)
theorem drawCycles_ok {s : List Int} (hs : Bytes s) : ∃ f, Ev (fun k => spec_DrawCyclesOfFiles.f k s) f ∧ f.length ≤ 12 := by
  obtain ⟨x, a1, b1, e1, h2, h3, h4, h5⟩ := pick_ok hs 0 0 6 (by omega) (by omega)
  obtain ⟨d, rfl⟩ : ∃ d : Nat, x = (d : Int) := ⟨x.toNat, by omega⟩
  obtain ⟨g, a', b', e, hg⟩ := filed_l0 hs (d + 1) [] a1 b1 (by simp) (by simp; omega) (by omega) (by omega)
  obtain ⟨K, hK⟩ := ev_get e
  refine ⟨g, ⟨K, fun k hk => ?_⟩, hg⟩
  have := hK k hk
  simp only [spec_DrawCyclesOfFiles.f, spec_l1Cur_filed.f, e1, Option.bind_some]
  rw [w64 _ (by omega) (by omega), show (1 : Int) + (d : Int) = ((d + 1 : Nat) : Int) by omega, this]
  rfl
def Small (c : List (List Int)) (n : Nat) : Prop := c.length ≤ n ∧ ∀ b ∈ c, 0 < b.length ∧ b.length ≤ n
theorem blocks_end {s : List Int} (hs : Bytes s) (c : List (List Int)) (n : Int) (hc : Small c 6) (hp : 0 < c.length) (i : Int) (hi : ¬ i < n) (a b : Int) (h0 : 0 ≤ a) (h1 : a ≤ 1000000) : ∃ g a' b', (∀ k, spec_l1Cur_blocks.l0 (k + 1) false c n i s a b = some (g, a', b')) ∧ g.length ≤ 7 ∧ ∀ b ∈ g, b.length ≤ 6 := by
  obtain ⟨x, a1, b1, e1, h2, h3, h4, h5⟩ := pick_ok hs a b 16 h0 (by omega)
  have hr0 : rd_L1 c 0 = c[0] := by unfold rd_L1; simp [List.getD_eq_getElem?_getD, List.getElem?_eq_getElem hp]
  have hb0 := hc.2 _ (List.getElem_mem hp)
  by_cases x0 : x = 0
  · obtain ⟨z, a3, b3, e3, h10, _⟩ := among_ok hs a1 b1 [(-1), 0, 1, 6, 4611686018427387904] (by simp) (by omega) (by omega)
    refine ⟨c.set 0 ((rd_L1 c 0).set 0 z), a3, b3, fun k => ?_, by rw [List.length_set]; have := hc.1; omega, fun y hy => ?_⟩
    · rw [spec_l1Cur_blocks.l0, if_neg hi, e1, Option.bind_some, if_pos x0, if_pos (by omega), e3, Option.bind_some, if_pos (by rw [hr0]; omega)]; rfl
    · rcases List.mem_or_eq_of_mem_set hy with hy | rfl
      · exact (hc.2 y hy).2
      · rw [List.length_set, hr0]; exact hb0.2
  · have hmore : ∀ y : List Int, y.length ≤ 6 → (c ++ [y]).length ≤ 7 ∧ ∀ b ∈ c ++ [y], b.length ≤ 6 := fun y hy => ⟨by simp; have := hc.1; omega, fun b hb => by
      rcases List.mem_append.1 hb with hb | hb
      · exact (hc.2 b hb).2
      · rw [List.mem_singleton.1 hb]; exact hy⟩
    have hlt : c.length < 5864062014805 := by have := hc.1; omega
    by_cases x1 : x = 1
    · exact ⟨c ++ [[]], a1, b1, fun k => by rw [spec_l1Cur_blocks.l0, if_neg hi, e1, Option.bind_some, if_neg x0, if_pos x1, if_pos hlt], hmore [] (by simp)⟩
    · by_cases x2 : x = 2
      · exact ⟨c ++ [[wrap64 (n + 1)]], a1, b1, fun k => by rw [spec_l1Cur_blocks.l0, if_neg hi, e1, Option.bind_some, if_neg x0, if_neg x1, if_pos x2, if_pos hlt], hmore _ (by simp)⟩
      · by_cases x3 : x = 3
        · exact ⟨c ++ [[0, 1, 2, 3, 4, 5]], a1, b1, fun k => by rw [spec_l1Cur_blocks.l0, if_neg hi, e1, Option.bind_some, if_neg x0, if_neg x1, if_neg x2, if_pos x3, if_pos hlt], hmore _ (by simp)⟩
        · exact ⟨c, a1, b1, fun k => by rw [spec_l1Cur_blocks.l0, if_neg hi, e1, Option.bind_some, if_neg x0, if_neg x1, if_neg x2, if_neg x3], by have := hc.1; omega, fun b hb => (hc.2 b hb).2⟩
theorem blocks_l0 {s : List Int} (hs : Bytes s) (n : Nat) (hn : 1 ≤ n ∧ n ≤ 6) : ∀ (d i : Nat) (c : List (List Int)) (a b : Int), n - i = d → i ≤ n → Small c i → (0 < i → 0 < c.length) → 0 ≤ a → a + 4 * d ≤ 900000 → ∃ g a' b', Ev (fun k => spec_l1Cur_blocks.l0 k false c (n : Int) (i : Int) s a b) (g, a', b') ∧ g.length ≤ 7 ∧ ∀ b ∈ g, b.length ≤ 6 := by
  intro d
  induction d with
  | zero =>
    intro i c a b hd hi hc hp h0 h1
    obtain ⟨g, a', b', e, hg⟩ := blocks_end hs c (n : Int) ⟨by have := hc.1; omega, fun b hb => by have := hc.2 b hb; omega⟩ (hp (by omega)) (i : Int) (by omega) a b h0 (by omega)
    exact ⟨g, a', b', ⟨1, fun k hk => by obtain ⟨k, rfl⟩ : ∃ m, k = m + 1 := ⟨k - 1, by omega⟩; exact e k⟩, hg⟩
  | succ d ih =>
    intro i c a b hd hi hc hp h0 h1
    have hcl := hc.1
    obtain ⟨x, a1, b1, e1, h2, h3, h4, h5⟩ := pick_ok hs a b ((c.length : Int) + 1) h0 (by omega)
    have hw : wrap64 ((i : Int) + 1) = ((i + 1 : Nat) : Int) := by unfold wrap64; omega
    by_cases x0 : x = (c.length : Int)
    · obtain ⟨g, a', b', e, hg⟩ := ih (i + 1) (c ++ [[(i : Int)]]) a1 b1 (by omega) (by omega) ⟨by simp; omega, fun b hb => by
        rcases List.mem_append.1 hb with hb | hb
        · have := hc.2 b hb; omega
        · rw [List.mem_singleton.1 hb]; simp⟩ (fun _ => by simp) (by omega) (by omega)
      obtain ⟨K, hK⟩ := ev_get e
      refine ⟨g, a', b', ⟨K + 1, fun k hk => ?_⟩, hg⟩
      obtain ⟨k, rfl⟩ : ∃ m, k = m + 1 := ⟨k - 1, by omega⟩
      dsimp only
      rw [spec_l1Cur_blocks.l0, if_pos (by omega), w64 ((c.length : Int) + 1) (by omega) (by omega), e1, Option.bind_some, if_pos x0, if_pos (by omega), hw]
      exact hK k (by omega)
    · obtain ⟨p, rfl⟩ : ∃ p : Nat, x = (p : Int) := ⟨x.toNat, by omega⟩
      have hpl : p < c.length := by omega
      have hr0 : rd_L1 c (p : Int) = c[p] := by unfold rd_L1; simp [List.getD_eq_getElem?_getD, List.getElem?_eq_getElem hpl]
      have hbl := hc.2 _ (List.getElem_mem hpl)
      obtain ⟨y, a2, b2, e2, h6, h7, h8, h9⟩ := pick_ok hs a1 b1 (c[p].length : Int) (by omega) (by omega)
      have hw2 : wrap64 (1 + y) = 1 + y := by unfold wrap64; omega
      have hset : ∀ z : List Int, 0 < z.length ∧ z.length ≤ i + 1 → Small (c.set p z) (i + 1) := fun z hz => ⟨by rw [List.length_set]; omega, fun b hb => by
        rcases List.mem_or_eq_of_mem_set hb with hb | rfl
        · have := hc.2 b hb; omega
        · exact hz⟩
      obtain ⟨g, a', b', e, hg⟩ := ih (i + 1) (c.set p ((c[p].take (1 + y).toNat ++ [(i : Int)]) ++ c[p].drop (1 + y).toNat)) a2 b2 (by omega) (by omega) (hset _ ⟨by simp; omega, by simp; omega⟩) (fun _ => by rw [List.length_set]; omega) (by omega) (by omega)
      obtain ⟨K, hK⟩ := ev_get e
      refine ⟨g, a', b', ⟨K + 1, fun k hk => ?_⟩, hg⟩
      obtain ⟨k, rfl⟩ : ∃ m, k = m + 1 := ⟨k - 1, by omega⟩
      dsimp only
      have ho : spec_l1Own.f (c[p].take (1 + y).toNat) = some (c[p].take (1 + y).toNat) := by
        unfold spec_l1Own.f
        simp
        omega
      rw [spec_l1Cur_blocks.l0, if_pos (by omega), w64 ((c.length : Int) + 1) (by omega) (by omega), e1, Option.bind_some, if_neg x0, if_pos (by omega), if_pos (by omega), if_neg (by simp), hr0, e2, Option.bind_some, hw2, if_pos (by omega), if_pos (by omega), ho, Option.bind_some, if_pos (by simp; omega), Option.bind_some, Option.bind_some, if_pos (by simp; omega), hw]
      exact hK k (by omega)
theorem drawFiles_ok {s : List Int} (hs : Bytes s) : ∃ c, Ev (fun k => spec_DrawFilesOfCycles.f k s) c ∧ c.length ≤ 7 ∧ ∀ b ∈ c, b.length ≤ 6 := by
  obtain ⟨x, a1, b1, e1, h2, h3, h4, h5⟩ := pick_ok hs 0 0 6 (by omega) (by omega)
  obtain ⟨d, rfl⟩ : ∃ d : Nat, x = (d : Int) := ⟨x.toNat, by omega⟩
  obtain ⟨g, a', b', e, hg⟩ := blocks_l0 hs (d + 1) ⟨by omega, by omega⟩ (d + 1) 0 [] a1 b1 (by omega) (by omega) ⟨by simp, by simp⟩ (by omega) (by omega) (by omega)
  obtain ⟨K, hK⟩ := ev_get e
  refine ⟨g, ⟨K, fun k hk => ?_⟩, hg⟩
  have := hK k hk
  simp only [spec_DrawFilesOfCycles.f, spec_l1Cur_blocks.f, e1, Option.bind_some]
  rw [w64 _ (by omega) (by omega), show (1 : Int) + (d : Int) = ((d + 1 : Nat) : Int) by omega]
  rw [show ((0 : Nat) : Int) = 0 from rfl] at this
  rw [this]
  rfl
theorem back_cycles {c : List (List Int)} (h : BlkOk false c) : cycR (files c) = (c, true) := by
  have hl := total_flat c
  obtain ⟨l, h1, h2, rfl⟩ := cyc_go (total c) c h.1 h.2.2.1 h.2.2.2.2.2 (fun x hx => by have := h.2.2.2.2.1 x hx; omega) hl
  have hf := fine_of (n := total (impl_CyclesOfFiles.goI l 0 [])) h.2.2.2.1 h.2.1 h1
  unfold fineB at hf
  simp only [Bool.and_eq_true, decide_eq_true_eq] at hf
  obtain ⟨⟨⟨hg, hF⟩, _⟩, _⟩ := hf
  obtain ⟨K, hK⟩ := ev_get (impl_ev (impl_CyclesOfFiles.goI l 0 []) (by have := (blk_in h).1; omega) (fun x hx => by have := (blk_in h).2.1 x hx; omega))
  have e1 := Ev.of (impl_FilesOfCycles.mono (impl_CyclesOfFiles.goI l 0 [])) hF
  obtain ⟨K1, k1⟩ := ev_get e1
  have e2 := (hK (K + K1) (by omega)).symm.trans (k1 (K + K1) (by omega))
  have e3 := Option.some.inj e2
  unfold R at e3
  rw [if_pos h] at e3
  have e4 : files (impl_CyclesOfFiles.goI l 0 []) = l := (Prod.mk.inj e3).1
  rw [e4]
  unfold cycR
  rw [if_pos hg]
theorem j3_ev (c : List (List Int)) (hc : c.length ≤ 7 ∧ ∀ b ∈ c, b.length ≤ 6) : Ev (fun k => laws_FnFilesAreCycles.j3 k c (R c).1 (R c).2 false) true := by
  by_cases h : BlkOk false c
  · have e : R c = (files c, true) := by unfold R; rw [if_pos h]
    obtain ⟨K1, k1⟩ := ev_get (implCycles_ev (files c) (by rw [files_len]; have := h.2.1; omega))
    obtain ⟨K2, k2⟩ := ev_get (kRows_refl c (by omega) (fun b hb => by have := hc.2 b hb; omega))
    rw [e]
    rw [back_cycles h] at k1
    refine ⟨K1 + K2 + 1, fun k hk => ?_⟩
    obtain ⟨k, rfl⟩ : ∃ m, k = m + 1 := ⟨k - 1, by omega⟩
    simp only [laws_FnFilesAreCycles.j3, Bool.false_eq_true, if_false, if_true, k1 k (by omega), Option.bind_some, k2 k (by omega)]
  · have e : R c = ([], false) := by unfold R; rw [if_neg h]
    rw [e]
    refine ⟨1, fun k hk => ?_⟩
    obtain ⟨k, rfl⟩ : ∃ m, k = m + 1 := ⟨k - 1, by omega⟩
    simp only [laws_FnFilesAreCycles.j3, Bool.false_eq_true, if_false]
theorem j2_ev {s : List Int} (hs : Bytes s) : Ev (fun k => laws_FnFilesAreCycles.j2 k s) true := by
  obtain ⟨c, e0, hc⟩ := drawFiles_ok hs
  have hb : c.length ≤ 1152921504606846976 := by omega
  have hx : ∀ x ∈ c, x.length ≤ 1048576 := fun x hx => by have := hc.2 x hx; omega
  obtain ⟨K0, k0⟩ := ev_get e0
  obtain ⟨K1, k1⟩ := ev_get (impl_ev c hb hx)
  obtain ⟨K2, k2⟩ := ev_get (spec_ev c hb hx)
  obtain ⟨K3, k3⟩ := ev_get (kSame_refl (R c).1 (by have := R_small c hb hx; omega))
  obtain ⟨K4, k4⟩ := ev_get (j3_ev c hc)
  refine ⟨K0 + K1 + K2 + K3 + K4 + 1, fun k hk => ?_⟩
  obtain ⟨k, rfl⟩ : ∃ m, k = m + 1 := ⟨k - 1, by omega⟩
  simp only [laws_FnFilesAreCycles.j2, k0 k (by omega), Option.bind_some, k1 k (by omega), k2 k (by omega), bne_self_eq_false, Bool.false_eq_true, if_false, k3 k (by omega), Bool.not_true]
  exact k4 k (by omega)
theorem l0_ev {s : List Int} (hs : Bytes s) (f : List Int) (hf : f.length ≤ 1000) (o : List (List Int)) (ho : o.length ≤ 1000) (heq : (f.filter fun x => decide (0 ≤ x)).length + o.length = f.length) : ∀ (d i : Nat) (n : Nat), f.length - i = d → i ≤ f.length → n = ((f.take i).filter fun x => decide (0 ≤ x)).length →
    Ev (fun k => laws_FnFilesAreCycles.l0 k s f o f true true true true (n : Int) f (f.length : Int) (i : Int)) true := by
  intro d
  induction d with
  | zero =>
    intro i n hd hi hn
    have hif : i = f.length := by omega
    subst hif
    rw [List.take_length] at hn
    obtain ⟨K1, k1⟩ := ev_get (kSame_refl f (by omega))
    obtain ⟨K2, k2⟩ := ev_get (j2_ev hs)
    refine ⟨K1 + K2 + 1, fun k hk => ?_⟩
    obtain ⟨k, rfl⟩ : ∃ m, k = m + 1 := ⟨k - 1, by omega⟩
    dsimp only
    rw [laws_FnFilesAreCycles.l0, if_neg (by omega), if_pos rfl, k1 k (by omega), Option.bind_some, if_pos rfl, if_pos rfl, if_pos rfl, if_pos rfl, w64 _ (by omega) (by omega), if_pos (by omega)]
    exact k2 k (by omega)
  | succ d ih =>
    intro i n hd hi hn
    have hlt : i < f.length := by omega
    have hnl : n ≤ i := by rw [hn]; exact Nat.le_trans (List.length_filter_le _ _) (List.length_take_le _ _)
    have htk : f.take (i + 1) = f.take i ++ [f[i]] := by rw [List.take_add_one, List.getElem?_eq_getElem hlt]; rfl
    by_cases hx : f[i] ≥ 0
    · obtain ⟨K, hK⟩ := ev_get (ih (i + 1) (n + 1) (by omega) (by omega) (by rw [htk, List.filter_append, List.length_append, ← hn, List.filter_cons_of_pos (by simpa using hx)]; rfl))
      refine ⟨K + 1, fun k hk => ?_⟩
      obtain ⟨k, rfl⟩ : ∃ m, k = m + 1 := ⟨k - 1, by omega⟩
      dsimp only
      rw [laws_FnFilesAreCycles.l0, if_pos (by omega), if_pos (by omega), if_pos (by omega), rd_nat _ _ hlt, if_pos hx, w64 ((n : Int) + 1) (by omega) (by omega), w64 ((i : Int) + 1) (by omega) (by omega)]
      exact hK k (by omega)
    · obtain ⟨K, hK⟩ := ev_get (ih (i + 1) n (by omega) (by omega) (by rw [htk, List.filter_append, List.length_append, ← hn, List.filter_cons_of_neg (by simpa using hx)]; rfl))
      refine ⟨K + 1, fun k hk => ?_⟩
      obtain ⟨k, rfl⟩ : ∃ m, k = m + 1 := ⟨k - 1, by omega⟩
      dsimp only
      rw [laws_FnFilesAreCycles.l0, if_pos (by omega), if_pos (by omega), if_pos (by omega), rd_nat _ _ hlt, if_neg hx, w64 ((i : Int) + 1) (by omega) (by omega)]
      exact hK k (by omega)
theorem j0_ev {s : List Int} (hs : Bytes s) (f : List Int) (hf : f.length ≤ 12) : Ev (fun k => laws_FnFilesAreCycles.j0 k s f (cycR f).1 (cycR f).2 false) true := by
  by_cases h : goodF f
  · have e : cycR f = (impl_CyclesOfFiles.goI f 0 [], true) := by unfold cycR; rw [if_pos h]
    have hfine := fine_of h.1.1 h.1.2 (good_mem h)
    unfold fineB at hfine
    simp only [Bool.and_eq_true, decide_eq_true_eq] at hfine
    obtain ⟨⟨⟨_, hF⟩, hI⟩, hC⟩ := hfine
    have hsm := cycR_small f
    rw [e] at hsm
    dsimp only at hsm
    obtain ⟨K1, k1⟩ := ev_get (Ev.of (impl_FilesOfCycles.mono (impl_CyclesOfFiles.goI f 0 [])) hF)
    obtain ⟨_, hA, _⟩ := arr_all ⟨f.length, by have := h.1; omega⟩ h.1.1
    obtain ⟨K2, k2⟩ := ev_get (Ev.of (impl_ArrowBoard.mono (f.length : Int)) hA)
    obtain ⟨K3, k3⟩ := ev_get (implIsFile_ev (f.length : Int) (f.length : Int) (arrC f.length) f (by omega))
    rw [hI] at k3
    obtain ⟨K4, k4⟩ := ev_get (l0_ev hs f (by omega) (impl_CyclesOfFiles.goI f 0 []) (by omega) hC f.length 0 0 (by omega) (by omega) (by simp))
    rw [e]
    refine ⟨K1 + K2 + K3 + K4 + 1, fun k hk => ?_⟩
    obtain ⟨k, rfl⟩ : ∃ m, k = m + 1 := ⟨k - 1, by omega⟩
    simp only [laws_FnFilesAreCycles.j0, Bool.false_eq_true, if_false, if_true, k1 k (by omega), Option.bind_some, k2 k (by omega), k3 k (by omega)]
    exact k4 k (by omega)
  · have e : cycR f = ([], false) := by unfold cycR; rw [if_neg h]
    rw [e]
    obtain ⟨K, hK⟩ := ev_get (j2_ev hs)
    refine ⟨K + 1, fun k hk => ?_⟩
    obtain ⟨k, rfl⟩ : ∃ m, k = m + 1 := ⟨k - 1, by omega⟩
    simp only [laws_FnFilesAreCycles.j0, Bool.false_eq_true, if_false]
    exact hK k (by omega)
end FnFilesAreCycles
open FnFilesAreCycles in
theorem FnFilesAreCycles : laws_FnFilesAreCycles.Pure := by
  intro l0 l1 ha hb hc hd he hf
  have hs0 := bytes_of hc
  have hs1 := bytes_of hf
  obtain ⟨x, hx⟩ := big_eq l0 l1 (by omega) (by omega)
  cases x with
  | true => exact ⟨0, by unfold laws_FnFilesAreCycles.f; rw [hx]; simp⟩
  | false =>
    obtain ⟨f, e0, hl⟩ := drawCycles_ok hs0
    obtain ⟨K0, k0⟩ := ev_get e0
    obtain ⟨K1, k1⟩ := ev_get (implCycles_ev f (by omega))
    obtain ⟨K2, k2⟩ := ev_get (specCycles_ev f (by omega))
    have hsm := cycR_small f
    obtain ⟨K3, k3⟩ := ev_get (kRows_refl (cycR f).1 (by omega) (fun b hb => by have := hsm.2 b hb; omega))
    obtain ⟨K4, k4⟩ := ev_get (j0_ev hs1 f hl)
    obtain ⟨m, hm⟩ : ∃ m, m = K0 + K1 + K2 + K3 + K4 := ⟨_, rfl⟩
    refine ⟨m, ?_⟩
    unfold laws_FnFilesAreCycles.f
    rw [hx]
    simp only [Option.bind_some, Bool.false_eq_true, if_false, k0 m (by omega), k1 m (by omega), k2 m (by omega), bne_self_eq_false, k3 m (by omega), Bool.not_true]
    exact k4 m (by omega)
end Go.Proofs.Ythlcaikplebpmaa.Pure
