import Derived.Test.YthjejaoadhhpdaaPx19
import Derived.Test.YthjejaoadhhpdaaPx26
import Derived.Test.YthjejaoadhhpdaaPx27
import Derived.Test.YthjejaoadhhpdaaQLib3
import Derived.Test.YthjejaoadhhpdaaQLib4
namespace Go.Proofs.Ythjejaoadhhpdaa.P
open Go.RowKit Go.Proofs.YthjejaoadhhpdaaW.PrintWords Go.Proofs.YthjejaoadhhpdaaW.PrintLast Go.Proofs.YthjejaoadhhpdaaW.PrintMore
set_option linter.unusedVariables false
set_option linter.unusedSimpArgs false


/-- All lists of N numbers that go on a list, d numbers being missing, in order. -/
def P (N : Nat) : Nat → List Int → List (List Int)
  | 0, q => [q]
  | d + 1, q => (List.range' 0 (N - 0)).flatMap fun (c : Nat) => if (c : Int) ∈ q then [] else P N d (q ++ [(c : Int)])
def PF (N d : Nat) (q : List Int) (i : Nat) : List (List Int) := (List.range' i (N - i)).flatMap fun (c : Nat) => if (c : Int) ∈ q then [] else P N d (q ++ [(c : Int)])
theorem P_succ (N d : Nat) (q : List Int) : P N (d + 1) q = PF N d q 0 := rfl
theorem PF_step (N d : Nat) (q : List Int) (i : Nat) (h : i < N) : PF N d q i = (if (i : Int) ∈ q then [] else P N d (q ++ [(i : Int)])) ++ PF N d q (i + 1) := by
  unfold PF
  rw [range'_step i N h, List.flatMap_cons]
theorem PF_nil (N d : Nat) (q : List Int) (i : Nat) (h : N ≤ i) : PF N d q i = [] := by
  unfold PF
  rw [show N - i = 0 by omega]; rfl
def OkQ (N : Nat) (q : List Int) : Prop := q.length ≤ N ∧ ∀ x ∈ q, 0 ≤ x ∧ x < (N : Int)
theorem okq_nil (N : Nat) : OkQ N [] := ⟨by simp, by simp⟩
theorem okq_snoc {N : Nat} {q : List Int} (h : OkQ N q) (hl : q.length < N) {i : Nat} (hi : i < N) : OkQ N (q ++ [(i : Int)]) := by
  refine ⟨by simp; omega, fun x hx => ?_⟩
  rcases List.mem_append.1 hx with hx | hx
  · exact h.2 x hx
  · rw [List.mem_singleton.1 hx]; omega
theorem okq_small {N : Nat} (hN : N ≤ 8) {q : List Int} (h : OkQ N q) : Small q :=
  ⟨by have := h.1; omega, fun i hi => by have := h.2 q[i] (List.getElem_mem hi); omega⟩
theorem P_mem (N : Nat) : ∀ (d : Nat) (q : List Int), OkQ N q → q.length + d = N → ∀ x ∈ P N d q, OkQ N x ∧ x.length = N ∧ ∃ t, x = q ++ t
  | 0, q, h, hl, x, hx => by
    rw [P, List.mem_singleton] at hx
    subst hx
    exact ⟨h, hl, [], by simp⟩
  | d + 1, q, h, hl, x, hx => by
    rw [P, List.mem_flatMap] at hx
    obtain ⟨c, hc, hx⟩ := hx
    rw [List.mem_range'_1] at hc
    split at hx
    · cases hx
    · obtain ⟨h1, h2, t, h3⟩ := P_mem N d _ (okq_snoc h (by omega) (i := c) (by omega)) (by simp; omega) x hx
      exact ⟨h1, h2, (c : Int) :: t, by rw [h3]; simp⟩
theorem PF_len (N d : Nat) (q : List Int) (b : Nat) (hb : ∀ c, c < N → (P N d (q ++ [(c : Int)])).length ≤ b) : ∀ (e i : Nat), N - i = e → (PF N d q i).length ≤ e * b
  | 0, i, he => by rw [PF_nil N d q i (by omega)]; simp
  | e + 1, i, he => by
    rw [PF_step N d q i (by omega), List.length_append, Nat.succ_mul]
    have h1 := PF_len N d q b hb e (i + 1) (by omega)
    have h2 := hb i (by omega)
    split <;> simp <;> omega
theorem P_len (N : Nat) : ∀ (d : Nat) (q : List Int), (P N d q).length ≤ N ^ d
  | 0, q => by simp [P]
  | d + 1, q => by
    rw [P_succ]
    have := PF_len N d q (N ^ d) (fun c _ => P_len N d _) N 0 (by omega)
    rw [Nat.pow_succ, Nat.mul_comm]; exact this
theorem pow_bound {N d : Nat} (hN : N ≤ 8) (hd : d ≤ N) : N ^ d ≤ 16777216 :=
  Nat.le_trans (Nat.pow_le_pow_left hN d) (Nat.le_trans (Nat.pow_le_pow_right (by decide) (show d ≤ 8 by omega)) (by decide))
def Her (G : List Int → Bool) : Prop := ∀ q c, G (q ++ [c]) = true → G q = true
theorem her_pre {G : List Int → Bool} (h : Her G) : ∀ (t q : List Int), G (q ++ t) = true → G q = true
  | [], q, hq => by simpa using hq
  | c :: t, q, hq => h q c (her_pre h t (q ++ [c]) (by simpa using hq))
theorem P_none {N d : Nat} {q : List Int} {G : List Int → Bool} (h : Her G) (ho : OkQ N q) (hl : q.length + d = N) (hq : G q = false) : (P N d q).filter G = [] := by
  rw [List.filter_eq_nil_iff]
  intro x hx hg
  obtain ⟨_, _, t, rfl⟩ := P_mem N d q ho hl x hx
  rw [her_pre h t q hg] at hq
  cases hq
theorem own7 (l : List Int) (h : l.length < 17592186044416) : spec_l1Own.f l = some l := by
  unfold spec_l1Own.f; simp [h]
theorem clone7 (l : List Int) (h : l.length < 17592186044416) : slices_Clone_int_int.f l = some l := if_pos h
theorem grown_ev (N : Nat) (hN : N ≤ 8) (good : List Int → Option Bool) (G : List Int → Bool) (hgood : ∀ q, OkQ N q → good q = some (G q)) (hher : Her G) :
    ∀ (d : Nat) (q : List Int) (out : List (List Int)), OkQ N q → q.length + d = N → out.length + (P N d q).length ≤ 16777216 →
    Ev (fun k => impl_grown_1.f k good (N : Int) q out) (out ++ (P N d q).filter G) := by
  intro d
  induction d with
  | zero =>
    intro q out ho hl hb
    refine ⟨1, fun k hk => ?_⟩
    obtain ⟨k, rfl⟩ : ∃ m, k = m + 1 := ⟨k - 1, by omega⟩
    have hq8 := ho.1
    simp only [impl_grown_1.f, hgood q ho, Option.bind_some, P, List.length_singleton] at hb ⊢
    cases hG : G q with
    | false => simp [hG]
    | true => rw [if_pos rfl, if_pos (by omega), clone7 q (by omega), Option.bind_some, if_pos (by omega)]; simp [hG]
  | succ d ih =>
    intro q out ho hl hb
    have hq8 := ho.1
    have hloop : ∀ (e i : Nat) (out : List (List Int)), N - i = e → i ≤ N → out.length + (PF N d q i).length ≤ 16777216 →
        Ev (fun k => impl_grown_1.l0 k good (N : Int) q out (i : Int)) (out ++ (PF N d q i).filter G) := by
      intro e
      induction e with
      | zero =>
        intro i out he hi hb
        refine ⟨1, fun k hk => ?_⟩
        obtain ⟨k, rfl⟩ : ∃ m, k = m + 1 := ⟨k - 1, by omega⟩
        dsimp only
        rw [impl_grown_1.l0, if_neg (by omega), PF_nil N d q i (by omega)]; simp
      | succ e ihe =>
        intro i out he hi hb
        rw [PF_step N d q i (by omega)] at hb ⊢
        obtain ⟨K1, h1⟩ := ev_get (Contains_ev q (i : Int) (by omega))
        by_cases hc : (i : Int) ∈ q
        · simp only [if_pos hc, List.nil_append] at hb ⊢
          obtain ⟨K2, h2⟩ := ev_get (ihe (i + 1) out (by omega) (by omega) hb)
          refine ⟨K1 + K2 + 1, fun k hk => ?_⟩
          obtain ⟨k, rfl⟩ : ∃ m, k = m + 1 := ⟨k - 1, by omega⟩
          dsimp only
          rw [impl_grown_1.l0, if_pos (by omega), h1 k (by omega), Option.bind_some, decide_eq_true hc, if_pos rfl, w64 _ (by omega) (by omega), show ((i : Int) + 1) = ((i + 1 : Nat) : Int) by omega]
          exact h2 k (by omega)
        · simp only [if_neg hc, List.length_append] at hb ⊢
          have hf := List.length_filter_le G (P N d (q ++ [(i : Int)]))
          obtain ⟨K2, h2⟩ := ev_get (ih (q ++ [(i : Int)]) out (okq_snoc ho (by omega) (by omega)) (by simp; omega) (by omega))
          obtain ⟨K3, h3⟩ := ev_get (ihe (i + 1) (out ++ (P N d (q ++ [(i : Int)])).filter G) (by omega) (by omega) (by rw [List.length_append]; omega))
          refine ⟨K1 + K2 + K3 + 1, fun k hk => ?_⟩
          obtain ⟨k, rfl⟩ : ∃ m, k = m + 1 := ⟨k - 1, by omega⟩
          dsimp only
          rw [impl_grown_1.l0, if_pos (by omega), h1 k (by omega), Option.bind_some, decide_eq_false hc, if_neg (by simp), if_pos (by omega), h2 k (by omega), Option.bind_some, w64 _ (by omega) (by omega), show ((i : Int) + 1) = ((i + 1 : Nat) : Int) by omega, h3 k (by omega), List.filter_append, List.append_assoc]
    cases hG : G q with
    | false =>
      refine ⟨1, fun k hk => ?_⟩
      obtain ⟨k, rfl⟩ : ∃ m, k = m + 1 := ⟨k - 1, by omega⟩
      dsimp only
      rw [impl_grown_1.f, hgood q ho, Option.bind_some, hG, if_neg (by simp), P_none hher ho hl hG, List.append_nil]
    | true =>
      rw [P_succ] at hb ⊢
      obtain ⟨K, hK⟩ := ev_get (hloop N 0 out (by omega) (by omega) hb)
      refine ⟨K + 1, fun k hk => ?_⟩
      obtain ⟨k, rfl⟩ : ∃ m, k = m + 1 := ⟨k - 1, by omega⟩
      dsimp only
      rw [impl_grown_1.f, hgood q ho, Option.bind_some, hG, if_pos rfl, if_neg (by omega)]
      exact hK k (by omega)
/-- No number of the list attacks a new one in the next row. -/
def fr (q : List Int) (i : Int) (r : Nat) : Prop := ∀ r', r ≤ r' → ∀ h : r' < q.length, (i - q[r']).natAbs ≠ q.length - r'
theorem fr_step (q : List Int) (i : Int) (r : Nat) (h : r < q.length) : fr q i r ↔ (i - q[r]).natAbs ≠ q.length - r ∧ fr q i (r + 1) := by
  constructor
  · intro h1
    exact ⟨h1 r (Nat.le_refl _) h, fun r' h2 h3 => h1 r' (by omega) h3⟩
  · rintro ⟨h1, h2⟩ r' h3 h4
    rcases Nat.eq_or_lt_of_le h3 with h5 | h5
    · subst h5; exact h1
    · exact h2 r' h5 h4
theorem att_snoc (q : List Int) (c : Int) (r s : Nat) (hr : r < s) (hs : s < q.length) : att (q ++ [c]) r s = att q r s := by
  unfold att
  simp only [List.getD_eq_getElem?_getD, List.getElem?_append_left hs, List.getElem?_append_left (show r < q.length by omega)]
theorem att_last (q : List Int) (c : Int) (r : Nat) (hr : r < q.length) : att (q ++ [c]) r q.length = decide ((c - q[r]).natAbs = q.length - r) := by
  unfold att
  rw [decide_eq_decide]
  simp only [List.getD_eq_getElem?_getD, List.getElem?_append_left hr, List.getElem?_append_right (Nat.le_refl _), Nat.sub_self, List.getElem?_eq_getElem hr]
  simp
  omega
theorem freeB_snoc (q : List Int) (c : Int) : freeB (q ++ [c]) = true ↔ freeB q = true ∧ fr q c 0 := by
  unfold freeB
  simp only [decide_eq_true_iff, List.length_append, List.length_singleton]
  constructor
  · intro h
    refine ⟨fun s hs r hr => by rw [← att_snoc q c r s hr hs]; exact h s (by omega) r hr, fun r _ hr => ?_⟩
    have := h q.length (by omega) r hr
    rw [att_last q c r hr] at this
    simpa using this
  · rintro ⟨h1, h2⟩ s hs r hr
    by_cases hsl : s < q.length
    · rw [att_snoc q c r s hr hsl]; exact h1 s hsl r hr
    · obtain rfl : s = q.length := by omega
      rw [att_last q c r hr]
      simpa using h2 r (by omega) hr
theorem freeB_her : Her freeB := fun q c h => ((freeB_snoc q c).1 h).1
open Classical in
theorem quAll_ev (N : Nat) (hN : N ≤ 8) : ∀ (d : Nat) (q : List Int), OkQ N q → q.length + d = N → freeB q = true →
    Ev (fun k => spec_quAll.f k (N : Int) q) ((P N d q).filter freeB) := by
  intro d
  induction d with
  | zero =>
    intro q ho hl hf
    have hq8 := ho.1
    refine ⟨1, fun k hk => ?_⟩
    obtain ⟨k, rfl⟩ : ∃ m, k = m + 1 := ⟨k - 1, by omega⟩
    dsimp only
    rw [spec_quAll.f, if_pos (by omega), own7 q (by omega), Option.bind_some, P]
    simp [hf]
  | succ d ih =>
    intro q ho hl hf
    have hq8 := ho.1
    have hsm := okq_small hN ho
    have hloop : ∀ (e i : Nat) (acc : List (List Int)), N - i = e → i ≤ N → acc.length + (PF N d q i).length ≤ 16777216 →
        Ev (fun k => spec_quAll.l0 k (N : Int) q acc (i : Int)) (acc ++ (PF N d q i).filter freeB) := by
      intro e
      induction e with
      | zero =>
        intro i acc he hi hb
        refine ⟨1, fun k hk => ?_⟩
        obtain ⟨k, rfl⟩ : ∃ m, k = m + 1 := ⟨k - 1, by omega⟩
        dsimp only
        rw [spec_quAll.l0, if_neg (by omega), PF_nil N d q i (by omega)]; simp
      | succ e ihe =>
        intro i acc he hi hb
        have hi8 : i < N := by omega
        rw [PF_step N d q i hi8] at hb ⊢
        have hok := okq_snoc ho (by omega) hi8
        -- the rounds that ask the rows one by one
        have hin : ∀ (g r : Nat) (free : Bool), q.length - r = g → r ≤ q.length → (free = true → ((i : Int) ∉ q)) →
            Ev (fun k => spec_quAll.l1 k (N : Int) q acc (i : Int) free q (q.length : Int) (r : Int))
              ((if free = true ∧ fr q i r then acc ++ (P N d (q ++ [(i : Int)])).filter freeB else acc) ++ (PF N d q (i + 1)).filter freeB) ∨ (free = true ∧ fr q i r ∧ ¬ fr q i 0) := by
          intro g
          induction g with
          | zero =>
            intro r free hg hr hfree
            have hfr : fr q i r := fun r' h1 h2 => by omega
            by_cases hff : free = true
            · by_cases h0 : fr q i 0
              · left
                have hnew : freeB (q ++ [(i : Int)]) = true := (freeB_snoc q i).2 ⟨hf, h0⟩
                have hc := hfree hff
                simp only [if_neg hc, List.length_append] at hb
                have hlf := List.length_filter_le freeB (P N d (q ++ [(i : Int)]))
                obtain ⟨K1, h1⟩ := ev_get (ih (q ++ [(i : Int)]) hok (by simp; omega) hnew)
                obtain ⟨K2, h2⟩ := ev_get (ihe (i + 1) (acc ++ (P N d (q ++ [(i : Int)])).filter freeB) (by omega) (by omega) (by rw [List.length_append]; omega))
                refine ⟨K1 + K2 + 1, fun k hk => ?_⟩
                obtain ⟨k, rfl⟩ : ∃ m, k = m + 1 := ⟨k - 1, by omega⟩
                dsimp only
                rw [spec_quAll.l1, if_neg (by omega), if_pos hff, own7 q (by omega), Option.bind_some, if_pos (by omega), h1 k (by omega), Option.bind_some, if_pos (by omega), w64 _ (by omega) (by omega), show ((i : Int) + 1) = ((i + 1 : Nat) : Int) by omega, h2 k (by omega), if_pos ⟨hff, hfr⟩]
              · right; exact ⟨hff, hfr, h0⟩
            · left
              obtain ⟨K2, h2⟩ := ev_get (ihe (i + 1) acc (by omega) (by omega) (by simp only [List.length_append] at hb; omega))
              refine ⟨K2 + 1, fun k hk => ?_⟩
              obtain ⟨k, rfl⟩ : ∃ m, k = m + 1 := ⟨k - 1, by omega⟩
              dsimp only
              rw [spec_quAll.l1, if_neg (by omega), if_neg hff, w64 _ (by omega) (by omega), show ((i : Int) + 1) = ((i + 1 : Nat) : Int) by omega, h2 k (by omega), if_neg (fun h => hff h.1)]
          | succ g ihg =>
            intro r free hg hr hfree
            have hr1 : r < q.length := by omega
            have hx := hsm.2 r hr1
            have hst := fr_step q i r hr1
            by_cases hff : free = true
            · have habs : (((((i : Int) - q[r]).natAbs : Int)) != ((q.length : Int) - (r : Int))) = true ↔ ((i : Int) - q[r]).natAbs ≠ q.length - r := by
                rw [bne_iff_ne]; omega
              rcases ihg (r + 1) ((((((i : Int) - q[r]).natAbs : Int)) != ((q.length : Int) - (r : Int)))) (by omega) (by omega) (fun _ => hfree hff) with h | h
              · left
                obtain ⟨K, hK⟩ := ev_get h
                refine ⟨K + 1, fun k hk => ?_⟩
                obtain ⟨k, rfl⟩ : ∃ m, k = m + 1 := ⟨k - 1, by omega⟩
                dsimp only
                rw [spec_quAll.l1, if_pos (by omega), if_pos (by omega), if_pos (by omega), if_pos hff, rd_nat _ _ hr1, w64 ((i : Int) - q[r]) (by omega) (by omega), l1Abs_eq _ (by omega) (by omega), Option.bind_some, w64 ((q.length : Int) - r) (by omega) (by omega), w64 ((r : Int) + 1) (by omega) (by omega), show ((r : Int) + 1) = ((r + 1 : Nat) : Int) by omega, hK k (by omega)]
                have he : ((((((i : Int) - q[r]).natAbs : Int)) != ((q.length : Int) - (r : Int))) = true ∧ fr q i (r + 1)) ↔ (free = true ∧ fr q i r) := by
                  rw [habs, hst]; exact ⟨fun h => ⟨hff, h⟩, fun h => h.2⟩
                simp only [he]
              · right
                exact ⟨hff, hst.2 ⟨habs.1 h.1, h.2.1⟩, h.2.2⟩
            · left
              rcases ihg (r + 1) false (by omega) (by omega) (fun h => by cases h) with h | h
              · obtain ⟨K, hK⟩ := ev_get h
                refine ⟨K + 1, fun k hk => ?_⟩
                obtain ⟨k, rfl⟩ : ∃ m, k = m + 1 := ⟨k - 1, by omega⟩
                dsimp only
                rw [spec_quAll.l1, if_pos (by omega), if_pos (by omega), if_pos (by omega), if_neg hff, w64 ((r : Int) + 1) (by omega) (by omega), show ((r : Int) + 1) = ((r + 1 : Nat) : Int) by omega, hK k (by omega), if_neg (fun h => by cases h.1), if_neg (fun h => hff h.1)]
              · cases h.1
        obtain ⟨K1, h1⟩ := ev_get (l1Has_ev q (i : Int) (by omega))
        rcases hin q.length 0 (!decide ((i : Int) ∈ q)) (by omega) (by omega) (fun h => by simpa using h) with h | h
        · obtain ⟨K2, h2⟩ := ev_get h
          refine ⟨K1 + K2 + 1, fun k hk => ?_⟩
          obtain ⟨k, rfl⟩ : ∃ m, k = m + 1 := ⟨k - 1, by omega⟩
          dsimp only
          rw [spec_quAll.l0, if_pos (by omega), h1 k (by omega), Option.bind_some]
          refine (h2 k (by omega)).trans ?_
          congr 1
          rw [List.filter_append, ← List.append_assoc]
          congr 1
          by_cases hc : (i : Int) ∈ q
          · rw [if_neg (fun h => by simpa [hc] using h.1), if_pos hc]; simp
          · rw [if_neg hc]
            by_cases h0 : fr q i 0
            · rw [if_pos ⟨by simpa using hc, h0⟩]
            · rw [if_neg (fun h => h0 h.2)]
              have : freeB (q ++ [(i : Int)]) = false := by
                rw [Bool.eq_false_iff]
                intro h; exact h0 ((freeB_snoc q i).1 h).2
              rw [P_none freeB_her hok (by simp; omega) this, List.append_nil]
        · exact absurd h.2.1 h.2.2
    rw [P_succ]
    have hb := P_len N (d + 1) q
    have hp := pow_bound hN (show d + 1 ≤ N by omega)
    rw [P_succ] at hb
    obtain ⟨K, hK⟩ := ev_get (hloop N 0 [] (by omega) (by omega) (by simp; omega))
    refine ⟨K + 1, fun k hk => ?_⟩
    obtain ⟨k, rfl⟩ : ∃ m, k = m + 1 := ⟨k - 1, by omega⟩
    dsimp only
    rw [spec_quAll.f, if_neg (by omega)]
    simpa using hK k (by omega)
theorem areQueens_lim (q : List Int) (h : Small q) : impl_areQueens.fn q = some (freeB q) := by
  obtain ⟨K, hK⟩ := ev_get (areQueens_ev q h)
  exact Fn.lim_of (impl_areQueens.mono q) (hK K (Nat.le_refl _))
theorem grownAll_ev (N : Nat) (hN : N ≤ 8) (q : List Int) (ho : OkQ N q) (d : Nat) (hd : q.length + d = N) :
    Ev (fun k => impl_grown.f k (N : Int) q impl_areQueens.fn) ((P N d q).filter freeB) := by
  have hb := P_len N d q
  have hp := pow_bound hN (show d ≤ N by omega)
  obtain ⟨K, hK⟩ := ev_get (grown_ev N hN impl_areQueens.fn freeB (fun q h => areQueens_lim q (okq_small hN h)) freeB_her d q [] ho hd (by simp; omega))
  refine ⟨K, fun k hk => ?_⟩
  simp only [impl_grown.f, clone7 q (by have := ho.1; omega), Option.bind_some]
  simpa using hK k hk
/-- The lists of queens. -/
def allQ (N : Nat) : List (List Int) := (P N N []).filter freeB
theorem allQ_len (N : Nat) (hN : N ≤ 8) : (allQ N).length ≤ 16777216 :=
  Nat.le_trans (List.length_filter_le _ _) (Nat.le_trans (P_len N N []) (pow_bound hN (Nat.le_refl _)))
theorem allQ_row {N : Nat} {x : List Int} (h : x ∈ allQ N) : OkQ N x ∧ x.length = N := by
  obtain ⟨h1, h2, _⟩ := P_mem N N [] (okq_nil N) (by simp) x (List.mem_filter.1 h).1
  exact ⟨h1, h2⟩
theorem freeB_nil : freeB [] = true := by unfold freeB; simp
theorem quAllQ_ev (N : Nat) (hN : N ≤ 8) : Ev (fun k => spec_quAll.f k (N : Int) ([] : List Int)) (allQ N) := quAll_ev N hN N [] (okq_nil N) (by simp) freeB_nil
theorem grownQ_ev (N : Nat) (hN : N ≤ 8) : Ev (fun k => impl_grown.f k (N : Int) ([] : List Int) impl_areQueens.fn) (allQ N) := grownAll_ev N hN [] (okq_nil N) N (by simp)
end Go.Proofs.Ythjejaoadhhpdaa.P
