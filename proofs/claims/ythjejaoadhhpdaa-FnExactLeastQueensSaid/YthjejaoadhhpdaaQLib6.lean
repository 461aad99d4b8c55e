import Derived.Test.YthjejaoadhhpdaaPx15
import Derived.Test.YthjejaoadhhpdaaPx17
import Derived.Test.YthjejaoadhhpdaaPx19
import Derived.Test.YthjejaoadhhpdaaPx20
import Derived.Test.YthjejaoadhhpdaaQLib2
namespace Go.Proofs.Ythjejaoadhhpdaa.P
open Go.RowKit Go.Proofs.YthjejaoadhhpdaaW.PrintWords Go.Proofs.YthjejaoadhhpdaaW.PrintLast Go.Proofs.YthjejaoadhhpdaaW.PrintMore
set_option linter.unusedVariables false
set_option linter.unusedSimpArgs false

/-- One to eight numbers, each less than their count. -/
def Rng (q : List Int) : Prop := (1 ≤ q.length ∧ q.length ≤ 8) ∧ ∀ x ∈ q, 0 ≤ x ∧ x < (q.length : Int)
theorem rng_len {q : List Int} (h : Rng q) : 1 ≤ q.length ∧ q.length ≤ 8 := h.1
theorem rng_at {q : List Int} (h : Rng q) (i : Nat) (hi : i < q.length) : 0 ≤ q[i] ∧ q[i] < q.length := h.2 _ (List.getElem_mem hi)
theorem good_rng {q : List Int} (h : goodB q = true) : Rng q := ⟨good_len h, fun x hx => by have := ((goodB_iff q).1 h).2.2.1 x hx; omega⟩
theorem quMirror_l0R (q : List Int) (hg : Rng q) : ∀ (d i : Nat) (acc : List Int) (k : Nat), q.length - i = d → i ≤ q.length → d < k → acc.length = i →
    spec_quMirror.l0 k q acc q (q.length : Int) (i : Int) = some (acc ++ (mirrorL q).drop i) := by
  have hl := rng_len hg
  intro d
  induction d with
  | zero =>
    intro i acc k hd hi hk ha
    obtain ⟨k, rfl⟩ : ∃ m, k = m + 1 := ⟨k - 1, by omega⟩
    rw [spec_quMirror.l0, if_neg (by omega), List.drop_eq_nil_of_le (by rw [mirrorL_length]; omega), List.append_nil]
  | succ d ih =>
    intro i acc k hd hi hk ha
    obtain ⟨k, rfl⟩ : ∃ m, k = m + 1 := ⟨k - 1, by omega⟩
    have h1 : i < q.length := by omega
    have hx := rng_at hg i h1
    rw [spec_quMirror.l0, if_pos (by omega), if_pos (by omega), if_pos (by omega), if_pos (by omega), rd_nat _ _ h1, w64 ((i : Int) + 1) (by omega) (by omega), w64 ((q.length : Int) - 1) (by omega) (by omega), w64 _ (by omega) (by omega)]
    rw [show ((i : Int) + 1) = ((i + 1 : Nat) : Int) by omega, ih (i + 1) _ k (by omega) (by omega) (by omega) (by simp [ha])]
    rw [drop_cons (mirrorL q) i (by rw [mirrorL_length]; omega), List.append_assoc]
    congr 2
    simp only [List.singleton_append, List.cons.injEq, and_true]
    simp [mirrorL]
theorem quMirror_evR (q : List Int) (hg : Rng q) : Ev (fun k => spec_quMirror.f k q) (mirrorL q) := by
  refine ⟨q.length + 1, fun k hk => ?_⟩
  simp only [spec_quMirror.f]
  have := quMirror_l0R q hg q.length 0 [] k (by omega) (by omega) (by omega) rfl
  simpa using this
theorem mirror_l0R (q : List Int) (hg : Rng q) : ∀ (d i : Nat) (acc : List Int) (k : Nat), q.length - i = d → i ≤ q.length → d < k → acc.length = i →
    impl_mirror.l0 k q acc q (q.length : Int) (i : Int) = some (acc ++ (mirrorL q).drop i) := by
  have hl := rng_len hg
  intro d
  induction d with
  | zero =>
    intro i acc k hd hi hk ha
    obtain ⟨k, rfl⟩ : ∃ m, k = m + 1 := ⟨k - 1, by omega⟩
    rw [impl_mirror.l0, if_neg (by omega), List.drop_eq_nil_of_le (by rw [mirrorL_length]; omega), List.append_nil]
  | succ d ih =>
    intro i acc k hd hi hk ha
    obtain ⟨k, rfl⟩ : ∃ m, k = m + 1 := ⟨k - 1, by omega⟩
    have h1 : i < q.length := by omega
    have hx := rng_at hg i h1
    rw [impl_mirror.l0, if_pos (by omega), if_pos (by omega), if_pos (by omega), if_pos (by omega), rd_nat _ _ h1, w64 ((i : Int) + 1) (by omega) (by omega), w64 ((q.length : Int) - 1) (by omega) (by omega), w64 _ (by omega) (by omega)]
    rw [show ((i : Int) + 1) = ((i + 1 : Nat) : Int) by omega, ih (i + 1) _ k (by omega) (by omega) (by omega) (by simp [ha])]
    rw [drop_cons (mirrorL q) i (by rw [mirrorL_length]; omega), List.append_assoc]
    congr 2
    simp only [List.singleton_append, List.cons.injEq, and_true]
    simp [mirrorL]
theorem mirror_evR (q : List Int) (hg : Rng q) : Ev (fun k => impl_mirror.f k q) (mirrorL q) := by
  refine ⟨q.length + 1, fun k hk => ?_⟩
  simp only [impl_mirror.f]
  have := mirror_l0R q hg q.length 0 [] k (by omega) (by omega) (by omega) rfl
  simpa using this
theorem quTurn_l0R (q : List Int) (hg : Rng q) : ∀ (d i : Nat) (acc : List Int) (k : Nat), q.length - i = d → i ≤ q.length → d < k → acc.length = q.length →
    spec_quTurn.l0 k q acc q (q.length : Int) (i : Int) = some (turnGo q.length (q.drop i) i acc) := by
  have hl := rng_len hg
  intro d
  induction d with
  | zero =>
    intro i acc k hd hi hk ha
    obtain ⟨k, rfl⟩ : ∃ m, k = m + 1 := ⟨k - 1, by omega⟩
    rw [spec_quTurn.l0, if_neg (by omega), List.drop_eq_nil_of_le (by omega), turnGo]
  | succ d ih =>
    intro i acc k hd hi hk ha
    obtain ⟨k, rfl⟩ : ∃ m, k = m + 1 := ⟨k - 1, by omega⟩
    have h1 : i < q.length := by omega
    have hx := rng_at hg i h1
    rw [spec_quTurn.l0, if_pos (by omega), if_pos (by omega), if_pos (by omega), rd_nat _ _ h1, if_pos (by omega), if_pos (by omega), w64 ((i : Int) + 1) (by omega) (by omega), w64 ((q.length : Int) - 1) (by omega) (by omega), w64 _ (by omega) (by omega)]
    rw [show ((i : Int) + 1) = ((i + 1 : Nat) : Int) by omega, ih (i + 1) _ k (by omega) (by omega) (by omega) (by simp [ha]), drop_cons q i h1, turnGo]
theorem quTurn_evR (q : List Int) (hg : Rng q) : Ev (fun k => spec_quTurn.f k q) (turnL q) := by
  have hl := rng_len hg
  refine ⟨q.length + 1, fun k hk => ?_⟩
  simp only [spec_quTurn.f]
  rw [if_pos (by omega), if_pos (by omega)]
  have := quTurn_l0R q hg q.length 0 (List.replicate q.length 0) k (by omega) (by omega) (by omega) (by simp)
  simpa [turnL] using this
theorem turn_l0R (q : List Int) (hg : Rng q) : ∀ (d i : Nat) (acc : List Int) (k : Nat), q.length - i = d → i ≤ q.length → d < k → acc.length = q.length →
    impl_turn.l0 k q acc q (q.length : Int) (i : Int) = some (turnGo q.length (q.drop i) i acc) := by
  have hl := rng_len hg
  intro d
  induction d with
  | zero =>
    intro i acc k hd hi hk ha
    obtain ⟨k, rfl⟩ : ∃ m, k = m + 1 := ⟨k - 1, by omega⟩
    rw [impl_turn.l0, if_neg (by omega), List.drop_eq_nil_of_le (by omega), turnGo]
  | succ d ih =>
    intro i acc k hd hi hk ha
    obtain ⟨k, rfl⟩ : ∃ m, k = m + 1 := ⟨k - 1, by omega⟩
    have h1 : i < q.length := by omega
    have hx := rng_at hg i h1
    rw [impl_turn.l0, if_pos (by omega), if_pos (by omega), if_pos (by omega), rd_nat _ _ h1, if_pos (by omega), if_pos (by omega), w64 ((i : Int) + 1) (by omega) (by omega), w64 ((q.length : Int) - 1) (by omega) (by omega), w64 _ (by omega) (by omega)]
    rw [show ((i : Int) + 1) = ((i + 1 : Nat) : Int) by omega, ih (i + 1) _ k (by omega) (by omega) (by omega) (by simp [ha]), drop_cons q i h1, turnGo]
theorem turn_evR (q : List Int) (hg : Rng q) : Ev (fun k => impl_turn.f k q) (turnL q) := by
  have hl := rng_len hg
  refine ⟨q.length + 1, fun k hk => ?_⟩
  simp only [impl_turn.f]
  rw [if_pos (by omega), if_pos (by omega)]
  have := turn_l0R q hg q.length 0 (List.replicate q.length 0) k (by omega) (by omega) (by omega) (by simp)
  simpa [turnL] using this

theorem turnGo_mem (n : Int) : ∀ (cs : List Int) (i : Nat) (acc : List Int), i + cs.length ≤ n → (∀ x ∈ acc, 0 ≤ x ∧ x < n) → ∀ x ∈ turnGo n cs i acc, 0 ≤ x ∧ x < n
  | [], _, _, _, ha => ha
  | c :: cs, i, acc, hl, ha => by
    simp only [List.length_cons] at hl
    refine turnGo_mem n cs (i + 1) _ (by omega) (fun x hx => ?_)
    rcases List.mem_or_eq_of_mem_set hx with h | rfl
    · exact ha x h
    · omega
theorem turnL_rng {q : List Int} (h : Rng q) : Rng (turnL q) := by
  have hl := h.1
  refine ⟨by rw [turnL_length]; exact hl, ?_⟩
  rw [turnL_length]
  refine turnGo_mem _ q 0 _ (by omega) (fun x hx => ?_)
  rw [List.mem_replicate] at hx
  omega
theorem mirrorL_rng {q : List Int} (h : Rng q) : Rng (mirrorL q) := by
  have hl := h.1
  refine ⟨by rw [mirrorL_length]; exact hl, ?_⟩
  rw [mirrorL_length]
  intro x hx
  obtain ⟨y, hy, rfl⟩ := List.mem_map.1 hx
  have := h.2 y hy
  omega
def lessL : List Int → List Int → Bool
  | x :: a, y :: b => if x = y then lessL a b else decide (x < y)
  | _, _ => false
theorem quLess_l0 (a b : List Int) (hl : a.length = b.length) (hb : a.length ≤ 1152921504606846976) : ∀ (d i : Nat) (k : Nat), a.length - i = d → i ≤ a.length → d < k →
    spec_quLess.l0 k b a (a.length : Int) (i : Int) = some (lessL (a.drop i) (b.drop i)) := by
  intro d
  induction d with
  | zero =>
    intro i k hd hi hk
    obtain ⟨k, rfl⟩ : ∃ m, k = m + 1 := ⟨k - 1, by omega⟩
    rw [spec_quLess.l0, if_neg (by omega), List.drop_eq_nil_of_le (show a.length ≤ i by omega)]
    rfl
  | succ d ih =>
    intro i k hd hi hk
    obtain ⟨k, rfl⟩ : ∃ m, k = m + 1 := ⟨k - 1, by omega⟩
    have h1 : i < a.length := by omega
    rw [spec_quLess.l0, if_pos (by omega), if_pos (by omega), if_pos (by omega), if_pos (by omega), rd_nat _ _ h1, rd_nat _ _ (show i < b.length by omega), w64 _ (by omega) (by omega), show ((i : Int) + 1) = ((i + 1 : Nat) : Int) by omega, ih (i + 1) k (by omega) (by omega) (by omega), drop_cons a i h1, drop_cons b i (by omega)]
    generalize a.drop (i + 1) = ta, b.drop (i + 1) = tb
    rw [lessL]
    split <;> rfl
theorem quLess_ev (a b : List Int) (hl : a.length = b.length) (hb : a.length ≤ 1152921504606846976) : Ev (fun k => spec_quLess.f k a b) (lessL a b) := by
  refine ⟨a.length + 1, fun k hk => ?_⟩
  simp only [spec_quLess.f]
  simpa using quLess_l0 a b hl hb a.length 0 k (by omega) (by omega) (by omega)
theorem Compare_l0 (a b : List Int) (hl : a.length = b.length) (hb : a.length ≤ 1152921504606846976) : ∀ (d i : Nat) (k : Nat), a.length - i = d → i ≤ a.length → d < k →
    ∃ c, slices_Compare_int_int.l0 k a b a (a.length : Int) (i : Int) = some c ∧ decide (c < 0) = lessL (a.drop i) (b.drop i) := by
  intro d
  induction d with
  | zero =>
    intro i k hd hi hk
    obtain ⟨k, rfl⟩ : ∃ m, k = m + 1 := ⟨k - 1, by omega⟩
    rw [slices_Compare_int_int.l0, if_neg (by omega), if_neg (by omega), List.drop_eq_nil_of_le (show a.length ≤ i by omega)]
    exact ⟨0, rfl, rfl⟩
  | succ d ih =>
    intro i k hd hi hk
    obtain ⟨k, rfl⟩ : ∃ m, k = m + 1 := ⟨k - 1, by omega⟩
    have h1 : i < a.length := by omega
    obtain ⟨c, h2, h3⟩ := ih (i + 1) k (by omega) (by omega) (by omega)
    rw [slices_Compare_int_int.l0, if_pos (by omega), if_pos (by omega), if_pos (by omega), if_neg (by omega), if_pos (by omega), rd_nat _ _ h1, rd_nat _ _ (show i < b.length by omega), w64 _ (by omega) (by omega), show ((i : Int) + 1) = ((i + 1 : Nat) : Int) by omega, h2, drop_cons a i h1, drop_cons b i (by omega)]
    have hi2 : i < b.length := by omega
    generalize a.drop (i + 1) = ta at h3 ⊢
    generalize b.drop (i + 1) = tb at h3 ⊢
    generalize a[i] = x
    generalize b[i] = y
    rw [lessL]
    have hn : ∀ z, cmp_isNaN_int.f z = some false := by intro z; simp [cmp_isNaN_int.f]
    simp only [cmp_Compare_int.f, hn, Option.bind_some, Bool.false_eq_true, if_false]
    by_cases h : x = y
    · subst h
      rw [if_neg (by omega), if_neg (by omega), Option.bind_some, if_pos rfl, if_pos rfl]
      exact ⟨c, rfl, h3⟩
    · by_cases h4 : x < y
      · rw [if_pos h4, Option.bind_some, if_neg (by omega), if_neg h]
        exact ⟨-1, rfl, by simp [h4]⟩
      · rw [if_neg h4, if_pos (by omega), Option.bind_some, if_neg (by omega), if_neg h]
        exact ⟨1, rfl, by simp [h4]⟩
theorem Compare_ev (a b : List Int) (hl : a.length = b.length) (hb : a.length ≤ 1152921504606846976) : ∃ K, ∀ k, K ≤ k → ∃ c, slices_Compare_int_int.f k a b = some c ∧ decide (c < 0) = lessL a b := by
  refine ⟨a.length + 1, fun k hk => ?_⟩
  simp only [slices_Compare_int_int.f]
  simpa using Compare_l0 a b hl hb a.length 0 k (by omega) (by omega) (by omega)
def stepL (q b : List Int) : List Int :=
  let q1 := turnL q
  let b1 := if lessL q1 b = true then q1 else b
  if lessL (mirrorL q1) b1 = true then mirrorL q1 else b1
def leastGo : Nat → List Int → List Int → List Int
  | 0, _, b => b
  | n + 1, q, b => leastGo n (turnL q) (stepL q b)
def leastL (q : List Int) : List Int := leastGo 4 q q
theorem stepL_length (q b : List Int) (h : b.length = q.length) : (stepL q b).length = q.length := by
  unfold stepL
  simp only []
  split <;> split <;> simp [mirrorL_length, turnL_length, h]
theorem l1Own_eq (l : List Int) (h : l.length < 17592186044416) : spec_l1Own.f l = some l := by
  simp only [spec_l1Own.f, Option.bind_some]
  rw [if_pos (by simpa using h), List.nil_append]
theorem Clone_eq (l : List Int) (h : l.length < 17592186044416) : slices_Clone_int_int.f l = some l := if_pos h
theorem quLeast_l0 : ∀ (d : Nat) (i : Nat) (q b : List Int), i + d = 4 → Rng q → b.length = q.length → Ev (fun k => spec_quLeast.l0 k q b (i : Int)) (leastGo d q b) := by
  intro d
  induction d with
  | zero =>
    intro i q b hi hq hb
    refine ⟨1, fun k hk => ?_⟩
    obtain ⟨k, rfl⟩ : ∃ m, k = m + 1 := ⟨k - 1, by omega⟩
    dsimp only
    rw [spec_quLeast.l0, if_neg (by omega)]
    rfl
  | succ d ih =>
    intro i q b hi hq hb
    have hl := hq.1
    have ht := turnL_length q
    have hm := mirrorL_length (turnL q)
    obtain ⟨K1, h1⟩ := ev_get (quTurn_evR q hq)
    obtain ⟨K2, h2⟩ := ev_get (quLess_ev (turnL q) b (by omega) (by omega))
    obtain ⟨K3, h3⟩ := ev_get (quMirror_evR (turnL q) (turnL_rng hq))
    obtain ⟨K4, h4⟩ := ev_get (quLess_ev (mirrorL (turnL q)) (if lessL (turnL q) b = true then turnL q else b) (by split <;> omega) (by omega))
    obtain ⟨K5, h5⟩ := ev_get (ih (i + 1) (turnL q) (stepL q b) (by omega) (turnL_rng hq) (by rw [stepL_length q b hb]; omega))
    refine ⟨K1 + K2 + K3 + K4 + K5 + 1, fun k hk => ?_⟩
    obtain ⟨k, rfl⟩ : ∃ m, k = m + 1 := ⟨k - 1, by omega⟩
    dsimp only
    rw [spec_quLeast.l0, if_pos (by omega), h1 k (by omega), Option.bind_some, h2 k (by omega), Option.bind_some, h3 k (by omega), Option.bind_some, h4 k (by omega), Option.bind_some, w64 _ (by omega) (by omega), show ((i : Int) + 1) = ((i + 1 : Nat) : Int) by omega]
    exact h5 k (by omega)
theorem quLeast_ev (q : List Int) (hq : Rng q) : Ev (fun k => spec_quLeast.f k q) (leastL q) := by
  have hl := hq.1
  obtain ⟨K, hK⟩ := ev_get (quLeast_l0 4 0 q q rfl hq rfl)
  refine ⟨K, fun k hk => ?_⟩
  simp only [spec_quLeast.f, l1Own_eq q (by omega), Option.bind_some]
  exact hK k hk
theorem least_l1 (d i : Nat) (q m b : List Int) (hb : b.length = q.length) (hm : m.length = q.length) (hl : q.length ≤ 8) (hi : i ≤ 4)
    (hout : ∀ b' : List Int, b'.length = q.length → Ev (fun k => impl_least.l0 k q b' ((i + 1 : Nat) : Int)) (leastGo d q b')) :
    Ev (fun k => impl_least.l1 k q m b (i : Int) 0) (leastGo d q (let b1 := if lessL q b = true then q else b; if lessL m b1 = true then m else b1)) := by
  have last : ∀ b' : List Int, b'.length = q.length → Ev (fun k => impl_least.l1 k q m b' (i : Int) 2) (leastGo d q b') := by
    intro b' hb'
    obtain ⟨K, hK⟩ := ev_get (hout b' hb')
    refine ⟨K + 1, fun k hk => ?_⟩
    obtain ⟨k, rfl⟩ : ∃ m, k = m + 1 := ⟨k - 1, by omega⟩
    dsimp only
    rw [impl_least.l1, if_neg (by omega), w64 _ (by omega) (by omega), show ((i : Int) + 1) = ((i + 1 : Nat) : Int) by omega]
    exact hK k (by omega)
  have second : ∀ b' : List Int, b'.length = q.length → Ev (fun k => impl_least.l1 k q m b' (i : Int) 1) (leastGo d q (if lessL m b' = true then m else b')) := by
    intro b' hb'
    obtain ⟨K1, h1⟩ := Compare_ev m b' (by omega) (by omega)
    obtain ⟨K2, h2⟩ := ev_get (last m hm)
    obtain ⟨K3, h3⟩ := ev_get (last b' hb')
    refine ⟨K1 + K2 + K3 + 1, fun k hk => ?_⟩
    obtain ⟨k, rfl⟩ : ∃ m, k = m + 1 := ⟨k - 1, by omega⟩
    obtain ⟨c, h4, h5⟩ := h1 k (by omega)
    dsimp only
    rw [impl_least.l1, if_pos (by omega), if_pos (by omega), if_neg (show ¬ ((1 : Int) = 0) by decide), h4, Option.bind_some, Clone_eq m (by omega), Option.bind_some, show wrap64 (1 + 1) = 2 from w64 _ (by decide) (by decide), h2 k (by omega), h3 k (by omega), ← h5]
    by_cases h : c < 0
    · rw [if_pos h, if_pos (decide_eq_true h)]
    · rw [if_neg h, if_neg (by simpa using h)]
  obtain ⟨K1, h1⟩ := Compare_ev q b (by omega) (by omega)
  obtain ⟨K2, h2⟩ := ev_get (second q rfl)
  obtain ⟨K3, h3⟩ := ev_get (second b hb)
  refine ⟨K1 + K2 + K3 + 1, fun k hk => ?_⟩
  obtain ⟨k, rfl⟩ : ∃ m, k = m + 1 := ⟨k - 1, by omega⟩
  obtain ⟨c, h4, h5⟩ := h1 k (by omega)
  dsimp only
  rw [impl_least.l1, if_pos (by omega), if_pos (by omega), if_pos rfl, h4, Option.bind_some, Clone_eq q (by omega), Option.bind_some, show wrap64 (0 + 1) = 1 from w64 _ (by decide) (by decide), h2 k (by omega), h3 k (by omega), ← h5]
  by_cases h : c < 0
  · rw [if_pos h]; simp [h]
  · rw [if_neg h]; simp [h]
theorem least_l0 : ∀ (d : Nat) (i : Nat) (q b : List Int), i + d = 4 → Rng q → b.length = q.length → Ev (fun k => impl_least.l0 k q b (i : Int)) (leastGo d q b) := by
  intro d
  induction d with
  | zero =>
    intro i q b hi hq hb
    refine ⟨1, fun k hk => ?_⟩
    obtain ⟨k, rfl⟩ : ∃ m, k = m + 1 := ⟨k - 1, by omega⟩
    dsimp only
    rw [impl_least.l0, if_neg (by omega)]
    rfl
  | succ d ih =>
    intro i q b hi hq hb
    have hl := hq.1
    have ht := turnL_length q
    have hm := mirrorL_length (turnL q)
    obtain ⟨K1, h1⟩ := ev_get (turn_evR q hq)
    obtain ⟨K2, h2⟩ := ev_get (mirror_evR (turnL q) (turnL_rng hq))
    obtain ⟨K3, h3⟩ := ev_get (least_l1 d i (turnL q) (mirrorL (turnL q)) b (by omega) hm (by omega) (by omega) (fun b' hb' => ih (i + 1) (turnL q) b' (by omega) (turnL_rng hq) hb'))
    refine ⟨K1 + K2 + K3 + 1, fun k hk => ?_⟩
    obtain ⟨k, rfl⟩ : ∃ m, k = m + 1 := ⟨k - 1, by omega⟩
    dsimp only
    rw [impl_least.l0, if_pos (by omega), h1 k (by omega), Option.bind_some, h2 k (by omega), Option.bind_some]
    exact h3 k (by omega)
theorem least_ev (q : List Int) (hq : Rng q) : Ev (fun k => impl_least.f k q) (leastL q) := by
  have hl := hq.1
  obtain ⟨K, hK⟩ := ev_get (least_l0 4 0 q q rfl hq rfl)
  refine ⟨K, fun k hk => ?_⟩
  simp only [impl_least.f, Clone_eq q (by omega), Option.bind_some]
  exact hK k hk
theorem leastGo_length : ∀ (n : Nat) (q b : List Int), b.length = q.length → (leastGo n q b).length = q.length
  | 0, _, _, h => h
  | n + 1, q, b, h => by
    rw [leastGo, leastGo_length n _ _ (by rw [stepL_length q b h, turnL_length]), turnL_length]
end Go.Proofs.Ythjejaoadhhpdaa.P
