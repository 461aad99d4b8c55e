import Derived.Test.YthlcaikplebpmaaKg
namespace Go.Proofs.Ythlcaikplebpmaa.Kings
open Go.RowKit Go.Proofs.Ythlcaikplebpmaa.Cap
set_option linter.unusedVariables false
set_option linter.unusedSimpArgs false
/-- The sum over all masks. -/
def sum64 (h : Nat → Int) : Int := ((List.range 64).map h).sum
theorem sum_zero {α : Type} (l : List α) (h : α → Int) (hz : ∀ x ∈ l, h x = 0) : (l.map h).sum = 0 := by
  induction l with
  | nil => rfl
  | cons a l ih => rw [List.map_cons, List.sum_cons, hz a (List.mem_cons_self ..), ih (fun x hx => hz x (List.mem_cons_of_mem _ hx))]; rfl
theorem sum_congr {α : Type} (l : List α) (h g : α → Int) (he : ∀ x ∈ l, h x = g x) : (l.map h).sum = (l.map g).sum := by
  rw [List.map_congr_left he]
theorem sum_filter {α : Type} (p : α → Bool) (h : α → Int) : ∀ l : List α, (∀ x ∈ l, p x = false → h x = 0) → ((l.filter p).map h).sum = (l.map h).sum
  | [], _ => rfl
  | a :: l, hz => by
    have ih := sum_filter p h l (fun x hx => hz x (List.mem_cons_of_mem _ hx))
    by_cases e : p a = true
    · rw [List.filter_cons_of_pos e, List.map_cons, List.map_cons, List.sum_cons, List.sum_cons, ih]
    · rw [List.filter_cons_of_neg e, List.map_cons, List.sum_cons, hz a (List.mem_cons_self ..) (by simpa using e), ih]; omega
theorem sum_bounds {α : Type} (l : List α) (h : α → Int) (M : Int) (hb : ∀ x ∈ l, 0 ≤ h x ∧ h x ≤ M) : 0 ≤ (l.map h).sum ∧ (l.map h).sum ≤ (l.length : Int) * M := by
  induction l with
  | nil => simp
  | cons a l ih =>
    have h1 := hb a (List.mem_cons_self ..)
    have h2 := ih (fun x hx => hb x (List.mem_cons_of_mem _ hx))
    rw [List.map_cons, List.sum_cons, List.length_cons]
    have e : ((l.length + 1 : Nat) : Int) * M = (l.length : Int) * M + M := by rw [Int.natCast_add, Int.add_mul]; simp
    rw [e]
    generalize (l.length : Int) * M = z at *
    omega
theorem sum64_bounds (h : Nat → Int) (M : Int) (hb : ∀ b, b < 64 → 0 ≤ h b ∧ h b ≤ M) : 0 ≤ sum64 h ∧ sum64 h ≤ 64 * M := by
  have := sum_bounds (List.range 64) h M (fun x hx => hb x (by simpa using hx))
  rw [List.length_range] at this
  exact this
theorem sum64_range (n : Nat) (hn : n ≤ 64) (h : Nat → Int) (hz : ∀ b, n ≤ b → b < 64 → h b = 0) : ((List.range n).map h).sum = sum64 h := by
  unfold sum64
  obtain ⟨d, hd⟩ : ∃ d, 64 = n + d := ⟨64 - n, by omega⟩
  have hz2 := sum_zero (List.range d) (h ∘ fun x => n + x) (fun x hx => hz (n + x) (by omega) (by have := List.mem_range.1 hx; omega))
  rw [hd, List.range_add, List.map_append, List.sum_append, List.map_map, hz2, Int.add_zero]
/-- What a row of the board makes of the ways. -/
def step (cnt : Nat → Nat) (x : Nat) (F : Nat → Nat → Int) (m k : Nat) : Int :=
  if valid x m = true then (if cnt m ≤ k then sum64 fun b => if comp (m : Int) (b : Int) = true then F b (k - cnt m) else 0 else 0) else 0
def steps (cnt : Nat → Nat) : List Int → (Nat → Nat → Int) → Nat → Nat → Int
  | [], F => F
  | x :: l, F => steps cnt l (step cnt x.toNat F)
/-- Ways that are known: from 0 to M, none of more than R kings. -/
structure Good (F : Nat → Nat → Int) (M : Int) (R : Nat) : Prop where
  lo : ∀ b k, b < 64 → 0 ≤ F b k
  hi : ∀ b k, b < 64 → F b k ≤ M
  few : ∀ b k, b < 64 → R < k → F b k = 0
theorem Good.pos {F : Nat → Nat → Int} {M : Int} {R : Nat} (h : Good F M R) : 0 ≤ M := Int.le_trans (h.lo 0 0 (by omega)) (h.hi 0 0 (by omega))
theorem Good.step {cnt : Nat → Nat} {x : Nat} {F : Nat → Nat → Int} {M : Int} {R : Nat} (h : Good F M R) (hc : ∀ m, m < 64 → cnt m ≤ 6) : Good (step cnt x F) (64 * M) (R + 6) := by
  have hp := h.pos
  have hb : ∀ m j : Nat, 0 ≤ (sum64 fun b => if comp (m : Int) (b : Int) = true then F b j else 0) ∧ (sum64 fun b => if comp (m : Int) (b : Int) = true then F b j else 0) ≤ 64 * M := fun m j =>
    sum64_bounds _ M (fun b hb => by
      by_cases e : comp (m : Int) (b : Int) = true
      · rw [if_pos e]; exact ⟨h.lo b j hb, h.hi b j hb⟩
      · rw [if_neg e]; exact ⟨Int.le_refl _, hp⟩)
  refine ⟨fun m k hm => ?_, fun m k hm => ?_, fun m k hm hk => ?_⟩
  · unfold Kings.step
    split
    · split
      · exact (hb m _).1
      · exact Int.le_refl _
    · exact Int.le_refl _
  · unfold Kings.step
    split
    · split
      · exact (hb m _).2
      · omega
    · omega
  · unfold Kings.step
    split
    · split
      · have := hc m hm
        exact sum_zero _ _ (fun b hb => by
          have hb := List.mem_range.1 hb
          split
          · exact h.few b _ hb (by omega)
          · rfl)
      · rfl
    · rfl
/-- The program's ways: the masks that are there, with rows of 37 numbers. -/
def keyed (F : Nat → Nat → Int) (p : Nat → Bool) : List (Int × List Int) := ((List.range 64).filter p).map fun (m : Nat) => ((m : Int), vec (F m))
theorem map_getD {α β : Type} (d : α) (h : α → β) (K : List α) : (List.range K.length).map (fun j => h (K.getD j d)) = K.map h := by
  refine List.ext_getElem (by simp) (fun i h1 h2 => ?_)
  have hi : i < K.length := by simpa using h2
  simp [List.getD_eq_getElem?_getD, List.getElem?_eq_getElem hi]
theorem vec_getD (f : Nat → Int) (i : Nat) (h : i < 37) : (vec f).getD i 0 = f i := by
  rw [List.getD_eq_getElem?_getD, List.getElem?_eq_getElem (by rw [vec_length]; exact h), Option.getD_some, vec_get f i h]
theorem ownV_keyed (g : Int × List Int → Nat → Int) (F : Nat → Nat → Int) (p : Nat → Bool) (i : Nat) (hz : ∀ b, b < 64 → p b = false → g ((b : Int), vec (F b)) i = 0) :
    (((List.range (keyed F p).length).map fun j => g ((keyed F p).getD j (0, [])) i).sum) = sum64 fun b => g ((b : Int), vec (F b)) i := by
  rw [map_getD (0, []) (fun y => g y i), keyed, List.map_map]
  exact sum_filter p _ _ (fun x hx hp => hz x (List.mem_range.1 hx) hp)
theorem gives_at (F : Nat → Nat → Int) (hF : ∀ b k, b < 64 → 0 ≤ F b k) (m c b i : Nat) (hb : b < 64) (hi : i < 37) : gives (m : Int) c ((b : Int), vec (F b)) i = if comp (m : Int) (b : Int) = true then (if c ≤ i then F b (i - c) else 0) else 0 := by
  unfold gives
  dsimp only
  by_cases e : comp (m : Int) (b : Int) = true
  · rw [if_pos e, if_pos e, vec_getD _ _ (by omega)]
    by_cases e2 : c ≤ i
    · rw [if_pos e2]
      by_cases e3 : 0 < F b (i - c)
      · rw [if_pos ⟨e2, e3⟩]
      · rw [if_neg (fun h => e3 h.2)]
        have := hF b (i - c) hb
        omega
    · rw [if_neg e2, if_neg (fun h => e2 h.1)]
  · rw [if_neg e, if_neg e]
theorem own_step {cnt : Nat → Nat} {x : Nat} {F : Nat → Nat → Int} {M : Int} {R : Nat} {p : Nat → Bool} (h : Good F M R) (hM : M ≤ 72057594037927936) (hp : ∀ b k, b < 64 → p b = false → F b k = 0) (m : Nat) (hv : valid x m = true) :
    ownV (gives (m : Int) (cnt m)) (keyed F p) = vec (step cnt x F m) := by
  unfold ownV
  refine vec_congr (fun i hi => ?_)
  rw [ownV_keyed (gives (m : Int) (cnt m)) F p i (fun b hb hpb => by
    rw [gives_at F h.lo m _ b i hb hi]
    split
    · split
      · exact hp b _ hb hpb
      · rfl
    · rfl)]
  have e : (sum64 fun b => gives (m : Int) (cnt m) ((b : Int), vec (F b)) i) = step cnt x F m i := by
    unfold step
    rw [if_pos hv]
    by_cases e2 : cnt m ≤ i
    · rw [if_pos e2]
      exact sum_congr _ _ _ (fun b hb => by rw [gives_at F h.lo m _ b i (List.mem_range.1 hb) hi, if_pos e2])
    · rw [if_neg e2]
      exact sum_zero _ _ (fun b hb => by rw [gives_at F h.lo m _ b i (List.mem_range.1 hb) hi, if_neg e2]; split <;> rfl)
  rw [e]
  have hp := h.pos
  have hb : 0 ≤ step cnt x F m i ∧ step cnt x F m i ≤ 64 * M := by
    unfold step
    rw [if_pos hv]
    split
    · exact sum64_bounds _ M (fun b hb => by
        split
        · exact ⟨h.lo b _ hb, h.hi b _ hb⟩
        · exact ⟨Int.le_refl _, hp⟩)
    · omega
  unfold wrap64
  omega
theorem upto_filter (cnt : Nat → Nat) (K : List (Int × List Int)) (C : Nat) : ∀ m, upto cnt K C m = ((List.range m).filter (valid C)).map fun (m : Nat) => ((m : Int), ownV (gives (m : Int) (cnt m)) K)
  | 0 => rfl
  | m + 1 => by
    rw [upto, upto_filter cnt K C m, List.range_succ, List.filter_append, List.map_append]
    by_cases e : valid C m = true
    · rw [if_pos e, List.filter_cons_of_pos e]; rfl
    · rw [if_neg e, List.filter_cons_of_neg e]; simp
theorem upto_keyed {cnt : Nat → Nat} {x : Nat} (hx : x ≤ 63) (hlow : ∀ m, m < 64 → valid x m = true → m ≤ x) {F : Nat → Nat → Int} {M : Int} {R : Nat} {p : Nat → Bool} (h : Good F M R) (hM : M ≤ 72057594037927936) (hp : ∀ b k, b < 64 → p b = false → F b k = 0) :
    upto cnt (keyed F p) x (x + 1) = keyed (step cnt x F) (valid x) := by
  rw [upto_filter]
  unfold keyed
  obtain ⟨d, hd⟩ : ∃ d, 64 = (x + 1) + d := ⟨63 - x, by omega⟩
  have e : (List.range 64).filter (valid x) = (List.range (x + 1)).filter (valid x) := by
    rw [hd, List.range_add, List.filter_append]
    have : ((List.range d).map ((x + 1) + ·)).filter (valid x) = [] := by
      rw [List.filter_eq_nil_iff]
      intro a ha hv
      obtain ⟨b, hb, rfl⟩ := List.mem_map.1 ha
      have hb := List.mem_range.1 hb
      have := hlow _ (by omega) hv
      omega
    rw [this, List.append_nil]
  refine Eq.trans ?_ (congrArg (List.map _) e.symm)
  refine List.map_congr_left (fun m hm => ?_)
  have := own_step (cnt := cnt) h hM hp m (List.mem_filter.1 hm).2
  unfold keyed at this
  rw [this]
/-- The program's ways behind some rows. -/
theorem ways_keyed {cnt : Nat → Nat} (hc : ∀ m, m < 64 → cnt m ≤ 6) (hlow : ∀ x m, x < 64 → m < 64 → valid x m = true → m ≤ x) : ∀ (l : List Int) (F : Nat → Nat → Int) (R : Nat) (p : Nat → Bool) (n : Nat), Good F ((64 ^ n : Nat) : Int) R → (∀ b k, b < 64 → p b = false → F b k = 0) → n + l.length ≤ 6 → (∀ x ∈ l, 0 ≤ x ∧ x ≤ 63) →
    ∃ q, waysOf cnt (keyed F p) l = keyed (steps cnt l F) q ∧ Good (steps cnt l F) ((64 ^ (n + l.length) : Nat) : Int) (R + 6 * l.length) ∧ ∀ b k, b < 64 → q b = false → steps cnt l F b k = 0
  | [], F, R, p, n, h, hp, _, _ => ⟨p, rfl, h, hp⟩
  | x :: l, F, R, p, n, h, hp, hn, hx => by
    have hx0 := hx x (List.mem_cons_self ..)
    rw [List.length_cons] at hn
    have hM : ((64 ^ n : Nat) : Int) ≤ 72057594037927936 := by
      have : 64 ^ n ≤ 64 ^ 6 := Nat.pow_le_pow_right (by omega) (by omega)
      omega
    have hs : Good (step cnt x.toNat F) ((64 ^ (n + 1) : Nat) : Int) (R + 6) := by
      have := h.step (x := x.toNat) hc
      rw [Nat.pow_succ]
      have e : (64 : Int) * ((64 ^ n : Nat) : Int) = ((64 ^ n * 64 : Nat) : Int) := by rw [Int.natCast_mul, Int.mul_comm]; rfl
      rw [e] at this
      exact this
    have hz : ∀ b k, b < 64 → valid x.toNat b = false → step cnt x.toNat F b k = 0 := fun b k _ hv => by unfold step; rw [if_neg (by rw [hv]; simp)]
    obtain ⟨q, h1, h2, h3⟩ := ways_keyed hc hlow l (step cnt x.toNat F) (R + 6) (valid x.toNat) (n + 1) hs hz (by omega) (fun y hy => hx y (List.mem_cons_of_mem _ hy))
    refine ⟨q, ?_, ?_, h3⟩
    · rw [waysOf, upto_keyed (by omega) (fun m hm hv => hlow _ _ (by omega) hm hv) h hM hp]
      exact h1
    · rw [List.length_cons, show n + (l.length + 1) = n + 1 + l.length by omega, show R + 6 * (l.length + 1) = R + 6 + 6 * l.length by omega]
      exact h2
/-- The ways ahead of the first row. -/
def first (m k : Nat) : Int := if m = 0 ∧ k = 0 then 1 else 0
theorem first_good : Good first ((64 ^ 0 : Nat) : Int) 0 := ⟨fun b k _ => by unfold first; split <;> decide, fun b k _ => by unfold first; split <;> decide, fun b k _ hk => by unfold first; rw [if_neg (by omega)]⟩
theorem first_keyed : keyed first (fun b => b == 0) = [(0, (List.replicate 37 0).set 0 1)] := by decide +kernel
/-- All kings, by how many there are. -/
def total (F : Nat → Nat → Int) (k : Nat) : Int := sum64 fun b => F b k
theorem own_total {F : Nat → Nat → Int} {M : Int} {R : Nat} {q : Nat → Bool} (h : Good F M R) (hM : M ≤ 72057594037927936) (hq : ∀ b k, b < 64 → q b = false → F b k = 0) : ownV (fun y i => y.2.getD i 0) (keyed F q) = vec (total F) := by
  unfold ownV
  refine vec_congr (fun i hi => ?_)
  rw [ownV_keyed (fun y i => y.2.getD i 0) F q i (fun b hb hqb => by dsimp only; rw [vec_getD _ _ hi]; exact hq b i hb hqb)]
  have e : (sum64 fun b => (fun (y : Int × List Int) i => y.2.getD i 0) ((b : Int), vec (F b)) i) = total F i := sum_congr (List.range 64) (fun b => (vec (F b)).getD i 0) (fun b => F b i) (fun b _ => vec_getD _ _ hi)
  rw [e]
  have := sum64_bounds (fun b => F b i) M (fun b hb => ⟨h.lo b i hb, h.hi b i hb⟩)
  unfold total
  unfold wrap64
  omega
/-! ### Lists without zeros at their ends -/
structure Canon (f : Nat → Int) (l : List Int) : Prop where
  at_ : ∀ k, l.getD k 0 = f k
  end_ : l ≠ [] → l.getD (l.length - 1) 0 ≠ 0
theorem Canon.len_le {f : Nat → Int} {l l' : List Int} (h : Canon f l) (h' : ∀ k, l'.getD k 0 = f k) : l.length ≤ l'.length := by
  by_cases e : l = []
  · rw [e]; exact Nat.zero_le _
  · have h1 := h.end_ e
    rw [h.at_, ← h'] at h1
    by_cases h2 : l.length - 1 < l'.length
    · have : 0 < l.length := List.length_pos_iff.2 e
      omega
    · exact absurd (by rw [List.getD_eq_getElem?_getD, List.getElem?_eq_none (by omega)]; rfl) h1
theorem Canon.unique {f : Nat → Int} {l l' : List Int} (h : Canon f l) (h' : Canon f l') : l = l' := by
  have e : l.length = l'.length := Nat.le_antisymm (h.len_le h'.at_) (h'.len_le h.at_)
  refine List.ext_getElem e (fun i h1 h2 => ?_)
  have a := h.at_ i
  have b := h'.at_ i
  rw [List.getD_eq_getElem?_getD, List.getElem?_eq_getElem h1] at a
  rw [List.getD_eq_getElem?_getD, List.getElem?_eq_getElem h2] at b
  exact a.trans b.symm
theorem Canon.nil : Canon (fun _ => 0) [] := ⟨fun k => rfl, fun h => absurd rfl h⟩
theorem Canon.congr {f g : Nat → Int} {l : List Int} (h : Canon f l) (e : ∀ k, f k = g k) : Canon g l := ⟨fun k => (h.at_ k).trans (e k), h.end_⟩
theorem Canon.short {f : Nat → Int} {l : List Int} {R : Nat} (h : Canon f l) (hR : ∀ k, R ≤ k → f k = 0) : l.length ≤ R := by
  by_cases e : l = []
  · rw [e]; exact Nat.zero_le _
  · have h1 := h.end_ e
    rw [h.at_] at h1
    by_cases h2 : R ≤ l.length - 1
    · exact absurd (hR _ h2) h1
    · omega
/-- A list is added, moved up. -/
def kadd (a b : List Int) (n : Nat) : List Int := if b = [] then a else (List.range (max a.length (n + b.length))).map fun i => if n ≤ i ∧ i < n + b.length then wrap64 (a.getD i 0 + b.getD (i - n) 0) else a.getD i 0
theorem kadd_len (a b : List Int) (n : Nat) : (kadd a b n).length ≤ max a.length (n + b.length) := by
  unfold kadd
  split
  · omega
  · simp
theorem getD_past (l : List Int) (k : Nat) (h : l.length ≤ k) : l.getD k 0 = 0 := by rw [List.getD_eq_getElem?_getD, List.getElem?_eq_none h]; rfl
theorem kadd_canon {f g : Nat → Int} {a b : List Int} {n : Nat} {M : Int} (ha : Canon f a) (hb : Canon g b) (hf : ∀ k, 0 ≤ f k ∧ f k ≤ M) (hg : ∀ k, 0 ≤ g k ∧ g k ≤ M) (hM : M ≤ 4611686018427387903) :
    Canon (fun k => f k + if n ≤ k then g (k - n) else 0) (kadd a b n) := by
  unfold kadd
  by_cases e : b = []
  · rw [if_pos e]
    refine ha.congr (fun k => ?_)
    subst e
    have hz : ∀ k, g k = 0 := fun k => (hb.at_ k).symm
    rw [hz]
    split <;> omega
  · rw [if_neg e]
    have hpb : 0 < b.length := List.length_pos_iff.2 e
    have hat : ∀ k, ((List.range (max a.length (n + b.length))).map fun i => if n ≤ i ∧ i < n + b.length then wrap64 (a.getD i 0 + b.getD (i - n) 0) else a.getD i 0).getD k 0 = f k + if n ≤ k then g (k - n) else 0 := by
      intro k
      have h1 := hf k
      have h2 := hg (k - n)
      by_cases hk : k < max a.length (n + b.length)
      · rw [List.getD_eq_getElem?_getD, List.getElem?_eq_getElem (by simpa using hk)]
        simp only [List.getElem_map, List.getElem_range, Option.getD_some]
        by_cases e1 : n ≤ k ∧ k < n + b.length
        · rw [if_pos e1, ha.at_, hb.at_, if_pos e1.1]
          unfold wrap64
          omega
        · rw [if_neg e1, ha.at_]
          by_cases e2 : n ≤ k
          · have h4 : g (k - n) = 0 := by rw [← hb.at_]; exact getD_past _ _ (by omega)
            rw [if_pos e2, h4, Int.add_zero]
          · rw [if_neg e2, Int.add_zero]
      · rw [List.getD_eq_getElem?_getD, List.getElem?_eq_none (by simpa using hk)]
        have h3 : f k = 0 := by rw [← ha.at_]; exact getD_past _ _ (by omega)
        have h4 : g (k - n) = 0 := by rw [← hb.at_]; exact getD_past _ _ (by omega)
        rw [h3, h4]
        split <;> rfl
    refine ⟨hat, fun _ => ?_⟩
    rw [hat]
    simp only [List.length_map, List.length_range]
    have h1 := hf (max a.length (n + b.length) - 1)
    have h2 := hg (max a.length (n + b.length) - 1 - n)
    by_cases hc : a.length ≤ n + b.length
    · have e1 : max a.length (n + b.length) = n + b.length := by omega
      rw [e1] at h1 h2 ⊢
      have h3 := hb.end_ e
      rw [hb.at_] at h3
      rw [if_pos (by omega), show n + b.length - 1 - n = b.length - 1 by omega] at *
      omega
    · have e1 : max a.length (n + b.length) = a.length := by omega
      rw [e1] at h1 h2 ⊢
      have h3 := ha.end_ (by intro e2; rw [e2] at hc; simp at hc)
      rw [ha.at_] at h3
      split <;> omega
/-! ### The reference's ways: a list of rows for each mask -/
def foldK (c2 : Nat → Nat → Bool) (ways : List (List Int)) (m c : Nat) : Nat → List Int
  | 0 => []
  | b + 1 => if c2 m b = true then kadd (foldK c2 ways m c b) (ways.getD b []) c else foldK c2 ways m c b
def nextK (c2 : Nat → Nat → Bool) (v2 : Int → Nat → Bool) (cnt : Nat → Nat) (n : Nat) (ways : List (List Int)) (x : Int) : List (List Int) := (List.range n).map fun m => if v2 x m = true then foldK c2 ways m (cnt m) n else []
def waysK (c2 : Nat → Nat → Bool) (v2 : Int → Nat → Bool) (cnt : Nat → Nat) (n : Nat) : List Int → List (List Int) → List (List Int)
  | [], W => W
  | x :: l, W => waysK c2 v2 cnt n l (nextK c2 v2 cnt n W x)
def outK (ways : List (List Int)) : Nat → List Int
  | 0 => []
  | b + 1 => kadd (outK ways b) (ways.getD b []) 0
structure Told (n : Nat) (F : Nat → Nat → Int) (W : List (List Int)) : Prop where
  len : W.length = n
  can : ∀ b, b < n → Canon (F b) (W.getD b [])
  off : ∀ b k, n ≤ b → b < 64 → F b k = 0
def part (h : Nat → Int) (m : Nat) : Int := ((List.range m).map h).sum
theorem part_succ (h : Nat → Int) (m : Nat) : part h (m + 1) = part h m + h m := by
  unfold part
  rw [List.range_succ, List.map_append, List.sum_append]
  simp
theorem part_bounds (h : Nat → Int) (M : Int) (m : Nat) (hm : m ≤ 64) (hM : 0 ≤ M) (hb : ∀ b, b < m → 0 ≤ h b ∧ h b ≤ M) : 0 ≤ part h m ∧ part h m ≤ 64 * M := by
  have := sum_bounds (List.range m) h M (fun x hx => hb x (List.mem_range.1 hx))
  rw [List.length_range] at this
  have e : (m : Int) * M ≤ 64 * M := Int.mul_le_mul_of_nonneg_right (by omega) hM
  exact ⟨this.1, Int.le_trans this.2 e⟩
theorem foldK_canon {c2 : Nat → Nat → Bool} {n : Nat} (hn : n ≤ 64) {F : Nat → Nat → Int} {W : List (List Int)} {M : Int} {R : Nat} (h : Good F M R) (hM : M ≤ 36028797018963968) (hW : Told n F W) (m c : Nat) : ∀ b, b ≤ n →
    Canon (fun k => part (fun b => if c2 m b = true then (if c ≤ k then F b (k - c) else 0) else 0) b) (foldK c2 W m c b)
  | 0, _ => Canon.nil
  | b + 1, hb => by
    have ih := foldK_canon (c2 := c2) hn h hM hW m c b (by omega)
    have hp := h.pos
    rw [foldK]
    by_cases e : c2 m b = true
    · rw [if_pos e]
      refine (kadd_canon ih (hW.can b (by omega)) (M := 64 * M) (fun k => ?_) (fun k => ?_) (by omega)).congr (fun k => ?_)
      · refine part_bounds _ M b (by omega) hp (fun b' hb' => ?_)
        split
        · split
          · exact ⟨h.lo _ _ (by omega), h.hi _ _ (by omega)⟩
          · exact ⟨Int.le_refl _, hp⟩
        · exact ⟨Int.le_refl _, hp⟩
      · have h1 := h.lo b k (by omega)
        have h2 := h.hi b k (by omega)
        omega
      · rw [part_succ, if_pos e]
    · rw [if_neg e]
      exact ih.congr (fun k => by rw [part_succ, if_neg e, Int.add_zero])
theorem part_sum64 {n : Nat} (hn : n ≤ 64) (h : Nat → Int) (hz : ∀ b, n ≤ b → b < 64 → h b = 0) : part h n = sum64 h := sum64_range n hn h hz
theorem nextK_told {c2 : Nat → Nat → Bool} {v2 : Int → Nat → Bool} {cnt : Nat → Nat} {n : Nat} (hn : n ≤ 64) {F : Nat → Nat → Int} {W : List (List Int)} {M : Int} {R : Nat} {x : Nat} (h : Good F M R) (hM : M ≤ 36028797018963968) (hW : Told n F W)
    (hc2 : ∀ m b, m < 64 → b < 64 → c2 m b = comp (m : Int) (b : Int)) (hv2 : ∀ m, m < 64 → v2 (x : Int) m = valid x m) (hx : ∀ m, m < 64 → valid x m = true → m < n) : Told n (step cnt x F) (nextK c2 v2 cnt n W (x : Int)) := by
  refine ⟨by simp [nextK], fun m hm => ?_, fun m k h1 h2 => ?_⟩
  · have e : (nextK c2 v2 cnt n W (x : Int)).getD m [] = if v2 (x : Int) m = true then foldK c2 W m (cnt m) n else [] := by
      unfold nextK
      rw [List.getD_eq_getElem?_getD, List.getElem?_eq_getElem (by simpa using hm)]
      simp
    rw [e, hv2 m (by omega)]
    by_cases hv : valid x m = true
    · rw [if_pos hv]
      refine (foldK_canon (c2 := c2) hn h hM hW m (cnt m) n (Nat.le_refl _)).congr (fun k => ?_)
      unfold step
      rw [if_pos hv]
      have e1 : ∀ b, b < 64 → (if c2 m b = true then (if cnt m ≤ k then F b (k - cnt m) else 0) else 0) = if cnt m ≤ k then (if comp (m : Int) (b : Int) = true then F b (k - cnt m) else 0) else 0 := fun b hb => by
        rw [hc2 m b (by omega) hb]
        split <;> split <;> rfl
      rw [part_sum64 hn _ (fun b hb1 hb2 => by rw [e1 b hb2]; split; (split; exact hW.off b _ hb1 hb2; rfl); rfl)]
      by_cases e2 : cnt m ≤ k
      · rw [if_pos e2]
        exact sum_congr _ _ _ (fun b hb => by rw [e1 b (List.mem_range.1 hb), if_pos e2])
      · rw [if_neg e2]
        exact sum_zero _ _ (fun b hb => by rw [e1 b (List.mem_range.1 hb), if_neg e2])
    · rw [if_neg hv]
      exact Canon.nil.congr (fun k => by unfold step; rw [if_neg hv])
  · unfold step
    rw [if_neg (fun hv => by have := hx m h2 hv; omega)]
theorem waysK_told {c2 : Nat → Nat → Bool} {v2 : Int → Nat → Bool} {cnt : Nat → Nat} {n : Nat} (hn : n ≤ 64) (hc : ∀ m, m < 64 → cnt m ≤ 6)
    (hc2 : ∀ m b, m < 64 → b < 64 → c2 m b = comp (m : Int) (b : Int)) (hv2 : ∀ x m : Nat, x < 64 → m < 64 → v2 (x : Int) m = valid x m) (hx : ∀ x m, x < n → m < 64 → valid x m = true → m < n) : ∀ (l : List Int) (F : Nat → Nat → Int) (W : List (List Int)) (R i : Nat), Good F ((64 ^ i : Nat) : Int) R → Told n F W → i + l.length ≤ 6 → (∀ x ∈ l, 0 ≤ x ∧ x < (n : Int)) →
    Told n (steps cnt l F) (waysK c2 v2 cnt n l W)
  | [], F, W, R, i, h, hW, _, _ => hW
  | x :: l, F, W, R, i, h, hW, hi, hl => by
    have hx0 := hl x (List.mem_cons_self ..)
    obtain ⟨y, rfl⟩ : ∃ y : Nat, x = (y : Int) := ⟨x.toNat, by omega⟩
    rw [List.length_cons] at hi
    have hM : ((64 ^ i : Nat) : Int) ≤ 36028797018963968 := by
      have : 64 ^ i ≤ 64 ^ 6 := Nat.pow_le_pow_right (by omega) (by omega)
      omega
    have hs : Good (step cnt y F) ((64 ^ (i + 1) : Nat) : Int) (R + 6) := by
      have := h.step (x := y) hc
      rw [Nat.pow_succ]
      have e : (64 : Int) * ((64 ^ i : Nat) : Int) = ((64 ^ i * 64 : Nat) : Int) := by rw [Int.natCast_mul, Int.mul_comm]; rfl
      rw [e] at this
      exact this
    rw [waysK, steps, Int.toNat_natCast]
    exact waysK_told hn hc hc2 hv2 hx l _ _ (R + 6) (i + 1) hs (nextK_told hn h hM hW hc2 (fun m hm => hv2 y m (by omega) hm) (fun m hm hv => hx y m (by omega) hm hv)) (by omega) (fun z hz => hl z (List.mem_cons_of_mem _ hz))
theorem first_told (n : Nat) (hn : 0 < n) : Told n first ((List.replicate n []).set 0 [1]) := by
  refine ⟨by simp, fun b hb => ?_, fun b k h1 h2 => by unfold first; rw [if_neg (by omega)]⟩
  by_cases e : b = 0
  · subst e
    have : ((List.replicate n ([] : List Int)).set 0 [1]).getD 0 [] = [1] := by rw [List.getD_eq_getElem?_getD, List.getElem?_eq_getElem (by simpa using hn)]; simp
    rw [this]
    refine ⟨fun k => ?_, fun _ => by decide⟩
    cases k with
    | zero => rfl
    | succ k => unfold first; rw [if_neg (by omega)]; rfl
  · have : ((List.replicate n ([] : List Int)).set 0 [1]).getD b [] = [] := by
      rw [List.getD_eq_getElem?_getD, List.getElem?_eq_getElem (by simpa using hb), List.getElem_set_ne (fun e2 => e e2.symm)]; simp
    rw [this]
    exact Canon.nil.congr (fun k => by unfold first; rw [if_neg (by omega)])
theorem outK_canon {n : Nat} (hn : n ≤ 64) {F : Nat → Nat → Int} {W : List (List Int)} {M : Int} {R : Nat} (h : Good F M R) (hM : M ≤ 36028797018963968) (hW : Told n F W) : ∀ b, b ≤ n → Canon (fun k => part (fun b => F b k) b) (outK W b)
  | 0, _ => Canon.nil
  | b + 1, hb => by
    have hp := h.pos
    rw [outK]
    refine (kadd_canon (outK_canon hn h hM hW b (by omega)) (hW.can b (by omega)) (M := 64 * M) (fun k => part_bounds _ M b (by omega) hp (fun b' hb' => ⟨h.lo _ _ (by omega), h.hi _ _ (by omega)⟩)) (fun k => ?_) (by omega)).congr (fun k => ?_)
    · have h1 := h.lo b k (by omega)
      have h2 := h.hi b k (by omega)
      omega
    · rw [part_succ, if_pos (Nat.zero_le _), Nat.sub_zero]
theorem out_total {n : Nat} (hn : n ≤ 64) {F : Nat → Nat → Int} {W : List (List Int)} {M : Int} {R : Nat} (h : Good F M R) (hM : M ≤ 36028797018963968) (hW : Told n F W) : Canon (total F) (outK W n) :=
  (outK_canon hn h hM hW n (Nat.le_refl _)).congr (fun k => part_sum64 hn _ (fun b h1 h2 => hW.off b k h1 h2))
end Go.Proofs.Ythlcaikplebpmaa.Kings
