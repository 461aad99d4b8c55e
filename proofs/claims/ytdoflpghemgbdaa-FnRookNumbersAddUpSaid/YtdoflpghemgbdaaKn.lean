import Derived.Test.YtdoflpghemgbdaaWk
namespace Go.Proofs.Ytdoflpghemgbdaa.Cap
open Go.RowKit Go.Proofs.YtdoflpghemgbdaaW.PrintWords Go.Proofs.YtdoflpghemgbdaaW.PrintLast Go.Proofs.YtdoflpghemgbdaaW.PrintMore
set_option linter.unusedVariables false
section
variable {e eO g n cap i base : Nat} {W : World} {xs : List (List Int)} {ok : Nat → Prop}
theorem S_made {W : World} (h : W.heap[g]? = some (.cells (madeCells #[.slice none 0 0] n) eO (0, 0))) (hg : base ≤ g) (hn : n ≤ 1000000) (hok : ok g) : Kd.S (Kd.slice e (Kd.int .i64)) eO W base ok (.slice (some ⟨g, 0, none⟩) n n) (List.replicate n []) := by
  have h0 : (madeCells #[Value.slice none 0 0] n).toList = List.replicate n (.slice none 0 0) := by
    refine List.ext_getElem (by simp [madeCells]) (fun j h1 h2 => ?_); simp [madeCells, Nat.mod_one]
  refine Kd.S_bare ⟨fun k hk => ?_, List.replicate n (.slice none 0 0), ?_, ?_⟩
  · have : g = k := by simpa [Value.ownBlock] using hk
    exact this ▸ hok
  · refine ⟨by simp [Kd.bare, Kd.slice], .inr ⟨g, n, madeCells #[.slice none 0 0] n, by simp, hg, h, by simp, by simp only [maxLen]; omega, ?_, ?_⟩⟩
    · have := congrArg List.length h0
      simp [Kd.bare, Kd.slice] at this ⊢
      exact this
    · rw [h0]
      simp [Kd.bare, Kd.slice]
  · refine ⟨by simp [Kd.bare, Kd.slice], fun j p hj => ?_⟩
    obtain ⟨hl, rfl⟩ := List.getElem?_eq_some_iff.1 hj; have hl' : j < n := by simpa using hl
    rw [List.getElem_replicate]; refine ⟨.slice none 0 0, ?_, Kd.R_nil _ _ _ _ _⟩; show List.take 1 (List.drop (j * 1) (List.replicate n (Value.slice none 0 0))) = [.slice none 0 0]; rw [List.drop_replicate, List.take_replicate, show min 1 (n - j * 1) = 1 by omega]; rfl
theorem S_empty {W : World} (hb : base ≤ W.heap.size) : Kd.S (Kd.slice e (Kd.int .i64)) eO (W.alloc (.cells #[] eO)) base (fun _ => True) (.slice (some ⟨W.heap.size, 0, none⟩) 0 0) [] :=
  Kd.S_bare ⟨fun _ _ => trivial, [], ⟨rfl, .inr ⟨W.heap.size, 0, #[], rfl, hb, blk_new _ _, Nat.le_refl _, Nat.zero_le _, rfl, rfl⟩⟩, rfl, fun j p hj => by simp at hj⟩
theorem S_swap (h : Kd.S (Kd.slice e (Kd.int .i64)) eO W base ok (.slice (some ⟨g, 0, none⟩) n cap) xs) (hi : i < n) :
    ∃ (oki : Nat → Prop) (v : Value), Kd.R (Kd.int .i64) e W base oki v (xs.getD i []) ∧ W.cell? ⟨g, i, none⟩ = some v ∧ W.frozen? ⟨g, i, none⟩ = false ∧ (∀ k, oki k → ok k ∧ k ≠ g) ∧ g < W.heap.size ∧
      ∀ (W1 : World) (v1 : Value) (row : List Int), Kept W W1 oki → Kd.R (Kd.int .i64) e W1 base (fun k => oki k ∨ W.heap.size ≤ k) v1 row → (∀ k, W.heap.size ≤ k → ok k) →
        W1.cell? ⟨g, i, none⟩ = some v ∧ W1.frozen? ⟨g, i, none⟩ = false ∧ Kd.S (Kd.slice e (Kd.int .i64)) eO (W1.setCell ⟨g, i, none⟩ v1) base ok (.slice (some ⟨g, 0, none⟩) n cap) (xs.set i row) := by
  have hg : g < W.heap.size := Kd.R_lt (Kd.S_R h) g (by simp [Value.ownBlock]); obtain ⟨oki, c, hcl, hM, hcc, hfr, hoki, hH⟩ := Kd.S_elem h [] (i : Int) (by omega) (by omega); obtain ⟨v, rfl, hR⟩ := hM; rw [Int.toNat_natCast] at hR; have hc0 := hcc 0 v rfl; have hf0 := hfr 0; have e1 : ((i : Int).toNat * (Kd.slice e (Kd.int .i64)).sz + 0) = i := by rw [Int.toNat_natCast]; show i * 1 + 0 = i; omega
  rw [e1] at hc0 hf0; refine ⟨oki, v, hR, hc0, hf0, hoki, hg, fun W1 v1 row hk hR1 hnew => ?_⟩; have hgk : W1.heap[g]? = W.heap[g]? := hk.2 g hg (fun hh => (hoki g hh).2 rfl); refine ⟨(show W1.cell? ⟨g, i, none⟩ = W.cell? ⟨g, i, none⟩ by unfold World.cell?; rw [hgk]).trans hc0, ?_, ?_⟩
  · have := hf0
    unfold World.frozen? at this ⊢; rw [hgk]; exact this
  · have H1 := Kd.H_step (w1 := W1) (Kd.H_widen hH) (fun k _ hn hlt => hk.2 k hlt (fun hh => hn (.inl hh)))
    obtain ⟨A1, c1, rfl⟩ := Kd.R_slice hR1; obtain ⟨H2, _⟩ := Kd.H_seg H1 (by omega) (by omega) (j := 0) (seg := [.slice A1 row.length c1]) (Nat.le_refl _) (fun q hq => by rw [List.mem_singleton.1 hq]; rfl); rw [e1] at H2; have hw : W1.setCells g i [.slice A1 row.length c1] = W1.setCell ⟨g, i, none⟩ (.slice A1 row.length c1) := rfl; rw [hw] at H2; have hc2 : ([v].take 0 ++ [Value.slice A1 row.length c1] ++ [v].drop (0 + [Value.slice A1 row.length c1].length)) = [.slice A1 row.length c1] := rfl; rw [hc2] at H2; have hb := Kd.H_back H2 (x' := row) (okp := fun k => oki k ∨ W.heap.size ≤ k) ⟨_, rfl, Kd.R_far hR1 (fun k hk e => by
      have e : k = g := e; subst e; rcases hk with hk | hk
      · exact (hoki k hk).2 rfl
      · omega) _⟩ (fun k hk => hk.elim .inl (fun hh => .inr ⟨hnew k hh, hh⟩))
    rw [Int.toNat_natCast] at hb; exact hb
end
end Go.Proofs.Ytdoflpghemgbdaa.Cap
