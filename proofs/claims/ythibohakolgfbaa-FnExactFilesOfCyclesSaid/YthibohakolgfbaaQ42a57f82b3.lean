-- printed functions (wip/slim.py)
import Derived.Test.YthibohakolgfbaaPx0
import Derived.Test.YthibohakolgfbaaQc25296c080
namespace Go.Proofs.Ythibohakolgfbaa.P
noncomputable section
open Go.RowKit Go.Proofs.YthibohakolgfbaaW.PrintWords Go.Proofs.YthibohakolgfbaaW.PrintLast Go.Proofs.YthibohakolgfbaaW.PrintMore
attribute [local go_sem] max2_int min2_int max_two min_two max_three min_three max_four min_four   -- for this text's walks alone
set_option linter.unusedVariables false
set_option linter.unusedSimpArgs false

/-! ### slices_Repeat_int_int: function 90 -/
def slices_Repeat_int_int.f (l0 : List Int) (a1 : Int) : Option (List Int) := if l0.length = 1 ∧ 1 ≤ a1 ∧ a1 ≤ 6 then some (List.replicate a1.toNat (rd l0 0)) else none
theorem slices_Repeat_int_int.own {w : World} {b g N : Nat} {v : Int} (hg : w.heap[g]? = some (.cells (List.replicate N (Value.int .i64 v)).toArray 3 (0, 0))) (hb : b ≤ g) (hN : N ≤ 6) : (Kd.int .i64).R 3 w b (fun _ => True) (.slice (some ⟨g, 0, none⟩) N N) (List.replicate N v) := by
  refine Kd.R_of_own (enc := Value.int .i64) ⟨by simp [encs], Or.inr ⟨g, N, (List.replicate N (Value.int .i64 v)).toArray, by simp, hb, hg, by simp, by simp [maxLen]; omega, by simp, by simp [encs]⟩⟩ (fun _ _ => trivial)
set_option maxHeartbeats 400000 in
set_option maxRecDepth 100000 in
theorem slices_Repeat_int_int.calls (A0 : Option Addr) (c0 : Nat) (l0 : List Int) (a1 : Int) (r : List Int) (w : World) (hr0 : Kd.C (Kd.int .i64) w A0 l0.length l0) (hc0 : l0.length ≤ c0) (h : slices_Repeat_int_int.f l0 a1 = some r) :
    Calls Try.prog 90 #[.slice A0 l0.length c0, .int .i64 a1] w fun e w' => ∃ v0_ : Value, e = .returned (v0_) ∧ Kd.R (Kd.int .i64) 3 w' w.heap.size (fun _ => True) v0_ r ∧ Below w.heap.size w w' := by
  unfold slices_Repeat_int_int.f at h
  have hh : l0.length = 1 ∧ 1 ≤ a1 ∧ a1 ≤ 6 := by
    split at h
    · assumption
    · cases h
  rw [if_pos hh] at h
  obtain ⟨h1, h2, h3⟩ := hh
  obtain ⟨v, rfl⟩ : ∃ v, l0 = [v] := by
    match l0, h1 with
    | [v], _ => exact ⟨v, rfl⟩
  obtain rfl := Option.some.inj h
  clear h h1
  obtain ⟨ad, rfl, hx⟩ := Kd.at_int hr0 0 (by omega) (by simp)
  have hx : w.cell? ad = some (.int .i64 v) := by
    have h0 : ad.add (Int.toNat 0) = ad := Addr.add_zero' ad
    rw [h0] at hx
    simpa [rd] using hx
  have HX := Aside0.mk hx
  clear hx hr0
  have hn : a1 = 1 ∨ a1 = 2 ∨ a1 = 3 ∨ a1 = 4 ∨ a1 = 5 ∨ a1 = 6 := by omega
  clear h2 h3
  have hsz : (Try.prog.info? 3).map (·.size) = some 1 := by
    obtain ⟨i0, hi, _, hz1, _⟩ := info_parts info3
    rw [hi]; simp [hz1]
  replace hsz := Aside0.mk hsz
  rcases hn with rfl | rfl | rfl | rfl | rfl | rfl
  rotate_left
  · have hmk : ∀ W : World, (Instr.makeSlice 22 (.int .i64 2) (.int .i64 2)).run Try.prog W = .ok (.slice (some ⟨W.heap.size, 0, none⟩) 2 2) (W.alloc (.cells #[Value.int .i64 0, Value.int .i64 0] 3)) := fun W => by
      have hz := print_make (P := Try.prog) 22 3 .i64 8 Try.underlying22 info3 (by decide) 2 (by decide) W
      rw [show madeCells #[Value.int .i64 0] 2 = #[Value.int .i64 0, Value.int .i64 0] from by kernel_rfl] at hz
      simpa using hz
    have hmul : bits_Mul.f 1 2 = some (0, 2) := by decide +kernel
    replace hmul := Aside0.mk hmul
    go_enter Try.func90, Try.ntmps90
    go_wp2_with (first | (go_at_call 130; (with_reducible refine (bits_Mul.calls 1 2 0 2 _ hmul.out).mono ?_); rintro e w1 ⟨rfl, ⟨nd, rfl⟩⟩) | (refine wpList_copy_splice rfl (.tmp 31) (.tmp 32) 22 22 rfl 3 Try.underlying22 hsz.out (some ⟨w.heap.size, 0, none⟩) (some ad) 2 2 1 c0 rfl rfl w.heap.size 0 [Value.int .i64 0, Value.int .i64 0] 3 ?g1 [.int .i64 v] rfl ?g2 (by simp) ?g3 w.heap.size w ?g4 (Nat.le_refl _) ?_; (case g1 => (have hz := blk_new (w.drewN nd) (Obj.cells #[Value.int .i64 0, Value.int .i64 0] 3); simpa using hz)); (case g2 => exact fun _ => ⟨rfl, ad, rfl, fun j u hu => by (obtain ⟨rfl, rfl⟩ : j = 0 ∧ Value.int .i64 v = u := by (match j, hu with | 0, hu => exact ⟨rfl, Option.some.inj hu⟩)); rw [Addr.add_zero']; exact (Below.cell (below_alloc (pw_below_drewN (Below.refl _ _) nd) _) (World.block_lt_of_cell? _ _ HX.out)).trans HX.out⟩); (case g3 => simp [Value.oneCell']); (case g4 => exact below_alloc (pw_below_drewN (Below.refl _ _) nd) _); intro w2 hg2 hb2; have HG := Aside0.mk hg2.out; have HB := Aside0.mk hb2; clear hg2 hb2))
    go_loopg [8] 1 (fun kq v8 wr => ∃ m : Int, v8 = .int .i64 m ∧ Aside0 (1 ≤ m ∧ m ≤ 2 ∧ kq = 2 - m.toNat) ∧ Aside0 (wr.heap[w.heap.size]? = some (.cells (List.replicate m.toNat (Value.int .i64 v) ++ List.replicate (2 - m.toNat) (Value.int .i64 0)).toArray 3 (0, 0))) ∧ Aside0 (Below w.heap.size w wr))
    case atStart => exact ⟨1, rfl, ⟨by omega, by omega, by omega⟩, ⟨HG.out⟩, HB⟩
    case round =>
      clear HG HB hmk hmul
      obtain ⟨m, rfl, HM, HG, HB⟩ := hrel
      have hm := HM.out
      have hm2 : m = 1 ∨ m = 2 := by omega
      clear hm
      rcases hm2 with rfl | rfl
      · go_wp2
        refine start_ (n := 10) (S := fun _ => True) (ds := []) #[false, false, false, false, false, false, false, false, false, false] (by kernel_rfl) rfl rfl trivial (fun hHeld => ?_)
        have HG3 := Aside0.mk (blk_drew HG.out)
        have HB3 := Aside0.mk (below_drew HB.out)
        clear HG HB
        generalize wr.drew = w3 at HG3 HB3 hHeld ⊢
        refine pure_ (i := 0) (N := some 38) (v := ?_) (a' := ?_) #[true, false, false, false, false, false, false, false, false, false] rfl rfl (by kernel_rfl) (fun _ _ _ h => h) (Or.inl ⟨by rfl, ?_⟩) ?_ ?_
        rotate_left
        · intro w'
          go_simp
          with_reducible rfl
        rotate_left
        · simp only [Act.put, List.setIfInBounds_toArray, List.set_cons_zero, List.set_cons_succ, i64_w, i32_w]
          rfl
        refine pure_ (i := 1) (N := some 39) (v := ?_) (a' := ?_) #[true, true, false, false, false, false, false, false, false, false] rfl rfl (by kernel_rfl) (fun _ _ _ h => h) (Or.inl ⟨by rfl, ?_⟩) ?_ ?_
        rotate_left
        · intro w'
          go_simp
          with_reducible rfl
        rotate_left
        · simp only [Act.put, List.setIfInBounds_toArray, List.set_cons_zero, List.set_cons_succ, i64_w, i32_w]
          rfl
        refine pure_ (i := 2) (N := some 40) (v := ?_) (a' := ?_) #[true, true, true, false, false, false, false, false, false, false] rfl rfl (by kernel_rfl) (fun _ _ _ h => h) (Or.inl ⟨by rfl, ?_⟩) ?_ ?_
        rotate_left
        · intro w'
          go_simp
          with_reducible rfl
        rotate_left
        · simp only [Act.put, List.setIfInBounds_toArray, List.set_cons_zero, List.set_cons_succ, i64_w, i32_w]
          rfl
        refine pure_ (i := 3) (N := some 41) (v := ?_) (a' := ?_) #[true, true, true, true, false, false, false, false, false, false] rfl rfl (by kernel_rfl) (fun _ _ _ h => h) (Or.inl ⟨by rfl, ?_⟩) ?_ ?_
        rotate_left
        · intro w'
          go_simp
          with_reducible rfl
        rotate_left
        · simp only [Act.put, List.setIfInBounds_toArray, List.set_cons_zero, List.set_cons_succ, i64_w, i32_w]
          rfl
        refine pure_ (i := 4) (N := some 42) (v := ?_) (a' := ?_) #[true, true, true, true, true, false, false, false, false, false] rfl rfl (by kernel_rfl) (fun _ _ _ h => h) (Or.inl ⟨by rfl, ?_⟩) ?_ ?_
        rotate_left
        · intro w'
          go_simp
          with_reducible rfl
        rotate_left
        · simp only [Act.put, List.setIfInBounds_toArray, List.set_cons_zero, List.set_cons_succ, i64_w, i32_w]
          rfl
        refine pure_ (i := 5) (N := some 43) (v := ?_) (a' := ?_) #[true, true, true, true, true, true, false, false, false, false] rfl rfl (by kernel_rfl) (fun _ _ _ h => h) (Or.inl ⟨by rfl, ?_⟩) ?_ ?_
        rotate_left
        · intro w'
          go_simp
          with_reducible rfl
        rotate_left
        · simp only [Act.put, List.setIfInBounds_toArray, List.set_cons_zero, List.set_cons_succ, i64_w, i32_w]
          rfl
        refine pure_ (i := 6) (N := some 44) (v := ?_) (a' := ?_) #[true, true, true, true, true, true, true, false, false, false] rfl rfl (by kernel_rfl) (fun _ _ _ h => h) (Or.inl ⟨by rfl, ?_⟩) ?_ ?_
        rotate_left
        · intro w'
          go_simp
          with_reducible rfl
        rotate_left
        · simp only [Act.put, List.setIfInBounds_toArray, List.set_cons_zero, List.set_cons_succ, i64_w, i32_w]
          rfl
        refine one_ (i := 7) (N := some 45) #[true, true, true, true, true, true, true, true, false, false] rfl rfl (by kernel_rfl) (by decide) (fun K hK => ?_)
        refine step_copy_splice rfl (.tmp 41) (.tmp 44) 22 22 rfl 3 Try.underlying22 hsz.out (some ⟨w.heap.size, 1, none⟩) (some ⟨w.heap.size, 0, none⟩) 1 1 1 2 rfl rfl w.heap.size 1 [Value.int .i64 v, Value.int .i64 0] 3 ?g1 [Value.int .i64 v] rfl ?g2 (by simp) ?g3 w.heap.size w HB3.out (Nat.le_refl _) ?_
        case g1 => first | exact HG3.out | simpa using HG3.out
        case g2 =>
          refine fun _ => ⟨rfl, _, rfl, fun j u hu => ?_⟩
          rw [add_plain, blk_cell HG3.out]
          match j, hu with
          | 0, hu => exact hu
        case g3 => simp [Value.oneCell']
        intro w4 hg4 hb4
        have HG4 := Aside0.mk hg4.out
        have HB4 := Aside0.mk hb4
        clear hg4 hb4
        refine hK.out _ _ trivial (fun hHeld => ?_)
        clear hK K
        refine norm_ (a' := ?_) ?_ ?_
        rotate_left
        · show Act.put _ (some 45) _ = _
          simp only [Act.put, List.setIfInBounds_toArray, List.set_cons_zero, List.set_cons_succ, i64_w, i32_w]
          rfl
        refine pure_ (i := 8) (N := some 46) (v := ?_) (a' := ?_) #[true, true, true, true, true, true, true, true, true, false] rfl rfl (by kernel_rfl) (fun _ _ _ h => h) (Or.inl ⟨by rfl, ?_⟩) ?_ ?_
        rotate_left
        · intro w'
          go_simp
          with_reducible rfl
        rotate_left
        · simp only [Act.put, List.setIfInBounds_toArray, List.set_cons_zero, List.set_cons_succ, i64_w, i32_w]
          rfl
        refine pure_ (i := 9) (N := some 8) (v := ?_) (a' := ?_) #[true, true, true, true, true, true, true, true, true, true] rfl rfl (by kernel_rfl) (fun _ _ _ h => h) (Or.inl ⟨by rfl, ?_⟩) ?_ ?_
        rotate_left
        · intro w'
          go_simp
          with_reducible rfl
        rotate_left
        · simp only [Act.put, List.setIfInBounds_toArray, List.set_cons_zero, List.set_cons_succ, i64_w, i32_w]
          rfl
        refine done_ (by kernel_rfl) ?_
        try go_wp2
        go_roundg (2 - 2)
        case measure => have := HM.out; omega
        case rel => exact ⟨2, by first | rfl | (congr 1; unfold wrap64; omega), ⟨by omega, by omega, by omega⟩, ⟨HG4.out⟩, HB4⟩
      · go_wp2
        go_ret
        exact ⟨_, rfl, slices_Repeat_int_int.own HG.out (Nat.le_refl _) (by decide), HB.out⟩
  · have hmk : ∀ W : World, (Instr.makeSlice 22 (.int .i64 3) (.int .i64 3)).run Try.prog W = .ok (.slice (some ⟨W.heap.size, 0, none⟩) 3 3) (W.alloc (.cells #[Value.int .i64 0, Value.int .i64 0, Value.int .i64 0] 3)) := fun W => by
      have hz := print_make (P := Try.prog) 22 3 .i64 8 Try.underlying22 info3 (by decide) 3 (by decide) W
      rw [show madeCells #[Value.int .i64 0] 3 = #[Value.int .i64 0, Value.int .i64 0, Value.int .i64 0] from by kernel_rfl] at hz
      simpa using hz
    have hmul : bits_Mul.f 1 3 = some (0, 3) := by decide +kernel
    replace hmul := Aside0.mk hmul
    go_enter Try.func90, Try.ntmps90
    go_wp2_with (first | (go_at_call 130; (with_reducible refine (bits_Mul.calls 1 3 0 3 _ hmul.out).mono ?_); rintro e w1 ⟨rfl, ⟨nd, rfl⟩⟩) | (refine wpList_copy_splice rfl (.tmp 31) (.tmp 32) 22 22 rfl 3 Try.underlying22 hsz.out (some ⟨w.heap.size, 0, none⟩) (some ad) 3 3 1 c0 rfl rfl w.heap.size 0 [Value.int .i64 0, Value.int .i64 0, Value.int .i64 0] 3 ?g1 [.int .i64 v] rfl ?g2 (by simp) ?g3 w.heap.size w ?g4 (Nat.le_refl _) ?_; (case g1 => (have hz := blk_new (w.drewN nd) (Obj.cells #[Value.int .i64 0, Value.int .i64 0, Value.int .i64 0] 3); simpa using hz)); (case g2 => exact fun _ => ⟨rfl, ad, rfl, fun j u hu => by (obtain ⟨rfl, rfl⟩ : j = 0 ∧ Value.int .i64 v = u := by (match j, hu with | 0, hu => exact ⟨rfl, Option.some.inj hu⟩)); rw [Addr.add_zero']; exact (Below.cell (below_alloc (pw_below_drewN (Below.refl _ _) nd) _) (World.block_lt_of_cell? _ _ HX.out)).trans HX.out⟩); (case g3 => simp [Value.oneCell']); (case g4 => exact below_alloc (pw_below_drewN (Below.refl _ _) nd) _); intro w2 hg2 hb2; have HG := Aside0.mk hg2.out; have HB := Aside0.mk hb2; clear hg2 hb2))
    go_loopg [8] 2 (fun kq v8 wr => ∃ m : Int, v8 = .int .i64 m ∧ Aside0 (1 ≤ m ∧ m ≤ 3 ∧ kq = 3 - m.toNat) ∧ Aside0 (wr.heap[w.heap.size]? = some (.cells (List.replicate m.toNat (Value.int .i64 v) ++ List.replicate (3 - m.toNat) (Value.int .i64 0)).toArray 3 (0, 0))) ∧ Aside0 (Below w.heap.size w wr))
    case atStart => exact ⟨1, rfl, ⟨by omega, by omega, by omega⟩, ⟨HG.out⟩, HB⟩
    case round =>
      clear HG HB hmk hmul
      obtain ⟨m, rfl, HM, HG, HB⟩ := hrel
      have hm := HM.out
      have hm2 : m = 1 ∨ m = 2 ∨ m = 3 := by omega
      clear hm
      rcases hm2 with rfl | rfl | rfl
      · go_wp2
        refine start_ (n := 10) (S := fun _ => True) (ds := []) #[false, false, false, false, false, false, false, false, false, false] (by kernel_rfl) rfl rfl trivial (fun hHeld => ?_)
        have HG3 := Aside0.mk (blk_drew HG.out)
        have HB3 := Aside0.mk (below_drew HB.out)
        clear HG HB
        generalize wr.drew = w3 at HG3 HB3 hHeld ⊢
        refine pure_ (i := 0) (N := some 38) (v := ?_) (a' := ?_) #[true, false, false, false, false, false, false, false, false, false] rfl rfl (by kernel_rfl) (fun _ _ _ h => h) (Or.inl ⟨by rfl, ?_⟩) ?_ ?_
        rotate_left
        · intro w'
          go_simp
          with_reducible rfl
        rotate_left
        · simp only [Act.put, List.setIfInBounds_toArray, List.set_cons_zero, List.set_cons_succ, i64_w, i32_w]
          rfl
        refine pure_ (i := 1) (N := some 39) (v := ?_) (a' := ?_) #[true, true, false, false, false, false, false, false, false, false] rfl rfl (by kernel_rfl) (fun _ _ _ h => h) (Or.inl ⟨by rfl, ?_⟩) ?_ ?_
        rotate_left
        · intro w'
          go_simp
          with_reducible rfl
        rotate_left
        · simp only [Act.put, List.setIfInBounds_toArray, List.set_cons_zero, List.set_cons_succ, i64_w, i32_w]
          rfl
        refine pure_ (i := 2) (N := some 40) (v := ?_) (a' := ?_) #[true, true, true, false, false, false, false, false, false, false] rfl rfl (by kernel_rfl) (fun _ _ _ h => h) (Or.inl ⟨by rfl, ?_⟩) ?_ ?_
        rotate_left
        · intro w'
          go_simp
          with_reducible rfl
        rotate_left
        · simp only [Act.put, List.setIfInBounds_toArray, List.set_cons_zero, List.set_cons_succ, i64_w, i32_w]
          rfl
        refine pure_ (i := 3) (N := some 41) (v := ?_) (a' := ?_) #[true, true, true, true, false, false, false, false, false, false] rfl rfl (by kernel_rfl) (fun _ _ _ h => h) (Or.inl ⟨by rfl, ?_⟩) ?_ ?_
        rotate_left
        · intro w'
          go_simp
          with_reducible rfl
        rotate_left
        · simp only [Act.put, List.setIfInBounds_toArray, List.set_cons_zero, List.set_cons_succ, i64_w, i32_w]
          rfl
        refine pure_ (i := 4) (N := some 42) (v := ?_) (a' := ?_) #[true, true, true, true, true, false, false, false, false, false] rfl rfl (by kernel_rfl) (fun _ _ _ h => h) (Or.inl ⟨by rfl, ?_⟩) ?_ ?_
        rotate_left
        · intro w'
          go_simp
          with_reducible rfl
        rotate_left
        · simp only [Act.put, List.setIfInBounds_toArray, List.set_cons_zero, List.set_cons_succ, i64_w, i32_w]
          rfl
        refine pure_ (i := 5) (N := some 43) (v := ?_) (a' := ?_) #[true, true, true, true, true, true, false, false, false, false] rfl rfl (by kernel_rfl) (fun _ _ _ h => h) (Or.inl ⟨by rfl, ?_⟩) ?_ ?_
        rotate_left
        · intro w'
          go_simp
          with_reducible rfl
        rotate_left
        · simp only [Act.put, List.setIfInBounds_toArray, List.set_cons_zero, List.set_cons_succ, i64_w, i32_w]
          rfl
        refine pure_ (i := 6) (N := some 44) (v := ?_) (a' := ?_) #[true, true, true, true, true, true, true, false, false, false] rfl rfl (by kernel_rfl) (fun _ _ _ h => h) (Or.inl ⟨by rfl, ?_⟩) ?_ ?_
        rotate_left
        · intro w'
          go_simp
          with_reducible rfl
        rotate_left
        · simp only [Act.put, List.setIfInBounds_toArray, List.set_cons_zero, List.set_cons_succ, i64_w, i32_w]
          rfl
        refine one_ (i := 7) (N := some 45) #[true, true, true, true, true, true, true, true, false, false] rfl rfl (by kernel_rfl) (by decide) (fun K hK => ?_)
        refine step_copy_splice rfl (.tmp 41) (.tmp 44) 22 22 rfl 3 Try.underlying22 hsz.out (some ⟨w.heap.size, 1, none⟩) (some ⟨w.heap.size, 0, none⟩) 2 2 1 3 rfl rfl w.heap.size 1 [Value.int .i64 v, Value.int .i64 0, Value.int .i64 0] 3 ?g1 [Value.int .i64 v] rfl ?g2 (by simp) ?g3 w.heap.size w HB3.out (Nat.le_refl _) ?_
        case g1 => first | exact HG3.out | simpa using HG3.out
        case g2 =>
          refine fun _ => ⟨rfl, _, rfl, fun j u hu => ?_⟩
          rw [add_plain, blk_cell HG3.out]
          match j, hu with
          | 0, hu => exact hu
        case g3 => simp [Value.oneCell']
        intro w4 hg4 hb4
        have HG4 := Aside0.mk hg4.out
        have HB4 := Aside0.mk hb4
        clear hg4 hb4
        refine hK.out _ _ trivial (fun hHeld => ?_)
        clear hK K
        refine norm_ (a' := ?_) ?_ ?_
        rotate_left
        · show Act.put _ (some 45) _ = _
          simp only [Act.put, List.setIfInBounds_toArray, List.set_cons_zero, List.set_cons_succ, i64_w, i32_w]
          rfl
        refine pure_ (i := 8) (N := some 46) (v := ?_) (a' := ?_) #[true, true, true, true, true, true, true, true, true, false] rfl rfl (by kernel_rfl) (fun _ _ _ h => h) (Or.inl ⟨by rfl, ?_⟩) ?_ ?_
        rotate_left
        · intro w'
          go_simp
          with_reducible rfl
        rotate_left
        · simp only [Act.put, List.setIfInBounds_toArray, List.set_cons_zero, List.set_cons_succ, i64_w, i32_w]
          rfl
        refine pure_ (i := 9) (N := some 8) (v := ?_) (a' := ?_) #[true, true, true, true, true, true, true, true, true, true] rfl rfl (by kernel_rfl) (fun _ _ _ h => h) (Or.inl ⟨by rfl, ?_⟩) ?_ ?_
        rotate_left
        · intro w'
          go_simp
          with_reducible rfl
        rotate_left
        · simp only [Act.put, List.setIfInBounds_toArray, List.set_cons_zero, List.set_cons_succ, i64_w, i32_w]
          rfl
        refine done_ (by kernel_rfl) ?_
        try go_wp2
        go_roundg (3 - 2)
        case measure => have := HM.out; omega
        case rel => exact ⟨2, by first | rfl | (congr 1; unfold wrap64; omega), ⟨by omega, by omega, by omega⟩, ⟨HG4.out⟩, HB4⟩
      · go_wp2
        refine start_ (n := 10) (S := fun _ => True) (ds := []) #[false, false, false, false, false, false, false, false, false, false] (by kernel_rfl) rfl rfl trivial (fun hHeld => ?_)
        have HG3 := Aside0.mk (blk_drew HG.out)
        have HB3 := Aside0.mk (below_drew HB.out)
        clear HG HB
        generalize wr.drew = w3 at HG3 HB3 hHeld ⊢
        refine pure_ (i := 0) (N := some 38) (v := ?_) (a' := ?_) #[true, false, false, false, false, false, false, false, false, false] rfl rfl (by kernel_rfl) (fun _ _ _ h => h) (Or.inl ⟨by rfl, ?_⟩) ?_ ?_
        rotate_left
        · intro w'
          go_simp
          with_reducible rfl
        rotate_left
        · simp only [Act.put, List.setIfInBounds_toArray, List.set_cons_zero, List.set_cons_succ, i64_w, i32_w]
          rfl
        refine pure_ (i := 1) (N := some 39) (v := ?_) (a' := ?_) #[true, true, false, false, false, false, false, false, false, false] rfl rfl (by kernel_rfl) (fun _ _ _ h => h) (Or.inl ⟨by rfl, ?_⟩) ?_ ?_
        rotate_left
        · intro w'
          go_simp
          with_reducible rfl
        rotate_left
        · simp only [Act.put, List.setIfInBounds_toArray, List.set_cons_zero, List.set_cons_succ, i64_w, i32_w]
          rfl
        refine pure_ (i := 2) (N := some 40) (v := ?_) (a' := ?_) #[true, true, true, false, false, false, false, false, false, false] rfl rfl (by kernel_rfl) (fun _ _ _ h => h) (Or.inl ⟨by rfl, ?_⟩) ?_ ?_
        rotate_left
        · intro w'
          go_simp
          with_reducible rfl
        rotate_left
        · simp only [Act.put, List.setIfInBounds_toArray, List.set_cons_zero, List.set_cons_succ, i64_w, i32_w]
          rfl
        refine pure_ (i := 3) (N := some 41) (v := ?_) (a' := ?_) #[true, true, true, true, false, false, false, false, false, false] rfl rfl (by kernel_rfl) (fun _ _ _ h => h) (Or.inl ⟨by rfl, ?_⟩) ?_ ?_
        rotate_left
        · intro w'
          go_simp
          with_reducible rfl
        rotate_left
        · simp only [Act.put, List.setIfInBounds_toArray, List.set_cons_zero, List.set_cons_succ, i64_w, i32_w]
          rfl
        refine pure_ (i := 4) (N := some 42) (v := ?_) (a' := ?_) #[true, true, true, true, true, false, false, false, false, false] rfl rfl (by kernel_rfl) (fun _ _ _ h => h) (Or.inl ⟨by rfl, ?_⟩) ?_ ?_
        rotate_left
        · intro w'
          go_simp
          with_reducible rfl
        rotate_left
        · simp only [Act.put, List.setIfInBounds_toArray, List.set_cons_zero, List.set_cons_succ, i64_w, i32_w]
          rfl
        refine pure_ (i := 5) (N := some 43) (v := ?_) (a' := ?_) #[true, true, true, true, true, true, false, false, false, false] rfl rfl (by kernel_rfl) (fun _ _ _ h => h) (Or.inl ⟨by rfl, ?_⟩) ?_ ?_
        rotate_left
        · intro w'
          go_simp
          with_reducible rfl
        rotate_left
        · simp only [Act.put, List.setIfInBounds_toArray, List.set_cons_zero, List.set_cons_succ, i64_w, i32_w]
          rfl
        refine pure_ (i := 6) (N := some 44) (v := ?_) (a' := ?_) #[true, true, true, true, true, true, true, false, false, false] rfl rfl (by kernel_rfl) (fun _ _ _ h => h) (Or.inl ⟨by rfl, ?_⟩) ?_ ?_
        rotate_left
        · intro w'
          go_simp
          with_reducible rfl
        rotate_left
        · simp only [Act.put, List.setIfInBounds_toArray, List.set_cons_zero, List.set_cons_succ, i64_w, i32_w]
          rfl
        refine one_ (i := 7) (N := some 45) #[true, true, true, true, true, true, true, true, false, false] rfl rfl (by kernel_rfl) (by decide) (fun K hK => ?_)
        refine step_copy_splice rfl (.tmp 41) (.tmp 44) 22 22 rfl 3 Try.underlying22 hsz.out (some ⟨w.heap.size, 2, none⟩) (some ⟨w.heap.size, 0, none⟩) 1 1 2 3 rfl rfl w.heap.size 2 [Value.int .i64 v, Value.int .i64 v, Value.int .i64 0] 3 ?g1 [Value.int .i64 v] rfl ?g2 (by simp) ?g3 w.heap.size w HB3.out (Nat.le_refl _) ?_
        case g1 => first | exact HG3.out | simpa using HG3.out
        case g2 =>
          refine fun _ => ⟨rfl, _, rfl, fun j u hu => ?_⟩
          rw [add_plain, blk_cell HG3.out]
          match j, hu with
          | 0, hu => exact hu
        case g3 => simp [Value.oneCell']
        intro w4 hg4 hb4
        have HG4 := Aside0.mk hg4.out
        have HB4 := Aside0.mk hb4
        clear hg4 hb4
        refine hK.out _ _ trivial (fun hHeld => ?_)
        clear hK K
        refine norm_ (a' := ?_) ?_ ?_
        rotate_left
        · show Act.put _ (some 45) _ = _
          simp only [Act.put, List.setIfInBounds_toArray, List.set_cons_zero, List.set_cons_succ, i64_w, i32_w]
          rfl
        refine pure_ (i := 8) (N := some 46) (v := ?_) (a' := ?_) #[true, true, true, true, true, true, true, true, true, false] rfl rfl (by kernel_rfl) (fun _ _ _ h => h) (Or.inl ⟨by rfl, ?_⟩) ?_ ?_
        rotate_left
        · intro w'
          go_simp
          with_reducible rfl
        rotate_left
        · simp only [Act.put, List.setIfInBounds_toArray, List.set_cons_zero, List.set_cons_succ, i64_w, i32_w]
          rfl
        refine pure_ (i := 9) (N := some 8) (v := ?_) (a' := ?_) #[true, true, true, true, true, true, true, true, true, true] rfl rfl (by kernel_rfl) (fun _ _ _ h => h) (Or.inl ⟨by rfl, ?_⟩) ?_ ?_
        rotate_left
        · intro w'
          go_simp
          with_reducible rfl
        rotate_left
        · simp only [Act.put, List.setIfInBounds_toArray, List.set_cons_zero, List.set_cons_succ, i64_w, i32_w]
          rfl
        refine done_ (by kernel_rfl) ?_
        try go_wp2
        go_roundg (3 - 3)
        case measure => have := HM.out; omega
        case rel => exact ⟨3, by first | rfl | (congr 1; unfold wrap64; omega), ⟨by omega, by omega, by omega⟩, ⟨HG4.out⟩, HB4⟩
      · go_wp2
        go_ret
        exact ⟨_, rfl, slices_Repeat_int_int.own HG.out (Nat.le_refl _) (by decide), HB.out⟩
  · have hmk : ∀ W : World, (Instr.makeSlice 22 (.int .i64 4) (.int .i64 4)).run Try.prog W = .ok (.slice (some ⟨W.heap.size, 0, none⟩) 4 4) (W.alloc (.cells #[Value.int .i64 0, Value.int .i64 0, Value.int .i64 0, Value.int .i64 0] 3)) := fun W => by
      have hz := print_make (P := Try.prog) 22 3 .i64 8 Try.underlying22 info3 (by decide) 4 (by decide) W
      rw [show madeCells #[Value.int .i64 0] 4 = #[Value.int .i64 0, Value.int .i64 0, Value.int .i64 0, Value.int .i64 0] from by kernel_rfl] at hz
      simpa using hz
    have hmul : bits_Mul.f 1 4 = some (0, 4) := by decide +kernel
    replace hmul := Aside0.mk hmul
    go_enter Try.func90, Try.ntmps90
    go_wp2_with (first | (go_at_call 130; (with_reducible refine (bits_Mul.calls 1 4 0 4 _ hmul.out).mono ?_); rintro e w1 ⟨rfl, ⟨nd, rfl⟩⟩) | (refine wpList_copy_splice rfl (.tmp 31) (.tmp 32) 22 22 rfl 3 Try.underlying22 hsz.out (some ⟨w.heap.size, 0, none⟩) (some ad) 4 4 1 c0 rfl rfl w.heap.size 0 [Value.int .i64 0, Value.int .i64 0, Value.int .i64 0, Value.int .i64 0] 3 ?g1 [.int .i64 v] rfl ?g2 (by simp) ?g3 w.heap.size w ?g4 (Nat.le_refl _) ?_; (case g1 => (have hz := blk_new (w.drewN nd) (Obj.cells #[Value.int .i64 0, Value.int .i64 0, Value.int .i64 0, Value.int .i64 0] 3); simpa using hz)); (case g2 => exact fun _ => ⟨rfl, ad, rfl, fun j u hu => by (obtain ⟨rfl, rfl⟩ : j = 0 ∧ Value.int .i64 v = u := by (match j, hu with | 0, hu => exact ⟨rfl, Option.some.inj hu⟩)); rw [Addr.add_zero']; exact (Below.cell (below_alloc (pw_below_drewN (Below.refl _ _) nd) _) (World.block_lt_of_cell? _ _ HX.out)).trans HX.out⟩); (case g3 => simp [Value.oneCell']); (case g4 => exact below_alloc (pw_below_drewN (Below.refl _ _) nd) _); intro w2 hg2 hb2; have HG := Aside0.mk hg2.out; have HB := Aside0.mk hb2; clear hg2 hb2))
    go_loopg [8] 3 (fun kq v8 wr => ∃ m : Int, v8 = .int .i64 m ∧ Aside0 (1 ≤ m ∧ m ≤ 4 ∧ kq = 4 - m.toNat) ∧ Aside0 (wr.heap[w.heap.size]? = some (.cells (List.replicate m.toNat (Value.int .i64 v) ++ List.replicate (4 - m.toNat) (Value.int .i64 0)).toArray 3 (0, 0))) ∧ Aside0 (Below w.heap.size w wr))
    case atStart => exact ⟨1, rfl, ⟨by omega, by omega, by omega⟩, ⟨HG.out⟩, HB⟩
    case round =>
      clear HG HB hmk hmul
      obtain ⟨m, rfl, HM, HG, HB⟩ := hrel
      have hm := HM.out
      have hm2 : m = 1 ∨ m = 2 ∨ m = 3 ∨ m = 4 := by omega
      clear hm
      rcases hm2 with rfl | rfl | rfl | rfl
      · go_wp2
        refine start_ (n := 10) (S := fun _ => True) (ds := []) #[false, false, false, false, false, false, false, false, false, false] (by kernel_rfl) rfl rfl trivial (fun hHeld => ?_)
        have HG3 := Aside0.mk (blk_drew HG.out)
        have HB3 := Aside0.mk (below_drew HB.out)
        clear HG HB
        generalize wr.drew = w3 at HG3 HB3 hHeld ⊢
        refine pure_ (i := 0) (N := some 38) (v := ?_) (a' := ?_) #[true, false, false, false, false, false, false, false, false, false] rfl rfl (by kernel_rfl) (fun _ _ _ h => h) (Or.inl ⟨by rfl, ?_⟩) ?_ ?_
        rotate_left
        · intro w'
          go_simp
          with_reducible rfl
        rotate_left
        · simp only [Act.put, List.setIfInBounds_toArray, List.set_cons_zero, List.set_cons_succ, i64_w, i32_w]
          rfl
        refine pure_ (i := 1) (N := some 39) (v := ?_) (a' := ?_) #[true, true, false, false, false, false, false, false, false, false] rfl rfl (by kernel_rfl) (fun _ _ _ h => h) (Or.inl ⟨by rfl, ?_⟩) ?_ ?_
        rotate_left
        · intro w'
          go_simp
          with_reducible rfl
        rotate_left
        · simp only [Act.put, List.setIfInBounds_toArray, List.set_cons_zero, List.set_cons_succ, i64_w, i32_w]
          rfl
        refine pure_ (i := 2) (N := some 40) (v := ?_) (a' := ?_) #[true, true, true, false, false, false, false, false, false, false] rfl rfl (by kernel_rfl) (fun _ _ _ h => h) (Or.inl ⟨by rfl, ?_⟩) ?_ ?_
        rotate_left
        · intro w'
          go_simp
          with_reducible rfl
        rotate_left
        · simp only [Act.put, List.setIfInBounds_toArray, List.set_cons_zero, List.set_cons_succ, i64_w, i32_w]
          rfl
        refine pure_ (i := 3) (N := some 41) (v := ?_) (a' := ?_) #[true, true, true, true, false, false, false, false, false, false] rfl rfl (by kernel_rfl) (fun _ _ _ h => h) (Or.inl ⟨by rfl, ?_⟩) ?_ ?_
        rotate_left
        · intro w'
          go_simp
          with_reducible rfl
        rotate_left
        · simp only [Act.put, List.setIfInBounds_toArray, List.set_cons_zero, List.set_cons_succ, i64_w, i32_w]
          rfl
        refine pure_ (i := 4) (N := some 42) (v := ?_) (a' := ?_) #[true, true, true, true, true, false, false, false, false, false] rfl rfl (by kernel_rfl) (fun _ _ _ h => h) (Or.inl ⟨by rfl, ?_⟩) ?_ ?_
        rotate_left
        · intro w'
          go_simp
          with_reducible rfl
        rotate_left
        · simp only [Act.put, List.setIfInBounds_toArray, List.set_cons_zero, List.set_cons_succ, i64_w, i32_w]
          rfl
        refine pure_ (i := 5) (N := some 43) (v := ?_) (a' := ?_) #[true, true, true, true, true, true, false, false, false, false] rfl rfl (by kernel_rfl) (fun _ _ _ h => h) (Or.inl ⟨by rfl, ?_⟩) ?_ ?_
        rotate_left
        · intro w'
          go_simp
          with_reducible rfl
        rotate_left
        · simp only [Act.put, List.setIfInBounds_toArray, List.set_cons_zero, List.set_cons_succ, i64_w, i32_w]
          rfl
        refine pure_ (i := 6) (N := some 44) (v := ?_) (a' := ?_) #[true, true, true, true, true, true, true, false, false, false] rfl rfl (by kernel_rfl) (fun _ _ _ h => h) (Or.inl ⟨by rfl, ?_⟩) ?_ ?_
        rotate_left
        · intro w'
          go_simp
          with_reducible rfl
        rotate_left
        · simp only [Act.put, List.setIfInBounds_toArray, List.set_cons_zero, List.set_cons_succ, i64_w, i32_w]
          rfl
        refine one_ (i := 7) (N := some 45) #[true, true, true, true, true, true, true, true, false, false] rfl rfl (by kernel_rfl) (by decide) (fun K hK => ?_)
        refine step_copy_splice rfl (.tmp 41) (.tmp 44) 22 22 rfl 3 Try.underlying22 hsz.out (some ⟨w.heap.size, 1, none⟩) (some ⟨w.heap.size, 0, none⟩) 3 3 1 4 rfl rfl w.heap.size 1 [Value.int .i64 v, Value.int .i64 0, Value.int .i64 0, Value.int .i64 0] 3 ?g1 [Value.int .i64 v] rfl ?g2 (by simp) ?g3 w.heap.size w HB3.out (Nat.le_refl _) ?_
        case g1 => first | exact HG3.out | simpa using HG3.out
        case g2 =>
          refine fun _ => ⟨rfl, _, rfl, fun j u hu => ?_⟩
          rw [add_plain, blk_cell HG3.out]
          match j, hu with
          | 0, hu => exact hu
        case g3 => simp [Value.oneCell']
        intro w4 hg4 hb4
        have HG4 := Aside0.mk hg4.out
        have HB4 := Aside0.mk hb4
        clear hg4 hb4
        refine hK.out _ _ trivial (fun hHeld => ?_)
        clear hK K
        refine norm_ (a' := ?_) ?_ ?_
        rotate_left
        · show Act.put _ (some 45) _ = _
          simp only [Act.put, List.setIfInBounds_toArray, List.set_cons_zero, List.set_cons_succ, i64_w, i32_w]
          rfl
        refine pure_ (i := 8) (N := some 46) (v := ?_) (a' := ?_) #[true, true, true, true, true, true, true, true, true, false] rfl rfl (by kernel_rfl) (fun _ _ _ h => h) (Or.inl ⟨by rfl, ?_⟩) ?_ ?_
        rotate_left
        · intro w'
          go_simp
          with_reducible rfl
        rotate_left
        · simp only [Act.put, List.setIfInBounds_toArray, List.set_cons_zero, List.set_cons_succ, i64_w, i32_w]
          rfl
        refine pure_ (i := 9) (N := some 8) (v := ?_) (a' := ?_) #[true, true, true, true, true, true, true, true, true, true] rfl rfl (by kernel_rfl) (fun _ _ _ h => h) (Or.inl ⟨by rfl, ?_⟩) ?_ ?_
        rotate_left
        · intro w'
          go_simp
          with_reducible rfl
        rotate_left
        · simp only [Act.put, List.setIfInBounds_toArray, List.set_cons_zero, List.set_cons_succ, i64_w, i32_w]
          rfl
        refine done_ (by kernel_rfl) ?_
        try go_wp2
        go_roundg (4 - 2)
        case measure => have := HM.out; omega
        case rel => exact ⟨2, by first | rfl | (congr 1; unfold wrap64; omega), ⟨by omega, by omega, by omega⟩, ⟨HG4.out⟩, HB4⟩
      · go_wp2
        refine start_ (n := 10) (S := fun _ => True) (ds := []) #[false, false, false, false, false, false, false, false, false, false] (by kernel_rfl) rfl rfl trivial (fun hHeld => ?_)
        have HG3 := Aside0.mk (blk_drew HG.out)
        have HB3 := Aside0.mk (below_drew HB.out)
        clear HG HB
        generalize wr.drew = w3 at HG3 HB3 hHeld ⊢
        refine pure_ (i := 0) (N := some 38) (v := ?_) (a' := ?_) #[true, false, false, false, false, false, false, false, false, false] rfl rfl (by kernel_rfl) (fun _ _ _ h => h) (Or.inl ⟨by rfl, ?_⟩) ?_ ?_
        rotate_left
        · intro w'
          go_simp
          with_reducible rfl
        rotate_left
        · simp only [Act.put, List.setIfInBounds_toArray, List.set_cons_zero, List.set_cons_succ, i64_w, i32_w]
          rfl
        refine pure_ (i := 1) (N := some 39) (v := ?_) (a' := ?_) #[true, true, false, false, false, false, false, false, false, false] rfl rfl (by kernel_rfl) (fun _ _ _ h => h) (Or.inl ⟨by rfl, ?_⟩) ?_ ?_
        rotate_left
        · intro w'
          go_simp
          with_reducible rfl
        rotate_left
        · simp only [Act.put, List.setIfInBounds_toArray, List.set_cons_zero, List.set_cons_succ, i64_w, i32_w]
          rfl
        refine pure_ (i := 2) (N := some 40) (v := ?_) (a' := ?_) #[true, true, true, false, false, false, false, false, false, false] rfl rfl (by kernel_rfl) (fun _ _ _ h => h) (Or.inl ⟨by rfl, ?_⟩) ?_ ?_
        rotate_left
        · intro w'
          go_simp
          with_reducible rfl
        rotate_left
        · simp only [Act.put, List.setIfInBounds_toArray, List.set_cons_zero, List.set_cons_succ, i64_w, i32_w]
          rfl
        refine pure_ (i := 3) (N := some 41) (v := ?_) (a' := ?_) #[true, true, true, true, false, false, false, false, false, false] rfl rfl (by kernel_rfl) (fun _ _ _ h => h) (Or.inl ⟨by rfl, ?_⟩) ?_ ?_
        rotate_left
        · intro w'
          go_simp
          with_reducible rfl
        rotate_left
        · simp only [Act.put, List.setIfInBounds_toArray, List.set_cons_zero, List.set_cons_succ, i64_w, i32_w]
          rfl
        refine pure_ (i := 4) (N := some 42) (v := ?_) (a' := ?_) #[true, true, true, true, true, false, false, false, false, false] rfl rfl (by kernel_rfl) (fun _ _ _ h => h) (Or.inl ⟨by rfl, ?_⟩) ?_ ?_
        rotate_left
        · intro w'
          go_simp
          with_reducible rfl
        rotate_left
        · simp only [Act.put, List.setIfInBounds_toArray, List.set_cons_zero, List.set_cons_succ, i64_w, i32_w]
          rfl
        refine pure_ (i := 5) (N := some 43) (v := ?_) (a' := ?_) #[true, true, true, true, true, true, false, false, false, false] rfl rfl (by kernel_rfl) (fun _ _ _ h => h) (Or.inl ⟨by rfl, ?_⟩) ?_ ?_
        rotate_left
        · intro w'
          go_simp
          with_reducible rfl
        rotate_left
        · simp only [Act.put, List.setIfInBounds_toArray, List.set_cons_zero, List.set_cons_succ, i64_w, i32_w]
          rfl
        refine pure_ (i := 6) (N := some 44) (v := ?_) (a' := ?_) #[true, true, true, true, true, true, true, false, false, false] rfl rfl (by kernel_rfl) (fun _ _ _ h => h) (Or.inl ⟨by rfl, ?_⟩) ?_ ?_
        rotate_left
        · intro w'
          go_simp
          with_reducible rfl
        rotate_left
        · simp only [Act.put, List.setIfInBounds_toArray, List.set_cons_zero, List.set_cons_succ, i64_w, i32_w]
          rfl
        refine one_ (i := 7) (N := some 45) #[true, true, true, true, true, true, true, true, false, false] rfl rfl (by kernel_rfl) (by decide) (fun K hK => ?_)
        refine step_copy_splice rfl (.tmp 41) (.tmp 44) 22 22 rfl 3 Try.underlying22 hsz.out (some ⟨w.heap.size, 2, none⟩) (some ⟨w.heap.size, 0, none⟩) 2 2 2 4 rfl rfl w.heap.size 2 [Value.int .i64 v, Value.int .i64 v, Value.int .i64 0, Value.int .i64 0] 3 ?g1 [Value.int .i64 v, Value.int .i64 v] rfl ?g2 (by simp) ?g3 w.heap.size w HB3.out (Nat.le_refl _) ?_
        case g1 => first | exact HG3.out | simpa using HG3.out
        case g2 =>
          refine fun _ => ⟨rfl, _, rfl, fun j u hu => ?_⟩
          rw [add_plain, blk_cell HG3.out]
          match j, hu with
          | 0, hu => exact hu
          | 1, hu => exact hu
        case g3 => simp [Value.oneCell']
        intro w4 hg4 hb4
        have HG4 := Aside0.mk hg4.out
        have HB4 := Aside0.mk hb4
        clear hg4 hb4
        refine hK.out _ _ trivial (fun hHeld => ?_)
        clear hK K
        refine norm_ (a' := ?_) ?_ ?_
        rotate_left
        · show Act.put _ (some 45) _ = _
          simp only [Act.put, List.setIfInBounds_toArray, List.set_cons_zero, List.set_cons_succ, i64_w, i32_w]
          rfl
        refine pure_ (i := 8) (N := some 46) (v := ?_) (a' := ?_) #[true, true, true, true, true, true, true, true, true, false] rfl rfl (by kernel_rfl) (fun _ _ _ h => h) (Or.inl ⟨by rfl, ?_⟩) ?_ ?_
        rotate_left
        · intro w'
          go_simp
          with_reducible rfl
        rotate_left
        · simp only [Act.put, List.setIfInBounds_toArray, List.set_cons_zero, List.set_cons_succ, i64_w, i32_w]
          rfl
        refine pure_ (i := 9) (N := some 8) (v := ?_) (a' := ?_) #[true, true, true, true, true, true, true, true, true, true] rfl rfl (by kernel_rfl) (fun _ _ _ h => h) (Or.inl ⟨by rfl, ?_⟩) ?_ ?_
        rotate_left
        · intro w'
          go_simp
          with_reducible rfl
        rotate_left
        · simp only [Act.put, List.setIfInBounds_toArray, List.set_cons_zero, List.set_cons_succ, i64_w, i32_w]
          rfl
        refine done_ (by kernel_rfl) ?_
        try go_wp2
        go_roundg (4 - 4)
        case measure => have := HM.out; omega
        case rel => exact ⟨4, by first | rfl | (congr 1; unfold wrap64; omega), ⟨by omega, by omega, by omega⟩, ⟨HG4.out⟩, HB4⟩
      · go_wp2
        refine start_ (n := 10) (S := fun _ => True) (ds := []) #[false, false, false, false, false, false, false, false, false, false] (by kernel_rfl) rfl rfl trivial (fun hHeld => ?_)
        have HG3 := Aside0.mk (blk_drew HG.out)
        have HB3 := Aside0.mk (below_drew HB.out)
        clear HG HB
        generalize wr.drew = w3 at HG3 HB3 hHeld ⊢
        refine pure_ (i := 0) (N := some 38) (v := ?_) (a' := ?_) #[true, false, false, false, false, false, false, false, false, false] rfl rfl (by kernel_rfl) (fun _ _ _ h => h) (Or.inl ⟨by rfl, ?_⟩) ?_ ?_
        rotate_left
        · intro w'
          go_simp
          with_reducible rfl
        rotate_left
        · simp only [Act.put, List.setIfInBounds_toArray, List.set_cons_zero, List.set_cons_succ, i64_w, i32_w]
          rfl
        refine pure_ (i := 1) (N := some 39) (v := ?_) (a' := ?_) #[true, true, false, false, false, false, false, false, false, false] rfl rfl (by kernel_rfl) (fun _ _ _ h => h) (Or.inl ⟨by rfl, ?_⟩) ?_ ?_
        rotate_left
        · intro w'
          go_simp
          with_reducible rfl
        rotate_left
        · simp only [Act.put, List.setIfInBounds_toArray, List.set_cons_zero, List.set_cons_succ, i64_w, i32_w]
          rfl
        refine pure_ (i := 2) (N := some 40) (v := ?_) (a' := ?_) #[true, true, true, false, false, false, false, false, false, false] rfl rfl (by kernel_rfl) (fun _ _ _ h => h) (Or.inl ⟨by rfl, ?_⟩) ?_ ?_
        rotate_left
        · intro w'
          go_simp
          with_reducible rfl
        rotate_left
        · simp only [Act.put, List.setIfInBounds_toArray, List.set_cons_zero, List.set_cons_succ, i64_w, i32_w]
          rfl
        refine pure_ (i := 3) (N := some 41) (v := ?_) (a' := ?_) #[true, true, true, true, false, false, false, false, false, false] rfl rfl (by kernel_rfl) (fun _ _ _ h => h) (Or.inl ⟨by rfl, ?_⟩) ?_ ?_
        rotate_left
        · intro w'
          go_simp
          with_reducible rfl
        rotate_left
        · simp only [Act.put, List.setIfInBounds_toArray, List.set_cons_zero, List.set_cons_succ, i64_w, i32_w]
          rfl
        refine pure_ (i := 4) (N := some 42) (v := ?_) (a' := ?_) #[true, true, true, true, true, false, false, false, false, false] rfl rfl (by kernel_rfl) (fun _ _ _ h => h) (Or.inl ⟨by rfl, ?_⟩) ?_ ?_
        rotate_left
        · intro w'
          go_simp
          with_reducible rfl
        rotate_left
        · simp only [Act.put, List.setIfInBounds_toArray, List.set_cons_zero, List.set_cons_succ, i64_w, i32_w]
          rfl
        refine pure_ (i := 5) (N := some 43) (v := ?_) (a' := ?_) #[true, true, true, true, true, true, false, false, false, false] rfl rfl (by kernel_rfl) (fun _ _ _ h => h) (Or.inl ⟨by rfl, ?_⟩) ?_ ?_
        rotate_left
        · intro w'
          go_simp
          with_reducible rfl
        rotate_left
        · simp only [Act.put, List.setIfInBounds_toArray, List.set_cons_zero, List.set_cons_succ, i64_w, i32_w]
          rfl
        refine pure_ (i := 6) (N := some 44) (v := ?_) (a' := ?_) #[true, true, true, true, true, true, true, false, false, false] rfl rfl (by kernel_rfl) (fun _ _ _ h => h) (Or.inl ⟨by rfl, ?_⟩) ?_ ?_
        rotate_left
        · intro w'
          go_simp
          with_reducible rfl
        rotate_left
        · simp only [Act.put, List.setIfInBounds_toArray, List.set_cons_zero, List.set_cons_succ, i64_w, i32_w]
          rfl
        refine one_ (i := 7) (N := some 45) #[true, true, true, true, true, true, true, true, false, false] rfl rfl (by kernel_rfl) (by decide) (fun K hK => ?_)
        refine step_copy_splice rfl (.tmp 41) (.tmp 44) 22 22 rfl 3 Try.underlying22 hsz.out (some ⟨w.heap.size, 3, none⟩) (some ⟨w.heap.size, 0, none⟩) 1 1 3 4 rfl rfl w.heap.size 3 [Value.int .i64 v, Value.int .i64 v, Value.int .i64 v, Value.int .i64 0] 3 ?g1 [Value.int .i64 v] rfl ?g2 (by simp) ?g3 w.heap.size w HB3.out (Nat.le_refl _) ?_
        case g1 => first | exact HG3.out | simpa using HG3.out
        case g2 =>
          refine fun _ => ⟨rfl, _, rfl, fun j u hu => ?_⟩
          rw [add_plain, blk_cell HG3.out]
          match j, hu with
          | 0, hu => exact hu
        case g3 => simp [Value.oneCell']
        intro w4 hg4 hb4
        have HG4 := Aside0.mk hg4.out
        have HB4 := Aside0.mk hb4
        clear hg4 hb4
        refine hK.out _ _ trivial (fun hHeld => ?_)
        clear hK K
        refine norm_ (a' := ?_) ?_ ?_
        rotate_left
        · show Act.put _ (some 45) _ = _
          simp only [Act.put, List.setIfInBounds_toArray, List.set_cons_zero, List.set_cons_succ, i64_w, i32_w]
          rfl
        refine pure_ (i := 8) (N := some 46) (v := ?_) (a' := ?_) #[true, true, true, true, true, true, true, true, true, false] rfl rfl (by kernel_rfl) (fun _ _ _ h => h) (Or.inl ⟨by rfl, ?_⟩) ?_ ?_
        rotate_left
        · intro w'
          go_simp
          with_reducible rfl
        rotate_left
        · simp only [Act.put, List.setIfInBounds_toArray, List.set_cons_zero, List.set_cons_succ, i64_w, i32_w]
          rfl
        refine pure_ (i := 9) (N := some 8) (v := ?_) (a' := ?_) #[true, true, true, true, true, true, true, true, true, true] rfl rfl (by kernel_rfl) (fun _ _ _ h => h) (Or.inl ⟨by rfl, ?_⟩) ?_ ?_
        rotate_left
        · intro w'
          go_simp
          with_reducible rfl
        rotate_left
        · simp only [Act.put, List.setIfInBounds_toArray, List.set_cons_zero, List.set_cons_succ, i64_w, i32_w]
          rfl
        refine done_ (by kernel_rfl) ?_
        try go_wp2
        go_roundg (4 - 4)
        case measure => have := HM.out; omega
        case rel => exact ⟨4, by first | rfl | (congr 1; unfold wrap64; omega), ⟨by omega, by omega, by omega⟩, ⟨HG4.out⟩, HB4⟩
      · go_wp2
        go_ret
        exact ⟨_, rfl, slices_Repeat_int_int.own HG.out (Nat.le_refl _) (by decide), HB.out⟩
  · have hmk : ∀ W : World, (Instr.makeSlice 22 (.int .i64 5) (.int .i64 5)).run Try.prog W = .ok (.slice (some ⟨W.heap.size, 0, none⟩) 5 5) (W.alloc (.cells #[Value.int .i64 0, Value.int .i64 0, Value.int .i64 0, Value.int .i64 0, Value.int .i64 0] 3)) := fun W => by
      have hz := print_make (P := Try.prog) 22 3 .i64 8 Try.underlying22 info3 (by decide) 5 (by decide) W
      rw [show madeCells #[Value.int .i64 0] 5 = #[Value.int .i64 0, Value.int .i64 0, Value.int .i64 0, Value.int .i64 0, Value.int .i64 0] from by kernel_rfl] at hz
      simpa using hz
    have hmul : bits_Mul.f 1 5 = some (0, 5) := by decide +kernel
    replace hmul := Aside0.mk hmul
    go_enter Try.func90, Try.ntmps90
    go_wp2_with (first | (go_at_call 130; (with_reducible refine (bits_Mul.calls 1 5 0 5 _ hmul.out).mono ?_); rintro e w1 ⟨rfl, ⟨nd, rfl⟩⟩) | (refine wpList_copy_splice rfl (.tmp 31) (.tmp 32) 22 22 rfl 3 Try.underlying22 hsz.out (some ⟨w.heap.size, 0, none⟩) (some ad) 5 5 1 c0 rfl rfl w.heap.size 0 [Value.int .i64 0, Value.int .i64 0, Value.int .i64 0, Value.int .i64 0, Value.int .i64 0] 3 ?g1 [.int .i64 v] rfl ?g2 (by simp) ?g3 w.heap.size w ?g4 (Nat.le_refl _) ?_; (case g1 => (have hz := blk_new (w.drewN nd) (Obj.cells #[Value.int .i64 0, Value.int .i64 0, Value.int .i64 0, Value.int .i64 0, Value.int .i64 0] 3); simpa using hz)); (case g2 => exact fun _ => ⟨rfl, ad, rfl, fun j u hu => by (obtain ⟨rfl, rfl⟩ : j = 0 ∧ Value.int .i64 v = u := by (match j, hu with | 0, hu => exact ⟨rfl, Option.some.inj hu⟩)); rw [Addr.add_zero']; exact (Below.cell (below_alloc (pw_below_drewN (Below.refl _ _) nd) _) (World.block_lt_of_cell? _ _ HX.out)).trans HX.out⟩); (case g3 => simp [Value.oneCell']); (case g4 => exact below_alloc (pw_below_drewN (Below.refl _ _) nd) _); intro w2 hg2 hb2; have HG := Aside0.mk hg2.out; have HB := Aside0.mk hb2; clear hg2 hb2))
    go_loopg [8] 4 (fun kq v8 wr => ∃ m : Int, v8 = .int .i64 m ∧ Aside0 (1 ≤ m ∧ m ≤ 5 ∧ kq = 5 - m.toNat) ∧ Aside0 (wr.heap[w.heap.size]? = some (.cells (List.replicate m.toNat (Value.int .i64 v) ++ List.replicate (5 - m.toNat) (Value.int .i64 0)).toArray 3 (0, 0))) ∧ Aside0 (Below w.heap.size w wr))
    case atStart => exact ⟨1, rfl, ⟨by omega, by omega, by omega⟩, ⟨HG.out⟩, HB⟩
    case round =>
      clear HG HB hmk hmul
      obtain ⟨m, rfl, HM, HG, HB⟩ := hrel
      have hm := HM.out
      have hm2 : m = 1 ∨ m = 2 ∨ m = 3 ∨ m = 4 ∨ m = 5 := by omega
      clear hm
      rcases hm2 with rfl | rfl | rfl | rfl | rfl
      · go_wp2
        refine start_ (n := 10) (S := fun _ => True) (ds := []) #[false, false, false, false, false, false, false, false, false, false] (by kernel_rfl) rfl rfl trivial (fun hHeld => ?_)
        have HG3 := Aside0.mk (blk_drew HG.out)
        have HB3 := Aside0.mk (below_drew HB.out)
        clear HG HB
        generalize wr.drew = w3 at HG3 HB3 hHeld ⊢
        refine pure_ (i := 0) (N := some 38) (v := ?_) (a' := ?_) #[true, false, false, false, false, false, false, false, false, false] rfl rfl (by kernel_rfl) (fun _ _ _ h => h) (Or.inl ⟨by rfl, ?_⟩) ?_ ?_
        rotate_left
        · intro w'
          go_simp
          with_reducible rfl
        rotate_left
        · simp only [Act.put, List.setIfInBounds_toArray, List.set_cons_zero, List.set_cons_succ, i64_w, i32_w]
          rfl
        refine pure_ (i := 1) (N := some 39) (v := ?_) (a' := ?_) #[true, true, false, false, false, false, false, false, false, false] rfl rfl (by kernel_rfl) (fun _ _ _ h => h) (Or.inl ⟨by rfl, ?_⟩) ?_ ?_
        rotate_left
        · intro w'
          go_simp
          with_reducible rfl
        rotate_left
        · simp only [Act.put, List.setIfInBounds_toArray, List.set_cons_zero, List.set_cons_succ, i64_w, i32_w]
          rfl
        refine pure_ (i := 2) (N := some 40) (v := ?_) (a' := ?_) #[true, true, true, false, false, false, false, false, false, false] rfl rfl (by kernel_rfl) (fun _ _ _ h => h) (Or.inl ⟨by rfl, ?_⟩) ?_ ?_
        rotate_left
        · intro w'
          go_simp
          with_reducible rfl
        rotate_left
        · simp only [Act.put, List.setIfInBounds_toArray, List.set_cons_zero, List.set_cons_succ, i64_w, i32_w]
          rfl
        refine pure_ (i := 3) (N := some 41) (v := ?_) (a' := ?_) #[true, true, true, true, false, false, false, false, false, false] rfl rfl (by kernel_rfl) (fun _ _ _ h => h) (Or.inl ⟨by rfl, ?_⟩) ?_ ?_
        rotate_left
        · intro w'
          go_simp
          with_reducible rfl
        rotate_left
        · simp only [Act.put, List.setIfInBounds_toArray, List.set_cons_zero, List.set_cons_succ, i64_w, i32_w]
          rfl
        refine pure_ (i := 4) (N := some 42) (v := ?_) (a' := ?_) #[true, true, true, true, true, false, false, false, false, false] rfl rfl (by kernel_rfl) (fun _ _ _ h => h) (Or.inl ⟨by rfl, ?_⟩) ?_ ?_
        rotate_left
        · intro w'
          go_simp
          with_reducible rfl
        rotate_left
        · simp only [Act.put, List.setIfInBounds_toArray, List.set_cons_zero, List.set_cons_succ, i64_w, i32_w]
          rfl
        refine pure_ (i := 5) (N := some 43) (v := ?_) (a' := ?_) #[true, true, true, true, true, true, false, false, false, false] rfl rfl (by kernel_rfl) (fun _ _ _ h => h) (Or.inl ⟨by rfl, ?_⟩) ?_ ?_
        rotate_left
        · intro w'
          go_simp
          with_reducible rfl
        rotate_left
        · simp only [Act.put, List.setIfInBounds_toArray, List.set_cons_zero, List.set_cons_succ, i64_w, i32_w]
          rfl
        refine pure_ (i := 6) (N := some 44) (v := ?_) (a' := ?_) #[true, true, true, true, true, true, true, false, false, false] rfl rfl (by kernel_rfl) (fun _ _ _ h => h) (Or.inl ⟨by rfl, ?_⟩) ?_ ?_
        rotate_left
        · intro w'
          go_simp
          with_reducible rfl
        rotate_left
        · simp only [Act.put, List.setIfInBounds_toArray, List.set_cons_zero, List.set_cons_succ, i64_w, i32_w]
          rfl
        refine one_ (i := 7) (N := some 45) #[true, true, true, true, true, true, true, true, false, false] rfl rfl (by kernel_rfl) (by decide) (fun K hK => ?_)
        refine step_copy_splice rfl (.tmp 41) (.tmp 44) 22 22 rfl 3 Try.underlying22 hsz.out (some ⟨w.heap.size, 1, none⟩) (some ⟨w.heap.size, 0, none⟩) 4 4 1 5 rfl rfl w.heap.size 1 [Value.int .i64 v, Value.int .i64 0, Value.int .i64 0, Value.int .i64 0, Value.int .i64 0] 3 ?g1 [Value.int .i64 v] rfl ?g2 (by simp) ?g3 w.heap.size w HB3.out (Nat.le_refl _) ?_
        case g1 => first | exact HG3.out | simpa using HG3.out
        case g2 =>
          refine fun _ => ⟨rfl, _, rfl, fun j u hu => ?_⟩
          rw [add_plain, blk_cell HG3.out]
          match j, hu with
          | 0, hu => exact hu
        case g3 => simp [Value.oneCell']
        intro w4 hg4 hb4
        have HG4 := Aside0.mk hg4.out
        have HB4 := Aside0.mk hb4
        clear hg4 hb4
        refine hK.out _ _ trivial (fun hHeld => ?_)
        clear hK K
        refine norm_ (a' := ?_) ?_ ?_
        rotate_left
        · show Act.put _ (some 45) _ = _
          simp only [Act.put, List.setIfInBounds_toArray, List.set_cons_zero, List.set_cons_succ, i64_w, i32_w]
          rfl
        refine pure_ (i := 8) (N := some 46) (v := ?_) (a' := ?_) #[true, true, true, true, true, true, true, true, true, false] rfl rfl (by kernel_rfl) (fun _ _ _ h => h) (Or.inl ⟨by rfl, ?_⟩) ?_ ?_
        rotate_left
        · intro w'
          go_simp
          with_reducible rfl
        rotate_left
        · simp only [Act.put, List.setIfInBounds_toArray, List.set_cons_zero, List.set_cons_succ, i64_w, i32_w]
          rfl
        refine pure_ (i := 9) (N := some 8) (v := ?_) (a' := ?_) #[true, true, true, true, true, true, true, true, true, true] rfl rfl (by kernel_rfl) (fun _ _ _ h => h) (Or.inl ⟨by rfl, ?_⟩) ?_ ?_
        rotate_left
        · intro w'
          go_simp
          with_reducible rfl
        rotate_left
        · simp only [Act.put, List.setIfInBounds_toArray, List.set_cons_zero, List.set_cons_succ, i64_w, i32_w]
          rfl
        refine done_ (by kernel_rfl) ?_
        try go_wp2
        go_roundg (5 - 2)
        case measure => have := HM.out; omega
        case rel => exact ⟨2, by first | rfl | (congr 1; unfold wrap64; omega), ⟨by omega, by omega, by omega⟩, ⟨HG4.out⟩, HB4⟩
      · go_wp2
        refine start_ (n := 10) (S := fun _ => True) (ds := []) #[false, false, false, false, false, false, false, false, false, false] (by kernel_rfl) rfl rfl trivial (fun hHeld => ?_)
        have HG3 := Aside0.mk (blk_drew HG.out)
        have HB3 := Aside0.mk (below_drew HB.out)
        clear HG HB
        generalize wr.drew = w3 at HG3 HB3 hHeld ⊢
        refine pure_ (i := 0) (N := some 38) (v := ?_) (a' := ?_) #[true, false, false, false, false, false, false, false, false, false] rfl rfl (by kernel_rfl) (fun _ _ _ h => h) (Or.inl ⟨by rfl, ?_⟩) ?_ ?_
        rotate_left
        · intro w'
          go_simp
          with_reducible rfl
        rotate_left
        · simp only [Act.put, List.setIfInBounds_toArray, List.set_cons_zero, List.set_cons_succ, i64_w, i32_w]
          rfl
        refine pure_ (i := 1) (N := some 39) (v := ?_) (a' := ?_) #[true, true, false, false, false, false, false, false, false, false] rfl rfl (by kernel_rfl) (fun _ _ _ h => h) (Or.inl ⟨by rfl, ?_⟩) ?_ ?_
        rotate_left
        · intro w'
          go_simp
          with_reducible rfl
        rotate_left
        · simp only [Act.put, List.setIfInBounds_toArray, List.set_cons_zero, List.set_cons_succ, i64_w, i32_w]
          rfl
        refine pure_ (i := 2) (N := some 40) (v := ?_) (a' := ?_) #[true, true, true, false, false, false, false, false, false, false] rfl rfl (by kernel_rfl) (fun _ _ _ h => h) (Or.inl ⟨by rfl, ?_⟩) ?_ ?_
        rotate_left
        · intro w'
          go_simp
          with_reducible rfl
        rotate_left
        · simp only [Act.put, List.setIfInBounds_toArray, List.set_cons_zero, List.set_cons_succ, i64_w, i32_w]
          rfl
        refine pure_ (i := 3) (N := some 41) (v := ?_) (a' := ?_) #[true, true, true, true, false, false, false, false, false, false] rfl rfl (by kernel_rfl) (fun _ _ _ h => h) (Or.inl ⟨by rfl, ?_⟩) ?_ ?_
        rotate_left
        · intro w'
          go_simp
          with_reducible rfl
        rotate_left
        · simp only [Act.put, List.setIfInBounds_toArray, List.set_cons_zero, List.set_cons_succ, i64_w, i32_w]
          rfl
        refine pure_ (i := 4) (N := some 42) (v := ?_) (a' := ?_) #[true, true, true, true, true, false, false, false, false, false] rfl rfl (by kernel_rfl) (fun _ _ _ h => h) (Or.inl ⟨by rfl, ?_⟩) ?_ ?_
        rotate_left
        · intro w'
          go_simp
          with_reducible rfl
        rotate_left
        · simp only [Act.put, List.setIfInBounds_toArray, List.set_cons_zero, List.set_cons_succ, i64_w, i32_w]
          rfl
        refine pure_ (i := 5) (N := some 43) (v := ?_) (a' := ?_) #[true, true, true, true, true, true, false, false, false, false] rfl rfl (by kernel_rfl) (fun _ _ _ h => h) (Or.inl ⟨by rfl, ?_⟩) ?_ ?_
        rotate_left
        · intro w'
          go_simp
          with_reducible rfl
        rotate_left
        · simp only [Act.put, List.setIfInBounds_toArray, List.set_cons_zero, List.set_cons_succ, i64_w, i32_w]
          rfl
        refine pure_ (i := 6) (N := some 44) (v := ?_) (a' := ?_) #[true, true, true, true, true, true, true, false, false, false] rfl rfl (by kernel_rfl) (fun _ _ _ h => h) (Or.inl ⟨by rfl, ?_⟩) ?_ ?_
        rotate_left
        · intro w'
          go_simp
          with_reducible rfl
        rotate_left
        · simp only [Act.put, List.setIfInBounds_toArray, List.set_cons_zero, List.set_cons_succ, i64_w, i32_w]
          rfl
        refine one_ (i := 7) (N := some 45) #[true, true, true, true, true, true, true, true, false, false] rfl rfl (by kernel_rfl) (by decide) (fun K hK => ?_)
        refine step_copy_splice rfl (.tmp 41) (.tmp 44) 22 22 rfl 3 Try.underlying22 hsz.out (some ⟨w.heap.size, 2, none⟩) (some ⟨w.heap.size, 0, none⟩) 3 3 2 5 rfl rfl w.heap.size 2 [Value.int .i64 v, Value.int .i64 v, Value.int .i64 0, Value.int .i64 0, Value.int .i64 0] 3 ?g1 [Value.int .i64 v, Value.int .i64 v] rfl ?g2 (by simp) ?g3 w.heap.size w HB3.out (Nat.le_refl _) ?_
        case g1 => first | exact HG3.out | simpa using HG3.out
        case g2 =>
          refine fun _ => ⟨rfl, _, rfl, fun j u hu => ?_⟩
          rw [add_plain, blk_cell HG3.out]
          match j, hu with
          | 0, hu => exact hu
          | 1, hu => exact hu
        case g3 => simp [Value.oneCell']
        intro w4 hg4 hb4
        have HG4 := Aside0.mk hg4.out
        have HB4 := Aside0.mk hb4
        clear hg4 hb4
        refine hK.out _ _ trivial (fun hHeld => ?_)
        clear hK K
        refine norm_ (a' := ?_) ?_ ?_
        rotate_left
        · show Act.put _ (some 45) _ = _
          simp only [Act.put, List.setIfInBounds_toArray, List.set_cons_zero, List.set_cons_succ, i64_w, i32_w]
          rfl
        refine pure_ (i := 8) (N := some 46) (v := ?_) (a' := ?_) #[true, true, true, true, true, true, true, true, true, false] rfl rfl (by kernel_rfl) (fun _ _ _ h => h) (Or.inl ⟨by rfl, ?_⟩) ?_ ?_
        rotate_left
        · intro w'
          go_simp
          with_reducible rfl
        rotate_left
        · simp only [Act.put, List.setIfInBounds_toArray, List.set_cons_zero, List.set_cons_succ, i64_w, i32_w]
          rfl
        refine pure_ (i := 9) (N := some 8) (v := ?_) (a' := ?_) #[true, true, true, true, true, true, true, true, true, true] rfl rfl (by kernel_rfl) (fun _ _ _ h => h) (Or.inl ⟨by rfl, ?_⟩) ?_ ?_
        rotate_left
        · intro w'
          go_simp
          with_reducible rfl
        rotate_left
        · simp only [Act.put, List.setIfInBounds_toArray, List.set_cons_zero, List.set_cons_succ, i64_w, i32_w]
          rfl
        refine done_ (by kernel_rfl) ?_
        try go_wp2
        go_roundg (5 - 4)
        case measure => have := HM.out; omega
        case rel => exact ⟨4, by first | rfl | (congr 1; unfold wrap64; omega), ⟨by omega, by omega, by omega⟩, ⟨HG4.out⟩, HB4⟩
      · go_wp2
        refine start_ (n := 10) (S := fun _ => True) (ds := []) #[false, false, false, false, false, false, false, false, false, false] (by kernel_rfl) rfl rfl trivial (fun hHeld => ?_)
        have HG3 := Aside0.mk (blk_drew HG.out)
        have HB3 := Aside0.mk (below_drew HB.out)
        clear HG HB
        generalize wr.drew = w3 at HG3 HB3 hHeld ⊢
        refine pure_ (i := 0) (N := some 38) (v := ?_) (a' := ?_) #[true, false, false, false, false, false, false, false, false, false] rfl rfl (by kernel_rfl) (fun _ _ _ h => h) (Or.inl ⟨by rfl, ?_⟩) ?_ ?_
        rotate_left
        · intro w'
          go_simp
          with_reducible rfl
        rotate_left
        · simp only [Act.put, List.setIfInBounds_toArray, List.set_cons_zero, List.set_cons_succ, i64_w, i32_w]
          rfl
        refine pure_ (i := 1) (N := some 39) (v := ?_) (a' := ?_) #[true, true, false, false, false, false, false, false, false, false] rfl rfl (by kernel_rfl) (fun _ _ _ h => h) (Or.inl ⟨by rfl, ?_⟩) ?_ ?_
        rotate_left
        · intro w'
          go_simp
          with_reducible rfl
        rotate_left
        · simp only [Act.put, List.setIfInBounds_toArray, List.set_cons_zero, List.set_cons_succ, i64_w, i32_w]
          rfl
        refine pure_ (i := 2) (N := some 40) (v := ?_) (a' := ?_) #[true, true, true, false, false, false, false, false, false, false] rfl rfl (by kernel_rfl) (fun _ _ _ h => h) (Or.inl ⟨by rfl, ?_⟩) ?_ ?_
        rotate_left
        · intro w'
          go_simp
          with_reducible rfl
        rotate_left
        · simp only [Act.put, List.setIfInBounds_toArray, List.set_cons_zero, List.set_cons_succ, i64_w, i32_w]
          rfl
        refine pure_ (i := 3) (N := some 41) (v := ?_) (a' := ?_) #[true, true, true, true, false, false, false, false, false, false] rfl rfl (by kernel_rfl) (fun _ _ _ h => h) (Or.inl ⟨by rfl, ?_⟩) ?_ ?_
        rotate_left
        · intro w'
          go_simp
          with_reducible rfl
        rotate_left
        · simp only [Act.put, List.setIfInBounds_toArray, List.set_cons_zero, List.set_cons_succ, i64_w, i32_w]
          rfl
        refine pure_ (i := 4) (N := some 42) (v := ?_) (a' := ?_) #[true, true, true, true, true, false, false, false, false, false] rfl rfl (by kernel_rfl) (fun _ _ _ h => h) (Or.inl ⟨by rfl, ?_⟩) ?_ ?_
        rotate_left
        · intro w'
          go_simp
          with_reducible rfl
        rotate_left
        · simp only [Act.put, List.setIfInBounds_toArray, List.set_cons_zero, List.set_cons_succ, i64_w, i32_w]
          rfl
        refine pure_ (i := 5) (N := some 43) (v := ?_) (a' := ?_) #[true, true, true, true, true, true, false, false, false, false] rfl rfl (by kernel_rfl) (fun _ _ _ h => h) (Or.inl ⟨by rfl, ?_⟩) ?_ ?_
        rotate_left
        · intro w'
          go_simp
          with_reducible rfl
        rotate_left
        · simp only [Act.put, List.setIfInBounds_toArray, List.set_cons_zero, List.set_cons_succ, i64_w, i32_w]
          rfl
        refine pure_ (i := 6) (N := some 44) (v := ?_) (a' := ?_) #[true, true, true, true, true, true, true, false, false, false] rfl rfl (by kernel_rfl) (fun _ _ _ h => h) (Or.inl ⟨by rfl, ?_⟩) ?_ ?_
        rotate_left
        · intro w'
          go_simp
          with_reducible rfl
        rotate_left
        · simp only [Act.put, List.setIfInBounds_toArray, List.set_cons_zero, List.set_cons_succ, i64_w, i32_w]
          rfl
        refine one_ (i := 7) (N := some 45) #[true, true, true, true, true, true, true, true, false, false] rfl rfl (by kernel_rfl) (by decide) (fun K hK => ?_)
        refine step_copy_splice rfl (.tmp 41) (.tmp 44) 22 22 rfl 3 Try.underlying22 hsz.out (some ⟨w.heap.size, 3, none⟩) (some ⟨w.heap.size, 0, none⟩) 2 2 3 5 rfl rfl w.heap.size 3 [Value.int .i64 v, Value.int .i64 v, Value.int .i64 v, Value.int .i64 0, Value.int .i64 0] 3 ?g1 [Value.int .i64 v, Value.int .i64 v] rfl ?g2 (by simp) ?g3 w.heap.size w HB3.out (Nat.le_refl _) ?_
        case g1 => first | exact HG3.out | simpa using HG3.out
        case g2 =>
          refine fun _ => ⟨rfl, _, rfl, fun j u hu => ?_⟩
          rw [add_plain, blk_cell HG3.out]
          match j, hu with
          | 0, hu => exact hu
          | 1, hu => exact hu
        case g3 => simp [Value.oneCell']
        intro w4 hg4 hb4
        have HG4 := Aside0.mk hg4.out
        have HB4 := Aside0.mk hb4
        clear hg4 hb4
        refine hK.out _ _ trivial (fun hHeld => ?_)
        clear hK K
        refine norm_ (a' := ?_) ?_ ?_
        rotate_left
        · show Act.put _ (some 45) _ = _
          simp only [Act.put, List.setIfInBounds_toArray, List.set_cons_zero, List.set_cons_succ, i64_w, i32_w]
          rfl
        refine pure_ (i := 8) (N := some 46) (v := ?_) (a' := ?_) #[true, true, true, true, true, true, true, true, true, false] rfl rfl (by kernel_rfl) (fun _ _ _ h => h) (Or.inl ⟨by rfl, ?_⟩) ?_ ?_
        rotate_left
        · intro w'
          go_simp
          with_reducible rfl
        rotate_left
        · simp only [Act.put, List.setIfInBounds_toArray, List.set_cons_zero, List.set_cons_succ, i64_w, i32_w]
          rfl
        refine pure_ (i := 9) (N := some 8) (v := ?_) (a' := ?_) #[true, true, true, true, true, true, true, true, true, true] rfl rfl (by kernel_rfl) (fun _ _ _ h => h) (Or.inl ⟨by rfl, ?_⟩) ?_ ?_
        rotate_left
        · intro w'
          go_simp
          with_reducible rfl
        rotate_left
        · simp only [Act.put, List.setIfInBounds_toArray, List.set_cons_zero, List.set_cons_succ, i64_w, i32_w]
          rfl
        refine done_ (by kernel_rfl) ?_
        try go_wp2
        go_roundg (5 - 5)
        case measure => have := HM.out; omega
        case rel => exact ⟨5, by first | rfl | (congr 1; unfold wrap64; omega), ⟨by omega, by omega, by omega⟩, ⟨HG4.out⟩, HB4⟩
      · go_wp2
        refine start_ (n := 10) (S := fun _ => True) (ds := []) #[false, false, false, false, false, false, false, false, false, false] (by kernel_rfl) rfl rfl trivial (fun hHeld => ?_)
        have HG3 := Aside0.mk (blk_drew HG.out)
        have HB3 := Aside0.mk (below_drew HB.out)
        clear HG HB
        generalize wr.drew = w3 at HG3 HB3 hHeld ⊢
        refine pure_ (i := 0) (N := some 38) (v := ?_) (a' := ?_) #[true, false, false, false, false, false, false, false, false, false] rfl rfl (by kernel_rfl) (fun _ _ _ h => h) (Or.inl ⟨by rfl, ?_⟩) ?_ ?_
        rotate_left
        · intro w'
          go_simp
          with_reducible rfl
        rotate_left
        · simp only [Act.put, List.setIfInBounds_toArray, List.set_cons_zero, List.set_cons_succ, i64_w, i32_w]
          rfl
        refine pure_ (i := 1) (N := some 39) (v := ?_) (a' := ?_) #[true, true, false, false, false, false, false, false, false, false] rfl rfl (by kernel_rfl) (fun _ _ _ h => h) (Or.inl ⟨by rfl, ?_⟩) ?_ ?_
        rotate_left
        · intro w'
          go_simp
          with_reducible rfl
        rotate_left
        · simp only [Act.put, List.setIfInBounds_toArray, List.set_cons_zero, List.set_cons_succ, i64_w, i32_w]
          rfl
        refine pure_ (i := 2) (N := some 40) (v := ?_) (a' := ?_) #[true, true, true, false, false, false, false, false, false, false] rfl rfl (by kernel_rfl) (fun _ _ _ h => h) (Or.inl ⟨by rfl, ?_⟩) ?_ ?_
        rotate_left
        · intro w'
          go_simp
          with_reducible rfl
        rotate_left
        · simp only [Act.put, List.setIfInBounds_toArray, List.set_cons_zero, List.set_cons_succ, i64_w, i32_w]
          rfl
        refine pure_ (i := 3) (N := some 41) (v := ?_) (a' := ?_) #[true, true, true, true, false, false, false, false, false, false] rfl rfl (by kernel_rfl) (fun _ _ _ h => h) (Or.inl ⟨by rfl, ?_⟩) ?_ ?_
        rotate_left
        · intro w'
          go_simp
          with_reducible rfl
        rotate_left
        · simp only [Act.put, List.setIfInBounds_toArray, List.set_cons_zero, List.set_cons_succ, i64_w, i32_w]
          rfl
        refine pure_ (i := 4) (N := some 42) (v := ?_) (a' := ?_) #[true, true, true, true, true, false, false, false, false, false] rfl rfl (by kernel_rfl) (fun _ _ _ h => h) (Or.inl ⟨by rfl, ?_⟩) ?_ ?_
        rotate_left
        · intro w'
          go_simp
          with_reducible rfl
        rotate_left
        · simp only [Act.put, List.setIfInBounds_toArray, List.set_cons_zero, List.set_cons_succ, i64_w, i32_w]
          rfl
        refine pure_ (i := 5) (N := some 43) (v := ?_) (a' := ?_) #[true, true, true, true, true, true, false, false, false, false] rfl rfl (by kernel_rfl) (fun _ _ _ h => h) (Or.inl ⟨by rfl, ?_⟩) ?_ ?_
        rotate_left
        · intro w'
          go_simp
          with_reducible rfl
        rotate_left
        · simp only [Act.put, List.setIfInBounds_toArray, List.set_cons_zero, List.set_cons_succ, i64_w, i32_w]
          rfl
        refine pure_ (i := 6) (N := some 44) (v := ?_) (a' := ?_) #[true, true, true, true, true, true, true, false, false, false] rfl rfl (by kernel_rfl) (fun _ _ _ h => h) (Or.inl ⟨by rfl, ?_⟩) ?_ ?_
        rotate_left
        · intro w'
          go_simp
          with_reducible rfl
        rotate_left
        · simp only [Act.put, List.setIfInBounds_toArray, List.set_cons_zero, List.set_cons_succ, i64_w, i32_w]
          rfl
        refine one_ (i := 7) (N := some 45) #[true, true, true, true, true, true, true, true, false, false] rfl rfl (by kernel_rfl) (by decide) (fun K hK => ?_)
        refine step_copy_splice rfl (.tmp 41) (.tmp 44) 22 22 rfl 3 Try.underlying22 hsz.out (some ⟨w.heap.size, 4, none⟩) (some ⟨w.heap.size, 0, none⟩) 1 1 4 5 rfl rfl w.heap.size 4 [Value.int .i64 v, Value.int .i64 v, Value.int .i64 v, Value.int .i64 v, Value.int .i64 0] 3 ?g1 [Value.int .i64 v] rfl ?g2 (by simp) ?g3 w.heap.size w HB3.out (Nat.le_refl _) ?_
        case g1 => first | exact HG3.out | simpa using HG3.out
        case g2 =>
          refine fun _ => ⟨rfl, _, rfl, fun j u hu => ?_⟩
          rw [add_plain, blk_cell HG3.out]
          match j, hu with
          | 0, hu => exact hu
        case g3 => simp [Value.oneCell']
        intro w4 hg4 hb4
        have HG4 := Aside0.mk hg4.out
        have HB4 := Aside0.mk hb4
        clear hg4 hb4
        refine hK.out _ _ trivial (fun hHeld => ?_)
        clear hK K
        refine norm_ (a' := ?_) ?_ ?_
        rotate_left
        · show Act.put _ (some 45) _ = _
          simp only [Act.put, List.setIfInBounds_toArray, List.set_cons_zero, List.set_cons_succ, i64_w, i32_w]
          rfl
        refine pure_ (i := 8) (N := some 46) (v := ?_) (a' := ?_) #[true, true, true, true, true, true, true, true, true, false] rfl rfl (by kernel_rfl) (fun _ _ _ h => h) (Or.inl ⟨by rfl, ?_⟩) ?_ ?_
        rotate_left
        · intro w'
          go_simp
          with_reducible rfl
        rotate_left
        · simp only [Act.put, List.setIfInBounds_toArray, List.set_cons_zero, List.set_cons_succ, i64_w, i32_w]
          rfl
        refine pure_ (i := 9) (N := some 8) (v := ?_) (a' := ?_) #[true, true, true, true, true, true, true, true, true, true] rfl rfl (by kernel_rfl) (fun _ _ _ h => h) (Or.inl ⟨by rfl, ?_⟩) ?_ ?_
        rotate_left
        · intro w'
          go_simp
          with_reducible rfl
        rotate_left
        · simp only [Act.put, List.setIfInBounds_toArray, List.set_cons_zero, List.set_cons_succ, i64_w, i32_w]
          rfl
        refine done_ (by kernel_rfl) ?_
        try go_wp2
        go_roundg (5 - 5)
        case measure => have := HM.out; omega
        case rel => exact ⟨5, by first | rfl | (congr 1; unfold wrap64; omega), ⟨by omega, by omega, by omega⟩, ⟨HG4.out⟩, HB4⟩
      · go_wp2
        go_ret
        exact ⟨_, rfl, slices_Repeat_int_int.own HG.out (Nat.le_refl _) (by decide), HB.out⟩
  · have hmk : ∀ W : World, (Instr.makeSlice 22 (.int .i64 6) (.int .i64 6)).run Try.prog W = .ok (.slice (some ⟨W.heap.size, 0, none⟩) 6 6) (W.alloc (.cells #[Value.int .i64 0, Value.int .i64 0, Value.int .i64 0, Value.int .i64 0, Value.int .i64 0, Value.int .i64 0] 3)) := fun W => by
      have hz := print_make (P := Try.prog) 22 3 .i64 8 Try.underlying22 info3 (by decide) 6 (by decide) W
      rw [show madeCells #[Value.int .i64 0] 6 = #[Value.int .i64 0, Value.int .i64 0, Value.int .i64 0, Value.int .i64 0, Value.int .i64 0, Value.int .i64 0] from by kernel_rfl] at hz
      simpa using hz
    have hmul : bits_Mul.f 1 6 = some (0, 6) := by decide +kernel
    replace hmul := Aside0.mk hmul
    go_enter Try.func90, Try.ntmps90
    go_wp2_with (first | (go_at_call 130; (with_reducible refine (bits_Mul.calls 1 6 0 6 _ hmul.out).mono ?_); rintro e w1 ⟨rfl, ⟨nd, rfl⟩⟩) | (refine wpList_copy_splice rfl (.tmp 31) (.tmp 32) 22 22 rfl 3 Try.underlying22 hsz.out (some ⟨w.heap.size, 0, none⟩) (some ad) 6 6 1 c0 rfl rfl w.heap.size 0 [Value.int .i64 0, Value.int .i64 0, Value.int .i64 0, Value.int .i64 0, Value.int .i64 0, Value.int .i64 0] 3 ?g1 [.int .i64 v] rfl ?g2 (by simp) ?g3 w.heap.size w ?g4 (Nat.le_refl _) ?_; (case g1 => (have hz := blk_new (w.drewN nd) (Obj.cells #[Value.int .i64 0, Value.int .i64 0, Value.int .i64 0, Value.int .i64 0, Value.int .i64 0, Value.int .i64 0] 3); simpa using hz)); (case g2 => exact fun _ => ⟨rfl, ad, rfl, fun j u hu => by (obtain ⟨rfl, rfl⟩ : j = 0 ∧ Value.int .i64 v = u := by (match j, hu with | 0, hu => exact ⟨rfl, Option.some.inj hu⟩)); rw [Addr.add_zero']; exact (Below.cell (below_alloc (pw_below_drewN (Below.refl _ _) nd) _) (World.block_lt_of_cell? _ _ HX.out)).trans HX.out⟩); (case g3 => simp [Value.oneCell']); (case g4 => exact below_alloc (pw_below_drewN (Below.refl _ _) nd) _); intro w2 hg2 hb2; have HG := Aside0.mk hg2.out; have HB := Aside0.mk hb2; clear hg2 hb2))
    go_loopg [8] 5 (fun kq v8 wr => ∃ m : Int, v8 = .int .i64 m ∧ Aside0 (1 ≤ m ∧ m ≤ 6 ∧ kq = 6 - m.toNat) ∧ Aside0 (wr.heap[w.heap.size]? = some (.cells (List.replicate m.toNat (Value.int .i64 v) ++ List.replicate (6 - m.toNat) (Value.int .i64 0)).toArray 3 (0, 0))) ∧ Aside0 (Below w.heap.size w wr))
    case atStart => exact ⟨1, rfl, ⟨by omega, by omega, by omega⟩, ⟨HG.out⟩, HB⟩
    case round =>
      clear HG HB hmk hmul
      obtain ⟨m, rfl, HM, HG, HB⟩ := hrel
      have hm := HM.out
      have hm2 : m = 1 ∨ m = 2 ∨ m = 3 ∨ m = 4 ∨ m = 5 ∨ m = 6 := by omega
      clear hm
      rcases hm2 with rfl | rfl | rfl | rfl | rfl | rfl
      · go_wp2
        refine start_ (n := 10) (S := fun _ => True) (ds := []) #[false, false, false, false, false, false, false, false, false, false] (by kernel_rfl) rfl rfl trivial (fun hHeld => ?_)
        have HG3 := Aside0.mk (blk_drew HG.out)
        have HB3 := Aside0.mk (below_drew HB.out)
        clear HG HB
        generalize wr.drew = w3 at HG3 HB3 hHeld ⊢
        refine pure_ (i := 0) (N := some 38) (v := ?_) (a' := ?_) #[true, false, false, false, false, false, false, false, false, false] rfl rfl (by kernel_rfl) (fun _ _ _ h => h) (Or.inl ⟨by rfl, ?_⟩) ?_ ?_
        rotate_left
        · intro w'
          go_simp
          with_reducible rfl
        rotate_left
        · simp only [Act.put, List.setIfInBounds_toArray, List.set_cons_zero, List.set_cons_succ, i64_w, i32_w]
          rfl
        refine pure_ (i := 1) (N := some 39) (v := ?_) (a' := ?_) #[true, true, false, false, false, false, false, false, false, false] rfl rfl (by kernel_rfl) (fun _ _ _ h => h) (Or.inl ⟨by rfl, ?_⟩) ?_ ?_
        rotate_left
        · intro w'
          go_simp
          with_reducible rfl
        rotate_left
        · simp only [Act.put, List.setIfInBounds_toArray, List.set_cons_zero, List.set_cons_succ, i64_w, i32_w]
          rfl
        refine pure_ (i := 2) (N := some 40) (v := ?_) (a' := ?_) #[true, true, true, false, false, false, false, false, false, false] rfl rfl (by kernel_rfl) (fun _ _ _ h => h) (Or.inl ⟨by rfl, ?_⟩) ?_ ?_
        rotate_left
        · intro w'
          go_simp
          with_reducible rfl
        rotate_left
        · simp only [Act.put, List.setIfInBounds_toArray, List.set_cons_zero, List.set_cons_succ, i64_w, i32_w]
          rfl
        refine pure_ (i := 3) (N := some 41) (v := ?_) (a' := ?_) #[true, true, true, true, false, false, false, false, false, false] rfl rfl (by kernel_rfl) (fun _ _ _ h => h) (Or.inl ⟨by rfl, ?_⟩) ?_ ?_
        rotate_left
        · intro w'
          go_simp
          with_reducible rfl
        rotate_left
        · simp only [Act.put, List.setIfInBounds_toArray, List.set_cons_zero, List.set_cons_succ, i64_w, i32_w]
          rfl
        refine pure_ (i := 4) (N := some 42) (v := ?_) (a' := ?_) #[true, true, true, true, true, false, false, false, false, false] rfl rfl (by kernel_rfl) (fun _ _ _ h => h) (Or.inl ⟨by rfl, ?_⟩) ?_ ?_
        rotate_left
        · intro w'
          go_simp
          with_reducible rfl
        rotate_left
        · simp only [Act.put, List.setIfInBounds_toArray, List.set_cons_zero, List.set_cons_succ, i64_w, i32_w]
          rfl
        refine pure_ (i := 5) (N := some 43) (v := ?_) (a' := ?_) #[true, true, true, true, true, true, false, false, false, false] rfl rfl (by kernel_rfl) (fun _ _ _ h => h) (Or.inl ⟨by rfl, ?_⟩) ?_ ?_
        rotate_left
        · intro w'
          go_simp
          with_reducible rfl
        rotate_left
        · simp only [Act.put, List.setIfInBounds_toArray, List.set_cons_zero, List.set_cons_succ, i64_w, i32_w]
          rfl
        refine pure_ (i := 6) (N := some 44) (v := ?_) (a' := ?_) #[true, true, true, true, true, true, true, false, false, false] rfl rfl (by kernel_rfl) (fun _ _ _ h => h) (Or.inl ⟨by rfl, ?_⟩) ?_ ?_
        rotate_left
        · intro w'
          go_simp
          with_reducible rfl
        rotate_left
        · simp only [Act.put, List.setIfInBounds_toArray, List.set_cons_zero, List.set_cons_succ, i64_w, i32_w]
          rfl
        refine one_ (i := 7) (N := some 45) #[true, true, true, true, true, true, true, true, false, false] rfl rfl (by kernel_rfl) (by decide) (fun K hK => ?_)
        refine step_copy_splice rfl (.tmp 41) (.tmp 44) 22 22 rfl 3 Try.underlying22 hsz.out (some ⟨w.heap.size, 1, none⟩) (some ⟨w.heap.size, 0, none⟩) 5 5 1 6 rfl rfl w.heap.size 1 [Value.int .i64 v, Value.int .i64 0, Value.int .i64 0, Value.int .i64 0, Value.int .i64 0, Value.int .i64 0] 3 ?g1 [Value.int .i64 v] rfl ?g2 (by simp) ?g3 w.heap.size w HB3.out (Nat.le_refl _) ?_
        case g1 => first | exact HG3.out | simpa using HG3.out
        case g2 =>
          refine fun _ => ⟨rfl, _, rfl, fun j u hu => ?_⟩
          rw [add_plain, blk_cell HG3.out]
          match j, hu with
          | 0, hu => exact hu
        case g3 => simp [Value.oneCell']
        intro w4 hg4 hb4
        have HG4 := Aside0.mk hg4.out
        have HB4 := Aside0.mk hb4
        clear hg4 hb4
        refine hK.out _ _ trivial (fun hHeld => ?_)
        clear hK K
        refine norm_ (a' := ?_) ?_ ?_
        rotate_left
        · show Act.put _ (some 45) _ = _
          simp only [Act.put, List.setIfInBounds_toArray, List.set_cons_zero, List.set_cons_succ, i64_w, i32_w]
          rfl
        refine pure_ (i := 8) (N := some 46) (v := ?_) (a' := ?_) #[true, true, true, true, true, true, true, true, true, false] rfl rfl (by kernel_rfl) (fun _ _ _ h => h) (Or.inl ⟨by rfl, ?_⟩) ?_ ?_
        rotate_left
        · intro w'
          go_simp
          with_reducible rfl
        rotate_left
        · simp only [Act.put, List.setIfInBounds_toArray, List.set_cons_zero, List.set_cons_succ, i64_w, i32_w]
          rfl
        refine pure_ (i := 9) (N := some 8) (v := ?_) (a' := ?_) #[true, true, true, true, true, true, true, true, true, true] rfl rfl (by kernel_rfl) (fun _ _ _ h => h) (Or.inl ⟨by rfl, ?_⟩) ?_ ?_
        rotate_left
        · intro w'
          go_simp
          with_reducible rfl
        rotate_left
        · simp only [Act.put, List.setIfInBounds_toArray, List.set_cons_zero, List.set_cons_succ, i64_w, i32_w]
          rfl
        refine done_ (by kernel_rfl) ?_
        try go_wp2
        go_roundg (6 - 2)
        case measure => have := HM.out; omega
        case rel => exact ⟨2, by first | rfl | (congr 1; unfold wrap64; omega), ⟨by omega, by omega, by omega⟩, ⟨HG4.out⟩, HB4⟩
      · go_wp2
        refine start_ (n := 10) (S := fun _ => True) (ds := []) #[false, false, false, false, false, false, false, false, false, false] (by kernel_rfl) rfl rfl trivial (fun hHeld => ?_)
        have HG3 := Aside0.mk (blk_drew HG.out)
        have HB3 := Aside0.mk (below_drew HB.out)
        clear HG HB
        generalize wr.drew = w3 at HG3 HB3 hHeld ⊢
        refine pure_ (i := 0) (N := some 38) (v := ?_) (a' := ?_) #[true, false, false, false, false, false, false, false, false, false] rfl rfl (by kernel_rfl) (fun _ _ _ h => h) (Or.inl ⟨by rfl, ?_⟩) ?_ ?_
        rotate_left
        · intro w'
          go_simp
          with_reducible rfl
        rotate_left
        · simp only [Act.put, List.setIfInBounds_toArray, List.set_cons_zero, List.set_cons_succ, i64_w, i32_w]
          rfl
        refine pure_ (i := 1) (N := some 39) (v := ?_) (a' := ?_) #[true, true, false, false, false, false, false, false, false, false] rfl rfl (by kernel_rfl) (fun _ _ _ h => h) (Or.inl ⟨by rfl, ?_⟩) ?_ ?_
        rotate_left
        · intro w'
          go_simp
          with_reducible rfl
        rotate_left
        · simp only [Act.put, List.setIfInBounds_toArray, List.set_cons_zero, List.set_cons_succ, i64_w, i32_w]
          rfl
        refine pure_ (i := 2) (N := some 40) (v := ?_) (a' := ?_) #[true, true, true, false, false, false, false, false, false, false] rfl rfl (by kernel_rfl) (fun _ _ _ h => h) (Or.inl ⟨by rfl, ?_⟩) ?_ ?_
        rotate_left
        · intro w'
          go_simp
          with_reducible rfl
        rotate_left
        · simp only [Act.put, List.setIfInBounds_toArray, List.set_cons_zero, List.set_cons_succ, i64_w, i32_w]
          rfl
        refine pure_ (i := 3) (N := some 41) (v := ?_) (a' := ?_) #[true, true, true, true, false, false, false, false, false, false] rfl rfl (by kernel_rfl) (fun _ _ _ h => h) (Or.inl ⟨by rfl, ?_⟩) ?_ ?_
        rotate_left
        · intro w'
          go_simp
          with_reducible rfl
        rotate_left
        · simp only [Act.put, List.setIfInBounds_toArray, List.set_cons_zero, List.set_cons_succ, i64_w, i32_w]
          rfl
        refine pure_ (i := 4) (N := some 42) (v := ?_) (a' := ?_) #[true, true, true, true, true, false, false, false, false, false] rfl rfl (by kernel_rfl) (fun _ _ _ h => h) (Or.inl ⟨by rfl, ?_⟩) ?_ ?_
        rotate_left
        · intro w'
          go_simp
          with_reducible rfl
        rotate_left
        · simp only [Act.put, List.setIfInBounds_toArray, List.set_cons_zero, List.set_cons_succ, i64_w, i32_w]
          rfl
        refine pure_ (i := 5) (N := some 43) (v := ?_) (a' := ?_) #[true, true, true, true, true, true, false, false, false, false] rfl rfl (by kernel_rfl) (fun _ _ _ h => h) (Or.inl ⟨by rfl, ?_⟩) ?_ ?_
        rotate_left
        · intro w'
          go_simp
          with_reducible rfl
        rotate_left
        · simp only [Act.put, List.setIfInBounds_toArray, List.set_cons_zero, List.set_cons_succ, i64_w, i32_w]
          rfl
        refine pure_ (i := 6) (N := some 44) (v := ?_) (a' := ?_) #[true, true, true, true, true, true, true, false, false, false] rfl rfl (by kernel_rfl) (fun _ _ _ h => h) (Or.inl ⟨by rfl, ?_⟩) ?_ ?_
        rotate_left
        · intro w'
          go_simp
          with_reducible rfl
        rotate_left
        · simp only [Act.put, List.setIfInBounds_toArray, List.set_cons_zero, List.set_cons_succ, i64_w, i32_w]
          rfl
        refine one_ (i := 7) (N := some 45) #[true, true, true, true, true, true, true, true, false, false] rfl rfl (by kernel_rfl) (by decide) (fun K hK => ?_)
        refine step_copy_splice rfl (.tmp 41) (.tmp 44) 22 22 rfl 3 Try.underlying22 hsz.out (some ⟨w.heap.size, 2, none⟩) (some ⟨w.heap.size, 0, none⟩) 4 4 2 6 rfl rfl w.heap.size 2 [Value.int .i64 v, Value.int .i64 v, Value.int .i64 0, Value.int .i64 0, Value.int .i64 0, Value.int .i64 0] 3 ?g1 [Value.int .i64 v, Value.int .i64 v] rfl ?g2 (by simp) ?g3 w.heap.size w HB3.out (Nat.le_refl _) ?_
        case g1 => first | exact HG3.out | simpa using HG3.out
        case g2 =>
          refine fun _ => ⟨rfl, _, rfl, fun j u hu => ?_⟩
          rw [add_plain, blk_cell HG3.out]
          match j, hu with
          | 0, hu => exact hu
          | 1, hu => exact hu
        case g3 => simp [Value.oneCell']
        intro w4 hg4 hb4
        have HG4 := Aside0.mk hg4.out
        have HB4 := Aside0.mk hb4
        clear hg4 hb4
        refine hK.out _ _ trivial (fun hHeld => ?_)
        clear hK K
        refine norm_ (a' := ?_) ?_ ?_
        rotate_left
        · show Act.put _ (some 45) _ = _
          simp only [Act.put, List.setIfInBounds_toArray, List.set_cons_zero, List.set_cons_succ, i64_w, i32_w]
          rfl
        refine pure_ (i := 8) (N := some 46) (v := ?_) (a' := ?_) #[true, true, true, true, true, true, true, true, true, false] rfl rfl (by kernel_rfl) (fun _ _ _ h => h) (Or.inl ⟨by rfl, ?_⟩) ?_ ?_
        rotate_left
        · intro w'
          go_simp
          with_reducible rfl
        rotate_left
        · simp only [Act.put, List.setIfInBounds_toArray, List.set_cons_zero, List.set_cons_succ, i64_w, i32_w]
          rfl
        refine pure_ (i := 9) (N := some 8) (v := ?_) (a' := ?_) #[true, true, true, true, true, true, true, true, true, true] rfl rfl (by kernel_rfl) (fun _ _ _ h => h) (Or.inl ⟨by rfl, ?_⟩) ?_ ?_
        rotate_left
        · intro w'
          go_simp
          with_reducible rfl
        rotate_left
        · simp only [Act.put, List.setIfInBounds_toArray, List.set_cons_zero, List.set_cons_succ, i64_w, i32_w]
          rfl
        refine done_ (by kernel_rfl) ?_
        try go_wp2
        go_roundg (6 - 4)
        case measure => have := HM.out; omega
        case rel => exact ⟨4, by first | rfl | (congr 1; unfold wrap64; omega), ⟨by omega, by omega, by omega⟩, ⟨HG4.out⟩, HB4⟩
      · go_wp2
        refine start_ (n := 10) (S := fun _ => True) (ds := []) #[false, false, false, false, false, false, false, false, false, false] (by kernel_rfl) rfl rfl trivial (fun hHeld => ?_)
        have HG3 := Aside0.mk (blk_drew HG.out)
        have HB3 := Aside0.mk (below_drew HB.out)
        clear HG HB
        generalize wr.drew = w3 at HG3 HB3 hHeld ⊢
        refine pure_ (i := 0) (N := some 38) (v := ?_) (a' := ?_) #[true, false, false, false, false, false, false, false, false, false] rfl rfl (by kernel_rfl) (fun _ _ _ h => h) (Or.inl ⟨by rfl, ?_⟩) ?_ ?_
        rotate_left
        · intro w'
          go_simp
          with_reducible rfl
        rotate_left
        · simp only [Act.put, List.setIfInBounds_toArray, List.set_cons_zero, List.set_cons_succ, i64_w, i32_w]
          rfl
        refine pure_ (i := 1) (N := some 39) (v := ?_) (a' := ?_) #[true, true, false, false, false, false, false, false, false, false] rfl rfl (by kernel_rfl) (fun _ _ _ h => h) (Or.inl ⟨by rfl, ?_⟩) ?_ ?_
        rotate_left
        · intro w'
          go_simp
          with_reducible rfl
        rotate_left
        · simp only [Act.put, List.setIfInBounds_toArray, List.set_cons_zero, List.set_cons_succ, i64_w, i32_w]
          rfl
        refine pure_ (i := 2) (N := some 40) (v := ?_) (a' := ?_) #[true, true, true, false, false, false, false, false, false, false] rfl rfl (by kernel_rfl) (fun _ _ _ h => h) (Or.inl ⟨by rfl, ?_⟩) ?_ ?_
        rotate_left
        · intro w'
          go_simp
          with_reducible rfl
        rotate_left
        · simp only [Act.put, List.setIfInBounds_toArray, List.set_cons_zero, List.set_cons_succ, i64_w, i32_w]
          rfl
        refine pure_ (i := 3) (N := some 41) (v := ?_) (a' := ?_) #[true, true, true, true, false, false, false, false, false, false] rfl rfl (by kernel_rfl) (fun _ _ _ h => h) (Or.inl ⟨by rfl, ?_⟩) ?_ ?_
        rotate_left
        · intro w'
          go_simp
          with_reducible rfl
        rotate_left
        · simp only [Act.put, List.setIfInBounds_toArray, List.set_cons_zero, List.set_cons_succ, i64_w, i32_w]
          rfl
        refine pure_ (i := 4) (N := some 42) (v := ?_) (a' := ?_) #[true, true, true, true, true, false, false, false, false, false] rfl rfl (by kernel_rfl) (fun _ _ _ h => h) (Or.inl ⟨by rfl, ?_⟩) ?_ ?_
        rotate_left
        · intro w'
          go_simp
          with_reducible rfl
        rotate_left
        · simp only [Act.put, List.setIfInBounds_toArray, List.set_cons_zero, List.set_cons_succ, i64_w, i32_w]
          rfl
        refine pure_ (i := 5) (N := some 43) (v := ?_) (a' := ?_) #[true, true, true, true, true, true, false, false, false, false] rfl rfl (by kernel_rfl) (fun _ _ _ h => h) (Or.inl ⟨by rfl, ?_⟩) ?_ ?_
        rotate_left
        · intro w'
          go_simp
          with_reducible rfl
        rotate_left
        · simp only [Act.put, List.setIfInBounds_toArray, List.set_cons_zero, List.set_cons_succ, i64_w, i32_w]
          rfl
        refine pure_ (i := 6) (N := some 44) (v := ?_) (a' := ?_) #[true, true, true, true, true, true, true, false, false, false] rfl rfl (by kernel_rfl) (fun _ _ _ h => h) (Or.inl ⟨by rfl, ?_⟩) ?_ ?_
        rotate_left
        · intro w'
          go_simp
          with_reducible rfl
        rotate_left
        · simp only [Act.put, List.setIfInBounds_toArray, List.set_cons_zero, List.set_cons_succ, i64_w, i32_w]
          rfl
        refine one_ (i := 7) (N := some 45) #[true, true, true, true, true, true, true, true, false, false] rfl rfl (by kernel_rfl) (by decide) (fun K hK => ?_)
        refine step_copy_splice rfl (.tmp 41) (.tmp 44) 22 22 rfl 3 Try.underlying22 hsz.out (some ⟨w.heap.size, 3, none⟩) (some ⟨w.heap.size, 0, none⟩) 3 3 3 6 rfl rfl w.heap.size 3 [Value.int .i64 v, Value.int .i64 v, Value.int .i64 v, Value.int .i64 0, Value.int .i64 0, Value.int .i64 0] 3 ?g1 [Value.int .i64 v, Value.int .i64 v, Value.int .i64 v] rfl ?g2 (by simp) ?g3 w.heap.size w HB3.out (Nat.le_refl _) ?_
        case g1 => first | exact HG3.out | simpa using HG3.out
        case g2 =>
          refine fun _ => ⟨rfl, _, rfl, fun j u hu => ?_⟩
          rw [add_plain, blk_cell HG3.out]
          match j, hu with
          | 0, hu => exact hu
          | 1, hu => exact hu
          | 2, hu => exact hu
        case g3 => simp [Value.oneCell']
        intro w4 hg4 hb4
        have HG4 := Aside0.mk hg4.out
        have HB4 := Aside0.mk hb4
        clear hg4 hb4
        refine hK.out _ _ trivial (fun hHeld => ?_)
        clear hK K
        refine norm_ (a' := ?_) ?_ ?_
        rotate_left
        · show Act.put _ (some 45) _ = _
          simp only [Act.put, List.setIfInBounds_toArray, List.set_cons_zero, List.set_cons_succ, i64_w, i32_w]
          rfl
        refine pure_ (i := 8) (N := some 46) (v := ?_) (a' := ?_) #[true, true, true, true, true, true, true, true, true, false] rfl rfl (by kernel_rfl) (fun _ _ _ h => h) (Or.inl ⟨by rfl, ?_⟩) ?_ ?_
        rotate_left
        · intro w'
          go_simp
          with_reducible rfl
        rotate_left
        · simp only [Act.put, List.setIfInBounds_toArray, List.set_cons_zero, List.set_cons_succ, i64_w, i32_w]
          rfl
        refine pure_ (i := 9) (N := some 8) (v := ?_) (a' := ?_) #[true, true, true, true, true, true, true, true, true, true] rfl rfl (by kernel_rfl) (fun _ _ _ h => h) (Or.inl ⟨by rfl, ?_⟩) ?_ ?_
        rotate_left
        · intro w'
          go_simp
          with_reducible rfl
        rotate_left
        · simp only [Act.put, List.setIfInBounds_toArray, List.set_cons_zero, List.set_cons_succ, i64_w, i32_w]
          rfl
        refine done_ (by kernel_rfl) ?_
        try go_wp2
        go_roundg (6 - 6)
        case measure => have := HM.out; omega
        case rel => exact ⟨6, by first | rfl | (congr 1; unfold wrap64; omega), ⟨by omega, by omega, by omega⟩, ⟨HG4.out⟩, HB4⟩
      · go_wp2
        refine start_ (n := 10) (S := fun _ => True) (ds := []) #[false, false, false, false, false, false, false, false, false, false] (by kernel_rfl) rfl rfl trivial (fun hHeld => ?_)
        have HG3 := Aside0.mk (blk_drew HG.out)
        have HB3 := Aside0.mk (below_drew HB.out)
        clear HG HB
        generalize wr.drew = w3 at HG3 HB3 hHeld ⊢
        refine pure_ (i := 0) (N := some 38) (v := ?_) (a' := ?_) #[true, false, false, false, false, false, false, false, false, false] rfl rfl (by kernel_rfl) (fun _ _ _ h => h) (Or.inl ⟨by rfl, ?_⟩) ?_ ?_
        rotate_left
        · intro w'
          go_simp
          with_reducible rfl
        rotate_left
        · simp only [Act.put, List.setIfInBounds_toArray, List.set_cons_zero, List.set_cons_succ, i64_w, i32_w]
          rfl
        refine pure_ (i := 1) (N := some 39) (v := ?_) (a' := ?_) #[true, true, false, false, false, false, false, false, false, false] rfl rfl (by kernel_rfl) (fun _ _ _ h => h) (Or.inl ⟨by rfl, ?_⟩) ?_ ?_
        rotate_left
        · intro w'
          go_simp
          with_reducible rfl
        rotate_left
        · simp only [Act.put, List.setIfInBounds_toArray, List.set_cons_zero, List.set_cons_succ, i64_w, i32_w]
          rfl
        refine pure_ (i := 2) (N := some 40) (v := ?_) (a' := ?_) #[true, true, true, false, false, false, false, false, false, false] rfl rfl (by kernel_rfl) (fun _ _ _ h => h) (Or.inl ⟨by rfl, ?_⟩) ?_ ?_
        rotate_left
        · intro w'
          go_simp
          with_reducible rfl
        rotate_left
        · simp only [Act.put, List.setIfInBounds_toArray, List.set_cons_zero, List.set_cons_succ, i64_w, i32_w]
          rfl
        refine pure_ (i := 3) (N := some 41) (v := ?_) (a' := ?_) #[true, true, true, true, false, false, false, false, false, false] rfl rfl (by kernel_rfl) (fun _ _ _ h => h) (Or.inl ⟨by rfl, ?_⟩) ?_ ?_
        rotate_left
        · intro w'
          go_simp
          with_reducible rfl
        rotate_left
        · simp only [Act.put, List.setIfInBounds_toArray, List.set_cons_zero, List.set_cons_succ, i64_w, i32_w]
          rfl
        refine pure_ (i := 4) (N := some 42) (v := ?_) (a' := ?_) #[true, true, true, true, true, false, false, false, false, false] rfl rfl (by kernel_rfl) (fun _ _ _ h => h) (Or.inl ⟨by rfl, ?_⟩) ?_ ?_
        rotate_left
        · intro w'
          go_simp
          with_reducible rfl
        rotate_left
        · simp only [Act.put, List.setIfInBounds_toArray, List.set_cons_zero, List.set_cons_succ, i64_w, i32_w]
          rfl
        refine pure_ (i := 5) (N := some 43) (v := ?_) (a' := ?_) #[true, true, true, true, true, true, false, false, false, false] rfl rfl (by kernel_rfl) (fun _ _ _ h => h) (Or.inl ⟨by rfl, ?_⟩) ?_ ?_
        rotate_left
        · intro w'
          go_simp
          with_reducible rfl
        rotate_left
        · simp only [Act.put, List.setIfInBounds_toArray, List.set_cons_zero, List.set_cons_succ, i64_w, i32_w]
          rfl
        refine pure_ (i := 6) (N := some 44) (v := ?_) (a' := ?_) #[true, true, true, true, true, true, true, false, false, false] rfl rfl (by kernel_rfl) (fun _ _ _ h => h) (Or.inl ⟨by rfl, ?_⟩) ?_ ?_
        rotate_left
        · intro w'
          go_simp
          with_reducible rfl
        rotate_left
        · simp only [Act.put, List.setIfInBounds_toArray, List.set_cons_zero, List.set_cons_succ, i64_w, i32_w]
          rfl
        refine one_ (i := 7) (N := some 45) #[true, true, true, true, true, true, true, true, false, false] rfl rfl (by kernel_rfl) (by decide) (fun K hK => ?_)
        refine step_copy_splice rfl (.tmp 41) (.tmp 44) 22 22 rfl 3 Try.underlying22 hsz.out (some ⟨w.heap.size, 4, none⟩) (some ⟨w.heap.size, 0, none⟩) 2 2 4 6 rfl rfl w.heap.size 4 [Value.int .i64 v, Value.int .i64 v, Value.int .i64 v, Value.int .i64 v, Value.int .i64 0, Value.int .i64 0] 3 ?g1 [Value.int .i64 v, Value.int .i64 v] rfl ?g2 (by simp) ?g3 w.heap.size w HB3.out (Nat.le_refl _) ?_
        case g1 => first | exact HG3.out | simpa using HG3.out
        case g2 =>
          refine fun _ => ⟨rfl, _, rfl, fun j u hu => ?_⟩
          rw [add_plain, blk_cell HG3.out]
          match j, hu with
          | 0, hu => exact hu
          | 1, hu => exact hu
        case g3 => simp [Value.oneCell']
        intro w4 hg4 hb4
        have HG4 := Aside0.mk hg4.out
        have HB4 := Aside0.mk hb4
        clear hg4 hb4
        refine hK.out _ _ trivial (fun hHeld => ?_)
        clear hK K
        refine norm_ (a' := ?_) ?_ ?_
        rotate_left
        · show Act.put _ (some 45) _ = _
          simp only [Act.put, List.setIfInBounds_toArray, List.set_cons_zero, List.set_cons_succ, i64_w, i32_w]
          rfl
        refine pure_ (i := 8) (N := some 46) (v := ?_) (a' := ?_) #[true, true, true, true, true, true, true, true, true, false] rfl rfl (by kernel_rfl) (fun _ _ _ h => h) (Or.inl ⟨by rfl, ?_⟩) ?_ ?_
        rotate_left
        · intro w'
          go_simp
          with_reducible rfl
        rotate_left
        · simp only [Act.put, List.setIfInBounds_toArray, List.set_cons_zero, List.set_cons_succ, i64_w, i32_w]
          rfl
        refine pure_ (i := 9) (N := some 8) (v := ?_) (a' := ?_) #[true, true, true, true, true, true, true, true, true, true] rfl rfl (by kernel_rfl) (fun _ _ _ h => h) (Or.inl ⟨by rfl, ?_⟩) ?_ ?_
        rotate_left
        · intro w'
          go_simp
          with_reducible rfl
        rotate_left
        · simp only [Act.put, List.setIfInBounds_toArray, List.set_cons_zero, List.set_cons_succ, i64_w, i32_w]
          rfl
        refine done_ (by kernel_rfl) ?_
        try go_wp2
        go_roundg (6 - 6)
        case measure => have := HM.out; omega
        case rel => exact ⟨6, by first | rfl | (congr 1; unfold wrap64; omega), ⟨by omega, by omega, by omega⟩, ⟨HG4.out⟩, HB4⟩
      · go_wp2
        refine start_ (n := 10) (S := fun _ => True) (ds := []) #[false, false, false, false, false, false, false, false, false, false] (by kernel_rfl) rfl rfl trivial (fun hHeld => ?_)
        have HG3 := Aside0.mk (blk_drew HG.out)
        have HB3 := Aside0.mk (below_drew HB.out)
        clear HG HB
        generalize wr.drew = w3 at HG3 HB3 hHeld ⊢
        refine pure_ (i := 0) (N := some 38) (v := ?_) (a' := ?_) #[true, false, false, false, false, false, false, false, false, false] rfl rfl (by kernel_rfl) (fun _ _ _ h => h) (Or.inl ⟨by rfl, ?_⟩) ?_ ?_
        rotate_left
        · intro w'
          go_simp
          with_reducible rfl
        rotate_left
        · simp only [Act.put, List.setIfInBounds_toArray, List.set_cons_zero, List.set_cons_succ, i64_w, i32_w]
          rfl
        refine pure_ (i := 1) (N := some 39) (v := ?_) (a' := ?_) #[true, true, false, false, false, false, false, false, false, false] rfl rfl (by kernel_rfl) (fun _ _ _ h => h) (Or.inl ⟨by rfl, ?_⟩) ?_ ?_
        rotate_left
        · intro w'
          go_simp
          with_reducible rfl
        rotate_left
        · simp only [Act.put, List.setIfInBounds_toArray, List.set_cons_zero, List.set_cons_succ, i64_w, i32_w]
          rfl
        refine pure_ (i := 2) (N := some 40) (v := ?_) (a' := ?_) #[true, true, true, false, false, false, false, false, false, false] rfl rfl (by kernel_rfl) (fun _ _ _ h => h) (Or.inl ⟨by rfl, ?_⟩) ?_ ?_
        rotate_left
        · intro w'
          go_simp
          with_reducible rfl
        rotate_left
        · simp only [Act.put, List.setIfInBounds_toArray, List.set_cons_zero, List.set_cons_succ, i64_w, i32_w]
          rfl
        refine pure_ (i := 3) (N := some 41) (v := ?_) (a' := ?_) #[true, true, true, true, false, false, false, false, false, false] rfl rfl (by kernel_rfl) (fun _ _ _ h => h) (Or.inl ⟨by rfl, ?_⟩) ?_ ?_
        rotate_left
        · intro w'
          go_simp
          with_reducible rfl
        rotate_left
        · simp only [Act.put, List.setIfInBounds_toArray, List.set_cons_zero, List.set_cons_succ, i64_w, i32_w]
          rfl
        refine pure_ (i := 4) (N := some 42) (v := ?_) (a' := ?_) #[true, true, true, true, true, false, false, false, false, false] rfl rfl (by kernel_rfl) (fun _ _ _ h => h) (Or.inl ⟨by rfl, ?_⟩) ?_ ?_
        rotate_left
        · intro w'
          go_simp
          with_reducible rfl
        rotate_left
        · simp only [Act.put, List.setIfInBounds_toArray, List.set_cons_zero, List.set_cons_succ, i64_w, i32_w]
          rfl
        refine pure_ (i := 5) (N := some 43) (v := ?_) (a' := ?_) #[true, true, true, true, true, true, false, false, false, false] rfl rfl (by kernel_rfl) (fun _ _ _ h => h) (Or.inl ⟨by rfl, ?_⟩) ?_ ?_
        rotate_left
        · intro w'
          go_simp
          with_reducible rfl
        rotate_left
        · simp only [Act.put, List.setIfInBounds_toArray, List.set_cons_zero, List.set_cons_succ, i64_w, i32_w]
          rfl
        refine pure_ (i := 6) (N := some 44) (v := ?_) (a' := ?_) #[true, true, true, true, true, true, true, false, false, false] rfl rfl (by kernel_rfl) (fun _ _ _ h => h) (Or.inl ⟨by rfl, ?_⟩) ?_ ?_
        rotate_left
        · intro w'
          go_simp
          with_reducible rfl
        rotate_left
        · simp only [Act.put, List.setIfInBounds_toArray, List.set_cons_zero, List.set_cons_succ, i64_w, i32_w]
          rfl
        refine one_ (i := 7) (N := some 45) #[true, true, true, true, true, true, true, true, false, false] rfl rfl (by kernel_rfl) (by decide) (fun K hK => ?_)
        refine step_copy_splice rfl (.tmp 41) (.tmp 44) 22 22 rfl 3 Try.underlying22 hsz.out (some ⟨w.heap.size, 5, none⟩) (some ⟨w.heap.size, 0, none⟩) 1 1 5 6 rfl rfl w.heap.size 5 [Value.int .i64 v, Value.int .i64 v, Value.int .i64 v, Value.int .i64 v, Value.int .i64 v, Value.int .i64 0] 3 ?g1 [Value.int .i64 v] rfl ?g2 (by simp) ?g3 w.heap.size w HB3.out (Nat.le_refl _) ?_
        case g1 => first | exact HG3.out | simpa using HG3.out
        case g2 =>
          refine fun _ => ⟨rfl, _, rfl, fun j u hu => ?_⟩
          rw [add_plain, blk_cell HG3.out]
          match j, hu with
          | 0, hu => exact hu
        case g3 => simp [Value.oneCell']
        intro w4 hg4 hb4
        have HG4 := Aside0.mk hg4.out
        have HB4 := Aside0.mk hb4
        clear hg4 hb4
        refine hK.out _ _ trivial (fun hHeld => ?_)
        clear hK K
        refine norm_ (a' := ?_) ?_ ?_
        rotate_left
        · show Act.put _ (some 45) _ = _
          simp only [Act.put, List.setIfInBounds_toArray, List.set_cons_zero, List.set_cons_succ, i64_w, i32_w]
          rfl
        refine pure_ (i := 8) (N := some 46) (v := ?_) (a' := ?_) #[true, true, true, true, true, true, true, true, true, false] rfl rfl (by kernel_rfl) (fun _ _ _ h => h) (Or.inl ⟨by rfl, ?_⟩) ?_ ?_
        rotate_left
        · intro w'
          go_simp
          with_reducible rfl
        rotate_left
        · simp only [Act.put, List.setIfInBounds_toArray, List.set_cons_zero, List.set_cons_succ, i64_w, i32_w]
          rfl
        refine pure_ (i := 9) (N := some 8) (v := ?_) (a' := ?_) #[true, true, true, true, true, true, true, true, true, true] rfl rfl (by kernel_rfl) (fun _ _ _ h => h) (Or.inl ⟨by rfl, ?_⟩) ?_ ?_
        rotate_left
        · intro w'
          go_simp
          with_reducible rfl
        rotate_left
        · simp only [Act.put, List.setIfInBounds_toArray, List.set_cons_zero, List.set_cons_succ, i64_w, i32_w]
          rfl
        refine done_ (by kernel_rfl) ?_
        try go_wp2
        go_roundg (6 - 6)
        case measure => have := HM.out; omega
        case rel => exact ⟨6, by first | rfl | (congr 1; unfold wrap64; omega), ⟨by omega, by omega, by omega⟩, ⟨HG4.out⟩, HB4⟩
      · go_wp2
        go_ret
        exact ⟨_, rfl, slices_Repeat_int_int.own HG.out (Nat.le_refl _) (by decide), HB.out⟩
  · have hmk : ∀ W : World, (Instr.makeSlice 22 (.int .i64 1) (.int .i64 1)).run Try.prog W = .ok (.slice (some ⟨W.heap.size, 0, none⟩) 1 1) (W.alloc (.cells #[Value.int .i64 0] 3)) := fun W => by
      have hz := print_make (P := Try.prog) 22 3 .i64 8 Try.underlying22 info3 (by decide) 1 (by decide) W
      rw [show madeCells #[Value.int .i64 0] 1 = #[Value.int .i64 0] from by kernel_rfl] at hz
      simpa using hz
    have hmul : bits_Mul.f 1 1 = some (0, 1) := by decide +kernel
    replace hmul := Aside0.mk hmul
    go_enter Try.func90, Try.ntmps90
    go_wp2_with (first | (go_at_call 130; (with_reducible refine (bits_Mul.calls 1 1 0 1 _ hmul.out).mono ?_); rintro e w1 ⟨rfl, ⟨nd, rfl⟩⟩) | (refine wpList_copy_splice rfl (.tmp 31) (.tmp 32) 22 22 rfl 3 Try.underlying22 hsz.out (some ⟨w.heap.size, 0, none⟩) (some ad) 1 1 1 c0 rfl rfl w.heap.size 0 [Value.int .i64 0] 3 ?g1 [.int .i64 v] rfl ?g2 (by simp) ?g3 w.heap.size w ?g4 (Nat.le_refl _) ?_; (case g1 => (have hz := blk_new (w.drewN nd) (Obj.cells #[Value.int .i64 0] 3); simpa using hz)); (case g2 => exact fun _ => ⟨rfl, ad, rfl, fun j u hu => by (obtain ⟨rfl, rfl⟩ : j = 0 ∧ Value.int .i64 v = u := by (match j, hu with | 0, hu => exact ⟨rfl, Option.some.inj hu⟩)); rw [Addr.add_zero']; exact (Below.cell (below_alloc (pw_below_drewN (Below.refl _ _) nd) _) (World.block_lt_of_cell? _ _ HX.out)).trans HX.out⟩); (case g3 => simp [Value.oneCell']); (case g4 => exact below_alloc (pw_below_drewN (Below.refl _ _) nd) _); intro w2 hg2 hb2; have HG := Aside0.mk hg2.out; have HB := Aside0.mk hb2; clear hg2 hb2))
    go_loopg [8] 0 (fun kq v8 wr => ∃ m : Int, v8 = .int .i64 m ∧ Aside0 (1 ≤ m ∧ m ≤ 1 ∧ kq = 1 - m.toNat) ∧ Aside0 (wr.heap[w.heap.size]? = some (.cells (List.replicate m.toNat (Value.int .i64 v) ++ List.replicate (1 - m.toNat) (Value.int .i64 0)).toArray 3 (0, 0))) ∧ Aside0 (Below w.heap.size w wr))
    case atStart => exact ⟨1, rfl, ⟨by omega, by omega, by omega⟩, ⟨HG.out⟩, HB⟩
    case round =>
      clear HG HB hmk hmul
      obtain ⟨m, rfl, HM, HG, HB⟩ := hrel
      have hm := HM.out
      have hm2 : m = 1 := by omega
      clear hm
      obtain rfl := hm2
      · go_wp2
        go_ret
        exact ⟨_, rfl, slices_Repeat_int_int.own HG.out (Nat.le_refl _) (by decide), HB.out⟩

end
end Go.Proofs.Ythibohakolgfbaa.P
