-- printed functions (wip/slim.py)
import Derived.Test.YthlcaikplebpmaaPx0
import Derived.Test.YthlcaikplebpmaaQ189f40801e
import Derived.Test.YthlcaikplebpmaaQe801c6b909
namespace Go.Proofs.Ythlcaikplebpmaa.P
noncomputable section
set_option maxHeartbeats 8000000
set_option maxRecDepth 100000
open Go.RowKit Go.Proofs.YthlcaikplebpmaaW.PrintWords Go.Proofs.YthlcaikplebpmaaW.PrintLast Go.Proofs.YthlcaikplebpmaaW.PrintMore
attribute [local go_sem] max2_int min2_int max_two min_two max_three min_three max_four min_four   -- for this text's walks alone
set_option linter.unusedVariables false
set_option linter.unusedSimpArgs false

/-! ### slices_Repeat_int_int: function 146 -/
def slices_Repeat_int_int.f (l0 : List Int) (a1 : Int) : Option (List Int) := if l0.length = 1 ∧ 1 ≤ a1 ∧ a1 ≤ 6 then some (List.replicate a1.toNat (rd l0 0)) else none
theorem slices_Repeat_int_int.own {w : World} {b g N : Nat} {v : Int} (hg : w.heap[g]? = some (.cells (List.replicate N (Value.int .i64 v)).toArray 3 (0, 0))) (hb : b ≤ g) (hN : N ≤ 6) : (Kd.int .i64).R 3 w b (fun _ => True) (.slice (some ⟨g, 0, none⟩) N N) (List.replicate N v) := by
 refine Kd.R_of_own (enc := Value.int .i64) ⟨by simp [encs], Or.inr ⟨g, N, (List.replicate N (Value.int .i64 v)).toArray, by simp, hb, hg, by simp, by simp [maxLen]; omega, by simp, by simp [encs]⟩⟩ (fun _ _ => trivial)
set_option maxHeartbeats 400000 in
set_option maxRecDepth 100000 in
theorem slices_Repeat_int_int.calls (A0 : Option Addr) (c0 : Nat) (l0 : List Int) (a1 : Int) (r : List Int) (w : World) (hr0 : Kd.C (Kd.int .i64) w A0 l0.length l0) (hc0 : l0.length ≤ c0) (h : slices_Repeat_int_int.f l0 a1 = some r) :
  Calls Try.prog 146 #[.slice A0 l0.length c0, .int .i64 a1] w fun e w' => ∃ v0_ : Value, e = .returned (v0_) ∧ Kd.R (Kd.int .i64) 3 w' w.heap.size (fun _ => True) v0_ r ∧ Below w.heap.size w w' := by
 unfold slices_Repeat_int_int.f at h
 have hh : l0.length = 1 ∧ 1 ≤ a1 ∧ a1 ≤ 6 := by
  split at h
  ·
   assumption
  ·
   cases h
 rw [if_pos hh] at h
 obtain ⟨h1, h2, h3⟩ := hh
 obtain ⟨v, rfl⟩ : ∃ v, l0 = [v] := by
  match l0, h1 with
  | [v], _ => exact ⟨v, rfl⟩
 obtain rfl := Option.some.inj h
 clear h h1
 obtain ⟨ad, rfl, hx⟩ := Kd.at_int hr0 0 (by omega) (by simp)
 have hx : w.cell? ad = some (.int .i64 v) := by
  have h0 : ad.add (Int.toNat 0) = ad := Addr.add_zero' ad
  rw [h0] at hx
  simpa [rd] using hx
 have HX := A_ hx
 clear hx hr0
 have hn : a1 = 1 ∨ a1 = 2 ∨ a1 = 3 ∨ a1 = 4 ∨ a1 = 5 ∨ a1 = 6 := by omega
 clear h2 h3
 have hsz : (Try.prog.info? 3).map (·.size) = some 1 := by
  obtain ⟨i0, hi, _, hz1, _⟩ := info_parts info3
  rw [hi]; simp [hz1]
 replace hsz := A_ hsz
 rcases hn with rfl | rfl | rfl | rfl | rfl | rfl
 rotate_left
 ·
  have hmk : ∀ W : World, (Instr.makeSlice 22 (.int .i64 2) (.int .i64 2)).run Try.prog W = .ok (.slice (some ⟨W.heap.size, 0, none⟩) 2 2) (W.alloc (.cells #[Value.int .i64 0, Value.int .i64 0] 3)) := fun W => by
   have hz := print_make (P := Try.prog) 22 3 .i64 8 Try.underlying22 info3 (by decide) 2 (by decide) W
   rw [show madeCells #[Value.int .i64 0] 2 = #[Value.int .i64 0, Value.int .i64 0] from by kernel_rfl] at hz
   simpa using hz
  have hmul : bits_Mul.f 1 2 = some (0, 2) := by decide +kernel
  replace hmul := A_ hmul
  go_enter Try.func146, Try.ntmps146
  go_wp2_with (first | (go_at_call 200; (with_reducible refine (bits_Mul.calls 1 2 0 2 _ hmul.out).mono ?_); rintro e w1 ⟨rfl, ⟨nd, rfl⟩⟩) | (refine wpList_copy_splice rfl (.tmp 31) (.tmp 32) 22 22 rfl 3 Try.underlying22 hsz.out (some ⟨w.heap.size, 0, none⟩) (some ad) 2 2 1 c0 rfl rfl w.heap.size 0 [Value.int .i64 0, Value.int .i64 0] 3 ?g1 [.int .i64 v] rfl ?g2 (by simp) ?g3 w.heap.size w ?g4 (Nat.le_refl _) ?_; (case g1 => (have hz := blk_new (w.drewN nd) (Obj.cells #[Value.int .i64 0, Value.int .i64 0] 3); simpa using hz)); (case g2 => exact fun _ => ⟨rfl, ad, rfl, fun j u hu => by (obtain ⟨rfl, rfl⟩ : j = 0 ∧ Value.int .i64 v = u := by (match j, hu with | 0, hu => exact ⟨rfl, Option.some.inj hu⟩)); rw [Addr.add_zero']; exact (Below.cell (below_alloc (pw_below_drewN (Below.refl _ _) nd) _) (World.block_lt_of_cell? _ _ HX.out)).trans HX.out⟩); (case g3 => simp [Value.oneCell']); (case g4 => exact below_alloc (pw_below_drewN (Below.refl _ _) nd) _); intro w2 hg2 hb2; have HG := A_ hg2.out; have HB := A_ hb2; clear hg2 hb2))
  go_loopg [8] 1 (fun kq v8 wr => ∃ m : Int, v8 = .int .i64 m ∧ Aside0 (1 ≤ m ∧ m ≤ 2 ∧ kq = 2 - m.toNat) ∧ Aside0 (wr.heap[w.heap.size]? = some (.cells (List.replicate m.toNat (Value.int .i64 v) ++ List.replicate (2 - m.toNat) (Value.int .i64 0)).toArray 3 (0, 0))) ∧ Aside0 (Below w.heap.size w wr))
  case atStart => exact ⟨1, rfl, ⟨by omega, by omega, by omega⟩, ⟨HG.out⟩, HB⟩
  case round =>
   clear HG HB hmk hmul
   obtain ⟨m, rfl, HM, HG, HB⟩ := hrel
   have hm := HM.out
   have hm2 : m = 1 ∨ m = 2 := by omega
   clear hm
   rcases hm2 with rfl | rfl
   ·
    go_wp2
    refine start_ (n := 10) (S := fun _ => True) (ds := []) (Fn.bl 10 0) (by kernel_rfl) rfl rfl trivial (fun hHeld => ?_)
    have HG3 := A_ (blk_drew HG.out)
    have HB3 := A_ (below_drew HB.out)
    clear HG HB
    generalize wr.drew = w3 at HG3 HB3 hHeld ⊢
    refine pk_ 0 (some 38) (Fn.bl 10 1) ?_
    refine pk_ 1 (some 39) (Fn.bl 10 3) ?_
    refine pk_ 2 (some 40) (Fn.bl 10 7) ?_
    refine pk_ 3 (some 41) (Fn.bl 10 15) ?_
    refine pk_ 4 (some 42) (Fn.bl 10 31) ?_
    refine pk_ 5 (some 43) (Fn.bl 10 63) ?_
    refine pk_ 6 (some 44) (Fn.bl 10 127) ?_
    refine one_ (i := 7) (N := some 45) (Fn.bl 10 255) rfl rfl (by kernel_rfl) (by decide) (fun K hK => ?_)
    refine step_copy_splice rfl (.tmp 41) (.tmp 44) 22 22 rfl 3 Try.underlying22 hsz.out (some ⟨w.heap.size, 1, none⟩) (some ⟨w.heap.size, 0, none⟩) 1 1 1 2 rfl rfl w.heap.size 1 [Value.int .i64 v, Value.int .i64 0] 3 ?g1 [Value.int .i64 v] rfl ?g2 (by simp) ?g3 w.heap.size w HB3.out (Nat.le_refl _) ?_
    case g1 => first | exact HG3.out | simpa using HG3.out
    case g2 =>
     refine fun _ => ⟨rfl, _, rfl, fun j u hu => ?_⟩
     rw [add_plain, blk_cell HG3.out]
     match j, hu with
     | 0, hu => exact hu
    case g3 => simp [Value.oneCell']
    intro w4 hg4 hb4
    have HG4 := A_ hg4.out
    have HB4 := A_ hb4
    clear hg4 hb4
    refine hK.out _ _ trivial (fun hHeld => ?_)
    clear hK K
    refine norm_ (a' := ?_) ?_ ?_
    rotate_left
    ·
     show Act.put _ (some 45) _ = _
     simp only [Act.put, List.setIfInBounds_toArray, List.set_cons_zero, List.set_cons_succ, i64_w, i32_w]
     rfl
    refine pk_ 8 (some 46) (Fn.bl 10 511) ?_
    refine pk_ 9 (some 8) (Fn.bl 10 1023) ?_
    refine done_ (by kernel_rfl) ?_
    try go_wp2
    go_roundg (2 - 2)
    case measure => have := HM.out; omega
    case rel => exact ⟨2, by first | rfl | (congr 1; unfold wrap64; omega), ⟨by omega, by omega, by omega⟩, ⟨HG4.out⟩, HB4⟩
   ·
    go_wp2
    go_ret
    exact ⟨_, rfl, slices_Repeat_int_int.own HG.out (Nat.le_refl _) (by decide), HB.out⟩
 ·
  have hmk : ∀ W : World, (Instr.makeSlice 22 (.int .i64 3) (.int .i64 3)).run Try.prog W = .ok (.slice (some ⟨W.heap.size, 0, none⟩) 3 3) (W.alloc (.cells #[Value.int .i64 0, Value.int .i64 0, Value.int .i64 0] 3)) := fun W => by
   have hz := print_make (P := Try.prog) 22 3 .i64 8 Try.underlying22 info3 (by decide) 3 (by decide) W
   rw [show madeCells #[Value.int .i64 0] 3 = #[Value.int .i64 0, Value.int .i64 0, Value.int .i64 0] from by kernel_rfl] at hz
   simpa using hz
  have hmul : bits_Mul.f 1 3 = some (0, 3) := by decide +kernel
  replace hmul := A_ hmul
  go_enter Try.func146, Try.ntmps146
  go_wp2_with (first | (go_at_call 200; (with_reducible refine (bits_Mul.calls 1 3 0 3 _ hmul.out).mono ?_); rintro e w1 ⟨rfl, ⟨nd, rfl⟩⟩) | (refine wpList_copy_splice rfl (.tmp 31) (.tmp 32) 22 22 rfl 3 Try.underlying22 hsz.out (some ⟨w.heap.size, 0, none⟩) (some ad) 3 3 1 c0 rfl rfl w.heap.size 0 [Value.int .i64 0, Value.int .i64 0, Value.int .i64 0] 3 ?g1 [.int .i64 v] rfl ?g2 (by simp) ?g3 w.heap.size w ?g4 (Nat.le_refl _) ?_; (case g1 => (have hz := blk_new (w.drewN nd) (Obj.cells #[Value.int .i64 0, Value.int .i64 0, Value.int .i64 0] 3); simpa using hz)); (case g2 => exact fun _ => ⟨rfl, ad, rfl, fun j u hu => by (obtain ⟨rfl, rfl⟩ : j = 0 ∧ Value.int .i64 v = u := by (match j, hu with | 0, hu => exact ⟨rfl, Option.some.inj hu⟩)); rw [Addr.add_zero']; exact (Below.cell (below_alloc (pw_below_drewN (Below.refl _ _) nd) _) (World.block_lt_of_cell? _ _ HX.out)).trans HX.out⟩); (case g3 => simp [Value.oneCell']); (case g4 => exact below_alloc (pw_below_drewN (Below.refl _ _) nd) _); intro w2 hg2 hb2; have HG := A_ hg2.out; have HB := A_ hb2; clear hg2 hb2))
  go_loopg [8] 2 (fun kq v8 wr => ∃ m : Int, v8 = .int .i64 m ∧ Aside0 (1 ≤ m ∧ m ≤ 3 ∧ kq = 3 - m.toNat) ∧ Aside0 (wr.heap[w.heap.size]? = some (.cells (List.replicate m.toNat (Value.int .i64 v) ++ List.replicate (3 - m.toNat) (Value.int .i64 0)).toArray 3 (0, 0))) ∧ Aside0 (Below w.heap.size w wr))
  case atStart => exact ⟨1, rfl, ⟨by omega, by omega, by omega⟩, ⟨HG.out⟩, HB⟩
  case round =>
   clear HG HB hmk hmul
   obtain ⟨m, rfl, HM, HG, HB⟩ := hrel
   have hm := HM.out
   have hm2 : m = 1 ∨ m = 2 ∨ m = 3 := by omega
   clear hm
   rcases hm2 with rfl | rfl | rfl
   ·
    go_wp2
    refine start_ (n := 10) (S := fun _ => True) (ds := []) (Fn.bl 10 0) (by kernel_rfl) rfl rfl trivial (fun hHeld => ?_)
    have HG3 := A_ (blk_drew HG.out)
    have HB3 := A_ (below_drew HB.out)
    clear HG HB
    generalize wr.drew = w3 at HG3 HB3 hHeld ⊢
    refine pk_ 0 (some 38) (Fn.bl 10 1) ?_
    refine pk_ 1 (some 39) (Fn.bl 10 3) ?_
    refine pk_ 2 (some 40) (Fn.bl 10 7) ?_
    refine pk_ 3 (some 41) (Fn.bl 10 15) ?_
    refine pk_ 4 (some 42) (Fn.bl 10 31) ?_
    refine pk_ 5 (some 43) (Fn.bl 10 63) ?_
    refine pk_ 6 (some 44) (Fn.bl 10 127) ?_
    refine one_ (i := 7) (N := some 45) (Fn.bl 10 255) rfl rfl (by kernel_rfl) (by decide) (fun K hK => ?_)
    refine step_copy_splice rfl (.tmp 41) (.tmp 44) 22 22 rfl 3 Try.underlying22 hsz.out (some ⟨w.heap.size, 1, none⟩) (some ⟨w.heap.size, 0, none⟩) 2 2 1 3 rfl rfl w.heap.size 1 [Value.int .i64 v, Value.int .i64 0, Value.int .i64 0] 3 ?g1 [Value.int .i64 v] rfl ?g2 (by simp) ?g3 w.heap.size w HB3.out (Nat.le_refl _) ?_
    case g1 => first | exact HG3.out | simpa using HG3.out
    case g2 =>
     refine fun _ => ⟨rfl, _, rfl, fun j u hu => ?_⟩
     rw [add_plain, blk_cell HG3.out]
     match j, hu with
     | 0, hu => exact hu
    case g3 => simp [Value.oneCell']
    intro w4 hg4 hb4
    have HG4 := A_ hg4.out
    have HB4 := A_ hb4
    clear hg4 hb4
    refine hK.out _ _ trivial (fun hHeld => ?_)
    clear hK K
    refine norm_ (a' := ?_) ?_ ?_
    rotate_left
    ·
     show Act.put _ (some 45) _ = _
     simp only [Act.put, List.setIfInBounds_toArray, List.set_cons_zero, List.set_cons_succ, i64_w, i32_w]
     rfl
    refine pk_ 8 (some 46) (Fn.bl 10 511) ?_
    refine pk_ 9 (some 8) (Fn.bl 10 1023) ?_
    refine done_ (by kernel_rfl) ?_
    try go_wp2
    go_roundg (3 - 2)
    case measure => have := HM.out; omega
    case rel => exact ⟨2, by first | rfl | (congr 1; unfold wrap64; omega), ⟨by omega, by omega, by omega⟩, ⟨HG4.out⟩, HB4⟩
   ·
    go_wp2
    refine start_ (n := 10) (S := fun _ => True) (ds := []) (Fn.bl 10 0) (by kernel_rfl) rfl rfl trivial (fun hHeld => ?_)
    have HG3 := A_ (blk_drew HG.out)
    have HB3 := A_ (below_drew HB.out)
    clear HG HB
    generalize wr.drew = w3 at HG3 HB3 hHeld ⊢
    refine pk_ 0 (some 38) (Fn.bl 10 1) ?_
    refine pk_ 1 (some 39) (Fn.bl 10 3) ?_
    refine pk_ 2 (some 40) (Fn.bl 10 7) ?_
    refine pk_ 3 (some 41) (Fn.bl 10 15) ?_
    refine pk_ 4 (some 42) (Fn.bl 10 31) ?_
    refine pk_ 5 (some 43) (Fn.bl 10 63) ?_
    refine pk_ 6 (some 44) (Fn.bl 10 127) ?_
    refine one_ (i := 7) (N := some 45) (Fn.bl 10 255) rfl rfl (by kernel_rfl) (by decide) (fun K hK => ?_)
    refine step_copy_splice rfl (.tmp 41) (.tmp 44) 22 22 rfl 3 Try.underlying22 hsz.out (some ⟨w.heap.size, 2, none⟩) (some ⟨w.heap.size, 0, none⟩) 1 1 2 3 rfl rfl w.heap.size 2 [Value.int .i64 v, Value.int .i64 v, Value.int .i64 0] 3 ?g1 [Value.int .i64 v] rfl ?g2 (by simp) ?g3 w.heap.size w HB3.out (Nat.le_refl _) ?_
    case g1 => first | exact HG3.out | simpa using HG3.out
    case g2 =>
     refine fun _ => ⟨rfl, _, rfl, fun j u hu => ?_⟩
     rw [add_plain, blk_cell HG3.out]
     match j, hu with
     | 0, hu => exact hu
    case g3 => simp [Value.oneCell']
    intro w4 hg4 hb4
    have HG4 := A_ hg4.out
    have HB4 := A_ hb4
    clear hg4 hb4
    refine hK.out _ _ trivial (fun hHeld => ?_)
    clear hK K
    refine norm_ (a' := ?_) ?_ ?_
    rotate_left
    ·
     show Act.put _ (some 45) _ = _
     simp only [Act.put, List.setIfInBounds_toArray, List.set_cons_zero, List.set_cons_succ, i64_w, i32_w]
     rfl
    refine pk_ 8 (some 46) (Fn.bl 10 511) ?_
    refine pk_ 9 (some 8) (Fn.bl 10 1023) ?_
    refine done_ (by kernel_rfl) ?_
    try go_wp2
    go_roundg (3 - 3)
    case measure => have := HM.out; omega
    case rel => exact ⟨3, by first | rfl | (congr 1; unfold wrap64; omega), ⟨by omega, by omega, by omega⟩, ⟨HG4.out⟩, HB4⟩
   ·
    go_wp2
    go_ret
    exact ⟨_, rfl, slices_Repeat_int_int.own HG.out (Nat.le_refl _) (by decide), HB.out⟩
 ·
  have hmk : ∀ W : World, (Instr.makeSlice 22 (.int .i64 4) (.int .i64 4)).run Try.prog W = .ok (.slice (some ⟨W.heap.size, 0, none⟩) 4 4) (W.alloc (.cells #[Value.int .i64 0, Value.int .i64 0, Value.int .i64 0, Value.int .i64 0] 3)) := fun W => by
   have hz := print_make (P := Try.prog) 22 3 .i64 8 Try.underlying22 info3 (by decide) 4 (by decide) W
   rw [show madeCells #[Value.int .i64 0] 4 = #[Value.int .i64 0, Value.int .i64 0, Value.int .i64 0, Value.int .i64 0] from by kernel_rfl] at hz
   simpa using hz
  have hmul : bits_Mul.f 1 4 = some (0, 4) := by decide +kernel
  replace hmul := A_ hmul
  go_enter Try.func146, Try.ntmps146
  go_wp2_with (first | (go_at_call 200; (with_reducible refine (bits_Mul.calls 1 4 0 4 _ hmul.out).mono ?_); rintro e w1 ⟨rfl, ⟨nd, rfl⟩⟩) | (refine wpList_copy_splice rfl (.tmp 31) (.tmp 32) 22 22 rfl 3 Try.underlying22 hsz.out (some ⟨w.heap.size, 0, none⟩) (some ad) 4 4 1 c0 rfl rfl w.heap.size 0 [Value.int .i64 0, Value.int .i64 0, Value.int .i64 0, Value.int .i64 0] 3 ?g1 [.int .i64 v] rfl ?g2 (by simp) ?g3 w.heap.size w ?g4 (Nat.le_refl _) ?_; (case g1 => (have hz := blk_new (w.drewN nd) (Obj.cells #[Value.int .i64 0, Value.int .i64 0, Value.int .i64 0, Value.int .i64 0] 3); simpa using hz)); (case g2 => exact fun _ => ⟨rfl, ad, rfl, fun j u hu => by (obtain ⟨rfl, rfl⟩ : j = 0 ∧ Value.int .i64 v = u := by (match j, hu with | 0, hu => exact ⟨rfl, Option.some.inj hu⟩)); rw [Addr.add_zero']; exact (Below.cell (below_alloc (pw_below_drewN (Below.refl _ _) nd) _) (World.block_lt_of_cell? _ _ HX.out)).trans HX.out⟩); (case g3 => simp [Value.oneCell']); (case g4 => exact below_alloc (pw_below_drewN (Below.refl _ _) nd) _); intro w2 hg2 hb2; have HG := A_ hg2.out; have HB := A_ hb2; clear hg2 hb2))
  go_loopg [8] 3 (fun kq v8 wr => ∃ m : Int, v8 = .int .i64 m ∧ Aside0 (1 ≤ m ∧ m ≤ 4 ∧ kq = 4 - m.toNat) ∧ Aside0 (wr.heap[w.heap.size]? = some (.cells (List.replicate m.toNat (Value.int .i64 v) ++ List.replicate (4 - m.toNat) (Value.int .i64 0)).toArray 3 (0, 0))) ∧ Aside0 (Below w.heap.size w wr))
  case atStart => exact ⟨1, rfl, ⟨by omega, by omega, by omega⟩, ⟨HG.out⟩, HB⟩
  case round =>
   clear HG HB hmk hmul
   obtain ⟨m, rfl, HM, HG, HB⟩ := hrel
   have hm := HM.out
   have hm2 : m = 1 ∨ m = 2 ∨ m = 3 ∨ m = 4 := by omega
   clear hm
   rcases hm2 with rfl | rfl | rfl | rfl
   ·
    go_wp2
    refine start_ (n := 10) (S := fun _ => True) (ds := []) (Fn.bl 10 0) (by kernel_rfl) rfl rfl trivial (fun hHeld => ?_)
    have HG3 := A_ (blk_drew HG.out)
    have HB3 := A_ (below_drew HB.out)
    clear HG HB
    generalize wr.drew = w3 at HG3 HB3 hHeld ⊢
    refine pk_ 0 (some 38) (Fn.bl 10 1) ?_
    refine pk_ 1 (some 39) (Fn.bl 10 3) ?_
    refine pk_ 2 (some 40) (Fn.bl 10 7) ?_
    refine pk_ 3 (some 41) (Fn.bl 10 15) ?_
    refine pk_ 4 (some 42) (Fn.bl 10 31) ?_
    refine pk_ 5 (some 43) (Fn.bl 10 63) ?_
    refine pk_ 6 (some 44) (Fn.bl 10 127) ?_
    refine one_ (i := 7) (N := some 45) (Fn.bl 10 255) rfl rfl (by kernel_rfl) (by decide) (fun K hK => ?_)
    refine step_copy_splice rfl (.tmp 41) (.tmp 44) 22 22 rfl 3 Try.underlying22 hsz.out (some ⟨w.heap.size, 1, none⟩) (some ⟨w.heap.size, 0, none⟩) 3 3 1 4 rfl rfl w.heap.size 1 [Value.int .i64 v, Value.int .i64 0, Value.int .i64 0, Value.int .i64 0] 3 ?g1 [Value.int .i64 v] rfl ?g2 (by simp) ?g3 w.heap.size w HB3.out (Nat.le_refl _) ?_
    case g1 => first | exact HG3.out | simpa using HG3.out
    case g2 =>
     refine fun _ => ⟨rfl, _, rfl, fun j u hu => ?_⟩
     rw [add_plain, blk_cell HG3.out]
     match j, hu with
     | 0, hu => exact hu
    case g3 => simp [Value.oneCell']
    intro w4 hg4 hb4
    have HG4 := A_ hg4.out
    have HB4 := A_ hb4
    clear hg4 hb4
    refine hK.out _ _ trivial (fun hHeld => ?_)
    clear hK K
    refine norm_ (a' := ?_) ?_ ?_
    rotate_left
    ·
     show Act.put _ (some 45) _ = _
     simp only [Act.put, List.setIfInBounds_toArray, List.set_cons_zero, List.set_cons_succ, i64_w, i32_w]
     rfl
    refine pk_ 8 (some 46) (Fn.bl 10 511) ?_
    refine pk_ 9 (some 8) (Fn.bl 10 1023) ?_
    refine done_ (by kernel_rfl) ?_
    try go_wp2
    go_roundg (4 - 2)
    case measure => have := HM.out; omega
    case rel => exact ⟨2, by first | rfl | (congr 1; unfold wrap64; omega), ⟨by omega, by omega, by omega⟩, ⟨HG4.out⟩, HB4⟩
   ·
    go_wp2
    refine start_ (n := 10) (S := fun _ => True) (ds := []) (Fn.bl 10 0) (by kernel_rfl) rfl rfl trivial (fun hHeld => ?_)
    have HG3 := A_ (blk_drew HG.out)
    have HB3 := A_ (below_drew HB.out)
    clear HG HB
    generalize wr.drew = w3 at HG3 HB3 hHeld ⊢
    refine pk_ 0 (some 38) (Fn.bl 10 1) ?_
    refine pk_ 1 (some 39) (Fn.bl 10 3) ?_
    refine pk_ 2 (some 40) (Fn.bl 10 7) ?_
    refine pk_ 3 (some 41) (Fn.bl 10 15) ?_
    refine pk_ 4 (some 42) (Fn.bl 10 31) ?_
    refine pk_ 5 (some 43) (Fn.bl 10 63) ?_
    refine pk_ 6 (some 44) (Fn.bl 10 127) ?_
    refine one_ (i := 7) (N := some 45) (Fn.bl 10 255) rfl rfl (by kernel_rfl) (by decide) (fun K hK => ?_)
    refine step_copy_splice rfl (.tmp 41) (.tmp 44) 22 22 rfl 3 Try.underlying22 hsz.out (some ⟨w.heap.size, 2, none⟩) (some ⟨w.heap.size, 0, none⟩) 2 2 2 4 rfl rfl w.heap.size 2 [Value.int .i64 v, Value.int .i64 v, Value.int .i64 0, Value.int .i64 0] 3 ?g1 [Value.int .i64 v, Value.int .i64 v] rfl ?g2 (by simp) ?g3 w.heap.size w HB3.out (Nat.le_refl _) ?_
    case g1 => first | exact HG3.out | simpa using HG3.out
    case g2 =>
     refine fun _ => ⟨rfl, _, rfl, fun j u hu => ?_⟩
     rw [add_plain, blk_cell HG3.out]
     match j, hu with
     | 0, hu => exact hu
     | 1, hu => exact hu
    case g3 => simp [Value.oneCell']
    intro w4 hg4 hb4
    have HG4 := A_ hg4.out
    have HB4 := A_ hb4
    clear hg4 hb4
    refine hK.out _ _ trivial (fun hHeld => ?_)
    clear hK K
    refine norm_ (a' := ?_) ?_ ?_
    rotate_left
    ·
     show Act.put _ (some 45) _ = _
     simp only [Act.put, List.setIfInBounds_toArray, List.set_cons_zero, List.set_cons_succ, i64_w, i32_w]
     rfl
    refine pk_ 8 (some 46) (Fn.bl 10 511) ?_
    refine pk_ 9 (some 8) (Fn.bl 10 1023) ?_
    refine done_ (by kernel_rfl) ?_
    try go_wp2
    go_roundg (4 - 4)
    case measure => have := HM.out; omega
    case rel => exact ⟨4, by first | rfl | (congr 1; unfold wrap64; omega), ⟨by omega, by omega, by omega⟩, ⟨HG4.out⟩, HB4⟩
   ·
    go_wp2
    refine start_ (n := 10) (S := fun _ => True) (ds := []) (Fn.bl 10 0) (by kernel_rfl) rfl rfl trivial (fun hHeld => ?_)
    have HG3 := A_ (blk_drew HG.out)
    have HB3 := A_ (below_drew HB.out)
    clear HG HB
    generalize wr.drew = w3 at HG3 HB3 hHeld ⊢
    refine pk_ 0 (some 38) (Fn.bl 10 1) ?_
    refine pk_ 1 (some 39) (Fn.bl 10 3) ?_
    refine pk_ 2 (some 40) (Fn.bl 10 7) ?_
    refine pk_ 3 (some 41) (Fn.bl 10 15) ?_
    refine pk_ 4 (some 42) (Fn.bl 10 31) ?_
    refine pk_ 5 (some 43) (Fn.bl 10 63) ?_
    refine pk_ 6 (some 44) (Fn.bl 10 127) ?_
    refine one_ (i := 7) (N := some 45) (Fn.bl 10 255) rfl rfl (by kernel_rfl) (by decide) (fun K hK => ?_)
    refine step_copy_splice rfl (.tmp 41) (.tmp 44) 22 22 rfl 3 Try.underlying22 hsz.out (some ⟨w.heap.size, 3, none⟩) (some ⟨w.heap.size, 0, none⟩) 1 1 3 4 rfl rfl w.heap.size 3 [Value.int .i64 v, Value.int .i64 v, Value.int .i64 v, Value.int .i64 0] 3 ?g1 [Value.int .i64 v] rfl ?g2 (by simp) ?g3 w.heap.size w HB3.out (Nat.le_refl _) ?_
    case g1 => first | exact HG3.out | simpa using HG3.out
    case g2 =>
     refine fun _ => ⟨rfl, _, rfl, fun j u hu => ?_⟩
     rw [add_plain, blk_cell HG3.out]
     match j, hu with
     | 0, hu => exact hu
    case g3 => simp [Value.oneCell']
    intro w4 hg4 hb4
    have HG4 := A_ hg4.out
    have HB4 := A_ hb4
    clear hg4 hb4
    refine hK.out _ _ trivial (fun hHeld => ?_)
    clear hK K
    refine norm_ (a' := ?_) ?_ ?_
    rotate_left
    ·
     show Act.put _ (some 45) _ = _
     simp only [Act.put, List.setIfInBounds_toArray, List.set_cons_zero, List.set_cons_succ, i64_w, i32_w]
     rfl
    refine pk_ 8 (some 46) (Fn.bl 10 511) ?_
    refine pk_ 9 (some 8) (Fn.bl 10 1023) ?_
    refine done_ (by kernel_rfl) ?_
    try go_wp2
    go_roundg (4 - 4)
    case measure => have := HM.out; omega
    case rel => exact ⟨4, by first | rfl | (congr 1; unfold wrap64; omega), ⟨by omega, by omega, by omega⟩, ⟨HG4.out⟩, HB4⟩
   ·
    go_wp2
    go_ret
    exact ⟨_, rfl, slices_Repeat_int_int.own HG.out (Nat.le_refl _) (by decide), HB.out⟩
 ·
  have hmk : ∀ W : World, (Instr.makeSlice 22 (.int .i64 5) (.int .i64 5)).run Try.prog W = .ok (.slice (some ⟨W.heap.size, 0, none⟩) 5 5) (W.alloc (.cells #[Value.int .i64 0, Value.int .i64 0, Value.int .i64 0, Value.int .i64 0, Value.int .i64 0] 3)) := fun W => by
   have hz := print_make (P := Try.prog) 22 3 .i64 8 Try.underlying22 info3 (by decide) 5 (by decide) W
   rw [show madeCells #[Value.int .i64 0] 5 = #[Value.int .i64 0, Value.int .i64 0, Value.int .i64 0, Value.int .i64 0, Value.int .i64 0] from by kernel_rfl] at hz
   simpa using hz
  have hmul : bits_Mul.f 1 5 = some (0, 5) := by decide +kernel
  replace hmul := A_ hmul
  go_enter Try.func146, Try.ntmps146
  go_wp2_with (first | (go_at_call 200; (with_reducible refine (bits_Mul.calls 1 5 0 5 _ hmul.out).mono ?_); rintro e w1 ⟨rfl, ⟨nd, rfl⟩⟩) | (refine wpList_copy_splice rfl (.tmp 31) (.tmp 32) 22 22 rfl 3 Try.underlying22 hsz.out (some ⟨w.heap.size, 0, none⟩) (some ad) 5 5 1 c0 rfl rfl w.heap.size 0 [Value.int .i64 0, Value.int .i64 0, Value.int .i64 0, Value.int .i64 0, Value.int .i64 0] 3 ?g1 [.int .i64 v] rfl ?g2 (by simp) ?g3 w.heap.size w ?g4 (Nat.le_refl _) ?_; (case g1 => (have hz := blk_new (w.drewN nd) (Obj.cells #[Value.int .i64 0, Value.int .i64 0, Value.int .i64 0, Value.int .i64 0, Value.int .i64 0] 3); simpa using hz)); (case g2 => exact fun _ => ⟨rfl, ad, rfl, fun j u hu => by (obtain ⟨rfl, rfl⟩ : j = 0 ∧ Value.int .i64 v = u := by (match j, hu with | 0, hu => exact ⟨rfl, Option.some.inj hu⟩)); rw [Addr.add_zero']; exact (Below.cell (below_alloc (pw_below_drewN (Below.refl _ _) nd) _) (World.block_lt_of_cell? _ _ HX.out)).trans HX.out⟩); (case g3 => simp [Value.oneCell']); (case g4 => exact below_alloc (pw_below_drewN (Below.refl _ _) nd) _); intro w2 hg2 hb2; have HG := A_ hg2.out; have HB := A_ hb2; clear hg2 hb2))
  go_loopg [8] 4 (fun kq v8 wr => ∃ m : Int, v8 = .int .i64 m ∧ Aside0 (1 ≤ m ∧ m ≤ 5 ∧ kq = 5 - m.toNat) ∧ Aside0 (wr.heap[w.heap.size]? = some (.cells (List.replicate m.toNat (Value.int .i64 v) ++ List.replicate (5 - m.toNat) (Value.int .i64 0)).toArray 3 (0, 0))) ∧ Aside0 (Below w.heap.size w wr))
  case atStart => exact ⟨1, rfl, ⟨by omega, by omega, by omega⟩, ⟨HG.out⟩, HB⟩
  case round =>
   clear HG HB hmk hmul
   obtain ⟨m, rfl, HM, HG, HB⟩ := hrel
   have hm := HM.out
   have hm2 : m = 1 ∨ m = 2 ∨ m = 3 ∨ m = 4 ∨ m = 5 := by omega
   clear hm
   rcases hm2 with rfl | rfl | rfl | rfl | rfl
   ·
    go_wp2
    refine start_ (n := 10) (S := fun _ => True) (ds := []) (Fn.bl 10 0) (by kernel_rfl) rfl rfl trivial (fun hHeld => ?_)
    have HG3 := A_ (blk_drew HG.out)
    have HB3 := A_ (below_drew HB.out)
    clear HG HB
    generalize wr.drew = w3 at HG3 HB3 hHeld ⊢
    refine pk_ 0 (some 38) (Fn.bl 10 1) ?_
    refine pk_ 1 (some 39) (Fn.bl 10 3) ?_
    refine pk_ 2 (some 40) (Fn.bl 10 7) ?_
    refine pk_ 3 (some 41) (Fn.bl 10 15) ?_
    refine pk_ 4 (some 42) (Fn.bl 10 31) ?_
    refine pk_ 5 (some 43) (Fn.bl 10 63) ?_
    refine pk_ 6 (some 44) (Fn.bl 10 127) ?_
    refine one_ (i := 7) (N := some 45) (Fn.bl 10 255) rfl rfl (by kernel_rfl) (by decide) (fun K hK => ?_)
    refine step_copy_splice rfl (.tmp 41) (.tmp 44) 22 22 rfl 3 Try.underlying22 hsz.out (some ⟨w.heap.size, 1, none⟩) (some ⟨w.heap.size, 0, none⟩) 4 4 1 5 rfl rfl w.heap.size 1 [Value.int .i64 v, Value.int .i64 0, Value.int .i64 0, Value.int .i64 0, Value.int .i64 0] 3 ?g1 [Value.int .i64 v] rfl ?g2 (by simp) ?g3 w.heap.size w HB3.out (Nat.le_refl _) ?_
    case g1 => first | exact HG3.out | simpa using HG3.out
    case g2 =>
     refine fun _ => ⟨rfl, _, rfl, fun j u hu => ?_⟩
     rw [add_plain, blk_cell HG3.out]
     match j, hu with
     | 0, hu => exact hu
    case g3 => simp [Value.oneCell']
    intro w4 hg4 hb4
    have HG4 := A_ hg4.out
    have HB4 := A_ hb4
    clear hg4 hb4
    refine hK.out _ _ trivial (fun hHeld => ?_)
    clear hK K
    refine norm_ (a' := ?_) ?_ ?_
    rotate_left
    ·
     show Act.put _ (some 45) _ = _
     simp only [Act.put, List.setIfInBounds_toArray, List.set_cons_zero, List.set_cons_succ, i64_w, i32_w]
     rfl
    refine pk_ 8 (some 46) (Fn.bl 10 511) ?_
    refine pk_ 9 (some 8) (Fn.bl 10 1023) ?_
    refine done_ (by kernel_rfl) ?_
    try go_wp2
    go_roundg (5 - 2)
    case measure => have := HM.out; omega
    case rel => exact ⟨2, by first | rfl | (congr 1; unfold wrap64; omega), ⟨by omega, by omega, by omega⟩, ⟨HG4.out⟩, HB4⟩
   ·
    go_wp2
    refine start_ (n := 10) (S := fun _ => True) (ds := []) (Fn.bl 10 0) (by kernel_rfl) rfl rfl trivial (fun hHeld => ?_)
    have HG3 := A_ (blk_drew HG.out)
    have HB3 := A_ (below_drew HB.out)
    clear HG HB
    generalize wr.drew = w3 at HG3 HB3 hHeld ⊢
    refine pk_ 0 (some 38) (Fn.bl 10 1) ?_
    refine pk_ 1 (some 39) (Fn.bl 10 3) ?_
    refine pk_ 2 (some 40) (Fn.bl 10 7) ?_
    refine pk_ 3 (some 41) (Fn.bl 10 15) ?_
    refine pk_ 4 (some 42) (Fn.bl 10 31) ?_
    refine pk_ 5 (some 43) (Fn.bl 10 63) ?_
    refine pk_ 6 (some 44) (Fn.bl 10 127) ?_
    refine one_ (i := 7) (N := some 45) (Fn.bl 10 255) rfl rfl (by kernel_rfl) (by decide) (fun K hK => ?_)
    refine step_copy_splice rfl (.tmp 41) (.tmp 44) 22 22 rfl 3 Try.underlying22 hsz.out (some ⟨w.heap.size, 2, none⟩) (some ⟨w.heap.size, 0, none⟩) 3 3 2 5 rfl rfl w.heap.size 2 [Value.int .i64 v, Value.int .i64 v, Value.int .i64 0, Value.int .i64 0, Value.int .i64 0] 3 ?g1 [Value.int .i64 v, Value.int .i64 v] rfl ?g2 (by simp) ?g3 w.heap.size w HB3.out (Nat.le_refl _) ?_
    case g1 => first | exact HG3.out | simpa using HG3.out
    case g2 =>
     refine fun _ => ⟨rfl, _, rfl, fun j u hu => ?_⟩
     rw [add_plain, blk_cell HG3.out]
     match j, hu with
     | 0, hu => exact hu
     | 1, hu => exact hu
    case g3 => simp [Value.oneCell']
    intro w4 hg4 hb4
    have HG4 := A_ hg4.out
    have HB4 := A_ hb4
    clear hg4 hb4
    refine hK.out _ _ trivial (fun hHeld => ?_)
    clear hK K
    refine norm_ (a' := ?_) ?_ ?_
    rotate_left
    ·
     show Act.put _ (some 45) _ = _
     simp only [Act.put, List.setIfInBounds_toArray, List.set_cons_zero, List.set_cons_succ, i64_w, i32_w]
     rfl
    refine pk_ 8 (some 46) (Fn.bl 10 511) ?_
    refine pk_ 9 (some 8) (Fn.bl 10 1023) ?_
    refine done_ (by kernel_rfl) ?_
    try go_wp2
    go_roundg (5 - 4)
    case measure => have := HM.out; omega
    case rel => exact ⟨4, by first | rfl | (congr 1; unfold wrap64; omega), ⟨by omega, by omega, by omega⟩, ⟨HG4.out⟩, HB4⟩
   ·
    go_wp2
    refine start_ (n := 10) (S := fun _ => True) (ds := []) (Fn.bl 10 0) (by kernel_rfl) rfl rfl trivial (fun hHeld => ?_)
    have HG3 := A_ (blk_drew HG.out)
    have HB3 := A_ (below_drew HB.out)
    clear HG HB
    generalize wr.drew = w3 at HG3 HB3 hHeld ⊢
    refine pk_ 0 (some 38) (Fn.bl 10 1) ?_
    refine pk_ 1 (some 39) (Fn.bl 10 3) ?_
    refine pk_ 2 (some 40) (Fn.bl 10 7) ?_
    refine pk_ 3 (some 41) (Fn.bl 10 15) ?_
    refine pk_ 4 (some 42) (Fn.bl 10 31) ?_
    refine pk_ 5 (some 43) (Fn.bl 10 63) ?_
    refine pk_ 6 (some 44) (Fn.bl 10 127) ?_
    refine one_ (i := 7) (N := some 45) (Fn.bl 10 255) rfl rfl (by kernel_rfl) (by decide) (fun K hK => ?_)
    refine step_copy_splice rfl (.tmp 41) (.tmp 44) 22 22 rfl 3 Try.underlying22 hsz.out (some ⟨w.heap.size, 3, none⟩) (some ⟨w.heap.size, 0, none⟩) 2 2 3 5 rfl rfl w.heap.size 3 [Value.int .i64 v, Value.int .i64 v, Value.int .i64 v, Value.int .i64 0, Value.int .i64 0] 3 ?g1 [Value.int .i64 v, Value.int .i64 v] rfl ?g2 (by simp) ?g3 w.heap.size w HB3.out (Nat.le_refl _) ?_
    case g1 => first | exact HG3.out | simpa using HG3.out
    case g2 =>
     refine fun _ => ⟨rfl, _, rfl, fun j u hu => ?_⟩
     rw [add_plain, blk_cell HG3.out]
     match j, hu with
     | 0, hu => exact hu
     | 1, hu => exact hu
    case g3 => simp [Value.oneCell']
    intro w4 hg4 hb4
    have HG4 := A_ hg4.out
    have HB4 := A_ hb4
    clear hg4 hb4
    refine hK.out _ _ trivial (fun hHeld => ?_)
    clear hK K
    refine norm_ (a' := ?_) ?_ ?_
    rotate_left
    ·
     show Act.put _ (some 45) _ = _
     simp only [Act.put, List.setIfInBounds_toArray, List.set_cons_zero, List.set_cons_succ, i64_w, i32_w]
     rfl
    refine pk_ 8 (some 46) (Fn.bl 10 511) ?_
    refine pk_ 9 (some 8) (Fn.bl 10 1023) ?_
    refine done_ (by kernel_rfl) ?_
    try go_wp2
    go_roundg (5 - 5)
    case measure => have := HM.out; omega
    case rel => exact ⟨5, by first | rfl | (congr 1; unfold wrap64; omega), ⟨by omega, by omega, by omega⟩, ⟨HG4.out⟩, HB4⟩
   ·
    go_wp2
    refine start_ (n := 10) (S := fun _ => True) (ds := []) (Fn.bl 10 0) (by kernel_rfl) rfl rfl trivial (fun hHeld => ?_)
    have HG3 := A_ (blk_drew HG.out)
    have HB3 := A_ (below_drew HB.out)
    clear HG HB
    generalize wr.drew = w3 at HG3 HB3 hHeld ⊢
    refine pk_ 0 (some 38) (Fn.bl 10 1) ?_
    refine pk_ 1 (some 39) (Fn.bl 10 3) ?_
    refine pk_ 2 (some 40) (Fn.bl 10 7) ?_
    refine pk_ 3 (some 41) (Fn.bl 10 15) ?_
    refine pk_ 4 (some 42) (Fn.bl 10 31) ?_
    refine pk_ 5 (some 43) (Fn.bl 10 63) ?_
    refine pk_ 6 (some 44) (Fn.bl 10 127) ?_
    refine one_ (i := 7) (N := some 45) (Fn.bl 10 255) rfl rfl (by kernel_rfl) (by decide) (fun K hK => ?_)
    refine step_copy_splice rfl (.tmp 41) (.tmp 44) 22 22 rfl 3 Try.underlying22 hsz.out (some ⟨w.heap.size, 4, none⟩) (some ⟨w.heap.size, 0, none⟩) 1 1 4 5 rfl rfl w.heap.size 4 [Value.int .i64 v, Value.int .i64 v, Value.int .i64 v, Value.int .i64 v, Value.int .i64 0] 3 ?g1 [Value.int .i64 v] rfl ?g2 (by simp) ?g3 w.heap.size w HB3.out (Nat.le_refl _) ?_
    case g1 => first | exact HG3.out | simpa using HG3.out
    case g2 =>
     refine fun _ => ⟨rfl, _, rfl, fun j u hu => ?_⟩
     rw [add_plain, blk_cell HG3.out]
     match j, hu with
     | 0, hu => exact hu
    case g3 => simp [Value.oneCell']
    intro w4 hg4 hb4
    have HG4 := A_ hg4.out
    have HB4 := A_ hb4
    clear hg4 hb4
    refine hK.out _ _ trivial (fun hHeld => ?_)
    clear hK K
    refine norm_ (a' := ?_) ?_ ?_
    rotate_left
    ·
     show Act.put _ (some 45) _ = _
     simp only [Act.put, List.setIfInBounds_toArray, List.set_cons_zero, List.set_cons_succ, i64_w, i32_w]
     rfl
    refine pk_ 8 (some 46) (Fn.bl 10 511) ?_
    refine pk_ 9 (some 8) (Fn.bl 10 1023) ?_
    refine done_ (by kernel_rfl) ?_
    try go_wp2
    go_roundg (5 - 5)
    case measure => have := HM.out; omega
    case rel => exact ⟨5, by first | rfl | (congr 1; unfold wrap64; omega), ⟨by omega, by omega, by omega⟩, ⟨HG4.out⟩, HB4⟩
   ·
    go_wp2
    go_ret
    exact ⟨_, rfl, slices_Repeat_int_int.own HG.out (Nat.le_refl _) (by decide), HB.out⟩
 ·
  have hmk : ∀ W : World, (Instr.makeSlice 22 (.int .i64 6) (.int .i64 6)).run Try.prog W = .ok (.slice (some ⟨W.heap.size, 0, none⟩) 6 6) (W.alloc (.cells #[Value.int .i64 0, Value.int .i64 0, Value.int .i64 0, Value.int .i64 0, Value.int .i64 0, Value.int .i64 0] 3)) := fun W => by
   have hz := print_make (P := Try.prog) 22 3 .i64 8 Try.underlying22 info3 (by decide) 6 (by decide) W
   rw [show madeCells #[Value.int .i64 0] 6 = #[Value.int .i64 0, Value.int .i64 0, Value.int .i64 0, Value.int .i64 0, Value.int .i64 0, Value.int .i64 0] from by kernel_rfl] at hz
   simpa using hz
  have hmul : bits_Mul.f 1 6 = some (0, 6) := by decide +kernel
  replace hmul := A_ hmul
  go_enter Try.func146, Try.ntmps146
  go_wp2_with (first | (go_at_call 200; (with_reducible refine (bits_Mul.calls 1 6 0 6 _ hmul.out).mono ?_); rintro e w1 ⟨rfl, ⟨nd, rfl⟩⟩) | (refine wpList_copy_splice rfl (.tmp 31) (.tmp 32) 22 22 rfl 3 Try.underlying22 hsz.out (some ⟨w.heap.size, 0, none⟩) (some ad) 6 6 1 c0 rfl rfl w.heap.size 0 [Value.int .i64 0, Value.int .i64 0, Value.int .i64 0, Value.int .i64 0, Value.int .i64 0, Value.int .i64 0] 3 ?g1 [.int .i64 v] rfl ?g2 (by simp) ?g3 w.heap.size w ?g4 (Nat.le_refl _) ?_; (case g1 => (have hz := blk_new (w.drewN nd) (Obj.cells #[Value.int .i64 0, Value.int .i64 0, Value.int .i64 0, Value.int .i64 0, Value.int .i64 0, Value.int .i64 0] 3); simpa using hz)); (case g2 => exact fun _ => ⟨rfl, ad, rfl, fun j u hu => by (obtain ⟨rfl, rfl⟩ : j = 0 ∧ Value.int .i64 v = u := by (match j, hu with | 0, hu => exact ⟨rfl, Option.some.inj hu⟩)); rw [Addr.add_zero']; exact (Below.cell (below_alloc (pw_below_drewN (Below.refl _ _) nd) _) (World.block_lt_of_cell? _ _ HX.out)).trans HX.out⟩); (case g3 => simp [Value.oneCell']); (case g4 => exact below_alloc (pw_below_drewN (Below.refl _ _) nd) _); intro w2 hg2 hb2; have HG := A_ hg2.out; have HB := A_ hb2; clear hg2 hb2))
  go_loopg [8] 5 (fun kq v8 wr => ∃ m : Int, v8 = .int .i64 m ∧ Aside0 (1 ≤ m ∧ m ≤ 6 ∧ kq = 6 - m.toNat) ∧ Aside0 (wr.heap[w.heap.size]? = some (.cells (List.replicate m.toNat (Value.int .i64 v) ++ List.replicate (6 - m.toNat) (Value.int .i64 0)).toArray 3 (0, 0))) ∧ Aside0 (Below w.heap.size w wr))
  case atStart => exact ⟨1, rfl, ⟨by omega, by omega, by omega⟩, ⟨HG.out⟩, HB⟩
  case round =>
   clear HG HB hmk hmul
   obtain ⟨m, rfl, HM, HG, HB⟩ := hrel
   have hm := HM.out
   have hm2 : m = 1 ∨ m = 2 ∨ m = 3 ∨ m = 4 ∨ m = 5 ∨ m = 6 := by omega
   clear hm
   rcases hm2 with rfl | rfl | rfl | rfl | rfl | rfl
   ·
    go_wp2
    refine start_ (n := 10) (S := fun _ => True) (ds := []) (Fn.bl 10 0) (by kernel_rfl) rfl rfl trivial (fun hHeld => ?_)
    have HG3 := A_ (blk_drew HG.out)
    have HB3 := A_ (below_drew HB.out)
    clear HG HB
    generalize wr.drew = w3 at HG3 HB3 hHeld ⊢
    refine pk_ 0 (some 38) (Fn.bl 10 1) ?_
    refine pk_ 1 (some 39) (Fn.bl 10 3) ?_
    refine pk_ 2 (some 40) (Fn.bl 10 7) ?_
    refine pk_ 3 (some 41) (Fn.bl 10 15) ?_
    refine pk_ 4 (some 42) (Fn.bl 10 31) ?_
    refine pk_ 5 (some 43) (Fn.bl 10 63) ?_
    refine pk_ 6 (some 44) (Fn.bl 10 127) ?_
    refine one_ (i := 7) (N := some 45) (Fn.bl 10 255) rfl rfl (by kernel_rfl) (by decide) (fun K hK => ?_)
    refine step_copy_splice rfl (.tmp 41) (.tmp 44) 22 22 rfl 3 Try.underlying22 hsz.out (some ⟨w.heap.size, 1, none⟩) (some ⟨w.heap.size, 0, none⟩) 5 5 1 6 rfl rfl w.heap.size 1 [Value.int .i64 v, Value.int .i64 0, Value.int .i64 0, Value.int .i64 0, Value.int .i64 0, Value.int .i64 0] 3 ?g1 [Value.int .i64 v] rfl ?g2 (by simp) ?g3 w.heap.size w HB3.out (Nat.le_refl _) ?_
    case g1 => first | exact HG3.out | simpa using HG3.out
    case g2 =>
     refine fun _ => ⟨rfl, _, rfl, fun j u hu => ?_⟩
     rw [add_plain, blk_cell HG3.out]
     match j, hu with
     | 0, hu => exact hu
    case g3 => simp [Value.oneCell']
    intro w4 hg4 hb4
    have HG4 := A_ hg4.out
    have HB4 := A_ hb4
    clear hg4 hb4
    refine hK.out _ _ trivial (fun hHeld => ?_)
    clear hK K
    refine norm_ (a' := ?_) ?_ ?_
    rotate_left
    ·
     show Act.put _ (some 45) _ = _
     simp only [Act.put, List.setIfInBounds_toArray, List.set_cons_zero, List.set_cons_succ, i64_w, i32_w]
     rfl
    refine pk_ 8 (some 46) (Fn.bl 10 511) ?_
    refine pk_ 9 (some 8) (Fn.bl 10 1023) ?_
    refine done_ (by kernel_rfl) ?_
    try go_wp2
    go_roundg (6 - 2)
    case measure => have := HM.out; omega
    case rel => exact ⟨2, by first | rfl | (congr 1; unfold wrap64; omega), ⟨by omega, by omega, by omega⟩, ⟨HG4.out⟩, HB4⟩
   ·
    go_wp2
    refine start_ (n := 10) (S := fun _ => True) (ds := []) (Fn.bl 10 0) (by kernel_rfl) rfl rfl trivial (fun hHeld => ?_)
    have HG3 := A_ (blk_drew HG.out)
    have HB3 := A_ (below_drew HB.out)
    clear HG HB
    generalize wr.drew = w3 at HG3 HB3 hHeld ⊢
    refine pk_ 0 (some 38) (Fn.bl 10 1) ?_
    refine pk_ 1 (some 39) (Fn.bl 10 3) ?_
    refine pk_ 2 (some 40) (Fn.bl 10 7) ?_
    refine pk_ 3 (some 41) (Fn.bl 10 15) ?_
    refine pk_ 4 (some 42) (Fn.bl 10 31) ?_
    refine pk_ 5 (some 43) (Fn.bl 10 63) ?_
    refine pk_ 6 (some 44) (Fn.bl 10 127) ?_
    refine one_ (i := 7) (N := some 45) (Fn.bl 10 255) rfl rfl (by kernel_rfl) (by decide) (fun K hK => ?_)
    refine step_copy_splice rfl (.tmp 41) (.tmp 44) 22 22 rfl 3 Try.underlying22 hsz.out (some ⟨w.heap.size, 2, none⟩) (some ⟨w.heap.size, 0, none⟩) 4 4 2 6 rfl rfl w.heap.size 2 [Value.int .i64 v, Value.int .i64 v, Value.int .i64 0, Value.int .i64 0, Value.int .i64 0, Value.int .i64 0] 3 ?g1 [Value.int .i64 v, Value.int .i64 v] rfl ?g2 (by simp) ?g3 w.heap.size w HB3.out (Nat.le_refl _) ?_
    case g1 => first | exact HG3.out | simpa using HG3.out
    case g2 =>
     refine fun _ => ⟨rfl, _, rfl, fun j u hu => ?_⟩
     rw [add_plain, blk_cell HG3.out]
     match j, hu with
     | 0, hu => exact hu
     | 1, hu => exact hu
    case g3 => simp [Value.oneCell']
    intro w4 hg4 hb4
    have HG4 := A_ hg4.out
    have HB4 := A_ hb4
    clear hg4 hb4
    refine hK.out _ _ trivial (fun hHeld => ?_)
    clear hK K
    refine norm_ (a' := ?_) ?_ ?_
    rotate_left
    ·
     show Act.put _ (some 45) _ = _
     simp only [Act.put, List.setIfInBounds_toArray, List.set_cons_zero, List.set_cons_succ, i64_w, i32_w]
     rfl
    refine pk_ 8 (some 46) (Fn.bl 10 511) ?_
    refine pk_ 9 (some 8) (Fn.bl 10 1023) ?_
    refine done_ (by kernel_rfl) ?_
    try go_wp2
    go_roundg (6 - 4)
    case measure => have := HM.out; omega
    case rel => exact ⟨4, by first | rfl | (congr 1; unfold wrap64; omega), ⟨by omega, by omega, by omega⟩, ⟨HG4.out⟩, HB4⟩
   ·
    go_wp2
    refine start_ (n := 10) (S := fun _ => True) (ds := []) (Fn.bl 10 0) (by kernel_rfl) rfl rfl trivial (fun hHeld => ?_)
    have HG3 := A_ (blk_drew HG.out)
    have HB3 := A_ (below_drew HB.out)
    clear HG HB
    generalize wr.drew = w3 at HG3 HB3 hHeld ⊢
    refine pk_ 0 (some 38) (Fn.bl 10 1) ?_
    refine pk_ 1 (some 39) (Fn.bl 10 3) ?_
    refine pk_ 2 (some 40) (Fn.bl 10 7) ?_
    refine pk_ 3 (some 41) (Fn.bl 10 15) ?_
    refine pk_ 4 (some 42) (Fn.bl 10 31) ?_
    refine pk_ 5 (some 43) (Fn.bl 10 63) ?_
    refine pk_ 6 (some 44) (Fn.bl 10 127) ?_
    refine one_ (i := 7) (N := some 45) (Fn.bl 10 255) rfl rfl (by kernel_rfl) (by decide) (fun K hK => ?_)
    refine step_copy_splice rfl (.tmp 41) (.tmp 44) 22 22 rfl 3 Try.underlying22 hsz.out (some ⟨w.heap.size, 3, none⟩) (some ⟨w.heap.size, 0, none⟩) 3 3 3 6 rfl rfl w.heap.size 3 [Value.int .i64 v, Value.int .i64 v, Value.int .i64 v, Value.int .i64 0, Value.int .i64 0, Value.int .i64 0] 3 ?g1 [Value.int .i64 v, Value.int .i64 v, Value.int .i64 v] rfl ?g2 (by simp) ?g3 w.heap.size w HB3.out (Nat.le_refl _) ?_
    case g1 => first | exact HG3.out | simpa using HG3.out
    case g2 =>
     refine fun _ => ⟨rfl, _, rfl, fun j u hu => ?_⟩
     rw [add_plain, blk_cell HG3.out]
     match j, hu with
     | 0, hu => exact hu
     | 1, hu => exact hu
     | 2, hu => exact hu
    case g3 => simp [Value.oneCell']
    intro w4 hg4 hb4
    have HG4 := A_ hg4.out
    have HB4 := A_ hb4
    clear hg4 hb4
    refine hK.out _ _ trivial (fun hHeld => ?_)
    clear hK K
    refine norm_ (a' := ?_) ?_ ?_
    rotate_left
    ·
     show Act.put _ (some 45) _ = _
     simp only [Act.put, List.setIfInBounds_toArray, List.set_cons_zero, List.set_cons_succ, i64_w, i32_w]
     rfl
    refine pk_ 8 (some 46) (Fn.bl 10 511) ?_
    refine pk_ 9 (some 8) (Fn.bl 10 1023) ?_
    refine done_ (by kernel_rfl) ?_
    try go_wp2
    go_roundg (6 - 6)
    case measure => have := HM.out; omega
    case rel => exact ⟨6, by first | rfl | (congr 1; unfold wrap64; omega), ⟨by omega, by omega, by omega⟩, ⟨HG4.out⟩, HB4⟩
   ·
    go_wp2
    refine start_ (n := 10) (S := fun _ => True) (ds := []) (Fn.bl 10 0) (by kernel_rfl) rfl rfl trivial (fun hHeld => ?_)
    have HG3 := A_ (blk_drew HG.out)
    have HB3 := A_ (below_drew HB.out)
    clear HG HB
    generalize wr.drew = w3 at HG3 HB3 hHeld ⊢
    refine pk_ 0 (some 38) (Fn.bl 10 1) ?_
    refine pk_ 1 (some 39) (Fn.bl 10 3) ?_
    refine pk_ 2 (some 40) (Fn.bl 10 7) ?_
    refine pk_ 3 (some 41) (Fn.bl 10 15) ?_
    refine pk_ 4 (some 42) (Fn.bl 10 31) ?_
    refine pk_ 5 (some 43) (Fn.bl 10 63) ?_
    refine pk_ 6 (some 44) (Fn.bl 10 127) ?_
    refine one_ (i := 7) (N := some 45) (Fn.bl 10 255) rfl rfl (by kernel_rfl) (by decide) (fun K hK => ?_)
    refine step_copy_splice rfl (.tmp 41) (.tmp 44) 22 22 rfl 3 Try.underlying22 hsz.out (some ⟨w.heap.size, 4, none⟩) (some ⟨w.heap.size, 0, none⟩) 2 2 4 6 rfl rfl w.heap.size 4 [Value.int .i64 v, Value.int .i64 v, Value.int .i64 v, Value.int .i64 v, Value.int .i64 0, Value.int .i64 0] 3 ?g1 [Value.int .i64 v, Value.int .i64 v] rfl ?g2 (by simp) ?g3 w.heap.size w HB3.out (Nat.le_refl _) ?_
    case g1 => first | exact HG3.out | simpa using HG3.out
    case g2 =>
     refine fun _ => ⟨rfl, _, rfl, fun j u hu => ?_⟩
     rw [add_plain, blk_cell HG3.out]
     match j, hu with
     | 0, hu => exact hu
     | 1, hu => exact hu
    case g3 => simp [Value.oneCell']
    intro w4 hg4 hb4
    have HG4 := A_ hg4.out
    have HB4 := A_ hb4
    clear hg4 hb4
    refine hK.out _ _ trivial (fun hHeld => ?_)
    clear hK K
    refine norm_ (a' := ?_) ?_ ?_
    rotate_left
    ·
     show Act.put _ (some 45) _ = _
     simp only [Act.put, List.setIfInBounds_toArray, List.set_cons_zero, List.set_cons_succ, i64_w, i32_w]
     rfl
    refine pk_ 8 (some 46) (Fn.bl 10 511) ?_
    refine pk_ 9 (some 8) (Fn.bl 10 1023) ?_
    refine done_ (by kernel_rfl) ?_
    try go_wp2
    go_roundg (6 - 6)
    case measure => have := HM.out; omega
    case rel => exact ⟨6, by first | rfl | (congr 1; unfold wrap64; omega), ⟨by omega, by omega, by omega⟩, ⟨HG4.out⟩, HB4⟩
   ·
    go_wp2
    refine start_ (n := 10) (S := fun _ => True) (ds := []) (Fn.bl 10 0) (by kernel_rfl) rfl rfl trivial (fun hHeld => ?_)
    have HG3 := A_ (blk_drew HG.out)
    have HB3 := A_ (below_drew HB.out)
    clear HG HB
    generalize wr.drew = w3 at HG3 HB3 hHeld ⊢
    refine pk_ 0 (some 38) (Fn.bl 10 1) ?_
    refine pk_ 1 (some 39) (Fn.bl 10 3) ?_
    refine pk_ 2 (some 40) (Fn.bl 10 7) ?_
    refine pk_ 3 (some 41) (Fn.bl 10 15) ?_
    refine pk_ 4 (some 42) (Fn.bl 10 31) ?_
    refine pk_ 5 (some 43) (Fn.bl 10 63) ?_
    refine pk_ 6 (some 44) (Fn.bl 10 127) ?_
    refine one_ (i := 7) (N := some 45) (Fn.bl 10 255) rfl rfl (by kernel_rfl) (by decide) (fun K hK => ?_)
    refine step_copy_splice rfl (.tmp 41) (.tmp 44) 22 22 rfl 3 Try.underlying22 hsz.out (some ⟨w.heap.size, 5, none⟩) (some ⟨w.heap.size, 0, none⟩) 1 1 5 6 rfl rfl w.heap.size 5 [Value.int .i64 v, Value.int .i64 v, Value.int .i64 v, Value.int .i64 v, Value.int .i64 v, Value.int .i64 0] 3 ?g1 [Value.int .i64 v] rfl ?g2 (by simp) ?g3 w.heap.size w HB3.out (Nat.le_refl _) ?_
    case g1 => first | exact HG3.out | simpa using HG3.out
    case g2 =>
     refine fun _ => ⟨rfl, _, rfl, fun j u hu => ?_⟩
     rw [add_plain, blk_cell HG3.out]
     match j, hu with
     | 0, hu => exact hu
    case g3 => simp [Value.oneCell']
    intro w4 hg4 hb4
    have HG4 := A_ hg4.out
    have HB4 := A_ hb4
    clear hg4 hb4
    refine hK.out _ _ trivial (fun hHeld => ?_)
    clear hK K
    refine norm_ (a' := ?_) ?_ ?_
    rotate_left
    ·
     show Act.put _ (some 45) _ = _
     simp only [Act.put, List.setIfInBounds_toArray, List.set_cons_zero, List.set_cons_succ, i64_w, i32_w]
     rfl
    refine pk_ 8 (some 46) (Fn.bl 10 511) ?_
    refine pk_ 9 (some 8) (Fn.bl 10 1023) ?_
    refine done_ (by kernel_rfl) ?_
    try go_wp2
    go_roundg (6 - 6)
    case measure => have := HM.out; omega
    case rel => exact ⟨6, by first | rfl | (congr 1; unfold wrap64; omega), ⟨by omega, by omega, by omega⟩, ⟨HG4.out⟩, HB4⟩
   ·
    go_wp2
    go_ret
    exact ⟨_, rfl, slices_Repeat_int_int.own HG.out (Nat.le_refl _) (by decide), HB.out⟩
 ·
  have hmk : ∀ W : World, (Instr.makeSlice 22 (.int .i64 1) (.int .i64 1)).run Try.prog W = .ok (.slice (some ⟨W.heap.size, 0, none⟩) 1 1) (W.alloc (.cells #[Value.int .i64 0] 3)) := fun W => by
   have hz := print_make (P := Try.prog) 22 3 .i64 8 Try.underlying22 info3 (by decide) 1 (by decide) W
   rw [show madeCells #[Value.int .i64 0] 1 = #[Value.int .i64 0] from by kernel_rfl] at hz
   simpa using hz
  have hmul : bits_Mul.f 1 1 = some (0, 1) := by decide +kernel
  replace hmul := A_ hmul
  go_enter Try.func146, Try.ntmps146
  go_wp2_with (first | (go_at_call 200; (with_reducible refine (bits_Mul.calls 1 1 0 1 _ hmul.out).mono ?_); rintro e w1 ⟨rfl, ⟨nd, rfl⟩⟩) | (refine wpList_copy_splice rfl (.tmp 31) (.tmp 32) 22 22 rfl 3 Try.underlying22 hsz.out (some ⟨w.heap.size, 0, none⟩) (some ad) 1 1 1 c0 rfl rfl w.heap.size 0 [Value.int .i64 0] 3 ?g1 [.int .i64 v] rfl ?g2 (by simp) ?g3 w.heap.size w ?g4 (Nat.le_refl _) ?_; (case g1 => (have hz := blk_new (w.drewN nd) (Obj.cells #[Value.int .i64 0] 3); simpa using hz)); (case g2 => exact fun _ => ⟨rfl, ad, rfl, fun j u hu => by (obtain ⟨rfl, rfl⟩ : j = 0 ∧ Value.int .i64 v = u := by (match j, hu with | 0, hu => exact ⟨rfl, Option.some.inj hu⟩)); rw [Addr.add_zero']; exact (Below.cell (below_alloc (pw_below_drewN (Below.refl _ _) nd) _) (World.block_lt_of_cell? _ _ HX.out)).trans HX.out⟩); (case g3 => simp [Value.oneCell']); (case g4 => exact below_alloc (pw_below_drewN (Below.refl _ _) nd) _); intro w2 hg2 hb2; have HG := A_ hg2.out; have HB := A_ hb2; clear hg2 hb2))
  go_loopg [8] 0 (fun kq v8 wr => ∃ m : Int, v8 = .int .i64 m ∧ Aside0 (1 ≤ m ∧ m ≤ 1 ∧ kq = 1 - m.toNat) ∧ Aside0 (wr.heap[w.heap.size]? = some (.cells (List.replicate m.toNat (Value.int .i64 v) ++ List.replicate (1 - m.toNat) (Value.int .i64 0)).toArray 3 (0, 0))) ∧ Aside0 (Below w.heap.size w wr))
  case atStart => exact ⟨1, rfl, ⟨by omega, by omega, by omega⟩, ⟨HG.out⟩, HB⟩
  case round =>
   clear HG HB hmk hmul
   obtain ⟨m, rfl, HM, HG, HB⟩ := hrel
   have hm := HM.out
   have hm2 : m = 1 := by omega
   clear hm
   obtain rfl := hm2
   ·
    go_wp2
    go_ret
    exact ⟨_, rfl, slices_Repeat_int_int.own HG.out (Nat.le_refl _) (by decide), HB.out⟩

/-! ### impl_size: function 147 -/
def impl_size.l0 : Nat → Int → List (List Int) → Int → Int → Option (Int)
 | 0, _, _, _, _ => none
 | k + 1, x3, x6, x7, x8 => if x8 < x7 then (if 0 ≤ x8 then (if x8 < (x6.length : Int) then (impl_size.l0 k (wrap64 (x3 + ((rd_L1 x6 x8).length : Int))) x6 x7 (wrap64 (x8 + 1))) else (none)) else (none)) else (some x3)
def impl_size.f (k : Nat) (l0 : List (List Int)) : Option (Int) := impl_size.l0 k 0 l0 (l0.length : Int) 0
theorem impl_size.mono_l : ∀ k, (∀ y0 y1 y2 y3, LeO (impl_size.l0 k y0 y1 y2 y3) (impl_size.l0 (k + 1) y0 y1 y2 y3))
 | 0 => fun _ _ _ _ r h => by simp [impl_size.l0] at h
 | k + 1 => by
  have ih0 := impl_size.mono_l k
  ·
   intro y0 y1 y2 y3
   unfold impl_size.l0
   repeat' first | (with_reducible first | exact ih0 _ _ _ _ | exact LeO.refl _ | exact LeO.none _ | refine LeO.ite ?_ ?_ | refine LeO.bind ?_ (fun _ => ?_)) | exact ih0 _ _ _ _ | exact LeO.none _ | refine LeO.ite ?_ ?_ | refine LeO.bind ?_ (fun _ => ?_)
theorem impl_size.mono : ∀ a0 k, LeO (impl_size.f k a0) (impl_size.f (k + 1) a0) := by
 intro a0 k
 have ih0 := impl_size.mono_l k
 unfold impl_size.f
 repeat' first | (with_reducible first | exact ih0 _ _ _ _ | exact LeO.refl _ | exact LeO.none _ | refine LeO.ite ?_ ?_ | refine LeO.bind ?_ (fun _ => ?_)) | exact ih0 _ _ _ _ | exact LeO.none _ | refine LeO.ite ?_ ?_ | refine LeO.bind ?_ (fun _ => ?_)
theorem impl_size.calls (k : Nat) (A0 : Option Addr) (c0 : Nat) (l0 : List (List Int)) (r : Int) (w : World) (hr0 : Kd.C (Kd.slice 3 (Kd.int .i64)) w A0 l0.length l0) (hc0 : l0.length ≤ c0) (h : impl_size.f k l0 = some r) :
  Calls Try.prog 147 #[.slice A0 l0.length c0] w fun e w' => e = .returned (.int .i64 r) ∧ Drawn0 w w' := by
 have HR0 := A_ hr0
 have HC0 := A_ hc0
 clear hr0 hc0
 have H : (impl_size.l0 k 0 l0 (l0.length : Int) 0) = some r := h
 clear h
 have H' := A_ H
 clear H
 go_enter Try.func147, Try.ntmps147
 go_wp2
 go_loopg [3, 8] k (fun kq v3 v8 w' => ∃ (x3_1 : Int) (x8_1 : Int), v3 = .int .i64 x3_1 ∧ v8 = .int .i64 x8_1 ∧ Aside0 (impl_size.l0 kq x3_1 l0 (l0.length : Int) x8_1 = some r) ∧ Aside0 (kq ≤ k) ∧ Drawn0 w w')
 case atStart => exact ⟨(0), (0), tf_, tf_, H', ⟨Nat.le_refl _⟩, dr_⟩
 case round =>
  clear H'
  try clear c1
  obtain ⟨x3_1, x8_1, rfl, rfl, HA, HK1, ⟨m1, rfl⟩⟩ := hrel
  cases gk with
  | zero => exact absurd HA.out (by simp [impl_size.l0])
  | succ k1 =>
   have H := HA.out
   clear HA
   simp only [impl_size.l0] at H
   by_cases c2 : x8_1 < (l0.length : Int)
   ·
    rw [if_pos c2] at H
    have c2b0 := decide_eq_true c2
    clear c2
    by_cases c3 : 0 ≤ x8_1
    ·
     rw [if_pos c3] at H
     have c3b0 := decide_eq_true c3
     clear c3
     by_cases c4 : x8_1 < (l0.length : Int)
     ·
      rw [if_pos c4] at H
      have c4b0 := decide_eq_true c4
      clear c4
      have H' := A_ H
      clear H
      have p1247 : 0 ≤ (x8_1 : Int) := od_
      have q1247 : x8_1 < (l0.length : Int) := od_
      obtain ⟨ad1247, A1247_0, c1247_0, e1247, hx1247_0, hl1247_0, hi1247_0⟩ := at_L1 HR0.out x8_1 p1247 q1247
      cases e1247
      have HR1247_0 := A_ hi1247_0
      have HC1247_0 := A_ hl1247_0
      clear hi1247_0 hl1247_0
      replace p1247 := eq_true p1247
      replace q1247 := eq_true q1247
      go_wp2
      go_roundg k1
      case measure => have := HK1.out; omega
      case rel => exact ⟨(wrap64 (x3_1 + ((rd_L1 l0 x8_1).length : Int))), (wrap64 (x8_1 + 1)), tf_, tf_, H', ⟨by have := HK1.out; omega⟩, dr_⟩
     ·
      rw [if_neg c4] at H
      exact absurd H (by simp)
    ·
     rw [if_neg c3] at H
     exact absurd H (by simp)
   ·
    rw [if_neg c2] at H
    have c2b0 := decide_eq_false c2
    clear c2
    obtain rfl := Option.some.inj H
    go_wp2
    go_ret
    exact ⟨tf_, dr_⟩

/-! ### spec_l1Cur_filed: function 148 -/
def spec_l1Cur_filed.l0 : Nat → List Int → Int → List Int → Int → Int → Option (List Int × Int × Int)
 | 0, _, _, _, _, _ => none
 | k + 1, x3, x4, x1000, x1001, x1002 => if x4 > 0 then ((spec_l1Cur_pick.f x1000 x1001 x1002 (wrap64 ((x3.length : Int) + 1))).bind fun bt1289 => (if x3.length < 17592186044416 then (spec_l1Cur_filed.l0 k (x3 ++ [wrap64 (bt1289.1 - 1)]) (wrap64 (x4 - 1)) x1000 bt1289.2.1 bt1289.2.2) else (none))) else ((spec_l1Cur_pick.f x1000 x1001 x1002 16).bind fun bt1295 => (if bt1295.1 = 0 then ((spec_l1Cur_pick.f x1000 bt1295.2.1 bt1295.2.2 (x3.length : Int)).bind fun bt1298 => ((spec_l1Cur_among.f x1000 bt1298.2.1 bt1298.2.2 (([(-2), 5, 6, 4611686018427387904] : List Int))).bind fun bt1304 => (if 0 ≤ bt1298.1 then (if bt1298.1 < (x3.length : Int) then (some ((x3.set (bt1298.1 : Int).toNat bt1304.1), bt1304.2.1, bt1304.2.2)) else (none)) else (none)))) else (if bt1295.1 = 1 then ((some (([0, 0, 0, 0, 0, 0] : List Int) : List Int)).bind fun y1308 => (if x3.length + y1308.length < 17592186044416 then (some ((x3 ++ y1308), bt1295.2.1, bt1295.2.2)) else (none))) else (if bt1295.1 = 2 then (some (([] : List Int), bt1295.2.1, bt1295.2.2)) else (some (x3, bt1295.2.1, bt1295.2.2))))))
def spec_l1Cur_filed.f (k : Nat) (s0_0 : List Int) (s0_1 : Int) (s0_2 : Int) : Option (List Int × Int × Int) := (spec_l1Cur_pick.f s0_0 s0_1 s0_2 6).bind fun bt1286 => (spec_l1Cur_filed.l0 k ([] : List Int) (wrap64 (1 + bt1286.1)) s0_0 bt1286.2.1 bt1286.2.2)
theorem spec_l1Cur_filed.mono_l : ∀ k, (∀ y0 y1 y2 y3 y4, LeO (spec_l1Cur_filed.l0 k y0 y1 y2 y3 y4) (spec_l1Cur_filed.l0 (k + 1) y0 y1 y2 y3 y4))
 | 0 => fun _ _ _ _ _ r h => by simp [spec_l1Cur_filed.l0] at h
 | k + 1 => by
  have ih0 := spec_l1Cur_filed.mono_l k
  ·
   intro y0 y1 y2 y3 y4
   unfold spec_l1Cur_filed.l0
   repeat' first | (with_reducible first | exact ih0 _ _ _ _ _ | exact LeO.refl _ | exact LeO.none _ | refine LeO.ite ?_ ?_ | refine LeO.bind ?_ (fun _ => ?_)) | exact ih0 _ _ _ _ _ | exact LeO.none _ | refine LeO.ite ?_ ?_ | refine LeO.bind ?_ (fun _ => ?_)
theorem spec_l1Cur_filed.mono : ∀ a0 a1 a2 k, LeO (spec_l1Cur_filed.f k a0 a1 a2) (spec_l1Cur_filed.f (k + 1) a0 a1 a2) := by
 intro a0 a1 a2 k
 have ih0 := spec_l1Cur_filed.mono_l k
 unfold spec_l1Cur_filed.f
 repeat' first | (with_reducible first | exact ih0 _ _ _ _ _ | exact LeO.refl _ | exact LeO.none _ | refine LeO.ite ?_ ?_ | refine LeO.bind ?_ (fun _ => ?_)) | exact ih0 _ _ _ _ _ | exact LeO.none _ | refine LeO.ite ?_ ?_ | refine LeO.bind ?_ (fun _ => ?_)
theorem spec_l1Cur_filed.calls (k : Nat) (g : Nat) (s0_0 : List Int) (s0_1 : Int) (s0_2 : Int) (r1 : List Int) (r2 : Int) (r3 : Int) (w0 w : World) (hI : IsS100 w0 w g s0_0 s0_1 s0_2) (hB : Below w0.heap.size w0 w) (h : spec_l1Cur_filed.f k s0_0 s0_1 s0_2 = some (r1, r2, r3)) :
  Calls Try.prog 148 #[.pointer (some ⟨g, 0, none⟩)] w fun e w' => ∃ v0_ : Value, e = .returned (v0_) ∧ Kd.R (Kd.int .i64) 3 w' w.heap.size (fun _ => True) v0_ r1 ∧ IsS100 w0 w' g s0_0 r2 r3 ∧ Below w0.heap.size w0 w' ∧ KeepBut w w' g none := by
 have HI0 := A_ hI
 have HK := A_ (KeepBut.refl w g none)
 have HL := A_ hB.size
 clear hI
 have HW0 := A_ hB.size
 have HB := A_ hB
 clear hB
 have H : ((spec_l1Cur_pick.f s0_0 s0_1 s0_2 6).bind fun bt1286 => (spec_l1Cur_filed.l0 k ([] : List Int) (wrap64 (1 + bt1286.1)) s0_0 bt1286.2.1 bt1286.2.2)) = some (r1, r2, r3) := h
 clear h
 replace H := Option.bind_eq_some_iff.mp H
 obtain ⟨⟨t1286, t1287, t1288⟩, A20, H⟩ := H
 replace H : (spec_l1Cur_filed.l0 k ([] : List Int) (wrap64 (1 + t1286)) s0_0 t1287 t1288) = some (r1, r2, r3) := H
 have A2 := A_ A20
 clear A20
 have H' := A_ H
 clear H
 go_enter Try.func148, Try.ntmps148
 go_wp2_with (first | (refine gc_ 122 ?_; refine goesT_ (some 6) Try.func122 #[.pointer (some ⟨g, 0, none⟩), .int .i64 6] ?_; (with_reducible refine (spec_l1Cur_pick.calls g s0_0 s0_1 s0_2 6 t1286 t1287 t1288 w0 _ ?side1 ?side2 A2.out).mono ?_); (case side1 => repeat (first | (with_reducible first | exact HI0.out | apply IsS100.alloc | apply IsS100.drewN | apply IsS100.drew | apply IsS100.set_1 | apply IsS100.set_2) | exact HI0.out)); (case side2 => repeat (first | (with_reducible first | exact HB.out | apply below_alloc | apply pw_below_drewN | apply below_drew1 | refine below_set ?_ (IsS100.ge HI0.out)) | exact HB.out)); rintro e w3 ⟨rfl, hi, hb, hk⟩; refine ⟨_, rfl, ?_⟩; replace HK := A_ (KeepBut.trans (by repeat (first | (with_reducible first | exact HK.out | apply KeepBut.set_ | apply keep_drewN | apply keep_drew | apply keep_alloc) | exact HK.out)) hk (.inl rfl)); replace HB := A_ (hb); replace HI0 := A_ (hi); (try clear hb); (try clear hb2); (try clear hk); (try clear hi)))
 go_loopg [3, 4] k (fun kq v3 v4 w' => ∃ (x3_1 : List Int) (x4_1 : Int) (x1001_1 : Int) (x1002_1 : Int), v4 = .int .i64 x4_1 ∧ Aside0 (spec_l1Cur_filed.l0 kq x3_1 x4_1 s0_0 x1001_1 x1002_1 = some (r1, r2, r3)) ∧ Aside0 (kq ≤ k) ∧ Aside0 (Kd.R (Kd.int .i64) 3 w' w.heap.size (fun _ => True) v3 x3_1) ∧ Aside0 (IsS100 w0 w' g s0_0 x1001_1 x1002_1) ∧ Aside0 (KeepBut w w' g none) ∧ Aside0 (Below w0.heap.size w0 w'))
 case atStart => exact ⟨(([] : List Int)), (wrap64 (1 + t1286)), (t1287), (t1288), tf_, H', ⟨Nat.le_refl _⟩, ⟨by first | exact Kd.R_nil _ _ _ _ _ | exact Kd.N_nil _ _ _ _ _ | exact Kd.V_nil _ _ _ _ _ | exact Kd.Q_nil _ _ _ _ _ | exact Kd.S_nil _ _ _ _ _⟩, ⟨by repeat (first | (with_reducible first | exact HI0.out | apply IsS100.alloc | apply IsS100.drewN | apply IsS100.drew | apply IsS100.set_1 | apply IsS100.set_2) | exact HI0.out)⟩, ⟨by repeat (first | (with_reducible first | exact HK.out | apply KeepBut.set_ | apply keep_drewN | apply keep_drew | apply keep_alloc) | exact HK.out)⟩, ⟨by repeat (first | (with_reducible first | exact HB.out | apply below_alloc | apply pw_below_drewN | apply below_drew1 | refine below_set ?_ (IsS100.ge HI0.out)) | exact HB.out)⟩⟩
 case round =>
  clear H'
  try clear c1
  try clear p2
  obtain ⟨x3_1, x4_1, x1001_1, x1002_1, rfl, HA, HK1, HO_3, HI0, HK, HB⟩ := hrel
  cases gk with
  | zero => exact absurd HA.out (by simp [spec_l1Cur_filed.l0])
  | succ k1 =>
   have H := HA.out
   clear HA
   simp only [spec_l1Cur_filed.l0] at H
   by_cases c4 : x4_1 > 0
   ·
    rw [if_pos c4] at H
    have c4b0 := decide_eq_true c4
    clear c4
    replace H := Option.bind_eq_some_iff.mp H
    obtain ⟨⟨t1289, t1290, t1291⟩, A50, H⟩ := H
    replace H : (if x3_1.length < 17592186044416 then (spec_l1Cur_filed.l0 k1 (x3_1 ++ [wrap64 (t1289 - 1)]) (wrap64 (x4_1 - 1)) s0_0 t1290 t1291) else (none)) = some (r1, r2, r3) := H
    have A5 := A_ A50
    clear A50
    by_cases c6 : x3_1.length < 17592186044416
    ·
     rw [if_pos c6] at H
     have LMc6 := A_ c6
     clear c6
     obtain ⟨y1292, hy1292⟩ : ∃ y_ : List Int, y_ = (x3_1 ++ [wrap64 (t1289 - 1)]) := ⟨_, rfl⟩
     replace H : (spec_l1Cur_filed.l0 k1 y1292 (wrap64 (x4_1 - 1)) s0_0 t1290 t1291) = some (r1, r2, r3) := ty_ hy1292 H
     have Ny1292 := A_ hy1292
     clear hy1292
     have H' := A_ H
     clear H
     obtain ⟨Ao7, co7, eo7⟩ := Kd.R_slice HO_3.out
     subst eo7
     go_wp2_with (first | (refine gc_ 122 ?_; refine goesT_ (some 17) Try.func122 #[.pointer (some ⟨g, 0, none⟩), .int .i64 (wrap64 ((x3_1.length : Int) + 1))] ?_; (with_reducible refine (spec_l1Cur_pick.calls g s0_0 x1001_1 x1002_1 (wrap64 ((x3_1.length : Int) + 1)) t1289 t1290 t1291 w0 _ ?side1 ?side2 A5.out).mono ?_); (case side1 => repeat (first | (with_reducible first | exact HI0.out | apply IsS100.alloc | apply IsS100.drewN | apply IsS100.drew | apply IsS100.set_1 | apply IsS100.set_2) | exact HI0.out)); (case side2 => repeat (first | (with_reducible first | exact HB.out | apply below_alloc | apply pw_below_drewN | apply below_drew1 | refine below_set ?_ (IsS100.ge HI0.out)) | exact HB.out)); rintro e w8 ⟨rfl, hi, hb, hk⟩; refine ⟨_, rfl, ?_⟩; replace HO_3 := A_ (Kd.R_mono (Kd.R_keep (IsS100.apart (show IsS100 w0 _ g s0_0 x1001_1 x1002_1 from by repeat (first | (with_reducible first | exact HI0.out | apply IsS100.alloc | apply IsS100.drewN | apply IsS100.drew | apply IsS100.set_1 | apply IsS100.set_2) | exact HI0.out)) (tr_x HO_3.out) (by decide)) hk (fun _ h => h.2)) (fun _ h => h.1)); replace HK := A_ (KeepBut.trans (by repeat (first | (with_reducible first | exact HK.out | apply KeepBut.set_ | apply keep_drewN | apply keep_drew | apply keep_alloc) | exact HK.out)) hk (.inl rfl)); replace HB := A_ (hb); replace HI0 := A_ (hi); (try clear hb); (try clear hb2); (try clear hk); (try clear hi)) | ((with_reducible refine gate_builtin (b := .append) (xs := #[.tmp 12, .tmp 19]) rfl ?_); at_builtin; refine Kd.R_append (Kd.int .i64) w.heap.size rfl (.tmp 12) (.tmp 19) 22 3 (.int .i64 0) 8 rfl Try.underlying22 info3 rfl (by decide) (by omega) (.slice Ao7 x3_1.length co7) x3_1 (wrap64 (t1289 - 1)) [.int .i64 (wrap64 (t1289 - 1))] (fun _ => True) (fun _ => False) rfl rfl ?aP (fun _ hk => hk.elim) ?aF ?aO (Below.refl _ _) ?aS ?aL ?_; (case aP => exact rfl); (case aF => exact (fun _ _ => trivial)); (case aO => exact (tr_x HO_3.out)); (case aS => exact (keep_size (w := w) (g := g) (row := none) (by repeat (first | (with_reducible first | exact HK.out | apply KeepBut.set_ | apply keep_drewN | apply keep_drew | apply keep_alloc) | exact HK.out)))); (case aL => have := LMc6.out; omega); intro v1293 w9 ho hb hg hat; rw [← Ny1292.out] at ho; have n0_ := A_ (IsS100.grown (by repeat (first | (with_reducible first | exact HI0.out | apply IsS100.alloc | apply IsS100.drewN | apply IsS100.drew | apply IsS100.set_1 | apply IsS100.set_2) | exact HI0.out)) hg (IsS100.own_ne HI0.out HO_3.out (by decide))); have n1_ := A_ (below_weaken (by repeat (first | (with_reducible first | exact HB.out | apply below_alloc | apply pw_below_drewN | apply below_drew1 | refine below_set ?_ (IsS100.ge HI0.out)) | exact HB.out)) HL.out hb); have n2_ := A_ (KeepBut.trans (by repeat (first | (with_reducible first | exact HK.out | apply KeepBut.set_ | apply keep_drewN | apply keep_drew | apply keep_alloc) | exact HK.out)) (KeepBut.of_grown hg g) (Kd.R_base2 HO_3.out)); have n3_ := A_ (ho); clear HI0; clear HB; clear HK; clear HO_3; have HI0 := n0_; have HB := n1_; have HK := n2_; have HO1294 := n3_; clear n0_ n1_ n2_ n3_; clear ho hb hg hat))
     go_roundg k1
     case measure => have := HK1.out; omega
     case rel => exact ⟨(y1292), (wrap64 (x4_1 - 1)), (t1290), (t1291), tf_, H', ⟨by have := HK1.out; omega⟩, ⟨tr_x HO1294.out⟩, ⟨by repeat (first | (with_reducible first | exact HI0.out | apply IsS100.alloc | apply IsS100.drewN | apply IsS100.drew | apply IsS100.set_1 | apply IsS100.set_2) | exact HI0.out)⟩, ⟨by repeat (first | (with_reducible first | exact HK.out | apply KeepBut.set_ | apply keep_drewN | apply keep_drew | apply keep_alloc) | exact HK.out)⟩, ⟨by repeat (first | (with_reducible first | exact HB.out | apply below_alloc | apply pw_below_drewN | apply below_drew1 | refine below_set ?_ (IsS100.ge HI0.out)) | exact HB.out)⟩⟩
    ·
     rw [if_neg c6] at H
     exact absurd H (by simp)
   ·
    rw [if_neg c4] at H
    have c4b0 := decide_eq_false c4
    clear c4
    replace H := Option.bind_eq_some_iff.mp H
    obtain ⟨⟨t1295, t1296, t1297⟩, A100, H⟩ := H
    replace H : (if t1295 = 0 then ((spec_l1Cur_pick.f s0_0 t1296 t1297 (x3_1.length : Int)).bind fun bt1298 => ((spec_l1Cur_among.f s0_0 bt1298.2.1 bt1298.2.2 (([(-2), 5, 6, 4611686018427387904] : List Int))).bind fun bt1304 => (if 0 ≤ bt1298.1 then (if bt1298.1 < (x3_1.length : Int) then (some ((x3_1.set (bt1298.1 : Int).toNat bt1304.1), bt1304.2.1, bt1304.2.2)) else (none)) else (none)))) else (if t1295 = 1 then ((some (([0, 0, 0, 0, 0, 0] : List Int) : List Int)).bind fun y1308 => (if x3_1.length + y1308.length < 17592186044416 then (some ((x3_1 ++ y1308), t1296, t1297)) else (none))) else (if t1295 = 2 then (some (([] : List Int), t1296, t1297)) else (some (x3_1, t1296, t1297))))) = some (r1, r2, r3) := H
    have A10 := A_ A100
    clear A100
    by_cases c11 : t1295 = 0
    ·
     rw [if_pos c11] at H
     have c11b0 : (t1295 == 0) = true := beq_iff_eq.mpr c11
     have c11b1 : (t1295 != 0) = false := bne_eq_false_iff_eq.mpr c11
     clear c11
     replace H := Option.bind_eq_some_iff.mp H
     obtain ⟨⟨t1298, t1299, t1300⟩, A120, H⟩ := H
     replace H : ((spec_l1Cur_among.f s0_0 t1299 t1300 (([(-2), 5, 6, 4611686018427387904] : List Int))).bind fun bt1304 => (if 0 ≤ t1298 then (if t1298 < (x3_1.length : Int) then (some ((x3_1.set (t1298 : Int).toNat bt1304.1), bt1304.2.1, bt1304.2.2)) else (none)) else (none))) = some (r1, r2, r3) := H
     have A12 := A_ A120
     clear A120
     obtain ⟨y1301, hy1301⟩ : ∃ y_ : List Int, y_ = (([(-2), 5, 6, 4611686018427387904] : List Int)) := ⟨_, rfl⟩
     replace H : ((spec_l1Cur_among.f s0_0 t1299 t1300 y1301).bind fun bt1304 => (if 0 ≤ t1298 then (if t1298 < (x3_1.length : Int) then (some ((x3_1.set (t1298 : Int).toNat bt1304.1), bt1304.2.1, bt1304.2.2)) else (none)) else (none))) = some (r1, r2, r3) := ty_ hy1301 H
     have Ny1301 := A_ hy1301
     clear hy1301
     replace H := Option.bind_eq_some_iff.mp H
     obtain ⟨⟨t1304, t1305, t1306⟩, A130, H⟩ := H
     replace H : (if 0 ≤ t1298 then (if t1298 < (x3_1.length : Int) then (some ((x3_1.set (t1298 : Int).toNat t1304), t1305, t1306)) else (none)) else (none)) = some (r1, r2, r3) := H
     have A13 := A_ A130
     clear A130
     by_cases c14 : 0 ≤ t1298
     ·
      rw [if_pos c14] at H
      have c14b0 := decide_eq_true c14
      clear c14
      by_cases c15 : t1298 < (x3_1.length : Int)
      ·
       rw [if_pos c15] at H
       have c15b0 := decide_eq_true c15
       clear c15
       obtain ⟨y1307, hy1307⟩ : ∃ y_ : List Int, y_ = (x3_1.set (t1298 : Int).toNat t1304) := ⟨_, rfl⟩
       replace H : (some (y1307, t1305, t1306)) = some (r1, r2, r3) := ty_ hy1307 H
       have Ny1307 := A_ hy1307
       clear hy1307
       simp only [Option.some.injEq, Prod.mk.injEq] at H
       obtain ⟨rfl, rfl, rfl⟩ := H
       go_wp2_with (first | (refine gc_ 122 ?_; refine goesT_ (some 22) Try.func122 #[.pointer (some ⟨g, 0, none⟩), .int .i64 16] ?_; (with_reducible refine (spec_l1Cur_pick.calls g s0_0 x1001_1 x1002_1 16 t1295 t1296 t1297 w0 _ ?side1 ?side2 A10.out).mono ?_); (case side1 => repeat (first | (with_reducible first | exact HI0.out | apply IsS100.alloc | apply IsS100.drewN | apply IsS100.drew | apply IsS100.set_1 | apply IsS100.set_2) | exact HI0.out)); (case side2 => repeat (first | (with_reducible first | exact HB.out | apply below_alloc | apply pw_below_drewN | apply below_drew1 | refine below_set ?_ (IsS100.ge HI0.out)) | exact HB.out)); rintro e w17 ⟨rfl, hi, hb, hk⟩; refine ⟨_, rfl, ?_⟩; replace HO_3 := A_ (Kd.R_mono (Kd.R_keep (IsS100.apart (show IsS100 w0 _ g s0_0 x1001_1 x1002_1 from by repeat (first | (with_reducible first | exact HI0.out | apply IsS100.alloc | apply IsS100.drewN | apply IsS100.drew | apply IsS100.set_1 | apply IsS100.set_2) | exact HI0.out)) (tr_x HO_3.out) (by decide)) hk (fun _ h => h.2)) (fun _ h => h.1)); replace HK := A_ (KeepBut.trans (by repeat (first | (with_reducible first | exact HK.out | apply KeepBut.set_ | apply keep_drewN | apply keep_drew | apply keep_alloc) | exact HK.out)) hk (.inl rfl)); replace HB := A_ (hb); replace HI0 := A_ (hi); (try clear hb); (try clear hb2); (try clear hk); (try clear hi); obtain ⟨Ao18, co18, eo18⟩ := Kd.R_slice HO_3.out; subst eo18) | (refine gc_ 122 ?_; refine goesT_ (some 29) Try.func122 #[.pointer (some ⟨g, 0, none⟩), .int .i64 (x3_1.length : Int)] ?_; (with_reducible refine (spec_l1Cur_pick.calls g s0_0 t1296 t1297 (x3_1.length : Int) t1298 t1299 t1300 w0 _ ?side1 ?side2 A12.out).mono ?_); (case side1 => repeat (first | (with_reducible first | exact HI0.out | apply IsS100.alloc | apply IsS100.drewN | apply IsS100.drew | apply IsS100.set_1 | apply IsS100.set_2) | exact HI0.out)); (case side2 => repeat (first | (with_reducible first | exact HB.out | apply below_alloc | apply pw_below_drewN | apply below_drew1 | refine below_set ?_ (IsS100.ge HI0.out)) | exact HB.out)); rintro e w19 ⟨rfl, hi, hb, hk⟩; refine ⟨_, rfl, ?_⟩; replace HO_3 := A_ (Kd.R_mono (Kd.R_keep (IsS100.apart (show IsS100 w0 _ g s0_0 t1296 t1297 from by repeat (first | (with_reducible first | exact HI0.out | apply IsS100.alloc | apply IsS100.drewN | apply IsS100.drew | apply IsS100.set_1 | apply IsS100.set_2) | exact HI0.out)) (tr_x HO_3.out) (by decide)) hk (fun _ h => h.2)) (fun _ h => h.1)); replace HK := A_ (KeepBut.trans (by repeat (first | (with_reducible first | exact HK.out | apply KeepBut.set_ | apply keep_drewN | apply keep_drew | apply keep_alloc) | exact HK.out)) hk (.inl rfl)); replace HB := A_ (hb); replace HI0 := A_ (hi); (try clear hb); (try clear hb2); (try clear hk); (try clear hi)) | (refine gd_ 31 ?_; refine Kd.R_lit (Kd.int .i64) _ 3 ?hg (N := 31) ?hd (xs := ([(-2), 5, 6, 4611686018427387904] : List Int)) (inner := [.int .i64 (-2), .int .i64 5, .int .i64 6, .int .i64 4611686018427387904]) (ok := fun _ => True) (okp := fun _ => True) ?hr ?hp (fun _ hk => hk) trivial (Below.refl _ _) (Nat.le_refl _) (by simp) ?_; (case hd => rfl); (case hg => rfl); (case hr => first | (go_simp; done) | (go_simp; rfl)); (case hp => exact (Reps.one (show Kd.M (Kd.int .i64) _ _ _ (-2) [.int .i64 (-2)] from rfl) (Reps.one (show Kd.M (Kd.int .i64) _ _ _ 5 [.int .i64 5] from rfl) (Reps.one (show Kd.M (Kd.int .i64) _ _ _ 6 [.int .i64 6] from rfl) (Reps.one (show Kd.M (Kd.int .i64) _ _ _ 4611686018427387904 [.int .i64 4611686018427387904] from rfl) (Reps.none _ _)))))); intro v1302 w20 ho21 hb hg_ hnew_; clear hg_ hnew_; (first | rw [← Ny1301.out] at ho21 | (simp only [Int.reduceToNat] at ho21; rw [← Ny1301.out] at ho21)); have HO1303 := A_ (Kd.R_lower (Kd.R_new' ho21 (Kd.R_lt (tr_x HO_3.out))) (keep_size (w := w) (g := g) (row := none) (by repeat (first | (with_reducible first | exact HK.out | apply KeepBut.set_ | apply keep_drewN | apply keep_drew | apply keep_alloc) | exact HK.out)))); replace HO_3 := A_ (Kd.R_elder' (tr_x HO_3.out) (Kd.R_base ho21) hb); replace HK := A_ (KeepBut.trans (by repeat (first | (with_reducible first | exact HK.out | apply KeepBut.set_ | apply keep_drewN | apply keep_drew | apply keep_alloc) | exact HK.out)) (KeepBut.of_below hb g none) (.inl rfl)); replace HB := A_ (below_step (by repeat (first | (with_reducible first | exact HB.out | apply below_alloc | apply pw_below_drewN | apply below_drew1 | refine below_set ?_ (IsS100.ge HI0.out)) | exact HB.out)) hb); replace HI0 := A_ (IsS100.below (by repeat (first | (with_reducible first | exact HI0.out | apply IsS100.alloc | apply IsS100.drewN | apply IsS100.drew | apply IsS100.set_1 | apply IsS100.set_2) | exact HI0.out)) hb); clear hb ho21; obtain ⟨Ao22, co22, eo22⟩ := Kd.R_slice HO1303.out; subst eo22) | (refine gc_ 118 ?_; refine goesT_ (some 32) Try.func118 #[.pointer (some ⟨g, 0, none⟩), .slice Ao22 y1301.length co22] ?_; (with_reducible refine (spec_l1Cur_among.calls g s0_0 t1299 t1300 _ _ y1301 t1304 t1305 t1306 w0 _ ?side1 ?side2 ?side3 ?side4 ?side5 A13.out).mono ?_); (case side1 => repeat (first | (with_reducible first | exact HI0.out | apply IsS100.alloc | apply IsS100.drewN | apply IsS100.drew | apply IsS100.set_1 | apply IsS100.set_2) | exact HI0.out)); (case side2 => repeat (first | (with_reducible first | exact HB.out | apply below_alloc | apply pw_below_drewN | apply below_drew1 | refine below_set ?_ (IsS100.ge HI0.out)) | exact HB.out)); (case side3 => exact tc0_ (Kd.R_reads' HO1303.out).2.2); (case side4 => exact (Kd.R_reads' HO1303.out).2.1); (case side5 => exact far_slice (IsS100.own_ne HI0.out HO1303.out (by decide))); rintro e w23 ⟨rfl, hi, hb, hk⟩; refine ⟨_, rfl, ?_⟩; replace HO_3 := A_ (Kd.R_mono (Kd.R_keep (IsS100.apart (show IsS100 w0 _ g s0_0 t1299 t1300 from by repeat (first | (with_reducible first | exact HI0.out | apply IsS100.alloc | apply IsS100.drewN | apply IsS100.drew | apply IsS100.set_1 | apply IsS100.set_2) | exact HI0.out)) (tr_x HO_3.out) (by decide)) hk (fun _ h => h.2)) (fun _ h => h.1)); replace HO1303 := A_ (Kd.R_mono (Kd.R_keep (IsS100.apart (show IsS100 w0 _ g s0_0 t1299 t1300 from by repeat (first | (with_reducible first | exact HI0.out | apply IsS100.alloc | apply IsS100.drewN | apply IsS100.drew | apply IsS100.set_1 | apply IsS100.set_2) | exact HI0.out)) (tr_x HO1303.out) (by decide)) hk (fun _ h => h.2)) (fun _ h => h.1)); replace HK := A_ (KeepBut.trans (by repeat (first | (with_reducible first | exact HK.out | apply KeepBut.set_ | apply keep_drewN | apply keep_drew | apply keep_alloc) | exact HK.out)) hk (.inl rfl)); replace HB := A_ (hb); replace HI0 := A_ (hi); (try clear hb); (try clear hb2); (try clear hk); (try clear hi); have p16 : 0 ≤ (t1298 : Int) := od_; have q16 : (t1298 : Int) < ((x3_1.length : Int) : Int) := od_; obtain ⟨go16, co16, eo16, gb16, gl16, cl16, HG16⟩ := Kd.R_form HO_3.out (by omega); (first | cases eo16 | (injection eo16 with ea_ en_ ec_; (first | subst ea_ | (injection ea_ with ea_; subst ea_)); subst ec_; clear en_)); have GB16 := A_ gb16; have GG16 := A_ HG16; clear gb16 gl16 HG16; obtain ⟨hx16_0, hf16_0⟩ := Kd.R_celln 0 HO_3.out (t1298 : Int) p16 q16; replace p16 := eq_true p16; replace q16 := eq_true q16; have n_ := A_ (Kd.R_mono (ok' := (fun k_ => some k_ ≠ (.slice Ao22 y1301.length co22 : Value).ownBlock)) HO_3.out (fun k_ hk => hk.2)); clear HO_3; have HO_3 := n_; clear n_; obtain ⟨hy24_, hz24_⟩ := Kd.R_celln 0 HO_3.out (t1298 : Int) (od_) (od_); have HP24 := Kd.R_putg HO_3.out (t1298 : Int) t1304) | ((with_reducible refine gate_store (t := 3) (p := 33) rfl ?_); refine store_event (t := 3) (p := 33) (v := ?vo_w25) (w1 := (w23.setCell ⟨go16, (t1298 : Int).toNat, none⟩ (.int .i64 t1304))) ?hg ?ho ?hn ?hr ?_; (case ho => rfl); (case hg => rfl); (case hn => rfl); (case hr => first | (go_simp; done) | (go_simp; rfl)); intro w25 hw; have hg : w23.grownBy w25 (some go16) := (by rw [hw]; exact HP24.2); have hp_ : Kd.R (Kd.int .i64) 3 w25 w.heap.size (fun k_ => some k_ ≠ (.slice Ao22 y1301.length co22 : Value).ownBlock) (.slice (some ⟨go16, 0, none⟩) x3_1.length co18) y1307 := (by rw [hw, Ny1307.out]; exact HP24.1); clear HP24; replace HI0 := A_ (IsS100.grown (by repeat (first | (with_reducible first | exact HI0.out | apply IsS100.alloc | apply IsS100.drewN | apply IsS100.drew | apply IsS100.set_1 | apply IsS100.set_2) | exact HI0.out)) hg (IsS100.own_ne HI0.out HO_3.out (by decide))); replace HO1303 := A_ (Kd.R_after (v := (.slice (some ⟨go16, 0, none⟩) x3_1.length co18)) (v1 := (.slice (some ⟨go16, 0, none⟩) x3_1.length co18)) (ok := (fun _ => True)) (tr_x HO1303.out) hg (.inl rfl)); replace HB := A_ ((by rw [hw]; exact below_set (HB.out) (Nat.le_trans HL.out GB16.out) : Below w0.heap.size w0 w25)); replace HK := A_ (KeepBut.trans (by repeat (first | (with_reducible first | exact HK.out | apply KeepBut.set_ | apply keep_drewN | apply keep_drew | apply keep_alloc) | exact HK.out)) (KeepBut.of_grown hg g) (Kd.R_base2 HO_3.out)); replace HO_3 := A_ (hp_); clear hg hw hp_))
       go_ret
       exact ⟨_, te_, by (with_reducible repeat (first | apply Kd.R_alloc | apply Kd.R_drewN | apply Kd.R_drew)); exact Kd.R_mono HO_3.out (fun _ hk => trivial), by repeat (first | (with_reducible first | exact HI0.out | apply IsS100.alloc | apply IsS100.drewN | apply IsS100.drew | apply IsS100.set_1 | apply IsS100.set_2) | exact HI0.out), by repeat (first | (with_reducible first | exact HB.out | apply below_alloc | apply pw_below_drewN | apply below_drew1 | refine below_set ?_ (IsS100.ge HI0.out)) | exact HB.out), by repeat (first | (with_reducible first | exact HK.out | apply KeepBut.set_ | apply keep_drewN | apply keep_drew | apply keep_alloc) | exact HK.out)⟩
      ·
       rw [if_neg c15] at H
       exact absurd H (by simp)
     ·
      rw [if_neg c14] at H
      exact absurd H (by simp)
    ·
     rw [if_neg c11] at H
     have c11b0 : (t1295 == 0) = false := beq_eq_false_iff_ne.mpr c11
     have c11b1 : (t1295 != 0) = true := bne_iff_ne.mpr c11
     by_cases c26 : t1295 = 1
     ·
      rw [if_pos c26] at H
      have c26b0 : (t1295 == 1) = true := beq_iff_eq.mpr c26
      have c26b1 : (t1295 != 1) = false := bne_eq_false_iff_eq.mpr c26
      clear c26
      obtain ⟨y1308, hy1308⟩ : ∃ y_ : List Int, y_ = (([0, 0, 0, 0, 0, 0] : List Int)) := ⟨_, rfl⟩
      replace H : (if x3_1.length + y1308.length < 17592186044416 then (some ((x3_1 ++ y1308), t1296, t1297)) else (none)) = some (r1, r2, r3) := ty_ hy1308 H
      have Ny1308 := A_ hy1308
      clear hy1308
      by_cases c27 : x3_1.length + y1308.length < 17592186044416
      ·
       rw [if_pos c27] at H
       have LMc27 := A_ c27
       clear c27
       obtain ⟨y1311, hy1311⟩ : ∃ y_ : List Int, y_ = (x3_1 ++ y1308) := ⟨_, rfl⟩
       replace H : (some (y1311, t1296, t1297)) = some (r1, r2, r3) := ty_ hy1311 H
       have Ny1311 := A_ hy1311
       clear hy1311
       simp only [Option.some.injEq, Prod.mk.injEq] at H
       obtain ⟨rfl, rfl, rfl⟩ := H
       go_wp2_with (first | (refine gc_ 122 ?_; refine goesT_ (some 22) Try.func122 #[.pointer (some ⟨g, 0, none⟩), .int .i64 16] ?_; (with_reducible refine (spec_l1Cur_pick.calls g s0_0 x1001_1 x1002_1 16 t1295 t1296 t1297 w0 _ ?side1 ?side2 A10.out).mono ?_); (case side1 => repeat (first | (with_reducible first | exact HI0.out | apply IsS100.alloc | apply IsS100.drewN | apply IsS100.drew | apply IsS100.set_1 | apply IsS100.set_2) | exact HI0.out)); (case side2 => repeat (first | (with_reducible first | exact HB.out | apply below_alloc | apply pw_below_drewN | apply below_drew1 | refine below_set ?_ (IsS100.ge HI0.out)) | exact HB.out)); rintro e w28 ⟨rfl, hi, hb, hk⟩; refine ⟨_, rfl, ?_⟩; replace HO_3 := A_ (Kd.R_mono (Kd.R_keep (IsS100.apart (show IsS100 w0 _ g s0_0 x1001_1 x1002_1 from by repeat (first | (with_reducible first | exact HI0.out | apply IsS100.alloc | apply IsS100.drewN | apply IsS100.drew | apply IsS100.set_1 | apply IsS100.set_2) | exact HI0.out)) (tr_x HO_3.out) (by decide)) hk (fun _ h => h.2)) (fun _ h => h.1)); replace HK := A_ (KeepBut.trans (by repeat (first | (with_reducible first | exact HK.out | apply KeepBut.set_ | apply keep_drewN | apply keep_drew | apply keep_alloc) | exact HK.out)) hk (.inl rfl)); replace HB := A_ (hb); replace HI0 := A_ (hi); (try clear hb); (try clear hb2); (try clear hk); (try clear hi)) | (refine gd_ 37 ?_; refine Kd.R_lit (Kd.int .i64) _ 3 ?hg (N := 37) ?hd (xs := ([0, 0, 0, 0, 0, 0] : List Int)) (inner := [.int .i64 0, .int .i64 0, .int .i64 0, .int .i64 0, .int .i64 0, .int .i64 0]) (ok := fun _ => True) (okp := fun _ => True) ?hr ?hp (fun _ hk => hk) trivial (Below.refl _ _) (Nat.le_refl _) (by simp) ?_; (case hd => rfl); (case hg => rfl); (case hr => first | (go_simp; done) | (go_simp; rfl)); (case hp => exact (Reps.one (show Kd.M (Kd.int .i64) _ _ _ 0 [.int .i64 0] from rfl) (Reps.one (show Kd.M (Kd.int .i64) _ _ _ 0 [.int .i64 0] from rfl) (Reps.one (show Kd.M (Kd.int .i64) _ _ _ 0 [.int .i64 0] from rfl) (Reps.one (show Kd.M (Kd.int .i64) _ _ _ 0 [.int .i64 0] from rfl) (Reps.one (show Kd.M (Kd.int .i64) _ _ _ 0 [.int .i64 0] from rfl) (Reps.one (show Kd.M (Kd.int .i64) _ _ _ 0 [.int .i64 0] from rfl) (Reps.none _ _)))))))); intro v1309 w29 ho30 hb hg_ hnew_; clear hg_ hnew_; (first | rw [← Ny1308.out] at ho30 | (simp only [Int.reduceToNat] at ho30; rw [← Ny1308.out] at ho30)); have HO1310 := A_ (Kd.R_lower (Kd.R_new' ho30 (Kd.R_lt (tr_x HO_3.out))) (keep_size (w := w) (g := g) (row := none) (by repeat (first | (with_reducible first | exact HK.out | apply KeepBut.set_ | apply keep_drewN | apply keep_drew | apply keep_alloc) | exact HK.out)))); replace HO_3 := A_ (Kd.R_elder' (tr_x HO_3.out) (Kd.R_base ho30) hb); replace HK := A_ (KeepBut.trans (by repeat (first | (with_reducible first | exact HK.out | apply KeepBut.set_ | apply keep_drewN | apply keep_drew | apply keep_alloc) | exact HK.out)) (KeepBut.of_below hb g none) (.inl rfl)); replace HB := A_ (below_step (by repeat (first | (with_reducible first | exact HB.out | apply below_alloc | apply pw_below_drewN | apply below_drew1 | refine below_set ?_ (IsS100.ge HI0.out)) | exact HB.out)) hb); replace HI0 := A_ (IsS100.below (by repeat (first | (with_reducible first | exact HI0.out | apply IsS100.alloc | apply IsS100.drewN | apply IsS100.drew | apply IsS100.set_1 | apply IsS100.set_2) | exact HI0.out)) hb); clear hb ho30; obtain ⟨Ao32, co32, eo32⟩ := Kd.R_slice HO1310.out; subst eo32) | ((with_reducible refine gate_builtin (b := .append) (xs := #[.tmp 36, .tmp 37]) rfl ?_); at_builtin; refine Kd.R_append_rows (Kd.int .i64) w.heap.size rfl (.tmp 36) (.tmp 37) 22 3 (.int .i64 0) 8 rfl Try.underlying22 info3 rfl (by decide) (by omega) u3 x3_1 y1308 _ _ _ (fun k_ => some k_ ≠ (.slice Ao32 y1308.length co32 : Value).ownBlock) (fun _ => False) rfl rfl ?aO ?aR (fun _ _ h => h) (fun _ h => h.elim) ?aF (Below.refl _ _) ?aS ?aL ?_; (case aR => exact tc0_ (Kd.R_reads' HO1310.out).2.2); (case aF => exact (fun k_ hk => Kd.fresh' (Kd.R_lt (tr_x HO1310.out)) k_ hk)); (case aO => exact (tr_ (h := by exact Kd.R_mono HO_3.out (fun _ hk => hk.2)))); (case aS => exact (keep_size (w := w) (g := g) (row := none) (by repeat (first | (with_reducible first | exact HK.out | apply KeepBut.set_ | apply keep_drewN | apply keep_drew | apply keep_alloc) | exact HK.out)))); (case aL => have := LMc27.out; omega); intro v1312 w31 ho hb hg hat; rw [← Ny1311.out] at ho; have n0_ := A_ (IsS100.grown (by repeat (first | (with_reducible first | exact HI0.out | apply IsS100.alloc | apply IsS100.drewN | apply IsS100.drew | apply IsS100.set_1 | apply IsS100.set_2) | exact HI0.out)) hg (IsS100.own_ne HI0.out HO_3.out (by decide))); have n1_ := A_ (Kd.R_after (ok := (fun _ => True)) (tr_x HO1310.out) hg hat); have n2_ := A_ (below_weaken (by repeat (first | (with_reducible first | exact HB.out | apply below_alloc | apply pw_below_drewN | apply below_drew1 | refine below_set ?_ (IsS100.ge HI0.out)) | exact HB.out)) HL.out hb); have n3_ := A_ (KeepBut.trans (by repeat (first | (with_reducible first | exact HK.out | apply KeepBut.set_ | apply keep_drewN | apply keep_drew | apply keep_alloc) | exact HK.out)) (KeepBut.of_grown hg g) (Kd.R_base2 HO_3.out)); have n4_ := A_ (ho); clear HI0; clear HO1310; clear HB; clear HK; clear HO_3; have HI0 := n0_; have HO1310 := n1_; have HB := n2_; have HK := n3_; have HO1313 := n4_; clear n0_ n1_ n2_ n3_ n4_; clear ho hb hg hat))
       go_ret
       exact ⟨_, te_, by (with_reducible repeat (first | apply Kd.R_alloc | apply Kd.R_drewN | apply Kd.R_drew)); exact Kd.R_mono HO1313.out (fun _ hk => trivial), by repeat (first | (with_reducible first | exact HI0.out | apply IsS100.alloc | apply IsS100.drewN | apply IsS100.drew | apply IsS100.set_1 | apply IsS100.set_2) | exact HI0.out), by repeat (first | (with_reducible first | exact HB.out | apply below_alloc | apply pw_below_drewN | apply below_drew1 | refine below_set ?_ (IsS100.ge HI0.out)) | exact HB.out), by repeat (first | (with_reducible first | exact HK.out | apply KeepBut.set_ | apply keep_drewN | apply keep_drew | apply keep_alloc) | exact HK.out)⟩
      ·
       rw [if_neg c27] at H
       exact absurd H (by simp)
     ·
      rw [if_neg c26] at H
      have c26b0 : (t1295 == 1) = false := beq_eq_false_iff_ne.mpr c26
      have c26b1 : (t1295 != 1) = true := bne_iff_ne.mpr c26
      by_cases c33 : t1295 = 2
      ·
       rw [if_pos c33] at H
       have c33b0 : (t1295 == 2) = true := beq_iff_eq.mpr c33
       have c33b1 : (t1295 != 2) = false := bne_eq_false_iff_eq.mpr c33
       clear c33
       simp only [Option.some.injEq, Prod.mk.injEq] at H
       obtain ⟨rfl, rfl, rfl⟩ := H
       go_wp2_with (first | (refine gc_ 122 ?_; refine goesT_ (some 22) Try.func122 #[.pointer (some ⟨g, 0, none⟩), .int .i64 16] ?_; (with_reducible refine (spec_l1Cur_pick.calls g s0_0 x1001_1 x1002_1 16 t1295 t1296 t1297 w0 _ ?side1 ?side2 A10.out).mono ?_); (case side1 => repeat (first | (with_reducible first | exact HI0.out | apply IsS100.alloc | apply IsS100.drewN | apply IsS100.drew | apply IsS100.set_1 | apply IsS100.set_2) | exact HI0.out)); (case side2 => repeat (first | (with_reducible first | exact HB.out | apply below_alloc | apply pw_below_drewN | apply below_drew1 | refine below_set ?_ (IsS100.ge HI0.out)) | exact HB.out)); rintro e w34 ⟨rfl, hi, hb, hk⟩; refine ⟨_, rfl, ?_⟩; replace HO_3 := A_ (Kd.R_mono (Kd.R_keep (IsS100.apart (show IsS100 w0 _ g s0_0 x1001_1 x1002_1 from by repeat (first | (with_reducible first | exact HI0.out | apply IsS100.alloc | apply IsS100.drewN | apply IsS100.drew | apply IsS100.set_1 | apply IsS100.set_2) | exact HI0.out)) (tr_x HO_3.out) (by decide)) hk (fun _ h => h.2)) (fun _ h => h.1)); replace HK := A_ (KeepBut.trans (by repeat (first | (with_reducible first | exact HK.out | apply KeepBut.set_ | apply keep_drewN | apply keep_drew | apply keep_alloc) | exact HK.out)) hk (.inl rfl)); replace HB := A_ (hb); replace HI0 := A_ (hi); (try clear hb); (try clear hb2); (try clear hk); (try clear hi)))
       go_ret
       exact ⟨_, te_, by first | exact Kd.R_nil _ _ _ _ _ | exact Kd.N_nil _ _ _ _ _ | exact Kd.V_nil _ _ _ _ _ | exact Kd.Q_nil _ _ _ _ _ | exact Kd.S_nil _ _ _ _ _, by repeat (first | (with_reducible first | exact HI0.out | apply IsS100.alloc | apply IsS100.drewN | apply IsS100.drew | apply IsS100.set_1 | apply IsS100.set_2) | exact HI0.out), by repeat (first | (with_reducible first | exact HB.out | apply below_alloc | apply pw_below_drewN | apply below_drew1 | refine below_set ?_ (IsS100.ge HI0.out)) | exact HB.out), by repeat (first | (with_reducible first | exact HK.out | apply KeepBut.set_ | apply keep_drewN | apply keep_drew | apply keep_alloc) | exact HK.out)⟩
      ·
       rw [if_neg c33] at H
       have c33b0 : (t1295 == 2) = false := beq_eq_false_iff_ne.mpr c33
       have c33b1 : (t1295 != 2) = true := bne_iff_ne.mpr c33
       simp only [Option.some.injEq, Prod.mk.injEq] at H
       obtain ⟨rfl, rfl, rfl⟩ := H
       go_wp2_with (first | (refine gc_ 122 ?_; refine goesT_ (some 22) Try.func122 #[.pointer (some ⟨g, 0, none⟩), .int .i64 16] ?_; (with_reducible refine (spec_l1Cur_pick.calls g s0_0 x1001_1 x1002_1 16 t1295 t1296 t1297 w0 _ ?side1 ?side2 A10.out).mono ?_); (case side1 => repeat (first | (with_reducible first | exact HI0.out | apply IsS100.alloc | apply IsS100.drewN | apply IsS100.drew | apply IsS100.set_1 | apply IsS100.set_2) | exact HI0.out)); (case side2 => repeat (first | (with_reducible first | exact HB.out | apply below_alloc | apply pw_below_drewN | apply below_drew1 | refine below_set ?_ (IsS100.ge HI0.out)) | exact HB.out)); rintro e w35 ⟨rfl, hi, hb, hk⟩; refine ⟨_, rfl, ?_⟩; replace HO_3 := A_ (Kd.R_mono (Kd.R_keep (IsS100.apart (show IsS100 w0 _ g s0_0 x1001_1 x1002_1 from by repeat (first | (with_reducible first | exact HI0.out | apply IsS100.alloc | apply IsS100.drewN | apply IsS100.drew | apply IsS100.set_1 | apply IsS100.set_2) | exact HI0.out)) (tr_x HO_3.out) (by decide)) hk (fun _ h => h.2)) (fun _ h => h.1)); replace HK := A_ (KeepBut.trans (by repeat (first | (with_reducible first | exact HK.out | apply KeepBut.set_ | apply keep_drewN | apply keep_drew | apply keep_alloc) | exact HK.out)) hk (.inl rfl)); replace HB := A_ (hb); replace HI0 := A_ (hi); (try clear hb); (try clear hb2); (try clear hk); (try clear hi)))
       go_ret
       exact ⟨_, te_, tr_x HO_3.out, by repeat (first | (with_reducible first | exact HI0.out | apply IsS100.alloc | apply IsS100.drewN | apply IsS100.drew | apply IsS100.set_1 | apply IsS100.set_2) | exact HI0.out), by repeat (first | (with_reducible first | exact HB.out | apply below_alloc | apply pw_below_drewN | apply below_drew1 | refine below_set ?_ (IsS100.ge HI0.out)) | exact HB.out), by repeat (first | (with_reducible first | exact HK.out | apply KeepBut.set_ | apply keep_drewN | apply keep_drew | apply keep_alloc) | exact HK.out)⟩

/-! ### spec_DrawCyclesOfFiles: function 69 -/
def spec_DrawCyclesOfFiles.f (k : Nat) (l0 : List Int) : Option (List Int) := (spec_l1Cur_filed.f k l0 0 0).bind fun bt1315 => (some bt1315.1)
theorem spec_DrawCyclesOfFiles.mono : ∀ a0 k, LeO (spec_DrawCyclesOfFiles.f k a0) (spec_DrawCyclesOfFiles.f (k + 1) a0) := by
 intro a0 k
 unfold spec_DrawCyclesOfFiles.f
 repeat' first | (with_reducible first | exact spec_l1Cur_filed.mono _ _ _ _ | exact LeO.refl _ | exact LeO.none _ | refine LeO.ite ?_ ?_ | refine LeO.bind ?_ (fun _ => ?_)) | exact spec_l1Cur_filed.mono _ _ _ _ | exact LeO.none _ | refine LeO.ite ?_ ?_ | refine LeO.bind ?_ (fun _ => ?_)
theorem spec_DrawCyclesOfFiles.calls (k : Nat) (A0 : Option Addr) (c0 : Nat) (l0 : List Int) (r : List Int) (w : World) (hr0 : Kd.C (Kd.int .u8) w A0 l0.length l0) (hc0 : l0.length ≤ c0) (h : spec_DrawCyclesOfFiles.f k l0 = some r) :
  Calls Try.prog 69 #[.slice A0 l0.length c0] w fun e w' => ∃ v0_ : Value, e = .returned (v0_) ∧ Kd.R (Kd.int .i64) 3 w' w.heap.size (fun _ => True) v0_ r ∧ Below w.heap.size w w' := by
 have hu100 := Try.underlying100
 have HR0 := A_ hr0
 have HC0 := A_ hc0
 clear hr0 hc0
 have HB := A_ (Below.refl w.heap.size w)
 have H : ((spec_l1Cur_filed.f k l0 0 0).bind fun bt1315 => (some bt1315.1)) = some r := h
 clear h
 replace H := Option.bind_eq_some_iff.mp H
 obtain ⟨⟨t1315, t1318, t1319⟩, A20, H⟩ := H
 replace H : (some t1315) = some r := H
 have A2 := A_ A20
 clear A20
 obtain rfl := Option.some.inj H
 go_enter Try.func69, Try.ntmps69
 go_wp2_with (first | (refine gd_ 6 ?_; refine bx_ 6 #[.slice A0 l0.length c0, .int .i64 0, .int .u64 0] 100 ?_; intro gb1314 hg w3 hbox hb; have HI1314 := A_ ((⟨_, _, hbox, (by rw [hg]; exact (below_size tb_)), HR0.out⟩ : IsS100 w w3 gb1314 l0 0 0)); replace HB := A_ (below_step tb_ hb); clear hb hbox hg) | (refine gc_ 148 ?_; refine goesT_ (some 8) Try.func148 #[.pointer (some ⟨gb1314, 0, none⟩)] ?_; (with_reducible refine (spec_l1Cur_filed.calls k gb1314 l0 0 0 t1315 t1318 t1319 w _ ?side1 ?side2 A2.out).mono ?_); (case side1 => repeat (first | (with_reducible first | exact HI1314.out | apply IsS100.alloc | apply IsS100.drewN | apply IsS100.drew | apply IsS100.set_1 | apply IsS100.set_2) | exact HI1314.out)); (case side2 => repeat (first | (with_reducible first | exact HB.out | apply below_alloc | apply pw_below_drewN | apply below_drew1 | refine below_set ?_ (IsS100.ge HI1314.out)) | exact HB.out)); rintro e w4 ⟨v1316, rfl, ho0, hi, hb, hk⟩; refine ⟨_, rfl, ?_⟩; have HO1317 := A_ (Kd.R_lower ho0 (below_size (by repeat (first | (with_reducible first | exact HB.out | apply below_alloc | apply pw_below_drewN | apply below_drew1 | refine below_set ?_ (IsS100.ge HI1314.out)) | exact HB.out)))); replace HB := A_ (hb); replace HI1314 := A_ (hi); (try clear hb); (try clear hb2); (try clear hk); (try clear hi); (try clear ho0)))
 go_ret
 exact ⟨_, te_, tr_x HO1317.out, by repeat (first | (with_reducible first | exact HB.out | apply below_alloc | apply pw_below_drewN | apply below_drew1 | refine below_set ?_ (IsS100.ge HI1314.out)) | exact HB.out)⟩

end
end Go.Proofs.Ythlcaikplebpmaa.P
