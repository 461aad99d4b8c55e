-- printed functions (wip/slim.py)
import Derived.Test.YthlcaikplebpmaaPx0
import Derived.Test.YthlcaikplebpmaaLn
import Derived.Test.YthlcaikplebpmaaLo
import Derived.Test.YthlcaikplebpmaaQb269d509c4
import Derived.Test.YthlcaikplebpmaaQ53cef9bec4
import Derived.Test.YthlcaikplebpmaaQ494f91a220
import Derived.Test.YthlcaikplebpmaaQ2ab41e0ecc
import Derived.Test.YthlcaikplebpmaaQ5439fa8678
namespace Go.Proofs.Ythlcaikplebpmaa.P
noncomputable section
set_option maxHeartbeats 8000000
set_option maxRecDepth 100000
open Go.RowKit Go.Proofs.YthlcaikplebpmaaW.PrintWords Go.Proofs.YthlcaikplebpmaaW.PrintLast Go.Proofs.YthlcaikplebpmaaW.PrintMore
attribute [local go_sem] max2_int min2_int max_two min_two max_three min_three max_four min_four   -- for this text's walks alone
set_option linter.unusedVariables false
set_option linter.unusedSimpArgs false

/-! ### spec_biFirst: function 105 -/
mutual
def spec_biFirst.f (all : List (List Int)) (kd : Int) : Nat → List (List Int) → Int → Int → Option (List (List Int) × Bool)
 | 0, _, _, _ => none
 | n + 1, q, fr, kk => if kk = 0 then some (q, true) else spec_biFirst.l0 all kd n q fr kk
def spec_biFirst.l0 (all : List (List Int)) (kd : Int) : Nat → List (List Int) → Int → Int → Option (List (List Int) × Bool)
 | 0, _, _, _ => none
 | n + 1, q, i, kk => if wrap64 (i + kk) ≤ (all.length : Int) then (if 0 ≤ i then (if i < (all.length : Int) then spec_biFirst.l1 all kd n q i kk true 0 else none) else none) else some ([], false)
def spec_biFirst.l1 (all : List (List Int)) (kd : Int) : Nat → List (List Int) → Int → Int → Bool → Int → Option (List (List Int) × Bool)
 | 0, _, _, _, _, _ => none
 | n + 1, q, i, kk, b, j => if j < (q.length : Int) then (if 0 ≤ j then (if b = true then ((spec_biDisturb.f (all.getD i.toNat []) (q.getD j.toNat []) kd).bind fun t => spec_biFirst.l1 all kd n q i kk (!t) (wrap64 (j + 1))) else spec_biFirst.l1 all kd n q i kk false (wrap64 (j + 1))) else none) else (if b = true then (if q.length < 5864062014805 then ((spec_biFirst.f all kd n (q ++ [all.getD i.toNat []]) (wrap64 (i + 1)) (wrap64 (kk - 1))).bind fun r => if r.2 = true then some (r.1, true) else spec_biFirst.l0 all kd n q (wrap64 (i + 1)) kk) else none) else spec_biFirst.l0 all kd n q (wrap64 (i + 1)) kk)
end
theorem spec_biFirst.mono_l (all : List (List Int)) (kd : Int) : ∀ k, (∀ q fr kk, LeO (spec_biFirst.f all kd k q fr kk) (spec_biFirst.f all kd (k + 1) q fr kk)) ∧ (∀ q i kk, LeO (spec_biFirst.l0 all kd k q i kk) (spec_biFirst.l0 all kd (k + 1) q i kk)) ∧ (∀ q i kk b j, LeO (spec_biFirst.l1 all kd k q i kk b j) (spec_biFirst.l1 all kd (k + 1) q i kk b j))
 | 0 => ⟨fun _ _ _ r h => by simp [spec_biFirst.f] at h, fun _ _ _ r h => by simp [spec_biFirst.l0] at h, fun _ _ _ _ _ r h => by simp [spec_biFirst.l1] at h⟩
 | k + 1 => by
  obtain ⟨i0, i1, i2⟩ := spec_biFirst.mono_l all kd k
  refine ⟨?_, ?_, ?_⟩
  ·
   intro q fr kk
   unfold spec_biFirst.f
   exact LeO.ite (LeO.refl _) (i1 _ _ _)
  ·
   intro q i kk
   unfold spec_biFirst.l0
   refine LeO.ite ?_ (LeO.refl _)
   refine LeO.ite ?_ (LeO.refl _)
   exact LeO.ite (i2 _ _ _ _ _) (LeO.refl _)
  ·
   intro q i kk b j
   unfold spec_biFirst.l1
   refine LeO.ite ?_ ?_
   ·
    refine LeO.ite ?_ (LeO.refl _)
    exact LeO.ite (LeO.bind (LeO.refl _) (fun _ => i2 _ _ _ _ _)) (i2 _ _ _ _ _)
   ·
    refine LeO.ite ?_ (i1 _ _ _)
    refine LeO.ite ?_ (LeO.refl _)
    exact LeO.bind (i0 _ _ _) (fun _ => LeO.ite (LeO.refl _) (i1 _ _ _))
theorem spec_biFirst.mono (all : List (List Int)) (kd : Int) (q : List (List Int)) (fr kk : Int) (k : Nat) : LeO (spec_biFirst.f all kd k q fr kk) (spec_biFirst.f all kd (k + 1) q fr kk) := (spec_biFirst.mono_l all kd k).1 _ _ _
theorem spec_biFirst.gb {W w1 : World} (hg : W.grownBy w1 none) : Below W.heap.size W w1 := ⟨hg.os, hg.tape, hg.output, hg.size, fun k hk => hg.block k hk (by simp)⟩
set_option maxHeartbeats 16000000 in
set_option maxRecDepth 100000 in
theorem spec_biFirst.calls (w0 : World) (U : Nat → Prop) (bI : Nat) (R C : Int) (Ab : Option Addr) (lb : List Int) (cb : Nat) (Aa : Option Addr) (ca : Nat) (all : List (List Int)) (kd : Int) (hA0 : (Cap.lent 3 bI U w0).C w0 Aa all.length all) (hU0 : ∀ ad, Aa = some ad → U ad.block) (hul0 : ∀ j, U j → j < w0.heap.size) (hc0 : all.length ≤ ca) (k : Nat) :
  ∀ (W : World) (vq : Value) (q : List (List Int)) (fr kk : Int) (r1 : List (List Int)) (r2 : Bool) (hB : Below w0.heap.size w0 W) (hQ : (Cap.lent 3 bI U w0).R 22 W w0.heap.size (fun j => some j = vq.ownBlock) vq q) (h : spec_biFirst.f all kd k q fr kk = some (r1, r2)),
  Calls Try.prog 105 #[.agg #[.int .i64 R, .int .i64 C, .slice Ab lb.length cb], .slice Aa all.length ca, vq, .int .i64 fr, .int .i64 kk, .int .i64 kd] W fun e W' => ∃ v0_ : Value, e = .returned (.tuple #[v0_, .bool r2]) ∧ (Cap.lent 3 bI U w0).R 22 W' w0.heap.size (fun j => some j = v0_.ownBlock) v0_ r1 ∧ Below W.heap.size W W' := by
 have hA := A_ hA0
 have hU := A_ hU0
 have hul := A_ hul0
 have hC := A_ hc0
 clear hA0 hU0 hul0 hc0
 induction k using Nat.strongRecOn with
 | _ k ih =>
 intro W vq q fr kk r1 r2 hB hQ h
 cases k with
 | zero => exact absurd h (by simp [spec_biFirst.f])
 | succ k =>
 simp only [spec_biFirst.f] at h
 obtain ⟨Aq, cq, rfl⟩ := Kd.R_slice hQ
 have HB := A_ hB
 have HQ := A_ hQ
 clear hB hQ
 have hu26 := Try.underlying26
 by_cases c1 : kk = 0
 ·
  rw [if_pos c1] at h
  have c1b0 : (kk == 0) = true := beq_iff_eq.mpr c1
  clear c1
  obtain ⟨rfl, rfl⟩ := Prod.mk.inj (Option.some.inj h)
  clear h
  go_enter Try.func105, Try.ntmps105
  go_wp2
  go_ret2
  exact ⟨_, rfl, Kd.R_alloc HQ.out _, below_alloc (Below.refl _ _) _⟩
 rw [if_neg c1] at h
 have c1b0 : (kk == 0) = false := beq_eq_false_iff_ne.mpr c1
 clear c1
 obtain ⟨Wb, hWb⟩ : ∃ Wb, Wb = W.alloc (.cells #[.int .i64 R, .int .i64 C, .slice Ab lb.length cb] 26) := ⟨_, rfl⟩
 have hbb : Below W.heap.size W Wb := by rw [hWb]; exact below_alloc (Below.refl _ _) _
 have hb0 : Below w0.heap.size w0 Wb := below_then HB.out HB.out.size hbb
 have hbk : Wb.heap[W.heap.size]? = some (.cells #[.int .i64 R, .int .i64 C, .slice Ab lb.length cb] 26 (0, 0)) := by rw [hWb]; exact blk_new _ _
 have hQb := Kd.R_below HQ.out hbb
 have HBB := A_ hbb
 have HB0 := A_ hb0
 have HBK := A_ hbk
 have HQB := A_ hQb
 clear hbb hb0 hbk hQb
 have hAW : ∀ W', Below Wb.heap.size Wb W' → (Cap.lent 3 bI U w0).C W' Aa all.length all := fun W' hb => Cap.lent_same hA.out (fun ad ha => (below_then HB0.out HB0.out.size hb).block _ (hul.out _ (hU.out ad ha)))
 have HAW := A_ hAW
 clear hAW
 have hread : ∀ W' x cs, Below Wb.heap.size Wb W' → Cap.Lent 3 bI U w0 x cs → ∃ A c, cs = [.slice A x.length c] ∧ x.length ≤ c ∧ (Kd.int .i64).C W' A x.length x := fun W' x cs hb hl => (hl.move (fun j hj => (below_then HB0.out HB0.out.size hb).block _ (hul.out _ hj))).cell
 have HRD := A_ hread
 clear hread
 replace h := A_ h
 go_enter Try.func105, Try.ntmps105
 go_wp2
 rw [← hWb]
 go_loopg [14] k (fun n v14 W' => ∃ (i : Int), v14 = .int .i64 i ∧ Aside0 (spec_biFirst.l0 all kd n q i kk = some (r1, r2)) ∧ Aside0 (n ≤ k) ∧ Aside0 (Below Wb.heap.size Wb W'))
 case atStart => exact ⟨fr, rfl, h, ⟨Nat.le_refl _⟩, ⟨Below.refl _ _⟩⟩
 case round =>
  clear h
  obtain ⟨i, rfl, HA, HK1, HW⟩ := hrel
  cases gk with
  | zero => exact absurd HA.out (by simp [spec_biFirst.l0])
  | succ k1 =>
  have H := HA.out
  clear HA
  simp only [spec_biFirst.l0] at H
  by_cases c2 : wrap64 (i + kk) ≤ (all.length : Int)
  case neg =>
   rw [if_neg c2] at H
   have c2b := decide_eq_false c2
   clear c2
   obtain ⟨rfl, rfl⟩ := Prod.mk.inj (Option.some.inj H)
   clear H
   go_wp2
   go_ret2
   exact ⟨_, rfl, Kd.R_mono (Kd.R_nil _ _ _ _ _) (fun _ hk => hk), below_then HBB.out HBB.out.size HW.out⟩
  rw [if_pos c2] at H
  have c2b := decide_eq_true c2
  clear c2
  by_cases c3 : 0 ≤ i
  case neg =>
   rw [if_neg c3] at H
   exact absurd H (by simp)
  rw [if_pos c3] at H
  by_cases c4 : i < (all.length : Int)
  case neg =>
   rw [if_neg c4] at H
   exact absurd H (by simp)
  rw [if_pos c4] at H
  replace H := A_ H
  have p3 := eq_true c3
  have p4 := eq_true c4
  obtain ⟨ad, cx0, e0, hcl0, hkx, hcc⟩ := Kd.C_get (HAW.out _ (Below.refl _ _)) [] i c3 c4
  obtain ⟨Ax, cx, rfl, hlx, hCx⟩ := Cap.Lent.cell hkx
  subst e0
  have hxe0 : Wb.cell? (ad.add i.toNat) = some (.slice Ax (all.getD i.toNat []).length cx) := by
   have := hcc 0 _ rfl
   simpa [Cap.lent] using this
  have HXE := A_ hxe0
  have HXL := A_ hkx
  have HLX := A_ hlx
  clear hcc hcl0 hxe0 hkx hlx hCx
  obtain ⟨x, hx⟩ : ∃ x, x = all.getD i.toNat [] := ⟨_, rfl⟩
  rw [← hx] at HXE HXL HLX
  have HX := A_ hx
  clear hx
  go_wp2
  go_loopg [15, 34] k1 (fun n v15 v34 W' => ∃ (b : Bool) (j : Int), v15 = .bool b ∧ v34 = .int .i64 j ∧ Aside0 (spec_biFirst.l1 all kd n q i kk b j = some (r1, r2)) ∧ Aside0 (n ≤ k1) ∧ Aside0 (Below Wb.heap.size Wb W'))
  case atStart => exact ⟨true, 0, rfl, rfl, H, ⟨Nat.le_refl _⟩, HW⟩
  case round =>
   clear H HW
   obtain ⟨b, j, rfl, rfl, HA, HK2, HW⟩ := hrel
   cases gk with
   | zero => exact absurd HA.out (by simp [spec_biFirst.l1])
   | succ k2 =>
   have H := HA.out
   clear HA
   simp only [spec_biFirst.l1] at H
   rw [← HX.out] at H
   have hxe := (HW.out.cell (World.block_lt_of_cell? Wb _ HXE.out)).trans HXE.out
   have hbk := blk_below HBK.out HW.out
   by_cases c5 : j < (q.length : Int)
   ·
    rw [if_pos c5] at H
    by_cases c6 : 0 ≤ j
    case neg =>
     rw [if_neg c6] at H
     exact absurd H (by simp)
    rw [if_pos c6] at H
    have c5b := decide_eq_true c5
    have p5 := eq_true c5
    have p6 := eq_true c6
    obtain ⟨adq, cy0, eq0, hcl0, hky, hcc⟩ := Kd.C_get (Kd.R_reads' (Kd.R_below HQB.out HW.out)).2.2 [] j c6 c5
    obtain ⟨Ay, cy, rfl, hly, hCy⟩ := Cap.Lent.cell hky
    subst eq0
    have hye := hcc 0 _ rfl
    simp only [Nat.add_zero] at hye
    rw [show j.toNat * (Cap.lent 3 bI U w0).sz = j.toNat from Nat.mul_one _] at hye
    generalize q.getD j.toNat [] = y at H hky hly hCy hye
    have HLY := A_ hly
    have HCY := A_ ((Cap.Lent.now hky (fun z hz => (below_then HB0.out HB0.out.size HW.out).block _ (hul.out _ hz))).2)
    have HCX := A_ ((Cap.Lent.now HXL.out (fun z hz => (below_then HB0.out HB0.out.size HW.out).block _ (hul.out _ hz))).2)
    clear hcc hcl0 hky hly hCy c5 c6
    cases b with
    | true =>
     rw [if_pos rfl] at H
     obtain ⟨t, A5, H⟩ := Option.bind_eq_some_iff.mp H
     replace A5 := A_ A5
     replace H := A_ H
     go_wp2_with (first | (go_at_call 186; (with_reducible refine (spec_biDisturb.calls Ax cx x Ay cy y kd t _ HCX.out HLX.out HCY.out HLY.out A5.out).mono ?_); rintro e w5 ⟨rfl, hd⟩; have HW5 := A_ (below_then HW.out HW.out.size hd.below); clear hd))
     go_roundg k2
     case measure => have := HK2.out; omega
     case rel => exact ⟨!t, wrap64 (j + 1), tf_, tf_, H, ⟨by have := HK2.out; omega⟩, HW5⟩
    | false =>
     rw [if_neg (by simp)] at H
     replace H := A_ H
     go_wp2
     go_roundg k2
     case measure => have := HK2.out; omega
     case rel => exact ⟨false, wrap64 (j + 1), tf_, tf_, H, ⟨by have := HK2.out; omega⟩, HW⟩
   ·
    rw [if_neg c5] at H
    have c5b := decide_eq_false c5
    clear c5
    cases b with
    | false =>
     rw [if_neg (by simp)] at H
     replace H := A_ H
     go_wp2
     go_roundg k2
     case measure => have := HK1.out; have := HK2.out; omega
     case rel => exact ⟨wrap64 (i + 1), tf_, H, ⟨by have := HK1.out; have := HK2.out; omega⟩, HW⟩
    | true =>
     rw [if_pos rfl] at H
     by_cases c7 : q.length < 5864062014805
     case neg =>
      rw [if_neg c7] at H
      exact absurd H (by simp)
     rw [if_pos c7] at H
     obtain ⟨⟨r3, b3⟩, A6, H⟩ := Option.bind_eq_some_iff.mp H
     replace A6 := A_ A6
     have C7 := A_ c7
     clear c7
     go_wp2
     refine start_ (n := 22) (S := fun w' => Below Wb.heap.size Wb w') (ds := []) (Fn.bl 22 0) (by kernel_rfl) rfl rfl (below_then HW.out HW.out.size (below_drew (Below.refl _ _))) (fun hHeld => ?_)
     clear HW hxe hbk
     generalize World.drew _ = w6 at hHeld ⊢
     refine take_ (i := 1) (N := some 54) (v := ?_) (a' := ?_) (Fn.bl 22 2) rfl rfl (by kernel_rfl) (fun _ _ _ h => h) (Or.inl ⟨by rfl, ?_⟩) hHeld ?_ ?_
     rotate_left
     ·
      intro w' s0
      go_simp
      with_reducible rfl
     rotate_left
     ·
      simp only [Act.put, List.setIfInBounds_toArray, List.set_cons_zero, List.set_cons_succ, i64_w, i32_w]
      rfl
     refine take_ (i := 3) (N := some 56) (v := ?_) (a' := ?_) (Fn.bl 22 10) rfl rfl (by kernel_rfl) (fun _ _ _ h => h) (Or.inl ⟨by rfl, ?_⟩) hHeld ?_ ?_
     rotate_left
     ·
      intro w' s0
      go_simp
      with_reducible rfl
     rotate_left
     ·
      simp only [Act.put, List.setIfInBounds_toArray, List.set_cons_zero, List.set_cons_succ, i64_w, i32_w]
      rfl
     refine take_ (i := 5) (N := some 58) (v := ?_) (a' := ?_) (Fn.bl 22 42) rfl rfl (by kernel_rfl) (fun _ _ _ h => h) (Or.inl ⟨by rfl, ?_⟩) hHeld ?_ ?_
     rotate_left
     ·
      intro w' s0
      go_simp
      with_reducible rfl
     rotate_left
     ·
      simp only [Act.put, List.setIfInBounds_toArray, List.set_cons_zero, List.set_cons_succ, i64_w, i32_w]
      rfl
     refine take_ (i := 6) (N := some 59) (v := ?_) (a' := ?_) (Fn.bl 22 106) rfl rfl (by kernel_rfl) (fun _ _ _ h => h) (Or.inl ⟨by rfl, ?_⟩) hHeld ?_ ?_
     rotate_left
     ·
      intro w' s0
      go_simp
      with_reducible rfl
     rotate_left
     ·
      simp only [Act.put, List.setIfInBounds_toArray, List.set_cons_zero, List.set_cons_succ, i64_w, i32_w]
      rfl
     refine take_ (i := 11) (N := some 64) (v := ?_) (a' := ?_) (Fn.bl 22 2154) rfl rfl (by kernel_rfl) (fun _ _ _ h => h) (Or.inl ⟨by rfl, ?_⟩) hHeld ?_ ?_
     rotate_left
     ·
      intro w' s0
      go_simp
      with_reducible rfl
     rotate_left
     ·
      simp only [Act.put, List.setIfInBounds_toArray, List.set_cons_zero, List.set_cons_succ, i64_w, i32_w]
      rfl
     refine take_ (i := 12) (N := some 65) (v := ?_) (a' := ?_) (Fn.bl 22 6250) rfl rfl (by kernel_rfl) (fun _ _ _ h => h) (Or.inl ⟨by rfl, ?_⟩) hHeld ?_ ?_
     rotate_left
     ·
      intro w' s0
      go_simp
      with_reducible rfl
     rotate_left
     ·
      simp only [Act.put, List.setIfInBounds_toArray, List.set_cons_zero, List.set_cons_succ, i64_w, i32_w]
      rfl
     refine take_ (i := 13) (N := some 66) (v := ?_) (a' := ?_) (Fn.bl 22 14442) rfl rfl (by kernel_rfl) (fun _ _ _ h => h) (Or.inl ⟨by rfl, ?_⟩) hHeld ?_ ?_
     rotate_left
     ·
      intro w' s0
      go_simp
      with_reducible rfl
     rotate_left
     ·
      simp only [Act.put, List.setIfInBounds_toArray, List.set_cons_zero, List.set_cons_succ, i64_w, i32_w]
      rfl
     refine take_ (i := 14) (N := some 67) (v := ?_) (a' := ?_) (Fn.bl 22 30826) rfl rfl (by kernel_rfl) (fun _ _ _ h => h) (Or.inl ⟨by rfl, ?_⟩) hHeld ?_ ?_
     rotate_left
     ·
      intro w' s0
      go_simp
      with_reducible rfl
     rotate_left
     ·
      simp only [Act.put, List.setIfInBounds_toArray, List.set_cons_zero, List.set_cons_succ, i64_w, i32_w]
      rfl
     refine take_ (i := 15) (N := some 68) (v := ?_) (a' := ?_) (Fn.bl 22 63594) rfl rfl (by kernel_rfl) (fun _ _ _ h => h) (Or.inl ⟨by rfl, ?_⟩) hHeld ?_ ?_
     rotate_left
     ·
      intro w' s0
      go_simp
      with_reducible rfl
     rotate_left
     ·
      simp only [Act.put, List.setIfInBounds_toArray, List.set_cons_zero, List.set_cons_succ, i64_w, i32_w]
      rfl
     refine take_ (i := 0) (N := some 53) (v := ?_) (a' := ?_) (Fn.bl 22 63595) rfl rfl (by kernel_rfl) (fun _ _ _ h => h) (Or.inl ⟨by rfl, ?_⟩) hHeld ?_ ?_
     rotate_left
     ·
      intro w' s0
      have h0 := blk_cell (blk_below HBK.out s0) 0
      have h1 := blk_cell (blk_below HBK.out s0) 1
      have h2 := blk_cell (blk_below HBK.out s0) 2
      go_simp
      with_reducible rfl
     rotate_left
     ·
      simp only [Act.put, List.setIfInBounds_toArray, List.set_cons_zero, List.set_cons_succ, i64_w, i32_w]
      rfl
     refine take_ (i := 7) (N := some 60) (v := ?_) (a' := ?_) (Fn.bl 22 63723) rfl rfl (by kernel_rfl) (fun _ _ _ h => h) (Or.inl ⟨by rfl, ?_⟩) hHeld ?_ ?_
     rotate_left
     ·
      intro w' s0
      go_simp
      with_reducible rfl
     rotate_left
     ·
      simp only [Act.put, List.setIfInBounds_toArray, List.set_cons_zero, List.set_cons_succ, i64_w, i32_w]
      rfl
     refine take_ (i := 8) (N := some 61) (v := ?_) (a' := ?_) (Fn.bl 22 63979) rfl rfl (by kernel_rfl) (fun _ _ _ h => h) (Or.inl ⟨by rfl, ?_⟩) hHeld ?_ ?_
     rotate_left
     ·
      intro w' s0
      have h0 := (s0.cell (World.block_lt_of_cell? Wb _ HXE.out)).trans HXE.out
      go_simp
      with_reducible rfl
     rotate_left
     ·
      simp only [Act.put, List.setIfInBounds_toArray, List.set_cons_zero, List.set_cons_succ, i64_w, i32_w]
      rfl
     have lim : ∀ w', Below Wb.heap.size Wb w' → Below w0.heap.size w0 w' := fun w' hb => below_then HB0.out HB0.out.size hb
     refine join_ (σ := Value × Value × Value) 7 (Fn.bl 22 64511) (fun s_ => [(55, s_.1), (57, s_.2.1), (62, s_.2.2)]) (fun s_ w' => ((Cap.lent 3 bI U w0).R 22 w' Wb.heap.size (fun j => some j = s_.2.1.ownBlock) s_.2.1 q) ∧ ((Cap.lent 3 bI U w0).R 22 w' Wb.heap.size (fun j => some j = s_.2.2.ownBlock) s_.2.2 [x]) ∧ (∀ j, some j = s_.2.2.ownBlock → some j ≠ s_.2.1.ownBlock) ∧ Below Wb.heap.size Wb w') ?_ ?_
     rotate_left
     ·
      intro hJ
      refine join_ (σ := Value × Value) 8 (Fn.bl 22 64495) (fun s_ => [(55, s_.1), (62, s_.2)]) (fun s_ w' => ((Cap.lent 3 bI U w0).R 22 w' Wb.heap.size (fun j => some j = s_.1.ownBlock) s_.1 []) ∧ ((Cap.lent 3 bI U w0).R 22 w' Wb.heap.size (fun j => some j = s_.2.ownBlock) s_.2 [x]) ∧ (∀ j, some j = s_.2.ownBlock → some j ≠ s_.1.ownBlock) ∧ Below Wb.heap.size Wb w') ?_ ?_
      rotate_left
      ·
       intro hM
       refine two_ (i := 2) (j := 9) (Ni := some 55) (Nj := some 62) (Fn.bl 22 63983) (Fn.bl 22 64491) rfl rfl rfl rfl (by kernel_rfl) (by decide) (by decide) (fun K hK => ?_) (fun K hK => ?_)
       ·
        refine Kd.R_lit_step (Cap.lent 3 bI U w0) (w0 := Wb) Wb.heap.size 22 (by rfl) (N := 55) rfl (xs := ([] : List (List Int))) (inner := ([] : List Value)) (ok := fun _ => True) (okp := fun _ => False) ?h1 ⟨by simp, fun j p hj => by simp at hj⟩ (fun _ hk => hk.elim) trivial hHeld hHeld.size (by simp) ?_
        case h1 => first | (go_simp; done) | (go_simp; rfl)
        intro v55 w7 ho_ hb7 hg_ hat_
        have h55 := Kd.R_tight (d := Cap.lent 3 bI U w0) rfl ho_
        have hf7 := spec_biFirst.gb hg_
        clear ho_ hg_
        refine hK.out _ _ hb7 (fun hHeld => ?_)
        clear hK K
        refine norm_ (a' := ?_) ?_ ?_
        rotate_left
        ·
         show Act.put _ (some 55) _ = _
         simp only [Act.put, List.setIfInBounds_toArray, List.set_cons_zero, List.set_cons_succ, i64_w, i32_w]
         rfl
        refine two_ (i := 4) (j := 9) (Ni := some 57) (Nj := some 62) (Fn.bl 22 63999) (Fn.bl 22 64495) rfl rfl rfl rfl (by kernel_rfl) (by decide) (by decide) (fun K hK => ?_) (fun K hK => ?_)
        ·
         refine Kd.R_append_rows_step (Cap.lent 3 bI U w0) (w0 := Wb) Wb.heap.size (by rfl) (.tmp 55) (.tmp 56) 41 22 (.slice none 0 0) 24 rfl Try.underlying41 info22 rfl (show 0 < 1 by decide) (by omega) v55 [] q Aq q.length cq (fun _ => True) (fun _ => False) rfl rfl (Kd.R_mono h55 (fun _ _ => trivial)) (Kd.R_reads' (Kd.R_below HQB.out hHeld)).2.2 (fun _ _ hh => hh) (fun _ hk => hk.elim) (fun _ _ => trivial) hHeld hHeld.size (by have := C7.out; simp; omega) ?_
         intro v57 w8 ho_ hb8 hg_ hat_
         rw [List.nil_append] at ho_
         have h57 := Kd.R_tight (d := Cap.lent 3 bI U w0) rfl ho_
         clear ho_ hg_ hat_
         refine hK.out _ _ hb8 (fun hHeld => ?_)
         clear hK K
         refine norm_ (a' := ?_) ?_ ?_
         rotate_left
         ·
          show Act.put _ (some 57) _ = _
          simp only [Act.put, List.setIfInBounds_toArray, List.set_cons_zero, List.set_cons_succ, i64_w, i32_w]
          rfl
         refine one_ (i := 9) (N := some 62) (Fn.bl 22 64511) rfl rfl (by kernel_rfl) (by decide) (fun K hK => ?_)
         refine Kd.R_lit_step (Cap.lent 3 bI U w0) (w0 := Wb) Wb.heap.size 22 (by rfl) (N := 62) rfl (xs := [x]) (inner := [.slice Ax x.length cx]) (ok := fun _ => True) (okp := fun _ => False) ?h1 ⟨by simp [Cap.lent], fun j p hj => by cases j with | zero => (obtain rfl := Option.some.inj hj; exact HXL.out) | succ j => simp at hj⟩ (fun _ hk => hk.elim) trivial hHeld hHeld.size (by simp) ?_
         case h1 => first | (go_simp; done) | (go_simp; rfl)
         intro v62 w9 ho_ hb9 hg_ hat_
         have h62 := Kd.R_tight (d := Cap.lent 3 bI U w0) rfl ho_
         have hf9 := spec_biFirst.gb hg_
         obtain ⟨b62, eb62, hb62⟩ := hat_
         refine hK.out _ _ hb9 (fun hHeld => ?_)
         clear hK K
         exact norm_ (by first | (simp only [putAll, Act.put, List.setIfInBounds_toArray, List.set_cons_zero, List.set_cons_succ]; done) | (simp only [putAll, Act.put, List.setIfInBounds_toArray, List.set_cons_zero, List.set_cons_succ]; rfl)) (hJ (v55, v57, v62) _ ⟨Kd.R_below h57 hf9, h62, fun j e1 e2 => by (have e3 := e1.trans eb62; have e4 := Option.some.inj e3; have := Kd.R_lt h57 j e2.symm; omega), hb9⟩)
        ·
         refine Kd.R_lit_step (Cap.lent 3 bI U w0) (w0 := Wb) Wb.heap.size 22 (by rfl) (N := 62) rfl (xs := [x]) (inner := [.slice Ax x.length cx]) (ok := fun _ => True) (okp := fun _ => False) ?h1 ⟨by simp [Cap.lent], fun j p hj => by cases j with | zero => (obtain rfl := Option.some.inj hj; exact HXL.out) | succ j => simp at hj⟩ (fun _ hk => hk.elim) trivial hHeld hHeld.size (by simp) ?_
         case h1 => first | (go_simp; done) | (go_simp; rfl)
         intro v62 w8 ho_ hb8 hg_ hat_
         have h62 := Kd.R_tight (d := Cap.lent 3 bI U w0) rfl ho_
         have hf8 := spec_biFirst.gb hg_
         obtain ⟨b62, eb62, hb62⟩ := hat_
         refine hK.out _ _ hb8 (fun hHeld => ?_)
         clear hK K
         exact norm_ (by first | (simp only [putAll, Act.put, List.setIfInBounds_toArray, List.set_cons_zero, List.set_cons_succ]; done) | (simp only [putAll, Act.put, List.setIfInBounds_toArray, List.set_cons_zero, List.set_cons_succ]; rfl)) (hM (v55, v62) _ ⟨Kd.R_below h55 hf8, h62, fun j e1 e2 => by (have e3 := e1.trans eb62; have e4 := Option.some.inj e3; have := Kd.R_lt h55 j e2.symm; omega), hb8⟩)
       ·
        refine Kd.R_lit_step (Cap.lent 3 bI U w0) (w0 := Wb) Wb.heap.size 22 (by rfl) (N := 62) rfl (xs := [x]) (inner := [.slice Ax x.length cx]) (ok := fun _ => True) (okp := fun _ => False) ?h1 ⟨by simp [Cap.lent], fun j p hj => by cases j with | zero => (obtain rfl := Option.some.inj hj; exact HXL.out) | succ j => simp at hj⟩ (fun _ hk => hk.elim) trivial hHeld hHeld.size (by simp) ?_
        case h1 => first | (go_simp; done) | (go_simp; rfl)
        intro v62 w7 ho_ hb7 hg_ hat_
        have h62 := Kd.R_tight (d := Cap.lent 3 bI U w0) rfl ho_
        have hf7 := spec_biFirst.gb hg_
        clear ho_ hg_
        refine hK.out _ _ hb7 (fun hHeld => ?_)
        clear hK K
        refine norm_ (a' := ?_) ?_ ?_
        rotate_left
        ·
         show Act.put _ (some 62) _ = _
         simp only [Act.put, List.setIfInBounds_toArray, List.set_cons_zero, List.set_cons_succ, i64_w, i32_w]
         rfl
        refine one_ (i := 2) (N := some 55) (Fn.bl 22 64495) rfl rfl (by kernel_rfl) (by decide) (fun K hK => ?_)
        refine Kd.R_lit_step (Cap.lent 3 bI U w0) (w0 := Wb) Wb.heap.size 22 (by rfl) (N := 55) rfl (xs := ([] : List (List Int))) (inner := ([] : List Value)) (ok := fun _ => True) (okp := fun _ => False) ?h1 ⟨by simp, fun j p hj => by simp at hj⟩ (fun _ hk => hk.elim) trivial hHeld hHeld.size (by simp) ?_
        case h1 => first | (go_simp; done) | (go_simp; rfl)
        intro v55 w8 ho_ hb8 hg_ hat_
        have h55 := Kd.R_tight (d := Cap.lent 3 bI U w0) rfl ho_
        have hf8 := spec_biFirst.gb hg_
        obtain ⟨b55, eb55, hb55⟩ := hat_
        refine hK.out _ _ hb8 (fun hHeld => ?_)
        clear hK K
        exact norm_ (by first | (simp only [putAll, Act.put, List.setIfInBounds_toArray, List.set_cons_zero, List.set_cons_succ]; done) | (simp only [putAll, Act.put, List.setIfInBounds_toArray, List.set_cons_zero, List.set_cons_succ]; rfl)) (hM (v55, v62) _ ⟨h55, Kd.R_below h62 hf8, fun j e1 e2 => by (have e3 := e2.trans eb55; have e4 := Option.some.inj e3; have := Kd.R_lt h62 j e1.symm; omega), hb8⟩)
      ·
       rintro ⟨v55, v62⟩ w7 ⟨h55, h62, hne, hb7⟩
       dsimp only at h55 h62 hne
       refine norm_ (a' := ?_) ?_ ?_
       rotate_left
       ·
        simp only [putAll, Act.put, List.setIfInBounds_toArray, List.set_cons_zero, List.set_cons_succ]
        rfl
       refine one_ (i := 4) (N := some 57) (Fn.bl 22 64511) rfl rfl (by kernel_rfl) (by decide) (fun K hK => ?_)
       refine Kd.R_append_rows_step (Cap.lent 3 bI U w0) (w0 := Wb) Wb.heap.size (by rfl) (.tmp 55) (.tmp 56) 41 22 (.slice none 0 0) 24 rfl Try.underlying41 info22 rfl (show 0 < 1 by decide) (by omega) v55 [] q Aq q.length cq (fun _ => True) (fun _ => False) rfl rfl (Kd.R_mono h55 (fun _ _ => trivial)) (Kd.R_reads' (Kd.R_below HQB.out hb7)).2.2 (fun _ _ hh => hh) (fun _ hk => hk.elim) (fun _ _ => trivial) hb7 hb7.size (by have := C7.out; simp; omega) ?_
       intro v57 w8 ho_ hb8 hg_ hat_
       rw [List.nil_append] at ho_
       have h57 := Kd.R_tight (d := Cap.lent 3 bI U w0) rfl ho_
       have h62' := Kd.R_grown h62 hg_ (fun j e => hne j e)
       refine hK.out _ _ hb8 (fun hHeld => ?_)
       clear hK K
       exact norm_ (by first | (simp only [putAll, Act.put, List.setIfInBounds_toArray, List.set_cons_zero, List.set_cons_succ]; done) | (simp only [putAll, Act.put, List.setIfInBounds_toArray, List.set_cons_zero, List.set_cons_succ]; rfl)) (hJ (v55, v57, v62) _ ⟨h57, h62', fun j e1 e2 => by (rcases hat_ with e | ⟨b, e, hb⟩; exact hne j e1 (e2.trans e); (have e4 := Option.some.inj (e2.trans e); have := Kd.R_lt h62 j e1.symm; omega)), hb8⟩)
     ·
      rintro ⟨v55, v57, v62⟩ w7 ⟨h57, h62, hne, hb7⟩
      dsimp only at h57 h62 hne
      obtain ⟨A57, c57, e57⟩ := Kd.R_slice h57
      subst e57
      obtain ⟨A62, c62, e62⟩ := Kd.R_slice h62
      subst e62
      refine norm_ (a' := ?_) ?_ ?_
      rotate_left
      ·
       simp only [putAll, Act.put, List.setIfInBounds_toArray, List.set_cons_zero, List.set_cons_succ]
       rfl
      refine one_ (i := 10) (N := some 63) (Fn.bl 22 65535) rfl rfl (by kernel_rfl) (by decide) (fun K hK => ?_)
      refine Kd.R_append_rows_step (Cap.lent 3 bI U w0) (w0 := Wb) Wb.heap.size (by rfl) (.tmp 57) (.tmp 62) 41 22 (.slice none 0 0) 24 rfl Try.underlying41 info22 rfl (show 0 < 1 by decide) (by omega) (.slice A57 q.length c57) q [x] A62 [x].length c62 (fun _ => True) (fun _ => False) rfl rfl (Kd.R_mono h57 (fun _ _ => trivial)) (Kd.R_reads' h62).2.2 (fun _ _ hh => hh) (fun _ hk => hk.elim) (fun _ _ => trivial) hb7 hb7.size (by have := C7.out; simp; omega) ?_
      intro v63 w8 ho_ hb8 hg_ hat_
      have h63 := Kd.R_tight (d := Cap.lent 3 bI U w0) rfl ho_
      clear ho_ hg_ hat_ h57 h62 hne
      obtain ⟨A63, c63, e63⟩ := Kd.R_slice h63
      subst e63
      have H63 := A_ (Kd.R_lower h63 HB0.out.size)
      clear h63
      refine hK.out _ _ hb8 (fun hHeld => ?_)
      clear hK K
      refine norm_ (a' := ?_) ?_ ?_
      rotate_left
      ·
       show Act.put _ (some 63) _ = _
       simp only [Act.put, List.setIfInBounds_toArray, List.set_cons_zero, List.set_cons_succ, i64_w, i32_w]
       rfl
      refine one_ (i := 16) (N := some 69) (Fn.bl 22 131071) rfl rfl (by kernel_rfl) (by decide) (fun K hK => ?_)
      refine goes_ Try.func105 (by kernel_rfl) rfl #[.agg #[.int .i64 R, .int .i64 C, .slice Ab lb.length cb], .slice (some ad) all.length ca, .slice A63 (q ++ [x]).length c63, .int .i64 (wrap64 (i + 1)), .int .i64 (wrap64 (kk - 1)), .int .i64 kd] (by rfl) rfl rfl (by (try simp only [List.map_toArray, List.map_cons, List.map_nil]); first | done | rfl) ?_
      refine (ih k2 (by have := HK1.out; have := HK2.out; omega) _ _ (q ++ [x]) (wrap64 (i + 1)) (wrap64 (kk - 1)) r3 b3 (lim _ hb8) H63.out A6.out).mono ?_
      rintro e w9 ⟨v70, rfl, hr, hb⟩
      refine ⟨_, rfl, ?_⟩
      have HR9 := A_ hr
      have hb9 := below_then hb8 hb8.size hb
      clear hr hb
      refine hK.out _ _ hb9 (fun hHeld => ?_)
      clear hK K
      refine norm_ (a' := ?_) ?_ ?_
      rotate_left
      ·
       show Act.put _ (some 69) _ = _
       simp only [Act.put, List.setIfInBounds_toArray, List.set_cons_zero, List.set_cons_succ, i64_w, i32_w]
       rfl
      refine take_ (i := 17) (N := some 52) (v := ?_) (a' := ?_) (Fn.bl 22 262143) rfl rfl (by kernel_rfl) (fun _ _ _ h => h) (Or.inl ⟨by rfl, ?_⟩) hHeld ?_ ?_
      rotate_left
      ·
       intro w' s0
       go_simp
       with_reducible rfl
      rotate_left
      ·
       simp only [Act.put, List.setIfInBounds_toArray, List.set_cons_zero, List.set_cons_succ, i64_w, i32_w]
       rfl
      refine take_ (i := 18) (N := some 70) (v := ?_) (a' := ?_) (Fn.bl 22 524287) rfl rfl (by kernel_rfl) (fun _ _ _ h => h) (Or.inl ⟨by rfl, ?_⟩) hHeld ?_ ?_
      rotate_left
      ·
       intro w' s0
       go_simp
       with_reducible rfl
      rotate_left
      ·
       simp only [Act.put, List.setIfInBounds_toArray, List.set_cons_zero, List.set_cons_succ, i64_w, i32_w]
       rfl
      refine take_ (i := 19) (N := some 71) (v := ?_) (a' := ?_) (Fn.bl 22 1048575) rfl rfl (by kernel_rfl) (fun _ _ _ h => h) (Or.inl ⟨by rfl, ?_⟩) hHeld ?_ ?_
      rotate_left
      ·
       intro w' s0
       go_simp
       with_reducible rfl
      rotate_left
      ·
       simp only [Act.put, List.setIfInBounds_toArray, List.set_cons_zero, List.set_cons_succ, i64_w, i32_w]
       rfl
      refine take_ (i := 20) (N := some 18) (v := ?_) (a' := ?_) (Fn.bl 22 2097151) rfl rfl (by kernel_rfl) (fun _ _ _ h => h) (Or.inl ⟨by rfl, ?_⟩) hHeld ?_ ?_
      rotate_left
      ·
       intro w' s0
       go_simp
       with_reducible rfl
      rotate_left
      ·
       simp only [Act.put, List.setIfInBounds_toArray, List.set_cons_zero, List.set_cons_succ, i64_w, i32_w]
       rfl
      refine take_ (i := 21) (N := some 19) (v := ?_) (a' := ?_) (Fn.bl 22 4194303) rfl rfl (by kernel_rfl) (fun _ _ _ h => h) (Or.inl ⟨by rfl, ?_⟩) hHeld ?_ ?_
      rotate_left
      ·
       intro w' s0
       go_simp
       with_reducible rfl
      rotate_left
      ·
       simp only [Act.put, List.setIfInBounds_toArray, List.set_cons_zero, List.set_cons_succ, i64_w, i32_w]
       rfl
      refine done_ (by kernel_rfl) ?_
      have HB9 := A_ hb9
      clear hb9 hb8 hb7 lim hHeld
      cases b3 with
      | true =>
       rw [if_pos rfl] at H
       obtain ⟨rfl, rfl⟩ := Prod.mk.inj (Option.some.inj H)
       clear H
       try go_wp2
       go_ret2
       exact ⟨_, rfl, HR9.out, below_then HBB.out HBB.out.size HB9.out⟩
      | false =>
       rw [if_neg (by simp)] at H
       replace H := A_ H
       try go_wp2
       go_roundg k2
       case measure => have := HK1.out; have := HK2.out; omega
       case rel => exact ⟨wrap64 (i + 1), tf_, H, ⟨by have := HK1.out; have := HK2.out; omega⟩, HB9⟩

/-! ### slices_Clone_int_int: function 143 -/
def slices_Clone_int_int.f (l0 : List Int) : Option (List Int) := if l0.length < 17592186044416 then some l0 else none
theorem slices_Clone_int_int.calls (A0 : Option Addr) (c0 : Nat) (l0 : List Int) (r : List Int) (w : World) (hr0 : Kd.C (Kd.int .i64) w A0 l0.length l0) (hc0 : l0.length ≤ c0) (h : slices_Clone_int_int.f l0 = some r) :
  Calls Try.prog 143 #[.slice A0 l0.length c0] w fun e w' => ∃ v0_ : Value, e = .returned (v0_) ∧ Kd.R (Kd.int .i64) 3 w' w.heap.size (fun _ => True) v0_ r ∧ Below w.heap.size w w' := by
 have hr : l0.length < 17592186044416 ∧ l0 = r := by
  unfold slices_Clone_int_int.f at h
  split at h
  ·
   exact ⟨‹_›, Option.some.inj h⟩
  ·
   cases h
 clear h
 obtain ⟨hlim, rfl⟩ := hr
 have hnil := fun (W : World) (A : Option Addr) (n c : Nat) => Lib.run_eql_slice_nil (P := Try.prog) W 22 3 A n c 0 0 Try.underlying22
 have HB := A_ (Below.refl w.heap.size w)
 cases A0 with
 | none =>
  have h0 : l0 = [] := by
   cases l0 with
   | nil => rfl
   | cons x l =>
    obtain ⟨ad, hh, _⟩ := hr0.2.2 (by simp)
    cases hh
  subst h0
  clear hlim hr0
  go_enter Try.func143, Try.ntmps143
  go_wp2
  go_ret
  exact ⟨.slice none 0 0, rfl, Kd.R_nil _ _ _ _ _, Below.refl _ _⟩
 | some ad0 =>
  have HR0 := A_ hr0
  have HC0 := A_ hc0
  clear hr0 hc0
  obtain ⟨y408, hy408⟩ : ∃ y_ : List Int, y_ = (([] : List Int)) := ⟨_, rfl⟩
  have hy411 : l0 = y408 ++ l0 := by rw [hy408]; rfl
  have LMc2 : Aside0 (y408.length + l0.length < 17592186044416) := ⟨by rw [hy408]; simpa using hlim⟩
  have Ny408 := A_ hy408
  have Ny411 := A_ hy411
  clear hy408 hy411 hlim
  go_enter Try.func143, Try.ntmps143
  go_wp2_with (first | (refine gd_ 5 ?_; refine Kd.R_lit (Kd.int .i64) _ 3 ?hg (N := 5) ?hd (xs := ([] : List Int)) (inner := []) (ok := fun _ => True) (okp := fun _ => True) ?hr ?hp (fun _ hk => hk) trivial (Below.refl _ _) (Nat.le_refl _) (by simp) ?_; (case hd => rfl); (case hg => rfl); (case hr => first | (go_simp; done) | (go_simp; rfl)); (case hp => exact (Reps.none _ _)); intro v409 w3 ho4 hb hg_ hnew_; clear hg_ hnew_; (first | rw [← Ny408.out] at ho4 | (simp only [Int.reduceToNat] at ho4; rw [← Ny408.out] at ho4)); have HO410 := A_ (Kd.R_lower ho4 (below_size tb_)); replace HB := A_ (below_step tb_ hb); clear hb ho4) | ((with_reducible refine gate_builtin (b := .append) (xs := #[.tmp 5, .tmp 6]) rfl ?_); at_builtin; refine Kd.R_append_rows (Kd.int .i64) (w0 := w) w.heap.size rfl (.tmp 5) (.tmp 6) 22 3 (.int .i64 0) 8 rfl Try.underlying22 info3 rfl (by decide) (by omega) v409 y408 l0 _ _ _ (fun _ => True) (fun _ => False) rfl rfl ?aO ?aR (fun _ _ h => h) (fun _ h => h.elim) ?aF ?aB ?aS ?aL ?_; (case aR => repeat (first | exact (Kd.C_below HR0.out HB.out) | (with_reducible refine Kd.C_alloc ?_ _) | (with_reducible refine Kd.C_drewN ?_ _) | (with_reducible refine Kd.C_drew ?_))); (case aB => exact tb_); (case aF => exact (fun _ _ => trivial)); (case aO => exact (tr_x HO410.out)); (case aS => exact (below_size tb_)); (case aL => have := LMc2.out; omega); intro v412 w5 ho hb hg hat; rw [← Ny411.out] at ho; have n0_ := A_ (hb); have n1_ := A_ (ho); clear HB; clear HO410; have HB := n0_; have HO413 := n1_; clear n0_ n1_; clear ho hb hg hat))
  go_ret
  exact ⟨_, te_, tr_x HO413.out, tb_⟩

/-! ### impl_Board_firstOf_1: function 188 -/
def impl_Board_firstOf_1.f (kk : Int) (s : Option (List (List Int))) (l : List (List Int)) : Option (Bool × Option (List (List Int))) :=
 if (l.length : Int) < kk then some (true, s) else match s with
  | none => if l.length ≤ 1000 ∧ ∀ x ∈ l, x.length ≤ 1000 then some (false, some l) else none
  | some _ => none
abbrev impl_Board_firstOf_1.ok (own : Nat → Prop) (gkk gok gout N : Nat) (j : Nat) : Prop := (own j ∨ N ≤ j) ∧ j ≠ gkk ∧ j ≠ gok ∧ j ≠ gout
/-- Its variables, while it runs: how many pieces there are to be, the flag, the rows so far. -/
structure impl_Board_firstOf_1.Fst (w W0 : World) (own : Nat → Prop) (gkk gok gout : Nat) (kk : Int) (W : World) (b : Bool) (o : List (List Int)) : Prop where
 lk : own gkk ∧ gkk < W0.heap.size ∧ w.heap.size ≤ gkk
 lo : own gok ∧ gok < W0.heap.size ∧ w.heap.size ≤ gok
 lu : own gout ∧ gout < W0.heap.size ∧ w.heap.size ≤ gout
 ne : gkk ≠ gok ∧ gkk ≠ gout ∧ gok ≠ gout
 sz : W0.heap.size ≤ W.heap.size
 bel : Below w.heap.size w W
 fr : ∀ k, k < W0.heap.size → ¬ own k → W.heap[k]? = W0.heap[k]?
 ck : W.heap[gkk]? = some (.cells #[.int .i64 kk] 3 (0, 0))
 co : W.heap[gok]? = some (.cells #[.bool b] 4 (0, 0))
 out : ∃ v, W.heap[gout]? = some (.cells #[v] 41 (0, 0)) ∧ Kd.S (Kd.slice 3 (Kd.int .i64)) 22 W w.heap.size (impl_Board_firstOf_1.ok own gkk gok gout W0.heap.size) v o
section
variable {w W0 W W1 w1 : World} {own : Nat → Prop} {gkk gok gout : Nat} {kk : Int} {b : Bool} {o : List (List Int)} {v v1 vc : Value} {c : List Int}
theorem impl_Board_firstOf_1.Fst.below (h : impl_Board_firstOf_1.Fst w W0 own gkk gok gout kk W b o) (hb : Below W.heap.size W W1) : impl_Board_firstOf_1.Fst w W0 own gkk gok gout kk W1 b o := by
 obtain ⟨v, h1, h2⟩ := h.out
 exact ⟨h.lk, h.lo, h.lu, h.ne, Nat.le_trans h.sz hb.size, below_then h.bel h.bel.size hb, fun k hk hn => (hb.block k (Nat.lt_of_lt_of_le hk h.sz)).trans (h.fr k hk hn), blk_below h.ck hb, blk_below h.co hb, v, blk_below h1 hb, Kd.S_below h2 hb⟩
theorem impl_Board_firstOf_1.Fst.flag (h : impl_Board_firstOf_1.Fst w W0 own gkk gok gout kk W b o) (b' : Bool) : impl_Board_firstOf_1.Fst w W0 own gkk gok gout kk (W.setCell ⟨gok, 0, none⟩ (.bool b')) b' o := by
 obtain ⟨v, h1, h2⟩ := h.out
 exact ⟨h.lk, h.lo, h.lu, h.ne, by simpa [World.setCell] using h.sz, h.bel.setCell h.lo.2.2 _, fun k hk hn => (Below.heap_setCell _ _ _ _ (fun e => hn (by rw [e]; exact h.lo.1))).trans (h.fr k hk hn), Cap.one_far h.ck h.ne.1 _, one_setCell h.co, v, Cap.one_far h1 (fun e => h.ne.2.2 e.symm) _, Kd.S_far h2 (fun k hk => hk.2.2.1) _⟩
theorem impl_Board_firstOf_1.Fst.rowM (h : impl_Board_firstOf_1.Fst w W0 own gkk gok gout kk W b o) (hc : (Kd.int .i64).R 3 W1 W.heap.size (fun _ => True) vc c) : (Kd.slice 3 (Kd.int .i64)).M W1 w.heap.size (fun k => some k = vc.ownBlock) c [vc] :=
 ⟨vc, rfl, Kd.R_lower (Kd.R_tight rfl hc) h.bel.size⟩
theorem impl_Board_firstOf_1.Fst.fresh (h : impl_Board_firstOf_1.Fst w W0 own gkk gok gout kk W b o) {k : Nat} (hk : W.heap.size ≤ k) : impl_Board_firstOf_1.ok own gkk gok gout W0.heap.size k :=
 ⟨Or.inr (Nat.le_trans h.sz hk), by have := h.lk.2.1; have := h.sz; omega, by have := h.lo.2.1; have := h.sz; omega, by have := h.lu.2.1; have := h.sz; omega⟩
theorem impl_Board_firstOf_1.Fst.rowok (h : impl_Board_firstOf_1.Fst w W0 own gkk gok gout kk W b o) (hv : Kd.S (Kd.slice 3 (Kd.int .i64)) 22 W w.heap.size (impl_Board_firstOf_1.ok own gkk gok gout W0.heap.size) v o) (hc : (Kd.int .i64).R 3 W1 W.heap.size (fun _ => True) vc c) :
  ∀ k, some k = vc.ownBlock → impl_Board_firstOf_1.ok own gkk gok gout W0.heap.size k ∧ some k ≠ v.ownBlock := fun k hk =>
 ⟨h.fresh (Kd.R_base hc k hk.symm), fun e => by have := Kd.R_lt (Kd.S_R hv) k e.symm; have := Kd.R_base hc k hk.symm; omega⟩
theorem impl_Board_firstOf_1.rowS {okp : Nat → Prop} (hv : Kd.S (Kd.slice 3 (Kd.int .i64)) 22 W w.heap.size okp v o) (hb : Below W.heap.size W W1) (hc : (Kd.int .i64).R 3 W1 W.heap.size (fun _ => True) vc c) :
  Kd.S (Kd.slice 3 (Kd.int .i64)) 22 W1 w.heap.size (fun k => okp k ∧ ¬ some k = vc.ownBlock) v o :=
 Kd.S_mono (Kd.S_below (Kd.S_bound hv) hb) (fun k hk => ⟨hk.1, fun e => by have := Kd.R_base hc k e.symm; have := hk.2.2.1; omega⟩)
theorem impl_Board_firstOf_1.Fst.app (h : impl_Board_firstOf_1.Fst w W0 own gkk gok gout kk W b o) (h1 : W.heap[gout]? = some (.cells #[v] 41 (0, 0))) (hv : Kd.S (Kd.slice 3 (Kd.int .i64)) 22 W w.heap.size (impl_Board_firstOf_1.ok own gkk gok gout W0.heap.size) v o) {o1 : List (List Int)} (bb : Below w.heap.size w w1) (hg : W.grownBy w1 v.ownBlock) (hS : Kd.S (Kd.slice 3 (Kd.int .i64)) 22 w1 w.heap.size (impl_Board_firstOf_1.ok own gkk gok gout W0.heap.size) v1 o1) :
  impl_Board_firstOf_1.Fst w W0 own gkk gok gout kk (w1.setCell ⟨gout, 0, none⟩ v1) b o1 ∧ w1.cell? ⟨gout, 0, none⟩ = some v ∧ w1.frozen? ⟨gout, 0, none⟩ = false := by
 have hno : ∀ k, some k = v.ownBlock → impl_Board_firstOf_1.ok own gkk gok gout W0.heap.size k := fun k hk => (Kd.S_R hv).1 k hk.symm
 have c1 : w1.heap[gout]? = some (.cells #[v] 41 (0, 0)) := blk_grown h1 hg (fun e => (hno _ e).2.2.2 rfl)
 refine ⟨⟨h.lk, h.lo, h.lu, h.ne, by have := h.sz; have := hg.size; simp only [World.setCell, Array.size_modify]; omega, bb.setCell h.lu.2.2 _, fun k hk hn => ((Below.heap_setCell _ _ _ _ (fun e => hn (by rw [e]; exact h.lu.1))).trans (hg.block k (Nat.lt_of_lt_of_le hk h.sz) (fun e => by rcases (hno k e).1 with hh | hh; exact hn hh; omega))).trans (h.fr k hk hn), Cap.one_far (blk_grown h.ck hg (fun e => (hno _ e).2.1 rfl)) h.ne.2.1 _, Cap.one_far (blk_grown h.co hg (fun e => (hno _ e).2.2.1 rfl)) h.ne.2.2 _, v1, one_setCell c1, Kd.S_far hS (fun k hk => hk.2.2.2) _⟩, cell_of_one c1, free_of_one c1⟩
end
/-- What it leaves. -/
def impl_Board_firstOf_1.D (w : World) (gkk gok gout : Nat) (kk : Int) (own : Nat → Prop) (W : World) (s : Option (List (List Int))) : Prop := (∀ j, own j → w.heap.size ≤ j ∧ j < W.heap.size) ∧ (own gkk ∧ own gok ∧ own gout) ∧ (gkk ≠ gok ∧ gkk ≠ gout ∧ gok ≠ gout) ∧ W.heap[gkk]? = some (.cells #[.int .i64 kk] 3 (0, 0)) ∧ W.heap[gok]? = some (.cells #[.bool s.isSome] 4 (0, 0)) ∧ ∃ v, W.heap[gout]? = some (.cells #[v] 41 (0, 0)) ∧ Kd.S (Kd.slice 3 (Kd.int .i64)) 22 W w.heap.size (fun j => own j ∧ j ≠ gkk ∧ j ≠ gok ∧ j ≠ gout) v (s.getD [])
theorem impl_Board_firstOf_1.calls (w W0 : World) (own : Nat → Prop) (gkk gok gout : Nat) (kk : Int) (A : Option Addr) (c : Nat) (l : List (List Int)) (hS0 : impl_Board_firstOf_1.Fst w W0 own gkk gok gout kk W0 false []) (hR0 : ∀ W', (∀ k, k < W0.heap.size → ¬ own k → W'.heap[k]? = W0.heap[k]?) → (Kd.slice 3 (Kd.int .i64)).C W' A l.length l) (hc0 : l.length ≤ c) (hk0 : ¬ (l.length : Int) < kk) (hl0 : l.length ≤ 1000 ∧ ∀ x ∈ l, x.length ≤ 1000) :
  Calls Try.prog 188 #[.slice A l.length c, .pointer (some ⟨gkk, 0, none⟩), .pointer (some ⟨gok, 0, none⟩), .pointer (some ⟨gout, 0, none⟩)] W0 fun e W' => e = .returned (.bool false) ∧ impl_Board_firstOf_1.Fst w W0 own gkk gok gout kk W' true l := by
 have hck := cell_of_one hS0.ck
 have hco := cell_of_one hS0.co
 have hfo := free_of_one hS0.co
 have HS := A_ (hS0.flag true)
 have HR := A_ hR0
 have HC := A_ hc0
 have HL := A_ hl0
 have c1b := decide_eq_false hk0
 clear hS0 hR0 hc0 hl0 hk0
 go_enter Try.func188, Try.ntmps188
 go_wp2
 go_loopg [14] l.length (fun kq v14 W' => ∃ (i : Nat), v14 = .int .i64 (i : Int) ∧ Aside0 (i ≤ l.length ∧ kq = l.length - i) ∧ Aside0 (impl_Board_firstOf_1.Fst w W0 own gkk gok gout kk W' true (l.take i)))
 case atStart => exact ⟨0, rfl, ⟨Nat.zero_le _, rfl⟩, by rw [List.take_zero]; exact HS⟩
 case round =>
  clear HS hck hco hfo c1b
  obtain ⟨i, rfl, HI, HS⟩ := hrel
  by_cases c4 : (i : Int) < (l.length : Int)
  case neg =>
   have c4b := decide_eq_false c4
   have hi : i = l.length := by have := HI.out; omega
   subst hi
   rw [List.take_length] at HS
   go_wp2
   go_ret
   exact ⟨rfl, HS.out⟩
  have c4b := decide_eq_true c4
  have c4n : i < l.length := by omega
  have hC := A_ (HR.out _ HS.out.fr)
  obtain ⟨ad, cs, e0, hl1, hk1, hcc⟩ := Kd.C_get hC.out [] (i : Int) (by omega) c4
  obtain ⟨Ax, cx, rfl, hlx, hCx⟩ := hk1
  subst e0
  have hcx := hcc 0 _ rfl
  simp only [Nat.add_zero, Int.toNat_natCast] at hcx hlx hCx
  rw [show i * (Kd.slice 3 (Kd.int .i64)).sz = i from Nat.mul_one i] at hcx
  have hgx : l.getD i [] = l[i] := by rw [List.getD_eq_getElem?_getD, List.getElem?_eq_getElem c4n]; rfl
  rw [hgx] at hcx hlx hCx
  have hxl := HL.out.2 l[i] (List.getElem_mem c4n)
  have hx := A_ hxl
  have HCx := A_ hCx
  have Hlx := A_ hlx
  have p0 : (0 ≤ (i : Int)) = True := eq_true (by omega)
  have q0 : ((i : Int) < (l.length : Int)) = True := eq_true c4
  have q1 : (i < l.length) = True := eq_true c4n
  have HN := A_ c4n
  obtain ⟨vo, hvo, hSo⟩ := HS.out.out
  have HV := A_ hvo
  have HSo := A_ hSo
  have hcv := cell_of_one hvo
  have hnx := A_ (show slices_Clone_int_int.f l[i] = some l[i] from if_pos (by omega))
  clear hcc hl1 hgx hxl hCx hlx hvo hSo
  go_wp2
  refine start_ (n := 6) (S := fun w' => w'.cell? ⟨gout, 0, none⟩ = some vo) (ds := [5]) (Fn.bl 6 0) (by kernel_rfl) rfl rfl (cell_of_one (blk_below HV.out (below_drew (Below.refl _ _)))) (fun hHeld => ?_)
  have HS9 := A_ (HS.out.below (below_drew (Below.refl _ _)))
  have HV9 := A_ (blk_below HV.out (below_drew (Below.refl _ _)))
  have HSo9 := A_ (Kd.S_below HSo.out (below_drew (Below.refl _ _)))
  have HC9 := A_ (Kd.C_below HCx.out (below_drew (Below.refl _ _)))
  clear HS HV HSo HCx hcv hcx hC
  refine take_ (i := 0) (N := some 18) (v := ?_) (a' := ?_) (Fn.bl 6 1) rfl rfl (by kernel_rfl) (fun _ _ _ h => h) (Or.inl ⟨by rfl, ?_⟩) hHeld ?_ ?_
  rotate_left
  ·
   rintro w' s0
   go_simp
   with_reducible rfl
  rotate_left
  ·
   simp only [Act.put, List.setIfInBounds_toArray, List.set_cons_zero, List.set_cons_succ, i64_w, i32_w]
   rfl
  refine take_ (i := 1) (N := some 19) (v := ?_) (a' := ?_) (Fn.bl 6 3) rfl rfl (by kernel_rfl) (fun _ _ _ h => h) (Or.inl ⟨by rfl, ?_⟩) hHeld ?_ ?_
  rotate_left
  ·
   rintro w' s0
   go_simp
   with_reducible rfl
  rotate_left
  ·
   simp only [Act.put, List.setIfInBounds_toArray, List.set_cons_zero, List.set_cons_succ, i64_w, i32_w]
   rfl
  refine one_ (i := 2) (N := some 20) (Fn.bl 6 7) rfl rfl (by kernel_rfl) (by decide) (fun K hK => ?_)
  refine goes_ Try.func143 (by kernel_rfl) rfl #[.slice Ax l[i].length cx] (by rfl) rfl rfl (by (try simp only [List.map_toArray, List.map_cons, List.map_nil]); first | done | rfl) ?_
  with_reducible refine (slices_Clone_int_int.calls Ax cx l[i] l[i] _ HC9.out Hlx.out hnx.out).mono ?_
  rintro e w10 ⟨vc, rfl, hoc, hb⟩
  refine ⟨_, rfl, ?_⟩
  have HS10 := A_ (HS9.out.below hb)
  have HV10 := A_ (blk_below HV9.out hb)
  have HCm := A_ (HS9.out.rowM hoc)
  have HCok := A_ (HS9.out.rowok HSo9.out hoc)
  have HCS := A_ (impl_Board_firstOf_1.rowS HSo9.out hb hoc)
  have HSo10 := A_ (Kd.S_below HSo9.out hb)
  obtain ⟨Ac, cc, ec⟩ := Kd.R_slice hoc
  subst ec
  clear hoc hb
  refine hK.out _ _ (cell_of_one HV10.out) (fun hHeld => ?_)
  clear hK K
  refine norm_ (a' := ?_) ?_ ?_
  rotate_left
  ·
   show Act.put _ (some 20) _ = _
   simp only [Act.put, List.setIfInBounds_toArray, List.set_cons_zero, List.set_cons_succ, i64_w, i32_w]
   rfl
  refine one_ (i := 3) (N := some 21) (Fn.bl 6 15) rfl rfl (by kernel_rfl) (by decide) (fun K hK => ?_)
  refine value_ (v := .slice (some ⟨w10.heap.size, 0, none⟩) 1 1) (w1 := w10.alloc (.cells #[.slice Ac l[i].length cc] 22)) (by rfl) rfl ?_ ?_
  ·
   go_simp
  refine hK.out _ _ (cell_of_one (blk_alloc HV10.out _)) (fun hHeld => ?_)
  clear hK K
  refine norm_ (a' := ?_) ?_ ?_
  rotate_left
  ·
   show Act.put _ (some 21) _ = _
   simp only [Act.put, List.setIfInBounds_toArray, List.set_cons_zero, List.set_cons_succ, i64_w, i32_w]
   rfl
  refine one_ (i := 4) (N := some 22) (Fn.bl 6 31) rfl rfl (by kernel_rfl) (by decide) (fun K hK => ?_)
  refine Kd.S_append_step (Kd.slice 3 (Kd.int .i64)) (w0 := w) w.heap.size (by rfl) (.tmp 18) (.tmp 21) 41 22 (.slice none 0 0) 24 rfl Try.underlying41 info22 rfl (by decide) (by omega) vo (l.take i) l[i] [.slice Ac l[i].length cc] _ _ rfl rfl HCm.out HCok.out (fun k hk => HS10.out.fresh hk) HCS.out HS10.out.bel HS10.out.bel.size (by have := HL.out.1; rw [List.length_take]; omega) ?_
  intro v1 w12 ho hb hg hat
  have HT := A_ (HS10.out.app HV10.out HSo10.out hb hg ho)
  have hcv12 := HT.out.2.1
  have hfv12 := HT.out.2.2
  have HS12 := A_ HT.out.1
  obtain ⟨A1, c1, e1⟩ := Kd.S_slice ho
  subst e1
  clear ho hb hg hat HT
  refine hK.out _ _ hcv12 (fun hHeld => ?_)
  clear hK K
  refine norm_ (a' := ?_) ?_ ?_
  rotate_left
  ·
   show Act.put _ (some 22) _ = _
   simp only [Act.put, List.setIfInBounds_toArray, List.set_cons_zero, List.set_cons_succ, i64_w, i32_w]
   rfl
  refine last_ (i := 5) (N := none) (Fn.bl 6 63) rfl rfl (by kernel_rfl) (by decide) (fun K hK => ?_)
  refine skip_ (w1 := ?_) (by rfl) rfl ?_ ?_
  rotate_left
  ·
   go_simp
   rfl
  refine hK.out _ _ ?_
  clear hK K
  refine done_ (by kernel_rfl) ?_
  have hw : wrap64 ((i : Int) + 1) = ((i + 1 : Nat) : Int) := by have := HL.out.1; have := HN.out; unfold wrap64; omega
  have HSf : Aside0 (impl_Board_firstOf_1.Fst w W0 own gkk gok gout kk _ true (l.take (i + 1))) := ⟨by rw [List.take_succ_eq_append_getElem HN.out]; exact HS12.out⟩
  have hmn : (l.take i ++ [l[i]]).length = min (i + 1) l.length := by rw [← List.take_succ_eq_append_getElem HN.out, List.length_take]
  rw [hmn] at HSf
  go_wp2
  go_roundg (l.length - (i + 1))
  case measure => have := HI.out; have := HN.out; omega
  case rel => exact ⟨i + 1, (by rw [← hw]), ⟨by have := HN.out; omega, rfl⟩, HSf⟩
theorem impl_Board_firstOf_1.few (gkk gok gout : Nat) (kk : Int) (A : Option Addr) (c : Nat) (l : List (List Int)) (W : World) (h1 : W.heap[gkk]? = some (.cells #[.int .i64 kk] 3 (0, 0))) (hk0 : (l.length : Int) < kk) :
  Calls Try.prog 188 #[.slice A l.length c, .pointer (some ⟨gkk, 0, none⟩), .pointer (some ⟨gok, 0, none⟩), .pointer (some ⟨gout, 0, none⟩)] W fun e W' => e = .returned (.bool true) ∧ W' = W := by
 have hck := cell_of_one h1
 have c1b := decide_eq_true hk0
 clear h1 hk0
 go_enter Try.func188, Try.ntmps188
 go_wp2
 go_ret
 exact ⟨rfl, rfl⟩
theorem impl_Board_firstOf_1.tells (w : World) (gkk gok gout : Nat) (kk : Int) : Cap.Tells Try.prog 3 w (.func (.func 188) #[] #[.pointer (some ⟨gkk, 0, none⟩), .pointer (some ⟨gok, 0, none⟩), .pointer (some ⟨gout, 0, none⟩)]) (impl_Board_firstOf_1.f kk) (impl_Board_firstOf_1.D w gkk gok gout kk) := by
 refine ⟨fun own W W1 s h hs => ?_, fun own W s h k hk => h.1 k hk, fun own W s A c l b s' h hC hc he hB => ?_⟩
 ·
  obtain ⟨h1, h2, h3, h4, h5, v, h6, h7⟩ := h
  refine ⟨fun j hj => ⟨(h1 j hj).1, ?_⟩, h2, h3, (hs _ h2.1).trans h4, (hs _ h2.2.1).trans h5, v, (hs _ h2.2.2).trans h6, Kd.S_move h7 (fun k hk => hs k hk.1)⟩
  have e := Array.getElem?_eq_getElem (h1 j hj).2
  exact (Array.getElem?_eq_some_iff.1 ((hs j hj).trans e)).1
 ·
  obtain ⟨h1, h2, h3, h4, h5, v, h6, h7⟩ := h
  refine ⟨188, _, _, rfl, Try.func188, by kernel_rfl, rfl, ?_⟩
  unfold impl_Board_firstOf_1.f at he
  by_cases c1 : (l.length : Int) < kk
  ·
   rw [if_pos c1] at he
   obtain ⟨rfl, rfl⟩ := Prod.mk.inj (Option.some.inj he)
   refine Calls.mono (by simpa using impl_Board_firstOf_1.few gkk gok gout kk A c l W h4 c1) ?_
   rintro e W' ⟨rfl, rfl⟩
   exact ⟨rfl, own, ⟨h1, h2, h3, h4, h5, v, h6, h7⟩, fun k hk => Or.inl hk, hB, Nat.le_refl _, fun k _ _ => rfl⟩
  ·
   rw [if_neg c1] at he
   cases s with
   | some o => exact absurd he (by simp)
   | none =>
    by_cases c2 : l.length ≤ 1000 ∧ ∀ x ∈ l, x.length ≤ 1000
    ·
     simp only [if_pos c2] at he
     obtain ⟨rfl, rfl⟩ := Prod.mk.inj (Option.some.inj he)
     have F : impl_Board_firstOf_1.Fst w W own gkk gok gout kk W false [] := ⟨⟨h2.1, (h1 _ h2.1).2, (h1 _ h2.1).1⟩, ⟨h2.2.1, (h1 _ h2.2.1).2, (h1 _ h2.2.1).1⟩, ⟨h2.2.2, (h1 _ h2.2.2).2, (h1 _ h2.2.2).1⟩, h3, Nat.le_refl _, hB, fun k _ _ => rfl, h4, h5, v, h6, Kd.S_mono h7 (fun k hk => ⟨Or.inl hk.1, hk.2⟩)⟩
     refine Calls.mono (by simpa using impl_Board_firstOf_1.calls w W own gkk gok gout kk A c l F hC hc c1 c2) ?_
     rintro e W' ⟨rfl, G⟩
     obtain ⟨v', g1, g2⟩ := G.out
     refine ⟨rfl, fun j => own j ∨ (W.heap.size ≤ j ∧ j < W'.heap.size), ⟨fun j hj => ?_, ⟨Or.inl h2.1, Or.inl h2.2.1, Or.inl h2.2.2⟩, h3, G.ck, G.co, v', g1, Kd.S_mono (Kd.S_bound g2) (fun k hk => ?_)⟩, fun k hk => ?_, G.bel, G.sz, G.fr⟩
     ·
      rcases hj with hj | hj
      ·
       exact ⟨(h1 j hj).1, Nat.lt_of_lt_of_le (h1 j hj).2 G.sz⟩
      ·
       exact ⟨Nat.le_trans hB.size hj.1, hj.2⟩
     ·
      obtain ⟨⟨k1, k2⟩, _, k3, _⟩ := hk
      exact ⟨k1.imp id (fun hh => ⟨hh, k3⟩), k2⟩
     ·
      exact hk.imp id (fun hh => hh.1)
    ·
     simp only [if_neg c2] at he
     exact absurd he (by simp)

/-! ### impl_Board_firstOf: function 108 -/
def impl_Board_firstOf.f (k : Nat) (R C : Int) (lb : List Int) (kk : Int) (are : FnT38) : Option (List (List Int) × Bool) := (impl_Board_lists.f k R C lb kk are (impl_Board_firstOf_1.f kk) none).bind fun r => some (r.2.getD [], r.2.isSome)
theorem impl_Board_firstOf.mono (R C : Int) (lb : List Int) (kk : Int) (are : FnT38) (k : Nat) : LeO (impl_Board_firstOf.f k R C lb kk are) (impl_Board_firstOf.f (k + 1) R C lb kk are) :=
 LeO.bind (impl_Board_lists.mono _ _ _ _ _ _ _ _) (fun _ => LeO.refl _)
theorem impl_Board_firstOf.calls (fr : Go.Fn) (hr1 hr2 : Array Value) (are : FnT38) (k : Nat) (R C : Int) (Ab : Option Addr) (lb : List Int) (c : Nat) (kk : Int) (r1 : List (List Int)) (r2 : Bool) (w : World) (hF0 : FnOk38 w (.func fr hr1 hr2) are) (hC : Kd.C (Kd.int .i64) w Ab lb.length lb) (hc : lb.length ≤ c) (h : impl_Board_firstOf.f k R C lb kk are = some (r1, r2)) :
  Calls Try.prog 108 #[.agg #[.int .i64 R, .int .i64 C, .slice Ab lb.length c], .int .i64 kk, .func fr hr1 hr2] w fun e w' => ∃ v0_ : Value, e = .returned (.tuple #[v0_, .bool r2]) ∧ Kd.S (Kd.slice 3 (Kd.int .i64)) 22 w' w.heap.size (fun _ => True) v0_ r1 ∧ Below w.heap.size w w' := by
 have hF := A_ hF0
 have HC := A_ hC
 have Hc := A_ hc
 clear hF0 hC hc
 unfold impl_Board_firstOf.f at h
 obtain ⟨⟨g, s⟩, A1, H⟩ := Option.bind_eq_some_iff.mp h
 clear h
 replace A1 := A_ A1
 obtain ⟨rfl, rfl⟩ := Prod.mk.inj (Option.some.inj H)
 clear H
 have hu26 := Try.underlying26
 have hmf_ : ∀ (fn : Go.Fn) (first cap : Array Value) (w : World), (Instr.makeFunc fn first cap).run Try.prog w = .ok (.func fn first cap) w := fun _ _ _ _ => rfl
 go_enter Try.func108, Try.ntmps108
 go_wp2_with (first | fail)
 have e1 : (w.alloc (.cells #[.int .i64 R, .int .i64 C, .slice Ab lb.length c] 26)).heap.size = w.heap.size + 1 := by simp
 have e2 : ((w.alloc (.cells #[.int .i64 R, .int .i64 C, .slice Ab lb.length c] 26)).alloc (.cells #[.int .i64 kk] 3)).heap.size = w.heap.size + 1 + 1 := by simp
 have e3 : (((w.alloc (.cells #[.int .i64 R, .int .i64 C, .slice Ab lb.length c] 26)).alloc (.cells #[.int .i64 kk] 3)).alloc (.cells #[] 22)).heap.size = w.heap.size + 1 + 1 + 1 := by simp
 have e4 : ((((w.alloc (.cells #[.int .i64 R, .int .i64 C, .slice Ab lb.length c] 26)).alloc (.cells #[.int .i64 kk] 3)).alloc (.cells #[] 22)).alloc (.cells #[.slice (some ⟨w.heap.size + 1 + 1, 0, none⟩) 0 0] 41)).heap.size = w.heap.size + 1 + 1 + 1 + 1 := by simp
 have e5 : (((((w.alloc (.cells #[.int .i64 R, .int .i64 C, .slice Ab lb.length c] 26)).alloc (.cells #[.int .i64 kk] 3)).alloc (.cells #[] 22)).alloc (.cells #[.slice (some ⟨w.heap.size + 1 + 1, 0, none⟩) 0 0] 41)).alloc (.cells #[.bool false] 4)).heap.size = w.heap.size + 1 + 1 + 1 + 1 + 1 := by simp
 have b5 : Below w.heap.size w (((((w.alloc (.cells #[.int .i64 R, .int .i64 C, .slice Ab lb.length c] 26)).alloc (.cells #[.int .i64 kk] 3)).alloc (.cells #[] 22)).alloc (.cells #[.slice (some ⟨w.heap.size + 1 + 1, 0, none⟩) 0 0] 41)).alloc (.cells #[.bool false] 4)) := below_alloc (below_alloc (below_alloc (below_alloc (below_alloc (Below.refl _ _) _) _) _) _) _
 have f1 : (((((w.alloc (.cells #[.int .i64 R, .int .i64 C, .slice Ab lb.length c] 26)).alloc (.cells #[.int .i64 kk] 3)).alloc (.cells #[] 22)).alloc (.cells #[.slice (some ⟨w.heap.size + 1 + 1, 0, none⟩) 0 0] 41)).alloc (.cells #[.bool false] 4)).heap[w.heap.size + 1]? = some (.cells #[.int .i64 kk] 3 (0, 0)) := by
  have := blk_alloc (blk_alloc (blk_alloc (blk_new (w.alloc (.cells #[.int .i64 R, .int .i64 C, .slice Ab lb.length c] 26)) (.cells #[.int .i64 kk] 3)) (.cells #[] 22)) (.cells #[.slice (some ⟨w.heap.size + 1 + 1, 0, none⟩) 0 0] 41)) (.cells #[.bool false] 4)
  rw [e1] at this
  exact this
 have f3 : (((((w.alloc (.cells #[.int .i64 R, .int .i64 C, .slice Ab lb.length c] 26)).alloc (.cells #[.int .i64 kk] 3)).alloc (.cells #[] 22)).alloc (.cells #[.slice (some ⟨w.heap.size + 1 + 1, 0, none⟩) 0 0] 41)).alloc (.cells #[.bool false] 4)).heap[w.heap.size + 1 + 1 + 1]? = some (.cells #[.slice (some ⟨w.heap.size + 1 + 1, 0, none⟩) 0 0] 41 (0, 0)) := by
  have := blk_alloc (blk_new (((w.alloc (.cells #[.int .i64 R, .int .i64 C, .slice Ab lb.length c] 26)).alloc (.cells #[.int .i64 kk] 3)).alloc (.cells #[] 22)) (.cells #[.slice (some ⟨w.heap.size + 1 + 1, 0, none⟩) 0 0] 41)) (.cells #[.bool false] 4)
  rw [e3] at this
  exact this
 have f4 : (((((w.alloc (.cells #[.int .i64 R, .int .i64 C, .slice Ab lb.length c] 26)).alloc (.cells #[.int .i64 kk] 3)).alloc (.cells #[] 22)).alloc (.cells #[.slice (some ⟨w.heap.size + 1 + 1, 0, none⟩) 0 0] 41)).alloc (.cells #[.bool false] 4)).heap[w.heap.size + 1 + 1 + 1 + 1]? = some (.cells #[.bool false] 4 (0, 0)) := by
  have := blk_new ((((w.alloc (.cells #[.int .i64 R, .int .i64 C, .slice Ab lb.length c] 26)).alloc (.cells #[.int .i64 kk] 3)).alloc (.cells #[] 22)).alloc (.cells #[.slice (some ⟨w.heap.size + 1 + 1, 0, none⟩) 0 0] 41)) (.cells #[.bool false] 4)
  rw [e4] at this
  exact this
 have hS : Kd.S (Kd.slice 3 (Kd.int .i64)) 22 (((((w.alloc (.cells #[.int .i64 R, .int .i64 C, .slice Ab lb.length c] 26)).alloc (.cells #[.int .i64 kk] 3)).alloc (.cells #[] 22)).alloc (.cells #[.slice (some ⟨w.heap.size + 1 + 1, 0, none⟩) 0 0] 41)).alloc (.cells #[.bool false] 4)) w.heap.size (fun j => (w.heap.size + 1 ≤ j ∧ j ≤ w.heap.size + 1 + 1 + 1 + 1) ∧ j ≠ w.heap.size + 1 ∧ j ≠ w.heap.size + 1 + 1 + 1 + 1 ∧ j ≠ w.heap.size + 1 + 1 + 1) (.slice (some ⟨w.heap.size + 1 + 1, 0, none⟩) 0 0) [] := by
  have h0 := Cap.R_empty (Kd.tag (fun _ => 0) (Kd.slice 3 (Kd.int .i64))) 22 w.heap.size ((w.alloc (.cells #[.int .i64 R, .int .i64 C, .slice Ab lb.length c] 26)).alloc (.cells #[.int .i64 kk] 3)) (by rw [e2]; omega)
  rw [e2] at h0
  have h1 := Kd.R_below h0 (below_alloc (below_alloc (Below.refl _ _) (.cells #[.slice (some ⟨w.heap.size + 1 + 1, 0, none⟩) 0 0] 41)) (.cells #[.bool false] 4))
  refine ⟨fun _ => 0, Kd.R_mono h1 (fun k hk => ?_)⟩
  have : k = w.heap.size + 1 + 1 := by simpa [Value.ownBlock] using hk
  omega
 refine (impl_Board_lists.calls (impl_Board_firstOf_1.D w (w.heap.size + 1) (w.heap.size + 1 + 1 + 1 + 1) (w.heap.size + 1 + 1 + 1) kk) (impl_Board_firstOf_1.f kk) (.func 188) fr #[] #[.pointer (some ⟨w.heap.size + 1, 0, none⟩), .pointer (some ⟨w.heap.size + 1 + 1 + 1 + 1, 0, none⟩), .pointer (some ⟨w.heap.size + 1 + 1 + 1, 0, none⟩)] hr1 hr2 are w (impl_Board_firstOf_1.tells w _ _ _ kk) hF.out k (fun j => w.heap.size + 1 ≤ j ∧ j ≤ w.heap.size + 1 + 1 + 1 + 1) _ none R C Ab lb c kk (g, s) ⟨fun j hj => ⟨by omega, by rw [e5]; omega⟩, ⟨by omega, by omega, by omega⟩, ⟨by omega, by omega, by omega⟩, f1, f4, _, f3, hS⟩ b5 (Kd.C_below HC.out b5) Hc.out A1.out).mono ?_
 rintro e w9 ⟨rfl, own9, ⟨d1, d2, d3, d4, d5, v9, d6, d7⟩, hb9⟩
 have hD5 := A_ d5
 have hD6 := A_ d6
 have hD7 := A_ d7
 have HB9 := A_ hb9
 clear d1 d2 d3 d4 d5 d6 d7 hb9 e1 e2 e3 e4 e5 f1 f3 f4 b5 hS
 go_wp2
 refine start_ (n := 4) (S := fun w' => w'.cell? ⟨w.heap.size + 1 + 1 + 1, 0, none⟩ = some v9 ∧ w'.cell? ⟨w.heap.size + 1 + 1 + 1 + 1, 0, none⟩ = some (.bool s.isSome)) (ds := []) (Fn.bl 4 0) (by kernel_rfl) rfl rfl ⟨cell_of_one (blk_below hD6.out (below_drew (Below.refl _ _))), cell_of_one (blk_below hD5.out (below_drew (Below.refl _ _)))⟩ (fun hHeld => ?_)
 refine take_ (i := 0) (N := some 16) (v := ?_) (a' := ?_) (Fn.bl 4 1) rfl rfl (by kernel_rfl) (fun _ _ _ h => h) (Or.inl ⟨by rfl, ?_⟩) hHeld ?_ ?_
 rotate_left
 ·
  rintro w' ⟨s0, s1⟩
  go_simp
  with_reducible rfl
 rotate_left
 ·
  simp only [Act.put, List.setIfInBounds_toArray, List.set_cons_zero, List.set_cons_succ, i64_w, i32_w]
  rfl
 refine take_ (i := 1) (N := some 17) (v := ?_) (a' := ?_) (Fn.bl 4 3) rfl rfl (by kernel_rfl) (fun _ _ _ h => h) (Or.inl ⟨by rfl, ?_⟩) hHeld ?_ ?_
 rotate_left
 ·
  rintro w' ⟨s0, s1⟩
  go_simp
  with_reducible rfl
 rotate_left
 ·
  simp only [Act.put, List.setIfInBounds_toArray, List.set_cons_zero, List.set_cons_succ, i64_w, i32_w]
  rfl
 refine take_ (i := 2) (N := some 6) (v := ?_) (a' := ?_) (Fn.bl 4 7) rfl rfl (by kernel_rfl) (fun _ _ _ h => h) (Or.inl ⟨by rfl, ?_⟩) hHeld ?_ ?_
 rotate_left
 ·
  rintro w' ⟨s0, s1⟩
  go_simp
  with_reducible rfl
 rotate_left
 ·
  simp only [Act.put, List.setIfInBounds_toArray, List.set_cons_zero, List.set_cons_succ, i64_w, i32_w]
  rfl
 refine take_ (i := 3) (N := some 7) (v := ?_) (a' := ?_) (Fn.bl 4 15) rfl rfl (by kernel_rfl) (fun _ _ _ h => h) (Or.inl ⟨by rfl, ?_⟩) hHeld ?_ ?_
 rotate_left
 ·
  rintro w' ⟨s0, s1⟩
  go_simp
  with_reducible rfl
 rotate_left
 ·
  simp only [Act.put, List.setIfInBounds_toArray, List.set_cons_zero, List.set_cons_succ, i64_w, i32_w]
  rfl
 refine done_ (by kernel_rfl) ?_
 try go_wp2
 go_ret2
 exact ⟨_, rfl, Kd.S_mono (Kd.S_drew hD7.out) (fun _ _ => trivial), below_then HB9.out HB9.out.size (below_drew (Below.refl _ _))⟩

/-! ### laws_eqIntSS: function 35 -/
def laws_eqIntSS.l0 : Nat → List (List Int) → List (List Int) → Int → Option (Bool)
 | 0, _, _, _ => none
 | k + 1, x0, x1, x5 => if x5 < (x0.length : Int) then (if 0 ≤ x5 then (if x5 < (x1.length : Int) then ((laws_eqIntS.f k (rd_L1 x0 x5) (rd_L1 x1 x5)).bind fun t805 => (if t805 = true then (laws_eqIntSS.l0 k x0 x1 (wrap64 (x5 + 1))) else (some false))) else (none)) else (none)) else (some true)
def laws_eqIntSS.f (k : Nat) (l0 : List (List Int)) (l1 : List (List Int)) : Option (Bool) := if (l0.length : Int) = (l1.length : Int) then (laws_eqIntSS.l0 k l0 l1 0) else (some false)
theorem laws_eqIntSS.mono_l : ∀ k, (∀ y0 y1 y2, LeO (laws_eqIntSS.l0 k y0 y1 y2) (laws_eqIntSS.l0 (k + 1) y0 y1 y2))
 | 0 => fun _ _ _ r h => by simp [laws_eqIntSS.l0] at h
 | k + 1 => by
  have ih0 := laws_eqIntSS.mono_l k
  ·
   intro y0 y1 y2
   unfold laws_eqIntSS.l0
   repeat' first | (with_reducible first | exact ih0 _ _ _ | exact laws_eqIntS.mono _ _ _ | exact LeO.refl _ | exact LeO.none _ | refine LeO.ite ?_ ?_ | refine LeO.bind ?_ (fun _ => ?_)) | exact ih0 _ _ _ | exact laws_eqIntS.mono _ _ _ | exact LeO.none _ | refine LeO.ite ?_ ?_ | refine LeO.bind ?_ (fun _ => ?_)
theorem laws_eqIntSS.mono : ∀ a0 a1 k, LeO (laws_eqIntSS.f k a0 a1) (laws_eqIntSS.f (k + 1) a0 a1) := by
 intro a0 a1 k
 have ih0 := laws_eqIntSS.mono_l k
 unfold laws_eqIntSS.f
 repeat' first | (with_reducible first | exact ih0 _ _ _ | exact laws_eqIntS.mono _ _ _ | exact LeO.refl _ | exact LeO.none _ | refine LeO.ite ?_ ?_ | refine LeO.bind ?_ (fun _ => ?_)) | exact ih0 _ _ _ | exact laws_eqIntS.mono _ _ _ | exact LeO.none _ | refine LeO.ite ?_ ?_ | refine LeO.bind ?_ (fun _ => ?_)
theorem laws_eqIntSS.calls (k : Nat) (A0 : Option Addr) (c0 : Nat) (l0 : List (List Int)) (A1 : Option Addr) (c1 : Nat) (l1 : List (List Int)) (r : Bool) (w : World) (hr0 : Kd.C (Kd.slice 3 (Kd.int .i64)) w A0 l0.length l0) (hc0 : l0.length ≤ c0) (hr1 : Kd.C (Kd.slice 3 (Kd.int .i64)) w A1 l1.length l1) (hc1 : l1.length ≤ c1) (h : laws_eqIntSS.f k l0 l1 = some r) :
  Calls Try.prog 35 #[.slice A0 l0.length c0, .slice A1 l1.length c1] w fun e w' => e = .returned (.bool r) ∧ Drawn0 w w' := by
 have HR0 := A_ hr0
 have HC0 := A_ hc0
 clear hr0 hc0
 have HR1 := A_ hr1
 have HC1 := A_ hc1
 clear hr1 hc1
 have H : (if (l0.length : Int) = (l1.length : Int) then (laws_eqIntSS.l0 k l0 l1 0) else (some false)) = some r := h
 clear h
 by_cases c3 : (l0.length : Int) = (l1.length : Int)
 ·
  rw [if_pos c3] at H
  have c3b0 : ((l0.length : Int) == (l1.length : Int)) = true := beq_iff_eq.mpr c3
  have c3b1 : ((l0.length : Int) != (l1.length : Int)) = false := bne_eq_false_iff_eq.mpr c3
  have c3b2 : (l0.length == l1.length) = true := by first | simpa using c3 | (simp at c3 ⊢; omega)
  clear c3
  have H' := A_ H
  clear H
  go_enter Try.func35, Try.ntmps35
  go_wp2
  repeat (go_quiet (fail); try go_wp2)
  go_loopg [5] k (fun kq v5 w' => ∃ (x5_1 : Int), v5 = .int .i64 x5_1 ∧ Aside0 (laws_eqIntSS.l0 kq l0 l1 x5_1 = some r) ∧ Aside0 (kq ≤ k) ∧ Drawn0 w w')
  case atStart => exact ⟨(0), tf_, H', ⟨Nat.le_refl _⟩, dr_⟩
  case round =>
   clear H'
   try clear c1
   try clear p2
   try clear c3
   try clear c3b0
   try clear c3b1
   try clear c3b2
   obtain ⟨x5_1, rfl, HA, HK1, ⟨m1, rfl⟩⟩ := hrel
   cases gk with
   | zero => exact absurd HA.out (by simp [laws_eqIntSS.l0])
   | succ k1 =>
    have H := HA.out
    clear HA
    simp only [laws_eqIntSS.l0] at H
    by_cases c4 : x5_1 < (l0.length : Int)
    ·
     rw [if_pos c4] at H
     have c4b0 := decide_eq_true c4
     clear c4
     by_cases c5 : 0 ≤ x5_1
     ·
      rw [if_pos c5] at H
      have c5b0 := decide_eq_true c5
      clear c5
      by_cases c6 : x5_1 < (l1.length : Int)
      ·
       rw [if_pos c6] at H
       have c6b0 := decide_eq_true c6
       clear c6
       replace H := Option.bind_eq_some_iff.mp H
       obtain ⟨t805, A70, H⟩ := H
       replace H : (if t805 = true then (laws_eqIntSS.l0 k1 l0 l1 (wrap64 (x5_1 + 1))) else (some false)) = some r := H
       have A7 := A_ A70
       clear A70
       by_cases c8 : t805 = true
       ·
        subst c8
        have H1 : (laws_eqIntSS.l0 k1 l0 l1 (wrap64 (x5_1 + 1))) = some r := by rw [if_pos rfl] at H; exact H
        clear H
        have H := H1
        clear H1
        have H' := A_ H
        clear H
        have p803 : 0 ≤ (x5_1 : Int) := od_
        have q803 : x5_1 < (l0.length : Int) := od_
        obtain ⟨ad803, A803_0, c803_0, e803, hx803_0, hl803_0, hi803_0⟩ := at_L1 HR0.out x5_1 p803 q803
        cases e803
        have HR803_0 := A_ hi803_0
        have HC803_0 := A_ hl803_0
        clear hi803_0 hl803_0
        replace p803 := eq_true p803
        replace q803 := eq_true q803
        have p804 : 0 ≤ (x5_1 : Int) := od_
        have q804 : x5_1 < (l1.length : Int) := od_
        obtain ⟨ad804, A804_0, c804_0, e804, hx804_0, hl804_0, hi804_0⟩ := at_L1 HR1.out x5_1 p804 q804
        cases e804
        have HR804_0 := A_ hi804_0
        have HC804_0 := A_ hl804_0
        clear hi804_0 hl804_0
        replace p804 := eq_true p804
        replace q804 := eq_true q804
        go_wp2_with (first | (go_at_call 28; (with_reducible refine (laws_eqIntS.calls k1 _ _ (rd_L1 l0 x5_1) _ _ (rd_L1 l1 x5_1) true _ ?side1 ?side2 ?side3 ?side4 A7.out).mono ?_); (case side1 => exact tc0_ HR803_0.out); (case side2 => exact HC803_0.out); (case side3 => exact tc0_ HR804_0.out); (case side4 => exact HC804_0.out); rintro e w' ⟨rfl, ⟨nd, rfl⟩⟩; (try exact dn_)))
        repeat (go_quiet (first | (go_at_call 28; (with_reducible refine (laws_eqIntS.calls k1 _ _ (rd_L1 l0 x5_1) _ _ (rd_L1 l1 x5_1) true _ ?side1 ?side2 ?side3 ?side4 A7.out).mono ?_); (case side1 => exact tc0_ HR803_0.out); (case side2 => exact HC803_0.out); (case side3 => exact tc0_ HR804_0.out); (case side4 => exact HC804_0.out); rintro e w' ⟨rfl, ⟨nd, rfl⟩⟩; (try exact dn_))); try go_wp2_with (first | (go_at_call 28; (with_reducible refine (laws_eqIntS.calls k1 _ _ (rd_L1 l0 x5_1) _ _ (rd_L1 l1 x5_1) true _ ?side1 ?side2 ?side3 ?side4 A7.out).mono ?_); (case side1 => exact tc0_ HR803_0.out); (case side2 => exact HC803_0.out); (case side3 => exact tc0_ HR804_0.out); (case side4 => exact HC804_0.out); rintro e w' ⟨rfl, ⟨nd, rfl⟩⟩; (try exact dn_))))
        go_roundg k1
        case measure => have := HK1.out; omega
        case rel => exact ⟨(wrap64 (x5_1 + 1)), tf_, H', ⟨by have := HK1.out; omega⟩, dr_⟩
       ·
        replace c8 := Bool.eq_false_iff.mpr c8
        subst c8
        have H1 : (some false) = some r := by rw [if_neg (show ¬ (false = true) by decide)] at H; exact H
        clear H
        have H := H1
        clear H1
        obtain rfl := Option.some.inj H
        have p803 : 0 ≤ (x5_1 : Int) := od_
        have q803 : x5_1 < (l0.length : Int) := od_
        obtain ⟨ad803, A803_0, c803_0, e803, hx803_0, hl803_0, hi803_0⟩ := at_L1 HR0.out x5_1 p803 q803
        cases e803
        have HR803_0 := A_ hi803_0
        have HC803_0 := A_ hl803_0
        clear hi803_0 hl803_0
        replace p803 := eq_true p803
        replace q803 := eq_true q803
        have p804 : 0 ≤ (x5_1 : Int) := od_
        have q804 : x5_1 < (l1.length : Int) := od_
        obtain ⟨ad804, A804_0, c804_0, e804, hx804_0, hl804_0, hi804_0⟩ := at_L1 HR1.out x5_1 p804 q804
        cases e804
        have HR804_0 := A_ hi804_0
        have HC804_0 := A_ hl804_0
        clear hi804_0 hl804_0
        replace p804 := eq_true p804
        replace q804 := eq_true q804
        go_wp2_with (first | (go_at_call 28; (with_reducible refine (laws_eqIntS.calls k1 _ _ (rd_L1 l0 x5_1) _ _ (rd_L1 l1 x5_1) false _ ?side1 ?side2 ?side3 ?side4 A7.out).mono ?_); (case side1 => exact tc0_ HR803_0.out); (case side2 => exact HC803_0.out); (case side3 => exact tc0_ HR804_0.out); (case side4 => exact HC804_0.out); rintro e w' ⟨rfl, ⟨nd, rfl⟩⟩; (try exact dn_)))
        repeat (go_quiet (first | (go_at_call 28; (with_reducible refine (laws_eqIntS.calls k1 _ _ (rd_L1 l0 x5_1) _ _ (rd_L1 l1 x5_1) false _ ?side1 ?side2 ?side3 ?side4 A7.out).mono ?_); (case side1 => exact tc0_ HR803_0.out); (case side2 => exact HC803_0.out); (case side3 => exact tc0_ HR804_0.out); (case side4 => exact HC804_0.out); rintro e w' ⟨rfl, ⟨nd, rfl⟩⟩; (try exact dn_))); try go_wp2_with (first | (go_at_call 28; (with_reducible refine (laws_eqIntS.calls k1 _ _ (rd_L1 l0 x5_1) _ _ (rd_L1 l1 x5_1) false _ ?side1 ?side2 ?side3 ?side4 A7.out).mono ?_); (case side1 => exact tc0_ HR803_0.out); (case side2 => exact HC803_0.out); (case side3 => exact tc0_ HR804_0.out); (case side4 => exact HC804_0.out); rintro e w' ⟨rfl, ⟨nd, rfl⟩⟩; (try exact dn_))))
        go_ret
        exact ⟨tf_, dr_⟩
      ·
       rw [if_neg c6] at H
       exact absurd H (by simp)
     ·
      rw [if_neg c5] at H
      exact absurd H (by simp)
    ·
     rw [if_neg c4] at H
     have c4b0 := decide_eq_false c4
     clear c4
     obtain rfl := Option.some.inj H
     go_wp2
     repeat (go_quiet (fail); try go_wp2)
     go_ret
     exact ⟨tf_, dr_⟩
 ·
  rw [if_neg c3] at H
  have c3b0 : ((l0.length : Int) == (l1.length : Int)) = false := beq_eq_false_iff_ne.mpr c3
  have c3b1 : ((l0.length : Int) != (l1.length : Int)) = true := bne_iff_ne.mpr c3
  have c3b2 : (l0.length == l1.length) = false := by first | simpa using c3 | (simp at c3 ⊢; omega)
  obtain rfl := Option.some.inj H
  go_enter Try.func35, Try.ntmps35
  go_wp2
  repeat (go_quiet (fail); try go_wp2)
  go_ret
  exact ⟨tf_, dr_⟩

/-! ### laws_markIntSS: function 36 -/
def laws_markIntSS.l0 : Nat → List (List Int) → Int → Int → Option (Int × List (List Int))
 | 0, _, _, _ => none
 | k + 1, x0, x1, x5 => if x5 < (x0.length : Int) then (if 0 ≤ x5 then ((laws_markIntS.f k (rd_L1 x0 x5) x1).bind fun t => laws_markIntSS.l0 k (x0.set (x5 : Int).toNat t.2) t.1 (wrap64 (x5 + 1))) else none) else some (x1, x0)
def laws_markIntSS.f (k : Nat) (l0 : List (List Int)) (a1 : Int) : Option (Int × List (List Int)) := laws_markIntSS.l0 k l0 a1 0
theorem laws_markIntSS.mono_l : ∀ k, (∀ y0 y1 y2, LeO (laws_markIntSS.l0 k y0 y1 y2) (laws_markIntSS.l0 (k + 1) y0 y1 y2))
 | 0 => fun _ _ _ r h => by simp [laws_markIntSS.l0] at h
 | k + 1 => by
  have ih0 := laws_markIntSS.mono_l k
  ·
   intro y0 y1 y2
   unfold laws_markIntSS.l0
   repeat' first | (with_reducible first | exact ih0 _ _ _ | exact LeO.refl _ | exact LeO.none _ | exact laws_markIntS.mono _ _ _ | refine LeO.ite ?_ ?_ | refine LeO.bind ?_ (fun _ => ?_)) | exact ih0 _ _ _ | exact LeO.none _ | exact laws_markIntS.mono _ _ _ | refine LeO.ite ?_ ?_ | refine LeO.bind ?_ (fun _ => ?_)
theorem laws_markIntSS.mono : ∀ a0 a1 k, LeO (laws_markIntSS.f k a0 a1) (laws_markIntSS.f (k + 1) a0 a1) := fun a0 a1 k => laws_markIntSS.mono_l k _ _ _
theorem laws_markIntSS.calls (k : Nat) (P0_ : Nat → Prop) (u9000_ : Value) (l0 : List (List Int)) (a1 : Int) (r1 : Int) (r2 : List (List Int)) (w0 w : World) (hB : Below w0.heap.size w0 w) (ho0 : Kd.S (Kd.slice 3 (Kd.int .i64)) 22 w w0.heap.size P0_ u9000_ l0) (h : laws_markIntSS.f k l0 a1 = some (r1, r2)) :
  Calls Try.prog 36 #[u9000_, .int .i64 a1] w fun e w' => e = .returned (.int .i64 r1) ∧ Kd.S (Kd.slice 3 (Kd.int .i64)) 22 w' w0.heap.size (fun k_ => (P0_ k_ ∨ w.heap.size ≤ k_)) u9000_ r2 ∧ Below w0.heap.size w0 w' ∧ Kept w w' (fun k_ => P0_ k_) := by
 have HO0 := A_ (show Kd.S (Kd.slice 3 (Kd.int .i64)) 22 w w0.heap.size (fun k_ => (P0_ k_ ∨ w.heap.size ≤ k_)) u9000_ l0 from Kd.S_mono ho0 (fun k_ hk => (.inl hk)))
 have HK := A_ (Kept.refl w (fun k_ => P0_ k_))
 have HB := A_ hB
 clear hB
 have H' := A_ (show laws_markIntSS.l0 k l0 a1 0 = some (r1, r2) from h)
 clear h
 go_enter Try.func36, Try.ntmps36
 go_wp2
 go_loopg [1, 5] k (fun kq v1 v5 w' => ∃ (x0_1 : List (List Int)) (x1_1 : Int) (x5_1 : Int), v1 = .int .i64 x1_1 ∧ v5 = .int .i64 x5_1 ∧ Aside0 (laws_markIntSS.l0 kq x0_1 x1_1 x5_1 = some (r1, r2)) ∧ Aside0 (kq ≤ k) ∧ Aside0 (Kd.S (Kd.slice 3 (Kd.int .i64)) 22 w' w0.heap.size (fun k_ => (P0_ k_ ∨ w.heap.size ≤ k_)) u9000_ x0_1) ∧ Aside0 (Kept w w' (fun k_ => P0_ k_)) ∧ Aside0 (Below w0.heap.size w0 w'))
 case atStart => exact ⟨l0, a1, 0, rfl, rfl, H', ⟨Nat.le_refl _⟩, ⟨ts1_x HO0.out⟩, ⟨by repeat (first | (with_reducible first | exact HK.out | apply Kept.alloc | apply Kept.drewN | apply Kept.drew) | exact HK.out)⟩, ⟨tb_⟩⟩
 case round =>
  clear H'
  obtain ⟨x0_1, x1_1, x5_1, rfl, rfl, HA, HK1, HO_0, HK, HB⟩ := hrel
  cases gk with
  | zero => exact absurd HA.out (by simp [laws_markIntSS.l0])
  | succ k1 =>
   have H := HA.out
   clear HA
   simp only [laws_markIntSS.l0] at H
   by_cases c3 : x5_1 < (x0_1.length : Int)
   ·
    rw [if_pos c3] at H
    by_cases c4 : 0 ≤ x5_1
    ·
     rw [if_pos c4] at H
     obtain ⟨⟨t1, t2⟩, A1, H⟩ := Option.bind_eq_some_iff.mp H
     have H' := A_ H
     have A1' := A_ A1
     clear H A1
     obtain ⟨go5, co5, eo5, gb5, gl5, cl5, HG5⟩ := Kd.S_form HO_0.out (by omega)
     subst eo5
     obtain ⟨oki, ci, hcl, hM, hcc, hoki, hH⟩ := Kd.S_lend HO_0.out [] x5_1 c4 c3
     obtain ⟨ve, rfl, hR⟩ := hM
     have hx := hcc 0 _ rfl
     simp only [show (Kd.slice 3 (Kd.int .i64)).sz = 1 from rfl, Nat.mul_one, Nat.add_zero] at hx
     have HR := A_ hR
     have HH := A_ hH
     have HI := A_ hoki
     have c3b := decide_eq_true c3
     have c4b := decide_eq_true c4
     have c3' := A_ c3
     have c4' := A_ c4
     clear hR hH hoki hcl hcc gb5 gl5 HG5 c3 c4
     have p5 : (0 ≤ x5_1) = True := eq_true c4'.out
     have q5 : (x5_1 < (x0_1.length : Int)) = True := eq_true c3'.out
     go_wp2_with (first | (go_at_call 29; (with_reducible refine (laws_markIntS.calls k1 oki ve (rd_L1 x0_1 x5_1) x1_1 t1 t2 w0 _ ?sB ?sR A1'.out).mono ?_); (case sB => repeat (first | (with_reducible first | exact HB.out | apply below_alloc | apply pw_below_drewN | apply below_drew1) | exact HB.out)); (case sR => (with_reducible repeat (first | apply Kd.R_alloc | apply Kd.R_drewN | apply Kd.R_drew)); exact HR.out); rintro e w8 ⟨rfl, hy, hb, hkp⟩; have HY := A_ hy; have HB2 := A_ hb; have HKP := A_ hkp; clear hy hb hkp))
     go_roundg k1
     case measure => have := HK1.out; omega
     case rel =>
      refine ⟨x0_1.set x5_1.toNat t2, t1, wrap64 (x5_1 + 1), rfl, by first | rfl | (simp; done), H', ⟨by have := HK1.out; omega⟩, ?_, ?_, ?_⟩
      ·
       refine ⟨?_⟩
       (with_reducible repeat (first | apply Kd.S_alloc | apply Kd.S_drewN | apply Kd.S_drew))
       have hle := HKP.out.1
       have hle2 := HK.out.1
       have hsz := HB.out.size
       exact Kd.H_back (Kd.H_step (Kd.H_widen HH.out) (fun k_ hk hn hlt => HKP.out.2 k_ hlt (fun h2 => hn (.inl h2)))) (Kd.M_row HY.out) (fun k_ hk => hk.elim .inl (fun h2 => .inr ⟨.inr (Nat.le_trans hle2 h2), h2⟩))
      ·
       refine ⟨?_⟩
       repeat (first | (with_reducible first | apply Kept.alloc | apply Kept.drewN | apply Kept.drew))
       exact Kept.then_ HK.out HKP.out (fun k_ hk => (HI.out k_ hk).1)
      ·
       exact ⟨by repeat (first | (with_reducible first | exact HB2.out | apply below_alloc | apply pw_below_drewN | apply below_drew1) | exact HB2.out)⟩
    ·
     rw [if_neg c4] at H
     exact absurd H (by simp)
   ·
    rw [if_neg c3] at H
    have c3b0 := decide_eq_false c3
    clear c3
    simp only [Option.some.injEq, Prod.mk.injEq] at H
    obtain ⟨rfl, rfl⟩ := H
    obtain ⟨Ao9, co9, eo9⟩ := Kd.S_slice HO_0.out
    subst eo9
    go_wp2
    go_ret
    exact ⟨te_, by (with_reducible repeat (first | apply Kd.S_alloc | apply Kd.S_drewN | apply Kd.S_drew)); exact HO_0.out, tb_, by repeat (first | (with_reducible first | exact HK.out | apply Kept.alloc | apply Kept.drewN | apply Kept.drew) | exact HK.out)⟩

/-! ### laws_heldIntSS: function 37 -/
def laws_heldIntSS.l0 : Nat → List (List Int) → Int → Int → Option (Int)
 | 0, _, _, _ => none
 | k + 1, x0, x1, x5 => if x5 < (x0.length : Int) then (if 0 ≤ x5 then ((laws_heldIntS.f k (rd_L1 x0 x5) x1).bind fun t807 => (if t807 < 0 then (some (-1)) else (laws_heldIntSS.l0 k x0 t807 (wrap64 (x5 + 1))))) else (none)) else (some x1)
def laws_heldIntSS.f (k : Nat) (l0 : List (List Int)) (a1 : Int) : Option (Int) := laws_heldIntSS.l0 k l0 a1 0
theorem laws_heldIntSS.mono_l : ∀ k, (∀ y0 y1 y2, LeO (laws_heldIntSS.l0 k y0 y1 y2) (laws_heldIntSS.l0 (k + 1) y0 y1 y2))
 | 0 => fun _ _ _ r h => by simp [laws_heldIntSS.l0] at h
 | k + 1 => by
  have ih0 := laws_heldIntSS.mono_l k
  ·
   intro y0 y1 y2
   unfold laws_heldIntSS.l0
   repeat' first | (with_reducible first | exact ih0 _ _ _ | exact laws_heldIntS.mono _ _ _ | exact LeO.refl _ | exact LeO.none _ | refine LeO.ite ?_ ?_ | refine LeO.bind ?_ (fun _ => ?_)) | exact ih0 _ _ _ | exact laws_heldIntS.mono _ _ _ | exact LeO.none _ | refine LeO.ite ?_ ?_ | refine LeO.bind ?_ (fun _ => ?_)
theorem laws_heldIntSS.mono : ∀ a0 a1 k, LeO (laws_heldIntSS.f k a0 a1) (laws_heldIntSS.f (k + 1) a0 a1) := by
 intro a0 a1 k
 have ih0 := laws_heldIntSS.mono_l k
 unfold laws_heldIntSS.f
 repeat' first | (with_reducible first | exact ih0 _ _ _ | exact laws_heldIntS.mono _ _ _ | exact LeO.refl _ | exact LeO.none _ | refine LeO.ite ?_ ?_ | refine LeO.bind ?_ (fun _ => ?_)) | exact ih0 _ _ _ | exact laws_heldIntS.mono _ _ _ | exact LeO.none _ | refine LeO.ite ?_ ?_ | refine LeO.bind ?_ (fun _ => ?_)
theorem laws_heldIntSS.calls (k : Nat) (A0 : Option Addr) (c0 : Nat) (l0 : List (List Int)) (a1 : Int) (r : Int) (w : World) (hr0 : Kd.C (Kd.slice 3 (Kd.int .i64)) w A0 l0.length l0) (hc0 : l0.length ≤ c0) (h : laws_heldIntSS.f k l0 a1 = some r) :
  Calls Try.prog 37 #[.slice A0 l0.length c0, .int .i64 a1] w fun e w' => e = .returned (.int .i64 r) ∧ Drawn0 w w' := by
 have HR0 := A_ hr0
 have HC0 := A_ hc0
 clear hr0 hc0
 have H : (laws_heldIntSS.l0 k l0 a1 0) = some r := h
 clear h
 have H' := A_ H
 clear H
 go_enter Try.func37, Try.ntmps37
 go_wp2
 go_loopg [1, 5] k (fun kq v1 v5 w' => ∃ (x1_1 : Int) (x5_1 : Int), v1 = .int .i64 x1_1 ∧ v5 = .int .i64 x5_1 ∧ Aside0 (laws_heldIntSS.l0 kq l0 x1_1 x5_1 = some r) ∧ Aside0 (kq ≤ k) ∧ Drawn0 w w')
 case atStart => exact ⟨(a1), (0), tf_, tf_, H', ⟨Nat.le_refl _⟩, dr_⟩
 case round =>
  clear H'
  try clear p2
  obtain ⟨x1_1, x5_1, rfl, rfl, HA, HK1, ⟨m1, rfl⟩⟩ := hrel
  cases gk with
  | zero => exact absurd HA.out (by simp [laws_heldIntSS.l0])
  | succ k1 =>
   have H := HA.out
   clear HA
   simp only [laws_heldIntSS.l0] at H
   by_cases c3 : x5_1 < (l0.length : Int)
   ·
    rw [if_pos c3] at H
    have c3b0 := decide_eq_true c3
    clear c3
    by_cases c4 : 0 ≤ x5_1
    ·
     rw [if_pos c4] at H
     have c4b0 := decide_eq_true c4
     clear c4
     replace H := Option.bind_eq_some_iff.mp H
     obtain ⟨t807, A50, H⟩ := H
     replace H : (if t807 < 0 then (some (-1)) else (laws_heldIntSS.l0 k1 l0 t807 (wrap64 (x5_1 + 1)))) = some r := H
     have A5 := A_ A50
     clear A50
     by_cases c6 : t807 < 0
     ·
      rw [if_pos c6] at H
      have c6b0 := decide_eq_true c6
      clear c6
      obtain rfl := Option.some.inj H
      have p806 : 0 ≤ (x5_1 : Int) := od_
      have q806 : x5_1 < (l0.length : Int) := od_
      obtain ⟨ad806, A806_0, c806_0, e806, hx806_0, hl806_0, hi806_0⟩ := at_L1 HR0.out x5_1 p806 q806
      cases e806
      have HR806_0 := A_ hi806_0
      have HC806_0 := A_ hl806_0
      clear hi806_0 hl806_0
      replace p806 := eq_true p806
      replace q806 := eq_true q806
      go_wp2_with (first | (refine gc_ 30 ?_; refine goesT_ (some 17) Try.func30 #[.slice A806_0 (rd_L1 l0 x5_1).length c806_0, .int .i64 x1_1] ?_; (with_reducible refine (laws_heldIntS.calls k1 _ _ (rd_L1 l0 x5_1) x1_1 t807 _ ?side1 ?side2 A5.out).mono ?_); (case side1 => exact tc0_ HR806_0.out); (case side2 => exact HC806_0.out); rintro e w' ⟨rfl, ⟨nd, rfl⟩⟩; refine ⟨_, rfl, ?_⟩))
      go_ret
      exact ⟨tf_, dr_⟩
     ·
      rw [if_neg c6] at H
      have c6b0 := decide_eq_false c6
      clear c6
      have H' := A_ H
      clear H
      have p806 : 0 ≤ (x5_1 : Int) := od_
      have q806 : x5_1 < (l0.length : Int) := od_
      obtain ⟨ad806, A806_0, c806_0, e806, hx806_0, hl806_0, hi806_0⟩ := at_L1 HR0.out x5_1 p806 q806
      cases e806
      have HR806_0 := A_ hi806_0
      have HC806_0 := A_ hl806_0
      clear hi806_0 hl806_0
      replace p806 := eq_true p806
      replace q806 := eq_true q806
      go_wp2_with (first | (refine gc_ 30 ?_; refine goesT_ (some 17) Try.func30 #[.slice A806_0 (rd_L1 l0 x5_1).length c806_0, .int .i64 x1_1] ?_; (with_reducible refine (laws_heldIntS.calls k1 _ _ (rd_L1 l0 x5_1) x1_1 t807 _ ?side1 ?side2 A5.out).mono ?_); (case side1 => exact tc0_ HR806_0.out); (case side2 => exact HC806_0.out); rintro e w' ⟨rfl, ⟨nd, rfl⟩⟩; refine ⟨_, rfl, ?_⟩))
      go_roundg k1
      case measure => have := HK1.out; omega
      case rel => exact ⟨(t807), (wrap64 (x5_1 + 1)), tf_, tf_, H', ⟨by have := HK1.out; omega⟩, dr_⟩
    ·
     rw [if_neg c4] at H
     exact absurd H (by simp)
   ·
    rw [if_neg c3] at H
    have c3b0 := decide_eq_false c3
    clear c3
    obtain rfl := Option.some.inj H
    go_wp2
    go_ret
    exact ⟨tf_, dr_⟩

/-! ### spec_FirstBishops: function 38 -/
def spec_FirstBishops.f (k : Nat) (a0_0 a0_1 : Int) (l0_2 : List Int) (a1 : Int) : Option (List (List Int) × Bool) := (spec_biAsked.f k a0_0 a0_1 l0_2 a1).bind fun t => (if t = true then ((spec_biNumbers.f k a0_0 a0_1 l0_2).bind fun v => (if a1 ≥ (v.length : Int) then some ([], false) else ((spec_boCells.f k a0_0 a0_1 l0_2).bind fun all => ((spec_biFirst.f all 0 k [] 0 a1).bind fun r => (if r.1.Nodup ∧ ∀ x ∈ r.1, x.length = 2 then some r else none))))) else some ([], false))
theorem spec_FirstBishops.mono : ∀ a0 a1 a2 a3 k, LeO (spec_FirstBishops.f k a0 a1 a2 a3) (spec_FirstBishops.f (k + 1) a0 a1 a2 a3) := by
 intro a0 a1 a2 a3 k
 unfold spec_FirstBishops.f
 refine LeO.bind (spec_biAsked.mono _ _ _ _ _) (fun _ => ?_)
 refine LeO.ite ?_ (LeO.refl _)
 refine LeO.bind (spec_biNumbers.mono _ _ _ _) (fun _ => ?_)
 refine LeO.ite (LeO.refl _) ?_
 refine LeO.bind (spec_boCells.mono _ _ _ _) (fun _ => ?_)
 exact LeO.bind (spec_biFirst.mono _ _ _ _ _ _) (fun _ => LeO.refl _)
theorem spec_FirstBishops.calls (k : Nat) (a0_0 a0_1 : Int) (A0_2 : Option Addr) (c0_2 : Nat) (l0_2 : List Int) (a1 : Int) (r1 : List (List Int)) (r2 : Bool) (w : World) (hr0_2 : Kd.C (Kd.int .i64) w A0_2 l0_2.length l0_2) (hc0_2 : l0_2.length ≤ c0_2) (h : spec_FirstBishops.f k a0_0 a0_1 l0_2 a1 = some (r1, r2)) :
  Calls Try.prog 38 #[.agg #[.int .i64 a0_0, .int .i64 a0_1, .slice A0_2 l0_2.length c0_2], .int .i64 a1] w fun e w' => ∃ v0_ : Value, e = .returned (.tuple #[v0_, .bool r2]) ∧ Kd.S (Kd.slice 3 (Kd.int .i64)) 22 w' w.heap.size (fun _ => True) v0_ r1 ∧ Below w.heap.size w w' := by
 have HR := A_ hr0_2
 have HC := A_ hc0_2
 clear hr0_2 hc0_2
 unfold spec_FirstBishops.f at h
 have hu26 := Try.underlying26
 have HQ : Aside0 (∀ w1, Below w.heap.size w w1 → Kd.C (Kd.int .i64) w1 A0_2 l0_2.length l0_2) := ⟨fun w1 hb => Kd.C_below HR.out hb⟩
 obtain ⟨t, A2, H⟩ := Option.bind_eq_some_iff.mp h
 have A2' := A_ A2
 clear A2 h
 have hb2 := A_ (below_alloc (Below.refl w.heap.size w) (.cells #[.int .i64 a0_0, .int .i64 a0_1, .slice A0_2 l0_2.length c0_2] 26))
 have FB := A_ (blk_new w (.cells #[.int .i64 a0_0, .int .i64 a0_1, .slice A0_2 l0_2.length c0_2] 26))
 cases t with
 | false =>
  simp only [Bool.false_eq_true, if_false, Option.some.injEq, Prod.mk.injEq] at H
  obtain ⟨rfl, rfl⟩ := H
  go_enter Try.func38, Try.ntmps38
  go_wp2_with (first | (go_at_call 98; (with_reducible refine (spec_biAsked.calls k a0_0 a0_1 A0_2 c0_2 l0_2 a1 false _ (HQ.out _ hb2.out) HC.out A2'.out).mono ?_); rintro e w1 ⟨rfl, hb⟩; have HB1 := A_ (below_then hb2.out hb2.out.size hb); have hB1 := A_ (blk_below FB.out hb); clear hb; have hb30 := blk_cell hB1.out 0; have hb31 := blk_cell hB1.out 1; have hb32 := blk_cell hB1.out 2))
  go_ret2
  exact ⟨_, rfl, Kd.S_nil _ _ _ _ _, HB1.out⟩
 | true =>
  simp only [if_true] at H
  obtain ⟨v, A4, H⟩ := Option.bind_eq_some_iff.mp H
  have A4' := A_ A4
  clear A4
  by_cases c1 : a1 ≥ (v.length : Int)
  ·
   rw [if_pos c1] at H
   have c1b := decide_eq_true c1
   clear c1
   simp only [Option.some.injEq, Prod.mk.injEq] at H
   obtain ⟨rfl, rfl⟩ := H
   go_enter Try.func38, Try.ntmps38
   go_wp2_with (first | (go_at_call 98; (with_reducible refine (spec_biAsked.calls k a0_0 a0_1 A0_2 c0_2 l0_2 a1 true _ (HQ.out _ hb2.out) HC.out A2'.out).mono ?_); rintro e w1 ⟨rfl, hb⟩; have HB1 := A_ (below_then hb2.out hb2.out.size hb); have hB1 := A_ (blk_below FB.out hb); clear hb; have hb30 := blk_cell hB1.out 0; have hb31 := blk_cell hB1.out 1; have hb32 := blk_cell hB1.out 2) | (go_at_call 96; (with_reducible refine (spec_biNumbers.calls k a0_0 a0_1 A0_2 c0_2 l0_2 v _ (HQ.out _ HB1.out) HC.out A4'.out).mono ?_); rintro e w3 ⟨vb, rfl, hR, hb⟩; obtain ⟨Ab, cb, eb⟩ := Kd.R_slice hR; subst eb; have HB3 := A_ (below_then HB1.out HB1.out.size hb); have hB3 := A_ (blk_below hB1.out hb); clear hR hb))
   go_ret2
   exact ⟨_, rfl, Kd.S_nil _ _ _ _ _, HB3.out⟩
  ·
   rw [if_neg c1] at H
   have c1b := decide_eq_false c1
   clear c1
   obtain ⟨all, A5, H⟩ := Option.bind_eq_some_iff.mp H
   obtain ⟨⟨q1, q2⟩, A6, H⟩ := Option.bind_eq_some_iff.mp H
   by_cases c7 : q1.Nodup ∧ ∀ x ∈ q1, x.length = 2
   case neg =>
    rw [if_neg c7] at H
    exact absurd H (by simp)
   rw [if_pos c7] at H
   obtain ⟨rfl, rfl⟩ := Prod.mk.inj (Option.some.inj H)
   clear H
   replace A5 := A_ A5
   replace A6 := A_ A6
   have C7 := A_ c7
   clear c7
   go_enter Try.func38, Try.ntmps38
   go_wp2_with (first | (go_at_call 98; (with_reducible refine (spec_biAsked.calls k a0_0 a0_1 A0_2 c0_2 l0_2 a1 true _ (HQ.out _ hb2.out) HC.out A2'.out).mono ?_); rintro e w1 ⟨rfl, hb⟩; have HB1 := A_ (below_then hb2.out hb2.out.size hb); have hB1 := A_ (blk_below FB.out hb); clear hb; have hb30 := blk_cell hB1.out 0; have hb31 := blk_cell hB1.out 1; have hb32 := blk_cell hB1.out 2) | (go_at_call 96; (with_reducible refine (spec_biNumbers.calls k a0_0 a0_1 A0_2 c0_2 l0_2 v _ (HQ.out _ HB1.out) HC.out A4'.out).mono ?_); rintro e w3 ⟨vb, rfl, hR, hb⟩; obtain ⟨Ab, cb, eb⟩ := Kd.R_slice hR; subst eb; have HB3 := A_ (below_then HB1.out HB1.out.size hb); have hB3 := A_ (blk_below hB1.out hb); clear hR hb) | fail)
   refine start_ (n := 9) (S := fun w' => Below w3.heap.size w3 w') (ds := []) (Fn.bl 9 0) (by kernel_rfl) rfl rfl (below_drew (Below.refl _ _)) (fun hHeld => ?_)
   generalize World.drew _ = w4 at hHeld ⊢
   refine take_ (i := 0) (N := some 17) (v := ?_) (a' := ?_) (Fn.bl 9 1) rfl rfl (by kernel_rfl) (fun _ _ _ h => h) (Or.inl ⟨by rfl, ?_⟩) hHeld ?_ ?_
   rotate_left
   ·
    intro w' s0
    have h0 := blk_cell (blk_below hB3.out s0) 0
    have h1 := blk_cell (blk_below hB3.out s0) 1
    have h2 := blk_cell (blk_below hB3.out s0) 2
    go_simp
    with_reducible rfl
   rotate_left
   ·
    simp only [Act.put, List.setIfInBounds_toArray, List.set_cons_zero, List.set_cons_succ, i64_w, i32_w]
    rfl
   refine take_ (i := 1) (N := some 18) (v := ?_) (a' := ?_) (Fn.bl 9 3) rfl rfl (by kernel_rfl) (fun _ _ _ h => h) (Or.inl ⟨by rfl, ?_⟩) hHeld ?_ ?_
   rotate_left
   ·
    intro w' s0
    have h0 := blk_cell (blk_below hB3.out s0) 0
    have h1 := blk_cell (blk_below hB3.out s0) 1
    have h2 := blk_cell (blk_below hB3.out s0) 2
    go_simp
    with_reducible rfl
   rotate_left
   ·
    simp only [Act.put, List.setIfInBounds_toArray, List.set_cons_zero, List.set_cons_succ, i64_w, i32_w]
    rfl
   refine take_ (i := 3) (N := some 20) (v := ?_) (a' := ?_) (Fn.bl 9 11) rfl rfl (by kernel_rfl) (fun _ _ _ h => h) (Or.inl ⟨by rfl, ?_⟩) hHeld ?_ ?_
   rotate_left
   ·
    intro w' s0
    go_simp
    with_reducible rfl
   rotate_left
   ·
    simp only [Act.put, List.setIfInBounds_toArray, List.set_cons_zero, List.set_cons_succ, i64_w, i32_w]
    rfl
   refine one_ (i := 2) (N := some 19) (Fn.bl 9 15) rfl rfl (by kernel_rfl) (by decide) (fun K hK => ?_)
   refine goes_ Try.func106 (by kernel_rfl) rfl #[.agg #[.int .i64 a0_0, .int .i64 a0_1, .slice A0_2 l0_2.length c0_2]] (by rfl) rfl rfl (by (try simp only [List.map_toArray, List.map_cons, List.map_nil]); first | done | rfl) ?_
   refine (spec_boCells.calls k a0_0 a0_1 A0_2 c0_2 l0_2 all _ (HQ.out _ (below_then HB3.out HB3.out.size hHeld)) HC.out A5.out).mono ?_
   rintro e w5 ⟨v19, rfl, hS5, hb5⟩
   obtain ⟨Aa, ca, e19⟩ := Kd.S_slice hS5
   subst e19
   refine ⟨_, rfl, ?_⟩
   have hb35 := below_then hHeld hHeld.size hb5
   refine hK.out _ _ hb35 (fun hHeld5 => ?_)
   clear hK K
   refine norm_ (a' := ?_) ?_ ?_
   rotate_left
   ·
    show Act.put _ (some 19) _ = _
    simp only [Act.put, List.setIfInBounds_toArray, List.set_cons_zero, List.set_cons_succ, i64_w, i32_w]
    rfl
   have HLE := A_ (Cap.lent_of (Kd.S_R hS5))
   have HCA := A_ (Kd.R_reads' (Kd.S_R hS5)).2.1
   refine one_ (i := 4) (N := some 21) (Fn.bl 9 31) rfl rfl (by kernel_rfl) (by decide) (fun K hK => ?_)
   refine goes_ Try.func105 (by kernel_rfl) rfl #[.agg #[.int .i64 a0_0, .int .i64 a0_1, .slice A0_2 l0_2.length c0_2], .slice Aa all.length ca, .slice none 0 0, .int .i64 0, .int .i64 a1, .int .i64 0] (by rfl) rfl rfl (by (try simp only [List.map_toArray, List.map_cons, List.map_nil]); first | done | rfl) ?_
   refine (spec_biFirst.calls w5 (fun j => w4.heap.size ≤ j ∧ j < w5.heap.size) w4.heap.size a0_0 a0_1 A0_2 l0_2 c0_2 Aa ca all 0 HLE.out.1 HLE.out.2 (fun j hj => hj.2) HCA.out k w5 (.slice none 0 0) [] 0 a1 q1 q2 (Below.refl _ _) (Kd.R_nil _ _ _ _ _) A6.out).mono ?_
   rintro e w6 ⟨v21, rfl, hR6, hb6⟩
   refine ⟨_, rfl, ?_⟩
   have hs45 := hb5.size
   have hS6 := Cap.lent_S (Kd.R_lower hR6 hs45) (fun j hj => hb6.block j hj.2) (fun j e hj => by have := Kd.R_base hR6 j e.symm; omega) (Nat.le_refl _) C7.out.1 C7.out.2
   have hs34 := hHeld.size
   have hs03 := HB3.out.size
   have HS6 := A_ (Kd.S_lower hS6 (Nat.le_trans hs03 hs34))
   have hb36 := below_then hb35 hb35.size hb6
   have HB6 := A_ (below_then HB3.out HB3.out.size hb36)
   clear hS6 hR6 hs45 hs34 hs03
   refine hK.out _ _ hb36 (fun hHeld6 => ?_)
   clear hK K
   refine norm_ (a' := ?_) ?_ ?_
   rotate_left
   ·
    show Act.put _ (some 21) _ = _
    simp only [Act.put, List.setIfInBounds_toArray, List.set_cons_zero, List.set_cons_succ, i64_w, i32_w]
    rfl
   refine take_ (i := 5) (N := some 22) (v := ?_) (a' := ?_) (Fn.bl 9 63) rfl rfl (by kernel_rfl) (fun _ _ _ h => h) (Or.inl ⟨by rfl, ?_⟩) hHeld6 ?_ ?_
   rotate_left
   ·
    intro w' s0
    go_simp
    with_reducible rfl
   rotate_left
   ·
    simp only [Act.put, List.setIfInBounds_toArray, List.set_cons_zero, List.set_cons_succ, i64_w, i32_w]
    rfl
   refine take_ (i := 6) (N := some 23) (v := ?_) (a' := ?_) (Fn.bl 9 127) rfl rfl (by kernel_rfl) (fun _ _ _ h => h) (Or.inl ⟨by rfl, ?_⟩) hHeld6 ?_ ?_
   rotate_left
   ·
    intro w' s0
    go_simp
    with_reducible rfl
   rotate_left
   ·
    simp only [Act.put, List.setIfInBounds_toArray, List.set_cons_zero, List.set_cons_succ, i64_w, i32_w]
    rfl
   refine take_ (i := 7) (N := some 4) (v := ?_) (a' := ?_) (Fn.bl 9 255) rfl rfl (by kernel_rfl) (fun _ _ _ h => h) (Or.inl ⟨by rfl, ?_⟩) hHeld6 ?_ ?_
   rotate_left
   ·
    intro w' s0
    go_simp
    with_reducible rfl
   rotate_left
   ·
    simp only [Act.put, List.setIfInBounds_toArray, List.set_cons_zero, List.set_cons_succ, i64_w, i32_w]
    rfl
   refine take_ (i := 8) (N := some 5) (v := ?_) (a' := ?_) (Fn.bl 9 511) rfl rfl (by kernel_rfl) (fun _ _ _ h => h) (Or.inl ⟨by rfl, ?_⟩) hHeld6 ?_ ?_
   rotate_left
   ·
    intro w' s0
    go_simp
    with_reducible rfl
   rotate_left
   ·
    simp only [Act.put, List.setIfInBounds_toArray, List.set_cons_zero, List.set_cons_succ, i64_w, i32_w]
    rfl
   refine done_ (by kernel_rfl) ?_
   clear hHeld hHeld5 hHeld6 hb35 hb36 hb5 hb6 hS5
   try go_wp2
   go_ret2
   exact ⟨_, rfl, HS6.out, HB6.out⟩

/-! ### impl_FirstBishops: function 39 -/
def impl_FirstBishops.are : FnT38 := fun l0 l1 => impl_asBishops.f l0 l1
theorem impl_FirstBishops.areok (w : World) : FnOk38 w (.func (.func 110) #[] #[]) impl_FirstBishops.are := fun A0 c0 l0 A1 c1 l1 r W hr0 hc0 hr1 hc1 h _ => ⟨110, #[], _, rfl, Try.func110, by kernel_rfl, rfl, (impl_asBishops.calls A0 c0 l0 A1 c1 l1 r W hr0 hc0 hr1 hc1 h).mono fun e w' hh => ⟨hh.1, by have := hh.2; first | exact this | exact this.below⟩⟩
def impl_FirstBishops.f (k : Nat) (a0_0 a0_1 : Int) (l0_2 : List Int) (a1 : Int) : Option (List (List Int) × Bool) := (impl_IsBoard.f a0_0 a0_1 l0_2).bind fun t => (if t = true then ((impl_isPieces.f a1).bind fun u => (if u = true then ((impl_Board_bishops.f k a0_0 a0_1 l0_2).bind fun v => (if a1 ≥ (v.length : Int) then some ([], false) else impl_Board_firstOf.f k a0_0 a0_1 l0_2 a1 impl_FirstBishops.are)) else some ([], false))) else some ([], false))
theorem impl_FirstBishops.mono : ∀ a0 a1 a2 a3 k, LeO (impl_FirstBishops.f k a0 a1 a2 a3) (impl_FirstBishops.f (k + 1) a0 a1 a2 a3) := by
 intro a0 a1 a2 a3 k
 unfold impl_FirstBishops.f
 refine LeO.bind (LeO.refl _) (fun _ => ?_)
 refine LeO.ite ?_ (LeO.refl _)
 refine LeO.bind (LeO.refl _) (fun _ => ?_)
 refine LeO.ite ?_ (LeO.refl _)
 refine LeO.bind (impl_Board_bishops.mono _ _ _ _) (fun _ => ?_)
 exact LeO.ite (LeO.refl _) (impl_Board_firstOf.mono _ _ _ _ _ _)
theorem impl_FirstBishops.calls (k : Nat) (a0_0 a0_1 : Int) (A0_2 : Option Addr) (c0_2 : Nat) (l0_2 : List Int) (a1 : Int) (r1 : List (List Int)) (r2 : Bool) (w : World) (hr0_2 : Kd.C (Kd.int .i64) w A0_2 l0_2.length l0_2) (hc0_2 : l0_2.length ≤ c0_2) (h : impl_FirstBishops.f k a0_0 a0_1 l0_2 a1 = some (r1, r2)) :
  Calls Try.prog 39 #[.agg #[.int .i64 a0_0, .int .i64 a0_1, .slice A0_2 l0_2.length c0_2], .int .i64 a1] w fun e w' => ∃ v0_ : Value, e = .returned (.tuple #[v0_, .bool r2]) ∧ Kd.S (Kd.slice 3 (Kd.int .i64)) 22 w' w.heap.size (fun _ => True) v0_ r1 ∧ Below w.heap.size w w' := by
 have HR := A_ hr0_2
 have HC := A_ hc0_2
 clear hr0_2 hc0_2
 unfold impl_FirstBishops.f at h
 have hu26 := Try.underlying26
 have HQ : Aside0 (∀ w1, Below w.heap.size w w1 → Kd.C (Kd.int .i64) w1 A0_2 l0_2.length l0_2) := ⟨fun w1 hb => Kd.C_below HR.out hb⟩
 obtain ⟨t, A2, H⟩ := Option.bind_eq_some_iff.mp h
 have A2' := A_ A2
 clear A2 h
 have hb2 := A_ (below_alloc (Below.refl w.heap.size w) (.cells #[.int .i64 a0_0, .int .i64 a0_1, .slice A0_2 l0_2.length c0_2] 26))
 have FB := A_ (blk_new w (.cells #[.int .i64 a0_0, .int .i64 a0_1, .slice A0_2 l0_2.length c0_2] 26))
 cases t with
 | false =>
  simp only [Bool.false_eq_true, if_false, Option.some.injEq, Prod.mk.injEq] at H
  obtain ⟨rfl, rfl⟩ := H
  go_enter Try.func39, Try.ntmps39
  go_wp2_with (first | (go_at_call 93; (with_reducible refine (impl_IsBoard.calls a0_0 a0_1 A0_2 c0_2 l0_2 false _ (HQ.out _ hb2.out) HC.out A2'.out).mono ?_); rintro e w1 ⟨rfl, hb⟩; have HB1 := A_ (below_then hb2.out hb2.out.size hb); clear hb))
  go_ret2
  exact ⟨_, rfl, Kd.S_nil _ _ _ _ _, HB1.out⟩
 | true =>
  simp only [if_true] at H
  obtain ⟨u, A3, H⟩ := Option.bind_eq_some_iff.mp H
  have A3' := A_ A3
  clear A3
  cases u with
  | false =>
   simp only [Bool.false_eq_true, if_false, Option.some.injEq, Prod.mk.injEq] at H
   obtain ⟨rfl, rfl⟩ := H
   go_enter Try.func39, Try.ntmps39
   go_wp2_with (first | (go_at_call 93; (with_reducible refine (impl_IsBoard.calls a0_0 a0_1 A0_2 c0_2 l0_2 true _ (HQ.out _ hb2.out) HC.out A2'.out).mono ?_); rintro e w1 ⟨rfl, hb⟩; have HB1 := A_ (below_then hb2.out hb2.out.size hb); clear hb) | (go_at_call 100; (with_reducible refine (impl_isPieces.calls a1 false _ A3'.out).mono ?_); rintro e w2 ⟨rfl, hb⟩; have HB2 := A_ (below_then HB1.out HB1.out.size hb.below); clear hb))
   go_ret2
   exact ⟨_, rfl, Kd.S_nil _ _ _ _ _, HB2.out⟩
  | true =>
   simp only [if_true] at H
   obtain ⟨v, A4, H⟩ := Option.bind_eq_some_iff.mp H
   have A4' := A_ A4
   clear A4
   by_cases c1 : a1 ≥ (v.length : Int)
   ·
    rw [if_pos c1] at H
    have c1b := decide_eq_true c1
    clear c1
    simp only [Option.some.injEq, Prod.mk.injEq] at H
    obtain ⟨rfl, rfl⟩ := H
    go_enter Try.func39, Try.ntmps39
    go_wp2_with (first | (go_at_call 93; (with_reducible refine (impl_IsBoard.calls a0_0 a0_1 A0_2 c0_2 l0_2 true _ (HQ.out _ hb2.out) HC.out A2'.out).mono ?_); rintro e w1 ⟨rfl, hb⟩; have HB1 := A_ (below_then hb2.out hb2.out.size hb); have hB1 := A_ (blk_below FB.out hb); clear hb) | (go_at_call 100; (with_reducible refine (impl_isPieces.calls a1 true _ A3'.out).mono ?_); rintro e w2 ⟨rfl, hb⟩; have HB2 := A_ (below_then HB1.out HB1.out.size hb.below); have hB2 := A_ (blk_below hB1.out hb.below); clear hb; have hb30 := blk_cell hB2.out 0; have hb31 := blk_cell hB2.out 1; have hb32 := blk_cell hB2.out 2) | (go_at_call 97; (with_reducible refine (impl_Board_bishops.calls k a0_0 a0_1 A0_2 c0_2 l0_2 v _ (HQ.out _ HB2.out) HC.out A4'.out).mono ?_); rintro e w3 ⟨vb, rfl, hR, hb⟩; obtain ⟨Ab, cb, eb⟩ := Kd.R_slice hR; subst eb; have HB3 := A_ (below_then HB2.out HB2.out.size hb); clear hR hb))
    go_ret2
    exact ⟨_, rfl, Kd.S_nil _ _ _ _ _, HB3.out⟩
   ·
    rw [if_neg c1] at H
    have c1b := decide_eq_false c1
    clear c1
    replace H := A_ H
    go_enter Try.func39, Try.ntmps39
    go_wp2_with (first | (go_at_call 93; (with_reducible refine (impl_IsBoard.calls a0_0 a0_1 A0_2 c0_2 l0_2 true _ (HQ.out _ hb2.out) HC.out A2'.out).mono ?_); rintro e w1 ⟨rfl, hb⟩; have HB1 := A_ (below_then hb2.out hb2.out.size hb); have hB1 := A_ (blk_below FB.out hb); clear hb) | (go_at_call 100; (with_reducible refine (impl_isPieces.calls a1 true _ A3'.out).mono ?_); rintro e w2 ⟨rfl, hb⟩; have HB2 := A_ (below_then HB1.out HB1.out.size hb.below); have hB2 := A_ (blk_below hB1.out hb.below); clear hb; have hb30 := blk_cell hB2.out 0; have hb31 := blk_cell hB2.out 1; have hb32 := blk_cell hB2.out 2) | (go_at_call 97; (with_reducible refine (impl_Board_bishops.calls k a0_0 a0_1 A0_2 c0_2 l0_2 v _ (HQ.out _ HB2.out) HC.out A4'.out).mono ?_); rintro e w3 ⟨vb, rfl, hR, hb⟩; obtain ⟨Ab, cb, eb⟩ := Kd.R_slice hR; subst eb; have HB3 := A_ (below_then HB2.out HB2.out.size hb); have hB3 := A_ (blk_below hB2.out hb); clear hR hb; have hb40 := blk_cell hB3.out 0; have hb41 := blk_cell hB3.out 1; have hb42 := blk_cell hB3.out 2) | (go_at_call 108; refine (impl_Board_firstOf.calls (.func 110) #[] #[] impl_FirstBishops.are k a0_0 a0_1 A0_2 l0_2 c0_2 a1 r1 r2 _ (impl_FirstBishops.areok _) (HQ.out _ HB3.out) HC.out H.out).mono ?_; rintro e w5 ⟨vr, rfl, hS, hb⟩; have HS5 := A_ (Kd.S_lower hS HB3.out.size); have HB5 := A_ (below_then HB3.out HB3.out.size hb); clear hS hb))
    go_ret2
    exact ⟨_, rfl, HS5.out, HB5.out⟩

end
end Go.Proofs.Ythlcaikplebpmaa.P
