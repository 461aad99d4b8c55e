-- printed by wip/hprint.py of this session (the kit's print.py, patched in memory)
import Derived.Test.YtnpacpdpgngdpaaPx0
namespace Go.Proofs.Ytnpacpdpgngdpaa.P
noncomputable section
set_option maxHeartbeats 8000000
set_option maxRecDepth 100000
open Go.RowKit Go.Proofs.YtnpacpdpgngdpaaW.PrintWords Go.Proofs.YtnpacpdpgngdpaaW.PrintLast Go.Proofs.YtnpacpdpgngdpaaW.PrintMore
attribute [local go_sem] max2_int min2_int max_two min_two max_three min_three max_four min_four   -- for this text's walks alone
set_option linter.unusedVariables false
set_option linter.unusedSimpArgs false

/-! ### impl_rooks: function 223 -/
def impl_rooks.l0 : Nat → Int → List Int → Int → Int → Option (Int)
 | 0, _, _, _, _ => none
 | k + 1, x3, x6, x7, x8 => if x8 < x7 then (if 0 ≤ x8 then (if x8 < (x6.length : Int) then (if (rd x6 x8) = (-1) then (impl_rooks.l0 k x3 x6 x7 (wrap64 (x8 + 1))) else (impl_rooks.l0 k (wrap64 (x3 + 1)) x6 x7 (wrap64 (x8 + 1)))) else (none)) else (none)) else (some x3)
def impl_rooks.f (k : Nat) (l0 : List Int) : Option (Int) := impl_rooks.l0 k 0 l0 (l0.length : Int) 0
theorem impl_rooks.mono_l : ∀ k, (∀ y0 y1 y2 y3, LeO (impl_rooks.l0 k y0 y1 y2 y3) (impl_rooks.l0 (k + 1) y0 y1 y2 y3))
 | 0 => fun _ _ _ _ r h => by simp [impl_rooks.l0] at h
 | k + 1 => by
  have ih0 := impl_rooks.mono_l k
  ·
   intro y0 y1 y2 y3
   unfold impl_rooks.l0
   repeat' first | (with_reducible first | exact ih0 _ _ _ _ | exact LeO.refl _ | exact LeO.none _ | refine LeO.ite ?_ ?_ | refine LeO.bind ?_ (fun _ => ?_)) | exact ih0 _ _ _ _ | exact LeO.none _ | refine LeO.ite ?_ ?_ | refine LeO.bind ?_ (fun _ => ?_)
theorem impl_rooks.mono : ∀ a0 k, LeO (impl_rooks.f k a0) (impl_rooks.f (k + 1) a0) := by
 intro a0 k
 have ih0 := impl_rooks.mono_l k
 unfold impl_rooks.f
 repeat' first | (with_reducible first | exact ih0 _ _ _ _ | exact LeO.refl _ | exact LeO.none _ | refine LeO.ite ?_ ?_ | refine LeO.bind ?_ (fun _ => ?_)) | exact ih0 _ _ _ _ | exact LeO.none _ | refine LeO.ite ?_ ?_ | refine LeO.bind ?_ (fun _ => ?_)
theorem impl_rooks.calls (k : Nat) (A0 : Option Addr) (c0 : Nat) (l0 : List Int) (r : Int) (w : World) (hr0 : Kd.C (Kd.int .i64) w A0 l0.length l0) (hc0 : l0.length ≤ c0) (h : impl_rooks.f k l0 = some r) :
  Calls Try.prog 223 #[.slice A0 l0.length c0] w fun e w' => e = .returned (.int .i64 r) ∧ Drawn0 w w' := by
 have HR0 := A_ hr0
 have HC0 := A_ hc0
 clear hr0 hc0
 have H : (impl_rooks.l0 k 0 l0 (l0.length : Int) 0) = some r := h
 clear h
 have H' := A_ H
 clear H
 go_enter Try.func223, Try.ntmps223
 go_wp2
 go_loopg [3, 8] k (fun kq v3 v8 w' => ∃ (x3_1 : Int) (x8_1 : Int), v3 = .int .i64 x3_1 ∧ v8 = .int .i64 x8_1 ∧ Aside0 (impl_rooks.l0 kq x3_1 l0 (l0.length : Int) x8_1 = some r) ∧ Aside0 (kq ≤ k) ∧ Drawn0 w w')
 case atStart => exact ⟨(0), (0), tf_, tf_, H', ⟨Nat.le_refl _⟩, dr_⟩
 case round =>
  clear H'
  obtain ⟨x3_1, x8_1, rfl, rfl, HA, HK1, ⟨m1, rfl⟩⟩ := hrel
  cases gk with
  | zero => exact absurd HA.out (by simp [impl_rooks.l0])
  | succ k1 =>
   have H := HA.out
   clear HA
   simp only [impl_rooks.l0] at H
   by_cases c2 : x8_1 < (l0.length : Int)
   ·
    rw [if_pos c2] at H
    have c2b0 := decide_eq_true c2
    clear c2
    by_cases c3 : 0 ≤ x8_1
    ·
     rw [if_pos c3] at H
     have c3b0 := decide_eq_true c3
     clear c3
     by_cases c4 : x8_1 < (l0.length : Int)
     ·
      rw [if_pos c4] at H
      have c4b0 := decide_eq_true c4
      clear c4
      by_cases c5 : (rd l0 x8_1) = (-1)
      ·
       rw [if_pos c5] at H
       have c5b0 : ((rd l0 x8_1) == (-1)) = true := beq_iff_eq.mpr c5
       have c5b1 : ((rd l0 x8_1) != (-1)) = false := bne_eq_false_iff_eq.mpr c5
       clear c5
       have H' := A_ H
       clear H
       have p226 : 0 ≤ (x8_1 : Int) := od_
       have q226 : x8_1 < (l0.length : Int) := od_
       obtain ⟨ad226, e226, hx226_0⟩ := Kd.at_int HR0.out x8_1 p226 q226
       cases e226
       replace p226 := eq_true p226
       replace q226 := eq_true q226
       go_wp2
       go_roundg k1
       case measure => have := HK1.out; omega
       case rel => exact ⟨(x3_1), (wrap64 (x8_1 + 1)), tf_, tf_, H', ⟨by have := HK1.out; omega⟩, dr_⟩
      ·
       rw [if_neg c5] at H
       have c5b0 : ((rd l0 x8_1) == (-1)) = false := beq_eq_false_iff_ne.mpr c5
       have c5b1 : ((rd l0 x8_1) != (-1)) = true := bne_iff_ne.mpr c5
       have H' := A_ H
       clear H
       have p226 : 0 ≤ (x8_1 : Int) := od_
       have q226 : x8_1 < (l0.length : Int) := od_
       obtain ⟨ad226, e226, hx226_0⟩ := Kd.at_int HR0.out x8_1 p226 q226
       cases e226
       replace p226 := eq_true p226
       replace q226 := eq_true q226
       go_wp2
       go_roundg k1
       case measure => have := HK1.out; omega
       case rel => exact ⟨(wrap64 (x3_1 + 1)), (wrap64 (x8_1 + 1)), tf_, tf_, H', ⟨by have := HK1.out; omega⟩, dr_⟩
     ·
      rw [if_neg c4] at H
      exact absurd H (by simp)
    ·
     rw [if_neg c3] at H
     exact absurd H (by simp)
   ·
    rw [if_neg c2] at H
    have c2b0 := decide_eq_false c2
    clear c2
    obtain rfl := Option.some.inj H
    go_wp2
    go_ret
    exact ⟨tf_, dr_⟩

/-! ### impl_Board_numbers_1: function 222 -/
def impl_Board_numbers_1.f (k : Nat) (p out : List Int) : Option (List Int) := (impl_rooks.f k p).bind fun i => if 0 ≤ i then (if i < (out.length : Int) then some (out.set i.toNat (wrap64 (rd out i + 1))) else none) else none
theorem impl_Board_numbers_1.calls (k : Nat) (w W : World) (go ro : Nat) (out r p : List Int) (Ap : Option Addr) (cp : Nat) (hS : Cap.Cnt 22 3 w go ro W out) (hp : Kd.C (Kd.int .i64) W Ap p.length p) (hc : p.length ≤ cp) (h : impl_Board_numbers_1.f k p out = some r) :
  Calls Try.prog 222 #[.slice Ap p.length cp, .pointer (some ⟨go, 0, none⟩)] W fun e W' => e = .returned (.bool true) ∧ Cap.Cnt 22 3 w go ro W' r ∧ W.grownBy W' (some ro) := by
 unfold impl_Board_numbers_1.f at h
 obtain ⟨i, A1, H⟩ := Option.bind_eq_some_iff.mp h
 clear h
 by_cases c1 : 0 ≤ i
 case neg =>
  rw [if_neg c1] at H
  exact absurd H (by simp)
 rw [if_pos c1] at H
 by_cases c2 : i < (out.length : Int)
 case neg =>
  rw [if_neg c2] at H
  exact absurd H (by simp)
 rw [if_pos c2] at H
 obtain rfl := Option.some.inj H
 obtain ⟨n, rfl⟩ : ∃ n : Nat, i = (n : Int) := ⟨i.toNat, by omega⟩
 have hn : n < out.length := by omega
 have hco := hS.cello
 have HS := A_ hS
 have HP := A_ hp
 have HC := A_ hc
 have HA := A_ A1
 have HN := A_ hn
 clear H hS hp hc A1
 go_enter Try.func222, Try.ntmps222
 go_wp2
 refine start_ (n := 8) (S := fun w' => w'.cell? ⟨go, 0, none⟩ = some (.slice (some ⟨ro, 0, none⟩) out.length out.length) ∧ w'.cell? ⟨ro, n, none⟩ = some (.int .i64 out[n])) (ds := [7]) (Fn.bl 8 0) (by kernel_rfl) rfl rfl ⟨(HS.out.below (below_drew (Below.refl _ _))).cello, (HS.out.below (below_drew (Below.refl _ _))).cell n HN.out⟩ (fun hHeld => ?_)
 have HS1 := A_ (HS.out.below (below_drew (Below.refl _ _)))
 have HB1 := A_ (below_drew (Below.refl W.heap.size W))
 have HP1 := A_ (Kd.C_below HP.out HB1.out)
 clear hco
 generalize W.drew = w1 at HS1 HB1 HP1 hHeld ⊢
 refine take_ (i := 0) (N := some 4) (v := ?_) (a' := ?_) (Fn.bl 8 1) rfl rfl (by kernel_rfl) (fun _ _ _ h => h) (Or.inl ⟨by rfl, ?_⟩) hHeld ?_ ?_
 rotate_left
 ·
  rintro w' ⟨s0, s1⟩
  go_simp
  with_reducible rfl
 rotate_left
 ·
  simp only [Act.put, List.setIfInBounds_toArray, List.set_cons_zero, List.set_cons_succ, i64_w, i32_w]
  rfl
 refine take_ (i := 1) (N := some 5) (v := ?_) (a' := ?_) (Fn.bl 8 3) rfl rfl (by kernel_rfl) (fun _ _ _ h => h) (Or.inl ⟨by rfl, ?_⟩) hHeld ?_ ?_
 rotate_left
 ·
  rintro w' ⟨s0, s1⟩
  go_simp
  with_reducible rfl
 rotate_left
 ·
  simp only [Act.put, List.setIfInBounds_toArray, List.set_cons_zero, List.set_cons_succ, i64_w, i32_w]
  rfl
 refine one_ (i := 2) (N := some 6) (Fn.bl 8 7) rfl rfl (by kernel_rfl) (by decide) (fun K hK => ?_)
 refine goes_ Try.func223 (by kernel_rfl) rfl #[.slice Ap p.length cp] (by rfl) rfl rfl (by (try simp only [List.map_toArray, List.map_cons, List.map_nil]); first | done | rfl) ?_
 with_reducible refine (impl_rooks.calls k Ap cp p (n : Int) _ HP1.out HC.out HA.out).mono ?_
 rintro e w2 ⟨rfl, hd⟩
 refine ⟨_, rfl, ?_⟩
 have HB2 := A_ (below_step HB1.out hd.below)
 have HS2 := A_ (HS1.out.below hd.below)
 clear hd
 refine hK.out _ _ ⟨HS2.out.cello, HS2.out.cell n HN.out⟩ (fun hHeld => ?_)
 clear hK K
 refine norm_ (a' := ?_) ?_ ?_
 rotate_left
 ·
  show Act.put _ (some 6) _ = _
  simp only [Act.put, List.setIfInBounds_toArray, List.set_cons_zero, List.set_cons_succ, i64_w, i32_w]
  rfl
 have p0 : (0 ≤ (n : Int)) = True := eq_true (by omega)
 have p1 : ((n : Int) < (out.length : Int)) = True := eq_true (by have := HN.out; omega)
 have p2 : (n < out.length) = True := eq_true HN.out
 refine take_ (i := 3) (N := some 7) (v := .pointer (some ⟨ro, n, none⟩)) (a' := ?_) (Fn.bl 8 15) rfl rfl (by kernel_rfl) (fun _ _ _ h => h) (Or.inl ⟨by rfl, ?_⟩) hHeld ?_ ?_
 ·
  rintro w' ⟨s0, s1⟩
  go_simp
  done
 rotate_left
 ·
  simp only [Act.put, List.setIfInBounds_toArray, List.set_cons_zero, List.set_cons_succ, i64_w, i32_w]
  rfl
 refine take_ (i := 4) (N := some 8) (v := .int .i64 out[n]) (a' := ?_) (Fn.bl 8 31) rfl rfl (by kernel_rfl) (fun _ _ _ h => h) (Or.inl ⟨by rfl, ?_⟩) hHeld ?_ ?_
 ·
  rintro w' ⟨s0, s1⟩
  go_simp
  done
 rotate_left
 ·
  simp only [Act.put, List.setIfInBounds_toArray, List.set_cons_zero, List.set_cons_succ, i64_w, i32_w]
  rfl
 refine take_ (i := 5) (N := some 9) (v := ?_) (a' := ?_) (Fn.bl 8 63) rfl rfl (by kernel_rfl) (fun _ _ _ h => h) (Or.inl ⟨by rfl, ?_⟩) hHeld ?_ ?_
 rotate_left
 ·
  rintro w' ⟨s0, s1⟩
  go_simp
  with_reducible rfl
 rotate_left
 ·
  simp only [Act.put, List.setIfInBounds_toArray, List.set_cons_zero, List.set_cons_succ, i64_w, i32_w]
  rfl
 refine take_ (i := 6) (N := some 10) (v := .pointer (some ⟨ro, n, none⟩)) (a' := ?_) (Fn.bl 8 127) rfl rfl (by kernel_rfl) (fun _ _ _ h => h) (Or.inl ⟨by rfl, ?_⟩) hHeld ?_ ?_
 ·
  rintro w' ⟨s0, s1⟩
  go_simp
  done
 rotate_left
 ·
  simp only [Act.put, List.setIfInBounds_toArray, List.set_cons_zero, List.set_cons_succ, i64_w, i32_w]
  rfl
 have hcn := HS2.out.cell n HN.out
 have hfn := HS2.out.free n
 refine last_ (i := 7) (N := none) (Fn.bl 8 255) rfl rfl (by kernel_rfl) (by decide) (fun K hK => ?_)
 refine skip_ (w1 := w2.setCell ⟨ro, n, none⟩ (.int .i64 (wrap64 (out[n] + 1)))) (by rfl) rfl ?_ ?_
 ·
  go_simp
  done
 refine hK.out _ _ ?_
 clear hK K
 have HS3 := A_ (HS2.out.put n (wrap64 (out[n] + 1)))
 have HG3 := A_ (Cap.grown_put (grown_of_below HB2.out (some ro)) (p := ⟨ro, n, none⟩) rfl (.int .i64 (wrap64 (out[n] + 1))))
 clear hcn hfn
 generalize w2.setCell ⟨ro, n, none⟩ (.int .i64 (wrap64 (out[n] + 1))) = w3 at HS3 HG3 ⊢
 refine done_ (by kernel_rfl) ?_
 go_wp2
 go_ret
 refine ⟨rfl, ?_, HG3.out⟩
 have e : rd out (n : Int) = out[n] := by unfold rd; simp [HN.out]
 rw [e, Int.toNat_natCast]
 exact HS3.out

end
end Go.Proofs.Ytnpacpdpgngdpaa.P
