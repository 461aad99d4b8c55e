-- printed by wip/hprint.py of this session (the kit's print.py, patched in memory)
import Derived.Test.YthjejaoadhhpdaaPx0
import Derived.Test.YthjejaoadhhpdaaPx4
import Derived.Test.YthjejaoadhhpdaaPx5
import Derived.Test.YthjejaoadhhpdaaPx19
namespace Go.Proofs.Ythjejaoadhhpdaa.P
noncomputable section
open Go.RowKit Go.Proofs.YthjejaoadhhpdaaW.PrintWords Go.Proofs.YthjejaoadhhpdaaW.PrintLast Go.Proofs.YthjejaoadhhpdaaW.PrintMore
attribute [local go_sem] max2_int min2_int max_two min_two max_three min_three max_four min_four   -- for this text's walks alone
set_option linter.unusedVariables false
set_option linter.unusedSimpArgs false

/-! ### impl_grown_1: function 103 -/
mutual
def impl_grown_1.f : Nat → FnT27 → Int → List Int → List (List Int) → Option (List (List Int))
  | 0, _, _, _, _ => none
  | k + 1, good, n, q, out => (good q).bind fun b => if b = true then (if (q.length : Int) = n then ((slices_Clone_int_int.f q).bind fun c => if out.length < 5864062014805 then some (out ++ [c]) else none) else impl_grown_1.l0 k good n q out 0) else some out
def impl_grown_1.l0 : Nat → FnT27 → Int → List Int → List (List Int) → Int → Option (List (List Int))
  | 0, _, _, _, _, _ => none
  | k + 1, good, n, q, out, i => if i < n then ((slices_Contains_int_int.f k q i).bind fun b => if b = true then impl_grown_1.l0 k good n q out (wrap64 (i + 1)) else (if q.length < 17592186044415 then ((impl_grown_1.f k good n (q ++ [i]) out).bind fun out2 => impl_grown_1.l0 k good n q out2 (wrap64 (i + 1))) else none)) else some out
end
theorem impl_grown_1.mono_l : ∀ k, (∀ g n q o, LeO (impl_grown_1.f k g n q o) (impl_grown_1.f (k + 1) g n q o)) ∧ (∀ g n q o i, LeO (impl_grown_1.l0 k g n q o i) (impl_grown_1.l0 (k + 1) g n q o i))
  | 0 => ⟨fun _ _ _ _ r h => by simp [impl_grown_1.f] at h, fun _ _ _ _ _ r h => by simp [impl_grown_1.l0] at h⟩
  | k + 1 => by
    obtain ⟨i0, i1⟩ := impl_grown_1.mono_l k
    refine ⟨?_, ?_⟩
    · intro g n q o
      unfold impl_grown_1.f
      refine LeO.bind (LeO.refl _) (fun b => ?_)
      refine LeO.ite ?_ (LeO.refl _)
      exact LeO.ite (LeO.refl _) (i1 _ _ _ _ _)
    · intro g n q o i
      unfold impl_grown_1.l0
      refine LeO.ite ?_ (LeO.refl _)
      refine LeO.bind (slices_Contains_int_int.mono _ _ _) (fun b => ?_)
      refine LeO.ite (i1 _ _ _ _ _) ?_
      refine LeO.ite ?_ (LeO.refl _)
      exact LeO.bind (i0 _ _ _ _) (fun _ => i1 _ _ _ _ _)
theorem impl_grown_1.mono : ∀ g n q o k, LeO (impl_grown_1.f k g n q o) (impl_grown_1.f (k + 1) g n q o) := fun g n q o k => (impl_grown_1.mono_l k).1 _ _ _ _
def impl_grown_1.self (gg gq gn go gx : Nat) : Value := .func (.func 103) #[] #[.pointer (some ⟨gg, 0, none⟩), .pointer (some ⟨gq, 0, none⟩), .pointer (some ⟨gn, 0, none⟩), .pointer (some ⟨go, 0, none⟩), .pointer (some ⟨gx, 0, none⟩)]
abbrev impl_grown_1.St (w : World) (gg gq gn go gx : Nat) (vg : Value) (n : Int) (W : World) (vq vo : Value) (q : List Int) (out : List (List Int)) : Prop :=
  Cap.QO 3 22 22 28 w [(gg, 27, vg), (gn, 3, .int .i64 n), (gx, 1, impl_grown_1.self gg gq gn go gx)] gq go W vq vo q out
theorem impl_grown_1.enters (gg gq gn go gx : Nat) {w : World} {Q : Ending → World → Prop} (h : Calls Try.prog 103 #[.pointer (some ⟨gg, 0, none⟩), .pointer (some ⟨gq, 0, none⟩), .pointer (some ⟨gn, 0, none⟩), .pointer (some ⟨go, 0, none⟩), .pointer (some ⟨gx, 0, none⟩)] w Q) :
    Fn.CallsV Try.prog (impl_grown_1.self gg gq gn go gx) #[] w Q := ⟨103, _, _, rfl, Try.func103, by kernel_rfl, rfl, by simpa using h⟩
set_option maxHeartbeats 8000000 in
set_option maxRecDepth 100000 in
theorem impl_grown_1.calls (k : Nat) : ∀ (w : World) (gg gq gn go gx : Nat) (vg : Value) (good : FnT27) (n : Int) (W : World) (vq vo : Value) (q : List Int) (out r : List (List Int)) (hS : impl_grown_1.St w gg gq gn go gx vg n W vq vo q out) (hF : FnOk27 w vg good) (h : impl_grown_1.f k good n q out = some r),
    Calls Try.prog 103 #[.pointer (some ⟨gg, 0, none⟩), .pointer (some ⟨gq, 0, none⟩), .pointer (some ⟨gn, 0, none⟩), .pointer (some ⟨go, 0, none⟩), .pointer (some ⟨gx, 0, none⟩)] W fun e W' => e = .returned (.tuple #[]) ∧ ∃ vq' vo', impl_grown_1.St w gg gq gn go gx vg n W' vq' vo' q r := by
  induction k using Nat.strongRecOn with
  | _ k ih =>
  intro w gg gq gn go gx vg good n W vq vo q out r hS hF h
  cases k with
  | zero => exact absurd h (by simp [impl_grown_1.f])
  | succ k =>
  simp only [impl_grown_1.f] at h
  obtain ⟨b, A1, H⟩ := Option.bind_eq_some_iff.mp h
  clear h
  replace A1 := Aside0.mk A1
  obtain ⟨Aq, cq, rfl⟩ := Kd.R_slice hS.hq
  have hcg := hS.fix.cell (g := gg) (.head _)
  have hcn := hS.fix.cell (g := gn) (.tail _ (.head _))
  have hcq := hS.cellq
  have HS := Aside0.mk hS
  have HF := Aside0.mk hF
  have HR := Aside0.mk (Kd.R_reads' hS.hq)
  clear hS hF
  cases b with
  | false =>
    simp only [Bool.false_eq_true, if_false] at H
    obtain rfl := Option.some.inj H
    clear H
    go_enter Try.func103, Try.ntmps103
    go_wp2_with (first | ((with_reducible refine Fn.gate_value rfl ?_); refine Fn.goesVw_ (some 8) rfl (by first | rfl | (simp [Region.wanted, yielded]; done)) vg rfl #[.slice Aq q.length cq] rfl (by (try simp only [List.map_toArray, List.map_cons, List.map_nil]); first | done | rfl) ?_; (with_reducible refine (FnCall27.calls _ _ q vg good false _ ?q1 ?q2 ?q3 ?q4).mono ?_); (case q1 => exact HR.out.2.2); (case q2 => exact HR.out.2.1); (case q3 => exact (FnOk27.mono HF.out HS.out.bel)); (case q4 => exact A1.out); rintro e w8 ⟨rfl, hb⟩; refine ⟨_, rfl, ?_⟩; have HS8 := Aside0.mk (HS.out.below hb); clear hb))
    (try simp only [Exit.inBlock, Exit.then]); refine bodyPost_ret (results_none rfl _ _ _) rfl ?_
    exact ⟨rfl, _, _, HS8.out⟩
  | true =>
    rw [if_pos rfl] at H
    by_cases c3 : (q.length : Int) = n
    · rw [if_pos c3] at H
      have c3b0 : ((q.length : Int) == n) = true := beq_iff_eq.mpr c3
      have c3b1 : ((q.length : Int) != n) = false := bne_eq_false_iff_eq.mpr c3
      clear c3
      obtain ⟨c, A2, H⟩ := Option.bind_eq_some_iff.mp H
      replace A2 := Aside0.mk A2
      by_cases c4 : out.length < 5864062014805
      · rw [if_pos c4] at H
        have c4' := Aside0.mk c4
        obtain rfl := Option.some.inj H
        clear H c4
        go_enter Try.func103, Try.ntmps103
        go_wp2_with (first | ((with_reducible refine Fn.gate_value rfl ?_); refine Fn.goesVw_ (some 8) rfl (by first | rfl | (simp [Region.wanted, yielded]; done)) vg rfl #[.slice Aq q.length cq] rfl (by (try simp only [List.map_toArray, List.map_cons, List.map_nil]); first | done | rfl) ?_; (with_reducible refine (FnCall27.calls _ _ q vg good true _ ?q1 ?q2 ?q3 ?q4).mono ?_); (case q1 => exact HR.out.2.2); (case q2 => exact HR.out.2.1); (case q3 => exact (FnOk27.mono HF.out HS.out.bel)); (case q4 => exact A1.out); rintro e w8 ⟨rfl, hb⟩; refine ⟨_, rfl, ?_⟩; have HS8 := Aside0.mk (HS.out.below hb); have hcq8 := HS8.out.cellq; have hco8 := HS8.out.cello; have hcn8 := HS8.out.fix.cell (g := gn) (.tail _ (.head _)); clear hb))
        refine start_ (n := 6) (S := fun w' => w'.cell? ⟨go, 0, none⟩ = some vo ∧ w'.cell? ⟨gq, 0, none⟩ = some (.slice Aq q.length cq)) (ds := [5]) #[false, false, false, false, false, false] (by kernel_rfl) rfl rfl ⟨HS8.out.drew.cello, HS8.out.drew.cellq⟩ (fun hHeld => ?_)
        have HS9 := Aside0.mk HS8.out.drew
        clear HS HS8 hcq8 hco8 hcn8 hcg hcn hcq
        generalize w8.drew = w9 at HS9 hHeld ⊢
        refine take_ (i := 0) (N := some 14) (v := ?_) (a' := ?_) #[true, false, false, false, false, false] rfl rfl (by kernel_rfl) (fun _ _ _ h => h) (Or.inl ⟨by rfl, ?_⟩) hHeld ?_ ?_
        rotate_left
        · rintro w' ⟨s0, s1⟩
          go_simp
          with_reducible rfl
        rotate_left
        · simp only [Act.put, List.setIfInBounds_toArray, List.set_cons_zero, List.set_cons_succ, i64_w, i32_w]
          rfl
        refine take_ (i := 1) (N := some 15) (v := ?_) (a' := ?_) #[true, true, false, false, false, false] rfl rfl (by kernel_rfl) (fun _ _ _ h => h) (Or.inl ⟨by rfl, ?_⟩) hHeld ?_ ?_
        rotate_left
        · rintro w' ⟨s0, s1⟩
          go_simp
          with_reducible rfl
        rotate_left
        · simp only [Act.put, List.setIfInBounds_toArray, List.set_cons_zero, List.set_cons_succ, i64_w, i32_w]
          rfl
        have HR9 := Aside0.mk (Kd.R_reads' HS9.out.hq)
        refine one_ (i := 2) (N := some 16) #[true, true, true, false, false, false] rfl rfl (by kernel_rfl) (by decide) (fun K hK => ?_)
        refine goes_ Try.func100 (by kernel_rfl) rfl #[.slice Aq q.length cq] (by rfl) rfl rfl (by (try simp only [List.map_toArray, List.map_cons, List.map_nil]); first | done | rfl) ?_
        with_reducible refine (slices_Clone_int_int.calls Aq cq q c _ HR9.out.2.2 HR9.out.2.1 A2.out).mono ?_
        rintro e w10 ⟨vc, rfl, hoc, hb⟩
        refine ⟨_, rfl, ?_⟩
        have HS10 := Aside0.mk (HS9.out.below hb)
        have HCm := Aside0.mk (HS9.out.rowM hoc)
        have HCok := Aside0.mk (HS9.out.rowok hoc)
        have HCS := Aside0.mk (HS9.out.rowS hb hoc)
        obtain ⟨Ac, cc, ec⟩ := Kd.R_slice hoc
        subst ec
        clear hoc hb
        refine hK.out _ _ ⟨HS10.out.cello, HS10.out.cellq⟩ (fun hHeld => ?_)
        clear hK K
        refine norm_ (a' := ?_) ?_ ?_
        rotate_left
        · show Act.put _ (some 16) _ = _
          simp only [Act.put, List.setIfInBounds_toArray, List.set_cons_zero, List.set_cons_succ, i64_w, i32_w]
          rfl
        refine one_ (i := 3) (N := some 17) #[true, true, true, true, false, false] rfl rfl (by kernel_rfl) (by decide) (fun K hK => ?_)
        refine value_ (v := .slice (some ⟨w10.heap.size, 0, none⟩) 1 1) (w1 := w10.alloc (.cells #[.slice Ac c.length cc] 22)) (by rfl) rfl ?_ ?_
        · go_simp
        refine hK.out _ _ ⟨(HS10.out.below (below_alloc (Below.refl _ _) _)).cello, (HS10.out.below (below_alloc (Below.refl _ _) _)).cellq⟩ (fun hHeld => ?_)
        clear hK K
        refine norm_ (a' := ?_) ?_ ?_
        rotate_left
        · show Act.put _ (some 17) _ = _
          simp only [Act.put, List.setIfInBounds_toArray, List.set_cons_zero, List.set_cons_succ, i64_w, i32_w]
          rfl
        refine one_ (i := 4) (N := some 18) #[true, true, true, true, true, false] rfl rfl (by kernel_rfl) (by decide) (fun K hK => ?_)
        refine Kd.S_append_step (Kd.slice 3 (Kd.int .i64)) (w0 := w) w.heap.size (by rfl) (.tmp 14) (.tmp 17) 28 22 (.slice none 0 0) 24 rfl Try.underlying28 info22 rfl (by decide) (by omega) vo out c [.slice Ac c.length cc] _ _ rfl rfl HCm.out HCok.out (fun k hk => HS10.out.fresh hk) HCS.out HS10.out.bel HS10.out.bel.size (by have := c4'.out; omega) ?_
        intro v1 w12 ho hb hg hat
        obtain ⟨A1, c1, e1⟩ := Kd.S_slice ho
        rw [List.length_append, List.length_singleton] at e1
        subst e1
        have HS12 := Aside0.mk (HS10.out.seto hb hg ho)
        have hcg12 := HS12.out.2.1
        have hfg12 := HS12.out.2.2
        have hcq12 : w12.cell? ⟨gq, 0, none⟩ = some (.slice Aq q.length cq) := cell_of_one (blk_grown HS10.out.cq hg (fun e => (HS10.out.no e.symm).2.1 rfl))
        clear ho hb hg hat
        refine hK.out _ _ ⟨hcg12, hcq12⟩ (fun hHeld => ?_)
        clear hK K
        refine norm_ (a' := ?_) ?_ ?_
        rotate_left
        · show Act.put _ (some 18) _ = _
          simp only [Act.put, List.setIfInBounds_toArray, List.set_cons_zero, List.set_cons_succ, i64_w, i32_w]
          rfl
        refine last_ (i := 5) (N := none) #[true, true, true, true, true, true] rfl rfl (by kernel_rfl) (by decide) (fun K hK => ?_)
        refine skip_ (w1 := ?_) (by rfl) rfl ?_ ?_
        rotate_left
        · go_simp
          rfl
        refine hK.out _ _ ?_
        clear hK K
        refine done_ (by kernel_rfl) ?_
        try go_wp2
        (try simp only [Exit.inBlock, Exit.then]); refine bodyPost_ret (results_none rfl _ _ _) rfl ?_
        exact ⟨rfl, _, _, HS12.out.1⟩
      · rw [if_neg c4] at H
        exact absurd H (by simp)
    · rw [if_neg c3] at H
      have c3b0 : ((q.length : Int) == n) = false := beq_eq_false_iff_ne.mpr c3
      have c3b1 : ((q.length : Int) != n) = true := bne_iff_ne.mpr c3
      clear c3
      replace H := Aside0.mk H
      go_enter Try.func103, Try.ntmps103
      go_wp2_with (first | ((with_reducible refine Fn.gate_value rfl ?_); refine Fn.goesVw_ (some 8) rfl (by first | rfl | (simp [Region.wanted, yielded]; done)) vg rfl #[.slice Aq q.length cq] rfl (by (try simp only [List.map_toArray, List.map_cons, List.map_nil]); first | done | rfl) ?_; (with_reducible refine (FnCall27.calls _ _ q vg good true _ ?q1 ?q2 ?q3 ?q4).mono ?_); (case q1 => exact HR.out.2.2); (case q2 => exact HR.out.2.1); (case q3 => exact (FnOk27.mono HF.out HS.out.bel)); (case q4 => exact A1.out); rintro e w8 ⟨rfl, hb⟩; refine ⟨_, rfl, ?_⟩; have HS8 := Aside0.mk (HS.out.below hb); have hcq8 := HS8.out.cellq; have hco8 := HS8.out.cello; have hcn8 := HS8.out.fix.cell (g := gn) (.tail _ (.head _)); clear hb))
      go_loopg [20] k (fun kq v20 W' => ∃ (i : Int) (o1 : List (List Int)) (vq2 vo2 : Value), v20 = .int .i64 i ∧ Aside0 (impl_grown_1.l0 kq good n q o1 i = some r) ∧ Aside0 (kq ≤ k) ∧ Aside0 (impl_grown_1.St w gg gq gn go gx vg n W' vq2 vo2 q o1))
      case atStart => exact ⟨0, out, _, _, rfl, H, ⟨Nat.le_refl _⟩, HS8⟩
      case round =>
        clear H HS HS8 hcq8 hco8 hcn8 hcg hcn hcq HR A1
        obtain ⟨i, o1, vq2, vo2, rfl, HA, HK1, HS⟩ := hrel
        obtain ⟨Aq2, cq2, e2⟩ := Kd.R_slice HS.out.hq
        subst e2
        have hcq := HS.out.cellq
        have HR := Aside0.mk (Kd.R_reads' HS.out.hq)
        cases gk with
        | zero => exact absurd HA.out (by simp [impl_grown_1.l0])
        | succ k1 =>
          have H := HA.out
          clear HA
          simp only [impl_grown_1.l0] at H
          by_cases c4 : i < n
          · rw [if_pos c4] at H
            have c4b := decide_eq_true c4
            clear c4
            obtain ⟨b, A2, H⟩ := Option.bind_eq_some_iff.mp H
            replace A2 := Aside0.mk A2
            cases b with
            | true =>
              rw [if_pos rfl] at H
              replace H := Aside0.mk H
              go_wp2_with (first | ((with_reducible refine gate_callee (f := 85) rfl ?_); refine goesL_ (some 25) rfl rfl Try.func85 (by kernel_rfl) rfl #[.slice Aq2 q.length cq2, .int .i64 i] rfl (by (try simp only [List.map_toArray, List.map_cons, List.map_nil]); first | done | rfl) ?_; (with_reducible refine (slices_Contains_int_int.calls k1 Aq2 cq2 q i true _ HR.out.2.2 HR.out.2.1 A2.out).mono ?_); rintro e w5 ⟨rfl, hd⟩; refine ⟨_, rfl, ?_⟩; have HS5 := Aside0.mk (HS.out.below hd.below); have hcq5 := HS5.out.cellq; clear hd))
              go_roundg k1
              case measure => have := HK1.out; omega
              case rel => exact ⟨wrap64 (i + 1), o1, _, _, (by first | rfl | (simp; done) | (simp [*]; done)), H, ⟨by have := HK1.out; omega⟩, HS5⟩
            | false =>
              simp only [Bool.false_eq_true, if_false] at H
              by_cases c5 : q.length < 17592186044415
              · rw [if_pos c5] at H
                have c5a := Aside0.mk c5
                clear c5
                obtain ⟨o2, A3, H⟩ := Option.bind_eq_some_iff.mp H
                replace A3 := Aside0.mk A3
                replace H := Aside0.mk H
                obtain ⟨i0, hi0, _⟩ := info_parts info3
                replace hi0 := Aside0.mk hi0
                go_wp2_with (first | ((with_reducible refine gate_callee (f := 85) rfl ?_); refine goesL_ (some 25) rfl rfl Try.func85 (by kernel_rfl) rfl #[.slice Aq2 q.length cq2, .int .i64 i] rfl (by (try simp only [List.map_toArray, List.map_cons, List.map_nil]); first | done | rfl) ?_; (with_reducible refine (slices_Contains_int_int.calls k1 Aq2 cq2 q i false _ HR.out.2.2 HR.out.2.1 A2.out).mono ?_); rintro e w5 ⟨rfl, hd⟩; refine ⟨_, rfl, ?_⟩; have HS5 := Aside0.mk (HS.out.below hd.below); have hcq5 := HS5.out.cellq; clear hd) | ((with_reducible refine gate_builtin (b := .append) (xs := #[.tmp 27, .tmp 29]) rfl ?_); at_builtin; refine Kd.R_append (Kd.int .i64) (w0 := w) w.heap.size rfl (.tmp 27) (.tmp 29) 22 3 (.int .i64 0) 8 rfl Try.underlying22 info3 rfl (by decide) (by omega) (.slice Aq2 q.length cq2) q i [.int .i64 i] (fun _ => True) (fun _ => False) rfl rfl ?aP (fun _ hk => hk.elim) (fun _ _ => trivial) ?aO ?aB ?aS ?aL ?_; (case aP => exact rfl); (case aO => exact Kd.R_mono HS5.out.hq (fun _ _ => trivial)); (case aB => exact HS5.out.bel); (case aS => exact HS5.out.bel.size); (case aL => have := c5a.out; omega); intro v1 w7 ho hb hg hat; obtain ⟨A1, c1, e1⟩ := Kd.R_slice ho; rw [List.length_append, List.length_singleton] at e1; subst e1; have HT := Aside0.mk (HS5.out.setq hb hg ho hat); clear ho hb hg hat; have hcq7 := HT.out.2.1; have hfq7 := HT.out.2.2; have HS7 := Aside0.mk HT.out.1; clear HT; have hx7 := HS7.out.fix.cell (g := gx) (.tail _ (.tail _ (.head _)))) | ((with_reducible refine Fn.gate_value rfl ?_); refine Fn.goesVw_ (some 32) rfl (by first | rfl | (simp [Region.wanted, yielded]; done)) (impl_grown_1.self gg gq gn go gx) rfl #[] rfl (by (try simp only [List.map_toArray, List.map_cons, List.map_nil]); first | done | rfl) ?_; refine impl_grown_1.enters gg gq gn go gx ?_; (with_reducible refine (ih k1 (by have := HK1.out; omega) w gg gq gn go gx vg good n _ _ vo2 (q ++ [i]) o1 o2 HS7.out HF.out A3.out).mono ?_); rintro e w8 ⟨rfl, vq8, vo8, hs⟩; refine ⟨_, rfl, ?_⟩; obtain ⟨A8, c8, e8⟩ := Kd.R_slice hs.hq; rw [List.length_append, List.length_singleton] at e8; subst e8; have HS8 := Aside0.mk hs; clear hs hx7 hcq7 hfq7; have hcq8 := HS8.out.cellq; have hfq8 := free_of_one HS8.out.cq; have hcut8 := cut_to (P := Try.prog) 22 3 .i64 Try.underlying22 hi0.out A8 (q.length + 1) c8 (wrap64 (q.length : Int)) (by have := c5a.out; unfold wrap64; omega) (by have := c5a.out; unfold wrap64; omega) (by have := (Kd.R_reads' HS8.out.hq).2.1; simpa using this)))
                have hw : wrap64 (q.length : Int) = (q.length : Int) := by have := c5a.out; unfold wrap64; omega
                have HS9 : Aside0 (impl_grown_1.St w gg gq gn go gx vg n (w8.setCell ⟨gq, 0, none⟩ (.slice A8 (wrap64 (q.length : Int)).toNat c8)) (.slice A8 (wrap64 (q.length : Int)).toNat c8) vo8 q o2) := by
                  rw [hw, Int.toNat_natCast]
                  have hR := Kd.R_take (m := q.length) HS8.out.hq (by simp)
                  rw [List.take_left' rfl] at hR
                  exact ⟨(HS8.out.setq HS8.out.bel (grown_of_below (Below.refl _ _) _) hR (Or.inl (by cases A8 <;> rfl))).1⟩
                clear hw
                go_roundg k1
                case measure => have := HK1.out; omega
                case rel => exact ⟨wrap64 (i + 1), o2, _, _, (by first | rfl | (simp; done) | (simp [*]; done)), H, ⟨by have := HK1.out; omega⟩, HS9⟩
              · rw [if_neg c5] at H
                exact absurd H (by simp)
          · rw [if_neg c4] at H
            have c4b := decide_eq_false c4
            clear c4
            obtain rfl := Option.some.inj H
            clear H
            go_wp2
            go_end0
            exact ⟨rfl, _, _, HS.out⟩

/-! ### impl_grown: function 82 -/
def impl_grown.f (k : Nat) (a0 : Int) (l1 : List Int) (a2 : FnT27) : Option (List (List Int)) := (slices_Clone_int_int.f l1).bind fun q => impl_grown_1.f k a2 a0 q []
theorem impl_grown.mono : ∀ a0 a1 a2 k, LeO (impl_grown.f k a0 a1 a2) (impl_grown.f (k + 1) a0 a1 a2) := fun a0 a1 a2 k => LeO.bind (LeO.refl _) (fun q => impl_grown_1.mono _ _ _ _ _)
theorem impl_grown.init (w w5 : World) (n : Int) (vg : Value) (Aq : Option Addr) (cq : Nat) (q : List Int)
    (hb : Below (((w.alloc (.cells #[.int .i64 n] 3)).alloc (.cells #[vg] 27)).alloc (.cells #[] 22)).heap.size (((w.alloc (.cells #[.int .i64 n] 3)).alloc (.cells #[vg] 27)).alloc (.cells #[] 22)) w5)
    (hq : (Kd.int .i64).R 3 w5 (((w.alloc (.cells #[.int .i64 n] 3)).alloc (.cells #[vg] 27)).alloc (.cells #[] 22)).heap.size (fun _ => True) (.slice Aq q.length cq) q) :
    impl_grown_1.St w (w.heap.size + 1) (w5.heap.size + 1) w.heap.size w5.heap.size (w5.heap.size + 1 + 1) vg n
      (((w5.alloc (.cells #[.slice (some ⟨w.heap.size + 1 + 1, 0, none⟩) 0 0] 28)).alloc (.cells #[.slice Aq q.length cq] 22)).alloc (.cells #[impl_grown_1.self (w.heap.size + 1) (w5.heap.size + 1) w.heap.size w5.heap.size (w5.heap.size + 1 + 1)] 1))
      (.slice Aq q.length cq) (.slice (some ⟨w.heap.size + 1 + 1, 0, none⟩) 0 0) q [] := by
  have hz : (((w.alloc (.cells #[.int .i64 n] 3)).alloc (.cells #[vg] 27)).alloc (.cells #[] 22)).heap.size = w.heap.size + 1 + 1 + 1 := by simp
  have hz5 : w.heap.size + 1 + 1 + 1 ≤ w5.heap.size := by rw [← hz]; exact hb.size
  have b0 : (((w.alloc (.cells #[.int .i64 n] 3)).alloc (.cells #[vg] 27)).alloc (.cells #[] 22)).heap[w.heap.size]? = some (.cells #[.int .i64 n] 3 (0, 0)) := blk_alloc (blk_alloc (blk_new _ _) _) _
  have b1 : (((w.alloc (.cells #[.int .i64 n] 3)).alloc (.cells #[vg] 27)).alloc (.cells #[] 22)).heap[w.heap.size + 1]? = some (.cells #[vg] 27 (0, 0)) := by
    have := blk_alloc (blk_new (w.alloc (.cells #[.int .i64 n] 3)) (.cells #[vg] 27)) (.cells #[] 22)
    simpa using this
  have c0 := blk_below b0 hb
  have c1 := blk_below b1 hb
  have hS : Kd.S (Kd.slice 3 (Kd.int .i64)) 22 w5 w.heap.size (fun k => k = w.heap.size + 1 + 1) (.slice (some ⟨w.heap.size + 1 + 1, 0, none⟩) 0 0) [] := by
    refine Kd.S_below ?_ hb
    refine ⟨fun _ => 0, ⟨?_, ?_⟩⟩
    · intro k hk
      simp [Value.ownBlock] at hk
      omega
    · have := OwnRow.lit (R := (Kd.tag (fun _ => 0) (Kd.slice 3 (Kd.int .i64))).M (((w.alloc (.cells #[.int .i64 n] 3)).alloc (.cells #[vg] 27)).alloc (.cells #[] 22)) w.heap.size (fun k => k = w.heap.size + 1 + 1 ∧ some k ≠ (Value.slice (some ⟨w.heap.size + 1 + 1, 0, none⟩) 0 0).ownBlock)) (e := 22) (size := 1) (ps := []) ((w.alloc (.cells #[.int .i64 n] 3)).alloc (.cells #[vg] 27)) w.heap.size (inner := []) (Reps.none _ _) (by simp; omega) (by simp)
      show OwnRow _ _ 1 _ _ _ _
      simpa using this
  have hlq := Kd.R_lt hq
  have hbq := Kd.R_base hq
  rw [hz] at hbq
  have bb : Below w.heap.size w w5 := below_then (below_alloc (below_alloc (below_alloc (Below.refl _ _) _) _) _) (by rw [hz]; omega) hb
  have bA : Below w5.heap.size w5 (((w5.alloc (.cells #[.slice (some ⟨w.heap.size + 1 + 1, 0, none⟩) 0 0] 28)).alloc (.cells #[.slice Aq q.length cq] 22)).alloc (.cells #[impl_grown_1.self (w.heap.size + 1) (w5.heap.size + 1) w.heap.size w5.heap.size (w5.heap.size + 1 + 1)] 1)) := below_alloc (below_alloc (below_alloc (Below.refl _ _) _) _) _
  refine ⟨below_then bb bb.size bA, by omega, by omega, by omega, ?_, ?_, ?_, ?_, ?_, ?_, ?_, ?_⟩
  · intro x hx; simp only [List.mem_cons, List.mem_nil_iff, or_false] at hx; rcases hx with rfl | rfl | rfl <;> simp <;> omega
  · intro x hx; simp only [List.mem_cons, List.mem_nil_iff, or_false] at hx; rcases hx with rfl | rfl | rfl <;> simp <;> omega
  · intro x hx
    simp only [List.mem_cons, List.mem_nil_iff, or_false] at hx
    rcases hx with rfl | rfl | rfl
    · exact blk_below c1 bA
    · exact blk_below c0 bA
    · have := blk_new ((w5.alloc (.cells #[.slice (some ⟨w.heap.size + 1 + 1, 0, none⟩) 0 0] 28)).alloc (.cells #[.slice Aq q.length cq] 22)) (.cells #[impl_grown_1.self (w.heap.size + 1) (w5.heap.size + 1) w.heap.size w5.heap.size (w5.heap.size + 1 + 1)] 1)
      simpa using this
  · have := blk_alloc (blk_new (w5.alloc (.cells #[.slice (some ⟨w.heap.size + 1 + 1, 0, none⟩) 0 0] 28)) (.cells #[.slice Aq q.length cq] 22)) (.cells #[impl_grown_1.self (w.heap.size + 1) (w5.heap.size + 1) w.heap.size w5.heap.size (w5.heap.size + 1 + 1)] 1)
    simpa using this
  · exact blk_alloc (blk_alloc (blk_new _ _) _) _
  · intro k hk
    have h1 := hlq k hk
    have h2 := hbq k hk
    refine ⟨by omega, by omega, ?_⟩
    intro x hx; simp only [List.mem_cons, List.mem_nil_iff, or_false] at hx; rcases hx with rfl | rfl | rfl <;> simp <;> omega
  · exact Kd.R_below (Kd.R_lower (Kd.R_tight rfl hq) (by rw [hz]; omega)) bA
  · refine Kd.S_mono (Kd.S_below hS bA) ?_
    rintro k rfl
    refine ⟨fun e => by have := hbq _ e.symm; omega, by omega, by omega, ?_⟩
    intro x hx; simp only [List.mem_cons, List.mem_nil_iff, or_false] at hx; rcases hx with rfl | rfl | rfl <;> simp <;> omega
set_option maxHeartbeats 8000000 in
set_option maxRecDepth 100000 in
theorem impl_grown.calls (k : Nat) (a0 : Int) (A1 : Option Addr) (c1 : Nat) (l1 : List Int) (v2 : Value) (a2 : FnT27) (r : List (List Int)) (w : World) (hr1 : Kd.C (Kd.int .i64) w A1 l1.length l1) (hc1 : l1.length ≤ c1) (hF2 : FnOk27 w v2 a2) (h : impl_grown.f k a0 l1 a2 = some r) :
    Calls Try.prog 82 #[.int .i64 a0, .slice A1 l1.length c1, v2] w fun e w' => ∃ v0_ : Value, e = .returned (v0_) ∧ Kd.S (Kd.slice 3 (Kd.int .i64)) 22 w' w.heap.size (fun _ => True) v0_ r ∧ Below w.heap.size w w' := by
  obtain ⟨q, A2, H⟩ := Option.bind_eq_some_iff.mp h
  clear h
  have hq : q = l1 := by
    unfold slices_Clone_int_int.f at A2
    split at A2
    · exact (Option.some.inj A2).symm
    · cases A2
  obtain ⟨fv, cap, hv⟩ : ∃ fv cap, v2 = .func (.func fv) #[] cap := by
    cases k with
    | zero => exact absurd H (by simp [impl_grown_1.f])
    | succ k =>
      simp only [impl_grown_1.f] at H
      obtain ⟨b, hb, _⟩ := Option.bind_eq_some_iff.mp H
      rw [hq] at hb
      obtain ⟨fv, cap, _, hv, _⟩ := hF2 A1 c1 l1 b w hr1 hc1 hb (Below.refl _ _)
      exact ⟨fv, cap, hv⟩
  subst hv
  clear hq
  replace A2 := Aside0.mk A2
  replace H := Aside0.mk H
  have HR1 := Aside0.mk hr1
  have HC1 := Aside0.mk hc1
  have HF := Aside0.mk hF2
  clear hr1 hc1 hF2
  have HB := Aside0.mk (Below.refl w.heap.size w)
  have hmf_ : ∀ (fn : Go.Fn) (first cap : Array Value) (w : World), (Instr.makeFunc fn first cap).run Try.prog w = .ok (.func fn first cap) w := fun _ _ _ _ => rfl
  go_enter Try.func82, Try.ntmps82
  go_wp2_with (first | ((with_reducible refine gate_callee (f := 100) rfl ?_); refine goesL_ (some 12) rfl rfl Try.func100 (by kernel_rfl) rfl #[.slice A1 l1.length c1] rfl (by (try simp only [List.map_toArray, List.map_cons, List.map_nil]); first | done | rfl) ?_; (with_reducible refine (slices_Clone_int_int.calls A1 c1 l1 q _ ?q1 ?q2 ?q3).mono ?_); (case q1 => exact (Kd.C_below HR1.out (by repeat (first | (with_reducible first | exact HB.out | apply below_alloc | apply pw_below_drewN | apply below_drew1) | exact HB.out)))); (case q2 => exact HC1.out); (case q3 => exact A2.out); rintro e w5 ⟨vq, rfl, ho, hb⟩; refine ⟨_, rfl, ?_⟩; obtain ⟨Aq, cq, eq⟩ := Kd.R_slice ho; subst eq; have HI := Aside0.mk (impl_grown.init w w5 a0 _ Aq cq q hb ho); clear ho hb))
  refine (impl_grown_1.calls k w _ _ _ _ _ _ a2 a0 _ _ _ q [] r HI.out HF.out ?q4).mono ?_
  case q4 => exact H.out
  rintro e w8 ⟨rfl, vq8, vo8, hs⟩
  obtain ⟨A8, c8, e8⟩ := Kd.S_slice hs.ho
  subst e8
  have HS8 := Aside0.mk hs
  clear hs
  have hco8 := HS8.out.cello
  go_wp2
  go_ret
  exact ⟨_, rfl, Kd.S_mono HS8.out.ho (fun _ _ => trivial), HS8.out.bel⟩

def impl_areQueens.fn : FnT27 := fun l0 => Fn.lim fun k => impl_areQueens.f k l0
theorem impl_areQueens.fnok (w : World) : FnOk27 w (.func (.func 63) #[] #[]) impl_areQueens.fn := fun A0 c0 l0 r W hr0 hc0 h _ => by
  obtain ⟨k, h⟩ := Fn.lim_get h
  exact ⟨63, #[], _, rfl, Try.func63, by kernel_rfl, rfl, by simpa using (impl_areQueens.calls k A0 c0 l0 r W hr0 hc0 h).mono fun e w' ⟨he, hd⟩ => ⟨he, hd⟩⟩
/-! ### impl_AllQueens: function 45 -/
def impl_AllQueens.f (k : Nat) (a0 : Int) : Option ((List (List Int)) × Bool) := (impl_isMany.f a0).bind fun t492 => (if t492 = true then ((impl_grown.f k a0 ([] : List Int) impl_areQueens.fn).bind fun t493 => (some (t493, true))) else (some (([] : List (List Int)), false)))
theorem impl_AllQueens.mono : ∀ a0 k, LeO (impl_AllQueens.f k a0) (impl_AllQueens.f (k + 1) a0) := by
  intro a0 k
  unfold impl_AllQueens.f
  repeat' first
      | (with_reducible exact impl_grown.mono _ _ _ _)
      | (with_reducible exact LeO.refl _)
      | (with_reducible exact LeO.none _)
      | (with_reducible refine LeO.ite ?_ ?_)
      | (with_reducible refine LeO.bind ?_ (fun _ => ?_))
      | exact impl_grown.mono _ _ _ _
      | exact LeO.none _
      | refine LeO.ite ?_ ?_
      | refine LeO.bind ?_ (fun _ => ?_)
set_option maxHeartbeats 8000000 in
set_option maxRecDepth 100000 in
theorem impl_AllQueens.calls (k : Nat) (a0 : Int) (r1 : List (List Int)) (r2 : Bool) (w : World) (h : impl_AllQueens.f k a0 = some (r1, r2)) :
    Calls Try.prog 45 #[.int .i64 a0] w fun e w' => ∃ v0_ : Value, e = .returned (.tuple #[v0_, .bool r2]) ∧ Kd.S (Kd.slice 3 (Kd.int .i64)) 22 w' w.heap.size (fun _ => True) v0_ r1 ∧ Below w.heap.size w w' := by
  have HB := Aside0.mk (Below.refl w.heap.size w)
  have H : ((impl_isMany.f a0).bind fun t492 => (if t492 = true then ((impl_grown.f k a0 ([] : List Int) impl_areQueens.fn).bind fun t493 => (some (t493, true))) else (some (([] : List (List Int)), false)))) = some (r1, r2) := h
  clear h
  replace H := Option.bind_eq_some_iff.mp H
  obtain ⟨t492, A20, H⟩ := H
  replace H : (if t492 = true then ((impl_grown.f k a0 ([] : List Int) impl_areQueens.fn).bind fun t493 => (some (t493, true))) else (some (([] : List (List Int)), false))) = some (r1, r2) := H
  have A2 := Aside0.mk A20
  clear A20
  by_cases c3 : t492 = true
  · subst c3
    have H1 : ((impl_grown.f k a0 ([] : List Int) impl_areQueens.fn).bind fun t493 => (some (t493, true))) = some (r1, r2) := by rw [if_pos rfl] at H; exact H
    clear H
    have H := H1
    clear H1
    replace H := Option.bind_eq_some_iff.mp H
    obtain ⟨t493, A40, H⟩ := H
    replace H : (some (t493, true)) = some (r1, r2) := H
    have A4 := Aside0.mk A40
    clear A40
    simp only [Option.some.injEq, Prod.mk.injEq] at H
    obtain ⟨rfl, rfl⟩ := H
    go_enter Try.func45, Try.ntmps45
    go_wp2_with (first | ((with_reducible refine gate_callee (f := 70) rfl ?_); refine goesL_ (some 5) rfl rfl Try.func70 (by kernel_rfl) rfl #[.int .i64 a0] rfl (by (try simp only [List.map_toArray, List.map_cons, List.map_nil]); first | done | rfl | (simp only [List.length_drop, List.length_take]; rfl)) ?_; (with_reducible refine (impl_isMany.calls a0 true _ A2.out).mono ?_); rintro e w' ⟨rfl, ⟨nd, rfl⟩⟩; refine ⟨_, rfl, ?_⟩) | ((with_reducible refine gate_callee (f := 82) rfl ?_); refine goesL_ (some 8) rfl rfl Try.func82 (by kernel_rfl) rfl #[.int .i64 a0, .slice none 0 0, .func (.func 63) #[] #[]] rfl (by (try simp only [List.map_toArray, List.map_cons, List.map_nil]); first | done | rfl | (simp only [List.length_drop, List.length_take]; rfl)) ?_; (refine (impl_grown.calls k a0 _ _ ([] : List Int) (.func (.func 63) #[] #[]) impl_areQueens.fn t493 _ ?side1 ?side2 ?side3 A4.out).mono ?_); (case side1 => exact Kd.C_nil _ _); (case side2 => exact Nat.le_refl _); (case side3 => exact impl_areQueens.fnok _); rintro e w5 ⟨v494, rfl, ho0, hb⟩; refine ⟨_, rfl, ?_⟩; have n0_ := Aside0.mk (Kd.S_lower ho0 (below_size (by repeat (first | (with_reducible first | exact HB.out | apply below_alloc | apply pw_below_drewN | apply below_drew1) | exact HB.out)))); have n1_ := Aside0.mk (below_step (by repeat (first | (with_reducible first | exact HB.out | apply below_alloc | apply pw_below_drewN | apply below_drew1) | exact HB.out)) hb); clear HB; have HO495 := n0_; have HB := n1_; clear n0_ n1_; (try clear hb); (try clear hb2); (try clear hk); (try clear hi); (try clear ho0)))
    go_ret2
    exact ⟨_, by first | rfl | (simp [errW_none, errW_some] <;> rfl) | (simp [*, errW_none, errW_some] <;> rfl), by (with_reducible repeat (first | apply Kd.S_alloc | apply Kd.S_drewN | apply Kd.S_drew)); exact HO495.out, by repeat (first | (with_reducible first | exact HB.out | apply below_alloc | apply pw_below_drewN | apply below_drew1) | exact HB.out)⟩
  · replace c3 := Bool.eq_false_iff.mpr c3
    subst c3
    have H1 : (some (([] : List (List Int)), false)) = some (r1, r2) := by rw [if_neg (show ¬ (false = true) by decide)] at H; exact H
    clear H
    have H := H1
    clear H1
    simp only [Option.some.injEq, Prod.mk.injEq] at H
    obtain ⟨rfl, rfl⟩ := H
    go_enter Try.func45, Try.ntmps45
    go_wp2_with (first | ((with_reducible refine gate_callee (f := 70) rfl ?_); refine goesL_ (some 5) rfl rfl Try.func70 (by kernel_rfl) rfl #[.int .i64 a0] rfl (by (try simp only [List.map_toArray, List.map_cons, List.map_nil]); first | done | rfl | (simp only [List.length_drop, List.length_take]; rfl)) ?_; (with_reducible refine (impl_isMany.calls a0 false _ A2.out).mono ?_); rintro e w' ⟨rfl, ⟨nd, rfl⟩⟩; refine ⟨_, rfl, ?_⟩))
    go_ret2
    exact ⟨_, by first | rfl | (simp [errW_none, errW_some] <;> rfl) | (simp [*, errW_none, errW_some] <;> rfl), by first | exact Kd.S_nil _ _ _ _ _ | exact Kd.N_nil _ _ _ _ _ | exact Kd.V_nil _ _ _ _ _ | exact Kd.Q_nil _ _ _ _ _ | exact Kd.R_nil _ _ _ _ _, by repeat (first | (with_reducible first | exact HB.out | apply below_alloc | apply pw_below_drewN | apply below_drew1) | exact HB.out)⟩

/-! ### impl_CountQueens: function 43 -/
def impl_CountQueens.f (k : Nat) (a0 : Int) : Option (Int × Bool) := (impl_AllQueens.f k a0).bind fun bt496 => (some ((bt496.1.length : Int), bt496.2))
theorem impl_CountQueens.mono : ∀ a0 k, LeO (impl_CountQueens.f k a0) (impl_CountQueens.f (k + 1) a0) := by
  intro a0 k
  unfold impl_CountQueens.f
  repeat' first
      | (with_reducible exact impl_AllQueens.mono _ _)
      | (with_reducible exact LeO.refl _)
      | (with_reducible exact LeO.none _)
      | (with_reducible refine LeO.ite ?_ ?_)
      | (with_reducible refine LeO.bind ?_ (fun _ => ?_))
      | exact impl_AllQueens.mono _ _
      | exact LeO.none _
      | refine LeO.ite ?_ ?_
      | refine LeO.bind ?_ (fun _ => ?_)
set_option maxHeartbeats 8000000 in
set_option maxRecDepth 100000 in
theorem impl_CountQueens.calls (k : Nat) (a0 : Int) (r1 : Int) (r2 : Bool) (w : World) (h : impl_CountQueens.f k a0 = some (r1, r2)) :
    Calls Try.prog 43 #[.int .i64 a0] w fun e w' => e = .returned (.tuple #[.int .i64 r1, .bool r2]) ∧ Below w.heap.size w w' := by
  have HB := Aside0.mk (Below.refl w.heap.size w)
  have H : ((impl_AllQueens.f k a0).bind fun bt496 => (some ((bt496.1.length : Int), bt496.2))) = some (r1, r2) := h
  clear h
  replace H := Option.bind_eq_some_iff.mp H
  obtain ⟨⟨t496, t497⟩, A20, H⟩ := H
  replace H : (some ((t496.length : Int), t497)) = some (r1, r2) := H
  have A2 := Aside0.mk A20
  clear A20
  simp only [Option.some.injEq, Prod.mk.injEq] at H
  obtain ⟨rfl, rfl⟩ := H
  go_enter Try.func43, Try.ntmps43
  go_wp2_with (first | ((with_reducible refine gate_callee (f := 45) rfl ?_); refine goesL_ (some 8) rfl rfl Try.func45 (by kernel_rfl) rfl #[.int .i64 a0] rfl (by (try simp only [List.map_toArray, List.map_cons, List.map_nil]); first | done | rfl | (simp only [List.length_drop, List.length_take]; rfl)) ?_; (with_reducible refine (impl_AllQueens.calls k a0 t496 t497 _ A2.out).mono ?_); rintro e w3 ⟨v498, rfl, ho0, hb⟩; refine ⟨_, rfl, ?_⟩; have n0_ := Aside0.mk (Kd.S_lower ho0 (below_size (by repeat (first | (with_reducible first | exact HB.out | apply below_alloc | apply pw_below_drewN | apply below_drew1) | exact HB.out)))); have n1_ := Aside0.mk (below_step (by repeat (first | (with_reducible first | exact HB.out | apply below_alloc | apply pw_below_drewN | apply below_drew1) | exact HB.out)) hb); clear HB; have HO499 := n0_; have HB := n1_; clear n0_ n1_; (try clear hb); (try clear hb2); (try clear hk); (try clear hi); (try clear ho0); obtain ⟨Ao4, co4, eo4⟩ := Kd.S_slice HO499.out; subst eo4))
  go_ret2
  exact ⟨by first | rfl | (simp [errW_none, errW_some] <;> rfl) | (simp [*, errW_none, errW_some] <;> rfl), by repeat (first | (with_reducible first | exact HB.out | apply below_alloc | apply pw_below_drewN | apply below_drew1) | exact HB.out)⟩

end
end Go.Proofs.Ythjejaoadhhpdaa.P
