-- printed functions (wip/slim.py)
import Derived.Test.YtnpacpdpgngdpaaPx0
import Derived.Test.YtnpacpdpgngdpaaQc74da3dc26
import Derived.Test.YtnpacpdpgngdpaaQf34a463c0a
namespace Go.Proofs.Ytnpacpdpgngdpaa.P
noncomputable section
set_option maxHeartbeats 8000000
set_option maxRecDepth 100000
open Go.RowKit Go.Proofs.YtnpacpdpgngdpaaW.PrintWords Go.Proofs.YtnpacpdpgngdpaaW.PrintLast Go.Proofs.YtnpacpdpgngdpaaW.PrintMore
attribute [local go_sem] max2_int min2_int max_two min_two max_three min_three max_four min_four   -- for this text's walks alone
set_option linter.unusedVariables false
set_option linter.unusedSimpArgs false

/-! ### spec_DrawCountQueens: function 176 -/
def spec_DrawCountQueens.f (l0 : List Int) : Option (Int) := (spec_l1Cur_among.f l0 0 0 (([1, 2, 3, 4, 5, 6, 7, 8, 9, 0] : List Int))).bind fun bt1061 => (some bt1061.1)
theorem spec_DrawCountQueens.calls (A0 : Option Addr) (c0 : Nat) (l0 : List Int) (r : Int) (w : World) (hr0 : Kd.C (Kd.int .u8) w A0 l0.length l0) (hc0 : l0.length ≤ c0) (h : spec_DrawCountQueens.f l0 = some r) :
  Calls Try.prog 176 #[.slice A0 l0.length c0] w fun e w' => e = .returned (.int .i64 r) ∧ Below w.heap.size w w' := by
 have hu122 := Try.underlying122
 have HR0 := A_ hr0
 have HC0 := A_ hc0
 clear hr0 hc0
 have HB := A_ (Below.refl w.heap.size w)
 have H : ((spec_l1Cur_among.f l0 0 0 (([1, 2, 3, 4, 5, 6, 7, 8, 9, 0] : List Int))).bind fun bt1061 => (some bt1061.1)) = some r := h
 clear h
 obtain ⟨y1058, hy1058⟩ : ∃ y_ : List Int, y_ = (([1, 2, 3, 4, 5, 6, 7, 8, 9, 0] : List Int)) := ⟨_, rfl⟩
 replace H : ((spec_l1Cur_among.f l0 0 0 y1058).bind fun bt1061 => (some bt1061.1)) = some r := ty_ hy1058 H
 have Ny1058 := A_ hy1058
 clear hy1058
 replace H := Option.bind_eq_some_iff.mp H
 obtain ⟨⟨t1061, t1062, t1063⟩, A20, H⟩ := H
 replace H : (some t1061) = some r := H
 have A2 := A_ A20
 clear A20
 obtain rfl := Option.some.inj H
 go_enter Try.func176, Try.ntmps176
 go_wp2_with (first | (refine gd_ 6 ?_; refine bx_ 6 #[.slice A0 l0.length c0, .int .i64 0, .int .u64 0] 122 ?_; intro gb1057 hg w3 hbox hb; have HI1057 := A_ ((⟨_, _, hbox, (by rw [hg]; exact (below_size tb_)), HR0.out⟩ : IsS122 w w3 gb1057 l0 0 0)); replace HB := A_ (below_step tb_ hb); clear hb hbox hg) | (refine gd_ 8 ?_; refine Kd.R_lit (Kd.int .i64) _ 3 ?hg (N := 8) ?hd (xs := ([1, 2, 3, 4, 5, 6, 7, 8, 9, 0] : List Int)) (inner := [.int .i64 1, .int .i64 2, .int .i64 3, .int .i64 4, .int .i64 5, .int .i64 6, .int .i64 7, .int .i64 8, .int .i64 9, .int .i64 0]) (ok := fun _ => True) (okp := fun _ => True) ?hr ?hp (fun _ hk => hk) trivial (Below.refl _ _) (Nat.le_refl _) (by simp) ?_; (case hd => rfl); (case hg => rfl); (case hr => first | (go_simp; done) | (go_simp; rfl)); (case hp => exact (Reps.one (show Kd.M (Kd.int .i64) _ _ _ 1 [.int .i64 1] from rfl) (Reps.one (show Kd.M (Kd.int .i64) _ _ _ 2 [.int .i64 2] from rfl) (Reps.one (show Kd.M (Kd.int .i64) _ _ _ 3 [.int .i64 3] from rfl) (Reps.one (show Kd.M (Kd.int .i64) _ _ _ 4 [.int .i64 4] from rfl) (Reps.one (show Kd.M (Kd.int .i64) _ _ _ 5 [.int .i64 5] from rfl) (Reps.one (show Kd.M (Kd.int .i64) _ _ _ 6 [.int .i64 6] from rfl) (Reps.one (show Kd.M (Kd.int .i64) _ _ _ 7 [.int .i64 7] from rfl) (Reps.one (show Kd.M (Kd.int .i64) _ _ _ 8 [.int .i64 8] from rfl) (Reps.one (show Kd.M (Kd.int .i64) _ _ _ 9 [.int .i64 9] from rfl) (Reps.one (show Kd.M (Kd.int .i64) _ _ _ 0 [.int .i64 0] from rfl) (Reps.none _ _)))))))))))); intro v1059 w4 ho5 hb hg_ hnew_; clear hg_ hnew_; (first | rw [← Ny1058.out] at ho5 | (simp only [Int.reduceToNat] at ho5; rw [← Ny1058.out] at ho5)); have HO1060 := A_ (Kd.R_lower ho5 (below_size (by repeat (first | (with_reducible first | exact HB.out | apply below_alloc | apply pw_below_drewN | apply below_drew1 | refine below_set ?_ (IsS122.ge HI1057.out)) | exact HB.out)))); replace HB := A_ (below_step (by repeat (first | (with_reducible first | exact HB.out | apply below_alloc | apply pw_below_drewN | apply below_drew1 | refine below_set ?_ (IsS122.ge HI1057.out)) | exact HB.out)) hb); replace HI1057 := A_ (IsS122.below (by repeat (first | (with_reducible first | exact HI1057.out | apply IsS122.alloc | apply IsS122.drewN | apply IsS122.drew | apply IsS122.set_1 | apply IsS122.set_2) | exact HI1057.out)) hb); clear hb ho5; obtain ⟨Ao6, co6, eo6⟩ := Kd.R_slice HO1060.out; subst eo6) | (refine gc_ 160 ?_; refine goesT_ (some 9) Try.func160 #[.pointer (some ⟨gb1057, 0, none⟩), .slice Ao6 y1058.length co6] ?_; (with_reducible refine (spec_l1Cur_among.calls gb1057 l0 0 0 _ _ y1058 t1061 t1062 t1063 w _ ?side1 ?side2 ?side3 ?side4 ?side5 A2.out).mono ?_); (case side1 => repeat (first | (with_reducible first | exact HI1057.out | apply IsS122.alloc | apply IsS122.drewN | apply IsS122.drew | apply IsS122.set_1 | apply IsS122.set_2) | exact HI1057.out)); (case side2 => repeat (first | (with_reducible first | exact HB.out | apply below_alloc | apply pw_below_drewN | apply below_drew1 | refine below_set ?_ (IsS122.ge HI1057.out)) | exact HB.out)); (case side3 => exact tc0_ (Kd.R_reads' HO1060.out).2.2); (case side4 => exact (Kd.R_reads' HO1060.out).2.1); (case side5 => exact far_slice (IsS122.own_ne HI1057.out HO1060.out (by decide))); rintro e w7 ⟨rfl, hi, hb, hk⟩; refine ⟨_, rfl, ?_⟩; replace HO1060 := A_ (Kd.R_mono (Kd.R_keep (IsS122.apart (show IsS122 w _ gb1057 l0 0 0 from by repeat (first | (with_reducible first | exact HI1057.out | apply IsS122.alloc | apply IsS122.drewN | apply IsS122.drew | apply IsS122.set_1 | apply IsS122.set_2) | exact HI1057.out)) (tr_x HO1060.out) (by decide)) hk (fun _ h => h.2)) (fun _ h => h.1)); replace HB := A_ (hb); replace HI1057 := A_ (hi); (try clear hb); (try clear hb2); (try clear hk); (try clear hi)))
 go_ret
 exact ⟨te_, by repeat (first | (with_reducible first | exact HB.out | apply below_alloc | apply pw_below_drewN | apply below_drew1 | refine below_set ?_ (IsS122.ge HI1057.out)) | exact HB.out)⟩

/-! ### impl_grown_1: function 244 -/
mutual
def impl_grown_1.f : Nat → FnT50 → Int → List Int → List (List Int) → Option (List (List Int))
 | 0, _, _, _, _ => none
 | k + 1, good, n, q, out => (good q).bind fun b => if b = true then (if (q.length : Int) = n then ((slices_Clone_int_int.f q).bind fun c => if out.length < 5864062014805 then some (out ++ [c]) else none) else impl_grown_1.l0 k good n q out 0) else some out
def impl_grown_1.l0 : Nat → FnT50 → Int → List Int → List (List Int) → Int → Option (List (List Int))
 | 0, _, _, _, _, _ => none
 | k + 1, good, n, q, out, i => if i < n then ((slices_Contains_int_int.f k q i).bind fun b => if b = true then impl_grown_1.l0 k good n q out (wrap64 (i + 1)) else (if q.length < 17592186044415 then ((impl_grown_1.f k good n (q ++ [i]) out).bind fun out2 => impl_grown_1.l0 k good n q out2 (wrap64 (i + 1))) else none)) else some out
end
theorem impl_grown_1.mono_l : ∀ k, (∀ g n q o, LeO (impl_grown_1.f k g n q o) (impl_grown_1.f (k + 1) g n q o)) ∧ (∀ g n q o i, LeO (impl_grown_1.l0 k g n q o i) (impl_grown_1.l0 (k + 1) g n q o i))
 | 0 => ⟨fun _ _ _ _ r h => by simp [impl_grown_1.f] at h, fun _ _ _ _ _ r h => by simp [impl_grown_1.l0] at h⟩
 | k + 1 => by
  obtain ⟨i0, i1⟩ := impl_grown_1.mono_l k
  refine ⟨?_, ?_⟩
  ·
   intro g n q o
   unfold impl_grown_1.f
   refine LeO.bind (LeO.refl _) (fun b => ?_)
   refine LeO.ite ?_ (LeO.refl _)
   exact LeO.ite (LeO.refl _) (i1 _ _ _ _ _)
  ·
   intro g n q o i
   unfold impl_grown_1.l0
   refine LeO.ite ?_ (LeO.refl _)
   refine LeO.bind (slices_Contains_int_int.mono _ _ _) (fun b => ?_)
   refine LeO.ite (i1 _ _ _ _ _) ?_
   refine LeO.ite ?_ (LeO.refl _)
   exact LeO.bind (i0 _ _ _ _) (fun _ => i1 _ _ _ _ _)
theorem impl_grown_1.mono : ∀ g n q o k, LeO (impl_grown_1.f k g n q o) (impl_grown_1.f (k + 1) g n q o) := fun g n q o k => (impl_grown_1.mono_l k).1 _ _ _ _
def impl_grown_1.self (gg gq gn go gx : Nat) : Value := .func (.func 244) #[] #[.pointer (some ⟨gg, 0, none⟩), .pointer (some ⟨gq, 0, none⟩), .pointer (some ⟨gn, 0, none⟩), .pointer (some ⟨go, 0, none⟩), .pointer (some ⟨gx, 0, none⟩)]
abbrev impl_grown_1.St (w : World) (gg gq gn go gx : Nat) (vg : Value) (n : Int) (W : World) (vq vo : Value) (q : List Int) (out : List (List Int)) : Prop :=
 Cap.QO 3 22 22 38 w [(gg, 50, vg), (gn, 3, .int .i64 n), (gx, 1, impl_grown_1.self gg gq gn go gx)] gq go W vq vo q out
theorem impl_grown_1.enters (gg gq gn go gx : Nat) {w : World} {Q : Ending → World → Prop} (h : Calls Try.prog 244 #[.pointer (some ⟨gg, 0, none⟩), .pointer (some ⟨gq, 0, none⟩), .pointer (some ⟨gn, 0, none⟩), .pointer (some ⟨go, 0, none⟩), .pointer (some ⟨gx, 0, none⟩)] w Q) :
  Fn.CallsV Try.prog (impl_grown_1.self gg gq gn go gx) #[] w Q := ⟨244, _, _, rfl, Try.func244, by kernel_rfl, rfl, by simpa using h⟩
theorem impl_grown_1.calls (k : Nat) : ∀ (w : World) (gg gq gn go gx : Nat) (vg : Value) (good : FnT50) (n : Int) (W : World) (vq vo : Value) (q : List Int) (out r : List (List Int)) (hS : impl_grown_1.St w gg gq gn go gx vg n W vq vo q out) (hF : FnOk50 w vg good) (h : impl_grown_1.f k good n q out = some r),
  Calls Try.prog 244 #[.pointer (some ⟨gg, 0, none⟩), .pointer (some ⟨gq, 0, none⟩), .pointer (some ⟨gn, 0, none⟩), .pointer (some ⟨go, 0, none⟩), .pointer (some ⟨gx, 0, none⟩)] W fun e W' => e = .returned (.tuple #[]) ∧ ∃ vq' vo', impl_grown_1.St w gg gq gn go gx vg n W' vq' vo' q r := by
 induction k using Nat.strongRecOn with
 | _ k ih =>
 intro w gg gq gn go gx vg good n W vq vo q out r hS hF h
 cases k with
 | zero => exact absurd h (by simp [impl_grown_1.f])
 | succ k =>
 simp only [impl_grown_1.f] at h
 obtain ⟨b, A1, H⟩ := Option.bind_eq_some_iff.mp h
 clear h
 replace A1 := A_ A1
 obtain ⟨Aq, cq, rfl⟩ := Kd.R_slice hS.hq
 have hcg := hS.fix.cell (g := gg) (.head _)
 have hcn := hS.fix.cell (g := gn) (.tail _ (.head _))
 have hcq := hS.cellq
 have HS := A_ hS
 have HF := A_ hF
 have HR := A_ (Kd.R_reads' hS.hq)
 clear hS hF
 cases b with
 | false =>
  simp only [Bool.false_eq_true, if_false] at H
  obtain rfl := Option.some.inj H
  clear H
  go_enter Try.func244, Try.ntmps244
  go_wp2_with (first | ((with_reducible refine Fn.gate_value rfl ?_); refine Fn.goesVw_ (some 8) rfl (by first | rfl | (simp [Region.wanted, yielded]; done)) vg rfl #[.slice Aq q.length cq] rfl (by (try simp only [List.map_toArray, List.map_cons, List.map_nil]); first | done | rfl) ?_; (with_reducible refine (FnCall50.calls _ _ q vg good false _ ?q1 ?q2 ?q3 ?q4).mono ?_); (case q1 => exact HR.out.2.2); (case q2 => exact HR.out.2.1); (case q3 => exact (FnOk50.mono HF.out HS.out.bel)); (case q4 => exact A1.out); rintro e w8 ⟨rfl, hb⟩; refine ⟨_, rfl, ?_⟩; have HS8 := A_ (HS.out.below hb); clear hb))
  (try simp only [Exit.inBlock, Exit.then]); refine bodyPost_ret (results_none rfl _ _ _) rfl ?_
  exact ⟨rfl, _, _, HS8.out⟩
 | true =>
  rw [if_pos rfl] at H
  by_cases c3 : (q.length : Int) = n
  ·
   rw [if_pos c3] at H
   have c3b0 : ((q.length : Int) == n) = true := beq_iff_eq.mpr c3
   have c3b1 : ((q.length : Int) != n) = false := bne_eq_false_iff_eq.mpr c3
   clear c3
   obtain ⟨c, A2, H⟩ := Option.bind_eq_some_iff.mp H
   replace A2 := A_ A2
   by_cases c4 : out.length < 5864062014805
   ·
    rw [if_pos c4] at H
    have c4' := A_ c4
    obtain rfl := Option.some.inj H
    clear H c4
    go_enter Try.func244, Try.ntmps244
    go_wp2_with (first | ((with_reducible refine Fn.gate_value rfl ?_); refine Fn.goesVw_ (some 8) rfl (by first | rfl | (simp [Region.wanted, yielded]; done)) vg rfl #[.slice Aq q.length cq] rfl (by (try simp only [List.map_toArray, List.map_cons, List.map_nil]); first | done | rfl) ?_; (with_reducible refine (FnCall50.calls _ _ q vg good true _ ?q1 ?q2 ?q3 ?q4).mono ?_); (case q1 => exact HR.out.2.2); (case q2 => exact HR.out.2.1); (case q3 => exact (FnOk50.mono HF.out HS.out.bel)); (case q4 => exact A1.out); rintro e w8 ⟨rfl, hb⟩; refine ⟨_, rfl, ?_⟩; have HS8 := A_ (HS.out.below hb); have hcq8 := HS8.out.cellq; have hco8 := HS8.out.cello; have hcn8 := HS8.out.fix.cell (g := gn) (.tail _ (.head _)); clear hb))
    refine start_ (n := 6) (S := fun w' => w'.cell? ⟨go, 0, none⟩ = some vo ∧ w'.cell? ⟨gq, 0, none⟩ = some (.slice Aq q.length cq)) (ds := [5]) (Fn.bl 6 0) (by kernel_rfl) rfl rfl ⟨HS8.out.drew.cello, HS8.out.drew.cellq⟩ (fun hHeld => ?_)
    have HS9 := A_ HS8.out.drew
    clear HS HS8 hcq8 hco8 hcn8 hcg hcn hcq
    generalize w8.drew = w9 at HS9 hHeld ⊢
    refine take_ (i := 0) (N := some 14) (v := ?_) (a' := ?_) (Fn.bl 6 1) rfl rfl (by kernel_rfl) (fun _ _ _ h => h) (Or.inl ⟨by rfl, ?_⟩) hHeld ?_ ?_
    rotate_left
    ·
     rintro w' ⟨s0, s1⟩
     go_simp
     with_reducible rfl
    rotate_left
    ·
     simp only [Act.put, List.setIfInBounds_toArray, List.set_cons_zero, List.set_cons_succ, i64_w, i32_w]
     rfl
    refine take_ (i := 1) (N := some 15) (v := ?_) (a' := ?_) (Fn.bl 6 3) rfl rfl (by kernel_rfl) (fun _ _ _ h => h) (Or.inl ⟨by rfl, ?_⟩) hHeld ?_ ?_
    rotate_left
    ·
     rintro w' ⟨s0, s1⟩
     go_simp
     with_reducible rfl
    rotate_left
    ·
     simp only [Act.put, List.setIfInBounds_toArray, List.set_cons_zero, List.set_cons_succ, i64_w, i32_w]
     rfl
    have HR9 := A_ (Kd.R_reads' HS9.out.hq)
    refine one_ (i := 2) (N := some 16) (Fn.bl 6 7) rfl rfl (by kernel_rfl) (by decide) (fun K hK => ?_)
    refine goes_ Try.func196 (by kernel_rfl) rfl #[.slice Aq q.length cq] (by rfl) rfl rfl (by (try simp only [List.map_toArray, List.map_cons, List.map_nil]); first | done | rfl) ?_
    with_reducible refine (slices_Clone_int_int.calls Aq cq q c _ HR9.out.2.2 HR9.out.2.1 A2.out).mono ?_
    rintro e w10 ⟨vc, rfl, hoc, hb⟩
    refine ⟨_, rfl, ?_⟩
    have HS10 := A_ (HS9.out.below hb)
    have HCm := A_ (HS9.out.rowM hoc)
    have HCok := A_ (HS9.out.rowok hoc)
    have HCS := A_ (HS9.out.rowS hb hoc)
    obtain ⟨Ac, cc, ec⟩ := Kd.R_slice hoc
    subst ec
    clear hoc hb
    refine hK.out _ _ ⟨HS10.out.cello, HS10.out.cellq⟩ (fun hHeld => ?_)
    clear hK K
    refine norm_ (a' := ?_) ?_ ?_
    rotate_left
    ·
     show Act.put _ (some 16) _ = _
     simp only [Act.put, List.setIfInBounds_toArray, List.set_cons_zero, List.set_cons_succ, i64_w, i32_w]
     rfl
    refine one_ (i := 3) (N := some 17) (Fn.bl 6 15) rfl rfl (by kernel_rfl) (by decide) (fun K hK => ?_)
    refine value_ (v := .slice (some ⟨w10.heap.size, 0, none⟩) 1 1) (w1 := w10.alloc (.cells #[.slice Ac c.length cc] 22)) (by rfl) rfl ?_ ?_
    ·
     go_simp
    refine hK.out _ _ ⟨(HS10.out.below (below_alloc (Below.refl _ _) _)).cello, (HS10.out.below (below_alloc (Below.refl _ _) _)).cellq⟩ (fun hHeld => ?_)
    clear hK K
    refine norm_ (a' := ?_) ?_ ?_
    rotate_left
    ·
     show Act.put _ (some 17) _ = _
     simp only [Act.put, List.setIfInBounds_toArray, List.set_cons_zero, List.set_cons_succ, i64_w, i32_w]
     rfl
    refine one_ (i := 4) (N := some 18) (Fn.bl 6 31) rfl rfl (by kernel_rfl) (by decide) (fun K hK => ?_)
    refine Kd.S_append_step (Kd.slice 3 (Kd.int .i64)) (w0 := w) w.heap.size (by rfl) (.tmp 14) (.tmp 17) 38 22 (.slice none 0 0) 24 rfl Try.underlying38 info22 rfl (by decide) (by omega) vo out c [.slice Ac c.length cc] _ _ rfl rfl HCm.out HCok.out (fun k hk => HS10.out.fresh hk) HCS.out HS10.out.bel HS10.out.bel.size (by have := c4'.out; omega) ?_
    intro v1 w12 ho hb hg hat
    obtain ⟨A1, c1, e1⟩ := Kd.S_slice ho
    rw [List.length_append, List.length_singleton] at e1
    subst e1
    have HS12 := A_ (HS10.out.seto hb hg ho)
    have hcg12 := HS12.out.2.1
    have hfg12 := HS12.out.2.2
    have hcq12 : w12.cell? ⟨gq, 0, none⟩ = some (.slice Aq q.length cq) := cell_of_one (blk_grown HS10.out.cq hg (fun e => (HS10.out.no e.symm).2.1 rfl))
    clear ho hb hg hat
    refine hK.out _ _ ⟨hcg12, hcq12⟩ (fun hHeld => ?_)
    clear hK K
    refine norm_ (a' := ?_) ?_ ?_
    rotate_left
    ·
     show Act.put _ (some 18) _ = _
     simp only [Act.put, List.setIfInBounds_toArray, List.set_cons_zero, List.set_cons_succ, i64_w, i32_w]
     rfl
    refine last_ (i := 5) (N := none) (Fn.bl 6 63) rfl rfl (by kernel_rfl) (by decide) (fun K hK => ?_)
    refine skip_ (w1 := ?_) (by rfl) rfl ?_ ?_
    rotate_left
    ·
     go_simp
     rfl
    refine hK.out _ _ ?_
    clear hK K
    refine done_ (by kernel_rfl) ?_
    try go_wp2
    (try simp only [Exit.inBlock, Exit.then]); refine bodyPost_ret (results_none rfl _ _ _) rfl ?_
    exact ⟨rfl, _, _, HS12.out.1⟩
   ·
    rw [if_neg c4] at H
    exact absurd H (by simp)
  ·
   rw [if_neg c3] at H
   have c3b0 : ((q.length : Int) == n) = false := beq_eq_false_iff_ne.mpr c3
   have c3b1 : ((q.length : Int) != n) = true := bne_iff_ne.mpr c3
   clear c3
   replace H := A_ H
   go_enter Try.func244, Try.ntmps244
   go_wp2_with (first | ((with_reducible refine Fn.gate_value rfl ?_); refine Fn.goesVw_ (some 8) rfl (by first | rfl | (simp [Region.wanted, yielded]; done)) vg rfl #[.slice Aq q.length cq] rfl (by (try simp only [List.map_toArray, List.map_cons, List.map_nil]); first | done | rfl) ?_; (with_reducible refine (FnCall50.calls _ _ q vg good true _ ?q1 ?q2 ?q3 ?q4).mono ?_); (case q1 => exact HR.out.2.2); (case q2 => exact HR.out.2.1); (case q3 => exact (FnOk50.mono HF.out HS.out.bel)); (case q4 => exact A1.out); rintro e w8 ⟨rfl, hb⟩; refine ⟨_, rfl, ?_⟩; have HS8 := A_ (HS.out.below hb); have hcq8 := HS8.out.cellq; have hco8 := HS8.out.cello; have hcn8 := HS8.out.fix.cell (g := gn) (.tail _ (.head _)); clear hb))
   go_loopg [20] k (fun kq v20 W' => ∃ (i : Int) (o1 : List (List Int)) (vq2 vo2 : Value), v20 = .int .i64 i ∧ Aside0 (impl_grown_1.l0 kq good n q o1 i = some r) ∧ Aside0 (kq ≤ k) ∧ Aside0 (impl_grown_1.St w gg gq gn go gx vg n W' vq2 vo2 q o1))
   case atStart => exact ⟨0, out, _, _, rfl, H, ⟨Nat.le_refl _⟩, HS8⟩
   case round =>
    clear H HS HS8 hcq8 hco8 hcn8 hcg hcn hcq HR A1
    obtain ⟨i, o1, vq2, vo2, rfl, HA, HK1, HS⟩ := hrel
    obtain ⟨Aq2, cq2, e2⟩ := Kd.R_slice HS.out.hq
    subst e2
    have hcq := HS.out.cellq
    have HR := A_ (Kd.R_reads' HS.out.hq)
    cases gk with
    | zero => exact absurd HA.out (by simp [impl_grown_1.l0])
    | succ k1 =>
     have H := HA.out
     clear HA
     simp only [impl_grown_1.l0] at H
     by_cases c4 : i < n
     ·
      rw [if_pos c4] at H
      have c4b := decide_eq_true c4
      clear c4
      obtain ⟨b, A2, H⟩ := Option.bind_eq_some_iff.mp H
      replace A2 := A_ A2
      cases b with
      | true =>
       rw [if_pos rfl] at H
       replace H := A_ H
       go_wp2_with (first | (refine gc_ 182 ?_; refine goesL_ (some 25) rfl rfl Try.func182 (by kernel_rfl) rfl #[.slice Aq2 q.length cq2, .int .i64 i] rfl (by (try simp only [List.map_toArray, List.map_cons, List.map_nil]); first | done | rfl) ?_; (with_reducible refine (slices_Contains_int_int.calls k1 Aq2 cq2 q i true _ HR.out.2.2 HR.out.2.1 A2.out).mono ?_); rintro e w5 ⟨rfl, hd⟩; refine ⟨_, rfl, ?_⟩; have HS5 := A_ (HS.out.below hd.below); have hcq5 := HS5.out.cellq; clear hd))
       go_roundg k1
       case measure => have := HK1.out; omega
       case rel => exact ⟨wrap64 (i + 1), o1, _, _, tf_, H, ⟨by have := HK1.out; omega⟩, HS5⟩
      | false =>
       simp only [Bool.false_eq_true, if_false] at H
       by_cases c5 : q.length < 17592186044415
       ·
        rw [if_pos c5] at H
        have c5a := A_ c5
        clear c5
        obtain ⟨o2, A3, H⟩ := Option.bind_eq_some_iff.mp H
        replace A3 := A_ A3
        replace H := A_ H
        obtain ⟨i0, hi0, _⟩ := info_parts info3
        replace hi0 := A_ hi0
        go_wp2_with (first | (refine gc_ 182 ?_; refine goesL_ (some 25) rfl rfl Try.func182 (by kernel_rfl) rfl #[.slice Aq2 q.length cq2, .int .i64 i] rfl (by (try simp only [List.map_toArray, List.map_cons, List.map_nil]); first | done | rfl) ?_; (with_reducible refine (slices_Contains_int_int.calls k1 Aq2 cq2 q i false _ HR.out.2.2 HR.out.2.1 A2.out).mono ?_); rintro e w5 ⟨rfl, hd⟩; refine ⟨_, rfl, ?_⟩; have HS5 := A_ (HS.out.below hd.below); have hcq5 := HS5.out.cellq; clear hd) | ((with_reducible refine gate_builtin (b := .append) (xs := #[.tmp 27, .tmp 29]) rfl ?_); at_builtin; refine Kd.R_append (Kd.int .i64) (w0 := w) w.heap.size rfl (.tmp 27) (.tmp 29) 22 3 (.int .i64 0) 8 rfl Try.underlying22 info3 rfl (by decide) (by omega) (.slice Aq2 q.length cq2) q i [.int .i64 i] (fun _ => True) (fun _ => False) rfl rfl ?aP (fun _ hk => hk.elim) (fun _ _ => trivial) ?aO ?aB ?aS ?aL ?_; (case aP => exact rfl); (case aO => exact Kd.R_mono HS5.out.hq (fun _ _ => trivial)); (case aB => exact HS5.out.bel); (case aS => exact HS5.out.bel.size); (case aL => have := c5a.out; omega); intro v1 w7 ho hb hg hat; obtain ⟨A1, c1, e1⟩ := Kd.R_slice ho; rw [List.length_append, List.length_singleton] at e1; subst e1; have HT := A_ (HS5.out.setq hb hg ho hat); clear ho hb hg hat; have hcq7 := HT.out.2.1; have hfq7 := HT.out.2.2; have HS7 := A_ HT.out.1; clear HT; have hx7 := HS7.out.fix.cell (g := gx) (.tail _ (.tail _ (.head _)))) | ((with_reducible refine Fn.gate_value rfl ?_); refine Fn.goesVw_ (some 32) rfl (by first | rfl | (simp [Region.wanted, yielded]; done)) (impl_grown_1.self gg gq gn go gx) rfl #[] rfl (by (try simp only [List.map_toArray, List.map_cons, List.map_nil]); first | done | rfl) ?_; refine impl_grown_1.enters gg gq gn go gx ?_; (with_reducible refine (ih k1 (by have := HK1.out; omega) w gg gq gn go gx vg good n _ _ vo2 (q ++ [i]) o1 o2 HS7.out HF.out A3.out).mono ?_); rintro e w8 ⟨rfl, vq8, vo8, hs⟩; refine ⟨_, rfl, ?_⟩; obtain ⟨A8, c8, e8⟩ := Kd.R_slice hs.hq; rw [List.length_append, List.length_singleton] at e8; subst e8; have HS8 := A_ hs; clear hs hx7 hcq7 hfq7; have hcq8 := HS8.out.cellq; have hfq8 := free_of_one HS8.out.cq; have hcut8 := cut_to (P := Try.prog) 22 3 .i64 Try.underlying22 hi0.out A8 (q.length + 1) c8 (wrap64 (q.length : Int)) (by have := c5a.out; unfold wrap64; omega) (by have := c5a.out; unfold wrap64; omega) (by have := (Kd.R_reads' HS8.out.hq).2.1; simpa using this)))
        have hw : wrap64 (q.length : Int) = (q.length : Int) := by have := c5a.out; unfold wrap64; omega
        have HS9 : Aside0 (impl_grown_1.St w gg gq gn go gx vg n (w8.setCell ⟨gq, 0, none⟩ (.slice A8 (wrap64 (q.length : Int)).toNat c8)) (.slice A8 (wrap64 (q.length : Int)).toNat c8) vo8 q o2) := by
         rw [hw, Int.toNat_natCast]
         have hR := Kd.R_take (m := q.length) HS8.out.hq (by simp)
         rw [List.take_left' rfl] at hR
         exact ⟨(HS8.out.setq HS8.out.bel (grown_of_below (Below.refl _ _) _) hR (Or.inl (by cases A8 <;> rfl))).1⟩
        clear hw
        go_roundg k1
        case measure => have := HK1.out; omega
        case rel => exact ⟨wrap64 (i + 1), o2, _, _, tf_, H, ⟨by have := HK1.out; omega⟩, HS9⟩
       ·
        rw [if_neg c5] at H
        exact absurd H (by simp)
     ·
      rw [if_neg c4] at H
      have c4b := decide_eq_false c4
      clear c4
      obtain rfl := Option.some.inj H
      clear H
      go_wp2
      go_end0
      exact ⟨rfl, _, _, HS.out⟩

/-! ### impl_grown: function 177 -/
def impl_grown.f (k : Nat) (a0 : Int) (l1 : List Int) (a2 : FnT50) : Option (List (List Int)) := (slices_Clone_int_int.f l1).bind fun q => impl_grown_1.f k a2 a0 q []
theorem impl_grown.mono : ∀ a0 a1 a2 k, LeO (impl_grown.f k a0 a1 a2) (impl_grown.f (k + 1) a0 a1 a2) := fun a0 a1 a2 k => LeO.bind (LeO.refl _) (fun q => impl_grown_1.mono _ _ _ _ _)
theorem impl_grown.init (w w5 : World) (n : Int) (vg : Value) (Aq : Option Addr) (cq : Nat) (q : List Int)
  (hb : Below (((w.alloc (.cells #[.int .i64 n] 3)).alloc (.cells #[vg] 50)).alloc (.cells #[] 22)).heap.size (((w.alloc (.cells #[.int .i64 n] 3)).alloc (.cells #[vg] 50)).alloc (.cells #[] 22)) w5)
  (hq : (Kd.int .i64).R 3 w5 (((w.alloc (.cells #[.int .i64 n] 3)).alloc (.cells #[vg] 50)).alloc (.cells #[] 22)).heap.size (fun _ => True) (.slice Aq q.length cq) q) :
  impl_grown_1.St w (w.heap.size + 1) (w5.heap.size + 1) w.heap.size w5.heap.size (w5.heap.size + 1 + 1) vg n
   (((w5.alloc (.cells #[.slice (some ⟨w.heap.size + 1 + 1, 0, none⟩) 0 0] 38)).alloc (.cells #[.slice Aq q.length cq] 22)).alloc (.cells #[impl_grown_1.self (w.heap.size + 1) (w5.heap.size + 1) w.heap.size w5.heap.size (w5.heap.size + 1 + 1)] 1))
   (.slice Aq q.length cq) (.slice (some ⟨w.heap.size + 1 + 1, 0, none⟩) 0 0) q [] := by
 have hz : (((w.alloc (.cells #[.int .i64 n] 3)).alloc (.cells #[vg] 50)).alloc (.cells #[] 22)).heap.size = w.heap.size + 1 + 1 + 1 := by simp
 have hz5 : w.heap.size + 1 + 1 + 1 ≤ w5.heap.size := by rw [← hz]; exact hb.size
 have b0 : (((w.alloc (.cells #[.int .i64 n] 3)).alloc (.cells #[vg] 50)).alloc (.cells #[] 22)).heap[w.heap.size]? = some (.cells #[.int .i64 n] 3 (0, 0)) := blk_alloc (blk_alloc (blk_new _ _) _) _
 have b1 : (((w.alloc (.cells #[.int .i64 n] 3)).alloc (.cells #[vg] 50)).alloc (.cells #[] 22)).heap[w.heap.size + 1]? = some (.cells #[vg] 50 (0, 0)) := by
  have := blk_alloc (blk_new (w.alloc (.cells #[.int .i64 n] 3)) (.cells #[vg] 50)) (.cells #[] 22)
  simpa using this
 have c0 := blk_below b0 hb
 have c1 := blk_below b1 hb
 have hS : Kd.S (Kd.slice 3 (Kd.int .i64)) 22 w5 w.heap.size (fun k => k = w.heap.size + 1 + 1) (.slice (some ⟨w.heap.size + 1 + 1, 0, none⟩) 0 0) [] := by
  refine Kd.S_below ?_ hb
  refine ⟨fun _ => 0, ⟨?_, ?_⟩⟩
  ·
   intro k hk
   simp [Value.ownBlock] at hk
   omega
  ·
   have := OwnRow.lit (R := (Kd.tag (fun _ => 0) (Kd.slice 3 (Kd.int .i64))).M (((w.alloc (.cells #[.int .i64 n] 3)).alloc (.cells #[vg] 50)).alloc (.cells #[] 22)) w.heap.size (fun k => k = w.heap.size + 1 + 1 ∧ some k ≠ (Value.slice (some ⟨w.heap.size + 1 + 1, 0, none⟩) 0 0).ownBlock)) (e := 22) (size := 1) (ps := []) ((w.alloc (.cells #[.int .i64 n] 3)).alloc (.cells #[vg] 50)) w.heap.size (inner := []) (Reps.none _ _) (by simp; omega) (by simp)
   show OwnRow _ _ 1 _ _ _ _
   simpa using this
 have hlq := Kd.R_lt hq
 have hbq := Kd.R_base hq
 rw [hz] at hbq
 have bb : Below w.heap.size w w5 := below_then (below_alloc (below_alloc (below_alloc (Below.refl _ _) _) _) _) (by rw [hz]; omega) hb
 have bA : Below w5.heap.size w5 (((w5.alloc (.cells #[.slice (some ⟨w.heap.size + 1 + 1, 0, none⟩) 0 0] 38)).alloc (.cells #[.slice Aq q.length cq] 22)).alloc (.cells #[impl_grown_1.self (w.heap.size + 1) (w5.heap.size + 1) w.heap.size w5.heap.size (w5.heap.size + 1 + 1)] 1)) := below_alloc (below_alloc (below_alloc (Below.refl _ _) _) _) _
 refine ⟨below_then bb bb.size bA, by omega, by omega, by omega, ?_, ?_, ?_, ?_, ?_, ?_, ?_, ?_⟩
 ·
  intro x hx; simp only [List.mem_cons, List.mem_nil_iff, or_false] at hx; rcases hx with rfl | rfl | rfl <;> simp <;> omega
 ·
  intro x hx; simp only [List.mem_cons, List.mem_nil_iff, or_false] at hx; rcases hx with rfl | rfl | rfl <;> simp <;> omega
 ·
  intro x hx
  simp only [List.mem_cons, List.mem_nil_iff, or_false] at hx
  rcases hx with rfl | rfl | rfl
  ·
   exact blk_below c1 bA
  ·
   exact blk_below c0 bA
  ·
   have := blk_new ((w5.alloc (.cells #[.slice (some ⟨w.heap.size + 1 + 1, 0, none⟩) 0 0] 38)).alloc (.cells #[.slice Aq q.length cq] 22)) (.cells #[impl_grown_1.self (w.heap.size + 1) (w5.heap.size + 1) w.heap.size w5.heap.size (w5.heap.size + 1 + 1)] 1)
   simpa using this
 ·
  have := blk_alloc (blk_new (w5.alloc (.cells #[.slice (some ⟨w.heap.size + 1 + 1, 0, none⟩) 0 0] 38)) (.cells #[.slice Aq q.length cq] 22)) (.cells #[impl_grown_1.self (w.heap.size + 1) (w5.heap.size + 1) w.heap.size w5.heap.size (w5.heap.size + 1 + 1)] 1)
  simpa using this
 ·
  exact blk_alloc (blk_alloc (blk_new _ _) _) _
 ·
  intro k hk
  have h1 := hlq k hk
  have h2 := hbq k hk
  refine ⟨by omega, by omega, ?_⟩
  intro x hx; simp only [List.mem_cons, List.mem_nil_iff, or_false] at hx; rcases hx with rfl | rfl | rfl <;> simp <;> omega
 ·
  exact Kd.R_below (Kd.R_lower (Kd.R_tight rfl hq) (by rw [hz]; omega)) bA
 ·
  refine Kd.S_mono (Kd.S_below hS bA) ?_
  rintro k rfl
  refine ⟨fun e => by have := hbq _ e.symm; omega, by omega, by omega, ?_⟩
  intro x hx; simp only [List.mem_cons, List.mem_nil_iff, or_false] at hx; rcases hx with rfl | rfl | rfl <;> simp <;> omega
theorem impl_grown.calls (k : Nat) (a0 : Int) (A1 : Option Addr) (c1 : Nat) (l1 : List Int) (v2 : Value) (a2 : FnT50) (r : List (List Int)) (w : World) (hr1 : Kd.C (Kd.int .i64) w A1 l1.length l1) (hc1 : l1.length ≤ c1) (hF2 : FnOk50 w v2 a2) (h : impl_grown.f k a0 l1 a2 = some r) :
  Calls Try.prog 177 #[.int .i64 a0, .slice A1 l1.length c1, v2] w fun e w' => ∃ v0_ : Value, e = .returned (v0_) ∧ Kd.S (Kd.slice 3 (Kd.int .i64)) 22 w' w.heap.size (fun _ => True) v0_ r ∧ Below w.heap.size w w' := by
 obtain ⟨q, A2, H⟩ := Option.bind_eq_some_iff.mp h
 clear h
 have hq : q = l1 := by
  unfold slices_Clone_int_int.f at A2
  split at A2
  ·
   exact (Option.some.inj A2).symm
  ·
   cases A2
 obtain ⟨fv, cap, hv⟩ : ∃ fv cap, v2 = .func (.func fv) #[] cap := by
  cases k with
  | zero => exact absurd H (by simp [impl_grown_1.f])
  | succ k =>
   simp only [impl_grown_1.f] at H
   obtain ⟨b, hb, _⟩ := Option.bind_eq_some_iff.mp H
   rw [hq] at hb
   obtain ⟨fv, cap, _, hv, _⟩ := hF2 A1 c1 l1 b w hr1 hc1 hb (Below.refl _ _)
   exact ⟨fv, cap, hv⟩
 subst hv
 clear hq
 replace A2 := A_ A2
 replace H := A_ H
 have HR1 := A_ hr1
 have HC1 := A_ hc1
 have HF := A_ hF2
 clear hr1 hc1 hF2
 have HB := A_ (Below.refl w.heap.size w)
 have hmf_ : ∀ (fn : Go.Fn) (first cap : Array Value) (w : World), (Instr.makeFunc fn first cap).run Try.prog w = .ok (.func fn first cap) w := fun _ _ _ _ => rfl
 go_enter Try.func177, Try.ntmps177
 go_wp2_with (first | (refine gc_ 196 ?_; refine goesL_ (some 12) rfl rfl Try.func196 (by kernel_rfl) rfl #[.slice A1 l1.length c1] rfl (by (try simp only [List.map_toArray, List.map_cons, List.map_nil]); first | done | rfl) ?_; (with_reducible refine (slices_Clone_int_int.calls A1 c1 l1 q _ ?q1 ?q2 ?q3).mono ?_); (case q1 => exact (Kd.C_below HR1.out tb_)); (case q2 => exact HC1.out); (case q3 => exact A2.out); rintro e w5 ⟨vq, rfl, ho, hb⟩; refine ⟨_, rfl, ?_⟩; obtain ⟨Aq, cq, eq⟩ := Kd.R_slice ho; subst eq; have HI := A_ (impl_grown.init w w5 a0 _ Aq cq q hb ho); clear ho hb))
 refine (impl_grown_1.calls k w _ _ _ _ _ _ a2 a0 _ _ _ q [] r HI.out HF.out ?q4).mono ?_
 case q4 => exact H.out
 rintro e w8 ⟨rfl, vq8, vo8, hs⟩
 obtain ⟨A8, c8, e8⟩ := Kd.S_slice hs.ho
 subst e8
 have HS8 := A_ hs
 clear hs
 have hco8 := HS8.out.cello
 go_wp2
 go_ret
 exact ⟨_, rfl, Kd.S_mono HS8.out.ho (fun _ _ => trivial), HS8.out.bel⟩

def impl_areQueens.fn : FnT50 := fun l0 => Fn.lim fun k => impl_areQueens.f k l0
theorem impl_areQueens.fnok (w : World) : FnOk50 w (.func (.func 175) #[] #[]) impl_areQueens.fn := fun A0 c0 l0 r W hr0 hc0 h _ => by
  obtain ⟨k, h⟩ := Fn.lim_get h
  exact ⟨175, #[], _, rfl, Try.func175, by kernel_rfl, rfl, by simpa using (impl_areQueens.calls k A0 c0 l0 r W hr0 hc0 h).mono fun e w' ⟨he, hd⟩ => ⟨he, hd⟩⟩

/-! ### impl_AllQueens: function 68 -/
def impl_AllQueens.f (k : Nat) (a0 : Int) : Option ((List (List Int)) × Bool) := (impl_isMany.f a0).bind fun t1165 => (if t1165 = true then ((impl_grown.f k a0 ([] : List Int) impl_areQueens.fn).bind fun t1166 => (some (t1166, true))) else (some (([] : List (List Int)), false)))
theorem impl_AllQueens.mono : ∀ a0 k, LeO (impl_AllQueens.f k a0) (impl_AllQueens.f (k + 1) a0) := by
 intro a0 k
 unfold impl_AllQueens.f
 repeat' first | (with_reducible first | exact impl_grown.mono _ _ _ _ | exact LeO.refl _ | exact LeO.none _ | refine LeO.ite ?_ ?_ | refine LeO.bind ?_ (fun _ => ?_)) | exact impl_grown.mono _ _ _ _ | exact LeO.none _ | refine LeO.ite ?_ ?_ | refine LeO.bind ?_ (fun _ => ?_)
theorem impl_AllQueens.calls (k : Nat) (a0 : Int) (r1 : List (List Int)) (r2 : Bool) (w : World) (h : impl_AllQueens.f k a0 = some (r1, r2)) :
  Calls Try.prog 68 #[.int .i64 a0] w fun e w' => ∃ v0_ : Value, e = .returned (.tuple #[v0_, .bool r2]) ∧ Kd.S (Kd.slice 3 (Kd.int .i64)) 22 w' w.heap.size (fun _ => True) v0_ r1 ∧ Below w.heap.size w w' := by
 have HB := A_ (Below.refl w.heap.size w)
 have H : ((impl_isMany.f a0).bind fun t1165 => (if t1165 = true then ((impl_grown.f k a0 ([] : List Int) impl_areQueens.fn).bind fun t1166 => (some (t1166, true))) else (some (([] : List (List Int)), false)))) = some (r1, r2) := h
 clear h
 replace H := Option.bind_eq_some_iff.mp H
 obtain ⟨t1165, A20, H⟩ := H
 replace H : (if t1165 = true then ((impl_grown.f k a0 ([] : List Int) impl_areQueens.fn).bind fun t1166 => (some (t1166, true))) else (some (([] : List (List Int)), false))) = some (r1, r2) := H
 have A2 := A_ A20
 clear A20
 by_cases c3 : t1165 = true
 ·
  subst c3
  have H1 : ((impl_grown.f k a0 ([] : List Int) impl_areQueens.fn).bind fun t1166 => (some (t1166, true))) = some (r1, r2) := by rw [if_pos rfl] at H; exact H
  clear H
  have H := H1
  clear H1
  replace H := Option.bind_eq_some_iff.mp H
  obtain ⟨t1166, A40, H⟩ := H
  replace H : (some (t1166, true)) = some (r1, r2) := H
  have A4 := A_ A40
  clear A40
  simp only [Option.some.injEq, Prod.mk.injEq] at H
  obtain ⟨rfl, rfl⟩ := H
  go_enter Try.func68, Try.ntmps68
  go_wp2_with (first | (refine gc_ 161 ?_; refine goesT_ (some 5) Try.func161 #[.int .i64 a0] ?_; (with_reducible refine (impl_isMany.calls a0 true _ A2.out).mono ?_); rintro e w' ⟨rfl, ⟨nd, rfl⟩⟩; refine ⟨_, rfl, ?_⟩) | (refine gc_ 177 ?_; refine goesT_ (some 8) Try.func177 #[.int .i64 a0, .slice none 0 0, .func (.func 175) #[] #[]] ?_; (refine (impl_grown.calls k a0 _ _ ([] : List Int) (.func (.func 175) #[] #[]) impl_areQueens.fn t1166 _ ?side1 ?side2 ?side3 A4.out).mono ?_); (case side1 => exact Kd.C_nil _ _); (case side2 => exact Nat.le_refl _); (case side3 => exact impl_areQueens.fnok _); rintro e w5 ⟨v1167, rfl, ho0, hb⟩; refine ⟨_, rfl, ?_⟩; have HO1168 := A_ (Kd.S_lower ho0 (below_size tb_)); replace HB := A_ (below_step tb_ hb); (try clear hb); (try clear ho0)))
  go_ret2
  exact ⟨_, te_, by (with_reducible repeat (first | apply Kd.S_alloc | apply Kd.S_drewN | apply Kd.S_drew)); exact HO1168.out, tb_⟩
 ·
  replace c3 := Bool.eq_false_iff.mpr c3
  subst c3
  have H1 : (some (([] : List (List Int)), false)) = some (r1, r2) := by rw [if_neg (show ¬ (false = true) by decide)] at H; exact H
  clear H
  have H := H1
  clear H1
  simp only [Option.some.injEq, Prod.mk.injEq] at H
  obtain ⟨rfl, rfl⟩ := H
  go_enter Try.func68, Try.ntmps68
  go_wp2_with (first | (refine gc_ 161 ?_; refine goesT_ (some 5) Try.func161 #[.int .i64 a0] ?_; (with_reducible refine (impl_isMany.calls a0 false _ A2.out).mono ?_); rintro e w' ⟨rfl, ⟨nd, rfl⟩⟩; refine ⟨_, rfl, ?_⟩))
  go_ret2
  exact ⟨_, te_, by first | exact Kd.S_nil _ _ _ _ _ | exact Kd.N_nil _ _ _ _ _ | exact Kd.V_nil _ _ _ _ _ | exact Kd.Q_nil _ _ _ _ _ | exact Kd.R_nil _ _ _ _ _, tb_⟩

/-! ### impl_CountQueens: function 70 -/
def impl_CountQueens.f (k : Nat) (a0 : Int) : Option (Int × Bool) := (impl_AllQueens.f k a0).bind fun bt1173 => (some ((bt1173.1.length : Int), bt1173.2))
theorem impl_CountQueens.mono : ∀ a0 k, LeO (impl_CountQueens.f k a0) (impl_CountQueens.f (k + 1) a0) := by
 intro a0 k
 unfold impl_CountQueens.f
 repeat' first | (with_reducible first | exact impl_AllQueens.mono _ _ | exact LeO.refl _ | exact LeO.none _ | refine LeO.ite ?_ ?_ | refine LeO.bind ?_ (fun _ => ?_)) | exact impl_AllQueens.mono _ _ | exact LeO.none _ | refine LeO.ite ?_ ?_ | refine LeO.bind ?_ (fun _ => ?_)
theorem impl_CountQueens.calls (k : Nat) (a0 : Int) (r1 : Int) (r2 : Bool) (w : World) (h : impl_CountQueens.f k a0 = some (r1, r2)) :
  Calls Try.prog 70 #[.int .i64 a0] w fun e w' => e = .returned (.tuple #[.int .i64 r1, .bool r2]) ∧ Below w.heap.size w w' := by
 have HB := A_ (Below.refl w.heap.size w)
 have H : ((impl_AllQueens.f k a0).bind fun bt1173 => (some ((bt1173.1.length : Int), bt1173.2))) = some (r1, r2) := h
 clear h
 replace H := Option.bind_eq_some_iff.mp H
 obtain ⟨⟨t1173, t1174⟩, A20, H⟩ := H
 replace H : (some ((t1173.length : Int), t1174)) = some (r1, r2) := H
 have A2 := A_ A20
 clear A20
 simp only [Option.some.injEq, Prod.mk.injEq] at H
 obtain ⟨rfl, rfl⟩ := H
 go_enter Try.func70, Try.ntmps70
 go_wp2_with (first | (refine gc_ 68 ?_; refine goesT_ (some 8) Try.func68 #[.int .i64 a0] ?_; (with_reducible refine (impl_AllQueens.calls k a0 t1173 t1174 _ A2.out).mono ?_); rintro e w3 ⟨v1175, rfl, ho0, hb⟩; refine ⟨_, rfl, ?_⟩; have HO1176 := A_ (Kd.S_lower ho0 (below_size tb_)); replace HB := A_ (below_step tb_ hb); (try clear hb); (try clear ho0); obtain ⟨Ao4, co4, eo4⟩ := Kd.S_slice HO1176.out; subst eo4))
 go_ret2
 exact ⟨te_, tb_⟩

/-! ### spec_CountQueens: function 71 -/
def spec_CountQueens.f (k : Nat) (a0 : Int) : Option (Int × Bool) := (spec_quSide.f a0).bind fun t1177 => (if t1177 = true then ((spec_quAll.f k a0 ([] : List Int)).bind fun t1178 => (some ((t1178.length : Int), true))) else (some (0, false)))
theorem spec_CountQueens.mono : ∀ a0 k, LeO (spec_CountQueens.f k a0) (spec_CountQueens.f (k + 1) a0) := by
 intro a0 k
 unfold spec_CountQueens.f
 repeat' first | (with_reducible first | exact spec_quAll.mono _ _ _ | exact LeO.refl _ | exact LeO.none _ | refine LeO.ite ?_ ?_ | refine LeO.bind ?_ (fun _ => ?_)) | exact spec_quAll.mono _ _ _ | exact LeO.none _ | refine LeO.ite ?_ ?_ | refine LeO.bind ?_ (fun _ => ?_)
theorem spec_CountQueens.calls (k : Nat) (a0 : Int) (r1 : Int) (r2 : Bool) (w : World) (h : spec_CountQueens.f k a0 = some (r1, r2)) :
  Calls Try.prog 71 #[.int .i64 a0] w fun e w' => e = .returned (.tuple #[.int .i64 r1, .bool r2]) ∧ Below w.heap.size w w' := by
 have HB := A_ (Below.refl w.heap.size w)
 have H : ((spec_quSide.f a0).bind fun t1177 => (if t1177 = true then ((spec_quAll.f k a0 ([] : List Int)).bind fun t1178 => (some ((t1178.length : Int), true))) else (some (0, false)))) = some (r1, r2) := h
 clear h
 replace H := Option.bind_eq_some_iff.mp H
 obtain ⟨t1177, A20, H⟩ := H
 replace H : (if t1177 = true then ((spec_quAll.f k a0 ([] : List Int)).bind fun t1178 => (some ((t1178.length : Int), true))) else (some (0, false))) = some (r1, r2) := H
 have A2 := A_ A20
 clear A20
 by_cases c3 : t1177 = true
 ·
  subst c3
  have H1 : ((spec_quAll.f k a0 ([] : List Int)).bind fun t1178 => (some ((t1178.length : Int), true))) = some (r1, r2) := by rw [if_pos rfl] at H; exact H
  clear H
  have H := H1
  clear H1
  replace H := Option.bind_eq_some_iff.mp H
  obtain ⟨t1178, A40, H⟩ := H
  replace H : (some ((t1178.length : Int), true)) = some (r1, r2) := H
  have A4 := A_ A40
  clear A40
  simp only [Option.some.injEq, Prod.mk.injEq] at H
  obtain ⟨rfl, rfl⟩ := H
  go_enter Try.func71, Try.ntmps71
  go_wp2_with (first | (refine gc_ 167 ?_; refine goesT_ (some 5) Try.func167 #[.int .i64 a0] ?_; (with_reducible refine (spec_quSide.calls a0 true _ A2.out).mono ?_); rintro e w' ⟨rfl, ⟨nd, rfl⟩⟩; refine ⟨_, rfl, ?_⟩) | (refine gc_ 178 ?_; refine goesT_ (some 8) Try.func178 #[.int .i64 a0, .slice none 0 0] ?_; (refine (spec_quAll.calls k a0 _ _ ([] : List Int) t1178 _ ?side1 ?side2 A4.out).mono ?_); (case side1 => exact Kd.C_nil _ _); (case side2 => exact Nat.le_refl _); rintro e w5 ⟨v1179, rfl, ho0, hb⟩; refine ⟨_, rfl, ?_⟩; have HO1180 := A_ (Kd.N_lower (Kd.N_mono (ok' := fun k_ => True) ho0 (fun k_ hk_ => trivial)) (below_size tb_)); replace HB := A_ (below_step tb_ hb); (try clear hb); (try clear ho0); obtain ⟨Ao6, co6, eo6⟩ := Kd.N_slice HO1180.out; subst eo6))
  go_ret2
  exact ⟨te_, tb_⟩
 ·
  replace c3 := Bool.eq_false_iff.mpr c3
  subst c3
  have H1 : (some (0, false)) = some (r1, r2) := by rw [if_neg (show ¬ (false = true) by decide)] at H; exact H
  clear H
  have H := H1
  clear H1
  simp only [Option.some.injEq, Prod.mk.injEq] at H
  obtain ⟨rfl, rfl⟩ := H
  go_enter Try.func71, Try.ntmps71
  go_wp2_with (first | (refine gc_ 167 ?_; refine goesT_ (some 5) Try.func167 #[.int .i64 a0] ?_; (with_reducible refine (spec_quSide.calls a0 false _ A2.out).mono ?_); rintro e w' ⟨rfl, ⟨nd, rfl⟩⟩; refine ⟨_, rfl, ?_⟩))
  go_ret2
  exact ⟨te_, tb_⟩

/-! ### laws_kLess: function 75 -/
def laws_kLess.l0 : Nat → List Int → List Int → Int → Int → Option (Bool)
 | 0, _, _, _, _ => none
 | k + 1, x0, x1, x7, x8 => if x8 < x7 then (if 0 ≤ x8 then (if x8 < (x0.length : Int) then (if x8 < (x1.length : Int) then (if (rd x0 x8) = (rd x1 x8) then (laws_kLess.l0 k x0 x1 x7 (wrap64 (x8 + 1))) else (some (decide ((rd x0 x8) < (rd x1 x8))))) else (none)) else (none)) else (none)) else (some false)
def laws_kLess.f (k : Nat) (l0 : List Int) (l1 : List Int) : Option (Bool) := laws_kLess.l0 k l0 l1 (l0.length : Int) 0
theorem laws_kLess.mono_l : ∀ k, (∀ y0 y1 y2 y3, LeO (laws_kLess.l0 k y0 y1 y2 y3) (laws_kLess.l0 (k + 1) y0 y1 y2 y3))
 | 0 => fun _ _ _ _ r h => by simp [laws_kLess.l0] at h
 | k + 1 => by
  have ih0 := laws_kLess.mono_l k
  ·
   intro y0 y1 y2 y3
   unfold laws_kLess.l0
   repeat' first | (with_reducible first | exact ih0 _ _ _ _ | exact LeO.refl _ | exact LeO.none _ | refine LeO.ite ?_ ?_ | refine LeO.bind ?_ (fun _ => ?_)) | exact ih0 _ _ _ _ | exact LeO.none _ | refine LeO.ite ?_ ?_ | refine LeO.bind ?_ (fun _ => ?_)
theorem laws_kLess.mono : ∀ a0 a1 k, LeO (laws_kLess.f k a0 a1) (laws_kLess.f (k + 1) a0 a1) := by
 intro a0 a1 k
 have ih0 := laws_kLess.mono_l k
 unfold laws_kLess.f
 repeat' first | (with_reducible first | exact ih0 _ _ _ _ | exact LeO.refl _ | exact LeO.none _ | refine LeO.ite ?_ ?_ | refine LeO.bind ?_ (fun _ => ?_)) | exact ih0 _ _ _ _ | exact LeO.none _ | refine LeO.ite ?_ ?_ | refine LeO.bind ?_ (fun _ => ?_)
theorem laws_kLess.calls (k : Nat) (A0 : Option Addr) (c0 : Nat) (l0 : List Int) (A1 : Option Addr) (c1 : Nat) (l1 : List Int) (r : Bool) (w : World) (hr0 : Kd.C (Kd.int .i64) w A0 l0.length l0) (hc0 : l0.length ≤ c0) (hr1 : Kd.C (Kd.int .i64) w A1 l1.length l1) (hc1 : l1.length ≤ c1) (h : laws_kLess.f k l0 l1 = some r) :
  Calls Try.prog 75 #[.slice A0 l0.length c0, .slice A1 l1.length c1] w fun e w' => e = .returned (.bool r) ∧ Drawn0 w w' := by
 have HR0 := A_ hr0
 have HC0 := A_ hc0
 clear hr0 hc0
 have HR1 := A_ hr1
 have HC1 := A_ hc1
 clear hr1 hc1
 have H : (laws_kLess.l0 k l0 l1 (l0.length : Int) 0) = some r := h
 clear h
 have H' := A_ H
 clear H
 go_enter Try.func75, Try.ntmps75
 go_wp2
 repeat (go_quiet (fail); try go_wp2)
 go_loopg [8] k (fun kq v8 w' => ∃ (x8_1 : Int), v8 = .int .i64 x8_1 ∧ Aside0 (laws_kLess.l0 kq l0 l1 (l0.length : Int) x8_1 = some r) ∧ Aside0 (kq ≤ k) ∧ Drawn0 w w')
 case atStart => exact ⟨(0), tf_, H', ⟨Nat.le_refl _⟩, dr_⟩
 case round =>
  clear H'
  try clear c1
  try clear p2
  obtain ⟨x8_1, rfl, HA, HK1, ⟨m1, rfl⟩⟩ := hrel
  cases gk with
  | zero => exact absurd HA.out (by simp [laws_kLess.l0])
  | succ k1 =>
   have H := HA.out
   clear HA
   simp only [laws_kLess.l0] at H
   by_cases c3 : x8_1 < (l0.length : Int)
   ·
    rw [if_pos c3] at H
    have c3b0 := decide_eq_true c3
    clear c3
    by_cases c4 : 0 ≤ x8_1
    ·
     rw [if_pos c4] at H
     have c4b0 := decide_eq_true c4
     clear c4
     by_cases c5 : x8_1 < (l0.length : Int)
     ·
      rw [if_pos c5] at H
      have c5b0 := decide_eq_true c5
      clear c5
      by_cases c6 : x8_1 < (l1.length : Int)
      ·
       rw [if_pos c6] at H
       have c6b0 := decide_eq_true c6
       clear c6
       by_cases c7 : (rd l0 x8_1) = (rd l1 x8_1)
       ·
        rw [if_pos c7] at H
        have c7b0 : ((rd l0 x8_1) == (rd l1 x8_1)) = true := beq_iff_eq.mpr c7
        have c7b1 : ((rd l0 x8_1) != (rd l1 x8_1)) = false := bne_eq_false_iff_eq.mpr c7
        clear c7
        have H' := A_ H
        clear H
        have p1202 : 0 ≤ (x8_1 : Int) := od_
        have q1202 : x8_1 < (l0.length : Int) := od_
        obtain ⟨ad1202, e1202, hx1202_0⟩ := Kd.at_int HR0.out x8_1 p1202 q1202
        cases e1202
        replace p1202 := eq_true p1202
        replace q1202 := eq_true q1202
        have p1203 : 0 ≤ (x8_1 : Int) := od_
        have q1203 : x8_1 < (l1.length : Int) := od_
        obtain ⟨ad1203, e1203, hx1203_0⟩ := Kd.at_int HR1.out x8_1 p1203 q1203
        cases e1203
        replace p1203 := eq_true p1203
        replace q1203 := eq_true q1203
        go_wp2
        repeat (go_quiet (fail); try go_wp2)
        go_roundg k1
        case measure => have := HK1.out; omega
        case rel => exact ⟨(wrap64 (x8_1 + 1)), tf_, H', ⟨by have := HK1.out; omega⟩, dr_⟩
       ·
        rw [if_neg c7] at H
        have c7b0 : ((rd l0 x8_1) == (rd l1 x8_1)) = false := beq_eq_false_iff_ne.mpr c7
        have c7b1 : ((rd l0 x8_1) != (rd l1 x8_1)) = true := bne_iff_ne.mpr c7
        obtain rfl := Option.some.inj H
        have p1202 : 0 ≤ (x8_1 : Int) := od_
        have q1202 : x8_1 < (l0.length : Int) := od_
        obtain ⟨ad1202, e1202, hx1202_0⟩ := Kd.at_int HR0.out x8_1 p1202 q1202
        cases e1202
        replace p1202 := eq_true p1202
        replace q1202 := eq_true q1202
        have p1203 : 0 ≤ (x8_1 : Int) := od_
        have q1203 : x8_1 < (l1.length : Int) := od_
        obtain ⟨ad1203, e1203, hx1203_0⟩ := Kd.at_int HR1.out x8_1 p1203 q1203
        cases e1203
        replace p1203 := eq_true p1203
        replace q1203 := eq_true q1203
        have p1204 : 0 ≤ (x8_1 : Int) := od_
        have q1204 : x8_1 < (l0.length : Int) := od_
        obtain ⟨ad1204, e1204, hx1204_0⟩ := Kd.at_int HR0.out x8_1 p1204 q1204
        obtain rfl : ad1202 = ad1204 := (by injection e1204)
        replace p1204 := eq_true p1204
        replace q1204 := eq_true q1204
        have p1205 : 0 ≤ (x8_1 : Int) := od_
        have q1205 : x8_1 < (l1.length : Int) := od_
        obtain ⟨ad1205, e1205, hx1205_0⟩ := Kd.at_int HR1.out x8_1 p1205 q1205
        obtain rfl : ad1203 = ad1205 := (by injection e1205)
        replace p1205 := eq_true p1205
        replace q1205 := eq_true q1205
        go_wp2
        repeat (go_quiet (fail); try go_wp2)
        go_ret
        exact ⟨tf_, dr_⟩
      ·
       rw [if_neg c6] at H
       exact absurd H (by simp)
     ·
      rw [if_neg c5] at H
      exact absurd H (by simp)
    ·
     rw [if_neg c4] at H
     exact absurd H (by simp)
   ·
    rw [if_neg c3] at H
    have c3b0 := decide_eq_false c3
    clear c3
    obtain rfl := Option.some.inj H
    go_wp2
    repeat (go_quiet (fail); try go_wp2)
    go_ret
    exact ⟨tf_, dr_⟩

/-! ### spec_DrawAreQueens: function 186 -/
def spec_DrawAreQueens.f (k : Nat) (l0 : List Int) : Option (List Int) := (spec_l1Cur_queens.f k l0 0 0).bind fun bt1259 => (some bt1259.1)
theorem spec_DrawAreQueens.mono : ∀ a0 k, LeO (spec_DrawAreQueens.f k a0) (spec_DrawAreQueens.f (k + 1) a0) := by
 intro a0 k
 unfold spec_DrawAreQueens.f
 repeat' first | (with_reducible first | exact spec_l1Cur_queens.mono _ _ _ _ | exact LeO.refl _ | exact LeO.none _ | refine LeO.ite ?_ ?_ | refine LeO.bind ?_ (fun _ => ?_)) | exact spec_l1Cur_queens.mono _ _ _ _ | exact LeO.none _ | refine LeO.ite ?_ ?_ | refine LeO.bind ?_ (fun _ => ?_)
theorem spec_DrawAreQueens.calls (k : Nat) (A0 : Option Addr) (c0 : Nat) (l0 : List Int) (r : List Int) (w : World) (hr0 : Kd.C (Kd.int .u8) w A0 l0.length l0) (hc0 : l0.length ≤ c0) (h : spec_DrawAreQueens.f k l0 = some r) :
  Calls Try.prog 186 #[.slice A0 l0.length c0] w fun e w' => ∃ v0_ : Value, e = .returned (v0_) ∧ Kd.R (Kd.int .i64) 3 w' w.heap.size (fun _ => True) v0_ r ∧ Below w.heap.size w w' := by
 have hu122 := Try.underlying122
 have HR0 := A_ hr0
 have HC0 := A_ hc0
 clear hr0 hc0
 have HB := A_ (Below.refl w.heap.size w)
 have H : ((spec_l1Cur_queens.f k l0 0 0).bind fun bt1259 => (some bt1259.1)) = some r := h
 clear h
 replace H := Option.bind_eq_some_iff.mp H
 obtain ⟨⟨t1259, t1262, t1263⟩, A20, H⟩ := H
 replace H : (some t1259) = some r := H
 have A2 := A_ A20
 clear A20
 obtain rfl := Option.some.inj H
 go_enter Try.func186, Try.ntmps186
 go_wp2_with (first | (refine gd_ 6 ?_; refine bx_ 6 #[.slice A0 l0.length c0, .int .i64 0, .int .u64 0] 122 ?_; intro gb1258 hg w3 hbox hb; have HI1258 := A_ ((⟨_, _, hbox, (by rw [hg]; exact (below_size tb_)), HR0.out⟩ : IsS122 w w3 gb1258 l0 0 0)); replace HB := A_ (below_step tb_ hb); clear hb hbox hg) | (refine gc_ 181 ?_; refine goesT_ (some 8) Try.func181 #[.pointer (some ⟨gb1258, 0, none⟩)] ?_; (with_reducible refine (spec_l1Cur_queens.calls k gb1258 l0 0 0 t1259 t1262 t1263 w _ ?side1 ?side2 A2.out).mono ?_); (case side1 => repeat (first | (with_reducible first | exact HI1258.out | apply IsS122.alloc | apply IsS122.drewN | apply IsS122.drew | apply IsS122.set_1 | apply IsS122.set_2) | exact HI1258.out)); (case side2 => repeat (first | (with_reducible first | exact HB.out | apply below_alloc | apply pw_below_drewN | apply below_drew1 | refine below_set ?_ (IsS122.ge HI1258.out)) | exact HB.out)); rintro e w4 ⟨v1260, rfl, ho0, hi, hb, hk⟩; refine ⟨_, rfl, ?_⟩; have HO1261 := A_ (Kd.R_lower ho0 (below_size (by repeat (first | (with_reducible first | exact HB.out | apply below_alloc | apply pw_below_drewN | apply below_drew1 | refine below_set ?_ (IsS122.ge HI1258.out)) | exact HB.out)))); replace HB := A_ (hb); replace HI1258 := A_ (hi); (try clear hb); (try clear hb2); (try clear hk); (try clear hi); (try clear ho0)))
 go_ret
 exact ⟨_, te_, tr_x HO1261.out, by repeat (first | (with_reducible first | exact HB.out | apply below_alloc | apply pw_below_drewN | apply below_drew1 | refine below_set ?_ (IsS122.ge HI1258.out)) | exact HB.out)⟩

/-! ### impl_AttacksOf: function 79 -/
mutual
def impl_AttacksOf.l0 : Nat → List Int → List (List Int) → List Int → Int → Int → Option ((List (List Int)) × Bool)
 | 0, _, _, _, _, _ => none
 | k + 1, x0, x4, x12, x13, x14 => if x14 < x13 then (if 0 ≤ x14 then (if x14 < (x12.length : Int) then (impl_AttacksOf.l1 k x0 x4 x14 (rd x12 x14) (wrap64 (x14 + 1)) x12 x13 x14) else (none)) else (none)) else (some (x4, true))
def impl_AttacksOf.l1 : Nat → List Int → List (List Int) → Int → Int → Int → List Int → Int → Int → Option ((List (List Int)) × Bool)
 | 0, _, _, _, _, _, _, _, _ => none
 | k + 1, x0, x4, x5, x6, x7, x12, x13, x14 => if x7 < (x0.length : Int) then (if 0 ≤ x7 then ((impl_attacked.f x5 x6 x7 (rd x0 x7)).bind fun t1273 => (if t1273 = true then (if x4.length < 5864062014805 then (impl_AttacksOf.l1 k x0 (x4 ++ [(([x5, x7] : List Int))]) x5 x6 (wrap64 (x7 + 1)) x12 x13 x14) else (none)) else (impl_AttacksOf.l1 k x0 x4 x5 x6 (wrap64 (x7 + 1)) x12 x13 x14))) else (none)) else (impl_AttacksOf.l0 k x0 x4 x12 x13 (wrap64 (x14 + 1)))
end
def impl_AttacksOf.f (k : Nat) (l0 : List Int) : Option ((List (List Int)) × Bool) := (impl_isList.f k l0).bind fun t1267 => (if t1267 = true then (impl_AttacksOf.l0 k l0 (([] : List (List Int))) l0 (l0.length : Int) 0) else (some (([] : List (List Int)), false)))
theorem impl_AttacksOf.mono_l : ∀ k, (∀ y0 y1 y2 y3 y4, LeO (impl_AttacksOf.l0 k y0 y1 y2 y3 y4) (impl_AttacksOf.l0 (k + 1) y0 y1 y2 y3 y4)) ∧ (∀ y0 y1 y2 y3 y4 y5 y6 y7, LeO (impl_AttacksOf.l1 k y0 y1 y2 y3 y4 y5 y6 y7) (impl_AttacksOf.l1 (k + 1) y0 y1 y2 y3 y4 y5 y6 y7))
 | 0 => ⟨fun _ _ _ _ _ r h => by simp [impl_AttacksOf.l0] at h, fun _ _ _ _ _ _ _ _ r h => by simp [impl_AttacksOf.l1] at h⟩
 | k + 1 => by
  obtain ⟨ih0, ih1⟩ := impl_AttacksOf.mono_l k
  refine ⟨?_, ?_⟩
  ·
   intro y0 y1 y2 y3 y4
   unfold impl_AttacksOf.l0
   repeat' first | (with_reducible first | exact ih0 _ _ _ _ _ | exact ih1 _ _ _ _ _ _ _ _ | exact impl_isList.mono _ _ | exact LeO.refl _ | exact LeO.none _ | refine LeO.ite ?_ ?_ | refine LeO.bind ?_ (fun _ => ?_)) | exact ih0 _ _ _ _ _ | exact ih1 _ _ _ _ _ _ _ _ | exact impl_isList.mono _ _ | exact LeO.none _ | refine LeO.ite ?_ ?_ | refine LeO.bind ?_ (fun _ => ?_)
  ·
   intro y0 y1 y2 y3 y4 y5 y6 y7
   unfold impl_AttacksOf.l1
   repeat' first | (with_reducible first | exact ih0 _ _ _ _ _ | exact ih1 _ _ _ _ _ _ _ _ | exact impl_isList.mono _ _ | exact LeO.refl _ | exact LeO.none _ | refine LeO.ite ?_ ?_ | refine LeO.bind ?_ (fun _ => ?_)) | exact ih0 _ _ _ _ _ | exact ih1 _ _ _ _ _ _ _ _ | exact impl_isList.mono _ _ | exact LeO.none _ | refine LeO.ite ?_ ?_ | refine LeO.bind ?_ (fun _ => ?_)
theorem impl_AttacksOf.mono : ∀ a0 k, LeO (impl_AttacksOf.f k a0) (impl_AttacksOf.f (k + 1) a0) := by
 intro a0 k
 obtain ⟨ih0, ih1⟩ := impl_AttacksOf.mono_l k
 unfold impl_AttacksOf.f
 repeat' first | (with_reducible first | exact ih0 _ _ _ _ _ | exact ih1 _ _ _ _ _ _ _ _ | exact impl_isList.mono _ _ | exact LeO.refl _ | exact LeO.none _ | refine LeO.ite ?_ ?_ | refine LeO.bind ?_ (fun _ => ?_)) | exact ih0 _ _ _ _ _ | exact ih1 _ _ _ _ _ _ _ _ | exact impl_isList.mono _ _ | exact LeO.none _ | refine LeO.ite ?_ ?_ | refine LeO.bind ?_ (fun _ => ?_)
theorem impl_AttacksOf.calls (k : Nat) (A0 : Option Addr) (c0 : Nat) (l0 : List Int) (r1 : List (List Int)) (r2 : Bool) (w : World) (hr0 : Kd.C (Kd.int .i64) w A0 l0.length l0) (hc0 : l0.length ≤ c0) (h : impl_AttacksOf.f k l0 = some (r1, r2)) :
  Calls Try.prog 79 #[.slice A0 l0.length c0] w fun e w' => ∃ v0_ : Value, e = .returned (.tuple #[v0_, .bool r2]) ∧ Kd.S (Kd.slice 3 (Kd.int .i64)) 22 w' w.heap.size (fun _ => True) v0_ r1 ∧ Below w.heap.size w w' := by
 have HR0 := A_ hr0
 have HC0 := A_ hc0
 clear hr0 hc0
 have HB := A_ (Below.refl w.heap.size w)
 have H : ((impl_isList.f k l0).bind fun t1267 => (if t1267 = true then (impl_AttacksOf.l0 k l0 (([] : List (List Int))) l0 (l0.length : Int) 0) else (some (([] : List (List Int)), false)))) = some (r1, r2) := h
 clear h
 replace H := Option.bind_eq_some_iff.mp H
 obtain ⟨t1267, A20, H⟩ := H
 replace H : (if t1267 = true then (impl_AttacksOf.l0 k l0 (([] : List (List Int))) l0 (l0.length : Int) 0) else (some (([] : List (List Int)), false))) = some (r1, r2) := H
 have A2 := A_ A20
 clear A20
 by_cases c3 : t1267 = true
 ·
  subst c3
  have H1 : (impl_AttacksOf.l0 k l0 (([] : List (List Int))) l0 (l0.length : Int) 0) = some (r1, r2) := by rw [if_pos rfl] at H; exact H
  clear H
  have H := H1
  clear H1
  obtain ⟨y1268, hy1268⟩ : ∃ y_ : List (List Int), y_ = (([] : List (List Int))) := ⟨_, rfl⟩
  replace H : (impl_AttacksOf.l0 k l0 y1268 l0 (l0.length : Int) 0) = some (r1, r2) := ty_ hy1268 H
  have Ny1268 := A_ hy1268
  clear hy1268
  have H' := A_ H
  clear H
  go_enter Try.func79, Try.ntmps79
  go_wp2_with (first | (refine gc_ 170 ?_; refine goesT_ (some 9) Try.func170 #[.slice A0 l0.length c0] ?_; (with_reducible refine (impl_isList.calls k _ _ l0 true _ ?side1 ?side2 A2.out).mono ?_); (case side1 => exact tc0_ HR0.out); (case side2 => exact HC0.out); rintro e w' ⟨rfl, ⟨nd, rfl⟩⟩; refine ⟨_, rfl, ?_⟩) | (refine gd_ 11 ?_; refine Kd.S_lit (Kd.slice 3 (Kd.int .i64)) _ 22 ?hg (N := 11) ?hd (xs := ([] : List (List Int))) (inner := []) (ok := fun _ => True) (okp := fun _ => True) ?hr ?hp (fun _ hk => hk) trivial (Below.refl _ _) (Nat.le_refl _) (by simp) ?_; (case hd => rfl); (case hg => rfl); (case hr => first | (go_simp; done) | (go_simp; rfl)); (case hp => exact (Reps.none _ _)); intro v1269 w4 ho5 hb hg_ hnew_; clear hg_ hnew_; (first | rw [← Ny1268.out] at ho5 | (simp only [Int.reduceToNat] at ho5; rw [← Ny1268.out] at ho5)); have HO1270 := A_ (Kd.S_lower ho5 (below_size tb_)); replace HB := A_ (below_step tb_ hb); clear hb ho5))
  go_loopg [4, 14] k (fun kq v4 v14 w' => ∃ (x4_1 : List (List Int)) (x14_1 : Int), v14 = .int .i64 x14_1 ∧ Aside0 (impl_AttacksOf.l0 kq l0 x4_1 l0 (l0.length : Int) x14_1 = some (r1, r2)) ∧ Aside0 (kq ≤ k) ∧ Aside0 (Kd.S (Kd.slice 3 (Kd.int .i64)) 22 w' w.heap.size (fun _ => True) v4 x4_1) ∧ Aside0 (Below w.heap.size w w'))
  case atStart => exact ⟨(y1268), (0), tf_, H', ⟨Nat.le_refl _⟩, ⟨ts1_x HO1270.out⟩, ⟨tb_⟩⟩
  case round =>
   clear H'
   try clear c1
   try clear p2
   try clear c3
   obtain ⟨x4_1, x14_1, rfl, HA, HK1, HO_4, HB⟩ := hrel
   cases gk with
   | zero => exact absurd HA.out (by simp [impl_AttacksOf.l0])
   | succ k1 =>
    have H := HA.out
    clear HA
    simp only [impl_AttacksOf.l0] at H
    by_cases c6 : x14_1 < (l0.length : Int)
    ·
     rw [if_pos c6] at H
     have c6b0 := decide_eq_true c6
     clear c6
     by_cases c7 : 0 ≤ x14_1
     ·
      rw [if_pos c7] at H
      have c7b0 := decide_eq_true c7
      clear c7
      by_cases c8 : x14_1 < (l0.length : Int)
      ·
       rw [if_pos c8] at H
       have c8b0 := decide_eq_true c8
       clear c8
       have H' := A_ H
       clear H
       have p1271 : 0 ≤ (x14_1 : Int) := od_
       have q1271 : x14_1 < (l0.length : Int) := od_
       obtain ⟨ad1271, e1271, hx1271_0⟩ := Kd.at_int HR0.out x14_1 p1271 q1271
       cases e1271
       (try replace hx1271_0 := (HB.out.cell (World.block_lt_of_cell? w _ hx1271_0)).trans hx1271_0)
       replace p1271 := eq_true p1271
       replace q1271 := eq_true q1271
       go_wp2
       go_loopg [4, 7] k1 (fun kq v4 v7 w' => ∃ (x4_2 : List (List Int)) (x7_2 : Int), v7 = .int .i64 x7_2 ∧ Aside0 (impl_AttacksOf.l1 kq l0 x4_2 x14_1 (rd l0 x14_1) x7_2 l0 (l0.length : Int) x14_1 = some (r1, r2)) ∧ Aside0 (kq ≤ k1) ∧ Aside0 (Kd.S (Kd.slice 3 (Kd.int .i64)) 22 w' w.heap.size (fun _ => True) v4 x4_2) ∧ Aside0 (Below w.heap.size w w'))
       case atStart => exact ⟨(x4_1), (wrap64 (x14_1 + 1)), tf_, H', ⟨Nat.le_refl _⟩, ⟨ts1_x HO_4.out⟩, ⟨tb_⟩⟩
       case round =>
        clear H'
        try clear c1
        try clear p1
        try clear q1
        try clear hx1
        try clear p2
        try clear c3
        try clear c6
        try clear c6b0
        try clear p6
        try clear c7
        try clear c7b0
        try clear c8
        try clear c8b0
        try clear hx1271_0
        try clear p1271
        try clear p2
        try clear q1271
        obtain ⟨x4_2, x7_2, rfl, HA, HK2, HO_4, HB⟩ := hrel
        cases gk with
        | zero => exact absurd HA.out (by simp [impl_AttacksOf.l1])
        | succ k2 =>
         have H := HA.out
         clear HA
         simp only [impl_AttacksOf.l1] at H
         by_cases c9 : x7_2 < (l0.length : Int)
         ·
          rw [if_pos c9] at H
          have c9b0 := decide_eq_true c9
          clear c9
          by_cases c10 : 0 ≤ x7_2
          ·
           rw [if_pos c10] at H
           have c10b0 := decide_eq_true c10
           clear c10
           replace H := Option.bind_eq_some_iff.mp H
           obtain ⟨t1273, A110, H⟩ := H
           replace H : (if t1273 = true then (if x4_2.length < 5864062014805 then (impl_AttacksOf.l1 k2 l0 (x4_2 ++ [(([x14_1, x7_2] : List Int))]) x14_1 (rd l0 x14_1) (wrap64 (x7_2 + 1)) l0 (l0.length : Int) x14_1) else (none)) else (impl_AttacksOf.l1 k2 l0 x4_2 x14_1 (rd l0 x14_1) (wrap64 (x7_2 + 1)) l0 (l0.length : Int) x14_1)) = some (r1, r2) := H
           have A11 := A_ A110
           clear A110
           by_cases c12 : t1273 = true
           ·
            subst c12
            have H1 : (if x4_2.length < 5864062014805 then (impl_AttacksOf.l1 k2 l0 (x4_2 ++ [(([x14_1, x7_2] : List Int))]) x14_1 (rd l0 x14_1) (wrap64 (x7_2 + 1)) l0 (l0.length : Int) x14_1) else (none)) = some (r1, r2) := by rw [if_pos rfl] at H; exact H
            clear H
            have H := H1
            clear H1
            obtain ⟨y1274, hy1274⟩ : ∃ y_ : List Int, y_ = (([x14_1, x7_2] : List Int)) := ⟨_, rfl⟩
            replace H : (if x4_2.length < 5864062014805 then (impl_AttacksOf.l1 k2 l0 (x4_2 ++ [y1274]) x14_1 (rd l0 x14_1) (wrap64 (x7_2 + 1)) l0 (l0.length : Int) x14_1) else (none)) = some (r1, r2) := ty_ hy1274 H
            have Ny1274 := A_ hy1274
            clear hy1274
            by_cases c13 : x4_2.length < 5864062014805
            ·
             rw [if_pos c13] at H
             have LMc13 := A_ c13
             clear c13
             obtain ⟨y1277, hy1277⟩ : ∃ y_ : List (List Int), y_ = (x4_2 ++ [y1274]) := ⟨_, rfl⟩
             replace H : (impl_AttacksOf.l1 k2 l0 y1277 x14_1 (rd l0 x14_1) (wrap64 (x7_2 + 1)) l0 (l0.length : Int) x14_1) = some (r1, r2) := ty_ hy1277 H
             have Ny1277 := A_ hy1277
             clear hy1277
             have H' := A_ H
             clear H
             have p1272 : 0 ≤ (x7_2 : Int) := od_
             have q1272 : x7_2 < (l0.length : Int) := od_
             obtain ⟨ad1272, e1272, hx1272_0⟩ := Kd.at_int HR0.out x7_2 p1272 q1272
             obtain rfl : ad1271 = ad1272 := (by injection e1272)
             (try replace hx1272_0 := (HB.out.cell (World.block_lt_of_cell? w _ hx1272_0)).trans hx1272_0)
             replace p1272 := eq_true p1272
             replace q1272 := eq_true q1272
             go_wp2_with (first | (refine gc_ 187 ?_; refine goesT_ (some 34) Try.func187 #[.int .i64 x14_1, .int .i64 (rd l0 x14_1), .int .i64 x7_2, .int .i64 (rd l0 x7_2)] ?_; (with_reducible refine (impl_attacked.calls x14_1 (rd l0 x14_1) x7_2 (rd l0 x7_2) true _ A11.out).mono ?_); rintro e w14 ⟨rfl, hb⟩; refine ⟨_, rfl, ?_⟩; replace HO_4 := A_ (Kd.S_below (ts1_x HO_4.out) hb); replace HB := A_ (below_step tb_ hb); (try clear hb)) | (refine gd_ 38 ?_; refine Kd.R_lit (Kd.int .i64) _ 3 ?hg (N := 38) ?hd (xs := ([x14_1, x7_2] : List Int)) (inner := [.int .i64 x14_1, .int .i64 x7_2]) (ok := fun _ => True) (okp := fun _ => True) ?hr ?hp (fun _ hk => hk) trivial (Below.refl _ _) (Nat.le_refl _) (by simp) ?_; (case hd => rfl); (case hg => rfl); (case hr => first | (go_simp; done) | (go_simp; rfl)); (case hp => exact (Reps.one (show Kd.M (Kd.int .i64) _ _ _ x14_1 [.int .i64 x14_1] from rfl) (Reps.one (show Kd.M (Kd.int .i64) _ _ _ x7_2 [.int .i64 x7_2] from rfl) (Reps.none _ _)))); intro v1275 w15 ho16 hb hg_ hnew_; clear hg_ hnew_; (first | rw [← Ny1274.out] at ho16 | (simp only [Int.reduceToNat] at ho16; rw [← Ny1274.out] at ho16)); replace HO_4 := A_ (Kd.S_elder' (ts1_x HO_4.out) (Kd.R_base ho16) hb); have HO1276 := A_ (Kd.R_lower ho16 (below_size tb_)); replace HB := A_ (below_step tb_ hb); clear hb ho16; obtain ⟨Ao18, co18, eo18⟩ := Kd.R_slice HO1276.out; subst eo18) | ((with_reducible refine gate_builtin (b := .append) (xs := #[.tmp 35, .tmp 39]) rfl ?_); at_builtin; refine Kd.S_append (Kd.slice 3 (Kd.int .i64)) (w0 := w) w.heap.size rfl (.tmp 35) (.tmp 39) 38 22 (.slice none 0 0) 24 rfl Try.underlying38 info22 rfl (by decide) (by omega) u4 x4_2 y1274 [.slice Ao18 y1274.length co18] (fun _ => True) (fun k_ => some k_ = (.slice Ao18 y1274.length co18 : Value).ownBlock) rfl rfl ?aP (fun k_ hk_ => ((Kd.R_mono (ok' := fun k_ => ((fun _ => True)) k_ ∧ some k_ ≠ (u4 : Value).ownBlock) (Kd.R_apart' (HO1276.out) (Kd.S_typed HO_4.out) (by decide)) (fun k_ hk => ⟨trivial, hk.2⟩))).1 k_ hk_.symm) ?aF ?aO ?aB ?aS ?aL ?_; (case aP => exact Kd.M_row (Kd.R_mono (Kd.R_tight rfl (Kd.R_mono (ok' := fun k_ => ((fun _ => True)) k_ ∧ some k_ ≠ (u4 : Value).ownBlock) (Kd.R_apart' (HO1276.out) (Kd.S_typed HO_4.out) (by decide)) (fun k_ hk => ⟨trivial, hk.2⟩))) (fun _ h_ => h_))); (case aB => exact tb_); (case aF => exact (fun _ _ => trivial)); (case aO => exact (ts1_ (h := by exact Kd.S_mono HO_4.out (fun k_ hk => ⟨trivial, fun e_ => hk.2 e_⟩)))); (case aS => exact (below_size tb_)); (case aL => have := LMc13.out; omega); intro v1278 w17 ho hb hg hat; rw [← Ny1277.out] at ho; have n0_ := A_ (hb); have n1_ := A_ (ho); clear HB; clear HO_4; clear HO1276; have HB := n0_; have HO1279 := n1_; clear n0_ n1_; clear ho hb hg hat))
             go_roundg k2
             case measure => have := HK1.out; have := HK2.out; omega
             case rel => exact ⟨(y1277), (wrap64 (x7_2 + 1)), tf_, H', ⟨by have := HK1.out; have := HK2.out; omega⟩, ⟨ts1_x HO1279.out⟩, ⟨tb_⟩⟩
            ·
             rw [if_neg c13] at H
             exact absurd H (by simp)
           ·
            replace c12 := Bool.eq_false_iff.mpr c12
            subst c12
            have H1 : (impl_AttacksOf.l1 k2 l0 x4_2 x14_1 (rd l0 x14_1) (wrap64 (x7_2 + 1)) l0 (l0.length : Int) x14_1) = some (r1, r2) := by rw [if_neg (show ¬ (false = true) by decide)] at H; exact H
            clear H
            have H := H1
            clear H1
            have H' := A_ H
            clear H
            have p1272 : 0 ≤ (x7_2 : Int) := od_
            have q1272 : x7_2 < (l0.length : Int) := od_
            obtain ⟨ad1272, e1272, hx1272_0⟩ := Kd.at_int HR0.out x7_2 p1272 q1272
            obtain rfl : ad1271 = ad1272 := (by injection e1272)
            (try replace hx1272_0 := (HB.out.cell (World.block_lt_of_cell? w _ hx1272_0)).trans hx1272_0)
            replace p1272 := eq_true p1272
            replace q1272 := eq_true q1272
            go_wp2_with (first | (refine gc_ 187 ?_; refine goesT_ (some 34) Try.func187 #[.int .i64 x14_1, .int .i64 (rd l0 x14_1), .int .i64 x7_2, .int .i64 (rd l0 x7_2)] ?_; (with_reducible refine (impl_attacked.calls x14_1 (rd l0 x14_1) x7_2 (rd l0 x7_2) false _ A11.out).mono ?_); rintro e w19 ⟨rfl, hb⟩; refine ⟨_, rfl, ?_⟩; replace HO_4 := A_ (Kd.S_below (ts1_x HO_4.out) hb); replace HB := A_ (below_step tb_ hb); (try clear hb)))
            go_roundg k2
            case measure => have := HK1.out; have := HK2.out; omega
            case rel => exact ⟨(x4_2), (wrap64 (x7_2 + 1)), tf_, H', ⟨by have := HK1.out; have := HK2.out; omega⟩, ⟨ts1_x HO_4.out⟩, ⟨tb_⟩⟩
          ·
           rw [if_neg c10] at H
           exact absurd H (by simp)
         ·
          rw [if_neg c9] at H
          have c9b0 := decide_eq_false c9
          clear c9
          have H' := A_ H
          clear H
          go_wp2
          go_roundg k2
          case measure => have := HK1.out; have := HK2.out; omega
          case rel => exact ⟨(x4_2), (wrap64 (x14_1 + 1)), tf_, H', ⟨by have := HK1.out; have := HK2.out; omega⟩, ⟨ts1_x HO_4.out⟩, ⟨tb_⟩⟩
      ·
       rw [if_neg c8] at H
       exact absurd H (by simp)
     ·
      rw [if_neg c7] at H
      exact absurd H (by simp)
    ·
     rw [if_neg c6] at H
     have c6b0 := decide_eq_false c6
     clear c6
     simp only [Option.some.injEq, Prod.mk.injEq] at H
     obtain ⟨rfl, rfl⟩ := H
     go_wp2
     go_ret2
     exact ⟨_, te_, by (with_reducible repeat (first | apply Kd.S_alloc | apply Kd.S_drewN | apply Kd.S_drew)); exact HO_4.out, tb_⟩
 ·
  replace c3 := Bool.eq_false_iff.mpr c3
  subst c3
  have H1 : (some (([] : List (List Int)), false)) = some (r1, r2) := by rw [if_neg (show ¬ (false = true) by decide)] at H; exact H
  clear H
  have H := H1
  clear H1
  simp only [Option.some.injEq, Prod.mk.injEq] at H
  obtain ⟨rfl, rfl⟩ := H
  go_enter Try.func79, Try.ntmps79
  go_wp2_with (first | (refine gc_ 170 ?_; refine goesT_ (some 9) Try.func170 #[.slice A0 l0.length c0] ?_; (with_reducible refine (impl_isList.calls k _ _ l0 false _ ?side1 ?side2 A2.out).mono ?_); (case side1 => exact tc0_ HR0.out); (case side2 => exact HC0.out); rintro e w' ⟨rfl, ⟨nd, rfl⟩⟩; refine ⟨_, rfl, ?_⟩))
  go_ret2
  exact ⟨_, te_, by first | exact Kd.S_nil _ _ _ _ _ | exact Kd.N_nil _ _ _ _ _ | exact Kd.V_nil _ _ _ _ _ | exact Kd.Q_nil _ _ _ _ _ | exact Kd.R_nil _ _ _ _ _, tb_⟩

/-! ### cmp_isNaN_int: function 270 -/
def cmp_isNaN_int.f (a0 : Int) : Option (Bool) := some (a0 != a0)
theorem cmp_isNaN_int.calls (a0 : Int) (r : Bool) (w : World) (h : cmp_isNaN_int.f a0 = some r) :
  Calls Try.prog 270 #[.int .i64 a0] w fun e w' => e = .returned (.bool r) ∧ Drawn0 w w' := by
 have H : (some (a0 != a0)) = some r := h
 clear h
 obtain rfl := Option.some.inj H
 go_enter Try.func270, Try.ntmps270
 go_wp2
 go_ret
 exact ⟨tf_, dr_⟩

/-! ### spec_DrawLeastQueens: function 95 -/
def spec_DrawLeastQueens.f (k : Nat) (l0 : List Int) : Option (List Int) := (spec_DrawAreQueens.f k l0).bind fun t1529 => (some t1529)
theorem spec_DrawLeastQueens.mono : ∀ a0 k, LeO (spec_DrawLeastQueens.f k a0) (spec_DrawLeastQueens.f (k + 1) a0) := by
 intro a0 k
 unfold spec_DrawLeastQueens.f
 repeat' first | (with_reducible first | exact spec_DrawAreQueens.mono _ _ | exact LeO.refl _ | exact LeO.none _ | refine LeO.ite ?_ ?_ | refine LeO.bind ?_ (fun _ => ?_)) | exact spec_DrawAreQueens.mono _ _ | exact LeO.none _ | refine LeO.ite ?_ ?_ | refine LeO.bind ?_ (fun _ => ?_)
theorem spec_DrawLeastQueens.calls (k : Nat) (A0 : Option Addr) (c0 : Nat) (l0 : List Int) (r : List Int) (w : World) (hr0 : Kd.C (Kd.int .u8) w A0 l0.length l0) (hc0 : l0.length ≤ c0) (h : spec_DrawLeastQueens.f k l0 = some r) :
  Calls Try.prog 95 #[.slice A0 l0.length c0] w fun e w' => ∃ v0_ : Value, e = .returned (v0_) ∧ Kd.R (Kd.int .i64) 3 w' w.heap.size (fun _ => True) v0_ r ∧ Below w.heap.size w w' := by
 have HR0 := A_ hr0
 have HC0 := A_ hc0
 clear hr0 hc0
 have HB := A_ (Below.refl w.heap.size w)
 have H : ((spec_DrawAreQueens.f k l0).bind fun t1529 => (some t1529)) = some r := h
 clear h
 replace H := Option.bind_eq_some_iff.mp H
 obtain ⟨t1529, A20, H⟩ := H
 replace H : (some t1529) = some r := H
 have A2 := A_ A20
 clear A20
 obtain rfl := Option.some.inj H
 go_enter Try.func95, Try.ntmps95
 go_wp2_with (first | (refine gc_ 186 ?_; refine goesT_ (some 4) Try.func186 #[.slice A0 l0.length c0] ?_; (with_reducible refine (spec_DrawAreQueens.calls k _ _ l0 t1529 _ ?side1 ?side2 A2.out).mono ?_); (case side1 => exact tc0_ HR0.out); (case side2 => exact HC0.out); rintro e w3 ⟨v1530, rfl, ho0, hb⟩; refine ⟨_, rfl, ?_⟩; have HO1531 := A_ (Kd.R_lower ho0 (below_size tb_)); replace HB := A_ (below_step tb_ hb); (try clear hb); (try clear ho0)))
 go_ret
 exact ⟨_, te_, tr_x HO1531.out, tb_⟩

/-! ### impl_turn: function 203 -/
def impl_turn.l0 : Nat → List Int → List Int → List Int → Int → Int → Option (List Int)
 | 0, _, _, _, _, _ => none
 | k + 1, x0, x3, x9, x10, x11 => if x11 < x10 then (if 0 ≤ x11 then (if x11 < (x9.length : Int) then (if 0 ≤ (rd x9 x11) then (if (rd x9 x11) < (x3.length : Int) then (impl_turn.l0 k x0 (x3.set ((rd x9 x11) : Int).toNat (wrap64 ((wrap64 ((x0.length : Int) - 1)) - x11))) x9 x10 (wrap64 (x11 + 1))) else (none)) else (none)) else (none)) else (none)) else (some x3)
def impl_turn.f (k : Nat) (l0 : List Int) : Option (List Int) := if 0 ≤ (l0.length : Int) then (if ((l0.length : Int) : Int).toNat ≤ 35184372088832 then (impl_turn.l0 k l0 (List.replicate ((l0.length : Int) : Int).toNat 0) l0 (l0.length : Int) 0) else (none)) else (none)
theorem impl_turn.mono_l : ∀ k, (∀ y0 y1 y2 y3 y4, LeO (impl_turn.l0 k y0 y1 y2 y3 y4) (impl_turn.l0 (k + 1) y0 y1 y2 y3 y4))
 | 0 => fun _ _ _ _ _ r h => by simp [impl_turn.l0] at h
 | k + 1 => by
  have ih0 := impl_turn.mono_l k
  ·
   intro y0 y1 y2 y3 y4
   unfold impl_turn.l0
   repeat' first | (with_reducible first | exact ih0 _ _ _ _ _ | exact LeO.refl _ | exact LeO.none _ | refine LeO.ite ?_ ?_ | refine LeO.bind ?_ (fun _ => ?_)) | exact ih0 _ _ _ _ _ | exact LeO.none _ | refine LeO.ite ?_ ?_ | refine LeO.bind ?_ (fun _ => ?_)
theorem impl_turn.mono : ∀ a0 k, LeO (impl_turn.f k a0) (impl_turn.f (k + 1) a0) := by
 intro a0 k
 have ih0 := impl_turn.mono_l k
 unfold impl_turn.f
 repeat' first | (with_reducible first | exact ih0 _ _ _ _ _ | exact LeO.refl _ | exact LeO.none _ | refine LeO.ite ?_ ?_ | refine LeO.bind ?_ (fun _ => ?_)) | exact ih0 _ _ _ _ _ | exact LeO.none _ | refine LeO.ite ?_ ?_ | refine LeO.bind ?_ (fun _ => ?_)
theorem impl_turn.calls (k : Nat) (A0 : Option Addr) (c0 : Nat) (l0 : List Int) (r : List Int) (w : World) (hr0 : Kd.C (Kd.int .i64) w A0 l0.length l0) (hc0 : l0.length ≤ c0) (h : impl_turn.f k l0 = some r) :
  Calls Try.prog 203 #[.slice A0 l0.length c0] w fun e w' => ∃ v0_ : Value, e = .returned (v0_) ∧ Kd.R (Kd.int .i64) 3 w' w.heap.size (fun _ => True) v0_ r ∧ Below w.heap.size w w' := by
 have HR0 := A_ hr0
 have HC0 := A_ hc0
 clear hr0 hc0
 have HB := A_ (Below.refl w.heap.size w)
 have H : (if 0 ≤ (l0.length : Int) then (if ((l0.length : Int) : Int).toNat ≤ 35184372088832 then (impl_turn.l0 k l0 (List.replicate ((l0.length : Int) : Int).toNat 0) l0 (l0.length : Int) 0) else (none)) else (none)) = some r := h
 clear h
 by_cases c2 : 0 ≤ (l0.length : Int)
 ·
  rw [if_pos c2] at H
  have c2b0 := eq_true c2
  have c2b1 := decide_eq_true c2
  clear c2
  by_cases c3 : ((l0.length : Int) : Int).toNat ≤ 35184372088832
  ·
   rw [if_pos c3] at H
   have c3b0 := eq_true c3
   have c3b1 := decide_eq_true c3
   clear c3
   obtain ⟨y1532, hy1532⟩ : ∃ y_ : List Int, y_ = (List.replicate ((l0.length : Int) : Int).toNat 0) := ⟨_, rfl⟩
   replace H : (impl_turn.l0 k l0 y1532 l0 (l0.length : Int) 0) = some r := ty_ hy1532 H
   have Ny1532 := A_ hy1532
   clear hy1532
   have H' := A_ H
   clear H
   go_enter Try.func203, Try.ntmps203
   go_wp2_with (first | (refine gd_ 8 ?_; refine Kd.R_make (Kd.int .i64) _ 3 rfl (N := 8) rfl 22 _ _ rfl (l0.length : Int) rfl rfl Try.underlying22 (.int .i64 0) 8 info3 rfl (by decide) (by omega) 0 (ok := fun _ => True) (okp := fun _ => True) rfl (fun _ hk => hk) trivial (od_) (Nat.le_trans (Nat.mul_le_mul_right _ (od_ : (l0.length : Int).toNat ≤ 35184372088832)) (by omega)) (Below.refl _ _) (Nat.le_refl _) ?_; intro v1533 w4 ho5 hb hg_ hnew_; clear hg_ hnew_; (first | rw [← Ny1532.out] at ho5 | (simp only [Int.reduceToNat] at ho5; rw [← Ny1532.out] at ho5)); have HO1534 := A_ (Kd.R_lower ho5 (below_size tb_)); replace HB := A_ (below_step tb_ hb); clear hb ho5))
   go_loopg [11] k (fun kq v11 w' => ∃ (x3_1 : List Int) (x11_1 : Int), v11 = .int .i64 x11_1 ∧ Aside0 (impl_turn.l0 kq l0 x3_1 l0 (l0.length : Int) x11_1 = some r) ∧ Aside0 (kq ≤ k) ∧ Aside0 (Kd.R (Kd.int .i64) 3 w' w.heap.size (fun _ => True) v1533 x3_1) ∧ Aside0 (Below w.heap.size w w'))
   case atStart => exact ⟨(y1532), (0), tf_, H', ⟨Nat.le_refl _⟩, ⟨tr_x HO1534.out⟩, ⟨tb_⟩⟩
   case round =>
    clear H'
    try clear c2
    try clear c2b0
    try clear c2b1
    try clear p2
    try clear c3
    try clear c3b0
    try clear c3b1
    obtain ⟨x3_1, x11_1, rfl, HA, HK1, HO_3, HB⟩ := hrel
    cases gk with
    | zero => exact absurd HA.out (by simp [impl_turn.l0])
    | succ k1 =>
     have H := HA.out
     clear HA
     simp only [impl_turn.l0] at H
     by_cases c6 : x11_1 < (l0.length : Int)
     ·
      rw [if_pos c6] at H
      have c6b0 := decide_eq_true c6
      clear c6
      by_cases c7 : 0 ≤ x11_1
      ·
       rw [if_pos c7] at H
       have c7b0 := decide_eq_true c7
       clear c7
       by_cases c8 : x11_1 < (l0.length : Int)
       ·
        rw [if_pos c8] at H
        have c8b0 := decide_eq_true c8
        clear c8
        by_cases c9 : 0 ≤ (rd l0 x11_1)
        ·
         rw [if_pos c9] at H
         have c9b0 := decide_eq_true c9
         clear c9
         by_cases c10 : (rd l0 x11_1) < (x3_1.length : Int)
         ·
          rw [if_pos c10] at H
          have c10b0 := decide_eq_true c10
          clear c10
          obtain ⟨y1536, hy1536⟩ : ∃ y_ : List Int, y_ = (x3_1.set ((rd l0 x11_1) : Int).toNat (wrap64 ((wrap64 ((l0.length : Int) - 1)) - x11_1))) := ⟨_, rfl⟩
          replace H : (impl_turn.l0 k1 l0 y1536 l0 (l0.length : Int) (wrap64 (x11_1 + 1))) = some r := ty_ hy1536 H
          have Ny1536 := A_ hy1536
          clear hy1536
          have H' := A_ H
          clear H
          have p1535 : 0 ≤ (x11_1 : Int) := od_
          have q1535 : x11_1 < (l0.length : Int) := od_
          obtain ⟨ad1535, e1535, hx1535_0⟩ := Kd.at_int HR0.out x11_1 p1535 q1535
          cases e1535
          (try replace hx1535_0 := (HB.out.cell (World.block_lt_of_cell? w _ hx1535_0)).trans hx1535_0)
          replace p1535 := eq_true p1535
          replace q1535 := eq_true q1535
          have p11 : 0 ≤ ((rd l0 x11_1) : Int) := od_
          have q11 : ((rd l0 x11_1) : Int) < ((x3_1.length : Int) : Int) := od_
          obtain ⟨go11, co11, eo11, gb11, gl11, cl11, HG11⟩ := Kd.R_form HO_3.out (by omega)
          (first | cases eo11 | (injection eo11 with ea_ en_ ec_; (first | subst ea_ | (injection ea_ with ea_; subst ea_)); subst ec_; clear en_))
          have GB11 := A_ gb11
          have GG11 := A_ HG11
          clear gb11 gl11 HG11
          obtain ⟨hx11_0, hf11_0⟩ := Kd.R_celln 0 HO_3.out ((rd l0 x11_1) : Int) p11 q11
          replace p11 := eq_true p11
          replace q11 := eq_true q11
          have HP12 := Kd.R_putg HO_3.out ((rd l0 x11_1) : Int) (wrap64 ((wrap64 ((l0.length : Int) - 1)) - x11_1))
          go_wp2_with (first | ((with_reducible refine gate_store (t := 3) (p := 23) rfl ?_); refine store_event (t := 3) (p := 23) (v := ?vo_w13) (w1 := (wr.setCell ⟨go11, ((rd l0 x11_1) : Int).toNat, none⟩ (.int .i64 (wrap64 ((wrap64 ((l0.length : Int) - 1)) - x11_1))))) ?hg ?ho ?hn ?hr ?_; (case ho => rfl); (case hg => rfl); (case hn => rfl); (case hr => first | (go_simp; done) | (go_simp; rfl)); intro w13 hw; have hg : wr.grownBy w13 (some go11) := (by rw [hw]; exact HP12.2); have hp_ : Kd.R (Kd.int .i64) 3 w13 w.heap.size (fun _ => True) (.slice (some ⟨go11, 0, none⟩) x3_1.length co11) y1536 := (by rw [hw, Ny1536.out]; exact HP12.1); clear HP12; replace HO_3 := A_ (hp_); replace HB := A_ ((by rw [hw]; exact below_set (HB.out) GB11.out : Below w.heap.size w w13)); clear hg hw hp_))
          go_roundg k1
          case measure => have := HK1.out; omega
          case rel => exact ⟨(y1536), (wrap64 (x11_1 + 1)), tf_, H', ⟨by have := HK1.out; omega⟩, ⟨tr_x HO_3.out⟩, ⟨tb_⟩⟩
         ·
          rw [if_neg c10] at H
          exact absurd H (by simp)
        ·
         rw [if_neg c9] at H
         exact absurd H (by simp)
       ·
        rw [if_neg c8] at H
        exact absurd H (by simp)
      ·
       rw [if_neg c7] at H
       exact absurd H (by simp)
     ·
      rw [if_neg c6] at H
      have c6b0 := decide_eq_false c6
      clear c6
      obtain rfl := Option.some.inj H
      go_wp2
      go_ret
      exact ⟨_, te_, tr_x HO_3.out, tb_⟩
  ·
   rw [if_neg c3] at H
   exact absurd H (by simp)
 ·
  rw [if_neg c2] at H
  exact absurd H (by simp)

/-! ### impl_mirror: function 205 -/
def impl_mirror.l0 : Nat → List Int → List Int → List Int → Int → Int → Option (List Int)
 | 0, _, _, _, _, _ => none
 | k + 1, x0, x3, x7, x8, x9 => if x9 < x8 then (if 0 ≤ x9 then (if x9 < (x7.length : Int) then (if x3.length < 17592186044416 then (impl_mirror.l0 k x0 (x3 ++ [wrap64 ((wrap64 ((x0.length : Int) - 1)) - (rd x7 x9))]) x7 x8 (wrap64 (x9 + 1))) else (none)) else (none)) else (none)) else (some x3)
def impl_mirror.f (k : Nat) (l0 : List Int) : Option (List Int) := impl_mirror.l0 k l0 (([] : List Int)) l0 (l0.length : Int) 0
theorem impl_mirror.mono_l : ∀ k, (∀ y0 y1 y2 y3 y4, LeO (impl_mirror.l0 k y0 y1 y2 y3 y4) (impl_mirror.l0 (k + 1) y0 y1 y2 y3 y4))
 | 0 => fun _ _ _ _ _ r h => by simp [impl_mirror.l0] at h
 | k + 1 => by
  have ih0 := impl_mirror.mono_l k
  ·
   intro y0 y1 y2 y3 y4
   unfold impl_mirror.l0
   repeat' first | (with_reducible first | exact ih0 _ _ _ _ _ | exact LeO.refl _ | exact LeO.none _ | refine LeO.ite ?_ ?_ | refine LeO.bind ?_ (fun _ => ?_)) | exact ih0 _ _ _ _ _ | exact LeO.none _ | refine LeO.ite ?_ ?_ | refine LeO.bind ?_ (fun _ => ?_)
theorem impl_mirror.mono : ∀ a0 k, LeO (impl_mirror.f k a0) (impl_mirror.f (k + 1) a0) := by
 intro a0 k
 have ih0 := impl_mirror.mono_l k
 unfold impl_mirror.f
 repeat' first | (with_reducible first | exact ih0 _ _ _ _ _ | exact LeO.refl _ | exact LeO.none _ | refine LeO.ite ?_ ?_ | refine LeO.bind ?_ (fun _ => ?_)) | exact ih0 _ _ _ _ _ | exact LeO.none _ | refine LeO.ite ?_ ?_ | refine LeO.bind ?_ (fun _ => ?_)
theorem impl_mirror.calls (k : Nat) (A0 : Option Addr) (c0 : Nat) (l0 : List Int) (r : List Int) (w : World) (hr0 : Kd.C (Kd.int .i64) w A0 l0.length l0) (hc0 : l0.length ≤ c0) (h : impl_mirror.f k l0 = some r) :
  Calls Try.prog 205 #[.slice A0 l0.length c0] w fun e w' => ∃ v0_ : Value, e = .returned (v0_) ∧ Kd.R (Kd.int .i64) 3 w' w.heap.size (fun _ => True) v0_ r ∧ Below w.heap.size w w' := by
 have HR0 := A_ hr0
 have HC0 := A_ hc0
 clear hr0 hc0
 have HB := A_ (Below.refl w.heap.size w)
 have H : (impl_mirror.l0 k l0 (([] : List Int)) l0 (l0.length : Int) 0) = some r := h
 clear h
 obtain ⟨y1537, hy1537⟩ : ∃ y_ : List Int, y_ = (([] : List Int)) := ⟨_, rfl⟩
 replace H : (impl_mirror.l0 k l0 y1537 l0 (l0.length : Int) 0) = some r := ty_ hy1537 H
 have Ny1537 := A_ hy1537
 clear hy1537
 have H' := A_ H
 clear H
 go_enter Try.func205, Try.ntmps205
 go_wp2_with (first | (refine gd_ 6 ?_; refine Kd.R_lit (Kd.int .i64) _ 3 ?hg (N := 6) ?hd (xs := ([] : List Int)) (inner := []) (ok := fun _ => True) (okp := fun _ => True) ?hr ?hp (fun _ hk => hk) trivial (Below.refl _ _) (Nat.le_refl _) (by simp) ?_; (case hd => rfl); (case hg => rfl); (case hr => first | (go_simp; done) | (go_simp; rfl)); (case hp => exact (Reps.none _ _)); intro v1538 w2 ho3 hb hg_ hnew_; clear hg_ hnew_; (first | rw [← Ny1537.out] at ho3 | (simp only [Int.reduceToNat] at ho3; rw [← Ny1537.out] at ho3)); have HO1539 := A_ (Kd.R_lower ho3 (below_size tb_)); replace HB := A_ (below_step tb_ hb); clear hb ho3))
 go_loopg [3, 9] k (fun kq v3 v9 w' => ∃ (x3_1 : List Int) (x9_1 : Int), v9 = .int .i64 x9_1 ∧ Aside0 (impl_mirror.l0 kq l0 x3_1 l0 (l0.length : Int) x9_1 = some r) ∧ Aside0 (kq ≤ k) ∧ Aside0 (Kd.R (Kd.int .i64) 3 w' w.heap.size (fun _ => True) v3 x3_1) ∧ Aside0 (Below w.heap.size w w'))
 case atStart => exact ⟨(y1537), (0), tf_, H', ⟨Nat.le_refl _⟩, ⟨tr_x HO1539.out⟩, ⟨tb_⟩⟩
 case round =>
  clear H'
  try clear c2
  try clear p2
  obtain ⟨x3_1, x9_1, rfl, HA, HK1, HO_3, HB⟩ := hrel
  cases gk with
  | zero => exact absurd HA.out (by simp [impl_mirror.l0])
  | succ k1 =>
   have H := HA.out
   clear HA
   simp only [impl_mirror.l0] at H
   by_cases c4 : x9_1 < (l0.length : Int)
   ·
    rw [if_pos c4] at H
    have c4b0 := decide_eq_true c4
    clear c4
    by_cases c5 : 0 ≤ x9_1
    ·
     rw [if_pos c5] at H
     have c5b0 := decide_eq_true c5
     clear c5
     by_cases c6 : x9_1 < (l0.length : Int)
     ·
      rw [if_pos c6] at H
      have c6b0 := decide_eq_true c6
      clear c6
      by_cases c7 : x3_1.length < 17592186044416
      ·
       rw [if_pos c7] at H
       have LMc7 := A_ c7
       clear c7
       obtain ⟨y1541, hy1541⟩ : ∃ y_ : List Int, y_ = (x3_1 ++ [wrap64 ((wrap64 ((l0.length : Int) - 1)) - (rd l0 x9_1))]) := ⟨_, rfl⟩
       replace H : (impl_mirror.l0 k1 l0 y1541 l0 (l0.length : Int) (wrap64 (x9_1 + 1))) = some r := ty_ hy1541 H
       have Ny1541 := A_ hy1541
       clear hy1541
       have H' := A_ H
       clear H
       have p1540 : 0 ≤ (x9_1 : Int) := od_
       have q1540 : x9_1 < (l0.length : Int) := od_
       obtain ⟨ad1540, e1540, hx1540_0⟩ := Kd.at_int HR0.out x9_1 p1540 q1540
       cases e1540
       (try replace hx1540_0 := (HB.out.cell (World.block_lt_of_cell? w _ hx1540_0)).trans hx1540_0)
       replace p1540 := eq_true p1540
       replace q1540 := eq_true q1540
       go_wp2_with (first | ((with_reducible refine gate_builtin (b := .append) (xs := #[.tmp 13, .tmp 19]) rfl ?_); at_builtin; refine Kd.R_append (Kd.int .i64) (w0 := w) w.heap.size rfl (.tmp 13) (.tmp 19) 22 3 (.int .i64 0) 8 rfl Try.underlying22 info3 rfl (by decide) (by omega) u3 x3_1 (wrap64 ((wrap64 ((l0.length : Int) - 1)) - (rd l0 x9_1))) [.int .i64 (wrap64 ((wrap64 ((l0.length : Int) - 1)) - (rd l0 x9_1)))] (fun _ => True) (fun _ => False) rfl rfl ?aP (fun _ hk => hk.elim) ?aF ?aO ?aB ?aS ?aL ?_; (case aP => exact rfl); (case aB => exact tb_); (case aF => exact (fun _ _ => trivial)); (case aO => exact (tr_x HO_3.out)); (case aS => exact (below_size tb_)); (case aL => have := LMc7.out; omega); intro v1542 w8 ho hb hg hat; rw [← Ny1541.out] at ho; have n0_ := A_ (hb); have n1_ := A_ (ho); clear HB; clear HO_3; have HB := n0_; have HO1543 := n1_; clear n0_ n1_; clear ho hb hg hat))
       go_roundg k1
       case measure => have := HK1.out; omega
       case rel => exact ⟨(y1541), (wrap64 (x9_1 + 1)), tf_, H', ⟨by have := HK1.out; omega⟩, ⟨tr_x HO1543.out⟩, ⟨tb_⟩⟩
      ·
       rw [if_neg c7] at H
       exact absurd H (by simp)
     ·
      rw [if_neg c6] at H
      exact absurd H (by simp)
    ·
     rw [if_neg c5] at H
     exact absurd H (by simp)
   ·
    rw [if_neg c4] at H
    have c4b0 := decide_eq_false c4
    clear c4
    obtain rfl := Option.some.inj H
    go_wp2
    go_ret
    exact ⟨_, te_, tr_x HO_3.out, tb_⟩

/-! ### cmp_Compare_int: function 266 -/
def cmp_Compare_int.f (a0 : Int) (a1 : Int) : Option (Int) := (cmp_isNaN_int.f a0).bind fun t1544 => ((cmp_isNaN_int.f a1).bind fun t1545 => (if t1544 = true then (if t1545 = true then (some 0) else (some (-1))) else (if t1545 = true then (some 1) else (if a0 < a1 then (some (-1)) else (if a0 > a1 then (some 1) else (some 0))))))
theorem cmp_Compare_int.calls (a0 : Int) (a1 : Int) (r : Int) (w : World) (h : cmp_Compare_int.f a0 a1 = some r) :
  Calls Try.prog 266 #[.int .i64 a0, .int .i64 a1] w fun e w' => e = .returned (.int .i64 r) ∧ Drawn0 w w' := by
 have H : ((cmp_isNaN_int.f a0).bind fun t1544 => ((cmp_isNaN_int.f a1).bind fun t1545 => (if t1544 = true then (if t1545 = true then (some 0) else (some (-1))) else (if t1545 = true then (some 1) else (if a0 < a1 then (some (-1)) else (if a0 > a1 then (some 1) else (some 0))))))) = some r := h
 clear h
 replace H := Option.bind_eq_some_iff.mp H
 obtain ⟨t1544, A30, H⟩ := H
 replace H : ((cmp_isNaN_int.f a1).bind fun t1545 => (if t1544 = true then (if t1545 = true then (some 0) else (some (-1))) else (if t1545 = true then (some 1) else (if a0 < a1 then (some (-1)) else (if a0 > a1 then (some 1) else (some 0)))))) = some r := H
 have A3 := A_ A30
 clear A30
 replace H := Option.bind_eq_some_iff.mp H
 obtain ⟨t1545, A40, H⟩ := H
 replace H : (if t1544 = true then (if t1545 = true then (some 0) else (some (-1))) else (if t1545 = true then (some 1) else (if a0 < a1 then (some (-1)) else (if a0 > a1 then (some 1) else (some 0))))) = some r := H
 have A4 := A_ A40
 clear A40
 by_cases c5 : t1544 = true
 ·
  subst c5
  have H1 : (if t1545 = true then (some 0) else (some (-1))) = some r := by rw [if_pos rfl] at H; exact H
  clear H
  have H := H1
  clear H1
  by_cases c6 : t1545 = true
  ·
   subst c6
   have H1 : (some 0) = some r := by rw [if_pos rfl] at H; exact H
   clear H
   have H := H1
   clear H1
   obtain rfl := Option.some.inj H
   go_enter Try.func266, Try.ntmps266
   go_wp2_with (first | (refine gc_ 270 ?_; refine goesT_ (some 8) Try.func270 #[.int .i64 a0] ?_; (with_reducible refine (cmp_isNaN_int.calls a0 true _ A3.out).mono ?_); rintro e w' ⟨rfl, ⟨nd, rfl⟩⟩; refine ⟨_, rfl, ?_⟩) | (refine gc_ 270 ?_; refine goesT_ (some 10) Try.func270 #[.int .i64 a1] ?_; (with_reducible refine (cmp_isNaN_int.calls a1 true _ A4.out).mono ?_); rintro e w' ⟨rfl, ⟨nd, rfl⟩⟩; refine ⟨_, rfl, ?_⟩))
   go_ret
   exact ⟨tf_, dr_⟩
  ·
   replace c6 := Bool.eq_false_iff.mpr c6
   subst c6
   have H1 : (some (-1)) = some r := by rw [if_neg (show ¬ (false = true) by decide)] at H; exact H
   clear H
   have H := H1
   clear H1
   obtain rfl := Option.some.inj H
   go_enter Try.func266, Try.ntmps266
   go_wp2_with (first | (refine gc_ 270 ?_; refine goesT_ (some 8) Try.func270 #[.int .i64 a0] ?_; (with_reducible refine (cmp_isNaN_int.calls a0 true _ A3.out).mono ?_); rintro e w' ⟨rfl, ⟨nd, rfl⟩⟩; refine ⟨_, rfl, ?_⟩) | (refine gc_ 270 ?_; refine goesT_ (some 10) Try.func270 #[.int .i64 a1] ?_; (with_reducible refine (cmp_isNaN_int.calls a1 false _ A4.out).mono ?_); rintro e w' ⟨rfl, ⟨nd, rfl⟩⟩; refine ⟨_, rfl, ?_⟩))
   go_ret
   exact ⟨tf_, dr_⟩
 ·
  replace c5 := Bool.eq_false_iff.mpr c5
  subst c5
  have H1 : (if t1545 = true then (some 1) else (if a0 < a1 then (some (-1)) else (if a0 > a1 then (some 1) else (some 0)))) = some r := by rw [if_neg (show ¬ (false = true) by decide)] at H; exact H
  clear H
  have H := H1
  clear H1
  by_cases c7 : t1545 = true
  ·
   subst c7
   have H1 : (some 1) = some r := by rw [if_pos rfl] at H; exact H
   clear H
   have H := H1
   clear H1
   obtain rfl := Option.some.inj H
   go_enter Try.func266, Try.ntmps266
   go_wp2_with (first | (refine gc_ 270 ?_; refine goesT_ (some 8) Try.func270 #[.int .i64 a0] ?_; (with_reducible refine (cmp_isNaN_int.calls a0 false _ A3.out).mono ?_); rintro e w' ⟨rfl, ⟨nd, rfl⟩⟩; refine ⟨_, rfl, ?_⟩) | (refine gc_ 270 ?_; refine goesT_ (some 10) Try.func270 #[.int .i64 a1] ?_; (with_reducible refine (cmp_isNaN_int.calls a1 true _ A4.out).mono ?_); rintro e w' ⟨rfl, ⟨nd, rfl⟩⟩; refine ⟨_, rfl, ?_⟩))
   go_ret
   exact ⟨tf_, dr_⟩
  ·
   replace c7 := Bool.eq_false_iff.mpr c7
   subst c7
   have H1 : (if a0 < a1 then (some (-1)) else (if a0 > a1 then (some 1) else (some 0))) = some r := by rw [if_neg (show ¬ (false = true) by decide)] at H; exact H
   clear H
   have H := H1
   clear H1
   by_cases c8 : a0 < a1
   ·
    rw [if_pos c8] at H
    have c8b0 := decide_eq_true c8
    clear c8
    obtain rfl := Option.some.inj H
    go_enter Try.func266, Try.ntmps266
    go_wp2_with (first | (refine gc_ 270 ?_; refine goesT_ (some 8) Try.func270 #[.int .i64 a0] ?_; (with_reducible refine (cmp_isNaN_int.calls a0 false _ A3.out).mono ?_); rintro e w' ⟨rfl, ⟨nd, rfl⟩⟩; refine ⟨_, rfl, ?_⟩) | (refine gc_ 270 ?_; refine goesT_ (some 10) Try.func270 #[.int .i64 a1] ?_; (with_reducible refine (cmp_isNaN_int.calls a1 false _ A4.out).mono ?_); rintro e w' ⟨rfl, ⟨nd, rfl⟩⟩; refine ⟨_, rfl, ?_⟩))
    go_ret
    exact ⟨tf_, dr_⟩
   ·
    rw [if_neg c8] at H
    have c8b0 := decide_eq_false c8
    clear c8
    by_cases c9 : a0 > a1
    ·
     rw [if_pos c9] at H
     have c9b0 := decide_eq_true c9
     clear c9
     obtain rfl := Option.some.inj H
     go_enter Try.func266, Try.ntmps266
     go_wp2_with (first | (refine gc_ 270 ?_; refine goesT_ (some 8) Try.func270 #[.int .i64 a0] ?_; (with_reducible refine (cmp_isNaN_int.calls a0 false _ A3.out).mono ?_); rintro e w' ⟨rfl, ⟨nd, rfl⟩⟩; refine ⟨_, rfl, ?_⟩) | (refine gc_ 270 ?_; refine goesT_ (some 10) Try.func270 #[.int .i64 a1] ?_; (with_reducible refine (cmp_isNaN_int.calls a1 false _ A4.out).mono ?_); rintro e w' ⟨rfl, ⟨nd, rfl⟩⟩; refine ⟨_, rfl, ?_⟩))
     go_ret
     exact ⟨tf_, dr_⟩
    ·
     rw [if_neg c9] at H
     have c9b0 := decide_eq_false c9
     clear c9
     obtain rfl := Option.some.inj H
     go_enter Try.func266, Try.ntmps266
     go_wp2_with (first | (refine gc_ 270 ?_; refine goesT_ (some 8) Try.func270 #[.int .i64 a0] ?_; (with_reducible refine (cmp_isNaN_int.calls a0 false _ A3.out).mono ?_); rintro e w' ⟨rfl, ⟨nd, rfl⟩⟩; refine ⟨_, rfl, ?_⟩) | (refine gc_ 270 ?_; refine goesT_ (some 10) Try.func270 #[.int .i64 a1] ?_; (with_reducible refine (cmp_isNaN_int.calls a1 false _ A4.out).mono ?_); rintro e w' ⟨rfl, ⟨nd, rfl⟩⟩; refine ⟨_, rfl, ?_⟩))
     go_ret
     exact ⟨tf_, dr_⟩

/-! ### slices_Compare_int_int: function 249 -/
def slices_Compare_int_int.l0 : Nat → List Int → List Int → List Int → Int → Int → Option (Int)
 | 0, _, _, _, _, _ => none
 | k + 1, x0, x1, x9, x10, x11 => if x11 < x10 then (if 0 ≤ x11 then (if x11 < (x9.length : Int) then (if x11 ≥ (x1.length : Int) then (some 1) else (if x11 < (x1.length : Int) then ((cmp_Compare_int.f (rd x9 x11) (rd x1 x11)).bind fun t1548 => (if t1548 = 0 then (slices_Compare_int_int.l0 k x0 x1 x9 x10 (wrap64 (x11 + 1))) else (some t1548))) else (none))) else (none)) else (none)) else (if (x0.length : Int) < (x1.length : Int) then (some (-1)) else (some 0))
def slices_Compare_int_int.f (k : Nat) (l0 : List Int) (l1 : List Int) : Option (Int) := slices_Compare_int_int.l0 k l0 l1 l0 (l0.length : Int) 0
theorem slices_Compare_int_int.mono_l : ∀ k, (∀ y0 y1 y2 y3 y4, LeO (slices_Compare_int_int.l0 k y0 y1 y2 y3 y4) (slices_Compare_int_int.l0 (k + 1) y0 y1 y2 y3 y4))
 | 0 => fun _ _ _ _ _ r h => by simp [slices_Compare_int_int.l0] at h
 | k + 1 => by
  have ih0 := slices_Compare_int_int.mono_l k
  ·
   intro y0 y1 y2 y3 y4
   unfold slices_Compare_int_int.l0
   repeat' first | (with_reducible first | exact ih0 _ _ _ _ _ | exact LeO.refl _ | exact LeO.none _ | refine LeO.ite ?_ ?_ | refine LeO.bind ?_ (fun _ => ?_)) | exact ih0 _ _ _ _ _ | exact LeO.none _ | refine LeO.ite ?_ ?_ | refine LeO.bind ?_ (fun _ => ?_)
theorem slices_Compare_int_int.mono : ∀ a0 a1 k, LeO (slices_Compare_int_int.f k a0 a1) (slices_Compare_int_int.f (k + 1) a0 a1) := by
 intro a0 a1 k
 have ih0 := slices_Compare_int_int.mono_l k
 unfold slices_Compare_int_int.f
 repeat' first | (with_reducible first | exact ih0 _ _ _ _ _ | exact LeO.refl _ | exact LeO.none _ | refine LeO.ite ?_ ?_ | refine LeO.bind ?_ (fun _ => ?_)) | exact ih0 _ _ _ _ _ | exact LeO.none _ | refine LeO.ite ?_ ?_ | refine LeO.bind ?_ (fun _ => ?_)
theorem slices_Compare_int_int.calls (k : Nat) (A0 : Option Addr) (c0 : Nat) (l0 : List Int) (A1 : Option Addr) (c1 : Nat) (l1 : List Int) (r : Int) (w : World) (hr0 : Kd.C (Kd.int .i64) w A0 l0.length l0) (hc0 : l0.length ≤ c0) (hr1 : Kd.C (Kd.int .i64) w A1 l1.length l1) (hc1 : l1.length ≤ c1) (h : slices_Compare_int_int.f k l0 l1 = some r) :
  Calls Try.prog 249 #[.slice A0 l0.length c0, .slice A1 l1.length c1] w fun e w' => e = .returned (.int .i64 r) ∧ Drawn0 w w' := by
 have HR0 := A_ hr0
 have HC0 := A_ hc0
 clear hr0 hc0
 have HR1 := A_ hr1
 have HC1 := A_ hc1
 clear hr1 hc1
 have H : (slices_Compare_int_int.l0 k l0 l1 l0 (l0.length : Int) 0) = some r := h
 clear h
 have H' := A_ H
 clear H
 go_enter Try.func249, Try.ntmps249
 go_wp2
 go_loopg [11] k (fun kq v11 w' => ∃ (x11_1 : Int), v11 = .int .i64 x11_1 ∧ Aside0 (slices_Compare_int_int.l0 kq l0 l1 l0 (l0.length : Int) x11_1 = some r) ∧ Aside0 (kq ≤ k) ∧ Drawn0 w w')
 case atStart => exact ⟨(0), tf_, H', ⟨Nat.le_refl _⟩, dr_⟩
 case round =>
  clear H'
  try clear c1
  try clear c2
  try clear p2
  obtain ⟨x11_1, rfl, HA, HK1, ⟨m1, rfl⟩⟩ := hrel
  cases gk with
  | zero => exact absurd HA.out (by simp [slices_Compare_int_int.l0])
  | succ k1 =>
   have H := HA.out
   clear HA
   simp only [slices_Compare_int_int.l0] at H
   by_cases c3 : x11_1 < (l0.length : Int)
   ·
    rw [if_pos c3] at H
    have c3b0 := decide_eq_true c3
    clear c3
    by_cases c4 : 0 ≤ x11_1
    ·
     rw [if_pos c4] at H
     have c4b0 := decide_eq_true c4
     clear c4
     by_cases c5 : x11_1 < (l0.length : Int)
     ·
      rw [if_pos c5] at H
      have c5b0 := decide_eq_true c5
      clear c5
      by_cases c6 : x11_1 ≥ (l1.length : Int)
      ·
       rw [if_pos c6] at H
       have c6b0 := decide_eq_true c6
       clear c6
       obtain rfl := Option.some.inj H
       have p1546 : 0 ≤ (x11_1 : Int) := od_
       have q1546 : x11_1 < (l0.length : Int) := od_
       obtain ⟨ad1546, e1546, hx1546_0⟩ := Kd.at_int HR0.out x11_1 p1546 q1546
       cases e1546
       replace p1546 := eq_true p1546
       replace q1546 := eq_true q1546
       go_wp2
       go_ret
       exact ⟨tf_, dr_⟩
      ·
       rw [if_neg c6] at H
       have c6b0 := decide_eq_false c6
       clear c6
       by_cases c7 : x11_1 < (l1.length : Int)
       ·
        rw [if_pos c7] at H
        have c7b0 := decide_eq_true c7
        clear c7
        replace H := Option.bind_eq_some_iff.mp H
        obtain ⟨t1548, A80, H⟩ := H
        replace H : (if t1548 = 0 then (slices_Compare_int_int.l0 k1 l0 l1 l0 (l0.length : Int) (wrap64 (x11_1 + 1))) else (some t1548)) = some r := H
        have A8 := A_ A80
        clear A80
        by_cases c9 : t1548 = 0
        ·
         rw [if_pos c9] at H
         have c9b0 : (t1548 == 0) = true := beq_iff_eq.mpr c9
         have c9b1 : (t1548 != 0) = false := bne_eq_false_iff_eq.mpr c9
         clear c9
         have H' := A_ H
         clear H
         have p1546 : 0 ≤ (x11_1 : Int) := od_
         have q1546 : x11_1 < (l0.length : Int) := od_
         obtain ⟨ad1546, e1546, hx1546_0⟩ := Kd.at_int HR0.out x11_1 p1546 q1546
         cases e1546
         replace p1546 := eq_true p1546
         replace q1546 := eq_true q1546
         have p1547 : 0 ≤ (x11_1 : Int) := od_
         have q1547 : x11_1 < (l1.length : Int) := od_
         obtain ⟨ad1547, e1547, hx1547_0⟩ := Kd.at_int HR1.out x11_1 p1547 q1547
         cases e1547
         replace p1547 := eq_true p1547
         replace q1547 := eq_true q1547
         go_wp2_with (first | (refine gc_ 266 ?_; refine goesT_ (some 26) Try.func266 #[.int .i64 (rd l0 x11_1), .int .i64 (rd l1 x11_1)] ?_; (with_reducible refine (cmp_Compare_int.calls (rd l0 x11_1) (rd l1 x11_1) t1548 _ A8.out).mono ?_); rintro e w' ⟨rfl, ⟨nd, rfl⟩⟩; refine ⟨_, rfl, ?_⟩))
         go_roundg k1
         case measure => have := HK1.out; omega
         case rel => exact ⟨(wrap64 (x11_1 + 1)), tf_, H', ⟨by have := HK1.out; omega⟩, dr_⟩
        ·
         rw [if_neg c9] at H
         have c9b0 : (t1548 == 0) = false := beq_eq_false_iff_ne.mpr c9
         have c9b1 : (t1548 != 0) = true := bne_iff_ne.mpr c9
         obtain rfl := Option.some.inj H
         have p1546 : 0 ≤ (x11_1 : Int) := od_
         have q1546 : x11_1 < (l0.length : Int) := od_
         obtain ⟨ad1546, e1546, hx1546_0⟩ := Kd.at_int HR0.out x11_1 p1546 q1546
         cases e1546
         replace p1546 := eq_true p1546
         replace q1546 := eq_true q1546
         have p1547 : 0 ≤ (x11_1 : Int) := od_
         have q1547 : x11_1 < (l1.length : Int) := od_
         obtain ⟨ad1547, e1547, hx1547_0⟩ := Kd.at_int HR1.out x11_1 p1547 q1547
         cases e1547
         replace p1547 := eq_true p1547
         replace q1547 := eq_true q1547
         go_wp2_with (first | (refine gc_ 266 ?_; refine goesT_ (some 26) Try.func266 #[.int .i64 (rd l0 x11_1), .int .i64 (rd l1 x11_1)] ?_; (with_reducible refine (cmp_Compare_int.calls (rd l0 x11_1) (rd l1 x11_1) t1548 _ A8.out).mono ?_); rintro e w' ⟨rfl, ⟨nd, rfl⟩⟩; refine ⟨_, rfl, ?_⟩))
         go_ret
         exact ⟨tf_, dr_⟩
       ·
        rw [if_neg c7] at H
        exact absurd H (by simp)
     ·
      rw [if_neg c5] at H
      exact absurd H (by simp)
    ·
     rw [if_neg c4] at H
     exact absurd H (by simp)
   ·
    rw [if_neg c3] at H
    have c3b0 := decide_eq_false c3
    clear c3
    by_cases c10 : (l0.length : Int) < (l1.length : Int)
    ·
     rw [if_pos c10] at H
     have c10b0 := decide_eq_true c10
     have c10b1 : decide (l0.length < l1.length) = true := decide_eq_true (Int.ofNat_lt.mp c10)
     clear c10
     obtain rfl := Option.some.inj H
     go_wp2
     go_ret
     exact ⟨tf_, dr_⟩
    ·
     rw [if_neg c10] at H
     have c10b0 := decide_eq_false c10
     have c10b1 : decide (l0.length < l1.length) = false := decide_eq_false (fun h => c10 (Int.ofNat_lt.mpr h))
     clear c10
     obtain rfl := Option.some.inj H
     go_wp2
     go_ret
     exact ⟨tf_, dr_⟩

end
end Go.Proofs.Ytnpacpdpgngdpaa.P
