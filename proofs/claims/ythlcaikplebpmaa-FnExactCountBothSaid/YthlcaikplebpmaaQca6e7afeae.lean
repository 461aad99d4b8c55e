-- printed functions (wip/slim.py)
import Derived.Test.YthlcaikplebpmaaPx0
import Derived.Test.YthlcaikplebpmaaLn
import Derived.Test.YthlcaikplebpmaaQ5ef8b885d4
import Derived.Test.YthlcaikplebpmaaQ50d09ce642
namespace Go.Proofs.Ythlcaikplebpmaa.P
noncomputable section
set_option maxHeartbeats 8000000
set_option maxRecDepth 100000
open Go.RowKit Go.Proofs.YthlcaikplebpmaaW.PrintWords Go.Proofs.YthlcaikplebpmaaW.PrintLast Go.Proofs.YthlcaikplebpmaaW.PrintMore
attribute [local go_sem] max2_int min2_int max_two min_two max_three min_three max_four min_four   -- for this text's walks alone
set_option linter.unusedVariables false
set_option linter.unusedSimpArgs false

/-! ### impl_Board_lists_1: function 183 -/
mutual
def impl_Board_lists_1.f {σ : Type} (are : FnT38) (most : Int) (all : List (List Int)) (cb : σ → List (List Int) → Option (Bool × σ)) : Nat → Int → List (List Int) → σ → Option (Bool × σ)
 | 0, _, _, _ => none
 | k + 1, fr, q, s => (cb s q).bind fun r => if (q.length : Int) = most then some r else impl_Board_lists_1.l0 are most all cb k fr q r.1 r.2
def impl_Board_lists_1.l0 {σ : Type} (are : FnT38) (most : Int) (all : List (List Int)) (cb : σ → List (List Int) → Option (Bool × σ)) : Nat → Int → List (List Int) → Bool → σ → Option (Bool × σ)
 | 0, _, _, _, _ => none
 | k + 1, i, q, g, s => if i < (all.length : Int) then (if g = true then (if 0 ≤ i then ((slices_ContainsFunc_int_int_120.f k q (fun x => impl_Board_lists_1_1.f x are all i)).bind fun hit => if hit = true then impl_Board_lists_1.l0 are most all cb k (wrap64 (i + 1)) q g s else (if q.length < 5864062014805 then ((impl_Board_lists_1.f are most all cb k (wrap64 (i + 1)) (q ++ [all.getD i.toNat []]) s).bind fun r => impl_Board_lists_1.l0 are most all cb k (wrap64 (i + 1)) q r.1 r.2) else none)) else none) else some (g, s)) else some (g, s)
end
theorem impl_Board_lists_1.mono_l {σ : Type} (are : FnT38) (most : Int) (all : List (List Int)) (cb : σ → List (List Int) → Option (Bool × σ)) : ∀ k, (∀ fr q s, LeO (impl_Board_lists_1.f are most all cb k fr q s) (impl_Board_lists_1.f are most all cb (k + 1) fr q s)) ∧ (∀ i q g s, LeO (impl_Board_lists_1.l0 are most all cb k i q g s) (impl_Board_lists_1.l0 are most all cb (k + 1) i q g s))
 | 0 => ⟨fun _ _ _ r h => by simp [impl_Board_lists_1.f] at h, fun _ _ _ _ r h => by simp [impl_Board_lists_1.l0] at h⟩
 | k + 1 => by
  obtain ⟨i0, i1⟩ := impl_Board_lists_1.mono_l are most all cb k
  refine ⟨?_, ?_⟩
  ·
   intro fr q s
   unfold impl_Board_lists_1.f
   refine LeO.bind (LeO.refl _) (fun r => ?_)
   exact LeO.ite (LeO.refl _) (i1 _ _ _ _)
  ·
   intro i q g s
   unfold impl_Board_lists_1.l0
   refine LeO.ite ?_ (LeO.refl _)
   refine LeO.ite ?_ (LeO.refl _)
   refine LeO.ite ?_ (LeO.refl _)
   refine LeO.bind (slices_ContainsFunc_int_int_120.mono _ _ _) (fun b => ?_)
   refine LeO.ite (i1 _ _ _ _) ?_
   refine LeO.ite ?_ (LeO.refl _)
   exact LeO.bind (i0 _ _ _) (fun _ => i1 _ _ _ _)
theorem impl_Board_lists_1.mono {σ : Type} (are : FnT38) (most : Int) (all : List (List Int)) (cb : σ → List (List Int) → Option (Bool × σ)) : ∀ fr q s k, LeO (impl_Board_lists_1.f are most all cb k fr q s) (impl_Board_lists_1.f are most all cb (k + 1) fr q s) := fun fr q s k => (impl_Board_lists_1.mono_l are most all cb k).1 _ _ _
def impl_Board_lists_1.self (gd gl gg gm ga gr gx : Nat) : Value := .func (.func 183) #[] #[.pointer (some ⟨gd, 0, none⟩), .pointer (some ⟨gl, 0, none⟩), .pointer (some ⟨gg, 0, none⟩), .pointer (some ⟨gm, 0, none⟩), .pointer (some ⟨ga, 0, none⟩), .pointer (some ⟨gr, 0, none⟩), .pointer (some ⟨gx, 0, none⟩)]
def impl_Board_lists_1.vars (gd gl gg gm ga gr gx : Nat) (vd : Value) (most : Int) (Aa : Option Addr) (na ca : Nat) (vr : Value) : List (Nat × Nat × Value) :=
 [(gd, 88, vd), (gm, 3, .int .i64 most), (ga, 41, .slice Aa na ca), (gr, 133, vr), (gx, 134, impl_Board_lists_1.self gd gl gg gm ga gr gx)]
abbrev impl_Board_lists_1.St {σ : Type} (bI : Nat) (w w0 : World) (U : Nat → Prop) (D : (Nat → Prop) → World → σ → Prop) (L : List (Nat × Nat × Value)) (gl gg : Nat) (own : Nat → Prop) (W : World) (vl : Value) (q : List (List Int)) (b : Bool) (s : σ) : Prop :=
 Cap.Lst 3 bI 22 41 4 w w0 U D L gl gg own W vl q b s
theorem impl_Board_lists_1.enters (gd gl gg gm ga gr gx : Nat) {fr : Int} {w : World} {Q : Ending → World → Prop} (h : Calls Try.prog 183 #[.int .i64 fr, .pointer (some ⟨gd, 0, none⟩), .pointer (some ⟨gl, 0, none⟩), .pointer (some ⟨gg, 0, none⟩), .pointer (some ⟨gm, 0, none⟩), .pointer (some ⟨ga, 0, none⟩), .pointer (some ⟨gr, 0, none⟩), .pointer (some ⟨gx, 0, none⟩)] w Q) :
  Fn.CallsV Try.prog (impl_Board_lists_1.self gd gl gg gm ga gr gx) #[.int .i64 fr] w Q := ⟨183, _, _, rfl, Try.func183, by kernel_rfl, rfl, by simpa using h⟩
/-- The closure that tells whether a piece on cell i disturbs one. -/
theorem impl_Board_lists_1.hits (gr ga gi : Nat) (vr : Value) (are : FnT38) (Aa : Option Addr) (ca : Nat) (all : List (List Int)) (i : Int) (W : World) (h1 : W.cell? ⟨gr, 0, none⟩ = some vr) (hF : FnOk38 W vr are) (h2 : W.cell? ⟨ga, 0, none⟩ = some (.slice Aa all.length ca)) (h3 : Kd.C (Kd.slice 3 (Kd.int .i64)) W Aa all.length all) (h4 : all.length ≤ ca) (h5 : W.cell? ⟨gi, 0, none⟩ = some (.int .i64 i)) :
  FnOk57 W (.func (.func 184) #[] #[.pointer (some ⟨gr, 0, none⟩), .pointer (some ⟨ga, 0, none⟩), .pointer (some ⟨gi, 0, none⟩)]) (fun x => impl_Board_lists_1_1.f x are all i) := by
 intro A0 c0 l0 r W1 hr0 hc0 h hB
 refine ⟨184, _, _, rfl, Try.func184, by kernel_rfl, rfl, ?_⟩
 have hc := fun (a : Addr) (v : Value) (e : W.cell? a = some v) => (hB.cell (World.block_lt_of_cell? W _ e)).trans e
 have := impl_Board_lists_1_1.calls A0 c0 l0 gr vr are ga Aa ca all gi i r W1 hr0 hc0 (hc _ _ h1) (FnOk38.mono hF hB) (hc _ _ h2) (Kd.C_below h3 hB) h4 (hc _ _ h5) h
 simpa using this
theorem impl_Board_lists_1.calls {σ : Type} (D : (Nat → Prop) → World → σ → Prop) (cb : σ → List (List Int) → Option (Bool × σ)) (vd vr : Value) (are : FnT38) (w w0 : World) (U : Nat → Prop) (bI gd gl gg gm ga gr gx : Nat) (Aa : Option Addr) (ca : Nat) (all : List (List Int)) (most : Int) (hT0 : Cap.Tells Try.prog 3 w vd cb D) (hF0 : FnOk38 w vr are) (hA0 : (Cap.lent 3 bI U w0).C w0 Aa all.length all) (hU0 : ∀ ad, Aa = some ad → U ad.block) (hc0 : all.length ≤ ca) (k : Nat) :
  ∀ (L0 : List (Nat × Nat × Value)) (own : Nat → Prop) (W : World) (vl : Value) (q : List (List Int)) (b : Bool) (s : σ) (fr : Int) (r : Bool × σ) (hS : impl_Board_lists_1.St bI w w0 U D (L0 ++ impl_Board_lists_1.vars gd gl gg gm ga gr gx vd most Aa all.length ca vr) gl gg own W vl q b s) (h : impl_Board_lists_1.f are most all cb k fr q s = some r),
  Calls Try.prog 183 #[.int .i64 fr, .pointer (some ⟨gd, 0, none⟩), .pointer (some ⟨gl, 0, none⟩), .pointer (some ⟨gg, 0, none⟩), .pointer (some ⟨gm, 0, none⟩), .pointer (some ⟨ga, 0, none⟩), .pointer (some ⟨gr, 0, none⟩), .pointer (some ⟨gx, 0, none⟩)] W fun e W' => e = .returned (.tuple #[]) ∧ ∃ own' vl', impl_Board_lists_1.St bI w w0 U D (L0 ++ impl_Board_lists_1.vars gd gl gg gm ga gr gx vd most Aa all.length ca vr) gl gg own' W' vl' q r.1 r.2 := by
 have hT := A_ hT0
 have hF := A_ hF0
 have hA := A_ hA0
 have hU := A_ hU0
 have hC := A_ hc0
 clear hT0 hF0 hA0 hU0 hc0
 induction k using Nat.strongRecOn with
 | _ k ih =>
 intro L0 own W vl q b s fr r hS h
 cases k with
 | zero => exact absurd h (by simp [impl_Board_lists_1.f])
 | succ k =>
 simp only [impl_Board_lists_1.f] at h
 obtain ⟨⟨b1, s1⟩, A1, H⟩ := Option.bind_eq_some_iff.mp h
 clear h
 replace A1 := A_ A1
 obtain ⟨Al, cl, rfl⟩ := Kd.R_slice hS.hl
 have hcd := hS.fix.cell (g := gd) (List.mem_append_right L0 (.head _))
 have hcl := hS.celll
 have hrw := A_ (hS.rows (e := 3))
 have HS := A_ hS
 clear hS
 have hmf_ : ∀ (fn : Go.Fn) (first cap : Array Value) (w : World), (Instr.makeFunc fn first cap).run Try.prog w = .ok (.func fn first cap) w := fun _ _ _ _ => rfl
 obtain ⟨i0, hi0, _⟩ := info_parts info22
 replace hi0 := A_ hi0
 by_cases c3 : (q.length : Int) = most
 ·
  rw [if_pos c3] at H
  have c3b0 : ((q.length : Int) == most) = true := beq_iff_eq.mpr c3
  have c3b1 : ((q.length : Int) != most) = false := bne_eq_false_iff_eq.mpr c3
  clear c3
  obtain rfl := Option.some.inj H
  clear H
  go_enter Try.func183, Try.ntmps183
  go_wp2_with (first | ((with_reducible refine Fn.gate_value rfl ?_); refine Fn.goesVw_ (some 12) rfl (by first | rfl | (simp [Region.wanted, yielded]; done)) vd rfl #[.slice Al q.length cl] rfl (by (try simp only [List.map_toArray, List.map_cons, List.map_nil]); first | done | rfl) ?_; (with_reducible refine (hT.out.call _ _ _ Al cl q b1 s1 HS.out.d HS.out.rowsAll hrw.out.2.1 A1.out HS.out.bel).mono ?_); rintro e w8 ⟨rfl, own8, hd, ho, hb, hs, hk⟩; refine ⟨_, rfl, ?_⟩; have HS8 := A_ (HS.out.told hT.out hd ho hb hs hk); clear hd ho hb hs hk hcd hcl; have hcg8 := HS8.out.cellg; have hfg8 := HS8.out.freeg; have HS9 := A_ (HS8.out.setg hT.out b1); have hcl9 := HS9.out.celll; have hcm9 := HS9.out.fix.cell (g := gm) (List.mem_append_right L0 (.tail _ (.head _)))))
  (try simp only [Exit.inBlock, Exit.then]); refine bodyPost_ret (results_none rfl _ _ _) rfl ?_
  exact ⟨rfl, _, _, HS9.out⟩
 ·
  rw [if_neg c3] at H
  have c3b0 : ((q.length : Int) == most) = false := beq_eq_false_iff_ne.mpr c3
  have c3b1 : ((q.length : Int) != most) = true := bne_iff_ne.mpr c3
  clear c3
  replace H := A_ H
  go_enter Try.func183, Try.ntmps183
  go_wp2_with (first | ((with_reducible refine Fn.gate_value rfl ?_); refine Fn.goesVw_ (some 12) rfl (by first | rfl | (simp [Region.wanted, yielded]; done)) vd rfl #[.slice Al q.length cl] rfl (by (try simp only [List.map_toArray, List.map_cons, List.map_nil]); first | done | rfl) ?_; (with_reducible refine (hT.out.call _ _ _ Al cl q b1 s1 HS.out.d HS.out.rowsAll hrw.out.2.1 A1.out HS.out.bel).mono ?_); rintro e w8 ⟨rfl, own8, hd, ho, hb, hs, hk⟩; refine ⟨_, rfl, ?_⟩; have HS8 := A_ (HS.out.told hT.out hd ho hb hs hk); clear hd ho hb hs hk hcd hcl; have hcg8 := HS8.out.cellg; have hfg8 := HS8.out.freeg; have HS9 := A_ (HS8.out.setg hT.out b1); have hcl9 := HS9.out.celll; have hcm9 := HS9.out.fix.cell (g := gm) (List.mem_append_right L0 (.tail _ (.head _))); have HSb := A_ (HS9.out.boxn hT.out 3 (.int .i64 fr) w8.heap.size (by simp [World.setCell]))))
  go_loopg [9] k (fun kq v9 W' => ∃ (gi : Nat) (i : Int) (own2 : Nat → Prop) (vl2 : Value) (g : Bool) (s2 : σ), v9 = .pointer (some ⟨gi, 0, none⟩) ∧ Aside0 (impl_Board_lists_1.l0 are most all cb kq i q g s2 = some r) ∧ Aside0 (kq ≤ k) ∧ Aside0 (impl_Board_lists_1.St bI w w0 U D ((gi, 3, .int .i64 i) :: (L0 ++ impl_Board_lists_1.vars gd gl gg gm ga gr gx vd most Aa all.length ca vr)) gl gg own2 W' vl2 q g s2))
  case atStart => exact ⟨_, fr, _, _, b1, s1, rfl, H, ⟨Nat.le_refl _⟩, HSb⟩
  case round =>
   clear H HS HS8 HS9 HSb hcg8 hfg8 hcl9 hcm9 A1 hrw
   obtain ⟨gi, i, own2, vl2, g, s2, rfl, HA, HK1, HS⟩ := hrel
   obtain ⟨Al2, cl2, e2⟩ := Kd.R_slice HS.out.hl
   subst e2
   have hcl := HS.out.celll
   have hcg := HS.out.cellg
   have hci := HS.out.celli
   have hca := HS.out.fix.cell (g := ga) (.tail _ (List.mem_append_right L0 (.tail _ (.tail _ (.head _)))))
   have hrw := A_ (HS.out.rows (e := 3))
   cases gk with
   | zero => exact absurd HA.out (by simp [impl_Board_lists_1.l0])
   | succ k1 =>
    have H := HA.out
    clear HA
    simp only [impl_Board_lists_1.l0] at H
    by_cases c4 : i < (all.length : Int)
    case neg =>
     rw [if_neg c4] at H
     have c4b := decide_eq_false c4
     clear c4
     obtain rfl := Option.some.inj H
     clear H
     go_wp2
     go_end0
     exact ⟨rfl, _, _, HS.out.drop⟩
    rw [if_pos c4] at H
    have c4b := decide_eq_true c4
    cases g with
    | false =>
     rw [if_neg (by simp)] at H
     clear c4
     obtain rfl := Option.some.inj H
     clear H
     go_wp2
     go_end0
     exact ⟨rfl, _, _, HS.out.drop⟩
    | true =>
     rw [if_pos rfl] at H
     by_cases c5 : 0 ≤ i
     case neg =>
      rw [if_neg c5] at H
      exact absurd H (by simp)
     rw [if_pos c5] at H
     obtain ⟨hit, A2, H⟩ := Option.bind_eq_some_iff.mp H
     replace A2 := A_ A2
     have HX := A_ (impl_Board_lists_1.hits gr ga gi vr are Aa ca all i _ (HS.out.fix.cell (.tail _ (List.mem_append_right L0 (.tail _ (.tail _ (.tail _ (.head _))))))) (FnOk38.mono hF.out HS.out.bel) hca (HS.out.all hA.out hU.out) hC.out hci)
     cases hit with
     | true =>
      rw [if_pos rfl] at H
      replace H := A_ H
      clear c4 c5
      go_wp2_with (first | (refine gc_ 120 ?_; refine goesL_ (some 29) rfl rfl Try.func120 (by kernel_rfl) rfl #[.slice Al2 q.length cl2, .func (.func 184) #[] #[.pointer (some ⟨gr, 0, none⟩), .pointer (some ⟨ga, 0, none⟩), .pointer (some ⟨gi, 0, none⟩)]] rfl (by (try simp only [List.map_toArray, List.map_cons, List.map_nil]); first | done | rfl) ?_; (with_reducible refine (slices_ContainsFunc_int_int_120.calls k1 Al2 cl2 q _ _ true _ hrw.out.2.2 hrw.out.2.1 HX.out A2.out).mono ?_); rintro e w5 ⟨rfl, hd⟩; refine ⟨_, rfl, ?_⟩; have HS5 := A_ (HS.out.below hT.out hd); clear hd; have hci5 := HS5.out.celli; have HS8 := A_ (HS5.out.drop.boxn hT.out 3 (.int .i64 (wrap64 (i + 1))) w5.heap.size rfl)))
      go_roundg k1
      case measure => have := HK1.out; omega
      case rel => exact ⟨_, wrap64 (i + 1), _, _, true, s2, tf_, H, ⟨by have := HK1.out; omega⟩, HS8⟩
     | false =>
      simp only [Bool.false_eq_true, if_false] at H
      by_cases c6 : q.length < 5864062014805
      case neg =>
       rw [if_neg c6] at H
       exact absurd H (by simp)
      rw [if_pos c6] at H
      have c6a := A_ c6
      clear c6
      obtain ⟨⟨g3, s3⟩, A3, H⟩ := Option.bind_eq_some_iff.mp H
      replace A3 := A_ A3
      replace H := A_ H
      go_wp2_with (first | (refine gc_ 120 ?_; refine goesL_ (some 29) rfl rfl Try.func120 (by kernel_rfl) rfl #[.slice Al2 q.length cl2, .func (.func 184) #[] #[.pointer (some ⟨gr, 0, none⟩), .pointer (some ⟨ga, 0, none⟩), .pointer (some ⟨gi, 0, none⟩)]] rfl (by (try simp only [List.map_toArray, List.map_cons, List.map_nil]); first | done | rfl) ?_; (with_reducible refine (slices_ContainsFunc_int_int_120.calls k1 Al2 cl2 q _ _ false _ hrw.out.2.2 hrw.out.2.1 HX.out A2.out).mono ?_); rintro e w5 ⟨rfl, hd⟩; refine ⟨_, rfl, ?_⟩; have HS5 := A_ (HS.out.below hT.out hd); clear hd))
      have HSd := A_ (HS5.out.below hT.out (below_drew (Below.refl _ _)))
      obtain ⟨ad, Ax, cx, rfl, hxe, hxl⟩ := HSd.out.elem hA.out hU.out i c5 c4
      have hxl := A_ hxl
      have p5 := eq_true c5
      have q5 := eq_true c4
      refine start_ (n := 8) (S := fun w' => w'.cell? ⟨gl, 0, none⟩ = some (.slice Al2 q.length cl2) ∧ w'.cell? ⟨ga, 0, none⟩ = some (.slice (some ad) all.length ca) ∧ w'.cell? ⟨gi, 0, none⟩ = some (.int .i64 i) ∧ w'.cell? (ad.add i.toNat) = some (.slice Ax (all.getD i.toNat []).length cx)) (ds := [7]) (Fn.bl 8 0) (by kernel_rfl) rfl rfl ⟨HSd.out.celll, HSd.out.fix.cell (.tail _ (List.mem_append_right L0 (.tail _ (.tail _ (.head _))))), HSd.out.celli, hxe⟩ (fun hHeld => ?_)
      clear HS HS5 hcl hcg hci hca hxe
      generalize w5.drew = w6 at HSd hHeld ⊢
      refine take_ (i := 0) (N := some 30) (v := ?_) (a' := ?_) (Fn.bl 8 1) rfl rfl (by kernel_rfl) (fun _ _ _ h => h) (Or.inl ⟨by rfl, ?_⟩) hHeld ?_ ?_
      rotate_left
      ·
       rintro w' ⟨s0, s1, s2, s3⟩
       go_simp
       with_reducible rfl
      rotate_left
      ·
       simp only [Act.put, List.setIfInBounds_toArray, List.set_cons_zero, List.set_cons_succ, i64_w, i32_w]
       rfl
      refine take_ (i := 1) (N := some 31) (v := ?_) (a' := ?_) (Fn.bl 8 3) rfl rfl (by kernel_rfl) (fun _ _ _ h => h) (Or.inl ⟨by rfl, ?_⟩) hHeld ?_ ?_
      rotate_left
      ·
       rintro w' ⟨s0, s1, s2, s3⟩
       go_simp
       with_reducible rfl
      rotate_left
      ·
       simp only [Act.put, List.setIfInBounds_toArray, List.set_cons_zero, List.set_cons_succ, i64_w, i32_w]
       rfl
      refine take_ (i := 2) (N := some 32) (v := ?_) (a' := ?_) (Fn.bl 8 7) rfl rfl (by kernel_rfl) (fun _ _ _ h => h) (Or.inl ⟨by rfl, ?_⟩) hHeld ?_ ?_
      rotate_left
      ·
       rintro w' ⟨s0, s1, s2, s3⟩
       go_simp
       with_reducible rfl
      rotate_left
      ·
       simp only [Act.put, List.setIfInBounds_toArray, List.set_cons_zero, List.set_cons_succ, i64_w, i32_w]
       rfl
      refine take_ (i := 3) (N := some 33) (v := ?_) (a' := ?_) (Fn.bl 8 15) rfl rfl (by kernel_rfl) (fun _ _ _ h => h) (Or.inl ⟨by rfl, ?_⟩) hHeld ?_ ?_
      rotate_left
      ·
       rintro w' ⟨s0, s1, s2, s3⟩
       go_simp
       with_reducible rfl
      rotate_left
      ·
       simp only [Act.put, List.setIfInBounds_toArray, List.set_cons_zero, List.set_cons_succ, i64_w, i32_w]
       rfl
      refine take_ (i := 4) (N := some 34) (v := ?_) (a' := ?_) (Fn.bl 8 31) rfl rfl (by kernel_rfl) (fun _ _ _ h => h) (Or.inl ⟨by rfl, ?_⟩) hHeld ?_ ?_
      rotate_left
      ·
       rintro w' ⟨s0, s1, s2, s3⟩
       go_simp
       with_reducible rfl
      rotate_left
      ·
       simp only [Act.put, List.setIfInBounds_toArray, List.set_cons_zero, List.set_cons_succ, i64_w, i32_w]
       rfl
      have hxe : w6.cell? (ad.add i.toNat) = some (.slice Ax (all.getD i.toNat []).length cx) := hHeld.2.2.2
      have hub : U (ad.add i.toNat).block := by rw [Cap.add_block]; exact hU.out ad rfl
      refine one_ (i := 5) (N := some 35) (Fn.bl 8 63) rfl rfl (by kernel_rfl) (by decide) (fun K hK => ?_)
      refine value_ (v := .slice (some ⟨w6.heap.size, 0, none⟩) 1 1) (w1 := w6.alloc (.cells #[.slice Ax (all.getD i.toNat []).length cx] 22)) (by rfl) rfl ?_ ?_
      ·
       go_simp
      have HSe := A_ (HSd.out.below hT.out (below_alloc (Below.refl _ _) (.cells #[.slice Ax (all.getD i.toNat []).length cx] 22)))
      refine hK.out _ _ ⟨HSe.out.celll, HSe.out.fix.cell (.tail _ (List.mem_append_right L0 (.tail _ (.tail _ (.head _))))), HSe.out.celli, ((below_alloc (Below.refl _ w6) _).cell (World.block_lt_of_cell? w6 _ hxe)).trans hxe⟩ (fun hHeld => ?_)
      clear hK K
      refine norm_ (a' := ?_) ?_ ?_
      rotate_left
      ·
       show Act.put _ (some 35) _ = _
       simp only [Act.put, List.setIfInBounds_toArray, List.set_cons_zero, List.set_cons_succ, i64_w, i32_w]
       rfl
      refine one_ (i := 6) (N := some 36) (Fn.bl 8 127) rfl rfl (by kernel_rfl) (by decide) (fun K hK => ?_)
      refine Kd.R_append_step (Cap.lent 3 bI U w0) (w0 := w) w.heap.size (by rfl) (.tmp 30) (.tmp 35) 41 22 (.slice none 0 0) 24 rfl Try.underlying41 info22 rfl (show 0 < 1 by decide) (by omega) (.slice Al2 q.length cl2) q (all.getD i.toNat []) [.slice Ax (all.getD i.toNat []).length cx] (fun _ => True) (fun _ => False) rfl rfl hxl.out (fun _ hk => hk.elim) (fun _ _ => trivial) (Kd.R_mono HSd.out.hl (fun _ _ => trivial)) HSd.out.bel HSd.out.bel.size (by have := c6a.out; omega) ?_
      intro v1 w7 ho hb hg hat
      obtain ⟨A1, c1, e1⟩ := Kd.R_slice ho
      rw [List.length_append, List.length_singleton] at e1
      subst e1
      have HT := A_ (HSd.out.setl hT.out hb hg ho hat)
      have HH := HSd.out.held hg
      have hcl7 := HT.out.2.1
      have hfl7 := HT.out.2.2
      have HS7 := A_ HT.out.1
      have hxe7 := (HH.2 _ hub).trans hxe
      have hca7 := HH.1.cell (.tail _ (List.mem_append_right L0 (.tail _ (.tail _ (.head _)))))
      have hci7 := HH.1.cell (.head _)
      clear ho hb hg hat HT HH HSe
      refine hK.out _ _ ⟨hcl7, hca7, hci7, hxe7⟩ (fun hHeld => ?_)
      clear hK K
      refine norm_ (a' := ?_) ?_ ?_
      rotate_left
      ·
       show Act.put _ (some 36) _ = _
       simp only [Act.put, List.setIfInBounds_toArray, List.set_cons_zero, List.set_cons_succ, i64_w, i32_w]
       rfl
      clear hxe7 hca7 hci7
      refine last_ (i := 7) (N := none) (Fn.bl 8 255) rfl rfl (by kernel_rfl) (by decide) (fun K hK => ?_)
      refine skip_ (w1 := ?_) (by rfl) rfl ?_ ?_
      rotate_left
      ·
       go_simp
       rfl
      refine hK.out _ _ ?_
      clear hK K
      refine done_ (by kernel_rfl) ?_
      have hi7 := HS7.out.celli
      have hx7 := HS7.out.fix.cell (g := gx) (.tail _ (List.mem_append_right L0 (.tail _ (.tail _ (.tail _ (.tail _ (.head _)))))))
      have HT7 : Aside0 (impl_Board_lists_1.St bI w w0 U D (((gi, 3, .int .i64 i) :: L0) ++ impl_Board_lists_1.vars gd gl gg gm ga gr gx vd most (some ad) all.length ca vr) gl gg own2 (w7.setCell ⟨gl, 0, none⟩ (.slice A1 (q.length + 1) c1)) (.slice A1 (q.length + 1) c1) (q ++ [all.getD i.toNat []]) true s2) := HS7
      have hw : wrap64 (q.length : Int) = (q.length : Int) := by have := c6a.out; unfold wrap64; omega
      have HW := A_ hw
      clear hw hcl7 hfl7 hxe hub p5 q5
      go_wp2_with (first | ((with_reducible refine Fn.gate_value rfl ?_); refine Fn.goesVw_ (some 40) rfl (by first | rfl | (simp [Region.wanted, yielded]; done)) (impl_Board_lists_1.self gd gl gg gm ga gr gx) rfl #[.int .i64 (wrap64 (i + 1))] rfl (by (try simp only [List.map_toArray, List.map_cons, List.map_nil]); first | done | rfl) ?_; refine impl_Board_lists_1.enters gd gl gg gm ga gr gx ?_; (with_reducible refine (ih k1 (by have := HK1.out; omega) ((gi, 3, .int .i64 i) :: L0) own2 _ _ (q ++ [all.getD i.toNat []]) true s2 (wrap64 (i + 1)) (g3, s3) HT7.out A3.out).mono ?_); rintro e w8 ⟨rfl, own8, vl8, hs⟩; refine ⟨_, rfl, ?_⟩; obtain ⟨A8, c8, e8⟩ := Kd.R_slice hs.hl; rw [List.length_append, List.length_singleton] at e8; subst e8; have HS8 := A_ (show impl_Board_lists_1.St bI w w0 U D ((gi, 3, .int .i64 i) :: (L0 ++ impl_Board_lists_1.vars gd gl gg gm ga gr gx vd most (some ad) all.length ca vr)) gl gg own8 _ _ _ _ _ from hs); clear hs; have hcl8 := HS8.out.celll; have hfl8 := HS8.out.freel; have hcut8 := cut_to (P := Try.prog) 41 22 .i64 Try.underlying41 hi0.out A8 (q.length + 1) c8 (wrap64 (q.length : Int)) (by rw [HW.out]; omega) (by rw [HW.out]; omega) (by have := (Kd.R_reads' HS8.out.hl).2.1; simpa using this); have HS9 := A_ (HS8.out.cutq hT.out (wrap64 (q.length : Int)).toNat (by rw [HW.out]; simp) q (by rw [HW.out, Int.toNat_natCast, List.take_left' rfl])); have hci9 := HS9.out.celli; have HSf := A_ (HS9.out.drop.boxn hT.out 3 (.int .i64 (wrap64 (i + 1))) w8.heap.size (by simp [World.setCell]))))
      go_roundg k1
      case measure => have := HK1.out; omega
      case rel => exact ⟨_, wrap64 (i + 1), _, _, g3, s3, tf_, H, ⟨by have := HK1.out; omega⟩, HSf⟩

/-! ### impl_Board_lists: function 101 -/
def impl_Board_lists.f {σ : Type} (k : Nat) (R C : Int) (lb : List Int) (most : Int) (are : FnT38) (cb : σ → List (List Int) → Option (Bool × σ)) (s : σ) : Option (Bool × σ) := (impl_CellsOf.f k R C lb).bind fun p => impl_Board_lists_1.f are most p.1 cb k 0 [] s
theorem impl_Board_lists.mono {σ : Type} (R C : Int) (lb : List Int) (most : Int) (are : FnT38) (cb : σ → List (List Int) → Option (Bool × σ)) (s : σ) (k : Nat) : LeO (impl_Board_lists.f k R C lb most are cb s) (impl_Board_lists.f (k + 1) R C lb most are cb s) :=
 LeO.bind (impl_CellsOf.mono _ _ _ _) (fun _ => impl_Board_lists_1.mono _ _ _ _ _ _ _ _)
theorem impl_Board_lists.calls {σ : Type} (D : (Nat → Prop) → World → σ → Prop) (cb : σ → List (List Int) → Option (Bool × σ)) (fd fr : Go.Fn) (hd1 hd2 hr1 hr2 : Array Value) (are : FnT38) (w : World) (hT0 : Cap.Tells Try.prog 3 w (.func fd hd1 hd2) cb D) (hF0 : FnOk38 w (.func fr hr1 hr2) are) (k : Nat) (own : Nat → Prop) (W : World) (s : σ) (R C : Int) (Ab : Option Addr) (lb : List Int) (c : Nat) (most : Int) (r : Bool × σ) (hd : D own W s) (hB : Below w.heap.size w W) (hC : Kd.C (Kd.int .i64) W Ab lb.length lb) (hc : lb.length ≤ c) (h : impl_Board_lists.f k R C lb most are cb s = some r) :
  Calls Try.prog 101 #[.agg #[.int .i64 R, .int .i64 C, .slice Ab lb.length c], .int .i64 most, .func fr hr1 hr2, .func fd hd1 hd2] W fun e W' => e = .returned (.tuple #[]) ∧ ∃ own', D own' W' r.2 ∧ Below w.heap.size w W' := by
 have hT := A_ hT0
 have hF := A_ hF0
 have HD := A_ hd
 have HB := A_ hB
 have HC := A_ hC
 have Hc := A_ hc
 clear hT0 hF0 hd hB hC hc
 unfold impl_Board_lists.f at h
 obtain ⟨⟨all, ok⟩, A1, H⟩ := Option.bind_eq_some_iff.mp h
 clear h
 replace A1 := A_ A1
 replace H := A_ H
 have hu26 := Try.underlying26
 have hmf_ : ∀ (fn : Go.Fn) (first cap : Array Value) (w : World), (Instr.makeFunc fn first cap).run Try.prog w = .ok (.func fn first cap) w := fun _ _ _ _ => rfl
 go_enter Try.func101, Try.ntmps101
 go_wp2_with (first | (refine gc_ 115 ?_; refine goesL_ (some 15) rfl rfl Try.func115 (by kernel_rfl) rfl #[.agg #[.int .i64 R, .int .i64 C, .slice Ab lb.length c]] rfl (by (try simp only [List.map_toArray, List.map_cons, List.map_nil]); first | done | rfl) ?_; (with_reducible refine (impl_CellsOf.calls k R C Ab c lb all ok _ ?q1 Hc.out A1.out).mono ?_); (case q1 => exact Kd.C_below HC.out (below_alloc (below_alloc (below_alloc (below_alloc (Below.refl _ _) _) _) _) _)); rintro e w5 ⟨va, rfl, hs, hb⟩; refine ⟨_, rfl, ?_⟩; obtain ⟨Aa, ca, ea⟩ := Kd.S_slice hs; subst ea; have HS5 := A_ (Kd.S_R hs); have HB5 := A_ hb; clear hs hb))
 have e4 : ((((W.alloc (.cells #[.int .i64 R, .int .i64 C, .slice Ab lb.length c] 26)).alloc (.cells #[.int .i64 most] 3)).alloc (.cells #[.func fr hr1 hr2] 133)).alloc (.cells #[.func fd hd1 hd2] 88)).heap.size = W.heap.size + 1 + 1 + 1 + 1 := by simp
 have hb4 : Below W.heap.size W ((((W.alloc (.cells #[.int .i64 R, .int .i64 C, .slice Ab lb.length c] 26)).alloc (.cells #[.int .i64 most] 3)).alloc (.cells #[.func fr hr1 hr2] 133)).alloc (.cells #[.func fd hd1 hd2] 88)) := below_alloc (below_alloc (below_alloc (below_alloc (Below.refl _ _) _) _) _) _
 have hs5 := HB5.out.size
 rw [e4] at hs5
 have hw := HB.out.size
 have hl := hT.out.lies _ _ _ HD.out
 have hb5 : Below w.heap.size w w5 := below_then HB.out hw (below_then hb4 hb4.size HB5.out)
 have hb6 : Below w5.heap.size w5 (w5.alloc (.cells #[.slice Aa all.length ca] 41)) := below_alloc (Below.refl _ _) _
 have z5 : (w5.alloc (.cells #[.slice Aa all.length ca] 41)).heap.size = w5.heap.size + 1 := by simp
 have hle0 := HS5.out
 rw [e4] at hle0
 have hle := Cap.lent_of hle0
 have f1 : w5.heap[W.heap.size + 1]? = some (.cells #[.int .i64 most] 3 (0, 0)) := by
  have := blk_alloc (blk_alloc (blk_new (W.alloc (.cells #[.int .i64 R, .int .i64 C, .slice Ab lb.length c] 26)) (.cells #[.int .i64 most] 3)) (.cells #[.func fr hr1 hr2] 133)) (.cells #[.func fd hd1 hd2] 88)
  exact blk_below (by simpa using this) HB5.out
 have f2 : w5.heap[W.heap.size + 1 + 1]? = some (.cells #[.func fr hr1 hr2] 133 (0, 0)) := by
  have := blk_alloc (blk_new ((W.alloc (.cells #[.int .i64 R, .int .i64 C, .slice Ab lb.length c] 26)).alloc (.cells #[.int .i64 most] 3)) (.cells #[.func fr hr1 hr2] 133)) (.cells #[.func fd hd1 hd2] 88)
  exact blk_below (by simpa using this) HB5.out
 have f3 : w5.heap[W.heap.size + 1 + 1 + 1]? = some (.cells #[.func fd hd1 hd2] 88 (0, 0)) := by
  have := blk_new (((W.alloc (.cells #[.int .i64 R, .int .i64 C, .slice Ab lb.length c] 26)).alloc (.cells #[.int .i64 most] 3)).alloc (.cells #[.func fr hr1 hr2] 133)) (.cells #[.func fd hd1 hd2] 88)
  exact blk_below (by simpa using this) HB5.out
 have S0 := Cap.Lst.start (eI := 3) (bI := W.heap.size + 1 + 1 + 1 + 1) (tL := 22) (tV := 41) (tG := 4) (w0 := w5) (U := fun k => W.heap.size + 1 + 1 + 1 + 1 ≤ k ∧ k < w5.heap.size) (W := w5.alloc (.cells #[.slice Aa all.length ca] 41)) (L := [(W.heap.size + 1 + 1 + 1, 88, .func fd hd1 hd2), (W.heap.size + 1, 3, .int .i64 most), (w5.heap.size, 41, .slice Aa all.length ca), (W.heap.size + 1 + 1, 133, .func fr hr1 hr2)]) hT.out
  (hT.out.move _ _ _ _ HD.out (fun k hk => (hb6.block k (by have := hl k hk; omega)).trans ((HB5.out.block k (by have := hl k hk; omega)).trans (hb4.block k (hl k hk).2))))
  (below_then hb5 hb5.size hb6) (fun k hk => hb6.block k hk.2) (fun k hk => by rw [z5]; omega)
  (fun k hk => by
   have := hl k hk
   refine ⟨fun x hx => ?_, fun hu => by omega⟩
   simp only [List.mem_cons, List.not_mem_nil, or_false] at hx
   rcases hx with rfl | rfl | rfl | rfl <;> (dsimp only; omega))
  (fun x hx => by
   simp only [List.mem_cons, List.not_mem_nil, or_false] at hx
   rcases hx with rfl | rfl | rfl | rfl
   ·
    exact blk_alloc f3 _
   ·
    exact blk_alloc f1 _
   ·
    exact blk_new _ _
   ·
    exact blk_alloc f2 _)
  (by
   simp only [List.pairwise_cons, List.mem_cons, List.not_mem_nil, or_false, forall_eq_or_imp, forall_eq, List.Pairwise.nil, and_true, false_implies, implies_true]
   omega)
  (fun k hk x hx => by
   simp only [List.mem_cons, List.not_mem_nil, or_false] at hx
   rcases hx with rfl | rfl | rfl | rfl <;> (dsimp only; omega))
  (fun x hx => by
   simp only [List.mem_cons, List.not_mem_nil, or_false] at hx
   rcases hx with rfl | rfl | rfl | rfl <;> (dsimp only; omega))
 have S1 := S0.boxn hT.out 134 (impl_Board_lists_1.self (W.heap.size + 1 + 1 + 1) (w5.heap.size + 1 + 1) (w5.heap.size + 1 + 1 + 1) (W.heap.size + 1) w5.heap.size (W.heap.size + 1 + 1) (w5.heap.size + 1 + 1 + 1 + 1)) (w5.heap.size + 1 + 1 + 1 + 1) (by simp)
 rw [z5] at S1
 have S2 := S1.sub (L' := [] ++ impl_Board_lists_1.vars (W.heap.size + 1 + 1 + 1) (w5.heap.size + 1 + 1) (w5.heap.size + 1 + 1 + 1) (W.heap.size + 1) w5.heap.size (W.heap.size + 1 + 1) (w5.heap.size + 1 + 1 + 1 + 1) (.func fd hd1 hd2) most Aa all.length ca (.func fr hr1 hr2)) (fun x hx => by
   simp only [impl_Board_lists_1.vars, List.nil_append, List.mem_cons, List.not_mem_nil, or_false] at hx
   simp only [List.mem_cons, List.not_mem_nil, or_false]
   rcases hx with rfl | rfl | rfl | rfl | rfl <;> simp) (by
   simp only [impl_Board_lists_1.vars, List.nil_append, List.pairwise_cons, List.mem_cons, List.not_mem_nil, or_false, forall_eq_or_imp, forall_eq, List.Pairwise.nil, and_true, false_implies, implies_true]
   omega)
 refine (impl_Board_lists_1.calls D cb (.func fd hd1 hd2) (.func fr hr1 hr2) are w w5 (fun k => W.heap.size + 1 + 1 + 1 + 1 ≤ k ∧ k < w5.heap.size) (W.heap.size + 1 + 1 + 1 + 1) (W.heap.size + 1 + 1 + 1) (w5.heap.size + 1 + 1) (w5.heap.size + 1 + 1 + 1) (W.heap.size + 1) w5.heap.size (W.heap.size + 1 + 1) (w5.heap.size + 1 + 1 + 1 + 1) Aa ca all most hT.out hF.out hle.1 hle.2 (Kd.R_reads' hle0).2.1 k [] own _ _ [] true s 0 r S2 H.out).mono ?_
 rintro e w8 ⟨rfl, own8, vl8, hs⟩
 try go_wp2
 try go_end0
 exact ⟨rfl, own8, hs.d, hs.bel⟩

/-! ### impl_CountBoth_1: function 103 -/
def impl_CountBoth_1.f (kk : Int) (n : Int) (l : List (List Int)) : Option (Bool × Int) := some (true, if (l.length : Int) = kk then wrap64 (n + 1) else n)
/-- Its two variables: how many pieces there are to be, and the counter. -/
def impl_CountBoth_1.D (w : World) (gk gn : Nat) (kk : Int) (own : Nat → Prop) (W : World) (n : Int) : Prop := (∀ j, own j ↔ j = gn ∨ j = gk) ∧ gk ≠ gn ∧ w.heap.size ≤ gk ∧ w.heap.size ≤ gn ∧ W.heap[gk]? = some (.cells #[.int .i64 kk] 3 (0, 0)) ∧ W.heap[gn]? = some (.cells #[.int .i64 n] 3 (0, 0))
theorem impl_CountBoth_1.calls (gk gn : Nat) (kk n : Int) (A : Option Addr) (c : Nat) (l : List (List Int)) (W : World) (h1 : W.heap[gk]? = some (.cells #[.int .i64 kk] 3 (0, 0))) (h2 : W.heap[gn]? = some (.cells #[.int .i64 n] 3 (0, 0))) :
  Calls Try.prog 103 #[.slice A l.length c, .pointer (some ⟨gk, 0, none⟩), .pointer (some ⟨gn, 0, none⟩)] W fun e W' => e = .returned (.bool true) ∧ W' = if (l.length : Int) = kk then W.setCell ⟨gn, 0, none⟩ (.int .i64 (wrap64 (n + 1))) else W := by
 have hk := cell_of_one h1
 have hn := cell_of_one h2
 have hf := free_of_one h2
 clear h1 h2
 by_cases c1 : (l.length : Int) = kk
 ·
  rw [if_pos c1]
  have c1b0 : ((l.length : Int) == kk) = true := beq_iff_eq.mpr c1
  clear c1
  go_enter Try.func103, Try.ntmps103
  go_wp2
  go_ret
  exact ⟨rfl, rfl⟩
 ·
  rw [if_neg c1]
  have c1b0 : ((l.length : Int) == kk) = false := beq_eq_false_iff_ne.mpr c1
  clear c1
  go_enter Try.func103, Try.ntmps103
  go_wp2
  go_ret
  exact ⟨rfl, rfl⟩
theorem impl_CountBoth_1.tells (w : World) (gk gn : Nat) (kk : Int) : Cap.Tells Try.prog 3 w (.func (.func 103) #[] #[.pointer (some ⟨gk, 0, none⟩), .pointer (some ⟨gn, 0, none⟩)]) (impl_CountBoth_1.f kk) (impl_CountBoth_1.D w gk gn kk) := by
 refine ⟨fun own W W1 s h hs => ?_, fun own W s h k hk => ?_, fun own W s A c l b s' h hC hc he hB => ?_⟩
 ·
  obtain ⟨h1, h2, h3, h4, h5, h6⟩ := h
  exact ⟨h1, h2, h3, h4, (hs gk ((h1 gk).2 (Or.inr rfl))).trans h5, (hs gn ((h1 gn).2 (Or.inl rfl))).trans h6⟩
 ·
  obtain ⟨h1, h2, h3, h4, h5, h6⟩ := h
  rcases (h1 k).1 hk with rfl | rfl
  ·
   exact ⟨h4, blk_lt h6⟩
  ·
   exact ⟨h3, blk_lt h5⟩
 ·
  obtain ⟨h1, h2, h3, h4, h5, h6⟩ := h
  obtain ⟨rfl, rfl⟩ := Prod.mk.inj (Option.some.inj he)
  refine ⟨103, _, _, rfl, Try.func103, by kernel_rfl, rfl, ?_⟩
  refine Calls.mono (by simpa using impl_CountBoth_1.calls gk gn kk s A c l W h5 h6) ?_
  rintro e W' ⟨rfl, rfl⟩
  refine ⟨rfl, own, ?_, fun k hk => Or.inl hk, ?_, ?_, fun k hk hn => ?_⟩
  ·
   by_cases c1 : (l.length : Int) = kk
   ·
    rw [if_pos c1, if_pos c1]
    exact ⟨h1, h2, h3, h4, Cap.one_far h5 h2 _, one_setCell h6⟩
   ·
    rw [if_neg c1, if_neg c1]
    exact ⟨h1, h2, h3, h4, h5, h6⟩
  ·
   split
   ·
    exact hB.setCell h4 _
   ·
    exact hB
  ·
   split
   ·
    simp [World.setCell]
   ·
    exact Nat.le_refl _
  ·
   split
   ·
    exact Below.heap_setCell _ _ _ _ (fun e => hn ((h1 k).2 (Or.inl e)))
   ·
    rfl

/-! ### impl_CountBoth: function 32 -/
def impl_CountBoth.are : FnT38 := fun l0 l1 => impl_asQueens.f l0 l1
theorem impl_CountBoth.areok (w : World) : FnOk38 w (.func (.func 102) #[] #[]) impl_CountBoth.are := fun A0 c0 l0 A1 c1 l1 r W hr0 hc0 hr1 hc1 h _ => ⟨102, #[], _, rfl, Try.func102, by kernel_rfl, rfl, (impl_asQueens.calls A0 c0 l0 A1 c1 l1 r W hr0 hc0 hr1 hc1 h).mono fun e w' hh => ⟨hh.1, by have := hh.2; first | exact this | exact this.below⟩⟩
def impl_CountBoth.f (k : Nat) (a0_0 a0_1 : Int) (l0_2 : List Int) (a1 : Int) : Option (Int × Bool) := (impl_IsBoard.f a0_0 a0_1 l0_2).bind fun t => (if t = true then ((impl_isPieces.f a1).bind fun u => (if u = true then ((impl_Board_lists.f k a0_0 a0_1 l0_2 a1 impl_CountBoth.are (impl_CountBoth_1.f a1) 0).bind fun r => some (r.2, true)) else some (0, false))) else some (0, false))
theorem impl_CountBoth.mono : ∀ a0 a1 a2 a3 k, LeO (impl_CountBoth.f k a0 a1 a2 a3) (impl_CountBoth.f (k + 1) a0 a1 a2 a3) := by
 intro a0 a1 a2 a3 k
 unfold impl_CountBoth.f
 refine LeO.bind (LeO.refl _) (fun _ => ?_)
 refine LeO.ite ?_ (LeO.refl _)
 refine LeO.bind (LeO.refl _) (fun _ => ?_)
 refine LeO.ite ?_ (LeO.refl _)
 exact LeO.bind (impl_Board_lists.mono _ _ _ _ _ _ _ _) (fun _ => LeO.refl _)
theorem impl_CountBoth.calls (k : Nat) (a0_0 a0_1 : Int) (A0_2 : Option Addr) (c0_2 : Nat) (l0_2 : List Int) (a1 : Int) (r1 : Int) (r2 : Bool) (w : World) (hr0_2 : Kd.C (Kd.int .i64) w A0_2 l0_2.length l0_2) (hc0_2 : l0_2.length ≤ c0_2) (h : impl_CountBoth.f k a0_0 a0_1 l0_2 a1 = some (r1, r2)) :
  Calls Try.prog 32 #[.agg #[.int .i64 a0_0, .int .i64 a0_1, .slice A0_2 l0_2.length c0_2], .int .i64 a1] w fun e w' => e = .returned (.tuple #[.int .i64 r1, .bool r2]) ∧ Below w.heap.size w w' := by
 have HB := A_ (Below.refl w.heap.size w)
 have HR := A_ hr0_2
 have HC := A_ hc0_2
 clear hr0_2 hc0_2
 unfold impl_CountBoth.f at h
 have hu26 := Try.underlying26
 have hmf_ : ∀ (fn : Go.Fn) (first cap : Array Value) (w : World), (Instr.makeFunc fn first cap).run Try.prog w = .ok (.func fn first cap) w := fun _ _ _ _ => rfl
 have hq : ∀ w1, Below w.heap.size w w1 → Kd.C (Kd.int .i64) w1 A0_2 l0_2.length l0_2 := fun w1 hb => Kd.C_below HR.out hb
 have HQ := A_ hq
 clear hq
 obtain ⟨t, A2, H⟩ := Option.bind_eq_some_iff.mp h
 have A2' := A_ A2
 clear A2 h
 have hb2 := A_ (below_alloc (below_alloc (Below.refl w.heap.size w) (.cells #[.int .i64 a0_0, .int .i64 a0_1, .slice A0_2 l0_2.length c0_2] 26)) (.cells #[.int .i64 a1] 3))
 have fK : ((w.alloc (.cells #[.int .i64 a0_0, .int .i64 a0_1, .slice A0_2 l0_2.length c0_2] 26)).alloc (.cells #[.int .i64 a1] 3)).heap[w.heap.size + 1]? = some (.cells #[.int .i64 a1] 3 (0, 0)) := by
  have := blk_new (w.alloc (.cells #[.int .i64 a0_0, .int .i64 a0_1, .slice A0_2 l0_2.length c0_2] 26)) (.cells #[.int .i64 a1] 3)
  simpa using this
 have fB : ((w.alloc (.cells #[.int .i64 a0_0, .int .i64 a0_1, .slice A0_2 l0_2.length c0_2] 26)).alloc (.cells #[.int .i64 a1] 3)).heap[w.heap.size]? = some (.cells #[.int .i64 a0_0, .int .i64 a0_1, .slice A0_2 l0_2.length c0_2] 26 (0, 0)) := blk_alloc (blk_new _ _) _
 have FK := A_ fK
 have FB := A_ fB
 clear fK fB
 cases t with
 | false =>
  simp only [Bool.false_eq_true, if_false, Option.some.injEq, Prod.mk.injEq] at H
  obtain ⟨rfl, rfl⟩ := H
  go_enter Try.func32, Try.ntmps32
  go_wp2_with (first | (go_at_call 93; (with_reducible refine (impl_IsBoard.calls a0_0 a0_1 A0_2 c0_2 l0_2 false _ (HQ.out _ hb2.out) HC.out A2'.out).mono ?_); rintro e w1 ⟨rfl, hb⟩; have HB1 := A_ (below_then hb2.out hb2.out.size hb); clear hb))
  go_ret2
  exact ⟨rfl, HB1.out⟩
 | true =>
  simp only [if_true] at H
  obtain ⟨u, A3, H⟩ := Option.bind_eq_some_iff.mp H
  have A3' := A_ A3
  clear A3
  cases u with
  | false =>
   simp only [Bool.false_eq_true, if_false, Option.some.injEq, Prod.mk.injEq] at H
   obtain ⟨rfl, rfl⟩ := H
   go_enter Try.func32, Try.ntmps32
   go_wp2_with (first | (go_at_call 93; (with_reducible refine (impl_IsBoard.calls a0_0 a0_1 A0_2 c0_2 l0_2 true _ (HQ.out _ hb2.out) HC.out A2'.out).mono ?_); rintro e w1 ⟨rfl, hb⟩; have hk1 := cell_of_one (blk_below FK.out hb); have HB1 := A_ (below_then hb2.out hb2.out.size hb); clear hb) | (go_at_call 100; (with_reducible refine (impl_isPieces.calls a1 false _ A3'.out).mono ?_); rintro e w2 ⟨rfl, hb⟩; have HB2 := A_ (below_then HB1.out HB1.out.size hb.below); clear hb))
   go_ret2
   exact ⟨rfl, HB2.out⟩
  | true =>
   simp only [if_true] at H
   obtain ⟨⟨g, n⟩, A4, H⟩ := Option.bind_eq_some_iff.mp H
   have A4' := A_ A4
   clear A4
   obtain ⟨rfl, rfl⟩ := Prod.mk.inj (Option.some.inj H)
   clear H
   go_enter Try.func32, Try.ntmps32
   go_wp2_with (first | (go_at_call 93; (with_reducible refine (impl_IsBoard.calls a0_0 a0_1 A0_2 c0_2 l0_2 true _ (HQ.out _ hb2.out) HC.out A2'.out).mono ?_); rintro e w1 ⟨rfl, hb⟩; have hK1 := A_ (blk_below FK.out hb); have hB1 := A_ (blk_below FB.out hb); have hk1 := cell_of_one hK1.out; have HB1 := A_ (below_then hb2.out hb2.out.size hb); clear hb) | (go_at_call 100; (with_reducible refine (impl_isPieces.calls a1 true _ A3'.out).mono ?_); rintro e w2 ⟨rfl, hb⟩; have HB2 := A_ (below_then HB1.out HB1.out.size hb.below); have hK2 := A_ (blk_below hK1.out hb.below); have hB2 := A_ (blk_below hB1.out hb.below); clear hb; have hb3 := blk_alloc hB2.out (.cells #[.int .i64 0] 3); have hk3 := cell_of_one (blk_alloc hK2.out (.cells #[.int .i64 0] 3)); have hb30 := blk_cell hb3 0; have hb31 := blk_cell hb3 1; have hb32 := blk_cell hb3 2; clear hb3))
   have hw := HB2.out.size
   have h1 : w.heap.size + 1 < w2.heap.size := blk_lt hK2.out
   have hbn : Below w.heap.size w (w2.alloc (.cells #[.int .i64 0] 3)) := below_then HB2.out hw (below_alloc (Below.refl _ _) _)
   refine (impl_Board_lists.calls (impl_CountBoth_1.D w (w.heap.size + 1) w2.heap.size a1) (impl_CountBoth_1.f a1) (.func 103) (.func 102) #[] #[.pointer (some ⟨w.heap.size + 1, 0, none⟩), .pointer (some ⟨w2.heap.size, 0, none⟩)] #[] #[] impl_CountBoth.are w (impl_CountBoth_1.tells w _ _ a1) (impl_CountBoth.areok w) k (fun j => j = w2.heap.size ∨ j = w.heap.size + 1) _ 0 a0_0 a0_1 A0_2 l0_2 c0_2 a1 (g, n) ⟨fun j => Iff.rfl, by omega, by omega, hw, blk_alloc hK2.out _, blk_new _ _⟩ hbn (HQ.out _ hbn) HC.out A4'.out).mono ?_
   rintro e w9 ⟨rfl, own9, ⟨d1, d2, d3, d4, d5, d6⟩, hb9⟩
   have hn9 := cell_of_one d6
   have HB9 := A_ hb9
   clear d1 d2 d3 d4 d5 d6 hb9
   go_wp2
   go_ret2
   exact ⟨rfl, HB9.out⟩

/-! ### laws_FnExactCountBoth: function 6 -/
def laws_FnExactCountBoth.j0 : Nat → Bool → Int → Int → List Int → Int → Int → List Int → Option (Bool)
 | 0, _, _, _, _, _, _, _ => none
 | k + 1, x38, x716000, x716001, x716002, x730000, x730001, x730002 => if x38 = true then (some false) else ((laws_toBoard.f k x716000 x716001 x716002).bind fun bt732 => ((laws_eqBoard.f k x730000 x730001 x730002 bt732.1 bt732.2.1 bt732.2.2).bind fun t737 => (if t737 = true then (some true) else (some false))))
def laws_FnExactCountBoth.f (k : Nat) (a0_0 : Int) (a0_1 : Int) (l0_2 : List Int) (a1 : Int) : Option (Bool) := (laws_szBoard.f a0_0 a0_1 l0_2 1048576).bind fun t716 => (if t716 < 0 then (some true) else ((laws_toBoard.f k a0_0 a0_1 l0_2).bind fun bt717 => ((spec_CountBoth.f k bt717.1 bt717.2.1 bt717.2.2 a1).bind fun bt722 => ((laws_toBoard.f k a0_0 a0_1 l0_2).bind fun bt724 => ((impl_CountBoth.f k bt724.1 bt724.2.1 bt724.2.2 a1).bind fun bt730 => (if bt730.1 = bt722.1 then (laws_FnExactCountBoth.j0 k (bt730.2 != bt722.2) a0_0 a0_1 l0_2 bt724.1 bt724.2.1 bt724.2.2) else (laws_FnExactCountBoth.j0 k true a0_0 a0_1 l0_2 bt724.1 bt724.2.1 bt724.2.2)))))))
theorem laws_FnExactCountBoth.mono_l : ∀ k, (∀ y0 y1 y2 y3 y4 y5 y6, LeO (laws_FnExactCountBoth.j0 k y0 y1 y2 y3 y4 y5 y6) (laws_FnExactCountBoth.j0 (k + 1) y0 y1 y2 y3 y4 y5 y6))
 | 0 => fun _ _ _ _ _ _ _ r h => by simp [laws_FnExactCountBoth.j0] at h
 | k + 1 => by
  have ih0 := laws_FnExactCountBoth.mono_l k
  ·
   intro y0 y1 y2 y3 y4 y5 y6
   unfold laws_FnExactCountBoth.j0
   repeat' first | (with_reducible first | exact ih0 _ _ _ _ _ _ _ | exact impl_CountBoth.mono _ _ _ _ _ | exact laws_eqBoard.mono _ _ _ _ _ _ _ | exact laws_toBoard.mono _ _ _ _ | exact spec_CountBoth.mono _ _ _ _ _ | exact LeO.refl _ | exact LeO.none _ | refine LeO.ite ?_ ?_ | refine LeO.bind ?_ (fun _ => ?_)) | exact ih0 _ _ _ _ _ _ _ | exact impl_CountBoth.mono _ _ _ _ _ | exact laws_eqBoard.mono _ _ _ _ _ _ _ | exact laws_toBoard.mono _ _ _ _ | exact spec_CountBoth.mono _ _ _ _ _ | exact LeO.none _ | refine LeO.ite ?_ ?_ | refine LeO.bind ?_ (fun _ => ?_)
theorem laws_FnExactCountBoth.mono : ∀ a0 a1 a2 a3 k, LeO (laws_FnExactCountBoth.f k a0 a1 a2 a3) (laws_FnExactCountBoth.f (k + 1) a0 a1 a2 a3) := by
 intro a0 a1 a2 a3 k
 have ih0 := laws_FnExactCountBoth.mono_l k
 unfold laws_FnExactCountBoth.f
 repeat' first | (with_reducible first | exact ih0 _ _ _ _ _ _ _ | exact impl_CountBoth.mono _ _ _ _ _ | exact laws_eqBoard.mono _ _ _ _ _ _ _ | exact laws_toBoard.mono _ _ _ _ | exact spec_CountBoth.mono _ _ _ _ _ | exact LeO.refl _ | exact LeO.none _ | refine LeO.ite ?_ ?_ | refine LeO.bind ?_ (fun _ => ?_)) | exact ih0 _ _ _ _ _ _ _ | exact impl_CountBoth.mono _ _ _ _ _ | exact laws_eqBoard.mono _ _ _ _ _ _ _ | exact laws_toBoard.mono _ _ _ _ | exact spec_CountBoth.mono _ _ _ _ _ | exact LeO.none _ | refine LeO.ite ?_ ?_ | refine LeO.bind ?_ (fun _ => ?_)
theorem laws_FnExactCountBoth.calls (k : Nat) (a0_0 : Int) (a0_1 : Int) (A0_2 : Option Addr) (c0_2 : Nat) (l0_2 : List Int) (a1 : Int) (r : Bool) (w : World) (hr0_2 : Kd.C (Kd.int .i64) w A0_2 l0_2.length l0_2) (hc0_2 : l0_2.length ≤ c0_2) (h : laws_FnExactCountBoth.f k a0_0 a0_1 l0_2 a1 = some r) :
  Calls Try.prog 6 #[.agg #[.int .i64 a0_0, .int .i64 a0_1, .slice A0_2 l0_2.length c0_2], .int .i64 a1] w fun e w' => e = .returned (.bool r) ∧ Below w.heap.size w w' := by
 have hu24 := Try.underlying24
 have hu26 := Try.underlying26
 have HR0_2 := A_ hr0_2
 have HC0_2 := A_ hc0_2
 clear hr0_2 hc0_2
 have HB := A_ (Below.refl w.heap.size w)
 have H : ((laws_szBoard.f a0_0 a0_1 l0_2 1048576).bind fun t716 => (if t716 < 0 then (some true) else ((laws_toBoard.f k a0_0 a0_1 l0_2).bind fun bt717 => ((spec_CountBoth.f k bt717.1 bt717.2.1 bt717.2.2 a1).bind fun bt722 => ((laws_toBoard.f k a0_0 a0_1 l0_2).bind fun bt724 => ((impl_CountBoth.f k bt724.1 bt724.2.1 bt724.2.2 a1).bind fun bt730 => (if bt730.1 = bt722.1 then (laws_FnExactCountBoth.j0 k (bt730.2 != bt722.2) a0_0 a0_1 l0_2 bt724.1 bt724.2.1 bt724.2.2) else (laws_FnExactCountBoth.j0 k true a0_0 a0_1 l0_2 bt724.1 bt724.2.1 bt724.2.2)))))))) = some r := h
 clear h
 replace H := Option.bind_eq_some_iff.mp H
 obtain ⟨t716, A30, H⟩ := H
 replace H : (if t716 < 0 then (some true) else ((laws_toBoard.f k a0_0 a0_1 l0_2).bind fun bt717 => ((spec_CountBoth.f k bt717.1 bt717.2.1 bt717.2.2 a1).bind fun bt722 => ((laws_toBoard.f k a0_0 a0_1 l0_2).bind fun bt724 => ((impl_CountBoth.f k bt724.1 bt724.2.1 bt724.2.2 a1).bind fun bt730 => (if bt730.1 = bt722.1 then (laws_FnExactCountBoth.j0 k (bt730.2 != bt722.2) a0_0 a0_1 l0_2 bt724.1 bt724.2.1 bt724.2.2) else (laws_FnExactCountBoth.j0 k true a0_0 a0_1 l0_2 bt724.1 bt724.2.1 bt724.2.2))))))) = some r := H
 have A3 := A_ A30
 clear A30
 by_cases c4 : t716 < 0
 ·
  rw [if_pos c4] at H
  have c4b0 := decide_eq_true c4
  clear c4
  obtain rfl := Option.some.inj H
  go_enter Try.func6, Try.ntmps6
  go_wp2_with (first | (refine gd_ 2 ?_; refine bx_ 2 #[.int .i64 a0_0, .int .i64 a0_1, .slice A0_2 l0_2.length c0_2] 24 ?_; intro gb715 hg w5 hbox hb; have BK715 := A_ (hbox); have GW715 := A_ ((ts_ hg : w.heap.size ≤ gb715)); have GE715 := A_ ((ts_ hg : w.heap.size ≤ gb715)); replace HB := A_ (below_step tb_ hb); clear hb hbox hg; obtain ⟨hcz6_0, hcz6_1, hcz6_2, hfz6_0, hfz6_1, hfz6_2⟩ := cf3_ BK715.out) | (refine gc_ 17 ?_; refine goesT_ (some 13) Try.func17 #[.agg #[.int .i64 a0_0, .int .i64 a0_1, .slice A0_2 l0_2.length c0_2], .int .i64 1048576] ?_; (with_reducible refine (laws_szBoard.calls a0_0 a0_1 _ _ l0_2 1048576 t716 _ ?side1 ?side2 A3.out).mono ?_); (case side1 => exact tc_ HR0_2.out); (case side2 => exact HC0_2.out); rintro e w7 ⟨rfl, hb⟩; refine ⟨_, rfl, ?_⟩; replace BK715 := A_ (blk_below (g := gb715) (o := .cells #[.int .i64 a0_0, .int .i64 a0_1, .slice A0_2 l0_2.length c0_2] 24 (0, 0)) (tk_ BK715) hb); replace HB := A_ (below_step tb_ hb); (try clear hb)))
  go_ret
  exact ⟨te_, tb_⟩
 ·
  rw [if_neg c4] at H
  have c4b0 := decide_eq_false c4
  clear c4
  replace H := Option.bind_eq_some_iff.mp H
  obtain ⟨⟨t717, t718, t719⟩, A80, H⟩ := H
  replace H : ((spec_CountBoth.f k t717 t718 t719 a1).bind fun bt722 => ((laws_toBoard.f k a0_0 a0_1 l0_2).bind fun bt724 => ((impl_CountBoth.f k bt724.1 bt724.2.1 bt724.2.2 a1).bind fun bt730 => (if bt730.1 = bt722.1 then (laws_FnExactCountBoth.j0 k (bt730.2 != bt722.2) a0_0 a0_1 l0_2 bt724.1 bt724.2.1 bt724.2.2) else (laws_FnExactCountBoth.j0 k true a0_0 a0_1 l0_2 bt724.1 bt724.2.1 bt724.2.2))))) = some r := H
  have A8 := A_ A80
  clear A80
  replace H := Option.bind_eq_some_iff.mp H
  obtain ⟨⟨t722, t723⟩, A90, H⟩ := H
  replace H : ((laws_toBoard.f k a0_0 a0_1 l0_2).bind fun bt724 => ((impl_CountBoth.f k bt724.1 bt724.2.1 bt724.2.2 a1).bind fun bt730 => (if bt730.1 = t722 then (laws_FnExactCountBoth.j0 k (bt730.2 != t723) a0_0 a0_1 l0_2 bt724.1 bt724.2.1 bt724.2.2) else (laws_FnExactCountBoth.j0 k true a0_0 a0_1 l0_2 bt724.1 bt724.2.1 bt724.2.2)))) = some r := H
  have A9 := A_ A90
  clear A90
  replace H := Option.bind_eq_some_iff.mp H
  obtain ⟨⟨t724, t725, t726⟩, A100, H⟩ := H
  replace H : ((impl_CountBoth.f k t724 t725 t726 a1).bind fun bt730 => (if bt730.1 = t722 then (laws_FnExactCountBoth.j0 k (bt730.2 != t723) a0_0 a0_1 l0_2 t724 t725 t726) else (laws_FnExactCountBoth.j0 k true a0_0 a0_1 l0_2 t724 t725 t726))) = some r := H
  have A10 := A_ A100
  clear A100
  replace H := Option.bind_eq_some_iff.mp H
  obtain ⟨⟨t730, t731⟩, A110, H⟩ := H
  replace H : (if t730 = t722 then (laws_FnExactCountBoth.j0 k (t731 != t723) a0_0 a0_1 l0_2 t724 t725 t726) else (laws_FnExactCountBoth.j0 k true a0_0 a0_1 l0_2 t724 t725 t726)) = some r := H
  have A11 := A_ A110
  clear A110
  have HC12 := A_ H
  clear H
  go_enter Try.func6, Try.ntmps6
  go_upto_region 8 with (first | (refine gd_ 2 ?_; refine bx_ 2 #[.int .i64 a0_0, .int .i64 a0_1, .slice A0_2 l0_2.length c0_2] 24 ?_; intro gb715 hg w13 hbox hb; have BK715 := A_ (hbox); have GW715 := A_ ((ts_ hg : w.heap.size ≤ gb715)); have GE715 := A_ ((ts_ hg : w.heap.size ≤ gb715)); replace HB := A_ (below_step tb_ hb); clear hb hbox hg; obtain ⟨hcz14_0, hcz14_1, hcz14_2, hfz14_0, hfz14_1, hfz14_2⟩ := cf3_ BK715.out) | (refine gc_ 17 ?_; refine goesT_ (some 13) Try.func17 #[.agg #[.int .i64 a0_0, .int .i64 a0_1, .slice A0_2 l0_2.length c0_2], .int .i64 1048576] ?_; (with_reducible refine (laws_szBoard.calls a0_0 a0_1 _ _ l0_2 1048576 t716 _ ?side1 ?side2 A3.out).mono ?_); (case side1 => exact tc_ HR0_2.out); (case side2 => exact HC0_2.out); rintro e w15 ⟨rfl, hb⟩; refine ⟨_, rfl, ?_⟩; replace BK715 := A_ (blk_below (g := gb715) (o := .cells #[.int .i64 a0_0, .int .i64 a0_1, .slice A0_2 l0_2.length c0_2] 24 (0, 0)) (tk_ BK715) hb); replace HB := A_ (below_step tb_ hb); (try clear hb); obtain ⟨hcz16_0, hcz16_1, hcz16_2, hfz16_0, hfz16_1, hfz16_2⟩ := cf3_ BK715.out) | (refine gc_ 19 ?_; refine goesT_ (some 18) Try.func19 #[.agg #[.int .i64 a0_0, .int .i64 a0_1, .slice A0_2 l0_2.length c0_2]] ?_; (with_reducible refine (laws_toBoard.calls k a0_0 a0_1 _ _ l0_2 t717 t718 t719 _ ?side1 ?side2 A8.out).mono ?_); (case side1 => exact tc_ HR0_2.out); (case side2 => exact HC0_2.out); rintro e w17 ⟨v720, rfl, ho0, hb⟩; refine ⟨_, rfl, ?_⟩; have HO721 := A_ (Kd.R_lower ho0 (below_size tb_)); replace BK715 := A_ (blk_below (g := gb715) (o := .cells #[.int .i64 a0_0, .int .i64 a0_1, .slice A0_2 l0_2.length c0_2] 24 (0, 0)) (tk_ BK715) hb); replace HB := A_ (below_step tb_ hb); (try clear hb); (try clear ho0); obtain ⟨Ao18, co18, eo18⟩ := Kd.R_slice HO721.out; subst eo18) | (refine gc_ 31 ?_; refine goesT_ (some 20) Try.func31 #[.agg #[.int .i64 t717, .int .i64 t718, .slice Ao18 t719.length co18], .int .i64 a1] ?_; (with_reducible refine (spec_CountBoth.calls k t717 t718 _ _ t719 a1 t722 t723 _ ?side1 ?side2 A9.out).mono ?_); (case side1 => exact tc0_ (Kd.R_reads' HO721.out).2.2); (case side2 => exact (Kd.R_reads' HO721.out).2.1); rintro e w19 ⟨rfl, hb⟩; refine ⟨_, rfl, ?_⟩; replace HO721 := A_ (Kd.R_below (tr_x HO721.out) hb); replace BK715 := A_ (blk_below (g := gb715) (o := .cells #[.int .i64 a0_0, .int .i64 a0_1, .slice A0_2 l0_2.length c0_2] 24 (0, 0)) (tk_ BK715) hb); replace HB := A_ (below_step tb_ hb); (try clear hb); obtain ⟨hcz20_0, hcz20_1, hcz20_2, hfz20_0, hfz20_1, hfz20_2⟩ := cf3_ BK715.out) | (refine gc_ 19 ?_; refine goesT_ (some 24) Try.func19 #[.agg #[.int .i64 a0_0, .int .i64 a0_1, .slice A0_2 l0_2.length c0_2]] ?_; (with_reducible refine (laws_toBoard.calls k a0_0 a0_1 _ _ l0_2 t724 t725 t726 _ ?side1 ?side2 A10.out).mono ?_); (case side1 => exact tc_ HR0_2.out); (case side2 => exact HC0_2.out); rintro e w21 ⟨v727, rfl, ho0, hb⟩; refine ⟨_, rfl, ?_⟩; have HO728 := A_ (Kd.R_lower (Kd.R_new' ho0 (Kd.R_lt (tr_x HO721.out))) (below_size tb_)); replace HO721 := A_ (Kd.R_elder' (tr_x HO721.out) (Kd.R_base ho0) hb); replace BK715 := A_ (blk_below (g := gb715) (o := .cells #[.int .i64 a0_0, .int .i64 a0_1, .slice A0_2 l0_2.length c0_2] 24 (0, 0)) (tk_ BK715) hb); replace HB := A_ (below_step tb_ hb); (try clear hb); (try clear ho0)) | (refine gd_ 8 ?_; refine bx_ 8 #[.int .i64 0, .int .i64 0, .slice none 0 0] 26 ?_; intro gb729 hg w22 hbox hb; replace HO721 := A_ (Kd.R_below (tr_x HO721.out) hb); replace HO728 := A_ (Kd.R_below (tr_x HO728.out) hb); have BK729 := A_ (hbox); have GW729 := A_ ((ts_ hg : w.heap.size ≤ gb729)); have GE729 := A_ ((ts_ hg : w.heap.size ≤ gb729)); replace HB := A_ (below_step tb_ hb); have NB715_729 := A_ ((by rw [hg]; exact Nat.ne_of_lt (blk_lt (g := gb715) (o := .cells #[.int .i64 a0_0, .int .i64 a0_1, .slice A0_2 l0_2.length c0_2] 24 (0, 0)) (tk_ BK715)) : gb715 ≠ gb729)); have NB729_715 := A_ ((by rw [hg]; exact Nat.ne_of_gt (blk_lt (g := gb715) (o := .cells #[.int .i64 a0_0, .int .i64 a0_1, .slice A0_2 l0_2.length c0_2] 24 (0, 0)) (tk_ BK715)) : gb729 ≠ gb715)); replace BK715 := A_ (blk_below (g := gb715) (o := .cells #[.int .i64 a0_0, .int .i64 a0_1, .slice A0_2 l0_2.length c0_2] 24 (0, 0)) (tk_ BK715) hb); clear hb hbox hg; have hnb23 := NB729_715.out; have hnc23 := NB715_729.out; obtain ⟨hcz24_0, hcz24_1, hcz24_2, hfz24_0, hfz24_1, hfz24_2⟩ := cf3_ BK729.out; obtain ⟨Ao25, co25, eo25⟩ := Kd.R_slice HO728.out; subst eo25) | (refine gc_ 32 ?_; refine goesT_ (some 28) Try.func32 #[.agg #[.int .i64 t724, .int .i64 t725, .slice Ao25 t726.length co25], .int .i64 a1] ?_; (with_reducible refine (impl_CountBoth.calls k t724 t725 _ _ t726 a1 t730 t731 _ ?side1 ?side2 A11.out).mono ?_); (case side1 => refine (Kd.R_reads' (e := 3) (base := w.heap.size) (ok := fun k_ => (True ∧ some k_ ≠ (.slice Ao18 t719.length co18 : Value).ownBlock)) (n := t726.length) (c := co25) ?_).2.2; exact (tr_ (h := by exact (Kd.R_mono (Kd.R_far (p := ⟨gb729, 2, none⟩) (Kd.R_far (p := ⟨gb729, 1, none⟩) (Kd.R_far (p := ⟨gb729, 0, none⟩) (Kd.R_types HO728.out BK729.out (by decide)) (fun _ hk => hk.2) (.int .i64 t724)) (fun _ hk => hk.2) (.int .i64 t725)) (fun _ hk => hk.2) (.slice Ao25 t726.length co25)) (fun _ h_ => h_.1))))); (case side2 => exact (Kd.R_reads' HO728.out).2.1); rintro e w26 ⟨rfl, hb⟩; refine ⟨_, rfl, ?_⟩; replace HO721 := A_ (Kd.R_below (tr_ (h := by exact (Kd.R_mono (Kd.R_far (p := ⟨gb729, 2, none⟩) (Kd.R_far (p := ⟨gb729, 1, none⟩) (Kd.R_far (p := ⟨gb729, 0, none⟩) (Kd.R_types HO721.out BK729.out (by decide)) (fun _ hk => hk.2) (.int .i64 t724)) (fun _ hk => hk.2) (.int .i64 t725)) (fun _ hk => hk.2) (.slice Ao25 t726.length co25)) (fun _ h_ => h_.1)))) hb); replace HO728 := A_ (Kd.R_below (tr_ (h := by exact (Kd.R_mono (Kd.R_far (p := ⟨gb729, 2, none⟩) (Kd.R_far (p := ⟨gb729, 1, none⟩) (Kd.R_far (p := ⟨gb729, 0, none⟩) (Kd.R_types HO728.out BK729.out (by decide)) (fun _ hk => hk.2) (.int .i64 t724)) (fun _ hk => hk.2) (.int .i64 t725)) (fun _ hk => hk.2) (.slice Ao25 t726.length co25)) (fun _ h_ => h_.1)))) hb); replace BK715 := A_ (blk_below (g := gb715) (o := .cells #[.int .i64 a0_0, .int .i64 a0_1, .slice A0_2 l0_2.length c0_2] 24 (0, 0)) (tk_ BK715) hb); replace BK729 := A_ (blk_below (g := gb729) (o := .cells #[.int .i64 t724, .int .i64 t725, .slice Ao25 t726.length co25] 26 (0, 0)) (by (with_reducible repeat (first | refine blk_drewN ?_ _ | refine blk_drew ?_ | refine blk_alloc ?_ _)); refine blk_put (cs := #[.int .i64 t724, .int .i64 t725, .slice none 0 0]) ?_ 2 _ rfl; (with_reducible repeat (first | refine blk_drewN ?_ _ | refine blk_drew ?_ | refine blk_alloc ?_ _)); refine blk_put (cs := #[.int .i64 t724, .int .i64 0, .slice none 0 0]) ?_ 1 _ rfl; (with_reducible repeat (first | refine blk_drewN ?_ _ | refine blk_drew ?_ | refine blk_alloc ?_ _)); refine blk_put (cs := #[.int .i64 0, .int .i64 0, .slice none 0 0]) ?_ 0 _ rfl; (with_reducible repeat (first | refine blk_drewN ?_ _ | refine blk_drew ?_ | refine blk_alloc ?_ _)); exact BK729.out) hb); replace HB := A_ (below_step tb_ hb); (try clear hb)))
  (try simp only [Act.put, List.setIfInBounds_toArray, List.set_cons_zero, List.set_cons_succ])
  go_cut [38] (fun v38 wc => ∃ (kq : Nat) (x38_11 : Bool), v38 = .bool x38_11 ∧ Aside0 (laws_FnExactCountBoth.j0 kq x38_11 a0_0 a0_1 l0_2 t724 t725 t726 = some r) ∧ Aside0 (kq ≤ k) ∧ Aside0 (Kd.R (Kd.int .i64) 3 wc w.heap.size (fun _ => True) (.slice Ao25 t726.length co25) t726) ∧ Aside0 (wc.heap[gb715]? = some (.cells #[.int .i64 a0_0, .int .i64 a0_1, (.slice A0_2 l0_2.length c0_2)] 24 (0, 0))) ∧ Aside0 (wc.heap[gb729]? = some (.cells #[.int .i64 t724, .int .i64 t725, (.slice Ao25 t726.length co25)] 26 (0, 0))) ∧ Aside0 (Below w.heap.size w wc))
  case first =>
   have H := HC12.out
   clear HC12
   by_cases c27 : t730 = t722
   ·
    rw [if_pos c27] at H
    have c27b0 : (t730 == t722) = true := beq_iff_eq.mpr c27
    have c27b1 : (t730 != t722) = false := bne_eq_false_iff_eq.mpr c27
    clear c27
    (first | rw [c27b0] | (simp only [i64_w, i32_w]; rw [c27b0]) | skip)
    have H' := A_ H
    clear H
    go_wp2
    go_meet
    case rel => exact ⟨_, ((t731 != t723)), tf_, H', ⟨by first | omega | exact Nat.le_refl _⟩, ⟨by (with_reducible repeat (first | apply Kd.R_alloc | apply Kd.R_drewN | apply Kd.R_drew)); exact Kd.R_mono HO728.out (fun _ hk => trivial)⟩, ⟨tk_ BK715⟩, ⟨tk_ BK729⟩, ⟨tb_⟩⟩
   ·
    rw [if_neg c27] at H
    have c27b0 : (t730 == t722) = false := beq_eq_false_iff_ne.mpr c27
    have c27b1 : (t730 != t722) = true := bne_iff_ne.mpr c27
    (first | rw [c27b0] | (simp only [i64_w, i32_w]; rw [c27b0]) | skip)
    have H' := A_ H
    clear H
    go_wp2
    go_meet
    case rel => exact ⟨_, (true), tf_, H', ⟨by first | omega | exact Nat.le_refl _⟩, ⟨by (with_reducible repeat (first | apply Kd.R_alloc | apply Kd.R_drewN | apply Kd.R_drew)); exact Kd.R_mono HO728.out (fun _ hk => trivial)⟩, ⟨tk_ BK715⟩, ⟨tk_ BK729⟩, ⟨tb_⟩⟩
  case rest =>
   clear HC12
   try clear c1
   try clear c2
   try clear p2
   try clear c3
   try clear c4
   try clear c4b0
   try clear c6
   try clear c17
   try clear c19
   try clear c23
   try clear c27
   try clear c27b0
   try clear c27b1
   try clear hcz14_0
   try clear hcz14_1
   try clear hcz14_2
   try clear hcz16_0
   try clear hcz16_1
   try clear hcz16_2
   try clear hcz20_0
   try clear hcz20_1
   try clear hcz20_2
   try clear hcz24_0
   try clear hcz24_1
   try clear hcz24_2
   try clear hcz6_0
   try clear hcz6_1
   try clear hcz6_2
   try clear hfz14_0
   try clear hfz14_1
   try clear hfz14_2
   try clear hfz16_0
   try clear hfz16_1
   try clear hfz16_2
   try clear hfz20_0
   try clear hfz20_1
   try clear hfz20_2
   try clear hfz24_0
   try clear hfz24_1
   try clear hfz24_2
   try clear hfz6_0
   try clear hfz6_1
   try clear hfz6_2
   obtain ⟨kq, x38_11, rfl, HA, HJ11, HO_730002, BK715, BK729, HB⟩ := hcut
   cases kq with
   | zero => exact absurd HA.out (by simp [laws_FnExactCountBoth.j0])
   | succ kj11 =>
    have H := HA.out
    clear HA
    simp only [laws_FnExactCountBoth.j0] at H
    by_cases c28 : x38_11 = true
    ·
     subst c28
     have H1 : (some false) = some r := by rw [if_pos rfl] at H; exact H
     clear H
     have H := H1
     clear H1
     obtain rfl := Option.some.inj H
     go_wp2
     go_ret
     exact ⟨te_, tb_⟩
    ·
     replace c28 := Bool.eq_false_iff.mpr c28
     subst c28
     have H1 : ((laws_toBoard.f kj11 a0_0 a0_1 l0_2).bind fun bt732 => ((laws_eqBoard.f kj11 t724 t725 t726 bt732.1 bt732.2.1 bt732.2.2).bind fun t737 => (if t737 = true then (some true) else (some false)))) = some r := by rw [if_neg (show ¬ (false = true) by decide)] at H; exact H
     clear H
     have H := H1
     clear H1
     replace H := Option.bind_eq_some_iff.mp H
     obtain ⟨⟨t732, t733, t734⟩, A290, H⟩ := H
     replace H : ((laws_eqBoard.f kj11 t724 t725 t726 t732 t733 t734).bind fun t737 => (if t737 = true then (some true) else (some false))) = some r := H
     have A29 := A_ A290
     clear A290
     replace H := Option.bind_eq_some_iff.mp H
     obtain ⟨t737, A300, H⟩ := H
     replace H : (if t737 = true then (some true) else (some false)) = some r := H
     have A30 := A_ A300
     clear A300
     by_cases c31 : t737 = true
     ·
      subst c31
      have H1 : (some true) = some r := by rw [if_pos rfl] at H; exact H
      clear H
      have H := H1
      clear H1
      obtain rfl := Option.some.inj H
      try go_wp2
      have n0_ := A_ (Kd.R_drew HO_730002.out)
      have n1_ := A_ (blk_drew BK715.out)
      have n2_ := A_ (blk_drew BK729.out)
      have n3_ := A_ (below_drew1 HB.out)
      clear HO_730002
      clear BK715
      clear BK729
      clear HB
      have HO_730002 := n0_
      have BK715 := n1_
      have BK729 := n2_
      have HB := n3_
      clear n0_ n1_ n2_ n3_
      refine start_ (n := 5) (S := fun w' => w'.cell? ⟨gb729, 0, none⟩ = some (.int .i64 t724) ∧ w'.cell? ⟨gb729, 1, none⟩ = some (.int .i64 t725) ∧ w'.cell? ⟨gb729, 2, none⟩ = some (.slice Ao25 t726.length co25) ∧ w'.cell? ⟨gb715, 0, none⟩ = some (.int .i64 a0_0) ∧ w'.cell? ⟨gb715, 1, none⟩ = some (.int .i64 a0_1) ∧ w'.cell? ⟨gb715, 2, none⟩ = some (.slice A0_2 l0_2.length c0_2)) (ds := []) (Fn.bl 5 0) (by kernel_rfl) rfl rfl ⟨(blk_cell BK729.out 0).trans rfl, (blk_cell BK729.out 1).trans rfl, (blk_cell BK729.out 2).trans rfl, (blk_cell BK715.out 0).trans rfl, (blk_cell BK715.out 1).trans rfl, (blk_cell BK715.out 2).trans rfl⟩ (fun hHeld => ?_)
      generalize wc.drew = w32 at HO_730002 BK715 BK729 HB hHeld ⊢
      refine take_ (i := 0) (N := some 39) (v := ?_) (a' := ?_) (Fn.bl 5 1) rfl rfl (by kernel_rfl) (fun _ _ _ h => h) (Or.inl ⟨by rfl, ?_⟩) hHeld ?_ ?_
      rotate_left
      ·
       rintro w' ⟨s0, s1, s2, s3, s4, s5⟩
       go_simp
       with_reducible rfl
      rotate_left
      ·
       simp only [Act.put, List.setIfInBounds_toArray, List.set_cons_zero, List.set_cons_succ, i64_w, i32_w]
       rfl
      refine take_ (i := 1) (N := some 40) (v := ?_) (a' := ?_) (Fn.bl 5 3) rfl rfl (by kernel_rfl) (fun _ _ _ h => h) (Or.inl ⟨by rfl, ?_⟩) hHeld ?_ ?_
      rotate_left
      ·
       rintro w' ⟨s0, s1, s2, s3, s4, s5⟩
       go_simp
       with_reducible rfl
      rotate_left
      ·
       simp only [Act.put, List.setIfInBounds_toArray, List.set_cons_zero, List.set_cons_succ, i64_w, i32_w]
       rfl
      refine one_ (i := 2) (N := some 41) (Fn.bl 5 7) rfl rfl (by kernel_rfl) (by decide) (fun K hK => ?_)
      refine goes_ Try.func19 (by kernel_rfl) rfl #[.agg #[.int .i64 a0_0, .int .i64 a0_1, .slice A0_2 l0_2.length c0_2]] (by rfl) rfl rfl ta_ ?_
      with_reducible refine (laws_toBoard.calls kj11 a0_0 a0_1 _ _ l0_2 t732 t733 t734 _ ?side1 ?side2 A29.out).mono ?_
      (case side1 => exact tc_ HR0_2.out)
      (case side2 => exact HC0_2.out)
      rintro e w33 ⟨v735, rfl, ho0, hb⟩
      refine ⟨_, rfl, ?_⟩
      have n0_ := A_ (Kd.R_elder' (tr_x HO_730002.out) (Kd.R_base ho0) hb)
      have n1_ := A_ (Kd.R_lower (Kd.R_new' ho0 (Kd.R_lt (tr_x HO_730002.out))) (below_size tb_))
      have n2_ := A_ (blk_below (g := gb715) (o := .cells #[.int .i64 a0_0, .int .i64 a0_1, .slice A0_2 l0_2.length c0_2] 24 (0, 0)) (tk_ BK715) hb)
      have n3_ := A_ (blk_below (g := gb729) (o := .cells #[.int .i64 t724, .int .i64 t725, .slice Ao25 t726.length co25] 26 (0, 0)) (tk_ BK729) hb)
      have n4_ := A_ (below_step tb_ hb)
      clear HO_730002
      clear BK715
      clear BK729
      clear HB
      have HO_730002 := n0_
      have HO736 := n1_
      have BK715 := n2_
      have BK729 := n3_
      have HB := n4_
      clear n0_ n1_ n2_ n3_ n4_
      (try clear hb)
      (try clear hb2)
      (try clear hk)
      (try clear hi)
      (try clear ho0)
      obtain ⟨Ao34, co34, eo34⟩ := Kd.R_slice HO736.out
      (first | subst eo34 | (injection eo34 with f1_ f2_ f3_; have f4_ := f1_.symm; have f5_ := f3_.symm; clear f1_ f2_ f3_; subst f4_; subst f5_))
      refine hK.out _ _ ⟨(blk_cell BK729.out 0).trans rfl, (blk_cell BK729.out 1).trans rfl, (blk_cell BK729.out 2).trans rfl, (blk_cell BK715.out 0).trans rfl, (blk_cell BK715.out 1).trans rfl, (blk_cell BK715.out 2).trans rfl⟩ (fun hHeld => ?_)
      clear hK K
      refine norm_ (a' := ?_) ?_ ?_
      rotate_left
      ·
       show Act.put _ (some 41) _ = _
       simp only [Act.put, List.setIfInBounds_toArray, List.set_cons_zero, List.set_cons_succ, i64_w, i32_w]
       rfl
      refine one_ (i := 3) (N := some 42) (Fn.bl 5 15) rfl rfl (by kernel_rfl) (by decide) (fun K hK => ?_)
      refine goes_ Try.func21 (by kernel_rfl) rfl #[.agg #[.int .i64 t724, .int .i64 t725, .slice Ao25 t726.length co25], .agg #[.int .i64 t732, .int .i64 t733, .slice Ao34 t734.length co34]] (by rfl) rfl rfl ta_ ?_
      with_reducible refine (laws_eqBoard.calls kj11 t724 t725 _ _ t726 t732 t733 _ _ t734 true _ ?side1 ?side2 ?side3 ?side4 A30.out).mono ?_
      (case side1 => exact tc0_ (Kd.R_reads' HO_730002.out).2.2)
      (case side2 => exact (Kd.R_reads' HO_730002.out).2.1)
      (case side3 => exact tc0_ (Kd.R_reads' HO736.out).2.2)
      (case side4 => exact (Kd.R_reads' HO736.out).2.1)
      rintro e w35 ⟨rfl, hb⟩
      refine ⟨_, rfl, ?_⟩
      have n0_ := A_ (Kd.R_below (tr_x HO_730002.out) hb)
      have n1_ := A_ (Kd.R_below (tr_x HO736.out) hb)
      have n2_ := A_ (blk_below (g := gb715) (o := .cells #[.int .i64 a0_0, .int .i64 a0_1, .slice A0_2 l0_2.length c0_2] 24 (0, 0)) (tk_ BK715) hb)
      have n3_ := A_ (blk_below (g := gb729) (o := .cells #[.int .i64 t724, .int .i64 t725, .slice Ao25 t726.length co25] 26 (0, 0)) (tk_ BK729) hb)
      have n4_ := A_ (below_step tb_ hb)
      clear HO_730002
      clear HO736
      clear BK715
      clear BK729
      clear HB
      have HO_730002 := n0_
      have HO736 := n1_
      have BK715 := n2_
      have BK729 := n3_
      have HB := n4_
      clear n0_ n1_ n2_ n3_ n4_
      (try clear hb)
      (try clear hb2)
      (try clear hk)
      (try clear hi)
      refine hK.out _ _ ⟨(blk_cell BK729.out 0).trans rfl, (blk_cell BK729.out 1).trans rfl, (blk_cell BK729.out 2).trans rfl, (blk_cell BK715.out 0).trans rfl, (blk_cell BK715.out 1).trans rfl, (blk_cell BK715.out 2).trans rfl⟩ (fun hHeld => ?_)
      clear hK K
      refine norm_ (a' := ?_) ?_ ?_
      rotate_left
      ·
       show Act.put _ (some 42) _ = _
       simp only [Act.put, List.setIfInBounds_toArray, List.set_cons_zero, List.set_cons_succ, i64_w, i32_w]
       rfl
      refine pk_ 4 (some 43) (Fn.bl 5 31) ?_
      refine done_ (by kernel_rfl) ?_
      try go_wp2
      go_ret
      exact ⟨te_, tb_⟩
     ·
      replace c31 := Bool.eq_false_iff.mpr c31
      subst c31
      have H1 : (some false) = some r := by rw [if_neg (show ¬ (false = true) by decide)] at H; exact H
      clear H
      have H := H1
      clear H1
      obtain rfl := Option.some.inj H
      try go_wp2
      have n0_ := A_ (Kd.R_drew HO_730002.out)
      have n1_ := A_ (blk_drew BK715.out)
      have n2_ := A_ (blk_drew BK729.out)
      have n3_ := A_ (below_drew1 HB.out)
      clear HO_730002
      clear BK715
      clear BK729
      clear HB
      have HO_730002 := n0_
      have BK715 := n1_
      have BK729 := n2_
      have HB := n3_
      clear n0_ n1_ n2_ n3_
      refine start_ (n := 5) (S := fun w' => w'.cell? ⟨gb729, 0, none⟩ = some (.int .i64 t724) ∧ w'.cell? ⟨gb729, 1, none⟩ = some (.int .i64 t725) ∧ w'.cell? ⟨gb729, 2, none⟩ = some (.slice Ao25 t726.length co25) ∧ w'.cell? ⟨gb715, 0, none⟩ = some (.int .i64 a0_0) ∧ w'.cell? ⟨gb715, 1, none⟩ = some (.int .i64 a0_1) ∧ w'.cell? ⟨gb715, 2, none⟩ = some (.slice A0_2 l0_2.length c0_2)) (ds := []) (Fn.bl 5 0) (by kernel_rfl) rfl rfl ⟨(blk_cell BK729.out 0).trans rfl, (blk_cell BK729.out 1).trans rfl, (blk_cell BK729.out 2).trans rfl, (blk_cell BK715.out 0).trans rfl, (blk_cell BK715.out 1).trans rfl, (blk_cell BK715.out 2).trans rfl⟩ (fun hHeld => ?_)
      generalize wc.drew = w36 at HO_730002 BK715 BK729 HB hHeld ⊢
      refine take_ (i := 0) (N := some 39) (v := ?_) (a' := ?_) (Fn.bl 5 1) rfl rfl (by kernel_rfl) (fun _ _ _ h => h) (Or.inl ⟨by rfl, ?_⟩) hHeld ?_ ?_
      rotate_left
      ·
       rintro w' ⟨s0, s1, s2, s3, s4, s5⟩
       go_simp
       with_reducible rfl
      rotate_left
      ·
       simp only [Act.put, List.setIfInBounds_toArray, List.set_cons_zero, List.set_cons_succ, i64_w, i32_w]
       rfl
      refine take_ (i := 1) (N := some 40) (v := ?_) (a' := ?_) (Fn.bl 5 3) rfl rfl (by kernel_rfl) (fun _ _ _ h => h) (Or.inl ⟨by rfl, ?_⟩) hHeld ?_ ?_
      rotate_left
      ·
       rintro w' ⟨s0, s1, s2, s3, s4, s5⟩
       go_simp
       with_reducible rfl
      rotate_left
      ·
       simp only [Act.put, List.setIfInBounds_toArray, List.set_cons_zero, List.set_cons_succ, i64_w, i32_w]
       rfl
      refine one_ (i := 2) (N := some 41) (Fn.bl 5 7) rfl rfl (by kernel_rfl) (by decide) (fun K hK => ?_)
      refine goes_ Try.func19 (by kernel_rfl) rfl #[.agg #[.int .i64 a0_0, .int .i64 a0_1, .slice A0_2 l0_2.length c0_2]] (by rfl) rfl rfl ta_ ?_
      with_reducible refine (laws_toBoard.calls kj11 a0_0 a0_1 _ _ l0_2 t732 t733 t734 _ ?side1 ?side2 A29.out).mono ?_
      (case side1 => exact tc_ HR0_2.out)
      (case side2 => exact HC0_2.out)
      rintro e w37 ⟨v735, rfl, ho0, hb⟩
      refine ⟨_, rfl, ?_⟩
      have n0_ := A_ (Kd.R_elder' (tr_x HO_730002.out) (Kd.R_base ho0) hb)
      have n1_ := A_ (Kd.R_lower (Kd.R_new' ho0 (Kd.R_lt (tr_x HO_730002.out))) (below_size tb_))
      have n2_ := A_ (blk_below (g := gb715) (o := .cells #[.int .i64 a0_0, .int .i64 a0_1, .slice A0_2 l0_2.length c0_2] 24 (0, 0)) (tk_ BK715) hb)
      have n3_ := A_ (blk_below (g := gb729) (o := .cells #[.int .i64 t724, .int .i64 t725, .slice Ao25 t726.length co25] 26 (0, 0)) (tk_ BK729) hb)
      have n4_ := A_ (below_step tb_ hb)
      clear HO_730002
      clear BK715
      clear BK729
      clear HB
      have HO_730002 := n0_
      have HO736 := n1_
      have BK715 := n2_
      have BK729 := n3_
      have HB := n4_
      clear n0_ n1_ n2_ n3_ n4_
      (try clear hb)
      (try clear hb2)
      (try clear hk)
      (try clear hi)
      (try clear ho0)
      obtain ⟨Ao38, co38, eo38⟩ := Kd.R_slice HO736.out
      (first | subst eo38 | (injection eo38 with f1_ f2_ f3_; have f4_ := f1_.symm; have f5_ := f3_.symm; clear f1_ f2_ f3_; subst f4_; subst f5_))
      refine hK.out _ _ ⟨(blk_cell BK729.out 0).trans rfl, (blk_cell BK729.out 1).trans rfl, (blk_cell BK729.out 2).trans rfl, (blk_cell BK715.out 0).trans rfl, (blk_cell BK715.out 1).trans rfl, (blk_cell BK715.out 2).trans rfl⟩ (fun hHeld => ?_)
      clear hK K
      refine norm_ (a' := ?_) ?_ ?_
      rotate_left
      ·
       show Act.put _ (some 41) _ = _
       simp only [Act.put, List.setIfInBounds_toArray, List.set_cons_zero, List.set_cons_succ, i64_w, i32_w]
       rfl
      refine one_ (i := 3) (N := some 42) (Fn.bl 5 15) rfl rfl (by kernel_rfl) (by decide) (fun K hK => ?_)
      refine goes_ Try.func21 (by kernel_rfl) rfl #[.agg #[.int .i64 t724, .int .i64 t725, .slice Ao25 t726.length co25], .agg #[.int .i64 t732, .int .i64 t733, .slice Ao38 t734.length co38]] (by rfl) rfl rfl ta_ ?_
      with_reducible refine (laws_eqBoard.calls kj11 t724 t725 _ _ t726 t732 t733 _ _ t734 false _ ?side1 ?side2 ?side3 ?side4 A30.out).mono ?_
      (case side1 => exact tc0_ (Kd.R_reads' HO_730002.out).2.2)
      (case side2 => exact (Kd.R_reads' HO_730002.out).2.1)
      (case side3 => exact tc0_ (Kd.R_reads' HO736.out).2.2)
      (case side4 => exact (Kd.R_reads' HO736.out).2.1)
      rintro e w39 ⟨rfl, hb⟩
      refine ⟨_, rfl, ?_⟩
      have n0_ := A_ (Kd.R_below (tr_x HO_730002.out) hb)
      have n1_ := A_ (Kd.R_below (tr_x HO736.out) hb)
      have n2_ := A_ (blk_below (g := gb715) (o := .cells #[.int .i64 a0_0, .int .i64 a0_1, .slice A0_2 l0_2.length c0_2] 24 (0, 0)) (tk_ BK715) hb)
      have n3_ := A_ (blk_below (g := gb729) (o := .cells #[.int .i64 t724, .int .i64 t725, .slice Ao25 t726.length co25] 26 (0, 0)) (tk_ BK729) hb)
      have n4_ := A_ (below_step tb_ hb)
      clear HO_730002
      clear HO736
      clear BK715
      clear BK729
      clear HB
      have HO_730002 := n0_
      have HO736 := n1_
      have BK715 := n2_
      have BK729 := n3_
      have HB := n4_
      clear n0_ n1_ n2_ n3_ n4_
      (try clear hb)
      (try clear hb2)
      (try clear hk)
      (try clear hi)
      refine hK.out _ _ ⟨(blk_cell BK729.out 0).trans rfl, (blk_cell BK729.out 1).trans rfl, (blk_cell BK729.out 2).trans rfl, (blk_cell BK715.out 0).trans rfl, (blk_cell BK715.out 1).trans rfl, (blk_cell BK715.out 2).trans rfl⟩ (fun hHeld => ?_)
      clear hK K
      refine norm_ (a' := ?_) ?_ ?_
      rotate_left
      ·
       show Act.put _ (some 42) _ = _
       simp only [Act.put, List.setIfInBounds_toArray, List.set_cons_zero, List.set_cons_succ, i64_w, i32_w]
       rfl
      refine pk_ 4 (some 43) (Fn.bl 5 31) ?_
      refine done_ (by kernel_rfl) ?_
      try go_wp2
      go_ret
      exact ⟨te_, tb_⟩

/-- THE ONE PURE STATEMENT of laws_FnExactCountBoth: yours. -/
def laws_FnExactCountBoth.Pure : Prop := ∀ (a0_0 : Int) (a0_1 : Int) (l0_2 : List Int) (a1 : Int), Fn.okI a0_0 → Fn.okI a0_1 → (Fn.okL Fn.okI) l0_2 → Fn.okI a1 → ∃ k, laws_FnExactCountBoth.f k a0_0 a0_1 l0_2 a1 = some true

end
end Go.Proofs.Ythlcaikplebpmaa.P
