-- printed functions (wip/slim.py)
import Derived.Test.YtnpacpdpgngdpaaPx0
import Derived.Test.YtnpacpdpgngdpaaQc74da3dc26
import Derived.Test.YtnpacpdpgngdpaaQf34a463c0a
import Derived.Test.YtnpacpdpgngdpaaQ755427cc63
namespace Go.Proofs.Ytnpacpdpgngdpaa.P
noncomputable section
set_option maxHeartbeats 8000000
set_option maxRecDepth 100000
open Go.RowKit Go.Proofs.YtnpacpdpgngdpaaW.PrintWords Go.Proofs.YtnpacpdpgngdpaaW.PrintLast Go.Proofs.YtnpacpdpgngdpaaW.PrintMore
attribute [local go_sem] max2_int min2_int max_two min_two max_three min_three max_four min_four   -- for this text's walks alone
set_option linter.unusedVariables false
set_option linter.unusedSimpArgs false

/-! ### impl_least: function 201 -/
mutual
def impl_least.l0 : Nat → List Int → List Int → Int → Option (List Int)
 | 0, _, _, _ => none
 | k + 1, q, b, i => if i < 4 then ((impl_turn.f k q).bind fun q1 => (impl_mirror.f k q1).bind fun m => impl_least.l1 k q1 m b i 0) else some b
def impl_least.l1 : Nat → List Int → List Int → List Int → Int → Int → Option (List Int)
 | 0, _, _, _, _, _ => none
 | k + 1, q, m, b, i, j => if j < 2 then (if 0 ≤ j then ((slices_Compare_int_int.f k (if j = 0 then q else m) b).bind fun c => if c < 0 then ((slices_Clone_int_int.f (if j = 0 then q else m)).bind fun b2 => impl_least.l1 k q m b2 i (wrap64 (j + 1))) else impl_least.l1 k q m b i (wrap64 (j + 1))) else none) else impl_least.l0 k q b (wrap64 (i + 1))
end
def impl_least.f (k : Nat) (l0 : List Int) : Option (List Int) := (slices_Clone_int_int.f l0).bind fun b => impl_least.l0 k l0 b 0
theorem impl_least.mono_l : ∀ k, (∀ q b i, LeO (impl_least.l0 k q b i) (impl_least.l0 (k + 1) q b i)) ∧ (∀ q m b i j, LeO (impl_least.l1 k q m b i j) (impl_least.l1 (k + 1) q m b i j))
 | 0 => ⟨fun _ _ _ r h => by simp [impl_least.l0] at h, fun _ _ _ _ _ r h => by simp [impl_least.l1] at h⟩
 | k + 1 => by
  obtain ⟨i0, i1⟩ := impl_least.mono_l k
  refine ⟨?_, ?_⟩
  ·
   intro q b i
   unfold impl_least.l0
   refine LeO.ite ?_ (LeO.refl _)
   refine LeO.bind (impl_turn.mono _ _) (fun q1 => ?_)
   refine LeO.bind (impl_mirror.mono _ _) (fun m => ?_)
   exact i1 _ _ _ _ _
  ·
   intro q m b i j
   unfold impl_least.l1
   refine LeO.ite ?_ (i0 _ _ _)
   refine LeO.ite ?_ (LeO.refl _)
   refine LeO.bind (slices_Compare_int_int.mono _ _ _) (fun c => ?_)
   refine LeO.ite ?_ (i1 _ _ _ _ _)
   exact LeO.bind (LeO.refl _) (fun b2 => i1 _ _ _ _ _)
theorem impl_least.mono : ∀ a0 k, LeO (impl_least.f k a0) (impl_least.f (k + 1) a0) := fun a0 k => LeO.bind (LeO.refl _) (fun b => (impl_least.mono_l k).1 _ _ _)
theorem impl_least.calls (k : Nat) (A0 : Option Addr) (c0 : Nat) (l0 : List Int) (r : List Int) (w : World) (hr0 : Kd.C (Kd.int .i64) w A0 l0.length l0) (hc0 : l0.length ≤ c0) (h : impl_least.f k l0 = some r) :
  Calls Try.prog 201 #[.slice A0 l0.length c0] w fun e w' => ∃ v0_ : Value, e = .returned (v0_) ∧ Kd.R (Kd.int .i64) 3 w' w.heap.size (fun _ => True) v0_ r ∧ Below w.heap.size w w' := by
 have HR0 := A_ hr0
 have HC0 := A_ hc0
 clear hr0 hc0
 have HB := A_ (Below.refl w.heap.size w)
 obtain ⟨b, A1, H⟩ := Option.bind_eq_some_iff.mp h
 have A1' := A_ A1
 have H' := A_ H
 clear A1 H h
 go_enter Try.func201, Try.ntmps201
 go_wp2_with (first | (refine gc_ 196 ?_; refine goesL_ (some 7) rfl rfl Try.func196 (by kernel_rfl) rfl #[.slice A0 l0.length c0] rfl (by (try simp only [List.map_toArray, List.map_cons, List.map_nil]); first | done | rfl) ?_; (with_reducible refine (slices_Clone_int_int.calls A0 c0 l0 b _ (Kd.C_below HR0.out tb_) HC0.out A1'.out).mono ?_); rintro e w1 ⟨v1, rfl, ho, hb⟩; refine ⟨_, rfl, ?_⟩; have HO := A_ (Kd.R_lower ho (below_size tb_)); clear ho; have z_ := A_ (below_step tb_ hb); clear HB; have HB := z_; clear z_ hb))
 go_loopg [0, 3, 8] k (fun kq v0 v3 v8 w' => ∃ (q b : List Int) (i : Int) (Aq : Option Addr) (cq : Nat), v0 = .slice Aq q.length cq ∧ v8 = .int .i64 i ∧ Aside0 (impl_least.l0 kq q b i = some r) ∧ Aside0 (kq ≤ k) ∧ Aside0 (Kd.C (Kd.int .i64) w' Aq q.length q) ∧ Aside0 (q.length ≤ cq) ∧ Aside0 (Kd.R (Kd.int .i64) 3 w' w.heap.size (fun _ => True) v3 b) ∧ Aside0 (Below w.heap.size w w'))
 case atStart => exact ⟨l0, b, 0, A0, c0, rfl, rfl, H', ⟨Nat.le_refl _⟩, ⟨Kd.C_below HR0.out tb_⟩, HC0, ⟨tr_x HO.out⟩, ⟨tb_⟩⟩
 case round =>
  clear H' HR0 HC0 A1'
  try clear HO
  obtain ⟨q, b, i, Aq, cq, rfl, rfl, HA, HK1, HQ, HCQ, HO, HB⟩ := hrel
  cases gk with
  | zero => exact absurd HA.out (by simp [impl_least.l0])
  | succ k1 =>
   have H := HA.out
   clear HA
   simp only [impl_least.l0] at H
   by_cases c3 : i < 4
   ·
    rw [if_pos c3] at H
    have c3b := decide_eq_true c3
    clear c3
    obtain ⟨q1, T1, H⟩ := Option.bind_eq_some_iff.mp H
    obtain ⟨m, T3, Hn⟩ := Option.bind_eq_some_iff.mp H
    clear H
    replace T1 := A_ T1
    replace T3 := A_ T3
    replace Hn := A_ Hn
    go_wp2_with (first | (refine gc_ 203 ?_; refine goesL_ (some 11) rfl rfl Try.func203 (by kernel_rfl) rfl #[.slice Aq q.length cq] rfl (by (try simp only [List.map_toArray, List.map_cons, List.map_nil]); first | done | rfl) ?_; (with_reducible refine (impl_turn.calls k1 Aq cq q q1 _ (by (with_reducible repeat (first | refine Kd.C_alloc ?_ _ | refine Kd.C_drewN ?_ _ | refine Kd.C_drew ?_)); exact HQ.out) HCQ.out T1.out).mono ?_); rintro e w2 ⟨v1, rfl, ho, hb⟩; refine ⟨_, rfl, ?_⟩; obtain ⟨A1, c1, e1⟩ := Kd.R_slice ho; subst e1; have H1 := A_ (Kd.R_lower ho (below_size tb_)); clear ho HQ HCQ; have z_ := A_ (Kd.R_below (tr_x HO.out) hb); clear HO; have HO := z_; clear z_; have z_ := A_ (below_step tb_ hb); clear HB; have HB := z_; clear z_; clear hb) | (refine gc_ 205 ?_; refine goesL_ (some 14) rfl rfl Try.func205 (by kernel_rfl) rfl #[.slice A1 q1.length c1] rfl (by (try simp only [List.map_toArray, List.map_cons, List.map_nil]); first | done | rfl) ?_; (with_reducible refine (impl_mirror.calls k1 A1 c1 q1 m _ (Kd.R_reads' (tr_x H1.out)).2.2 (Kd.R_reads' H1.out).2.1 T3.out).mono ?_); rintro e w4 ⟨v2, rfl, ho, hb⟩; refine ⟨_, rfl, ?_⟩; obtain ⟨Am, cm, em⟩ := Kd.R_slice ho; subst em; have HM := A_ (Kd.R_lower ho (below_size tb_)); clear ho; have z_ := A_ (Kd.R_below (tr_x HO.out) hb); clear HO; have HO := z_; clear z_; have z_ := A_ (Kd.R_below (tr_x H1.out) hb); clear H1; have H1 := z_; clear z_; have z_ := A_ (below_step tb_ hb); clear HB; have HB := z_; clear z_; clear hb))
    obtain ⟨gL, hgL⟩ : ∃ g, g = w4.heap.size := ⟨_, rfl⟩
    have HL := A_ (show (w4.alloc (Obj.cells #[Value.slice A1 q1.length c1, Value.slice Am m.length cm] 22)).cell? ⟨w4.heap.size, 0, none⟩ = some (.slice A1 q1.length c1) ∧ (w4.alloc (Obj.cells #[Value.slice A1 q1.length c1, Value.slice Am m.length cm] 22)).cell? ⟨w4.heap.size, 1, none⟩ = some (.slice Am m.length cm) from ⟨by go_simp, by go_simp⟩)
    rw [← hgL] at HL ⊢
    clear hgL
    have n0_ := A_ (show Kd.R (Kd.int .i64) 3 (w4.alloc (Obj.cells #[Value.slice A1 q1.length c1, Value.slice Am m.length cm] 22)) w.heap.size (fun _ => True) (.slice A1 q1.length c1) q1 from by (with_reducible repeat (first | apply Kd.R_alloc | apply Kd.R_drewN | apply Kd.R_drew)); exact H1.out)
    have n1_ := A_ (show Kd.R (Kd.int .i64) 3 (w4.alloc (Obj.cells #[Value.slice A1 q1.length c1, Value.slice Am m.length cm] 22)) w.heap.size (fun _ => True) (.slice Am m.length cm) m from by (with_reducible repeat (first | apply Kd.R_alloc | apply Kd.R_drewN | apply Kd.R_drew)); exact HM.out)
    have n2_ := A_ (show Kd.R (Kd.int .i64) 3 (w4.alloc (Obj.cells #[Value.slice A1 q1.length c1, Value.slice Am m.length cm] 22)) w.heap.size (fun _ => True) _ b from by (with_reducible repeat (first | apply Kd.R_alloc | apply Kd.R_drewN | apply Kd.R_drew)); exact HO.out)
    have n3_ := A_ (show Below w.heap.size w (w4.alloc (Obj.cells #[Value.slice A1 q1.length c1, Value.slice Am m.length cm] 22)) from tb_)
    clear H1 HM HO HB
    have H1 := n0_
    have HM := n1_
    have HO := n2_
    have HB := n3_
    clear n0_ n1_ n2_ n3_
    generalize w4.alloc (Obj.cells #[Value.slice A1 q1.length c1, Value.slice Am m.length cm] 22) = w5 at HL H1 HM HO HB ⊢
    go_loopg [3, 17] k1 (fun kq v3 v17 w' => ∃ (b2 : List Int) (j : Int), v17 = .int .i64 j ∧ Aside0 (impl_least.l1 kq q1 m b2 i j = some r) ∧ Aside0 (kq ≤ k1) ∧ Aside0 (w'.cell? ⟨gL, 0, none⟩ = some (.slice A1 q1.length c1) ∧ w'.cell? ⟨gL, 1, none⟩ = some (.slice Am m.length cm)) ∧ Aside0 (Kd.R (Kd.int .i64) 3 w' w.heap.size (fun _ => True) (.slice A1 q1.length c1) q1) ∧ Aside0 (Kd.R (Kd.int .i64) 3 w' w.heap.size (fun _ => True) (.slice Am m.length cm) m) ∧ Aside0 (Kd.R (Kd.int .i64) 3 w' w.heap.size (fun _ => True) v3 b2) ∧ Aside0 (Below w.heap.size w w'))
    case atStart => exact ⟨b, 0, rfl, Hn, ⟨Nat.le_refl _⟩, HL, H1, HM, HO, HB⟩
    case round =>
     clear Hn HL H1 HM HO HB T1 T3
     obtain ⟨b2, j, rfl, HA, HK2, HL, H1, HM, HO, HB⟩ := hrel
     cases gk with
     | zero => exact absurd HA.out (by simp [impl_least.l1])
     | succ k2 =>
      have H := HA.out
      clear HA
      simp only [impl_least.l1] at H
      by_cases c4 : j < 2
      ·
       rw [if_pos c4] at H
       by_cases c5 : 0 ≤ j
       ·
        rw [if_pos c5] at H
        obtain ⟨Ab, cb, eb⟩ := Kd.R_slice HO.out
        subst eb
        obtain ⟨c, T4, Hn⟩ := Option.bind_eq_some_iff.mp H
        clear H
        have hx0 := HL.out.1
        have hx1 := HL.out.2
        have hj : j = 0 ∨ j = 1 := by omega
        clear c4 c5
        rcases hj with rfl | rfl
        ·
         rw [if_pos rfl] at T4 Hn
         replace T4 := A_ T4
         by_cases c6 : c < 0
         ·
          rw [if_pos c6] at Hn
          have c6b := decide_eq_true c6
          clear c6
          obtain ⟨b3, T5, H2⟩ := Option.bind_eq_some_iff.mp Hn
          clear Hn
          replace T5 := A_ T5
          have Hn := A_ H2
          clear H2
          go_wp2_with (first | (refine gc_ 249 ?_; refine goesL_ (some 23) rfl rfl Try.func249 (by kernel_rfl) rfl #[.slice A1 q1.length c1, .slice Ab b2.length cb] rfl (by (try simp only [List.map_toArray, List.map_cons, List.map_nil]); first | done | rfl) ?_; (with_reducible refine (slices_Compare_int_int.calls k2 A1 c1 q1 Ab cb b2 c _ (Kd.R_reads' (tr_x H1.out)).2.2 (Kd.R_reads' H1.out).2.1 (Kd.R_reads' (tr_x HO.out)).2.2 (Kd.R_reads' HO.out).2.1 T4.out).mono ?_); rintro e w6 ⟨rfl, ⟨nd, rfl⟩⟩; refine ⟨_, rfl, ?_⟩) | (refine gc_ 196 ?_; refine goesL_ (some 26) rfl rfl Try.func196 (by kernel_rfl) rfl #[.slice A1 q1.length c1] rfl (by (try simp only [List.map_toArray, List.map_cons, List.map_nil]); first | done | rfl) ?_; (with_reducible refine (slices_Clone_int_int.calls A1 c1 q1 b3 _ (Kd.R_reads' (tr_x H1.out)).2.2 (Kd.R_reads' H1.out).2.1 T5.out).mono ?_); rintro e w7 ⟨v3, rfl, ho, hb⟩; refine ⟨_, rfl, ?_⟩; have z_ := A_ (And.intro ((hb.cell (World.block_lt_of_cell? _ _ HL.out.1)).trans HL.out.1) ((hb.cell (World.block_lt_of_cell? _ _ HL.out.2)).trans HL.out.2)); clear HL hx0 hx1; have HL := z_; clear z_; have HN := A_ (Kd.R_lower ho (below_size tb_)); clear ho HO; have z_ := A_ (Kd.R_below (tr_x H1.out) hb); clear H1; have H1 := z_; clear z_; have z_ := A_ (Kd.R_below (tr_x HM.out) hb); clear HM; have HM := z_; clear z_; have z_ := A_ (below_step tb_ hb); clear HB; have HB := z_; clear z_; clear hb))
          go_roundg k2
          case measure => have := HK1.out; have := HK2.out; omega
          case rel => exact ⟨b3, wrap64 (0 + 1), by first | rfl | (simp; done) | (simp [wrap64]; done) | decide, Hn, ⟨by have := HK2.out; omega⟩, ⟨HL.out.1, HL.out.2⟩, ⟨tr_x H1.out⟩, ⟨tr_x HM.out⟩, ⟨tr_x HN.out⟩, ⟨tb_⟩⟩
         ·
          rw [if_neg c6] at Hn
          have c6b := decide_eq_false c6
          clear c6
          replace Hn := A_ Hn
          go_wp2_with (first | (refine gc_ 249 ?_; refine goesL_ (some 23) rfl rfl Try.func249 (by kernel_rfl) rfl #[.slice A1 q1.length c1, .slice Ab b2.length cb] rfl (by (try simp only [List.map_toArray, List.map_cons, List.map_nil]); first | done | rfl) ?_; (with_reducible refine (slices_Compare_int_int.calls k2 A1 c1 q1 Ab cb b2 c _ (Kd.R_reads' (tr_x H1.out)).2.2 (Kd.R_reads' H1.out).2.1 (Kd.R_reads' (tr_x HO.out)).2.2 (Kd.R_reads' HO.out).2.1 T4.out).mono ?_); rintro e w6 ⟨rfl, ⟨nd, rfl⟩⟩; refine ⟨_, rfl, ?_⟩))
          go_roundg k2
          case measure => have := HK1.out; have := HK2.out; omega
          case rel => exact ⟨b2, wrap64 (0 + 1), by first | rfl | (simp; done) | (simp [wrap64]; done) | decide, Hn, ⟨by have := HK2.out; omega⟩, ⟨HL.out.1, HL.out.2⟩, ⟨tr_x H1.out⟩, ⟨tr_x HM.out⟩, ⟨tr_x HO.out⟩, ⟨tb_⟩⟩
        ·
         rw [if_neg (show ¬ ((1 : Int) = 0) by decide)] at T4 Hn
         replace T4 := A_ T4
         by_cases c6 : c < 0
         ·
          rw [if_pos c6] at Hn
          have c6b := decide_eq_true c6
          clear c6
          obtain ⟨b3, T5, H2⟩ := Option.bind_eq_some_iff.mp Hn
          clear Hn
          replace T5 := A_ T5
          have Hn := A_ H2
          clear H2
          go_wp2_with (first | (refine gc_ 249 ?_; refine goesL_ (some 23) rfl rfl Try.func249 (by kernel_rfl) rfl #[.slice Am m.length cm, .slice Ab b2.length cb] rfl (by (try simp only [List.map_toArray, List.map_cons, List.map_nil]); first | done | rfl) ?_; (with_reducible refine (slices_Compare_int_int.calls k2 Am cm m Ab cb b2 c _ (Kd.R_reads' (tr_x HM.out)).2.2 (Kd.R_reads' HM.out).2.1 (Kd.R_reads' (tr_x HO.out)).2.2 (Kd.R_reads' HO.out).2.1 T4.out).mono ?_); rintro e w6 ⟨rfl, ⟨nd, rfl⟩⟩; refine ⟨_, rfl, ?_⟩) | (refine gc_ 196 ?_; refine goesL_ (some 26) rfl rfl Try.func196 (by kernel_rfl) rfl #[.slice Am m.length cm] rfl (by (try simp only [List.map_toArray, List.map_cons, List.map_nil]); first | done | rfl) ?_; (with_reducible refine (slices_Clone_int_int.calls Am cm m b3 _ (Kd.R_reads' (tr_x HM.out)).2.2 (Kd.R_reads' HM.out).2.1 T5.out).mono ?_); rintro e w7 ⟨v3, rfl, ho, hb⟩; refine ⟨_, rfl, ?_⟩; have z_ := A_ (And.intro ((hb.cell (World.block_lt_of_cell? _ _ HL.out.1)).trans HL.out.1) ((hb.cell (World.block_lt_of_cell? _ _ HL.out.2)).trans HL.out.2)); clear HL hx0 hx1; have HL := z_; clear z_; have HN := A_ (Kd.R_lower ho (below_size tb_)); clear ho HO; have z_ := A_ (Kd.R_below (tr_x H1.out) hb); clear H1; have H1 := z_; clear z_; have z_ := A_ (Kd.R_below (tr_x HM.out) hb); clear HM; have HM := z_; clear z_; have z_ := A_ (below_step tb_ hb); clear HB; have HB := z_; clear z_; clear hb))
          go_roundg k2
          case measure => have := HK1.out; have := HK2.out; omega
          case rel => exact ⟨b3, wrap64 (1 + 1), by first | rfl | (simp; done) | (simp [wrap64]; done) | decide, Hn, ⟨by have := HK2.out; omega⟩, ⟨HL.out.1, HL.out.2⟩, ⟨tr_x H1.out⟩, ⟨tr_x HM.out⟩, ⟨tr_x HN.out⟩, ⟨tb_⟩⟩
         ·
          rw [if_neg c6] at Hn
          have c6b := decide_eq_false c6
          clear c6
          replace Hn := A_ Hn
          go_wp2_with (first | (refine gc_ 249 ?_; refine goesL_ (some 23) rfl rfl Try.func249 (by kernel_rfl) rfl #[.slice Am m.length cm, .slice Ab b2.length cb] rfl (by (try simp only [List.map_toArray, List.map_cons, List.map_nil]); first | done | rfl) ?_; (with_reducible refine (slices_Compare_int_int.calls k2 Am cm m Ab cb b2 c _ (Kd.R_reads' (tr_x HM.out)).2.2 (Kd.R_reads' HM.out).2.1 (Kd.R_reads' (tr_x HO.out)).2.2 (Kd.R_reads' HO.out).2.1 T4.out).mono ?_); rintro e w6 ⟨rfl, ⟨nd, rfl⟩⟩; refine ⟨_, rfl, ?_⟩))
          go_roundg k2
          case measure => have := HK1.out; have := HK2.out; omega
          case rel => exact ⟨b2, wrap64 (1 + 1), by first | rfl | (simp; done) | (simp [wrap64]; done) | decide, Hn, ⟨by have := HK2.out; omega⟩, ⟨HL.out.1, HL.out.2⟩, ⟨tr_x H1.out⟩, ⟨tr_x HM.out⟩, ⟨tr_x HO.out⟩, ⟨tb_⟩⟩
       ·
        rw [if_neg c5] at H
        cases H
      ·
       rw [if_neg c4] at H
       have c4b := decide_eq_false c4
       clear c4
       have H' := A_ H
       clear H
       go_wp2
       go_roundg k2
       case measure => have := HK1.out; have := HK2.out; omega
       case rel => exact ⟨q1, b2, wrap64 (i + 1), A1, c1, rfl, by first | rfl | (simp; done), H', ⟨by have := HK1.out; have := HK2.out; omega⟩, ⟨(Kd.R_reads' (tr_x H1.out)).2.2⟩, ⟨(Kd.R_reads' H1.out).2.1⟩, ⟨tr_x HO.out⟩, ⟨tb_⟩⟩
   ·
    rw [if_neg c3] at H
    have c3b := decide_eq_false c3
    clear c3
    obtain rfl := Option.some.inj H
    go_wp2
    go_ret
    exact ⟨_, rfl, tr_x HO.out, tb_⟩

/-! ### impl_LeastQueens: function 96 -/
def impl_LeastQueens.f (k : Nat) (l0 : List Int) : Option (List Int × Bool) := (impl_isList.f k l0).bind fun t1549 => (if t1549 = true then ((impl_least.f k l0).bind fun t1550 => (some (t1550, true))) else (some (([] : List Int), false)))
theorem impl_LeastQueens.mono : ∀ a0 k, LeO (impl_LeastQueens.f k a0) (impl_LeastQueens.f (k + 1) a0) := by
 intro a0 k
 unfold impl_LeastQueens.f
 repeat' first | (with_reducible first | exact impl_isList.mono _ _ | exact impl_least.mono _ _ | exact LeO.refl _ | exact LeO.none _ | refine LeO.ite ?_ ?_ | refine LeO.bind ?_ (fun _ => ?_)) | exact impl_isList.mono _ _ | exact impl_least.mono _ _ | exact LeO.none _ | refine LeO.ite ?_ ?_ | refine LeO.bind ?_ (fun _ => ?_)
theorem impl_LeastQueens.calls (k : Nat) (A0 : Option Addr) (c0 : Nat) (l0 : List Int) (r1 : List Int) (r2 : Bool) (w : World) (hr0 : Kd.C (Kd.int .i64) w A0 l0.length l0) (hc0 : l0.length ≤ c0) (h : impl_LeastQueens.f k l0 = some (r1, r2)) :
  Calls Try.prog 96 #[.slice A0 l0.length c0] w fun e w' => ∃ v0_ : Value, e = .returned (.tuple #[v0_, .bool r2]) ∧ Kd.R (Kd.int .i64) 3 w' w.heap.size (fun _ => True) v0_ r1 ∧ Below w.heap.size w w' := by
 have HR0 := A_ hr0
 have HC0 := A_ hc0
 clear hr0 hc0
 have HB := A_ (Below.refl w.heap.size w)
 have H : ((impl_isList.f k l0).bind fun t1549 => (if t1549 = true then ((impl_least.f k l0).bind fun t1550 => (some (t1550, true))) else (some (([] : List Int), false)))) = some (r1, r2) := h
 clear h
 replace H := Option.bind_eq_some_iff.mp H
 obtain ⟨t1549, A20, H⟩ := H
 replace H : (if t1549 = true then ((impl_least.f k l0).bind fun t1550 => (some (t1550, true))) else (some (([] : List Int), false))) = some (r1, r2) := H
 have A2 := A_ A20
 clear A20
 by_cases c3 : t1549 = true
 ·
  subst c3
  have H1 : ((impl_least.f k l0).bind fun t1550 => (some (t1550, true))) = some (r1, r2) := by rw [if_pos rfl] at H; exact H
  clear H
  have H := H1
  clear H1
  replace H := Option.bind_eq_some_iff.mp H
  obtain ⟨t1550, A40, H⟩ := H
  replace H : (some (t1550, true)) = some (r1, r2) := H
  have A4 := A_ A40
  clear A40
  simp only [Option.some.injEq, Prod.mk.injEq] at H
  obtain ⟨rfl, rfl⟩ := H
  go_enter Try.func96, Try.ntmps96
  go_wp2_with (first | (refine gc_ 170 ?_; refine goesT_ (some 5) Try.func170 #[.slice A0 l0.length c0] ?_; (with_reducible refine (impl_isList.calls k _ _ l0 true _ ?side1 ?side2 A2.out).mono ?_); (case side1 => exact tc0_ HR0.out); (case side2 => exact HC0.out); rintro e w' ⟨rfl, ⟨nd, rfl⟩⟩; refine ⟨_, rfl, ?_⟩) | (refine gc_ 201 ?_; refine goesT_ (some 8) Try.func201 #[.slice A0 l0.length c0] ?_; (with_reducible refine (impl_least.calls k _ _ l0 t1550 _ ?side1 ?side2 A4.out).mono ?_); (case side1 => exact tc0_ HR0.out); (case side2 => exact HC0.out); rintro e w5 ⟨v1551, rfl, ho0, hb⟩; refine ⟨_, rfl, ?_⟩; have HO1552 := A_ (Kd.R_lower ho0 (below_size tb_)); replace HB := A_ (below_step tb_ hb); (try clear hb); (try clear ho0)))
  go_ret2
  exact ⟨_, te_, tr_x HO1552.out, tb_⟩
 ·
  replace c3 := Bool.eq_false_iff.mpr c3
  subst c3
  have H1 : (some (([] : List Int), false)) = some (r1, r2) := by rw [if_neg (show ¬ (false = true) by decide)] at H; exact H
  clear H
  have H := H1
  clear H1
  simp only [Option.some.injEq, Prod.mk.injEq] at H
  obtain ⟨rfl, rfl⟩ := H
  go_enter Try.func96, Try.ntmps96
  go_wp2_with (first | (refine gc_ 170 ?_; refine goesT_ (some 5) Try.func170 #[.slice A0 l0.length c0] ?_; (with_reducible refine (impl_isList.calls k _ _ l0 false _ ?side1 ?side2 A2.out).mono ?_); (case side1 => exact tc0_ HR0.out); (case side2 => exact HC0.out); rintro e w' ⟨rfl, ⟨nd, rfl⟩⟩; refine ⟨_, rfl, ?_⟩))
  go_ret2
  exact ⟨_, te_, by first | exact Kd.R_nil _ _ _ _ _ | exact Kd.N_nil _ _ _ _ _ | exact Kd.V_nil _ _ _ _ _ | exact Kd.Q_nil _ _ _ _ _ | exact Kd.S_nil _ _ _ _ _, tb_⟩

/-! ### spec_quTurn: function 204 -/
def spec_quTurn.l0 : Nat → List Int → List Int → List Int → Int → Int → Option (List Int)
 | 0, _, _, _, _, _ => none
 | k + 1, x0, x3, x9, x10, x11 => if x11 < x10 then (if 0 ≤ x11 then (if x11 < (x9.length : Int) then (if 0 ≤ (rd x9 x11) then (if (rd x9 x11) < (x3.length : Int) then (spec_quTurn.l0 k x0 (x3.set ((rd x9 x11) : Int).toNat (wrap64 ((wrap64 ((x0.length : Int) - 1)) - x11))) x9 x10 (wrap64 (x11 + 1))) else (none)) else (none)) else (none)) else (none)) else (some x3)
def spec_quTurn.f (k : Nat) (l0 : List Int) : Option (List Int) := if 0 ≤ (l0.length : Int) then (if ((l0.length : Int) : Int).toNat ≤ 35184372088832 then (spec_quTurn.l0 k l0 (List.replicate ((l0.length : Int) : Int).toNat 0) l0 (l0.length : Int) 0) else (none)) else (none)
theorem spec_quTurn.mono_l : ∀ k, (∀ y0 y1 y2 y3 y4, LeO (spec_quTurn.l0 k y0 y1 y2 y3 y4) (spec_quTurn.l0 (k + 1) y0 y1 y2 y3 y4))
 | 0 => fun _ _ _ _ _ r h => by simp [spec_quTurn.l0] at h
 | k + 1 => by
  have ih0 := spec_quTurn.mono_l k
  ·
   intro y0 y1 y2 y3 y4
   unfold spec_quTurn.l0
   repeat' first | (with_reducible first | exact ih0 _ _ _ _ _ | exact LeO.refl _ | exact LeO.none _ | refine LeO.ite ?_ ?_ | refine LeO.bind ?_ (fun _ => ?_)) | exact ih0 _ _ _ _ _ | exact LeO.none _ | refine LeO.ite ?_ ?_ | refine LeO.bind ?_ (fun _ => ?_)
theorem spec_quTurn.mono : ∀ a0 k, LeO (spec_quTurn.f k a0) (spec_quTurn.f (k + 1) a0) := by
 intro a0 k
 have ih0 := spec_quTurn.mono_l k
 unfold spec_quTurn.f
 repeat' first | (with_reducible first | exact ih0 _ _ _ _ _ | exact LeO.refl _ | exact LeO.none _ | refine LeO.ite ?_ ?_ | refine LeO.bind ?_ (fun _ => ?_)) | exact ih0 _ _ _ _ _ | exact LeO.none _ | refine LeO.ite ?_ ?_ | refine LeO.bind ?_ (fun _ => ?_)
theorem spec_quTurn.calls (k : Nat) (A0 : Option Addr) (c0 : Nat) (l0 : List Int) (r : List Int) (w : World) (hr0 : Kd.C (Kd.int .i64) w A0 l0.length l0) (hc0 : l0.length ≤ c0) (h : spec_quTurn.f k l0 = some r) :
  Calls Try.prog 204 #[.slice A0 l0.length c0] w fun e w' => ∃ v0_ : Value, e = .returned (v0_) ∧ Kd.R (Kd.int .i64) 3 w' w.heap.size (fun _ => True) v0_ r ∧ Below w.heap.size w w' := by
 have HR0 := A_ hr0
 have HC0 := A_ hc0
 clear hr0 hc0
 have HB := A_ (Below.refl w.heap.size w)
 have H : (if 0 ≤ (l0.length : Int) then (if ((l0.length : Int) : Int).toNat ≤ 35184372088832 then (spec_quTurn.l0 k l0 (List.replicate ((l0.length : Int) : Int).toNat 0) l0 (l0.length : Int) 0) else (none)) else (none)) = some r := h
 clear h
 by_cases c2 : 0 ≤ (l0.length : Int)
 ·
  rw [if_pos c2] at H
  have c2b0 := eq_true c2
  have c2b1 := decide_eq_true c2
  clear c2
  by_cases c3 : ((l0.length : Int) : Int).toNat ≤ 35184372088832
  ·
   rw [if_pos c3] at H
   have c3b0 := eq_true c3
   have c3b1 := decide_eq_true c3
   clear c3
   obtain ⟨y1553, hy1553⟩ : ∃ y_ : List Int, y_ = (List.replicate ((l0.length : Int) : Int).toNat 0) := ⟨_, rfl⟩
   replace H : (spec_quTurn.l0 k l0 y1553 l0 (l0.length : Int) 0) = some r := ty_ hy1553 H
   have Ny1553 := A_ hy1553
   clear hy1553
   have H' := A_ H
   clear H
   go_enter Try.func204, Try.ntmps204
   go_wp2_with (first | (refine gd_ 8 ?_; refine Kd.R_make (Kd.int .i64) _ 3 rfl (N := 8) rfl 22 _ _ rfl (l0.length : Int) rfl rfl Try.underlying22 (.int .i64 0) 8 info3 rfl (by decide) (by omega) 0 (ok := fun _ => True) (okp := fun _ => True) rfl (fun _ hk => hk) trivial (od_) (Nat.le_trans (Nat.mul_le_mul_right _ (od_ : (l0.length : Int).toNat ≤ 35184372088832)) (by omega)) (Below.refl _ _) (Nat.le_refl _) ?_; intro v1554 w4 ho5 hb hg_ hnew_; clear hg_ hnew_; (first | rw [← Ny1553.out] at ho5 | (simp only [Int.reduceToNat] at ho5; rw [← Ny1553.out] at ho5)); have HO1555 := A_ (Kd.R_lower ho5 (below_size tb_)); replace HB := A_ (below_step tb_ hb); clear hb ho5))
   go_loopg [11] k (fun kq v11 w' => ∃ (x3_1 : List Int) (x11_1 : Int), v11 = .int .i64 x11_1 ∧ Aside0 (spec_quTurn.l0 kq l0 x3_1 l0 (l0.length : Int) x11_1 = some r) ∧ Aside0 (kq ≤ k) ∧ Aside0 (Kd.R (Kd.int .i64) 3 w' w.heap.size (fun _ => True) v1554 x3_1) ∧ Aside0 (Below w.heap.size w w'))
   case atStart => exact ⟨(y1553), (0), tf_, H', ⟨Nat.le_refl _⟩, ⟨tr_x HO1555.out⟩, ⟨tb_⟩⟩
   case round =>
    clear H'
    try clear c2
    try clear c2b0
    try clear c2b1
    try clear p2
    try clear c3
    try clear c3b0
    try clear c3b1
    obtain ⟨x3_1, x11_1, rfl, HA, HK1, HO_3, HB⟩ := hrel
    cases gk with
    | zero => exact absurd HA.out (by simp [spec_quTurn.l0])
    | succ k1 =>
     have H := HA.out
     clear HA
     simp only [spec_quTurn.l0] at H
     by_cases c6 : x11_1 < (l0.length : Int)
     ·
      rw [if_pos c6] at H
      have c6b0 := decide_eq_true c6
      clear c6
      by_cases c7 : 0 ≤ x11_1
      ·
       rw [if_pos c7] at H
       have c7b0 := decide_eq_true c7
       clear c7
       by_cases c8 : x11_1 < (l0.length : Int)
       ·
        rw [if_pos c8] at H
        have c8b0 := decide_eq_true c8
        clear c8
        by_cases c9 : 0 ≤ (rd l0 x11_1)
        ·
         rw [if_pos c9] at H
         have c9b0 := decide_eq_true c9
         clear c9
         by_cases c10 : (rd l0 x11_1) < (x3_1.length : Int)
         ·
          rw [if_pos c10] at H
          have c10b0 := decide_eq_true c10
          clear c10
          obtain ⟨y1557, hy1557⟩ : ∃ y_ : List Int, y_ = (x3_1.set ((rd l0 x11_1) : Int).toNat (wrap64 ((wrap64 ((l0.length : Int) - 1)) - x11_1))) := ⟨_, rfl⟩
          replace H : (spec_quTurn.l0 k1 l0 y1557 l0 (l0.length : Int) (wrap64 (x11_1 + 1))) = some r := ty_ hy1557 H
          have Ny1557 := A_ hy1557
          clear hy1557
          have H' := A_ H
          clear H
          have p1556 : 0 ≤ (x11_1 : Int) := od_
          have q1556 : x11_1 < (l0.length : Int) := od_
          obtain ⟨ad1556, e1556, hx1556_0⟩ := Kd.at_int HR0.out x11_1 p1556 q1556
          cases e1556
          (try replace hx1556_0 := (HB.out.cell (World.block_lt_of_cell? w _ hx1556_0)).trans hx1556_0)
          replace p1556 := eq_true p1556
          replace q1556 := eq_true q1556
          have p11 : 0 ≤ ((rd l0 x11_1) : Int) := od_
          have q11 : ((rd l0 x11_1) : Int) < ((x3_1.length : Int) : Int) := od_
          obtain ⟨go11, co11, eo11, gb11, gl11, cl11, HG11⟩ := Kd.R_form HO_3.out (by omega)
          (first | cases eo11 | (injection eo11 with ea_ en_ ec_; (first | subst ea_ | (injection ea_ with ea_; subst ea_)); subst ec_; clear en_))
          have GB11 := A_ gb11
          have GG11 := A_ HG11
          clear gb11 gl11 HG11
          obtain ⟨hx11_0, hf11_0⟩ := Kd.R_celln 0 HO_3.out ((rd l0 x11_1) : Int) p11 q11
          replace p11 := eq_true p11
          replace q11 := eq_true q11
          have HP12 := Kd.R_putg HO_3.out ((rd l0 x11_1) : Int) (wrap64 ((wrap64 ((l0.length : Int) - 1)) - x11_1))
          go_wp2_with (first | ((with_reducible refine gate_store (t := 3) (p := 23) rfl ?_); refine store_event (t := 3) (p := 23) (v := ?vo_w13) (w1 := (wr.setCell ⟨go11, ((rd l0 x11_1) : Int).toNat, none⟩ (.int .i64 (wrap64 ((wrap64 ((l0.length : Int) - 1)) - x11_1))))) ?hg ?ho ?hn ?hr ?_; (case ho => rfl); (case hg => rfl); (case hn => rfl); (case hr => first | (go_simp; done) | (go_simp; rfl)); intro w13 hw; have hg : wr.grownBy w13 (some go11) := (by rw [hw]; exact HP12.2); have hp_ : Kd.R (Kd.int .i64) 3 w13 w.heap.size (fun _ => True) (.slice (some ⟨go11, 0, none⟩) x3_1.length co11) y1557 := (by rw [hw, Ny1557.out]; exact HP12.1); clear HP12; replace HO_3 := A_ (hp_); replace HB := A_ ((by rw [hw]; exact below_set (HB.out) GB11.out : Below w.heap.size w w13)); clear hg hw hp_))
          go_roundg k1
          case measure => have := HK1.out; omega
          case rel => exact ⟨(y1557), (wrap64 (x11_1 + 1)), tf_, H', ⟨by have := HK1.out; omega⟩, ⟨tr_x HO_3.out⟩, ⟨tb_⟩⟩
         ·
          rw [if_neg c10] at H
          exact absurd H (by simp)
        ·
         rw [if_neg c9] at H
         exact absurd H (by simp)
       ·
        rw [if_neg c8] at H
        exact absurd H (by simp)
      ·
       rw [if_neg c7] at H
       exact absurd H (by simp)
     ·
      rw [if_neg c6] at H
      have c6b0 := decide_eq_false c6
      clear c6
      obtain rfl := Option.some.inj H
      go_wp2
      go_ret
      exact ⟨_, te_, tr_x HO_3.out, tb_⟩
  ·
   rw [if_neg c3] at H
   exact absurd H (by simp)
 ·
  rw [if_neg c2] at H
  exact absurd H (by simp)

/-! ### spec_quLess: function 250 -/
def spec_quLess.l0 : Nat → List Int → List Int → Int → Int → Option (Bool)
 | 0, _, _, _, _ => none
 | k + 1, x1, x7, x8, x9 => if x9 < x8 then (if 0 ≤ x9 then (if x9 < (x7.length : Int) then (if x9 < (x1.length : Int) then (if (rd x7 x9) = (rd x1 x9) then (spec_quLess.l0 k x1 x7 x8 (wrap64 (x9 + 1))) else (some (decide ((rd x7 x9) < (rd x1 x9))))) else (none)) else (none)) else (none)) else (some false)
def spec_quLess.f (k : Nat) (l0 : List Int) (l1 : List Int) : Option (Bool) := spec_quLess.l0 k l1 l0 (l0.length : Int) 0
theorem spec_quLess.mono_l : ∀ k, (∀ y0 y1 y2 y3, LeO (spec_quLess.l0 k y0 y1 y2 y3) (spec_quLess.l0 (k + 1) y0 y1 y2 y3))
 | 0 => fun _ _ _ _ r h => by simp [spec_quLess.l0] at h
 | k + 1 => by
  have ih0 := spec_quLess.mono_l k
  ·
   intro y0 y1 y2 y3
   unfold spec_quLess.l0
   repeat' first | (with_reducible first | exact ih0 _ _ _ _ | exact LeO.refl _ | exact LeO.none _ | refine LeO.ite ?_ ?_ | refine LeO.bind ?_ (fun _ => ?_)) | exact ih0 _ _ _ _ | exact LeO.none _ | refine LeO.ite ?_ ?_ | refine LeO.bind ?_ (fun _ => ?_)
theorem spec_quLess.mono : ∀ a0 a1 k, LeO (spec_quLess.f k a0 a1) (spec_quLess.f (k + 1) a0 a1) := by
 intro a0 a1 k
 have ih0 := spec_quLess.mono_l k
 unfold spec_quLess.f
 repeat' first | (with_reducible first | exact ih0 _ _ _ _ | exact LeO.refl _ | exact LeO.none _ | refine LeO.ite ?_ ?_ | refine LeO.bind ?_ (fun _ => ?_)) | exact ih0 _ _ _ _ | exact LeO.none _ | refine LeO.ite ?_ ?_ | refine LeO.bind ?_ (fun _ => ?_)
theorem spec_quLess.calls (k : Nat) (A0 : Option Addr) (c0 : Nat) (l0 : List Int) (A1 : Option Addr) (c1 : Nat) (l1 : List Int) (r : Bool) (w : World) (hr0 : Kd.C (Kd.int .i64) w A0 l0.length l0) (hc0 : l0.length ≤ c0) (hr1 : Kd.C (Kd.int .i64) w A1 l1.length l1) (hc1 : l1.length ≤ c1) (h : spec_quLess.f k l0 l1 = some r) :
  Calls Try.prog 250 #[.slice A0 l0.length c0, .slice A1 l1.length c1] w fun e w' => e = .returned (.bool r) ∧ Drawn0 w w' := by
 have HR0 := A_ hr0
 have HC0 := A_ hc0
 clear hr0 hc0
 have HR1 := A_ hr1
 have HC1 := A_ hc1
 clear hr1 hc1
 have H : (spec_quLess.l0 k l1 l0 (l0.length : Int) 0) = some r := h
 clear h
 have H' := A_ H
 clear H
 go_enter Try.func250, Try.ntmps250
 go_wp2
 go_loopg [9] k (fun kq v9 w' => ∃ (x9_1 : Int), v9 = .int .i64 x9_1 ∧ Aside0 (spec_quLess.l0 kq l1 l0 (l0.length : Int) x9_1 = some r) ∧ Aside0 (kq ≤ k) ∧ Drawn0 w w')
 case atStart => exact ⟨(0), tf_, H', ⟨Nat.le_refl _⟩, dr_⟩
 case round =>
  clear H'
  try clear c1
  try clear c2
  try clear p2
  obtain ⟨x9_1, rfl, HA, HK1, ⟨m1, rfl⟩⟩ := hrel
  cases gk with
  | zero => exact absurd HA.out (by simp [spec_quLess.l0])
  | succ k1 =>
   have H := HA.out
   clear HA
   simp only [spec_quLess.l0] at H
   by_cases c3 : x9_1 < (l0.length : Int)
   ·
    rw [if_pos c3] at H
    have c3b0 := decide_eq_true c3
    clear c3
    by_cases c4 : 0 ≤ x9_1
    ·
     rw [if_pos c4] at H
     have c4b0 := decide_eq_true c4
     clear c4
     by_cases c5 : x9_1 < (l0.length : Int)
     ·
      rw [if_pos c5] at H
      have c5b0 := decide_eq_true c5
      clear c5
      by_cases c6 : x9_1 < (l1.length : Int)
      ·
       rw [if_pos c6] at H
       have c6b0 := decide_eq_true c6
       clear c6
       by_cases c7 : (rd l0 x9_1) = (rd l1 x9_1)
       ·
        rw [if_pos c7] at H
        have c7b0 : ((rd l0 x9_1) == (rd l1 x9_1)) = true := beq_iff_eq.mpr c7
        have c7b1 : ((rd l0 x9_1) != (rd l1 x9_1)) = false := bne_eq_false_iff_eq.mpr c7
        clear c7
        have H' := A_ H
        clear H
        have p1558 : 0 ≤ (x9_1 : Int) := od_
        have q1558 : x9_1 < (l0.length : Int) := od_
        obtain ⟨ad1558, e1558, hx1558_0⟩ := Kd.at_int HR0.out x9_1 p1558 q1558
        cases e1558
        replace p1558 := eq_true p1558
        replace q1558 := eq_true q1558
        have p1559 : 0 ≤ (x9_1 : Int) := od_
        have q1559 : x9_1 < (l1.length : Int) := od_
        obtain ⟨ad1559, e1559, hx1559_0⟩ := Kd.at_int HR1.out x9_1 p1559 q1559
        cases e1559
        replace p1559 := eq_true p1559
        replace q1559 := eq_true q1559
        go_wp2
        go_roundg k1
        case measure => have := HK1.out; omega
        case rel => exact ⟨(wrap64 (x9_1 + 1)), tf_, H', ⟨by have := HK1.out; omega⟩, dr_⟩
       ·
        rw [if_neg c7] at H
        have c7b0 : ((rd l0 x9_1) == (rd l1 x9_1)) = false := beq_eq_false_iff_ne.mpr c7
        have c7b1 : ((rd l0 x9_1) != (rd l1 x9_1)) = true := bne_iff_ne.mpr c7
        obtain rfl := Option.some.inj H
        have p1558 : 0 ≤ (x9_1 : Int) := od_
        have q1558 : x9_1 < (l0.length : Int) := od_
        obtain ⟨ad1558, e1558, hx1558_0⟩ := Kd.at_int HR0.out x9_1 p1558 q1558
        cases e1558
        replace p1558 := eq_true p1558
        replace q1558 := eq_true q1558
        have p1559 : 0 ≤ (x9_1 : Int) := od_
        have q1559 : x9_1 < (l1.length : Int) := od_
        obtain ⟨ad1559, e1559, hx1559_0⟩ := Kd.at_int HR1.out x9_1 p1559 q1559
        cases e1559
        replace p1559 := eq_true p1559
        replace q1559 := eq_true q1559
        have p1560 : 0 ≤ (x9_1 : Int) := od_
        have q1560 : x9_1 < (l1.length : Int) := od_
        obtain ⟨ad1560, e1560, hx1560_0⟩ := Kd.at_int HR1.out x9_1 p1560 q1560
        obtain rfl : ad1559 = ad1560 := (by injection e1560)
        replace p1560 := eq_true p1560
        replace q1560 := eq_true q1560
        go_wp2
        go_ret
        exact ⟨tf_, dr_⟩
      ·
       rw [if_neg c6] at H
       exact absurd H (by simp)
     ·
      rw [if_neg c5] at H
      exact absurd H (by simp)
    ·
     rw [if_neg c4] at H
     exact absurd H (by simp)
   ·
    rw [if_neg c3] at H
    have c3b0 := decide_eq_false c3
    clear c3
    obtain rfl := Option.some.inj H
    go_wp2
    go_ret
    exact ⟨tf_, dr_⟩

/-! ### spec_quMirror: function 206 -/
def spec_quMirror.l0 : Nat → List Int → List Int → List Int → Int → Int → Option (List Int)
 | 0, _, _, _, _, _ => none
 | k + 1, x0, x3, x6, x7, x8 => if x8 < x7 then (if 0 ≤ x8 then (if x8 < (x6.length : Int) then (if x3.length < 17592186044416 then (spec_quMirror.l0 k x0 (x3 ++ [wrap64 ((wrap64 ((x0.length : Int) - 1)) - (rd x6 x8))]) x6 x7 (wrap64 (x8 + 1))) else (none)) else (none)) else (none)) else (some x3)
def spec_quMirror.f (k : Nat) (l0 : List Int) : Option (List Int) := spec_quMirror.l0 k l0 ([] : List Int) l0 (l0.length : Int) 0
theorem spec_quMirror.mono_l : ∀ k, (∀ y0 y1 y2 y3 y4, LeO (spec_quMirror.l0 k y0 y1 y2 y3 y4) (spec_quMirror.l0 (k + 1) y0 y1 y2 y3 y4))
 | 0 => fun _ _ _ _ _ r h => by simp [spec_quMirror.l0] at h
 | k + 1 => by
  have ih0 := spec_quMirror.mono_l k
  ·
   intro y0 y1 y2 y3 y4
   unfold spec_quMirror.l0
   repeat' first | (with_reducible first | exact ih0 _ _ _ _ _ | exact LeO.refl _ | exact LeO.none _ | refine LeO.ite ?_ ?_ | refine LeO.bind ?_ (fun _ => ?_)) | exact ih0 _ _ _ _ _ | exact LeO.none _ | refine LeO.ite ?_ ?_ | refine LeO.bind ?_ (fun _ => ?_)
theorem spec_quMirror.mono : ∀ a0 k, LeO (spec_quMirror.f k a0) (spec_quMirror.f (k + 1) a0) := by
 intro a0 k
 have ih0 := spec_quMirror.mono_l k
 unfold spec_quMirror.f
 repeat' first | (with_reducible first | exact ih0 _ _ _ _ _ | exact LeO.refl _ | exact LeO.none _ | refine LeO.ite ?_ ?_ | refine LeO.bind ?_ (fun _ => ?_)) | exact ih0 _ _ _ _ _ | exact LeO.none _ | refine LeO.ite ?_ ?_ | refine LeO.bind ?_ (fun _ => ?_)
theorem spec_quMirror.calls (k : Nat) (A0 : Option Addr) (c0 : Nat) (l0 : List Int) (r : List Int) (w : World) (hr0 : Kd.C (Kd.int .i64) w A0 l0.length l0) (hc0 : l0.length ≤ c0) (h : spec_quMirror.f k l0 = some r) :
  Calls Try.prog 206 #[.slice A0 l0.length c0] w fun e w' => ∃ v0_ : Value, e = .returned (v0_) ∧ Kd.R (Kd.int .i64) 3 w' w.heap.size (fun _ => True) v0_ r ∧ Below w.heap.size w w' := by
 have HR0 := A_ hr0
 have HC0 := A_ hc0
 clear hr0 hc0
 have HB := A_ (Below.refl w.heap.size w)
 have H : (spec_quMirror.l0 k l0 ([] : List Int) l0 (l0.length : Int) 0) = some r := h
 clear h
 have H' := A_ H
 clear H
 go_enter Try.func206, Try.ntmps206
 go_wp2
 go_loopg [3, 8] k (fun kq v3 v8 w' => ∃ (x3_1 : List Int) (x8_1 : Int), v8 = .int .i64 x8_1 ∧ Aside0 (spec_quMirror.l0 kq l0 x3_1 l0 (l0.length : Int) x8_1 = some r) ∧ Aside0 (kq ≤ k) ∧ Aside0 (Kd.R (Kd.int .i64) 3 w' w.heap.size (fun _ => True) v3 x3_1) ∧ Aside0 (Below w.heap.size w w'))
 case atStart => exact ⟨(([] : List Int)), (0), tf_, H', ⟨Nat.le_refl _⟩, ⟨by first | exact Kd.R_nil _ _ _ _ _ | exact Kd.N_nil _ _ _ _ _ | exact Kd.V_nil _ _ _ _ _ | exact Kd.Q_nil _ _ _ _ _ | exact Kd.S_nil _ _ _ _ _⟩, ⟨tb_⟩⟩
 case round =>
  clear H'
  obtain ⟨x3_1, x8_1, rfl, HA, HK1, HO_3, HB⟩ := hrel
  cases gk with
  | zero => exact absurd HA.out (by simp [spec_quMirror.l0])
  | succ k1 =>
   have H := HA.out
   clear HA
   simp only [spec_quMirror.l0] at H
   by_cases c2 : x8_1 < (l0.length : Int)
   ·
    rw [if_pos c2] at H
    have c2b0 := decide_eq_true c2
    clear c2
    by_cases c3 : 0 ≤ x8_1
    ·
     rw [if_pos c3] at H
     have c3b0 := decide_eq_true c3
     clear c3
     by_cases c4 : x8_1 < (l0.length : Int)
     ·
      rw [if_pos c4] at H
      have c4b0 := decide_eq_true c4
      clear c4
      by_cases c5 : x3_1.length < 17592186044416
      ·
       rw [if_pos c5] at H
       have LMc5 := A_ c5
       clear c5
       obtain ⟨y1562, hy1562⟩ : ∃ y_ : List Int, y_ = (x3_1 ++ [wrap64 ((wrap64 ((l0.length : Int) - 1)) - (rd l0 x8_1))]) := ⟨_, rfl⟩
       replace H : (spec_quMirror.l0 k1 l0 y1562 l0 (l0.length : Int) (wrap64 (x8_1 + 1))) = some r := ty_ hy1562 H
       have Ny1562 := A_ hy1562
       clear hy1562
       have H' := A_ H
       clear H
       have p1561 : 0 ≤ (x8_1 : Int) := od_
       have q1561 : x8_1 < (l0.length : Int) := od_
       obtain ⟨ad1561, e1561, hx1561_0⟩ := Kd.at_int HR0.out x8_1 p1561 q1561
       cases e1561
       (try replace hx1561_0 := (HB.out.cell (World.block_lt_of_cell? w _ hx1561_0)).trans hx1561_0)
       replace p1561 := eq_true p1561
       replace q1561 := eq_true q1561
       go_wp2_with (first | ((with_reducible refine gate_builtin (b := .append) (xs := #[.tmp 12, .tmp 18]) rfl ?_); at_builtin; refine Kd.R_append (Kd.int .i64) (w0 := w) w.heap.size rfl (.tmp 12) (.tmp 18) 22 3 (.int .i64 0) 8 rfl Try.underlying22 info3 rfl (by decide) (by omega) u3 x3_1 (wrap64 ((wrap64 ((l0.length : Int) - 1)) - (rd l0 x8_1))) [.int .i64 (wrap64 ((wrap64 ((l0.length : Int) - 1)) - (rd l0 x8_1)))] (fun _ => True) (fun _ => False) rfl rfl ?aP (fun _ hk => hk.elim) ?aF ?aO ?aB ?aS ?aL ?_; (case aP => exact rfl); (case aB => exact tb_); (case aF => exact (fun _ _ => trivial)); (case aO => exact (tr_x HO_3.out)); (case aS => exact (below_size tb_)); (case aL => have := LMc5.out; omega); intro v1563 w6 ho hb hg hat; rw [← Ny1562.out] at ho; have n0_ := A_ (hb); have n1_ := A_ (ho); clear HB; clear HO_3; have HB := n0_; have HO1564 := n1_; clear n0_ n1_; clear ho hb hg hat))
       go_roundg k1
       case measure => have := HK1.out; omega
       case rel => exact ⟨(y1562), (wrap64 (x8_1 + 1)), tf_, H', ⟨by have := HK1.out; omega⟩, ⟨tr_x HO1564.out⟩, ⟨tb_⟩⟩
      ·
       rw [if_neg c5] at H
       exact absurd H (by simp)
     ·
      rw [if_neg c4] at H
      exact absurd H (by simp)
    ·
     rw [if_neg c3] at H
     exact absurd H (by simp)
   ·
    rw [if_neg c2] at H
    have c2b0 := decide_eq_false c2
    clear c2
    obtain rfl := Option.some.inj H
    go_wp2
    go_ret
    exact ⟨_, te_, tr_x HO_3.out, tb_⟩

/-! ### spec_quLeast: function 202 -/
def spec_quLeast.l0 : Nat → List Int → List Int → Int → Option (List Int)
 | 0, _, _, _ => none
 | k + 1, q, b, i => if i < 4 then ((spec_quTurn.f k q).bind fun q1 => (spec_quLess.f k q1 b).bind fun t => (spec_quMirror.f k q1).bind fun m => (spec_quLess.f k m (if t = true then q1 else b)).bind fun t2 => spec_quLeast.l0 k q1 (if t2 = true then m else if t = true then q1 else b) (wrap64 (i + 1))) else some b
def spec_quLeast.f (k : Nat) (l0 : List Int) : Option (List Int) := (spec_l1Own.f l0).bind fun b => spec_quLeast.l0 k l0 b 0
theorem spec_quLeast.mono_l : ∀ k q b i, LeO (spec_quLeast.l0 k q b i) (spec_quLeast.l0 (k + 1) q b i)
 | 0 => fun _ _ _ r h => by simp [spec_quLeast.l0] at h
 | k + 1 => by
  intro q b i
  unfold spec_quLeast.l0
  refine LeO.ite ?_ (LeO.refl _)
  refine LeO.bind (spec_quTurn.mono _ _) (fun q1 => ?_)
  refine LeO.bind (spec_quLess.mono _ _ _) (fun t => ?_)
  refine LeO.bind (spec_quMirror.mono _ _) (fun m => ?_)
  refine LeO.bind (spec_quLess.mono _ _ _) (fun t2 => ?_)
  exact spec_quLeast.mono_l k _ _ _
theorem spec_quLeast.mono : ∀ a0 k, LeO (spec_quLeast.f k a0) (spec_quLeast.f (k + 1) a0) := fun a0 k => LeO.bind (LeO.refl _) (fun b => spec_quLeast.mono_l k _ _ _)
theorem spec_quLeast.calls (k : Nat) (A0 : Option Addr) (c0 : Nat) (l0 : List Int) (r : List Int) (w : World) (hr0 : Kd.C (Kd.int .i64) w A0 l0.length l0) (hc0 : l0.length ≤ c0) (h : spec_quLeast.f k l0 = some r) :
  Calls Try.prog 202 #[.slice A0 l0.length c0] w fun e w' => ∃ v0_ : Value, e = .returned (v0_) ∧ Kd.R (Kd.int .i64) 3 w' w.heap.size (fun _ => True) v0_ r ∧ Below w.heap.size w w' := by
 have HR0 := A_ hr0
 have HC0 := A_ hc0
 clear hr0 hc0
 have HB := A_ (Below.refl w.heap.size w)
 obtain ⟨b, A1, H⟩ := Option.bind_eq_some_iff.mp h
 have A1' := A_ A1
 have H' := A_ H
 clear A1 H h
 go_enter Try.func202, Try.ntmps202
 go_wp2_with (first | (refine gc_ 150 ?_; refine goesL_ (some 7) rfl rfl Try.func150 (by kernel_rfl) rfl #[.slice A0 l0.length c0] rfl (by (try simp only [List.map_toArray, List.map_cons, List.map_nil]); first | done | rfl) ?_; (with_reducible refine (spec_l1Own.calls A0 c0 l0 b _ (Kd.C_below HR0.out tb_) HC0.out A1'.out).mono ?_); rintro e w1 ⟨v1, rfl, ho, hb⟩; refine ⟨_, rfl, ?_⟩; have HO := A_ (Kd.R_lower ho (below_size tb_)); clear ho; have z_ := A_ (below_step tb_ hb); clear HB; have HB := z_; clear z_ hb))
 go_loopg [0, 3, 4] k (fun kq v0 v3 v4 w' => ∃ (q b : List Int) (i : Int) (Aq : Option Addr) (cq : Nat), v0 = .slice Aq q.length cq ∧ v4 = .int .i64 i ∧ Aside0 (spec_quLeast.l0 kq q b i = some r) ∧ Aside0 (kq ≤ k) ∧ Aside0 (Kd.C (Kd.int .i64) w' Aq q.length q) ∧ Aside0 (q.length ≤ cq) ∧ Aside0 (Kd.R (Kd.int .i64) 3 w' w.heap.size (fun _ => True) v3 b) ∧ Aside0 (Below w.heap.size w w'))
 case atStart => exact ⟨l0, b, 0, A0, c0, rfl, rfl, H', ⟨Nat.le_refl _⟩, ⟨Kd.C_below HR0.out tb_⟩, HC0, ⟨tr_x HO.out⟩, ⟨tb_⟩⟩
 case round =>
  clear H' HR0 HC0 A1'
  try clear HO
  obtain ⟨q, b, i, Aq, cq, rfl, rfl, HA, HK1, HQ, HCQ, HO, HB⟩ := hrel
  cases gk with
  | zero => exact absurd HA.out (by simp [spec_quLeast.l0])
  | succ k1 =>
   have H := HA.out
   clear HA
   simp only [spec_quLeast.l0] at H
   by_cases c3 : i < 4
   ·
    rw [if_pos c3] at H
    have c3b := decide_eq_true c3
    clear c3
    obtain ⟨q1, T1, H⟩ := Option.bind_eq_some_iff.mp H
    obtain ⟨t, T2, H⟩ := Option.bind_eq_some_iff.mp H
    obtain ⟨m, T3, H⟩ := Option.bind_eq_some_iff.mp H
    obtain ⟨t2, T4, Hn⟩ := Option.bind_eq_some_iff.mp H
    clear H
    replace T1 := A_ T1
    replace T2 := A_ T2
    replace T3 := A_ T3
    obtain ⟨Ab, cb, eb⟩ := Kd.R_slice HO.out
    subst eb
    replace T4 := A_ T4
    replace Hn := A_ Hn
    cases t with
    | false =>
     cases t2 with
     | false =>
      simp only [Bool.false_eq_true, if_false, if_true] at T4 Hn
      go_wp2_with (first | (refine gc_ 204 ?_; refine goesL_ (some 13) rfl rfl Try.func204 (by kernel_rfl) rfl #[.slice Aq q.length cq] rfl (by (try simp only [List.map_toArray, List.map_cons, List.map_nil]); first | done | rfl) ?_; (with_reducible refine (spec_quTurn.calls k1 Aq cq q q1 _ (by (with_reducible repeat (first | refine Kd.C_alloc ?_ _ | refine Kd.C_drewN ?_ _ | refine Kd.C_drew ?_)); exact HQ.out) HCQ.out T1.out).mono ?_); rintro e w2 ⟨v1, rfl, ho, hb⟩; refine ⟨_, rfl, ?_⟩; obtain ⟨A1, c1, e1⟩ := Kd.R_slice ho; subst e1; have H1 := A_ (Kd.R_lower ho (below_size tb_)); clear ho HQ HCQ; have z_ := A_ (Kd.R_below (tr_x HO.out) hb); clear HO; have HO := z_; clear z_; have z_ := A_ (below_step tb_ hb); clear HB; have HB := z_; clear z_; clear hb) | (refine gc_ 250 ?_; refine goesL_ (some 16) rfl rfl Try.func250 (by kernel_rfl) rfl #[.slice A1 q1.length c1, .slice Ab b.length cb] rfl (by (try simp only [List.map_toArray, List.map_cons, List.map_nil]); first | done | rfl) ?_; (with_reducible refine (spec_quLess.calls k1 A1 c1 q1 Ab cb b false _ (Kd.R_reads' (tr_x H1.out)).2.2 (Kd.R_reads' H1.out).2.1 (Kd.R_reads' (tr_x HO.out)).2.2 (Kd.R_reads' HO.out).2.1 T2.out).mono ?_); rintro e w3 ⟨rfl, ⟨nd, rfl⟩⟩; refine ⟨_, rfl, ?_⟩) | (refine gc_ 206 ?_; refine goesL_ (some 19) rfl rfl Try.func206 (by kernel_rfl) rfl #[.slice A1 q1.length c1] rfl (by (try simp only [List.map_toArray, List.map_cons, List.map_nil]); first | done | rfl) ?_; (with_reducible refine (spec_quMirror.calls k1 A1 c1 q1 m _ (Kd.R_reads' (tr_x H1.out)).2.2 (Kd.R_reads' H1.out).2.1 T3.out).mono ?_); rintro e w4 ⟨v2, rfl, ho, hb⟩; refine ⟨_, rfl, ?_⟩; obtain ⟨Am, cm, em⟩ := Kd.R_slice ho; subst em; have HM := A_ (Kd.R_lower ho (below_size tb_)); clear ho; have z_ := A_ (Kd.R_below (tr_x HO.out) hb); clear HO; have HO := z_; clear z_; have z_ := A_ (Kd.R_below (tr_x H1.out) hb); clear H1; have H1 := z_; clear z_; have z_ := A_ (below_step tb_ hb); clear HB; have HB := z_; clear z_; clear hb) | (refine gc_ 250 ?_; refine goesL_ (some 22) rfl rfl Try.func250 (by kernel_rfl) rfl #[.slice Am m.length cm, .slice Ab b.length cb] rfl (by (try simp only [List.map_toArray, List.map_cons, List.map_nil]); first | done | rfl) ?_; (with_reducible refine (spec_quLess.calls k1 Am cm m Ab cb b false _ (Kd.R_reads' (tr_x HM.out)).2.2 (Kd.R_reads' HM.out).2.1 (Kd.R_reads' (tr_x HO.out)).2.2 (Kd.R_reads' HO.out).2.1 T4.out).mono ?_); rintro e w5 ⟨rfl, ⟨nd2, rfl⟩⟩; refine ⟨_, rfl, ?_⟩))
      go_roundg k1
      case measure => have := HK1.out; omega
      case rel => exact ⟨q1, b, wrap64 (i + 1), A1, c1, rfl, by first | rfl | (simp; done), Hn, ⟨by have := HK1.out; omega⟩, ⟨(Kd.R_reads' (tr_x H1.out)).2.2⟩, ⟨(Kd.R_reads' H1.out).2.1⟩, ⟨tr_x HO.out⟩, ⟨tb_⟩⟩
     | true =>
      simp only [Bool.false_eq_true, if_false, if_true] at T4 Hn
      go_wp2_with (first | (refine gc_ 204 ?_; refine goesL_ (some 13) rfl rfl Try.func204 (by kernel_rfl) rfl #[.slice Aq q.length cq] rfl (by (try simp only [List.map_toArray, List.map_cons, List.map_nil]); first | done | rfl) ?_; (with_reducible refine (spec_quTurn.calls k1 Aq cq q q1 _ (by (with_reducible repeat (first | refine Kd.C_alloc ?_ _ | refine Kd.C_drewN ?_ _ | refine Kd.C_drew ?_)); exact HQ.out) HCQ.out T1.out).mono ?_); rintro e w2 ⟨v1, rfl, ho, hb⟩; refine ⟨_, rfl, ?_⟩; obtain ⟨A1, c1, e1⟩ := Kd.R_slice ho; subst e1; have H1 := A_ (Kd.R_lower ho (below_size tb_)); clear ho HQ HCQ; have z_ := A_ (Kd.R_below (tr_x HO.out) hb); clear HO; have HO := z_; clear z_; have z_ := A_ (below_step tb_ hb); clear HB; have HB := z_; clear z_; clear hb) | (refine gc_ 250 ?_; refine goesL_ (some 16) rfl rfl Try.func250 (by kernel_rfl) rfl #[.slice A1 q1.length c1, .slice Ab b.length cb] rfl (by (try simp only [List.map_toArray, List.map_cons, List.map_nil]); first | done | rfl) ?_; (with_reducible refine (spec_quLess.calls k1 A1 c1 q1 Ab cb b false _ (Kd.R_reads' (tr_x H1.out)).2.2 (Kd.R_reads' H1.out).2.1 (Kd.R_reads' (tr_x HO.out)).2.2 (Kd.R_reads' HO.out).2.1 T2.out).mono ?_); rintro e w3 ⟨rfl, ⟨nd, rfl⟩⟩; refine ⟨_, rfl, ?_⟩) | (refine gc_ 206 ?_; refine goesL_ (some 19) rfl rfl Try.func206 (by kernel_rfl) rfl #[.slice A1 q1.length c1] rfl (by (try simp only [List.map_toArray, List.map_cons, List.map_nil]); first | done | rfl) ?_; (with_reducible refine (spec_quMirror.calls k1 A1 c1 q1 m _ (Kd.R_reads' (tr_x H1.out)).2.2 (Kd.R_reads' H1.out).2.1 T3.out).mono ?_); rintro e w4 ⟨v2, rfl, ho, hb⟩; refine ⟨_, rfl, ?_⟩; obtain ⟨Am, cm, em⟩ := Kd.R_slice ho; subst em; have HM := A_ (Kd.R_lower ho (below_size tb_)); clear ho; have z_ := A_ (Kd.R_below (tr_x HO.out) hb); clear HO; have HO := z_; clear z_; have z_ := A_ (Kd.R_below (tr_x H1.out) hb); clear H1; have H1 := z_; clear z_; have z_ := A_ (below_step tb_ hb); clear HB; have HB := z_; clear z_; clear hb) | (refine gc_ 250 ?_; refine goesL_ (some 22) rfl rfl Try.func250 (by kernel_rfl) rfl #[.slice Am m.length cm, .slice Ab b.length cb] rfl (by (try simp only [List.map_toArray, List.map_cons, List.map_nil]); first | done | rfl) ?_; (with_reducible refine (spec_quLess.calls k1 Am cm m Ab cb b true _ (Kd.R_reads' (tr_x HM.out)).2.2 (Kd.R_reads' HM.out).2.1 (Kd.R_reads' (tr_x HO.out)).2.2 (Kd.R_reads' HO.out).2.1 T4.out).mono ?_); rintro e w5 ⟨rfl, ⟨nd2, rfl⟩⟩; refine ⟨_, rfl, ?_⟩))
      go_roundg k1
      case measure => have := HK1.out; omega
      case rel => exact ⟨q1, m, wrap64 (i + 1), A1, c1, rfl, by first | rfl | (simp; done), Hn, ⟨by have := HK1.out; omega⟩, ⟨(Kd.R_reads' (tr_x H1.out)).2.2⟩, ⟨(Kd.R_reads' H1.out).2.1⟩, ⟨tr_x HM.out⟩, ⟨tb_⟩⟩
    | true =>
     cases t2 with
     | false =>
      simp only [Bool.false_eq_true, if_false, if_true] at T4 Hn
      go_wp2_with (first | (refine gc_ 204 ?_; refine goesL_ (some 13) rfl rfl Try.func204 (by kernel_rfl) rfl #[.slice Aq q.length cq] rfl (by (try simp only [List.map_toArray, List.map_cons, List.map_nil]); first | done | rfl) ?_; (with_reducible refine (spec_quTurn.calls k1 Aq cq q q1 _ (by (with_reducible repeat (first | refine Kd.C_alloc ?_ _ | refine Kd.C_drewN ?_ _ | refine Kd.C_drew ?_)); exact HQ.out) HCQ.out T1.out).mono ?_); rintro e w2 ⟨v1, rfl, ho, hb⟩; refine ⟨_, rfl, ?_⟩; obtain ⟨A1, c1, e1⟩ := Kd.R_slice ho; subst e1; have H1 := A_ (Kd.R_lower ho (below_size tb_)); clear ho HQ HCQ; have z_ := A_ (Kd.R_below (tr_x HO.out) hb); clear HO; have HO := z_; clear z_; have z_ := A_ (below_step tb_ hb); clear HB; have HB := z_; clear z_; clear hb) | (refine gc_ 250 ?_; refine goesL_ (some 16) rfl rfl Try.func250 (by kernel_rfl) rfl #[.slice A1 q1.length c1, .slice Ab b.length cb] rfl (by (try simp only [List.map_toArray, List.map_cons, List.map_nil]); first | done | rfl) ?_; (with_reducible refine (spec_quLess.calls k1 A1 c1 q1 Ab cb b true _ (Kd.R_reads' (tr_x H1.out)).2.2 (Kd.R_reads' H1.out).2.1 (Kd.R_reads' (tr_x HO.out)).2.2 (Kd.R_reads' HO.out).2.1 T2.out).mono ?_); rintro e w3 ⟨rfl, ⟨nd, rfl⟩⟩; refine ⟨_, rfl, ?_⟩) | (refine gc_ 206 ?_; refine goesL_ (some 19) rfl rfl Try.func206 (by kernel_rfl) rfl #[.slice A1 q1.length c1] rfl (by (try simp only [List.map_toArray, List.map_cons, List.map_nil]); first | done | rfl) ?_; (with_reducible refine (spec_quMirror.calls k1 A1 c1 q1 m _ (Kd.R_reads' (tr_x H1.out)).2.2 (Kd.R_reads' H1.out).2.1 T3.out).mono ?_); rintro e w4 ⟨v2, rfl, ho, hb⟩; refine ⟨_, rfl, ?_⟩; obtain ⟨Am, cm, em⟩ := Kd.R_slice ho; subst em; have HM := A_ (Kd.R_lower ho (below_size tb_)); clear ho; have z_ := A_ (Kd.R_below (tr_x HO.out) hb); clear HO; have HO := z_; clear z_; have z_ := A_ (Kd.R_below (tr_x H1.out) hb); clear H1; have H1 := z_; clear z_; have z_ := A_ (below_step tb_ hb); clear HB; have HB := z_; clear z_; clear hb) | (refine gc_ 250 ?_; refine goesL_ (some 22) rfl rfl Try.func250 (by kernel_rfl) rfl #[.slice Am m.length cm, .slice A1 q1.length c1] rfl (by (try simp only [List.map_toArray, List.map_cons, List.map_nil]); first | done | rfl) ?_; (with_reducible refine (spec_quLess.calls k1 Am cm m A1 c1 q1 false _ (Kd.R_reads' (tr_x HM.out)).2.2 (Kd.R_reads' HM.out).2.1 (Kd.R_reads' (tr_x H1.out)).2.2 (Kd.R_reads' H1.out).2.1 T4.out).mono ?_); rintro e w5 ⟨rfl, ⟨nd2, rfl⟩⟩; refine ⟨_, rfl, ?_⟩))
      go_roundg k1
      case measure => have := HK1.out; omega
      case rel => exact ⟨q1, q1, wrap64 (i + 1), A1, c1, rfl, by first | rfl | (simp; done), Hn, ⟨by have := HK1.out; omega⟩, ⟨(Kd.R_reads' (tr_x H1.out)).2.2⟩, ⟨(Kd.R_reads' H1.out).2.1⟩, ⟨tr_x H1.out⟩, ⟨tb_⟩⟩
     | true =>
      simp only [Bool.false_eq_true, if_false, if_true] at T4 Hn
      go_wp2_with (first | (refine gc_ 204 ?_; refine goesL_ (some 13) rfl rfl Try.func204 (by kernel_rfl) rfl #[.slice Aq q.length cq] rfl (by (try simp only [List.map_toArray, List.map_cons, List.map_nil]); first | done | rfl) ?_; (with_reducible refine (spec_quTurn.calls k1 Aq cq q q1 _ (by (with_reducible repeat (first | refine Kd.C_alloc ?_ _ | refine Kd.C_drewN ?_ _ | refine Kd.C_drew ?_)); exact HQ.out) HCQ.out T1.out).mono ?_); rintro e w2 ⟨v1, rfl, ho, hb⟩; refine ⟨_, rfl, ?_⟩; obtain ⟨A1, c1, e1⟩ := Kd.R_slice ho; subst e1; have H1 := A_ (Kd.R_lower ho (below_size tb_)); clear ho HQ HCQ; have z_ := A_ (Kd.R_below (tr_x HO.out) hb); clear HO; have HO := z_; clear z_; have z_ := A_ (below_step tb_ hb); clear HB; have HB := z_; clear z_; clear hb) | (refine gc_ 250 ?_; refine goesL_ (some 16) rfl rfl Try.func250 (by kernel_rfl) rfl #[.slice A1 q1.length c1, .slice Ab b.length cb] rfl (by (try simp only [List.map_toArray, List.map_cons, List.map_nil]); first | done | rfl) ?_; (with_reducible refine (spec_quLess.calls k1 A1 c1 q1 Ab cb b true _ (Kd.R_reads' (tr_x H1.out)).2.2 (Kd.R_reads' H1.out).2.1 (Kd.R_reads' (tr_x HO.out)).2.2 (Kd.R_reads' HO.out).2.1 T2.out).mono ?_); rintro e w3 ⟨rfl, ⟨nd, rfl⟩⟩; refine ⟨_, rfl, ?_⟩) | (refine gc_ 206 ?_; refine goesL_ (some 19) rfl rfl Try.func206 (by kernel_rfl) rfl #[.slice A1 q1.length c1] rfl (by (try simp only [List.map_toArray, List.map_cons, List.map_nil]); first | done | rfl) ?_; (with_reducible refine (spec_quMirror.calls k1 A1 c1 q1 m _ (Kd.R_reads' (tr_x H1.out)).2.2 (Kd.R_reads' H1.out).2.1 T3.out).mono ?_); rintro e w4 ⟨v2, rfl, ho, hb⟩; refine ⟨_, rfl, ?_⟩; obtain ⟨Am, cm, em⟩ := Kd.R_slice ho; subst em; have HM := A_ (Kd.R_lower ho (below_size tb_)); clear ho; have z_ := A_ (Kd.R_below (tr_x HO.out) hb); clear HO; have HO := z_; clear z_; have z_ := A_ (Kd.R_below (tr_x H1.out) hb); clear H1; have H1 := z_; clear z_; have z_ := A_ (below_step tb_ hb); clear HB; have HB := z_; clear z_; clear hb) | (refine gc_ 250 ?_; refine goesL_ (some 22) rfl rfl Try.func250 (by kernel_rfl) rfl #[.slice Am m.length cm, .slice A1 q1.length c1] rfl (by (try simp only [List.map_toArray, List.map_cons, List.map_nil]); first | done | rfl) ?_; (with_reducible refine (spec_quLess.calls k1 Am cm m A1 c1 q1 true _ (Kd.R_reads' (tr_x HM.out)).2.2 (Kd.R_reads' HM.out).2.1 (Kd.R_reads' (tr_x H1.out)).2.2 (Kd.R_reads' H1.out).2.1 T4.out).mono ?_); rintro e w5 ⟨rfl, ⟨nd2, rfl⟩⟩; refine ⟨_, rfl, ?_⟩))
      go_roundg k1
      case measure => have := HK1.out; omega
      case rel => exact ⟨q1, m, wrap64 (i + 1), A1, c1, rfl, by first | rfl | (simp; done), Hn, ⟨by have := HK1.out; omega⟩, ⟨(Kd.R_reads' (tr_x H1.out)).2.2⟩, ⟨(Kd.R_reads' H1.out).2.1⟩, ⟨tr_x HM.out⟩, ⟨tb_⟩⟩
   ·
    rw [if_neg c3] at H
    have c3b := decide_eq_false c3
    clear c3
    obtain rfl := Option.some.inj H
    go_wp2
    go_ret
    exact ⟨_, rfl, tr_x HO.out, tb_⟩

/-! ### spec_LeastQueens: function 97 -/
def spec_LeastQueens.f (k : Nat) (l0 : List Int) : Option (List Int × Bool) := (spec_quGood.f k l0).bind fun t1565 => (if t1565 = true then ((spec_quLeast.f k l0).bind fun t1566 => (some (t1566, true))) else (some (([] : List Int), false)))
theorem spec_LeastQueens.mono : ∀ a0 k, LeO (spec_LeastQueens.f k a0) (spec_LeastQueens.f (k + 1) a0) := by
 intro a0 k
 unfold spec_LeastQueens.f
 repeat' first | (with_reducible first | exact spec_quGood.mono _ _ | exact spec_quLeast.mono _ _ | exact LeO.refl _ | exact LeO.none _ | refine LeO.ite ?_ ?_ | refine LeO.bind ?_ (fun _ => ?_)) | exact spec_quGood.mono _ _ | exact spec_quLeast.mono _ _ | exact LeO.none _ | refine LeO.ite ?_ ?_ | refine LeO.bind ?_ (fun _ => ?_)
theorem spec_LeastQueens.calls (k : Nat) (A0 : Option Addr) (c0 : Nat) (l0 : List Int) (r1 : List Int) (r2 : Bool) (w : World) (hr0 : Kd.C (Kd.int .i64) w A0 l0.length l0) (hc0 : l0.length ≤ c0) (h : spec_LeastQueens.f k l0 = some (r1, r2)) :
  Calls Try.prog 97 #[.slice A0 l0.length c0] w fun e w' => ∃ v0_ : Value, e = .returned (.tuple #[v0_, .bool r2]) ∧ Kd.R (Kd.int .i64) 3 w' w.heap.size (fun _ => True) v0_ r1 ∧ Below w.heap.size w w' := by
 have HR0 := A_ hr0
 have HC0 := A_ hc0
 clear hr0 hc0
 have HB := A_ (Below.refl w.heap.size w)
 have H : ((spec_quGood.f k l0).bind fun t1565 => (if t1565 = true then ((spec_quLeast.f k l0).bind fun t1566 => (some (t1566, true))) else (some (([] : List Int), false)))) = some (r1, r2) := h
 clear h
 replace H := Option.bind_eq_some_iff.mp H
 obtain ⟨t1565, A20, H⟩ := H
 replace H : (if t1565 = true then ((spec_quLeast.f k l0).bind fun t1566 => (some (t1566, true))) else (some (([] : List Int), false))) = some (r1, r2) := H
 have A2 := A_ A20
 clear A20
 by_cases c3 : t1565 = true
 ·
  subst c3
  have H1 : ((spec_quLeast.f k l0).bind fun t1566 => (some (t1566, true))) = some (r1, r2) := by rw [if_pos rfl] at H; exact H
  clear H
  have H := H1
  clear H1
  replace H := Option.bind_eq_some_iff.mp H
  obtain ⟨t1566, A40, H⟩ := H
  replace H : (some (t1566, true)) = some (r1, r2) := H
  have A4 := A_ A40
  clear A40
  simp only [Option.some.injEq, Prod.mk.injEq] at H
  obtain ⟨rfl, rfl⟩ := H
  go_enter Try.func97, Try.ntmps97
  go_wp2_with (first | (refine gc_ 172 ?_; refine goesT_ (some 5) Try.func172 #[.slice A0 l0.length c0] ?_; (with_reducible refine (spec_quGood.calls k _ _ l0 true _ ?side1 ?side2 A2.out).mono ?_); (case side1 => exact tc0_ HR0.out); (case side2 => exact HC0.out); rintro e w' ⟨rfl, ⟨nd, rfl⟩⟩; refine ⟨_, rfl, ?_⟩) | (refine gc_ 202 ?_; refine goesT_ (some 8) Try.func202 #[.slice A0 l0.length c0] ?_; (with_reducible refine (spec_quLeast.calls k _ _ l0 t1566 _ ?side1 ?side2 A4.out).mono ?_); (case side1 => exact tc0_ HR0.out); (case side2 => exact HC0.out); rintro e w5 ⟨v1567, rfl, ho0, hb⟩; refine ⟨_, rfl, ?_⟩; have HO1568 := A_ (Kd.R_lower ho0 (below_size tb_)); replace HB := A_ (below_step tb_ hb); (try clear hb); (try clear ho0)))
  go_ret2
  exact ⟨_, te_, tr_x HO1568.out, tb_⟩
 ·
  replace c3 := Bool.eq_false_iff.mpr c3
  subst c3
  have H1 : (some (([] : List Int), false)) = some (r1, r2) := by rw [if_neg (show ¬ (false = true) by decide)] at H; exact H
  clear H
  have H := H1
  clear H1
  simp only [Option.some.injEq, Prod.mk.injEq] at H
  obtain ⟨rfl, rfl⟩ := H
  go_enter Try.func97, Try.ntmps97
  go_wp2_with (first | (refine gc_ 172 ?_; refine goesT_ (some 5) Try.func172 #[.slice A0 l0.length c0] ?_; (with_reducible refine (spec_quGood.calls k _ _ l0 false _ ?side1 ?side2 A2.out).mono ?_); (case side1 => exact tc0_ HR0.out); (case side2 => exact HC0.out); rintro e w' ⟨rfl, ⟨nd, rfl⟩⟩; refine ⟨_, rfl, ?_⟩))
  go_ret2
  exact ⟨_, te_, by first | exact Kd.R_nil _ _ _ _ _ | exact Kd.N_nil _ _ _ _ _ | exact Kd.V_nil _ _ _ _ _ | exact Kd.Q_nil _ _ _ _ _ | exact Kd.S_nil _ _ _ _ _, tb_⟩

/-! ### impl_TurnQueens: function 98 -/
def impl_TurnQueens.f (k : Nat) (l0 : List Int) : Option (List Int × Bool) := (impl_isList.f k l0).bind fun t1569 => (if t1569 = true then ((impl_turn.f k l0).bind fun t1570 => (some (t1570, true))) else (some (([] : List Int), false)))
theorem impl_TurnQueens.mono : ∀ a0 k, LeO (impl_TurnQueens.f k a0) (impl_TurnQueens.f (k + 1) a0) := by
 intro a0 k
 unfold impl_TurnQueens.f
 repeat' first | (with_reducible first | exact impl_isList.mono _ _ | exact impl_turn.mono _ _ | exact LeO.refl _ | exact LeO.none _ | refine LeO.ite ?_ ?_ | refine LeO.bind ?_ (fun _ => ?_)) | exact impl_isList.mono _ _ | exact impl_turn.mono _ _ | exact LeO.none _ | refine LeO.ite ?_ ?_ | refine LeO.bind ?_ (fun _ => ?_)
theorem impl_TurnQueens.calls (k : Nat) (A0 : Option Addr) (c0 : Nat) (l0 : List Int) (r1 : List Int) (r2 : Bool) (w : World) (hr0 : Kd.C (Kd.int .i64) w A0 l0.length l0) (hc0 : l0.length ≤ c0) (h : impl_TurnQueens.f k l0 = some (r1, r2)) :
  Calls Try.prog 98 #[.slice A0 l0.length c0] w fun e w' => ∃ v0_ : Value, e = .returned (.tuple #[v0_, .bool r2]) ∧ Kd.R (Kd.int .i64) 3 w' w.heap.size (fun _ => True) v0_ r1 ∧ Below w.heap.size w w' := by
 have HR0 := A_ hr0
 have HC0 := A_ hc0
 clear hr0 hc0
 have HB := A_ (Below.refl w.heap.size w)
 have H : ((impl_isList.f k l0).bind fun t1569 => (if t1569 = true then ((impl_turn.f k l0).bind fun t1570 => (some (t1570, true))) else (some (([] : List Int), false)))) = some (r1, r2) := h
 clear h
 replace H := Option.bind_eq_some_iff.mp H
 obtain ⟨t1569, A20, H⟩ := H
 replace H : (if t1569 = true then ((impl_turn.f k l0).bind fun t1570 => (some (t1570, true))) else (some (([] : List Int), false))) = some (r1, r2) := H
 have A2 := A_ A20
 clear A20
 by_cases c3 : t1569 = true
 ·
  subst c3
  have H1 : ((impl_turn.f k l0).bind fun t1570 => (some (t1570, true))) = some (r1, r2) := by rw [if_pos rfl] at H; exact H
  clear H
  have H := H1
  clear H1
  replace H := Option.bind_eq_some_iff.mp H
  obtain ⟨t1570, A40, H⟩ := H
  replace H : (some (t1570, true)) = some (r1, r2) := H
  have A4 := A_ A40
  clear A40
  simp only [Option.some.injEq, Prod.mk.injEq] at H
  obtain ⟨rfl, rfl⟩ := H
  go_enter Try.func98, Try.ntmps98
  go_wp2_with (first | (refine gc_ 170 ?_; refine goesT_ (some 5) Try.func170 #[.slice A0 l0.length c0] ?_; (with_reducible refine (impl_isList.calls k _ _ l0 true _ ?side1 ?side2 A2.out).mono ?_); (case side1 => exact tc0_ HR0.out); (case side2 => exact HC0.out); rintro e w' ⟨rfl, ⟨nd, rfl⟩⟩; refine ⟨_, rfl, ?_⟩) | (refine gc_ 203 ?_; refine goesT_ (some 8) Try.func203 #[.slice A0 l0.length c0] ?_; (with_reducible refine (impl_turn.calls k _ _ l0 t1570 _ ?side1 ?side2 A4.out).mono ?_); (case side1 => exact tc0_ HR0.out); (case side2 => exact HC0.out); rintro e w5 ⟨v1571, rfl, ho0, hb⟩; refine ⟨_, rfl, ?_⟩; have HO1572 := A_ (Kd.R_lower ho0 (below_size tb_)); replace HB := A_ (below_step tb_ hb); (try clear hb); (try clear ho0)))
  go_ret2
  exact ⟨_, te_, tr_x HO1572.out, tb_⟩
 ·
  replace c3 := Bool.eq_false_iff.mpr c3
  subst c3
  have H1 : (some (([] : List Int), false)) = some (r1, r2) := by rw [if_neg (show ¬ (false = true) by decide)] at H; exact H
  clear H
  have H := H1
  clear H1
  simp only [Option.some.injEq, Prod.mk.injEq] at H
  obtain ⟨rfl, rfl⟩ := H
  go_enter Try.func98, Try.ntmps98
  go_wp2_with (first | (refine gc_ 170 ?_; refine goesT_ (some 5) Try.func170 #[.slice A0 l0.length c0] ?_; (with_reducible refine (impl_isList.calls k _ _ l0 false _ ?side1 ?side2 A2.out).mono ?_); (case side1 => exact tc0_ HR0.out); (case side2 => exact HC0.out); rintro e w' ⟨rfl, ⟨nd, rfl⟩⟩; refine ⟨_, rfl, ?_⟩))
  go_ret2
  exact ⟨_, te_, by first | exact Kd.R_nil _ _ _ _ _ | exact Kd.N_nil _ _ _ _ _ | exact Kd.V_nil _ _ _ _ _ | exact Kd.Q_nil _ _ _ _ _ | exact Kd.S_nil _ _ _ _ _, tb_⟩

/-! ### spec_TurnQueens: function 99 -/
def spec_TurnQueens.f (k : Nat) (l0 : List Int) : Option (List Int × Bool) := (spec_quGood.f k l0).bind fun t1573 => (if t1573 = true then ((spec_quTurn.f k l0).bind fun t1574 => (some (t1574, true))) else (some (([] : List Int), false)))
theorem spec_TurnQueens.mono : ∀ a0 k, LeO (spec_TurnQueens.f k a0) (spec_TurnQueens.f (k + 1) a0) := by
 intro a0 k
 unfold spec_TurnQueens.f
 repeat' first | (with_reducible first | exact spec_quGood.mono _ _ | exact spec_quTurn.mono _ _ | exact LeO.refl _ | exact LeO.none _ | refine LeO.ite ?_ ?_ | refine LeO.bind ?_ (fun _ => ?_)) | exact spec_quGood.mono _ _ | exact spec_quTurn.mono _ _ | exact LeO.none _ | refine LeO.ite ?_ ?_ | refine LeO.bind ?_ (fun _ => ?_)
theorem spec_TurnQueens.calls (k : Nat) (A0 : Option Addr) (c0 : Nat) (l0 : List Int) (r1 : List Int) (r2 : Bool) (w : World) (hr0 : Kd.C (Kd.int .i64) w A0 l0.length l0) (hc0 : l0.length ≤ c0) (h : spec_TurnQueens.f k l0 = some (r1, r2)) :
  Calls Try.prog 99 #[.slice A0 l0.length c0] w fun e w' => ∃ v0_ : Value, e = .returned (.tuple #[v0_, .bool r2]) ∧ Kd.R (Kd.int .i64) 3 w' w.heap.size (fun _ => True) v0_ r1 ∧ Below w.heap.size w w' := by
 have HR0 := A_ hr0
 have HC0 := A_ hc0
 clear hr0 hc0
 have HB := A_ (Below.refl w.heap.size w)
 have H : ((spec_quGood.f k l0).bind fun t1573 => (if t1573 = true then ((spec_quTurn.f k l0).bind fun t1574 => (some (t1574, true))) else (some (([] : List Int), false)))) = some (r1, r2) := h
 clear h
 replace H := Option.bind_eq_some_iff.mp H
 obtain ⟨t1573, A20, H⟩ := H
 replace H : (if t1573 = true then ((spec_quTurn.f k l0).bind fun t1574 => (some (t1574, true))) else (some (([] : List Int), false))) = some (r1, r2) := H
 have A2 := A_ A20
 clear A20
 by_cases c3 : t1573 = true
 ·
  subst c3
  have H1 : ((spec_quTurn.f k l0).bind fun t1574 => (some (t1574, true))) = some (r1, r2) := by rw [if_pos rfl] at H; exact H
  clear H
  have H := H1
  clear H1
  replace H := Option.bind_eq_some_iff.mp H
  obtain ⟨t1574, A40, H⟩ := H
  replace H : (some (t1574, true)) = some (r1, r2) := H
  have A4 := A_ A40
  clear A40
  simp only [Option.some.injEq, Prod.mk.injEq] at H
  obtain ⟨rfl, rfl⟩ := H
  go_enter Try.func99, Try.ntmps99
  go_wp2_with (first | (refine gc_ 172 ?_; refine goesT_ (some 5) Try.func172 #[.slice A0 l0.length c0] ?_; (with_reducible refine (spec_quGood.calls k _ _ l0 true _ ?side1 ?side2 A2.out).mono ?_); (case side1 => exact tc0_ HR0.out); (case side2 => exact HC0.out); rintro e w' ⟨rfl, ⟨nd, rfl⟩⟩; refine ⟨_, rfl, ?_⟩) | (refine gc_ 204 ?_; refine goesT_ (some 8) Try.func204 #[.slice A0 l0.length c0] ?_; (with_reducible refine (spec_quTurn.calls k _ _ l0 t1574 _ ?side1 ?side2 A4.out).mono ?_); (case side1 => exact tc0_ HR0.out); (case side2 => exact HC0.out); rintro e w5 ⟨v1575, rfl, ho0, hb⟩; refine ⟨_, rfl, ?_⟩; have HO1576 := A_ (Kd.R_lower ho0 (below_size tb_)); replace HB := A_ (below_step tb_ hb); (try clear hb); (try clear ho0)))
  go_ret2
  exact ⟨_, te_, tr_x HO1576.out, tb_⟩
 ·
  replace c3 := Bool.eq_false_iff.mpr c3
  subst c3
  have H1 : (some (([] : List Int), false)) = some (r1, r2) := by rw [if_neg (show ¬ (false = true) by decide)] at H; exact H
  clear H
  have H := H1
  clear H1
  simp only [Option.some.injEq, Prod.mk.injEq] at H
  obtain ⟨rfl, rfl⟩ := H
  go_enter Try.func99, Try.ntmps99
  go_wp2_with (first | (refine gc_ 172 ?_; refine goesT_ (some 5) Try.func172 #[.slice A0 l0.length c0] ?_; (with_reducible refine (spec_quGood.calls k _ _ l0 false _ ?side1 ?side2 A2.out).mono ?_); (case side1 => exact tc0_ HR0.out); (case side2 => exact HC0.out); rintro e w' ⟨rfl, ⟨nd, rfl⟩⟩; refine ⟨_, rfl, ?_⟩))
  go_ret2
  exact ⟨_, te_, by first | exact Kd.R_nil _ _ _ _ _ | exact Kd.N_nil _ _ _ _ _ | exact Kd.V_nil _ _ _ _ _ | exact Kd.Q_nil _ _ _ _ _ | exact Kd.S_nil _ _ _ _ _, tb_⟩

/-! ### impl_MirrorQueens: function 100 -/
def impl_MirrorQueens.f (k : Nat) (l0 : List Int) : Option (List Int × Bool) := (impl_isList.f k l0).bind fun t1577 => (if t1577 = true then ((impl_mirror.f k l0).bind fun t1578 => (some (t1578, true))) else (some (([] : List Int), false)))
theorem impl_MirrorQueens.mono : ∀ a0 k, LeO (impl_MirrorQueens.f k a0) (impl_MirrorQueens.f (k + 1) a0) := by
 intro a0 k
 unfold impl_MirrorQueens.f
 repeat' first | (with_reducible first | exact impl_isList.mono _ _ | exact impl_mirror.mono _ _ | exact LeO.refl _ | exact LeO.none _ | refine LeO.ite ?_ ?_ | refine LeO.bind ?_ (fun _ => ?_)) | exact impl_isList.mono _ _ | exact impl_mirror.mono _ _ | exact LeO.none _ | refine LeO.ite ?_ ?_ | refine LeO.bind ?_ (fun _ => ?_)
theorem impl_MirrorQueens.calls (k : Nat) (A0 : Option Addr) (c0 : Nat) (l0 : List Int) (r1 : List Int) (r2 : Bool) (w : World) (hr0 : Kd.C (Kd.int .i64) w A0 l0.length l0) (hc0 : l0.length ≤ c0) (h : impl_MirrorQueens.f k l0 = some (r1, r2)) :
  Calls Try.prog 100 #[.slice A0 l0.length c0] w fun e w' => ∃ v0_ : Value, e = .returned (.tuple #[v0_, .bool r2]) ∧ Kd.R (Kd.int .i64) 3 w' w.heap.size (fun _ => True) v0_ r1 ∧ Below w.heap.size w w' := by
 have HR0 := A_ hr0
 have HC0 := A_ hc0
 clear hr0 hc0
 have HB := A_ (Below.refl w.heap.size w)
 have H : ((impl_isList.f k l0).bind fun t1577 => (if t1577 = true then ((impl_mirror.f k l0).bind fun t1578 => (some (t1578, true))) else (some (([] : List Int), false)))) = some (r1, r2) := h
 clear h
 replace H := Option.bind_eq_some_iff.mp H
 obtain ⟨t1577, A20, H⟩ := H
 replace H : (if t1577 = true then ((impl_mirror.f k l0).bind fun t1578 => (some (t1578, true))) else (some (([] : List Int), false))) = some (r1, r2) := H
 have A2 := A_ A20
 clear A20
 by_cases c3 : t1577 = true
 ·
  subst c3
  have H1 : ((impl_mirror.f k l0).bind fun t1578 => (some (t1578, true))) = some (r1, r2) := by rw [if_pos rfl] at H; exact H
  clear H
  have H := H1
  clear H1
  replace H := Option.bind_eq_some_iff.mp H
  obtain ⟨t1578, A40, H⟩ := H
  replace H : (some (t1578, true)) = some (r1, r2) := H
  have A4 := A_ A40
  clear A40
  simp only [Option.some.injEq, Prod.mk.injEq] at H
  obtain ⟨rfl, rfl⟩ := H
  go_enter Try.func100, Try.ntmps100
  go_wp2_with (first | (refine gc_ 170 ?_; refine goesT_ (some 5) Try.func170 #[.slice A0 l0.length c0] ?_; (with_reducible refine (impl_isList.calls k _ _ l0 true _ ?side1 ?side2 A2.out).mono ?_); (case side1 => exact tc0_ HR0.out); (case side2 => exact HC0.out); rintro e w' ⟨rfl, ⟨nd, rfl⟩⟩; refine ⟨_, rfl, ?_⟩) | (refine gc_ 205 ?_; refine goesT_ (some 8) Try.func205 #[.slice A0 l0.length c0] ?_; (with_reducible refine (impl_mirror.calls k _ _ l0 t1578 _ ?side1 ?side2 A4.out).mono ?_); (case side1 => exact tc0_ HR0.out); (case side2 => exact HC0.out); rintro e w5 ⟨v1579, rfl, ho0, hb⟩; refine ⟨_, rfl, ?_⟩; have HO1580 := A_ (Kd.R_lower ho0 (below_size tb_)); replace HB := A_ (below_step tb_ hb); (try clear hb); (try clear ho0)))
  go_ret2
  exact ⟨_, te_, tr_x HO1580.out, tb_⟩
 ·
  replace c3 := Bool.eq_false_iff.mpr c3
  subst c3
  have H1 : (some (([] : List Int), false)) = some (r1, r2) := by rw [if_neg (show ¬ (false = true) by decide)] at H; exact H
  clear H
  have H := H1
  clear H1
  simp only [Option.some.injEq, Prod.mk.injEq] at H
  obtain ⟨rfl, rfl⟩ := H
  go_enter Try.func100, Try.ntmps100
  go_wp2_with (first | (refine gc_ 170 ?_; refine goesT_ (some 5) Try.func170 #[.slice A0 l0.length c0] ?_; (with_reducible refine (impl_isList.calls k _ _ l0 false _ ?side1 ?side2 A2.out).mono ?_); (case side1 => exact tc0_ HR0.out); (case side2 => exact HC0.out); rintro e w' ⟨rfl, ⟨nd, rfl⟩⟩; refine ⟨_, rfl, ?_⟩))
  go_ret2
  exact ⟨_, te_, by first | exact Kd.R_nil _ _ _ _ _ | exact Kd.N_nil _ _ _ _ _ | exact Kd.V_nil _ _ _ _ _ | exact Kd.Q_nil _ _ _ _ _ | exact Kd.S_nil _ _ _ _ _, tb_⟩

/-! ### spec_MirrorQueens: function 101 -/
def spec_MirrorQueens.f (k : Nat) (l0 : List Int) : Option (List Int × Bool) := (spec_quGood.f k l0).bind fun t1581 => (if t1581 = true then ((spec_quMirror.f k l0).bind fun t1582 => (some (t1582, true))) else (some (([] : List Int), false)))
theorem spec_MirrorQueens.mono : ∀ a0 k, LeO (spec_MirrorQueens.f k a0) (spec_MirrorQueens.f (k + 1) a0) := by
 intro a0 k
 unfold spec_MirrorQueens.f
 repeat' first | (with_reducible first | exact spec_quGood.mono _ _ | exact spec_quMirror.mono _ _ | exact LeO.refl _ | exact LeO.none _ | refine LeO.ite ?_ ?_ | refine LeO.bind ?_ (fun _ => ?_)) | exact spec_quGood.mono _ _ | exact spec_quMirror.mono _ _ | exact LeO.none _ | refine LeO.ite ?_ ?_ | refine LeO.bind ?_ (fun _ => ?_)
theorem spec_MirrorQueens.calls (k : Nat) (A0 : Option Addr) (c0 : Nat) (l0 : List Int) (r1 : List Int) (r2 : Bool) (w : World) (hr0 : Kd.C (Kd.int .i64) w A0 l0.length l0) (hc0 : l0.length ≤ c0) (h : spec_MirrorQueens.f k l0 = some (r1, r2)) :
  Calls Try.prog 101 #[.slice A0 l0.length c0] w fun e w' => ∃ v0_ : Value, e = .returned (.tuple #[v0_, .bool r2]) ∧ Kd.R (Kd.int .i64) 3 w' w.heap.size (fun _ => True) v0_ r1 ∧ Below w.heap.size w w' := by
 have HR0 := A_ hr0
 have HC0 := A_ hc0
 clear hr0 hc0
 have HB := A_ (Below.refl w.heap.size w)
 have H : ((spec_quGood.f k l0).bind fun t1581 => (if t1581 = true then ((spec_quMirror.f k l0).bind fun t1582 => (some (t1582, true))) else (some (([] : List Int), false)))) = some (r1, r2) := h
 clear h
 replace H := Option.bind_eq_some_iff.mp H
 obtain ⟨t1581, A20, H⟩ := H
 replace H : (if t1581 = true then ((spec_quMirror.f k l0).bind fun t1582 => (some (t1582, true))) else (some (([] : List Int), false))) = some (r1, r2) := H
 have A2 := A_ A20
 clear A20
 by_cases c3 : t1581 = true
 ·
  subst c3
  have H1 : ((spec_quMirror.f k l0).bind fun t1582 => (some (t1582, true))) = some (r1, r2) := by rw [if_pos rfl] at H; exact H
  clear H
  have H := H1
  clear H1
  replace H := Option.bind_eq_some_iff.mp H
  obtain ⟨t1582, A40, H⟩ := H
  replace H : (some (t1582, true)) = some (r1, r2) := H
  have A4 := A_ A40
  clear A40
  simp only [Option.some.injEq, Prod.mk.injEq] at H
  obtain ⟨rfl, rfl⟩ := H
  go_enter Try.func101, Try.ntmps101
  go_wp2_with (first | (refine gc_ 172 ?_; refine goesT_ (some 5) Try.func172 #[.slice A0 l0.length c0] ?_; (with_reducible refine (spec_quGood.calls k _ _ l0 true _ ?side1 ?side2 A2.out).mono ?_); (case side1 => exact tc0_ HR0.out); (case side2 => exact HC0.out); rintro e w' ⟨rfl, ⟨nd, rfl⟩⟩; refine ⟨_, rfl, ?_⟩) | (refine gc_ 206 ?_; refine goesT_ (some 8) Try.func206 #[.slice A0 l0.length c0] ?_; (with_reducible refine (spec_quMirror.calls k _ _ l0 t1582 _ ?side1 ?side2 A4.out).mono ?_); (case side1 => exact tc0_ HR0.out); (case side2 => exact HC0.out); rintro e w5 ⟨v1583, rfl, ho0, hb⟩; refine ⟨_, rfl, ?_⟩; have HO1584 := A_ (Kd.R_lower ho0 (below_size tb_)); replace HB := A_ (below_step tb_ hb); (try clear hb); (try clear ho0)))
  go_ret2
  exact ⟨_, te_, tr_x HO1584.out, tb_⟩
 ·
  replace c3 := Bool.eq_false_iff.mpr c3
  subst c3
  have H1 : (some (([] : List Int), false)) = some (r1, r2) := by rw [if_neg (show ¬ (false = true) by decide)] at H; exact H
  clear H
  have H := H1
  clear H1
  simp only [Option.some.injEq, Prod.mk.injEq] at H
  obtain ⟨rfl, rfl⟩ := H
  go_enter Try.func101, Try.ntmps101
  go_wp2_with (first | (refine gc_ 172 ?_; refine goesT_ (some 5) Try.func172 #[.slice A0 l0.length c0] ?_; (with_reducible refine (spec_quGood.calls k _ _ l0 false _ ?side1 ?side2 A2.out).mono ?_); (case side1 => exact tc0_ HR0.out); (case side2 => exact HC0.out); rintro e w' ⟨rfl, ⟨nd, rfl⟩⟩; refine ⟨_, rfl, ?_⟩))
  go_ret2
  exact ⟨_, te_, by first | exact Kd.R_nil _ _ _ _ _ | exact Kd.N_nil _ _ _ _ _ | exact Kd.V_nil _ _ _ _ _ | exact Kd.Q_nil _ _ _ _ _ | exact Kd.S_nil _ _ _ _ _, tb_⟩

/-! ### spec_DrawCountDifferent: function 102 -/
def spec_DrawCountDifferent.f (l0 : List Int) : Option (Int) := (spec_DrawCountQueens.f l0).bind fun t1585 => (some t1585)
theorem spec_DrawCountDifferent.calls (A0 : Option Addr) (c0 : Nat) (l0 : List Int) (r : Int) (w : World) (hr0 : Kd.C (Kd.int .u8) w A0 l0.length l0) (hc0 : l0.length ≤ c0) (h : spec_DrawCountDifferent.f l0 = some r) :
  Calls Try.prog 102 #[.slice A0 l0.length c0] w fun e w' => e = .returned (.int .i64 r) ∧ Below w.heap.size w w' := by
 have HR0 := A_ hr0
 have HC0 := A_ hc0
 clear hr0 hc0
 have HB := A_ (Below.refl w.heap.size w)
 have H : ((spec_DrawCountQueens.f l0).bind fun t1585 => (some t1585)) = some r := h
 clear h
 replace H := Option.bind_eq_some_iff.mp H
 obtain ⟨t1585, A20, H⟩ := H
 replace H : (some t1585) = some r := H
 have A2 := A_ A20
 clear A20
 obtain rfl := Option.some.inj H
 go_enter Try.func102, Try.ntmps102
 go_wp2_with (first | (refine gc_ 176 ?_; refine goesT_ (some 4) Try.func176 #[.slice A0 l0.length c0] ?_; (with_reducible refine (spec_DrawCountQueens.calls _ _ l0 t1585 _ ?side1 ?side2 A2.out).mono ?_); (case side1 => exact tc0_ HR0.out); (case side2 => exact HC0.out); rintro e w3 ⟨rfl, hb⟩; refine ⟨_, rfl, ?_⟩; replace HB := A_ (below_step tb_ hb); (try clear hb)))
 go_ret
 exact ⟨te_, tb_⟩

/-! ### slices_Equal_int_int: function 207 -/
def slices_Equal_int_int.l0 : Nat → List Int → List Int → Int → Int → Option (Bool)
 | 0, _, _, _, _ => none
 | k + 1, x0, x1, x12, x13 => if x13 < x12 then (if 0 ≤ x13 then (if x13 < (x0.length : Int) then (if x13 < (x1.length : Int) then (if (rd x0 x13) = (rd x1 x13) then (slices_Equal_int_int.l0 k x0 x1 x12 (wrap64 (x13 + 1))) else (some false)) else (none)) else (none)) else (none)) else (some true)
def slices_Equal_int_int.f (k : Nat) (l0 : List Int) (l1 : List Int) : Option (Bool) := if (l0.length : Int) = (l1.length : Int) then (slices_Equal_int_int.l0 k l0 l1 (l0.length : Int) 0) else (some false)
theorem slices_Equal_int_int.mono_l : ∀ k, (∀ y0 y1 y2 y3, LeO (slices_Equal_int_int.l0 k y0 y1 y2 y3) (slices_Equal_int_int.l0 (k + 1) y0 y1 y2 y3))
 | 0 => fun _ _ _ _ r h => by simp [slices_Equal_int_int.l0] at h
 | k + 1 => by
  have ih0 := slices_Equal_int_int.mono_l k
  ·
   intro y0 y1 y2 y3
   unfold slices_Equal_int_int.l0
   repeat' first | (with_reducible first | exact ih0 _ _ _ _ | exact LeO.refl _ | exact LeO.none _ | refine LeO.ite ?_ ?_ | refine LeO.bind ?_ (fun _ => ?_)) | exact ih0 _ _ _ _ | exact LeO.none _ | refine LeO.ite ?_ ?_ | refine LeO.bind ?_ (fun _ => ?_)
theorem slices_Equal_int_int.mono : ∀ a0 a1 k, LeO (slices_Equal_int_int.f k a0 a1) (slices_Equal_int_int.f (k + 1) a0 a1) := by
 intro a0 a1 k
 have ih0 := slices_Equal_int_int.mono_l k
 unfold slices_Equal_int_int.f
 repeat' first | (with_reducible first | exact ih0 _ _ _ _ | exact LeO.refl _ | exact LeO.none _ | refine LeO.ite ?_ ?_ | refine LeO.bind ?_ (fun _ => ?_)) | exact ih0 _ _ _ _ | exact LeO.none _ | refine LeO.ite ?_ ?_ | refine LeO.bind ?_ (fun _ => ?_)
theorem slices_Equal_int_int.calls (k : Nat) (A0 : Option Addr) (c0 : Nat) (l0 : List Int) (A1 : Option Addr) (c1 : Nat) (l1 : List Int) (r : Bool) (w : World) (hr0 : Kd.C (Kd.int .i64) w A0 l0.length l0) (hc0 : l0.length ≤ c0) (hr1 : Kd.C (Kd.int .i64) w A1 l1.length l1) (hc1 : l1.length ≤ c1) (h : slices_Equal_int_int.f k l0 l1 = some r) :
  Calls Try.prog 207 #[.slice A0 l0.length c0, .slice A1 l1.length c1] w fun e w' => e = .returned (.bool r) ∧ Drawn0 w w' := by
 have HR0 := A_ hr0
 have HC0 := A_ hc0
 clear hr0 hc0
 have HR1 := A_ hr1
 have HC1 := A_ hc1
 clear hr1 hc1
 have H : (if (l0.length : Int) = (l1.length : Int) then (slices_Equal_int_int.l0 k l0 l1 (l0.length : Int) 0) else (some false)) = some r := h
 clear h
 by_cases c3 : (l0.length : Int) = (l1.length : Int)
 ·
  rw [if_pos c3] at H
  have c3b0 : ((l0.length : Int) == (l1.length : Int)) = true := beq_iff_eq.mpr c3
  have c3b1 : ((l0.length : Int) != (l1.length : Int)) = false := bne_eq_false_iff_eq.mpr c3
  have c3b2 : (l0.length == l1.length) = true := by first | simpa using c3 | (simp at c3 ⊢; omega)
  clear c3
  have H' := A_ H
  clear H
  go_enter Try.func207, Try.ntmps207
  go_wp2
  repeat (go_quiet (fail); try go_wp2)
  go_loopg [13] k (fun kq v13 w' => ∃ (x13_1 : Int), v13 = .int .i64 x13_1 ∧ Aside0 (slices_Equal_int_int.l0 kq l0 l1 (l0.length : Int) x13_1 = some r) ∧ Aside0 (kq ≤ k) ∧ Drawn0 w w')
  case atStart => exact ⟨(0), tf_, H', ⟨Nat.le_refl _⟩, dr_⟩
  case round =>
   clear H'
   try clear c1
   try clear c2
   try clear p2
   try clear c3
   try clear c3b0
   try clear c3b1
   try clear c3b2
   obtain ⟨x13_1, rfl, HA, HK1, ⟨m1, rfl⟩⟩ := hrel
   cases gk with
   | zero => exact absurd HA.out (by simp [slices_Equal_int_int.l0])
   | succ k1 =>
    have H := HA.out
    clear HA
    simp only [slices_Equal_int_int.l0] at H
    by_cases c4 : x13_1 < (l0.length : Int)
    ·
     rw [if_pos c4] at H
     have c4b0 := decide_eq_true c4
     clear c4
     by_cases c5 : 0 ≤ x13_1
     ·
      rw [if_pos c5] at H
      have c5b0 := decide_eq_true c5
      clear c5
      by_cases c6 : x13_1 < (l0.length : Int)
      ·
       rw [if_pos c6] at H
       have c6b0 := decide_eq_true c6
       clear c6
       by_cases c7 : x13_1 < (l1.length : Int)
       ·
        rw [if_pos c7] at H
        have c7b0 := decide_eq_true c7
        clear c7
        by_cases c8 : (rd l0 x13_1) = (rd l1 x13_1)
        ·
         rw [if_pos c8] at H
         have c8b0 : ((rd l0 x13_1) == (rd l1 x13_1)) = true := beq_iff_eq.mpr c8
         have c8b1 : ((rd l0 x13_1) != (rd l1 x13_1)) = false := bne_eq_false_iff_eq.mpr c8
         clear c8
         have H' := A_ H
         clear H
         have p1586 : 0 ≤ (x13_1 : Int) := od_
         have q1586 : x13_1 < (l0.length : Int) := od_
         obtain ⟨ad1586, e1586, hx1586_0⟩ := Kd.at_int HR0.out x13_1 p1586 q1586
         cases e1586
         replace p1586 := eq_true p1586
         replace q1586 := eq_true q1586
         have p1587 : 0 ≤ (x13_1 : Int) := od_
         have q1587 : x13_1 < (l1.length : Int) := od_
         obtain ⟨ad1587, e1587, hx1587_0⟩ := Kd.at_int HR1.out x13_1 p1587 q1587
         cases e1587
         replace p1587 := eq_true p1587
         replace q1587 := eq_true q1587
         go_wp2
         repeat (go_quiet (fail); try go_wp2)
         go_roundg k1
         case measure => have := HK1.out; omega
         case rel => exact ⟨(wrap64 (x13_1 + 1)), tf_, H', ⟨by have := HK1.out; omega⟩, dr_⟩
        ·
         rw [if_neg c8] at H
         have c8b0 : ((rd l0 x13_1) == (rd l1 x13_1)) = false := beq_eq_false_iff_ne.mpr c8
         have c8b1 : ((rd l0 x13_1) != (rd l1 x13_1)) = true := bne_iff_ne.mpr c8
         obtain rfl := Option.some.inj H
         have p1586 : 0 ≤ (x13_1 : Int) := od_
         have q1586 : x13_1 < (l0.length : Int) := od_
         obtain ⟨ad1586, e1586, hx1586_0⟩ := Kd.at_int HR0.out x13_1 p1586 q1586
         cases e1586
         replace p1586 := eq_true p1586
         replace q1586 := eq_true q1586
         have p1587 : 0 ≤ (x13_1 : Int) := od_
         have q1587 : x13_1 < (l1.length : Int) := od_
         obtain ⟨ad1587, e1587, hx1587_0⟩ := Kd.at_int HR1.out x13_1 p1587 q1587
         cases e1587
         replace p1587 := eq_true p1587
         replace q1587 := eq_true q1587
         go_wp2
         repeat (go_quiet (fail); try go_wp2)
         go_ret
         exact ⟨tf_, dr_⟩
       ·
        rw [if_neg c7] at H
        exact absurd H (by simp)
      ·
       rw [if_neg c6] at H
       exact absurd H (by simp)
     ·
      rw [if_neg c5] at H
      exact absurd H (by simp)
    ·
     rw [if_neg c4] at H
     have c4b0 := decide_eq_false c4
     clear c4
     obtain rfl := Option.some.inj H
     go_wp2
     repeat (go_quiet (fail); try go_wp2)
     go_ret
     exact ⟨tf_, dr_⟩
 ·
  rw [if_neg c3] at H
  have c3b0 : ((l0.length : Int) == (l1.length : Int)) = false := beq_eq_false_iff_ne.mpr c3
  have c3b1 : ((l0.length : Int) != (l1.length : Int)) = true := bne_iff_ne.mpr c3
  have c3b2 : (l0.length == l1.length) = false := by first | simpa using c3 | (simp at c3 ⊢; omega)
  obtain rfl := Option.some.inj H
  go_enter Try.func207, Try.ntmps207
  go_wp2
  repeat (go_quiet (fail); try go_wp2)
  go_ret
  exact ⟨tf_, dr_⟩

/-! ### impl_CountDifferent: function 103 -/
def impl_CountDifferent.l0 : Nat → Bool → Int → List (List Int) → Int → Int → Option (Int × Bool)
 | 0, _, _, _, _, _ => none
 | k + 1, x5, x6, x14, x15, x16 => if x16 < x15 then (if 0 ≤ x16 then (if x16 < (x14.length : Int) then ((impl_least.f k (rd_L1 x14 x16)).bind fun t1593 => ((slices_Equal_int_int.f k (rd_L1 x14 x16) t1593).bind fun t1596 => (if t1596 = true then (impl_CountDifferent.l0 k x5 (wrap64 (x6 + 1)) x14 x15 (wrap64 (x16 + 1))) else (impl_CountDifferent.l0 k x5 x6 x14 x15 (wrap64 (x16 + 1)))))) else (none)) else (none)) else (some (x6, x5))
def impl_CountDifferent.f (k : Nat) (a0 : Int) : Option (Int × Bool) := (impl_AllQueens.f k a0).bind fun bt1588 => (impl_CountDifferent.l0 k bt1588.2 0 bt1588.1 (bt1588.1.length : Int) 0)
theorem impl_CountDifferent.mono_l : ∀ k, (∀ y0 y1 y2 y3 y4, LeO (impl_CountDifferent.l0 k y0 y1 y2 y3 y4) (impl_CountDifferent.l0 (k + 1) y0 y1 y2 y3 y4))
 | 0 => fun _ _ _ _ _ r h => by simp [impl_CountDifferent.l0] at h
 | k + 1 => by
  have ih0 := impl_CountDifferent.mono_l k
  ·
   intro y0 y1 y2 y3 y4
   unfold impl_CountDifferent.l0
   repeat' first | (with_reducible first | exact ih0 _ _ _ _ _ | exact impl_AllQueens.mono _ _ | exact impl_least.mono _ _ | exact slices_Equal_int_int.mono _ _ _ | exact LeO.refl _ | exact LeO.none _ | refine LeO.ite ?_ ?_ | refine LeO.bind ?_ (fun _ => ?_)) | exact ih0 _ _ _ _ _ | exact impl_AllQueens.mono _ _ | exact impl_least.mono _ _ | exact slices_Equal_int_int.mono _ _ _ | exact LeO.none _ | refine LeO.ite ?_ ?_ | refine LeO.bind ?_ (fun _ => ?_)
theorem impl_CountDifferent.mono : ∀ a0 k, LeO (impl_CountDifferent.f k a0) (impl_CountDifferent.f (k + 1) a0) := by
 intro a0 k
 have ih0 := impl_CountDifferent.mono_l k
 unfold impl_CountDifferent.f
 repeat' first | (with_reducible first | exact ih0 _ _ _ _ _ | exact impl_AllQueens.mono _ _ | exact impl_least.mono _ _ | exact slices_Equal_int_int.mono _ _ _ | exact LeO.refl _ | exact LeO.none _ | refine LeO.ite ?_ ?_ | refine LeO.bind ?_ (fun _ => ?_)) | exact ih0 _ _ _ _ _ | exact impl_AllQueens.mono _ _ | exact impl_least.mono _ _ | exact slices_Equal_int_int.mono _ _ _ | exact LeO.none _ | refine LeO.ite ?_ ?_ | refine LeO.bind ?_ (fun _ => ?_)
theorem impl_CountDifferent.calls (k : Nat) (a0 : Int) (r1 : Int) (r2 : Bool) (w : World) (h : impl_CountDifferent.f k a0 = some (r1, r2)) :
  Calls Try.prog 103 #[.int .i64 a0] w fun e w' => e = .returned (.tuple #[.int .i64 r1, .bool r2]) ∧ Below w.heap.size w w' := by
 have HB := A_ (Below.refl w.heap.size w)
 have H : ((impl_AllQueens.f k a0).bind fun bt1588 => (impl_CountDifferent.l0 k bt1588.2 0 bt1588.1 (bt1588.1.length : Int) 0)) = some (r1, r2) := h
 clear h
 replace H := Option.bind_eq_some_iff.mp H
 obtain ⟨⟨t1588, t1589⟩, A20, H⟩ := H
 replace H : (impl_CountDifferent.l0 k t1589 0 t1588 (t1588.length : Int) 0) = some (r1, r2) := H
 have A2 := A_ A20
 clear A20
 have H' := A_ H
 clear H
 go_enter Try.func103, Try.ntmps103
 go_wp2_with (first | (refine gc_ 68 ?_; refine goesT_ (some 11) Try.func68 #[.int .i64 a0] ?_; (with_reducible refine (impl_AllQueens.calls k a0 t1588 t1589 _ A2.out).mono ?_); rintro e w3 ⟨v1590, rfl, ho0, hb⟩; refine ⟨_, rfl, ?_⟩; have HO1591 := A_ (Kd.S_lower ho0 (below_size tb_)); replace HB := A_ (below_step tb_ hb); (try clear hb); (try clear ho0); obtain ⟨Ao4, co4, eo4⟩ := Kd.S_slice HO1591.out; subst eo4))
 go_loopg [6, 16] k (fun kq v6 v16 w' => ∃ (x6_1 : Int) (x16_1 : Int), v6 = .int .i64 x6_1 ∧ v16 = .int .i64 x16_1 ∧ Aside0 (impl_CountDifferent.l0 kq t1589 x6_1 t1588 (t1588.length : Int) x16_1 = some (r1, r2)) ∧ Aside0 (kq ≤ k) ∧ Aside0 (Kd.S (Kd.slice 3 (Kd.int .i64)) 22 w' w.heap.size (fun _ => True) (.slice Ao4 t1588.length co4) t1588) ∧ Aside0 (Below w.heap.size w w'))
 case atStart => exact ⟨(0), (0), tf_, tf_, H', ⟨Nat.le_refl _⟩, ⟨ts1_x HO1591.out⟩, ⟨tb_⟩⟩
 case round =>
  clear H'
  try clear c1
  try clear p2
  obtain ⟨x6_1, x16_1, rfl, rfl, HA, HK1, HO_14, HB⟩ := hrel
  cases gk with
  | zero => exact absurd HA.out (by simp [impl_CountDifferent.l0])
  | succ k1 =>
   have H := HA.out
   clear HA
   simp only [impl_CountDifferent.l0] at H
   by_cases c5 : x16_1 < (t1588.length : Int)
   ·
    rw [if_pos c5] at H
    have c5b0 := decide_eq_true c5
    clear c5
    by_cases c6 : 0 ≤ x16_1
    ·
     rw [if_pos c6] at H
     have c6b0 := decide_eq_true c6
     clear c6
     by_cases c7 : x16_1 < (t1588.length : Int)
     ·
      rw [if_pos c7] at H
      have c7b0 := decide_eq_true c7
      clear c7
      replace H := Option.bind_eq_some_iff.mp H
      obtain ⟨t1593, A80, H⟩ := H
      replace H : ((slices_Equal_int_int.f k1 (rd_L1 t1588 x16_1) t1593).bind fun t1596 => (if t1596 = true then (impl_CountDifferent.l0 k1 t1589 (wrap64 (x6_1 + 1)) t1588 (t1588.length : Int) (wrap64 (x16_1 + 1))) else (impl_CountDifferent.l0 k1 t1589 x6_1 t1588 (t1588.length : Int) (wrap64 (x16_1 + 1))))) = some (r1, r2) := H
      have A8 := A_ A80
      clear A80
      replace H := Option.bind_eq_some_iff.mp H
      obtain ⟨t1596, A90, H⟩ := H
      replace H : (if t1596 = true then (impl_CountDifferent.l0 k1 t1589 (wrap64 (x6_1 + 1)) t1588 (t1588.length : Int) (wrap64 (x16_1 + 1))) else (impl_CountDifferent.l0 k1 t1589 x6_1 t1588 (t1588.length : Int) (wrap64 (x16_1 + 1)))) = some (r1, r2) := H
      have A9 := A_ A90
      clear A90
      by_cases c10 : t1596 = true
      ·
       subst c10
       have H1 : (impl_CountDifferent.l0 k1 t1589 (wrap64 (x6_1 + 1)) t1588 (t1588.length : Int) (wrap64 (x16_1 + 1))) = some (r1, r2) := by rw [if_pos rfl] at H; exact H
       clear H
       have H := H1
       clear H1
       have H' := A_ H
       clear H
       have p1592 : 0 ≤ (x16_1 : Int) := od_
       have q1592 : x16_1 < (t1588.length : Int) := od_
       obtain ⟨ad1592, A1592_0, c1592_0, e1592, hx1592_0, hl1592_0, hi1592_0⟩ := at_L1 (Kd.S_reads' HO_14.out).2.2 x16_1 p1592 q1592
       cases e1592
       obtain ⟨ce1592, hce1592, hMe1592, hcc1592⟩ := Kd.S_get HO_14.out [] x16_1 p1592 (by first | exact q1592 | exact od_ | (have e_ := (Kd.S_reads' HO_14.out).1; omega))
       obtain ⟨ve1592_0, rfl, ge1592_0⟩ := hMe1592
       have hv1592_0 := hcc1592 0 _ rfl
       rw [Nat.add_zero, show ((Kd.slice 3 (Kd.int .i64))).sz = 1 from rfl, Nat.mul_one] at hv1592_0
       replace hv1592_0 := Option.some.inj (hv1592_0.symm.trans hx1592_0)
       rw [hv1592_0] at ge1592_0
       have HL1592_0 := A_ (show Kd.R (Kd.int .i64) 3 _ _ _ _ (rd_L1 t1588 x16_1) from ge1592_0)
       clear hv1592_0 ge1592_0
       clear hcc1592 hce1592
       have HR1592_0 := A_ hi1592_0
       have HC1592_0 := A_ hl1592_0
       clear hi1592_0 hl1592_0
       replace p1592 := eq_true p1592
       replace q1592 := eq_true q1592
       go_wp2_with (first | (refine gc_ 201 ?_; refine goesT_ (some 22) Try.func201 #[.slice A1592_0 (rd_L1 t1588 x16_1).length c1592_0] ?_; (with_reducible refine (impl_least.calls k1 _ _ (rd_L1 t1588 x16_1) t1593 _ ?side1 ?side2 A8.out).mono ?_); (case side1 => repeat (first | exact (by repeat (first | (with_reducible exact HR1592_0.out) | (with_reducible refine Kd.C_alloc ?_ _) | (with_reducible refine Kd.C_drewN ?_ _) | (with_reducible refine Kd.C_drew ?_) | exact HR1592_0.out)) | (with_reducible refine Kd.C_alloc ?_ _) | (with_reducible refine Kd.C_drewN ?_ _) | (with_reducible refine Kd.C_drew ?_))); (case side2 => exact HC1592_0.out); rintro e w11 ⟨v1594, rfl, ho0, hb⟩; refine ⟨_, rfl, ?_⟩; replace HO_14 := A_ (Kd.S_elder' (ts1_x HO_14.out) (Kd.R_base ho0) hb); have HO1595 := A_ (Kd.R_lower (Kd.R_new' ho0 (Kd.R_lt (tr_x HL1592_0.out))) (below_size tb_)); replace HL1592_0 := A_ (Kd.R_elder' (tr_x HL1592_0.out) (Kd.R_base ho0) hb); replace HR1592_0 := A_ (Kd.C_below (by repeat (first | (with_reducible exact HR1592_0.out) | (with_reducible refine Kd.C_alloc ?_ _) | (with_reducible refine Kd.C_drewN ?_ _) | (with_reducible refine Kd.C_drew ?_) | exact HR1592_0.out)) hb); replace HB := A_ (below_step tb_ hb); (try clear hb); (try clear hb2); (try clear hk); (try clear hi); (try clear ho0); obtain ⟨Ao12, co12, eo12⟩ := Kd.R_slice HO1595.out; subst eo12) | (refine gc_ 207 ?_; refine goesT_ (some 23) Try.func207 #[.slice A1592_0 (rd_L1 t1588 x16_1).length c1592_0, .slice Ao12 t1593.length co12] ?_; (with_reducible refine (slices_Equal_int_int.calls k1 _ _ (rd_L1 t1588 x16_1) _ _ t1593 true _ ?side1 ?side2 ?side3 ?side4 A9.out).mono ?_); (case side1 => repeat (first | exact (by repeat (first | (with_reducible exact HR1592_0.out) | (with_reducible refine Kd.C_alloc ?_ _) | (with_reducible refine Kd.C_drewN ?_ _) | (with_reducible refine Kd.C_drew ?_) | exact HR1592_0.out)) | (with_reducible refine Kd.C_alloc ?_ _) | (with_reducible refine Kd.C_drewN ?_ _) | (with_reducible refine Kd.C_drew ?_))); (case side2 => exact HC1592_0.out); (case side3 => exact tc0_ (Kd.R_reads' HO1595.out).2.2); (case side4 => exact (Kd.R_reads' HO1595.out).2.1); rintro e w' ⟨rfl, ⟨nd, rfl⟩⟩; refine ⟨_, rfl, ?_⟩))
       go_roundg k1
       case measure => have := HK1.out; omega
       case rel => exact ⟨(wrap64 (x6_1 + 1)), (wrap64 (x16_1 + 1)), tf_, tf_, H', ⟨by have := HK1.out; omega⟩, ⟨by (with_reducible repeat (first | apply Kd.S_alloc | apply Kd.S_drewN | apply Kd.S_drew)); exact Kd.S_mono HO_14.out (fun _ hk => trivial)⟩, ⟨tb_⟩⟩
      ·
       replace c10 := Bool.eq_false_iff.mpr c10
       subst c10
       have H1 : (impl_CountDifferent.l0 k1 t1589 x6_1 t1588 (t1588.length : Int) (wrap64 (x16_1 + 1))) = some (r1, r2) := by rw [if_neg (show ¬ (false = true) by decide)] at H; exact H
       clear H
       have H := H1
       clear H1
       have H' := A_ H
       clear H
       have p1592 : 0 ≤ (x16_1 : Int) := od_
       have q1592 : x16_1 < (t1588.length : Int) := od_
       obtain ⟨ad1592, A1592_0, c1592_0, e1592, hx1592_0, hl1592_0, hi1592_0⟩ := at_L1 (Kd.S_reads' HO_14.out).2.2 x16_1 p1592 q1592
       cases e1592
       obtain ⟨ce1592, hce1592, hMe1592, hcc1592⟩ := Kd.S_get HO_14.out [] x16_1 p1592 (by first | exact q1592 | exact od_ | (have e_ := (Kd.S_reads' HO_14.out).1; omega))
       obtain ⟨ve1592_0, rfl, ge1592_0⟩ := hMe1592
       have hv1592_0 := hcc1592 0 _ rfl
       rw [Nat.add_zero, show ((Kd.slice 3 (Kd.int .i64))).sz = 1 from rfl, Nat.mul_one] at hv1592_0
       replace hv1592_0 := Option.some.inj (hv1592_0.symm.trans hx1592_0)
       rw [hv1592_0] at ge1592_0
       have HL1592_0 := A_ (show Kd.R (Kd.int .i64) 3 _ _ _ _ (rd_L1 t1588 x16_1) from ge1592_0)
       clear hv1592_0 ge1592_0
       clear hcc1592 hce1592
       have HR1592_0 := A_ hi1592_0
       have HC1592_0 := A_ hl1592_0
       clear hi1592_0 hl1592_0
       replace p1592 := eq_true p1592
       replace q1592 := eq_true q1592
       go_wp2_with (first | (refine gc_ 201 ?_; refine goesT_ (some 22) Try.func201 #[.slice A1592_0 (rd_L1 t1588 x16_1).length c1592_0] ?_; (with_reducible refine (impl_least.calls k1 _ _ (rd_L1 t1588 x16_1) t1593 _ ?side1 ?side2 A8.out).mono ?_); (case side1 => repeat (first | exact (by repeat (first | (with_reducible exact HR1592_0.out) | (with_reducible refine Kd.C_alloc ?_ _) | (with_reducible refine Kd.C_drewN ?_ _) | (with_reducible refine Kd.C_drew ?_) | exact HR1592_0.out)) | (with_reducible refine Kd.C_alloc ?_ _) | (with_reducible refine Kd.C_drewN ?_ _) | (with_reducible refine Kd.C_drew ?_))); (case side2 => exact HC1592_0.out); rintro e w13 ⟨v1594, rfl, ho0, hb⟩; refine ⟨_, rfl, ?_⟩; replace HO_14 := A_ (Kd.S_elder' (ts1_x HO_14.out) (Kd.R_base ho0) hb); have HO1595 := A_ (Kd.R_lower (Kd.R_new' ho0 (Kd.R_lt (tr_x HL1592_0.out))) (below_size tb_)); replace HL1592_0 := A_ (Kd.R_elder' (tr_x HL1592_0.out) (Kd.R_base ho0) hb); replace HR1592_0 := A_ (Kd.C_below (by repeat (first | (with_reducible exact HR1592_0.out) | (with_reducible refine Kd.C_alloc ?_ _) | (with_reducible refine Kd.C_drewN ?_ _) | (with_reducible refine Kd.C_drew ?_) | exact HR1592_0.out)) hb); replace HB := A_ (below_step tb_ hb); (try clear hb); (try clear hb2); (try clear hk); (try clear hi); (try clear ho0); obtain ⟨Ao14, co14, eo14⟩ := Kd.R_slice HO1595.out; subst eo14) | (refine gc_ 207 ?_; refine goesT_ (some 23) Try.func207 #[.slice A1592_0 (rd_L1 t1588 x16_1).length c1592_0, .slice Ao14 t1593.length co14] ?_; (with_reducible refine (slices_Equal_int_int.calls k1 _ _ (rd_L1 t1588 x16_1) _ _ t1593 false _ ?side1 ?side2 ?side3 ?side4 A9.out).mono ?_); (case side1 => repeat (first | exact (by repeat (first | (with_reducible exact HR1592_0.out) | (with_reducible refine Kd.C_alloc ?_ _) | (with_reducible refine Kd.C_drewN ?_ _) | (with_reducible refine Kd.C_drew ?_) | exact HR1592_0.out)) | (with_reducible refine Kd.C_alloc ?_ _) | (with_reducible refine Kd.C_drewN ?_ _) | (with_reducible refine Kd.C_drew ?_))); (case side2 => exact HC1592_0.out); (case side3 => exact tc0_ (Kd.R_reads' HO1595.out).2.2); (case side4 => exact (Kd.R_reads' HO1595.out).2.1); rintro e w' ⟨rfl, ⟨nd, rfl⟩⟩; refine ⟨_, rfl, ?_⟩))
       go_roundg k1
       case measure => have := HK1.out; omega
       case rel => exact ⟨(x6_1), (wrap64 (x16_1 + 1)), tf_, tf_, H', ⟨by have := HK1.out; omega⟩, ⟨by (with_reducible repeat (first | apply Kd.S_alloc | apply Kd.S_drewN | apply Kd.S_drew)); exact Kd.S_mono HO_14.out (fun _ hk => trivial)⟩, ⟨tb_⟩⟩
     ·
      rw [if_neg c7] at H
      exact absurd H (by simp)
    ·
     rw [if_neg c6] at H
     exact absurd H (by simp)
   ·
    rw [if_neg c5] at H
    have c5b0 := decide_eq_false c5
    clear c5
    simp only [Option.some.injEq, Prod.mk.injEq] at H
    obtain ⟨rfl, rfl⟩ := H
    go_wp2
    go_ret2
    exact ⟨te_, tb_⟩

/-! ### spec_l1Same: function 208 -/
def spec_l1Same.l0 : Nat → List Int → List Int → Int → Int → Option (Bool)
 | 0, _, _, _, _ => none
 | k + 1, x0, x1, x12, x13 => if x13 < x12 then (if 0 ≤ x13 then (if x13 < (x0.length : Int) then (if x13 < (x1.length : Int) then (if (rd x0 x13) = (rd x1 x13) then (spec_l1Same.l0 k x0 x1 x12 (wrap64 (x13 + 1))) else (some false)) else (none)) else (none)) else (none)) else (some true)
def spec_l1Same.f (k : Nat) (l0 : List Int) (l1 : List Int) : Option (Bool) := if (l0.length : Int) = (l1.length : Int) then (spec_l1Same.l0 k l0 l1 (l0.length : Int) 0) else (some false)
theorem spec_l1Same.mono_l : ∀ k, (∀ y0 y1 y2 y3, LeO (spec_l1Same.l0 k y0 y1 y2 y3) (spec_l1Same.l0 (k + 1) y0 y1 y2 y3))
 | 0 => fun _ _ _ _ r h => by simp [spec_l1Same.l0] at h
 | k + 1 => by
  have ih0 := spec_l1Same.mono_l k
  ·
   intro y0 y1 y2 y3
   unfold spec_l1Same.l0
   repeat' first | (with_reducible first | exact ih0 _ _ _ _ | exact LeO.refl _ | exact LeO.none _ | refine LeO.ite ?_ ?_ | refine LeO.bind ?_ (fun _ => ?_)) | exact ih0 _ _ _ _ | exact LeO.none _ | refine LeO.ite ?_ ?_ | refine LeO.bind ?_ (fun _ => ?_)
theorem spec_l1Same.mono : ∀ a0 a1 k, LeO (spec_l1Same.f k a0 a1) (spec_l1Same.f (k + 1) a0 a1) := by
 intro a0 a1 k
 have ih0 := spec_l1Same.mono_l k
 unfold spec_l1Same.f
 repeat' first | (with_reducible first | exact ih0 _ _ _ _ | exact LeO.refl _ | exact LeO.none _ | refine LeO.ite ?_ ?_ | refine LeO.bind ?_ (fun _ => ?_)) | exact ih0 _ _ _ _ | exact LeO.none _ | refine LeO.ite ?_ ?_ | refine LeO.bind ?_ (fun _ => ?_)
theorem spec_l1Same.calls (k : Nat) (A0 : Option Addr) (c0 : Nat) (l0 : List Int) (A1 : Option Addr) (c1 : Nat) (l1 : List Int) (r : Bool) (w : World) (hr0 : Kd.C (Kd.int .i64) w A0 l0.length l0) (hc0 : l0.length ≤ c0) (hr1 : Kd.C (Kd.int .i64) w A1 l1.length l1) (hc1 : l1.length ≤ c1) (h : spec_l1Same.f k l0 l1 = some r) :
  Calls Try.prog 208 #[.slice A0 l0.length c0, .slice A1 l1.length c1] w fun e w' => e = .returned (.bool r) ∧ Drawn0 w w' := by
 have HR0 := A_ hr0
 have HC0 := A_ hc0
 clear hr0 hc0
 have HR1 := A_ hr1
 have HC1 := A_ hc1
 clear hr1 hc1
 have H : (if (l0.length : Int) = (l1.length : Int) then (spec_l1Same.l0 k l0 l1 (l0.length : Int) 0) else (some false)) = some r := h
 clear h
 by_cases c3 : (l0.length : Int) = (l1.length : Int)
 ·
  rw [if_pos c3] at H
  have c3b0 : ((l0.length : Int) == (l1.length : Int)) = true := beq_iff_eq.mpr c3
  have c3b1 : ((l0.length : Int) != (l1.length : Int)) = false := bne_eq_false_iff_eq.mpr c3
  have c3b2 : (l0.length == l1.length) = true := by first | simpa using c3 | (simp at c3 ⊢; omega)
  clear c3
  have H' := A_ H
  clear H
  go_enter Try.func208, Try.ntmps208
  go_wp2
  repeat (go_quiet (fail); try go_wp2)
  go_loopg [13] k (fun kq v13 w' => ∃ (x13_1 : Int), v13 = .int .i64 x13_1 ∧ Aside0 (spec_l1Same.l0 kq l0 l1 (l0.length : Int) x13_1 = some r) ∧ Aside0 (kq ≤ k) ∧ Drawn0 w w')
  case atStart => exact ⟨(0), tf_, H', ⟨Nat.le_refl _⟩, dr_⟩
  case round =>
   clear H'
   try clear c1
   try clear c2
   try clear p2
   try clear c3
   try clear c3b0
   try clear c3b1
   try clear c3b2
   obtain ⟨x13_1, rfl, HA, HK1, ⟨m1, rfl⟩⟩ := hrel
   cases gk with
   | zero => exact absurd HA.out (by simp [spec_l1Same.l0])
   | succ k1 =>
    have H := HA.out
    clear HA
    simp only [spec_l1Same.l0] at H
    by_cases c4 : x13_1 < (l0.length : Int)
    ·
     rw [if_pos c4] at H
     have c4b0 := decide_eq_true c4
     clear c4
     by_cases c5 : 0 ≤ x13_1
     ·
      rw [if_pos c5] at H
      have c5b0 := decide_eq_true c5
      clear c5
      by_cases c6 : x13_1 < (l0.length : Int)
      ·
       rw [if_pos c6] at H
       have c6b0 := decide_eq_true c6
       clear c6
       by_cases c7 : x13_1 < (l1.length : Int)
       ·
        rw [if_pos c7] at H
        have c7b0 := decide_eq_true c7
        clear c7
        by_cases c8 : (rd l0 x13_1) = (rd l1 x13_1)
        ·
         rw [if_pos c8] at H
         have c8b0 : ((rd l0 x13_1) == (rd l1 x13_1)) = true := beq_iff_eq.mpr c8
         have c8b1 : ((rd l0 x13_1) != (rd l1 x13_1)) = false := bne_eq_false_iff_eq.mpr c8
         clear c8
         have H' := A_ H
         clear H
         have p1597 : 0 ≤ (x13_1 : Int) := od_
         have q1597 : x13_1 < (l0.length : Int) := od_
         obtain ⟨ad1597, e1597, hx1597_0⟩ := Kd.at_int HR0.out x13_1 p1597 q1597
         cases e1597
         replace p1597 := eq_true p1597
         replace q1597 := eq_true q1597
         have p1598 : 0 ≤ (x13_1 : Int) := od_
         have q1598 : x13_1 < (l1.length : Int) := od_
         obtain ⟨ad1598, e1598, hx1598_0⟩ := Kd.at_int HR1.out x13_1 p1598 q1598
         cases e1598
         replace p1598 := eq_true p1598
         replace q1598 := eq_true q1598
         go_wp2
         repeat (go_quiet (fail); try go_wp2)
         go_roundg k1
         case measure => have := HK1.out; omega
         case rel => exact ⟨(wrap64 (x13_1 + 1)), tf_, H', ⟨by have := HK1.out; omega⟩, dr_⟩
        ·
         rw [if_neg c8] at H
         have c8b0 : ((rd l0 x13_1) == (rd l1 x13_1)) = false := beq_eq_false_iff_ne.mpr c8
         have c8b1 : ((rd l0 x13_1) != (rd l1 x13_1)) = true := bne_iff_ne.mpr c8
         obtain rfl := Option.some.inj H
         have p1597 : 0 ≤ (x13_1 : Int) := od_
         have q1597 : x13_1 < (l0.length : Int) := od_
         obtain ⟨ad1597, e1597, hx1597_0⟩ := Kd.at_int HR0.out x13_1 p1597 q1597
         cases e1597
         replace p1597 := eq_true p1597
         replace q1597 := eq_true q1597
         have p1598 : 0 ≤ (x13_1 : Int) := od_
         have q1598 : x13_1 < (l1.length : Int) := od_
         obtain ⟨ad1598, e1598, hx1598_0⟩ := Kd.at_int HR1.out x13_1 p1598 q1598
         cases e1598
         replace p1598 := eq_true p1598
         replace q1598 := eq_true q1598
         go_wp2
         repeat (go_quiet (fail); try go_wp2)
         go_ret
         exact ⟨tf_, dr_⟩
       ·
        rw [if_neg c7] at H
        exact absurd H (by simp)
      ·
       rw [if_neg c6] at H
       exact absurd H (by simp)
     ·
      rw [if_neg c5] at H
      exact absurd H (by simp)
    ·
     rw [if_neg c4] at H
     have c4b0 := decide_eq_false c4
     clear c4
     obtain rfl := Option.some.inj H
     go_wp2
     repeat (go_quiet (fail); try go_wp2)
     go_ret
     exact ⟨tf_, dr_⟩
 ·
  rw [if_neg c3] at H
  have c3b0 : ((l0.length : Int) == (l1.length : Int)) = false := beq_eq_false_iff_ne.mpr c3
  have c3b1 : ((l0.length : Int) != (l1.length : Int)) = true := bne_iff_ne.mpr c3
  have c3b2 : (l0.length == l1.length) = false := by first | simpa using c3 | (simp at c3 ⊢; omega)
  obtain rfl := Option.some.inj H
  go_enter Try.func208, Try.ntmps208
  go_wp2
  repeat (go_quiet (fail); try go_wp2)
  go_ret
  exact ⟨tf_, dr_⟩

end
end Go.Proofs.Ytnpacpdpgngdpaa.P
