-- printed functions (wip/slim.py)
import Derived.Test.YthlcaikplebpmaaPx0
import Derived.Test.YthlcaikplebpmaaIs
import Derived.Test.YthlcaikplebpmaaKn
import Derived.Test.YthlcaikplebpmaaQ8c66479705
import Derived.Test.YthlcaikplebpmaaQa73e2632b9
namespace Go.Proofs.Ythlcaikplebpmaa.P
noncomputable section
set_option maxHeartbeats 8000000
set_option maxRecDepth 100000
open Go.RowKit Go.Proofs.YthlcaikplebpmaaW.PrintWords Go.Proofs.YthlcaikplebpmaaW.PrintLast Go.Proofs.YthlcaikplebpmaaW.PrintMore
attribute [local go_sem] max2_int min2_int max_two min_two max_three min_three max_four min_four   -- for this text's walks alone
set_option linter.unusedVariables false
set_option linter.unusedSimpArgs false

/-! ### impl_CyclesOfFiles: function 54 -/
def impl_CyclesOfFiles.idxI : List Int → Int → Nat → Int
 | [], _, _ => -1
 | y :: b, x, i => if y = x then (i : Int) else impl_CyclesOfFiles.idxI b x (i + 1)
def impl_CyclesOfFiles.stepI : List (List Int) → Int → Int → List (List Int)
 | [], _, _ => []
 | b :: out, x, j => if 0 ≤ impl_CyclesOfFiles.idxI b x 0 then Cap.insL b ((impl_CyclesOfFiles.idxI b x 0).toNat + 1) j :: out else b :: impl_CyclesOfFiles.stepI out x j
def impl_CyclesOfFiles.goI : List Int → Nat → List (List Int) → List (List Int)
 | [], _, out => out
 | x :: l, j, out => impl_CyclesOfFiles.goI l (j + 1) (if x = -1 then out ++ [[(j : Int)]] else impl_CyclesOfFiles.stepI out x j)
def impl_CyclesOfFiles.okS (k : Nat) (l : List Int) : Prop := l.length ≤ 1000 ∧ ∀ (b : List Int) (x : Int), b.length ≤ 1000 → slices_Index_int_int.f k b x = some (impl_CyclesOfFiles.idxI b x 0)
open Classical in
def impl_CyclesOfFiles.f (k : Nat) (l0 : List Int) : Option (List (List Int) × Bool) := (impl_ArrowBoard.f k (l0.length : Int)).bind fun b => if b.2.2.2 = true then ((impl_Board_isFile.f k b.1 b.2.1 b.2.2.1 l0).bind fun g => if g = true then (if impl_CyclesOfFiles.okS k l0 then some (impl_CyclesOfFiles.goI l0 0 [], true) else none) else some ([], false)) else some ([], false)
theorem impl_CyclesOfFiles.mono : ∀ a0 k, LeO (impl_CyclesOfFiles.f k a0) (impl_CyclesOfFiles.f (k + 1) a0) := fun a0 k => by
 unfold impl_CyclesOfFiles.f
 refine LeO.bind (impl_ArrowBoard.mono _ _) (fun _ => ?_)
 refine LeO.ite ?_ (LeO.refl _)
 refine LeO.bind (impl_Board_isFile.mono _ _ _ _ _) (fun _ => ?_)
 refine LeO.ite ?_ (LeO.refl _)
 intro r h
 by_cases hok : impl_CyclesOfFiles.okS k a0
 ·
  rw [if_pos hok] at h
  rw [if_pos ⟨hok.1, fun b x hb => slices_Index_int_int.mono _ _ _ _ (hok.2 b x hb)⟩]
  exact h
 ·
  rw [if_neg hok] at h
  exact absurd h (by simp)
theorem impl_CyclesOfFiles.idxI_lt : ∀ (b : List Int) (x : Int) (i : Nat), impl_CyclesOfFiles.idxI b x i < ((i + b.length : Nat) : Int)
 | [], x, i => by rw [impl_CyclesOfFiles.idxI]; omega
 | y :: b, x, i => by
  rw [impl_CyclesOfFiles.idxI, List.length_cons]
  split
  ·
   omega
  ·
   have := idxI_lt b x (i + 1); omega
theorem impl_CyclesOfFiles.idxI_ge : ∀ (b : List Int) (x : Int) (i : Nat), impl_CyclesOfFiles.idxI b x i = -1 ∨ (i : Int) ≤ impl_CyclesOfFiles.idxI b x i
 | [], x, i => .inl rfl
 | y :: b, x, i => by
  rw [impl_CyclesOfFiles.idxI]
  split
  ·
   right; omega
  ·
   rcases idxI_ge b x (i + 1) with h | h
   ·
    exact .inl h
   ·
    right; omega
theorem impl_CyclesOfFiles.step_more (out : List (List Int)) (x j : Int) (k : Nat) (h : k < out.length) (hi : ¬ 0 ≤ impl_CyclesOfFiles.idxI (out.getD k []) x 0) : out.take k ++ impl_CyclesOfFiles.stepI (out.drop k) x j = out.take (k + 1) ++ impl_CyclesOfFiles.stepI (out.drop (k + 1)) x j := by
 have e : out.getD k [] = out[k] := by rw [List.getD_eq_getElem?_getD, List.getElem?_eq_getElem h]; rfl
 rw [e] at hi
 rw [List.drop_eq_getElem_cons h, impl_CyclesOfFiles.stepI, if_neg hi, List.take_add_one, List.getElem?_eq_getElem h, List.append_assoc]
 rfl
theorem impl_CyclesOfFiles.step_here (out : List (List Int)) (x j : Int) (k : Nat) (h : k < out.length) (hi : 0 ≤ impl_CyclesOfFiles.idxI (out.getD k []) x 0) : out.take k ++ impl_CyclesOfFiles.stepI (out.drop k) x j = out.set k (Cap.insL (out.getD k []) ((impl_CyclesOfFiles.idxI (out.getD k []) x 0).toNat + 1) j) := by
 have e : out.getD k [] = out[k] := by rw [List.getD_eq_getElem?_getD, List.getElem?_eq_getElem h]; rfl
 rw [e] at hi ⊢
 rw [List.drop_eq_getElem_cons h, impl_CyclesOfFiles.stepI, if_pos hi, List.set_eq_take_append_cons_drop, if_pos h]
theorem impl_CyclesOfFiles.step_rows (x j : Int) (m : Nat) : ∀ (out : List (List Int)), (∀ b ∈ out, b.length ≤ m) → (impl_CyclesOfFiles.stepI out x j).length = out.length ∧ ∀ b ∈ impl_CyclesOfFiles.stepI out x j, b.length ≤ m + 1
 | [], _ => ⟨rfl, fun b hb => by simp [impl_CyclesOfFiles.stepI] at hb⟩
 | b :: out, h => by
  have hb := h b (List.mem_cons_self ..)
  have ho : ∀ c ∈ out, c.length ≤ m := fun c hc => h c (List.mem_cons_of_mem _ hc)
  rw [impl_CyclesOfFiles.stepI]
  split
  ·
   rename_i hi
   refine ⟨rfl, fun c hc => ?_⟩
   rcases List.mem_cons.1 hc with rfl | hc
   ·
    have := impl_CyclesOfFiles.idxI_lt b x 0
    rw [Cap.insL_len _ _ _ (by omega)]; omega
   ·
    have := ho c hc; omega
  ·
   obtain ⟨h1, h2⟩ := step_rows x j m out ho
   refine ⟨by rw [List.length_cons, List.length_cons, h1], fun c hc => ?_⟩
   rcases List.mem_cons.1 hc with rfl | hc
   ·
    omega
   ·
    exact h2 c hc
theorem impl_CyclesOfFiles.calls (k : Nat) (A0 : Option Addr) (c0 : Nat) (l0 : List Int) (r1 : List (List Int)) (r2 : Bool) (w : World) (hr0 : Kd.C (Kd.int .i64) w A0 l0.length l0) (hc0 : l0.length ≤ c0) (h : impl_CyclesOfFiles.f k l0 = some (r1, r2)) :
  Calls Try.prog 54 #[.slice A0 l0.length c0] w fun e w' => ∃ v0_ : Value, e = .returned (.tuple #[v0_, .bool r2]) ∧ Kd.S (Kd.slice 3 (Kd.int .i64)) 22 w' w.heap.size (fun _ => True) v0_ r1 ∧ Below w.heap.size w w' := by
 have hu26 := Try.underlying26
 have HR0 := A_ hr0
 have HC0 := A_ hc0
 clear hr0 hc0
 unfold impl_CyclesOfFiles.f at h
 obtain ⟨⟨b1, b2, b3, t⟩, A1, H⟩ := Option.bind_eq_some_iff.mp h
 clear h
 replace A1 := A_ A1
 have HB0 := A_ (Below.refl w.heap.size w)
 have HQ : Aside0 (∀ w1, Below w.heap.size w w1 → Kd.C (Kd.int .i64) w1 A0 l0.length l0) := ⟨fun w1 hb => Kd.C_below HR0.out hb⟩
 cases t with
 | false =>
  simp only [Bool.false_eq_true, if_false, Option.some.injEq, Prod.mk.injEq] at H
  obtain ⟨rfl, rfl⟩ := H
  go_enter Try.func54, Try.ntmps54
  go_wp2_with (first | (go_at_call 71; (with_reducible refine (impl_ArrowBoard.calls k _ b1 b2 b3 false _ A1.out).mono ?_); rintro e w1 ⟨vb, rfl, hR, hb⟩; obtain ⟨Ab, cb, eb⟩ := Kd.R_slice hR; subst eb; have HB1 := A_ (below_then HB0.out HB0.out.size hb); clear hR hb))
  go_ret2
  exact ⟨_, rfl, Kd.S_nil _ _ _ _ _, below_alloc HB1.out _⟩
 | true =>
  rw [if_pos rfl] at H
  obtain ⟨g, A2, H⟩ := Option.bind_eq_some_iff.mp H
  replace A2 := A_ A2
  cases g with
  | false =>
   simp only [Bool.false_eq_true, if_false, Option.some.injEq, Prod.mk.injEq] at H
   obtain ⟨rfl, rfl⟩ := H
   go_enter Try.func54, Try.ntmps54
   go_wp2_with (first | (go_at_call 71; (with_reducible refine (impl_ArrowBoard.calls k _ b1 b2 b3 true _ A1.out).mono ?_); rintro e w1 ⟨vb, rfl, hR, hb⟩; obtain ⟨Ab, cb, eb⟩ := Kd.R_slice hR; subst eb; have HRb := A_ (Kd.R_reads' hR).2; have HB1 := A_ (below_then HB0.out HB0.out.size hb); have HB2 := A_ (below_alloc HB1.out (.cells #[.int .i64 b1, .int .i64 b2, .slice Ab b3.length cb] 26)); have hyA := blk_cell (blk_new w1 (.cells #[.int .i64 b1, .int .i64 b2, .slice Ab b3.length cb] 26)) 0; clear hR hb) | (go_at_call 132; (with_reducible refine (impl_Board_isFile.calls k b1 b2 Ab cb b3 A0 c0 l0 false _ (Kd.C_alloc HRb.out.2 _) HRb.out.1 (HQ.out _ HB2.out) HC0.out A2.out).mono ?_); rintro e w3 ⟨rfl, hb⟩; have HB3 := A_ (below_then HB2.out HB2.out.size hb); clear hb))
   go_ret2
   exact ⟨_, rfl, Kd.S_nil _ _ _ _ _, HB3.out⟩
  | true =>
   rw [if_pos rfl] at H
   by_cases hok : impl_CyclesOfFiles.okS k l0
   case neg =>
    rw [if_neg hok] at H
    exact absurd H (by simp)
   rw [if_pos hok] at H
   obtain ⟨e1, rfl⟩ := Prod.mk.inj (Option.some.inj H)
   have HRES := A_ e1
   have HL := A_ hok.1
   have HIX := A_ hok.2
   clear H e1 hok
   go_enter Try.func54, Try.ntmps54
   go_upto_region 4 with (first | (go_at_call 71; (with_reducible refine (impl_ArrowBoard.calls k _ b1 b2 b3 true _ A1.out).mono ?_); rintro e w1 ⟨vb, rfl, hR, hb⟩; obtain ⟨Ab, cb, eb⟩ := Kd.R_slice hR; subst eb; have HRb := A_ (Kd.R_reads' hR).2; have HB1 := A_ (below_then HB0.out HB0.out.size hb); have HB2 := A_ (below_alloc HB1.out (.cells #[.int .i64 b1, .int .i64 b2, .slice Ab b3.length cb] 26)); have hyA := blk_cell (blk_new w1 (.cells #[.int .i64 b1, .int .i64 b2, .slice Ab b3.length cb] 26)) 0; clear hR hb) | (go_at_call 132; (with_reducible refine (impl_Board_isFile.calls k b1 b2 Ab cb b3 A0 c0 l0 true _ (Kd.C_alloc HRb.out.2 _) HRb.out.1 (HQ.out _ HB2.out) HC0.out A2.out).mono ?_); rintro e w3 ⟨rfl, hb⟩; have HB3 := A_ (below_then HB2.out HB2.out.size hb); clear hb))
   have HB4 := A_ (below_alloc HB3.out (.cells #[] 22))
   have HS4 := A_ (Cap.S_empty (e := 3) (eO := 22) (base := w.heap.size) (W := w3) HB3.out.size)
   clear HB0 HB1 HB2 HRb A1 A2 hyA HB3
   go_wp2
   go_loopg [28, 6] l0.length (fun q v28 v6 W' => ∃ (j : Nat) (out : List (List Int)), v28 = .int .i64 j ∧ Aside0 (Kd.S (Kd.slice 3 (Kd.int .i64)) 22 W' w.heap.size (fun _ => True) v6 out) ∧ Aside0 (Below w.heap.size w W') ∧ Aside0 (j ≤ l0.length ∧ q = l0.length - j) ∧ Aside0 (impl_CyclesOfFiles.goI (l0.drop j) j out = r1) ∧ Aside0 (out.length ≤ j ∧ ∀ b ∈ out, b.length ≤ j))
   case atStart => exact ⟨0, [], rfl, HS4, HB4, ⟨⟨Nat.zero_le _, rfl⟩⟩, HRES, ⟨⟨Nat.le_refl _, by simp⟩⟩⟩
   case round =>
    obtain ⟨j, out, rfl, HS, HB, HJ, HG, HO⟩ := hrel
    clear HS4 HB4 HRES
    by_cases c1 : (j : Int) < (l0.length : Int)
    case neg =>
     have c1n : ¬ j < l0.length := by omega
     have c1b := decide_eq_false c1
     have c1d := decide_eq_false c1n
     clear c1
     have hg := HG.out
     rw [List.drop_eq_nil_of_le (by omega)] at hg
     have hS := HS.out
     rw [show out = r1 from hg] at hS
     have HS2 := A_ hS
     clear hg hS HS HG HO
     go_wp2
     go_ret2
     exact ⟨_, rfl, HS2.out, HB.out⟩
    have c1b := decide_eq_true c1
    have c1n : j < l0.length := by omega
    obtain ⟨ad1, e1, hx1⟩ := Kd.at_int (HQ.out _ HB.out) (j : Int) (by omega) (by omega)
    rw [Int.toNat_natCast] at hx1
    have p1 : (0 ≤ (j : Int)) = True := eq_true (by omega)
    have q1 : ((j : Int) < (l0.length : Int)) = True := eq_true c1
    cases e1
    clear c1
    have hg := HG.out
    rw [show l0.drop j = rd l0 (j : Int) :: l0.drop (j + 1) by rw [List.drop_eq_getElem_cons c1n]; congr 1; simp [rd, c1n]] at hg
    have hg : impl_CyclesOfFiles.goI (l0.drop (j + 1)) (j + 1) (if rd l0 (j : Int) = -1 then out ++ [[(j : Int)]] else impl_CyclesOfFiles.stepI out (rd l0 (j : Int)) (j : Int)) = r1 := hg
    generalize rd l0 (j : Int) = x at *
    have hw1 : Aside0 (wrap64 ((j : Int) + 1) = ((j + 1 : Nat) : Int)) := ⟨by have := HL.out; unfold wrap64; omega⟩
    obtain ⟨ol1, ol2⟩ := HO.out
    clear HO HG
    obtain ⟨Al, cl, el⟩ := Kd.S_slice HS.out
    subst el
    by_cases c2 : x = -1
    case pos =>
     rw [if_pos c2] at hg
     obtain ⟨y, hy⟩ : ∃ y, y = [(j : Int)] := ⟨_, rfl⟩
     rw [← hy] at hg
     have HG := A_ hg
     have NY := A_ hy
     have OL1 := A_ ol1
     have OL2 := A_ ol2
     subst c2
     clear hg hy ol1 ol2
     go_wp2_with (first | (refine gd_ 37 ?_; refine Kd.R_lit (Kd.int .i64) _ 3 ?hg (N := 37) ?hd (xs := ([(j : Int)] : List Int)) (inner := [.int .i64 (j : Int)]) (ok := fun _ => True) (okp := fun _ => True) ?hr ?hp (fun _ hk => hk) trivial (Below.refl _ _) (Nat.le_refl _) (by simp) ?_; (case hd => rfl); (case hg => rfl); (case hr => first | (go_simp; done) | (go_simp; rfl)); (case hp => exact (Reps.one (show Kd.M (Kd.int .i64) _ _ _ (j : Int) [.int .i64 (j : Int)] from rfl) (Reps.none _ _))); intro v1 w1 ho1 hb1 hg1 hnew1; clear hg1 hnew1; rw [← NY.out] at ho1; have HS1 := A_ (Kd.S_elder' HS.out (Kd.R_base ho1) hb1); have HR1 := A_ (Kd.R_lower ho1 HB.out.size); have HRB := A_ (Kd.R_base ho1); have HB1 := A_ (below_then HB.out HB.out.size hb1); clear ho1 hb1; obtain ⟨A1, c1, e1⟩ := Kd.R_slice HR1.out; subst e1) | ((with_reducible refine gate_builtin (b := .append) (xs := #[.tmp 35, .tmp 38]) rfl ?_); at_builtin; refine Kd.S_append (Kd.slice 3 (Kd.int .i64)) (w0 := w) w.heap.size rfl (.tmp 35) (.tmp 38) 41 22 (.slice none 0 0) 24 rfl Try.underlying41 info22 rfl (by decide) (by omega) (.slice Al out.length cl) out y [.slice A1 y.length c1] (fun _ => True) (fun k_ => some k_ = (.slice A1 y.length c1 : Value).ownBlock) rfl rfl ?aP ?aK ?aF ?aO ?aB ?aS ?aL ?_; (case aP => exact Kd.M_row (Kd.R_tight rfl HR1.out)); (case aK => exact fun k_ hk => ⟨trivial, fun e_ => by have h1 := HRB.out k_ hk.symm; have h2 := Kd.R_lt (Kd.S_R HS.out) k_ e_.symm; omega⟩); (case aB => exact HB1.out); (case aF => exact (fun _ _ => trivial)); (case aO => exact Kd.S_mono HS1.out (fun k_ hk => ⟨trivial, fun e_ => hk.2 e_⟩)); (case aS => exact HB1.out.size); (case aL => have := OL1.out; have := HL.out; have := HJ.out; omega); intro v2 w2 ho hb hg hat; have HS2 := A_ ho; have HB2 := A_ hb; clear ho hb hg hat))
     go_roundg (l0.length - (j + 1))
     case measure => have := HJ.out; omega
     case rel => exact ⟨j + 1, out ++ [y], by first | rfl | rw [hw1.out] | (congr 1; omega), HS2, HB2, ⟨by omega, rfl⟩, HG, ⟨by rw [List.length_append]; have := OL1.out; simp; omega, fun b hb => by
      rcases List.mem_append.1 hb with hb | hb
      ·
       have := OL2.out b hb; omega
      ·
       rw [List.mem_singleton.1 hb, NY.out]; simp⟩⟩
    rw [if_neg c2] at hg
    have c2b : (x == -1) = false := beq_eq_false_iff_ne.mpr c2
    have HG := A_ hg
    have OL1 := A_ ol1
    have OL2 := A_ ol2
    clear c2 hg ol1 ol2
    go_wp2
    clear hx1
    go_loopg [42] out.length (fun q v42 W' => ∃ (kk : Nat), v42 = .int .i64 kk ∧ Aside0 (Kd.S (Kd.slice 3 (Kd.int .i64)) 22 W' w.heap.size (fun _ => True) (.slice Al out.length cl) out) ∧ Aside0 (Below w.heap.size w W') ∧ Aside0 (out.take kk ++ impl_CyclesOfFiles.stepI (out.drop kk) x (j : Int) = impl_CyclesOfFiles.stepI out x (j : Int)) ∧ Aside0 (kk ≤ out.length ∧ q = out.length - kk))
    case atStart => exact ⟨0, rfl, HS, HB, ⟨rfl⟩, ⟨⟨Nat.zero_le _, rfl⟩⟩⟩
    case round =>
     obtain ⟨kk, rfl, HS2, HB2, HST, HK⟩ := hrel
     clear HS HB
     by_cases c3 : kk < out.length
     case neg =>
      have hkn : kk = out.length := by have := HK.out; omega
      have c3b := decide_eq_false c3
      have c3c : decide ((kk : Int) < (out.length : Int)) = false := decide_eq_false (by omega)
      have hst := HST.out
      rw [hkn, List.take_length, List.drop_length] at hst
      have HST2 := A_ (show out = impl_CyclesOfFiles.stepI out x (j : Int) by simpa [impl_CyclesOfFiles.stepI] using hst)
      clear hst hkn
      go_wp2
      go_roundg (l0.length - (j + 1))
      case measure => have := HJ.out; omega
      case rel => exact ⟨j + 1, out, by first | rfl | rw [hw1.out] | (congr 1; omega), HS2, HB2, ⟨by omega, rfl⟩, ⟨by rw [HST2.out]; exact HG.out⟩, ⟨by have := OL1.out; omega, fun b hb => by have := OL2.out b hb; omega⟩⟩
     have c3b := decide_eq_true c3
     have c3c : decide ((kk : Int) < (out.length : Int)) = true := decide_eq_true (by omega)
     have p3 : (0 ≤ (kk : Int)) = True := eq_true (by omega)
     have q3 : ((kk : Int) < (out.length : Int)) = True := eq_true (by omega)
     have hw3 : Aside0 (wrap64 ((kk : Int) + 1) = ((kk + 1 : Nat) : Int)) := ⟨by have := OL1.out; have := HL.out; unfold wrap64; omega⟩
     obtain ⟨g, cap, eg, hgb, hgl, _, hgc⟩ := Kd.S_form HS2.out (by omega)
     injection eg with eg1 eg2 eg3
     subst eg1
     subst eg3
     obtain ⟨okb, vb, hRb, hcb, hfb, hokb, _, _⟩ := Cap.S_swap HS2.out c3
     have hbl : (out.getD kk []).length ≤ 1000 := by
      rw [List.getD_eq_getElem?_getD, List.getElem?_eq_getElem c3, Option.getD_some]
      have := OL2.out _ (List.getElem_mem c3); have := HL.out; have := HJ.out; omega
     have hmore := impl_CyclesOfFiles.step_more out x (j : Int) kk c3
     have hhere := impl_CyclesOfFiles.step_here out x (j : Int) kk c3
     generalize hbd : out.getD kk [] = b at hRb hbl hmore hhere
     obtain ⟨Ab2, cb2, rfl⟩ := Kd.R_slice hRb
     have HBD := A_ hbd
     have HRB := A_ (Kd.R_reads' hRb).2
     have hix := HIX.out b x hbl
     obtain ⟨ix, hixe⟩ : ∃ ix, ix = impl_CyclesOfFiles.idxI b x 0 := ⟨_, rfl⟩
     have hlt := impl_CyclesOfFiles.idxI_lt b x 0
     have hge := impl_CyclesOfFiles.idxI_ge b x 0
     rw [← hixe] at hix hmore hhere hlt hge
     have HIA := A_ hix
     have HGB := A_ hgb
     have HGL := A_ hgl
     have HBL := A_ hbl
     have HLT := A_ hlt
     clear hRb hokb hfb hgb hgl hgc eg2 hbd hix hixe hbl hlt
     by_cases t5 : 0 ≤ ix
     case neg =>
      have hm := (hmore t5).symm.trans HST.out
      have HST2 := A_ hm
      have t5b : decide (ix ≥ 0) = false := decide_eq_false t5
      have t5c : decide (0 ≤ ix) = false := decide_eq_false t5
      clear hmore hhere hm HST hge t5
      go_wp2_with (first | (go_at_call 133; (with_reducible refine (slices_Index_int_int.calls k Ab2 cb2 b x ix _ HRB.out.2 HRB.out.1 HIA.out).mono ?_); rintro e w1 ⟨rfl, hd⟩; have HBn := A_ (below_then HB2.out HB2.out.size hd.below); have HSn := A_ (Kd.S_below HS2.out hd.below); clear hd))
      go_roundg (out.length - (kk + 1))
      case measure => have := HK.out; omega
      case rel => exact ⟨kk + 1, by first | rfl | rw [hw3.out] | (congr 1; omega), HSn, HBn, HST2, ⟨by omega, rfl⟩⟩
     obtain ⟨a, rfl⟩ : ∃ a : Nat, ix = (a : Int) := ⟨ix.toNat, by omega⟩
     have hh := hhere t5
     rw [Int.toNat_natCast] at hh
     have HRS := A_ (hh.symm.trans HST.out)
     have t5b : decide ((a : Int) ≥ 0) = true := decide_eq_true t5
     have t5c : decide (0 ≤ (a : Int)) = true := decide_eq_true t5
     have ha : a < b.length := by have := HLT.out; omega
     have ha2 : a ≤ 1000 := by have := HBL.out; omega
     clear hmore hhere hh HST hge t5
     go_wp2_with (first | (go_at_call 133; (with_reducible refine (slices_Index_int_int.calls k Ab2 cb2 b x (a : Int) _ HRB.out.2 HRB.out.1 HIA.out).mono ?_); rintro e w1 ⟨rfl, hd⟩; have HBn := A_ (below_then HB2.out HB2.out.size hd.below); have HSn := A_ (Kd.S_below HS2.out hd.below); have hcn := (hd.below.cell (p := ⟨g, kk, none⟩) HGL.out).trans hcb; clear hd) | fail)
     have hbA : Below w1.heap.size w1 (w1.alloc (.cells #[.int .i64 (j : Int)] 3)) := below_alloc (Below.refl _ _) _
     have hsA : (w1.alloc (.cells #[.int .i64 (j : Int)] 3)).heap.size = w1.heap.size + 1 := by simp
     have HSA := A_ (Kd.S_below (Kd.S_mono (ok' := fun k => k ≠ w1.heap.size) (Kd.S_bound HSn.out) (fun k hk => by have := hk.2.2.1; omega)) hbA)
     have hcA := (hbA.cell (p := ⟨g, kk, none⟩) (World.block_lt_of_cell? w1 ⟨g, kk, none⟩ hcn)).trans hcn
     obtain ⟨okN, vN, hRN, hcN, hfN, hokN, hgN, hback⟩ := Cap.S_swap HSA.out c3
     rw [HBD.out] at hRN
     rw [hcN] at hcA
     obtain rfl := Option.some.inj hcA
     have hnew : ¬ okN w1.heap.size := fun hk => (hokN _ hk).1 rfl
     have hcall := slices_Insert_int_int.calls okN (.slice Ab2 b.length cb2) b (a + 1) (j : Int) w.heap.size w1.heap.size (w1.alloc (.cells #[.int .i64 (j : Int)] 3)) (by omega) (by omega) (by have := HBL.out; omega) hRN (blk_new w1 _) hnew
     rw [show ((a + 1 : Nat) : Int) = (a : Int) + 1 by omega] at hcall
     have HBA := A_ (below_then HBn.out HBn.out.size hbA)
     refine hcall.mono ?_
     rintro e w2 ⟨v', rfl, hR', hK', hB'⟩
     obtain ⟨A3, c3', rfl⟩ := Kd.R_slice hR'
     obtain ⟨e1, e2, e3⟩ := hback w2 _ _ hK' hR' (fun k hk => by omega)
     have HB5 := A_ ((hB' w.heap.size w (Nat.le_refl _) HBA.out).setCell (p := ⟨g, kk, none⟩) HGB.out (.slice A3 (Cap.insL b (a + 1) (j : Int)).length c3'))
     rw [HRS.out] at e3
     replace e3 := A_ (Kd.S_mono e3 (ok' := fun _ => True) (fun _ _ => trivial))
     have HSR := A_ (impl_CyclesOfFiles.step_rows x (j : Int) j out OL2.out)
     clear hcall hback hRN hcN hfN hokN hgN hnew hR' hK' hB' hbA hcA hcn HRB HIA hsA
     go_wp2
     go_roundg (l0.length - (j + 1))
     case measure => have := HJ.out; omega
     case rel => exact ⟨j + 1, impl_CyclesOfFiles.stepI out x (j : Int), by first | rfl | rw [hw1.out] | (congr 1; omega), e3, HB5, ⟨by omega, rfl⟩, HG, ⟨by rw [HSR.out.1]; have := OL1.out; omega, HSR.out.2⟩⟩

/-! ### laws_FnExactCyclesOfFiles: function 13 -/
def laws_FnExactCyclesOfFiles.Tests (k : Nat) (l0 : List Int) : Prop := ∃ g0_ : List (List Int), ∃ g1_ : Bool, ∃ m7 : Int, ∃ n7 : List Int, ∃ m9 : Int, ∃ n9 : List (List Int), laws_toIntS.f k l0 = some l0 ∧ spec_CyclesOfFiles.f k l0 = some (g0_, g1_) ∧ impl_CyclesOfFiles.f k l0 = some (g0_, g1_) ∧ laws_eqIntSS.f k g0_ g0_ = some true ∧ laws_eqIntS.f k l0 l0 = some true ∧ 0 ≤ m7 ∧ laws_markIntS.f k l0 1 = some (m7, n7) ∧ 0 ≤ m9 ∧ laws_markIntSS.f k g0_ 1 = some (m9, n9) ∧ laws_heldIntSS.f k n9 1 = some m9
open Classical in
noncomputable def laws_FnExactCyclesOfFiles.f (k : Nat) (l0 : List Int) : Option Bool := if 1048576 < (l0.length : Int) then some true else if laws_FnExactCyclesOfFiles.Tests k l0 then some true else none
theorem laws_FnExactCyclesOfFiles.calls (k : Nat) (A0 : Option Addr) (c0 : Nat) (l0 : List Int) (r : Bool) (w : World) (hr0 : Kd.C (Kd.int .i64) w A0 l0.length l0) (hc0 : l0.length ≤ c0) (h : laws_FnExactCyclesOfFiles.f k l0 = some r) :
  Calls Try.prog 13 #[.slice A0 l0.length c0] w fun e w' => e = .returned (.bool r) ∧ Below w.heap.size w w' := by
 have HB := A_ (Below.refl w.heap.size w)
 have HT := A_ (Nat.le_refl w.heap.size)
 unfold laws_FnExactCyclesOfFiles.f at h
 by_cases cg0 : 1048576 < (l0.length : Int)
 ·
  rw [if_pos cg0] at h
  obtain rfl := Option.some.inj h
  have cgb0 := decide_eq_true cg0
  have cgc0 : decide ((l0.length : Int) > 1048576) = true := decide_eq_true cg0
  clear cg0 h
  go_enter Try.func13, Try.ntmps13
  go_wp2
  go_ret
  exact ⟨rfl, tb_⟩
 ·
  rw [if_neg cg0] at h
  have cgb0 := decide_eq_false cg0
  have cgc0 : decide ((l0.length : Int) > 1048576) = false := decide_eq_false cg0
  clear cg0
  have hT : laws_FnExactCyclesOfFiles.Tests k l0 := by
   refine Classical.byContradiction (fun hT => ?_)
   rw [if_neg hT] at h; cases h
  rw [if_pos hT] at h
  obtain rfl := Option.some.inj h
  clear h
  obtain ⟨g0_, g1_, m7, n7, m9, n9, T0, T1, T2, T3, T4, T5, T6, T7, T8, T9⟩ := hT
  replace T0 := A_ T0
  replace T1 := A_ T1
  replace T2 := A_ T2
  replace T3 := A_ T3
  replace T4 := A_ T4
  have T5b := decide_eq_false (Int.not_lt.mpr T5)
  replace T5 := A_ T5
  replace T6 := A_ T6
  have T7b := decide_eq_false (Int.not_lt.mpr T7)
  replace T7 := A_ T7
  replace T8 := A_ T8
  replace T9 := A_ T9
  have HR0 := A_ hr0
  have HC0 := A_ hc0
  clear hr0 hc0
  go_enter Try.func13, Try.ntmps13
  go_wp2_with (first | (refine gc_ 53 ?_; refine goesL_ (some 18) rfl rfl Try.func53 (by kernel_rfl) rfl #[.slice A0 l0.length c0] rfl (by (try simp only [List.map_toArray, List.map_cons, List.map_nil]); first | done | rfl) ?_; (with_reducible refine (laws_toIntS.calls k A0 c0 l0 l0 _ ?s0 ?s1 T0.out).mono ?_); (case s0 => exact Kd.C_below HR0.out tb_); (case s1 => exact HC0.out); rintro e w_0 ⟨v0_0, rfl, ho0, hb⟩; refine ⟨_, rfl, ?_⟩; obtain ⟨p_0, q_0, hn_, hp_, hq_⟩   := Fn.law_span hb HT.out; have HN_0 := A_ hn_; obtain ⟨A_00, c_00, e_⟩ := Kd.R_slice ho0; subst e_; have HO_00 := A_ (Kd.R_lower (Kd.R_mono (Kd.R_bound ho0) (fun k_ hk_ => (⟨by have := hk_.2.1; omega, by have := hk_.2.2.1; omega⟩ : p_0 ≤ k_ ∧ k_ < q_0))) (below_size tb_)); clear ho0; clear hn_ hp_ HT; have HT := A_ (Nat.le_of_eq hq_); clear hq_; have z_ := A_ (below_step tb_ hb); clear HB; have HB := z_; clear z_ hb) | (refine gc_ 52 ?_; refine goesL_ (some 19) rfl rfl Try.func52 (by kernel_rfl) rfl #[.slice A_00 l0.length c_00] rfl (by (try simp only [List.map_toArray, List.map_cons, List.map_nil]); first | done | rfl) ?_; (with_reducible refine (spec_CyclesOfFiles.calls k A_00 c_00 l0 g0_ g1_ _ ?s0 ?s1 T1.out).mono ?_); (case s0 => exact (Kd.R_reads' (ts2_x HO_00.out)).2.2); (case s1 => (have h1_ := Kd.R_reads' HO_00.out; have h2_ := h1_.1; have h3_ := h1_.2.1; omega)); rintro e w_1 ⟨v1_0, rfl, ho0, hb⟩; refine ⟨_, rfl, ?_⟩; have z_ := A_ (Kd.R_below (ts2_x HO_00.out) hb); clear HO_00; have HO_00 := z_; clear z_; obtain ⟨p_1, q_1, hn_, hp_, hq_⟩   := Fn.law_span hb HT.out; have HN_1 := A_ hn_; obtain ⟨A_10, c_10, e_⟩ := Kd.S_slice ho0; subst e_; have HO_10 := A_ (Kd.S_lower (Kd.S_mono (Kd.S_bound ho0) (fun k_ hk_ => (⟨by have := hk_.2.1; omega, by have := hk_.2.2.1; omega⟩ : p_1 ≤ k_ ∧ k_ < q_1))) (below_size tb_)); clear ho0; clear hn_ hp_ HT; have HT := A_ (Nat.le_of_eq hq_); clear hq_; have z_ := A_ (below_step tb_ hb); clear HB; have HB := z_; clear z_ hb) | (refine gc_ 53 ?_; refine goesL_ (some 23) rfl rfl Try.func53 (by kernel_rfl) rfl #[.slice A0 l0.length c0] rfl (by (try simp only [List.map_toArray, List.map_cons, List.map_nil]); first | done | rfl) ?_; (with_reducible refine (laws_toIntS.calls k A0 c0 l0 l0 _ ?s0 ?s1 T0.out).mono ?_); (case s0 => exact Kd.C_below HR0.out tb_); (case s1 => exact HC0.out); rintro e w_2 ⟨v2_0, rfl, ho0, hb⟩; refine ⟨_, rfl, ?_⟩; have z_ := A_ (Kd.R_below (ts2_x HO_00.out) hb); clear HO_00; have HO_00 := z_; clear z_; have z_ := A_ (Kd.S_below (ts2_x HO_10.out) hb); clear HO_10; have HO_10 := z_; clear z_; obtain ⟨p_2, q_2, hn_, hp_, hq_⟩   := Fn.law_span hb HT.out; have HN_2 := A_ hn_; obtain ⟨A_20, c_20, e_⟩ := Kd.R_slice ho0; subst e_; have HO_20 := A_ (Kd.R_lower (Kd.R_mono (Kd.R_bound ho0) (fun k_ hk_ => (⟨by have := hk_.2.1; omega, by have := hk_.2.2.1; omega⟩ : p_2 ≤ k_ ∧ k_ < q_2))) (below_size tb_)); clear ho0; clear hn_ hp_ HT; have HT := A_ (Nat.le_of_eq hq_); clear hq_; have z_ := A_ (below_step tb_ hb); clear HB; have HB := z_; clear z_ hb) | (refine gc_ 54 ?_; refine goesL_ (some 26) rfl rfl Try.func54 (by kernel_rfl) rfl #[.slice A_20 l0.length c_20] rfl (by (try simp only [List.map_toArray, List.map_cons, List.map_nil]); first | done | rfl) ?_; (with_reducible refine (impl_CyclesOfFiles.calls k A_20 c_20 l0 g0_ g1_ _ ?s0 ?s1 T2.out).mono ?_); (case s0 => exact (Kd.R_reads' (ts2_x HO_20.out)).2.2); (case s1 => (have h1_ := Kd.R_reads' HO_20.out; have h2_ := h1_.1; have h3_ := h1_.2.1; omega)); rintro e w_3 ⟨v3_0, rfl, ho0, hb⟩; refine ⟨_, rfl, ?_⟩; have z_ := A_ (Kd.R_below (ts2_x HO_00.out) hb); clear HO_00; have HO_00 := z_; clear z_; have z_ := A_ (Kd.S_below (ts2_x HO_10.out) hb); clear HO_10; have HO_10 := z_; clear z_; have z_ := A_ (Kd.R_below (ts2_x HO_20.out) hb); clear HO_20; have HO_20 := z_; clear z_; obtain ⟨p_3, q_3, hn_, hp_, hq_⟩   := Fn.law_span hb HT.out; have HN_3 := A_ hn_; obtain ⟨A_30, c_30, e_⟩ := Kd.S_slice ho0; subst e_; have HO_30 := A_ (Kd.S_lower (Kd.S_mono (Kd.S_bound ho0) (fun k_ hk_ => (⟨by have := hk_.2.1; omega, by have := hk_.2.2.1; omega⟩ : p_3 ≤ k_ ∧ k_ < q_3))) (below_size tb_)); clear ho0; clear hn_ hp_ HT; have HT := A_ (Nat.le_of_eq hq_); clear hq_; have z_ := A_ (below_step tb_ hb); clear HB; have HB := z_; clear z_ hb) | (refine gc_ 35 ?_; refine goesL_ (some 31) rfl rfl Try.func35 (by kernel_rfl) rfl #[.slice A_30 g0_.length c_30, .slice A_10 g0_.length c_10] rfl (by (try simp only [List.map_toArray, List.map_cons, List.map_nil]); first | done | rfl) ?_; (with_reducible refine (laws_eqIntSS.calls k A_30 c_30 g0_ A_10 c_10 g0_ true _ ?s0 ?s1 ?s2 ?s3 T3.out).mono ?_); (case s0 => exact (Kd.S_reads' (ts2_x HO_30.out)).2.2); (case s1 => (have h1_ := Kd.S_reads' HO_30.out; have h2_ := h1_.1; have h3_ := h1_.2.1; omega)); (case s2 => exact (Kd.S_reads' (ts2_x HO_10.out)).2.2); (case s3 => (have h1_ := Kd.S_reads' HO_10.out; have h2_ := h1_.1; have h3_ := h1_.2.1; omega)); rintro e w' ⟨rfl, ⟨nd_4, rfl⟩⟩; refine ⟨_, rfl, ?_⟩) | (refine gc_ 53 ?_; refine goesL_ (some 40) rfl rfl Try.func53 (by kernel_rfl) rfl #[.slice A0 l0.length c0] rfl (by (try simp only [List.map_toArray, List.map_cons, List.map_nil]); first | done | rfl) ?_; (with_reducible refine (laws_toIntS.calls k A0 c0 l0 l0 _ ?s0 ?s1 T0.out).mono ?_); (case s0 => exact Kd.C_below HR0.out tb_); (case s1 => exact HC0.out); rintro e w_5 ⟨v5_0, rfl, ho0, hb⟩; refine ⟨_, rfl, ?_⟩; have z_ := A_ (Kd.R_below (ts2_x HO_00.out) hb); clear HO_00; have HO_00 := z_; clear z_; have z_ := A_ (Kd.S_below (ts2_x HO_10.out) hb); clear HO_10; have HO_10 := z_; clear z_; have z_ := A_ (Kd.R_below (ts2_x HO_20.out) hb); clear HO_20; have HO_20 := z_; clear z_; have z_ := A_ (Kd.S_below (ts2_x HO_30.out) hb); clear HO_30; have HO_30 := z_; clear z_; obtain ⟨p_5, q_5, hn_, hp_, hq_⟩   := Fn.law_span hb HT.out; have HN_5 := A_ hn_; obtain ⟨A_50, c_50, e_⟩ := Kd.R_slice ho0; subst e_; have HO_50 := A_ (Kd.R_lower (Kd.R_mono (Kd.R_bound ho0) (fun k_ hk_ => (⟨by have := hk_.2.1; omega, by have := hk_.2.2.1; omega⟩ : p_5 ≤ k_ ∧ k_ < q_5))) (below_size tb_)); clear ho0; clear hn_ hp_ HT; have HT := A_ (Nat.le_of_eq hq_); clear hq_; have z_ := A_ (below_step tb_ hb); clear HB; have HB := z_; clear z_ hb) | (refine gc_ 28 ?_; refine goesL_ (some 41) rfl rfl Try.func28 (by kernel_rfl) rfl #[.slice A_20 l0.length c_20, .slice A_50 l0.length c_50] rfl (by (try simp only [List.map_toArray, List.map_cons, List.map_nil]); first | done | rfl) ?_; (with_reducible refine (laws_eqIntS.calls k A_20 c_20 l0 A_50 c_50 l0 true _ ?s0 ?s1 ?s2 ?s3 T4.out).mono ?_); (case s0 => exact (Kd.R_reads' (ts2_x HO_20.out)).2.2); (case s1 => (have h1_ := Kd.R_reads' HO_20.out; have h2_ := h1_.1; have h3_ := h1_.2.1; omega)); (case s2 => exact (Kd.R_reads' (ts2_x HO_50.out)).2.2); (case s3 => (have h1_ := Kd.R_reads' HO_50.out; have h2_ := h1_.1; have h3_ := h1_.2.1; omega)); rintro e w' ⟨rfl, ⟨nd_6, rfl⟩⟩; refine ⟨_, rfl, ?_⟩) | (refine gc_ 29 ?_; refine goesL_ (some 45) rfl rfl Try.func29 (by kernel_rfl) rfl #[.slice A_20 l0.length c_20, .int .i64 1] rfl (by (try simp only [List.map_toArray, List.map_cons, List.map_nil]); first | done | rfl) ?_; (with_reducible refine (laws_markIntS.calls k (fun k_ => p_2 ≤ k_ ∧ k_ < q_2) (.slice A_20 l0.length c_20) l0 1 m7 n7 w _ ?s0 ?s1 T6.out).mono ?_); (case s0 => exact tb_); (case s1 => exact (ts2_x HO_20.out)); rintro e w_7 ⟨rfl, ho0, hb, hkp⟩; refine ⟨_, rfl, ?_⟩; have z_ := A_ (Kd.S_step (ts2_x HO_10.out) (fun k_ hk_ hlt_ => hkp.2 k_ hlt_ (fun h_ => by have := HN_0.out; have := HN_1.out; have := HN_2.out; have := HN_3.out; have := HN_5.out; obtain ⟨_, _⟩ := hk_; obtain ⟨_, _⟩ := h_; omega))); clear HO_10; have HO_10 := z_; clear z_; have z_ := A_ (Kd.S_step (ts2_x HO_30.out) (fun k_ hk_ hlt_ => hkp.2 k_ hlt_ (fun h_ => by have := HN_0.out; have := HN_1.out; have := HN_2.out; have := HN_3.out; have := HN_5.out; obtain ⟨_, _⟩ := hk_; obtain ⟨_, _⟩ := h_; omega))); clear HO_30; have HO_30 := z_; clear z_; clear ho0; have z_ := A_ (Nat.le_trans HT.out hkp.1); clear HT; have HT := z_; clear z_; clear HB; have HB := A_ hb; clear hb hkp) | (go_at_call 35; (with_reducible refine (laws_eqIntSS.calls k A_30 c_30 g0_ A_10 c_10 g0_ true _ ?s0 ?s1 ?s2 ?s3 T3.out).mono ?_); (case s0 => exact (Kd.S_reads' (ts2_x HO_30.out)).2.2); (case s1 => (have h1_ := Kd.S_reads' HO_30.out; have h2_ := h1_.1; have h3_ := h1_.2.1; omega)); (case s2 => exact (Kd.S_reads' (ts2_x HO_10.out)).2.2); (case s3 => (have h1_ := Kd.S_reads' HO_10.out; have h2_ := h1_.1; have h3_ := h1_.2.1; omega)); rintro e w' ⟨rfl, ⟨nd_8, rfl⟩⟩) | (refine gc_ 36 ?_; refine goesL_ (some 61) rfl rfl Try.func36 (by kernel_rfl) rfl #[.slice A_30 g0_.length c_30, .int .i64 1] rfl (by (try simp only [List.map_toArray, List.map_cons, List.map_nil]); first | done | rfl) ?_; (with_reducible refine (laws_markIntSS.calls k (fun k_ => p_3 ≤ k_ ∧ k_ < q_3) (.slice A_30 g0_.length c_30) g0_ 1 m9 n9 w _ ?s0 ?s1 T8.out).mono ?_); (case s0 => exact tb_); (case s1 => exact (ts2_x HO_30.out)); rintro e w_9 ⟨rfl, ho0, hb, hkp⟩; refine ⟨_, rfl, ?_⟩; have z_ := A_ (Kd.S_step (ts2_x HO_10.out) (fun k_ hk_ hlt_ => hkp.2 k_ hlt_ (fun h_ => by have := HN_0.out; have := HN_1.out; have := HN_2.out; have := HN_3.out; have := HN_5.out; obtain ⟨_, _⟩ := hk_; obtain ⟨_, _⟩ := h_; omega))); clear HO_10; have HO_10 := z_; clear z_; clear HO_30; have HO_30 := A_ ho0; clear ho0; have e_ := (Kd.S_reads' HO_30.out).1; have HO_30E := A_ e_; clear e_; have z_ := A_ (Nat.le_trans HT.out hkp.1); clear HT; have HT := z_; clear z_; clear HB; have HB := A_ hb; clear hb hkp) | (refine gc_ 37 ?_; refine goesL_ (some 64) rfl rfl Try.func37 (by kernel_rfl) rfl #[.slice A_30 n9.length c_30, .int .i64 1] rfl (by (try simp only [List.map_toArray, List.map_cons, List.map_nil]); first | done | (rw [← HO_30E.out] <;> rfl) | rfl) ?_; (with_reducible refine (laws_heldIntSS.calls k A_30 c_30 n9 1 m9 _ ?s0 ?s1 T9.out).mono ?_); (case s0 => exact (Kd.S_reads' (ts2_x HO_30.out)).2.2); (case s1 => (have h1_ := Kd.S_reads' HO_30.out; have h2_ := h1_.1; have h3_ := h1_.2.1; omega)); rintro e w' ⟨rfl, ⟨nd_10, rfl⟩⟩; refine ⟨_, rfl, ?_⟩) | (refine gc_ 53 ?_; refine goesL_ (some 72) rfl rfl Try.func53 (by kernel_rfl) rfl #[.slice A0 l0.length c0] rfl (by (try simp only [List.map_toArray, List.map_cons, List.map_nil]); first | done | (rw [← HO_30E.out] <;> rfl) | rfl) ?_; (with_reducible refine (laws_toIntS.calls k A0 c0 l0 l0 _ ?s0 ?s1 T0.out).mono ?_); (case s0 => exact Kd.C_below HR0.out tb_); (case s1 => exact HC0.out); rintro e w_11 ⟨v11_0, rfl, ho0, hb⟩; refine ⟨_, rfl, ?_⟩; have z_ := A_ (Kd.S_below (ts2_x HO_10.out) hb); clear HO_10; have HO_10 := z_; clear z_; have z_ := A_ (Kd.S_below (ts2_x HO_30.out) hb); clear HO_30; have HO_30 := z_; clear z_; obtain ⟨p_11, q_11, hn_, hp_, hq_⟩   := Fn.law_span hb HT.out; have HN_11 := A_ hn_; obtain ⟨A_110, c_110, e_⟩ := Kd.R_slice ho0; subst e_; have HO_110 := A_ (Kd.R_lower (Kd.R_mono (Kd.R_bound ho0) (fun k_ hk_ => (⟨by have := hk_.2.1; omega, by have := hk_.2.2.1; omega⟩ : p_11 ≤ k_ ∧ k_ < q_11))) (below_size tb_)); clear ho0; clear hn_ hp_ HT; have HT := A_ (Nat.le_of_eq hq_); clear hq_; have z_ := A_ (below_step tb_ hb); clear HB; have HB := z_; clear z_ hb) | (refine gc_ 54 ?_; refine goesL_ (some 73) rfl rfl Try.func54 (by kernel_rfl) rfl #[.slice A_110 l0.length c_110] rfl (by (try simp only [List.map_toArray, List.map_cons, List.map_nil]); first | done | (rw [← HO_30E.out] <;> rfl) | rfl) ?_; (with_reducible refine (impl_CyclesOfFiles.calls k A_110 c_110 l0 g0_ g1_ _ ?s0 ?s1 T2.out).mono ?_); (case s0 => exact (Kd.R_reads' (ts2_x HO_110.out)).2.2); (case s1 => (have h1_ := Kd.R_reads' HO_110.out; have h2_ := h1_.1; have h3_ := h1_.2.1; omega)); rintro e w_12 ⟨v12_0, rfl, ho0, hb⟩; refine ⟨_, rfl, ?_⟩; have z_ := A_ (Kd.S_below (ts2_x HO_10.out) hb); clear HO_10; have HO_10 := z_; clear z_; have z_ := A_ (Kd.S_below (ts2_x HO_30.out) hb); clear HO_30; have HO_30 := z_; clear z_; have z_ := A_ (Kd.R_below (ts2_x HO_110.out) hb); clear HO_110; have HO_110 := z_; clear z_; obtain ⟨p_12, q_12, hn_, hp_, hq_⟩   := Fn.law_span hb HT.out; have HN_12 := A_ hn_; obtain ⟨A_120, c_120, e_⟩ := Kd.S_slice ho0; subst e_; have HO_120 := A_ (Kd.S_lower (Kd.S_mono (Kd.S_bound ho0) (fun k_ hk_ => (⟨by have := hk_.2.1; omega, by have := hk_.2.2.1; omega⟩ : p_12 ≤ k_ ∧ k_ < q_12))) (below_size tb_)); clear ho0; clear hn_ hp_ HT; have HT := A_ (Nat.le_of_eq hq_); clear hq_; have z_ := A_ (below_step tb_ hb); clear HB; have HB := z_; clear z_ hb) | (refine gc_ 35 ?_; refine goesL_ (some 78) rfl rfl Try.func35 (by kernel_rfl) rfl #[.slice A_120 g0_.length c_120, .slice A_10 g0_.length c_10] rfl (by (try simp only [List.map_toArray, List.map_cons, List.map_nil]); first | done | (rw [← HO_30E.out] <;> rfl) | rfl) ?_; (with_reducible refine (laws_eqIntSS.calls k A_120 c_120 g0_ A_10 c_10 g0_ true _ ?s0 ?s1 ?s2 ?s3 T3.out).mono ?_); (case s0 => exact (Kd.S_reads' (ts2_x HO_120.out)).2.2); (case s1 => (have h1_ := Kd.S_reads' HO_120.out; have h2_ := h1_.1; have h3_ := h1_.2.1; omega)); (case s2 => exact (Kd.S_reads' (ts2_x HO_10.out)).2.2); (case s3 => (have h1_ := Kd.S_reads' HO_10.out; have h2_ := h1_.1; have h3_ := h1_.2.1; omega)); rintro e w' ⟨rfl, ⟨nd_13, rfl⟩⟩; refine ⟨_, rfl, ?_⟩) | (refine gc_ 37 ?_; refine goesL_ (some 87) rfl rfl Try.func37 (by kernel_rfl) rfl #[.slice A_30 n9.length c_30, .int .i64 1] rfl (by (try simp only [List.map_toArray, List.map_cons, List.map_nil]); first | done | (rw [← HO_30E.out] <;> rfl) | rfl) ?_; (with_reducible refine (laws_heldIntSS.calls k A_30 c_30 n9 1 m9 _ ?s0 ?s1 T9.out).mono ?_); (case s0 => exact (Kd.S_reads' (ts2_x HO_30.out)).2.2); (case s1 => (have h1_ := Kd.S_reads' HO_30.out; have h2_ := h1_.1; have h3_ := h1_.2.1; omega)); rintro e w' ⟨rfl, ⟨nd_14, rfl⟩⟩; refine ⟨_, rfl, ?_⟩))
  go_ret
  exact ⟨by first | rfl | (simp <;> rfl), tb_⟩

/-- THE ONE PURE STATEMENT of laws_FnExactCyclesOfFiles: yours. -/
def laws_FnExactCyclesOfFiles.Pure : Prop := ∀ (l0 : List Int), l0.length ≤ maxLen → l0.length * 8 ≤ 140737488351232 → (∀ x ∈ l0, (Lit.int .i64 x).wf = true) → ∃ k, laws_FnExactCyclesOfFiles.f k l0 = some true
theorem laws_FnExactCyclesOfFiles.walk (P : laws_FnExactCyclesOfFiles.Pure) (a0 : Option Addr) (len0 cap0 : Nat) (z0 : List Int) (w : World) (w0 : (a0 = none ∧ len0 = 0 ∧ cap0 = 0 ∧ z0 = []) ∨ ∃ x, a0 = some x ∧ len0 ≤ cap0 ∧ cap0 ≤ maxLen ∧ z0.length = cap0 ∧ (∀ i, i < z0.length → w.cell? (x.add i) = some (.int .i64 (z0.getD i 0))) ∧ ∀ n ∈ z0, (Lit.int .i64 n).wf = true) (y0 : len0 * 8 ≤ 140737488351232) :
  Calls Try.prog 13 #[.slice a0 len0 cap0] w fun e w' => e = .returned (.bool true) ∧ Below w.heap.size w w' := by
 obtain ⟨l0, rfl, hr0, hm0, hw0, hc0⟩ := ReadsInt.ofRowC w0
 obtain ⟨k, h⟩ := P l0 hm0 y0 hw0
 refine (laws_FnExactCyclesOfFiles.calls k _ _ l0 true w (Kd.C_of_reads (d := (0 : Int)) (h1 := fun _ => rfl) hr0) hc0 h).mono ?_
 rintro e w' ⟨rfl, hd⟩
 exact ⟨rfl, hd⟩

end
end Go.Proofs.Ythlcaikplebpmaa.P
