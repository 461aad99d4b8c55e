-- printed functions (wip/slim.py)
import Derived.Test.YthlcaikplebpmaaPx0
import Derived.Test.YthlcaikplebpmaaIs
import Derived.Test.YthlcaikplebpmaaKn
import Derived.Test.YthlcaikplebpmaaQ189f40801e
import Derived.Test.YthlcaikplebpmaaQ1e97019e3e
import Derived.Test.YthlcaikplebpmaaQ9d9c7c2b41
namespace Go.Proofs.Ythlcaikplebpmaa.P
noncomputable section
set_option maxHeartbeats 8000000
set_option maxRecDepth 100000
open Go.RowKit Go.Proofs.YthlcaikplebpmaaW.PrintWords Go.Proofs.YthlcaikplebpmaaW.PrintLast Go.Proofs.YthlcaikplebpmaaW.PrintMore
attribute [local go_sem] max2_int min2_int max_two min_two max_three min_three max_four min_four   -- for this text's walks alone
set_option linter.unusedVariables false
set_option linter.unusedSimpArgs false

/-! ### spec_CyclesOfFiles: function 52 -/
def spec_CyclesOfFiles.rowK (b : List Int) (x j : Int) : Nat → List Int
 | 0 => b
 | a + 1 => if b.getD a 0 = x then Cap.insL b (a + 1) j else spec_CyclesOfFiles.rowK b x j a
def spec_CyclesOfFiles.mapK (out : List (List Int)) (x j : Int) (k : Nat) : List (List Int) := (List.range out.length).map fun q => if q < k then spec_CyclesOfFiles.rowK (out.getD q []) x j (out.getD q []).length else out.getD q []
def spec_CyclesOfFiles.goS : List Int → Nat → List (List Int) → List (List Int)
 | [], _, out => out
 | x :: l, j, out => spec_CyclesOfFiles.goS l (j + 1) (if x < 0 then out ++ [[(j : Int)]] else spec_CyclesOfFiles.mapK out x j out.length)
def spec_CyclesOfFiles.f (k : Nat) (l0 : List Int) : Option (List (List Int) × Bool) := (spec_fiThings.f (l0.length : Int)).bind fun t => if t = true then ((spec_fiArrow.f k (l0.length : Int)).bind fun b => ((spec_fiGood.f k b.1 b.2.1 b.2.2 l0).bind fun g => if g = true then (if l0.length ≤ 1000 then some (spec_CyclesOfFiles.goS l0 0 [], true) else none) else some ([], false))) else some ([], false)
theorem spec_CyclesOfFiles.mono : ∀ a0 k, LeO (spec_CyclesOfFiles.f k a0) (spec_CyclesOfFiles.f (k + 1) a0) := fun a0 k => by
 unfold spec_CyclesOfFiles.f
 refine LeO.bind (LeO.refl _) (fun _ => ?_)
 refine LeO.ite ?_ (LeO.refl _)
 refine LeO.bind (spec_fiArrow.mono _ _) (fun _ => ?_)
 exact LeO.bind (spec_fiGood.mono _ _ _ _ _) (fun _ => LeO.refl _)
theorem spec_CyclesOfFiles.rowK_len (b : List Int) (x j : Int) : ∀ a, a ≤ b.length → (spec_CyclesOfFiles.rowK b x j a).length ≤ b.length + 1
 | 0, _ => Nat.le_succ _
 | a + 1, h => by
  rw [spec_CyclesOfFiles.rowK]
  split
  ·
   rw [Cap.insL_len _ _ _ h]; exact Nat.le_refl _
  ·
   exact rowK_len b x j a (by omega)
theorem spec_CyclesOfFiles.mapK_len (out : List (List Int)) (x j : Int) (k : Nat) : (spec_CyclesOfFiles.mapK out x j k).length = out.length := by simp [spec_CyclesOfFiles.mapK]
theorem spec_CyclesOfFiles.mapK_zero (out : List (List Int)) (x j : Int) : spec_CyclesOfFiles.mapK out x j 0 = out := by
 refine List.ext_getElem (by simp [spec_CyclesOfFiles.mapK]) (fun i h1 h2 => ?_)
 simp [spec_CyclesOfFiles.mapK, List.getD_eq_getElem?_getD, List.getElem?_eq_getElem h2]
theorem spec_CyclesOfFiles.mapK_get (out : List (List Int)) (x j : Int) (k : Nat) : (spec_CyclesOfFiles.mapK out x j k).getD k [] = out.getD k [] := by
 unfold spec_CyclesOfFiles.mapK
 rw [List.getD_eq_getElem?_getD, List.getElem?_map]
 cases h : (List.range out.length)[k]? with
 | none =>
  have hl : out.length ≤ k := by simpa using h
  rw [List.getD_eq_getElem?_getD, List.getElem?_eq_none hl]; rfl
 | some y =>
  obtain ⟨h1, h2⟩ := List.getElem?_eq_some_iff.1 h
  rw [List.getElem_range] at h2
  subst h2
  simp
theorem spec_CyclesOfFiles.mapK_put (out : List (List Int)) (x j : Int) (k : Nat) (h : k < out.length) : (spec_CyclesOfFiles.mapK out x j k).set k (spec_CyclesOfFiles.rowK (out.getD k []) x j (out.getD k []).length) = spec_CyclesOfFiles.mapK out x j (k + 1) := by
 unfold spec_CyclesOfFiles.mapK
 refine List.ext_getElem (by simp) (fun q h1 h2 => ?_)
 rw [List.getElem_set]
 simp only [List.getElem_map, List.getElem_range]
 by_cases e : k = q
 ·
  subst e
  simp
 ·
  have e2 : (q < k + 1) = (q < k) := propext (by omega)
  simp only [if_neg e, e2]
theorem spec_CyclesOfFiles.mapK_set (out : List (List Int)) (x j : Int) (k : Nat) : (spec_CyclesOfFiles.mapK out x j k).set k (spec_CyclesOfFiles.rowK (out.getD k []) x j 0) = spec_CyclesOfFiles.mapK out x j k := by
 refine List.ext_getElem (by simp) (fun q h1 h2 => ?_)
 rw [List.getElem_set]
 split
 ·
  rename_i e
  subst e
  have := spec_CyclesOfFiles.mapK_get out x j k
  rw [List.getD_eq_getElem?_getD, List.getElem?_eq_getElem h2, Option.getD_some] at this
  exact this.symm
 ·
  rfl
theorem spec_CyclesOfFiles.mapK_rows (out : List (List Int)) (x j : Int) (k m : Nat) (h : ∀ b ∈ out, b.length ≤ m) : ∀ b ∈ spec_CyclesOfFiles.mapK out x j k, b.length ≤ m + 1 := by
 intro b hb
 obtain ⟨q, hq, rfl⟩ := List.mem_map.1 hb
 have hq := List.mem_range.1 hq
 have hm : (out.getD q []).length ≤ m := by
  rw [List.getD_eq_getElem?_getD, List.getElem?_eq_getElem hq, Option.getD_some]
  exact h _ (List.getElem_mem hq)
 split
 ·
  have := spec_CyclesOfFiles.rowK_len (out.getD q []) x j _ (Nat.le_refl _); omega
 ·
  omega
theorem spec_CyclesOfFiles.calls (k : Nat) (A0 : Option Addr) (c0 : Nat) (l0 : List Int) (r1 : List (List Int)) (r2 : Bool) (w : World) (hr0 : Kd.C (Kd.int .i64) w A0 l0.length l0) (hc0 : l0.length ≤ c0) (h : spec_CyclesOfFiles.f k l0 = some (r1, r2)) :
  Calls Try.prog 52 #[.slice A0 l0.length c0] w fun e w' => ∃ v0_ : Value, e = .returned (.tuple #[v0_, .bool r2]) ∧ Kd.S (Kd.slice 3 (Kd.int .i64)) 22 w' w.heap.size (fun _ => True) v0_ r1 ∧ Below w.heap.size w w' := by
 have HR0 := A_ hr0
 have HC0 := A_ hc0
 clear hr0 hc0
 unfold spec_CyclesOfFiles.f at h
 obtain ⟨t, A1, H⟩ := Option.bind_eq_some_iff.mp h
 clear h
 replace A1 := A_ A1
 have HB0 := A_ (Below.refl w.heap.size w)
 cases t with
 | false =>
  simp only [Bool.false_eq_true, if_false, Option.some.injEq, Prod.mk.injEq] at H
  obtain ⟨rfl, rfl⟩ := H
  go_enter Try.func52, Try.ntmps52
  go_wp2_with (first | (go_at_call 128; (with_reducible refine (spec_fiThings.calls _ false _ A1.out).mono ?_); rintro e w1 ⟨rfl, hd⟩; have HB1 := A_ (below_then HB0.out HB0.out.size hd.below); clear hd))
  go_ret2
  exact ⟨_, rfl, Kd.S_nil _ _ _ _ _, HB1.out⟩
 | true =>
  rw [if_pos rfl] at H
  obtain ⟨⟨b1, b2, b3⟩, A2, H⟩ := Option.bind_eq_some_iff.mp H
  obtain ⟨g, A3, H⟩ := Option.bind_eq_some_iff.mp H
  replace A2 := A_ A2
  replace A3 := A_ A3
  have HQ : Aside0 (∀ w1, Below w.heap.size w w1 → Kd.C (Kd.int .i64) w1 A0 l0.length l0) := ⟨fun w1 hb => Kd.C_below HR0.out hb⟩
  cases g with
  | false =>
   simp only [Bool.false_eq_true, if_false, Option.some.injEq, Prod.mk.injEq] at H
   obtain ⟨rfl, rfl⟩ := H
   go_enter Try.func52, Try.ntmps52
   go_wp2_with (first | (go_at_call 128; (with_reducible refine (spec_fiThings.calls _ true _ A1.out).mono ?_); rintro e w1 ⟨rfl, hd⟩; have HB1 := A_ (below_then HB0.out HB0.out.size hd.below); clear hd) | (go_at_call 130; (with_reducible refine (spec_fiArrow.calls k _ b1 b2 b3 _ A2.out).mono ?_); rintro e w2 ⟨vb, rfl, hR, hb⟩; obtain ⟨Ab, cb, eb⟩ := Kd.R_slice hR; subst eb; have HRb := A_ (Kd.R_reads' hR).2; have HB2 := A_ (below_then HB1.out HB1.out.size hb); clear hR hb) | (go_at_call 129; (with_reducible refine (spec_fiGood.calls k b1 b2 Ab cb b3 A0 c0 l0 false _ HRb.out.2 HRb.out.1 (HQ.out _ HB2.out) HC0.out A3.out).mono ?_); rintro e w3 ⟨rfl, hb⟩; have HB3 := A_ (below_then HB2.out HB2.out.size hb); clear hb))
   go_ret2
   exact ⟨_, rfl, Kd.S_nil _ _ _ _ _, HB3.out⟩
  | true =>
   rw [if_pos rfl] at H
   by_cases hl : l0.length ≤ 1000
   case neg =>
    rw [if_neg hl] at H
    exact absurd H (by simp)
   rw [if_pos hl] at H
   obtain ⟨e1, rfl⟩ := Prod.mk.inj (Option.some.inj H)
   have HRES := A_ e1
   clear H e1
   have HL := A_ hl
   clear hl
   go_enter Try.func52, Try.ntmps52
   go_wp2_with (first | (go_at_call 128; (with_reducible refine (spec_fiThings.calls _ true _ A1.out).mono ?_); rintro e w1 ⟨rfl, hd⟩; have HB1 := A_ (below_then HB0.out HB0.out.size hd.below); clear hd) | (go_at_call 130; (with_reducible refine (spec_fiArrow.calls k _ b1 b2 b3 _ A2.out).mono ?_); rintro e w2 ⟨vb, rfl, hR, hb⟩; obtain ⟨Ab, cb, eb⟩ := Kd.R_slice hR; subst eb; have HRb := A_ (Kd.R_reads' hR).2; have HB2 := A_ (below_then HB1.out HB1.out.size hb); clear hR hb) | (go_at_call 129; (with_reducible refine (spec_fiGood.calls k b1 b2 Ab cb b3 A0 c0 l0 true _ HRb.out.2 HRb.out.1 (HQ.out _ HB2.out) HC0.out A3.out).mono ?_); rintro e w3 ⟨rfl, hb⟩; have HB3 := A_ (below_then HB2.out HB2.out.size hb); clear hb))
   clear HB0 HB1 HB2 HRb A1 A2 A3
   go_loopg [26, 4] l0.length (fun q v26 v4 W' => ∃ (j : Nat) (out : List (List Int)), v26 = .int .i64 j ∧ Aside0 (Kd.S (Kd.slice 3 (Kd.int .i64)) 22 W' w.heap.size (fun _ => True) v4 out) ∧ Aside0 (Below w.heap.size w W') ∧ Aside0 (j ≤ l0.length ∧ q = l0.length - j) ∧ Aside0 (spec_CyclesOfFiles.goS (l0.drop j) j out = r1) ∧ Aside0 (out.length ≤ j ∧ ∀ b ∈ out, b.length ≤ j))
   case atStart => exact ⟨0, [], rfl, ⟨Kd.S_nil _ _ _ _ _⟩, HB3, ⟨⟨Nat.zero_le _, rfl⟩⟩, HRES, ⟨⟨Nat.le_refl _, by simp⟩⟩⟩
   case round =>
    obtain ⟨j, out, rfl, HS, HB, HJ, HG, HO⟩ := hrel
    clear HB3 HRES
    by_cases c1 : (j : Int) < (l0.length : Int)
    case neg =>
     have c1n : ¬ j < l0.length := by omega
     have c1b := decide_eq_false c1
     have c1d := decide_eq_false c1n
     clear c1
     have hg := HG.out
     rw [List.drop_eq_nil_of_le (by omega)] at hg
     have hS := HS.out
     rw [show out = r1 from hg] at hS
     have HS2 := A_ hS
     clear hg hS HS HG HO
     go_wp2
     go_ret2
     exact ⟨_, rfl, HS2.out, HB.out⟩
    have c1b := decide_eq_true c1
    have c1n : j < l0.length := by omega
    obtain ⟨ad1, e1, hx1⟩ := Kd.at_int (HQ.out _ HB.out) (j : Int) (by omega) (by omega)
    rw [Int.toNat_natCast] at hx1
    have p1 : (0 ≤ (j : Int)) = True := eq_true (by omega)
    have q1 : ((j : Int) < (l0.length : Int)) = True := eq_true c1
    cases e1
    clear c1
    have hg := HG.out
    rw [show l0.drop j = rd l0 (j : Int) :: l0.drop (j + 1) by rw [List.drop_eq_getElem_cons c1n]; congr 1; simp [rd, c1n]] at hg
    have hg : spec_CyclesOfFiles.goS (l0.drop (j + 1)) (j + 1) (if rd l0 (j : Int) < 0 then out ++ [[(j : Int)]] else spec_CyclesOfFiles.mapK out (rd l0 (j : Int)) (j : Int) out.length) = r1 := hg
    generalize rd l0 (j : Int) = x at *
    have hw1 : Aside0 (wrap64 ((j : Int) + 1) = ((j + 1 : Nat) : Int)) := ⟨by have := HL.out; unfold wrap64; omega⟩
    obtain ⟨ol1, ol2⟩ := HO.out
    clear HO HG
    obtain ⟨Al, cl, el⟩ := Kd.S_slice HS.out
    subst el
    by_cases c2 : x < 0
    case pos =>
     rw [if_pos c2] at hg
     have c2b := decide_eq_true c2
     obtain ⟨y, hy⟩ : ∃ y, y = [(j : Int)] := ⟨_, rfl⟩
     rw [← hy] at hg
     have HG := A_ hg
     have NY := A_ hy
     have OL1 := A_ ol1
     have OL2 := A_ ol2
     clear c2 hg hy ol1 ol2
     go_wp2_with (first | (refine gd_ 35 ?_; refine Kd.R_lit (Kd.int .i64) _ 3 ?hg (N := 35) ?hd (xs := ([(j : Int)] : List Int)) (inner := [.int .i64 (j : Int)]) (ok := fun _ => True) (okp := fun _ => True) ?hr ?hp (fun _ hk => hk) trivial (Below.refl _ _) (Nat.le_refl _) (by simp) ?_; (case hd => rfl); (case hg => rfl); (case hr => first | (go_simp; done) | (go_simp; rfl)); (case hp => exact (Reps.one (show Kd.M (Kd.int .i64) _ _ _ (j : Int) [.int .i64 (j : Int)] from rfl) (Reps.none _ _))); intro v1 w1 ho1 hb1 hg1 hnew1; clear hg1 hnew1; rw [← NY.out] at ho1; have HS1 := A_ (Kd.S_elder' HS.out (Kd.R_base ho1) hb1); have HR1 := A_ (Kd.R_lower ho1 HB.out.size); have HRB := A_ (Kd.R_base ho1); have HB1 := A_ (below_then HB.out HB.out.size hb1); clear ho1 hb1; obtain ⟨A1, c1, e1⟩ := Kd.R_slice HR1.out; subst e1) | ((with_reducible refine gate_builtin (b := .append) (xs := #[.tmp 33, .tmp 36]) rfl ?_); at_builtin; refine Kd.S_append (Kd.slice 3 (Kd.int .i64)) (w0 := w) w.heap.size rfl (.tmp 33) (.tmp 36) 41 22 (.slice none 0 0) 24 rfl Try.underlying41 info22 rfl (by decide) (by omega) (.slice Al out.length cl) out y [.slice A1 y.length c1] (fun _ => True) (fun k_ => some k_ = (.slice A1 y.length c1 : Value).ownBlock) rfl rfl ?aP ?aK ?aF ?aO ?aB ?aS ?aL ?_; (case aP => exact Kd.M_row (Kd.R_tight rfl HR1.out)); (case aK => exact fun k_ hk => ⟨trivial, fun e_ => by have h1 := HRB.out k_ hk.symm; have h2 := Kd.R_lt (Kd.S_R HS.out) k_ e_.symm; omega⟩); (case aB => exact HB1.out); (case aF => exact (fun _ _ => trivial)); (case aO => exact Kd.S_mono HS1.out (fun k_ hk => ⟨trivial, fun e_ => hk.2 e_⟩)); (case aS => exact HB1.out.size); (case aL => have := OL1.out; have := HL.out; have := HJ.out; omega); intro v2 w2 ho hb hg hat; have HS2 := A_ ho; have HB2 := A_ hb; clear ho hb hg hat))
     go_roundg (l0.length - (j + 1))
     case measure => have := HJ.out; omega
     case rel => exact ⟨j + 1, out ++ [y], by first | rfl | rw [hw1.out] | (congr 1; omega), HS2, HB2, ⟨by omega, rfl⟩, HG, ⟨by rw [List.length_append]; have := OL1.out; simp; omega, fun b hb => by
      rcases List.mem_append.1 hb with hb | hb
      ·
       have := OL2.out b hb; omega
      ·
       rw [List.mem_singleton.1 hb, NY.out]; simp⟩⟩
    rw [if_neg c2] at hg
    have c2b := decide_eq_false c2
    have HG := A_ hg
    have OL1 := A_ ol1
    have OL2 := A_ ol2
    have HS0 := A_ (show Kd.S (Kd.slice 3 (Kd.int .i64)) 22 wr w.heap.size (fun _ => True) (.slice Al out.length cl) (spec_CyclesOfFiles.mapK out x (j : Int) 0) by rw [spec_CyclesOfFiles.mapK_zero]; exact HS.out)
    clear c2 hg ol1 ol2 HS
    go_wp2
    clear hx1
    go_loopg [40] out.length (fun q v40 W' => ∃ (kk : Nat), v40 = .int .i64 kk ∧ Aside0 (Kd.S (Kd.slice 3 (Kd.int .i64)) 22 W' w.heap.size (fun _ => True) (.slice Al out.length cl) (spec_CyclesOfFiles.mapK out x (j : Int) kk)) ∧ Aside0 (Below w.heap.size w W') ∧ Aside0 (kk ≤ out.length ∧ q = out.length - kk))
    case atStart => exact ⟨0, rfl, HS0, HB, ⟨⟨Nat.zero_le _, rfl⟩⟩⟩
    case round =>
     obtain ⟨kk, rfl, HS, HB, HK⟩ := hrel
     clear HS0
     by_cases c3 : kk < out.length
     case neg =>
      have hkn : kk = out.length := by have := HK.out; omega
      have c3b := decide_eq_false c3
      have c3c : decide ((kk : Int) < (out.length : Int)) = false := decide_eq_false (by omega)
      have hS := HS.out
      rw [hkn] at hS
      have HS2 := A_ hS
      have hml := spec_CyclesOfFiles.mapK_len out x (j : Int) out.length
      have HML := A_ hml
      clear hS HS hkn hml
      go_wp2
      go_roundg (l0.length - (j + 1))
      case measure => have := HJ.out; omega
      case rel => exact ⟨j + 1, spec_CyclesOfFiles.mapK out x (j : Int) out.length, by first | rfl | rw [hw1.out] | (congr 1; omega), HS2, HB, ⟨by omega, rfl⟩, HG, ⟨by rw [HML.out]; have := OL1.out; omega, spec_CyclesOfFiles.mapK_rows out x (j : Int) out.length j OL2.out⟩⟩
     have c3b := decide_eq_true c3
     have c3c : decide ((kk : Int) < (out.length : Int)) = true := decide_eq_true (by omega)
     have p3 : (0 ≤ (kk : Int)) = True := eq_true (by omega)
     have q3 : ((kk : Int) < (out.length : Int)) = True := eq_true (by omega)
     have hw3 : Aside0 (wrap64 ((kk : Int) + 1) = ((kk + 1 : Nat) : Int)) := ⟨by have := OL1.out; have := HL.out; unfold wrap64; omega⟩
     obtain ⟨g, cap, eg, hgb, hgl, _, hgc⟩ := Kd.S_form HS.out (by rw [spec_CyclesOfFiles.mapK_len]; omega)
     injection eg with eg1 eg2 eg3
     subst eg1
     subst eg3
     obtain ⟨okb, vb, hRb, hcb, hfb, hokb, _, _⟩ := Cap.S_swap HS.out c3
     rw [spec_CyclesOfFiles.mapK_get] at hRb
     have hbl : (out.getD kk []).length ≤ 1000 := by
      rw [List.getD_eq_getElem?_getD, List.getElem?_eq_getElem c3, Option.getD_some]
      have := OL2.out _ (List.getElem_mem c3); have := HL.out; have := HJ.out; omega
     have hput := spec_CyclesOfFiles.mapK_put out x (j : Int) kk c3
     have hset := spec_CyclesOfFiles.mapK_set out x (j : Int) kk
     generalize out.getD kk [] = b at hRb hbl hput hset
     have HPUT := A_ hput
     obtain ⟨Ab2, cb2, rfl⟩ := Kd.R_slice hRb
     have HRb := A_ hRb
     have hok2 : Aside0 (∀ k, okb k → k ≠ g) := ⟨fun k hk => (hokb k hk).2⟩
     have HGB := A_ hgb
     have HBL := A_ hbl
     have HS1 := HS.out
     rw [← hset] at HS1
     replace HS1 := A_ HS1
     clear hRb hokb hfb hgb hgl hgc eg2 hput hset hbl HS
     go_wp2
     clear hcb
     go_loopg [47] b.length (fun q v47 W' => ∃ (a : Nat), v47 = .int .i64 a ∧ Aside0 (Kd.S (Kd.slice 3 (Kd.int .i64)) 22 W' w.heap.size (fun _ => True) (.slice (some ⟨g, 0, none⟩) out.length cl) ((spec_CyclesOfFiles.mapK out x (j : Int) kk).set kk (spec_CyclesOfFiles.rowK b x (j : Int) a))) ∧ Aside0 (Kd.R (Kd.int .i64) 3 W' w.heap.size okb (.slice Ab2 b.length cb2) b) ∧ Aside0 (Below w.heap.size w W') ∧ Aside0 (a ≤ b.length ∧ q = b.length - a))
     case atStart => exact ⟨0, rfl, HS1, HRb, HB, ⟨⟨Nat.zero_le _, rfl⟩⟩⟩
     case round =>
      obtain ⟨a, rfl, HS, HRb, HB, HA⟩ := hrel
      clear HS1
      by_cases c4 : a < b.length
      case neg =>
       have han : a = b.length := by have := HA.out; omega
       have c4b := decide_eq_false c4
       have c4c : decide ((a : Int) < (b.length : Int)) = false := decide_eq_false (by omega)
       have hS := HS.out
       rw [han, HPUT.out] at hS
       have HS2 := A_ hS
       clear hS HS han
       go_wp2
       go_roundg (out.length - (kk + 1))
       case measure => have := HK.out; omega
       case rel => exact ⟨kk + 1, by first | rfl | rw [hw3.out] | (congr 1; omega), HS2, HB, ⟨by omega, rfl⟩⟩
      have c4b := decide_eq_true c4
      have c4c : decide ((a : Int) < (b.length : Int)) = true := decide_eq_true (by omega)
      have p4 : (0 ≤ (a : Int)) = True := eq_true (by omega)
      have q4 : ((a : Int) < (b.length : Int)) = True := eq_true (by omega)
      have hw4 : Aside0 (wrap64 ((a : Int) + 1) = ((a + 1 : Nat) : Int)) := ⟨by have := HBL.out; unfold wrap64; omega⟩
      obtain ⟨adb, eb, hxb⟩ := Kd.at_int (Kd.R_reads' HRb.out).2.2 (a : Int) (by omega) (by omega)
      rw [Int.toNat_natCast] at hxb
      have hrv : rd b (a : Int) = b.getD a 0 := by unfold rd; simp
      rw [hrv] at hxb
      have hcb2 := A_ (Kd.R_reads' HRb.out).2.1
      clear hrv
      cases eb
      by_cases t5 : b.getD a 0 = x
      case neg =>
       have hnk : spec_CyclesOfFiles.rowK b x (j : Int) (a + 1) = spec_CyclesOfFiles.rowK b x (j : Int) a := by rw [spec_CyclesOfFiles.rowK, if_neg t5]
       generalize b.getD a 0 = y at t5 hxb
       have t5b := decide_eq_false t5
       have t5c : (y == x) = false := beq_eq_false_iff_ne.mpr t5
       have HNK := A_ hnk
       clear hnk t5
       go_wp2
       go_roundg (b.length - (a + 1))
       case measure => have := HA.out; omega
       case rel => exact ⟨a + 1, by first | rfl | rw [hw4.out] | (congr 1; omega), by rw [HNK.out]; exact HS, HRb, HB, ⟨by omega, rfl⟩⟩
      have hnk : spec_CyclesOfFiles.rowK b x (j : Int) (a + 1) = Cap.insL b (a + 1) (j : Int) := by rw [spec_CyclesOfFiles.rowK, if_pos t5]
      rw [t5] at hxb
      clear t5
      have hal : a ≤ 1000 := by have := HBL.out; omega
      obtain ⟨y1, hy1⟩ : ∃ y, y = b.take (a + 1) := ⟨_, rfl⟩
      obtain ⟨y2, hy2⟩ : ∃ y, y = b.drop (a + 1) := ⟨_, rfl⟩
      obtain ⟨y3, hy3⟩ : ∃ y, y = Cap.insL b (a + 1) (j : Int) := ⟨_, rfl⟩
      have hl1 : y1.length = a + 1 := by rw [hy1, List.length_take]; omega
      have hl2 : y2.length = b.length - (a + 1) := by rw [hy2, List.length_drop]
      have hsum : (y1 ++ [(j : Int)]) ++ y2 = y3 := by rw [hy1, hy2, hy3]; rfl
      have hcat : Cap.insL b (a + 1) (j : Int) = y3 := hy3.symm
      obtain ⟨i039, hi039, _, hsz39, _⟩ := info_parts info3
      have hC39 := (Kd.R_reads' HRb.out).2.2
      have hcut : ∀ W : World, (Instr.slice 22 (.slice (some adb) b.length cb2) none (some (.int .i64 ((a : Int) + 1))) none).run Try.prog W = .ok (.slice (some adb) y1.length cb2) W := by
       have h := cut_to (P := Try.prog) 22 3 .i64 Try.underlying22 hi039 (some adb) b.length cb2 ((a : Int) + 1) (by omega) (by omega) hcb2.out
       rw [show ((a : Int) + 1).toNat = y1.length by omega] at h
       exact h
      obtain ⟨A2, hA2⟩ : ∃ A, A = (if cb2 = a + 1 then (some adb) else ((some adb) : Option Addr).map (·.add ((a + 1) * 1))) := ⟨_, rfl⟩
      obtain ⟨c2', hc2'⟩ : ∃ c, c = cb2 - (a + 1) := ⟨_, rfl⟩
      have hcutb : ∀ W : World, (Instr.slice 22 (.slice (some adb) b.length cb2) (some (.int .i64 ((a : Int) + 1))) none none).run Try.prog W = .ok (.slice A2 y2.length c2') W := by
       have h := cut_from (P := Try.prog) 22 3 .i64 Try.underlying22 hi039 1 hsz39 (some adb) b.length cb2 ((a : Int) + 1) (by omega) (by omega)
       rw [show ((a : Int) + 1).toNat = a + 1 by omega, ← hA2, ← hc2', ← hl2] at h
       exact h
      have hT1 : Aside0 (Kd.C (Kd.int .i64) wr (some adb) y1.length y1) := ⟨by have h := Kd.C_take (m := a + 1) hC39 (by omega); rw [← hy1] at h; exact h⟩
      have hD1 : Aside0 (∀ W1, Below wr.heap.size wr W1 → Kd.C (Kd.int .i64) W1 A2 y2.length y2) := ⟨fun W1 hb => by
       have h := Kd.C_drop (m := a + 1) (c := cb2) (Kd.C_below hC39 hb) (by omega) hcb2.out
       rw [← hy2] at h
       rw [hA2]; exact h⟩
      have hle1 : Aside0 (y1.length ≤ cb2) := ⟨by have := hcb2.out; omega⟩
      have hown1 : Aside0 (spec_l1Own.f y1 = some y1) := ⟨by
       unfold spec_l1Own.f
       simp
       omega⟩
      obtain ⟨okN, vN, hRN, hcN, hfN, hokN, hgN, hback⟩ := Cap.S_swap HS.out c3
      have Hback := A_ hback
      have HSUM := A_ hsum
      have HNK := A_ (hnk.trans hcat)
      have HY1 := A_ hl1
      have HY2 := A_ hl2
      have HB0' := A_ (Below.refl wr.heap.size wr)
      clear hback hRN hokN hcN hfN hgN hy1 hy2 hy3 hl1 hl2 hsum hcat hnk hi039 hsz39 hC39 hA2 hc2'
      go_wp2_with (first | (go_at_call 131; (with_reducible refine (spec_l1Own.calls (some adb) cb2 y1 y1 _ hT1.out hle1.out hown1.out).mono ?_); rintro e w1 ⟨v1, rfl, hr1, hb1⟩; have HR1 := A_ hr1; have HB1 := A_ hb1; clear hr1 hb1) | ((with_reducible refine gate_builtin (b := .append) (xs := #[.tmp 59, .tmp 61]) rfl ?_); at_builtin; refine Kd.R_append (Kd.int .i64) (w0 := wr) wr.heap.size rfl (.tmp 59) (.tmp 61) 22 3 (.int .i64 0) 8 rfl Try.underlying22 info3 rfl (by decide) (by omega) v1 y1 (j : Int) [.int .i64 (j : Int)] (fun _ => True) (fun _ => False) rfl rfl ?aP (fun _ hk => hk.elim) ?aF ?aO ?aB ?aS ?aL ?_; (case aP => exact rfl); (case aB => exact HB1.out); (case aF => exact (fun _ _ => trivial)); (case aO => exact HR1.out); (case aS => exact HB1.out.size); (case aL => have := HY1.out; omega); intro v2 w2 ho hb hg hat; have HR2 := A_ ho; have HB2 := A_ hb; clear ho hb hg hat) | ((with_reducible refine gate_builtin (b := .append) (xs := #[.tmp 65, .tmp 69]) rfl ?_); at_builtin; refine Kd.R_append_rows (Kd.int .i64) (w0 := wr) wr.heap.size rfl (.tmp 65) (.tmp 69) 22 3 (.int .i64 0) 8 rfl Try.underlying22 info3 rfl (by decide) (by omega) v2 (y1 ++ [(j : Int)]) y2 _ _ _ (fun _ => True) (fun _ => False) rfl rfl ?aO ?aR (fun _ _ h => h) (fun _ h => h.elim) ?aF ?aB ?aS ?aL ?_; (case aR => exact hD1.out _ HB2.out); (case aB => exact HB2.out); (case aF => exact (fun _ _ => trivial)); (case aO => exact HR2.out); (case aS => exact HB2.out.size); (case aL => have := HY1.out; have := HY2.out; have := HBL.out; simp; omega); intro v3 w3 ho hb hg hat; rw [HSUM.out] at ho; obtain ⟨A3, c3', e3⟩ := Kd.R_slice ho; subst e3; obtain ⟨e1, e2, e3⟩ := Hback.out w3 _ _ (Kept.of_below hb _) (Kd.R_lower (Kd.R_mono (Kd.R_bound ho) (fun k hk => .inr hk.2.1)) HB.out.size) (fun _ _ => trivial); rw [List.set_set] at e3; replace e3 := A_ e3; have HB3 := A_ hb; clear ho hb hg hat))
      have HRb5 := A_ (Kd.R_far (Kd.R_below HRb.out HB3.out) (p := ⟨g, kk, none⟩) (fun k hk => hok2.out k hk) (.slice A3 y3.length c3'))
      have HB5 := A_ ((below_then HB.out HB.out.size HB3.out).setCell (p := ⟨g, kk, none⟩) HGB.out (.slice A3 y3.length c3'))
      go_roundg (b.length - (a + 1))
      case measure => have := HA.out; omega
      case rel => exact ⟨a + 1, by first | rfl | rw [hw4.out] | (congr 1; omega), by rw [HNK.out]; exact e3, HRb5, HB5, ⟨by omega, rfl⟩⟩

/-! ### impl_made: function 201 -/
mutual
def impl_made.l0 : Nat → Int → FnT110 → Int → Int → Int → Int → List Int → Option (Int × Int × List Int)
 | 0, _, _, _, _, _, _, _ => none
 | k + 1, x0, x1, x11, x12, x1063000, x1063001, x1063002 => if x12 < x11 then (impl_made.l1 k x0 x1 x12 x11 x12 x0 0 x1063000 x1063001 x1063002) else (some (x1063000, x1063001, x1063002))
def impl_made.l1 : Nat → Int → FnT110 → Int → Int → Int → Int → Int → Int → Int → List Int → Option (Int × Int × List Int)
 | 0, _, _, _, _, _, _, _, _, _, _ => none
 | k + 1, x0, x1, x6, x11, x12, x15, x16, x1063000, x1063001, x1063002 => if x16 < x15 then ((FnCall110.f x6 x16 x1).bind fun t1063 => (if t1063 = true then (if 0 ≤ x6 then (if x6 < (x1063002.length : Int) then (if 0 ≤ x16 then (impl_made.l1 k x0 x1 x6 x11 x12 x15 (wrap64 (x16 + 1)) x1063000 x1063001 (x1063002.set (x6 : Int).toNat (Go.bits .or .i64 (rd x1063002 x6) (shl .i64 1 x16)))) else (none)) else (none)) else (none)) else (impl_made.l1 k x0 x1 x6 x11 x12 x15 (wrap64 (x16 + 1)) x1063000 x1063001 x1063002))) else (impl_made.l0 k x0 x1 x11 (wrap64 (x12 + 1)) x1063000 x1063001 x1063002)
end
def impl_made.f (k : Nat) (a0 : Int) (a1 : FnT110) : Option (Int × Int × List Int) := (impl_newBoard.f a0 a0).bind fun bt1057 => (impl_made.l0 k a0 a1 a0 0 bt1057.1 bt1057.2.1 bt1057.2.2)
theorem impl_made.mono_l : ∀ k, (∀ y0 y1 y2 y3 y4 y5 y6, LeO (impl_made.l0 k y0 y1 y2 y3 y4 y5 y6) (impl_made.l0 (k + 1) y0 y1 y2 y3 y4 y5 y6)) ∧ (∀ y0 y1 y2 y3 y4 y5 y6 y7 y8 y9, LeO (impl_made.l1 k y0 y1 y2 y3 y4 y5 y6 y7 y8 y9) (impl_made.l1 (k + 1) y0 y1 y2 y3 y4 y5 y6 y7 y8 y9))
 | 0 => ⟨fun _ _ _ _ _ _ _ r h => by simp [impl_made.l0] at h, fun _ _ _ _ _ _ _ _ _ _ r h => by simp [impl_made.l1] at h⟩
 | k + 1 => by
  obtain ⟨ih0, ih1⟩ := impl_made.mono_l k
  refine ⟨?_, ?_⟩
  ·
   intro y0 y1 y2 y3 y4 y5 y6
   unfold impl_made.l0
   repeat' first | (with_reducible first | exact ih0 _ _ _ _ _ _ _ | exact ih1 _ _ _ _ _ _ _ _ _ _ | exact LeO.refl _ | exact LeO.none _ | refine LeO.ite ?_ ?_ | refine LeO.bind ?_ (fun _ => ?_)) | exact ih0 _ _ _ _ _ _ _ | exact ih1 _ _ _ _ _ _ _ _ _ _ | exact LeO.none _ | refine LeO.ite ?_ ?_ | refine LeO.bind ?_ (fun _ => ?_)
  ·
   intro y0 y1 y2 y3 y4 y5 y6 y7 y8 y9
   unfold impl_made.l1
   repeat' first | (with_reducible first | exact ih0 _ _ _ _ _ _ _ | exact ih1 _ _ _ _ _ _ _ _ _ _ | exact LeO.refl _ | exact LeO.none _ | refine LeO.ite ?_ ?_ | refine LeO.bind ?_ (fun _ => ?_)) | exact ih0 _ _ _ _ _ _ _ | exact ih1 _ _ _ _ _ _ _ _ _ _ | exact LeO.none _ | refine LeO.ite ?_ ?_ | refine LeO.bind ?_ (fun _ => ?_)
theorem impl_made.mono : ∀ a0 a1 k, LeO (impl_made.f k a0 a1) (impl_made.f (k + 1) a0 a1) := by
 intro a0 a1 k
 obtain ⟨ih0, ih1⟩ := impl_made.mono_l k
 unfold impl_made.f
 repeat' first | (with_reducible first | exact ih0 _ _ _ _ _ _ _ | exact ih1 _ _ _ _ _ _ _ _ _ _ | exact LeO.refl _ | exact LeO.none _ | refine LeO.ite ?_ ?_ | refine LeO.bind ?_ (fun _ => ?_)) | exact ih0 _ _ _ _ _ _ _ | exact ih1 _ _ _ _ _ _ _ _ _ _ | exact LeO.none _ | refine LeO.ite ?_ ?_ | refine LeO.bind ?_ (fun _ => ?_)
def impl_made.T9 : Bool × List (List Nat × List Nat) := (true, [([], []), ([0], [0]), ([], []), ([1, 2], [1, 2]), ([3], [3]), ([], []), ([5], [5]), ([4, 6], [4, 6]), ([1, 2, 0, 1, 2, 3, 4, 5, 6, 7], [1, 2]), ([8, 7, 0, 1, 2, 3, 4, 5, 6, 7], [7, 8])])
def impl_made.B9 : List Nat := [0, 1, 0, 7, 15, 0, 32, 127, 255, 511]
theorem impl_made.tab9 : rtab .any (opsOf Try.f201 9) = impl_made.T9 := by kernel_rfl
theorem impl_made.bits9 : waitsOk impl_made.T9.2 impl_made.B9 = true := by kernel_rfl
theorem impl_made.calls (k : Nat) (a0 : Int) (v1 : Value) (a1 : FnT110) (r1 : Int) (r2 : Int) (r3 : List Int) (w : World) (hF1 : FnOk110 w v1 a1) (h : impl_made.f k a0 a1 = some (r1, r2, r3)) :
  Calls Try.prog 201 #[.int .i64 a0, v1] w fun e w' => ∃ v2_ : Value, e = .returned (.agg #[.int .i64 r1, .int .i64 r2, v2_]) ∧ Kd.R (Kd.int .i64) 3 w' w.heap.size (fun _ => True) v2_ r3 ∧ Below w.heap.size w w' := by
 have hu26 := Try.underlying26
 have HF1 := A_ hF1
 clear hF1
 have HB := A_ (Below.refl w.heap.size w)
 have H : ((impl_newBoard.f a0 a0).bind fun bt1057 => (impl_made.l0 k a0 a1 a0 0 bt1057.1 bt1057.2.1 bt1057.2.2)) = some (r1, r2, r3) := h
 clear h
 replace H := Option.bind_eq_some_iff.mp H
 obtain ⟨⟨t1057, t1058, t1059⟩, A30, H⟩ := H
 replace H : (impl_made.l0 k a0 a1 a0 0 t1057 t1058 t1059) = some (r1, r2, r3) := H
 have A3 := A_ A30
 clear A30
 have H' := A_ H
 clear H
 go_enter Try.func201, Try.ntmps201
 go_wp2_with (first | (refine gd_ 4 ?_; refine bx_ 4 #[.int .i64 0, .int .i64 0, .slice none 0 0] 26 ?_; intro gb1056 hg w4 hbox hb; have BK1056 := A_ (hbox); have GW1056 := A_ ((ts_ hg : w.heap.size ≤ gb1056)); have GE1056 := A_ ((ts_ hg : w.heap.size ≤ gb1056)); replace HB := A_ (below_step tb_ hb); clear hb hbox hg) | (refine gc_ 174 ?_; refine goesT_ (some 10) Try.func174 #[.int .i64 a0, .int .i64 a0] ?_; (with_reducible refine (impl_newBoard.calls a0 a0 t1057 t1058 t1059 _ A3.out).mono ?_); rintro e w5 ⟨v1060, rfl, ho0, hb⟩; refine ⟨_, rfl, ?_⟩; have HO1061 := A_ (Kd.R_lower ho0 (below_size tb_)); replace BK1056 := A_ (blk_below (g := gb1056) (o := .cells #[.int .i64 0, .int .i64 0, .slice none 0 0] 26 (0, 0)) (tk_ BK1056) hb); replace HB := A_ (below_step tb_ hb); (try clear hb); (try clear ho0)) | (refine gd_ 5 ?_; refine bx_ 5 #[.int .i64 0, .int .i64 0, .slice none 0 0] 26 ?_; intro gb1062 hg w6 hbox hb; replace HO1061 := A_ (Kd.R_below (tr_x HO1061.out) hb); have BK1062 := A_ (hbox); have GW1062 := A_ ((ts_ hg : w.heap.size ≤ gb1062)); have GE1062 := A_ ((ts_ hg : w.heap.size ≤ gb1062)); replace HB := A_ (below_step tb_ hb); have NB1056_1062 := A_ ((by rw [hg]; exact Nat.ne_of_lt (blk_lt (g := gb1056) (o := .cells #[.int .i64 0, .int .i64 0, .slice none 0 0] 26 (0, 0)) (tk_ BK1056)) : gb1056 ≠ gb1062)); have NB1062_1056 := A_ ((by rw [hg]; exact Nat.ne_of_gt (blk_lt (g := gb1056) (o := .cells #[.int .i64 0, .int .i64 0, .slice none 0 0] 26 (0, 0)) (tk_ BK1056)) : gb1062 ≠ gb1056)); replace BK1056 := A_ (blk_below (g := gb1056) (o := .cells #[.int .i64 0, .int .i64 0, .slice none 0 0] 26 (0, 0)) (tk_ BK1056) hb); clear hb hbox hg; have hnb7 := NB1062_1056.out; have hnc7 := NB1056_1062.out; obtain ⟨hcz8_0, hcz8_1, hcz8_2, hfz8_0, hfz8_1, hfz8_2⟩ := cf3_ BK1062.out; obtain ⟨Ao9, co9, eo9⟩ := Kd.R_slice HO1061.out; subst eo9))
 go_loopg [12] k (fun kq v12 w' => ∃ (x12_1 : Int) (x1063002_1 : List Int) (u1063002 : Value), v12 = .int .i64 x12_1 ∧ Aside0 (impl_made.l0 kq a0 a1 a0 x12_1 t1057 t1058 x1063002_1 = some (r1, r2, r3)) ∧ Aside0 (kq ≤ k) ∧ Aside0 (Kd.R (Kd.int .i64) 3 w' w.heap.size (fun _ => True) u1063002 x1063002_1) ∧ Aside0 (w'.heap[gb1056]? = some (.cells #[.int .i64 0, .int .i64 0, (.slice none 0 0)] 26 (0, 0))) ∧ Aside0 (w'.heap[gb1062]? = some (.cells #[.int .i64 t1057, .int .i64 t1058, u1063002] 26 (0, 0))) ∧ Aside0 (Below w.heap.size w w'))
 case atStart => exact ⟨(0), (t1059), (.slice Ao9 t1059.length co9), tf_, H', ⟨Nat.le_refl _⟩, ⟨by (with_reducible repeat (first | apply Kd.R_alloc | apply Kd.R_drewN | apply Kd.R_drew)); exact Kd.R_mono (Kd.R_far (p := ⟨gb1062, 2, none⟩) (Kd.R_far (p := ⟨gb1062, 1, none⟩) (Kd.R_far (p := ⟨gb1062, 0, none⟩) (Kd.R_types HO1061.out BK1062.out (by decide)) (fun _ hk => hk.2) (.int .i64 t1057)) (fun _ hk => hk.2) (.int .i64 t1058)) (fun _ hk => hk.2) (.slice Ao9 t1059.length co9)) (fun _ hk => trivial)⟩, ⟨tk_ BK1056⟩, ⟨by (with_reducible repeat (first | refine blk_drewN ?_ _ | refine blk_drew ?_ | refine blk_alloc ?_ _)); refine blk_put (cs := #[.int .i64 t1057, .int .i64 t1058, .slice none 0 0]) ?_ 2 _ rfl; (with_reducible repeat (first | refine blk_drewN ?_ _ | refine blk_drew ?_ | refine blk_alloc ?_ _)); refine blk_put (cs := #[.int .i64 t1057, .int .i64 0, .slice none 0 0]) ?_ 1 _ rfl; (with_reducible repeat (first | refine blk_drewN ?_ _ | refine blk_drew ?_ | refine blk_alloc ?_ _)); refine blk_put (cs := #[.int .i64 0, .int .i64 0, .slice none 0 0]) ?_ 0 _ rfl; (with_reducible repeat (first | refine blk_drewN ?_ _ | refine blk_drew ?_ | refine blk_alloc ?_ _)); exact BK1062.out⟩, ⟨tb_⟩⟩
 case round =>
  clear H'
  try clear c1
  try clear c2
  try clear p2
  try clear c7
  try clear hcz8_0
  try clear hcz8_1
  try clear hcz8_2
  try clear hfz8_0
  try clear hfz8_1
  try clear hfz8_2
  obtain ⟨x12_1, x1063002_1, u1063002, rfl, HA, HK1, HO_1063002, BK1056, BK1062, HB⟩ := hrel
  cases gk with
  | zero => exact absurd HA.out (by simp [impl_made.l0])
  | succ k1 =>
   have H := HA.out
   clear HA
   simp only [impl_made.l0] at H
   by_cases c10 : x12_1 < a0
   ·
    rw [if_pos c10] at H
    have c10b0 := decide_eq_true c10
    clear c10
    have H' := A_ H
    clear H
    go_wp2
    go_loopg [16] k1 (fun kq v16 w' => ∃ (x16_2 : Int) (x1063002_2 : List Int) (u1063002 : Value), v16 = .int .i64 x16_2 ∧ Aside0 (impl_made.l1 kq a0 a1 x12_1 a0 x12_1 a0 x16_2 t1057 t1058 x1063002_2 = some (r1, r2, r3)) ∧ Aside0 (kq ≤ k1) ∧ Aside0 (Kd.R (Kd.int .i64) 3 w' w.heap.size (fun _ => True) u1063002 x1063002_2) ∧ Aside0 (w'.heap[gb1056]? = some (.cells #[.int .i64 0, .int .i64 0, (.slice none 0 0)] 26 (0, 0))) ∧ Aside0 (w'.heap[gb1062]? = some (.cells #[.int .i64 t1057, .int .i64 t1058, u1063002] 26 (0, 0))) ∧ Aside0 (Below w.heap.size w w'))
    case atStart => exact ⟨(0), (x1063002_1), (u1063002), tf_, H', ⟨Nat.le_refl _⟩, ⟨tr_x HO_1063002.out⟩, ⟨tk_ BK1056⟩, ⟨tk_ BK1062⟩, ⟨tb_⟩⟩
    case round =>
     clear H'
     try clear c1
     try clear c2
     try clear p2
     try clear c7
     try clear c10
     try clear c10b0
     try clear hcz8_0
     try clear hcz8_1
     try clear hcz8_2
     try clear hfz8_0
     try clear hfz8_1
     try clear hfz8_2
     try clear p2
     obtain ⟨x16_2, x1063002_2, u1063002, rfl, HA, HK2, HO_1063002, BK1056, BK1062, HB⟩ := hrel
     cases gk with
     | zero => exact absurd HA.out (by simp [impl_made.l1])
     | succ k2 =>
      have H := HA.out
      clear HA
      simp only [impl_made.l1] at H
      by_cases c11 : x16_2 < a0
      ·
       rw [if_pos c11] at H
       have c11b0 := decide_eq_true c11
       clear c11
       replace H := Option.bind_eq_some_iff.mp H
       obtain ⟨t1063, A120, H⟩ := H
       replace H : (if t1063 = true then (if 0 ≤ x12_1 then (if x12_1 < (x1063002_2.length : Int) then (if 0 ≤ x16_2 then (impl_made.l1 k2 a0 a1 x12_1 a0 x12_1 a0 (wrap64 (x16_2 + 1)) t1057 t1058 (x1063002_2.set (x12_1 : Int).toNat (Go.bits .or .i64 (rd x1063002_2 x12_1) (shl .i64 1 x16_2)))) else (none)) else (none)) else (none)) else (impl_made.l1 k2 a0 a1 x12_1 a0 x12_1 a0 (wrap64 (x16_2 + 1)) t1057 t1058 x1063002_2)) = some (r1, r2, r3) := H
       have A12 := A_ A120
       clear A120
       by_cases c13 : t1063 = true
       ·
        subst c13
        have H1 : (if 0 ≤ x12_1 then (if x12_1 < (x1063002_2.length : Int) then (if 0 ≤ x16_2 then (impl_made.l1 k2 a0 a1 x12_1 a0 x12_1 a0 (wrap64 (x16_2 + 1)) t1057 t1058 (x1063002_2.set (x12_1 : Int).toNat (Go.bits .or .i64 (rd x1063002_2 x12_1) (shl .i64 1 x16_2)))) else (none)) else (none)) else (none)) = some (r1, r2, r3) := by rw [if_pos rfl] at H; exact H
        clear H
        have H := H1
        clear H1
        by_cases c14 : 0 ≤ x12_1
        ·
         rw [if_pos c14] at H
         have c14b0 := decide_eq_true c14
         clear c14
         by_cases c15 : x12_1 < (x1063002_2.length : Int)
         ·
          rw [if_pos c15] at H
          have c15b0 := decide_eq_true c15
          clear c15
          by_cases c16 : 0 ≤ x16_2
          ·
           rw [if_pos c16] at H
           have c16b0 := eq_true c16
           have c16b1 := decide_eq_true c16
           clear c16
           obtain ⟨ji17, hji17⟩ : ∃ j_ : Int, (shl .i64 1 x16_2) = j_ := ⟨_, rfl⟩
           replace H : (impl_made.l1 k2 a0 a1 x12_1 a0 x12_1 a0 (wrap64 (x16_2 + 1)) t1057 t1058 (x1063002_2.set (x12_1 : Int).toNat (Go.bits .or .i64 (rd x1063002_2 x12_1) (ji17)))) = some (r1, r2, r3) := by first | (rw [hji17] at H; exact H) | (simp only [hji17] at H ⊢; exact H)
           (try rw [hji17] at A12)
           have hji17_ : (IntKind.i64.wrap (1 * 2 ^ min x16_2.toNat 64)) = ji17 := hji17
           have hji17z : x16_2 ≤ 64 → (IntKind.i64.wrap (1 * 2 ^ x16_2.toNat)) = ji17 := shl_small hji17
           have hji17u : (IntKind.i64.wrap (2 ^ min x16_2.toNat 64)) = ji17 := by have h_ := hji17_; rw [Int.one_mul] at h_; exact h_
           have hji17v : x16_2 ≤ 64 → (IntKind.i64.wrap (2 ^ x16_2.toNat)) = ji17 := fun hle_ => by have h_ := hji17z hle_; rw [Int.one_mul] at h_; exact h_
           have hji17y : (wrap64 (1 * 2 ^ min x16_2.toNat 64)) = ji17 := (i64_w _).symm.trans hji17_
           have hji17x : x16_2 ≤ 64 → (wrap64 (1 * 2 ^ x16_2.toNat)) = ji17 := fun h_ => (i64_w _).symm.trans (hji17z h_)
           obtain ⟨y1065, hy1065⟩ : ∃ y_ : List Int, y_ = (x1063002_2.set (x12_1 : Int).toNat (Go.bits .or .i64 (rd x1063002_2 x12_1) (ji17))) := ⟨_, rfl⟩
           replace H : (impl_made.l1 k2 a0 a1 x12_1 a0 x12_1 a0 (wrap64 (x16_2 + 1)) t1057 t1058 y1065) = some (r1, r2, r3) := ty_ hy1065 H
           have Ny1065 := A_ hy1065
           clear hy1065
           have H' := A_ H
           clear H
           try go_wp2_with (first | ((with_reducible refine Fn.gate_value rfl ?_); refine Fn.goesVw_ (some 22) rfl (by first | rfl | (simp [Region.wanted, yielded]; done)) v1 rfl #[.int .i64 x12_1, .int .i64 x16_2] rfl ta_ ?_; (with_reducible refine (FnCall110.calls x12_1 x16_2 v1 a1 true _ ?side1 A12.out).mono ?_); (case side1 => exact FnOk110.mono HF1.out tb_); rintro e w19 ⟨rfl, hb⟩; refine ⟨_, rfl, ?_⟩; replace HO_1063002 := A_ (Kd.R_below (tr_x HO_1063002.out) hb); replace BK1056 := A_ (blk_below (g := gb1056) (o := .cells #[.int .i64 0, .int .i64 0, .slice none 0 0] 26 (0, 0)) (tk_ BK1056) hb); replace BK1062 := A_ (blk_below (g := gb1062) (o := .cells #[.int .i64 t1057, .int .i64 t1058, u1063002] 26 (0, 0)) (tk_ BK1062) hb); replace HB := A_ (below_step tb_ hb); (try clear hb)))
           have n0_ := A_ (Kd.R_drew HO_1063002.out)
           have n1_ := A_ (blk_drew BK1056.out)
           have n2_ := A_ (blk_drew BK1062.out)
           have n3_ := A_ (below_drew1 HB.out)
           clear HO_1063002
           clear BK1056
           clear BK1062
           clear HB
           have HO_1063002 := n0_
           have BK1056 := n1_
           have BK1062 := n2_
           have HB := n3_
           clear n0_ n1_ n2_ n3_
           obtain ⟨Ao21, co21, eo21⟩ := Kd.R_slice HO_1063002.out
           (first | subst eo21 | (injection eo21 with f1_ f2_ f3_; have f4_ := f1_.symm; have f5_ := f3_.symm; clear f1_ f2_ f3_; subst f4_; subst f5_))
           have p1064 : 0 ≤ (x12_1 : Int) := od_
           have q1064 : x12_1 < (x1063002_2.length : Int) := od_
           obtain ⟨ad1064, e1064, hx1064_0⟩ := Kd.at_int (Kd.R_reads' HO_1063002.out).2.2 x12_1 p1064 q1064
           cases e1064
           replace p1064 := eq_true p1064
           replace q1064 := eq_true q1064
           have p18 : 0 ≤ (x12_1 : Int) := od_
           have q18 : (x12_1 : Int) < ((x1063002_2.length : Int) : Int) := od_
           obtain ⟨go18, co18, eo18, gb18, gl18, cl18, HG18⟩ := Kd.R_form HO_1063002.out (by omega)
           (first | cases eo18 | (injection eo18 with ea_ en_ ec_; (first | subst ea_ | (injection ea_ with ea_; subst ea_)); subst ec_; clear en_))
           have GB18 := A_ gb18
           have GG18 := A_ HG18
           clear gb18 gl18 HG18
           (first | simp only [add_plain] at hx1064_0 | skip)
           obtain ⟨hx18_0, hf18_0⟩ := Kd.R_celln 0 HO_1063002.out (x12_1 : Int) p18 q18
           replace p18 := eq_true p18
           replace q18 := eq_true q18
           have HP22 := Kd.R_putn HO_1063002.out (x12_1 : Int) (Go.bits .or .i64 (rd x1063002_2 x12_1) (ji17))
           rw [← Ny1065.out] at HP22
           have HQ22 := A_ HP22
           clear HP22
           refine start_ (n := 10) (S := fun w' => w'.cell? ⟨gb1062, 0, none⟩ = some (.int .i64 t1057) ∧ w'.cell? ⟨gb1062, 1, none⟩ = some (.int .i64 t1058) ∧ w'.cell? ⟨gb1062, 2, none⟩ = some (.slice (some ⟨go18, 0, none⟩) x1063002_2.length co21) ∧ w'.cell? ⟨go18, (x12_1).toNat, none⟩ = some (.int .i64 (rd x1063002_2 x12_1))) (ds := [9]) (Fn.bl 10 0) (by kernel_rfl) rfl rfl ⟨(blk_cell BK1062.out 0).trans rfl, (blk_cell BK1062.out 1).trans rfl, (blk_cell BK1062.out 2).trans rfl, hx1064_0⟩ (fun hHeld => ?_); refine with_tabW impl_made.tab9 impl_made.bits9 (fun HT_ HW_ => ?_)
           generalize w19.drew = w20 at HO_1063002 BK1056 BK1062 HB GG18 HQ22 hf18_0 hx1064_0 hx18_0 hHeld ⊢
           refine pq_ 0 (some 23) (Fn.bl 10 1) HT_.out ?_
           refine pq_ 2 (some 25) (Fn.bl 10 5) HT_.out ?_
           refine pq_ 5 (some 28) (Fn.bl 10 37) HT_.out ?_
           refine pq_ 6 (some 29) (Fn.bl 10 101) HT_.out ?_
           refine tq_ 1 (some 24) (Fn.bl 10 103) HT_.out HW_.out hHeld ?_ (hy0 := by rintro w' ⟨s0, s1, s2, s3⟩; go_simp; with_reducible rfl)
           refine pq_ 3 (some 26) (Fn.bl 10 111) HT_.out ?_
           refine tq_ 4 (some 27) (Fn.bl 10 127) HT_.out HW_.out hHeld ?_ (hy0 := by rintro w' ⟨s0, s1, s2, s3⟩; go_simp; with_reducible rfl)
           refine pq_ 7 (some 30) (Fn.bl 10 255) HT_.out ?_
           refine pq_ 8 (some 31) (Fn.bl 10 511) HT_.out ?_
           refine last_ (i := 9) (N := none) (Fn.bl 10 1023) rfl rfl (one_of HT_.out (by kernel_rfl)) (by decide) (fun K hK => ?_)
           refine skip_ (w1 := ?_) (by rfl) rfl ?_ ?_
           rotate_left
           ·
            go_simp
            rfl
           refine hK.out _ _ ?_
           clear hK K
           refine done_ (done_of HT_.out (by kernel_rfl)) ?_
           try go_wp2
           go_roundg k2
           case measure => have := HK1.out; have := HK2.out; omega
           case rel => exact ⟨(wrap64 (x16_2 + 1)), (y1065), (.slice (some ⟨go18, 0, none⟩) x1063002_2.length co21), tf_, H', ⟨by have := HK1.out; have := HK2.out; omega⟩, ⟨tr_x HQ22.out⟩, ⟨by (with_reducible repeat (first | refine blk_drewN ?_ _ | refine blk_drew ?_ | refine blk_alloc ?_ _)); refine blk_far ?_ (by have h_ := Kd.R_ne HO_1063002.out BK1056.out (by decide); intro e_; exact h_ (by rw [e_]; rfl)) _; (with_reducible repeat (first | refine blk_drewN ?_ _ | refine blk_drew ?_ | refine blk_alloc ?_ _)); exact BK1056.out⟩, ⟨by (with_reducible repeat (first | refine blk_drewN ?_ _ | refine blk_drew ?_ | refine blk_alloc ?_ _)); refine blk_far ?_ (by have h_ := Kd.R_ne HO_1063002.out BK1062.out (by decide); intro e_; exact h_ (by rw [e_]; rfl)) _; (with_reducible repeat (first | refine blk_drewN ?_ _ | refine blk_drew ?_ | refine blk_alloc ?_ _)); exact BK1062.out⟩, ⟨tb_⟩⟩
          ·
           rw [if_neg c16] at H
           exact absurd H (by simp)
         ·
          rw [if_neg c15] at H
          exact absurd H (by simp)
        ·
         rw [if_neg c14] at H
         exact absurd H (by simp)
       ·
        replace c13 := Bool.eq_false_iff.mpr c13
        subst c13
        have H1 : (impl_made.l1 k2 a0 a1 x12_1 a0 x12_1 a0 (wrap64 (x16_2 + 1)) t1057 t1058 x1063002_2) = some (r1, r2, r3) := by rw [if_neg (show ¬ (false = true) by decide)] at H; exact H
        clear H
        have H := H1
        clear H1
        have H' := A_ H
        clear H
        go_wp2_with (first | ((with_reducible refine Fn.gate_value rfl ?_); refine Fn.goesVw_ (some 22) rfl (by first | rfl | (simp [Region.wanted, yielded]; done)) v1 rfl #[.int .i64 x12_1, .int .i64 x16_2] rfl ta_ ?_; (with_reducible refine (FnCall110.calls x12_1 x16_2 v1 a1 false _ ?side1 A12.out).mono ?_); (case side1 => exact FnOk110.mono HF1.out tb_); rintro e w23 ⟨rfl, hb⟩; refine ⟨_, rfl, ?_⟩; replace HO_1063002 := A_ (Kd.R_below (tr_x HO_1063002.out) hb); replace BK1056 := A_ (blk_below (g := gb1056) (o := .cells #[.int .i64 0, .int .i64 0, .slice none 0 0] 26 (0, 0)) (tk_ BK1056) hb); replace BK1062 := A_ (blk_below (g := gb1062) (o := .cells #[.int .i64 t1057, .int .i64 t1058, u1063002] 26 (0, 0)) (tk_ BK1062) hb); replace HB := A_ (below_step tb_ hb); (try clear hb)))
        go_roundg k2
        case measure => have := HK1.out; have := HK2.out; omega
        case rel => exact ⟨(wrap64 (x16_2 + 1)), (x1063002_2), (u1063002), tf_, H', ⟨by have := HK1.out; have := HK2.out; omega⟩, ⟨tr_x HO_1063002.out⟩, ⟨tk_ BK1056⟩, ⟨tk_ BK1062⟩, ⟨tb_⟩⟩
      ·
       rw [if_neg c11] at H
       have c11b0 := decide_eq_false c11
       clear c11
       have H' := A_ H
       clear H
       go_wp2
       go_roundg k2
       case measure => have := HK1.out; have := HK2.out; omega
       case rel => exact ⟨(wrap64 (x12_1 + 1)), (x1063002_2), (u1063002), tf_, H', ⟨by have := HK1.out; have := HK2.out; omega⟩, ⟨tr_x HO_1063002.out⟩, ⟨tk_ BK1056⟩, ⟨tk_ BK1062⟩, ⟨tb_⟩⟩
   ·
    rw [if_neg c10] at H
    have c10b0 := decide_eq_false c10
    clear c10
    simp only [Option.some.injEq, Prod.mk.injEq] at H
    obtain ⟨rfl, rfl, rfl⟩ := H
    have hnb24 := NB1062_1056.out
    have hnc24 := NB1056_1062.out
    obtain ⟨hcz25_0, hcz25_1, hcz25_2, hfz25_0, hfz25_1, hfz25_2⟩ := cf3_ BK1062.out
    obtain ⟨hcz26_0, hcz26_1, hcz26_2, hfz26_0, hfz26_1, hfz26_2⟩ := cf3_ BK1056.out
    obtain ⟨Ao27, co27, eo27⟩ := Kd.R_slice HO_1063002.out
    subst eo27
    go_wp2
    refine bodyPost_ret (results_cell_row rfl _ _ gb1056 26 #[.int .i64 t1057, .int .i64 t1058, .slice Ao27 x1063002_1.length co27] (0, 0) _ rfl (by (with_reducible repeat (first | refine blk_drewN ?_ _ | refine blk_drew ?_ | refine blk_alloc ?_ _)); refine blk_put (cs := #[.int .i64 t1057, .int .i64 t1058, .slice none 0 0]) ?_ 2 _ rfl; (with_reducible repeat (first | refine blk_drewN ?_ _ | refine blk_drew ?_ | refine blk_alloc ?_ _)); refine blk_put (cs := #[.int .i64 t1057, .int .i64 0, .slice none 0 0]) ?_ 1 _ rfl; (with_reducible repeat (first | refine blk_drewN ?_ _ | refine blk_drew ?_ | refine blk_alloc ?_ _)); refine blk_put (cs := #[.int .i64 0, .int .i64 0, .slice none 0 0]) ?_ 0 _ rfl; (with_reducible repeat (first | refine blk_drewN ?_ _ | refine blk_drew ?_ | refine blk_alloc ?_ _)); exact BK1056.out) Try.underlying26 rfl (by kernel_rfl)) rfl ?_
    exact ⟨_, te_, by (with_reducible repeat (first | apply Kd.R_alloc | apply Kd.R_drewN | apply Kd.R_drew)); exact Kd.R_mono (Kd.R_far (p := ⟨gb1056, 2, none⟩) (Kd.R_far (p := ⟨gb1056, 1, none⟩) (Kd.R_far (p := ⟨gb1056, 0, none⟩) (Kd.R_types HO_1063002.out BK1056.out (by decide)) (fun _ hk => hk.2) (.int .i64 t1057)) (fun _ hk => hk.2) (.int .i64 t1058)) (fun _ hk => hk.2) (.slice Ao27 x1063002_1.length co27)) (fun _ hk => trivial), tb_⟩

/-! ### impl_AboveBoard_1: function 202 -/
def impl_AboveBoard_1.f (a0 : Int) (a1 : Int) : Option (Bool) := some (decide (a1 > a0))
theorem impl_AboveBoard_1.calls (a0 : Int) (a1 : Int) (r : Bool) (w : World) (h : impl_AboveBoard_1.f a0 a1 = some r) :
  Calls Try.prog 202 #[.int .i64 a0, .int .i64 a1] w fun e w' => e = .returned (.bool r) ∧ Drawn0 w w' := by
 have H : (some (decide (a1 > a0))) = some r := h
 clear h
 obtain rfl := Option.some.inj H
 go_enter Try.func202, Try.ntmps202
 go_wp2
 go_ret
 exact ⟨tf_, dr_⟩

def impl_AboveBoard_1.fn : FnT110 := fun a0 a1 => impl_AboveBoard_1.f a0 a1
theorem impl_AboveBoard_1.fnok (w : World) : FnOk110 w (.func (.func 202) #[] #[]) impl_AboveBoard_1.fn := fun a0 a1 r W h _ => ⟨202, #[], _, rfl, Try.func202, by kernel_rfl, rfl, by simpa using (impl_AboveBoard_1.calls a0 a1 r W h).mono fun e w' ⟨he, hd⟩ => ⟨he, hd.below⟩⟩

/-! ### impl_AboveBoard: function 150 -/
def impl_AboveBoard.f (k : Nat) (a0 : Int) : Option (Int × Int × List Int × Bool) := (impl_isSide.f a0).bind fun t1067 => (if t1067 = true then ((impl_made.f k a0 impl_AboveBoard_1.fn).bind fun bt1068 => (some (bt1068.1, bt1068.2.1, bt1068.2.2, true))) else (some (0, 0, ([] : List Int), false)))
theorem impl_AboveBoard.mono : ∀ a0 k, LeO (impl_AboveBoard.f k a0) (impl_AboveBoard.f (k + 1) a0) := by
 intro a0 k
 unfold impl_AboveBoard.f
 repeat' first | (with_reducible first | exact impl_made.mono _ _ _ | exact LeO.refl _ | exact LeO.none _ | refine LeO.ite ?_ ?_ | refine LeO.bind ?_ (fun _ => ?_)) | exact impl_made.mono _ _ _ | exact LeO.none _ | refine LeO.ite ?_ ?_ | refine LeO.bind ?_ (fun _ => ?_)
theorem impl_AboveBoard.calls (k : Nat) (a0 : Int) (r1 : Int) (r2 : Int) (r3 : List Int) (r4 : Bool) (w : World) (h : impl_AboveBoard.f k a0 = some (r1, r2, r3, r4)) :
  Calls Try.prog 150 #[.int .i64 a0] w fun e w' => ∃ v2_ : Value, e = .returned (.tuple #[.agg #[.int .i64 r1, .int .i64 r2, v2_], .bool r4]) ∧ Kd.R (Kd.int .i64) 3 w' w.heap.size (fun _ => True) v2_ r3 ∧ Below w.heap.size w w' := by
 have hu26 := Try.underlying26
 have HB := A_ (Below.refl w.heap.size w)
 have H : ((impl_isSide.f a0).bind fun t1067 => (if t1067 = true then ((impl_made.f k a0 impl_AboveBoard_1.fn).bind fun bt1068 => (some (bt1068.1, bt1068.2.1, bt1068.2.2, true))) else (some (0, 0, ([] : List Int), false)))) = some (r1, r2, r3, r4) := h
 clear h
 replace H := Option.bind_eq_some_iff.mp H
 obtain ⟨t1067, A20, H⟩ := H
 replace H : (if t1067 = true then ((impl_made.f k a0 impl_AboveBoard_1.fn).bind fun bt1068 => (some (bt1068.1, bt1068.2.1, bt1068.2.2, true))) else (some (0, 0, ([] : List Int), false))) = some (r1, r2, r3, r4) := H
 have A2 := A_ A20
 clear A20
 by_cases c3 : t1067 = true
 ·
  subst c3
  have H1 : ((impl_made.f k a0 impl_AboveBoard_1.fn).bind fun bt1068 => (some (bt1068.1, bt1068.2.1, bt1068.2.2, true))) = some (r1, r2, r3, r4) := by rw [if_pos rfl] at H; exact H
  clear H
  have H := H1
  clear H1
  replace H := Option.bind_eq_some_iff.mp H
  obtain ⟨⟨t1068, t1069, t1070⟩, A40, H⟩ := H
  replace H : (some (t1068, t1069, t1070, true)) = some (r1, r2, r3, r4) := H
  have A4 := A_ A40
  clear A40
  simp only [Option.some.injEq, Prod.mk.injEq] at H
  obtain ⟨rfl, rfl, rfl, rfl⟩ := H
  go_enter Try.func150, Try.ntmps150
  go_wp2_with (first | (refine gd_ 2 ?_; refine bx_ 2 #[.int .i64 0, .int .i64 0, .slice none 0 0] 26 ?_; intro gb1066 hg w5 hbox hb; have BK1066 := A_ (hbox); have GW1066 := A_ ((ts_ hg : w.heap.size ≤ gb1066)); have GE1066 := A_ ((ts_ hg : w.heap.size ≤ gb1066)); replace HB := A_ (below_step tb_ hb); clear hb hbox hg) | (refine gc_ 172 ?_; refine goesT_ (some 5) Try.func172 #[.int .i64 a0] ?_; (with_reducible refine (impl_isSide.calls a0 true _ A2.out).mono ?_); rintro e w' ⟨rfl, ⟨nd, rfl⟩⟩; refine ⟨_, rfl, ?_⟩; (try (rw [drewN_self w5]; generalize hq_ : World.drewN w5 _ = w5; have n0_ : Aside0 (w5.heap[gb1066]? = some (.cells #[.int .i64 0, .int .i64 0, .slice none 0 0] 26 (0, 0))) := ⟨by rw [← hq_]; exact (tk_ BK1066)⟩; have n1_ : Aside0 (Below w.heap.size w w5) := ⟨by rw [← hq_]; exact tb_⟩; clear BK1066 HB hq_; have BK1066 := n0_; have HB := n1_; clear n0_ n1_))) | (refine gc_ 201 ?_; refine goesT_ (some 9) Try.func201 #[.int .i64 a0, .func (.func 202) #[] #[]] ?_; (with_reducible refine (impl_made.calls k a0 (.func (.func 202) #[] #[]) impl_AboveBoard_1.fn t1068 t1069 t1070 _ ?side1 A4.out).mono ?_); (case side1 => exact impl_AboveBoard_1.fnok _); rintro e w6 ⟨v1071, rfl, ho0, hb⟩; refine ⟨_, rfl, ?_⟩; have HO1072 := A_ (Kd.R_lower ho0 (below_size tb_)); replace BK1066 := A_ (blk_below (g := gb1066) (o := .cells #[.int .i64 0, .int .i64 0, .slice none 0 0] 26 (0, 0)) (tk_ BK1066) hb); replace HB := A_ (below_step tb_ hb); (try clear hb); (try clear ho0); obtain ⟨hcz7_0, hcz7_1, hcz7_2, hfz7_0, hfz7_1, hfz7_2⟩ := cf3_ BK1066.out; obtain ⟨Ao8, co8, eo8⟩ := Kd.R_slice HO1072.out; subst eo8))
  refine bodyPost_ret (results_ct rfl _ _ gb1066 26 #[.int .i64 t1068, .int .i64 t1069, .slice Ao8 t1070.length co8] (0, 0) _ rfl (by (with_reducible repeat (first | refine blk_drewN ?_ _ | refine blk_drew ?_ | refine blk_alloc ?_ _)); refine blk_put (cs := #[.int .i64 t1068, .int .i64 t1069, .slice none 0 0]) ?_ 2 _ rfl; (with_reducible repeat (first | refine blk_drewN ?_ _ | refine blk_drew ?_ | refine blk_alloc ?_ _)); refine blk_put (cs := #[.int .i64 t1068, .int .i64 0, .slice none 0 0]) ?_ 1 _ rfl; (with_reducible repeat (first | refine blk_drewN ?_ _ | refine blk_drew ?_ | refine blk_alloc ?_ _)); refine blk_put (cs := #[.int .i64 0, .int .i64 0, .slice none 0 0]) ?_ 0 _ rfl; (with_reducible repeat (first | refine blk_drewN ?_ _ | refine blk_drew ?_ | refine blk_alloc ?_ _)); exact BK1066.out) Try.underlying26 rfl (by kernel_rfl)) rfl ?_
  exact ⟨_, te_, by (with_reducible repeat (first | apply Kd.R_alloc | apply Kd.R_drewN | apply Kd.R_drew)); exact Kd.R_mono (Kd.R_far (p := ⟨gb1066, 2, none⟩) (Kd.R_far (p := ⟨gb1066, 1, none⟩) (Kd.R_far (p := ⟨gb1066, 0, none⟩) (Kd.R_types HO1072.out BK1066.out (by decide)) (fun _ hk => hk.2) (.int .i64 t1068)) (fun _ hk => hk.2) (.int .i64 t1069)) (fun _ hk => hk.2) (.slice Ao8 t1070.length co8)) (fun _ hk => trivial), tb_⟩
 ·
  replace c3 := Bool.eq_false_iff.mpr c3
  subst c3
  have H1 : (some (0, 0, ([] : List Int), false)) = some (r1, r2, r3, r4) := by rw [if_neg (show ¬ (false = true) by decide)] at H; exact H
  clear H
  have H := H1
  clear H1
  simp only [Option.some.injEq, Prod.mk.injEq] at H
  obtain ⟨rfl, rfl, rfl, rfl⟩ := H
  go_enter Try.func150, Try.ntmps150
  go_wp2_with (first | (refine gd_ 2 ?_; refine bx_ 2 #[.int .i64 0, .int .i64 0, .slice none 0 0] 26 ?_; intro gb1066 hg w9 hbox hb; have BK1066 := A_ (hbox); have GW1066 := A_ ((ts_ hg : w.heap.size ≤ gb1066)); have GE1066 := A_ ((ts_ hg : w.heap.size ≤ gb1066)); replace HB := A_ (below_step tb_ hb); clear hb hbox hg) | (refine gc_ 172 ?_; refine goesT_ (some 5) Try.func172 #[.int .i64 a0] ?_; (with_reducible refine (impl_isSide.calls a0 false _ A2.out).mono ?_); rintro e w' ⟨rfl, ⟨nd, rfl⟩⟩; refine ⟨_, rfl, ?_⟩; (try (rw [drewN_self w9]; generalize hq_ : World.drewN w9 _ = w9; have n0_ : Aside0 (w9.heap[gb1066]? = some (.cells #[.int .i64 0, .int .i64 0, .slice none 0 0] 26 (0, 0))) := ⟨by rw [← hq_]; exact (tk_ BK1066)⟩; have n1_ : Aside0 (Below w.heap.size w w9) := ⟨by rw [← hq_]; exact tb_⟩; clear BK1066 HB hq_; have BK1066 := n0_; have HB := n1_; clear n0_ n1_)); obtain ⟨hcz10_0, hcz10_1, hcz10_2, hfz10_0, hfz10_1, hfz10_2⟩ := cf3_ BK1066.out))
  refine bodyPost_ret (results_ct rfl _ _ gb1066 26 #[.int .i64 0, .int .i64 0, .slice none 0 0] (0, 0) _ rfl (by (with_reducible repeat (first | refine blk_drewN ?_ _ | refine blk_drew ?_ | refine blk_alloc ?_ _)); refine blk_put (cs := #[.int .i64 0, .int .i64 0, .slice none 0 0]) ?_ 2 _ rfl; (with_reducible repeat (first | refine blk_drewN ?_ _ | refine blk_drew ?_ | refine blk_alloc ?_ _)); refine blk_put (cs := #[.int .i64 0, .int .i64 0, .slice none 0 0]) ?_ 1 _ rfl; (with_reducible repeat (first | refine blk_drewN ?_ _ | refine blk_drew ?_ | refine blk_alloc ?_ _)); refine blk_put (cs := #[.int .i64 0, .int .i64 0, .slice none 0 0]) ?_ 0 _ rfl; (with_reducible repeat (first | refine blk_drewN ?_ _ | refine blk_drew ?_ | refine blk_alloc ?_ _)); exact BK1066.out) Try.underlying26 rfl (by kernel_rfl)) rfl ?_
  exact ⟨_, te_, by first | exact Kd.R_nil _ _ _ _ _ | exact Kd.N_nil _ _ _ _ _ | exact Kd.V_nil _ _ _ _ _ | exact Kd.Q_nil _ _ _ _ _ | exact Kd.S_nil _ _ _ _ _, tb_⟩

/-! ### impl_ArrowBoard: function 71 -/
def impl_ArrowBoard.f (k : Nat) (a0 : Int) : Option (Int × Int × List Int × Bool) := (impl_isThings.f a0).bind fun t1074 => (if t1074 = true then ((impl_AboveBoard.f k a0).bind fun bt1075 => (some (bt1075.1, bt1075.2.1, bt1075.2.2.1, bt1075.2.2.2))) else (some (0, 0, ([] : List Int), false)))
theorem impl_ArrowBoard.mono : ∀ a0 k, LeO (impl_ArrowBoard.f k a0) (impl_ArrowBoard.f (k + 1) a0) := by
 intro a0 k
 unfold impl_ArrowBoard.f
 repeat' first | (with_reducible first | exact impl_AboveBoard.mono _ _ | exact LeO.refl _ | exact LeO.none _ | refine LeO.ite ?_ ?_ | refine LeO.bind ?_ (fun _ => ?_)) | exact impl_AboveBoard.mono _ _ | exact LeO.none _ | refine LeO.ite ?_ ?_ | refine LeO.bind ?_ (fun _ => ?_)
theorem impl_ArrowBoard.calls (k : Nat) (a0 : Int) (r1 : Int) (r2 : Int) (r3 : List Int) (r4 : Bool) (w : World) (h : impl_ArrowBoard.f k a0 = some (r1, r2, r3, r4)) :
  Calls Try.prog 71 #[.int .i64 a0] w fun e w' => ∃ v2_ : Value, e = .returned (.tuple #[.agg #[.int .i64 r1, .int .i64 r2, v2_], .bool r4]) ∧ Kd.R (Kd.int .i64) 3 w' w.heap.size (fun _ => True) v2_ r3 ∧ Below w.heap.size w w' := by
 have hu26 := Try.underlying26
 have HB := A_ (Below.refl w.heap.size w)
 have H : ((impl_isThings.f a0).bind fun t1074 => (if t1074 = true then ((impl_AboveBoard.f k a0).bind fun bt1075 => (some (bt1075.1, bt1075.2.1, bt1075.2.2.1, bt1075.2.2.2))) else (some (0, 0, ([] : List Int), false)))) = some (r1, r2, r3, r4) := h
 clear h
 replace H := Option.bind_eq_some_iff.mp H
 obtain ⟨t1074, A20, H⟩ := H
 replace H : (if t1074 = true then ((impl_AboveBoard.f k a0).bind fun bt1075 => (some (bt1075.1, bt1075.2.1, bt1075.2.2.1, bt1075.2.2.2))) else (some (0, 0, ([] : List Int), false))) = some (r1, r2, r3, r4) := H
 have A2 := A_ A20
 clear A20
 by_cases c3 : t1074 = true
 ·
  subst c3
  have H1 : ((impl_AboveBoard.f k a0).bind fun bt1075 => (some (bt1075.1, bt1075.2.1, bt1075.2.2.1, bt1075.2.2.2))) = some (r1, r2, r3, r4) := by rw [if_pos rfl] at H; exact H
  clear H
  have H := H1
  clear H1
  replace H := Option.bind_eq_some_iff.mp H
  obtain ⟨⟨t1075, t1076, t1077, t1080⟩, A40, H⟩ := H
  replace H : (some (t1075, t1076, t1077, t1080)) = some (r1, r2, r3, r4) := H
  have A4 := A_ A40
  clear A40
  simp only [Option.some.injEq, Prod.mk.injEq] at H
  obtain ⟨rfl, rfl, rfl, rfl⟩ := H
  go_enter Try.func71, Try.ntmps71
  go_wp2_with (first | (refine gd_ 2 ?_; refine bx_ 2 #[.int .i64 0, .int .i64 0, .slice none 0 0] 26 ?_; intro gb1073 hg w5 hbox hb; have BK1073 := A_ (hbox); have GW1073 := A_ ((ts_ hg : w.heap.size ≤ gb1073)); have GE1073 := A_ ((ts_ hg : w.heap.size ≤ gb1073)); replace HB := A_ (below_step tb_ hb); clear hb hbox hg) | (refine gc_ 149 ?_; refine goesT_ (some 5) Try.func149 #[.int .i64 a0] ?_; (with_reducible refine (impl_isThings.calls a0 true _ A2.out).mono ?_); rintro e w' ⟨rfl, ⟨nd, rfl⟩⟩; refine ⟨_, rfl, ?_⟩; (try (rw [drewN_self w5]; generalize hq_ : World.drewN w5 _ = w5; have n0_ : Aside0 (w5.heap[gb1073]? = some (.cells #[.int .i64 0, .int .i64 0, .slice none 0 0] 26 (0, 0))) := ⟨by rw [← hq_]; exact (tk_ BK1073)⟩; have n1_ : Aside0 (Below w.heap.size w w5) := ⟨by rw [← hq_]; exact tb_⟩; clear BK1073 HB hq_; have BK1073 := n0_; have HB := n1_; clear n0_ n1_))) | (refine gc_ 150 ?_; refine goesT_ (some 9) Try.func150 #[.int .i64 a0] ?_; (with_reducible refine (impl_AboveBoard.calls k a0 t1075 t1076 t1077 t1080 _ A4.out).mono ?_); rintro e w6 ⟨v1078, rfl, ho0, hb⟩; refine ⟨_, rfl, ?_⟩; have HO1079 := A_ (Kd.R_lower ho0 (below_size tb_)); replace BK1073 := A_ (blk_below (g := gb1073) (o := .cells #[.int .i64 0, .int .i64 0, .slice none 0 0] 26 (0, 0)) (tk_ BK1073) hb); replace HB := A_ (below_step tb_ hb); (try clear hb); (try clear ho0); obtain ⟨hcz7_0, hcz7_1, hcz7_2, hfz7_0, hfz7_1, hfz7_2⟩ := cf3_ BK1073.out; obtain ⟨Ao8, co8, eo8⟩ := Kd.R_slice HO1079.out; subst eo8))
  refine bodyPost_ret (results_ct rfl _ _ gb1073 26 #[.int .i64 t1075, .int .i64 t1076, .slice Ao8 t1077.length co8] (0, 0) _ rfl (by (with_reducible repeat (first | refine blk_drewN ?_ _ | refine blk_drew ?_ | refine blk_alloc ?_ _)); refine blk_put (cs := #[.int .i64 t1075, .int .i64 t1076, .slice none 0 0]) ?_ 2 _ rfl; (with_reducible repeat (first | refine blk_drewN ?_ _ | refine blk_drew ?_ | refine blk_alloc ?_ _)); refine blk_put (cs := #[.int .i64 t1075, .int .i64 0, .slice none 0 0]) ?_ 1 _ rfl; (with_reducible repeat (first | refine blk_drewN ?_ _ | refine blk_drew ?_ | refine blk_alloc ?_ _)); refine blk_put (cs := #[.int .i64 0, .int .i64 0, .slice none 0 0]) ?_ 0 _ rfl; (with_reducible repeat (first | refine blk_drewN ?_ _ | refine blk_drew ?_ | refine blk_alloc ?_ _)); exact BK1073.out) Try.underlying26 rfl (by kernel_rfl)) rfl ?_
  exact ⟨_, te_, by (with_reducible repeat (first | apply Kd.R_alloc | apply Kd.R_drewN | apply Kd.R_drew)); exact Kd.R_mono (Kd.R_far (p := ⟨gb1073, 2, none⟩) (Kd.R_far (p := ⟨gb1073, 1, none⟩) (Kd.R_far (p := ⟨gb1073, 0, none⟩) (Kd.R_types HO1079.out BK1073.out (by decide)) (fun _ hk => hk.2) (.int .i64 t1075)) (fun _ hk => hk.2) (.int .i64 t1076)) (fun _ hk => hk.2) (.slice Ao8 t1077.length co8)) (fun _ hk => trivial), tb_⟩
 ·
  replace c3 := Bool.eq_false_iff.mpr c3
  subst c3
  have H1 : (some (0, 0, ([] : List Int), false)) = some (r1, r2, r3, r4) := by rw [if_neg (show ¬ (false = true) by decide)] at H; exact H
  clear H
  have H := H1
  clear H1
  simp only [Option.some.injEq, Prod.mk.injEq] at H
  obtain ⟨rfl, rfl, rfl, rfl⟩ := H
  go_enter Try.func71, Try.ntmps71
  go_wp2_with (first | (refine gd_ 2 ?_; refine bx_ 2 #[.int .i64 0, .int .i64 0, .slice none 0 0] 26 ?_; intro gb1073 hg w9 hbox hb; have BK1073 := A_ (hbox); have GW1073 := A_ ((ts_ hg : w.heap.size ≤ gb1073)); have GE1073 := A_ ((ts_ hg : w.heap.size ≤ gb1073)); replace HB := A_ (below_step tb_ hb); clear hb hbox hg) | (refine gc_ 149 ?_; refine goesT_ (some 5) Try.func149 #[.int .i64 a0] ?_; (with_reducible refine (impl_isThings.calls a0 false _ A2.out).mono ?_); rintro e w' ⟨rfl, ⟨nd, rfl⟩⟩; refine ⟨_, rfl, ?_⟩; (try (rw [drewN_self w9]; generalize hq_ : World.drewN w9 _ = w9; have n0_ : Aside0 (w9.heap[gb1073]? = some (.cells #[.int .i64 0, .int .i64 0, .slice none 0 0] 26 (0, 0))) := ⟨by rw [← hq_]; exact (tk_ BK1073)⟩; have n1_ : Aside0 (Below w.heap.size w w9) := ⟨by rw [← hq_]; exact tb_⟩; clear BK1073 HB hq_; have BK1073 := n0_; have HB := n1_; clear n0_ n1_)); obtain ⟨hcz10_0, hcz10_1, hcz10_2, hfz10_0, hfz10_1, hfz10_2⟩ := cf3_ BK1073.out))
  refine bodyPost_ret (results_ct rfl _ _ gb1073 26 #[.int .i64 0, .int .i64 0, .slice none 0 0] (0, 0) _ rfl (by (with_reducible repeat (first | refine blk_drewN ?_ _ | refine blk_drew ?_ | refine blk_alloc ?_ _)); refine blk_put (cs := #[.int .i64 0, .int .i64 0, .slice none 0 0]) ?_ 2 _ rfl; (with_reducible repeat (first | refine blk_drewN ?_ _ | refine blk_drew ?_ | refine blk_alloc ?_ _)); refine blk_put (cs := #[.int .i64 0, .int .i64 0, .slice none 0 0]) ?_ 1 _ rfl; (with_reducible repeat (first | refine blk_drewN ?_ _ | refine blk_drew ?_ | refine blk_alloc ?_ _)); refine blk_put (cs := #[.int .i64 0, .int .i64 0, .slice none 0 0]) ?_ 0 _ rfl; (with_reducible repeat (first | refine blk_drewN ?_ _ | refine blk_drew ?_ | refine blk_alloc ?_ _)); exact BK1073.out) Try.underlying26 rfl (by kernel_rfl)) rfl ?_
  exact ⟨_, te_, by first | exact Kd.R_nil _ _ _ _ _ | exact Kd.N_nil _ _ _ _ _ | exact Kd.V_nil _ _ _ _ _ | exact Kd.Q_nil _ _ _ _ _ | exact Kd.S_nil _ _ _ _ _, tb_⟩

/-! ### impl_Board_isFile: function 132 -/
def impl_Board_isFile.l0 : Nat → List Int → Int → Int → Int → Int → List Int → Option (Bool)
 | 0, _, _, _, _, _, _ => none
 | k + 1, x12, x13, x14, x1082000, x1082001, x1082002 => if x14 < x13 then (if 0 ≤ x14 then (if x14 < (x12.length : Int) then (if (rd x12 x14) = (-1) then (impl_Board_isFile.l0 k x12 x13 (wrap64 (x14 + 1)) x1082000 x1082001 x1082002) else ((impl_within.f (rd x12 x14) 0 (wrap64 (x1082000 - 1))).bind fun t1083 => (if t1083 = true then ((impl_Board_has.f x1082000 x1082001 x1082002 (rd x12 x14) x14).bind fun t1084 => (if t1084 = true then (impl_Board_isFile.l0 k x12 x13 (wrap64 (x14 + 1)) x1082000 x1082001 x1082002) else (some false))) else (some false)))) else (none)) else (none)) else (some true)
def impl_Board_isFile.f (k : Nat) (a0_0 : Int) (a0_1 : Int) (l0_2 : List Int) (l1 : List Int) : Option (Bool) := if (l1.length : Int) = a0_1 then (impl_Board_isFile.l0 k l1 (l1.length : Int) 0 a0_0 a0_1 l0_2) else (some false)
theorem impl_Board_isFile.mono_l : ∀ k, (∀ y0 y1 y2 y3 y4 y5, LeO (impl_Board_isFile.l0 k y0 y1 y2 y3 y4 y5) (impl_Board_isFile.l0 (k + 1) y0 y1 y2 y3 y4 y5))
 | 0 => fun _ _ _ _ _ _ r h => by simp [impl_Board_isFile.l0] at h
 | k + 1 => by
  have ih0 := impl_Board_isFile.mono_l k
  ·
   intro y0 y1 y2 y3 y4 y5
   unfold impl_Board_isFile.l0
   repeat' first | (with_reducible first | exact ih0 _ _ _ _ _ _ | exact LeO.refl _ | exact LeO.none _ | refine LeO.ite ?_ ?_ | refine LeO.bind ?_ (fun _ => ?_)) | exact ih0 _ _ _ _ _ _ | exact LeO.none _ | refine LeO.ite ?_ ?_ | refine LeO.bind ?_ (fun _ => ?_)
theorem impl_Board_isFile.mono : ∀ a0 a1 a2 a3 k, LeO (impl_Board_isFile.f k a0 a1 a2 a3) (impl_Board_isFile.f (k + 1) a0 a1 a2 a3) := by
 intro a0 a1 a2 a3 k
 have ih0 := impl_Board_isFile.mono_l k
 unfold impl_Board_isFile.f
 repeat' first | (with_reducible first | exact ih0 _ _ _ _ _ _ | exact LeO.refl _ | exact LeO.none _ | refine LeO.ite ?_ ?_ | refine LeO.bind ?_ (fun _ => ?_)) | exact ih0 _ _ _ _ _ _ | exact LeO.none _ | refine LeO.ite ?_ ?_ | refine LeO.bind ?_ (fun _ => ?_)
theorem impl_Board_isFile.calls (k : Nat) (a0_0 : Int) (a0_1 : Int) (A0_2 : Option Addr) (c0_2 : Nat) (l0_2 : List Int) (A1 : Option Addr) (c1 : Nat) (l1 : List Int) (r : Bool) (w : World) (hr0_2 : Kd.C (Kd.int .i64) w A0_2 l0_2.length l0_2) (hc0_2 : l0_2.length ≤ c0_2) (hr1 : Kd.C (Kd.int .i64) w A1 l1.length l1) (hc1 : l1.length ≤ c1) (h : impl_Board_isFile.f k a0_0 a0_1 l0_2 l1 = some r) :
  Calls Try.prog 132 #[.agg #[.int .i64 a0_0, .int .i64 a0_1, .slice A0_2 l0_2.length c0_2], .slice A1 l1.length c1] w fun e w' => e = .returned (.bool r) ∧ Below w.heap.size w w' := by
 have hu26 := Try.underlying26
 have HR0_2 := A_ hr0_2
 have HC0_2 := A_ hc0_2
 clear hr0_2 hc0_2
 have HR1 := A_ hr1
 have HC1 := A_ hc1
 clear hr1 hc1
 have HB := A_ (Below.refl w.heap.size w)
 have H : (if (l1.length : Int) = a0_1 then (impl_Board_isFile.l0 k l1 (l1.length : Int) 0 a0_0 a0_1 l0_2) else (some false)) = some r := h
 clear h
 by_cases c3 : (l1.length : Int) = a0_1
 ·
  rw [if_pos c3] at H
  have c3b0 : ((l1.length : Int) == a0_1) = true := beq_iff_eq.mpr c3
  have c3b1 : ((l1.length : Int) != a0_1) = false := bne_eq_false_iff_eq.mpr c3
  clear c3
  have H' := A_ H
  clear H
  go_enter Try.func132, Try.ntmps132
  go_wp2_with (first | (refine gd_ 2 ?_; refine bx_ 2 #[.int .i64 a0_0, .int .i64 a0_1, .slice A0_2 l0_2.length c0_2] 26 ?_; intro gb1081 hg w4 hbox hb; have BK1081 := A_ (hbox); have GW1081 := A_ ((ts_ hg : w.heap.size ≤ gb1081)); have GE1081 := A_ ((ts_ hg : w.heap.size ≤ gb1081)); replace HB := A_ (below_step tb_ hb); clear hb hbox hg; obtain ⟨hcz5_0, hcz5_1, hcz5_2, hfz5_0, hfz5_1, hfz5_2⟩ := cf3_ BK1081.out))
  go_loopg [14] k (fun kq v14 w' => ∃ (x14_1 : Int), v14 = .int .i64 x14_1 ∧ Aside0 (impl_Board_isFile.l0 kq l1 (l1.length : Int) x14_1 a0_0 a0_1 l0_2 = some r) ∧ Aside0 (kq ≤ k) ∧ Aside0 (w'.heap[gb1081]? = some (.cells #[.int .i64 a0_0, .int .i64 a0_1, (.slice A0_2 l0_2.length c0_2)] 26 (0, 0))) ∧ Aside0 (Below w.heap.size w w'))
  case atStart => exact ⟨(0), tf_, H', ⟨Nat.le_refl _⟩, ⟨tk_ BK1081⟩, ⟨tb_⟩⟩
  case round =>
   clear H'
   try clear c1
   try clear p2
   try clear c3
   try clear c3b0
   try clear c3b1
   try clear hcz5_0
   try clear hcz5_1
   try clear hcz5_2
   try clear hfz5_0
   try clear hfz5_1
   try clear hfz5_2
   obtain ⟨x14_1, rfl, HA, HK1, BK1081, HB⟩ := hrel
   cases gk with
   | zero => exact absurd HA.out (by simp [impl_Board_isFile.l0])
   | succ k1 =>
    have H := HA.out
    clear HA
    simp only [impl_Board_isFile.l0] at H
    by_cases c6 : x14_1 < (l1.length : Int)
    ·
     rw [if_pos c6] at H
     have c6b0 := decide_eq_true c6
     clear c6
     by_cases c7 : 0 ≤ x14_1
     ·
      rw [if_pos c7] at H
      have c7b0 := decide_eq_true c7
      clear c7
      by_cases c8 : x14_1 < (l1.length : Int)
      ·
       rw [if_pos c8] at H
       have c8b0 := decide_eq_true c8
       clear c8
       by_cases c9 : (rd l1 x14_1) = (-1)
       ·
        rw [if_pos c9] at H
        have c9b0 : ((rd l1 x14_1) == (-1)) = true := beq_iff_eq.mpr c9
        have c9b1 : ((rd l1 x14_1) != (-1)) = false := bne_eq_false_iff_eq.mpr c9
        clear c9
        have H' := A_ H
        clear H
        have p1082 : 0 ≤ (x14_1 : Int) := od_
        have q1082 : x14_1 < (l1.length : Int) := od_
        obtain ⟨ad1082, e1082, hx1082_0⟩ := Kd.at_int HR1.out x14_1 p1082 q1082
        cases e1082
        (try replace hx1082_0 := (HB.out.cell (World.block_lt_of_cell? w _ hx1082_0)).trans hx1082_0)
        replace p1082 := eq_true p1082
        replace q1082 := eq_true q1082
        go_wp2
        go_roundg k1
        case measure => have := HK1.out; omega
        case rel => exact ⟨(wrap64 (x14_1 + 1)), tf_, H', ⟨by have := HK1.out; omega⟩, ⟨tk_ BK1081⟩, ⟨tb_⟩⟩
       ·
        rw [if_neg c9] at H
        have c9b0 : ((rd l1 x14_1) == (-1)) = false := beq_eq_false_iff_ne.mpr c9
        have c9b1 : ((rd l1 x14_1) != (-1)) = true := bne_iff_ne.mpr c9
        replace H := Option.bind_eq_some_iff.mp H
        obtain ⟨t1083, A100, H⟩ := H
        replace H : (if t1083 = true then ((impl_Board_has.f a0_0 a0_1 l0_2 (rd l1 x14_1) x14_1).bind fun t1084 => (if t1084 = true then (impl_Board_isFile.l0 k1 l1 (l1.length : Int) (wrap64 (x14_1 + 1)) a0_0 a0_1 l0_2) else (some false))) else (some false)) = some r := H
        have A10 := A_ A100
        clear A100
        by_cases c11 : t1083 = true
        ·
         subst c11
         have H1 : ((impl_Board_has.f a0_0 a0_1 l0_2 (rd l1 x14_1) x14_1).bind fun t1084 => (if t1084 = true then (impl_Board_isFile.l0 k1 l1 (l1.length : Int) (wrap64 (x14_1 + 1)) a0_0 a0_1 l0_2) else (some false))) = some r := by rw [if_pos rfl] at H; exact H
         clear H
         have H := H1
         clear H1
         replace H := Option.bind_eq_some_iff.mp H
         obtain ⟨t1084, A120, H⟩ := H
         replace H : (if t1084 = true then (impl_Board_isFile.l0 k1 l1 (l1.length : Int) (wrap64 (x14_1 + 1)) a0_0 a0_1 l0_2) else (some false)) = some r := H
         have A12 := A_ A120
         clear A120
         by_cases c13 : t1084 = true
         ·
          subst c13
          have H1 : (impl_Board_isFile.l0 k1 l1 (l1.length : Int) (wrap64 (x14_1 + 1)) a0_0 a0_1 l0_2) = some r := by rw [if_pos rfl] at H; exact H
          clear H
          have H := H1
          clear H1
          have H' := A_ H
          clear H
          have p1082 : 0 ≤ (x14_1 : Int) := od_
          have q1082 : x14_1 < (l1.length : Int) := od_
          obtain ⟨ad1082, e1082, hx1082_0⟩ := Kd.at_int HR1.out x14_1 p1082 q1082
          cases e1082
          (try replace hx1082_0 := (HB.out.cell (World.block_lt_of_cell? w _ hx1082_0)).trans hx1082_0)
          replace p1082 := eq_true p1082
          replace q1082 := eq_true q1082
          obtain ⟨hcz14_0, hcz14_1, hcz14_2, hfz14_0, hfz14_1, hfz14_2⟩ := cf3_ BK1081.out
          go_wp2_with (first | (go_at_call 113; (with_reducible refine (impl_within.calls (rd l1 x14_1) 0 (wrap64 (a0_0 - 1)) true _ A10.out).mono ?_); rintro e w' ⟨rfl, ⟨nd, rfl⟩⟩) | (go_at_call 175; (with_reducible refine (impl_Board_has.calls a0_0 a0_1 _ _ l0_2 (rd l1 x14_1) x14_1 true _ ?side1 ?side2 A12.out).mono ?_); (case side1 => repeat (first | exact (Kd.C_below HR0_2.out tb_) | (with_reducible refine Kd.C_alloc ?_ _) | (with_reducible refine Kd.C_drewN ?_ _) | (with_reducible refine Kd.C_drew ?_))); (case side2 => exact HC0_2.out); rintro e w15 ⟨rfl, hb⟩; replace BK1081 := A_ (blk_below (g := gb1081) (o := .cells #[.int .i64 a0_0, .int .i64 a0_1, .slice A0_2 l0_2.length c0_2] 26 (0, 0)) (tk_ BK1081) hb); replace HB := A_ (below_step tb_ hb); (try clear hb)))
          go_roundg k1
          case measure => have := HK1.out; omega
          case rel => exact ⟨(wrap64 (x14_1 + 1)), tf_, H', ⟨by have := HK1.out; omega⟩, ⟨tk_ BK1081⟩, ⟨tb_⟩⟩
         ·
          replace c13 := Bool.eq_false_iff.mpr c13
          subst c13
          have H1 : (some false) = some r := by rw [if_neg (show ¬ (false = true) by decide)] at H; exact H
          clear H
          have H := H1
          clear H1
          obtain rfl := Option.some.inj H
          have p1082 : 0 ≤ (x14_1 : Int) := od_
          have q1082 : x14_1 < (l1.length : Int) := od_
          obtain ⟨ad1082, e1082, hx1082_0⟩ := Kd.at_int HR1.out x14_1 p1082 q1082
          cases e1082
          (try replace hx1082_0 := (HB.out.cell (World.block_lt_of_cell? w _ hx1082_0)).trans hx1082_0)
          replace p1082 := eq_true p1082
          replace q1082 := eq_true q1082
          obtain ⟨hcz16_0, hcz16_1, hcz16_2, hfz16_0, hfz16_1, hfz16_2⟩ := cf3_ BK1081.out
          go_wp2_with (first | (go_at_call 113; (with_reducible refine (impl_within.calls (rd l1 x14_1) 0 (wrap64 (a0_0 - 1)) true _ A10.out).mono ?_); rintro e w' ⟨rfl, ⟨nd, rfl⟩⟩) | (go_at_call 175; (with_reducible refine (impl_Board_has.calls a0_0 a0_1 _ _ l0_2 (rd l1 x14_1) x14_1 false _ ?side1 ?side2 A12.out).mono ?_); (case side1 => repeat (first | exact (Kd.C_below HR0_2.out tb_) | (with_reducible refine Kd.C_alloc ?_ _) | (with_reducible refine Kd.C_drewN ?_ _) | (with_reducible refine Kd.C_drew ?_))); (case side2 => exact HC0_2.out); rintro e w17 ⟨rfl, hb⟩; replace BK1081 := A_ (blk_below (g := gb1081) (o := .cells #[.int .i64 a0_0, .int .i64 a0_1, .slice A0_2 l0_2.length c0_2] 26 (0, 0)) (tk_ BK1081) hb); replace HB := A_ (below_step tb_ hb); (try clear hb)))
          go_ret
          exact ⟨te_, tb_⟩
        ·
         replace c11 := Bool.eq_false_iff.mpr c11
         subst c11
         have H1 : (some false) = some r := by rw [if_neg (show ¬ (false = true) by decide)] at H; exact H
         clear H
         have H := H1
         clear H1
         obtain rfl := Option.some.inj H
         have p1082 : 0 ≤ (x14_1 : Int) := od_
         have q1082 : x14_1 < (l1.length : Int) := od_
         obtain ⟨ad1082, e1082, hx1082_0⟩ := Kd.at_int HR1.out x14_1 p1082 q1082
         cases e1082
         (try replace hx1082_0 := (HB.out.cell (World.block_lt_of_cell? w _ hx1082_0)).trans hx1082_0)
         replace p1082 := eq_true p1082
         replace q1082 := eq_true q1082
         obtain ⟨hcz18_0, hcz18_1, hcz18_2, hfz18_0, hfz18_1, hfz18_2⟩ := cf3_ BK1081.out
         go_wp2_with (first | (go_at_call 113; (with_reducible refine (impl_within.calls (rd l1 x14_1) 0 (wrap64 (a0_0 - 1)) false _ A10.out).mono ?_); rintro e w' ⟨rfl, ⟨nd, rfl⟩⟩))
         go_ret
         exact ⟨te_, tb_⟩
      ·
       rw [if_neg c8] at H
       exact absurd H (by simp)
     ·
      rw [if_neg c7] at H
      exact absurd H (by simp)
    ·
     rw [if_neg c6] at H
     have c6b0 := decide_eq_false c6
     clear c6
     obtain rfl := Option.some.inj H
     go_wp2
     go_ret
     exact ⟨te_, tb_⟩
 ·
  rw [if_neg c3] at H
  have c3b0 : ((l1.length : Int) == a0_1) = false := beq_eq_false_iff_ne.mpr c3
  have c3b1 : ((l1.length : Int) != a0_1) = true := bne_iff_ne.mpr c3
  obtain rfl := Option.some.inj H
  go_enter Try.func132, Try.ntmps132
  go_wp2_with (first | (refine gd_ 2 ?_; refine bx_ 2 #[.int .i64 a0_0, .int .i64 a0_1, .slice A0_2 l0_2.length c0_2] 26 ?_; intro gb1081 hg w19 hbox hb; have BK1081 := A_ (hbox); have GW1081 := A_ ((ts_ hg : w.heap.size ≤ gb1081)); have GE1081 := A_ ((ts_ hg : w.heap.size ≤ gb1081)); replace HB := A_ (below_step tb_ hb); clear hb hbox hg; obtain ⟨hcz20_0, hcz20_1, hcz20_2, hfz20_0, hfz20_1, hfz20_2⟩ := cf3_ BK1081.out))
  go_ret
  exact ⟨te_, tb_⟩

/-! ### slices_Insert_int_int: function 134 -/
def slices_Insert_int_int.ren : Go.Shelf.Ren := ⟨fun | 21 => 134 | 27 => 194 | 28 => 195 | 35 => 218 | 39 => 228 | n => n, fun | 22 => 22 | 3 => 3 | 0 => 0 | 4 => 4 | n => n, fun | n => n⟩
theorem slices_Insert_int_int.lays : Go.Proofs.Lays2.n21 Try.prog slices_Insert_int_int.ren := {
 mixed := by kernel_rfl
 f21 := Try.func134.trans (congrArg some (by kernel_rfl))
 f27 := Try.func194.trans (congrArg some (by kernel_rfl))
 f28 := Try.func195.trans (congrArg some (by kernel_rfl))
 f35 := Try.func218.trans (congrArg some (by kernel_rfl))
 f39 := Try.func228.trans (congrArg some (by kernel_rfl))
 t0 := Try.underlying0
 a0 := Try.isAgg0
 z0 := Try.sizeOf0
 v0 := Try.zeroValue0
 t3 := Try.underlying3
 a3 := Try.isAgg3
 z3 := Try.sizeOf3
 v3 := Try.zeroValue3
 t4 := Try.underlying4
 a4 := Try.isAgg4
 z4 := Try.sizeOf4
 v4 := Try.zeroValue4
 t22 := Try.underlying22
 a22 := Try.isAgg22
 z22 := Try.sizeOf22
 v22 := Try.zeroValue22
 i3 := info3 }
def slices_Insert_int_int.f (l : List Int) (i x : Int) : Option (List Int) := if 1 ≤ i ∧ i ≤ (l.length : Int) ∧ l.length ≤ 1000000 then some (Cap.insL l i.toNat x) else none
theorem slices_Insert_int_int.calls (P : Nat → Prop) (v : Value) (l : List Int) (i : Nat) (x : Int) (base vb : Nat) (W : World) (hi1 : 1 ≤ i) (hi2 : i ≤ l.length) (hl : l.length ≤ 1000000) (hR : Kd.R (Kd.int .i64) 3 W base P v l) (hv : W.heap[vb]? = some (.cells #[.int .i64 x] 3 (0, 0))) (hne : ¬ P vb) :
  Calls Try.prog 134 #[v, .int .i64 (i : Int), .slice (some ⟨vb, 0, none⟩) 1 1] W fun e w' => ∃ v' : Value, e = .returned v' ∧ Kd.R (Kd.int .i64) 3 w' base (fun k => P k ∨ W.heap.size ≤ k) v' (Cap.insL l i x) ∧ Kept W w' P ∧ (∀ N w0, N ≤ base → Below N w0 W → Below N w0 w') := by
 obtain ⟨g, cap, cur, rfl, hb, hP, hh, hn, hm, hs, ht⟩ := Cap.R_open hR (fun e => by subst e; simp at hi2; omega)
 have hcl : (encs (Value.int .i64) l).length = l.length := by simp [encs]
 have hgl := Cap.lt_of_at hh
 have hcs : ∀ j v, (encs (Value.int .i64) l)[j]? = some v → W.cell? ⟨g, 0 + j, none⟩ = some v := fun j v hj => by
  have hjl : j < l.length := by rw [← hcl]; exact (List.getElem?_eq_some_iff.1 hj).1
  rw [Nat.zero_add, blk_cell hh j, ht j hjl]
  simp only [encs, List.getElem?_map, List.getElem?_eq_getElem hjl, Option.map_some] at hj
  exact hj
 have hvs : ∀ j v, [Value.int .i64 x][j]? = some v → W.cell? ⟨vb, 0 + j, none⟩ = some v := fun j v hj => by
  rw [Nat.zero_add, blk_cell hv j]
  simpa using hj
 have h1c : ∀ v ∈ encs (Value.int .i64) l, v.oneCell' = true := fun v hv => by
  obtain ⟨y, _, rfl⟩ := List.mem_map.1 hv
  rfl
 have h1v : ∀ v ∈ [Value.int .i64 x], v.oneCell' = true := fun v hv => by rw [List.mem_singleton.1 hv]; rfl
 have hlen := Cap.insL_len l i x hi2
 have hrt : slices_Insert_int_int.ren.t 3 = 3 := rfl
 have hml : cap ≤ 9223372036854775807 := by simpa only [maxLen] using hm
 have hget : ∀ k (hk : k < (Cap.insL l i x).length), (if k < i then l[k]? else if k = i then some x else l[k - 1]?) = some ((Cap.insL l i x)[k]) := fun k hk => by
  rw [← Cap.insL_get l i x hi2 k hk, List.getElem?_eq_getElem hk]
 have hcur : ∀ k, k < l.length → cur[k]? = (l[k]?).map (Value.int .i64) := fun k hk => by rw [ht k hk, List.getElem?_eq_getElem hk]; rfl
 by_cases hroom : l.length + 1 ≤ cap
 ·
  by_cases hend : i = l.length
  ·
   subst hend
   refine (Go.Proofs.Any2.slices_Insert_int_end_room slices_Insert_int_int.lays g 0 l.length cap vb 0 1 1 [.int .i64 x] W (by omega) hroom hml rfl (fun j hj => ?_) (fun j hj => blk_frozen hh _) hvs h1v).mono ?_
   ·
    rw [blk_cell hh, Array.getElem?_eq_getElem (by omega)]; rfl
   ·
    rintro e w' ⟨rfl, rfl⟩
    refine ⟨_, rfl, ?_, ⟨by rw [Cap.size_puts]; exact Nat.le_refl _, fun k hk hnk => Cap.far_puts _ _ _ _ (fun e => hnk (e ▸ hP))⟩, fun N w0 hN hB => Cap.below_puts (Nat.le_trans hN hb) _ _ hB⟩
    refine Cap.R_shutn hlen hb (Cap.blk_puts _ _ hh) (by omega) hm (by rw [Cap.putL_size]; exact hs) (fun k hk => ?_) (.inl hP)
    rw [Cap.putL_get _ _ _ _ (by omega)]
    have e1 := hget k hk
    simp only [List.length_singleton]
    by_cases h1 : k < l.length
    ·
     rw [if_pos h1] at e1
     rw [if_neg (by omega), hcur k h1, e1]; rfl
    ·
     have h2 : k = l.length := by omega
     rw [if_neg h1, if_pos h2] at e1
     rw [if_pos (by omega), show k - (0 + l.length) = 0 by omega, ← Option.some.inj e1]; rfl
  ·
   have hsa : W.shape? vb = some (3, 1) := by unfold World.shape?; rw [hv]; rfl
   have hsb : W.shape? g = some (3, cur.size) := by unfold World.shape?; rw [hh]
   refine (Go.Proofs.Any2.slices_Insert_int_shift slices_Insert_int_int.lays g 0 l.length cap i vb 0 1 1 (encs (Value.int .i64) l) [.int .i64 x] W (by omega) (by omega) hroom hml (fun e => hne (e ▸ hP)) hcl rfl hcs (fun j hj => ?_) (fun j hj => blk_frozen hh _) hvs h1c h1v 3 3 1 cur.size hsa hsb (by omega) (blk_frozen hv _) (blk_frozen hv _)).mono ?_
   ·
    rw [blk_cell hh, Array.getElem?_eq_getElem (by omega)]; rfl
   ·
    rintro e w' ⟨rfl, rfl⟩
    have hhd : W.drew.heap[g]? = some (.cells cur 3 (0, 0)) := hh
    refine ⟨_, rfl, ?_, ⟨by rw [Cap.size_puts, Cap.size_puts]; exact Nat.le_refl _, fun k hk hnk => (Cap.far_puts (g := g) _ _ _ k (fun e => hnk (e ▸ hP))).trans (Cap.far_puts (g := g) _ _ _ k (fun e => hnk (e ▸ hP)))⟩, fun N w0 hN hB => Cap.below_puts (Nat.le_trans hN hb) _ _ (Cap.below_puts (Nat.le_trans hN hb) _ _ (below_drew hB))⟩
    refine Cap.R_shutn hlen hb (Cap.blk_puts _ _ (Cap.blk_puts _ _ hhd)) (by omega) hm (by rw [Cap.putL_size, Cap.putL_size]; exact hs) (fun k hk => ?_) (.inl hP)
    rw [Cap.putL_get _ _ _ _ (by rw [Cap.putL_size]; omega), Cap.putL_get _ _ _ _ (by omega)]
    have e1 := hget k hk
    simp only [List.length_singleton, List.length_drop, hcl]
    by_cases h1 : k < i
    ·
     rw [if_pos h1] at e1
     rw [if_neg (by omega), if_neg (by omega), hcur k (by omega), e1]; rfl
    ·
     rw [if_neg h1] at e1
     by_cases h2 : k = i
     ·
      rw [if_pos h2] at e1
      rw [if_pos (by omega), show k - (0 + i) = 0 by omega, ← Option.some.inj e1]; rfl
     ·
      rw [if_neg h2] at e1
      rw [if_neg (by omega), if_pos (by omega), List.getElem?_drop, show i + (k - (0 + (i + 1))) = k - 1 by omega]
      simp only [encs, List.getElem?_map, e1]; rfl
 ·
  have hng : W.heap.size ≠ g := by omega
  have hgc := grownCap_ge W (l.length + 1) cap 3
  have hgm := grownCap_le_maxLen W (l.length + 1) cap 3 (by simp only [maxLen]; omega)
  have hzs : ∀ m, (Builtin.zeroCells (Value.int .i64 0).cells m).size = m := fun m => by simp [Builtin.zeroCells, Value.cells]
  by_cases hend : i = l.length
  ·
   subst hend
   refine (Go.Proofs.Any2.slices_Insert_int_end_grow slices_Insert_int_int.lays (some ⟨g, 0, none⟩) l.length cap vb 0 1 1 (encs (Value.int .i64) l) [.int .i64 x] W (by omega) hn (by omega) (by omega) hcl rfl (fun e => by cases e) (fun a ha j v hj => ?_) hvs h1v).mono ?_
   ·
    obtain rfl := Option.some.inj ha
    rw [Addr.add_lit]
    exact hcs j v hj
   ·
    rintro e w' ⟨he, hw⟩
    rw [hrt] at he hw
    subst he hw
    have hb9 : Below W.heap.size W (W.drew.alloc (.cells ((encs (Value.int .i64) l ++ [Value.int .i64 x]).toArray ++ Builtin.zeroCells (Value.int .i64 0).cells (grownCap W (l.length + 1) cap 3 - (l.length + 1))) 3)) := below_alloc (below_drew (Below.refl _ _)) _
    refine ⟨_, rfl, ?_, Kept.of_below hb9 _, fun N w0 hN hB => below_then hB (by omega) hb9⟩
    refine Cap.R_shutn hlen (show base ≤ W.heap.size by omega) (blk_new W.drew _) (by omega) hgm (by simp [hzs, encs]; omega) (fun k hk => ?_) (.inr (Nat.le_refl _))
    rw [Array.getElem?_append_left (by simp [encs]; omega)]
    have e1 := hget k hk
    by_cases h1 : k < l.length
    ·
     rw [if_pos h1] at e1
     simp only [List.getElem?_toArray]
     rw [List.getElem?_append_left (by omega)]
     simp only [encs, List.getElem?_map, e1]; rfl
    ·
     have h2 : k = l.length := by omega
     rw [if_neg h1, if_pos h2] at e1
     simp only [List.getElem?_toArray]
     rw [List.getElem?_append_right (by omega), hcl, show k - l.length = 0 by omega, ← Option.some.inj e1]; rfl
  ·
   refine (Go.Proofs.Any2.slices_Insert_int_grow slices_Insert_int_int.lays g 0 l.length cap i vb 0 1 1 (encs (Value.int .i64) l) [.int .i64 x] W (by omega) (by omega) hn (by omega) (by omega) hcl rfl hcs hvs h1c h1v).mono ?_
   rintro e w' ⟨he, hw⟩
   rw [hrt] at he hw
   subst he hw
   generalize hcc : ((encs (Value.int .i64) l).take i).toArray ++ Builtin.zeroCells (Value.int .i64 0).cells (l.length + 1 - i) ++ Builtin.zeroCells (Value.int .i64 0).cells (grownCap W (l.length + 1) cap 3 - (l.length + 1)) = cc
   have hsz : cc.size = grownCap W (l.length + 1) cap 3 := by rw [← hcc]; simp [hzs, encs]; omega
   have h0 : (W.alloc (.cells cc 3)).heap[W.heap.size]? = some (.cells cc 3 (0, 0)) := blk_new W _
   have hb9 : Below W.heap.size W ((((W.alloc (.cells cc 3)).drew.setCells W.heap.size i [.int .i64 x]).drew).setCells W.heap.size (i + 1) ((encs (Value.int .i64) l).drop i)) := Cap.below_puts (Nat.le_refl _) _ _ (below_drew (Cap.below_puts (Nat.le_refl _) _ _ (below_drew (below_alloc (Below.refl _ _) _))))
   refine ⟨_, rfl, ?_, Kept.of_below hb9 _, fun N w0 hN hB => below_then hB (by omega) hb9⟩
   refine Cap.R_shutn hlen (show base ≤ W.heap.size by omega) (Cap.blk_puts _ _ (W := ((W.alloc (.cells cc 3)).drew.setCells W.heap.size i [.int .i64 x]).drew) (Cap.blk_puts _ _ (W := (W.alloc (.cells cc 3)).drew) h0)) (by omega) hgm (by rw [Cap.putL_size, Cap.putL_size]; exact hsz) (fun k hk => ?_) (.inr (Nat.le_refl _))
   rw [Cap.putL_get _ _ _ _ (by rw [Cap.putL_size]; omega), Cap.putL_get _ _ _ _ (by omega)]
   have e1 := hget k hk
   simp only [List.length_singleton, List.length_drop, hcl]
   by_cases h1 : k < i
   ·
    rw [if_pos h1] at e1
    rw [if_neg (by omega), if_neg (by omega), ← hcc, Array.getElem?_append_left (by simp [hzs, encs]; omega), Array.getElem?_append_left (by simp [encs]; omega)]
    simp only [List.getElem?_toArray]
    rw [List.getElem?_take, if_pos h1]
    simp only [encs, List.getElem?_map, e1]; rfl
   ·
    rw [if_neg h1] at e1
    by_cases h2 : k = i
    ·
     rw [if_pos h2] at e1
     rw [if_neg (by omega), if_pos (by omega), show k - i = 0 by omega, ← Option.some.inj e1]; rfl
    ·
     rw [if_neg h2] at e1
     rw [if_pos (by omega), List.getElem?_drop, show i + (k - (i + 1)) = k - 1 by omega]
     simp only [encs, List.getElem?_map, e1]; rfl

/-! ### impl_CyclesOfFiles: function 54 -/
def impl_CyclesOfFiles.idxI : List Int → Int → Nat → Int
 | [], _, _ => -1
 | y :: b, x, i => if y = x then (i : Int) else impl_CyclesOfFiles.idxI b x (i + 1)
def impl_CyclesOfFiles.stepI : List (List Int) → Int → Int → List (List Int)
 | [], _, _ => []
 | b :: out, x, j => if 0 ≤ impl_CyclesOfFiles.idxI b x 0 then Cap.insL b ((impl_CyclesOfFiles.idxI b x 0).toNat + 1) j :: out else b :: impl_CyclesOfFiles.stepI out x j
def impl_CyclesOfFiles.goI : List Int → Nat → List (List Int) → List (List Int)
 | [], _, out => out
 | x :: l, j, out => impl_CyclesOfFiles.goI l (j + 1) (if x = -1 then out ++ [[(j : Int)]] else impl_CyclesOfFiles.stepI out x j)
def impl_CyclesOfFiles.okS (k : Nat) (l : List Int) : Prop := l.length ≤ 1000 ∧ ∀ (b : List Int) (x : Int), b.length ≤ 1000 → slices_Index_int_int.f k b x = some (impl_CyclesOfFiles.idxI b x 0)
open Classical in
def impl_CyclesOfFiles.f (k : Nat) (l0 : List Int) : Option (List (List Int) × Bool) := (impl_ArrowBoard.f k (l0.length : Int)).bind fun b => if b.2.2.2 = true then ((impl_Board_isFile.f k b.1 b.2.1 b.2.2.1 l0).bind fun g => if g = true then (if impl_CyclesOfFiles.okS k l0 then some (impl_CyclesOfFiles.goI l0 0 [], true) else none) else some ([], false)) else some ([], false)
theorem impl_CyclesOfFiles.mono : ∀ a0 k, LeO (impl_CyclesOfFiles.f k a0) (impl_CyclesOfFiles.f (k + 1) a0) := fun a0 k => by
 unfold impl_CyclesOfFiles.f
 refine LeO.bind (impl_ArrowBoard.mono _ _) (fun _ => ?_)
 refine LeO.ite ?_ (LeO.refl _)
 refine LeO.bind (impl_Board_isFile.mono _ _ _ _ _) (fun _ => ?_)
 refine LeO.ite ?_ (LeO.refl _)
 intro r h
 by_cases hok : impl_CyclesOfFiles.okS k a0
 ·
  rw [if_pos hok] at h
  rw [if_pos ⟨hok.1, fun b x hb => slices_Index_int_int.mono _ _ _ _ (hok.2 b x hb)⟩]
  exact h
 ·
  rw [if_neg hok] at h
  exact absurd h (by simp)
theorem impl_CyclesOfFiles.idxI_lt : ∀ (b : List Int) (x : Int) (i : Nat), impl_CyclesOfFiles.idxI b x i < ((i + b.length : Nat) : Int)
 | [], x, i => by rw [impl_CyclesOfFiles.idxI]; omega
 | y :: b, x, i => by
  rw [impl_CyclesOfFiles.idxI, List.length_cons]
  split
  ·
   omega
  ·
   have := idxI_lt b x (i + 1); omega
theorem impl_CyclesOfFiles.idxI_ge : ∀ (b : List Int) (x : Int) (i : Nat), impl_CyclesOfFiles.idxI b x i = -1 ∨ (i : Int) ≤ impl_CyclesOfFiles.idxI b x i
 | [], x, i => .inl rfl
 | y :: b, x, i => by
  rw [impl_CyclesOfFiles.idxI]
  split
  ·
   right; omega
  ·
   rcases idxI_ge b x (i + 1) with h | h
   ·
    exact .inl h
   ·
    right; omega
theorem impl_CyclesOfFiles.step_more (out : List (List Int)) (x j : Int) (k : Nat) (h : k < out.length) (hi : ¬ 0 ≤ impl_CyclesOfFiles.idxI (out.getD k []) x 0) : out.take k ++ impl_CyclesOfFiles.stepI (out.drop k) x j = out.take (k + 1) ++ impl_CyclesOfFiles.stepI (out.drop (k + 1)) x j := by
 have e : out.getD k [] = out[k] := by rw [List.getD_eq_getElem?_getD, List.getElem?_eq_getElem h]; rfl
 rw [e] at hi
 rw [List.drop_eq_getElem_cons h, impl_CyclesOfFiles.stepI, if_neg hi, List.take_add_one, List.getElem?_eq_getElem h, List.append_assoc]
 rfl
theorem impl_CyclesOfFiles.step_here (out : List (List Int)) (x j : Int) (k : Nat) (h : k < out.length) (hi : 0 ≤ impl_CyclesOfFiles.idxI (out.getD k []) x 0) : out.take k ++ impl_CyclesOfFiles.stepI (out.drop k) x j = out.set k (Cap.insL (out.getD k []) ((impl_CyclesOfFiles.idxI (out.getD k []) x 0).toNat + 1) j) := by
 have e : out.getD k [] = out[k] := by rw [List.getD_eq_getElem?_getD, List.getElem?_eq_getElem h]; rfl
 rw [e] at hi ⊢
 rw [List.drop_eq_getElem_cons h, impl_CyclesOfFiles.stepI, if_pos hi, List.set_eq_take_append_cons_drop, if_pos h]
theorem impl_CyclesOfFiles.step_rows (x j : Int) (m : Nat) : ∀ (out : List (List Int)), (∀ b ∈ out, b.length ≤ m) → (impl_CyclesOfFiles.stepI out x j).length = out.length ∧ ∀ b ∈ impl_CyclesOfFiles.stepI out x j, b.length ≤ m + 1
 | [], _ => ⟨rfl, fun b hb => by simp [impl_CyclesOfFiles.stepI] at hb⟩
 | b :: out, h => by
  have hb := h b (List.mem_cons_self ..)
  have ho : ∀ c ∈ out, c.length ≤ m := fun c hc => h c (List.mem_cons_of_mem _ hc)
  rw [impl_CyclesOfFiles.stepI]
  split
  ·
   rename_i hi
   refine ⟨rfl, fun c hc => ?_⟩
   rcases List.mem_cons.1 hc with rfl | hc
   ·
    have := impl_CyclesOfFiles.idxI_lt b x 0
    rw [Cap.insL_len _ _ _ (by omega)]; omega
   ·
    have := ho c hc; omega
  ·
   obtain ⟨h1, h2⟩ := step_rows x j m out ho
   refine ⟨by rw [List.length_cons, List.length_cons, h1], fun c hc => ?_⟩
   rcases List.mem_cons.1 hc with rfl | hc
   ·
    omega
   ·
    exact h2 c hc
theorem impl_CyclesOfFiles.calls (k : Nat) (A0 : Option Addr) (c0 : Nat) (l0 : List Int) (r1 : List (List Int)) (r2 : Bool) (w : World) (hr0 : Kd.C (Kd.int .i64) w A0 l0.length l0) (hc0 : l0.length ≤ c0) (h : impl_CyclesOfFiles.f k l0 = some (r1, r2)) :
  Calls Try.prog 54 #[.slice A0 l0.length c0] w fun e w' => ∃ v0_ : Value, e = .returned (.tuple #[v0_, .bool r2]) ∧ Kd.S (Kd.slice 3 (Kd.int .i64)) 22 w' w.heap.size (fun _ => True) v0_ r1 ∧ Below w.heap.size w w' := by
 have hu26 := Try.underlying26
 have HR0 := A_ hr0
 have HC0 := A_ hc0
 clear hr0 hc0
 unfold impl_CyclesOfFiles.f at h
 obtain ⟨⟨b1, b2, b3, t⟩, A1, H⟩ := Option.bind_eq_some_iff.mp h
 clear h
 replace A1 := A_ A1
 have HB0 := A_ (Below.refl w.heap.size w)
 have HQ : Aside0 (∀ w1, Below w.heap.size w w1 → Kd.C (Kd.int .i64) w1 A0 l0.length l0) := ⟨fun w1 hb => Kd.C_below HR0.out hb⟩
 cases t with
 | false =>
  simp only [Bool.false_eq_true, if_false, Option.some.injEq, Prod.mk.injEq] at H
  obtain ⟨rfl, rfl⟩ := H
  go_enter Try.func54, Try.ntmps54
  go_wp2_with (first | (go_at_call 71; (with_reducible refine (impl_ArrowBoard.calls k _ b1 b2 b3 false _ A1.out).mono ?_); rintro e w1 ⟨vb, rfl, hR, hb⟩; obtain ⟨Ab, cb, eb⟩ := Kd.R_slice hR; subst eb; have HB1 := A_ (below_then HB0.out HB0.out.size hb); clear hR hb))
  go_ret2
  exact ⟨_, rfl, Kd.S_nil _ _ _ _ _, below_alloc HB1.out _⟩
 | true =>
  rw [if_pos rfl] at H
  obtain ⟨g, A2, H⟩ := Option.bind_eq_some_iff.mp H
  replace A2 := A_ A2
  cases g with
  | false =>
   simp only [Bool.false_eq_true, if_false, Option.some.injEq, Prod.mk.injEq] at H
   obtain ⟨rfl, rfl⟩ := H
   go_enter Try.func54, Try.ntmps54
   go_wp2_with (first | (go_at_call 71; (with_reducible refine (impl_ArrowBoard.calls k _ b1 b2 b3 true _ A1.out).mono ?_); rintro e w1 ⟨vb, rfl, hR, hb⟩; obtain ⟨Ab, cb, eb⟩ := Kd.R_slice hR; subst eb; have HRb := A_ (Kd.R_reads' hR).2; have HB1 := A_ (below_then HB0.out HB0.out.size hb); have HB2 := A_ (below_alloc HB1.out (.cells #[.int .i64 b1, .int .i64 b2, .slice Ab b3.length cb] 26)); have hyA := blk_cell (blk_new w1 (.cells #[.int .i64 b1, .int .i64 b2, .slice Ab b3.length cb] 26)) 0; clear hR hb) | (go_at_call 132; (with_reducible refine (impl_Board_isFile.calls k b1 b2 Ab cb b3 A0 c0 l0 false _ (Kd.C_alloc HRb.out.2 _) HRb.out.1 (HQ.out _ HB2.out) HC0.out A2.out).mono ?_); rintro e w3 ⟨rfl, hb⟩; have HB3 := A_ (below_then HB2.out HB2.out.size hb); clear hb))
   go_ret2
   exact ⟨_, rfl, Kd.S_nil _ _ _ _ _, HB3.out⟩
  | true =>
   rw [if_pos rfl] at H
   by_cases hok : impl_CyclesOfFiles.okS k l0
   case neg =>
    rw [if_neg hok] at H
    exact absurd H (by simp)
   rw [if_pos hok] at H
   obtain ⟨e1, rfl⟩ := Prod.mk.inj (Option.some.inj H)
   have HRES := A_ e1
   have HL := A_ hok.1
   have HIX := A_ hok.2
   clear H e1 hok
   go_enter Try.func54, Try.ntmps54
   go_upto_region 4 with (first | (go_at_call 71; (with_reducible refine (impl_ArrowBoard.calls k _ b1 b2 b3 true _ A1.out).mono ?_); rintro e w1 ⟨vb, rfl, hR, hb⟩; obtain ⟨Ab, cb, eb⟩ := Kd.R_slice hR; subst eb; have HRb := A_ (Kd.R_reads' hR).2; have HB1 := A_ (below_then HB0.out HB0.out.size hb); have HB2 := A_ (below_alloc HB1.out (.cells #[.int .i64 b1, .int .i64 b2, .slice Ab b3.length cb] 26)); have hyA := blk_cell (blk_new w1 (.cells #[.int .i64 b1, .int .i64 b2, .slice Ab b3.length cb] 26)) 0; clear hR hb) | (go_at_call 132; (with_reducible refine (impl_Board_isFile.calls k b1 b2 Ab cb b3 A0 c0 l0 true _ (Kd.C_alloc HRb.out.2 _) HRb.out.1 (HQ.out _ HB2.out) HC0.out A2.out).mono ?_); rintro e w3 ⟨rfl, hb⟩; have HB3 := A_ (below_then HB2.out HB2.out.size hb); clear hb))
   have HB4 := A_ (below_alloc HB3.out (.cells #[] 22))
   have HS4 := A_ (Cap.S_empty (e := 3) (eO := 22) (base := w.heap.size) (W := w3) HB3.out.size)
   clear HB0 HB1 HB2 HRb A1 A2 hyA HB3
   go_wp2
   go_loopg [28, 6] l0.length (fun q v28 v6 W' => ∃ (j : Nat) (out : List (List Int)), v28 = .int .i64 j ∧ Aside0 (Kd.S (Kd.slice 3 (Kd.int .i64)) 22 W' w.heap.size (fun _ => True) v6 out) ∧ Aside0 (Below w.heap.size w W') ∧ Aside0 (j ≤ l0.length ∧ q = l0.length - j) ∧ Aside0 (impl_CyclesOfFiles.goI (l0.drop j) j out = r1) ∧ Aside0 (out.length ≤ j ∧ ∀ b ∈ out, b.length ≤ j))
   case atStart => exact ⟨0, [], rfl, HS4, HB4, ⟨⟨Nat.zero_le _, rfl⟩⟩, HRES, ⟨⟨Nat.le_refl _, by simp⟩⟩⟩
   case round =>
    obtain ⟨j, out, rfl, HS, HB, HJ, HG, HO⟩ := hrel
    clear HS4 HB4 HRES
    by_cases c1 : (j : Int) < (l0.length : Int)
    case neg =>
     have c1n : ¬ j < l0.length := by omega
     have c1b := decide_eq_false c1
     have c1d := decide_eq_false c1n
     clear c1
     have hg := HG.out
     rw [List.drop_eq_nil_of_le (by omega)] at hg
     have hS := HS.out
     rw [show out = r1 from hg] at hS
     have HS2 := A_ hS
     clear hg hS HS HG HO
     go_wp2
     go_ret2
     exact ⟨_, rfl, HS2.out, HB.out⟩
    have c1b := decide_eq_true c1
    have c1n : j < l0.length := by omega
    obtain ⟨ad1, e1, hx1⟩ := Kd.at_int (HQ.out _ HB.out) (j : Int) (by omega) (by omega)
    rw [Int.toNat_natCast] at hx1
    have p1 : (0 ≤ (j : Int)) = True := eq_true (by omega)
    have q1 : ((j : Int) < (l0.length : Int)) = True := eq_true c1
    cases e1
    clear c1
    have hg := HG.out
    rw [show l0.drop j = rd l0 (j : Int) :: l0.drop (j + 1) by rw [List.drop_eq_getElem_cons c1n]; congr 1; simp [rd, c1n]] at hg
    have hg : impl_CyclesOfFiles.goI (l0.drop (j + 1)) (j + 1) (if rd l0 (j : Int) = -1 then out ++ [[(j : Int)]] else impl_CyclesOfFiles.stepI out (rd l0 (j : Int)) (j : Int)) = r1 := hg
    generalize rd l0 (j : Int) = x at *
    have hw1 : Aside0 (wrap64 ((j : Int) + 1) = ((j + 1 : Nat) : Int)) := ⟨by have := HL.out; unfold wrap64; omega⟩
    obtain ⟨ol1, ol2⟩ := HO.out
    clear HO HG
    obtain ⟨Al, cl, el⟩ := Kd.S_slice HS.out
    subst el
    by_cases c2 : x = -1
    case pos =>
     rw [if_pos c2] at hg
     obtain ⟨y, hy⟩ : ∃ y, y = [(j : Int)] := ⟨_, rfl⟩
     rw [← hy] at hg
     have HG := A_ hg
     have NY := A_ hy
     have OL1 := A_ ol1
     have OL2 := A_ ol2
     subst c2
     clear hg hy ol1 ol2
     go_wp2_with (first | (refine gd_ 37 ?_; refine Kd.R_lit (Kd.int .i64) _ 3 ?hg (N := 37) ?hd (xs := ([(j : Int)] : List Int)) (inner := [.int .i64 (j : Int)]) (ok := fun _ => True) (okp := fun _ => True) ?hr ?hp (fun _ hk => hk) trivial (Below.refl _ _) (Nat.le_refl _) (by simp) ?_; (case hd => rfl); (case hg => rfl); (case hr => first | (go_simp; done) | (go_simp; rfl)); (case hp => exact (Reps.one (show Kd.M (Kd.int .i64) _ _ _ (j : Int) [.int .i64 (j : Int)] from rfl) (Reps.none _ _))); intro v1 w1 ho1 hb1 hg1 hnew1; clear hg1 hnew1; rw [← NY.out] at ho1; have HS1 := A_ (Kd.S_elder' HS.out (Kd.R_base ho1) hb1); have HR1 := A_ (Kd.R_lower ho1 HB.out.size); have HRB := A_ (Kd.R_base ho1); have HB1 := A_ (below_then HB.out HB.out.size hb1); clear ho1 hb1; obtain ⟨A1, c1, e1⟩ := Kd.R_slice HR1.out; subst e1) | ((with_reducible refine gate_builtin (b := .append) (xs := #[.tmp 35, .tmp 38]) rfl ?_); at_builtin; refine Kd.S_append (Kd.slice 3 (Kd.int .i64)) (w0 := w) w.heap.size rfl (.tmp 35) (.tmp 38) 41 22 (.slice none 0 0) 24 rfl Try.underlying41 info22 rfl (by decide) (by omega) (.slice Al out.length cl) out y [.slice A1 y.length c1] (fun _ => True) (fun k_ => some k_ = (.slice A1 y.length c1 : Value).ownBlock) rfl rfl ?aP ?aK ?aF ?aO ?aB ?aS ?aL ?_; (case aP => exact Kd.M_row (Kd.R_tight rfl HR1.out)); (case aK => exact fun k_ hk => ⟨trivial, fun e_ => by have h1 := HRB.out k_ hk.symm; have h2 := Kd.R_lt (Kd.S_R HS.out) k_ e_.symm; omega⟩); (case aB => exact HB1.out); (case aF => exact (fun _ _ => trivial)); (case aO => exact Kd.S_mono HS1.out (fun k_ hk => ⟨trivial, fun e_ => hk.2 e_⟩)); (case aS => exact HB1.out.size); (case aL => have := OL1.out; have := HL.out; have := HJ.out; omega); intro v2 w2 ho hb hg hat; have HS2 := A_ ho; have HB2 := A_ hb; clear ho hb hg hat))
     go_roundg (l0.length - (j + 1))
     case measure => have := HJ.out; omega
     case rel => exact ⟨j + 1, out ++ [y], by first | rfl | rw [hw1.out] | (congr 1; omega), HS2, HB2, ⟨by omega, rfl⟩, HG, ⟨by rw [List.length_append]; have := OL1.out; simp; omega, fun b hb => by
      rcases List.mem_append.1 hb with hb | hb
      ·
       have := OL2.out b hb; omega
      ·
       rw [List.mem_singleton.1 hb, NY.out]; simp⟩⟩
    rw [if_neg c2] at hg
    have c2b : (x == -1) = false := beq_eq_false_iff_ne.mpr c2
    have HG := A_ hg
    have OL1 := A_ ol1
    have OL2 := A_ ol2
    clear c2 hg ol1 ol2
    go_wp2
    clear hx1
    go_loopg [42] out.length (fun q v42 W' => ∃ (kk : Nat), v42 = .int .i64 kk ∧ Aside0 (Kd.S (Kd.slice 3 (Kd.int .i64)) 22 W' w.heap.size (fun _ => True) (.slice Al out.length cl) out) ∧ Aside0 (Below w.heap.size w W') ∧ Aside0 (out.take kk ++ impl_CyclesOfFiles.stepI (out.drop kk) x (j : Int) = impl_CyclesOfFiles.stepI out x (j : Int)) ∧ Aside0 (kk ≤ out.length ∧ q = out.length - kk))
    case atStart => exact ⟨0, rfl, HS, HB, ⟨rfl⟩, ⟨⟨Nat.zero_le _, rfl⟩⟩⟩
    case round =>
     obtain ⟨kk, rfl, HS2, HB2, HST, HK⟩ := hrel
     clear HS HB
     by_cases c3 : kk < out.length
     case neg =>
      have hkn : kk = out.length := by have := HK.out; omega
      have c3b := decide_eq_false c3
      have c3c : decide ((kk : Int) < (out.length : Int)) = false := decide_eq_false (by omega)
      have hst := HST.out
      rw [hkn, List.take_length, List.drop_length] at hst
      have HST2 := A_ (show out = impl_CyclesOfFiles.stepI out x (j : Int) by simpa [impl_CyclesOfFiles.stepI] using hst)
      clear hst hkn
      go_wp2
      go_roundg (l0.length - (j + 1))
      case measure => have := HJ.out; omega
      case rel => exact ⟨j + 1, out, by first | rfl | rw [hw1.out] | (congr 1; omega), HS2, HB2, ⟨by omega, rfl⟩, ⟨by rw [HST2.out]; exact HG.out⟩, ⟨by have := OL1.out; omega, fun b hb => by have := OL2.out b hb; omega⟩⟩
     have c3b := decide_eq_true c3
     have c3c : decide ((kk : Int) < (out.length : Int)) = true := decide_eq_true (by omega)
     have p3 : (0 ≤ (kk : Int)) = True := eq_true (by omega)
     have q3 : ((kk : Int) < (out.length : Int)) = True := eq_true (by omega)
     have hw3 : Aside0 (wrap64 ((kk : Int) + 1) = ((kk + 1 : Nat) : Int)) := ⟨by have := OL1.out; have := HL.out; unfold wrap64; omega⟩
     obtain ⟨g, cap, eg, hgb, hgl, _, hgc⟩ := Kd.S_form HS2.out (by omega)
     injection eg with eg1 eg2 eg3
     subst eg1
     subst eg3
     obtain ⟨okb, vb, hRb, hcb, hfb, hokb, _, _⟩ := Cap.S_swap HS2.out c3
     have hbl : (out.getD kk []).length ≤ 1000 := by
      rw [List.getD_eq_getElem?_getD, List.getElem?_eq_getElem c3, Option.getD_some]
      have := OL2.out _ (List.getElem_mem c3); have := HL.out; have := HJ.out; omega
     have hmore := impl_CyclesOfFiles.step_more out x (j : Int) kk c3
     have hhere := impl_CyclesOfFiles.step_here out x (j : Int) kk c3
     generalize hbd : out.getD kk [] = b at hRb hbl hmore hhere
     obtain ⟨Ab2, cb2, rfl⟩ := Kd.R_slice hRb
     have HBD := A_ hbd
     have HRB := A_ (Kd.R_reads' hRb).2
     have hix := HIX.out b x hbl
     obtain ⟨ix, hixe⟩ : ∃ ix, ix = impl_CyclesOfFiles.idxI b x 0 := ⟨_, rfl⟩
     have hlt := impl_CyclesOfFiles.idxI_lt b x 0
     have hge := impl_CyclesOfFiles.idxI_ge b x 0
     rw [← hixe] at hix hmore hhere hlt hge
     have HIA := A_ hix
     have HGB := A_ hgb
     have HGL := A_ hgl
     have HBL := A_ hbl
     have HLT := A_ hlt
     clear hRb hokb hfb hgb hgl hgc eg2 hbd hix hixe hbl hlt
     by_cases t5 : 0 ≤ ix
     case neg =>
      have hm := (hmore t5).symm.trans HST.out
      have HST2 := A_ hm
      have t5b : decide (ix ≥ 0) = false := decide_eq_false t5
      have t5c : decide (0 ≤ ix) = false := decide_eq_false t5
      clear hmore hhere hm HST hge t5
      go_wp2_with (first | (go_at_call 133; (with_reducible refine (slices_Index_int_int.calls k Ab2 cb2 b x ix _ HRB.out.2 HRB.out.1 HIA.out).mono ?_); rintro e w1 ⟨rfl, hd⟩; have HBn := A_ (below_then HB2.out HB2.out.size hd.below); have HSn := A_ (Kd.S_below HS2.out hd.below); clear hd))
      go_roundg (out.length - (kk + 1))
      case measure => have := HK.out; omega
      case rel => exact ⟨kk + 1, by first | rfl | rw [hw3.out] | (congr 1; omega), HSn, HBn, HST2, ⟨by omega, rfl⟩⟩
     obtain ⟨a, rfl⟩ : ∃ a : Nat, ix = (a : Int) := ⟨ix.toNat, by omega⟩
     have hh := hhere t5
     rw [Int.toNat_natCast] at hh
     have HRS := A_ (hh.symm.trans HST.out)
     have t5b : decide ((a : Int) ≥ 0) = true := decide_eq_true t5
     have t5c : decide (0 ≤ (a : Int)) = true := decide_eq_true t5
     have ha : a < b.length := by have := HLT.out; omega
     have ha2 : a ≤ 1000 := by have := HBL.out; omega
     clear hmore hhere hh HST hge t5
     go_wp2_with (first | (go_at_call 133; (with_reducible refine (slices_Index_int_int.calls k Ab2 cb2 b x (a : Int) _ HRB.out.2 HRB.out.1 HIA.out).mono ?_); rintro e w1 ⟨rfl, hd⟩; have HBn := A_ (below_then HB2.out HB2.out.size hd.below); have HSn := A_ (Kd.S_below HS2.out hd.below); have hcn := (hd.below.cell (p := ⟨g, kk, none⟩) HGL.out).trans hcb; clear hd) | fail)
     have hbA : Below w1.heap.size w1 (w1.alloc (.cells #[.int .i64 (j : Int)] 3)) := below_alloc (Below.refl _ _) _
     have hsA : (w1.alloc (.cells #[.int .i64 (j : Int)] 3)).heap.size = w1.heap.size + 1 := by simp
     have HSA := A_ (Kd.S_below (Kd.S_mono (ok' := fun k => k ≠ w1.heap.size) (Kd.S_bound HSn.out) (fun k hk => by have := hk.2.2.1; omega)) hbA)
     have hcA := (hbA.cell (p := ⟨g, kk, none⟩) (World.block_lt_of_cell? w1 ⟨g, kk, none⟩ hcn)).trans hcn
     obtain ⟨okN, vN, hRN, hcN, hfN, hokN, hgN, hback⟩ := Cap.S_swap HSA.out c3
     rw [HBD.out] at hRN
     rw [hcN] at hcA
     obtain rfl := Option.some.inj hcA
     have hnew : ¬ okN w1.heap.size := fun hk => (hokN _ hk).1 rfl
     have hcall := slices_Insert_int_int.calls okN (.slice Ab2 b.length cb2) b (a + 1) (j : Int) w.heap.size w1.heap.size (w1.alloc (.cells #[.int .i64 (j : Int)] 3)) (by omega) (by omega) (by have := HBL.out; omega) hRN (blk_new w1 _) hnew
     rw [show ((a + 1 : Nat) : Int) = (a : Int) + 1 by omega] at hcall
     have HBA := A_ (below_then HBn.out HBn.out.size hbA)
     refine hcall.mono ?_
     rintro e w2 ⟨v', rfl, hR', hK', hB'⟩
     obtain ⟨A3, c3', rfl⟩ := Kd.R_slice hR'
     obtain ⟨e1, e2, e3⟩ := hback w2 _ _ hK' hR' (fun k hk => by omega)
     have HB5 := A_ ((hB' w.heap.size w (Nat.le_refl _) HBA.out).setCell (p := ⟨g, kk, none⟩) HGB.out (.slice A3 (Cap.insL b (a + 1) (j : Int)).length c3'))
     rw [HRS.out] at e3
     replace e3 := A_ (Kd.S_mono e3 (ok' := fun _ => True) (fun _ _ => trivial))
     have HSR := A_ (impl_CyclesOfFiles.step_rows x (j : Int) j out OL2.out)
     clear hcall hback hRN hcN hfN hokN hgN hnew hR' hK' hB' hbA hcA hcn HRB HIA hsA
     go_wp2
     go_roundg (l0.length - (j + 1))
     case measure => have := HJ.out; omega
     case rel => exact ⟨j + 1, impl_CyclesOfFiles.stepI out x (j : Int), by first | rfl | rw [hw1.out] | (congr 1; omega), e3, HB5, ⟨by omega, rfl⟩, HG, ⟨by rw [HSR.out.1]; have := OL1.out; omega, HSR.out.2⟩⟩

/-! ### bits_Mul64: function 222 -/
def bits_Mul64.f (a0 : Int) (a1 : Int) : Option (Int × Int) := some (IntKind.u64.wrap ((IntKind.u64.wrap ((IntKind.u64.wrap ((a0 / 4294967296) * (a1 / 4294967296))) + ((IntKind.u64.wrap ((IntKind.u64.wrap ((a0 / 4294967296) * (Go.bits .and .u64 a1 4294967295))) + ((IntKind.u64.wrap ((Go.bits .and .u64 a0 4294967295) * (Go.bits .and .u64 a1 4294967295))) / 4294967296))) / 4294967296))) + ((IntKind.u64.wrap ((Go.bits .and .u64 (IntKind.u64.wrap ((IntKind.u64.wrap ((a0 / 4294967296) * (Go.bits .and .u64 a1 4294967295))) + ((IntKind.u64.wrap ((Go.bits .and .u64 a0 4294967295) * (Go.bits .and .u64 a1 4294967295))) / 4294967296))) 4294967295) + (IntKind.u64.wrap ((Go.bits .and .u64 a0 4294967295) * (a1 / 4294967296))))) / 4294967296)), IntKind.u64.wrap (a0 * a1))
theorem bits_Mul64.calls (a0 : Int) (a1 : Int) (r1 : Int) (r2 : Int) (w : World) (h : bits_Mul64.f a0 a1 = some (r1, r2)) :
  Calls Try.prog 222 #[.int .u64 a0, .int .u64 a1] w fun e w' => e = .returned (.tuple #[.int .u64 r1, .int .u64 r2]) ∧ Drawn0 w w' := by
 have H : (some (IntKind.u64.wrap ((IntKind.u64.wrap ((IntKind.u64.wrap ((a0 / 4294967296) * (a1 / 4294967296))) + ((IntKind.u64.wrap ((IntKind.u64.wrap ((a0 / 4294967296) * (Go.bits .and .u64 a1 4294967295))) + ((IntKind.u64.wrap ((Go.bits .and .u64 a0 4294967295) * (Go.bits .and .u64 a1 4294967295))) / 4294967296))) / 4294967296))) + ((IntKind.u64.wrap ((Go.bits .and .u64 (IntKind.u64.wrap ((IntKind.u64.wrap ((a0 / 4294967296) * (Go.bits .and .u64 a1 4294967295))) + ((IntKind.u64.wrap ((Go.bits .and .u64 a0 4294967295) * (Go.bits .and .u64 a1 4294967295))) / 4294967296))) 4294967295) + (IntKind.u64.wrap ((Go.bits .and .u64 a0 4294967295) * (a1 / 4294967296))))) / 4294967296)), IntKind.u64.wrap (a0 * a1))) = some (r1, r2) := h
 clear h
 simp only [Option.some.injEq, Prod.mk.injEq] at H
 obtain ⟨rfl, rfl⟩ := H
 go_enter Try.func222, Try.ntmps222
 go_wp2
 go_ret2
 exact ⟨tf_, dr_⟩

/-! ### bits_Mul: function 200 -/
def bits_Mul.f (a0 : Int) (a1 : Int) : Option (Int × Int) := (bits_Mul64.f a0 a1).bind fun bt1245 => (some (bt1245.1, bt1245.2))
theorem bits_Mul.calls (a0 : Int) (a1 : Int) (r1 : Int) (r2 : Int) (w : World) (h : bits_Mul.f a0 a1 = some (r1, r2)) :
  Calls Try.prog 200 #[.int .u64 a0, .int .u64 a1] w fun e w' => e = .returned (.tuple #[.int .u64 r1, .int .u64 r2]) ∧ Drawn0 w w' := by
 have H : ((bits_Mul64.f a0 a1).bind fun bt1245 => (some (bt1245.1, bt1245.2))) = some (r1, r2) := h
 clear h
 replace H := Option.bind_eq_some_iff.mp H
 obtain ⟨⟨t1245, t1246⟩, A30, H⟩ := H
 replace H : (some (t1245, t1246)) = some (r1, r2) := H
 have A3 := A_ A30
 clear A30
 simp only [Option.some.injEq, Prod.mk.injEq] at H
 obtain ⟨rfl, rfl⟩ := H
 go_enter Try.func200, Try.ntmps200
 go_wp2_with (first | (refine gc_ 222 ?_; refine goesT_ (some 25) Try.func222 #[.int .u64 a0, .int .u64 a1] ?_; (with_reducible refine (bits_Mul64.calls a0 a1 t1245 t1246 _ A3.out).mono ?_); rintro e w' ⟨rfl, ⟨nd, rfl⟩⟩; refine ⟨_, rfl, ?_⟩))
 go_ret2
 exact ⟨tf_, dr_⟩

end
end Go.Proofs.Ythlcaikplebpmaa.P
