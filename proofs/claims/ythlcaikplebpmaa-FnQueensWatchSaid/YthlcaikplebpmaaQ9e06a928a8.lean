-- printed functions (wip/slim.py)
import Derived.Test.YthlcaikplebpmaaPx0
import Derived.Test.YthlcaikplebpmaaLn
import Derived.Test.YthlcaikplebpmaaLo
import Derived.Test.YthlcaikplebpmaaQ44e93a7025
namespace Go.Proofs.Ythlcaikplebpmaa.P
noncomputable section
set_option maxHeartbeats 8000000
set_option maxRecDepth 100000
open Go.RowKit Go.Proofs.YthlcaikplebpmaaW.PrintWords Go.Proofs.YthlcaikplebpmaaW.PrintLast Go.Proofs.YthlcaikplebpmaaW.PrintMore
attribute [local go_sem] max2_int min2_int max_two min_two max_three min_three max_four min_four   -- for this text's walks alone
set_option linter.unusedVariables false
set_option linter.unusedSimpArgs false

/-! ### spec_quWatch: function 112 -/
mutual
def spec_quWatch.j0 : Nat → Int → Int → List (List Int) → Int → Option ((List (List Int)) × Bool)
 | 0, _, _, _, _ => none
 | k + 1, x0, x1, x2, x8 => spec_quWatch.l0 k x0 x1 x2 x8
def spec_quWatch.l0 : Nat → Int → Int → List (List Int) → Int → Option ((List (List Int)) × Bool)
 | 0, _, _, _, _ => none
 | k + 1, x0, x1, x2, x10 => if x10 < (wrap64 (x0 * x0)) then ((some (([] : List (List Int)) : List (List Int))).bind fun y797 => (if y797.length + x2.length < 5864062014805 then ((some (y797 ++ x2 : List (List Int))).bind fun y800 => (if x0 = 0 then (none) else ((some (([(([wrap64 (Int.tdiv x10 x0), Int.tmod x10 x0] : List Int))] : List (List Int)) : List (List Int))).bind fun y806 => (if y800.length + y806.length < 5864062014805 then ((spec_quWatch.f k x0 (wrap64 (x1 - 1)) (y800 ++ y806)).bind fun bt812 => (if bt812.2 = true then (some (bt812.1, true)) else (spec_quWatch.l0 k x0 x1 x2 (wrap64 (x10 + 1))))) else (none))))) else (none))) else (some (([] : List (List Int)), false))
def spec_quWatch.f : Nat → Int → Int → List (List Int) → Option ((List (List Int)) × Bool)
 | 0, _, _, _ => none
 | k + 1, a0, a1, l2 => if a1 = 0 then ((spec_quWatched.f k a0 l2).bind fun t793 => (some (l2, t793))) else (if (l2.length : Int) > 0 then (if 0 ≤ (wrap64 ((l2.length : Int) - 1)) then (if (wrap64 ((l2.length : Int) - 1)) < (l2.length : Int) then (if 0 < ((rd_L1 l2 (wrap64 ((l2.length : Int) - 1))).length : Int) then (if 1 < ((rd_L1 l2 (wrap64 ((l2.length : Int) - 1))).length : Int) then (spec_quWatch.j0 k a0 a1 l2 (wrap64 ((wrap64 ((wrap64 ((rd (rd_L1 l2 (wrap64 ((l2.length : Int) - 1))) 0) * a0)) + (rd (rd_L1 l2 (wrap64 ((l2.length : Int) - 1))) 1))) + 1))) else (none)) else (none)) else (none)) else (none)) else (spec_quWatch.j0 k a0 a1 l2 0))
end
theorem spec_quWatch.mono_l : ∀ k, (∀ y0 y1 y2, LeO (spec_quWatch.f k y0 y1 y2) (spec_quWatch.f (k + 1) y0 y1 y2)) ∧ (∀ y0 y1 y2 y3, LeO (spec_quWatch.j0 k y0 y1 y2 y3) (spec_quWatch.j0 (k + 1) y0 y1 y2 y3)) ∧ (∀ y0 y1 y2 y3, LeO (spec_quWatch.l0 k y0 y1 y2 y3) (spec_quWatch.l0 (k + 1) y0 y1 y2 y3))
 | 0 => ⟨fun _ _ _ r h => by simp [spec_quWatch.f] at h, fun _ _ _ _ r h => by simp [spec_quWatch.j0] at h, fun _ _ _ _ r h => by simp [spec_quWatch.l0] at h⟩
 | k + 1 => by
  obtain ⟨ih0, ih1, ih2⟩ := spec_quWatch.mono_l k
  refine ⟨?_, ?_, ?_⟩
  ·
   intro y0 y1 y2
   unfold spec_quWatch.f
   repeat' first | (with_reducible first | exact ih0 _ _ _ | exact ih1 _ _ _ _ | exact ih2 _ _ _ _ | exact spec_quWatched.mono _ _ _ | exact LeO.refl _ | exact LeO.none _ | refine LeO.ite ?_ ?_ | refine LeO.bind ?_ (fun _ => ?_)) | exact ih0 _ _ _ | exact ih1 _ _ _ _ | exact ih2 _ _ _ _ | exact spec_quWatched.mono _ _ _ | exact LeO.none _ | refine LeO.ite ?_ ?_ | refine LeO.bind ?_ (fun _ => ?_)
  ·
   intro y0 y1 y2 y3
   unfold spec_quWatch.j0
   repeat' first | (with_reducible first | exact ih0 _ _ _ | exact ih1 _ _ _ _ | exact ih2 _ _ _ _ | exact spec_quWatched.mono _ _ _ | exact LeO.refl _ | exact LeO.none _ | refine LeO.ite ?_ ?_ | refine LeO.bind ?_ (fun _ => ?_)) | exact ih0 _ _ _ | exact ih1 _ _ _ _ | exact ih2 _ _ _ _ | exact spec_quWatched.mono _ _ _ | exact LeO.none _ | refine LeO.ite ?_ ?_ | refine LeO.bind ?_ (fun _ => ?_)
  ·
   intro y0 y1 y2 y3
   unfold spec_quWatch.l0
   repeat' first | (with_reducible first | exact ih0 _ _ _ | exact ih1 _ _ _ _ | exact ih2 _ _ _ _ | exact spec_quWatched.mono _ _ _ | exact LeO.refl _ | exact LeO.none _ | refine LeO.ite ?_ ?_ | refine LeO.bind ?_ (fun _ => ?_)) | exact ih0 _ _ _ | exact ih1 _ _ _ _ | exact ih2 _ _ _ _ | exact spec_quWatched.mono _ _ _ | exact LeO.none _ | refine LeO.ite ?_ ?_ | refine LeO.bind ?_ (fun _ => ?_)
theorem spec_quWatch.mono : ∀ a0 a1 a2 k, LeO (spec_quWatch.f k a0 a1 a2) (spec_quWatch.f (k + 1) a0 a1 a2) := by
 intro a0 a1 a2 k
 obtain ⟨ih0, ih1, ih2⟩ := spec_quWatch.mono_l k
 exact ih0 a0 a1 a2
def spec_quWatch.T6 : Bool × List (List Nat × List Nat) := (true, [([], []), ([0], [0]), ([1], [1]), ([], []), ([2, 3], [2, 3]), ([], []), ([5], [5]), ([6], [6]), ([4, 7], [4, 7]), ([8], [8]), ([9, 0, 1, 2, 3, 4, 5, 6, 7, 8, 9], [9])])
def spec_quWatch.B6 : List Nat := [0, 1, 3, 0, 15, 0, 32, 96, 255, 511, 1023]
theorem spec_quWatch.tab6 : rtab .any (opsOf Try.f112 6) = spec_quWatch.T6 := by kernel_rfl
theorem spec_quWatch.bits6 : waitsOk spec_quWatch.T6.2 spec_quWatch.B6 = true := by kernel_rfl
def spec_quWatch.T10 : Bool × List (List Nat × List Nat) := (true, [([], []), ([], []), ([0, 1], [0, 1]), ([], []), ([], []), ([3, 4], [3, 4]), ([], []), ([], []), ([6, 7], [6, 7]), ([5, 8], [5, 8]), ([9], [9]), ([2, 10, 2], [2, 10]), ([11, 11, 0, 1, 2, 3, 4, 5, 6, 7, 8, 9, 10, 11], [11])])
def spec_quWatch.B10 : List Nat := [0, 0, 3, 0, 0, 24, 0, 0, 192, 504, 1016, 2047, 4095]
theorem spec_quWatch.tab10 : rtab .any (opsOf Try.f112 10) = spec_quWatch.T10 := by kernel_rfl
theorem spec_quWatch.bits10 : waitsOk spec_quWatch.T10.2 spec_quWatch.B10 = true := by kernel_rfl
theorem spec_quWatch.gb {n : Nat} {W0 W w1 : World} {row : Option Nat} (hb : Below n W0 W) (hg : W.grownBy w1 row) (hn : n ≤ W.heap.size) (hr : ∀ k, row = some k → n ≤ k) : Below n W0 w1 :=
  hb.trans ⟨hg.os, hg.tape, hg.output, hg.size, fun k hk => hg.block k (by omega) (fun e => by have := hr k e.symm; omega)⟩
/-- The list's rows with tags: new blocks have the next tag. -/
theorem spec_quWatch.tags {W : World} {b : Nat} {ok : Nat → Prop} {A : Option Addr} {n c : Nat} {q : List (List Int)} (h : Kd.S (Kd.slice 3 (Kd.int .i64)) 22 W b ok (.slice A n c) q) :
    ∃ f : Nat → Nat, (∀ k, W.heap.size ≤ k → f k = q.length) ∧ ∀ W', Below W.heap.size W W' → ReadsRow ((Kd.tag f (Kd.slice 3 (Kd.int .i64))).M W' b (fun k => ok k ∧ k < W.heap.size ∧ some k ≠ (Value.slice A n c).ownBlock)) 1 W' A q.length q.zipIdx := by
  obtain ⟨f, hf, hR⟩ := Kd.S_tag (Kd.S_bound h) q.length (fun k => W.heap.size ≤ k) (fun k hk hh => by have := hh.2.2.1; omega)
  refine ⟨f, hf, fun W' hb => ?_⟩
  obtain ⟨A', c', e, hl, hr⟩ := OwnRow.reads hR.2
  rw [List.length_zipIdx] at e hr
  injection e with e1 e2 e3
  subst e1
  exact ReadsRow.imp_ hr hb (fun p cs hp => Kd.M_mono _ (fun k hk => ⟨hk.1.1, hk.1.2.2.1, hk.2⟩) (Kd.M_below hp hb))
theorem spec_quWatch.lo {n b : Nat} {W0 W : World} (h : Below n W0 W) (hb : b ≤ n) : Below b W0 W := ⟨h.os, h.tape, h.output, h.size, fun k hk => h.block k (by omega)⟩
theorem spec_quWatch.apart {f : Nat → Nat} {W w1 : World} {n b : Nat} {v v1 : Value} {xs : List (List Int × Nat)} (h : (Kd.tag f (Kd.slice 3 (Kd.int .i64))).R 22 W b (fun k_ => n ≤ k_) v xs) (hg : W.grownBy w1 none) (hat : ∃ b_, v1.ownBlock = some b_ ∧ W.heap.size ≤ b_) : (Kd.tag f (Kd.slice 3 (Kd.int .i64))).R 22 w1 b (fun k_ => n ≤ k_ ∧ some k_ ≠ v1.ownBlock) v xs := by
  obtain ⟨g, e, hg2⟩ := hat
  refine Kd.R_mono (Kd.R_grown (Kd.R_bound h) hg (fun _ _ => by simp)) (fun k hk => ⟨hk.1, fun hh => ?_⟩)
  rw [e] at hh
  injection hh with hh
  have := hk.2.2.1
  omega
theorem spec_quWatch.inner {f : Nat → Nat} {W : World} {n b : Nat} {v : Value} {x : List Int × Nat} {cs : List Value} (h : (Kd.tag f (Kd.slice 3 (Kd.int .i64))).M W b (fun k_ => n ≤ k_ ∧ some k_ ≠ v.ownBlock) x cs) : (Kd.tag f (Kd.slice 3 (Kd.int .i64))).M W b (fun k_ => n ≤ k_ ∧ ∃ c_, W.heap[k_]? = some (.cells c_ 3 (0, 0))) x cs := by
  refine Kd.M_mono _ (fun k hk => ⟨hk.1.1, ?_⟩) (Kd.M_bound _ h)
  obtain ⟨_, _, _, q, hq, c, hc⟩ := hk
  have : q = 3 := by simpa [Kd.tag, Kd.slice, Kd.int, Kd.scalar] using hq
  subst this
  exact ⟨c, hc⟩
theorem spec_quWatch.hrep {f : Nat → Nat} {W : World} {n b m : Nat} {v : Value} {row : List Int} (h : (Kd.int .i64).R 3 W n (fun _ => True) v row) (hb : b ≤ n) (hf : ∀ k, n ≤ k → f k = m) : Reps ((Kd.tag f (Kd.slice 3 (Kd.int .i64))).M W b (fun k_ => n ≤ k_ ∧ ∃ c_, W.heap[k_]? = some (.cells c_ 3 (0, 0)))) 1 [(row, m)] [v] := by
  refine ⟨rfl, fun j p hj => ?_⟩
  cases j with
  | succ j => simp at hj
  | zero =>
    obtain rfl := Option.some.inj hj
    refine ⟨v, rfl, Kd.R_mono (Kd.R_lower (Kd.R_bound h) hb) (fun k hk => ?_)⟩
    obtain ⟨_, h1, _, q, hq, c, hc⟩ := hk
    have : q = 3 := by simpa [Kd.int, Kd.scalar] using hq
    subst this
    exact ⟨⟨h1, c, hc⟩, hf k h1⟩
set_option maxHeartbeats 16000000 in
set_option maxRecDepth 100000 in
theorem spec_quWatch.calls (k : Nat) : ∀ (a0 a1 : Int) (b : Nat) (ok : Nat → Prop) (Aq : Option Addr) (cq : Nat) (q : List (List Int)) (r1 : List (List Int)) (r2 : Bool) (w : World) (hb0 : b ≤ w.heap.size) (hok0 : ∀ k, w.heap.size ≤ k → ok k) (hS0 : Kd.S (Kd.slice 3 (Kd.int .i64)) 22 w b ok (.slice Aq q.length cq) q) (h : spec_quWatch.f k a0 a1 q = some (r1, r2)),
    Calls Try.prog 112 #[.int .i64 a0, .int .i64 a1, .slice Aq q.length cq] w fun e w' => ∃ v0_ : Value, e = .returned (.tuple #[v0_, .bool r2]) ∧ Kd.S (Kd.slice 3 (Kd.int .i64)) 22 w' b ok v0_ r1 ∧ Below w.heap.size w w' := by
 induction k using Nat.strongRecOn with
 | _ k ih =>
 intro a0 a1 b ok Aq cq q r1 r2 w hb0 hok0 hS0 h
 cases k with
 | zero => exact absurd h (by simp [spec_quWatch.f])
 | succ k =>
 simp only [spec_quWatch.f] at h
 have HS := A_ hS0
 have HC := A_ (Kd.S_reads' hS0).2.2
 have HCC := A_ (Kd.S_reads' hS0).2.1
 obtain ⟨f, hf, hT0⟩ := spec_quWatch.tags hS0
 have HF := A_ hf
 have HT := A_ hT0
 have HB0 := A_ hb0
 have HOK := A_ hok0
 clear hS0 hf hT0 hb0 hok0
 have H := A_ h
 clear h
 by_cases c4 : a1 = 0
 ·
  have h := H.out
  clear H
  rw [if_pos c4] at h
  have c4b0 : (a1 == 0) = true := beq_iff_eq.mpr c4
  clear c4
  obtain ⟨t, A5, h⟩ := Option.bind_eq_some_iff.mp h
  have A5 := A_ A5
  obtain ⟨rfl, rfl⟩ := Prod.mk.inj (Option.some.inj h)
  clear h
  go_enter Try.func112, Try.ntmps112
  go_wp2_with (first | (refine gc_ 127 ?_; refine goesT_ (some 19) Try.func127 #[.int .i64 a0, .slice Aq q.length cq] ?_; (with_reducible refine (spec_quWatched.calls k a0 _ _ q t _ ?side1 ?side2 A5.out).mono ?_); (case side1 => exact tc0_ HC.out); (case side2 => exact HCC.out); rintro e w' ⟨rfl, ⟨nd, rfl⟩⟩; refine ⟨_, rfl, ?_⟩))
  go_ret2
  exact ⟨_, te_, by (with_reducible repeat (first | apply Kd.S_alloc | apply Kd.S_drewN | apply Kd.S_drew)); exact HS.out, by have HB := A_ (Below.refl w.heap.size w); exact tb_⟩
 ·
  have h := H.out
  clear H
  rw [if_neg c4] at h
  have c4b0 : (a1 == 0) = false := beq_eq_false_iff_ne.mpr c4
  clear c4
  have H := A_ h
  clear h
  go_enter Try.func112, Try.ntmps112
  go_upto_if 22 with (fail)
  go_cut [8] (fun v8 wc => ∃ (kq : Nat) (x8 : Int), v8 = .int .i64 x8 ∧ Aside0 (spec_quWatch.j0 kq a0 a1 q x8 = some (r1, r2)) ∧ Aside0 (kq ≤ k) ∧ Aside0 (Below w.heap.size w wc))
  case first =>
   have h := H.out
   clear H
   by_cases c7 : (q.length : Int) > 0
   ·
    rw [if_pos c7] at h
    have c7b0 := decide_eq_true c7
    have c7b1 : decide (0 < q.length) = true := decide_eq_true (by omega)
    clear c7
    (first | rw [c7b0] | rw [c7b1] | (simp only [i64_w, i32_w]; rw [c7b0]) | skip)
    obtain ⟨ji, hji⟩ : ∃ j_ : Int, (wrap64 ((q.length : Int) - 1)) = j_ := ⟨_, rfl⟩
    rw [hji] at h
    have hjiw : (IntKind.i64.wrap ((q.length : Int) - 1)) = ji := (i64_w _).trans hji
    by_cases c9 : 0 ≤ ji
    case neg => rw [if_neg c9] at h; exact absurd h (by simp)
    rw [if_pos c9] at h
    by_cases c10 : ji < (q.length : Int)
    case neg => rw [if_neg c10] at h; exact absurd h (by simp)
    rw [if_pos c10] at h
    by_cases c11 : 0 < ((rd_L1 q ji).length : Int)
    case neg => rw [if_neg c11] at h; exact absurd h (by simp)
    rw [if_pos c11] at h
    by_cases c12 : 1 < ((rd_L1 q ji).length : Int)
    case neg => rw [if_neg c12] at h; exact absurd h (by simp)
    rw [if_pos c12] at h
    have H' := A_ h
    clear h
    obtain ⟨ad, Ax, cx, e, hx0, hlx, hix⟩ := at_L1 HC.out ji c9 c10
    cases e
    obtain ⟨adr, er, hy0⟩ := Kd.at_int hix 0 (by omega) c11
    cases er
    obtain ⟨adr', er, hy1⟩ := Kd.at_int hix 1 (by omega) c12
    obtain rfl : adr = adr' := (by injection er)
    clear er
    (try rw [show ((0 : Int)).toNat = 0 from rfl] at hy0)
    (try rw [Addr.add_zero'] at hy0)
    (try simp only [show (1 : Int).toNat = 1 from rfl, Nat.reduceMul, Nat.reduceEqDiff, Go.Addr.add, ↓reduceIte] at hy1)
    have qi1 : (0 < (rd_L1 q ji).length) = True := eq_true (by omega)
    have qi2 : (1 < (rd_L1 q ji).length) = True := eq_true (by omega)
    clear hlx hix
    replace c9 := eq_true c9
    replace c10 := eq_true c10
    replace c11 := eq_true c11
    replace c12 := eq_true c12
    go_wp2
    refine start_ (n := 11) (S := fun w' => w'.cell? adr = some (.int .i64 (rd (rd_L1 q ji) 0)) ∧ w'.cell? ⟨adr.block, adr.off + 1, none⟩ = some (.int .i64 (rd (rd_L1 q ji) 1))) (ds := []) (Fn.bl 11 0) (by kernel_rfl) rfl rfl ⟨hy0, hy1⟩ (fun hHeld => ?_); refine with_tabW spec_quWatch.tab6 spec_quWatch.bits6 (fun HT_ HW_ => ?_)
    refine pq_ 0 (some 29) (Fn.bl 11 1) HT_.out ?_
    refine pq_ 1 (some 30) (Fn.bl 11 3) HT_.out ?_
    refine pq_ 3 (some 32) (Fn.bl 11 11) HT_.out ?_
    refine pq_ 5 (some 34) (Fn.bl 11 43) HT_.out ?_
    refine pq_ 6 (some 35) (Fn.bl 11 107) HT_.out ?_
    refine tq_ 2 (some 31) (Fn.bl 11 111) HT_.out HW_.out hHeld ?_ (hy0 := by rintro w' ⟨s0, s1⟩; go_simp; with_reducible rfl)
    refine pq_ 4 (some 33) (Fn.bl 11 127) HT_.out ?_
    refine tq_ 7 (some 36) (Fn.bl 11 255) HT_.out HW_.out hHeld ?_ (hy0 := by rintro w' ⟨s0, s1⟩; go_simp; with_reducible rfl)
    refine pq_ 8 (some 37) (Fn.bl 11 511) HT_.out ?_
    refine pq_ 9 (some 38) (Fn.bl 11 1023) HT_.out ?_
    refine pq_ 10 (some 8) (Fn.bl 11 2047) HT_.out ?_
    refine done_ (done_of HT_.out (by kernel_rfl)) ?_
    try go_wp2
    go_meet
    case rel => exact ⟨_, (wrap64 ((wrap64 ((wrap64 ((rd (rd_L1 q ji) 0) * a0)) + (rd (rd_L1 q ji) 1))) + 1)), (by first | rfl | (simp; done) | (simp only [← hji] <;> (first | rfl | simp)) | (simp [*]; done)), H', ⟨by first | omega | exact Nat.le_refl _⟩, ⟨by have HB := A_ (Below.refl w.heap.size w); exact tb_⟩⟩
   ·
    rw [if_neg c7] at h
    have c7b0 := decide_eq_false c7
    have c7b1 : decide (0 < q.length) = false := decide_eq_false (by omega)
    clear c7
    (first | rw [c7b0] | rw [c7b1] | (simp only [i64_w, i32_w]; rw [c7b0]) | skip)
    have H' := A_ h
    clear h
    go_wp2
    go_meet
    case rel => exact ⟨_, (0), tf_, H', ⟨by first | omega | exact Nat.le_refl _⟩, ⟨by have HB := A_ (Below.refl w.heap.size w); exact tb_⟩⟩
  case rest =>
   clear H c4b0
   obtain ⟨kq, x8, rfl, HA, HJ5, HB⟩ := hcut
   cases kq with
   | zero => exact absurd HA.out (by simp [spec_quWatch.j0])
   | succ kj5 =>
   have h := HA.out
   clear HA
   simp only [spec_quWatch.j0] at h
   have H := A_ h
   clear h
   go_wp2
   go_loopg [10] kj5 (fun kq v10 w' => ∃ (x10 : Int), v10 = .int .i64 x10 ∧ Aside0 (spec_quWatch.l0 kq a0 a1 q x10 = some (r1, r2)) ∧ Aside0 (kq ≤ kj5) ∧ Aside0 (Below w.heap.size w w'))
   case atStart => exact ⟨x8, tf_, H, ⟨Nat.le_refl _⟩, ⟨tb_⟩⟩
   case round =>
    clear H HB
    obtain ⟨x10, rfl, HA, HK2, HB⟩ := hrel
    cases gk with
    | zero => exact absurd HA.out (by simp [spec_quWatch.l0])
    | succ k2 =>
    have h := HA.out
    clear HA
    simp only [spec_quWatch.l0, Option.bind_some] at h
    by_cases c14 : x10 < (wrap64 (a0 * a0))
    case neg =>
     rw [if_neg c14] at h
     have c14b0 := decide_eq_false c14
     clear c14
     obtain ⟨rfl, rfl⟩ := Prod.mk.inj (Option.some.inj h)
     clear h
     go_wp2
     go_ret2
     exact ⟨_, te_, Kd.S_nil _ _ _ _ _, tb_⟩
    rw [if_pos c14] at h
    have c14b0 := decide_eq_true c14
    clear c14
    by_cases c15 : ([] : List (List Int)).length + q.length < 5864062014805
    case neg => rw [if_neg c15] at h; exact absurd h (by simp)
    rw [if_pos c15, List.nil_append] at h
    by_cases c16 : a0 = 0
    case pos => rw [if_pos c16] at h; exact absurd h (by simp)
    rw [if_neg c16] at h
    have c16b0 : (a0 == 0) = false := beq_eq_false_iff_ne.mpr c16
    have c16b1 : (a0 != 0) = true := bne_iff_ne.mpr c16
    obtain ⟨row, hrow⟩ : ∃ y_ : List Int, y_ = (([wrap64 (Int.tdiv x10 a0), Int.tmod x10 a0] : List Int)) := ⟨_, rfl⟩
    rw [← hrow] at h
    by_cases c17 : q.length + [row].length < 5864062014805
    case neg => rw [if_neg c17] at h; exact absurd h (by simp)
    rw [if_pos c17] at h
    obtain ⟨⟨r3, b3⟩, A6, h⟩ := Option.bind_eq_some_iff.mp h
    have A6 := A_ A6
    have HROW := A_ hrow
    have C15 := A_ c15
    have C17 := A_ c17
    have H := A_ h
    clear h c15 c17 hrow
    have hun41 := Try.underlying41
    try go_wp2
    refine start_ (n := 13) (S := fun w' => Below w.heap.size w w') (ds := []) (Fn.bl 13 0) (by kernel_rfl) rfl rfl (below_then HB.out HB.out.size (below_drew (Below.refl _ _))) (fun hHeld => ?_); refine with_tabW spec_quWatch.tab10 spec_quWatch.bits10 (fun HT_ HW_ => ?_)
    clear HB
    generalize World.drew _ = w6 at hHeld ⊢
    refine pq_ 1 (some 48) (Fn.bl 13 2) HT_.out ?_
    refine pq_ 3 (some 50) (Fn.bl 13 10) HT_.out ?_
    refine pq_ 4 (some 51) (Fn.bl 13 26) HT_.out ?_
    refine pq_ 5 (some 52) (Fn.bl 13 58) HT_.out ?_
    refine pq_ 6 (some 53) (Fn.bl 13 122) HT_.out ?_
    refine pq_ 7 (some 54) (Fn.bl 13 250) HT_.out ?_
    refine pq_ 8 (some 55) (Fn.bl 13 506) HT_.out ?_
    refine join_ (σ := Value × Value × Value × Value) 2 (Fn.bl 13 2047) (fun s_ => [(47, s_.1), (49, s_.2.1), (56, s_.2.2.1), (57, s_.2.2.2)]) (fun s_ w' => ((Kd.tag f (Kd.slice 3 (Kd.int .i64))).R 22 w' b ok s_.2.1 q.zipIdx) ∧ ((∀ k_, (s_.2.1 : Value).ownBlock = some k_ → w.heap.size ≤ k_)) ∧ ((Kd.tag f (Kd.slice 3 (Kd.int .i64))).R 22 w' b (fun k_ => w.heap.size ≤ k_) s_.2.2.2 [(row, q.length)]) ∧ Below w.heap.size w w') ?_ ?_
    rotate_left
    ·
     intro hJ0_2_9_10
     refine join_ (σ := Value × Value × Value) 3 (Fn.bl 13 1023) (fun s_ => [(47, s_.1), (49, s_.2.1), (56, s_.2.2)]) (fun s_ w' => ((Kd.tag f (Kd.slice 3 (Kd.int .i64))).R 22 w' b ok s_.2.1 q.zipIdx) ∧ ((∀ k_, (s_.2.1 : Value).ownBlock = some k_ → w.heap.size ≤ k_)) ∧ ((Kd.int .i64).R 3 w' w.heap.size (fun _ => True) s_.2.2 row) ∧ Below w.heap.size w w') ?_ ?_
     rotate_left
     ·
      intro hJ0_2_9
      refine join_ (σ := Value × Value × Value) 3 (Fn.bl 13 2043) (fun s_ => [(47, s_.1), (56, s_.2.1), (57, s_.2.2)]) (fun s_ w' => ((Kd.tag f (Kd.slice 3 (Kd.int .i64))).R 22 w' b (fun k_ => w.heap.size ≤ k_) s_.1 []) ∧ ((Kd.tag f (Kd.slice 3 (Kd.int .i64))).R 22 w' b (fun k_ => w.heap.size ≤ k_ ∧ some k_ ≠ (s_.1 : Value).ownBlock) s_.2.2 [(row, q.length)]) ∧ Below w.heap.size w w') ?_ ?_
      rotate_left
      ·
       intro hJ0_9_10
       refine join_ (σ := Value × Value) 4 (Fn.bl 13 511) (fun s_ => [(47, s_.1), (49, s_.2)]) (fun s_ w' => ((Kd.tag f (Kd.slice 3 (Kd.int .i64))).R 22 w' b ok s_.2 q.zipIdx) ∧ ((∀ k_, (s_.2 : Value).ownBlock = some k_ → w.heap.size ≤ k_)) ∧ Below w.heap.size w w') ?_ ?_
       rotate_left
       ·
        intro hJ0_2
        refine join_ (σ := Value × Value) 4 (Fn.bl 13 1019) (fun s_ => [(47, s_.1), (56, s_.2)]) (fun s_ w' => ((Kd.tag f (Kd.slice 3 (Kd.int .i64))).R 22 w' b (fun k_ => w.heap.size ≤ k_) s_.1 []) ∧ ((Kd.int .i64).R 3 w' w.heap.size (fun _ => True) s_.2 row) ∧ Below w.heap.size w w') ?_ ?_
        rotate_left
        ·
         intro hJ0_9
         refine join_ (σ := Value × Value) 4 (Fn.bl 13 2042) (fun s_ => [(56, s_.1), (57, s_.2)]) (fun s_ w' => ((Kd.tag f (Kd.slice 3 (Kd.int .i64))).R 22 w' b (fun k_ => w.heap.size ≤ k_) s_.2 [(row, q.length)]) ∧ Below w.heap.size w w') ?_ ?_
         rotate_left
         ·
          intro hJ9_10
          refine join_ (σ := Value) 5 (Fn.bl 13 507) (fun s_ => [(47, s_)]) (fun s_ w' => ((Kd.tag f (Kd.slice 3 (Kd.int .i64))).R 22 w' b (fun k_ => w.heap.size ≤ k_) s_ []) ∧ Below w.heap.size w w') ?_ ?_
          rotate_left
          ·
           intro hJ0
           refine join_ (σ := Value) 5 (Fn.bl 13 1018) (fun s_ => [(56, s_)]) (fun s_ w' => ((Kd.int .i64).R 3 w' w.heap.size (fun _ => True) s_ row) ∧ Below w.heap.size w w') ?_ ?_
           rotate_left
           ·
            intro hJ9
            refine two_ (i := 0) (j := 9) (Ni := some 47) (Nj := some 56) (Fn.bl 13 507) (Fn.bl 13 1018) rfl rfl rfl rfl (two_of HT_.out (by kernel_rfl)) (by decide) (by decide) (fun K hK => ?_) (fun K hK => ?_)
            ·
             refine Kd.R_lit_step (Kd.tag f (Kd.slice 3 (Kd.int .i64))) (w0 := w) b 22 (by rfl) (N := 47) rfl (xs := ([] : List (List Int × Nat))) (inner := ([] : List Value)) (ok := (fun k_ => w.heap.size ≤ k_)) (okp := fun _ => False) ?h1_ ⟨by simp, fun j p hj => by simp at hj⟩ (fun _ hk => hk.elim) hHeld.size (spec_quWatch.lo hHeld HB0.out) (Nat.le_trans HB0.out hHeld.size) (by simp) ?_
             case h1_ => first | (go_simp; done) | (go_simp; rfl)
             intro v47 w1 h47 hb_ hg_ hat_
             have hn_ := spec_quWatch.gb hHeld hg_ hHeld.size (fun _ h_ => by cases h_)
             refine hK.out _ _ hn_ (fun hHeld => ?_)
             clear hK K
             exact norm_ (by first | (simp only [putAll, Act.put, List.setIfInBounds_toArray, List.set_cons_zero, List.set_cons_succ]; done) | (simp only [putAll, Act.put, List.setIfInBounds_toArray, List.set_cons_zero, List.set_cons_succ]; rfl)) (hJ0 v47 _ ⟨h47, hHeld⟩)
            ·
             refine Kd.R_lit_step (Kd.int .i64) (w0 := w) w.heap.size 3 (by rfl) (N := 56) rfl (xs := ([wrap64 (Int.tdiv x10 a0), Int.tmod x10 a0] : List Int)) (inner := [.int .i64 (wrap64 (Int.tdiv x10 a0)), .int .i64 (Int.tmod x10 a0)]) (ok := fun _ => True) (okp := fun _ => True) ?h2_ ?hp2_ (fun _ hk => hk) trivial hHeld hHeld.size (by simp) ?_
             case h2_ => first | (go_simp; done) | (go_simp; rfl)
             case hp2_ => exact (Reps.one (show Kd.M (Kd.int .i64) _ _ _ (wrap64 (Int.tdiv x10 a0)) [.int .i64 (wrap64 (Int.tdiv x10 a0))] from rfl) (Reps.one (show Kd.M (Kd.int .i64) _ _ _ (Int.tmod x10 a0) [.int .i64 (Int.tmod x10 a0)] from rfl) (Reps.none _ _)))
             intro v56 w1 h56 hb_ hg_ hat_
             rw [← HROW.out] at h56
             have hn_ := spec_quWatch.gb hHeld hg_ hHeld.size (fun _ h_ => by cases h_)
             refine hK.out _ _ hn_ (fun hHeld => ?_)
             clear hK K
             exact norm_ (by first | (simp only [putAll, Act.put, List.setIfInBounds_toArray, List.set_cons_zero, List.set_cons_succ]; done) | (simp only [putAll, Act.put, List.setIfInBounds_toArray, List.set_cons_zero, List.set_cons_succ]; rfl)) (hJ9 v56 _ ⟨h56, hHeld⟩)
           ·
            rintro v56 w7 ⟨h56, hHeld⟩
            try dsimp only at h56
            refine norm_ (a' := ?_) ?_ ?_
            rotate_left
            · simp only [putAll, Act.put, List.setIfInBounds_toArray, List.set_cons_zero, List.set_cons_succ]
              rfl
            refine two_ (i := 0) (j := 10) (Ni := some 47) (Nj := some 57) (Fn.bl 13 1019) (Fn.bl 13 2042) rfl rfl rfl rfl (two_of HT_.out (by kernel_rfl)) (by decide) (by decide) (fun K hK => ?_) (fun K hK => ?_)
            ·
             refine Kd.R_lit_step (Kd.tag f (Kd.slice 3 (Kd.int .i64))) (w0 := w) b 22 (by rfl) (N := 47) rfl (xs := ([] : List (List Int × Nat))) (inner := ([] : List Value)) (ok := (fun k_ => w.heap.size ≤ k_)) (okp := fun _ => False) ?h3_ ⟨by simp, fun j p hj => by simp at hj⟩ (fun _ hk => hk.elim) hHeld.size (spec_quWatch.lo hHeld HB0.out) (Nat.le_trans HB0.out hHeld.size) (by simp) ?_
             case h3_ => first | (go_simp; done) | (go_simp; rfl)
             intro v47 w1 h47 hb_ hg_ hat_
             replace h56 := Kd.R_grown h56 hg_ (fun _ _ => by simp)
             have hn_ := spec_quWatch.gb hHeld hg_ hHeld.size (fun _ h_ => by cases h_)
             refine hK.out _ _ hn_ (fun hHeld => ?_)
             clear hK K
             exact norm_ (by first | (simp only [putAll, Act.put, List.setIfInBounds_toArray, List.set_cons_zero, List.set_cons_succ]; done) | (simp only [putAll, Act.put, List.setIfInBounds_toArray, List.set_cons_zero, List.set_cons_succ]; rfl)) (hJ0_9 (v47, v56) _ ⟨h47, h56, hHeld⟩)
            ·
             obtain ⟨A56, c56, e56⟩ := Kd.R_slice h56
             subst e56
             refine Kd.R_lit_step (Kd.tag f (Kd.slice 3 (Kd.int .i64))) (w0 := w) b 22 (by rfl) (N := 57) rfl (xs := [(row, q.length)]) (inner := [.slice A56 row.length c56]) (ok := (fun k_ => w.heap.size ≤ k_)) (okp := fun k_ => w.heap.size ≤ k_ ∧ ∃ c_, w7.heap[k_]? = some (.cells c_ 3 (0, 0))) ?h4_ (spec_quWatch.hrep h56 HB0.out HF.out) (fun k_ hk => hk.1) hHeld.size (spec_quWatch.lo hHeld HB0.out) (Nat.le_trans HB0.out hHeld.size) (by simp) ?_
             case h4_ => first | (go_simp; done) | (go_simp; rfl)
             intro v57 w1 h57 hb_ hg_ hat_
             have hn_ := spec_quWatch.gb hHeld hg_ hHeld.size (fun _ h_ => by cases h_)
             refine hK.out _ _ hn_ (fun hHeld => ?_)
             clear hK K
             exact norm_ (by first | (simp only [putAll, Act.put, List.setIfInBounds_toArray, List.set_cons_zero, List.set_cons_succ]; done) | (simp only [putAll, Act.put, List.setIfInBounds_toArray, List.set_cons_zero, List.set_cons_succ]; rfl)) (hJ9_10 ((.slice A56 row.length c56), v57) _ ⟨h57, hHeld⟩)
          ·
           rintro v47 w7 ⟨h47, hHeld⟩
           try dsimp only at h47
           refine norm_ (a' := ?_) ?_ ?_
           rotate_left
           · simp only [putAll, Act.put, List.setIfInBounds_toArray, List.set_cons_zero, List.set_cons_succ]
             rfl
           refine two_ (i := 2) (j := 9) (Ni := some 49) (Nj := some 56) (Fn.bl 13 511) (Fn.bl 13 1019) rfl rfl rfl rfl (two_of HT_.out (by kernel_rfl)) (by decide) (by decide) (fun K hK => ?_) (fun K hK => ?_)
           ·
            have g47 := h47.1
            refine Kd.R_append_rows_step (Kd.tag f (Kd.slice 3 (Kd.int .i64))) (w0 := w) b (by rfl) (.tmp 47) (.tmp 48) 41 22 (.slice none 0 0) 24 rfl Try.underlying41 info22 rfl (show 0 < 1 by decide) (by omega) v47 [] q.zipIdx Aq q.length cq ok (fun k_ => ok k_ ∧ k_ < w.heap.size ∧ some k_ ≠ (Value.slice Aq q.length cq).ownBlock) rfl rfl (Kd.R_mono h47 (fun k_ hk => HOK.out k_ hk)) (HT.out _ hHeld) (fun _ _ hh => hh) (fun k_ hk => ⟨hk.1, fun e_ => by have := g47 k_ e_.symm; have := hk.2.1; omega⟩) (fun k_ hk => HOK.out k_ (Nat.le_trans hHeld.size hk)) (spec_quWatch.lo hHeld HB0.out) (Nat.le_trans HB0.out hHeld.size) (by have := C15.out; simp at this ⊢; omega) ?_
            intro v49 w1 h49 hb_ hg_ hat_
            rw [List.nil_append] at h49
            have g49 : ∀ k_, v49.ownBlock = some k_ → w.heap.size ≤ k_ := fun k_ e_ => by rcases hat_ with h_ | ⟨b_, h_, hb2_⟩; exact g47 k_ (h_ ▸ e_); (rw [h_] at e_; injection e_ with e_; have := hHeld.size; omega)
            have hn_ := spec_quWatch.gb hHeld hg_ hHeld.size (fun k_ h_ => g47 k_ h_)
            refine hK.out _ _ hn_ (fun hHeld => ?_)
            clear hK K
            exact norm_ (by first | (simp only [putAll, Act.put, List.setIfInBounds_toArray, List.set_cons_zero, List.set_cons_succ]; done) | (simp only [putAll, Act.put, List.setIfInBounds_toArray, List.set_cons_zero, List.set_cons_succ]; rfl)) (hJ0_2 (v47, v49) _ ⟨h49, g49, hHeld⟩)
           ·
            refine Kd.R_lit_step (Kd.int .i64) (w0 := w) w.heap.size 3 (by rfl) (N := 56) rfl (xs := ([wrap64 (Int.tdiv x10 a0), Int.tmod x10 a0] : List Int)) (inner := [.int .i64 (wrap64 (Int.tdiv x10 a0)), .int .i64 (Int.tmod x10 a0)]) (ok := fun _ => True) (okp := fun _ => True) ?h6_ ?hp6_ (fun _ hk => hk) trivial hHeld hHeld.size (by simp) ?_
            case h6_ => first | (go_simp; done) | (go_simp; rfl)
            case hp6_ => exact (Reps.one (show Kd.M (Kd.int .i64) _ _ _ (wrap64 (Int.tdiv x10 a0)) [.int .i64 (wrap64 (Int.tdiv x10 a0))] from rfl) (Reps.one (show Kd.M (Kd.int .i64) _ _ _ (Int.tmod x10 a0) [.int .i64 (Int.tmod x10 a0)] from rfl) (Reps.none _ _)))
            intro v56 w1 h56 hb_ hg_ hat_
            rw [← HROW.out] at h56
            replace h47 := Kd.R_grown h47 hg_ (fun _ _ => by simp)
            have hn_ := spec_quWatch.gb hHeld hg_ hHeld.size (fun _ h_ => by cases h_)
            refine hK.out _ _ hn_ (fun hHeld => ?_)
            clear hK K
            exact norm_ (by first | (simp only [putAll, Act.put, List.setIfInBounds_toArray, List.set_cons_zero, List.set_cons_succ]; done) | (simp only [putAll, Act.put, List.setIfInBounds_toArray, List.set_cons_zero, List.set_cons_succ]; rfl)) (hJ0_9 (v47, v56) _ ⟨h47, h56, hHeld⟩)
         ·
          rintro ⟨v56, v57⟩ w7 ⟨h57, hHeld⟩
          try dsimp only at h57
          refine norm_ (a' := ?_) ?_ ?_
          rotate_left
          · simp only [putAll, Act.put, List.setIfInBounds_toArray, List.set_cons_zero, List.set_cons_succ]
            rfl
          refine one_ (i := 0) (N := some 47) (Fn.bl 13 2043) rfl rfl (one_of HT_.out (by kernel_rfl)) (by decide) (fun K hK => ?_)
          refine Kd.R_lit_step (Kd.tag f (Kd.slice 3 (Kd.int .i64))) (w0 := w) b 22 (by rfl) (N := 47) rfl (xs := ([] : List (List Int × Nat))) (inner := ([] : List Value)) (ok := (fun k_ => w.heap.size ≤ k_)) (okp := fun _ => False) ?h7_ ⟨by simp, fun j p hj => by simp at hj⟩ (fun _ hk => hk.elim) hHeld.size (spec_quWatch.lo hHeld HB0.out) (Nat.le_trans HB0.out hHeld.size) (by simp) ?_
          case h7_ => first | (go_simp; done) | (go_simp; rfl)
          intro v47 w1 h47 hb_ hg_ hat_
          replace h57 := spec_quWatch.apart h57 hg_ hat_
          have hn_ := spec_quWatch.gb hHeld hg_ hHeld.size (fun _ h_ => by cases h_)
          refine hK.out _ _ hn_ (fun hHeld => ?_)
          clear hK K
          exact norm_ (by first | (simp only [putAll, Act.put, List.setIfInBounds_toArray, List.set_cons_zero, List.set_cons_succ]; done) | (simp only [putAll, Act.put, List.setIfInBounds_toArray, List.set_cons_zero, List.set_cons_succ]; rfl)) (hJ0_9_10 (v47, v56, v57) _ ⟨h47, h57, hHeld⟩)
        ·
         rintro ⟨v47, v56⟩ w7 ⟨h47, h56, hHeld⟩
         try dsimp only at h47 h56
         refine norm_ (a' := ?_) ?_ ?_
         rotate_left
         · simp only [putAll, Act.put, List.setIfInBounds_toArray, List.set_cons_zero, List.set_cons_succ]
           rfl
         refine two_ (i := 2) (j := 10) (Ni := some 49) (Nj := some 57) (Fn.bl 13 1023) (Fn.bl 13 2043) rfl rfl rfl rfl (two_of HT_.out (by kernel_rfl)) (by decide) (by decide) (fun K hK => ?_) (fun K hK => ?_)
         ·
          have g47 := h47.1
          have hty := Kd.R_typed h47
          refine Kd.R_append_rows_step (Kd.tag f (Kd.slice 3 (Kd.int .i64))) (w0 := w) b (by rfl) (.tmp 47) (.tmp 48) 41 22 (.slice none 0 0) 24 rfl Try.underlying41 info22 rfl (show 0 < 1 by decide) (by omega) v47 [] q.zipIdx Aq q.length cq ok (fun k_ => ok k_ ∧ k_ < w.heap.size ∧ some k_ ≠ (Value.slice Aq q.length cq).ownBlock) rfl rfl (Kd.R_mono h47 (fun k_ hk => HOK.out k_ hk)) (HT.out _ hHeld) (fun _ _ hh => hh) (fun k_ hk => ⟨hk.1, fun e_ => by have := g47 k_ e_.symm; have := hk.2.1; omega⟩) (fun k_ hk => HOK.out k_ (Nat.le_trans hHeld.size hk)) (spec_quWatch.lo hHeld HB0.out) (Nat.le_trans HB0.out hHeld.size) (by have := C15.out; simp at this ⊢; omega) ?_
          intro v49 w1 h49 hb_ hg_ hat_
          rw [List.nil_append] at h49
          have g49 : ∀ k_, v49.ownBlock = some k_ → w.heap.size ≤ k_ := fun k_ e_ => by rcases hat_ with h_ | ⟨b_, h_, hb2_⟩; exact g47 k_ (h_ ▸ e_); (rw [h_] at e_; injection e_ with e_; have := hHeld.size; omega)
          replace h56 := Kd.R_over' h56 hty (by decide) hg_
          have hn_ := spec_quWatch.gb hHeld hg_ hHeld.size (fun k_ h_ => g47 k_ h_)
          refine hK.out _ _ hn_ (fun hHeld => ?_)
          clear hK K
          exact norm_ (by first | (simp only [putAll, Act.put, List.setIfInBounds_toArray, List.set_cons_zero, List.set_cons_succ]; done) | (simp only [putAll, Act.put, List.setIfInBounds_toArray, List.set_cons_zero, List.set_cons_succ]; rfl)) (hJ0_2_9 (v47, v49, v56) _ ⟨h49, g49, h56, hHeld⟩)
         ·
          obtain ⟨A56, c56, e56⟩ := Kd.R_slice h56
          subst e56
          have hty := Kd.R_typed h47
          have hlt := Kd.R_lt h47
          refine Kd.R_lit_step (Kd.tag f (Kd.slice 3 (Kd.int .i64))) (w0 := w) b 22 (by rfl) (N := 57) rfl (xs := [(row, q.length)]) (inner := [.slice A56 row.length c56]) (ok := (fun k_ => w.heap.size ≤ k_ ∧ some k_ ≠ (v47 : Value).ownBlock)) (okp := fun k_ => w.heap.size ≤ k_ ∧ ∃ c_, w7.heap[k_]? = some (.cells c_ 3 (0, 0))) ?h9_ (spec_quWatch.hrep h56 HB0.out HF.out) (fun k_ hk => ⟨hk.1, fun e_ => by obtain ⟨c_, h_⟩ := hty k_ e_.symm; obtain ⟨c2_, h2_⟩ := hk.2; rw [h_] at h2_; cases h2_⟩) ⟨hHeld.size, fun e_ => by have := hlt _ e_.symm; omega⟩ (spec_quWatch.lo hHeld HB0.out) (Nat.le_trans HB0.out hHeld.size) (by simp) ?_
          case h9_ => first | (go_simp; done) | (go_simp; rfl)
          intro v57 w1 h57 hb_ hg_ hat_
          replace h47 := Kd.R_grown h47 hg_ (fun _ _ => by simp)
          have hn_ := spec_quWatch.gb hHeld hg_ hHeld.size (fun _ h_ => by cases h_)
          refine hK.out _ _ hn_ (fun hHeld => ?_)
          clear hK K
          exact norm_ (by first | (simp only [putAll, Act.put, List.setIfInBounds_toArray, List.set_cons_zero, List.set_cons_succ]; done) | (simp only [putAll, Act.put, List.setIfInBounds_toArray, List.set_cons_zero, List.set_cons_succ]; rfl)) (hJ0_9_10 (v47, (.slice A56 row.length c56), v57) _ ⟨h47, h57, hHeld⟩)
       ·
        rintro ⟨v47, v49⟩ w7 ⟨h49, g49, hHeld⟩
        try dsimp only at h49 g49
        refine norm_ (a' := ?_) ?_ ?_
        rotate_left
        · simp only [putAll, Act.put, List.setIfInBounds_toArray, List.set_cons_zero, List.set_cons_succ]
          rfl
        refine one_ (i := 9) (N := some 56) (Fn.bl 13 1023) rfl rfl (one_of HT_.out (by kernel_rfl)) (by decide) (fun K hK => ?_)
        refine Kd.R_lit_step (Kd.int .i64) (w0 := w) w.heap.size 3 (by rfl) (N := 56) rfl (xs := ([wrap64 (Int.tdiv x10 a0), Int.tmod x10 a0] : List Int)) (inner := [.int .i64 (wrap64 (Int.tdiv x10 a0)), .int .i64 (Int.tmod x10 a0)]) (ok := fun _ => True) (okp := fun _ => True) ?h10_ ?hp10_ (fun _ hk => hk) trivial hHeld hHeld.size (by simp) ?_
        case h10_ => first | (go_simp; done) | (go_simp; rfl)
        case hp10_ => exact (Reps.one (show Kd.M (Kd.int .i64) _ _ _ (wrap64 (Int.tdiv x10 a0)) [.int .i64 (wrap64 (Int.tdiv x10 a0))] from rfl) (Reps.one (show Kd.M (Kd.int .i64) _ _ _ (Int.tmod x10 a0) [.int .i64 (Int.tmod x10 a0)] from rfl) (Reps.none _ _)))
        intro v56 w1 h56 hb_ hg_ hat_
        rw [← HROW.out] at h56
        replace h49 := Kd.R_grown h49 hg_ (fun _ _ => by simp)
        have hn_ := spec_quWatch.gb hHeld hg_ hHeld.size (fun _ h_ => by cases h_)
        refine hK.out _ _ hn_ (fun hHeld => ?_)
        clear hK K
        exact norm_ (by first | (simp only [putAll, Act.put, List.setIfInBounds_toArray, List.set_cons_zero, List.set_cons_succ]; done) | (simp only [putAll, Act.put, List.setIfInBounds_toArray, List.set_cons_zero, List.set_cons_succ]; rfl)) (hJ0_2_9 (v47, v49, v56) _ ⟨h49, g49, h56, hHeld⟩)
      ·
       rintro ⟨v47, v56, v57⟩ w7 ⟨h47, h57, hHeld⟩
       try dsimp only at h47 h57
       refine norm_ (a' := ?_) ?_ ?_
       rotate_left
       · simp only [putAll, Act.put, List.setIfInBounds_toArray, List.set_cons_zero, List.set_cons_succ]
         rfl
       refine one_ (i := 2) (N := some 49) (Fn.bl 13 2047) rfl rfl (one_of HT_.out (by kernel_rfl)) (by decide) (fun K hK => ?_)
       have g47 := h47.1
       refine Kd.R_append_rows_step (Kd.tag f (Kd.slice 3 (Kd.int .i64))) (w0 := w) b (by rfl) (.tmp 47) (.tmp 48) 41 22 (.slice none 0 0) 24 rfl Try.underlying41 info22 rfl (show 0 < 1 by decide) (by omega) v47 [] q.zipIdx Aq q.length cq ok (fun k_ => ok k_ ∧ k_ < w.heap.size ∧ some k_ ≠ (Value.slice Aq q.length cq).ownBlock) rfl rfl (Kd.R_mono h47 (fun k_ hk => HOK.out k_ hk)) (HT.out _ hHeld) (fun _ _ hh => hh) (fun k_ hk => ⟨hk.1, fun e_ => by have := g47 k_ e_.symm; have := hk.2.1; omega⟩) (fun k_ hk => HOK.out k_ (Nat.le_trans hHeld.size hk)) (spec_quWatch.lo hHeld HB0.out) (Nat.le_trans HB0.out hHeld.size) (by have := C15.out; simp at this ⊢; omega) ?_
       intro v49 w1 h49 hb_ hg_ hat_
       rw [List.nil_append] at h49
       have g49 : ∀ k_, v49.ownBlock = some k_ → w.heap.size ≤ k_ := fun k_ e_ => by rcases hat_ with h_ | ⟨b_, h_, hb2_⟩; exact g47 k_ (h_ ▸ e_); (rw [h_] at e_; injection e_ with e_; have := hHeld.size; omega)
       replace h57 := Kd.R_mono (Kd.R_grown h57 hg_ (fun _ hk => hk.2)) (fun _ hk => hk.1)
       have hn_ := spec_quWatch.gb hHeld hg_ hHeld.size (fun k_ h_ => g47 k_ h_)
       refine hK.out _ _ hn_ (fun hHeld => ?_)
       clear hK K
       exact norm_ (by first | (simp only [putAll, Act.put, List.setIfInBounds_toArray, List.set_cons_zero, List.set_cons_succ]; done) | (simp only [putAll, Act.put, List.setIfInBounds_toArray, List.set_cons_zero, List.set_cons_succ]; rfl)) (hJ0_2_9_10 (v47, v49, v56, v57) _ ⟨h49, g49, h57, hHeld⟩)
     ·
      rintro ⟨v47, v49, v56⟩ w7 ⟨h49, g49, h56, hHeld⟩
      try dsimp only at h49 g49 h56
      refine norm_ (a' := ?_) ?_ ?_
      rotate_left
      · simp only [putAll, Act.put, List.setIfInBounds_toArray, List.set_cons_zero, List.set_cons_succ]
        rfl
      refine one_ (i := 10) (N := some 57) (Fn.bl 13 2047) rfl rfl (one_of HT_.out (by kernel_rfl)) (by decide) (fun K hK => ?_)
      obtain ⟨A56, c56, e56⟩ := Kd.R_slice h56
      subst e56
      refine Kd.R_lit_step (Kd.tag f (Kd.slice 3 (Kd.int .i64))) (w0 := w) b 22 (by rfl) (N := 57) rfl (xs := [(row, q.length)]) (inner := [.slice A56 row.length c56]) (ok := (fun k_ => w.heap.size ≤ k_)) (okp := fun k_ => w.heap.size ≤ k_ ∧ ∃ c_, w7.heap[k_]? = some (.cells c_ 3 (0, 0))) ?h12_ (spec_quWatch.hrep h56 HB0.out HF.out) (fun k_ hk => hk.1) hHeld.size (spec_quWatch.lo hHeld HB0.out) (Nat.le_trans HB0.out hHeld.size) (by simp) ?_
      case h12_ => first | (go_simp; done) | (go_simp; rfl)
      intro v57 w1 h57 hb_ hg_ hat_
      replace h49 := Kd.R_grown h49 hg_ (fun _ _ => by simp)
      have hn_ := spec_quWatch.gb hHeld hg_ hHeld.size (fun _ h_ => by cases h_)
      refine hK.out _ _ hn_ (fun hHeld => ?_)
      clear hK K
      exact norm_ (by first | (simp only [putAll, Act.put, List.setIfInBounds_toArray, List.set_cons_zero, List.set_cons_succ]; done) | (simp only [putAll, Act.put, List.setIfInBounds_toArray, List.set_cons_zero, List.set_cons_succ]; rfl)) (hJ0_2_9_10 (v47, v49, (.slice A56 row.length c56), v57) _ ⟨h49, g49, h57, hHeld⟩)
    ·
     rintro ⟨v47, v49, v56, v57⟩ w7 ⟨h49, g49, h57, hHeld⟩
     try dsimp only at h49 g49 h57
     refine norm_ (a' := ?_) ?_ ?_
     rotate_left
     · simp only [putAll, Act.put, List.setIfInBounds_toArray, List.set_cons_zero, List.set_cons_succ]
       rfl
     obtain ⟨A57, c57, e57, hl57, hr57⟩ := OwnRow.reads h57.2
     subst e57
     have hty := Kd.R_typed h49
     refine one_ (i := 11) (N := some 58) (Fn.bl 13 4095) rfl rfl (one_of HT_.out (by kernel_rfl)) (by decide) (fun K hK => ?_)
     refine Kd.R_append_rows_step (Kd.tag f (Kd.slice 3 (Kd.int .i64))) (w0 := w) b (by rfl) (.tmp 49) (.tmp 57) 41 22 (.slice none 0 0) 24 rfl Try.underlying41 info22 rfl (show 0 < 1 by decide) (by omega) v49 q.zipIdx [(row, q.length)] A57 ([(row, q.length)] : List (List Int × Nat)).length c57 ok (fun k_ => w.heap.size ≤ k_ ∧ ∃ c_, w7.heap[k_]? = some (.cells c_ 3 (0, 0))) rfl rfl h49 hr57 (fun _ _ hh => spec_quWatch.inner hh) (fun k_ hk => ⟨HOK.out k_ hk.1, fun e_ => by obtain ⟨c_, h_⟩ := hty k_ e_.symm; obtain ⟨c2_, h2_⟩ := hk.2; rw [h_] at h2_; cases h2_⟩) (fun k_ hk => HOK.out k_ (Nat.le_trans hHeld.size hk)) (spec_quWatch.lo hHeld HB0.out) (Nat.le_trans HB0.out hHeld.size) (by have := C17.out; simp at this ⊢; omega) ?_
     intro v58 w8 h58 hb_ hg_ hat_
     have hn_ := spec_quWatch.gb hHeld hg_ hHeld.size (fun k_ h_ => g49 k_ h_)
     have hS : Kd.S (Kd.slice 3 (Kd.int .i64)) 22 w8 b ok v58 (q ++ [row]) := ⟨f, by rw [List.zipIdx_append]; simpa using h58⟩
     clear h58 hg_ hat_ hb_ hty hr57 h57 h49 g49 hl57
     obtain ⟨q2, hq2⟩ : ∃ y_ : List (List Int), y_ = q ++ [row] := ⟨_, rfl⟩
     rw [← hq2] at hS A6
     clear hq2
     obtain ⟨A58, c58, e58⟩ := Kd.S_slice hS
     subst e58
     have HS8 := A_ hS
     clear hS
     refine hK.out _ _ hn_ (fun hHeld => ?_)
     clear hK K
     refine norm_ (a' := ?_) ?_ ?_
     rotate_left
     · show Act.put _ (some 58) _ = _
       simp only [Act.put, List.setIfInBounds_toArray, List.set_cons_zero, List.set_cons_succ, i64_w, i32_w]
       rfl
     refine pq_ 12 (some 11) (Fn.bl 13 8191) HT_.out ?_
     refine done_ (done_of HT_.out (by kernel_rfl)) ?_
     have HB := A_ hHeld
     clear hHeld
     have h := H.out
     clear H
     try dsimp only at h
     cases b3 with
     | true =>
      rw [if_pos rfl] at h
      obtain ⟨rfl, rfl⟩ := Prod.mk.inj (Option.some.inj h)
      clear h
      go_wp2_with (first | (refine gc_ 112 ?_; refine goesT_ (some 64) Try.func112 #[.int .i64 a0, .int .i64 (wrap64 (a1 - 1)), .slice A58 q2.length c58] ?_; (with_reducible refine (ih k2 (by have := HJ5.out; have := HK2.out; omega) a0 (wrap64 (a1 - 1)) b ok A58 c58 q2 r3 true _ (Nat.le_trans HB0.out HB.out.size) (fun k_ hk => HOK.out k_ (Nat.le_trans HB.out.size hk)) ?side1 A6.out).mono ?_); (case side1 => exact HS8.out); rintro e w9 ⟨v12, rfl, ho0, hb⟩; refine ⟨_, rfl, ?_⟩; have HO9 := A_ ho0; have HB9 := A_ (below_then HB.out HB.out.size hb); clear ho0 hb))
      clear HB
      have HB := HB9
      clear HB9
      go_ret2
      exact ⟨_, te_, by (with_reducible repeat (first | apply Kd.S_alloc | apply Kd.S_drewN | apply Kd.S_drew)); exact HO9.out, tb_⟩
     | false =>
      rw [if_neg (show ¬ (false = true) by decide)] at h
      have H := A_ h
      clear h
      go_wp2_with (first | (refine gc_ 112 ?_; refine goesT_ (some 64) Try.func112 #[.int .i64 a0, .int .i64 (wrap64 (a1 - 1)), .slice A58 q2.length c58] ?_; (with_reducible refine (ih k2 (by have := HJ5.out; have := HK2.out; omega) a0 (wrap64 (a1 - 1)) b ok A58 c58 q2 r3 false _ (Nat.le_trans HB0.out HB.out.size) (fun k_ hk => HOK.out k_ (Nat.le_trans HB.out.size hk)) ?side1 A6.out).mono ?_); (case side1 => exact HS8.out); rintro e w9 ⟨v12, rfl, ho0, hb⟩; refine ⟨_, rfl, ?_⟩; have HO9 := A_ ho0; have HB9 := A_ (below_then HB.out HB.out.size hb); clear ho0 hb))
      clear HB
      have HB := HB9
      clear HB9
      go_roundg k2
      case measure => have := HK2.out; omega
      case rel => exact ⟨wrap64 (x10 + 1), tf_, H, ⟨by have := HK2.out; omega⟩, ⟨tb_⟩⟩

/-! ### spec_LeastWatch: function 40 -/
def spec_LeastWatch.l0 : Nat → Int → Int → Option ((List (List Int)) × Bool)
 | 0, _, _ => none
 | k + 1, x0, x4 => if x4 < x0 then ((spec_quWatch.f k x0 x4 ([] : List (List Int))).bind fun bt817 => (if bt817.2 = true then (some (bt817.1, true)) else (spec_LeastWatch.l0 k x0 (wrap64 (x4 + 1))))) else ((spec_quWatch.f k x0 x0 ([] : List (List Int))).bind fun bt821 => (some (bt821.1, bt821.2)))
def spec_LeastWatch.f (k : Nat) (a0 : Int) : Option ((List (List Int)) × Bool) := (spec_l1In.f a0 1 6).bind fun t816 => (if t816 = true then (spec_LeastWatch.l0 k a0 1) else (some (([] : List (List Int)), false)))
theorem spec_LeastWatch.mono_l : ∀ k, (∀ y0 y1, LeO (spec_LeastWatch.l0 k y0 y1) (spec_LeastWatch.l0 (k + 1) y0 y1))
 | 0 => fun _ _ r h => by simp [spec_LeastWatch.l0] at h
 | k + 1 => by
  have ih0 := spec_LeastWatch.mono_l k
  ·
   intro y0 y1
   unfold spec_LeastWatch.l0
   repeat' first | (with_reducible first | exact ih0 _ _ | exact spec_quWatch.mono _ _ _ _ | exact LeO.refl _ | exact LeO.none _ | refine LeO.ite ?_ ?_ | refine LeO.bind ?_ (fun _ => ?_)) | exact ih0 _ _ | exact spec_quWatch.mono _ _ _ _ | exact LeO.none _ | refine LeO.ite ?_ ?_ | refine LeO.bind ?_ (fun _ => ?_)
theorem spec_LeastWatch.mono : ∀ a0 k, LeO (spec_LeastWatch.f k a0) (spec_LeastWatch.f (k + 1) a0) := by
 intro a0 k
 have ih0 := spec_LeastWatch.mono_l k
 unfold spec_LeastWatch.f
 repeat' first | (with_reducible first | exact ih0 _ _ | exact spec_quWatch.mono _ _ _ _ | exact LeO.refl _ | exact LeO.none _ | refine LeO.ite ?_ ?_ | refine LeO.bind ?_ (fun _ => ?_)) | exact ih0 _ _ | exact spec_quWatch.mono _ _ _ _ | exact LeO.none _ | refine LeO.ite ?_ ?_ | refine LeO.bind ?_ (fun _ => ?_)
theorem spec_LeastWatch.calls (k : Nat) (a0 : Int) (r1 : List (List Int)) (r2 : Bool) (w : World) (h : spec_LeastWatch.f k a0 = some (r1, r2)) :
  Calls Try.prog 40 #[.int .i64 a0] w fun e w' => ∃ v0_ : Value, e = .returned (.tuple #[v0_, .bool r2]) ∧ Kd.S (Kd.slice 3 (Kd.int .i64)) 22 w' w.heap.size (fun _ => True) v0_ r1 ∧ Below w.heap.size w w' := by
 have HB := A_ (Below.refl w.heap.size w)
 have H : ((spec_l1In.f a0 1 6).bind fun t816 => (if t816 = true then (spec_LeastWatch.l0 k a0 1) else (some (([] : List (List Int)), false)))) = some (r1, r2) := h
 clear h
 replace H := Option.bind_eq_some_iff.mp H
 obtain ⟨t816, A20, H⟩ := H
 replace H : (if t816 = true then (spec_LeastWatch.l0 k a0 1) else (some (([] : List (List Int)), false))) = some (r1, r2) := H
 have A2 := A_ A20
 clear A20
 by_cases c3 : t816 = true
 ·
  subst c3
  have H1 : (spec_LeastWatch.l0 k a0 1) = some (r1, r2) := by rw [if_pos rfl] at H; exact H
  clear H
  have H := H1
  clear H1
  have H' := A_ H
  clear H
  go_enter Try.func40, Try.ntmps40
  go_wp2_with (first | (refine gc_ 111 ?_; refine goesT_ (some 8) Try.func111 #[.int .i64 a0, .int .i64 1, .int .i64 6] ?_; (with_reducible refine (spec_l1In.calls a0 1 6 true _ A2.out).mono ?_); rintro e w' ⟨rfl, ⟨nd, rfl⟩⟩; refine ⟨_, rfl, ?_⟩))
  go_loopg [4] k (fun kq v4 w' => ∃ (x4_1 : Int), v4 = .int .i64 x4_1 ∧ Aside0 (spec_LeastWatch.l0 kq a0 x4_1 = some (r1, r2)) ∧ Aside0 (kq ≤ k) ∧ Aside0 (Below w.heap.size w w'))
  case atStart => exact ⟨(1), tf_, H', ⟨Nat.le_refl _⟩, ⟨tb_⟩⟩
  case round =>
   clear H'
   try clear c1
   try clear p2
   try clear c3
   obtain ⟨x4_1, rfl, HA, HK1, HB⟩ := hrel
   cases gk with
   | zero => exact absurd HA.out (by simp [spec_LeastWatch.l0])
   | succ k1 =>
    have H := HA.out
    clear HA
    simp only [spec_LeastWatch.l0] at H
    by_cases c4 : x4_1 < a0
    ·
     rw [if_pos c4] at H
     have c4b0 := decide_eq_true c4
     clear c4
     replace H := Option.bind_eq_some_iff.mp H
     obtain ⟨⟨t817, t820⟩, A50, H⟩ := H
     replace H : (if t820 = true then (some (t817, true)) else (spec_LeastWatch.l0 k1 a0 (wrap64 (x4_1 + 1)))) = some (r1, r2) := H
     have A5 := A_ A50
     clear A50
     by_cases c6 : t820 = true
     ·
      subst c6
      have H1 : (some (t817, true)) = some (r1, r2) := by rw [if_pos rfl] at H; exact H
      clear H
      have H := H1
      clear H1
      simp only [Option.some.injEq, Prod.mk.injEq] at H
      obtain ⟨rfl, rfl⟩ := H
      go_wp2_with (first | (refine gc_ 112 ?_; refine goesT_ (some 18) Try.func112 #[.int .i64 a0, .int .i64 x4_1, .slice none 0 0] ?_; (refine (spec_quWatch.calls k1 a0 x4_1 w.heap.size (fun _ => True) _ _ ([] : List (List Int)) t817 true _ (below_size tb_) (fun _ _ => trivial) (Kd.S_nil _ _ _ _ _) A5.out).mono ?_); rintro e w7 ⟨v818, rfl, ho0, hb⟩; refine ⟨_, rfl, ?_⟩; have HO819 := A_ ho0; replace HB := A_ (below_step tb_ hb); (try clear hb); (try clear ho0)))
      go_ret2
      exact ⟨_, te_, by (with_reducible repeat (first | apply Kd.S_alloc | apply Kd.S_drewN | apply Kd.S_drew)); exact HO819.out, tb_⟩
     ·
      replace c6 := Bool.eq_false_iff.mpr c6
      subst c6
      have H1 : (spec_LeastWatch.l0 k1 a0 (wrap64 (x4_1 + 1))) = some (r1, r2) := by rw [if_neg (show ¬ (false = true) by decide)] at H; exact H
      clear H
      have H := H1
      clear H1
      have H' := A_ H
      clear H
      go_wp2_with (first | (refine gc_ 112 ?_; refine goesT_ (some 18) Try.func112 #[.int .i64 a0, .int .i64 x4_1, .slice none 0 0] ?_; (refine (spec_quWatch.calls k1 a0 x4_1 w.heap.size (fun _ => True) _ _ ([] : List (List Int)) t817 false _ (below_size tb_) (fun _ _ => trivial) (Kd.S_nil _ _ _ _ _) A5.out).mono ?_); rintro e w8 ⟨v818, rfl, ho0, hb⟩; refine ⟨_, rfl, ?_⟩; have HO819 := A_ ho0; replace HB := A_ (below_step tb_ hb); (try clear hb); (try clear ho0)))
      go_roundg k1
      case measure => have := HK1.out; omega
      case rel => exact ⟨(wrap64 (x4_1 + 1)), tf_, H', ⟨by have := HK1.out; omega⟩, ⟨tb_⟩⟩
    ·
     rw [if_neg c4] at H
     have c4b0 := decide_eq_false c4
     clear c4
     replace H := Option.bind_eq_some_iff.mp H
     obtain ⟨⟨t821, t824⟩, A90, H⟩ := H
     replace H : (some (t821, t824)) = some (r1, r2) := H
     have A9 := A_ A90
     clear A90
     simp only [Option.some.injEq, Prod.mk.injEq] at H
     obtain ⟨rfl, rfl⟩ := H
     go_wp2_with (first | (refine gc_ 112 ?_; refine goesT_ (some 25) Try.func112 #[.int .i64 a0, .int .i64 a0, .slice none 0 0] ?_; (refine (spec_quWatch.calls k1 a0 a0 w.heap.size (fun _ => True) _ _ ([] : List (List Int)) t821 t824 _ (below_size tb_) (fun _ _ => trivial) (Kd.S_nil _ _ _ _ _) A9.out).mono ?_); rintro e w10 ⟨v822, rfl, ho0, hb⟩; refine ⟨_, rfl, ?_⟩; have HO823 := A_ ho0; replace HB := A_ (below_step tb_ hb); (try clear hb); (try clear ho0)))
     go_ret2
     exact ⟨_, te_, by (with_reducible repeat (first | apply Kd.S_alloc | apply Kd.S_drewN | apply Kd.S_drew)); exact HO823.out, tb_⟩
 ·
  replace c3 := Bool.eq_false_iff.mpr c3
  subst c3
  have H1 : (some (([] : List (List Int)), false)) = some (r1, r2) := by rw [if_neg (show ¬ (false = true) by decide)] at H; exact H
  clear H
  have H := H1
  clear H1
  simp only [Option.some.injEq, Prod.mk.injEq] at H
  obtain ⟨rfl, rfl⟩ := H
  go_enter Try.func40, Try.ntmps40
  go_wp2_with (first | (refine gc_ 111 ?_; refine goesT_ (some 8) Try.func111 #[.int .i64 a0, .int .i64 1, .int .i64 6] ?_; (with_reducible refine (spec_l1In.calls a0 1 6 false _ A2.out).mono ?_); rintro e w' ⟨rfl, ⟨nd, rfl⟩⟩; refine ⟨_, rfl, ?_⟩))
  go_ret2
  exact ⟨_, te_, Kd.S_nil _ _ _ _ _, tb_⟩

/-! ### impl_attacked: function 190 -/
def impl_attacked.f (a0 : Int) (a1 : Int) (a2 : Int) (a3 : Int) : Option (Bool) := some ((mx (wrap64 (a0 - a2)) (wrap64 (a2 - a0))) == (mx (wrap64 (a1 - a3)) (wrap64 (a3 - a1))))
theorem impl_attacked.calls (a0 : Int) (a1 : Int) (a2 : Int) (a3 : Int) (r : Bool) (w : World) (h : impl_attacked.f a0 a1 a2 a3 = some r) :
  Calls Try.prog 190 #[.int .i64 a0, .int .i64 a1, .int .i64 a2, .int .i64 a3] w fun e w' => e = .returned (.bool r) ∧ Below w.heap.size w w' := by
 have HB := A_ (Below.refl w.heap.size w)
 have H : (some ((mx (wrap64 (a0 - a2)) (wrap64 (a2 - a0))) == (mx (wrap64 (a1 - a3)) (wrap64 (a3 - a1))))) = some r := h
 clear h
 obtain ⟨ji5, hji5⟩ : ∃ j_ : Int, (mx (wrap64 (a0 - a2)) (wrap64 (a2 - a0))) = j_ := ⟨_, rfl⟩
 replace H : (some ((ji5) == (mx (wrap64 (a1 - a3)) (wrap64 (a3 - a1))))) = some r := by first | (rw [hji5] at H; exact H) | (simp only [hji5] at H ⊢; exact H)
 have hji5_ : (if (wrap64 (a0 - a2)) < (wrap64 (a2 - a0)) then (wrap64 (a2 - a0)) else (wrap64 (a0 - a2))) = ji5 := hji5
 obtain ⟨ji6, hji6⟩ : ∃ j_ : Int, (mx (wrap64 (a1 - a3)) (wrap64 (a3 - a1))) = j_ := ⟨_, rfl⟩
 replace H : (some ((ji5) == (ji6))) = some r := by first | (rw [hji6] at H; exact H) | (simp only [hji6] at H ⊢; exact H)
 have hji6_ : (if (wrap64 (a1 - a3)) < (wrap64 (a3 - a1)) then (wrap64 (a3 - a1)) else (wrap64 (a1 - a3))) = ji6 := hji6
 obtain rfl := Option.some.inj H
 go_enter Try.func190, Try.ntmps190
 go_wp2
 go_ret
 exact ⟨by first | rfl | (simp [errW_none, errW_some] <;> rfl) | (simp only [← hji5, ← hji6]; first | rfl | (simp [errW_none, errW_some] <;> rfl)) | (simp [*, errW_none, errW_some] <;> rfl), tb_⟩

/-! ### impl_watching_1: function 189 -/
def impl_watching_1.f (l0 : List Int) (a1 : Int) (a2 : Int) : Option (Bool) := if 0 < (l0.length : Int) then (if (rd l0 0) = a1 then (some true) else (if 1 < (l0.length : Int) then (if (rd l0 1) = a2 then (some true) else ((impl_attacked.f (rd l0 0) (rd l0 1) a1 a2).bind fun t797 => (some t797))) else (none))) else (none)
def impl_watching_1.T1 : Bool × List (List Nat × List Nat) := (true, [([], []), ([0], [0]), ([1], [1]), ([], []), ([2, 3], [2, 3]), ([4], [4]), ([5], [5]), ([6, 5], [5, 6]), ([7, 5], [5, 7]), ([5], [5]), ([8, 9, 5], [5, 8, 9]), ([5, 10], [5, 10]), ([11, 5], [11]), ([12], [12]), ([13, 12], [12, 13]), ([14, 12], [12, 14]), ([12], [12]), ([16, 12], [12, 16]), ([17, 12], [12, 17]), ([12], [12]), ([12], [12]), ([15, 18, 19, 20, 12, 12], [12, 15, 18, 19, 20]), ([12, 21], [12, 21]), ([22, 21, 0, 1, 2, 3, 4, 5, 6, 7, 8, 9, 10, 11, 12, 13, 14, 15, 16, 17, 18, 19, 20, 21, 22], [22])])
def impl_watching_1.B1 : List Nat := [0, 1, 3, 0, 15, 31, 63, 127, 255, 63, 1023, 2047, 4095, 8191, 16383, 32767, 8191, 73727, 204799, 8191, 8191, 2097151, 4194303, 8388607]
theorem impl_watching_1.tab1 : rtab .any (opsOf Try.f189 1) = impl_watching_1.T1 := by kernel_rfl
theorem impl_watching_1.bits1 : waitsOk impl_watching_1.T1.2 impl_watching_1.B1 = true := by kernel_rfl
theorem impl_watching_1.calls (A0 : Option Addr) (c0 : Nat) (l0 : List Int) (g1 : Nat) (a1 : Int) (g2 : Nat) (a2 : Int) (r : Bool) (w : World) (hr0 : Kd.C (Kd.int .i64) w A0 l0.length l0) (hc0 : l0.length ≤ c0) (hq1 : w.cell? ⟨g1, 0, none⟩ = some (.int .i64 a1)) (hq2 : w.cell? ⟨g2, 0, none⟩ = some (.int .i64 a2)) (h : impl_watching_1.f l0 a1 a2 = some r) :
  Calls Try.prog 189 #[.slice A0 l0.length c0, .pointer (some ⟨g1, 0, none⟩), .pointer (some ⟨g2, 0, none⟩)] w fun e w' => e = .returned (.bool r) ∧ Below w.heap.size w w' := by
 have HR0 := A_ hr0
 have HC0 := A_ hc0
 clear hr0 hc0
 have HQ1 := A_ hq1
 clear hq1
 have HQ2 := A_ hq2
 clear hq2
 have HB := A_ (Below.refl w.heap.size w)
 have H : (if 0 < (l0.length : Int) then (if (rd l0 0) = a1 then (some true) else (if 1 < (l0.length : Int) then (if (rd l0 1) = a2 then (some true) else ((impl_attacked.f (rd l0 0) (rd l0 1) a1 a2).bind fun t797 => (some t797))) else (none))) else (none)) = some r := h
 clear h
 by_cases c4 : 0 < (l0.length : Int)
 ·
  rw [if_pos c4] at H
  have c4b0 := decide_eq_true c4
  have c4b1 : decide (0 < l0.length) = true := decide_eq_true (by omega)
  clear c4
  by_cases c5 : (rd l0 0) = a1
  ·
   rw [if_pos c5] at H
   have c5b0 : ((rd l0 0) == a1) = true := beq_iff_eq.mpr c5
   have c5b1 : ((rd l0 0) != a1) = false := bne_eq_false_iff_eq.mpr c5
   clear c5
   obtain rfl := Option.some.inj H
   go_enter Try.func189, Try.ntmps189
   try go_wp2
   have n0_ := A_ (below_drew1 HB.out)
   clear HB
   have HB := n0_
   clear n0_
   have p793 : 0 ≤ (0 : Int) := (by omega)
   have q793 : 0 < (l0.length : Int) := od_
   obtain ⟨ad793, e793, hx793_0⟩ := Kd.at_int HR0.out 0 p793 q793
   have hw793_0 := hx793_0
   (try rw [show ((0 : Int)).toNat = 0 from rfl] at hw793_0)
   (try rw [show 0 * 1 = 0 from rfl] at hw793_0)
   (try rw [Addr.add_zero'] at hw793_0)
   cases e793
   have qi793 : (0 < l0.length) = True := eq_true (by omega)
   (try rw [show ((0 : Int)).toNat = 0 from rfl] at hx793_0)
   (try rw [Addr.add_zero'] at hx793_0)
   (try replace hx793_0 := (HB.out.cell (World.block_lt_of_cell? w _ hx793_0)).trans hx793_0)
   replace p793 := eq_true p793
   replace q793 := eq_true q793
   refine start_ (n := 24) (S := fun w' => w'.cell? ad793 = some (.int .i64 (rd l0 0)) ∧ w'.cell? ⟨g1, 0, none⟩ = some (.int .i64 a1) ∧ w'.cell? ⟨g2, 0, none⟩ = some (.int .i64 a2)) (ds := []) (Fn.bl 24 0) (by kernel_rfl) rfl rfl ⟨((HB.out.cell (World.block_lt_of_cell? w _ hw793_0)).trans hw793_0), ((HB.out.cell (World.block_lt_of_cell? w _ HQ1.out)).trans HQ1.out), ((HB.out.cell (World.block_lt_of_cell? w _ HQ2.out)).trans HQ2.out)⟩ (fun hHeld => ?_); refine with_tabW impl_watching_1.tab1 impl_watching_1.bits1 (fun HT_ HW_ => ?_)
   generalize w.drew = w6 at HB hx793_0 hHeld ⊢
   refine pq_ 0 (some 5) (Fn.bl 24 1) HT_.out ?_
   refine pq_ 1 (some 6) (Fn.bl 24 3) HT_.out ?_
   refine tq_ 2 (some 7) (Fn.bl 24 7) HT_.out HW_.out hHeld ?_ (hy0 := by rintro w' ⟨s0, s1, s2⟩; go_simp; with_reducible rfl)
   refine tq_ 3 (some 8) (Fn.bl 24 15) HT_.out HW_.out hHeld ?_ (hy0 := by rintro w' ⟨s0, s1, s2⟩; go_simp; with_reducible rfl)
   refine pq_ 4 (some 9) (Fn.bl 24 31) HT_.out ?_
   refine pq_ 5 (some 10) (Fn.bl 24 63) HT_.out ?_
   refine pu_ 6 (some 11) (Fn.bl 24 127) HT_.out ?_
   refine pu_ 7 (some 12) (Fn.bl 24 255) HT_.out ?_
   refine pu_ 8 (some 13) (Fn.bl 24 511) HT_.out ?_
   refine pu_ 9 (some 14) (Fn.bl 24 1023) HT_.out ?_
   refine pu_ 10 (some 15) (Fn.bl 24 2047) HT_.out ?_
   refine pq_ 11 (some 16) (Fn.bl 24 4095) HT_.out ?_
   refine pq_ 12 (some 17) (Fn.bl 24 8191) HT_.out ?_
   refine pu_ 13 (some 18) (Fn.bl 24 16383) HT_.out ?_
   refine pu_ 14 (some 19) (Fn.bl 24 32767) HT_.out ?_
   refine pu_ 15 (some 20) (Fn.bl 24 65535) HT_.out ?_
   refine pu_ 16 (some 21) (Fn.bl 24 131071) HT_.out ?_
   refine pu_ 17 (some 22) (Fn.bl 24 262143) HT_.out ?_
   refine pu_ 18 (some 23) (Fn.bl 24 524287) HT_.out ?_
   refine pu_ 19 (some 24) (Fn.bl 24 1048575) HT_.out ?_
   refine pu_ 20 (some 25) (Fn.bl 24 2097151) HT_.out ?_
   refine pu_ 21 (some 26) (Fn.bl 24 4194303) HT_.out ?_
   refine pq_ 22 (some 27) (Fn.bl 24 8388607) HT_.out ?_
   refine pq_ 23 (some 4) (Fn.bl 24 16777215) HT_.out ?_
   refine done_ (done_of HT_.out (by kernel_rfl)) ?_
   try go_wp2
   go_ret
   exact ⟨te_, tb_⟩
  ·
   rw [if_neg c5] at H
   have c5b0 : ((rd l0 0) == a1) = false := beq_eq_false_iff_ne.mpr c5
   have c5b1 : ((rd l0 0) != a1) = true := bne_iff_ne.mpr c5
   by_cases c7 : 1 < (l0.length : Int)
   ·
    rw [if_pos c7] at H
    have c7b0 := decide_eq_true c7
    have c7b1 : decide (1 < l0.length) = true := decide_eq_true (by omega)
    clear c7
    by_cases c8 : (rd l0 1) = a2
    ·
     rw [if_pos c8] at H
     have c8b0 : ((rd l0 1) == a2) = true := beq_iff_eq.mpr c8
     have c8b1 : ((rd l0 1) != a2) = false := bne_eq_false_iff_eq.mpr c8
     clear c8
     obtain rfl := Option.some.inj H
     go_enter Try.func189, Try.ntmps189
     try go_wp2
     have n0_ := A_ (below_drew1 HB.out)
     clear HB
     have HB := n0_
     clear n0_
     have p793 : 0 ≤ (0 : Int) := (by omega)
     have q793 : 0 < (l0.length : Int) := od_
     obtain ⟨ad793, e793, hx793_0⟩ := Kd.at_int HR0.out 0 p793 q793
     have hw793_0 := hx793_0
     (try rw [show ((0 : Int)).toNat = 0 from rfl] at hw793_0)
     (try rw [show 0 * 1 = 0 from rfl] at hw793_0)
     (try rw [Addr.add_zero'] at hw793_0)
     cases e793
     have qi793 : (0 < l0.length) = True := eq_true (by omega)
     (try rw [show ((0 : Int)).toNat = 0 from rfl] at hx793_0)
     (try rw [Addr.add_zero'] at hx793_0)
     (try replace hx793_0 := (HB.out.cell (World.block_lt_of_cell? w _ hx793_0)).trans hx793_0)
     replace p793 := eq_true p793
     replace q793 := eq_true q793
     have p794 : 0 ≤ (1 : Int) := (by omega)
     have q794 : 1 < (l0.length : Int) := od_
     obtain ⟨ad794, e794, hx794_0⟩ := Kd.at_int HR0.out 1 p794 q794
     have hw794_0 := hx794_0
     (try rw [show ((1 : Int)).toNat = 1 from rfl] at hw794_0)
     (try rw [show 1 * 1 = 1 from rfl] at hw794_0)
     (try simp only [Nat.reduceMul, Nat.reduceEqDiff, Go.Addr.add, ↓reduceIte] at hw794_0)
     obtain rfl : ad793 = ad794 := (by injection e794)
     (try simp only [show (1 : Int).toNat = 1 from rfl, Nat.reduceMul, Nat.reduceEqDiff, Go.Addr.add, ↓reduceIte] at hx794_0)
     have qi794 : (1 < l0.length) = True := eq_true (by omega)
     (try rw [show ((1 : Int)).toNat = 1 from rfl] at hx794_0)
     (try replace hx794_0 := (HB.out.cell (World.block_lt_of_cell? w _ hx794_0)).trans hx794_0)
     replace p794 := eq_true p794
     replace q794 := eq_true q794
     refine start_ (n := 24) (S := fun w' => w'.cell? ad793 = some (.int .i64 (rd l0 0)) ∧ w'.cell? ⟨ad793.block, ad793.off + 1, none⟩ = some (.int .i64 (rd l0 1)) ∧ w'.cell? ⟨g1, 0, none⟩ = some (.int .i64 a1) ∧ w'.cell? ⟨g2, 0, none⟩ = some (.int .i64 a2)) (ds := []) (Fn.bl 24 0) (by kernel_rfl) rfl rfl ⟨((HB.out.cell (World.block_lt_of_cell? w _ hw793_0)).trans hw793_0), ((HB.out.cell (World.block_lt_of_cell? w _ hw794_0)).trans hw794_0), ((HB.out.cell (World.block_lt_of_cell? w _ HQ1.out)).trans HQ1.out), ((HB.out.cell (World.block_lt_of_cell? w _ HQ2.out)).trans HQ2.out)⟩ (fun hHeld => ?_); refine with_tabW impl_watching_1.tab1 impl_watching_1.bits1 (fun HT_ HW_ => ?_)
     generalize w.drew = w9 at HB hx793_0 hx794_0 hHeld ⊢
     refine pq_ 0 (some 5) (Fn.bl 24 1) HT_.out ?_
     refine pq_ 1 (some 6) (Fn.bl 24 3) HT_.out ?_
     refine tq_ 2 (some 7) (Fn.bl 24 7) HT_.out HW_.out hHeld ?_ (hy0 := by rintro w' ⟨s0, s1, s2, s3⟩; go_simp; with_reducible rfl)
     refine tq_ 3 (some 8) (Fn.bl 24 15) HT_.out HW_.out hHeld ?_ (hy0 := by rintro w' ⟨s0, s1, s2, s3⟩; go_simp; with_reducible rfl)
     refine pq_ 4 (some 9) (Fn.bl 24 31) HT_.out ?_
     refine pq_ 5 (some 10) (Fn.bl 24 63) HT_.out ?_
     refine pq_ 6 (some 11) (Fn.bl 24 127) HT_.out ?_
     refine pq_ 7 (some 12) (Fn.bl 24 255) HT_.out ?_
     refine tq_ 8 (some 13) (Fn.bl 24 511) HT_.out HW_.out hHeld ?_ (hy0 := by rintro w' ⟨s0, s1, s2, s3⟩; go_simp; with_reducible rfl)
     refine tq_ 9 (some 14) (Fn.bl 24 1023) HT_.out HW_.out hHeld ?_ (hy0 := by rintro w' ⟨s0, s1, s2, s3⟩; go_simp; with_reducible rfl)
     refine pq_ 10 (some 15) (Fn.bl 24 2047) HT_.out ?_
     refine pq_ 11 (some 16) (Fn.bl 24 4095) HT_.out ?_
     refine pq_ 12 (some 17) (Fn.bl 24 8191) HT_.out ?_
     refine pu_ 13 (some 18) (Fn.bl 24 16383) HT_.out ?_
     refine pu_ 14 (some 19) (Fn.bl 24 32767) HT_.out ?_
     refine pu_ 15 (some 20) (Fn.bl 24 65535) HT_.out ?_
     refine pu_ 16 (some 21) (Fn.bl 24 131071) HT_.out ?_
     refine pu_ 17 (some 22) (Fn.bl 24 262143) HT_.out ?_
     refine pu_ 18 (some 23) (Fn.bl 24 524287) HT_.out ?_
     refine pu_ 19 (some 24) (Fn.bl 24 1048575) HT_.out ?_
     refine pu_ 20 (some 25) (Fn.bl 24 2097151) HT_.out ?_
     refine pu_ 21 (some 26) (Fn.bl 24 4194303) HT_.out ?_
     refine pq_ 22 (some 27) (Fn.bl 24 8388607) HT_.out ?_
     refine pq_ 23 (some 4) (Fn.bl 24 16777215) HT_.out ?_
     refine done_ (done_of HT_.out (by kernel_rfl)) ?_
     try go_wp2
     go_ret
     exact ⟨te_, tb_⟩
    ·
     rw [if_neg c8] at H
     have c8b0 : ((rd l0 1) == a2) = false := beq_eq_false_iff_ne.mpr c8
     have c8b1 : ((rd l0 1) != a2) = true := bne_iff_ne.mpr c8
     replace H := Option.bind_eq_some_iff.mp H
     obtain ⟨t797, A100, H⟩ := H
     replace H : (some t797) = some r := H
     have A10 := A_ A100
     clear A100
     obtain rfl := Option.some.inj H
     go_enter Try.func189, Try.ntmps189
     try go_wp2
     have n0_ := A_ (below_drew1 HB.out)
     clear HB
     have HB := n0_
     clear n0_
     have p793 : 0 ≤ (0 : Int) := (by omega)
     have q793 : 0 < (l0.length : Int) := od_
     obtain ⟨ad793, e793, hx793_0⟩ := Kd.at_int HR0.out 0 p793 q793
     have hw793_0 := hx793_0
     (try rw [show ((0 : Int)).toNat = 0 from rfl] at hw793_0)
     (try rw [show 0 * 1 = 0 from rfl] at hw793_0)
     (try rw [Addr.add_zero'] at hw793_0)
     cases e793
     have qi793 : (0 < l0.length) = True := eq_true (by omega)
     (try rw [show ((0 : Int)).toNat = 0 from rfl] at hx793_0)
     (try rw [Addr.add_zero'] at hx793_0)
     (try replace hx793_0 := (HB.out.cell (World.block_lt_of_cell? w _ hx793_0)).trans hx793_0)
     replace p793 := eq_true p793
     replace q793 := eq_true q793
     have p794 : 0 ≤ (1 : Int) := (by omega)
     have q794 : 1 < (l0.length : Int) := od_
     obtain ⟨ad794, e794, hx794_0⟩ := Kd.at_int HR0.out 1 p794 q794
     have hw794_0 := hx794_0
     (try rw [show ((1 : Int)).toNat = 1 from rfl] at hw794_0)
     (try rw [show 1 * 1 = 1 from rfl] at hw794_0)
     (try simp only [Nat.reduceMul, Nat.reduceEqDiff, Go.Addr.add, ↓reduceIte] at hw794_0)
     obtain rfl : ad793 = ad794 := (by injection e794)
     (try simp only [show (1 : Int).toNat = 1 from rfl, Nat.reduceMul, Nat.reduceEqDiff, Go.Addr.add, ↓reduceIte] at hx794_0)
     have qi794 : (1 < l0.length) = True := eq_true (by omega)
     (try rw [show ((1 : Int)).toNat = 1 from rfl] at hx794_0)
     (try replace hx794_0 := (HB.out.cell (World.block_lt_of_cell? w _ hx794_0)).trans hx794_0)
     replace p794 := eq_true p794
     replace q794 := eq_true q794
     have p795 : 0 ≤ (0 : Int) := (by omega)
     have q795 : 0 < (l0.length : Int) := od_
     obtain ⟨ad795, e795, hx795_0⟩ := Kd.at_int HR0.out 0 p795 q795
     have hw795_0 := hx795_0
     (try rw [show ((0 : Int)).toNat = 0 from rfl] at hw795_0)
     (try rw [show 0 * 1 = 0 from rfl] at hw795_0)
     (try rw [Addr.add_zero'] at hw795_0)
     obtain rfl : ad793 = ad795 := (by injection e795)
     have qi795 : (0 < l0.length) = True := eq_true (by omega)
     (try rw [show ((0 : Int)).toNat = 0 from rfl] at hx795_0)
     (try rw [Addr.add_zero'] at hx795_0)
     (try replace hx795_0 := (HB.out.cell (World.block_lt_of_cell? w _ hx795_0)).trans hx795_0)
     replace p795 := eq_true p795
     replace q795 := eq_true q795
     have p796 : 0 ≤ (1 : Int) := (by omega)
     have q796 : 1 < (l0.length : Int) := od_
     obtain ⟨ad796, e796, hx796_0⟩ := Kd.at_int HR0.out 1 p796 q796
     have hw796_0 := hx796_0
     (try rw [show ((1 : Int)).toNat = 1 from rfl] at hw796_0)
     (try rw [show 1 * 1 = 1 from rfl] at hw796_0)
     (try simp only [Nat.reduceMul, Nat.reduceEqDiff, Go.Addr.add, ↓reduceIte] at hw796_0)
     obtain rfl : ad793 = ad796 := (by injection e796)
     (try simp only [show (1 : Int).toNat = 1 from rfl, Nat.reduceMul, Nat.reduceEqDiff, Go.Addr.add, ↓reduceIte] at hx796_0)
     have qi796 : (1 < l0.length) = True := eq_true (by omega)
     (try rw [show ((1 : Int)).toNat = 1 from rfl] at hx796_0)
     (try replace hx796_0 := (HB.out.cell (World.block_lt_of_cell? w _ hx796_0)).trans hx796_0)
     replace p796 := eq_true p796
     replace q796 := eq_true q796
     refine start_ (n := 24) (S := fun w' => w'.cell? ad793 = some (.int .i64 (rd l0 0)) ∧ w'.cell? ⟨ad793.block, ad793.off + 1, none⟩ = some (.int .i64 (rd l0 1)) ∧ w'.cell? ad793 = some (.int .i64 (rd l0 0)) ∧ w'.cell? ⟨ad793.block, ad793.off + 1, none⟩ = some (.int .i64 (rd l0 1)) ∧ w'.cell? ⟨g1, 0, none⟩ = some (.int .i64 a1) ∧ w'.cell? ⟨g2, 0, none⟩ = some (.int .i64 a2)) (ds := []) (Fn.bl 24 0) (by kernel_rfl) rfl rfl ⟨((HB.out.cell (World.block_lt_of_cell? w _ hw793_0)).trans hw793_0), ((HB.out.cell (World.block_lt_of_cell? w _ hw794_0)).trans hw794_0), ((HB.out.cell (World.block_lt_of_cell? w _ hw795_0)).trans hw795_0), ((HB.out.cell (World.block_lt_of_cell? w _ hw796_0)).trans hw796_0), ((HB.out.cell (World.block_lt_of_cell? w _ HQ1.out)).trans HQ1.out), ((HB.out.cell (World.block_lt_of_cell? w _ HQ2.out)).trans HQ2.out)⟩ (fun hHeld => ?_); refine with_tabW impl_watching_1.tab1 impl_watching_1.bits1 (fun HT_ HW_ => ?_)
     generalize w.drew = w11 at HB hx793_0 hx794_0 hx795_0 hx796_0 hHeld ⊢
     refine pq_ 0 (some 5) (Fn.bl 24 1) HT_.out ?_
     refine pq_ 1 (some 6) (Fn.bl 24 3) HT_.out ?_
     refine tq_ 2 (some 7) (Fn.bl 24 7) HT_.out HW_.out hHeld ?_ (hy0 := by rintro w' ⟨s0, s1, s2, s3, s4, s5⟩; go_simp; with_reducible rfl)
     refine tq_ 3 (some 8) (Fn.bl 24 15) HT_.out HW_.out hHeld ?_ (hy0 := by rintro w' ⟨s0, s1, s2, s3, s4, s5⟩; go_simp; with_reducible rfl)
     refine pq_ 4 (some 9) (Fn.bl 24 31) HT_.out ?_
     refine pq_ 5 (some 10) (Fn.bl 24 63) HT_.out ?_
     refine pq_ 6 (some 11) (Fn.bl 24 127) HT_.out ?_
     refine pq_ 7 (some 12) (Fn.bl 24 255) HT_.out ?_
     refine tq_ 8 (some 13) (Fn.bl 24 511) HT_.out HW_.out hHeld ?_ (hy0 := by rintro w' ⟨s0, s1, s2, s3, s4, s5⟩; go_simp; with_reducible rfl)
     refine tq_ 9 (some 14) (Fn.bl 24 1023) HT_.out HW_.out hHeld ?_ (hy0 := by rintro w' ⟨s0, s1, s2, s3, s4, s5⟩; go_simp; with_reducible rfl)
     refine pq_ 10 (some 15) (Fn.bl 24 2047) HT_.out ?_
     refine pq_ 11 (some 16) (Fn.bl 24 4095) HT_.out ?_
     refine pq_ 12 (some 17) (Fn.bl 24 8191) HT_.out ?_
     refine pq_ 13 (some 18) (Fn.bl 24 16383) HT_.out ?_
     refine pq_ 14 (some 19) (Fn.bl 24 32767) HT_.out ?_
     refine pq_ 16 (some 21) (Fn.bl 24 98303) HT_.out ?_
     refine pq_ 17 (some 22) (Fn.bl 24 229375) HT_.out ?_
     refine tq_ 15 (some 20) (Fn.bl 24 262143) HT_.out HW_.out hHeld ?_ (hy0 := by rintro w' ⟨s0, s1, s2, s3, s4, s5⟩; go_simp; with_reducible rfl)
     refine tq_ 18 (some 23) (Fn.bl 24 524287) HT_.out HW_.out hHeld ?_ (hy0 := by rintro w' ⟨s0, s1, s2, s3, s4, s5⟩; go_simp; with_reducible rfl)
     refine tq_ 19 (some 24) (Fn.bl 24 1048575) HT_.out HW_.out hHeld ?_ (hy0 := by rintro w' ⟨s0, s1, s2, s3, s4, s5⟩; go_simp; with_reducible rfl)
     refine tq_ 20 (some 25) (Fn.bl 24 2097151) HT_.out HW_.out hHeld ?_ (hy0 := by rintro w' ⟨s0, s1, s2, s3, s4, s5⟩; go_simp; with_reducible rfl)
     refine one_ (i := 21) (N := some 26) (Fn.bl 24 4194303) rfl rfl (one_of HT_.out (by kernel_rfl)) (by decide) (fun K hK => ?_)
     refine goes_ Try.func190 (by kernel_rfl) rfl #[.int .i64 (rd l0 0), .int .i64 (rd l0 1), .int .i64 a1, .int .i64 a2] (by rfl) rfl rfl ta_ ?_
     with_reducible refine (impl_attacked.calls (rd l0 0) (rd l0 1) a1 a2 t797 _ A10.out).mono ?_
     rintro e w12 ⟨rfl, hb⟩
     refine ⟨_, rfl, ?_⟩
     have n0_ := A_ (below_step tb_ hb)
     clear HB
     have HB := n0_
     clear n0_
     (try clear hb)
     (try clear hb2)
     (try clear hk)
     (try clear hi)
     refine hK.out _ _ ⟨((HB.out.cell (World.block_lt_of_cell? w _ hw793_0)).trans hw793_0), ((HB.out.cell (World.block_lt_of_cell? w _ hw794_0)).trans hw794_0), ((HB.out.cell (World.block_lt_of_cell? w _ hw795_0)).trans hw795_0), ((HB.out.cell (World.block_lt_of_cell? w _ hw796_0)).trans hw796_0), ((HB.out.cell (World.block_lt_of_cell? w _ HQ1.out)).trans HQ1.out), ((HB.out.cell (World.block_lt_of_cell? w _ HQ2.out)).trans HQ2.out)⟩ (fun hHeld => ?_)
     clear hK K
     refine norm_ (a' := ?_) ?_ ?_
     rotate_left
     ·
      show Act.put _ (some 26) _ = _
      simp only [Act.put, List.setIfInBounds_toArray, List.set_cons_zero, List.set_cons_succ, i64_w, i32_w]
      rfl
     refine pq_ 22 (some 27) (Fn.bl 24 8388607) HT_.out ?_
     refine pq_ 23 (some 4) (Fn.bl 24 16777215) HT_.out ?_
     refine done_ (done_of HT_.out (by kernel_rfl)) ?_
     try go_wp2
     go_ret
     exact ⟨te_, tb_⟩
   ·
    rw [if_neg c7] at H
    exact absurd H (by simp)
 ·
  rw [if_neg c4] at H
  exact absurd H (by simp)

def impl_watching_1.fc (a1 : Int) (a2 : Int) : FnT57 := fun l0 => impl_watching_1.f l0 a1 a2
theorem impl_watching_1.fcok (w : World) (g1 : Nat) (a1 : Int) (g2 : Nat) (a2 : Int) (hq1 : w.cell? ⟨g1, 0, none⟩ = some (.int .i64 a1)) (hq2 : w.cell? ⟨g2, 0, none⟩ = some (.int .i64 a2)) : FnOk57 w (.func (.func 189) #[] #[.pointer (some ⟨g1, 0, none⟩), .pointer (some ⟨g2, 0, none⟩)]) (impl_watching_1.fc a1 a2) := fun A0 c0 l0 r W hr0 hc0 h hB => ⟨189, _, _, rfl, Try.func189, by kernel_rfl, rfl, (impl_watching_1.calls A0 c0 l0 g1 a1 g2 a2 r W hr0 hc0 ((hB.cell (World.block_lt_of_cell? w _ hq1)).trans hq1) ((hB.cell (World.block_lt_of_cell? w _ hq2)).trans hq2) h).mono fun e w' ⟨he, hd⟩ => ⟨he, hd⟩⟩

/-! ### impl_watching: function 117 -/
mutual
def impl_watching.l0 : Nat → Int → List (List Int) → Int → Int → Option (Bool)
 | 0, _, _, _, _ => none
 | k + 1, x0, x1, x7, x8 => if x8 < x7 then (impl_watching.l1 k x0 x1 x7 x8 x0 0 x8) else (some true)
def impl_watching.l1 : Nat → Int → List (List Int) → Int → Int → Int → Int → Int → Option (Bool)
 | 0, _, _, _, _, _, _, _ => none
 | k + 1, x0, x1, x7, x8, x11, x12, x799000 => if x12 < x11 then ((slices_ContainsFunc_int_int_120.f k x1 (impl_watching_1.fc x799000 x12)).bind fun t800 => (if t800 = true then (impl_watching.l1 k x0 x1 x7 x8 x11 (wrap64 (x12 + 1)) x799000) else (some false))) else (impl_watching.l0 k x0 x1 x7 (wrap64 (x8 + 1)))
end
def impl_watching.f (k : Nat) (a0 : Int) (l1 : List (List Int)) : Option (Bool) := impl_watching.l0 k a0 l1 a0 0
theorem impl_watching.mono_l : ∀ k, (∀ y0 y1 y2 y3, LeO (impl_watching.l0 k y0 y1 y2 y3) (impl_watching.l0 (k + 1) y0 y1 y2 y3)) ∧ (∀ y0 y1 y2 y3 y4 y5 y6, LeO (impl_watching.l1 k y0 y1 y2 y3 y4 y5 y6) (impl_watching.l1 (k + 1) y0 y1 y2 y3 y4 y5 y6))
 | 0 => ⟨fun _ _ _ _ r h => by simp [impl_watching.l0] at h, fun _ _ _ _ _ _ _ r h => by simp [impl_watching.l1] at h⟩
 | k + 1 => by
  obtain ⟨ih0, ih1⟩ := impl_watching.mono_l k
  refine ⟨?_, ?_⟩
  ·
   intro y0 y1 y2 y3
   unfold impl_watching.l0
   repeat' first | (with_reducible first | exact ih0 _ _ _ _ | exact ih1 _ _ _ _ _ _ _ | exact slices_ContainsFunc_int_int_120.mono _ _ _ | exact LeO.refl _ | exact LeO.none _ | refine LeO.ite ?_ ?_ | refine LeO.bind ?_ (fun _ => ?_)) | exact ih0 _ _ _ _ | exact ih1 _ _ _ _ _ _ _ | exact slices_ContainsFunc_int_int_120.mono _ _ _ | exact LeO.none _ | refine LeO.ite ?_ ?_ | refine LeO.bind ?_ (fun _ => ?_)
  ·
   intro y0 y1 y2 y3 y4 y5 y6
   unfold impl_watching.l1
   repeat' first | (with_reducible first | exact ih0 _ _ _ _ | exact ih1 _ _ _ _ _ _ _ | exact slices_ContainsFunc_int_int_120.mono _ _ _ | exact LeO.refl _ | exact LeO.none _ | refine LeO.ite ?_ ?_ | refine LeO.bind ?_ (fun _ => ?_)) | exact ih0 _ _ _ _ | exact ih1 _ _ _ _ _ _ _ | exact slices_ContainsFunc_int_int_120.mono _ _ _ | exact LeO.none _ | refine LeO.ite ?_ ?_ | refine LeO.bind ?_ (fun _ => ?_)
theorem impl_watching.mono : ∀ a0 a1 k, LeO (impl_watching.f k a0 a1) (impl_watching.f (k + 1) a0 a1) := by
 intro a0 a1 k
 obtain ⟨ih0, ih1⟩ := impl_watching.mono_l k
 unfold impl_watching.f
 repeat' first | (with_reducible first | exact ih0 _ _ _ _ | exact ih1 _ _ _ _ _ _ _ | exact slices_ContainsFunc_int_int_120.mono _ _ _ | exact LeO.refl _ | exact LeO.none _ | refine LeO.ite ?_ ?_ | refine LeO.bind ?_ (fun _ => ?_)) | exact ih0 _ _ _ _ | exact ih1 _ _ _ _ _ _ _ | exact slices_ContainsFunc_int_int_120.mono _ _ _ | exact LeO.none _ | refine LeO.ite ?_ ?_ | refine LeO.bind ?_ (fun _ => ?_)
theorem impl_watching.calls (k : Nat) (a0 : Int) (A1 : Option Addr) (c1 : Nat) (l1 : List (List Int)) (r : Bool) (w : World) (hr1 : Kd.C (Kd.slice 3 (Kd.int .i64)) w A1 l1.length l1) (hc1 : l1.length ≤ c1) (h : impl_watching.f k a0 l1 = some r) :
  Calls Try.prog 117 #[.int .i64 a0, .slice A1 l1.length c1] w fun e w' => e = .returned (.bool r) ∧ Below w.heap.size w w' := by
 have HR1 := A_ hr1
 have HC1 := A_ hc1
 clear hr1 hc1
 have HB := A_ (Below.refl w.heap.size w)
 have H : (impl_watching.l0 k a0 l1 a0 0) = some r := h
 clear h
 have H' := A_ H
 clear H
 have hmf_ : ∀ (fn : Go.Fn) (first cap : Array Value) (w : World), (Instr.makeFunc fn first cap).run Try.prog w = .ok (.func fn first cap) w := fun _ _ _ _ => rfl
 go_enter Try.func117, Try.ntmps117
 go_wp2
 go_loopg [8] k (fun kq v8 w' => ∃ (x8_1 : Int), v8 = .int .i64 x8_1 ∧ Aside0 (impl_watching.l0 kq a0 l1 a0 x8_1 = some r) ∧ Aside0 (kq ≤ k) ∧ Aside0 (Below w.heap.size w w'))
 case atStart => exact ⟨(0), tf_, H', ⟨Nat.le_refl _⟩, ⟨tb_⟩⟩
 case round =>
  clear H'
  try clear c1
  try clear p2
  obtain ⟨x8_1, rfl, HA, HK1, HB⟩ := hrel
  cases gk with
  | zero => exact absurd HA.out (by simp [impl_watching.l0])
  | succ k1 =>
   have H := HA.out
   clear HA
   simp only [impl_watching.l0] at H
   by_cases c3 : x8_1 < a0
   ·
    rw [if_pos c3] at H
    have c3b0 := decide_eq_true c3
    clear c3
    have H' := A_ H
    clear H
    go_wp2_with (first | (refine gd_ 5 ?_; refine bx_ 5 #[.int .i64 0] 3 ?_; intro gb798 hg w4 hbox hb; have BK798 := A_ (hbox); have GW798 := A_ ((ts_ hg : w.heap.size ≤ gb798)); have GE798 := A_ ((ts_ hg : w.heap.size ≤ gb798)); replace HB := A_ (below_step tb_ hb); clear hb hbox hg; obtain ⟨hcz5_0, hfz5_0⟩ := cf1_ BK798.out))
    go_loopg [12] k1 (fun kq v12 w' => ∃ (x12_2 : Int), v12 = .int .i64 x12_2 ∧ Aside0 (impl_watching.l1 kq a0 l1 a0 x8_1 a0 x12_2 x8_1 = some r) ∧ Aside0 (kq ≤ k1) ∧ Aside0 (w'.heap[gb798]? = some (.cells #[.int .i64 x8_1] 3 (0, 0))) ∧ Aside0 (Below w.heap.size w w'))
    case atStart => exact ⟨(0), tf_, H', ⟨Nat.le_refl _⟩, ⟨by (with_reducible repeat (first | refine blk_drewN ?_ _ | refine blk_drew ?_ | refine blk_alloc ?_ _)); refine blk_put (cs := #[.int .i64 0]) ?_ 0 _ rfl; (with_reducible repeat (first | refine blk_drewN ?_ _ | refine blk_drew ?_ | refine blk_alloc ?_ _)); exact BK798.out⟩, ⟨tb_⟩⟩
    case round =>
     clear H'
     try clear c1
     try clear p2
     try clear c3
     try clear c3b0
     try clear hcz5_0
     try clear hfz5_0
     try clear p2
     obtain ⟨x12_2, rfl, HA, HK2, BK798, HB⟩ := hrel
     cases gk with
     | zero => exact absurd HA.out (by simp [impl_watching.l1])
     | succ k2 =>
      have H := HA.out
      clear HA
      simp only [impl_watching.l1] at H
      by_cases c6 : x12_2 < a0
      ·
       rw [if_pos c6] at H
       have c6b0 := decide_eq_true c6
       clear c6
       replace H := Option.bind_eq_some_iff.mp H
       obtain ⟨t800, A70, H⟩ := H
       replace H : (if t800 = true then (impl_watching.l1 k2 a0 l1 a0 x8_1 a0 (wrap64 (x12_2 + 1)) x8_1) else (some false)) = some r := H
       have A7 := A_ A70
       clear A70
       by_cases c8 : t800 = true
       ·
        subst c8
        have H1 : (impl_watching.l1 k2 a0 l1 a0 x8_1 a0 (wrap64 (x12_2 + 1)) x8_1) = some r := by rw [if_pos rfl] at H; exact H
        clear H
        have H := H1
        clear H1
        have H' := A_ H
        clear H
        go_wp2_with (first | (refine gd_ 6 ?_; refine bx_ 6 #[.int .i64 0] 3 ?_; intro gb799 hg w9 hbox hb; have BK799 := A_ (hbox); have GW799 := A_ ((ts_ hg : w.heap.size ≤ gb799)); have GE799 := A_ ((ts_ hg : w.heap.size ≤ gb799)); replace HB := A_ (below_step tb_ hb); have NB798_799 := A_ ((by rw [hg]; exact Nat.ne_of_lt (blk_lt (g := gb798) (o := .cells #[.int .i64 x8_1] 3 (0, 0)) (tk_ BK798)) : gb798 ≠ gb799)); have NB799_798 := A_ ((by rw [hg]; exact Nat.ne_of_gt (blk_lt (g := gb798) (o := .cells #[.int .i64 x8_1] 3 (0, 0)) (tk_ BK798)) : gb799 ≠ gb798)); replace BK798 := A_ (blk_below (g := gb798) (o := .cells #[.int .i64 x8_1] 3 (0, 0)) (tk_ BK798) hb); clear hb hbox hg; have hnb10 := NB799_798.out; have hnc10 := NB798_799.out; obtain ⟨hcz11_0, hfz11_0⟩ := cf1_ BK799.out) | (refine gc_ 120 ?_; refine goesT_ (some 17) Try.func120 #[.slice A1 l1.length c1, .func (.func 189) #[] #[.pointer (some ⟨gb798, 0, none⟩), .pointer (some ⟨gb799, 0, none⟩)]] ?_; (with_reducible refine (slices_ContainsFunc_int_int_120.calls k2 _ _ l1 (.func (.func 189) #[] #[.pointer (some ⟨gb798, 0, none⟩), .pointer (some ⟨gb799, 0, none⟩)]) (impl_watching_1.fc x8_1 x12_2) true _ ?side1 ?side2 ?side3 A7.out).mono ?_); (case side1 => exact Kd.C_below HR1.out tb_); (case side2 => exact HC1.out); (case side3 => exact impl_watching_1.fcok _ _ _  _ _  ((blk_cell (g := gb798) (cs := #[.int .i64 x8_1]) (t := 3) (tk_ BK798) 0).trans rfl) ((blk_cell (g := gb799) (cs := #[.int .i64 x12_2]) (t := 3) (by (with_reducible repeat (first | refine blk_drewN ?_ _ | refine blk_drew ?_ | refine blk_alloc ?_ _)); refine blk_put (cs := #[.int .i64 0]) ?_ 0 _ rfl; (with_reducible repeat (first | refine blk_drewN ?_ _ | refine blk_drew ?_ | refine blk_alloc ?_ _)); exact BK799.out) 0).trans rfl)); rintro e w12 ⟨rfl, hb⟩; refine ⟨_, rfl, ?_⟩; replace BK798 := A_ (blk_below (g := gb798) (o := .cells #[.int .i64 x8_1] 3 (0, 0)) (tk_ BK798) hb); replace BK799 := A_ (blk_below (g := gb799) (o := .cells #[.int .i64 x12_2] 3 (0, 0)) (by (with_reducible repeat (first | refine blk_drewN ?_ _ | refine blk_drew ?_ | refine blk_alloc ?_ _)); refine blk_put (cs := #[.int .i64 0]) ?_ 0 _ rfl; (with_reducible repeat (first | refine blk_drewN ?_ _ | refine blk_drew ?_ | refine blk_alloc ?_ _)); exact BK799.out) hb); replace HB := A_ (below_step tb_ hb); (try clear hb)))
        go_roundg k2
        case measure => have := HK1.out; have := HK2.out; omega
        case rel => exact ⟨(wrap64 (x12_2 + 1)), tf_, H', ⟨by have := HK1.out; have := HK2.out; omega⟩, ⟨tk_ BK798⟩, ⟨tb_⟩⟩
       ·
        replace c8 := Bool.eq_false_iff.mpr c8
        subst c8
        have H1 : (some false) = some r := by rw [if_neg (show ¬ (false = true) by decide)] at H; exact H
        clear H
        have H := H1
        clear H1
        obtain rfl := Option.some.inj H
        go_wp2_with (first | (refine gd_ 6 ?_; refine bx_ 6 #[.int .i64 0] 3 ?_; intro gb799 hg w13 hbox hb; have BK799 := A_ (hbox); have GW799 := A_ ((ts_ hg : w.heap.size ≤ gb799)); have GE799 := A_ ((ts_ hg : w.heap.size ≤ gb799)); replace HB := A_ (below_step tb_ hb); have NB798_799 := A_ ((by rw [hg]; exact Nat.ne_of_lt (blk_lt (g := gb798) (o := .cells #[.int .i64 x8_1] 3 (0, 0)) (tk_ BK798)) : gb798 ≠ gb799)); have NB799_798 := A_ ((by rw [hg]; exact Nat.ne_of_gt (blk_lt (g := gb798) (o := .cells #[.int .i64 x8_1] 3 (0, 0)) (tk_ BK798)) : gb799 ≠ gb798)); replace BK798 := A_ (blk_below (g := gb798) (o := .cells #[.int .i64 x8_1] 3 (0, 0)) (tk_ BK798) hb); clear hb hbox hg; have hnb14 := NB799_798.out; have hnc14 := NB798_799.out; obtain ⟨hcz15_0, hfz15_0⟩ := cf1_ BK799.out) | (refine gc_ 120 ?_; refine goesT_ (some 17) Try.func120 #[.slice A1 l1.length c1, .func (.func 189) #[] #[.pointer (some ⟨gb798, 0, none⟩), .pointer (some ⟨gb799, 0, none⟩)]] ?_; (with_reducible refine (slices_ContainsFunc_int_int_120.calls k2 _ _ l1 (.func (.func 189) #[] #[.pointer (some ⟨gb798, 0, none⟩), .pointer (some ⟨gb799, 0, none⟩)]) (impl_watching_1.fc x8_1 x12_2) false _ ?side1 ?side2 ?side3 A7.out).mono ?_); (case side1 => exact Kd.C_below HR1.out tb_); (case side2 => exact HC1.out); (case side3 => exact impl_watching_1.fcok _ _ _  _ _  ((blk_cell (g := gb798) (cs := #[.int .i64 x8_1]) (t := 3) (tk_ BK798) 0).trans rfl) ((blk_cell (g := gb799) (cs := #[.int .i64 x12_2]) (t := 3) (by (with_reducible repeat (first | refine blk_drewN ?_ _ | refine blk_drew ?_ | refine blk_alloc ?_ _)); refine blk_put (cs := #[.int .i64 0]) ?_ 0 _ rfl; (with_reducible repeat (first | refine blk_drewN ?_ _ | refine blk_drew ?_ | refine blk_alloc ?_ _)); exact BK799.out) 0).trans rfl)); rintro e w16 ⟨rfl, hb⟩; refine ⟨_, rfl, ?_⟩; replace BK798 := A_ (blk_below (g := gb798) (o := .cells #[.int .i64 x8_1] 3 (0, 0)) (tk_ BK798) hb); replace BK799 := A_ (blk_below (g := gb799) (o := .cells #[.int .i64 x12_2] 3 (0, 0)) (by (with_reducible repeat (first | refine blk_drewN ?_ _ | refine blk_drew ?_ | refine blk_alloc ?_ _)); refine blk_put (cs := #[.int .i64 0]) ?_ 0 _ rfl; (with_reducible repeat (first | refine blk_drewN ?_ _ | refine blk_drew ?_ | refine blk_alloc ?_ _)); exact BK799.out) hb); replace HB := A_ (below_step tb_ hb); (try clear hb)))
        go_ret
        exact ⟨te_, tb_⟩
      ·
       rw [if_neg c6] at H
       have c6b0 := decide_eq_false c6
       clear c6
       have H' := A_ H
       clear H
       go_wp2
       go_roundg k2
       case measure => have := HK1.out; have := HK2.out; omega
       case rel => exact ⟨(wrap64 (x8_1 + 1)), tf_, H', ⟨by have := HK1.out; have := HK2.out; omega⟩, ⟨tb_⟩⟩
   ·
    rw [if_neg c3] at H
    have c3b0 := decide_eq_false c3
    clear c3
    obtain rfl := Option.some.inj H
    go_wp2
    go_ret
    exact ⟨te_, tb_⟩

/-! ### impl_LeastWatch_1: function 116 -/
mutual
def impl_LeastWatch_1.f (n most : Int) (all : List (List Int)) : Nat → Int → List (List Int) → Option (Bool × List (List Int))
 | 0, _, _ => none
 | k + 1, fr, q => if (q.length : Int) = most then (impl_watching.f k n q).bind fun b => some (b, q) else impl_LeastWatch_1.l0 n most all k fr q
def impl_LeastWatch_1.l0 (n most : Int) (all : List (List Int)) : Nat → Int → List (List Int) → Option (Bool × List (List Int))
 | 0, _, _ => none
 | k + 1, i, q => if i < (all.length : Int) then (if 0 ≤ i then (if q.length < 5864062014805 then ((impl_LeastWatch_1.f n most all k (wrap64 (i + 1)) (q ++ [all.getD i.toNat []])).bind fun r => if r.1 = true then some r else if r.2 = q ++ [all.getD i.toNat []] then impl_LeastWatch_1.l0 n most all k (wrap64 (i + 1)) q else none) else none) else none) else some (false, q)
end
theorem impl_LeastWatch_1.mono_l (n most : Int) (all : List (List Int)) : ∀ k, (∀ fr q, LeO (impl_LeastWatch_1.f n most all k fr q) (impl_LeastWatch_1.f n most all (k + 1) fr q)) ∧ (∀ i q, LeO (impl_LeastWatch_1.l0 n most all k i q) (impl_LeastWatch_1.l0 n most all (k + 1) i q))
 | 0 => ⟨fun _ _ r h => by simp [impl_LeastWatch_1.f] at h, fun _ _ r h => by simp [impl_LeastWatch_1.l0] at h⟩
 | k + 1 => by
  obtain ⟨i0, i1⟩ := impl_LeastWatch_1.mono_l n most all k
  refine ⟨?_, ?_⟩
  ·
   intro fr q
   unfold impl_LeastWatch_1.f
   refine LeO.ite ?_ (i1 _ _)
   exact LeO.bind (impl_watching.mono _ _ _) (fun _ => LeO.refl _)
  ·
   intro i q
   unfold impl_LeastWatch_1.l0
   refine LeO.ite ?_ (LeO.refl _)
   refine LeO.ite ?_ (LeO.refl _)
   refine LeO.ite ?_ (LeO.refl _)
   refine LeO.bind (i0 _ _) (fun r => ?_)
   refine LeO.ite (LeO.refl _) ?_
   exact LeO.ite (i1 _ _) (LeO.refl _)
theorem impl_LeastWatch_1.mono (n most : Int) (all : List (List Int)) : ∀ fr q k, LeO (impl_LeastWatch_1.f n most all k fr q) (impl_LeastWatch_1.f n most all (k + 1) fr q) := fun fr q k => (impl_LeastWatch_1.mono_l n most all k).1 _ _
def impl_LeastWatch_1.self (gl gm gn ga gx : Nat) : Value := .func (.func 116) #[] #[.pointer (some ⟨gl, 0, none⟩), .pointer (some ⟨gm, 0, none⟩), .pointer (some ⟨gn, 0, none⟩), .pointer (some ⟨ga, 0, none⟩), .pointer (some ⟨gx, 0, none⟩)]
def impl_LeastWatch_1.vars (gl gm gn ga gx : Nat) (n most : Int) (Aa : Option Addr) (na ca : Nat) : List (Nat × Nat × Value) :=
 [(gm, 3, .int .i64 most), (gn, 3, .int .i64 n), (ga, 41, .slice Aa na ca), (gx, 47, impl_LeastWatch_1.self gl gm gn ga gx)]
abbrev impl_LeastWatch_1.St (bI : Nat) (w w0 : World) (U : Nat → Prop) (L : List (Nat × Nat × Value)) (gl : Nat) (W : World) (vl : Value) (q : List (List Int)) : Prop :=
 Cap.Lw 3 bI 22 41 w w0 U L gl W vl q
theorem impl_LeastWatch_1.enters (gl gm gn ga gx : Nat) {fr : Int} {w : World} {Q : Ending → World → Prop} (h : Calls Try.prog 116 #[.int .i64 fr, .pointer (some ⟨gl, 0, none⟩), .pointer (some ⟨gm, 0, none⟩), .pointer (some ⟨gn, 0, none⟩), .pointer (some ⟨ga, 0, none⟩), .pointer (some ⟨gx, 0, none⟩)] w Q) :
  Fn.CallsV Try.prog (impl_LeastWatch_1.self gl gm gn ga gx) #[.int .i64 fr] w Q := ⟨116, _, _, rfl, Try.func116, by kernel_rfl, rfl, by simpa using h⟩
theorem impl_LeastWatch_1.calls (w w0 : World) (U : Nat → Prop) (bI gl gm gn ga gx : Nat) (Aa : Option Addr) (ca : Nat) (all : List (List Int)) (n most : Int) (hA0 : (Cap.lent 3 bI U w0).C w0 Aa all.length all) (hU0 : ∀ ad, Aa = some ad → U ad.block) (hc0 : all.length ≤ ca) (k : Nat) :
  ∀ (W : World) (vl : Value) (q : List (List Int)) (fr : Int) (r : Bool × List (List Int)) (hS : impl_LeastWatch_1.St bI w w0 U (impl_LeastWatch_1.vars gl gm gn ga gx n most Aa all.length ca) gl W vl q) (h : impl_LeastWatch_1.f n most all k fr q = some r),
  Calls Try.prog 116 #[.int .i64 fr, .pointer (some ⟨gl, 0, none⟩), .pointer (some ⟨gm, 0, none⟩), .pointer (some ⟨gn, 0, none⟩), .pointer (some ⟨ga, 0, none⟩), .pointer (some ⟨gx, 0, none⟩)] W fun e W' => e = .returned (.bool r.1) ∧ ∃ vl', impl_LeastWatch_1.St bI w w0 U (impl_LeastWatch_1.vars gl gm gn ga gx n most Aa all.length ca) gl W' vl' r.2 := by
 have hA := A_ hA0
 have hU := A_ hU0
 have hC := A_ hc0
 clear hA0 hU0 hc0
 induction k using Nat.strongRecOn with
 | _ k ih =>
 intro W vl q fr r hS h
 cases k with
 | zero => exact absurd h (by simp [impl_LeastWatch_1.f])
 | succ k =>
 simp only [impl_LeastWatch_1.f] at h
 obtain ⟨Al, cl, rfl⟩ := Kd.R_slice hS.hl
 have hcl := hS.celll
 have hcm := hS.fix.cell (g := gm) (.head _)
 have hcn := hS.fix.cell (g := gn) (.tail _ (.head _))
 have hrw := A_ (hS.rows (e := 3))
 have HS := A_ hS
 clear hS
 obtain ⟨i0, hi0, _⟩ := info_parts info22
 replace hi0 := A_ hi0
 by_cases c3 : (q.length : Int) = most
 ·
  rw [if_pos c3] at h
  have c3b0 : ((q.length : Int) == most) = true := beq_iff_eq.mpr c3
  have c3b1 : ((q.length : Int) != most) = false := bne_eq_false_iff_eq.mpr c3
  clear c3
  obtain ⟨b, A1, H⟩ := Option.bind_eq_some_iff.mp h
  obtain rfl := Option.some.inj H
  clear h H
  replace A1 := A_ A1
  go_enter Try.func116, Try.ntmps116
  go_wp2_with (first | (refine gc_ 117 ?_; refine goesL_ (some 15) rfl rfl Try.func117 (by kernel_rfl) rfl #[.int .i64 n, .slice Al q.length cl] rfl (by (try simp only [List.map_toArray, List.map_cons, List.map_nil]); first | done | rfl) ?_; (with_reducible refine (impl_watching.calls k n Al cl q b _ hrw.out.2.2 hrw.out.2.1 A1.out).mono ?_); rintro e w5 ⟨rfl, hd⟩; refine ⟨_, rfl, ?_⟩; have HS5 := A_ (HS.out.below (by first | exact hd | exact hd.below)); clear hd))
  go_ret
  exact ⟨rfl, _, HS5.out⟩
 ·
  rw [if_neg c3] at h
  have c3b0 : ((q.length : Int) == most) = false := beq_eq_false_iff_ne.mpr c3
  have c3b1 : ((q.length : Int) != most) = true := bne_iff_ne.mpr c3
  clear c3
  replace h := A_ h
  go_enter Try.func116, Try.ntmps116
  go_wp2
  go_loopg [8] k (fun kq v8 W' => ∃ (i : Int) (vl2 : Value), v8 = .int .i64 i ∧ Aside0 (impl_LeastWatch_1.l0 n most all kq i q = some r) ∧ Aside0 (kq ≤ k) ∧ Aside0 (impl_LeastWatch_1.St bI w w0 U (impl_LeastWatch_1.vars gl gm gn ga gx n most Aa all.length ca) gl W' vl2 q))
  case atStart => exact ⟨fr, _, rfl, h, ⟨Nat.le_refl _⟩, HS⟩
  case round =>
   clear h HS hcl hcm hcn hrw
   obtain ⟨i, vl2, rfl, HA, HK1, HS⟩ := hrel
   obtain ⟨Al2, cl2, e2⟩ := Kd.R_slice HS.out.hl
   subst e2
   have hcl := HS.out.celll
   have hca := HS.out.fix.cell (g := ga) (.tail _ (.tail _ (.head _)))
   cases gk with
   | zero => exact absurd HA.out (by simp [impl_LeastWatch_1.l0])
   | succ k1 =>
    have H := HA.out
    clear HA
    simp only [impl_LeastWatch_1.l0] at H
    by_cases c4 : i < (all.length : Int)
    case neg =>
     rw [if_neg c4] at H
     have c4b := decide_eq_false c4
     clear c4
     obtain rfl := Option.some.inj H
     clear H
     go_wp2
     go_ret
     exact ⟨rfl, _, HS.out⟩
    rw [if_pos c4] at H
    have c4b := decide_eq_true c4
    by_cases c5 : 0 ≤ i
    case neg =>
     rw [if_neg c5] at H
     exact absurd H (by simp)
    rw [if_pos c5] at H
    by_cases c6 : q.length < 5864062014805
    case neg =>
     rw [if_neg c6] at H
     exact absurd H (by simp)
    rw [if_pos c6] at H
    have c6a := A_ c6
    clear c6
    obtain ⟨⟨b3, q3⟩, A3, H⟩ := Option.bind_eq_some_iff.mp H
    replace A3 := A_ A3
    have HSd := A_ (HS.out.below (below_drew (Below.refl _ _)))
    obtain ⟨ad, Ax, cx, rfl, hxe, hxl⟩ := HSd.out.elem hA.out hU.out i c5 c4
    have hxl := A_ hxl
    have p5 := eq_true c5
    have q5 := eq_true c4
    have hw : wrap64 (q.length : Int) = (q.length : Int) := by have := c6a.out; unfold wrap64; omega
    have HW := A_ hw
    clear hw
    go_wp2
    refine start_ (n := 8) (S := fun w' => w'.cell? ⟨gl, 0, none⟩ = some (.slice Al2 q.length cl2) ∧ w'.cell? ⟨ga, 0, none⟩ = some (.slice (some ad) all.length ca) ∧ w'.cell? (ad.add i.toNat) = some (.slice Ax (all.getD i.toNat []).length cx)) (ds := [7]) (Fn.bl 8 0) (by kernel_rfl) rfl rfl ⟨HSd.out.celll, HSd.out.fix.cell (.tail _ (.tail _ (.head _))), hxe⟩ (fun hHeld => ?_)
    clear HS hcl hca hxe
    generalize World.drew _ = w6 at HSd hHeld ⊢
    refine take_ (i := 0) (N := some 23) (v := ?_) (a' := ?_) (Fn.bl 8 1) rfl rfl (by kernel_rfl) (fun _ _ _ h => h) (Or.inl ⟨by rfl, ?_⟩) hHeld ?_ ?_
    rotate_left
    ·
     rintro w' ⟨s0, s1, s2⟩
     go_simp
     with_reducible rfl
    rotate_left
    ·
     simp only [Act.put, List.setIfInBounds_toArray, List.set_cons_zero, List.set_cons_succ, i64_w, i32_w]
     rfl
    refine take_ (i := 1) (N := some 24) (v := ?_) (a' := ?_) (Fn.bl 8 3) rfl rfl (by kernel_rfl) (fun _ _ _ h => h) (Or.inl ⟨by rfl, ?_⟩) hHeld ?_ ?_
    rotate_left
    ·
     rintro w' ⟨s0, s1, s2⟩
     go_simp
     with_reducible rfl
    rotate_left
    ·
     simp only [Act.put, List.setIfInBounds_toArray, List.set_cons_zero, List.set_cons_succ, i64_w, i32_w]
     rfl
    refine take_ (i := 2) (N := some 25) (v := ?_) (a' := ?_) (Fn.bl 8 7) rfl rfl (by kernel_rfl) (fun _ _ _ h => h) (Or.inl ⟨by rfl, ?_⟩) hHeld ?_ ?_
    rotate_left
    ·
     rintro w' ⟨s0, s1, s2⟩
     go_simp
     with_reducible rfl
    rotate_left
    ·
     simp only [Act.put, List.setIfInBounds_toArray, List.set_cons_zero, List.set_cons_succ, i64_w, i32_w]
     rfl
    refine take_ (i := 3) (N := some 26) (v := ?_) (a' := ?_) (Fn.bl 8 15) rfl rfl (by kernel_rfl) (fun _ _ _ h => h) (Or.inl ⟨by rfl, ?_⟩) hHeld ?_ ?_
    rotate_left
    ·
     rintro w' ⟨s0, s1, s2⟩
     go_simp
     with_reducible rfl
    rotate_left
    ·
     simp only [Act.put, List.setIfInBounds_toArray, List.set_cons_zero, List.set_cons_succ, i64_w, i32_w]
     rfl
    refine take_ (i := 4) (N := some 27) (v := ?_) (a' := ?_) (Fn.bl 8 31) rfl rfl (by kernel_rfl) (fun _ _ _ h => h) (Or.inl ⟨by rfl, ?_⟩) hHeld ?_ ?_
    rotate_left
    ·
     rintro w' ⟨s0, s1, s2⟩
     go_simp
     with_reducible rfl
    rotate_left
    ·
     simp only [Act.put, List.setIfInBounds_toArray, List.set_cons_zero, List.set_cons_succ, i64_w, i32_w]
     rfl
    have hxe : w6.cell? (ad.add i.toNat) = some (.slice Ax (all.getD i.toNat []).length cx) := hHeld.2.2
    have hub : U (ad.add i.toNat).block := by rw [Cap.add_block]; exact hU.out ad rfl
    refine one_ (i := 5) (N := some 28) (Fn.bl 8 63) rfl rfl (by kernel_rfl) (by decide) (fun K hK => ?_)
    refine value_ (v := .slice (some ⟨w6.heap.size, 0, none⟩) 1 1) (w1 := w6.alloc (.cells #[.slice Ax (all.getD i.toNat []).length cx] 22)) (by rfl) rfl ?_ ?_
    ·
     go_simp
    have HSe := A_ (HSd.out.below (below_alloc (Below.refl _ _) (.cells #[.slice Ax (all.getD i.toNat []).length cx] 22)))
    refine hK.out _ _ ⟨HSe.out.celll, HSe.out.fix.cell (.tail _ (.tail _ (.head _))), ((below_alloc (Below.refl _ w6) _).cell (World.block_lt_of_cell? w6 _ hxe)).trans hxe⟩ (fun hHeld => ?_)
    clear hK K
    refine norm_ (a' := ?_) ?_ ?_
    rotate_left
    ·
     show Act.put _ (some 28) _ = _
     simp only [Act.put, List.setIfInBounds_toArray, List.set_cons_zero, List.set_cons_succ, i64_w, i32_w]
     rfl
    refine one_ (i := 6) (N := some 29) (Fn.bl 8 127) rfl rfl (by kernel_rfl) (by decide) (fun K hK => ?_)
    refine Kd.R_append_step (Cap.lent 3 bI U w0) (w0 := w) w.heap.size (by rfl) (.tmp 23) (.tmp 28) 41 22 (.slice none 0 0) 24 rfl Try.underlying41 info22 rfl (show 0 < 1 by decide) (by omega) (.slice Al2 q.length cl2) q (all.getD i.toNat []) [.slice Ax (all.getD i.toNat []).length cx] (fun _ => True) (fun _ => False) rfl rfl hxl.out (fun _ hk => hk.elim) (fun _ _ => trivial) (Kd.R_mono HSd.out.hl (fun _ _ => trivial)) HSd.out.bel HSd.out.bel.size (by have := c6a.out; omega) ?_
    intro v1 w7 ho hb hg hat
    obtain ⟨A1, c1, e1⟩ := Kd.R_slice ho
    rw [List.length_append, List.length_singleton] at e1
    subst e1
    have HT := A_ (HSd.out.setl hb hg ho hat)
    have HH := HSd.out.held hg
    have hcl7 := HT.out.2.1
    have hfl7 := HT.out.2.2
    have HS7 := A_ HT.out.1
    have hxe7 := (HH.2 _ hub).trans hxe
    have hca7 := HH.1.cell (.tail _ (.tail _ (.head _)))
    clear ho hb hg hat HT HH HSe
    refine hK.out _ _ ⟨hcl7, hca7, hxe7⟩ (fun hHeld => ?_)
    clear hK K
    refine norm_ (a' := ?_) ?_ ?_
    rotate_left
    ·
     show Act.put _ (some 29) _ = _
     simp only [Act.put, List.setIfInBounds_toArray, List.set_cons_zero, List.set_cons_succ, i64_w, i32_w]
     rfl
    clear hxe7 hca7
    refine last_ (i := 7) (N := none) (Fn.bl 8 255) rfl rfl (by kernel_rfl) (by decide) (fun K hK => ?_)
    refine skip_ (w1 := ?_) (by rfl) rfl ?_ ?_
    rotate_left
    ·
     go_simp
     rfl
    refine hK.out _ _ ?_
    clear hK K
    refine done_ (by kernel_rfl) ?_
    have hx7 := HS7.out.fix.cell (g := gx) (.tail _ (.tail _ (.tail _ (.head _))))
    clear hcl7 hfl7 hxe hub p5 q5
    cases b3 with
    | true =>
     rw [if_pos rfl] at H
     obtain rfl := Option.some.inj H
     clear H
     go_wp2_with (first | ((with_reducible refine Fn.gate_value rfl ?_); refine Fn.goesVw_ (some 33) rfl (by first | rfl | (simp [Region.wanted, yielded]; done)) (impl_LeastWatch_1.self gl gm gn ga gx) rfl #[.int .i64 (wrap64 (i + 1))] rfl (by (try simp only [List.map_toArray, List.map_cons, List.map_nil]); first | done | rfl) ?_; refine impl_LeastWatch_1.enters gl gm gn ga gx ?_; (with_reducible refine (ih k1 (by have := HK1.out; omega) _ _ (q ++ [all.getD i.toNat []]) (wrap64 (i + 1)) (true, q3) HS7.out A3.out).mono ?_); rintro e w8 ⟨rfl, vl8, hs⟩; refine ⟨_, rfl, ?_⟩; have HS8 := A_ hs; clear hs))
     go_ret
     exact ⟨rfl, _, HS8.out⟩
    | false =>
     rw [if_neg (by simp)] at H
     by_cases c7 : q3 = q ++ [all.getD i.toNat []]
     case neg =>
      rw [if_neg c7] at H
      exact absurd H (by simp)
     rw [if_pos c7] at H
     subst c7
     replace H := A_ H
     go_wp2_with (first | ((with_reducible refine Fn.gate_value rfl ?_); refine Fn.goesVw_ (some 33) rfl (by first | rfl | (simp [Region.wanted, yielded]; done)) (impl_LeastWatch_1.self gl gm gn ga gx) rfl #[.int .i64 (wrap64 (i + 1))] rfl (by (try simp only [List.map_toArray, List.map_cons, List.map_nil]); first | done | rfl) ?_; refine impl_LeastWatch_1.enters gl gm gn ga gx ?_; (with_reducible refine (ih k1 (by have := HK1.out; omega) _ _ (q ++ [all.getD i.toNat []]) (wrap64 (i + 1)) (false, q ++ [all.getD i.toNat []]) HS7.out A3.out).mono ?_); rintro e w8 ⟨rfl, vl8, hs⟩; refine ⟨_, rfl, ?_⟩; obtain ⟨A8, c8, e8⟩ := Kd.R_slice hs.hl; rw [List.length_append, List.length_singleton] at e8; subst e8; have HS8 := A_ hs; clear hs; have hcl8 := HS8.out.celll; have hfl8 := HS8.out.freel; have hcut8 := cut_to (P := Try.prog) 41 22 .i64 Try.underlying41 hi0.out A8 (q.length + 1) c8 (wrap64 (q.length : Int)) (by rw [HW.out]; omega) (by rw [HW.out]; omega) (by have := (Kd.R_reads' HS8.out.hl).2.1; simpa using this); have HS9 := A_ (HS8.out.cutq (wrap64 (q.length : Int)).toNat (by rw [HW.out]; simp) q (by rw [HW.out, Int.toNat_natCast, List.take_left' rfl]))))
     go_roundg k1
     case measure => have := HK1.out; omega
     case rel => exact ⟨wrap64 (i + 1), _, tf_, H, ⟨by have := HK1.out; omega⟩, HS9⟩

end
end Go.Proofs.Ythlcaikplebpmaa.P
