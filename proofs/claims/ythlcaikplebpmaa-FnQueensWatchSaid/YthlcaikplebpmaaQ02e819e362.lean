-- printed functions (wip/slim.py)
import Derived.Test.YthlcaikplebpmaaPx0
import Derived.Test.YthlcaikplebpmaaQ44e93a7025
import Derived.Test.YthlcaikplebpmaaQ9e06a928a8
import Derived.Test.YthlcaikplebpmaaQ7ab77d5325
namespace Go.Proofs.Ythlcaikplebpmaa.P
noncomputable section
set_option maxHeartbeats 8000000
set_option maxRecDepth 100000
open Go.RowKit Go.Proofs.YthlcaikplebpmaaW.PrintWords Go.Proofs.YthlcaikplebpmaaW.PrintLast Go.Proofs.YthlcaikplebpmaaW.PrintMore
attribute [local go_sem] max2_int min2_int max_two min_two max_three min_three max_four min_four   -- for this text's walks alone
set_option linter.unusedVariables false
set_option linter.unusedSimpArgs false

/-! ### spec_DrawAreWatching: function 50 -/
mutual
def spec_DrawAreWatching.l0 : Nat → Int → List (List Int) → Int → List Int → Int → Int → Option (Int × (List (List Int)))
 | 0, _, _, _, _, _, _ => none
 | k + 1, x5, x6, x7, x935000, x935001, x935002 => if x7 > 0 then ((spec_l1Cur_pick.f x935000 x935001 x935002 x5).bind fun bt945 => ((spec_l1Cur_pick.f x935000 bt945.2.1 bt945.2.2 x5).bind fun bt948 => (if x6.length < 5864062014805 then (spec_DrawAreWatching.l0 k x5 (x6 ++ [(([bt945.1, bt948.1] : List Int))]) (wrap64 (x7 - 1)) x935000 bt948.2.1 bt948.2.2) else (none)))) else ((spec_LeastWatch.f k x5).bind fun bt957 => (if bt957.2 = true then ((spec_l1Cur_one.f x935000 x935001 x935002 3).bind fun bt961 => (spec_DrawAreWatching.j1 k x5 x6 bt957.1 bt961.1 x935000 bt961.2.1 bt961.2.2)) else (spec_DrawAreWatching.j1 k x5 x6 bt957.1 false x935000 x935001 x935002)))
def spec_DrawAreWatching.j1 : Nat → Int → List (List Int) → List (List Int) → Bool → List Int → Int → Int → Option (Int × (List (List Int)))
 | 0, _, _, _, _, _, _, _ => none
 | k + 1, x5, x6, x8, x44, x935000, x935001, x935002 => if x44 = true then (spec_DrawAreWatching.j2 k x5 x8 x935000 x935001 x935002) else (spec_DrawAreWatching.j2 k x5 x6 x935000 x935001 x935002)
def spec_DrawAreWatching.j2 : Nat → Int → List (List Int) → List Int → Int → Int → Option (Int × (List (List Int)))
 | 0, _, _, _, _, _ => none
 | k + 1, x5, x6, x935000, x935001, x935002 => (spec_l1Cur_pick.f x935000 x935001 x935002 14).bind fun bt964 => (if bt964.1 = 0 then (if x6.length < 5864062014805 then (some (x5, (x6 ++ [(([0] : List Int))]))) else (none)) else (if bt964.1 = 1 then ((spec_l1Cur_among.f x935000 bt964.2.1 bt964.2.2 (([(-1), x5, 4611686018427387904] : List Int))).bind fun bt976 => (if x6.length < 5864062014805 then (some (x5, (x6 ++ [(([bt976.1, 0] : List Int))]))) else (none))) else (some (x5, x6))))
end
def spec_DrawAreWatching.f (k : Nat) (l0 : List Int) : Option (Int × (List (List Int))) := (spec_l1Cur_among.f l0 0 0 (([1, 2, 3, 4, 5, 6, 8, 9] : List Int))).bind fun bt938 => ((spec_l1Least.f bt938.1 5).bind fun t941 => ((spec_l1Cur_pick.f l0 bt938.2.1 bt938.2.2 (wrap64 (t941 + 1))).bind fun bt942 => (spec_DrawAreWatching.l0 k bt938.1 ([] : List (List Int)) bt942.1 l0 bt942.2.1 bt942.2.2)))
theorem spec_DrawAreWatching.mono_l : ∀ k, (∀ y0 y1 y2 y3 y4 y5, LeO (spec_DrawAreWatching.l0 k y0 y1 y2 y3 y4 y5) (spec_DrawAreWatching.l0 (k + 1) y0 y1 y2 y3 y4 y5)) ∧ (∀ y0 y1 y2 y3 y4 y5 y6, LeO (spec_DrawAreWatching.j1 k y0 y1 y2 y3 y4 y5 y6) (spec_DrawAreWatching.j1 (k + 1) y0 y1 y2 y3 y4 y5 y6)) ∧ (∀ y0 y1 y2 y3 y4, LeO (spec_DrawAreWatching.j2 k y0 y1 y2 y3 y4) (spec_DrawAreWatching.j2 (k + 1) y0 y1 y2 y3 y4))
 | 0 => ⟨fun _ _ _ _ _ _ r h => by simp [spec_DrawAreWatching.l0] at h, fun _ _ _ _ _ _ _ r h => by simp [spec_DrawAreWatching.j1] at h, fun _ _ _ _ _ r h => by simp [spec_DrawAreWatching.j2] at h⟩
 | k + 1 => by
  obtain ⟨ih0, ih1, ih2⟩ := spec_DrawAreWatching.mono_l k
  refine ⟨?_, ?_, ?_⟩
  ·
   intro y0 y1 y2 y3 y4 y5
   unfold spec_DrawAreWatching.l0
   repeat' first | (with_reducible first | exact ih0 _ _ _ _ _ _ | exact ih1 _ _ _ _ _ _ _ | exact ih2 _ _ _ _ _ | exact spec_LeastWatch.mono _ _ | exact LeO.refl _ | exact LeO.none _ | refine LeO.ite ?_ ?_ | refine LeO.bind ?_ (fun _ => ?_)) | exact ih0 _ _ _ _ _ _ | exact ih1 _ _ _ _ _ _ _ | exact ih2 _ _ _ _ _ | exact spec_LeastWatch.mono _ _ | exact LeO.none _ | refine LeO.ite ?_ ?_ | refine LeO.bind ?_ (fun _ => ?_)
  ·
   intro y0 y1 y2 y3 y4 y5 y6
   unfold spec_DrawAreWatching.j1
   repeat' first | (with_reducible first | exact ih0 _ _ _ _ _ _ | exact ih1 _ _ _ _ _ _ _ | exact ih2 _ _ _ _ _ | exact spec_LeastWatch.mono _ _ | exact LeO.refl _ | exact LeO.none _ | refine LeO.ite ?_ ?_ | refine LeO.bind ?_ (fun _ => ?_)) | exact ih0 _ _ _ _ _ _ | exact ih1 _ _ _ _ _ _ _ | exact ih2 _ _ _ _ _ | exact spec_LeastWatch.mono _ _ | exact LeO.none _ | refine LeO.ite ?_ ?_ | refine LeO.bind ?_ (fun _ => ?_)
  ·
   intro y0 y1 y2 y3 y4
   unfold spec_DrawAreWatching.j2
   repeat' first | (with_reducible first | exact ih0 _ _ _ _ _ _ | exact ih1 _ _ _ _ _ _ _ | exact ih2 _ _ _ _ _ | exact spec_LeastWatch.mono _ _ | exact LeO.refl _ | exact LeO.none _ | refine LeO.ite ?_ ?_ | refine LeO.bind ?_ (fun _ => ?_)) | exact ih0 _ _ _ _ _ _ | exact ih1 _ _ _ _ _ _ _ | exact ih2 _ _ _ _ _ | exact spec_LeastWatch.mono _ _ | exact LeO.none _ | refine LeO.ite ?_ ?_ | refine LeO.bind ?_ (fun _ => ?_)
theorem spec_DrawAreWatching.mono : ∀ a0 k, LeO (spec_DrawAreWatching.f k a0) (spec_DrawAreWatching.f (k + 1) a0) := by
 intro a0 k
 obtain ⟨ih0, ih1, ih2⟩ := spec_DrawAreWatching.mono_l k
 unfold spec_DrawAreWatching.f
 repeat' first | (with_reducible first | exact ih0 _ _ _ _ _ _ | exact ih1 _ _ _ _ _ _ _ | exact ih2 _ _ _ _ _ | exact spec_LeastWatch.mono _ _ | exact LeO.refl _ | exact LeO.none _ | refine LeO.ite ?_ ?_ | refine LeO.bind ?_ (fun _ => ?_)) | exact ih0 _ _ _ _ _ _ | exact ih1 _ _ _ _ _ _ _ | exact ih2 _ _ _ _ _ | exact spec_LeastWatch.mono _ _ | exact LeO.none _ | refine LeO.ite ?_ ?_ | refine LeO.bind ?_ (fun _ => ?_)
theorem spec_DrawAreWatching.calls (k : Nat) (A0 : Option Addr) (c0 : Nat) (l0 : List Int) (r1 : Int) (r2 : List (List Int)) (w : World) (hr0 : Kd.C (Kd.int .u8) w A0 l0.length l0) (hc0 : l0.length ≤ c0) (h : spec_DrawAreWatching.f k l0 = some (r1, r2)) :
  Calls Try.prog 50 #[.slice A0 l0.length c0] w fun e w' => ∃ v1_ : Value, e = .returned (.tuple #[.int .i64 r1, v1_]) ∧ Kd.S (Kd.slice 3 (Kd.int .i64)) 22 w' w.heap.size (fun _ => True) v1_ r2 ∧ Below w.heap.size w w' := by
 have hu100 := Try.underlying100
 have HR0 := A_ hr0
 have HC0 := A_ hc0
 clear hr0 hc0
 have HB := A_ (Below.refl w.heap.size w)
 have H : ((spec_l1Cur_among.f l0 0 0 (([1, 2, 3, 4, 5, 6, 8, 9] : List Int))).bind fun bt938 => ((spec_l1Least.f bt938.1 5).bind fun t941 => ((spec_l1Cur_pick.f l0 bt938.2.1 bt938.2.2 (wrap64 (t941 + 1))).bind fun bt942 => (spec_DrawAreWatching.l0 k bt938.1 ([] : List (List Int)) bt942.1 l0 bt942.2.1 bt942.2.2)))) = some (r1, r2) := h
 clear h
 obtain ⟨y935, hy935⟩ : ∃ y_ : List Int, y_ = (([1, 2, 3, 4, 5, 6, 8, 9] : List Int)) := ⟨_, rfl⟩
 replace H : ((spec_l1Cur_among.f l0 0 0 y935).bind fun bt938 => ((spec_l1Least.f bt938.1 5).bind fun t941 => ((spec_l1Cur_pick.f l0 bt938.2.1 bt938.2.2 (wrap64 (t941 + 1))).bind fun bt942 => (spec_DrawAreWatching.l0 k bt938.1 ([] : List (List Int)) bt942.1 l0 bt942.2.1 bt942.2.2)))) = some (r1, r2) := ty_ hy935 H
 have Ny935 := A_ hy935
 clear hy935
 replace H := Option.bind_eq_some_iff.mp H
 obtain ⟨⟨t938, t939, t940⟩, A20, H⟩ := H
 replace H : ((spec_l1Least.f t938 5).bind fun t941 => ((spec_l1Cur_pick.f l0 t939 t940 (wrap64 (t941 + 1))).bind fun bt942 => (spec_DrawAreWatching.l0 k t938 ([] : List (List Int)) bt942.1 l0 bt942.2.1 bt942.2.2))) = some (r1, r2) := H
 have A2 := A_ A20
 clear A20
 replace H := Option.bind_eq_some_iff.mp H
 obtain ⟨t941, A30, H⟩ := H
 replace H : ((spec_l1Cur_pick.f l0 t939 t940 (wrap64 (t941 + 1))).bind fun bt942 => (spec_DrawAreWatching.l0 k t938 ([] : List (List Int)) bt942.1 l0 bt942.2.1 bt942.2.2)) = some (r1, r2) := H
 have A3 := A_ A30
 clear A30
 replace H := Option.bind_eq_some_iff.mp H
 obtain ⟨⟨t942, t943, t944⟩, A40, H⟩ := H
 replace H : (spec_DrawAreWatching.l0 k t938 ([] : List (List Int)) t942 l0 t943 t944) = some (r1, r2) := H
 have A4 := A_ A40
 clear A40
 have H' := A_ H
 clear H
 go_enter Try.func50, Try.ntmps50
 go_wp2_with (first | (refine gd_ 12 ?_; refine bx_ 12 #[.slice A0 l0.length c0, .int .i64 0, .int .u64 0] 100 ?_; intro gb934 hg w5 hbox hb; have HI934 := A_ ((⟨_, _, hbox, (by rw [hg]; exact (below_size tb_)), HR0.out⟩ : IsS100 w w5 gb934 l0 0 0)); replace HB := A_ (below_step tb_ hb); clear hb hbox hg) | (refine gd_ 14 ?_; refine Kd.R_lit (Kd.int .i64) _ 3 ?hg (N := 14) ?hd (xs := ([1, 2, 3, 4, 5, 6, 8, 9] : List Int)) (inner := [.int .i64 1, .int .i64 2, .int .i64 3, .int .i64 4, .int .i64 5, .int .i64 6, .int .i64 8, .int .i64 9]) (ok := fun _ => True) (okp := fun _ => True) ?hr ?hp (fun _ hk => hk) trivial (Below.refl _ _) (Nat.le_refl _) (by simp) ?_; (case hd => rfl); (case hg => rfl); (case hr => first | (go_simp; done) | (go_simp; rfl)); (case hp => exact (Reps.one (show Kd.M (Kd.int .i64) _ _ _ 1 [.int .i64 1] from rfl) (Reps.one (show Kd.M (Kd.int .i64) _ _ _ 2 [.int .i64 2] from rfl) (Reps.one (show Kd.M (Kd.int .i64) _ _ _ 3 [.int .i64 3] from rfl) (Reps.one (show Kd.M (Kd.int .i64) _ _ _ 4 [.int .i64 4] from rfl) (Reps.one (show Kd.M (Kd.int .i64) _ _ _ 5 [.int .i64 5] from rfl) (Reps.one (show Kd.M (Kd.int .i64) _ _ _ 6 [.int .i64 6] from rfl) (Reps.one (show Kd.M (Kd.int .i64) _ _ _ 8 [.int .i64 8] from rfl) (Reps.one (show Kd.M (Kd.int .i64) _ _ _ 9 [.int .i64 9] from rfl) (Reps.none _ _)))))))))); intro v936 w6 ho7 hb hg_ hnew_; clear hg_ hnew_; (first | rw [← Ny935.out] at ho7 | (simp only [Int.reduceToNat] at ho7; rw [← Ny935.out] at ho7)); have HO937 := A_ (Kd.R_lower ho7 (below_size (by repeat (first | (with_reducible first | exact HB.out | apply below_alloc | apply pw_below_drewN | apply below_drew1 | refine below_set ?_ (IsS100.ge HI934.out)) | exact HB.out)))); replace HB := A_ (below_step (by repeat (first | (with_reducible first | exact HB.out | apply below_alloc | apply pw_below_drewN | apply below_drew1 | refine below_set ?_ (IsS100.ge HI934.out)) | exact HB.out)) hb); replace HI934 := A_ (IsS100.below (by repeat (first | (with_reducible first | exact HI934.out | apply IsS100.alloc | apply IsS100.drewN | apply IsS100.drew | apply IsS100.set_1 | apply IsS100.set_2) | exact HI934.out)) hb); clear hb ho7; obtain ⟨Ao8, co8, eo8⟩ := Kd.R_slice HO937.out; subst eo8) | (refine gc_ 118 ?_; refine goesT_ (some 15) Try.func118 #[.pointer (some ⟨gb934, 0, none⟩), .slice Ao8 y935.length co8] ?_; (with_reducible refine (spec_l1Cur_among.calls gb934 l0 0 0 _ _ y935 t938 t939 t940 w _ ?side1 ?side2 ?side3 ?side4 ?side5 A2.out).mono ?_); (case side1 => repeat (first | (with_reducible first | exact HI934.out | apply IsS100.alloc | apply IsS100.drewN | apply IsS100.drew | apply IsS100.set_1 | apply IsS100.set_2) | exact HI934.out)); (case side2 => repeat (first | (with_reducible first | exact HB.out | apply below_alloc | apply pw_below_drewN | apply below_drew1 | refine below_set ?_ (IsS100.ge HI934.out)) | exact HB.out)); (case side3 => exact tc0_ (Kd.R_reads' HO937.out).2.2); (case side4 => exact (Kd.R_reads' HO937.out).2.1); (case side5 => exact far_slice (IsS100.own_ne HI934.out HO937.out (by decide))); rintro e w9 ⟨rfl, hi, hb, hk⟩; refine ⟨_, rfl, ?_⟩; replace HO937 := A_ (Kd.R_mono (Kd.R_keep (IsS100.apart (show IsS100 w _ gb934 l0 0 0 from by repeat (first | (with_reducible first | exact HI934.out | apply IsS100.alloc | apply IsS100.drewN | apply IsS100.drew | apply IsS100.set_1 | apply IsS100.set_2) | exact HI934.out)) (tr_x HO937.out) (by decide)) hk (fun _ h => h.2)) (fun _ h => h.1)); replace HB := A_ (hb); replace HI934 := A_ (hi); (try clear hb); (try clear hb2); (try clear hk); (try clear hi)) | (refine gc_ 123 ?_; refine goesT_ (some 18) Try.func123 #[.int .i64 t938, .int .i64 5] ?_; (with_reducible refine (spec_l1Least.calls t938 5 t941 _ A3.out).mono ?_); rintro e w' ⟨rfl, ⟨nd, rfl⟩⟩; refine ⟨_, rfl, ?_⟩) | (refine gc_ 122 ?_; refine goesT_ (some 20) Try.func122 #[.pointer (some ⟨gb934, 0, none⟩), .int .i64 (wrap64 (t941 + 1))] ?_; (with_reducible refine (spec_l1Cur_pick.calls gb934 l0 t939 t940 (wrap64 (t941 + 1)) t942 t943 t944 w _ ?side1 ?side2 A4.out).mono ?_); (case side1 => repeat (first | (with_reducible first | exact HI934.out | apply IsS100.alloc | apply IsS100.drewN | apply IsS100.drew | apply IsS100.set_1 | apply IsS100.set_2) | exact HI934.out)); (case side2 => repeat (first | (with_reducible first | exact HB.out | apply below_alloc | apply pw_below_drewN | apply below_drew1 | refine below_set ?_ (IsS100.ge HI934.out)) | exact HB.out)); rintro e w10 ⟨rfl, hi, hb, hk⟩; refine ⟨_, rfl, ?_⟩; replace HO937 := A_ (Kd.R_mono (Kd.R_keep (IsS100.apart (show IsS100 w _ gb934 l0 t939 t940 from by repeat (first | (with_reducible first | exact HI934.out | apply IsS100.alloc | apply IsS100.drewN | apply IsS100.drew | apply IsS100.set_1 | apply IsS100.set_2) | exact HI934.out)) (tr_x HO937.out) (by decide)) hk (fun _ h => h.2)) (fun _ h => h.1)); replace HB := A_ (hb); replace HI934 := A_ (hi); (try clear hb); (try clear hb2); (try clear hk); (try clear hi)))
 go_loopg [6, 7] k (fun kq v6 v7 w' => ∃ (x6_1 : List (List Int)) (x7_1 : Int) (x935001_1 : Int) (x935002_1 : Int), v7 = .int .i64 x7_1 ∧ Aside0 (spec_DrawAreWatching.l0 kq t938 x6_1 x7_1 l0 x935001_1 x935002_1 = some (r1, r2)) ∧ Aside0 (kq ≤ k) ∧ Aside0 (Kd.S (Kd.slice 3 (Kd.int .i64)) 22 w' w.heap.size (fun _ => True) v6 x6_1) ∧ Aside0 (IsS100 w w' gb934 l0 x935001_1 x935002_1) ∧ Aside0 (Below w.heap.size w w'))
 case atStart => exact ⟨(([] : List (List Int))), (t942), (t943), (t944), tf_, H', ⟨Nat.le_refl _⟩, ⟨by first | exact Kd.S_nil _ _ _ _ _ | exact Kd.N_nil _ _ _ _ _ | exact Kd.V_nil _ _ _ _ _ | exact Kd.Q_nil _ _ _ _ _ | exact Kd.R_nil _ _ _ _ _⟩, ⟨by repeat (first | (with_reducible first | exact HI934.out | apply IsS100.alloc | apply IsS100.drewN | apply IsS100.drew | apply IsS100.set_1 | apply IsS100.set_2) | exact HI934.out)⟩, ⟨by repeat (first | (with_reducible first | exact HB.out | apply below_alloc | apply pw_below_drewN | apply below_drew1 | refine below_set ?_ (IsS100.ge HI934.out)) | exact HB.out)⟩⟩
 case round =>
  clear H'
  try clear c1
  try clear p2
  try clear c5
  try clear p6
  obtain ⟨x6_1, x7_1, x935001_1, x935002_1, rfl, HA, HK1, HO_6, HI934, HB⟩ := hrel
  cases gk with
  | zero => exact absurd HA.out (by simp [spec_DrawAreWatching.l0])
  | succ k1 =>
   have H := HA.out
   clear HA
   simp only [spec_DrawAreWatching.l0] at H
   by_cases c11 : x7_1 > 0
   ·
    rw [if_pos c11] at H
    have c11b0 := decide_eq_true c11
    clear c11
    replace H := Option.bind_eq_some_iff.mp H
    obtain ⟨⟨t945, t946, t947⟩, A120, H⟩ := H
    replace H : ((spec_l1Cur_pick.f l0 t946 t947 t938).bind fun bt948 => (if x6_1.length < 5864062014805 then (spec_DrawAreWatching.l0 k1 t938 (x6_1 ++ [(([t945, bt948.1] : List Int))]) (wrap64 (x7_1 - 1)) l0 bt948.2.1 bt948.2.2) else (none))) = some (r1, r2) := H
    have A12 := A_ A120
    clear A120
    replace H := Option.bind_eq_some_iff.mp H
    obtain ⟨⟨t948, t949, t950⟩, A130, H⟩ := H
    replace H : (if x6_1.length < 5864062014805 then (spec_DrawAreWatching.l0 k1 t938 (x6_1 ++ [(([t945, t948] : List Int))]) (wrap64 (x7_1 - 1)) l0 t949 t950) else (none)) = some (r1, r2) := H
    have A13 := A_ A130
    clear A130
    obtain ⟨y951, hy951⟩ : ∃ y_ : List Int, y_ = (([t945, t948] : List Int)) := ⟨_, rfl⟩
    replace H : (if x6_1.length < 5864062014805 then (spec_DrawAreWatching.l0 k1 t938 (x6_1 ++ [y951]) (wrap64 (x7_1 - 1)) l0 t949 t950) else (none)) = some (r1, r2) := ty_ hy951 H
    have Ny951 := A_ hy951
    clear hy951
    by_cases c14 : x6_1.length < 5864062014805
    ·
     rw [if_pos c14] at H
     have LMc14 := A_ c14
     clear c14
     obtain ⟨y954, hy954⟩ : ∃ y_ : List (List Int), y_ = (x6_1 ++ [y951]) := ⟨_, rfl⟩
     replace H : (spec_DrawAreWatching.l0 k1 t938 y954 (wrap64 (x7_1 - 1)) l0 t949 t950) = some (r1, r2) := ty_ hy954 H
     have Ny954 := A_ hy954
     clear hy954
     have H' := A_ H
     clear H
     go_wp2_with (first | (refine gc_ 122 ?_; refine goesT_ (some 28) Try.func122 #[.pointer (some ⟨gb934, 0, none⟩), .int .i64 t938] ?_; (with_reducible refine (spec_l1Cur_pick.calls gb934 l0 x935001_1 x935002_1 t938 t945 t946 t947 w _ ?side1 ?side2 A12.out).mono ?_); (case side1 => repeat (first | (with_reducible first | exact HI934.out | apply IsS100.alloc | apply IsS100.drewN | apply IsS100.drew | apply IsS100.set_1 | apply IsS100.set_2) | exact HI934.out)); (case side2 => repeat (first | (with_reducible first | exact HB.out | apply below_alloc | apply pw_below_drewN | apply below_drew1 | refine below_set ?_ (IsS100.ge HI934.out)) | exact HB.out)); rintro e w15 ⟨rfl, hi, hb, hk⟩; refine ⟨_, rfl, ?_⟩; replace HO_6 := A_ (Kd.S_mono (Kd.S_keep (IsS100.apartS (show IsS100 w _ gb934 l0 x935001_1 x935002_1 from by repeat (first | (with_reducible first | exact HI934.out | apply IsS100.alloc | apply IsS100.drewN | apply IsS100.drew | apply IsS100.set_1 | apply IsS100.set_2) | exact HI934.out)) (ts1_x HO_6.out) (by decide)) hk (fun _ h => h.2)) (fun _ h => h.1)); replace HB := A_ (hb); replace HI934 := A_ (hi); (try clear hb); (try clear hb2); (try clear hk); (try clear hi)) | (refine gc_ 122 ?_; refine goesT_ (some 31) Try.func122 #[.pointer (some ⟨gb934, 0, none⟩), .int .i64 t938] ?_; (with_reducible refine (spec_l1Cur_pick.calls gb934 l0 t946 t947 t938 t948 t949 t950 w _ ?side1 ?side2 A13.out).mono ?_); (case side1 => repeat (first | (with_reducible first | exact HI934.out | apply IsS100.alloc | apply IsS100.drewN | apply IsS100.drew | apply IsS100.set_1 | apply IsS100.set_2) | exact HI934.out)); (case side2 => repeat (first | (with_reducible first | exact HB.out | apply below_alloc | apply pw_below_drewN | apply below_drew1 | refine below_set ?_ (IsS100.ge HI934.out)) | exact HB.out)); rintro e w16 ⟨rfl, hi, hb, hk⟩; refine ⟨_, rfl, ?_⟩; replace HO_6 := A_ (Kd.S_mono (Kd.S_keep (IsS100.apartS (show IsS100 w _ gb934 l0 t946 t947 from by repeat (first | (with_reducible first | exact HI934.out | apply IsS100.alloc | apply IsS100.drewN | apply IsS100.drew | apply IsS100.set_1 | apply IsS100.set_2) | exact HI934.out)) (ts1_x HO_6.out) (by decide)) hk (fun _ h => h.2)) (fun _ h => h.1)); replace HB := A_ (hb); replace HI934 := A_ (hi); (try clear hb); (try clear hb2); (try clear hk); (try clear hi)) | (refine gd_ 32 ?_; refine Kd.R_lit (Kd.int .i64) _ 3 ?hg (N := 32) ?hd (xs := ([t945, t948] : List Int)) (inner := [.int .i64 t945, .int .i64 t948]) (ok := fun _ => True) (okp := fun _ => True) ?hr ?hp (fun _ hk => hk) trivial (Below.refl _ _) (Nat.le_refl _) (by simp) ?_; (case hd => rfl); (case hg => rfl); (case hr => first | (go_simp; done) | (go_simp; rfl)); (case hp => exact (Reps.one (show Kd.M (Kd.int .i64) _ _ _ t945 [.int .i64 t945] from rfl) (Reps.one (show Kd.M (Kd.int .i64) _ _ _ t948 [.int .i64 t948] from rfl) (Reps.none _ _)))); intro v952 w17 ho18 hb hg_ hnew_; clear hg_ hnew_; (first | rw [← Ny951.out] at ho18 | (simp only [Int.reduceToNat] at ho18; rw [← Ny951.out] at ho18)); replace HO_6 := A_ (Kd.S_elder' (ts1_x HO_6.out) (Kd.R_base ho18) hb); have HO953 := A_ (Kd.R_lower ho18 (below_size (by repeat (first | (with_reducible first | exact HB.out | apply below_alloc | apply pw_below_drewN | apply below_drew1 | refine below_set ?_ (IsS100.ge HI934.out)) | exact HB.out)))); replace HB := A_ (below_step (by repeat (first | (with_reducible first | exact HB.out | apply below_alloc | apply pw_below_drewN | apply below_drew1 | refine below_set ?_ (IsS100.ge HI934.out)) | exact HB.out)) hb); replace HI934 := A_ (IsS100.below (by repeat (first | (with_reducible first | exact HI934.out | apply IsS100.alloc | apply IsS100.drewN | apply IsS100.drew | apply IsS100.set_1 | apply IsS100.set_2) | exact HI934.out)) hb); clear hb ho18; obtain ⟨Ao20, co20, eo20⟩ := Kd.R_slice HO953.out; subst eo20) | ((with_reducible refine gate_builtin (b := .append) (xs := #[.tmp 25, .tmp 33]) rfl ?_); at_builtin; refine Kd.S_append (Kd.slice 3 (Kd.int .i64)) (w0 := w) w.heap.size rfl (.tmp 25) (.tmp 33) 41 22 (.slice none 0 0) 24 rfl Try.underlying41 info22 rfl (by decide) (by omega) u6 x6_1 y951 [.slice Ao20 y951.length co20] (fun _ => True) (fun k_ => some k_ = (.slice Ao20 y951.length co20 : Value).ownBlock) rfl rfl ?aP (fun k_ hk_ => ((Kd.R_mono (ok' := fun k_ => ((fun _ => True)) k_ ∧ some k_ ≠ (u6 : Value).ownBlock) (Kd.R_apart' (HO953.out) (Kd.S_typed HO_6.out) (by decide)) (fun k_ hk => ⟨trivial, hk.2⟩))).1 k_ hk_.symm) ?aF ?aO ?aB ?aS ?aL ?_; (case aP => exact Kd.M_row (Kd.R_mono (Kd.R_tight rfl (Kd.R_mono (ok' := fun k_ => ((fun _ => True)) k_ ∧ some k_ ≠ (u6 : Value).ownBlock) (Kd.R_apart' (HO953.out) (Kd.S_typed HO_6.out) (by decide)) (fun k_ hk => ⟨trivial, hk.2⟩))) (fun _ h_ => h_))); (case aB => exact (by repeat (first | (with_reducible first | exact HB.out | apply below_alloc | apply pw_below_drewN | apply below_drew1 | refine below_set ?_ (IsS100.ge HI934.out)) | exact HB.out))); (case aF => exact (fun _ _ => trivial)); (case aO => exact (ts1_ (h := by exact Kd.S_mono HO_6.out (fun k_ hk => ⟨trivial, fun e_ => hk.2 e_⟩)))); (case aS => exact (below_size (by repeat (first | (with_reducible first | exact HB.out | apply below_alloc | apply pw_below_drewN | apply below_drew1 | refine below_set ?_ (IsS100.ge HI934.out)) | exact HB.out)))); (case aL => have := LMc14.out; omega); intro v955 w19 ho hb hg hat; rw [← Ny954.out] at ho; have n0_ := A_ (IsS100.grown (by repeat (first | (with_reducible first | exact HI934.out | apply IsS100.alloc | apply IsS100.drewN | apply IsS100.drew | apply IsS100.set_1 | apply IsS100.set_2) | exact HI934.out)) hg (IsS100.own_neS HI934.out HO_6.out (by decide))); have n1_ := A_ (hb); have n2_ := A_ (ho); clear HI934; clear HB; clear HO_6; clear HO953; have HI934 := n0_; have HB := n1_; have HO956 := n2_; clear n0_ n1_ n2_; clear ho hb hg hat))
     go_roundg k1
     case measure => have := HK1.out; omega
     case rel => exact ⟨(y954), (wrap64 (x7_1 - 1)), (t949), (t950), tf_, H', ⟨by have := HK1.out; omega⟩, ⟨ts1_x HO956.out⟩, ⟨by repeat (first | (with_reducible first | exact HI934.out | apply IsS100.alloc | apply IsS100.drewN | apply IsS100.drew | apply IsS100.set_1 | apply IsS100.set_2) | exact HI934.out)⟩, ⟨by repeat (first | (with_reducible first | exact HB.out | apply below_alloc | apply pw_below_drewN | apply below_drew1 | refine below_set ?_ (IsS100.ge HI934.out)) | exact HB.out)⟩⟩
    ·
     rw [if_neg c14] at H
     exact absurd H (by simp)
   ·
    rw [if_neg c11] at H
    have c11b0 := decide_eq_false c11
    clear c11
    replace H := Option.bind_eq_some_iff.mp H
    obtain ⟨⟨t957, t958⟩, A210, H⟩ := H
    replace H : (if t958 = true then ((spec_l1Cur_one.f l0 x935001_1 x935002_1 3).bind fun bt961 => (spec_DrawAreWatching.j1 k1 t938 x6_1 t957 bt961.1 l0 bt961.2.1 bt961.2.2)) else (spec_DrawAreWatching.j1 k1 t938 x6_1 t957 false l0 x935001_1 x935002_1)) = some (r1, r2) := H
    have A21 := A_ A210
    clear A210
    have HC22 := A_ H
    clear H
    go_upto_region 9 with (first | (refine gc_ 40 ?_; refine goesT_ (some 37) Try.func40 #[.int .i64 t938] ?_; (with_reducible refine (spec_LeastWatch.calls k1 t938 t957 t958 _ A21.out).mono ?_); rintro e w23 ⟨v959, rfl, ho0, hb⟩; refine ⟨_, rfl, ?_⟩; have HO960 := A_ (Kd.S_lower (Kd.S_new' ho0 (Kd.S_lt (ts1_x HO_6.out))) (below_size (by repeat (first | (with_reducible first | exact HB.out | apply below_alloc | apply pw_below_drewN | apply below_drew1 | refine below_set ?_ (IsS100.ge HI934.out)) | exact HB.out)))); replace HO_6 := A_ (Kd.S_elder' (ts1_x HO_6.out) (Kd.S_base ho0) hb); replace HB := A_ (below_step (by repeat (first | (with_reducible first | exact HB.out | apply below_alloc | apply pw_below_drewN | apply below_drew1 | refine below_set ?_ (IsS100.ge HI934.out)) | exact HB.out)) hb); replace HI934 := A_ (IsS100.below (by repeat (first | (with_reducible first | exact HI934.out | apply IsS100.alloc | apply IsS100.drewN | apply IsS100.drew | apply IsS100.set_1 | apply IsS100.set_2) | exact HI934.out)) hb); (try clear hb); (try clear hb2); (try clear hk); (try clear hi); (try clear ho0)))
    (try simp only [Act.put, List.setIfInBounds_toArray, List.set_cons_zero, List.set_cons_succ])
    go_cut [44] (fun v44 wc => ∃ (kq : Nat) (x44_21 : Bool) (x935001_21 : Int) (x935002_21 : Int), v44 = .bool x44_21 ∧ Aside0 (spec_DrawAreWatching.j1 kq t938 x6_1 t957 x44_21 l0 x935001_21 x935002_21 = some (r1, r2)) ∧ Aside0 (kq ≤ k1) ∧ Aside0 (Kd.S (Kd.slice 3 (Kd.int .i64)) 22 wc w.heap.size (fun k_ => some k_ ≠ (v959 : Value).ownBlock) u6 x6_1) ∧ Aside0 (Kd.S (Kd.slice 3 (Kd.int .i64)) 22 wc w.heap.size (fun k_ => some k_ ≠ (u6 : Value).ownBlock) v959 t957) ∧ Aside0 (IsS100 w wc gb934 l0 x935001_21 x935002_21) ∧ Aside0 (Below w.heap.size w wc))
    case first =>
     have H := HC22.out
     clear HC22
     by_cases c24 : t958 = true
     ·
      subst c24
      have H1 : ((spec_l1Cur_one.f l0 x935001_1 x935002_1 3).bind fun bt961 => (spec_DrawAreWatching.j1 k1 t938 x6_1 t957 bt961.1 l0 bt961.2.1 bt961.2.2)) = some (r1, r2) := by rw [if_pos rfl] at H; exact H
      clear H
      have H := H1
      clear H1
      replace H := Option.bind_eq_some_iff.mp H
      obtain ⟨⟨t961, t962, t963⟩, A250, H⟩ := H
      replace H : (spec_DrawAreWatching.j1 k1 t938 x6_1 t957 t961 l0 t962 t963) = some (r1, r2) := H
      have A25 := A_ A250
      clear A250
      have H' := A_ H
      clear H
      go_wp2_with (first | (go_at_call 124; (with_reducible refine (spec_l1Cur_one.calls gb934 l0 x935001_1 x935002_1 3 t961 t962 t963 w _ ?side1 ?side2 A25.out).mono ?_); (case side1 => repeat (first | (with_reducible first | exact HI934.out | apply IsS100.alloc | apply IsS100.drewN | apply IsS100.drew | apply IsS100.set_1 | apply IsS100.set_2) | exact HI934.out)); (case side2 => repeat (first | (with_reducible first | exact HB.out | apply below_alloc | apply pw_below_drewN | apply below_drew1 | refine below_set ?_ (IsS100.ge HI934.out)) | exact HB.out)); rintro e w26 ⟨rfl, hi, hb, hk⟩; replace HO_6 := A_ (Kd.S_mono (Kd.S_keep (IsS100.apartS (show IsS100 w _ gb934 l0 x935001_1 x935002_1 from by repeat (first | (with_reducible first | exact HI934.out | apply IsS100.alloc | apply IsS100.drewN | apply IsS100.drew | apply IsS100.set_1 | apply IsS100.set_2) | exact HI934.out)) (ts1_x HO_6.out) (by decide)) hk (fun _ h => h.2)) (fun _ h => h.1)); replace HO960 := A_ (Kd.S_mono (Kd.S_keep (IsS100.apartS (show IsS100 w _ gb934 l0 x935001_1 x935002_1 from by repeat (first | (with_reducible first | exact HI934.out | apply IsS100.alloc | apply IsS100.drewN | apply IsS100.drew | apply IsS100.set_1 | apply IsS100.set_2) | exact HI934.out)) (ts1_x HO960.out) (by decide)) hk (fun _ h => h.2)) (fun _ h => h.1)); replace HB := A_ (hb); replace HI934 := A_ (hi); (try clear hb); (try clear hb2); (try clear hk); (try clear hi)))
      go_meet
      case rel => exact ⟨_, (t961), (t962), (t963), tf_, H', ⟨by have := HK1.out; first | omega | exact Nat.le_refl _⟩, ⟨by (with_reducible repeat (first | apply Kd.S_alloc | apply Kd.S_drewN | apply Kd.S_drew)); exact Kd.S_mono HO_6.out (fun _ hk => hk.2)⟩, ⟨by (with_reducible repeat (first | apply Kd.S_alloc | apply Kd.S_drewN | apply Kd.S_drew)); exact Kd.S_mono HO960.out (fun _ hk => hk.2)⟩, ⟨by repeat (first | (with_reducible first | exact HI934.out | apply IsS100.alloc | apply IsS100.drewN | apply IsS100.drew | apply IsS100.set_1 | apply IsS100.set_2) | exact HI934.out)⟩, ⟨by repeat (first | (with_reducible first | exact HB.out | apply below_alloc | apply pw_below_drewN | apply below_drew1 | refine below_set ?_ (IsS100.ge HI934.out)) | exact HB.out)⟩⟩
     ·
      replace c24 := Bool.eq_false_iff.mpr c24
      subst c24
      have H1 : (spec_DrawAreWatching.j1 k1 t938 x6_1 t957 false l0 x935001_1 x935002_1) = some (r1, r2) := by rw [if_neg (show ¬ (false = true) by decide)] at H; exact H
      clear H
      have H := H1
      clear H1
      have H' := A_ H
      clear H
      go_wp2
      go_meet
      case rel => exact ⟨_, (false), (x935001_1), (x935002_1), tf_, H', ⟨by have := HK1.out; first | omega | exact Nat.le_refl _⟩, ⟨by (with_reducible repeat (first | apply Kd.S_alloc | apply Kd.S_drewN | apply Kd.S_drew)); exact Kd.S_mono HO_6.out (fun _ hk => hk.2)⟩, ⟨by (with_reducible repeat (first | apply Kd.S_alloc | apply Kd.S_drewN | apply Kd.S_drew)); exact Kd.S_mono HO960.out (fun _ hk => hk.2)⟩, ⟨by repeat (first | (with_reducible first | exact HI934.out | apply IsS100.alloc | apply IsS100.drewN | apply IsS100.drew | apply IsS100.set_1 | apply IsS100.set_2) | exact HI934.out)⟩, ⟨by repeat (first | (with_reducible first | exact HB.out | apply below_alloc | apply pw_below_drewN | apply below_drew1 | refine below_set ?_ (IsS100.ge HI934.out)) | exact HB.out)⟩⟩
    case rest =>
     clear HC22
     try clear c1
     try clear c2
     try clear p2
     try clear c4
     try clear c5
     try clear p6
     try clear c11
     try clear c11b0
     try clear c12
     try clear c14
     try clear c24
     try clear p2
     try clear p6
     obtain ⟨kq, x44_21, x935001_21, x935002_21, rfl, HA, HJ21, HO_6, HO_8, HI934, HB⟩ := hcut
     cases kq with
     | zero => exact absurd HA.out (by simp [spec_DrawAreWatching.j1])
     | succ kj21 =>
      have H := HA.out
      clear HA
      simp only [spec_DrawAreWatching.j1] at H
      have HC27 := A_ H
      clear H
      go_upto_if 44 with (fail)
      go_cut [6] (fun v6 wc => ∃ (kq : Nat) (x6_26 : List (List Int)), Aside0 (spec_DrawAreWatching.j2 kq t938 x6_26 l0 x935001_21 x935002_21 = some (r1, r2)) ∧ Aside0 (kq ≤ kj21) ∧ Aside0 (Kd.S (Kd.slice 3 (Kd.int .i64)) 22 wc w.heap.size (fun _ => True) v6 x6_26) ∧ Aside0 (IsS100 w wc gb934 l0 x935001_21 x935002_21) ∧ Aside0 (Below w.heap.size w wc))
      case first =>
       have H := HC27.out
       clear HC27
       by_cases c28 : x44_21 = true
       ·
        subst c28
        have H1 : (spec_DrawAreWatching.j2 kj21 t938 t957 l0 x935001_21 x935002_21) = some (r1, r2) := by rw [if_pos rfl] at H; exact H
        clear H
        have H := H1
        clear H1
        have H' := A_ H
        clear H
        go_wp2
        go_meet
        case rel => exact ⟨_, (t957), H', ⟨by have := HK1.out; have := HJ21.out; first | omega | exact Nat.le_refl _⟩, ⟨by (with_reducible repeat (first | apply Kd.S_alloc | apply Kd.S_drewN | apply Kd.S_drew)); exact Kd.S_mono HO_8.out (fun _ hk => trivial)⟩, ⟨by repeat (first | (with_reducible first | exact HI934.out | apply IsS100.alloc | apply IsS100.drewN | apply IsS100.drew | apply IsS100.set_1 | apply IsS100.set_2) | exact HI934.out)⟩, ⟨by repeat (first | (with_reducible first | exact HB.out | apply below_alloc | apply pw_below_drewN | apply below_drew1 | refine below_set ?_ (IsS100.ge HI934.out)) | exact HB.out)⟩⟩
       ·
        replace c28 := Bool.eq_false_iff.mpr c28
        subst c28
        have H1 : (spec_DrawAreWatching.j2 kj21 t938 x6_1 l0 x935001_21 x935002_21) = some (r1, r2) := by rw [if_neg (show ¬ (false = true) by decide)] at H; exact H
        clear H
        have H := H1
        clear H1
        have H' := A_ H
        clear H
        go_wp2
        go_meet
        case rel => exact ⟨_, (x6_1), H', ⟨by have := HK1.out; have := HJ21.out; first | omega | exact Nat.le_refl _⟩, ⟨by (with_reducible repeat (first | apply Kd.S_alloc | apply Kd.S_drewN | apply Kd.S_drew)); exact Kd.S_mono HO_6.out (fun _ hk => trivial)⟩, ⟨by repeat (first | (with_reducible first | exact HI934.out | apply IsS100.alloc | apply IsS100.drewN | apply IsS100.drew | apply IsS100.set_1 | apply IsS100.set_2) | exact HI934.out)⟩, ⟨by repeat (first | (with_reducible first | exact HB.out | apply below_alloc | apply pw_below_drewN | apply below_drew1 | refine below_set ?_ (IsS100.ge HI934.out)) | exact HB.out)⟩⟩
      case rest =>
       clear HC27
       try clear c1
       try clear c2
       try clear p2
       try clear c4
       try clear c5
       try clear p6
       try clear c11
       try clear c11b0
       try clear c12
       try clear c14
       try clear c24
       try clear c28
       try clear p2
       try clear p6
       obtain ⟨kq, x6_26, HA, HJ26, HO_6, HI934, HB⟩ := hcut
       cases kq with
       | zero => exact absurd HA.out (by simp [spec_DrawAreWatching.j2])
       | succ kj26 =>
        have H := HA.out
        clear HA
        simp only [spec_DrawAreWatching.j2] at H
        replace H := Option.bind_eq_some_iff.mp H
        obtain ⟨⟨t964, t965, t966⟩, A290, H⟩ := H
        replace H : (if t964 = 0 then (if x6_26.length < 5864062014805 then (some (t938, (x6_26 ++ [(([0] : List Int))]))) else (none)) else (if t964 = 1 then ((spec_l1Cur_among.f l0 t965 t966 (([(-1), t938, 4611686018427387904] : List Int))).bind fun bt976 => (if x6_26.length < 5864062014805 then (some (t938, (x6_26 ++ [(([bt976.1, 0] : List Int))]))) else (none))) else (some (t938, x6_26)))) = some (r1, r2) := H
        have A29 := A_ A290
        clear A290
        by_cases c30 : t964 = 0
        ·
         rw [if_pos c30] at H
         have c30b0 : (t964 == 0) = true := beq_iff_eq.mpr c30
         have c30b1 : (t964 != 0) = false := bne_eq_false_iff_eq.mpr c30
         clear c30
         obtain ⟨y967, hy967⟩ : ∃ y_ : List Int, y_ = (([0] : List Int)) := ⟨_, rfl⟩
         replace H : (if x6_26.length < 5864062014805 then (some (t938, (x6_26 ++ [y967]))) else (none)) = some (r1, r2) := ty_ hy967 H
         have Ny967 := A_ hy967
         clear hy967
         by_cases c31 : x6_26.length < 5864062014805
         ·
          rw [if_pos c31] at H
          have LMc31 := A_ c31
          clear c31
          obtain ⟨y970, hy970⟩ : ∃ y_ : List (List Int), y_ = (x6_26 ++ [y967]) := ⟨_, rfl⟩
          replace H : (some (t938, y970)) = some (r1, r2) := ty_ hy970 H
          have Ny970 := A_ hy970
          clear hy970
          simp only [Option.some.injEq, Prod.mk.injEq] at H
          obtain ⟨rfl, rfl⟩ := H
          go_wp2_with (first | (refine gc_ 122 ?_; refine goesT_ (some 47) Try.func122 #[.pointer (some ⟨gb934, 0, none⟩), .int .i64 14] ?_; (with_reducible refine (spec_l1Cur_pick.calls gb934 l0 x935001_21 x935002_21 14 t964 t965 t966 w _ ?side1 ?side2 A29.out).mono ?_); (case side1 => repeat (first | (with_reducible first | exact HI934.out | apply IsS100.alloc | apply IsS100.drewN | apply IsS100.drew | apply IsS100.set_1 | apply IsS100.set_2) | exact HI934.out)); (case side2 => repeat (first | (with_reducible first | exact HB.out | apply below_alloc | apply pw_below_drewN | apply below_drew1 | refine below_set ?_ (IsS100.ge HI934.out)) | exact HB.out)); rintro e w32 ⟨rfl, hi, hb, hk⟩; refine ⟨_, rfl, ?_⟩; replace HO_6 := A_ (Kd.S_mono (Kd.S_keep (IsS100.apartS (show IsS100 w _ gb934 l0 x935001_21 x935002_21 from by repeat (first | (with_reducible first | exact HI934.out | apply IsS100.alloc | apply IsS100.drewN | apply IsS100.drew | apply IsS100.set_1 | apply IsS100.set_2) | exact HI934.out)) (ts1_x HO_6.out) (by decide)) hk (fun _ h => h.2)) (fun _ h => h.1)); replace HB := A_ (hb); replace HI934 := A_ (hi); (try clear hb); (try clear hb2); (try clear hk); (try clear hi)) | (refine gd_ 51 ?_; refine Kd.R_lit (Kd.int .i64) _ 3 ?hg (N := 51) ?hd (xs := ([0] : List Int)) (inner := [.int .i64 0]) (ok := fun _ => True) (okp := fun _ => True) ?hr ?hp (fun _ hk => hk) trivial (Below.refl _ _) (Nat.le_refl _) (by simp) ?_; (case hd => rfl); (case hg => rfl); (case hr => first | (go_simp; done) | (go_simp; rfl)); (case hp => exact (Reps.one (show Kd.M (Kd.int .i64) _ _ _ 0 [.int .i64 0] from rfl) (Reps.none _ _))); intro v968 w33 ho34 hb hg_ hnew_; clear hg_ hnew_; (first | rw [← Ny967.out] at ho34 | (simp only [Int.reduceToNat] at ho34; rw [← Ny967.out] at ho34)); replace HO_6 := A_ (Kd.S_elder' (ts1_x HO_6.out) (Kd.R_base ho34) hb); have HO969 := A_ (Kd.R_lower ho34 (below_size (by repeat (first | (with_reducible first | exact HB.out | apply below_alloc | apply pw_below_drewN | apply below_drew1 | refine below_set ?_ (IsS100.ge HI934.out)) | exact HB.out)))); replace HB := A_ (below_step (by repeat (first | (with_reducible first | exact HB.out | apply below_alloc | apply pw_below_drewN | apply below_drew1 | refine below_set ?_ (IsS100.ge HI934.out)) | exact HB.out)) hb); replace HI934 := A_ (IsS100.below (by repeat (first | (with_reducible first | exact HI934.out | apply IsS100.alloc | apply IsS100.drewN | apply IsS100.drew | apply IsS100.set_1 | apply IsS100.set_2) | exact HI934.out)) hb); clear hb ho34; obtain ⟨Ao36, co36, eo36⟩ := Kd.R_slice HO969.out; subst eo36) | ((with_reducible refine gate_builtin (b := .append) (xs := #[.tmp 50, .tmp 52]) rfl ?_); at_builtin; refine Kd.S_append (Kd.slice 3 (Kd.int .i64)) (w0 := w) w.heap.size rfl (.tmp 50) (.tmp 52) 41 22 (.slice none 0 0) 24 rfl Try.underlying41 info22 rfl (by decide) (by omega) u6 x6_26 y967 [.slice Ao36 y967.length co36] (fun _ => True) (fun k_ => some k_ = (.slice Ao36 y967.length co36 : Value).ownBlock) rfl rfl ?aP (fun k_ hk_ => ((Kd.R_mono (ok' := fun k_ => ((fun _ => True)) k_ ∧ some k_ ≠ (u6 : Value).ownBlock) (Kd.R_apart' (HO969.out) (Kd.S_typed HO_6.out) (by decide)) (fun k_ hk => ⟨trivial, hk.2⟩))).1 k_ hk_.symm) ?aF ?aO ?aB ?aS ?aL ?_; (case aP => exact Kd.M_row (Kd.R_mono (Kd.R_tight rfl (Kd.R_mono (ok' := fun k_ => ((fun _ => True)) k_ ∧ some k_ ≠ (u6 : Value).ownBlock) (Kd.R_apart' (HO969.out) (Kd.S_typed HO_6.out) (by decide)) (fun k_ hk => ⟨trivial, hk.2⟩))) (fun _ h_ => h_))); (case aB => exact (by repeat (first | (with_reducible first | exact HB.out | apply below_alloc | apply pw_below_drewN | apply below_drew1 | refine below_set ?_ (IsS100.ge HI934.out)) | exact HB.out))); (case aF => exact (fun _ _ => trivial)); (case aO => exact (ts1_ (h := by exact Kd.S_mono HO_6.out (fun k_ hk => ⟨trivial, fun e_ => hk.2 e_⟩)))); (case aS => exact (below_size (by repeat (first | (with_reducible first | exact HB.out | apply below_alloc | apply pw_below_drewN | apply below_drew1 | refine below_set ?_ (IsS100.ge HI934.out)) | exact HB.out)))); (case aL => have := LMc31.out; omega); intro v971 w35 ho hb hg hat; rw [← Ny970.out] at ho; have n0_ := A_ (IsS100.grown (by repeat (first | (with_reducible first | exact HI934.out | apply IsS100.alloc | apply IsS100.drewN | apply IsS100.drew | apply IsS100.set_1 | apply IsS100.set_2) | exact HI934.out)) hg (IsS100.own_neS HI934.out HO_6.out (by decide))); have n1_ := A_ (hb); have n2_ := A_ (ho); clear HI934; clear HB; clear HO_6; clear HO969; have HI934 := n0_; have HB := n1_; have HO972 := n2_; clear n0_ n1_ n2_; clear ho hb hg hat))
          go_ret2
          exact ⟨_, te_, by (with_reducible repeat (first | apply Kd.S_alloc | apply Kd.S_drewN | apply Kd.S_drew)); exact HO972.out, by repeat (first | (with_reducible first | exact HB.out | apply below_alloc | apply pw_below_drewN | apply below_drew1 | refine below_set ?_ (IsS100.ge HI934.out)) | exact HB.out)⟩
         ·
          rw [if_neg c31] at H
          exact absurd H (by simp)
        ·
         rw [if_neg c30] at H
         have c30b0 : (t964 == 0) = false := beq_eq_false_iff_ne.mpr c30
         have c30b1 : (t964 != 0) = true := bne_iff_ne.mpr c30
         by_cases c37 : t964 = 1
         ·
          rw [if_pos c37] at H
          have c37b0 : (t964 == 1) = true := beq_iff_eq.mpr c37
          have c37b1 : (t964 != 1) = false := bne_eq_false_iff_eq.mpr c37
          clear c37
          obtain ⟨y973, hy973⟩ : ∃ y_ : List Int, y_ = (([(-1), t938, 4611686018427387904] : List Int)) := ⟨_, rfl⟩
          replace H : ((spec_l1Cur_among.f l0 t965 t966 y973).bind fun bt976 => (if x6_26.length < 5864062014805 then (some (t938, (x6_26 ++ [(([bt976.1, 0] : List Int))]))) else (none))) = some (r1, r2) := ty_ hy973 H
          have Ny973 := A_ hy973
          clear hy973
          replace H := Option.bind_eq_some_iff.mp H
          obtain ⟨⟨t976, t977, t978⟩, A380, H⟩ := H
          replace H : (if x6_26.length < 5864062014805 then (some (t938, (x6_26 ++ [(([t976, 0] : List Int))]))) else (none)) = some (r1, r2) := H
          have A38 := A_ A380
          clear A380
          obtain ⟨y979, hy979⟩ : ∃ y_ : List Int, y_ = (([t976, 0] : List Int)) := ⟨_, rfl⟩
          replace H : (if x6_26.length < 5864062014805 then (some (t938, (x6_26 ++ [y979]))) else (none)) = some (r1, r2) := ty_ hy979 H
          have Ny979 := A_ hy979
          clear hy979
          by_cases c39 : x6_26.length < 5864062014805
          ·
           rw [if_pos c39] at H
           have LMc39 := A_ c39
           clear c39
           obtain ⟨y982, hy982⟩ : ∃ y_ : List (List Int), y_ = (x6_26 ++ [y979]) := ⟨_, rfl⟩
           replace H : (some (t938, y982)) = some (r1, r2) := ty_ hy982 H
           have Ny982 := A_ hy982
           clear hy982
           simp only [Option.some.injEq, Prod.mk.injEq] at H
           obtain ⟨rfl, rfl⟩ := H
           go_wp2_with (first | (refine gc_ 122 ?_; refine goesT_ (some 47) Try.func122 #[.pointer (some ⟨gb934, 0, none⟩), .int .i64 14] ?_; (with_reducible refine (spec_l1Cur_pick.calls gb934 l0 x935001_21 x935002_21 14 t964 t965 t966 w _ ?side1 ?side2 A29.out).mono ?_); (case side1 => repeat (first | (with_reducible first | exact HI934.out | apply IsS100.alloc | apply IsS100.drewN | apply IsS100.drew | apply IsS100.set_1 | apply IsS100.set_2) | exact HI934.out)); (case side2 => repeat (first | (with_reducible first | exact HB.out | apply below_alloc | apply pw_below_drewN | apply below_drew1 | refine below_set ?_ (IsS100.ge HI934.out)) | exact HB.out)); rintro e w40 ⟨rfl, hi, hb, hk⟩; refine ⟨_, rfl, ?_⟩; replace HO_6 := A_ (Kd.S_mono (Kd.S_keep (IsS100.apartS (show IsS100 w _ gb934 l0 x935001_21 x935002_21 from by repeat (first | (with_reducible first | exact HI934.out | apply IsS100.alloc | apply IsS100.drewN | apply IsS100.drew | apply IsS100.set_1 | apply IsS100.set_2) | exact HI934.out)) (ts1_x HO_6.out) (by decide)) hk (fun _ h => h.2)) (fun _ h => h.1)); replace HB := A_ (hb); replace HI934 := A_ (hi); (try clear hb); (try clear hb2); (try clear hk); (try clear hi)) | (refine gd_ 59 ?_; refine Kd.R_lit (Kd.int .i64) _ 3 ?hg (N := 59) ?hd (xs := ([(-1), t938, 4611686018427387904] : List Int)) (inner := [.int .i64 (-1), .int .i64 t938, .int .i64 4611686018427387904]) (ok := fun _ => True) (okp := fun _ => True) ?hr ?hp (fun _ hk => hk) trivial (Below.refl _ _) (Nat.le_refl _) (by simp) ?_; (case hd => rfl); (case hg => rfl); (case hr => first | (go_simp; done) | (go_simp; rfl)); (case hp => exact (Reps.one (show Kd.M (Kd.int .i64) _ _ _ (-1) [.int .i64 (-1)] from rfl) (Reps.one (show Kd.M (Kd.int .i64) _ _ _ t938 [.int .i64 t938] from rfl) (Reps.one (show Kd.M (Kd.int .i64) _ _ _ 4611686018427387904 [.int .i64 4611686018427387904] from rfl) (Reps.none _ _))))); intro v974 w41 ho42 hb hg_ hnew_; clear hg_ hnew_; (first | rw [← Ny973.out] at ho42 | (simp only [Int.reduceToNat] at ho42; rw [← Ny973.out] at ho42)); replace HO_6 := A_ (Kd.S_elder' (ts1_x HO_6.out) (Kd.R_base ho42) hb); have HO975 := A_ (Kd.R_lower ho42 (below_size (by repeat (first | (with_reducible first | exact HB.out | apply below_alloc | apply pw_below_drewN | apply below_drew1 | refine below_set ?_ (IsS100.ge HI934.out)) | exact HB.out)))); replace HB := A_ (below_step (by repeat (first | (with_reducible first | exact HB.out | apply below_alloc | apply pw_below_drewN | apply below_drew1 | refine below_set ?_ (IsS100.ge HI934.out)) | exact HB.out)) hb); replace HI934 := A_ (IsS100.below (by repeat (first | (with_reducible first | exact HI934.out | apply IsS100.alloc | apply IsS100.drewN | apply IsS100.drew | apply IsS100.set_1 | apply IsS100.set_2) | exact HI934.out)) hb); clear hb ho42; obtain ⟨Ao43, co43, eo43⟩ := Kd.R_slice HO975.out; subst eo43) | (refine gc_ 118 ?_; refine goesT_ (some 60) Try.func118 #[.pointer (some ⟨gb934, 0, none⟩), .slice Ao43 y973.length co43] ?_; (with_reducible refine (spec_l1Cur_among.calls gb934 l0 t965 t966 _ _ y973 t976 t977 t978 w _ ?side1 ?side2 ?side3 ?side4 ?side5 A38.out).mono ?_); (case side1 => repeat (first | (with_reducible first | exact HI934.out | apply IsS100.alloc | apply IsS100.drewN | apply IsS100.drew | apply IsS100.set_1 | apply IsS100.set_2) | exact HI934.out)); (case side2 => repeat (first | (with_reducible first | exact HB.out | apply below_alloc | apply pw_below_drewN | apply below_drew1 | refine below_set ?_ (IsS100.ge HI934.out)) | exact HB.out)); (case side3 => exact tc0_ (Kd.R_reads' HO975.out).2.2); (case side4 => exact (Kd.R_reads' HO975.out).2.1); (case side5 => exact far_slice (IsS100.own_ne HI934.out HO975.out (by decide))); rintro e w44 ⟨rfl, hi, hb, hk⟩; refine ⟨_, rfl, ?_⟩; replace HO_6 := A_ (Kd.S_mono (Kd.S_keep (IsS100.apartS (show IsS100 w _ gb934 l0 t965 t966 from by repeat (first | (with_reducible first | exact HI934.out | apply IsS100.alloc | apply IsS100.drewN | apply IsS100.drew | apply IsS100.set_1 | apply IsS100.set_2) | exact HI934.out)) (ts1_x HO_6.out) (by decide)) hk (fun _ h => h.2)) (fun _ h => h.1)); replace HO975 := A_ (Kd.R_mono (Kd.R_keep (IsS100.apart (show IsS100 w _ gb934 l0 t965 t966 from by repeat (first | (with_reducible first | exact HI934.out | apply IsS100.alloc | apply IsS100.drewN | apply IsS100.drew | apply IsS100.set_1 | apply IsS100.set_2) | exact HI934.out)) (tr_x HO975.out) (by decide)) hk (fun _ h => h.2)) (fun _ h => h.1)); replace HB := A_ (hb); replace HI934 := A_ (hi); (try clear hb); (try clear hb2); (try clear hk); (try clear hi)) | (refine gd_ 61 ?_; refine Kd.R_lit (Kd.int .i64) _ 3 ?hg (N := 61) ?hd (xs := ([t976, 0] : List Int)) (inner := [.int .i64 t976, .int .i64 0]) (ok := fun _ => True) (okp := fun _ => True) ?hr ?hp (fun _ hk => hk) trivial (Below.refl _ _) (Nat.le_refl _) (by simp) ?_; (case hd => rfl); (case hg => rfl); (case hr => first | (go_simp; done) | (go_simp; rfl)); (case hp => exact (Reps.one (show Kd.M (Kd.int .i64) _ _ _ t976 [.int .i64 t976] from rfl) (Reps.one (show Kd.M (Kd.int .i64) _ _ _ 0 [.int .i64 0] from rfl) (Reps.none _ _)))); intro v980 w45 ho46 hb hg_ hnew_; clear hg_ hnew_; (first | rw [← Ny979.out] at ho46 | (simp only [Int.reduceToNat] at ho46; rw [← Ny979.out] at ho46)); replace HO_6 := A_ (Kd.S_elder' (ts1_x HO_6.out) (Kd.R_base ho46) hb); have HO981 := A_ (Kd.R_lower (Kd.R_new' ho46 (Kd.R_lt (tr_x HO975.out))) (below_size (by repeat (first | (with_reducible first | exact HB.out | apply below_alloc | apply pw_below_drewN | apply below_drew1 | refine below_set ?_ (IsS100.ge HI934.out)) | exact HB.out)))); replace HO975 := A_ (Kd.R_elder' (tr_x HO975.out) (Kd.R_base ho46) hb); replace HB := A_ (below_step (by repeat (first | (with_reducible first | exact HB.out | apply below_alloc | apply pw_below_drewN | apply below_drew1 | refine below_set ?_ (IsS100.ge HI934.out)) | exact HB.out)) hb); replace HI934 := A_ (IsS100.below (by repeat (first | (with_reducible first | exact HI934.out | apply IsS100.alloc | apply IsS100.drewN | apply IsS100.drew | apply IsS100.set_1 | apply IsS100.set_2) | exact HI934.out)) hb); clear hb ho46; obtain ⟨Ao48, co48, eo48⟩ := Kd.R_slice HO981.out; subst eo48) | ((with_reducible refine gate_builtin (b := .append) (xs := #[.tmp 56, .tmp 62]) rfl ?_); at_builtin; refine Kd.S_append (Kd.slice 3 (Kd.int .i64)) (w0 := w) w.heap.size rfl (.tmp 56) (.tmp 62) 41 22 (.slice none 0 0) 24 rfl Try.underlying41 info22 rfl (by decide) (by omega) u6 x6_26 y979 [.slice Ao48 y979.length co48] (fun k_ => some k_ ≠ (.slice Ao43 y973.length co43 : Value).ownBlock) (fun k_ => some k_ = (.slice Ao48 y979.length co48 : Value).ownBlock) rfl rfl ?aP (fun k_ hk_ => ((Kd.R_mono (ok' := fun k_ => ((fun k_ => some k_ ≠ (.slice Ao43 y973.length co43 : Value).ownBlock)) k_ ∧ some k_ ≠ (u6 : Value).ownBlock) (Kd.R_apart' (HO981.out) (Kd.S_typed HO_6.out) (by decide)) (fun k_ hk => ⟨hk.1.2, hk.2⟩))).1 k_ hk_.symm) ?aF ?aO ?aB ?aS ?aL ?_; (case aP => exact Kd.M_row (Kd.R_mono (Kd.R_tight rfl (Kd.R_mono (ok' := fun k_ => ((fun k_ => some k_ ≠ (.slice Ao43 y973.length co43 : Value).ownBlock)) k_ ∧ some k_ ≠ (u6 : Value).ownBlock) (Kd.R_apart' (HO981.out) (Kd.S_typed HO_6.out) (by decide)) (fun k_ hk => ⟨hk.1.2, hk.2⟩))) (fun _ h_ => h_))); (case aB => exact (by repeat (first | (with_reducible first | exact HB.out | apply below_alloc | apply pw_below_drewN | apply below_drew1 | refine below_set ?_ (IsS100.ge HI934.out)) | exact HB.out))); (case aF => exact (fun k_ hk => Kd.fresh' (Kd.R_lt (tr_x HO975.out)) k_ hk)); (case aO => exact (ts1_ (h := by exact Kd.S_mono HO_6.out (fun k_ hk => ⟨hk.1.2, fun e_ => hk.2 e_⟩)))); (case aS => exact (below_size (by repeat (first | (with_reducible first | exact HB.out | apply below_alloc | apply pw_below_drewN | apply below_drew1 | refine below_set ?_ (IsS100.ge HI934.out)) | exact HB.out)))); (case aL => have := LMc39.out; omega); intro v983 w47 ho hb hg hat; rw [← Ny982.out] at ho; have n0_ := A_ (IsS100.grown (by repeat (first | (with_reducible first | exact HI934.out | apply IsS100.alloc | apply IsS100.drewN | apply IsS100.drew | apply IsS100.set_1 | apply IsS100.set_2) | exact HI934.out)) hg (IsS100.own_neS HI934.out HO_6.out (by decide))); have n1_ := A_ (Kd.R_over' (tr_x HO975.out) (Kd.S_typed (ts1_x HO_6.out)) (by decide) hg); have n2_ := A_ (hb); have n3_ := A_ (ho); clear HI934; clear HO975; clear HB; clear HO_6; clear HO981; have HI934 := n0_; have HO975 := n1_; have HB := n2_; have HO984 := n3_; clear n0_ n1_ n2_ n3_; clear ho hb hg hat))
           go_ret2
           exact ⟨_, te_, by (with_reducible repeat (first | apply Kd.S_alloc | apply Kd.S_drewN | apply Kd.S_drew)); exact Kd.S_mono HO984.out (fun _ hk => trivial), by repeat (first | (with_reducible first | exact HB.out | apply below_alloc | apply pw_below_drewN | apply below_drew1 | refine below_set ?_ (IsS100.ge HI934.out)) | exact HB.out)⟩
          ·
           rw [if_neg c39] at H
           exact absurd H (by simp)
         ·
          rw [if_neg c37] at H
          have c37b0 : (t964 == 1) = false := beq_eq_false_iff_ne.mpr c37
          have c37b1 : (t964 != 1) = true := bne_iff_ne.mpr c37
          simp only [Option.some.injEq, Prod.mk.injEq] at H
          obtain ⟨rfl, rfl⟩ := H
          go_wp2_with (first | (refine gc_ 122 ?_; refine goesT_ (some 47) Try.func122 #[.pointer (some ⟨gb934, 0, none⟩), .int .i64 14] ?_; (with_reducible refine (spec_l1Cur_pick.calls gb934 l0 x935001_21 x935002_21 14 t964 t965 t966 w _ ?side1 ?side2 A29.out).mono ?_); (case side1 => repeat (first | (with_reducible first | exact HI934.out | apply IsS100.alloc | apply IsS100.drewN | apply IsS100.drew | apply IsS100.set_1 | apply IsS100.set_2) | exact HI934.out)); (case side2 => repeat (first | (with_reducible first | exact HB.out | apply below_alloc | apply pw_below_drewN | apply below_drew1 | refine below_set ?_ (IsS100.ge HI934.out)) | exact HB.out)); rintro e w49 ⟨rfl, hi, hb, hk⟩; refine ⟨_, rfl, ?_⟩; replace HO_6 := A_ (Kd.S_mono (Kd.S_keep (IsS100.apartS (show IsS100 w _ gb934 l0 x935001_21 x935002_21 from by repeat (first | (with_reducible first | exact HI934.out | apply IsS100.alloc | apply IsS100.drewN | apply IsS100.drew | apply IsS100.set_1 | apply IsS100.set_2) | exact HI934.out)) (ts1_x HO_6.out) (by decide)) hk (fun _ h => h.2)) (fun _ h => h.1)); replace HB := A_ (hb); replace HI934 := A_ (hi); (try clear hb); (try clear hb2); (try clear hk); (try clear hi)))
          go_ret2
          exact ⟨_, te_, by (with_reducible repeat (first | apply Kd.S_alloc | apply Kd.S_drewN | apply Kd.S_drew)); exact HO_6.out, by repeat (first | (with_reducible first | exact HB.out | apply below_alloc | apply pw_below_drewN | apply below_drew1 | refine below_set ?_ (IsS100.ge HI934.out)) | exact HB.out)⟩

/-! ### spec_quSide: function 125 -/
def spec_quSide.f (a0 : Int) : Option (Bool) := (spec_l1In.f a0 1 8).bind fun t985 => (some t985)
theorem spec_quSide.calls (a0 : Int) (r : Bool) (w : World) (h : spec_quSide.f a0 = some r) :
  Calls Try.prog 125 #[.int .i64 a0] w fun e w' => e = .returned (.bool r) ∧ Drawn0 w w' := by
 have H : ((spec_l1In.f a0 1 8).bind fun t985 => (some t985)) = some r := h
 clear h
 replace H := Option.bind_eq_some_iff.mp H
 obtain ⟨t985, A20, H⟩ := H
 replace H : (some t985) = some r := H
 have A2 := A_ A20
 clear A20
 obtain rfl := Option.some.inj H
 go_enter Try.func125, Try.ntmps125
 go_wp2_with (first | (refine gc_ 111 ?_; refine goesT_ (some 4) Try.func111 #[.int .i64 a0, .int .i64 1, .int .i64 8] ?_; (with_reducible refine (spec_l1In.calls a0 1 8 t985 _ A2.out).mono ?_); rintro e w' ⟨rfl, ⟨nd, rfl⟩⟩; refine ⟨_, rfl, ?_⟩))
 go_ret
 exact ⟨tf_, dr_⟩

/-! ### spec_AreWatching: function 51 -/
mutual
def spec_AreWatching.j0 : Nat → Int → List (List Int) → Bool → Option (Bool × Bool)
 | 0, _, _, _ => none
 | k + 1, x0, x1, x16 => if x16 = true then (some (false, false)) else (spec_AreWatching.l0 k x0 x1 x1 (x1.length : Int) 0)
def spec_AreWatching.l0 : Nat → Int → List (List Int) → List (List Int) → Int → Int → Option (Bool × Bool)
 | 0, _, _, _, _, _ => none
 | k + 1, x0, x1, x17, x18, x19 => if x19 < x18 then (if 0 ≤ x19 then (if x19 < (x17.length : Int) then (if ((rd_L1 x17 x19).length : Int) = 2 then ((spec_l1All.f k (rd_L1 x17 x19) 0 (wrap64 (x0 - 1))).bind fun t988 => (if t988 = true then (spec_AreWatching.l0 k x0 x1 x17 x18 (wrap64 (x19 + 1))) else (some (false, false)))) else (some (false, false))) else (none)) else (none)) else ((spec_quWatched.f k x0 x1).bind fun t989 => (some (t989, true)))
end
def spec_AreWatching.f (k : Nat) (a0 : Int) (l1 : List (List Int)) : Option (Bool × Bool) := (spec_quSide.f a0).bind fun t986 => (if t986 = true then (spec_AreWatching.j0 k a0 l1 (decide ((l1.length : Int) > a0))) else (spec_AreWatching.j0 k a0 l1 true))
theorem spec_AreWatching.mono_l : ∀ k, (∀ y0 y1 y2, LeO (spec_AreWatching.j0 k y0 y1 y2) (spec_AreWatching.j0 (k + 1) y0 y1 y2)) ∧ (∀ y0 y1 y2 y3 y4, LeO (spec_AreWatching.l0 k y0 y1 y2 y3 y4) (spec_AreWatching.l0 (k + 1) y0 y1 y2 y3 y4))
 | 0 => ⟨fun _ _ _ r h => by simp [spec_AreWatching.j0] at h, fun _ _ _ _ _ r h => by simp [spec_AreWatching.l0] at h⟩
 | k + 1 => by
  obtain ⟨ih0, ih1⟩ := spec_AreWatching.mono_l k
  refine ⟨?_, ?_⟩
  ·
   intro y0 y1 y2
   unfold spec_AreWatching.j0
   repeat' first | (with_reducible first | exact ih0 _ _ _ | exact ih1 _ _ _ _ _ | exact spec_l1All.mono _ _ _ _ | exact spec_quWatched.mono _ _ _ | exact LeO.refl _ | exact LeO.none _ | refine LeO.ite ?_ ?_ | refine LeO.bind ?_ (fun _ => ?_)) | exact ih0 _ _ _ | exact ih1 _ _ _ _ _ | exact spec_l1All.mono _ _ _ _ | exact spec_quWatched.mono _ _ _ | exact LeO.none _ | refine LeO.ite ?_ ?_ | refine LeO.bind ?_ (fun _ => ?_)
  ·
   intro y0 y1 y2 y3 y4
   unfold spec_AreWatching.l0
   repeat' first | (with_reducible first | exact ih0 _ _ _ | exact ih1 _ _ _ _ _ | exact spec_l1All.mono _ _ _ _ | exact spec_quWatched.mono _ _ _ | exact LeO.refl _ | exact LeO.none _ | refine LeO.ite ?_ ?_ | refine LeO.bind ?_ (fun _ => ?_)) | exact ih0 _ _ _ | exact ih1 _ _ _ _ _ | exact spec_l1All.mono _ _ _ _ | exact spec_quWatched.mono _ _ _ | exact LeO.none _ | refine LeO.ite ?_ ?_ | refine LeO.bind ?_ (fun _ => ?_)
theorem spec_AreWatching.mono : ∀ a0 a1 k, LeO (spec_AreWatching.f k a0 a1) (spec_AreWatching.f (k + 1) a0 a1) := by
 intro a0 a1 k
 obtain ⟨ih0, ih1⟩ := spec_AreWatching.mono_l k
 unfold spec_AreWatching.f
 repeat' first | (with_reducible first | exact ih0 _ _ _ | exact ih1 _ _ _ _ _ | exact spec_l1All.mono _ _ _ _ | exact spec_quWatched.mono _ _ _ | exact LeO.refl _ | exact LeO.none _ | refine LeO.ite ?_ ?_ | refine LeO.bind ?_ (fun _ => ?_)) | exact ih0 _ _ _ | exact ih1 _ _ _ _ _ | exact spec_l1All.mono _ _ _ _ | exact spec_quWatched.mono _ _ _ | exact LeO.none _ | refine LeO.ite ?_ ?_ | refine LeO.bind ?_ (fun _ => ?_)
theorem spec_AreWatching.calls (k : Nat) (a0 : Int) (A1 : Option Addr) (c1 : Nat) (l1 : List (List Int)) (r1 : Bool) (r2 : Bool) (w : World) (hr1 : Kd.C (Kd.slice 3 (Kd.int .i64)) w A1 l1.length l1) (hc1 : l1.length ≤ c1) (h : spec_AreWatching.f k a0 l1 = some (r1, r2)) :
  Calls Try.prog 51 #[.int .i64 a0, .slice A1 l1.length c1] w fun e w' => e = .returned (.tuple #[.bool r1, .bool r2]) ∧ Drawn0 w w' := by
 have HR1 := A_ hr1
 have HC1 := A_ hc1
 clear hr1 hc1
 have H : ((spec_quSide.f a0).bind fun t986 => (if t986 = true then (spec_AreWatching.j0 k a0 l1 (decide ((l1.length : Int) > a0))) else (spec_AreWatching.j0 k a0 l1 true))) = some (r1, r2) := h
 clear h
 have HC3 := A_ H
 clear H
 go_enter Try.func51, Try.ntmps51
 go_upto_region 1 with (fail)
 go_cut [16] (fun v16 wc => ∃ (kq : Nat) (x16_2 : Bool), v16 = .bool x16_2 ∧ Aside0 (spec_AreWatching.j0 kq a0 l1 x16_2 = some (r1, r2)) ∧ Aside0 (kq ≤ k) ∧ Drawn0 w wc)
 case first =>
  have H := HC3.out
  clear HC3
  replace H := Option.bind_eq_some_iff.mp H
  obtain ⟨t986, A40, H⟩ := H
  replace H : (if t986 = true then (spec_AreWatching.j0 k a0 l1 (decide ((l1.length : Int) > a0))) else (spec_AreWatching.j0 k a0 l1 true)) = some (r1, r2) := H
  have A4 := A_ A40
  clear A40
  by_cases c5 : t986 = true
  ·
   subst c5
   have H1 : (spec_AreWatching.j0 k a0 l1 (decide ((l1.length : Int) > a0))) = some (r1, r2) := by rw [if_pos rfl] at H; exact H
   clear H
   have H := H1
   clear H1
   have H' := A_ H
   clear H
   go_wp2_with (first | (refine gc_ 125 ?_; refine goesT_ (some 9) Try.func125 #[.int .i64 a0] ?_; (with_reducible refine (spec_quSide.calls a0 true _ A4.out).mono ?_); rintro e w' ⟨rfl, ⟨nd, rfl⟩⟩; refine ⟨_, rfl, ?_⟩))
   go_meet
   case rel => exact ⟨_, (decide ((l1.length : Int) > a0)), tf_, H', ⟨by first | omega | exact Nat.le_refl _⟩, dr_⟩
  ·
   replace c5 := Bool.eq_false_iff.mpr c5
   subst c5
   have H1 : (spec_AreWatching.j0 k a0 l1 true) = some (r1, r2) := by rw [if_neg (show ¬ (false = true) by decide)] at H; exact H
   clear H
   have H := H1
   clear H1
   have H' := A_ H
   clear H
   go_wp2_with (first | (refine gc_ 125 ?_; refine goesT_ (some 9) Try.func125 #[.int .i64 a0] ?_; (with_reducible refine (spec_quSide.calls a0 false _ A4.out).mono ?_); rintro e w' ⟨rfl, ⟨nd, rfl⟩⟩; refine ⟨_, rfl, ?_⟩))
   go_meet
   case rel => exact ⟨_, (true), tf_, H', ⟨by first | omega | exact Nat.le_refl _⟩, dr_⟩
 case rest =>
  clear HC3
  try clear c1
  try clear p2
  try clear c5
  obtain ⟨kq, x16_2, rfl, HA, HJ2, ⟨mc2, rfl⟩⟩ := hcut
  cases kq with
  | zero => exact absurd HA.out (by simp [spec_AreWatching.j0])
  | succ kj2 =>
   have H := HA.out
   clear HA
   simp only [spec_AreWatching.j0] at H
   by_cases c6 : x16_2 = true
   ·
    subst c6
    have H1 : (some (false, false)) = some (r1, r2) := by rw [if_pos rfl] at H; exact H
    clear H
    have H := H1
    clear H1
    simp only [Option.some.injEq, Prod.mk.injEq] at H
    obtain ⟨rfl, rfl⟩ := H
    go_wp2
    go_ret2
    exact ⟨tf_, dr_⟩
   ·
    replace c6 := Bool.eq_false_iff.mpr c6
    subst c6
    have H1 : (spec_AreWatching.l0 kj2 a0 l1 l1 (l1.length : Int) 0) = some (r1, r2) := by rw [if_neg (show ¬ (false = true) by decide)] at H; exact H
    clear H
    have H := H1
    clear H1
    have H' := A_ H
    clear H
    go_wp2
    go_loopg [19] kj2 (fun kq v19 w' => ∃ (x19_2 : Int), v19 = .int .i64 x19_2 ∧ Aside0 (spec_AreWatching.l0 kq a0 l1 l1 (l1.length : Int) x19_2 = some (r1, r2)) ∧ Aside0 (kq ≤ kj2) ∧ Drawn0 w w')
    case atStart => exact ⟨(0), tf_, H', ⟨Nat.le_refl _⟩, dr_⟩
    case round =>
     clear H'
     try clear c1
     try clear c2
     try clear p2
     try clear c5
     try clear c6
     try clear p2
     obtain ⟨x19_2, rfl, HA, HK2, ⟨m2, rfl⟩⟩ := hrel
     cases gk with
     | zero => exact absurd HA.out (by simp [spec_AreWatching.l0])
     | succ k2 =>
      have H := HA.out
      clear HA
      simp only [spec_AreWatching.l0] at H
      by_cases c7 : x19_2 < (l1.length : Int)
      ·
       rw [if_pos c7] at H
       have c7b0 := decide_eq_true c7
       clear c7
       by_cases c8 : 0 ≤ x19_2
       ·
        rw [if_pos c8] at H
        have c8b0 := decide_eq_true c8
        clear c8
        by_cases c9 : x19_2 < (l1.length : Int)
        ·
         rw [if_pos c9] at H
         have c9b0 := decide_eq_true c9
         clear c9
         by_cases c10 : ((rd_L1 l1 x19_2).length : Int) = 2
         ·
          rw [if_pos c10] at H
          have c10b0 : (((rd_L1 l1 x19_2).length : Int) == 2) = true := beq_iff_eq.mpr c10
          have c10b1 : (((rd_L1 l1 x19_2).length : Int) != 2) = false := bne_eq_false_iff_eq.mpr c10
          clear c10
          replace H := Option.bind_eq_some_iff.mp H
          obtain ⟨t988, A110, H⟩ := H
          replace H : (if t988 = true then (spec_AreWatching.l0 k2 a0 l1 l1 (l1.length : Int) (wrap64 (x19_2 + 1))) else (some (false, false))) = some (r1, r2) := H
          have A11 := A_ A110
          clear A110
          by_cases c12 : t988 = true
          ·
           subst c12
           have H1 : (spec_AreWatching.l0 k2 a0 l1 l1 (l1.length : Int) (wrap64 (x19_2 + 1))) = some (r1, r2) := by rw [if_pos rfl] at H; exact H
           clear H
           have H := H1
           clear H1
           have H' := A_ H
           clear H
           have p987 : 0 ≤ (x19_2 : Int) := od_
           have q987 : x19_2 < (l1.length : Int) := od_
           obtain ⟨ad987, A987_0, c987_0, e987, hx987_0, hl987_0, hi987_0⟩ := at_L1 HR1.out x19_2 p987 q987
           cases e987
           have HR987_0 := A_ hi987_0
           have HC987_0 := A_ hl987_0
           clear hi987_0 hl987_0
           replace p987 := eq_true p987
           replace q987 := eq_true q987
           go_wp2_with (first | (go_at_call 126; (with_reducible refine (spec_l1All.calls k2 _ _ (rd_L1 l1 x19_2) 0 (wrap64 (a0 - 1)) true _ ?side1 ?side2 A11.out).mono ?_); (case side1 => exact tc0_ HR987_0.out); (case side2 => exact HC987_0.out); rintro e w' ⟨rfl, ⟨nd, rfl⟩⟩))
           go_roundg k2
           case measure => have := HJ2.out; have := HK2.out; omega
           case rel => exact ⟨(wrap64 (x19_2 + 1)), tf_, H', ⟨by have := HJ2.out; have := HK2.out; omega⟩, dr_⟩
          ·
           replace c12 := Bool.eq_false_iff.mpr c12
           subst c12
           have H1 : (some (false, false)) = some (r1, r2) := by rw [if_neg (show ¬ (false = true) by decide)] at H; exact H
           clear H
           have H := H1
           clear H1
           simp only [Option.some.injEq, Prod.mk.injEq] at H
           obtain ⟨rfl, rfl⟩ := H
           have p987 : 0 ≤ (x19_2 : Int) := od_
           have q987 : x19_2 < (l1.length : Int) := od_
           obtain ⟨ad987, A987_0, c987_0, e987, hx987_0, hl987_0, hi987_0⟩ := at_L1 HR1.out x19_2 p987 q987
           cases e987
           have HR987_0 := A_ hi987_0
           have HC987_0 := A_ hl987_0
           clear hi987_0 hl987_0
           replace p987 := eq_true p987
           replace q987 := eq_true q987
           go_wp2_with (first | (go_at_call 126; (with_reducible refine (spec_l1All.calls k2 _ _ (rd_L1 l1 x19_2) 0 (wrap64 (a0 - 1)) false _ ?side1 ?side2 A11.out).mono ?_); (case side1 => exact tc0_ HR987_0.out); (case side2 => exact HC987_0.out); rintro e w' ⟨rfl, ⟨nd, rfl⟩⟩))
           go_ret2
           exact ⟨tf_, dr_⟩
         ·
          rw [if_neg c10] at H
          have c10b0 : (((rd_L1 l1 x19_2).length : Int) == 2) = false := beq_eq_false_iff_ne.mpr c10
          have c10b1 : (((rd_L1 l1 x19_2).length : Int) != 2) = true := bne_iff_ne.mpr c10
          simp only [Option.some.injEq, Prod.mk.injEq] at H
          obtain ⟨rfl, rfl⟩ := H
          have p987 : 0 ≤ (x19_2 : Int) := od_
          have q987 : x19_2 < (l1.length : Int) := od_
          obtain ⟨ad987, A987_0, c987_0, e987, hx987_0, hl987_0, hi987_0⟩ := at_L1 HR1.out x19_2 p987 q987
          cases e987
          have HR987_0 := A_ hi987_0
          have HC987_0 := A_ hl987_0
          clear hi987_0 hl987_0
          replace p987 := eq_true p987
          replace q987 := eq_true q987
          go_wp2
          go_ret2
          exact ⟨tf_, dr_⟩
        ·
         rw [if_neg c9] at H
         exact absurd H (by simp)
       ·
        rw [if_neg c8] at H
        exact absurd H (by simp)
      ·
       rw [if_neg c7] at H
       have c7b0 := decide_eq_false c7
       clear c7
       replace H := Option.bind_eq_some_iff.mp H
       obtain ⟨t989, A130, H⟩ := H
       replace H : (some (t989, true)) = some (r1, r2) := H
       have A13 := A_ A130
       clear A130
       simp only [Option.some.injEq, Prod.mk.injEq] at H
       obtain ⟨rfl, rfl⟩ := H
       go_wp2_with (first | (refine gc_ 127 ?_; refine goesT_ (some 36) Try.func127 #[.int .i64 a0, .slice A1 l1.length c1] ?_; (with_reducible refine (spec_quWatched.calls k2 a0 _ _ l1 t989 _ ?side1 ?side2 A13.out).mono ?_); (case side1 => exact tc0_ HR1.out); (case side2 => exact HC1.out); rintro e w' ⟨rfl, ⟨nd, rfl⟩⟩; refine ⟨_, rfl, ?_⟩))
       go_ret2
       exact ⟨tf_, dr_⟩

end
end Go.Proofs.Ythlcaikplebpmaa.P
