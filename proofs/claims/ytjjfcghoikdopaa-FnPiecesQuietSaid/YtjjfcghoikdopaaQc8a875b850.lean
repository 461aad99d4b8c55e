-- printed functions (wip/slim.py)
import Derived.Test.YtjjfcghoikdopaaPx0
import Derived.Test.YtjjfcghoikdopaaQbabc941b0f
import Derived.Test.YtjjfcghoikdopaaQ060f88e6f3
import Derived.Test.YtjjfcghoikdopaaQeddd385f8f
namespace Go.Proofs.Ytjjfcghoikdopaa.P
noncomputable section
set_option maxHeartbeats 8000000
set_option maxRecDepth 100000
open Go.RowKit Go.Proofs.YtjjfcghoikdopaaW.PrintWords Go.Proofs.YtjjfcghoikdopaaW.PrintLast Go.Proofs.YtjjfcghoikdopaaW.PrintMore
attribute [local go_sem] max2_int min2_int max_two min_two max_three min_three max_four min_four   -- for this text's walks alone
set_option linter.unusedVariables false
set_option linter.unusedSimpArgs false

/-! ### spec_l1Cur_pieces: function 75 -/
def spec_l1Cur_pieces.l1 (x : List Int) (q : List (List Int)) (kd : Int) : Nat → Int → Bool → Option Bool
  | 0, _, _ => none
  | k + 1, j, b => if j < (q.length : Int) then (if 0 ≤ j then (if b = true then ((spec_biDisturb.f x (rd_L2 q j) kd).bind fun t => spec_l1Cur_pieces.l1 x q kd k (wrap64 (j + 1)) (!t)) else spec_l1Cur_pieces.l1 x q kd k (wrap64 (j + 1)) false) else none) else some b
def spec_l1Cur_pieces.dec (s : List Int) (a b : Int) (qt : Bool) : Option (Bool × Int × Int) := (spec_l1Cur_one.f s a b 2).bind fun o => if o.1 = true then (if qt = true then some (true, o.2.1, o.2.2) else spec_l1Cur_one.f s o.2.1 o.2.2 12) else some (false, o.2.1, o.2.2)
def spec_l1Cur_pieces.l0 (all : List (List Int)) (kd : Int) (s : List Int) : Nat → Int → List (List Int) → Int → Int → Option (List (List Int) × Int × Int)
  | 0, _, _, _, _ => none
  | k + 1, i, q, a, b => if i < (all.length : Int) then (if 0 ≤ i then ((spec_l1Cur_pieces.l1 (rd_L2 all i) q kd k 0 true).bind fun qt => (spec_l1Cur_pieces.dec s a b qt).bind fun d => if d.1 = true then ((spec_l1Cur_pick.f s d.2.1 d.2.2 (wrap64 ((q.length : Int) + 1))).bind fun t => if 0 ≤ t.1 then (if t.1 ≤ (q.length : Int) then (if q.length < 1000000 then spec_l1Cur_pieces.l0 all kd s k (wrap64 (i + 1)) ((q.take t.1.toNat ++ [rd_L2 all i]) ++ q.drop t.1.toNat) t.2.1 t.2.2 else none) else none) else none) else spec_l1Cur_pieces.l0 all kd s k (wrap64 (i + 1)) q d.2.1 d.2.2) else none) else some (q, a, b)
def spec_l1Cur_pieces.fin (s : List Int) (q : List (List Int)) (a b : Int) : Option (List (List Int) × Int × Int) := (spec_l1Cur_pick.f s a b 10).bind fun t => if t.1 = 0 then ((spec_l1Cur_pick.f s t.2.1 t.2.2 7).bind fun x => (spec_l1Cur_pick.f s x.2.1 x.2.2 7).bind fun y => if q.length < 1000000 then some (q ++ [[wrap64 (x.1 - 1), wrap64 (y.1 - 1)]], y.2.1, y.2.2) else none) else if t.1 = 1 then (if q.length < 1000000 then some (q ++ [[1]], t.2.1, t.2.2) else none) else some (q, t.2.1, t.2.2)
def spec_l1Cur_pieces.f (k : Nat) (s : List Int) (a b kd : Int) : Option (Int × Int × List Int × List (List Int) × Int × Int) := (spec_l1Cur_board.f k s a b).bind fun B => (spec_boGood.f k B.1 B.2.1 B.2.2.1).bind fun g => if g = true then ((spec_boCells.f k B.1 B.2.1 B.2.2.1).bind fun all => (spec_l1Cur_pieces.l0 all kd s k 0 [] B.2.2.2.1 B.2.2.2.2).bind fun Q => (spec_l1Cur_pieces.fin s Q.1 Q.2.1 Q.2.2).bind fun T => some (B.1, B.2.1, B.2.2.1, T.1, T.2.1, T.2.2)) else some (B.1, B.2.1, B.2.2.1, [[0, 0]], B.2.2.2.1, B.2.2.2.2)
theorem spec_l1Cur_pieces.mono_1 (x : List Int) (q : List (List Int)) (kd : Int) : ∀ k j b, LeO (spec_l1Cur_pieces.l1 x q kd k j b) (spec_l1Cur_pieces.l1 x q kd (k + 1) j b)
  | 0, _, _ => fun r h => by simp [spec_l1Cur_pieces.l1] at h
  | k + 1, j, b => by
    unfold spec_l1Cur_pieces.l1
    refine LeO.ite ?_ (LeO.refl _)
    refine LeO.ite ?_ (LeO.refl _)
    exact LeO.ite (LeO.bind (LeO.refl _) (fun _ => spec_l1Cur_pieces.mono_1 x q kd k _ _)) (spec_l1Cur_pieces.mono_1 x q kd k _ _)
theorem spec_l1Cur_pieces.mono_0 (all : List (List Int)) (kd : Int) (s : List Int) : ∀ k i q a b, LeO (spec_l1Cur_pieces.l0 all kd s k i q a b) (spec_l1Cur_pieces.l0 all kd s (k + 1) i q a b)
  | 0, _, _, _, _ => fun r h => by simp [spec_l1Cur_pieces.l0] at h
  | k + 1, i, q, a, b => by
    unfold spec_l1Cur_pieces.l0
    refine LeO.ite ?_ (LeO.refl _)
    refine LeO.ite ?_ (LeO.refl _)
    refine LeO.bind (spec_l1Cur_pieces.mono_1 _ _ _ _ _ _) (fun _ => LeO.bind (LeO.refl _) (fun _ => LeO.ite ?_ (spec_l1Cur_pieces.mono_0 all kd s k _ _ _ _)))
    refine LeO.bind (LeO.refl _) (fun _ => LeO.ite ?_ (LeO.refl _))
    refine LeO.ite ?_ (LeO.refl _)
    exact LeO.ite (spec_l1Cur_pieces.mono_0 all kd s k _ _ _ _) (LeO.refl _)
theorem spec_l1Cur_pieces.mono (s : List Int) (a b kd : Int) (k : Nat) : LeO (spec_l1Cur_pieces.f k s a b kd) (spec_l1Cur_pieces.f (k + 1) s a b kd) := by
  unfold spec_l1Cur_pieces.f
  refine LeO.bind (spec_l1Cur_board.mono _ _ _ _) (fun B => LeO.bind (spec_boGood.mono _ _ _ _) (fun g => LeO.ite ?_ (LeO.refl _)))
  exact LeO.bind (spec_boCells.mono _ _ _ _) (fun all => LeO.bind (spec_l1Cur_pieces.mono_0 _ _ _ _ _ _ _ _) (fun Q => LeO.refl _))
theorem spec_l1Cur_pieces.keep3 {w X : World} {g gr : Nat} {u v z : Value} (h : KeepBut w X g none) (hg : w.heap.size ≤ gr) : KeepBut w (((X.setCell ⟨gr, 0, none⟩ u).setCell ⟨gr, 1, none⟩ v).setCell ⟨gr, 2, none⟩ z) g none := by
  refine ⟨by simpa [World.setCell] using h.1, fun i hi hn hr => ?_⟩
  have e : i ≠ gr := by omega
  exact (Below.heap_setCell _ ⟨gr, 2, none⟩ _ i e).trans ((Below.heap_setCell _ ⟨gr, 1, none⟩ _ i e).trans ((Below.heap_setCell _ ⟨gr, 0, none⟩ _ i e).trans (h.2 i hi hn hr)))
theorem spec_l1Cur_pieces.set3N {X : World} {n gr : Nat} {ok : Nat → Prop} {vv u v z : Value} {q : List (List Int)} (h : Kd.N (Kd.slice 3 (Kd.int .i64)) 24 X n ok vv q) (hok : ∀ k, ok k → k ≠ gr) : Kd.N (Kd.slice 3 (Kd.int .i64)) 24 (((X.setCell ⟨gr, 0, none⟩ u).setCell ⟨gr, 1, none⟩ v).setCell ⟨gr, 2, none⟩ z) n ok vv q := by
  refine Kd.N_step h (fun k hk _ => ?_)
  have e := hok k hk
  exact (Below.heap_setCell _ ⟨gr, 2, none⟩ _ k e).trans ((Below.heap_setCell _ ⟨gr, 1, none⟩ _ k e).trans (Below.heap_setCell _ ⟨gr, 0, none⟩ _ k e))
theorem spec_l1Cur_pieces.lone {W : World} {n : Nat} (h : n ≤ W.heap.size) : Kd.R (Kd.slice 3 (Kd.int .i64)) 24 ((W.alloc (.cells #[.int .i64 0, .int .i64 0] 3)).alloc (.cells #[.slice (some ⟨W.heap.size, 0, none⟩) 2 2] 24)) n (fun k => n ≤ k) (.slice (some ⟨W.heap.size + 1, 0, none⟩) 1 1) [[0, 0]] := by
  have h1 : Kd.R (Kd.int .i64) 3 (W.alloc (.cells #[.int .i64 0, .int .i64 0] 3)) n (fun k => n ≤ k ∧ k ≠ W.heap.size + 1) (.slice (some ⟨W.heap.size, 0, none⟩) 2 2) [0, 0] :=
    ⟨fun k hk => (by have : W.heap.size = k := by simpa [Value.ownBlock] using hk
                     omega), [.int .i64 0, .int .i64 0], (by have h_ := World.ownsRow_lit (base := n) (e := 3) (size := 1) W #[.int .i64 0, .int .i64 0] 2 h (by simp [maxLen]) (by simp); simp at h_; exact h_), Reps.one (show Kd.M (Kd.int .i64) _ _ _ 0 [.int .i64 0] from rfl) (Reps.one (show Kd.M (Kd.int .i64) _ _ _ 0 [.int .i64 0] from rfl) (Reps.none _ _))⟩
  have h2 := Kd.R_alloc h1 (.cells #[.slice (some ⟨W.heap.size, 0, none⟩) 2 2] 24)
  have hs : (W.alloc (.cells #[.int .i64 0, .int .i64 0] 3)).heap.size = W.heap.size + 1 := Array.size_push _
  refine ⟨fun k hk => ?_, [.slice (some ⟨W.heap.size, 0, none⟩) 2 2], ?_, ?_⟩
  · have : W.heap.size + 1 = k := by simpa [Value.ownBlock] using hk
    omega
  · have := World.ownsRow_lit (base := n) (e := 24) (size := 1) (W.alloc (.cells #[.int .i64 0, .int .i64 0] 3)) #[.slice (some ⟨W.heap.size, 0, none⟩) 2 2] 1 (by omega) (by simp [maxLen]) (by simp)
    rw [hs] at this
    simp at this
    exact this
  · refine ⟨rfl, fun j p hj => ?_⟩
    cases j with
    | succ j => simp at hj
    | zero =>
      obtain rfl := Option.some.inj hj
      exact ⟨_, rfl, Kd.R_mono h2 (fun k hk => ⟨hk.1, fun e => by simp [Value.ownBlock] at e; exact hk.2 e⟩)⟩
def spec_l1Cur_pieces.T17 : Bool × List (List Nat × List Nat) := (true, [([], []), ([], []), ([1], [1]), ([0, 2], [0, 2]), ([], []), ([], []), ([4, 5], [4, 5]), ([3, 6, 3], [3, 6]), ([7, 7, 0, 1, 2, 3, 4, 5, 6, 7], [4, 7])])
def spec_l1Cur_pieces.B17 : List Nat := [0, 0, 2, 7, 0, 0, 48, 127, 255]
theorem spec_l1Cur_pieces.tab17 : rtab .any (opsOf Try.f75 17) = spec_l1Cur_pieces.T17 := by kernel_rfl
theorem spec_l1Cur_pieces.bits17 : waitsOk spec_l1Cur_pieces.T17.2 spec_l1Cur_pieces.B17 = true := by kernel_rfl
theorem spec_l1Cur_pieces.row_at {w : World} {ok : Nat → Prop} {ad : Addr} {n ca base : Nat} {all : List (List Int)} (h : Kd.S (Kd.slice 3 (Kd.int .i64)) 24 w base ok (.slice (some ad) n ca) all) {i : Int} (h0 : 0 ≤ i) (h1 : i < n) {u : Value} (hu : w.cell? (ad.add i.toNat) = some u) : Kd.FK (Kd.slice 3 (Kd.int .i64)) w ok (all.getD i.toNat []) [u] := by
  obtain ⟨ad2, cc, e2, hcl, hfk, hcell⟩ := (Kd.F_rows (Kd.S_F h)).get_ ([] : List Int) i h0 h1
  obtain rfl := Option.some.inj e2
  have hcl1 : cc.length = 1 := hcl
  obtain ⟨u2, rfl⟩ := List.length_eq_one_iff.1 hcl1
  have e := hcell 0 u2 rfl
  rw [show i.toNat * (Kd.slice 3 (Kd.int .i64)).sz + 0 = i.toNat from by show i.toNat * 1 + 0 = _; omega, hu] at e
  obtain rfl := Option.some.inj e
  exact hfk
theorem spec_l1Cur_pieces.calls (k g : Nat) (s : List Int) (a b kd : Int) (r1 r2 : Int) (r3 : List Int) (r4 : List (List Int)) (r5 r6 : Int) (w0 w : World) (hI : IsS79 w0 w g s a b) (hB : Below w0.heap.size w0 w) (h : spec_l1Cur_pieces.f k s a b kd = some (r1, r2, r3, r4, r5, r6)) :
    Calls Try.prog 75 #[.pointer (some ⟨g, 0, none⟩), .int .i64 kd] w fun e w' => ∃ v2_ v3_ : Value, e = .returned (.tuple #[.agg #[.int .i64 r1, .int .i64 r2, v2_], v3_]) ∧ Kd.R (Kd.int .i64) 3 w' w.heap.size (fun _ => True) v2_ r3 ∧ Kd.V (Kd.slice 3 (Kd.int .i64)) 24 w' w.heap.size (fun k_ => w.heap.size ≤ k_ ∧ some k_ ≠ (v2_ : Value).ownBlock) v3_ r4 ∧ IsS79 w0 w' g s r5 r6 ∧ Below w0.heap.size w0 w' ∧ KeepBut w w' g none := by
  have hu26 := Try.underlying26
  unfold spec_l1Cur_pieces.f at h
  obtain ⟨⟨R, C, lb, a1, b1⟩, A1, h⟩ := Option.bind_eq_some_iff.mp h
  obtain ⟨gd, A2, h⟩ := Option.bind_eq_some_iff.mp h
  have A1 := A_ A1
  have A2 := A_ A2
  have HI := A_ hI
  have HB := A_ hB
  have H := A_ h
  clear hI hB h
  go_enter Try.func75, Try.ntmps75
  go_wp2_with (first | (refine gd_ 4 ?_; refine bx_ 4 #[.int .i64 0, .int .i64 0, .slice none 0 0] 26 ?_; intro gr hg w1 hbox hb; have BR := A_ hbox; have GR := A_ hg; have HB1 := A_ hb; clear hbox hb hg) | (refine gc_ 87 ?_; refine goesT_ (some 16) Try.func87 #[.pointer (some ⟨g, 0, none⟩)] ?_; (with_reducible refine (spec_l1Cur_board.calls k g s a b R C lb a1 b1 w0 _ (HI.out.below HB1.out) (below_then HB.out HB.out.size HB1.out) A1.out).mono ?_); rintro e w2 ⟨vb, rfl, hrb, hi, hb, hk⟩; obtain ⟨Ab, cb, eb⟩ := Kd.R_slice hrb; subst eb; refine ⟨_, rfl, ?_⟩; have HRB := A_ hrb; have HI2 := A_ hi; have HB2 := A_ hb; have HK2 := A_ hk; clear hrb hi hb hk) | fail)
  obtain ⟨w3, hw3⟩ : ∃ w3, w3 = w2.alloc (.cells #[.int .i64 R, .int .i64 C, .slice Ab lb.length cb] 26) := ⟨_, rfl⟩
  have hb3 : Below w2.heap.size w2 w3 := by rw [hw3]; exact below_alloc (Below.refl _ _) _
  have hbb : w3.heap[w2.heap.size]? = some (.cells #[.int .i64 R, .int .i64 C, .slice Ab lb.length cb] 26 (0, 0)) := by rw [hw3]; exact blk_new _ _
  rw [← hw3]
  clear hw3
  have hr3 := Kd.R_below HRB.out hb3
  refine (spec_boGood.calls k R C Ab cb lb gd w3 (Kd.R_reads' hr3).2.2 (Kd.R_reads' hr3).2.1 A2.out).mono ?_
  rintro e w4 ⟨rfl, hb4⟩
  have HR4 := A_ (Kd.R_below hr3 hb4)
  have BB4 := A_ (blk_below hbb hb4)
  have HB24 := A_ (below_then hb3 hb3.size hb4)
  have HI4 := A_ ((HI2.out.below hb3).below hb4)
  clear hb3 hbb hr3 hb4
  have h := H.out
  clear H
  dsimp only
  cases gd with
  | false =>
    rw [if_neg (by simp)] at h
    simp only [Option.some.injEq, Prod.mk.injEq] at h
    obtain ⟨rfl, rfl, rfl, rfl, rfl, rfl⟩ := h
    have hc0 := blk_cell BB4.out 0
    have hc1 := blk_cell BB4.out 1
    have hc2 := blk_cell BB4.out 2
    have BR4 := A_ (blk_below (KeepBut.blk HK2.out (g' := gr) BR.out (by have := HI.out.lt; have := GR.out; omega) (by simp)) HB24.out)
    obtain ⟨hz0, hz1, hz2, hf0, hf1, hf2⟩ := cf3_ (blk_alloc (blk_alloc BR4.out (.cells #[.int .i64 0, .int .i64 0] 3)) (.cells #[.slice (some ⟨w4.heap.size, 0, none⟩) 2 2] 24))
    go_wp2
    have hl := spec_l1Cur_pieces.lone (W := w4) (n := w4.heap.size) (Nat.le_refl _)
    have hrr := Kd.R_alloc (Kd.R_alloc HR4.out (.cells #[.int .i64 0, .int .i64 0] 3)) (.cells #[.slice (some ⟨w4.heap.size, 0, none⟩) 2 2] 24)
    have hbr := blk_alloc (blk_alloc BR4.out (.cells #[.int .i64 0, .int .i64 0] 3)) (.cells #[.slice (some ⟨w4.heap.size, 0, none⟩) 2 2] 24)
    have hbx := below_alloc (below_alloc HB24.out (.cells #[.int .i64 0, .int .i64 0] 3)) (.cells #[.slice (some ⟨w4.heap.size, 0, none⟩) 2 2] 24)
    have hii := (HI4.out.alloc (.cells #[.int .i64 0, .int .i64 0] 3)).alloc (.cells #[.slice (some ⟨w4.heap.size, 0, none⟩) 2 2] 24)
    generalize (w4.alloc (.cells #[.int .i64 0, .int .i64 0] 3)).alloc (.cells #[.slice (some ⟨w4.heap.size, 0, none⟩) 2 2] 24) = X at hl hrr hbr hbx hii ⊢
    refine bodyPost_ret (results_ct rfl _ _ gr 26 #[.int .i64 R, .int .i64 C, .slice Ab lb.length cb] (0, 0) _ rfl (by refine blk_put (cs := #[.int .i64 R, .int .i64 C, .slice none 0 0]) ?_ 2 _ rfl; refine blk_put (cs := #[.int .i64 R, .int .i64 0, .slice none 0 0]) ?_ 1 _ rfl; refine blk_put (cs := #[.int .i64 0, .int .i64 0, .slice none 0 0]) ?_ 0 _ rfl; exact hbr) Try.underlying26 rfl (by kernel_rfl)) rfl ?_
    have hgg : g ≠ gr := by have := HI.out.lt; have := GR.out; omega
    refine ⟨_, _, rfl, ?_, ?_, ?_, ?_, ?_⟩
    · exact Kd.R_mono (Kd.R_lower (Kd.R_far (p := ⟨gr, 2, none⟩) (Kd.R_far (p := ⟨gr, 1, none⟩) (Kd.R_far (p := ⟨gr, 0, none⟩) (Kd.R_types hrr hbr (by decide)) (fun _ hk => hk.2) _) (fun _ hk => hk.2) _) (fun _ hk => hk.2) _) HB1.out.size) (fun _ _ => trivial)
    · exact Kd.N_V (Kd.R_N (Kd.R_mono (Kd.R_far (p := ⟨gr, 2, none⟩) (Kd.R_far (p := ⟨gr, 1, none⟩) (Kd.R_far (p := ⟨gr, 0, none⟩) (Kd.R_types hl hbr (by decide)) (fun _ hk => hk.2) _) (fun _ hk => hk.2) _) (fun _ hk => hk.2) _) (fun k_ hk => ⟨by have := HB1.out.size; have := HK2.out.1; have := HB24.out.size; have := hk.1; omega, fun e_ => by have := Kd.R_lt HR4.out k_ e_.symm; have := hk.1; omega⟩)))
    · exact ((hii.far (p := ⟨gr, 0, none⟩) hgg _).far (p := ⟨gr, 1, none⟩) hgg _).far (p := ⟨gr, 2, none⟩) hgg _
    · have hbw : Below w0.heap.size w0 X := HB2.out.trans ⟨hbx.os, hbx.tape, hbx.output, hbx.size, fun k_ hk_ => hbx.block k_ (by have := HB2.out.size; omega)⟩
      have hge : w0.heap.size ≤ gr := by have := GR.out; have := HB.out.size; omega
      exact below_set (below_set (below_set hbw hge) hge) hge
    · have hkw : KeepBut w1 X g none := HK2.out.trans (KeepBut.of_below hbx g none) (.inl rfl)
      have hkk : KeepBut w X g none := (KeepBut.of_below HB1.out g none).trans hkw (.inl rfl)
      exact spec_l1Cur_pieces.keep3 hkk (by have := GR.out; omega)
  | true =>
    rw [if_pos rfl] at h
    obtain ⟨all, A3, h⟩ := Option.bind_eq_some_iff.mp h
    obtain ⟨⟨q1, a2, b2⟩, A4, h⟩ := Option.bind_eq_some_iff.mp h
    obtain ⟨⟨q2, a3, b3⟩, A5, h⟩ := Option.bind_eq_some_iff.mp h
    simp only [Option.some.injEq, Prod.mk.injEq] at h
    obtain ⟨rfl, rfl, rfl, rfl, rfl, rfl⟩ := h
    have A3 := A_ A3
    have A4 := A_ A4
    have A5 := A_ A5
    have hc0 := blk_cell BB4.out 0
    have hc1 := blk_cell BB4.out 1
    have hc2 := blk_cell BB4.out 2
    go_wp2_with (first | (refine gc_ 117 ?_; refine goesT_ (some 24) Try.func117 #[.agg #[.int .i64 R, .int .i64 C, .slice Ab lb.length cb]] ?_; (with_reducible refine (spec_boCells.calls k R C Ab cb lb all _ (Kd.R_reads' HR4.out).2.2 (Kd.R_reads' HR4.out).2.1 A3.out).mono ?_); rintro e w5 ⟨va, rfl, hs, hb⟩; obtain ⟨Aa, ca, ea⟩ := Kd.S_slice hs; subst ea; refine ⟨_, rfl, ?_⟩; have HS5 := A_ hs; have HB45 := A_ hb; clear hs hb) | fail)
    have HI5 := A_ (HI4.out.below HB45.out)
    have HB5 := A_ (HB2.out.trans ((show Below w0.heap.size w2 w4 from ⟨HB24.out.os, HB24.out.tape, HB24.out.output, HB24.out.size, fun k_ hk_ => HB24.out.block k_ (by have := HB2.out.size; omega)⟩).trans ⟨HB45.out.os, HB45.out.tape, HB45.out.output, HB45.out.size, fun k_ hk_ => HB45.out.block k_ (by have := HB2.out.size; have := HB24.out.size; omega)⟩))
    clear hc0 hc1 hc2
    go_loopg [7, 26] k (fun n v7 v26 W' => ∃ (q : List (List Int)) (i a b : Int), v26 = .int .i64 i ∧ Aside0 (Kd.N (Kd.slice 3 (Kd.int .i64)) 24 W' w.heap.size (fun k_ => w4.heap.size ≤ k_ ∧ k_ ≠ g ∧ k_ ≠ gr) v7 q) ∧ Aside0 (spec_l1Cur_pieces.l0 all kd s n i q a b = some (q1, a2, b2)) ∧ Aside0 (n ≤ k) ∧ Aside0 (IsS79 w0 W' g s a b) ∧ Aside0 (Below w0.heap.size w0 W') ∧ Aside0 (KeepBut w5 W' g none))
    case atStart => exact ⟨[], 0, a1, b1, rfl, ⟨Kd.N_nil _ _ _ _ _⟩, A4, ⟨Nat.le_refl _⟩, HI5, HB5, ⟨KeepBut.refl _ _ _⟩⟩
    case round =>
      obtain ⟨q, i, a7, b7, rfl, HN, HA, HK1, HI7, HB7, HK7⟩ := hrel
      cases gk with
      | zero => exact absurd HA.out (by simp [spec_l1Cur_pieces.l0])
      | succ k1 =>
      have h := HA.out
      clear HA
      simp only [spec_l1Cur_pieces.l0] at h
      by_cases c1 : i < (all.length : Int)
      case neg =>
        rw [if_neg c1] at h
        have c1b := decide_eq_false c1
        obtain ⟨rfl, rfl, rfl⟩ : q = q1 ∧ a7 = a2 ∧ b7 = b2 := by simpa using h
        clear h
        obtain ⟨Aq, cq, eq_⟩ := Kd.N_slice HN.out
        subst eq_
        have h5 := A5.out
        unfold spec_l1Cur_pieces.fin at h5
        obtain ⟨⟨t, a9, b9⟩, A9, h5⟩ := Option.bind_eq_some_iff.mp h5
        have A9 := A_ A9
        have BRX := A_ (KeepBut.blk HK7.out (blk_below (blk_below (KeepBut.blk HK2.out (g' := gr) BR.out (by have := HI.out.lt; have := GR.out; omega) (by simp)) HB24.out) HB45.out) (by have := HI.out.lt; have := GR.out; omega) (by simp))
        have BBX := A_ (KeepBut.blk HK7.out (blk_below BB4.out HB45.out) (by have := HI2.out.lt; omega) (by simp))
        have HRX := A_ (Kd.R_keep (HI5.out.apart (Kd.R_below HR4.out HB45.out) (by decide)) HK7.out (fun _ hk => hk.2))
        have QL := A_ (show q.length ≤ q.length from Nat.le_refl _)
        have HSZ := A_ (show w4.heap.size ≤ wr.heap.size ∧ gr < wr.heap.size ∧ g < wr.heap.size ∧ w.heap.size ≤ w4.heap.size from ⟨by have := HB45.out.size; have := HK7.out.1; omega, by have := blk_lt BR.out; have := HK2.out.1; have := HB24.out.size; have := HB45.out.size; have := HK7.out.1; omega, HI7.out.lt, by have := HB1.out.size; have := HK2.out.1; have := HB24.out.size; omega⟩)
        by_cases t0 : t = 0
        case pos =>
          subst t0
          rw [if_pos rfl] at h5
          obtain ⟨⟨x1, a10, b10⟩, A10, h5⟩ := Option.bind_eq_some_iff.mp h5
          obtain ⟨⟨y1, a11, b11⟩, A11, h5⟩ := Option.bind_eq_some_iff.mp h5
          have A10 := A_ A10
          have A11 := A_ A11
          by_cases d3_ : q.length < 1000000
          case neg => rw [if_neg d3_] at h5; exact absurd h5 (by simp)
          rw [if_pos d3_] at h5
          have QL := A_ d3_
          obtain ⟨rfl, rfl, rfl⟩ : q ++ [[wrap64 (x1 - 1), wrap64 (y1 - 1)]] = q2 ∧ a11 = a3 ∧ b11 = b3 := by simpa using h5
          clear h5
          obtain ⟨yr, hyr⟩ : ∃ yr : List Int, Aside0 (yr = [wrap64 (x1 - 1), wrap64 (y1 - 1)]) := ⟨_, ⟨rfl⟩⟩
          go_wp2_with (first | (refine gc_ 89 ?_; refine goesT_ (some 74) Try.func89 #[.pointer (some ⟨g, 0, none⟩), .int .i64 10] ?_; (with_reducible refine (spec_l1Cur_pick.calls g s a7 b7 10 _ a9 b9 w0 _ HI7.out HB7.out A9.out).mono ?_); rintro e w9 ⟨rfl, hi, hb, hk⟩; refine ⟨_, rfl, ?_⟩; have HIw9 := A_ hi; have HBw9 := A_ hb; have HKw9 := A_ hk; clear hi hb hk) | (refine gc_ 89 ?_; refine goesT_ (some 79) Try.func89 #[.pointer (some ⟨g, 0, none⟩), .int .i64 7] ?_; (with_reducible refine (spec_l1Cur_pick.calls g s a9 b9 7 _ a10 b10 w0 _ HIw9.out HBw9.out A10.out).mono ?_); rintro e w10 ⟨rfl, hi, hb, hk⟩; refine ⟨_, rfl, ?_⟩; have HIw10 := A_ hi; have HBw10 := A_ hb; have HKw10 := A_ hk; clear hi hb hk) | (refine gc_ 89 ?_; refine goesT_ (some 82) Try.func89 #[.pointer (some ⟨g, 0, none⟩), .int .i64 7] ?_; (with_reducible refine (spec_l1Cur_pick.calls g s a10 b10 7 _ a11 b11 w0 _ HIw10.out HBw10.out A11.out).mono ?_); rintro e w11 ⟨rfl, hi, hb, hk⟩; refine ⟨_, rfl, ?_⟩; have HIw11 := A_ hi; have HBw11 := A_ hb; have HKw11 := A_ hk; clear hi hb hk; have BRw11 := A_ (KeepBut.blk (HKw9.out.trans (HKw10.out.trans HKw11.out (.inl rfl)) (.inl rfl)) BRX.out (by have := HI.out.lt; have := GR.out; omega) (by simp)); have BBw11 := A_ (KeepBut.blk (HKw9.out.trans (HKw10.out.trans HKw11.out (.inl rfl)) (.inl rfl)) BBX.out (by have := HI2.out.lt; omega) (by simp))) | (refine gd_ 84 ?_; refine Kd.R_lit (Kd.int .i64) _ 3 ?hg (N := 84) ?hd (xs := ([wrap64 (x1 - 1), wrap64 (y1 - 1)] : List Int)) (inner := [.int .i64 (wrap64 (x1 - 1)), .int .i64 (wrap64 (y1 - 1))]) (ok := fun k_ => w11.heap.size ≤ k_) (okp := fun k_ => w11.heap.size ≤ k_) ?hr ?hp (fun _ hk => hk) (Nat.le_refl _) (Below.refl _ _) (Nat.le_refl _) (by simp) ?_; (case hd => rfl); (case hg => rfl); (case hr => first | (go_simp; done) | (go_simp; rfl)); (case hp => exact (Reps.one (show Kd.M (Kd.int .i64) _ _ _ (wrap64 (x1 - 1)) [.int .i64 (wrap64 (x1 - 1))] from rfl) (Reps.one (show Kd.M (Kd.int .i64) _ _ _ (wrap64 (y1 - 1)) [.int .i64 (wrap64 (y1 - 1))] from rfl) (Reps.none _ _)))); intro vr wl ho hb hg_ hnew_; clear hg_ hnew_; rw [← hyr.out] at ho; obtain ⟨Ar, cr, er⟩ := Kd.R_slice ho; subst er; have HLR := A_ ho; have HBl := A_ hb; clear ho hb; have HNl := A_ (Kd.N_below (Kd.N_step (w1 := w11) HN.out (fun k_ ho_ hl_ => (HKw9.out.trans (HKw10.out.trans HKw11.out (.inl rfl)) (.inl rfl)).2 k_ hl_ ho_.2.1 (by simp))) HBl.out); have HNlt := A_ (show ∀ k_, w11.heap.size ≤ k_ → (fun k_ => w4.heap.size ≤ k_ ∧ k_ ≠ g ∧ k_ ≠ gr) k_ ∧ some k_ ≠ (.slice Aq q.length cq : Value).ownBlock from fun k_ hk => ⟨⟨by have := HSZ.out; have := (HKw9.out.trans (HKw10.out.trans HKw11.out (.inl rfl)) (.inl rfl)).1; omega, by have := HSZ.out; have := (HKw9.out.trans (HKw10.out.trans HKw11.out (.inl rfl)) (.inl rfl)).1; omega, by have := HSZ.out; have := (HKw9.out.trans (HKw10.out.trans HKw11.out (.inl rfl)) (.inl rfl)).1; omega⟩, fun e => by have := Kd.N_lt (Kd.N_step (w1 := w11) HN.out (fun k_ ho_ hl_ => (HKw9.out.trans (HKw10.out.trans HKw11.out (.inl rfl)) (.inl rfl)).2 k_ hl_ ho_.2.1 (by simp))) k_ e.symm; omega⟩)) | ((with_reducible refine gate_builtin (b := .append) (xs := #[.tmp 77, .tmp 85]) rfl ?_); at_builtin; refine Kd.N_append (Kd.slice 3 (Kd.int .i64)) (w0 := wl) w.heap.size rfl (.tmp 77) (.tmp 85) 27 24 (.slice none 0 0) 24 rfl Try.underlying27 info24 rfl (by decide) (by omega) (.slice Aq q.length cq) q yr [.slice Ar yr.length cr] (fun k_ => w4.heap.size ≤ k_ ∧ k_ ≠ g ∧ k_ ≠ gr) (fun k_ => w11.heap.size ≤ k_) rfl rfl ?aP HNlt.out ?aF ?aO ?aB ?aS ?aL ?_; (case aP => exact Kd.FK_slice_mk (Kd.R_reads' HLR.out).2.1 (Kd.R_F HLR.out)); (case aF => exact (fun k_ hk => (HNlt.out k_ (Nat.le_trans HBl.out.size hk)).1)); (case aO => exact HNl.out); (case aB => exact Below.refl _ _); (case aS => have := HBl.out.size; have := HSZ.out; have := (HKw9.out.trans (HKw10.out.trans HKw11.out (.inl rfl)) (.inl rfl)).1; omega); (case aL => have := QL.out; omega); intro vv wv ho hb hg hat; have HNv := A_ ho; have HGv := A_ hg; clear ho hb hg hat; have BRv := A_ (blk_grown (blk_below BRw11.out HBl.out) HGv.out (Kd.N_away HNl.out (fun _ hk => hk.2.2))); have BBv := A_ (blk_grown (blk_below BBw11.out HBl.out) HGv.out (Kd.N_ne HNl.out (blk_below BBw11.out HBl.out) (by decide))); obtain ⟨hz0, hz1, hz2, hf0, hf1, hf2⟩ := cf3_ BRv.out; obtain ⟨hy0, hy1, hy2, hg0, hg1, hg2⟩ := cf3_ BBv.out) | fail)
          obtain ⟨_, rowsq, _, hraw, _⟩ := HNl.out
          have hrv := Kd.R_over (Kd.R_below (Kd.R_keep HRX.out (HKw9.out.trans (HKw10.out.trans HKw11.out (.inl rfl)) (.inl rfl)) (fun _ hk => hk.2)) HBl.out) hraw (by decide) HGv.out
          have hiv := (HIw11.out.below HBl.out).grown HGv.out (Kd.N_away HNl.out (fun _ hk => hk.2.1))
          have hbase := Kd.N_base HNl.out
          have hbv := (below_then HBw11.out HBw11.out.size HBl.out).grown HGv.out (by have := (below_then HBw11.out HBw11.out.size HBl.out).size; omega) (fun k_ e => by have := hbase k_ e; have := HB.out.size; omega)
          have hk5 : KeepBut w w5 g none := (KeepBut.of_below HB1.out g none).trans ((HK2.out.trans (KeepBut.of_below HB24.out g none) (.inl rfl)).trans (KeepBut.of_below HB45.out g none) (.inl rfl)) (.inl rfl)
          have hkv : KeepBut w wv g none := (hk5.trans (HK7.out.trans ((HKw9.out.trans (HKw10.out.trans HKw11.out (.inl rfl)) (.inl rfl)).trans (KeepBut.of_below HBl.out g none) (.inl rfl)) (.inl rfl)) (.inl rfl)).trans (KeepBut.of_grown HGv.out g) (by
            rcases Kd.N_base2 HNl.out with e | ⟨b, e, hb⟩
            · exact .inl e
            · exact .inr ⟨b, e, hb⟩)
          have hnv := HNv.out
          rw [hyr.out] at hnv
          have hgg : g ≠ gr := by have := HI.out.lt; have := GR.out; omega
          refine bodyPost_ret (results_ct rfl _ _ gr 26 #[.int .i64 R, .int .i64 C, .slice Ab lb.length cb] (0, 0) _ rfl (by refine blk_put (cs := #[.int .i64 R, .int .i64 C, .slice none 0 0]) ?_ 2 _ rfl; refine blk_put (cs := #[.int .i64 R, .int .i64 0, .slice none 0 0]) ?_ 1 _ rfl; refine blk_put (cs := #[.int .i64 0, .int .i64 0, .slice none 0 0]) ?_ 0 _ rfl; exact BRv.out) Try.underlying26 rfl (by kernel_rfl)) rfl ?_
          have hge : w0.heap.size ≤ gr := by have := GR.out; have := HB.out.size; omega
          refine ⟨_, _, rfl, ?_, ?_, ?_, ?_, ?_⟩
          · exact Kd.R_mono (Kd.R_lower (Kd.R_far (p := ⟨gr, 2, none⟩) (Kd.R_far (p := ⟨gr, 1, none⟩) (Kd.R_far (p := ⟨gr, 0, none⟩) (Kd.R_types hrv BRv.out (by decide)) (fun _ hk => hk.2) _) (fun _ hk => hk.2) _) (fun _ hk => hk.2) _) HB1.out.size) (fun _ _ => trivial)
          · exact Kd.N_V (Kd.N_mono (spec_l1Cur_pieces.set3N hnv (fun _ hk => hk.2.2)) (fun k_ hk => ⟨by have := HSZ.out; have := hk.1; omega, fun e_ => by have := Kd.R_lt HR4.out k_ e_.symm; have := hk.1; omega⟩))
          · exact ((hiv.far (p := ⟨gr, 0, none⟩) hgg _).far (p := ⟨gr, 1, none⟩) hgg _).far (p := ⟨gr, 2, none⟩) hgg _
          · exact below_set (below_set (below_set hbv hge) hge) hge
          · exact spec_l1Cur_pieces.keep3 hkv (by have := GR.out; omega)
        by_cases t1 : t = 1
        case pos =>
          subst t1
          rw [if_neg t0, if_pos rfl] at h5
          by_cases d3_ : q.length < 1000000
          case neg => rw [if_neg d3_] at h5; exact absurd h5 (by simp)
          rw [if_pos d3_] at h5
          have QL := A_ d3_
          obtain ⟨rfl, rfl, rfl⟩ : q ++ [[1]] = q2 ∧ a9 = a3 ∧ b9 = b3 := by simpa using h5
          clear h5
          obtain ⟨yr, hyr⟩ : ∃ yr : List Int, Aside0 (yr = [1]) := ⟨_, ⟨rfl⟩⟩
          go_wp2_with (first | (refine gc_ 89 ?_; refine goesT_ (some 74) Try.func89 #[.pointer (some ⟨g, 0, none⟩), .int .i64 10] ?_; (with_reducible refine (spec_l1Cur_pick.calls g s a7 b7 10 _ a9 b9 w0 _ HI7.out HB7.out A9.out).mono ?_); rintro e w9 ⟨rfl, hi, hb, hk⟩; refine ⟨_, rfl, ?_⟩; have HIw9 := A_ hi; have HBw9 := A_ hb; have HKw9 := A_ hk; clear hi hb hk; have BRw9 := A_ (KeepBut.blk HKw9.out BRX.out (by have := HI.out.lt; have := GR.out; omega) (by simp)); have BBw9 := A_ (KeepBut.blk HKw9.out BBX.out (by have := HI2.out.lt; omega) (by simp))) | (refine gd_ 90 ?_; refine Kd.R_lit (Kd.int .i64) _ 3 ?hg (N := 90) ?hd (xs := ([1] : List Int)) (inner := [.int .i64 1]) (ok := fun k_ => w9.heap.size ≤ k_) (okp := fun k_ => w9.heap.size ≤ k_) ?hr ?hp (fun _ hk => hk) (Nat.le_refl _) (Below.refl _ _) (Nat.le_refl _) (by simp) ?_; (case hd => rfl); (case hg => rfl); (case hr => first | (go_simp; done) | (go_simp; rfl)); (case hp => exact (Reps.one (show Kd.M (Kd.int .i64) _ _ _ 1 [.int .i64 1] from rfl) (Reps.none _ _))); intro vr wl ho hb hg_ hnew_; clear hg_ hnew_; rw [← hyr.out] at ho; obtain ⟨Ar, cr, er⟩ := Kd.R_slice ho; subst er; have HLR := A_ ho; have HBl := A_ hb; clear ho hb; have HNl := A_ (Kd.N_below (Kd.N_step (w1 := w9) HN.out (fun k_ ho_ hl_ => HKw9.out.2 k_ hl_ ho_.2.1 (by simp))) HBl.out); have HNlt := A_ (show ∀ k_, w9.heap.size ≤ k_ → (fun k_ => w4.heap.size ≤ k_ ∧ k_ ≠ g ∧ k_ ≠ gr) k_ ∧ some k_ ≠ (.slice Aq q.length cq : Value).ownBlock from fun k_ hk => ⟨⟨by have := HSZ.out; have := HKw9.out.1; omega, by have := HSZ.out; have := HKw9.out.1; omega, by have := HSZ.out; have := HKw9.out.1; omega⟩, fun e => by have := Kd.N_lt (Kd.N_step (w1 := w9) HN.out (fun k_ ho_ hl_ => HKw9.out.2 k_ hl_ ho_.2.1 (by simp))) k_ e.symm; omega⟩)) | ((with_reducible refine gate_builtin (b := .append) (xs := #[.tmp 89, .tmp 91]) rfl ?_); at_builtin; refine Kd.N_append (Kd.slice 3 (Kd.int .i64)) (w0 := wl) w.heap.size rfl (.tmp 89) (.tmp 91) 27 24 (.slice none 0 0) 24 rfl Try.underlying27 info24 rfl (by decide) (by omega) (.slice Aq q.length cq) q yr [.slice Ar yr.length cr] (fun k_ => w4.heap.size ≤ k_ ∧ k_ ≠ g ∧ k_ ≠ gr) (fun k_ => w9.heap.size ≤ k_) rfl rfl ?aP HNlt.out ?aF ?aO ?aB ?aS ?aL ?_; (case aP => exact Kd.FK_slice_mk (Kd.R_reads' HLR.out).2.1 (Kd.R_F HLR.out)); (case aF => exact (fun k_ hk => (HNlt.out k_ (Nat.le_trans HBl.out.size hk)).1)); (case aO => exact HNl.out); (case aB => exact Below.refl _ _); (case aS => have := HBl.out.size; have := HSZ.out; have := HKw9.out.1; omega); (case aL => have := QL.out; omega); intro vv wv ho hb hg hat; have HNv := A_ ho; have HGv := A_ hg; clear ho hb hg hat; have BRv := A_ (blk_grown (blk_below BRw9.out HBl.out) HGv.out (Kd.N_away HNl.out (fun _ hk => hk.2.2))); have BBv := A_ (blk_grown (blk_below BBw9.out HBl.out) HGv.out (Kd.N_ne HNl.out (blk_below BBw9.out HBl.out) (by decide))); obtain ⟨hz0, hz1, hz2, hf0, hf1, hf2⟩ := cf3_ BRv.out; obtain ⟨hy0, hy1, hy2, hg0, hg1, hg2⟩ := cf3_ BBv.out) | fail)
          obtain ⟨_, rowsq, _, hraw, _⟩ := HNl.out
          have hrv := Kd.R_over (Kd.R_below (Kd.R_keep HRX.out HKw9.out (fun _ hk => hk.2)) HBl.out) hraw (by decide) HGv.out
          have hiv := (HIw9.out.below HBl.out).grown HGv.out (Kd.N_away HNl.out (fun _ hk => hk.2.1))
          have hbase := Kd.N_base HNl.out
          have hbv := (below_then HBw9.out HBw9.out.size HBl.out).grown HGv.out (by have := (below_then HBw9.out HBw9.out.size HBl.out).size; omega) (fun k_ e => by have := hbase k_ e; have := HB.out.size; omega)
          have hk5 : KeepBut w w5 g none := (KeepBut.of_below HB1.out g none).trans ((HK2.out.trans (KeepBut.of_below HB24.out g none) (.inl rfl)).trans (KeepBut.of_below HB45.out g none) (.inl rfl)) (.inl rfl)
          have hkv : KeepBut w wv g none := (hk5.trans (HK7.out.trans (HKw9.out.trans (KeepBut.of_below HBl.out g none) (.inl rfl)) (.inl rfl)) (.inl rfl)).trans (KeepBut.of_grown HGv.out g) (by
            rcases Kd.N_base2 HNl.out with e | ⟨b, e, hb⟩
            · exact .inl e
            · exact .inr ⟨b, e, hb⟩)
          have hnv := HNv.out
          rw [hyr.out] at hnv
          have hgg : g ≠ gr := by have := HI.out.lt; have := GR.out; omega
          refine bodyPost_ret (results_ct rfl _ _ gr 26 #[.int .i64 R, .int .i64 C, .slice Ab lb.length cb] (0, 0) _ rfl (by refine blk_put (cs := #[.int .i64 R, .int .i64 C, .slice none 0 0]) ?_ 2 _ rfl; refine blk_put (cs := #[.int .i64 R, .int .i64 0, .slice none 0 0]) ?_ 1 _ rfl; refine blk_put (cs := #[.int .i64 0, .int .i64 0, .slice none 0 0]) ?_ 0 _ rfl; exact BRv.out) Try.underlying26 rfl (by kernel_rfl)) rfl ?_
          have hge : w0.heap.size ≤ gr := by have := GR.out; have := HB.out.size; omega
          refine ⟨_, _, rfl, ?_, ?_, ?_, ?_, ?_⟩
          · exact Kd.R_mono (Kd.R_lower (Kd.R_far (p := ⟨gr, 2, none⟩) (Kd.R_far (p := ⟨gr, 1, none⟩) (Kd.R_far (p := ⟨gr, 0, none⟩) (Kd.R_types hrv BRv.out (by decide)) (fun _ hk => hk.2) _) (fun _ hk => hk.2) _) (fun _ hk => hk.2) _) HB1.out.size) (fun _ _ => trivial)
          · exact Kd.N_V (Kd.N_mono (spec_l1Cur_pieces.set3N hnv (fun _ hk => hk.2.2)) (fun k_ hk => ⟨by have := HSZ.out; have := hk.1; omega, fun e_ => by have := Kd.R_lt HR4.out k_ e_.symm; have := hk.1; omega⟩))
          · exact ((hiv.far (p := ⟨gr, 0, none⟩) hgg _).far (p := ⟨gr, 1, none⟩) hgg _).far (p := ⟨gr, 2, none⟩) hgg _
          · exact below_set (below_set (below_set hbv hge) hge) hge
          · exact spec_l1Cur_pieces.keep3 hkv (by have := GR.out; omega)
        rw [if_neg t0, if_neg t1] at h5
        obtain ⟨rfl, rfl, rfl⟩ : q = q2 ∧ a9 = a3 ∧ b9 = b3 := by simpa using h5
        clear h5
        have t0b : (t == 0) = false := beq_eq_false_iff_ne.mpr t0
        have t1b : (t == 1) = false := beq_eq_false_iff_ne.mpr t1
        go_wp2_with (first | (refine gc_ 89 ?_; refine goesT_ (some 74) Try.func89 #[.pointer (some ⟨g, 0, none⟩), .int .i64 10] ?_; (with_reducible refine (spec_l1Cur_pick.calls g s a7 b7 10 t a9 b9 w0 _ HI7.out HB7.out A9.out).mono ?_); rintro e w9 ⟨rfl, hi, hb, hk⟩; refine ⟨_, rfl, ?_⟩; have HI9 := A_ hi; have HB9 := A_ hb; have HK9 := A_ hk; have BR9 := A_ (KeepBut.blk hk BRX.out (by have := HI.out.lt; have := GR.out; omega) (by simp)); have BB9 := A_ (KeepBut.blk hk BBX.out (by have := HI2.out.lt; omega) (by simp)); clear hi hb hk; obtain ⟨hz0, hz1, hz2, hf0, hf1, hf2⟩ := cf3_ BR9.out; obtain ⟨hy0, hy1, hy2, hg0, hg1, hg2⟩ := cf3_ BB9.out) | fail)
        have hn9 := Kd.N_step (w1 := w9) HN.out (fun k_ ho_ hl_ => HK9.out.2 k_ hl_ ho_.2.1 (by simp))
        have hr9 := Kd.R_keep HRX.out HK9.out (fun _ hk => hk.2)
        have hgg : g ≠ gr := by have := HI.out.lt; have := GR.out; omega
        refine bodyPost_ret (results_ct rfl _ _ gr 26 #[.int .i64 R, .int .i64 C, .slice Ab lb.length cb] (0, 0) _ rfl (by refine blk_put (cs := #[.int .i64 R, .int .i64 C, .slice none 0 0]) ?_ 2 _ rfl; refine blk_put (cs := #[.int .i64 R, .int .i64 0, .slice none 0 0]) ?_ 1 _ rfl; refine blk_put (cs := #[.int .i64 0, .int .i64 0, .slice none 0 0]) ?_ 0 _ rfl; exact BR9.out) Try.underlying26 rfl (by kernel_rfl)) rfl ?_
        have hge : w0.heap.size ≤ gr := by have := GR.out; have := HB.out.size; omega
        refine ⟨_, _, rfl, ?_, ?_, ?_, ?_, ?_⟩
        · exact Kd.R_mono (Kd.R_lower (Kd.R_far (p := ⟨gr, 2, none⟩) (Kd.R_far (p := ⟨gr, 1, none⟩) (Kd.R_far (p := ⟨gr, 0, none⟩) (Kd.R_types hr9 BR9.out (by decide)) (fun _ hk => hk.2) _) (fun _ hk => hk.2) _) (fun _ hk => hk.2) _) HB1.out.size) (fun _ _ => trivial)
        · exact Kd.N_V (Kd.N_mono (spec_l1Cur_pieces.set3N hn9 (fun _ hk => hk.2.2)) (fun k_ hk => ⟨by have := HB1.out.size; have := HK2.out.1; have := HB24.out.size; have := hk.1; omega, fun e_ => by have := Kd.R_lt HR4.out k_ e_.symm; have := hk.1; omega⟩))
        · exact ((HI9.out.far (p := ⟨gr, 0, none⟩) hgg _).far (p := ⟨gr, 1, none⟩) hgg _).far (p := ⟨gr, 2, none⟩) hgg _
        · exact below_set (below_set (below_set HB9.out hge) hge) hge
        · have hk5 : KeepBut w w5 g none := (KeepBut.of_below HB1.out g none).trans ((HK2.out.trans (KeepBut.of_below HB24.out g none) (.inl rfl)).trans (KeepBut.of_below HB45.out g none) (.inl rfl)) (.inl rfl)
          exact spec_l1Cur_pieces.keep3 (hk5.trans (HK7.out.trans HK9.out (.inl rfl)) (.inl rfl)) (by have := GR.out; omega)
      rw [if_pos c1] at h
      by_cases c2 : 0 ≤ i
      case neg => rw [if_neg c2] at h; exact absurd h (by simp)
      rw [if_pos c2] at h
      obtain ⟨qt, A6, h⟩ := Option.bind_eq_some_iff.mp h
      obtain ⟨⟨d1, a8, b8⟩, A7, h⟩ := Option.bind_eq_some_iff.mp h
      have A6 := A_ A6
      have A7 := A_ A7
      have H := A_ h
      clear h
      have c1b := decide_eq_true c1
      have hS7 := Kd.S_keep (Kd.S_mono (ok' := fun k_ => (w4.heap.size ≤ k_ ∧ k_ < w5.heap.size) ∧ k_ ≠ g) (Kd.S_bound (HI5.out.apartS HS5.out (by decide))) (fun k_ hk => ⟨⟨hk.2.1, hk.2.2.1⟩, hk.1.2⟩)) HK7.out (fun _ hk => hk.2)
      obtain ⟨ad, Ax, cx, e, hx0, hlx, hix⟩ := at_L2 (Kd.S_reads' hS7).2.2 i c2 c1
      cases e
      have FX := A_ (spec_l1Cur_pieces.row_at hS7 c2 c1 hx0)
      have HS7 := A_ hS7
      have HX := A_ hix
      have HLX := A_ hlx
      clear hS7 hix hlx
      obtain ⟨x, hx⟩ : ∃ x, x = rd_L2 all i := ⟨_, rfl⟩
      rw [show all.getD i.toNat [] = rd_L2 all i from rfl] at FX
      rw [← hx] at hx0 HX HLX A6 FX
      have HXE := A_ hx
      clear hx
      have p3 := eq_true c2
      have p4 := eq_true c1
      obtain ⟨Aq, cq, eq_⟩ := Kd.N_slice HN.out
      subst eq_
      go_wp2
      have HSZ0 := A_ (show w.heap.size ≤ w4.heap.size ∧ gr < w4.heap.size from ⟨by have := HB1.out.size; have := HK2.out.1; have := HB24.out.size; omega, by have := blk_lt BR.out; have := HK2.out.1; have := HB24.out.size; omega⟩)
      go_loopg [10, 32] k1 (fun n v10 v32 W' => ∃ (bb : Bool) (j : Int), v10 = .bool bb ∧ v32 = .int .i64 j ∧ Aside0 (spec_l1Cur_pieces.l1 x q kd n j bb = some qt) ∧ Aside0 (n ≤ k1) ∧ Aside0 (Below wr.heap.size wr W'))
      case atStart => exact ⟨true, 0, rfl, rfl, A6, ⟨Nat.le_refl _⟩, ⟨Below.refl _ _⟩⟩
      case round =>
        clear A6 hx0
        obtain ⟨bb, j, rfl, rfl, HA, HK2, HW⟩ := hrel
        cases gk with
        | zero => exact absurd HA.out (by simp [spec_l1Cur_pieces.l1])
        | succ k2 =>
        have h := HA.out
        clear HA
        simp only [spec_l1Cur_pieces.l1] at h
        by_cases c5 : j < (q.length : Int)
        · rw [if_pos c5] at h
          by_cases c6 : 0 ≤ j
          case neg => rw [if_neg c6] at h; exact absurd h (by simp)
          rw [if_pos c6] at h
          have c5b := decide_eq_true c5
          obtain ⟨adq, Ay, cy, e, hy0, hly, hiy⟩ := at_L2 (Kd.N_reads' (Kd.N_below HN.out HW.out)).2.2 j c6 c5
          cases e
          obtain ⟨y, hy⟩ : ∃ y, y = rd_L2 q j := ⟨_, rfl⟩
          rw [← hy] at hy0 hly hiy h
          clear hy
          have p5 := eq_true c5
          have p6 := eq_true c6
          have HLY := A_ hly
          have HCY := A_ hiy
          have HCX := A_ (Kd.C_below HX.out HW.out)
          clear hly hiy c5 c6
          cases bb with
          | true =>
            rw [if_pos rfl] at h
            obtain ⟨t, A8, h⟩ := Option.bind_eq_some_iff.mp h
            have A8 := A_ A8
            have H8 := A_ h
            clear h
            go_wp2_with (first | (go_at_call 144; (with_reducible refine (spec_biDisturb.calls Ax cx x Ay cy y kd t _ HCX.out HLX.out HCY.out HLY.out A8.out).mono ?_); rintro e w8 ⟨rfl, hd⟩; have HW8 := A_ (below_then HW.out HW.out.size hd.below); clear hd))
            go_roundg k2
            case measure => have := HK2.out; omega
            case rel => exact ⟨!t, wrap64 (j + 1), tf_, tf_, H8, ⟨by have := HK2.out; omega⟩, HW8⟩
          | false =>
            rw [if_neg (by simp)] at h
            have H8 := A_ h
            clear h
            go_wp2
            go_roundg k2
            case measure => have := HK2.out; omega
            case rel => exact ⟨false, wrap64 (j + 1), tf_, tf_, H8, ⟨by have := HK2.out; omega⟩, HW⟩
        · rw [if_neg c5] at h
          have c5b := decide_eq_false c5
          obtain rfl := Option.some.inj h
          clear h c5
          have HNb := A_ (Kd.N_below HN.out HW.out)
          have HIb := A_ (HI7.out.below HW.out)
          have HBb := A_ (below_then HB7.out HB7.out.size HW.out)
          have HKb := A_ (HK7.out.trans (KeepBut.of_below HW.out g none) (.inl rfl))
          have FXb := A_ (Kd.FK_below FX.out HW.out)
          have HSZ := A_ (show w.heap.size ≤ w4.heap.size ∧ gr < w4.heap.size ∧ w5.heap.size ≤ wr.heap.size ∧ w4.heap.size ≤ w5.heap.size ∧ g < wr.heap.size ∧ w.heap.size ≤ gr from ⟨HSZ0.out.1, HSZ0.out.2, HKb.out.1, HB45.out.size, HIb.out.lt, by have := GR.out; omega⟩)
          have h7 := A7.out
          unfold spec_l1Cur_pieces.dec at h7
          obtain ⟨⟨o1, a9, b9⟩, A9, h7⟩ := Option.bind_eq_some_iff.mp h7
          have A9 := A_ A9
          try dsimp only at h7
          have h8 := H.out
          clear H HN HI7 HB7 HK7 HS7 HX HLX HW FX A7
          try dsimp only at h8
          cases o1 with
          | false =>
            rw [if_neg (by simp)] at h7
            obtain ⟨rfl, rfl, rfl⟩ : false = d1 ∧ a9 = a8 ∧ b9 = b8 := by simpa using h7
            rw [if_neg (by simp)] at h8
            have H8 := A_ h8
            clear h7 h8
            go_wp2_with (first | (refine gc_ 118 ?_; refine goesT_ (some 46) Try.func118 #[.pointer (some ⟨g, 0, none⟩), .int .i64 2] ?_; (with_reducible refine (spec_l1Cur_one.calls g s a7 b7 2 _ a9 b9 w0 _ HIb.out HBb.out A9.out).mono ?_); rintro e w9 ⟨rfl, hi, hb, hk⟩; refine ⟨_, rfl, ?_⟩; have HIw9 := A_ hi; have HBw9 := A_ hb; have HKw9 := A_ hk; clear hi hb hk) | fail)
            go_roundg k1
            case measure => have := HK1.out; omega
            case rel => exact ⟨q, wrap64 (i + 1), a9, b9, tf_, ⟨Kd.N_step (w1 := w9) HNb.out (fun k_ ho_ hl_ => HKw9.out.2 k_ hl_ ho_.2.1 (by simp))⟩, H8, ⟨by have := HK1.out; omega⟩, HIw9, HBw9, ⟨HKb.out.trans HKw9.out (.inl rfl)⟩⟩
          | true =>
            rw [if_pos rfl] at h7
            cases bb with
            | true =>
              rw [if_pos rfl] at h7
              obtain ⟨rfl, rfl, rfl⟩ : true = d1 ∧ a9 = a8 ∧ b9 = b8 := by simpa using h7
              rw [if_pos rfl] at h8
              clear h7
              obtain ⟨⟨t, ap, bp⟩, AP, h8⟩ := Option.bind_eq_some_iff.mp h8
              have AP := A_ AP
              try dsimp only at h8
              by_cases d1_ : 0 ≤ t
              case neg => rw [if_neg d1_] at h8; exact absurd h8 (by simp)
              rw [if_pos d1_] at h8
              by_cases d2_ : t ≤ (q.length : Int)
              case neg => rw [if_neg d2_] at h8; exact absurd h8 (by simp)
              rw [if_pos d2_] at h8
              by_cases d3_ : q.length < 1000000
              case neg => rw [if_neg d3_] at h8; exact absurd h8 (by simp)
              rw [if_pos d3_] at h8
              rw [← HXE.out] at h8
              have H8 := A_ h8
              clear h8
              rw [show wrap64 ((q.length : Int) + 1) = (q.length : Int) + 1 from by unfold wrap64; omega] at AP
              have hin : t.toNat ≤ q.length := by omega
              have QH := A_ (show (q.take t.toNat).length ≤ q.length from by rw [List.length_take]; omega)
              have HTL := A_ (show (q.take t.toNat).length = t.toNat from by rw [List.length_take]; omega)
              have HDL := A_ (show (q.drop t.toNat).length = q.length - t.toNat from List.length_drop)
              go_wp2_with (first | (refine gc_ 118 ?_; refine goesT_ (some 46) Try.func118 #[.pointer (some ⟨g, 0, none⟩), .int .i64 2] ?_; (with_reducible refine (spec_l1Cur_one.calls g s a7 b7 2 _ a9 b9 w0 _ HIb.out HBb.out A9.out).mono ?_); rintro e w9 ⟨rfl, hi, hb, hk⟩; refine ⟨_, rfl, ?_⟩; have HIw9 := A_ hi; have HBw9 := A_ hb; have HKw9 := A_ hk; clear hi hb hk) | (refine gc_ 89 ?_; refine goesT_ (some 58) Try.func89 #[.pointer (some ⟨g, 0, none⟩), .int .i64 ((q.length : Int) + 1)] ?_; (with_reducible refine (spec_l1Cur_pick.calls g s a9 b9 (((q.length : Int) + 1)) t ap bp w0 _ HIw9.out HBw9.out AP.out).mono ?_); rintro e wp ⟨rfl, hi, hb, hk⟩; refine ⟨_, rfl, ?_⟩; have HIwp := A_ hi; have HBwp := A_ hb; have HKwp := A_ hk; clear hi hb hk; have HKp_ := A_ (HKw9.out.trans HKwp.out (.inl rfl)); have HNp := A_ (Kd.N_bound (Kd.N_step (w1 := wp) HNb.out (fun k_ ho_ hl_ => HKp_.out.2 k_ hl_ ho_.2.1 (by simp)))); have FXp := A_ (Kd.FK_mono (ok' := fun k_ => (fun k_ => w4.heap.size ≤ k_ ∧ k_ ≠ g ∧ k_ ≠ gr) k_ ∧ k_ < wp.heap.size) (Kd.FK_step (W1 := wp) FXb.out (fun k_ ho_ hl_ => HKp_.out.2 k_ hl_ ho_.2 (by simp))) (fun k_ hk => ⟨⟨by have := hk.1.1; have := HSZ.out; omega, hk.2, by have := hk.1.1; have := HSZ.out; omega⟩, by have := hk.1.2; have := HSZ.out; have := HKp_.out.1; omega⟩)); have FR := A_ (show ∀ k_, wp.heap.size ≤ k_ → (fun k_ => w4.heap.size ≤ k_ ∧ k_ ≠ g ∧ k_ ≠ gr) k_ from fun k_ hk => ⟨by have := HSZ.out; have := HKp_.out.1; omega, by have := HSZ.out; have := HKp_.out.1; omega, by have := HSZ.out; have := HKp_.out.1; omega⟩)) | (refine gd_ 59 ?_; refine Kd.N_lit (Kd.slice 3 (Kd.int .i64)) _ 24 ?hg (N' := 59) ?hd (xs := ([] : List (List Int))) (inner := []) (ok := (fun k_ => w4.heap.size ≤ k_ ∧ k_ ≠ g ∧ k_ ≠ gr)) (okp := (fun k_ => w4.heap.size ≤ k_ ∧ k_ ≠ g ∧ k_ ≠ gr)) ?hr ?hp (fun _ hk => hk) (FR.out _ (Nat.le_refl _)) (Below.refl _ _) (Nat.le_refl _) (by simp) ?_; (case hd => rfl); (case hg => rfl); (case hr => first | (go_simp; done) | (go_simp; rfl)); (case hp => exact (Reps.none _ _)); intro v1 wl ho hb hg_ hnew_; have HV1 := A_ ho; have HBl := A_ hb; clear ho hb hg_ hnew_; have q24 : (t : Int) ≤ ((q.length : Int) : Int) := d2_; obtain ⟨i024, hi024, _, hsz24, _⟩ := info_parts info24; have hroom24 : q.length ≤ cq := (Kd.N_reads' HNp.out).2.1; have hcut24 := cut_to (P := Try.prog) 27 24 .i64 Try.underlying27 hi024 Aq q.length cq t d1_ q24 hroom24; have HFq := A_ (Kd.F_take (m := t.toNat) (Kd.F_below (Kd.N_F HNp.out) HBl.out) hin); clear hi024 hsz24 hroom24; replace q24 := eq_true q24) | ((with_reducible refine gate_builtin (b := .append) (xs := #[.tmp 59, .tmp 62]) rfl ?_); at_builtin; refine Kd.N_append_rows (Kd.slice 3 (Kd.int .i64)) (w0 := wp) wp.heap.size rfl (.tmp 59) (.tmp 62) 27 24 (.slice none 0 0) 24 rfl Try.underlying27 info24 rfl (by decide) (by omega) v1 ([] : List (List Int)) (q.take t.toNat) _ _ _ (fun k_ => w4.heap.size ≤ k_ ∧ k_ ≠ g ∧ k_ ≠ gr) (fun k_ => (fun k_ => w4.heap.size ≤ k_ ∧ k_ ≠ g ∧ k_ ≠ gr) k_ ∧ k_ < wp.heap.size) rfl rfl ?aO ?aR (fun k_ hk => ⟨hk.1, fun e => by have := Kd.N_base HV1.out k_ e.symm; have := hk.2; omega⟩) ?aF ?aB ?aS ?aL ?_; (case aR => have h_ := HFq.out; rw [HTL.out] at h_; exact h_); (case aB => exact HBl.out); (case aF => exact (fun k_ hk => FR.out k_ (Nat.le_trans HBl.out.size hk))); (case aO => exact HV1.out); (case aS => exact HBl.out.size); (case aL => have := QH.out; have := HTL.out; simp only [List.length_nil]; omega); intro v2 wa ho hb hg hat; have HV2 := A_ ho; have HBa := A_ hb; clear ho hb hg hat HV1 HFq HBl) | fail)
              have HV2d := A_ (Kd.N_drew HV2.out)
              have HBd := A_ (below_drew1 HBa.out)
              clear HV2 HBa
              have q27 : (t : Int) ≤ ((q.length : Int) : Int) := d2_
              obtain ⟨i027, hi027, _, hsz27, _⟩ := info_parts info24
              have hroom27 : q.length ≤ cq := (Kd.N_reads' HNp.out).2.1
              have q027 : (0 : Int) ≤ (t : Int) := d1_
              have hcut27 := cut_from (P := Try.prog) 27 24 .i64 Try.underlying27 hi027 1 hsz27 Aq q.length cq t q027 q27
              obtain ⟨A27, hA27⟩ : ∃ A1, A1 = (if cq = t.toNat then Aq else (Aq : Option Addr).map (·.add (t.toNat * 1))) := ⟨_, rfl⟩
              obtain ⟨c27, hc27⟩ : ∃ c1, c1 = cq - t.toNat := ⟨_, rfl⟩
              rw [← HDL.out, ← hA27, ← hc27] at hcut27
              have HF27 := A_ (show Kd.F (Kd.slice 3 (Kd.int .i64)) wp _ A27 (q.drop t.toNat).length (q.drop t.toNat) from by rw [hA27]; exact Kd.F_cut (m := t.toNat) (c := cq) (Kd.N_F HNp.out) hin hroom27)
              clear hroom27 hi027 hsz27 hc27 hA27
              replace q27 := eq_true q27
              obtain ⟨yd, hyd⟩ : ∃ yd, yd = q.drop t.toNat := ⟨_, rfl⟩
              obtain ⟨yt, hyt⟩ : ∃ yt, yt = q.take t.toNat := ⟨_, rfl⟩
              rw [← hyd] at hcut27 HF27 HDL H8
              rw [← hyt] at HV2d QH HTL H8
              clear hyd hyt
              simp only [List.nil_append] at HV2d
              refine start_ (n := 9) (S := fun w' => True) (ds := []) (Fn.bl 9 0) (by kernel_rfl) rfl rfl trivial (fun hHeld => ?_); refine with_tabW spec_l1Cur_pieces.tab17 spec_l1Cur_pieces.bits17 (fun HT_ HW_ => ?_)
              generalize wa.drew = w26 at HV2d HBd hHeld ⊢
              refine pq_ 0 (some 64) (Fn.bl 9 1) HT_.out ?_
              refine pq_ 1 (some 65) (Fn.bl 9 3) HT_.out ?_
              refine pq_ 4 (some 68) (Fn.bl 9 19) HT_.out ?_
              refine pq_ 5 (some 69) (Fn.bl 9 51) HT_.out ?_
              refine pq_ 6 (some 70) (Fn.bl 9 115) HT_.out ?_
              refine one_ (i := 2) (N := some 66) (Fn.bl 9 119) rfl rfl (one_of HT_.out (by kernel_rfl)) (by decide) (fun K hK => ?_)
              refine value_ (w1 := ?_) (v := ?_) (by rfl) rfl ?_ ?_
              rotate_left 2
              ·
               go_simp
               constructor
               ·
                rfl
               ·
                rfl
              refine hK.out _ _ trivial (fun hHeld => ?_)
              clear hK K
              refine norm_ (a' := ?_) ?_ ?_
              rotate_left
              ·
               show Act.put _ (some 66) _ = _
               simp only [Act.put, List.setIfInBounds_toArray, List.set_cons_zero, List.set_cons_succ, i64_w, i32_w]
               rfl
              refine one_ (i := 3) (N := some 67) (Fn.bl 9 127) rfl rfl (one_of HT_.out (by kernel_rfl)) (by decide) (fun K hK => ?_)
              refine Kd.N_append_step (Kd.slice 3 (Kd.int .i64)) (w0 := wp) wp.heap.size (by rfl) (.tmp 64) (.tmp 66) 27 24 (.slice none 0 0) 24 rfl Try.underlying27 info24 rfl (by decide) (by omega) v2 yt x [.slice Ax x.length cx] (fun k_ => w4.heap.size ≤ k_ ∧ k_ ≠ g ∧ k_ ≠ gr) (fun k_ => (fun k_ => w4.heap.size ≤ k_ ∧ k_ ≠ g ∧ k_ ≠ gr) k_ ∧ k_ < wp.heap.size) rfl rfl ?aP (fun k_ hk => ⟨hk.1, fun e => by have := Kd.N_base HV2d.out k_ e.symm; have := hk.2; omega⟩) ?aF ?aO ?aB ?aS ?aL ?_
              (case aP => exact Kd.FK_below FXp.out HBd.out)
              (case aB => exact HBd.out)
              (case aF => exact (fun k_ hk => FR.out k_ (Nat.le_trans HBd.out.size hk)))
              (case aO => exact HV2d.out)
              (case aS => exact HBd.out.size)
              (case aL => have := QH.out; omega)
              intro v3 wx ho hb hg hat
              have HV3 := A_ ho
              have HBx := A_ hb
              clear ho hb hg hat HV2d HBd
              refine hK.out _ _ trivial (fun hHeld => ?_)
              clear hK K
              refine norm_ (a' := ?_) ?_ ?_
              rotate_left
              ·
               show Act.put _ (some 67) _ = _
               simp only [Act.put, List.setIfInBounds_toArray, List.set_cons_zero, List.set_cons_succ, i64_w, i32_w]
               rfl
              refine one_ (i := 7) (N := some 71) (Fn.bl 9 255) rfl rfl (one_of HT_.out (by kernel_rfl)) (by decide) (fun K hK => ?_)
              refine Kd.N_append_rows_step (Kd.slice 3 (Kd.int .i64)) (w0 := wp) wp.heap.size (by rfl) (.tmp 67) (.tmp 70) 27 24 (.slice none 0 0) 24 rfl Try.underlying27 info24 rfl (by decide) (by omega) v3 (yt ++ [x]) yd _ _ _ (fun k_ => w4.heap.size ≤ k_ ∧ k_ ≠ g ∧ k_ ≠ gr) (fun k_ => (fun k_ => w4.heap.size ≤ k_ ∧ k_ ≠ g ∧ k_ ≠ gr) k_ ∧ k_ < wp.heap.size) rfl rfl ?aO ?aR (fun k_ hk => ⟨hk.1, fun e => by have := Kd.N_base HV3.out k_ e.symm; have := hk.2; omega⟩) ?aF ?aB ?aS ?aL ?_
              (case aR => exact Kd.F_below HF27.out HBx.out)
              (case aB => exact HBx.out)
              (case aF => exact (fun k_ hk => FR.out k_ (Nat.le_trans HBx.out.size hk)))
              (case aO => exact HV3.out)
              (case aS => exact HBx.out.size)
              (case aL => have := QH.out; have := HDL.out; simp only [List.length_append, List.length_singleton]; omega)
              intro v4 wy ho hb hg hat
              have HV4 := A_ ho
              have HBy := A_ hb
              clear ho hb hg hat HV3 HBx
              refine hK.out _ _ trivial (fun hHeld => ?_)
              clear hK K
              refine norm_ (a' := ?_) ?_ ?_
              rotate_left
              ·
               show Act.put _ (some 71) _ = _
               simp only [Act.put, List.setIfInBounds_toArray, List.set_cons_zero, List.set_cons_succ, i64_w, i32_w]
               rfl
              refine pq_ 8 (some 7) (Fn.bl 9 511) HT_.out ?_
              refine done_ (done_of HT_.out (by kernel_rfl)) ?_
              try go_wp2
              go_roundg k1
              case measure => have := HK1.out; omega
              case rel => exact ⟨(yt ++ [x]) ++ yd, wrap64 (i + 1), ap, bp, tf_, ⟨Kd.N_lower HV4.out (by have := HSZ.out; have := HKp_.out.1; omega)⟩, H8, ⟨by have := HK1.out; omega⟩, ⟨HIwp.out.below HBy.out⟩, ⟨below_then HBwp.out HBwp.out.size HBy.out⟩, ⟨HKb.out.trans (HKp_.out.trans (KeepBut.of_below HBy.out g none) (.inl rfl)) (.inl rfl)⟩⟩
            | false =>
              rw [if_neg (by simp)] at h7
              obtain ⟨a10, ha10⟩ : ∃ a10, a10 = a8 := ⟨_, rfl⟩
              obtain ⟨b10, hb10⟩ : ∃ b10, b10 = b8 := ⟨_, rfl⟩
              rw [← ha10, ← hb10] at h7
              rw [← ha10, ← hb10] at h8
              clear ha10 hb10
              have A10 := A_ h7
              clear h7
              cases d1 with
              | false =>
                rw [if_neg (by simp)] at h8
                have H8 := A_ h8
                clear h8
                go_wp2_with (first | (refine gc_ 118 ?_; refine goesT_ (some 46) Try.func118 #[.pointer (some ⟨g, 0, none⟩), .int .i64 2] ?_; (with_reducible refine (spec_l1Cur_one.calls g s a7 b7 2 _ a9 b9 w0 _ HIb.out HBb.out A9.out).mono ?_); rintro e w9 ⟨rfl, hi, hb, hk⟩; refine ⟨_, rfl, ?_⟩; have HIw9 := A_ hi; have HBw9 := A_ hb; have HKw9 := A_ hk; clear hi hb hk) | (go_at_call 118; (with_reducible refine (spec_l1Cur_one.calls g s a9 b9 12 _ a10 b10 w0 _ HIw9.out HBw9.out A10.out).mono ?_); rintro e w10 ⟨rfl, hi, hb, hk⟩; have HIw10 := A_ hi; have HBw10 := A_ hb; have HKw10 := A_ hk; clear hi hb hk) | fail)
                go_roundg k1
                case measure => have := HK1.out; omega
                case rel => exact ⟨q, wrap64 (i + 1), a10, b10, tf_, ⟨Kd.N_step (w1 := w10) HNb.out (fun k_ ho_ hl_ => (HKw9.out.trans HKw10.out (.inl rfl)).2 k_ hl_ ho_.2.1 (by simp))⟩, H8, ⟨by have := HK1.out; omega⟩, HIw10, HBw10, ⟨HKb.out.trans (HKw9.out.trans HKw10.out (.inl rfl)) (.inl rfl)⟩⟩
              | true =>
                rw [if_pos rfl] at h8
                obtain ⟨⟨t, ap, bp⟩, AP, h8⟩ := Option.bind_eq_some_iff.mp h8
                have AP := A_ AP
                try dsimp only at h8
                by_cases d1_ : 0 ≤ t
                case neg => rw [if_neg d1_] at h8; exact absurd h8 (by simp)
                rw [if_pos d1_] at h8
                by_cases d2_ : t ≤ (q.length : Int)
                case neg => rw [if_neg d2_] at h8; exact absurd h8 (by simp)
                rw [if_pos d2_] at h8
                by_cases d3_ : q.length < 1000000
                case neg => rw [if_neg d3_] at h8; exact absurd h8 (by simp)
                rw [if_pos d3_] at h8
                rw [← HXE.out] at h8
                have H8 := A_ h8
                clear h8
                rw [show wrap64 ((q.length : Int) + 1) = (q.length : Int) + 1 from by unfold wrap64; omega] at AP
                have hin : t.toNat ≤ q.length := by omega
                have QH := A_ (show (q.take t.toNat).length ≤ q.length from by rw [List.length_take]; omega)
                have HTL := A_ (show (q.take t.toNat).length = t.toNat from by rw [List.length_take]; omega)
                have HDL := A_ (show (q.drop t.toNat).length = q.length - t.toNat from List.length_drop)
                go_wp2_with (first | (refine gc_ 118 ?_; refine goesT_ (some 46) Try.func118 #[.pointer (some ⟨g, 0, none⟩), .int .i64 2] ?_; (with_reducible refine (spec_l1Cur_one.calls g s a7 b7 2 _ a9 b9 w0 _ HIb.out HBb.out A9.out).mono ?_); rintro e w9 ⟨rfl, hi, hb, hk⟩; refine ⟨_, rfl, ?_⟩; have HIw9 := A_ hi; have HBw9 := A_ hb; have HKw9 := A_ hk; clear hi hb hk) | (go_at_call 118; (with_reducible refine (spec_l1Cur_one.calls g s a9 b9 12 _ a10 b10 w0 _ HIw9.out HBw9.out A10.out).mono ?_); rintro e w10 ⟨rfl, hi, hb, hk⟩; have HIw10 := A_ hi; have HBw10 := A_ hb; have HKw10 := A_ hk; clear hi hb hk) | (refine gc_ 89 ?_; refine goesT_ (some 58) Try.func89 #[.pointer (some ⟨g, 0, none⟩), .int .i64 ((q.length : Int) + 1)] ?_; (with_reducible refine (spec_l1Cur_pick.calls g s a10 b10 (((q.length : Int) + 1)) t ap bp w0 _ HIw10.out HBw10.out AP.out).mono ?_); rintro e wp ⟨rfl, hi, hb, hk⟩; refine ⟨_, rfl, ?_⟩; have HIwp := A_ hi; have HBwp := A_ hb; have HKwp := A_ hk; clear hi hb hk; have HKp_ := A_ ((HKw9.out.trans HKw10.out (.inl rfl)).trans HKwp.out (.inl rfl)); have HNp := A_ (Kd.N_bound (Kd.N_step (w1 := wp) HNb.out (fun k_ ho_ hl_ => HKp_.out.2 k_ hl_ ho_.2.1 (by simp)))); have FXp := A_ (Kd.FK_mono (ok' := fun k_ => (fun k_ => w4.heap.size ≤ k_ ∧ k_ ≠ g ∧ k_ ≠ gr) k_ ∧ k_ < wp.heap.size) (Kd.FK_step (W1 := wp) FXb.out (fun k_ ho_ hl_ => HKp_.out.2 k_ hl_ ho_.2 (by simp))) (fun k_ hk => ⟨⟨by have := hk.1.1; have := HSZ.out; omega, hk.2, by have := hk.1.1; have := HSZ.out; omega⟩, by have := hk.1.2; have := HSZ.out; have := HKp_.out.1; omega⟩)); have FR := A_ (show ∀ k_, wp.heap.size ≤ k_ → (fun k_ => w4.heap.size ≤ k_ ∧ k_ ≠ g ∧ k_ ≠ gr) k_ from fun k_ hk => ⟨by have := HSZ.out; have := HKp_.out.1; omega, by have := HSZ.out; have := HKp_.out.1; omega, by have := HSZ.out; have := HKp_.out.1; omega⟩)) | (refine gd_ 59 ?_; refine Kd.N_lit (Kd.slice 3 (Kd.int .i64)) _ 24 ?hg (N' := 59) ?hd (xs := ([] : List (List Int))) (inner := []) (ok := (fun k_ => w4.heap.size ≤ k_ ∧ k_ ≠ g ∧ k_ ≠ gr)) (okp := (fun k_ => w4.heap.size ≤ k_ ∧ k_ ≠ g ∧ k_ ≠ gr)) ?hr ?hp (fun _ hk => hk) (FR.out _ (Nat.le_refl _)) (Below.refl _ _) (Nat.le_refl _) (by simp) ?_; (case hd => rfl); (case hg => rfl); (case hr => first | (go_simp; done) | (go_simp; rfl)); (case hp => exact (Reps.none _ _)); intro v1 wl ho hb hg_ hnew_; have HV1 := A_ ho; have HBl := A_ hb; clear ho hb hg_ hnew_; have q24 : (t : Int) ≤ ((q.length : Int) : Int) := d2_; obtain ⟨i024, hi024, _, hsz24, _⟩ := info_parts info24; have hroom24 : q.length ≤ cq := (Kd.N_reads' HNp.out).2.1; have hcut24 := cut_to (P := Try.prog) 27 24 .i64 Try.underlying27 hi024 Aq q.length cq t d1_ q24 hroom24; have HFq := A_ (Kd.F_take (m := t.toNat) (Kd.F_below (Kd.N_F HNp.out) HBl.out) hin); clear hi024 hsz24 hroom24; replace q24 := eq_true q24) | ((with_reducible refine gate_builtin (b := .append) (xs := #[.tmp 59, .tmp 62]) rfl ?_); at_builtin; refine Kd.N_append_rows (Kd.slice 3 (Kd.int .i64)) (w0 := wp) wp.heap.size rfl (.tmp 59) (.tmp 62) 27 24 (.slice none 0 0) 24 rfl Try.underlying27 info24 rfl (by decide) (by omega) v1 ([] : List (List Int)) (q.take t.toNat) _ _ _ (fun k_ => w4.heap.size ≤ k_ ∧ k_ ≠ g ∧ k_ ≠ gr) (fun k_ => (fun k_ => w4.heap.size ≤ k_ ∧ k_ ≠ g ∧ k_ ≠ gr) k_ ∧ k_ < wp.heap.size) rfl rfl ?aO ?aR (fun k_ hk => ⟨hk.1, fun e => by have := Kd.N_base HV1.out k_ e.symm; have := hk.2; omega⟩) ?aF ?aB ?aS ?aL ?_; (case aR => have h_ := HFq.out; rw [HTL.out] at h_; exact h_); (case aB => exact HBl.out); (case aF => exact (fun k_ hk => FR.out k_ (Nat.le_trans HBl.out.size hk))); (case aO => exact HV1.out); (case aS => exact HBl.out.size); (case aL => have := QH.out; have := HTL.out; simp only [List.length_nil]; omega); intro v2 wa ho hb hg hat; have HV2 := A_ ho; have HBa := A_ hb; clear ho hb hg hat HV1 HFq HBl) | fail)
                have HV2d := A_ (Kd.N_drew HV2.out)
                have HBd := A_ (below_drew1 HBa.out)
                clear HV2 HBa
                have q27 : (t : Int) ≤ ((q.length : Int) : Int) := d2_
                obtain ⟨i027, hi027, _, hsz27, _⟩ := info_parts info24
                have hroom27 : q.length ≤ cq := (Kd.N_reads' HNp.out).2.1
                have q027 : (0 : Int) ≤ (t : Int) := d1_
                have hcut27 := cut_from (P := Try.prog) 27 24 .i64 Try.underlying27 hi027 1 hsz27 Aq q.length cq t q027 q27
                obtain ⟨A27, hA27⟩ : ∃ A1, A1 = (if cq = t.toNat then Aq else (Aq : Option Addr).map (·.add (t.toNat * 1))) := ⟨_, rfl⟩
                obtain ⟨c27, hc27⟩ : ∃ c1, c1 = cq - t.toNat := ⟨_, rfl⟩
                rw [← HDL.out, ← hA27, ← hc27] at hcut27
                have HF27 := A_ (show Kd.F (Kd.slice 3 (Kd.int .i64)) wp _ A27 (q.drop t.toNat).length (q.drop t.toNat) from by rw [hA27]; exact Kd.F_cut (m := t.toNat) (c := cq) (Kd.N_F HNp.out) hin hroom27)
                clear hroom27 hi027 hsz27 hc27 hA27
                replace q27 := eq_true q27
                obtain ⟨yd, hyd⟩ : ∃ yd, yd = q.drop t.toNat := ⟨_, rfl⟩
                obtain ⟨yt, hyt⟩ : ∃ yt, yt = q.take t.toNat := ⟨_, rfl⟩
                rw [← hyd] at hcut27 HF27 HDL H8
                rw [← hyt] at HV2d QH HTL H8
                clear hyd hyt
                simp only [List.nil_append] at HV2d
                refine start_ (n := 9) (S := fun w' => True) (ds := []) (Fn.bl 9 0) (by kernel_rfl) rfl rfl trivial (fun hHeld => ?_); refine with_tabW spec_l1Cur_pieces.tab17 spec_l1Cur_pieces.bits17 (fun HT_ HW_ => ?_)
                generalize wa.drew = w26 at HV2d HBd hHeld ⊢
                refine pq_ 0 (some 64) (Fn.bl 9 1) HT_.out ?_
                refine pq_ 1 (some 65) (Fn.bl 9 3) HT_.out ?_
                refine pq_ 4 (some 68) (Fn.bl 9 19) HT_.out ?_
                refine pq_ 5 (some 69) (Fn.bl 9 51) HT_.out ?_
                refine pq_ 6 (some 70) (Fn.bl 9 115) HT_.out ?_
                refine one_ (i := 2) (N := some 66) (Fn.bl 9 119) rfl rfl (one_of HT_.out (by kernel_rfl)) (by decide) (fun K hK => ?_)
                refine value_ (w1 := ?_) (v := ?_) (by rfl) rfl ?_ ?_
                rotate_left 2
                ·
                 go_simp
                 constructor
                 ·
                  rfl
                 ·
                  rfl
                refine hK.out _ _ trivial (fun hHeld => ?_)
                clear hK K
                refine norm_ (a' := ?_) ?_ ?_
                rotate_left
                ·
                 show Act.put _ (some 66) _ = _
                 simp only [Act.put, List.setIfInBounds_toArray, List.set_cons_zero, List.set_cons_succ, i64_w, i32_w]
                 rfl
                refine one_ (i := 3) (N := some 67) (Fn.bl 9 127) rfl rfl (one_of HT_.out (by kernel_rfl)) (by decide) (fun K hK => ?_)
                refine Kd.N_append_step (Kd.slice 3 (Kd.int .i64)) (w0 := wp) wp.heap.size (by rfl) (.tmp 64) (.tmp 66) 27 24 (.slice none 0 0) 24 rfl Try.underlying27 info24 rfl (by decide) (by omega) v2 yt x [.slice Ax x.length cx] (fun k_ => w4.heap.size ≤ k_ ∧ k_ ≠ g ∧ k_ ≠ gr) (fun k_ => (fun k_ => w4.heap.size ≤ k_ ∧ k_ ≠ g ∧ k_ ≠ gr) k_ ∧ k_ < wp.heap.size) rfl rfl ?aP (fun k_ hk => ⟨hk.1, fun e => by have := Kd.N_base HV2d.out k_ e.symm; have := hk.2; omega⟩) ?aF ?aO ?aB ?aS ?aL ?_
                (case aP => exact Kd.FK_below FXp.out HBd.out)
                (case aB => exact HBd.out)
                (case aF => exact (fun k_ hk => FR.out k_ (Nat.le_trans HBd.out.size hk)))
                (case aO => exact HV2d.out)
                (case aS => exact HBd.out.size)
                (case aL => have := QH.out; omega)
                intro v3 wx ho hb hg hat
                have HV3 := A_ ho
                have HBx := A_ hb
                clear ho hb hg hat HV2d HBd
                refine hK.out _ _ trivial (fun hHeld => ?_)
                clear hK K
                refine norm_ (a' := ?_) ?_ ?_
                rotate_left
                ·
                 show Act.put _ (some 67) _ = _
                 simp only [Act.put, List.setIfInBounds_toArray, List.set_cons_zero, List.set_cons_succ, i64_w, i32_w]
                 rfl
                refine one_ (i := 7) (N := some 71) (Fn.bl 9 255) rfl rfl (one_of HT_.out (by kernel_rfl)) (by decide) (fun K hK => ?_)
                refine Kd.N_append_rows_step (Kd.slice 3 (Kd.int .i64)) (w0 := wp) wp.heap.size (by rfl) (.tmp 67) (.tmp 70) 27 24 (.slice none 0 0) 24 rfl Try.underlying27 info24 rfl (by decide) (by omega) v3 (yt ++ [x]) yd _ _ _ (fun k_ => w4.heap.size ≤ k_ ∧ k_ ≠ g ∧ k_ ≠ gr) (fun k_ => (fun k_ => w4.heap.size ≤ k_ ∧ k_ ≠ g ∧ k_ ≠ gr) k_ ∧ k_ < wp.heap.size) rfl rfl ?aO ?aR (fun k_ hk => ⟨hk.1, fun e => by have := Kd.N_base HV3.out k_ e.symm; have := hk.2; omega⟩) ?aF ?aB ?aS ?aL ?_
                (case aR => exact Kd.F_below HF27.out HBx.out)
                (case aB => exact HBx.out)
                (case aF => exact (fun k_ hk => FR.out k_ (Nat.le_trans HBx.out.size hk)))
                (case aO => exact HV3.out)
                (case aS => exact HBx.out.size)
                (case aL => have := QH.out; have := HDL.out; simp only [List.length_append, List.length_singleton]; omega)
                intro v4 wy ho hb hg hat
                have HV4 := A_ ho
                have HBy := A_ hb
                clear ho hb hg hat HV3 HBx
                refine hK.out _ _ trivial (fun hHeld => ?_)
                clear hK K
                refine norm_ (a' := ?_) ?_ ?_
                rotate_left
                ·
                 show Act.put _ (some 71) _ = _
                 simp only [Act.put, List.setIfInBounds_toArray, List.set_cons_zero, List.set_cons_succ, i64_w, i32_w]
                 rfl
                refine pq_ 8 (some 7) (Fn.bl 9 511) HT_.out ?_
                refine done_ (done_of HT_.out (by kernel_rfl)) ?_
                try go_wp2
                go_roundg k1
                case measure => have := HK1.out; omega
                case rel => exact ⟨(yt ++ [x]) ++ yd, wrap64 (i + 1), ap, bp, tf_, ⟨Kd.N_lower HV4.out (by have := HSZ.out; have := HKp_.out.1; omega)⟩, H8, ⟨by have := HK1.out; omega⟩, ⟨HIwp.out.below HBy.out⟩, ⟨below_then HBwp.out HBwp.out.size HBy.out⟩, ⟨HKb.out.trans (HKp_.out.trans (KeepBut.of_below HBy.out g none) (.inl rfl)) (.inl rfl)⟩⟩

end
end Go.Proofs.Ytjjfcghoikdopaa.P
