-- printed functions (wip/slim.py)
import Derived.Test.YthlcaikplebpmaaPx0
import Derived.Test.YthlcaikplebpmaaKpLib
import Derived.Test.YthlcaikplebpmaaKn
import Derived.Test.YthlcaikplebpmaaLn
import Derived.Test.YthlcaikplebpmaaLo
import Derived.Test.YthlcaikplebpmaaQ1f543403c0
import Derived.Test.YthlcaikplebpmaaQ216f379656
namespace Go.Proofs.Ythlcaikplebpmaa.P
noncomputable section
set_option maxHeartbeats 8000000
set_option maxRecDepth 100000
open Go.RowKit Go.Proofs.YthlcaikplebpmaaW.PrintWords Go.Proofs.YthlcaikplebpmaaW.PrintLast Go.Proofs.YthlcaikplebpmaaW.PrintMore
attribute [local go_sem] max2_int min2_int max_two min_two max_three min_three max_four min_four   -- for this text's walks alone
set_option linter.unusedVariables false
set_option linter.unusedSimpArgs false

/-! ### spec_kiNumbers: function 104 -/
def spec_kiNumbers.popN (m : Nat) : Nat → Nat
 | 0 => 0
 | c + 1 => spec_kiNumbers.popN m c + m / 2 ^ c % 2
def spec_kiNumbers.v2 (x : Int) (m : Nat) : Bool := Go.bits .andNot .i64 (m : Int) x == 0 && Go.bits .and .i64 (m : Int) ((m : Int) * 2) == 0
def spec_kiNumbers.c2 (m b : Nat) : Bool := Go.bits .and .i64 (b : Int) (Go.bits .or .i64 (Go.bits .or .i64 (m : Int) ((m : Int) * 2)) ((m : Int) / 2)) == 0
def spec_kiNumbers.start (n : Nat) : List (List Int) := (List.replicate n []).set 0 [1]
def spec_kiNumbers.okS (k : Nat) (C : Int) (l : List Int) : Prop := (0 ≤ C ∧ C ≤ 6 ∧ l.length ≤ 6) ∧ ∀ (a b : List Int) (n : Nat), a.length ≤ 100 → b.length ≤ 100 → n ≤ 6 → spec_kiAdd.f k a b (n : Int) = some (Kings.kadd a b n)
open Classical in
def spec_kiNumbers.f (k : Nat) (a0_0 a0_1 : Int) (l0_2 : List Int) : Option (List Int) := if spec_kiNumbers.okS k a0_1 l0_2 then some (Kings.outK (Kings.waysK spec_kiNumbers.c2 spec_kiNumbers.v2 (fun m => spec_kiNumbers.popN m a0_1.toNat) (2 ^ a0_1.toNat) l0_2 (spec_kiNumbers.start (2 ^ a0_1.toNat))) (2 ^ a0_1.toNat)) else none
theorem spec_kiNumbers.mono : ∀ a0 a1 a2 k, LeO (spec_kiNumbers.f k a0 a1 a2) (spec_kiNumbers.f (k + 1) a0 a1 a2) := fun a0 a1 a2 k r h => by
 unfold spec_kiNumbers.f at h ⊢
 by_cases hok : spec_kiNumbers.okS k a1 a2
 ·
  rw [if_pos hok] at h
  rw [if_pos ⟨hok.1, fun a b n h1 h2 h3 => spec_kiAdd.mono _ _ _ _ _ (hok.2 a b n h1 h2 h3)⟩]
  exact h
 ·
  rw [if_neg hok] at h
  exact absurd h (by simp)
theorem spec_kiNumbers.start_len (n j : Nat) : ((spec_kiNumbers.start n).getD j []).length ≤ 1 + 6 * 0 := by
 unfold spec_kiNumbers.start
 rw [List.getD_eq_getElem?_getD, List.getElem?_set, List.getElem?_replicate]
 split
 ·
  split <;> simp
 ·
  split <;> simp
def spec_kiNumbers.nextU (C n : Nat) (K : List (List Int)) (x : Int) (m : Nat) : List (List Int) := (List.range n).map fun j => if j < m then (if spec_kiNumbers.v2 x j = true then Kings.foldK spec_kiNumbers.c2 K j (spec_kiNumbers.popN j C) n else []) else []
theorem spec_kiNumbers.nextU_zero (C n : Nat) (K : List (List Int)) (x : Int) : spec_kiNumbers.nextU C n K x 0 = List.replicate n [] := by
 refine List.ext_getElem (by simp [spec_kiNumbers.nextU]) (fun i h1 h2 => ?_)
 simp [spec_kiNumbers.nextU]
theorem spec_kiNumbers.nextU_all (C n : Nat) (K : List (List Int)) (x : Int) : spec_kiNumbers.nextU C n K x n = Kings.nextK spec_kiNumbers.c2 spec_kiNumbers.v2 (fun m => spec_kiNumbers.popN m C) n K x := by
 unfold spec_kiNumbers.nextU Kings.nextK
 exact List.map_congr_left (fun j hj => by rw [if_pos (List.mem_range.1 hj)])
theorem spec_kiNumbers.nextU_get (C n : Nat) (K : List (List Int)) (x : Int) (m : Nat) : (spec_kiNumbers.nextU C n K x m).getD m [] = [] := by
 unfold spec_kiNumbers.nextU
 rw [List.getD_eq_getElem?_getD, List.getElem?_map]
 cases h : (List.range n)[m]? with
 | none => rfl
 | some y =>
  obtain ⟨h1, h2⟩ := List.getElem?_eq_some_iff.1 h
  rw [List.getElem_range] at h2
  subst h2
  simp
theorem spec_kiNumbers.nextU_skip (C n : Nat) (K : List (List Int)) (x : Int) (m : Nat) (h : spec_kiNumbers.v2 x m = false) : spec_kiNumbers.nextU C n K x (m + 1) = spec_kiNumbers.nextU C n K x m := by
 unfold spec_kiNumbers.nextU
 refine List.map_congr_left (fun j hj => ?_)
 by_cases e : j = m
 ·
  subst e
  rw [if_pos (by omega), if_neg (by rw [h]; simp), if_neg (by omega)]
 ·
  by_cases e2 : j < m
  ·
   rw [if_pos (by omega), if_pos e2]
  ·
   rw [if_neg (by omega), if_neg e2]
theorem spec_kiNumbers.nextU_put (C n : Nat) (K : List (List Int)) (x : Int) (m : Nat) (h : spec_kiNumbers.v2 x m = true) : (spec_kiNumbers.nextU C n K x m).set m (Kings.foldK spec_kiNumbers.c2 K m (spec_kiNumbers.popN m C) n) = spec_kiNumbers.nextU C n K x (m + 1) := by
 unfold spec_kiNumbers.nextU
 refine List.ext_getElem (by simp) (fun j h1 h2 => ?_)
 rw [List.getElem_set]
 simp only [List.getElem_map, List.getElem_range]
 by_cases e : m = j
 ·
  subst e
  simp [h]
 ·
  have e2 : (j < m + 1) = (j < m) := propext (by omega)
  simp only [if_neg e, e2]
theorem spec_kiNumbers.set_same {l : List (List Int)} {m : Nat} (h : l.getD m [] = []) : l.set m [] = l := by
 refine List.ext_getElem (by simp) (fun j h1 h2 => ?_)
 rw [List.getElem_set]
 split
 ·
  rename_i e
  subst e
  rw [List.getD_eq_getElem?_getD, List.getElem?_eq_getElem h2, Option.getD_some] at h
  exact h.symm
 ·
  rfl
theorem spec_kiNumbers.set_get {l : List (List Int)} {m : Nat} (h : m < l.length) (r : List Int) : (l.set m r).getD m [] = r := by
 rw [List.getD_eq_getElem?_getD, List.getElem?_set_self h]; rfl
theorem spec_kiNumbers.fold_len {K : List (List Int)} {M c : Nat} (m : Nat) (hc : c ≤ 6) (hK : ∀ j, (K.getD j []).length ≤ M) : ∀ b, (Kings.foldK spec_kiNumbers.c2 K m c b).length ≤ M + 6
 | 0 => Nat.zero_le _
 | b + 1 => by
  rw [Kings.foldK]
  split
  ·
   have h1 := Kings.kadd_len (Kings.foldK spec_kiNumbers.c2 K m c b) (K.getD b []) c
   have h2 := fold_len m hc hK b
   have h3 := hK b
   omega
  ·
   exact fold_len m hc hK b
theorem spec_kiNumbers.next_len {K : List (List Int)} {M C n : Nat} {x : Int} (hc : ∀ m, spec_kiNumbers.popN m C ≤ 6) (hK : ∀ j, (K.getD j []).length ≤ M) (j : Nat) : ((Kings.nextK spec_kiNumbers.c2 spec_kiNumbers.v2 (fun m => spec_kiNumbers.popN m C) n K x).getD j []).length ≤ M + 6 := by
 unfold Kings.nextK
 rw [List.getD_eq_getElem?_getD, List.getElem?_map]
 cases h : (List.range n)[j]? with
 | none => exact Nat.zero_le _
 | some y =>
  dsimp only [Option.map_some, Option.getD_some]
  split
  ·
   exact spec_kiNumbers.fold_len y (hc y) hK n
  ·
   exact Nat.zero_le _
theorem spec_kiNumbers.popN_le (m : Nat) : ∀ c, spec_kiNumbers.popN m c ≤ c
 | 0 => Nat.le_refl _
 | c + 1 => by have := popN_le m c; rw [popN]; omega
theorem spec_kiNumbers.pop_step (m c : Nat) (hc : c ≤ 6) : wrap64 (((spec_kiNumbers.popN m c : Nat) : Int) + Int.tmod ((m : Int) / 2 ^ c) 2) = ((spec_kiNumbers.popN m (c + 1) : Nat) : Int) := by
 have e : (m : Int) / 2 ^ c = ((m / 2 ^ c : Nat) : Int) := by simp
 rw [e, Int.tmod_eq_emod_of_nonneg (Int.natCast_nonneg _), popN]
 have := spec_kiNumbers.popN_le m c
 generalize m / 2 ^ c = z
 unfold wrap64
 omega
theorem spec_kiNumbers.out_len {K : List (List Int)} {M : Nat} (hK : ∀ j, (K.getD j []).length ≤ M) : ∀ b, (Kings.outK K b).length ≤ M
 | 0 => Nat.zero_le _
 | b + 1 => by
  rw [Kings.outK]
  have h1 := Kings.kadd_len (Kings.outK K b) (K.getD b []) 0
  have h2 := out_len hK b
  have h3 := hK b
  omega
theorem spec_kiNumbers.calls (k : Nat) (a0_0 a0_1 : Int) (A0_2 : Option Addr) (c0_2 : Nat) (l0_2 : List Int) (r : List Int) (w : World) (hr0_2 : Kd.C (Kd.int .i64) w A0_2 l0_2.length l0_2) (hc0_2 : l0_2.length ≤ c0_2) (h : spec_kiNumbers.f k a0_0 a0_1 l0_2 = some r) :
  Calls Try.prog 104 #[.agg #[.int .i64 a0_0, .int .i64 a0_1, .slice A0_2 l0_2.length c0_2]] w fun e w' => ∃ v0_ : Value, e = .returned (v0_) ∧ Kd.R (Kd.int .i64) 3 w' w.heap.size (fun _ => True) v0_ r ∧ Below w.heap.size w w' := by
 have HR := A_ hr0_2
 have HC := A_ hc0_2
 clear hr0_2 hc0_2
 unfold spec_kiNumbers.f at h
 by_cases hok : spec_kiNumbers.okS k a0_1 l0_2
 case neg =>
  rw [if_neg hok] at h
  exact absurd h (by simp)
 rw [if_pos hok] at h
 obtain ⟨⟨hc0, hc6, hl6⟩, hadd⟩ := hok
 obtain ⟨C, rfl⟩ : ∃ C : Nat, a0_1 = (C : Int) := ⟨a0_1.toNat, by omega⟩
 rw [Int.toNat_natCast] at h
 obtain ⟨n, hn⟩ : ∃ n, n = 2 ^ C := ⟨_, rfl⟩
 rw [← hn] at h
 have hsh : wrap64 (2 ^ C) = (n : Int) := by
  rw [hn]
  have : C = 0 ∨ C = 1 ∨ C = 2 ∨ C = 3 ∨ C = 4 ∨ C = 5 ∨ C = 6 := by omega
  rcases this with rfl | rfl | rfl | rfl | rfl | rfl | rfl <;> decide +kernel
 have hn64 : n ≤ 64 := by
  rw [hn]
  exact Nat.le_trans (Nat.pow_le_pow_right (by omega) (show C ≤ 6 by omega)) (by decide)
 have hn1 : 0 < n := by rw [hn]; exact Nat.pow_pos (by omega)
 have HADD := A_ hadd
 have HRES := A_ (Option.some.inj h)
 have HL6 := A_ hl6
 have HN := A_ hn
 clear h hadd hl6 hn
 have hu26 := Try.underlying26
 have hmk : ∀ W, _ := run_make_row' (P := Try.prog) 41 22 (.slice none 0 0) 24 Try.underlying41 info22 rfl .i64 .i64 n (by omega) (by omega)
 obtain ⟨W1, hW1⟩ : ∃ x, x = (w.alloc (.cells #[.int .i64 a0_0, .int .i64 (C : Int), .slice A0_2 l0_2.length c0_2] 26)).alloc (.cells (madeCells #[.slice none 0 0] n) 22) := ⟨_, rfl⟩
 have b1 : Below w.heap.size w W1 := by rw [hW1]; exact below_alloc (below_alloc (Below.refl _ _) _) _
 have s1 : W1.heap.size = w.heap.size + 1 + 1 := by rw [hW1]; simp
 have f0 : W1.heap[w.heap.size]? = some (.cells #[.int .i64 a0_0, .int .i64 (C : Int), .slice A0_2 l0_2.length c0_2] 26 (0, 0)) := by rw [hW1]; exact blk_alloc (blk_new _ _) _
 have f1 : W1.heap[w.heap.size + 1]? = some (.cells (madeCells #[.slice none 0 0] n) 22 (0, 0)) := by
  have h := blk_new (w.alloc (.cells #[.int .i64 a0_0, .int .i64 (C : Int), .slice A0_2 l0_2.length c0_2] 26)) (.cells (madeCells #[.slice none 0 0] n) 22)
  rw [← hW1, show (w.alloc (.cells #[.int .i64 a0_0, .int .i64 (C : Int), .slice A0_2 l0_2.length c0_2] 26)).heap.size = w.heap.size + 1 by simp] at h
  exact h
 have d1 : Kd.S (Kd.slice 3 (Kd.int .i64)) 22 W1 w.heap.size (fun k => k ≠ w.heap.size) (.slice (some ⟨w.heap.size + 1, 0, none⟩) n n) (List.replicate n []) := Cap.S_made f1 (by omega) (by omega) (by omega)
 obtain ⟨oki, v, hR, hcell, hfree, hoki, hlt, hback⟩ := Cap.S_swap d1 hn1
 replace b1 := A_ b1
 replace f0 := A_ f0
 replace hR := A_ hR
 replace hoki := A_ hoki
 replace hback := A_ hback
 replace d1 := A_ d1
 have hq0 : (0 < n) = True := eq_true hn1
 clear f1
 go_enter Try.func104, Try.ntmps104
 go_upto_region 2 with (first | fail)
 rw [← hW1]
 obtain ⟨W2, hW2⟩ : ∃ x, x = W1.alloc (.cells #[.int .i64 1] 3) := ⟨_, rfl⟩
 have b2 : Below W1.heap.size W1 W2 := by rw [hW2]; exact below_alloc (Below.refl _ _) _
 have r2 : W2.heap[W1.heap.size]? = some (.cells (Cap.ints [1]) 3 (0, 0)) := by rw [hW2]; exact blk_new _ _
 obtain ⟨e1, e2, e3⟩ := hback.out W2 (.slice (some ⟨W1.heap.size, 0, none⟩) 1 1) [1] (Kept.of_below b2 _) (Kd.R_mono (Kd.R_tight rfl (Cap.ints_R (base := w.heap.size) r2 (by simp) (by omega))) (fun k hk => .inr (Nat.le_of_eq (by simpa [Value.ownBlock] using hk.symm)))) (fun k hk => by omega)
 have c2 : Below w.heap.size w W2 := below_then b1.out b1.out.size b2
 have o2 := blk_below f0.out b2
 replace e3 := A_ e3
 replace c2 := A_ c2
 replace o2 := A_ o2
 rw [hW2] at e1 e2
 clear hback hR hoki b2 r2 d1 hW1 b1 f0 s1
 go_upto_region 3 with (first | fail)
 obtain ⟨W3, hW3⟩ : ∃ x, x = (W1.setCell ⟨w.heap.size + 1, 0, none⟩ (.slice (some ⟨W1.heap.size, 0, none⟩) 1 1)).alloc (.cells #[.int .i64 1] 3) := ⟨_, rfl⟩
 rw [← hW3]
 have hW4 : W2.setCell ⟨w.heap.size + 1, 0, none⟩ (.slice (some ⟨W1.heap.size, 0, none⟩) 1 1) = W3 := by rw [hW2, hW3]; exact World.setCell_alloc_past _ _ _ _ hlt
 have d3 := e3.out
 have c3 := c2.out.setCell (p := ⟨w.heap.size + 1, 0, none⟩) (Nat.le_succ _) (.slice (some ⟨W1.heap.size, 0, none⟩) 1 1)
 have o3 := (Cap.setCell_ne (W := W2) (p := ⟨w.heap.size + 1, 0, none⟩) (v := .slice (some ⟨W1.heap.size, 0, none⟩) 1 1) (show w.heap.size ≠ w.heap.size + 1 by omega)).trans o2.out
 rw [hW4] at d3 c3 o3
 replace d3 := A_ d3
 replace c3 := A_ c3
 have hy2 := blk_cell o3 2
 replace o3 := A_ o3
 clear e1 e2 e3 c2 o2 hW2 hW3 hW4 hlt hcell hfree hq0
 go_wp2
 replace hsh := A_ hsh
 have hc6' : C ≤ 6 := by omega
 clear hc0 hc6
 go_loopg [25, 3] l0_2.length (fun q v25 v3 W' => ∃ (i g : Nat) (K : List (List Int)), v25 = .int .i64 i ∧ v3 = .slice (some ⟨g, 0, none⟩) n n ∧ Aside0 (Kd.S (Kd.slice 3 (Kd.int .i64)) 22 W' w.heap.size (fun k => k ≠ w.heap.size) (.slice (some ⟨g, 0, none⟩) n n) K) ∧ Aside0 (Below w.heap.size w W') ∧ Aside0 (W'.heap[w.heap.size]? = some (.cells #[.int .i64 a0_0, .int .i64 (C : Int), .slice A0_2 l0_2.length c0_2] 26 (0, 0))) ∧ Aside0 (i ≤ l0_2.length ∧ q = l0_2.length - i) ∧ Aside0 (Kings.waysK spec_kiNumbers.c2 spec_kiNumbers.v2 (fun m => spec_kiNumbers.popN m C) n (l0_2.drop i) K = Kings.waysK spec_kiNumbers.c2 spec_kiNumbers.v2 (fun m => spec_kiNumbers.popN m C) n l0_2 (spec_kiNumbers.start n)) ∧ Aside0 (∀ j, (K.getD j []).length ≤ 1 + 6 * i))
 case atStart => exact ⟨0, _, _, rfl, rfl, d3, c3, o3, ⟨⟨Nat.zero_le _, rfl⟩⟩, ⟨rfl⟩, ⟨spec_kiNumbers.start_len n⟩⟩
 case round =>
  obtain ⟨i, g, K, rfl, rfl, HS, HB, HO, HI, HK, HLN⟩ := hrel
  clear d3 c3 o3 hy2
  by_cases c1 : (i : Int) < (l0_2.length : Int)
  case neg =>
   have c1n : ¬ i < l0_2.length := by omega
   have c1b := decide_eq_false c1
   have c1d := decide_eq_false c1n
   clear c1
   have hnil : l0_2.drop i = [] := List.drop_eq_nil_of_le (by omega)
   have hK2 := HK.out
   rw [hnil] at hK2
   have hres := HRES.out
   rw [← show K = Kings.waysK spec_kiNumbers.c2 spec_kiNumbers.v2 (fun m => spec_kiNumbers.popN m C) n l0_2 (spec_kiNumbers.start n) from hK2] at hres
   replace HRES := A_ hres
   clear hK2 hnil HK hres HO
   obtain ⟨W0, rfl⟩ : ∃ x, x = wr := ⟨wr, rfl⟩
   have hlW' := A_ HB.out.size
   have w4 : Aside0 (Kd.S (Kd.slice 3 (Kd.int .i64)) 22 W0 w.heap.size (fun k => k ≠ w.heap.size ∧ k < W0.heap.size) (.slice (some ⟨g, 0, none⟩) n n) K) := ⟨Kd.S_mono (Kd.S_bound HS.out) (fun k hk => ⟨hk.1, hk.2.2.1⟩)⟩
   clear HS
   go_wp2
   go_loopg [94, 12] n (fun q v94 v12 W' => ∃ (b : Nat), v94 = .int .i64 b ∧ Aside0 (Kd.S (Kd.slice 3 (Kd.int .i64)) 22 W' w.heap.size (fun k => k ≠ w.heap.size ∧ k < W0.heap.size) (.slice (some ⟨g, 0, none⟩) n n) K) ∧ Aside0 (Kd.R (Kd.int .i64) 3 W' w.heap.size (fun k => W0.heap.size ≤ k) v12 (Kings.outK K b)) ∧ Aside0 (Below w.heap.size w W') ∧ Aside0 (W0.heap.size ≤ W'.heap.size) ∧ Aside0 (b ≤ n ∧ q = n - b))
   case atStart => exact ⟨0, rfl, w4, ⟨Kd.R_nil _ _ _ _ _⟩, HB, ⟨Nat.le_refl _⟩, ⟨⟨Nat.zero_le _, rfl⟩⟩⟩
   case round =>
    obtain ⟨b, rfl, HW, HN, HB, HZ, HBN⟩ := hrel
    clear w4
    obtain ⟨Ao, co, eo⟩ := Kd.R_slice HN.out
    subst eo
    by_cases c3 : b < n
    case neg =>
     have hbn : b = n := by have := HBN.out; omega
     have c3b := decide_eq_false c3
     have c3c : decide ((b : Int) < (n : Int)) = false := decide_eq_false (by omega)
     have HN2 := HN.out
     rw [hbn, HRES.out] at HN2
     have HN3 := A_ HN2
     have hbl := A_ (show (Kings.outK K b).length = r.length by rw [hbn, HRES.out])
     clear HN2 HN hbn
     go_wp2
     go_ret
     exact ⟨_, by first | rfl | (rw [hbl.out]; rfl), Kd.R_mono HN3.out (fun _ _ => trivial), HB.out⟩
    have c3b := decide_eq_true c3
    have c3c : decide ((b : Int) < (n : Int)) = true := decide_eq_true (by omega)
    have p3 : (0 ≤ (b : Int)) = True := eq_true (by omega)
    have q3 : ((b : Int) < (n : Int)) = True := eq_true (by omega)
    have hw3 : Aside0 (wrap64 ((b : Int) + 1) = ((b + 1 : Nat) : Int)) := ⟨by unfold wrap64; omega⟩
    obtain ⟨okb, vb, hRb, hcb, hfb, hokb, hgb, _⟩ := Cap.S_swap HW.out c3
    generalize hrw : K.getD b [] = row at hRb
    have HRW := A_ hrw
    clear hrw
    obtain ⟨Ab, cb, rfl⟩ := Kd.R_slice hRb
    have hlb := (Kd.R_reads' hRb).2.1
    have HRb := A_ hRb
    have Hokb := A_ hokb
    clear hRb hokb hfb hgb
    have hrd : Aside0 (∀ W_, Kept wr W_ (fun k_ => W0.heap.size ≤ k_) → Kd.C (Kd.int .i64) W_ Ab row.length row) := ⟨fun W_ hk => (Kd.R_reads' (Kd.R_kept HRb.out hk (fun k h1 h2 => by have := (Hokb.out k h1).1.2; omega))).2.2⟩
    have hadd2 : Aside0 (spec_kiAdd.f k (Kings.outK K b) row ((0 : Nat) : Int) = some (Kings.outK K (b + 1))) := ⟨by
     rw [Kings.outK, HRW.out]
     refine HADD.out _ _ _ ?_ ?_ (by omega)
     ·
      have := spec_kiNumbers.out_len HLN.out b; have := HL6.out; have := HI.out; omega
     ·
      have h1 := HLN.out b; rw [HRW.out] at h1; have := HL6.out; have := HI.out; omega⟩
    go_wp2_with (first | (go_at_call 185; (with_reducible refine (spec_kiAdd.calls k (fun k_ => W0.heap.size ≤ k_) _ _ Ab cb _ 0 _ w _ HB.out HN.out hrd.out hlb hadd2.out).mono ?_); rintro e w1 ⟨v1, rfl, hR1, hB1, hK1⟩; replace hR1 := A_ hR1; replace hB1 := A_ hB1; replace hK1 := A_ hK1))
    have HW5 := A_ (Kd.S_step HW.out (fun k hk hlt => hK1.out.2 k hlt (fun hh => by omega)))
    go_roundg (n - (b + 1))
    case measure => have := HBN.out; omega
    case rel => exact ⟨b + 1, by first | rfl | rw [hw3.out] | (congr 1; omega), HW5, ⟨Kd.R_mono hR1.out (fun k hk => hk.elim id (fun h2 => Nat.le_trans HZ.out h2))⟩, hB1, ⟨Nat.le_trans HZ.out hK1.out.1⟩, ⟨by omega, rfl⟩⟩
  have c1b := decide_eq_true c1
  have c1n : i < l0_2.length := by omega
  obtain ⟨ad1, e1, hx1⟩ := Kd.at_int (Kd.C_below HR.out HB.out) (i : Int) (by omega) (by omega)
  rw [Int.toNat_natCast] at hx1
  have p1 : (0 ≤ (i : Int)) = True := eq_true (by omega)
  have q1 : ((i : Int) < (l0_2.length : Int)) = True := eq_true c1
  cases e1
  clear c1
  have hdr : l0_2.drop i = rd l0_2 (i : Int) :: l0_2.drop (i + 1) := by
   rw [List.drop_eq_getElem_cons c1n]
   congr 1
   simp [rd, c1n]
  have hK := HK.out
  rw [hdr] at hK
  generalize rd l0_2 (i : Int) = x at *
  replace HK := A_ (show Kings.waysK spec_kiNumbers.c2 spec_kiNumbers.v2 (fun m => spec_kiNumbers.popN m C) n (l0_2.drop (i + 1)) (Kings.nextK spec_kiNumbers.c2 spec_kiNumbers.v2 (fun m => spec_kiNumbers.popN m C) n K x) = _ from hK)
  clear hdr hK
  have hyb := blk_cell HO.out 1
  have hsh2 := hsh.out
  obtain ⟨W0, rfl⟩ : ∃ x, x = wr := ⟨wr, rfl⟩
  obtain ⟨W4, hW4⟩ : ∃ x, x = W0.alloc (.cells (madeCells #[.slice none 0 0] n) 22) := ⟨_, rfl⟩
  have b4 : Below W0.heap.size W0 W4 := by rw [hW4]; exact below_alloc (Below.refl _ _) _
  have s4 : W4.heap.size = W0.heap.size + 1 := by rw [hW4]; simp
  have m4 : W4.heap[W0.heap.size]? = some (.cells (madeCells #[.slice none 0 0] n) 22 (0, 0)) := by rw [hW4]; exact blk_new _ _
  have hlW := HB.out.size
  have hbx := Cap.lt_of_at HO.out
  have n4 : Kd.S (Kd.slice 3 (Kd.int .i64)) 22 W4 w.heap.size (fun k => W0.heap.size ≤ k) (.slice (some ⟨W0.heap.size, 0, none⟩) n n) (spec_kiNumbers.nextU C n K x 0) := by rw [spec_kiNumbers.nextU_zero]; exact Cap.S_made m4 hlW (by omega) (Nat.le_refl _)
  have w4 : Kd.S (Kd.slice 3 (Kd.int .i64)) 22 W4 w.heap.size (fun k => k ≠ w.heap.size ∧ k < W0.heap.size) (.slice (some ⟨g, 0, none⟩) n n) K := Kd.S_below (Kd.S_mono (Kd.S_bound HS.out) (fun k hk => ⟨hk.1, hk.2.2.1⟩)) b4
  have c4 : Below w.heap.size w W4 := below_then HB.out HB.out.size b4
  have o4 := blk_below HO.out b4
  replace n4 := A_ n4
  replace w4 := A_ w4
  replace c4 := A_ c4
  replace o4 := A_ o4
  have hlW' := A_ hlW
  have hbx' := A_ hbx
  clear m4 b4 hlW hbx HS HB HO
  go_wp2
  rw [← hW4]
  clear hW4 hsh2 hx1 hyb
  go_loopg [35] n (fun q v35 W' => ∃ (m : Nat), v35 = .int .i64 m ∧ Aside0 (Kd.S (Kd.slice 3 (Kd.int .i64)) 22 W' w.heap.size (fun k => k ≠ w.heap.size ∧ k < W0.heap.size) (.slice (some ⟨g, 0, none⟩) n n) K) ∧ Aside0 (Kd.S (Kd.slice 3 (Kd.int .i64)) 22 W' w.heap.size (fun k => W0.heap.size ≤ k) (.slice (some ⟨W0.heap.size, 0, none⟩) n n) (spec_kiNumbers.nextU C n K x m)) ∧ Aside0 (Below w.heap.size w W') ∧ Aside0 (W'.heap[w.heap.size]? = some (.cells #[.int .i64 a0_0, .int .i64 (C : Int), .slice (some ad1) l0_2.length c0_2] 26 (0, 0))) ∧ Aside0 (m ≤ n ∧ q = n - m))
  case atStart => exact ⟨0, rfl, w4, n4, c4, o4, ⟨⟨Nat.zero_le _, rfl⟩⟩⟩
  case round =>
   obtain ⟨m, rfl, HW, HN, HB, HO, HM⟩ := hrel
   clear n4 w4 c4 o4
   by_cases c2 : m < n
   case neg =>
    have hmn : m = n := by have := HM.out; omega
    subst hmn
    have c2d := decide_eq_false c2
    have c2c : decide ((m : Int) < (m : Int)) = false := decide_eq_false (by omega)
    have HN2 := HN.out
    rw [spec_kiNumbers.nextU_all] at HN2
    have HN3 := A_ (Kd.S_mono HN2 (ok' := fun k => k ≠ w.heap.size) (fun k hk => by have := hbx'.out; omega))
    clear HN2 HN
    go_wp2
    go_roundg (l0_2.length - (i + 1))
    case measure => have := HI.out; omega
    case rel => exact ⟨i + 1, W0.heap.size, _, by first | rfl | (congr 1; have := HL6.out; unfold wrap64; omega), rfl, HN3, HB, HO, ⟨by omega, rfl⟩, HK, ⟨fun j => by have := spec_kiNumbers.next_len (n := m) (x := x) (fun q => Nat.le_trans (spec_kiNumbers.popN_le q C) hc6') HLN.out j; omega⟩⟩
   have c2b := decide_eq_true c2
   have c2c : decide ((m : Int) < (n : Int)) = true := decide_eq_true (by omega)
   have hw2 : Aside0 (wrap64 ((m : Int) + 1) = ((m + 1 : Nat) : Int)) := ⟨by unfold wrap64; omega⟩
   by_cases t1 : Go.bits .andNot .i64 (m : Int) x = 0
   case neg =>
    have t1b : (Go.bits .andNot .i64 (m : Int) x != 0) = true := bne_iff_ne.mpr t1
    have hv : spec_kiNumbers.v2 x m = false := by unfold spec_kiNumbers.v2; rw [beq_eq_false_iff_ne.mpr t1]; rfl
    go_wp2
    go_roundg (n - (m + 1))
    case measure => have := HM.out; omega
    case rel => exact ⟨m + 1, by first | rfl | rw [hw2.out] | (congr 1; omega), HW, by rw [spec_kiNumbers.nextU_skip _ _ _ _ _ hv]; exact HN, HB, HO, ⟨by omega, rfl⟩⟩
   by_cases t2 : Go.bits .and .i64 (m : Int) ((m : Int) * 2) = 0
   case neg =>
    have t1b : (Go.bits .andNot .i64 (m : Int) x != 0) = false := bne_eq_false_iff_eq.mpr t1
    have t2b : (Go.bits .and .i64 (m : Int) ((m : Int) * 2) != 0) = true := bne_iff_ne.mpr t2
    have hv : spec_kiNumbers.v2 x m = false := by unfold spec_kiNumbers.v2; rw [beq_eq_false_iff_ne.mpr t2, Bool.and_false]
    go_wp2
    go_roundg (n - (m + 1))
    case measure => have := HM.out; omega
    case rel => exact ⟨m + 1, by first | rfl | rw [hw2.out] | (congr 1; omega), HW, by rw [spec_kiNumbers.nextU_skip _ _ _ _ _ hv]; exact HN, HB, HO, ⟨by omega, rfl⟩⟩
   have t1b : (Go.bits .andNot .i64 (m : Int) x != 0) = false := bne_eq_false_iff_eq.mpr t1
   have t2b : (Go.bits .and .i64 (m : Int) ((m : Int) * 2) != 0) = false := bne_eq_false_iff_eq.mpr t2
   have hv : Aside0 (spec_kiNumbers.v2 x m = true) := ⟨by unfold spec_kiNumbers.v2; rw [t1, t2]; rfl⟩
   obtain ⟨V0, rfl⟩ : ∃ x, x = wr := ⟨wr, rfl⟩
   go_wp2
   clear t1 t2
   go_loopg [8, 9] C (fun q v8 v9 W' => ∃ (c : Nat), v8 = .int .i64 (spec_kiNumbers.popN m c : Nat) ∧ v9 = .int .i64 c ∧ W' = V0 ∧ Aside0 (c ≤ C ∧ q = C - c))
   case atStart => exact ⟨0, rfl, rfl, rfl, ⟨⟨Nat.zero_le _, rfl⟩⟩⟩
   case round =>
    obtain ⟨c, rfl, rfl, rfl, HCC⟩ := hrel
    have hyb := blk_cell HO.out 1
    have hpl := spec_kiNumbers.popN_le m c
    by_cases c3 : c < C
    case neg =>
     have hcC : C = c := by have := HCC.out; omega
     subst hcC
     have c3b : decide ((C : Int) < (C : Int)) = false := decide_eq_false (by omega)
     have hkg6 : spec_kiNumbers.popN m C ≤ 6 := Nat.le_trans hpl hc6'
     go_wp2
     clear hyb c3 c3b hpl
     have HN0 := A_ (show Kd.S (Kd.slice 3 (Kd.int .i64)) 22 wr w.heap.size (fun k => W0.heap.size ≤ k) (.slice (some ⟨W0.heap.size, 0, none⟩) n n) ((spec_kiNumbers.nextU C n K x m).set m (Kings.foldK spec_kiNumbers.c2 K m (spec_kiNumbers.popN m C) 0)) by
      rw [Kings.foldK, spec_kiNumbers.set_same (spec_kiNumbers.nextU_get C n K x m)]; exact HN.out)
     clear HN
     go_loopg [63] n (fun q v63 W' => ∃ (b : Nat), v63 = .int .i64 b ∧ Aside0 (Kd.S (Kd.slice 3 (Kd.int .i64)) 22 W' w.heap.size (fun k => k ≠ w.heap.size ∧ k < W0.heap.size) (.slice (some ⟨g, 0, none⟩) n n) K) ∧ Aside0 (Kd.S (Kd.slice 3 (Kd.int .i64)) 22 W' w.heap.size (fun k => W0.heap.size ≤ k) (.slice (some ⟨W0.heap.size, 0, none⟩) n n) ((spec_kiNumbers.nextU C n K x m).set m (Kings.foldK spec_kiNumbers.c2 K m (spec_kiNumbers.popN m C) b))) ∧ Aside0 (Below w.heap.size w W') ∧ Aside0 (W'.heap[w.heap.size]? = some (.cells #[.int .i64 a0_0, .int .i64 (C : Int), .slice (some ad1) l0_2.length c0_2] 26 (0, 0))) ∧ Aside0 (b ≤ n ∧ q = n - b))
     case atStart => exact ⟨0, rfl, HW, HN0, HB, HO, ⟨⟨Nat.zero_le _, rfl⟩⟩⟩
     case round =>
      obtain ⟨b, rfl, HW, HN, HB, HO, HBN⟩ := hrel
      clear HN0
      by_cases c3 : b < n
      case neg =>
       have hbn : b = n := by have := HBN.out; omega
       have c3b := decide_eq_false c3
       have c3c : decide ((b : Int) < (n : Int)) = false := decide_eq_false (by omega)
       have HN2 := HN.out
       rw [hbn, spec_kiNumbers.nextU_put _ _ _ _ _ hv.out] at HN2
       have HN3 := A_ HN2
       clear HN2 HN hbn
       go_wp2
       go_roundg (n - (m + 1))
       case measure => have := HM.out; omega
       case rel => exact ⟨m + 1, by first | rfl | rw [hw2.out] | (congr 1; omega), HW, HN3, HB, HO, ⟨by omega, rfl⟩⟩
      have c3b := decide_eq_true c3
      have c3c : decide ((b : Int) < (n : Int)) = true := decide_eq_true (by omega)
      have p3 : (0 ≤ (b : Int)) = True := eq_true (by omega)
      have q3 : ((b : Int) < (n : Int)) = True := eq_true (by omega)
      have hw3 : Aside0 (wrap64 ((b : Int) + 1) = ((b + 1 : Nat) : Int)) := ⟨by unfold wrap64; omega⟩
      obtain ⟨okb, vb, hRb, hcb, hfb, hokb, hgb, _⟩ := Cap.S_swap HW.out c3
      generalize hrw : K.getD b [] = row at hRb
      have HRW := A_ hrw
      clear hrw
      obtain ⟨Ab, cb, rfl⟩ := Kd.R_slice hRb
      have hlb := (Kd.R_reads' hRb).2.1
      have HRb := A_ hRb
      have Hokb := A_ hokb
      clear hRb hokb hfb hgb
      by_cases t3 : Go.bits .and .i64 (b : Int) (Go.bits .or .i64 (Go.bits .or .i64 (m : Int) ((m : Int) * 2)) ((m : Int) / 2)) = 0
      case neg =>
       have t3b : (Go.bits .and .i64 (b : Int) (Go.bits .or .i64 (Go.bits .or .i64 (m : Int) ((m : Int) * 2)) ((m : Int) / 2)) == 0) = false := beq_eq_false_iff_ne.mpr t3
       have hc2 : spec_kiNumbers.c2 m b = false := t3b
       clear t3
       go_wp2
       go_roundg (n - (b + 1))
       case measure => have := HBN.out; omega
       case rel => exact ⟨b + 1, by first | rfl | rw [hw3.out] | (congr 1; omega), HW, by rw [Kings.foldK, if_neg (by rw [hc2]; simp)]; exact HN, HB, HO, ⟨by omega, rfl⟩⟩
      have t3b : (Go.bits .and .i64 (b : Int) (Go.bits .or .i64 (Go.bits .or .i64 (m : Int) ((m : Int) * 2)) ((m : Int) / 2)) == 0) = true := beq_iff_eq.mpr t3
      have hc2 : Aside0 (spec_kiNumbers.c2 m b = true) := ⟨t3b⟩
      have p4 : (0 ≤ (m : Int)) = True := eq_true (by omega)
      have q4 : ((m : Int) < (n : Int)) = True := eq_true (by omega)
      obtain ⟨okN, vN, hRN, hcN, hfN, hokN, hgN, hback⟩ := Cap.S_swap HN.out c2
      rw [spec_kiNumbers.set_get (by simp [spec_kiNumbers.nextU]; exact c2)] at hRN
      have HRN := A_ hRN
      have HokN := A_ hokN
      have Hback := A_ hback
      clear hRN hokN hback t3
      have hrd : Aside0 (∀ W_, Kept wr W_ (fun k_ => okN k_) → Kd.C (Kd.int .i64) W_ Ab row.length row) := ⟨fun W_ hk => (Kd.R_reads' (Kd.R_kept HRb.out hk (fun k h1 h2 => by have := (Hokb.out k h1).1.2; have := (HokN.out k h2).1; omega))).2.2⟩
      have hadd2 : Aside0 (spec_kiAdd.f k (Kings.foldK spec_kiNumbers.c2 K m (spec_kiNumbers.popN m C) b) row ((spec_kiNumbers.popN m C : Nat) : Int) = some (Kings.foldK spec_kiNumbers.c2 K m (spec_kiNumbers.popN m C) (b + 1))) := ⟨by
       rw [Kings.foldK, if_pos hc2.out, HRW.out]
       refine HADD.out _ _ _ ?_ ?_ hkg6
       ·
        have := spec_kiNumbers.fold_len m hkg6 HLN.out b; have := HL6.out; have := HI.out; omega
       ·
        have h1 := HLN.out b; rw [HRW.out] at h1; have := HL6.out; have := HI.out; omega⟩
      go_wp2_with (first | (go_at_call 185; (with_reducible refine (spec_kiAdd.calls k okN vN _ Ab cb _ _ _ w _ HB.out HRN.out hrd.out hlb hadd2.out).mono ?_); rintro e w1 ⟨v1, rfl, hR1, hB1, hK1⟩; obtain ⟨A1, cc1, rfl⟩ := Kd.R_slice hR1; obtain ⟨e1, e2, e3⟩ := Hback.out w1 _ _ hK1 hR1 (fun k hk => Nat.le_trans (by have := HB.out.size; omega) hk); rw [List.set_set] at e3; replace e3 := A_ e3; replace hR1 := A_ hR1; replace hB1 := A_ hB1; replace hK1 := A_ hK1))
      have HW5 := A_ (Kd.S_far (Kd.S_step HW.out (fun k hk hlt => hK1.out.2 k hlt (fun hh => by have := (HokN.out k hh).1; omega))) (p := ⟨W0.heap.size, m, none⟩) (fun k hk => by show k ≠ W0.heap.size; omega) (.slice A1 (Kings.foldK spec_kiNumbers.c2 K m (spec_kiNumbers.popN m C) (b + 1)).length cc1))
      have HB5 := A_ (hB1.out.setCell (p := ⟨W0.heap.size, m, none⟩) hlW'.out (.slice A1 (Kings.foldK spec_kiNumbers.c2 K m (spec_kiNumbers.popN m C) (b + 1)).length cc1))
      have HO5 := A_ ((Cap.setCell_ne (W := w1) (p := ⟨W0.heap.size, m, none⟩) (v := .slice A1 (Kings.foldK spec_kiNumbers.c2 K m (spec_kiNumbers.popN m C) (b + 1)).length cc1) (show w.heap.size ≠ W0.heap.size by have := hbx'.out; omega)).trans ((hK1.out.2 _ (Cap.lt_of_at HO.out) (fun hh => by have := (HokN.out _ hh).1; have := hbx'.out; omega)).trans HO.out))
      go_roundg (n - (b + 1))
      case measure => have := HBN.out; omega
      case rel => exact ⟨b + 1, by first | rfl | rw [hw3.out] | (congr 1; omega), HW5, e3, HB5, HO5, ⟨by omega, rfl⟩⟩
    have c3b : decide ((c : Int) < (C : Int)) = true := decide_eq_true (by omega)
    go_wp2
    go_roundg (C - (c + 1))
    case measure => have := HCC.out; omega
    case rel => exact ⟨c + 1, by first | rfl | rw [spec_kiNumbers.pop_step m c (by omega)], by first | rfl | (congr 1; unfold wrap64; omega), rfl, ⟨by omega, rfl⟩⟩

/-! ### spec_l1Most: function 196 -/
def spec_l1Most.f (a0 : Int) (a1 : Int) : Option (Int) := if a0 > a1 then (some a0) else (some a1)
theorem spec_l1Most.calls (a0 : Int) (a1 : Int) (r : Int) (w : World) (h : spec_l1Most.f a0 a1 = some r) :
  Calls Try.prog 196 #[.int .i64 a0, .int .i64 a1] w fun e w' => e = .returned (.int .i64 r) ∧ Drawn0 w w' := by
 have H : (if a0 > a1 then (some a0) else (some a1)) = some r := h
 clear h
 by_cases c3 : a0 > a1
 ·
  rw [if_pos c3] at H
  have c3b0 := decide_eq_true c3
  clear c3
  obtain rfl := Option.some.inj H
  go_enter Try.func196, Try.ntmps196
  go_wp2
  go_ret
  exact ⟨tf_, dr_⟩
 ·
  rw [if_neg c3] at H
  have c3b0 := decide_eq_false c3
  clear c3
  obtain rfl := Option.some.inj H
  go_enter Try.func196, Try.ntmps196
  go_wp2
  go_ret
  exact ⟨tf_, dr_⟩

/-! ### spec_l1Abs: function 193 -/
def spec_l1Abs.f (a0 : Int) : Option (Int) := (spec_l1Most.f a0 (wrap64 (-a0))).bind fun t753 => (some t753)
theorem spec_l1Abs.calls (a0 : Int) (r : Int) (w : World) (h : spec_l1Abs.f a0 = some r) :
  Calls Try.prog 193 #[.int .i64 a0] w fun e w' => e = .returned (.int .i64 r) ∧ Drawn0 w w' := by
 have H : ((spec_l1Most.f a0 (wrap64 (-a0))).bind fun t753 => (some t753)) = some r := h
 clear h
 replace H := Option.bind_eq_some_iff.mp H
 obtain ⟨t753, A20, H⟩ := H
 replace H : (some t753) = some r := H
 have A2 := A_ A20
 clear A20
 obtain rfl := Option.some.inj H
 go_enter Try.func193, Try.ntmps193
 go_wp2_with (first | (refine gc_ 196 ?_; refine goesT_ (some 6) Try.func196 #[.int .i64 a0, .int .i64 (wrap64 (-a0))] ?_; (with_reducible refine (spec_l1Most.calls a0 (wrap64 (-a0)) t753 _ A2.out).mono ?_); rintro e w' ⟨rfl, ⟨nd, rfl⟩⟩; refine ⟨_, rfl, ?_⟩))
 go_ret
 exact ⟨tf_, dr_⟩

/-! ### spec_biAttack: function 215 -/
def spec_biAttack.f (l0 : List Int) (l1 : List Int) : Option (Bool) := if 0 < (l0.length : Int) then (if 0 < (l1.length : Int) then ((spec_l1Abs.f (wrap64 ((rd l0 0) - (rd l1 0)))).bind fun t756 => (if 1 < (l0.length : Int) then (if 1 < (l1.length : Int) then ((spec_l1Abs.f (wrap64 ((rd l0 1) - (rd l1 1)))).bind fun t759 => (some (t756 == t759))) else (none)) else (none))) else (none)) else (none)
theorem spec_biAttack.calls (A0 : Option Addr) (c0 : Nat) (l0 : List Int) (A1 : Option Addr) (c1 : Nat) (l1 : List Int) (r : Bool) (w : World) (hr0 : Kd.C (Kd.int .i64) w A0 l0.length l0) (hc0 : l0.length ≤ c0) (hr1 : Kd.C (Kd.int .i64) w A1 l1.length l1) (hc1 : l1.length ≤ c1) (h : spec_biAttack.f l0 l1 = some r) :
  Calls Try.prog 215 #[.slice A0 l0.length c0, .slice A1 l1.length c1] w fun e w' => e = .returned (.bool r) ∧ Drawn0 w w' := by
 have HR0 := A_ hr0
 have HC0 := A_ hc0
 clear hr0 hc0
 have HR1 := A_ hr1
 have HC1 := A_ hc1
 clear hr1 hc1
 have H : (if 0 < (l0.length : Int) then (if 0 < (l1.length : Int) then ((spec_l1Abs.f (wrap64 ((rd l0 0) - (rd l1 0)))).bind fun t756 => (if 1 < (l0.length : Int) then (if 1 < (l1.length : Int) then ((spec_l1Abs.f (wrap64 ((rd l0 1) - (rd l1 1)))).bind fun t759 => (some (t756 == t759))) else (none)) else (none))) else (none)) else (none)) = some r := h
 clear h
 by_cases c3 : 0 < (l0.length : Int)
 ·
  rw [if_pos c3] at H
  have c3b0 := decide_eq_true c3
  have c3b1 : decide (0 < l0.length) = true := decide_eq_true (by omega)
  clear c3
  by_cases c4 : 0 < (l1.length : Int)
  ·
   rw [if_pos c4] at H
   have c4b0 := decide_eq_true c4
   have c4b1 : decide (0 < l1.length) = true := decide_eq_true (by omega)
   clear c4
   replace H := Option.bind_eq_some_iff.mp H
   obtain ⟨t756, A50, H⟩ := H
   replace H : (if 1 < (l0.length : Int) then (if 1 < (l1.length : Int) then ((spec_l1Abs.f (wrap64 ((rd l0 1) - (rd l1 1)))).bind fun t759 => (some (t756 == t759))) else (none)) else (none)) = some r := H
   have A5 := A_ A50
   clear A50
   by_cases c6 : 1 < (l0.length : Int)
   ·
    rw [if_pos c6] at H
    have c6b0 := decide_eq_true c6
    have c6b1 : decide (1 < l0.length) = true := decide_eq_true (by omega)
    clear c6
    by_cases c7 : 1 < (l1.length : Int)
    ·
     rw [if_pos c7] at H
     have c7b0 := decide_eq_true c7
     have c7b1 : decide (1 < l1.length) = true := decide_eq_true (by omega)
     clear c7
     replace H := Option.bind_eq_some_iff.mp H
     obtain ⟨t759, A80, H⟩ := H
     replace H : (some (t756 == t759)) = some r := H
     have A8 := A_ A80
     clear A80
     obtain rfl := Option.some.inj H
     have p754 : 0 ≤ (0 : Int) := (by omega)
     have q754 : 0 < (l0.length : Int) := od_
     obtain ⟨ad754, e754, hx754_0⟩ := Kd.at_int HR0.out 0 p754 q754
     cases e754
     have qi754 : (0 < l0.length) = True := eq_true (by omega)
     (try rw [show ((0 : Int)).toNat = 0 from rfl] at hx754_0)
     (try rw [Addr.add_zero'] at hx754_0)
     replace p754 := eq_true p754
     replace q754 := eq_true q754
     have p755 : 0 ≤ (0 : Int) := (by omega)
     have q755 : 0 < (l1.length : Int) := od_
     obtain ⟨ad755, e755, hx755_0⟩ := Kd.at_int HR1.out 0 p755 q755
     cases e755
     have qi755 : (0 < l1.length) = True := eq_true (by omega)
     (try rw [show ((0 : Int)).toNat = 0 from rfl] at hx755_0)
     (try rw [Addr.add_zero'] at hx755_0)
     replace p755 := eq_true p755
     replace q755 := eq_true q755
     have p757 : 0 ≤ (1 : Int) := (by omega)
     have q757 : 1 < (l0.length : Int) := od_
     obtain ⟨ad757, e757, hx757_0⟩ := Kd.at_int HR0.out 1 p757 q757
     obtain rfl : ad754 = ad757 := (by injection e757)
     (try simp only [show (1 : Int).toNat = 1 from rfl, Nat.reduceMul, Nat.reduceEqDiff, Go.Addr.add, ↓reduceIte] at hx757_0)
     have qi757 : (1 < l0.length) = True := eq_true (by omega)
     (try rw [show ((1 : Int)).toNat = 1 from rfl] at hx757_0)
     replace p757 := eq_true p757
     replace q757 := eq_true q757
     have p758 : 0 ≤ (1 : Int) := (by omega)
     have q758 : 1 < (l1.length : Int) := od_
     obtain ⟨ad758, e758, hx758_0⟩ := Kd.at_int HR1.out 1 p758 q758
     obtain rfl : ad755 = ad758 := (by injection e758)
     (try simp only [show (1 : Int).toNat = 1 from rfl, Nat.reduceMul, Nat.reduceEqDiff, Go.Addr.add, ↓reduceIte] at hx758_0)
     have qi758 : (1 < l1.length) = True := eq_true (by omega)
     (try rw [show ((1 : Int)).toNat = 1 from rfl] at hx758_0)
     replace p758 := eq_true p758
     replace q758 := eq_true q758
     go_enter Try.func215, Try.ntmps215
     go_wp2_with (first | (go_at_call 193; (with_reducible refine (spec_l1Abs.calls (wrap64 ((rd l0 0) - (rd l1 0))) t756 _ A5.out).mono ?_); rintro e w' ⟨rfl, ⟨nd, rfl⟩⟩; (try exact dn_)) | (go_at_call 193; (with_reducible refine (spec_l1Abs.calls (wrap64 ((rd l0 1) - (rd l1 1))) t759 _ A8.out).mono ?_); rintro e w' ⟨rfl, ⟨nd, rfl⟩⟩; (try exact dn_)))
     repeat (go_quiet (first | (go_at_call 193; (with_reducible refine (spec_l1Abs.calls (wrap64 ((rd l0 0) - (rd l1 0))) t756 _ A5.out).mono ?_); rintro e w' ⟨rfl, ⟨nd, rfl⟩⟩; (try exact dn_)) | (go_at_call 193; (with_reducible refine (spec_l1Abs.calls (wrap64 ((rd l0 1) - (rd l1 1))) t759 _ A8.out).mono ?_); rintro e w' ⟨rfl, ⟨nd, rfl⟩⟩; (try exact dn_))); try go_wp2_with (first | (go_at_call 193; (with_reducible refine (spec_l1Abs.calls (wrap64 ((rd l0 0) - (rd l1 0))) t756 _ A5.out).mono ?_); rintro e w' ⟨rfl, ⟨nd, rfl⟩⟩; (try exact dn_)) | (go_at_call 193; (with_reducible refine (spec_l1Abs.calls (wrap64 ((rd l0 1) - (rd l1 1))) t759 _ A8.out).mono ?_); rintro e w' ⟨rfl, ⟨nd, rfl⟩⟩; (try exact dn_))))
     go_ret
     exact ⟨tf_, dr_⟩
    ·
     rw [if_neg c7] at H
     exact absurd H (by simp)
   ·
    rw [if_neg c6] at H
    exact absurd H (by simp)
  ·
   rw [if_neg c4] at H
   exact absurd H (by simp)
 ·
  rw [if_neg c3] at H
  exact absurd H (by simp)

/-! ### spec_biNear: function 216 -/
def spec_biNear.f (l0 : List Int) (l1 : List Int) : Option (Bool) := if 0 < (l0.length : Int) then (if 0 < (l1.length : Int) then ((spec_l1Abs.f (wrap64 ((rd l0 0) - (rd l1 0)))).bind fun t762 => (if t762 ≤ 1 then (if 1 < (l0.length : Int) then (if 1 < (l1.length : Int) then ((spec_l1Abs.f (wrap64 ((rd l0 1) - (rd l1 1)))).bind fun t765 => (some (decide (t765 ≤ 1)))) else (none)) else (none)) else (some false))) else (none)) else (none)
theorem spec_biNear.calls (A0 : Option Addr) (c0 : Nat) (l0 : List Int) (A1 : Option Addr) (c1 : Nat) (l1 : List Int) (r : Bool) (w : World) (hr0 : Kd.C (Kd.int .i64) w A0 l0.length l0) (hc0 : l0.length ≤ c0) (hr1 : Kd.C (Kd.int .i64) w A1 l1.length l1) (hc1 : l1.length ≤ c1) (h : spec_biNear.f l0 l1 = some r) :
  Calls Try.prog 216 #[.slice A0 l0.length c0, .slice A1 l1.length c1] w fun e w' => e = .returned (.bool r) ∧ Drawn0 w w' := by
 have HR0 := A_ hr0
 have HC0 := A_ hc0
 clear hr0 hc0
 have HR1 := A_ hr1
 have HC1 := A_ hc1
 clear hr1 hc1
 have H : (if 0 < (l0.length : Int) then (if 0 < (l1.length : Int) then ((spec_l1Abs.f (wrap64 ((rd l0 0) - (rd l1 0)))).bind fun t762 => (if t762 ≤ 1 then (if 1 < (l0.length : Int) then (if 1 < (l1.length : Int) then ((spec_l1Abs.f (wrap64 ((rd l0 1) - (rd l1 1)))).bind fun t765 => (some (decide (t765 ≤ 1)))) else (none)) else (none)) else (some false))) else (none)) else (none)) = some r := h
 clear h
 by_cases c3 : 0 < (l0.length : Int)
 ·
  rw [if_pos c3] at H
  have c3b0 := decide_eq_true c3
  have c3b1 : decide (0 < l0.length) = true := decide_eq_true (by omega)
  clear c3
  by_cases c4 : 0 < (l1.length : Int)
  ·
   rw [if_pos c4] at H
   have c4b0 := decide_eq_true c4
   have c4b1 : decide (0 < l1.length) = true := decide_eq_true (by omega)
   clear c4
   replace H := Option.bind_eq_some_iff.mp H
   obtain ⟨t762, A50, H⟩ := H
   replace H : (if t762 ≤ 1 then (if 1 < (l0.length : Int) then (if 1 < (l1.length : Int) then ((spec_l1Abs.f (wrap64 ((rd l0 1) - (rd l1 1)))).bind fun t765 => (some (decide (t765 ≤ 1)))) else (none)) else (none)) else (some false)) = some r := H
   have A5 := A_ A50
   clear A50
   by_cases c6 : t762 ≤ 1
   ·
    rw [if_pos c6] at H
    have c6b0 := decide_eq_true c6
    clear c6
    by_cases c7 : 1 < (l0.length : Int)
    ·
     rw [if_pos c7] at H
     have c7b0 := decide_eq_true c7
     have c7b1 : decide (1 < l0.length) = true := decide_eq_true (by omega)
     clear c7
     by_cases c8 : 1 < (l1.length : Int)
     ·
      rw [if_pos c8] at H
      have c8b0 := decide_eq_true c8
      have c8b1 : decide (1 < l1.length) = true := decide_eq_true (by omega)
      clear c8
      replace H := Option.bind_eq_some_iff.mp H
      obtain ⟨t765, A90, H⟩ := H
      replace H : (some (decide (t765 ≤ 1))) = some r := H
      have A9 := A_ A90
      clear A90
      obtain rfl := Option.some.inj H
      have p760 : 0 ≤ (0 : Int) := (by omega)
      have q760 : 0 < (l0.length : Int) := od_
      obtain ⟨ad760, e760, hx760_0⟩ := Kd.at_int HR0.out 0 p760 q760
      cases e760
      have qi760 : (0 < l0.length) = True := eq_true (by omega)
      (try rw [show ((0 : Int)).toNat = 0 from rfl] at hx760_0)
      (try rw [Addr.add_zero'] at hx760_0)
      replace p760 := eq_true p760
      replace q760 := eq_true q760
      have p761 : 0 ≤ (0 : Int) := (by omega)
      have q761 : 0 < (l1.length : Int) := od_
      obtain ⟨ad761, e761, hx761_0⟩ := Kd.at_int HR1.out 0 p761 q761
      cases e761
      have qi761 : (0 < l1.length) = True := eq_true (by omega)
      (try rw [show ((0 : Int)).toNat = 0 from rfl] at hx761_0)
      (try rw [Addr.add_zero'] at hx761_0)
      replace p761 := eq_true p761
      replace q761 := eq_true q761
      have p763 : 0 ≤ (1 : Int) := (by omega)
      have q763 : 1 < (l0.length : Int) := od_
      obtain ⟨ad763, e763, hx763_0⟩ := Kd.at_int HR0.out 1 p763 q763
      obtain rfl : ad760 = ad763 := (by injection e763)
      (try simp only [show (1 : Int).toNat = 1 from rfl, Nat.reduceMul, Nat.reduceEqDiff, Go.Addr.add, ↓reduceIte] at hx763_0)
      have qi763 : (1 < l0.length) = True := eq_true (by omega)
      (try rw [show ((1 : Int)).toNat = 1 from rfl] at hx763_0)
      replace p763 := eq_true p763
      replace q763 := eq_true q763
      have p764 : 0 ≤ (1 : Int) := (by omega)
      have q764 : 1 < (l1.length : Int) := od_
      obtain ⟨ad764, e764, hx764_0⟩ := Kd.at_int HR1.out 1 p764 q764
      obtain rfl : ad761 = ad764 := (by injection e764)
      (try simp only [show (1 : Int).toNat = 1 from rfl, Nat.reduceMul, Nat.reduceEqDiff, Go.Addr.add, ↓reduceIte] at hx764_0)
      have qi764 : (1 < l1.length) = True := eq_true (by omega)
      (try rw [show ((1 : Int)).toNat = 1 from rfl] at hx764_0)
      replace p764 := eq_true p764
      replace q764 := eq_true q764
      go_enter Try.func216, Try.ntmps216
      go_wp2_with (first | (go_at_call 193; (with_reducible refine (spec_l1Abs.calls (wrap64 ((rd l0 0) - (rd l1 0))) t762 _ A5.out).mono ?_); rintro e w' ⟨rfl, ⟨nd, rfl⟩⟩; (try exact dn_)) | (go_at_call 193; (with_reducible refine (spec_l1Abs.calls (wrap64 ((rd l0 1) - (rd l1 1))) t765 _ A9.out).mono ?_); rintro e w' ⟨rfl, ⟨nd, rfl⟩⟩; (try exact dn_)))
      repeat (go_quiet (first | (go_at_call 193; (with_reducible refine (spec_l1Abs.calls (wrap64 ((rd l0 0) - (rd l1 0))) t762 _ A5.out).mono ?_); rintro e w' ⟨rfl, ⟨nd, rfl⟩⟩; (try exact dn_)) | (go_at_call 193; (with_reducible refine (spec_l1Abs.calls (wrap64 ((rd l0 1) - (rd l1 1))) t765 _ A9.out).mono ?_); rintro e w' ⟨rfl, ⟨nd, rfl⟩⟩; (try exact dn_))); try go_wp2_with (first | (go_at_call 193; (with_reducible refine (spec_l1Abs.calls (wrap64 ((rd l0 0) - (rd l1 0))) t762 _ A5.out).mono ?_); rintro e w' ⟨rfl, ⟨nd, rfl⟩⟩; (try exact dn_)) | (go_at_call 193; (with_reducible refine (spec_l1Abs.calls (wrap64 ((rd l0 1) - (rd l1 1))) t765 _ A9.out).mono ?_); rintro e w' ⟨rfl, ⟨nd, rfl⟩⟩; (try exact dn_))))
      go_ret
      exact ⟨tf_, dr_⟩
     ·
      rw [if_neg c8] at H
      exact absurd H (by simp)
    ·
     rw [if_neg c7] at H
     exact absurd H (by simp)
   ·
    rw [if_neg c6] at H
    have c6b0 := decide_eq_false c6
    clear c6
    obtain rfl := Option.some.inj H
    have p760 : 0 ≤ (0 : Int) := (by omega)
    have q760 : 0 < (l0.length : Int) := od_
    obtain ⟨ad760, e760, hx760_0⟩ := Kd.at_int HR0.out 0 p760 q760
    cases e760
    have qi760 : (0 < l0.length) = True := eq_true (by omega)
    (try rw [show ((0 : Int)).toNat = 0 from rfl] at hx760_0)
    (try rw [Addr.add_zero'] at hx760_0)
    replace p760 := eq_true p760
    replace q760 := eq_true q760
    have p761 : 0 ≤ (0 : Int) := (by omega)
    have q761 : 0 < (l1.length : Int) := od_
    obtain ⟨ad761, e761, hx761_0⟩ := Kd.at_int HR1.out 0 p761 q761
    cases e761
    have qi761 : (0 < l1.length) = True := eq_true (by omega)
    (try rw [show ((0 : Int)).toNat = 0 from rfl] at hx761_0)
    (try rw [Addr.add_zero'] at hx761_0)
    replace p761 := eq_true p761
    replace q761 := eq_true q761
    go_enter Try.func216, Try.ntmps216
    go_wp2_with (first | (go_at_call 193; (with_reducible refine (spec_l1Abs.calls (wrap64 ((rd l0 0) - (rd l1 0))) t762 _ A5.out).mono ?_); rintro e w' ⟨rfl, ⟨nd, rfl⟩⟩; (try exact dn_)))
    repeat (go_quiet (first | (go_at_call 193; (with_reducible refine (spec_l1Abs.calls (wrap64 ((rd l0 0) - (rd l1 0))) t762 _ A5.out).mono ?_); rintro e w' ⟨rfl, ⟨nd, rfl⟩⟩; (try exact dn_))); try go_wp2_with (first | (go_at_call 193; (with_reducible refine (spec_l1Abs.calls (wrap64 ((rd l0 0) - (rd l1 0))) t762 _ A5.out).mono ?_); rintro e w' ⟨rfl, ⟨nd, rfl⟩⟩; (try exact dn_))))
    go_ret
    exact ⟨tf_, dr_⟩
  ·
   rw [if_neg c4] at H
   exact absurd H (by simp)
 ·
  rw [if_neg c3] at H
  exact absurd H (by simp)

/-! ### spec_biDisturb: function 186 -/
def spec_biDisturb.f (l0 : List Int) (l1 : List Int) (a2 : Int) : Option (Bool) := if a2 = 0 then ((spec_biAttack.f l0 l1).bind fun t766 => (some t766)) else (if a2 = 1 then ((spec_biNear.f l0 l1).bind fun t767 => (some t767)) else ((spec_biAttack.f l0 l1).bind fun t768 => (if t768 = true then (some true) else (if 0 < (l0.length : Int) then (if 0 < (l1.length : Int) then (if (rd l0 0) = (rd l1 0) then (some true) else (if 1 < (l0.length : Int) then (if 1 < (l1.length : Int) then (some ((rd l0 1) == (rd l1 1))) else (none)) else (none))) else (none)) else (none)))))
theorem spec_biDisturb.calls (A0 : Option Addr) (c0 : Nat) (l0 : List Int) (A1 : Option Addr) (c1 : Nat) (l1 : List Int) (a2 : Int) (r : Bool) (w : World) (hr0 : Kd.C (Kd.int .i64) w A0 l0.length l0) (hc0 : l0.length ≤ c0) (hr1 : Kd.C (Kd.int .i64) w A1 l1.length l1) (hc1 : l1.length ≤ c1) (h : spec_biDisturb.f l0 l1 a2 = some r) :
  Calls Try.prog 186 #[.slice A0 l0.length c0, .slice A1 l1.length c1, .int .i64 a2] w fun e w' => e = .returned (.bool r) ∧ Drawn0 w w' := by
 have HR0 := A_ hr0
 have HC0 := A_ hc0
 clear hr0 hc0
 have HR1 := A_ hr1
 have HC1 := A_ hc1
 clear hr1 hc1
 have H : (if a2 = 0 then ((spec_biAttack.f l0 l1).bind fun t766 => (some t766)) else (if a2 = 1 then ((spec_biNear.f l0 l1).bind fun t767 => (some t767)) else ((spec_biAttack.f l0 l1).bind fun t768 => (if t768 = true then (some true) else (if 0 < (l0.length : Int) then (if 0 < (l1.length : Int) then (if (rd l0 0) = (rd l1 0) then (some true) else (if 1 < (l0.length : Int) then (if 1 < (l1.length : Int) then (some ((rd l0 1) == (rd l1 1))) else (none)) else (none))) else (none)) else (none)))))) = some r := h
 clear h
 by_cases c4 : a2 = 0
 ·
  rw [if_pos c4] at H
  have c4b0 : (a2 == 0) = true := beq_iff_eq.mpr c4
  have c4b1 : (a2 != 0) = false := bne_eq_false_iff_eq.mpr c4
  clear c4
  replace H := Option.bind_eq_some_iff.mp H
  obtain ⟨t766, A50, H⟩ := H
  replace H : (some t766) = some r := H
  have A5 := A_ A50
  clear A50
  obtain rfl := Option.some.inj H
  go_enter Try.func186, Try.ntmps186
  go_wp2_with (first | (go_at_call 215; (with_reducible refine (spec_biAttack.calls _ _ l0 _ _ l1 t766 _ ?side1 ?side2 ?side3 ?side4 A5.out).mono ?_); (case side1 => exact tc0_ HR0.out); (case side2 => exact HC0.out); (case side3 => exact tc0_ HR1.out); (case side4 => exact HC1.out); rintro e w' ⟨rfl, ⟨nd, rfl⟩⟩; (try exact dn_)))
  repeat (go_quiet (first | (go_at_call 215; (with_reducible refine (spec_biAttack.calls _ _ l0 _ _ l1 t766 _ ?side1 ?side2 ?side3 ?side4 A5.out).mono ?_); (case side1 => exact tc0_ HR0.out); (case side2 => exact HC0.out); (case side3 => exact tc0_ HR1.out); (case side4 => exact HC1.out); rintro e w' ⟨rfl, ⟨nd, rfl⟩⟩; (try exact dn_))); try go_wp2_with (first | (go_at_call 215; (with_reducible refine (spec_biAttack.calls _ _ l0 _ _ l1 t766 _ ?side1 ?side2 ?side3 ?side4 A5.out).mono ?_); (case side1 => exact tc0_ HR0.out); (case side2 => exact HC0.out); (case side3 => exact tc0_ HR1.out); (case side4 => exact HC1.out); rintro e w' ⟨rfl, ⟨nd, rfl⟩⟩; (try exact dn_))))
  go_ret
  exact ⟨tf_, dr_⟩
 ·
  rw [if_neg c4] at H
  have c4b0 : (a2 == 0) = false := beq_eq_false_iff_ne.mpr c4
  have c4b1 : (a2 != 0) = true := bne_iff_ne.mpr c4
  by_cases c6 : a2 = 1
  ·
   rw [if_pos c6] at H
   have c6b0 : (a2 == 1) = true := beq_iff_eq.mpr c6
   have c6b1 : (a2 != 1) = false := bne_eq_false_iff_eq.mpr c6
   clear c6
   replace H := Option.bind_eq_some_iff.mp H
   obtain ⟨t767, A70, H⟩ := H
   replace H : (some t767) = some r := H
   have A7 := A_ A70
   clear A70
   obtain rfl := Option.some.inj H
   go_enter Try.func186, Try.ntmps186
   go_wp2_with (first | (go_at_call 216; (with_reducible refine (spec_biNear.calls _ _ l0 _ _ l1 t767 _ ?side1 ?side2 ?side3 ?side4 A7.out).mono ?_); (case side1 => exact tc0_ HR0.out); (case side2 => exact HC0.out); (case side3 => exact tc0_ HR1.out); (case side4 => exact HC1.out); rintro e w' ⟨rfl, ⟨nd, rfl⟩⟩; (try exact dn_)))
   repeat (go_quiet (first | (go_at_call 216; (with_reducible refine (spec_biNear.calls _ _ l0 _ _ l1 t767 _ ?side1 ?side2 ?side3 ?side4 A7.out).mono ?_); (case side1 => exact tc0_ HR0.out); (case side2 => exact HC0.out); (case side3 => exact tc0_ HR1.out); (case side4 => exact HC1.out); rintro e w' ⟨rfl, ⟨nd, rfl⟩⟩; (try exact dn_))); try go_wp2_with (first | (go_at_call 216; (with_reducible refine (spec_biNear.calls _ _ l0 _ _ l1 t767 _ ?side1 ?side2 ?side3 ?side4 A7.out).mono ?_); (case side1 => exact tc0_ HR0.out); (case side2 => exact HC0.out); (case side3 => exact tc0_ HR1.out); (case side4 => exact HC1.out); rintro e w' ⟨rfl, ⟨nd, rfl⟩⟩; (try exact dn_))))
   go_ret
   exact ⟨tf_, dr_⟩
  ·
   rw [if_neg c6] at H
   have c6b0 : (a2 == 1) = false := beq_eq_false_iff_ne.mpr c6
   have c6b1 : (a2 != 1) = true := bne_iff_ne.mpr c6
   replace H := Option.bind_eq_some_iff.mp H
   obtain ⟨t768, A80, H⟩ := H
   replace H : (if t768 = true then (some true) else (if 0 < (l0.length : Int) then (if 0 < (l1.length : Int) then (if (rd l0 0) = (rd l1 0) then (some true) else (if 1 < (l0.length : Int) then (if 1 < (l1.length : Int) then (some ((rd l0 1) == (rd l1 1))) else (none)) else (none))) else (none)) else (none))) = some r := H
   have A8 := A_ A80
   clear A80
   by_cases c9 : t768 = true
   ·
    subst c9
    have H1 : (some true) = some r := by rw [if_pos rfl] at H; exact H
    clear H
    have H := H1
    clear H1
    obtain rfl := Option.some.inj H
    go_enter Try.func186, Try.ntmps186
    go_wp2_with (first | (go_at_call 215; (with_reducible refine (spec_biAttack.calls _ _ l0 _ _ l1 true _ ?side1 ?side2 ?side3 ?side4 A8.out).mono ?_); (case side1 => exact tc0_ HR0.out); (case side2 => exact HC0.out); (case side3 => exact tc0_ HR1.out); (case side4 => exact HC1.out); rintro e w' ⟨rfl, ⟨nd, rfl⟩⟩; (try exact dn_)))
    repeat (go_quiet (first | (go_at_call 215; (with_reducible refine (spec_biAttack.calls _ _ l0 _ _ l1 true _ ?side1 ?side2 ?side3 ?side4 A8.out).mono ?_); (case side1 => exact tc0_ HR0.out); (case side2 => exact HC0.out); (case side3 => exact tc0_ HR1.out); (case side4 => exact HC1.out); rintro e w' ⟨rfl, ⟨nd, rfl⟩⟩; (try exact dn_))); try go_wp2_with (first | (go_at_call 215; (with_reducible refine (spec_biAttack.calls _ _ l0 _ _ l1 true _ ?side1 ?side2 ?side3 ?side4 A8.out).mono ?_); (case side1 => exact tc0_ HR0.out); (case side2 => exact HC0.out); (case side3 => exact tc0_ HR1.out); (case side4 => exact HC1.out); rintro e w' ⟨rfl, ⟨nd, rfl⟩⟩; (try exact dn_))))
    go_ret
    exact ⟨tf_, dr_⟩
   ·
    replace c9 := Bool.eq_false_iff.mpr c9
    subst c9
    have H1 : (if 0 < (l0.length : Int) then (if 0 < (l1.length : Int) then (if (rd l0 0) = (rd l1 0) then (some true) else (if 1 < (l0.length : Int) then (if 1 < (l1.length : Int) then (some ((rd l0 1) == (rd l1 1))) else (none)) else (none))) else (none)) else (none)) = some r := by rw [if_neg (show ¬ (false = true) by decide)] at H; exact H
    clear H
    have H := H1
    clear H1
    by_cases c10 : 0 < (l0.length : Int)
    ·
     rw [if_pos c10] at H
     have c10b0 := decide_eq_true c10
     have c10b1 : decide (0 < l0.length) = true := decide_eq_true (by omega)
     clear c10
     by_cases c11 : 0 < (l1.length : Int)
     ·
      rw [if_pos c11] at H
      have c11b0 := decide_eq_true c11
      have c11b1 : decide (0 < l1.length) = true := decide_eq_true (by omega)
      clear c11
      by_cases c12 : (rd l0 0) = (rd l1 0)
      ·
       rw [if_pos c12] at H
       have c12b0 : ((rd l0 0) == (rd l1 0)) = true := beq_iff_eq.mpr c12
       have c12b1 : ((rd l0 0) != (rd l1 0)) = false := bne_eq_false_iff_eq.mpr c12
       clear c12
       obtain rfl := Option.some.inj H
       have p769 : 0 ≤ (0 : Int) := (by omega)
       have q769 : 0 < (l0.length : Int) := od_
       obtain ⟨ad769, e769, hx769_0⟩ := Kd.at_int HR0.out 0 p769 q769
       cases e769
       have qi769 : (0 < l0.length) = True := eq_true (by omega)
       (try rw [show ((0 : Int)).toNat = 0 from rfl] at hx769_0)
       (try rw [Addr.add_zero'] at hx769_0)
       replace p769 := eq_true p769
       replace q769 := eq_true q769
       have p770 : 0 ≤ (0 : Int) := (by omega)
       have q770 : 0 < (l1.length : Int) := od_
       obtain ⟨ad770, e770, hx770_0⟩ := Kd.at_int HR1.out 0 p770 q770
       cases e770
       have qi770 : (0 < l1.length) = True := eq_true (by omega)
       (try rw [show ((0 : Int)).toNat = 0 from rfl] at hx770_0)
       (try rw [Addr.add_zero'] at hx770_0)
       replace p770 := eq_true p770
       replace q770 := eq_true q770
       go_enter Try.func186, Try.ntmps186
       go_wp2_with (first | (go_at_call 215; (with_reducible refine (spec_biAttack.calls _ _ l0 _ _ l1 false _ ?side1 ?side2 ?side3 ?side4 A8.out).mono ?_); (case side1 => exact tc0_ HR0.out); (case side2 => exact HC0.out); (case side3 => exact tc0_ HR1.out); (case side4 => exact HC1.out); rintro e w' ⟨rfl, ⟨nd, rfl⟩⟩; (try exact dn_)))
       repeat (go_quiet (first | (go_at_call 215; (with_reducible refine (spec_biAttack.calls _ _ l0 _ _ l1 false _ ?side1 ?side2 ?side3 ?side4 A8.out).mono ?_); (case side1 => exact tc0_ HR0.out); (case side2 => exact HC0.out); (case side3 => exact tc0_ HR1.out); (case side4 => exact HC1.out); rintro e w' ⟨rfl, ⟨nd, rfl⟩⟩; (try exact dn_))); try go_wp2_with (first | (go_at_call 215; (with_reducible refine (spec_biAttack.calls _ _ l0 _ _ l1 false _ ?side1 ?side2 ?side3 ?side4 A8.out).mono ?_); (case side1 => exact tc0_ HR0.out); (case side2 => exact HC0.out); (case side3 => exact tc0_ HR1.out); (case side4 => exact HC1.out); rintro e w' ⟨rfl, ⟨nd, rfl⟩⟩; (try exact dn_))))
       go_ret
       exact ⟨tf_, dr_⟩
      ·
       rw [if_neg c12] at H
       have c12b0 : ((rd l0 0) == (rd l1 0)) = false := beq_eq_false_iff_ne.mpr c12
       have c12b1 : ((rd l0 0) != (rd l1 0)) = true := bne_iff_ne.mpr c12
       by_cases c13 : 1 < (l0.length : Int)
       ·
        rw [if_pos c13] at H
        have c13b0 := decide_eq_true c13
        have c13b1 : decide (1 < l0.length) = true := decide_eq_true (by omega)
        clear c13
        by_cases c14 : 1 < (l1.length : Int)
        ·
         rw [if_pos c14] at H
         have c14b0 := decide_eq_true c14
         have c14b1 : decide (1 < l1.length) = true := decide_eq_true (by omega)
         clear c14
         obtain rfl := Option.some.inj H
         have p769 : 0 ≤ (0 : Int) := (by omega)
         have q769 : 0 < (l0.length : Int) := od_
         obtain ⟨ad769, e769, hx769_0⟩ := Kd.at_int HR0.out 0 p769 q769
         cases e769
         have qi769 : (0 < l0.length) = True := eq_true (by omega)
         (try rw [show ((0 : Int)).toNat = 0 from rfl] at hx769_0)
         (try rw [Addr.add_zero'] at hx769_0)
         replace p769 := eq_true p769
         replace q769 := eq_true q769
         have p770 : 0 ≤ (0 : Int) := (by omega)
         have q770 : 0 < (l1.length : Int) := od_
         obtain ⟨ad770, e770, hx770_0⟩ := Kd.at_int HR1.out 0 p770 q770
         cases e770
         have qi770 : (0 < l1.length) = True := eq_true (by omega)
         (try rw [show ((0 : Int)).toNat = 0 from rfl] at hx770_0)
         (try rw [Addr.add_zero'] at hx770_0)
         replace p770 := eq_true p770
         replace q770 := eq_true q770
         have p771 : 0 ≤ (1 : Int) := (by omega)
         have q771 : 1 < (l0.length : Int) := od_
         obtain ⟨ad771, e771, hx771_0⟩ := Kd.at_int HR0.out 1 p771 q771
         obtain rfl : ad769 = ad771 := (by injection e771)
         (try simp only [show (1 : Int).toNat = 1 from rfl, Nat.reduceMul, Nat.reduceEqDiff, Go.Addr.add, ↓reduceIte] at hx771_0)
         have qi771 : (1 < l0.length) = True := eq_true (by omega)
         (try rw [show ((1 : Int)).toNat = 1 from rfl] at hx771_0)
         replace p771 := eq_true p771
         replace q771 := eq_true q771
         have p772 : 0 ≤ (1 : Int) := (by omega)
         have q772 : 1 < (l1.length : Int) := od_
         obtain ⟨ad772, e772, hx772_0⟩ := Kd.at_int HR1.out 1 p772 q772
         obtain rfl : ad770 = ad772 := (by injection e772)
         (try simp only [show (1 : Int).toNat = 1 from rfl, Nat.reduceMul, Nat.reduceEqDiff, Go.Addr.add, ↓reduceIte] at hx772_0)
         have qi772 : (1 < l1.length) = True := eq_true (by omega)
         (try rw [show ((1 : Int)).toNat = 1 from rfl] at hx772_0)
         replace p772 := eq_true p772
         replace q772 := eq_true q772
         go_enter Try.func186, Try.ntmps186
         go_wp2_with (first | (go_at_call 215; (with_reducible refine (spec_biAttack.calls _ _ l0 _ _ l1 false _ ?side1 ?side2 ?side3 ?side4 A8.out).mono ?_); (case side1 => exact tc0_ HR0.out); (case side2 => exact HC0.out); (case side3 => exact tc0_ HR1.out); (case side4 => exact HC1.out); rintro e w' ⟨rfl, ⟨nd, rfl⟩⟩; (try exact dn_)))
         repeat (go_quiet (first | (go_at_call 215; (with_reducible refine (spec_biAttack.calls _ _ l0 _ _ l1 false _ ?side1 ?side2 ?side3 ?side4 A8.out).mono ?_); (case side1 => exact tc0_ HR0.out); (case side2 => exact HC0.out); (case side3 => exact tc0_ HR1.out); (case side4 => exact HC1.out); rintro e w' ⟨rfl, ⟨nd, rfl⟩⟩; (try exact dn_))); try go_wp2_with (first | (go_at_call 215; (with_reducible refine (spec_biAttack.calls _ _ l0 _ _ l1 false _ ?side1 ?side2 ?side3 ?side4 A8.out).mono ?_); (case side1 => exact tc0_ HR0.out); (case side2 => exact HC0.out); (case side3 => exact tc0_ HR1.out); (case side4 => exact HC1.out); rintro e w' ⟨rfl, ⟨nd, rfl⟩⟩; (try exact dn_))))
         go_ret
         exact ⟨tf_, dr_⟩
        ·
         rw [if_neg c14] at H
         exact absurd H (by simp)
       ·
        rw [if_neg c13] at H
        exact absurd H (by simp)
     ·
      rw [if_neg c11] at H
      exact absurd H (by simp)
    ·
     rw [if_neg c10] at H
     exact absurd H (by simp)

/-! ### spec_biFirst: function 105 -/
mutual
def spec_biFirst.f (all : List (List Int)) (kd : Int) : Nat → List (List Int) → Int → Int → Option (List (List Int) × Bool)
 | 0, _, _, _ => none
 | n + 1, q, fr, kk => if kk = 0 then some (q, true) else spec_biFirst.l0 all kd n q fr kk
def spec_biFirst.l0 (all : List (List Int)) (kd : Int) : Nat → List (List Int) → Int → Int → Option (List (List Int) × Bool)
 | 0, _, _, _ => none
 | n + 1, q, i, kk => if wrap64 (i + kk) ≤ (all.length : Int) then (if 0 ≤ i then (if i < (all.length : Int) then spec_biFirst.l1 all kd n q i kk true 0 else none) else none) else some ([], false)
def spec_biFirst.l1 (all : List (List Int)) (kd : Int) : Nat → List (List Int) → Int → Int → Bool → Int → Option (List (List Int) × Bool)
 | 0, _, _, _, _, _ => none
 | n + 1, q, i, kk, b, j => if j < (q.length : Int) then (if 0 ≤ j then (if b = true then ((spec_biDisturb.f (all.getD i.toNat []) (q.getD j.toNat []) kd).bind fun t => spec_biFirst.l1 all kd n q i kk (!t) (wrap64 (j + 1))) else spec_biFirst.l1 all kd n q i kk false (wrap64 (j + 1))) else none) else (if b = true then (if q.length < 5864062014805 then ((spec_biFirst.f all kd n (q ++ [all.getD i.toNat []]) (wrap64 (i + 1)) (wrap64 (kk - 1))).bind fun r => if r.2 = true then some (r.1, true) else spec_biFirst.l0 all kd n q (wrap64 (i + 1)) kk) else none) else spec_biFirst.l0 all kd n q (wrap64 (i + 1)) kk)
end
theorem spec_biFirst.mono_l (all : List (List Int)) (kd : Int) : ∀ k, (∀ q fr kk, LeO (spec_biFirst.f all kd k q fr kk) (spec_biFirst.f all kd (k + 1) q fr kk)) ∧ (∀ q i kk, LeO (spec_biFirst.l0 all kd k q i kk) (spec_biFirst.l0 all kd (k + 1) q i kk)) ∧ (∀ q i kk b j, LeO (spec_biFirst.l1 all kd k q i kk b j) (spec_biFirst.l1 all kd (k + 1) q i kk b j))
 | 0 => ⟨fun _ _ _ r h => by simp [spec_biFirst.f] at h, fun _ _ _ r h => by simp [spec_biFirst.l0] at h, fun _ _ _ _ _ r h => by simp [spec_biFirst.l1] at h⟩
 | k + 1 => by
  obtain ⟨i0, i1, i2⟩ := spec_biFirst.mono_l all kd k
  refine ⟨?_, ?_, ?_⟩
  ·
   intro q fr kk
   unfold spec_biFirst.f
   exact LeO.ite (LeO.refl _) (i1 _ _ _)
  ·
   intro q i kk
   unfold spec_biFirst.l0
   refine LeO.ite ?_ (LeO.refl _)
   refine LeO.ite ?_ (LeO.refl _)
   exact LeO.ite (i2 _ _ _ _ _) (LeO.refl _)
  ·
   intro q i kk b j
   unfold spec_biFirst.l1
   refine LeO.ite ?_ ?_
   ·
    refine LeO.ite ?_ (LeO.refl _)
    exact LeO.ite (LeO.bind (LeO.refl _) (fun _ => i2 _ _ _ _ _)) (i2 _ _ _ _ _)
   ·
    refine LeO.ite ?_ (i1 _ _ _)
    refine LeO.ite ?_ (LeO.refl _)
    exact LeO.bind (i0 _ _ _) (fun _ => LeO.ite (LeO.refl _) (i1 _ _ _))
theorem spec_biFirst.mono (all : List (List Int)) (kd : Int) (q : List (List Int)) (fr kk : Int) (k : Nat) : LeO (spec_biFirst.f all kd k q fr kk) (spec_biFirst.f all kd (k + 1) q fr kk) := (spec_biFirst.mono_l all kd k).1 _ _ _
theorem spec_biFirst.gb {W w1 : World} (hg : W.grownBy w1 none) : Below W.heap.size W w1 := ⟨hg.os, hg.tape, hg.output, hg.size, fun k hk => hg.block k hk (by simp)⟩
set_option maxHeartbeats 16000000 in
set_option maxRecDepth 100000 in
theorem spec_biFirst.calls (w0 : World) (U : Nat → Prop) (bI : Nat) (R C : Int) (Ab : Option Addr) (lb : List Int) (cb : Nat) (Aa : Option Addr) (ca : Nat) (all : List (List Int)) (kd : Int) (hA0 : (Cap.lent 3 bI U w0).C w0 Aa all.length all) (hU0 : ∀ ad, Aa = some ad → U ad.block) (hul0 : ∀ j, U j → j < w0.heap.size) (hc0 : all.length ≤ ca) (k : Nat) :
  ∀ (W : World) (vq : Value) (q : List (List Int)) (fr kk : Int) (r1 : List (List Int)) (r2 : Bool) (hB : Below w0.heap.size w0 W) (hQ : (Cap.lent 3 bI U w0).R 22 W w0.heap.size (fun j => some j = vq.ownBlock) vq q) (h : spec_biFirst.f all kd k q fr kk = some (r1, r2)),
  Calls Try.prog 105 #[.agg #[.int .i64 R, .int .i64 C, .slice Ab lb.length cb], .slice Aa all.length ca, vq, .int .i64 fr, .int .i64 kk, .int .i64 kd] W fun e W' => ∃ v0_ : Value, e = .returned (.tuple #[v0_, .bool r2]) ∧ (Cap.lent 3 bI U w0).R 22 W' w0.heap.size (fun j => some j = v0_.ownBlock) v0_ r1 ∧ Below W.heap.size W W' := by
 have hA := A_ hA0
 have hU := A_ hU0
 have hul := A_ hul0
 have hC := A_ hc0
 clear hA0 hU0 hul0 hc0
 induction k using Nat.strongRecOn with
 | _ k ih =>
 intro W vq q fr kk r1 r2 hB hQ h
 cases k with
 | zero => exact absurd h (by simp [spec_biFirst.f])
 | succ k =>
 simp only [spec_biFirst.f] at h
 obtain ⟨Aq, cq, rfl⟩ := Kd.R_slice hQ
 have HB := A_ hB
 have HQ := A_ hQ
 clear hB hQ
 have hu26 := Try.underlying26
 by_cases c1 : kk = 0
 ·
  rw [if_pos c1] at h
  have c1b0 : (kk == 0) = true := beq_iff_eq.mpr c1
  clear c1
  obtain ⟨rfl, rfl⟩ := Prod.mk.inj (Option.some.inj h)
  clear h
  go_enter Try.func105, Try.ntmps105
  go_wp2
  go_ret2
  exact ⟨_, rfl, Kd.R_alloc HQ.out _, below_alloc (Below.refl _ _) _⟩
 rw [if_neg c1] at h
 have c1b0 : (kk == 0) = false := beq_eq_false_iff_ne.mpr c1
 clear c1
 obtain ⟨Wb, hWb⟩ : ∃ Wb, Wb = W.alloc (.cells #[.int .i64 R, .int .i64 C, .slice Ab lb.length cb] 26) := ⟨_, rfl⟩
 have hbb : Below W.heap.size W Wb := by rw [hWb]; exact below_alloc (Below.refl _ _) _
 have hb0 : Below w0.heap.size w0 Wb := below_then HB.out HB.out.size hbb
 have hbk : Wb.heap[W.heap.size]? = some (.cells #[.int .i64 R, .int .i64 C, .slice Ab lb.length cb] 26 (0, 0)) := by rw [hWb]; exact blk_new _ _
 have hQb := Kd.R_below HQ.out hbb
 have HBB := A_ hbb
 have HB0 := A_ hb0
 have HBK := A_ hbk
 have HQB := A_ hQb
 clear hbb hb0 hbk hQb
 have hAW : ∀ W', Below Wb.heap.size Wb W' → (Cap.lent 3 bI U w0).C W' Aa all.length all := fun W' hb => Cap.lent_same hA.out (fun ad ha => (below_then HB0.out HB0.out.size hb).block _ (hul.out _ (hU.out ad ha)))
 have HAW := A_ hAW
 clear hAW
 have hread : ∀ W' x cs, Below Wb.heap.size Wb W' → Cap.Lent 3 bI U w0 x cs → ∃ A c, cs = [.slice A x.length c] ∧ x.length ≤ c ∧ (Kd.int .i64).C W' A x.length x := fun W' x cs hb hl => (hl.move (fun j hj => (below_then HB0.out HB0.out.size hb).block _ (hul.out _ hj))).cell
 have HRD := A_ hread
 clear hread
 replace h := A_ h
 go_enter Try.func105, Try.ntmps105
 go_wp2
 rw [← hWb]
 go_loopg [14] k (fun n v14 W' => ∃ (i : Int), v14 = .int .i64 i ∧ Aside0 (spec_biFirst.l0 all kd n q i kk = some (r1, r2)) ∧ Aside0 (n ≤ k) ∧ Aside0 (Below Wb.heap.size Wb W'))
 case atStart => exact ⟨fr, rfl, h, ⟨Nat.le_refl _⟩, ⟨Below.refl _ _⟩⟩
 case round =>
  clear h
  obtain ⟨i, rfl, HA, HK1, HW⟩ := hrel
  cases gk with
  | zero => exact absurd HA.out (by simp [spec_biFirst.l0])
  | succ k1 =>
  have H := HA.out
  clear HA
  simp only [spec_biFirst.l0] at H
  by_cases c2 : wrap64 (i + kk) ≤ (all.length : Int)
  case neg =>
   rw [if_neg c2] at H
   have c2b := decide_eq_false c2
   clear c2
   obtain ⟨rfl, rfl⟩ := Prod.mk.inj (Option.some.inj H)
   clear H
   go_wp2
   go_ret2
   exact ⟨_, rfl, Kd.R_mono (Kd.R_nil _ _ _ _ _) (fun _ hk => hk), below_then HBB.out HBB.out.size HW.out⟩
  rw [if_pos c2] at H
  have c2b := decide_eq_true c2
  clear c2
  by_cases c3 : 0 ≤ i
  case neg =>
   rw [if_neg c3] at H
   exact absurd H (by simp)
  rw [if_pos c3] at H
  by_cases c4 : i < (all.length : Int)
  case neg =>
   rw [if_neg c4] at H
   exact absurd H (by simp)
  rw [if_pos c4] at H
  replace H := A_ H
  have p3 := eq_true c3
  have p4 := eq_true c4
  obtain ⟨ad, cx0, e0, hcl0, hkx, hcc⟩ := Kd.C_get (HAW.out _ (Below.refl _ _)) [] i c3 c4
  obtain ⟨Ax, cx, rfl, hlx, hCx⟩ := Cap.Lent.cell hkx
  subst e0
  have hxe0 : Wb.cell? (ad.add i.toNat) = some (.slice Ax (all.getD i.toNat []).length cx) := by
   have := hcc 0 _ rfl
   simpa [Cap.lent] using this
  have HXE := A_ hxe0
  have HXL := A_ hkx
  have HLX := A_ hlx
  clear hcc hcl0 hxe0 hkx hlx hCx
  obtain ⟨x, hx⟩ : ∃ x, x = all.getD i.toNat [] := ⟨_, rfl⟩
  rw [← hx] at HXE HXL HLX
  have HX := A_ hx
  clear hx
  go_wp2
  go_loopg [15, 34] k1 (fun n v15 v34 W' => ∃ (b : Bool) (j : Int), v15 = .bool b ∧ v34 = .int .i64 j ∧ Aside0 (spec_biFirst.l1 all kd n q i kk b j = some (r1, r2)) ∧ Aside0 (n ≤ k1) ∧ Aside0 (Below Wb.heap.size Wb W'))
  case atStart => exact ⟨true, 0, rfl, rfl, H, ⟨Nat.le_refl _⟩, HW⟩
  case round =>
   clear H HW
   obtain ⟨b, j, rfl, rfl, HA, HK2, HW⟩ := hrel
   cases gk with
   | zero => exact absurd HA.out (by simp [spec_biFirst.l1])
   | succ k2 =>
   have H := HA.out
   clear HA
   simp only [spec_biFirst.l1] at H
   rw [← HX.out] at H
   have hxe := (HW.out.cell (World.block_lt_of_cell? Wb _ HXE.out)).trans HXE.out
   have hbk := blk_below HBK.out HW.out
   by_cases c5 : j < (q.length : Int)
   ·
    rw [if_pos c5] at H
    by_cases c6 : 0 ≤ j
    case neg =>
     rw [if_neg c6] at H
     exact absurd H (by simp)
    rw [if_pos c6] at H
    have c5b := decide_eq_true c5
    have p5 := eq_true c5
    have p6 := eq_true c6
    obtain ⟨adq, cy0, eq0, hcl0, hky, hcc⟩ := Kd.C_get (Kd.R_reads' (Kd.R_below HQB.out HW.out)).2.2 [] j c6 c5
    obtain ⟨Ay, cy, rfl, hly, hCy⟩ := Cap.Lent.cell hky
    subst eq0
    have hye := hcc 0 _ rfl
    simp only [Nat.add_zero] at hye
    rw [show j.toNat * (Cap.lent 3 bI U w0).sz = j.toNat from Nat.mul_one _] at hye
    generalize q.getD j.toNat [] = y at H hky hly hCy hye
    have HLY := A_ hly
    have HCY := A_ ((Cap.Lent.now hky (fun z hz => (below_then HB0.out HB0.out.size HW.out).block _ (hul.out _ hz))).2)
    have HCX := A_ ((Cap.Lent.now HXL.out (fun z hz => (below_then HB0.out HB0.out.size HW.out).block _ (hul.out _ hz))).2)
    clear hcc hcl0 hky hly hCy c5 c6
    cases b with
    | true =>
     rw [if_pos rfl] at H
     obtain ⟨t, A5, H⟩ := Option.bind_eq_some_iff.mp H
     replace A5 := A_ A5
     replace H := A_ H
     go_wp2_with (first | (go_at_call 186; (with_reducible refine (spec_biDisturb.calls Ax cx x Ay cy y kd t _ HCX.out HLX.out HCY.out HLY.out A5.out).mono ?_); rintro e w5 ⟨rfl, hd⟩; have HW5 := A_ (below_then HW.out HW.out.size hd.below); clear hd))
     go_roundg k2
     case measure => have := HK2.out; omega
     case rel => exact ⟨!t, wrap64 (j + 1), tf_, tf_, H, ⟨by have := HK2.out; omega⟩, HW5⟩
    | false =>
     rw [if_neg (by simp)] at H
     replace H := A_ H
     go_wp2
     go_roundg k2
     case measure => have := HK2.out; omega
     case rel => exact ⟨false, wrap64 (j + 1), tf_, tf_, H, ⟨by have := HK2.out; omega⟩, HW⟩
   ·
    rw [if_neg c5] at H
    have c5b := decide_eq_false c5
    clear c5
    cases b with
    | false =>
     rw [if_neg (by simp)] at H
     replace H := A_ H
     go_wp2
     go_roundg k2
     case measure => have := HK1.out; have := HK2.out; omega
     case rel => exact ⟨wrap64 (i + 1), tf_, H, ⟨by have := HK1.out; have := HK2.out; omega⟩, HW⟩
    | true =>
     rw [if_pos rfl] at H
     by_cases c7 : q.length < 5864062014805
     case neg =>
      rw [if_neg c7] at H
      exact absurd H (by simp)
     rw [if_pos c7] at H
     obtain ⟨⟨r3, b3⟩, A6, H⟩ := Option.bind_eq_some_iff.mp H
     replace A6 := A_ A6
     have C7 := A_ c7
     clear c7
     go_wp2
     refine start_ (n := 22) (S := fun w' => Below Wb.heap.size Wb w') (ds := []) (Fn.bl 22 0) (by kernel_rfl) rfl rfl (below_then HW.out HW.out.size (below_drew (Below.refl _ _))) (fun hHeld => ?_)
     clear HW hxe hbk
     generalize World.drew _ = w6 at hHeld ⊢
     refine take_ (i := 1) (N := some 54) (v := ?_) (a' := ?_) (Fn.bl 22 2) rfl rfl (by kernel_rfl) (fun _ _ _ h => h) (Or.inl ⟨by rfl, ?_⟩) hHeld ?_ ?_
     rotate_left
     ·
      intro w' s0
      go_simp
      with_reducible rfl
     rotate_left
     ·
      simp only [Act.put, List.setIfInBounds_toArray, List.set_cons_zero, List.set_cons_succ, i64_w, i32_w]
      rfl
     refine take_ (i := 3) (N := some 56) (v := ?_) (a' := ?_) (Fn.bl 22 10) rfl rfl (by kernel_rfl) (fun _ _ _ h => h) (Or.inl ⟨by rfl, ?_⟩) hHeld ?_ ?_
     rotate_left
     ·
      intro w' s0
      go_simp
      with_reducible rfl
     rotate_left
     ·
      simp only [Act.put, List.setIfInBounds_toArray, List.set_cons_zero, List.set_cons_succ, i64_w, i32_w]
      rfl
     refine take_ (i := 5) (N := some 58) (v := ?_) (a' := ?_) (Fn.bl 22 42) rfl rfl (by kernel_rfl) (fun _ _ _ h => h) (Or.inl ⟨by rfl, ?_⟩) hHeld ?_ ?_
     rotate_left
     ·
      intro w' s0
      go_simp
      with_reducible rfl
     rotate_left
     ·
      simp only [Act.put, List.setIfInBounds_toArray, List.set_cons_zero, List.set_cons_succ, i64_w, i32_w]
      rfl
     refine take_ (i := 6) (N := some 59) (v := ?_) (a' := ?_) (Fn.bl 22 106) rfl rfl (by kernel_rfl) (fun _ _ _ h => h) (Or.inl ⟨by rfl, ?_⟩) hHeld ?_ ?_
     rotate_left
     ·
      intro w' s0
      go_simp
      with_reducible rfl
     rotate_left
     ·
      simp only [Act.put, List.setIfInBounds_toArray, List.set_cons_zero, List.set_cons_succ, i64_w, i32_w]
      rfl
     refine take_ (i := 11) (N := some 64) (v := ?_) (a' := ?_) (Fn.bl 22 2154) rfl rfl (by kernel_rfl) (fun _ _ _ h => h) (Or.inl ⟨by rfl, ?_⟩) hHeld ?_ ?_
     rotate_left
     ·
      intro w' s0
      go_simp
      with_reducible rfl
     rotate_left
     ·
      simp only [Act.put, List.setIfInBounds_toArray, List.set_cons_zero, List.set_cons_succ, i64_w, i32_w]
      rfl
     refine take_ (i := 12) (N := some 65) (v := ?_) (a' := ?_) (Fn.bl 22 6250) rfl rfl (by kernel_rfl) (fun _ _ _ h => h) (Or.inl ⟨by rfl, ?_⟩) hHeld ?_ ?_
     rotate_left
     ·
      intro w' s0
      go_simp
      with_reducible rfl
     rotate_left
     ·
      simp only [Act.put, List.setIfInBounds_toArray, List.set_cons_zero, List.set_cons_succ, i64_w, i32_w]
      rfl
     refine take_ (i := 13) (N := some 66) (v := ?_) (a' := ?_) (Fn.bl 22 14442) rfl rfl (by kernel_rfl) (fun _ _ _ h => h) (Or.inl ⟨by rfl, ?_⟩) hHeld ?_ ?_
     rotate_left
     ·
      intro w' s0
      go_simp
      with_reducible rfl
     rotate_left
     ·
      simp only [Act.put, List.setIfInBounds_toArray, List.set_cons_zero, List.set_cons_succ, i64_w, i32_w]
      rfl
     refine take_ (i := 14) (N := some 67) (v := ?_) (a' := ?_) (Fn.bl 22 30826) rfl rfl (by kernel_rfl) (fun _ _ _ h => h) (Or.inl ⟨by rfl, ?_⟩) hHeld ?_ ?_
     rotate_left
     ·
      intro w' s0
      go_simp
      with_reducible rfl
     rotate_left
     ·
      simp only [Act.put, List.setIfInBounds_toArray, List.set_cons_zero, List.set_cons_succ, i64_w, i32_w]
      rfl
     refine take_ (i := 15) (N := some 68) (v := ?_) (a' := ?_) (Fn.bl 22 63594) rfl rfl (by kernel_rfl) (fun _ _ _ h => h) (Or.inl ⟨by rfl, ?_⟩) hHeld ?_ ?_
     rotate_left
     ·
      intro w' s0
      go_simp
      with_reducible rfl
     rotate_left
     ·
      simp only [Act.put, List.setIfInBounds_toArray, List.set_cons_zero, List.set_cons_succ, i64_w, i32_w]
      rfl
     refine take_ (i := 0) (N := some 53) (v := ?_) (a' := ?_) (Fn.bl 22 63595) rfl rfl (by kernel_rfl) (fun _ _ _ h => h) (Or.inl ⟨by rfl, ?_⟩) hHeld ?_ ?_
     rotate_left
     ·
      intro w' s0
      have h0 := blk_cell (blk_below HBK.out s0) 0
      have h1 := blk_cell (blk_below HBK.out s0) 1
      have h2 := blk_cell (blk_below HBK.out s0) 2
      go_simp
      with_reducible rfl
     rotate_left
     ·
      simp only [Act.put, List.setIfInBounds_toArray, List.set_cons_zero, List.set_cons_succ, i64_w, i32_w]
      rfl
     refine take_ (i := 7) (N := some 60) (v := ?_) (a' := ?_) (Fn.bl 22 63723) rfl rfl (by kernel_rfl) (fun _ _ _ h => h) (Or.inl ⟨by rfl, ?_⟩) hHeld ?_ ?_
     rotate_left
     ·
      intro w' s0
      go_simp
      with_reducible rfl
     rotate_left
     ·
      simp only [Act.put, List.setIfInBounds_toArray, List.set_cons_zero, List.set_cons_succ, i64_w, i32_w]
      rfl
     refine take_ (i := 8) (N := some 61) (v := ?_) (a' := ?_) (Fn.bl 22 63979) rfl rfl (by kernel_rfl) (fun _ _ _ h => h) (Or.inl ⟨by rfl, ?_⟩) hHeld ?_ ?_
     rotate_left
     ·
      intro w' s0
      have h0 := (s0.cell (World.block_lt_of_cell? Wb _ HXE.out)).trans HXE.out
      go_simp
      with_reducible rfl
     rotate_left
     ·
      simp only [Act.put, List.setIfInBounds_toArray, List.set_cons_zero, List.set_cons_succ, i64_w, i32_w]
      rfl
     have lim : ∀ w', Below Wb.heap.size Wb w' → Below w0.heap.size w0 w' := fun w' hb => below_then HB0.out HB0.out.size hb
     refine join_ (σ := Value × Value × Value) 7 (Fn.bl 22 64511) (fun s_ => [(55, s_.1), (57, s_.2.1), (62, s_.2.2)]) (fun s_ w' => ((Cap.lent 3 bI U w0).R 22 w' Wb.heap.size (fun j => some j = s_.2.1.ownBlock) s_.2.1 q) ∧ ((Cap.lent 3 bI U w0).R 22 w' Wb.heap.size (fun j => some j = s_.2.2.ownBlock) s_.2.2 [x]) ∧ (∀ j, some j = s_.2.2.ownBlock → some j ≠ s_.2.1.ownBlock) ∧ Below Wb.heap.size Wb w') ?_ ?_
     rotate_left
     ·
      intro hJ
      refine join_ (σ := Value × Value) 8 (Fn.bl 22 64495) (fun s_ => [(55, s_.1), (62, s_.2)]) (fun s_ w' => ((Cap.lent 3 bI U w0).R 22 w' Wb.heap.size (fun j => some j = s_.1.ownBlock) s_.1 []) ∧ ((Cap.lent 3 bI U w0).R 22 w' Wb.heap.size (fun j => some j = s_.2.ownBlock) s_.2 [x]) ∧ (∀ j, some j = s_.2.ownBlock → some j ≠ s_.1.ownBlock) ∧ Below Wb.heap.size Wb w') ?_ ?_
      rotate_left
      ·
       intro hM
       refine two_ (i := 2) (j := 9) (Ni := some 55) (Nj := some 62) (Fn.bl 22 63983) (Fn.bl 22 64491) rfl rfl rfl rfl (by kernel_rfl) (by decide) (by decide) (fun K hK => ?_) (fun K hK => ?_)
       ·
        refine Kd.R_lit_step (Cap.lent 3 bI U w0) (w0 := Wb) Wb.heap.size 22 (by rfl) (N := 55) rfl (xs := ([] : List (List Int))) (inner := ([] : List Value)) (ok := fun _ => True) (okp := fun _ => False) ?h1 ⟨by simp, fun j p hj => by simp at hj⟩ (fun _ hk => hk.elim) trivial hHeld hHeld.size (by simp) ?_
        case h1 => first | (go_simp; done) | (go_simp; rfl)
        intro v55 w7 ho_ hb7 hg_ hat_
        have h55 := Kd.R_tight (d := Cap.lent 3 bI U w0) rfl ho_
        have hf7 := spec_biFirst.gb hg_
        clear ho_ hg_
        refine hK.out _ _ hb7 (fun hHeld => ?_)
        clear hK K
        refine norm_ (a' := ?_) ?_ ?_
        rotate_left
        ·
         show Act.put _ (some 55) _ = _
         simp only [Act.put, List.setIfInBounds_toArray, List.set_cons_zero, List.set_cons_succ, i64_w, i32_w]
         rfl
        refine two_ (i := 4) (j := 9) (Ni := some 57) (Nj := some 62) (Fn.bl 22 63999) (Fn.bl 22 64495) rfl rfl rfl rfl (by kernel_rfl) (by decide) (by decide) (fun K hK => ?_) (fun K hK => ?_)
        ·
         refine Kd.R_append_rows_step (Cap.lent 3 bI U w0) (w0 := Wb) Wb.heap.size (by rfl) (.tmp 55) (.tmp 56) 41 22 (.slice none 0 0) 24 rfl Try.underlying41 info22 rfl (show 0 < 1 by decide) (by omega) v55 [] q Aq q.length cq (fun _ => True) (fun _ => False) rfl rfl (Kd.R_mono h55 (fun _ _ => trivial)) (Kd.R_reads' (Kd.R_below HQB.out hHeld)).2.2 (fun _ _ hh => hh) (fun _ hk => hk.elim) (fun _ _ => trivial) hHeld hHeld.size (by have := C7.out; simp; omega) ?_
         intro v57 w8 ho_ hb8 hg_ hat_
         rw [List.nil_append] at ho_
         have h57 := Kd.R_tight (d := Cap.lent 3 bI U w0) rfl ho_
         clear ho_ hg_ hat_
         refine hK.out _ _ hb8 (fun hHeld => ?_)
         clear hK K
         refine norm_ (a' := ?_) ?_ ?_
         rotate_left
         ·
          show Act.put _ (some 57) _ = _
          simp only [Act.put, List.setIfInBounds_toArray, List.set_cons_zero, List.set_cons_succ, i64_w, i32_w]
          rfl
         refine one_ (i := 9) (N := some 62) (Fn.bl 22 64511) rfl rfl (by kernel_rfl) (by decide) (fun K hK => ?_)
         refine Kd.R_lit_step (Cap.lent 3 bI U w0) (w0 := Wb) Wb.heap.size 22 (by rfl) (N := 62) rfl (xs := [x]) (inner := [.slice Ax x.length cx]) (ok := fun _ => True) (okp := fun _ => False) ?h1 ⟨by simp [Cap.lent], fun j p hj => by cases j with | zero => (obtain rfl := Option.some.inj hj; exact HXL.out) | succ j => simp at hj⟩ (fun _ hk => hk.elim) trivial hHeld hHeld.size (by simp) ?_
         case h1 => first | (go_simp; done) | (go_simp; rfl)
         intro v62 w9 ho_ hb9 hg_ hat_
         have h62 := Kd.R_tight (d := Cap.lent 3 bI U w0) rfl ho_
         have hf9 := spec_biFirst.gb hg_
         obtain ⟨b62, eb62, hb62⟩ := hat_
         refine hK.out _ _ hb9 (fun hHeld => ?_)
         clear hK K
         exact norm_ (by first | (simp only [putAll, Act.put, List.setIfInBounds_toArray, List.set_cons_zero, List.set_cons_succ]; done) | (simp only [putAll, Act.put, List.setIfInBounds_toArray, List.set_cons_zero, List.set_cons_succ]; rfl)) (hJ (v55, v57, v62) _ ⟨Kd.R_below h57 hf9, h62, fun j e1 e2 => by (have e3 := e1.trans eb62; have e4 := Option.some.inj e3; have := Kd.R_lt h57 j e2.symm; omega), hb9⟩)
        ·
         refine Kd.R_lit_step (Cap.lent 3 bI U w0) (w0 := Wb) Wb.heap.size 22 (by rfl) (N := 62) rfl (xs := [x]) (inner := [.slice Ax x.length cx]) (ok := fun _ => True) (okp := fun _ => False) ?h1 ⟨by simp [Cap.lent], fun j p hj => by cases j with | zero => (obtain rfl := Option.some.inj hj; exact HXL.out) | succ j => simp at hj⟩ (fun _ hk => hk.elim) trivial hHeld hHeld.size (by simp) ?_
         case h1 => first | (go_simp; done) | (go_simp; rfl)
         intro v62 w8 ho_ hb8 hg_ hat_
         have h62 := Kd.R_tight (d := Cap.lent 3 bI U w0) rfl ho_
         have hf8 := spec_biFirst.gb hg_
         obtain ⟨b62, eb62, hb62⟩ := hat_
         refine hK.out _ _ hb8 (fun hHeld => ?_)
         clear hK K
         exact norm_ (by first | (simp only [putAll, Act.put, List.setIfInBounds_toArray, List.set_cons_zero, List.set_cons_succ]; done) | (simp only [putAll, Act.put, List.setIfInBounds_toArray, List.set_cons_zero, List.set_cons_succ]; rfl)) (hM (v55, v62) _ ⟨Kd.R_below h55 hf8, h62, fun j e1 e2 => by (have e3 := e1.trans eb62; have e4 := Option.some.inj e3; have := Kd.R_lt h55 j e2.symm; omega), hb8⟩)
       ·
        refine Kd.R_lit_step (Cap.lent 3 bI U w0) (w0 := Wb) Wb.heap.size 22 (by rfl) (N := 62) rfl (xs := [x]) (inner := [.slice Ax x.length cx]) (ok := fun _ => True) (okp := fun _ => False) ?h1 ⟨by simp [Cap.lent], fun j p hj => by cases j with | zero => (obtain rfl := Option.some.inj hj; exact HXL.out) | succ j => simp at hj⟩ (fun _ hk => hk.elim) trivial hHeld hHeld.size (by simp) ?_
        case h1 => first | (go_simp; done) | (go_simp; rfl)
        intro v62 w7 ho_ hb7 hg_ hat_
        have h62 := Kd.R_tight (d := Cap.lent 3 bI U w0) rfl ho_
        have hf7 := spec_biFirst.gb hg_
        clear ho_ hg_
        refine hK.out _ _ hb7 (fun hHeld => ?_)
        clear hK K
        refine norm_ (a' := ?_) ?_ ?_
        rotate_left
        ·
         show Act.put _ (some 62) _ = _
         simp only [Act.put, List.setIfInBounds_toArray, List.set_cons_zero, List.set_cons_succ, i64_w, i32_w]
         rfl
        refine one_ (i := 2) (N := some 55) (Fn.bl 22 64495) rfl rfl (by kernel_rfl) (by decide) (fun K hK => ?_)
        refine Kd.R_lit_step (Cap.lent 3 bI U w0) (w0 := Wb) Wb.heap.size 22 (by rfl) (N := 55) rfl (xs := ([] : List (List Int))) (inner := ([] : List Value)) (ok := fun _ => True) (okp := fun _ => False) ?h1 ⟨by simp, fun j p hj => by simp at hj⟩ (fun _ hk => hk.elim) trivial hHeld hHeld.size (by simp) ?_
        case h1 => first | (go_simp; done) | (go_simp; rfl)
        intro v55 w8 ho_ hb8 hg_ hat_
        have h55 := Kd.R_tight (d := Cap.lent 3 bI U w0) rfl ho_
        have hf8 := spec_biFirst.gb hg_
        obtain ⟨b55, eb55, hb55⟩ := hat_
        refine hK.out _ _ hb8 (fun hHeld => ?_)
        clear hK K
        exact norm_ (by first | (simp only [putAll, Act.put, List.setIfInBounds_toArray, List.set_cons_zero, List.set_cons_succ]; done) | (simp only [putAll, Act.put, List.setIfInBounds_toArray, List.set_cons_zero, List.set_cons_succ]; rfl)) (hM (v55, v62) _ ⟨h55, Kd.R_below h62 hf8, fun j e1 e2 => by (have e3 := e2.trans eb55; have e4 := Option.some.inj e3; have := Kd.R_lt h62 j e1.symm; omega), hb8⟩)
      ·
       rintro ⟨v55, v62⟩ w7 ⟨h55, h62, hne, hb7⟩
       dsimp only at h55 h62 hne
       refine norm_ (a' := ?_) ?_ ?_
       rotate_left
       ·
        simp only [putAll, Act.put, List.setIfInBounds_toArray, List.set_cons_zero, List.set_cons_succ]
        rfl
       refine one_ (i := 4) (N := some 57) (Fn.bl 22 64511) rfl rfl (by kernel_rfl) (by decide) (fun K hK => ?_)
       refine Kd.R_append_rows_step (Cap.lent 3 bI U w0) (w0 := Wb) Wb.heap.size (by rfl) (.tmp 55) (.tmp 56) 41 22 (.slice none 0 0) 24 rfl Try.underlying41 info22 rfl (show 0 < 1 by decide) (by omega) v55 [] q Aq q.length cq (fun _ => True) (fun _ => False) rfl rfl (Kd.R_mono h55 (fun _ _ => trivial)) (Kd.R_reads' (Kd.R_below HQB.out hb7)).2.2 (fun _ _ hh => hh) (fun _ hk => hk.elim) (fun _ _ => trivial) hb7 hb7.size (by have := C7.out; simp; omega) ?_
       intro v57 w8 ho_ hb8 hg_ hat_
       rw [List.nil_append] at ho_
       have h57 := Kd.R_tight (d := Cap.lent 3 bI U w0) rfl ho_
       have h62' := Kd.R_grown h62 hg_ (fun j e => hne j e)
       refine hK.out _ _ hb8 (fun hHeld => ?_)
       clear hK K
       exact norm_ (by first | (simp only [putAll, Act.put, List.setIfInBounds_toArray, List.set_cons_zero, List.set_cons_succ]; done) | (simp only [putAll, Act.put, List.setIfInBounds_toArray, List.set_cons_zero, List.set_cons_succ]; rfl)) (hJ (v55, v57, v62) _ ⟨h57, h62', fun j e1 e2 => by (rcases hat_ with e | ⟨b, e, hb⟩; exact hne j e1 (e2.trans e); (have e4 := Option.some.inj (e2.trans e); have := Kd.R_lt h62 j e1.symm; omega)), hb8⟩)
     ·
      rintro ⟨v55, v57, v62⟩ w7 ⟨h57, h62, hne, hb7⟩
      dsimp only at h57 h62 hne
      obtain ⟨A57, c57, e57⟩ := Kd.R_slice h57
      subst e57
      obtain ⟨A62, c62, e62⟩ := Kd.R_slice h62
      subst e62
      refine norm_ (a' := ?_) ?_ ?_
      rotate_left
      ·
       simp only [putAll, Act.put, List.setIfInBounds_toArray, List.set_cons_zero, List.set_cons_succ]
       rfl
      refine one_ (i := 10) (N := some 63) (Fn.bl 22 65535) rfl rfl (by kernel_rfl) (by decide) (fun K hK => ?_)
      refine Kd.R_append_rows_step (Cap.lent 3 bI U w0) (w0 := Wb) Wb.heap.size (by rfl) (.tmp 57) (.tmp 62) 41 22 (.slice none 0 0) 24 rfl Try.underlying41 info22 rfl (show 0 < 1 by decide) (by omega) (.slice A57 q.length c57) q [x] A62 [x].length c62 (fun _ => True) (fun _ => False) rfl rfl (Kd.R_mono h57 (fun _ _ => trivial)) (Kd.R_reads' h62).2.2 (fun _ _ hh => hh) (fun _ hk => hk.elim) (fun _ _ => trivial) hb7 hb7.size (by have := C7.out; simp; omega) ?_
      intro v63 w8 ho_ hb8 hg_ hat_
      have h63 := Kd.R_tight (d := Cap.lent 3 bI U w0) rfl ho_
      clear ho_ hg_ hat_ h57 h62 hne
      obtain ⟨A63, c63, e63⟩ := Kd.R_slice h63
      subst e63
      have H63 := A_ (Kd.R_lower h63 HB0.out.size)
      clear h63
      refine hK.out _ _ hb8 (fun hHeld => ?_)
      clear hK K
      refine norm_ (a' := ?_) ?_ ?_
      rotate_left
      ·
       show Act.put _ (some 63) _ = _
       simp only [Act.put, List.setIfInBounds_toArray, List.set_cons_zero, List.set_cons_succ, i64_w, i32_w]
       rfl
      refine one_ (i := 16) (N := some 69) (Fn.bl 22 131071) rfl rfl (by kernel_rfl) (by decide) (fun K hK => ?_)
      refine goes_ Try.func105 (by kernel_rfl) rfl #[.agg #[.int .i64 R, .int .i64 C, .slice Ab lb.length cb], .slice (some ad) all.length ca, .slice A63 (q ++ [x]).length c63, .int .i64 (wrap64 (i + 1)), .int .i64 (wrap64 (kk - 1)), .int .i64 kd] (by rfl) rfl rfl (by (try simp only [List.map_toArray, List.map_cons, List.map_nil]); first | done | rfl) ?_
      refine (ih k2 (by have := HK1.out; have := HK2.out; omega) _ _ (q ++ [x]) (wrap64 (i + 1)) (wrap64 (kk - 1)) r3 b3 (lim _ hb8) H63.out A6.out).mono ?_
      rintro e w9 ⟨v70, rfl, hr, hb⟩
      refine ⟨_, rfl, ?_⟩
      have HR9 := A_ hr
      have hb9 := below_then hb8 hb8.size hb
      clear hr hb
      refine hK.out _ _ hb9 (fun hHeld => ?_)
      clear hK K
      refine norm_ (a' := ?_) ?_ ?_
      rotate_left
      ·
       show Act.put _ (some 69) _ = _
       simp only [Act.put, List.setIfInBounds_toArray, List.set_cons_zero, List.set_cons_succ, i64_w, i32_w]
       rfl
      refine take_ (i := 17) (N := some 52) (v := ?_) (a' := ?_) (Fn.bl 22 262143) rfl rfl (by kernel_rfl) (fun _ _ _ h => h) (Or.inl ⟨by rfl, ?_⟩) hHeld ?_ ?_
      rotate_left
      ·
       intro w' s0
       go_simp
       with_reducible rfl
      rotate_left
      ·
       simp only [Act.put, List.setIfInBounds_toArray, List.set_cons_zero, List.set_cons_succ, i64_w, i32_w]
       rfl
      refine take_ (i := 18) (N := some 70) (v := ?_) (a' := ?_) (Fn.bl 22 524287) rfl rfl (by kernel_rfl) (fun _ _ _ h => h) (Or.inl ⟨by rfl, ?_⟩) hHeld ?_ ?_
      rotate_left
      ·
       intro w' s0
       go_simp
       with_reducible rfl
      rotate_left
      ·
       simp only [Act.put, List.setIfInBounds_toArray, List.set_cons_zero, List.set_cons_succ, i64_w, i32_w]
       rfl
      refine take_ (i := 19) (N := some 71) (v := ?_) (a' := ?_) (Fn.bl 22 1048575) rfl rfl (by kernel_rfl) (fun _ _ _ h => h) (Or.inl ⟨by rfl, ?_⟩) hHeld ?_ ?_
      rotate_left
      ·
       intro w' s0
       go_simp
       with_reducible rfl
      rotate_left
      ·
       simp only [Act.put, List.setIfInBounds_toArray, List.set_cons_zero, List.set_cons_succ, i64_w, i32_w]
       rfl
      refine take_ (i := 20) (N := some 18) (v := ?_) (a' := ?_) (Fn.bl 22 2097151) rfl rfl (by kernel_rfl) (fun _ _ _ h => h) (Or.inl ⟨by rfl, ?_⟩) hHeld ?_ ?_
      rotate_left
      ·
       intro w' s0
       go_simp
       with_reducible rfl
      rotate_left
      ·
       simp only [Act.put, List.setIfInBounds_toArray, List.set_cons_zero, List.set_cons_succ, i64_w, i32_w]
       rfl
      refine take_ (i := 21) (N := some 19) (v := ?_) (a' := ?_) (Fn.bl 22 4194303) rfl rfl (by kernel_rfl) (fun _ _ _ h => h) (Or.inl ⟨by rfl, ?_⟩) hHeld ?_ ?_
      rotate_left
      ·
       intro w' s0
       go_simp
       with_reducible rfl
      rotate_left
      ·
       simp only [Act.put, List.setIfInBounds_toArray, List.set_cons_zero, List.set_cons_succ, i64_w, i32_w]
       rfl
      refine done_ (by kernel_rfl) ?_
      have HB9 := A_ hb9
      clear hb9 hb8 hb7 lim hHeld
      cases b3 with
      | true =>
       rw [if_pos rfl] at H
       obtain ⟨rfl, rfl⟩ := Prod.mk.inj (Option.some.inj H)
       clear H
       try go_wp2
       go_ret2
       exact ⟨_, rfl, HR9.out, below_then HBB.out HBB.out.size HB9.out⟩
      | false =>
       rw [if_neg (by simp)] at H
       replace H := A_ H
       try go_wp2
       go_roundg k2
       case measure => have := HK1.out; have := HK2.out; omega
       case rel => exact ⟨wrap64 (i + 1), tf_, H, ⟨by have := HK1.out; have := HK2.out; omega⟩, HB9⟩

/-! ### spec_FirstKings: function 33 -/
def spec_FirstKings.f (k : Nat) (a0_0 a0_1 : Int) (l0_2 : List Int) (a1 : Int) : Option (List (List Int) × Bool) := (spec_biAsked.f k a0_0 a0_1 l0_2 a1).bind fun t => (if t = true then ((spec_kiNumbers.f k a0_0 a0_1 l0_2).bind fun v => (if a1 ≥ (v.length : Int) then some ([], false) else ((spec_boCells.f k a0_0 a0_1 l0_2).bind fun all => ((spec_biFirst.f all 1 k [] 0 a1).bind fun r => (if r.1.Nodup ∧ ∀ x ∈ r.1, x.length = 2 then some r else none))))) else some ([], false))
theorem spec_FirstKings.mono : ∀ a0 a1 a2 a3 k, LeO (spec_FirstKings.f k a0 a1 a2 a3) (spec_FirstKings.f (k + 1) a0 a1 a2 a3) := by
 intro a0 a1 a2 a3 k
 unfold spec_FirstKings.f
 refine LeO.bind (spec_biAsked.mono _ _ _ _ _) (fun _ => ?_)
 refine LeO.ite ?_ (LeO.refl _)
 refine LeO.bind (spec_kiNumbers.mono _ _ _ _) (fun _ => ?_)
 refine LeO.ite (LeO.refl _) ?_
 refine LeO.bind (spec_boCells.mono _ _ _ _) (fun _ => ?_)
 exact LeO.bind (spec_biFirst.mono _ _ _ _ _ _) (fun _ => LeO.refl _)
theorem spec_FirstKings.calls (k : Nat) (a0_0 a0_1 : Int) (A0_2 : Option Addr) (c0_2 : Nat) (l0_2 : List Int) (a1 : Int) (r1 : List (List Int)) (r2 : Bool) (w : World) (hr0_2 : Kd.C (Kd.int .i64) w A0_2 l0_2.length l0_2) (hc0_2 : l0_2.length ≤ c0_2) (h : spec_FirstKings.f k a0_0 a0_1 l0_2 a1 = some (r1, r2)) :
  Calls Try.prog 33 #[.agg #[.int .i64 a0_0, .int .i64 a0_1, .slice A0_2 l0_2.length c0_2], .int .i64 a1] w fun e w' => ∃ v0_ : Value, e = .returned (.tuple #[v0_, .bool r2]) ∧ Kd.S (Kd.slice 3 (Kd.int .i64)) 22 w' w.heap.size (fun _ => True) v0_ r1 ∧ Below w.heap.size w w' := by
 have HR := A_ hr0_2
 have HC := A_ hc0_2
 clear hr0_2 hc0_2
 unfold spec_FirstKings.f at h
 have hu26 := Try.underlying26
 have HQ : Aside0 (∀ w1, Below w.heap.size w w1 → Kd.C (Kd.int .i64) w1 A0_2 l0_2.length l0_2) := ⟨fun w1 hb => Kd.C_below HR.out hb⟩
 obtain ⟨t, A2, H⟩ := Option.bind_eq_some_iff.mp h
 have A2' := A_ A2
 clear A2 h
 have hb2 := A_ (below_alloc (Below.refl w.heap.size w) (.cells #[.int .i64 a0_0, .int .i64 a0_1, .slice A0_2 l0_2.length c0_2] 26))
 have FB := A_ (blk_new w (.cells #[.int .i64 a0_0, .int .i64 a0_1, .slice A0_2 l0_2.length c0_2] 26))
 cases t with
 | false =>
  simp only [Bool.false_eq_true, if_false, Option.some.injEq, Prod.mk.injEq] at H
  obtain ⟨rfl, rfl⟩ := H
  go_enter Try.func33, Try.ntmps33
  go_wp2_with (first | (go_at_call 98; (with_reducible refine (spec_biAsked.calls k a0_0 a0_1 A0_2 c0_2 l0_2 a1 false _ (HQ.out _ hb2.out) HC.out A2'.out).mono ?_); rintro e w1 ⟨rfl, hb⟩; have HB1 := A_ (below_then hb2.out hb2.out.size hb); have hB1 := A_ (blk_below FB.out hb); clear hb; have hb30 := blk_cell hB1.out 0; have hb31 := blk_cell hB1.out 1; have hb32 := blk_cell hB1.out 2))
  go_ret2
  exact ⟨_, rfl, Kd.S_nil _ _ _ _ _, HB1.out⟩
 | true =>
  simp only [if_true] at H
  obtain ⟨v, A4, H⟩ := Option.bind_eq_some_iff.mp H
  have A4' := A_ A4
  clear A4
  by_cases c1 : a1 ≥ (v.length : Int)
  ·
   rw [if_pos c1] at H
   have c1b := decide_eq_true c1
   clear c1
   simp only [Option.some.injEq, Prod.mk.injEq] at H
   obtain ⟨rfl, rfl⟩ := H
   go_enter Try.func33, Try.ntmps33
   go_wp2_with (first | (go_at_call 98; (with_reducible refine (spec_biAsked.calls k a0_0 a0_1 A0_2 c0_2 l0_2 a1 true _ (HQ.out _ hb2.out) HC.out A2'.out).mono ?_); rintro e w1 ⟨rfl, hb⟩; have HB1 := A_ (below_then hb2.out hb2.out.size hb); have hB1 := A_ (blk_below FB.out hb); clear hb; have hb30 := blk_cell hB1.out 0; have hb31 := blk_cell hB1.out 1; have hb32 := blk_cell hB1.out 2) | (go_at_call 104; (with_reducible refine (spec_kiNumbers.calls k a0_0 a0_1 A0_2 c0_2 l0_2 v _ (HQ.out _ HB1.out) HC.out A4'.out).mono ?_); rintro e w3 ⟨vb, rfl, hR, hb⟩; obtain ⟨Ab, cb, eb⟩ := Kd.R_slice hR; subst eb; have HB3 := A_ (below_then HB1.out HB1.out.size hb); have hB3 := A_ (blk_below hB1.out hb); clear hR hb))
   go_ret2
   exact ⟨_, rfl, Kd.S_nil _ _ _ _ _, HB3.out⟩
  ·
   rw [if_neg c1] at H
   have c1b := decide_eq_false c1
   clear c1
   obtain ⟨all, A5, H⟩ := Option.bind_eq_some_iff.mp H
   obtain ⟨⟨q1, q2⟩, A6, H⟩ := Option.bind_eq_some_iff.mp H
   by_cases c7 : q1.Nodup ∧ ∀ x ∈ q1, x.length = 2
   case neg =>
    rw [if_neg c7] at H
    exact absurd H (by simp)
   rw [if_pos c7] at H
   obtain ⟨rfl, rfl⟩ := Prod.mk.inj (Option.some.inj H)
   clear H
   replace A5 := A_ A5
   replace A6 := A_ A6
   have C7 := A_ c7
   clear c7
   go_enter Try.func33, Try.ntmps33
   go_wp2_with (first | (go_at_call 98; (with_reducible refine (spec_biAsked.calls k a0_0 a0_1 A0_2 c0_2 l0_2 a1 true _ (HQ.out _ hb2.out) HC.out A2'.out).mono ?_); rintro e w1 ⟨rfl, hb⟩; have HB1 := A_ (below_then hb2.out hb2.out.size hb); have hB1 := A_ (blk_below FB.out hb); clear hb; have hb30 := blk_cell hB1.out 0; have hb31 := blk_cell hB1.out 1; have hb32 := blk_cell hB1.out 2) | (go_at_call 104; (with_reducible refine (spec_kiNumbers.calls k a0_0 a0_1 A0_2 c0_2 l0_2 v _ (HQ.out _ HB1.out) HC.out A4'.out).mono ?_); rintro e w3 ⟨vb, rfl, hR, hb⟩; obtain ⟨Ab, cb, eb⟩ := Kd.R_slice hR; subst eb; have HB3 := A_ (below_then HB1.out HB1.out.size hb); have hB3 := A_ (blk_below hB1.out hb); clear hR hb) | fail)
   refine start_ (n := 9) (S := fun w' => Below w3.heap.size w3 w') (ds := []) (Fn.bl 9 0) (by kernel_rfl) rfl rfl (below_drew (Below.refl _ _)) (fun hHeld => ?_)
   generalize World.drew _ = w4 at hHeld ⊢
   refine take_ (i := 0) (N := some 17) (v := ?_) (a' := ?_) (Fn.bl 9 1) rfl rfl (by kernel_rfl) (fun _ _ _ h => h) (Or.inl ⟨by rfl, ?_⟩) hHeld ?_ ?_
   rotate_left
   ·
    intro w' s0
    have h0 := blk_cell (blk_below hB3.out s0) 0
    have h1 := blk_cell (blk_below hB3.out s0) 1
    have h2 := blk_cell (blk_below hB3.out s0) 2
    go_simp
    with_reducible rfl
   rotate_left
   ·
    simp only [Act.put, List.setIfInBounds_toArray, List.set_cons_zero, List.set_cons_succ, i64_w, i32_w]
    rfl
   refine take_ (i := 1) (N := some 18) (v := ?_) (a' := ?_) (Fn.bl 9 3) rfl rfl (by kernel_rfl) (fun _ _ _ h => h) (Or.inl ⟨by rfl, ?_⟩) hHeld ?_ ?_
   rotate_left
   ·
    intro w' s0
    have h0 := blk_cell (blk_below hB3.out s0) 0
    have h1 := blk_cell (blk_below hB3.out s0) 1
    have h2 := blk_cell (blk_below hB3.out s0) 2
    go_simp
    with_reducible rfl
   rotate_left
   ·
    simp only [Act.put, List.setIfInBounds_toArray, List.set_cons_zero, List.set_cons_succ, i64_w, i32_w]
    rfl
   refine take_ (i := 3) (N := some 20) (v := ?_) (a' := ?_) (Fn.bl 9 11) rfl rfl (by kernel_rfl) (fun _ _ _ h => h) (Or.inl ⟨by rfl, ?_⟩) hHeld ?_ ?_
   rotate_left
   ·
    intro w' s0
    go_simp
    with_reducible rfl
   rotate_left
   ·
    simp only [Act.put, List.setIfInBounds_toArray, List.set_cons_zero, List.set_cons_succ, i64_w, i32_w]
    rfl
   refine one_ (i := 2) (N := some 19) (Fn.bl 9 15) rfl rfl (by kernel_rfl) (by decide) (fun K hK => ?_)
   refine goes_ Try.func106 (by kernel_rfl) rfl #[.agg #[.int .i64 a0_0, .int .i64 a0_1, .slice A0_2 l0_2.length c0_2]] (by rfl) rfl rfl (by (try simp only [List.map_toArray, List.map_cons, List.map_nil]); first | done | rfl) ?_
   refine (spec_boCells.calls k a0_0 a0_1 A0_2 c0_2 l0_2 all _ (HQ.out _ (below_then HB3.out HB3.out.size hHeld)) HC.out A5.out).mono ?_
   rintro e w5 ⟨v19, rfl, hS5, hb5⟩
   obtain ⟨Aa, ca, e19⟩ := Kd.S_slice hS5
   subst e19
   refine ⟨_, rfl, ?_⟩
   have hb35 := below_then hHeld hHeld.size hb5
   refine hK.out _ _ hb35 (fun hHeld5 => ?_)
   clear hK K
   refine norm_ (a' := ?_) ?_ ?_
   rotate_left
   ·
    show Act.put _ (some 19) _ = _
    simp only [Act.put, List.setIfInBounds_toArray, List.set_cons_zero, List.set_cons_succ, i64_w, i32_w]
    rfl
   have HLE := A_ (Cap.lent_of (Kd.S_R hS5))
   have HCA := A_ (Kd.R_reads' (Kd.S_R hS5)).2.1
   refine one_ (i := 4) (N := some 21) (Fn.bl 9 31) rfl rfl (by kernel_rfl) (by decide) (fun K hK => ?_)
   refine goes_ Try.func105 (by kernel_rfl) rfl #[.agg #[.int .i64 a0_0, .int .i64 a0_1, .slice A0_2 l0_2.length c0_2], .slice Aa all.length ca, .slice none 0 0, .int .i64 0, .int .i64 a1, .int .i64 1] (by rfl) rfl rfl (by (try simp only [List.map_toArray, List.map_cons, List.map_nil]); first | done | rfl) ?_
   refine (spec_biFirst.calls w5 (fun j => w4.heap.size ≤ j ∧ j < w5.heap.size) w4.heap.size a0_0 a0_1 A0_2 l0_2 c0_2 Aa ca all 1 HLE.out.1 HLE.out.2 (fun j hj => hj.2) HCA.out k w5 (.slice none 0 0) [] 0 a1 q1 q2 (Below.refl _ _) (Kd.R_nil _ _ _ _ _) A6.out).mono ?_
   rintro e w6 ⟨v21, rfl, hR6, hb6⟩
   refine ⟨_, rfl, ?_⟩
   have hs45 := hb5.size
   have hS6 := Cap.lent_S (Kd.R_lower hR6 hs45) (fun j hj => hb6.block j hj.2) (fun j e hj => by have := Kd.R_base hR6 j e.symm; omega) (Nat.le_refl _) C7.out.1 C7.out.2
   have hs34 := hHeld.size
   have hs03 := HB3.out.size
   have HS6 := A_ (Kd.S_lower hS6 (Nat.le_trans hs03 hs34))
   have hb36 := below_then hb35 hb35.size hb6
   have HB6 := A_ (below_then HB3.out HB3.out.size hb36)
   clear hS6 hR6 hs45 hs34 hs03
   refine hK.out _ _ hb36 (fun hHeld6 => ?_)
   clear hK K
   refine norm_ (a' := ?_) ?_ ?_
   rotate_left
   ·
    show Act.put _ (some 21) _ = _
    simp only [Act.put, List.setIfInBounds_toArray, List.set_cons_zero, List.set_cons_succ, i64_w, i32_w]
    rfl
   refine take_ (i := 5) (N := some 22) (v := ?_) (a' := ?_) (Fn.bl 9 63) rfl rfl (by kernel_rfl) (fun _ _ _ h => h) (Or.inl ⟨by rfl, ?_⟩) hHeld6 ?_ ?_
   rotate_left
   ·
    intro w' s0
    go_simp
    with_reducible rfl
   rotate_left
   ·
    simp only [Act.put, List.setIfInBounds_toArray, List.set_cons_zero, List.set_cons_succ, i64_w, i32_w]
    rfl
   refine take_ (i := 6) (N := some 23) (v := ?_) (a' := ?_) (Fn.bl 9 127) rfl rfl (by kernel_rfl) (fun _ _ _ h => h) (Or.inl ⟨by rfl, ?_⟩) hHeld6 ?_ ?_
   rotate_left
   ·
    intro w' s0
    go_simp
    with_reducible rfl
   rotate_left
   ·
    simp only [Act.put, List.setIfInBounds_toArray, List.set_cons_zero, List.set_cons_succ, i64_w, i32_w]
    rfl
   refine take_ (i := 7) (N := some 4) (v := ?_) (a' := ?_) (Fn.bl 9 255) rfl rfl (by kernel_rfl) (fun _ _ _ h => h) (Or.inl ⟨by rfl, ?_⟩) hHeld6 ?_ ?_
   rotate_left
   ·
    intro w' s0
    go_simp
    with_reducible rfl
   rotate_left
   ·
    simp only [Act.put, List.setIfInBounds_toArray, List.set_cons_zero, List.set_cons_succ, i64_w, i32_w]
    rfl
   refine take_ (i := 8) (N := some 5) (v := ?_) (a' := ?_) (Fn.bl 9 511) rfl rfl (by kernel_rfl) (fun _ _ _ h => h) (Or.inl ⟨by rfl, ?_⟩) hHeld6 ?_ ?_
   rotate_left
   ·
    intro w' s0
    go_simp
    with_reducible rfl
   rotate_left
   ·
    simp only [Act.put, List.setIfInBounds_toArray, List.set_cons_zero, List.set_cons_succ, i64_w, i32_w]
    rfl
   refine done_ (by kernel_rfl) ?_
   clear hHeld hHeld5 hHeld6 hb35 hb36 hb5 hb6 hS5
   try go_wp2
   go_ret2
   exact ⟨_, rfl, HS6.out, HB6.out⟩

end
end Go.Proofs.Ythlcaikplebpmaa.P
