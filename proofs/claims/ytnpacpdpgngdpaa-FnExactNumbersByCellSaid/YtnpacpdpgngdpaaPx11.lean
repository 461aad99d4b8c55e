-- printed by wip/hprint.py of this session (the kit's print.py, patched in memory)
import Derived.Test.YtnpacpdpgngdpaaPx0
import Derived.Test.YtnpacpdpgngdpaaPx7
import Derived.Test.YtnpacpdpgngdpaaPx10
namespace Go.Proofs.Ytnpacpdpgngdpaa.P
noncomputable section
set_option maxHeartbeats 8000000
set_option maxRecDepth 100000
open Go.RowKit Go.Proofs.YtnpacpdpgngdpaaW.PrintWords Go.Proofs.YtnpacpdpgngdpaaW.PrintLast Go.Proofs.YtnpacpdpgngdpaaW.PrintMore
attribute [local go_sem] max2_int min2_int max_two min_two max_three min_three max_four min_four   -- for this text's walks alone
set_option linter.unusedVariables false
set_option linter.unusedSimpArgs false

/-! ### impl_Board_walk_1: function 258 -/
def impl_Board_walk_1.more (t c : Int) : Int := if c ≥ 0 then Go.bits .or .i64 t (wrap64 (2 ^ min c.toNat 64)) else t
def impl_Board_walk_1.skips (R C : Int) (lb : List Int) (r t c : Int) : Option Bool := if c ≥ 0 then ((impl_Board_has.f R C lb r c).bind fun b => some (if b = true then (Go.bits .and .i64 (shr .i64 t c) 1 == 1) else true)) else some false
mutual
def impl_Board_walk_1.f : Nat → Int → Int → List Int → Int → Int → List Int → List Int → Option (List Int × List Int)
 | 0, _, _, _, _, _, _, _ => none
 | k + 1, R, C, lb, r, t, p, out => if r = R then ((impl_Board_numbers_1.f k p out).bind fun o => some (p, o)) else impl_Board_walk_1.l0 k R C lb r t p out (-1)
def impl_Board_walk_1.l0 : Nat → Int → Int → List Int → Int → Int → List Int → List Int → Int → Option (List Int × List Int)
 | 0, _, _, _, _, _, _, _, _ => none
 | k + 1, R, C, lb, r, t, p, out, c => if c < C then ((impl_Board_walk_1.skips R C lb r t c).bind fun b => if b = true then impl_Board_walk_1.l0 k R C lb r t p out (wrap64 (c + 1)) else (if 0 ≤ r then (if r < (p.length : Int) then ((impl_Board_walk_1.f k R C lb (wrap64 (r + 1)) (impl_Board_walk_1.more t c) (p.set r.toNat c) out).bind fun q => impl_Board_walk_1.l0 k R C lb r t q.1 q.2 (wrap64 (c + 1))) else none) else none)) else some (p, out)
end
theorem impl_Board_walk_1.mono_l : ∀ k, (∀ R C lb r t p o, LeO (impl_Board_walk_1.f k R C lb r t p o) (impl_Board_walk_1.f (k + 1) R C lb r t p o)) ∧ (∀ R C lb r t p o c, LeO (impl_Board_walk_1.l0 k R C lb r t p o c) (impl_Board_walk_1.l0 (k + 1) R C lb r t p o c))
 | 0 => ⟨fun _ _ _ _ _ _ _ r h => by simp [impl_Board_walk_1.f] at h, fun _ _ _ _ _ _ _ _ r h => by simp [impl_Board_walk_1.l0] at h⟩
 | k + 1 => by
  obtain ⟨i0, i1⟩ := impl_Board_walk_1.mono_l k
  refine ⟨?_, ?_⟩
  ·
   intro R C lb r t p o
   unfold impl_Board_walk_1.f
   exact LeO.ite (LeO.bind (LeO.bind (impl_rooks.mono _ _) (fun _ => LeO.refl _)) (fun _ => LeO.refl _)) (i1 _ _ _ _ _ _ _ _)
  ·
   intro R C lb r t p o c
   unfold impl_Board_walk_1.l0
   refine LeO.ite ?_ (LeO.refl _)
   refine LeO.bind (LeO.refl _) (fun b => ?_)
   refine LeO.ite (i1 _ _ _ _ _ _ _ _) ?_
   refine LeO.ite ?_ (LeO.refl _)
   refine LeO.ite ?_ (LeO.refl _)
   exact LeO.bind (i0 _ _ _ _ _ _ _) (fun _ => i1 _ _ _ _ _ _ _ _)
theorem impl_Board_walk_1.mono : ∀ R C lb r t p o k, LeO (impl_Board_walk_1.f k R C lb r t p o) (impl_Board_walk_1.f (k + 1) R C lb r t p o) := fun R C lb r t p o k => (impl_Board_walk_1.mono_l k).1 _ _ _ _ _ _ _
def impl_Board_walk_1.self (gb gd gp gg gx : Nat) : Value := .func (.func 258) #[] #[.pointer (some ⟨gb, 0, none⟩), .pointer (some ⟨gd, 0, none⟩), .pointer (some ⟨gp, 0, none⟩), .pointer (some ⟨gg, 0, none⟩), .pointer (some ⟨gx, 0, none⟩)]
def impl_Board_walk_1.done (go : Nat) : Value := .func (.func 222) #[] #[.pointer (some ⟨go, 0, none⟩)]
abbrev impl_Board_walk_1.St (w : World) (gb gd gp gg gx go rp ro : Nat) (R C : Int) (Ab : Option Addr) (lb : List Int) (cb : Nat) (W : World) (p out : List Int) : Prop :=
 Cap.Wst 28 50 22 4 162 3 w gb gd gp gg gx go rp ro R C Ab lb cb (impl_Board_walk_1.done go) (impl_Board_walk_1.self gb gd gp gg gx) W p out
theorem impl_Board_walk_1.enters (gb gd gp gg gx : Nat) {r t : Int} {w : World} {Q : Ending → World → Prop} (h : Calls Try.prog 258 #[.int .i64 r, .int .i64 t, .pointer (some ⟨gb, 0, none⟩), .pointer (some ⟨gd, 0, none⟩), .pointer (some ⟨gp, 0, none⟩), .pointer (some ⟨gg, 0, none⟩), .pointer (some ⟨gx, 0, none⟩)] w Q) :
  Fn.CallsV Try.prog (impl_Board_walk_1.self gb gd gp gg gx) #[.int .i64 r, .int .i64 t] w Q := ⟨258, _, _, rfl, Try.func258, by kernel_rfl, rfl, by simpa using h⟩
theorem impl_Board_walk_1.tells (go : Nat) {v : Value} {w : World} {Q : Ending → World → Prop} (h : Calls Try.prog 222 #[v, .pointer (some ⟨go, 0, none⟩)] w Q) :
  Fn.CallsV Try.prog (impl_Board_walk_1.done go) #[v] w Q := ⟨222, _, _, rfl, Try.func222, by kernel_rfl, rfl, by simpa using h⟩
theorem impl_Board_walk_1.calls (k : Nat) : ∀ (w : World) (gb gd gp gg gx go rp ro : Nat) (R C : Int) (Ab : Option Addr) (lb : List Int) (cb : Nat) (W : World) (r t : Int) (p out p2 out2 : List Int) (hS : impl_Board_walk_1.St w gb gd gp gg gx go rp ro R C Ab lb cb W p out) (h : impl_Board_walk_1.f k R C lb r t p out = some (p2, out2)),
  Calls Try.prog 258 #[.int .i64 r, .int .i64 t, .pointer (some ⟨gb, 0, none⟩), .pointer (some ⟨gd, 0, none⟩), .pointer (some ⟨gp, 0, none⟩), .pointer (some ⟨gg, 0, none⟩), .pointer (some ⟨gx, 0, none⟩)] W fun e W' => e = .returned (.tuple #[]) ∧ impl_Board_walk_1.St w gb gd gp gg gx go rp ro R C Ab lb cb W' p2 out2 := by
 induction k using Nat.strongRecOn with
 | _ k ih =>
 intro w gb gd gp gg gx go rp ro R C Ab lb cb W r t p out p2 out2 hS h
 cases k with
 | zero => exact absurd h (by simp [impl_Board_walk_1.f])
 | succ k =>
 simp only [impl_Board_walk_1.f] at h
 have hu28 := Try.underlying28
 have hb0 := hS.b0
 have hb1 := hS.b1
 have hcd := hS.celld
 have hcp := hS.cellp
 have hcg := hS.cellg
 have hfg := hS.freeg
 have HS := A_ hS
 clear hS
 by_cases c1 : r = R
 ·
  rw [if_pos c1] at h
  have c1b0 : (r == R) = true := beq_iff_eq.mpr c1
  have c1b1 : (r != R) = false := bne_eq_false_iff_eq.mpr c1
  clear c1
  obtain ⟨o, A1, H⟩ := Option.bind_eq_some_iff.mp h
  obtain ⟨rfl, rfl⟩ := Prod.mk.inj (Option.some.inj H)
  clear h H
  replace A1 := A_ A1
  go_enter Try.func258, Try.ntmps258
  go_wp2_with (first | ((with_reducible refine Fn.gate_value rfl ?_); refine Fn.goesVw_ (some 17) rfl (by first | rfl | (simp [Region.wanted, yielded]; done)) (impl_Board_walk_1.done go) rfl #[.slice (some ⟨rp, 0, none⟩) p.length p.length] rfl (by (try simp only [List.map_toArray, List.map_cons, List.map_nil]); first | done | rfl) ?_; refine impl_Board_walk_1.tells go ?_; (with_reducible refine (impl_Board_numbers_1.calls k w _ go ro out o p (some ⟨rp, 0, none⟩) p.length HS.out.cnt HS.out.pC (Nat.le_refl _) A1.out).mono ?_); rintro e w8 ⟨rfl, hc, hg⟩; refine ⟨_, rfl, ?_⟩; have HS8 := A_ (HS.out.count hc hg); have hcg8 := HS8.out.cellg; have hfg8 := HS8.out.freeg; clear hc hg hcg hfg))
  (try simp only [Exit.inBlock, Exit.then]); refine bodyPost_ret (results_none rfl _ _ _) rfl ?_
  exact ⟨rfl, HS8.out.flag⟩
 ·
  rw [if_neg c1] at h
  have c1b0 : (r == R) = false := beq_eq_false_iff_ne.mpr c1
  have c1b1 : (r != R) = true := bne_iff_ne.mpr c1
  clear c1
  replace h := A_ h
  go_enter Try.func258, Try.ntmps258
  go_wp2
  go_loopg [9] k (fun kq v9 W' => ∃ (c : Int) (p1 o1 : List Int), v9 = .int .i64 c ∧ Aside0 (impl_Board_walk_1.l0 kq R C lb r t p1 o1 c = some (p2, out2)) ∧ Aside0 (kq ≤ k) ∧ Aside0 (impl_Board_walk_1.St w gb gd gp gg gx go rp ro R C Ab lb cb W' p1 o1))
  case atStart => exact ⟨-1, p, out, rfl, h, ⟨Nat.le_refl _⟩, HS⟩
  case round =>
   clear h HS hb0 hb1 hcd hcp hcg hfg
   obtain ⟨c, p1, o1, rfl, HA, HK1, HS⟩ := hrel
   have hb0 := HS.out.b0
   have hb1 := HS.out.b1
   have hb2 := HS.out.b2
   have hcp := HS.out.cellp
   have hcg := HS.out.cellg
   have hcx := HS.out.cellx
   cases gk with
   | zero => exact absurd HA.out (by simp [impl_Board_walk_1.l0])
   | succ k1 =>
    have H := HA.out
    clear HA
    simp only [impl_Board_walk_1.l0] at H
    by_cases c4 : c < C
    ·
     rw [if_pos c4] at H
     have c4b := decide_eq_true c4
     clear c4
     obtain ⟨b, A2, H⟩ := Option.bind_eq_some_iff.mp H
     by_cases c5 : c ≥ 0
     ·
      have c5b : decide (c ≥ 0) = true := decide_eq_true c5
      have c5c : (0 ≤ c) = True := eq_true c5
      simp only [impl_Board_walk_1.skips, if_pos c5] at A2
      obtain ⟨hb, A3, A4⟩ := Option.bind_eq_some_iff.mp A2
      clear A2
      replace A3 := A_ A3
      have A4 := Option.some.inj A4
      cases hb with
      | false =>
       simp only [Bool.false_eq_true, if_false] at A4
       subst A4
       rw [if_pos rfl] at H
       clear c5
       replace H := A_ H
       go_wp2_with (first | (go_at_call 127; (with_reducible refine (impl_Board_has.calls R C Ab cb lb r c false _ HS.out.bC HS.out.hcb A3.out).mono ?_); rintro e w5 ⟨rfl, hd⟩; have HS5 := A_ (HS.out.below hd); clear hd))
       go_roundg k1
       case measure => have := HK1.out; omega
       case rel => exact ⟨wrap64 (c + 1), p1, o1, tf_, H, ⟨by have := HK1.out; omega⟩, HS5⟩
      | true =>
       have A4b : (Go.bits .and .i64 (t / 2 ^ min c.toNat 64) 1 == 1) = b := A4
       clear A4
       cases b with
       | true =>
        rw [if_pos rfl] at H
        clear c5
        replace H := A_ H
        go_wp2_with (first | (go_at_call 127; (with_reducible refine (impl_Board_has.calls R C Ab cb lb r c true _ HS.out.bC HS.out.hcb A3.out).mono ?_); rintro e w5 ⟨rfl, hd⟩; have HS5 := A_ (HS.out.below hd); clear hd))
        go_roundg k1
        case measure => have := HK1.out; omega
        case rel => exact ⟨wrap64 (c + 1), p1, o1, tf_, H, ⟨by have := HK1.out; omega⟩, HS5⟩
       | false =>
        simp only [Bool.false_eq_true, if_false] at H
        by_cases c7 : 0 ≤ r
        case neg =>
         rw [if_neg c7] at H
         exact absurd H (by simp)
        rw [if_pos c7] at H
        by_cases c8 : r < (p1.length : Int)
        case neg =>
         rw [if_neg c8] at H
         exact absurd H (by simp)
        rw [if_pos c8] at H
        obtain ⟨n, rfl⟩ : ∃ n : Nat, r = (n : Int) := ⟨r.toNat, by omega⟩
        have hn : Aside0 (n < p1.length) := ⟨by omega⟩
        have q0 : (0 ≤ (n : Int)) = True := eq_true (by omega)
        have q1' : ((n : Int) < (p1.length : Int)) = True := eq_true c8
        have q2' : (n < p1.length) = True := eq_true hn.out
        clear c7 c8
        obtain ⟨⟨q1, q2⟩, A5, H⟩ := Option.bind_eq_some_iff.mp H
        replace A5 := A_ A5
        rw [Int.toNat_natCast, show impl_Board_walk_1.more t c = (Go.bits .or .i64 t (wrap64 (2 ^ min c.toNat 64))) from by unfold impl_Board_walk_1.more; rw [if_pos c5]] at A5
        replace H := A_ H
        clear c5
        go_wp2_with (first | (go_at_call 127; (with_reducible refine (impl_Board_has.calls R C Ab cb lb (n : Int) c true _ HS.out.bC HS.out.hcb A3.out).mono ?_); rintro e w5 ⟨rfl, hd⟩; have HS5 := A_ (HS.out.below hd); clear hd; have hcp5 := HS5.out.cellp; have hcn5 := HS5.out.cell n hn.out; have hfn5 := HS5.out.free n; have HP5 := A_ (HS5.out.put n c); have hcx5 := HP5.out.cellx) | ((with_reducible refine Fn.gate_value rfl ?_); refine Fn.goesVw_ (some 58) rfl (by first | rfl | (simp [Region.wanted, yielded]; done)) (impl_Board_walk_1.self gb gd gp gg gx) rfl #[.int .i64 (wrap64 ((n : Int) + 1)), .int .i64 (Go.bits .or .i64 t (wrap64 (2 ^ min c.toNat 64)))] rfl (by (try simp only [List.map_toArray, List.map_cons, List.map_nil]); first | done | rfl) ?_; refine impl_Board_walk_1.enters gb gd gp gg gx ?_; (with_reducible refine (ih k1 (by have := HK1.out; omega) w gb gd gp gg gx go rp ro R C Ab lb cb _ (wrap64 ((n : Int) + 1)) (Go.bits .or .i64 t (wrap64 (2 ^ min c.toNat 64))) (p1.set n c) o1 q1 q2 HP5.out A5.out).mono ?_); rintro e w8 ⟨rfl, hs⟩; refine ⟨_, rfl, ?_⟩; have HS8 := A_ hs; clear hs hcx5 hcp5 hcn5 hfn5))
        go_roundg k1
        case measure => have := HK1.out; omega
        case rel => exact ⟨wrap64 (c + 1), q1, q2, tf_, H, ⟨by have := HK1.out; omega⟩, HS8⟩
     ·
      have c5b : decide (c ≥ 0) = false := decide_eq_false c5
      simp only [impl_Board_walk_1.skips, if_neg c5, Option.some.injEq] at A2
      subst A2
      simp only [Bool.false_eq_true, if_false] at H
      by_cases c7 : 0 ≤ r
      case neg =>
       rw [if_neg c7] at H
       exact absurd H (by simp)
      rw [if_pos c7] at H
      by_cases c8 : r < (p1.length : Int)
      case neg =>
       rw [if_neg c8] at H
       exact absurd H (by simp)
      rw [if_pos c8] at H
      obtain ⟨n, rfl⟩ : ∃ n : Nat, r = (n : Int) := ⟨r.toNat, by omega⟩
      have hn : Aside0 (n < p1.length) := ⟨by omega⟩
      have q0 : (0 ≤ (n : Int)) = True := eq_true (by omega)
      have q1' : ((n : Int) < (p1.length : Int)) = True := eq_true c8
      have q2' : (n < p1.length) = True := eq_true hn.out
      clear c7 c8
      obtain ⟨⟨q1, q2⟩, A5, H⟩ := Option.bind_eq_some_iff.mp H
      replace A5 := A_ A5
      rw [Int.toNat_natCast, show impl_Board_walk_1.more t c = t from by unfold impl_Board_walk_1.more; rw [if_neg c5]] at A5
      replace H := A_ H
      clear c5
      have hcp5 := HS.out.cellp
      have hcn5 := HS.out.cell n hn.out
      have hfn5 := HS.out.free n
      have HP5 := A_ (HS.out.put n c)
      have hcx5 := HP5.out.cellx
      go_wp2_with (first | ((with_reducible refine Fn.gate_value rfl ?_); refine Fn.goesVw_ (some 58) rfl (by first | rfl | (simp [Region.wanted, yielded]; done)) (impl_Board_walk_1.self gb gd gp gg gx) rfl #[.int .i64 (wrap64 ((n : Int) + 1)), .int .i64 t] rfl (by (try simp only [List.map_toArray, List.map_cons, List.map_nil]); first | done | rfl) ?_; refine impl_Board_walk_1.enters gb gd gp gg gx ?_; (with_reducible refine (ih k1 (by have := HK1.out; omega) w gb gd gp gg gx go rp ro R C Ab lb cb _ (wrap64 ((n : Int) + 1)) t (p1.set n c) o1 q1 q2 HP5.out A5.out).mono ?_); rintro e w8 ⟨rfl, hs⟩; refine ⟨_, rfl, ?_⟩; have HS8 := A_ hs; clear hs hcx5 hcp5 hcn5 hfn5))
      go_roundg k1
      case measure => have := HK1.out; omega
      case rel => exact ⟨wrap64 (c + 1), q1, q2, tf_, H, ⟨by have := HK1.out; omega⟩, HS8⟩
    ·
     rw [if_neg c4] at H
     have c4b := decide_eq_false c4
     clear c4
     obtain ⟨rfl, rfl⟩ := Prod.mk.inj (Option.some.inj H)
     clear H
     go_wp2
     go_end0
     exact ⟨rfl, HS.out⟩

/-! ### impl_Board_walk: function 221 -/
def impl_Board_walk.f (k : Nat) (R C : Int) (lb out : List Int) : Option (List Int) := if 0 ≤ R then (if R ≤ 1000 then ((impl_Board_walk_1.f k R C lb 0 0 (List.replicate R.toNat 0) out).bind fun q => some q.2) else none) else none
theorem impl_Board_walk.calls (k : Nat) (w W : World) (go ro : Nat) (R C : Int) (Ab : Option Addr) (lb : List Int) (cb : Nat) (out r : List Int) (hS : Cap.Cnt 22 3 w go ro W out) (hC : Kd.C (Kd.int .i64) w Ab lb.length lb) (hcb : lb.length ≤ cb) (h : impl_Board_walk.f k R C lb out = some r) :
  Calls Try.prog 221 #[.agg #[.int .i64 R, .int .i64 C, .slice Ab lb.length cb], impl_Board_walk_1.done go] W fun e W' => e = .returned (.tuple #[]) ∧ Cap.Cnt 22 3 w go ro W' r := by
 unfold impl_Board_walk.f at h
 by_cases c1 : 0 ≤ R
 case neg =>
  rw [if_neg c1] at h
  exact absurd h (by simp)
 rw [if_pos c1] at h
 by_cases c2 : R ≤ 1000
 case neg =>
  rw [if_neg c2] at h
  exact absurd h (by simp)
 rw [if_pos c2] at h
 obtain ⟨n, rfl⟩ : ∃ n : Nat, R = (n : Int) := ⟨R.toNat, by omega⟩
 rw [Int.toNat_natCast] at h
 obtain ⟨⟨p2, out2⟩, A1, H⟩ := Option.bind_eq_some_iff.mp h
 obtain rfl := Option.some.inj H
 clear h H
 have HS := A_ hS
 have HC := A_ hC
 have HCb := A_ hcb
 have HA := A_ A1
 have HN : Aside0 (n ≤ 1000) := ⟨by omega⟩
 clear hS hC hcb A1 c1 c2
 have hu28 := Try.underlying28
 have hmf_ : ∀ (fn : Go.Fn) (first cap : Array Value) (w : World), (Instr.makeFunc fn first cap).run Try.prog w = .ok (.func fn first cap) w := fun _ _ _ _ => rfl
 have hmk := print_make_int (P := Try.prog) 22 3 (.int .i64 0) 8 Try.underlying22 info3 rfl (by decide) (n : Int) (by omega) (by have := HN.out; omega)
 simp only [Int.toNat_natCast] at hmk
 go_enter Try.func221, Try.ntmps221
 go_wp2_with (first | ((with_reducible refine Fn.gate_value rfl ?_); refine Fn.goesVw_ (some 12) rfl (by first | rfl | (simp [Region.wanted, yielded]; done)) (impl_Board_walk_1.self W.heap.size (W.heap.size + 1) (W.heap.size + 1 + 1 + 1) (W.heap.size + 1 + 1 + 1 + 1) (W.heap.size + 1 + 1 + 1 + 1 + 1)) rfl #[.int .i64 0, .int .i64 0] rfl (by (try simp only [List.map_toArray, List.map_cons, List.map_nil]); first | done | rfl) ?_; refine impl_Board_walk_1.enters _ _ _ _ _ ?_; (with_reducible refine (impl_Board_walk_1.calls k w _ _ _ _ _ go (W.heap.size + 1 + 1) ro (n : Int) C Ab lb cb _ 0 0 (List.replicate n 0) out p2 out2 ?q1 HA.out).mono ?_); (case q1 => exact Cap.Wst.start HS.out HC.out HCb.out HN.out); rintro e w8 ⟨rfl, hs⟩; refine ⟨_, rfl, ?_⟩; have HS8 := A_ hs.cnt; clear hs))
 go_end0
 exact ⟨rfl, HS8.out⟩

/-! ### impl_Board_numbers: function 130 -/
def impl_Board_numbers.f (k : Nat) (a0_0 : Int) (a0_1 : Int) (l0_2 : List Int) : Option (List Int) := if 0 ≤ wrap64 (mn a0_0 a0_1 + 1) then (if wrap64 (mn a0_0 a0_1 + 1) ≤ 1000 then impl_Board_walk.f k a0_0 a0_1 l0_2 (List.replicate (wrap64 (mn a0_0 a0_1 + 1)).toNat 0) else none) else none
theorem impl_Board_numbers.mono : ∀ a b l k, LeO (impl_Board_numbers.f k a b l) (impl_Board_numbers.f (k + 1) a b l) := by
 intro a b l k
 unfold impl_Board_numbers.f
 refine LeO.ite ?_ (LeO.refl _)
 refine LeO.ite ?_ (LeO.refl _)
 unfold impl_Board_walk.f
 refine LeO.ite ?_ (LeO.refl _)
 refine LeO.ite ?_ (LeO.refl _)
 exact LeO.bind (impl_Board_walk_1.mono _ _ _ _ _ _ _ _) (fun _ => LeO.refl _)
theorem impl_Board_numbers.calls (k : Nat) (a0_0 : Int) (a0_1 : Int) (A0_2 : Option Addr) (c0_2 : Nat) (l0_2 : List Int) (r : List Int) (w : World) (hr0_2 : Kd.C (Kd.int .i64) w A0_2 l0_2.length l0_2) (hc0_2 : l0_2.length ≤ c0_2) (h : impl_Board_numbers.f k a0_0 a0_1 l0_2 = some r) :
  Calls Try.prog 130 #[.agg #[.int .i64 a0_0, .int .i64 a0_1, .slice A0_2 l0_2.length c0_2]] w fun e w' => ∃ v0_ : Value, e = .returned (v0_) ∧ (Kd.int .i64).R 3 w' w.heap.size (fun _ => True) v0_ r ∧ Below w.heap.size w w' := by
 unfold impl_Board_numbers.f at h
 by_cases c3 : a0_1 < a0_0
 case pos =>
  have e : mn a0_0 a0_1 = a0_1 := by unfold mn; rw [if_pos c3]
  have c3' : (a0_1 < a0_0) = True := eq_true c3
  rw [e] at h
  clear e c3
  by_cases c1 : 0 ≤ wrap64 (a0_1 + 1)
  case neg =>
   rw [if_neg c1] at h
   exact absurd h (by simp)
  rw [if_pos c1] at h
  by_cases c2 : wrap64 (a0_1 + 1) ≤ 1000
  case neg =>
   rw [if_neg c2] at h
   exact absurd h (by simp)
  rw [if_pos c2] at h
  have HR := A_ hr0_2
  have HC := A_ hc0_2
  have HA := A_ h
  have HN : Aside0 ((wrap64 (a0_1 + 1)).toNat ≤ 1000) := ⟨by omega⟩
  have hu28 := Try.underlying28
  have hmf_ : ∀ (fn : Go.Fn) (first cap : Array Value) (w : World), (Instr.makeFunc fn first cap).run Try.prog w = .ok (.func fn first cap) w := fun _ _ _ _ => rfl
  have hmk := print_make_int (P := Try.prog) 22 3 (.int .i64 0) 8 Try.underlying22 info3 rfl (by decide) (wrap64 (a0_1 + 1)) c1 (by have := HN.out; omega)
  clear hr0_2 hc0_2 h c1 c2
  go_enter Try.func130, Try.ntmps130
  go_wp2_with (first | (go_at_call 221; (have HS := A_ (Cap.Cnt.start (tB := 28) (tI := 22) (tR := 3) (w := w) (bs := #[.int .i64 a0_0, .int .i64 a0_1, .slice A0_2 l0_2.length c0_2]) (n := (wrap64 (a0_1 + 1)).toNat) (by have := HN.out; omega))); (refine (impl_Board_walk.calls k w _ (w.heap.size + 1 + 1) (w.heap.size + 1) a0_0 a0_1 A0_2 l0_2 c0_2 (List.replicate (wrap64 (a0_1 + 1)).toNat 0) r HS.out HR.out HC.out HA.out).mono ?_); rintro e w8 ⟨rfl, hs⟩; have HS8 := A_ hs; have hco8 := HS8.out.cello; clear hs))
  go_ret
  exact ⟨_, rfl, HS8.out.row, HS8.out.bel⟩
 case neg =>
  have e : mn a0_0 a0_1 = a0_0 := by unfold mn; rw [if_neg c3]
  have c3' : (a0_1 < a0_0) = False := eq_false c3
  rw [e] at h
  clear e c3
  by_cases c1 : 0 ≤ wrap64 (a0_0 + 1)
  case neg =>
   rw [if_neg c1] at h
   exact absurd h (by simp)
  rw [if_pos c1] at h
  by_cases c2 : wrap64 (a0_0 + 1) ≤ 1000
  case neg =>
   rw [if_neg c2] at h
   exact absurd h (by simp)
  rw [if_pos c2] at h
  have HR := A_ hr0_2
  have HC := A_ hc0_2
  have HA := A_ h
  have HN : Aside0 ((wrap64 (a0_0 + 1)).toNat ≤ 1000) := ⟨by omega⟩
  have hu28 := Try.underlying28
  have hmf_ : ∀ (fn : Go.Fn) (first cap : Array Value) (w : World), (Instr.makeFunc fn first cap).run Try.prog w = .ok (.func fn first cap) w := fun _ _ _ _ => rfl
  have hmk := print_make_int (P := Try.prog) 22 3 (.int .i64 0) 8 Try.underlying22 info3 rfl (by decide) (wrap64 (a0_0 + 1)) c1 (by have := HN.out; omega)
  clear hr0_2 hc0_2 h c1 c2
  go_enter Try.func130, Try.ntmps130
  go_wp2_with (first | (go_at_call 221; (have HS := A_ (Cap.Cnt.start (tB := 28) (tI := 22) (tR := 3) (w := w) (bs := #[.int .i64 a0_0, .int .i64 a0_1, .slice A0_2 l0_2.length c0_2]) (n := (wrap64 (a0_0 + 1)).toNat) (by have := HN.out; omega))); (refine (impl_Board_walk.calls k w _ (w.heap.size + 1 + 1) (w.heap.size + 1) a0_0 a0_1 A0_2 l0_2 c0_2 (List.replicate (wrap64 (a0_0 + 1)).toNat 0) r HS.out HR.out HC.out HA.out).mono ?_); rintro e w8 ⟨rfl, hs⟩; have HS8 := A_ hs; have hco8 := HS8.out.cello; clear hs))
  go_ret
  exact ⟨_, rfl, HS8.out.row, HS8.out.bel⟩

end
end Go.Proofs.Ytnpacpdpgngdpaa.P
