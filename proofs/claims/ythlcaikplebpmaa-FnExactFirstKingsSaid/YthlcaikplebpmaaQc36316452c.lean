-- printed functions (wip/slim.py)
import Derived.Test.YthlcaikplebpmaaPx0
import Derived.Test.YthlcaikplebpmaaKg
import Derived.Test.YthlcaikplebpmaaLn
import Derived.Test.YthlcaikplebpmaaQ1f543403c0
import Derived.Test.YthlcaikplebpmaaQ216f379656
namespace Go.Proofs.Ythlcaikplebpmaa.P
noncomputable section
set_option maxHeartbeats 8000000
set_option maxRecDepth 100000
open Go.RowKit Go.Proofs.YthlcaikplebpmaaW.PrintWords Go.Proofs.YthlcaikplebpmaaW.PrintLast Go.Proofs.YthlcaikplebpmaaW.PrintMore
attribute [local go_sem] max2_int min2_int max_two min_two max_three min_three max_four min_four   -- for this text's walks alone
set_option linter.unusedVariables false
set_option linter.unusedSimpArgs false

/-! ### impl_asKings: function 109 -/
def impl_asKings.f (l0 : List Int) (l1 : List Int) : Option (Bool) := if 0 < (l0.length : Int) then (if 0 < (l1.length : Int) then (if (mx (wrap64 ((rd l0 0) - (rd l1 0))) (wrap64 ((rd l1 0) - (rd l0 0)))) > 1 then (some true) else (if 1 < (l0.length : Int) then (if 1 < (l1.length : Int) then (some (decide ((mx (wrap64 ((rd l0 1) - (rd l1 1))) (wrap64 ((rd l1 1) - (rd l0 1)))) > 1))) else (none)) else (none))) else (none)) else (none)
theorem impl_asKings.calls (A0 : Option Addr) (c0 : Nat) (l0 : List Int) (A1 : Option Addr) (c1 : Nat) (l1 : List Int) (r : Bool) (w : World) (hr0 : Kd.C (Kd.int .i64) w A0 l0.length l0) (hc0 : l0.length ≤ c0) (hr1 : Kd.C (Kd.int .i64) w A1 l1.length l1) (hc1 : l1.length ≤ c1) (h : impl_asKings.f l0 l1 = some r) :
  Calls Try.prog 109 #[.slice A0 l0.length c0, .slice A1 l1.length c1] w fun e w' => e = .returned (.bool r) ∧ Below w.heap.size w w' := by
 have HR0 := A_ hr0
 have HC0 := A_ hc0
 clear hr0 hc0
 have HR1 := A_ hr1
 have HC1 := A_ hc1
 clear hr1 hc1
 have HB := A_ (Below.refl w.heap.size w)
 have H : (if 0 < (l0.length : Int) then (if 0 < (l1.length : Int) then (if (mx (wrap64 ((rd l0 0) - (rd l1 0))) (wrap64 ((rd l1 0) - (rd l0 0)))) > 1 then (some true) else (if 1 < (l0.length : Int) then (if 1 < (l1.length : Int) then (some (decide ((mx (wrap64 ((rd l0 1) - (rd l1 1))) (wrap64 ((rd l1 1) - (rd l0 1)))) > 1))) else (none)) else (none))) else (none)) else (none)) = some r := h
 clear h
 by_cases c3 : 0 < (l0.length : Int)
 ·
  rw [if_pos c3] at H
  have c3b0 := decide_eq_true c3
  have c3b1 : decide (0 < l0.length) = true := decide_eq_true (by omega)
  clear c3
  by_cases c4 : 0 < (l1.length : Int)
  ·
   rw [if_pos c4] at H
   have c4b0 := decide_eq_true c4
   have c4b1 : decide (0 < l1.length) = true := decide_eq_true (by omega)
   clear c4
   obtain ⟨ji5, hji5⟩ : ∃ j_ : Int, (mx (wrap64 ((rd l0 0) - (rd l1 0))) (wrap64 ((rd l1 0) - (rd l0 0)))) = j_ := ⟨_, rfl⟩
   replace H : (if (ji5) > 1 then (some true) else (if 1 < (l0.length : Int) then (if 1 < (l1.length : Int) then (some (decide ((mx (wrap64 ((rd l0 1) - (rd l1 1))) (wrap64 ((rd l1 1) - (rd l0 1)))) > 1))) else (none)) else (none))) = some r := by first | (rw [hji5] at H; exact H) | (simp only [hji5] at H ⊢; exact H)
   have hji5_ : (if (wrap64 ((rd l0 0) - (rd l1 0))) < (wrap64 ((rd l1 0) - (rd l0 0))) then (wrap64 ((rd l1 0) - (rd l0 0))) else (wrap64 ((rd l0 0) - (rd l1 0)))) = ji5 := hji5
   by_cases c6 : (ji5) > 1
   ·
    rw [if_pos c6] at H
    have c6b0 := decide_eq_true c6
    clear c6
    obtain rfl := Option.some.inj H
    have p773 : 0 ≤ (0 : Int) := (by omega)
    have q773 : 0 < (l0.length : Int) := od_
    obtain ⟨ad773, e773, hx773_0⟩ := Kd.at_int HR0.out 0 p773 q773
    cases e773
    have qi773 : (0 < l0.length) = True := eq_true (by omega)
    (try rw [show ((0 : Int)).toNat = 0 from rfl] at hx773_0)
    (try rw [Addr.add_zero'] at hx773_0)
    replace p773 := eq_true p773
    replace q773 := eq_true q773
    have p774 : 0 ≤ (0 : Int) := (by omega)
    have q774 : 0 < (l1.length : Int) := od_
    obtain ⟨ad774, e774, hx774_0⟩ := Kd.at_int HR1.out 0 p774 q774
    cases e774
    have qi774 : (0 < l1.length) = True := eq_true (by omega)
    (try rw [show ((0 : Int)).toNat = 0 from rfl] at hx774_0)
    (try rw [Addr.add_zero'] at hx774_0)
    replace p774 := eq_true p774
    replace q774 := eq_true q774
    have p775 : 0 ≤ (0 : Int) := (by omega)
    have q775 : 0 < (l1.length : Int) := od_
    obtain ⟨ad775, e775, hx775_0⟩ := Kd.at_int HR1.out 0 p775 q775
    obtain rfl : ad774 = ad775 := (by injection e775)
    have qi775 : (0 < l1.length) = True := eq_true (by omega)
    (try rw [show ((0 : Int)).toNat = 0 from rfl] at hx775_0)
    (try rw [Addr.add_zero'] at hx775_0)
    replace p775 := eq_true p775
    replace q775 := eq_true q775
    have p776 : 0 ≤ (0 : Int) := (by omega)
    have q776 : 0 < (l0.length : Int) := od_
    obtain ⟨ad776, e776, hx776_0⟩ := Kd.at_int HR0.out 0 p776 q776
    obtain rfl : ad773 = ad776 := (by injection e776)
    have qi776 : (0 < l0.length) = True := eq_true (by omega)
    (try rw [show ((0 : Int)).toNat = 0 from rfl] at hx776_0)
    (try rw [Addr.add_zero'] at hx776_0)
    replace p776 := eq_true p776
    replace q776 := eq_true q776
    go_enter Try.func109, Try.ntmps109
    go_wp2
    repeat (go_quiet (fail); try go_wp2)
    go_ret
    exact ⟨by first | rfl | (simp [errW_none, errW_some] <;> rfl) | (simp only [← hji5]; first | rfl | (simp [errW_none, errW_some] <;> rfl)) | (simp [*, errW_none, errW_some] <;> rfl), tb_⟩
   ·
    rw [if_neg c6] at H
    have c6b0 := decide_eq_false c6
    clear c6
    by_cases c7 : 1 < (l0.length : Int)
    ·
     rw [if_pos c7] at H
     have c7b0 := decide_eq_true c7
     have c7b1 : decide (1 < l0.length) = true := decide_eq_true (by omega)
     clear c7
     by_cases c8 : 1 < (l1.length : Int)
     ·
      rw [if_pos c8] at H
      have c8b0 := decide_eq_true c8
      have c8b1 : decide (1 < l1.length) = true := decide_eq_true (by omega)
      clear c8
      obtain ⟨ji9, hji9⟩ : ∃ j_ : Int, (mx (wrap64 ((rd l0 1) - (rd l1 1))) (wrap64 ((rd l1 1) - (rd l0 1)))) = j_ := ⟨_, rfl⟩
      replace H : (some (decide ((ji9) > 1))) = some r := by first | (rw [hji9] at H; exact H) | (simp only [hji9] at H ⊢; exact H)
      have hji9_ : (if (wrap64 ((rd l0 1) - (rd l1 1))) < (wrap64 ((rd l1 1) - (rd l0 1))) then (wrap64 ((rd l1 1) - (rd l0 1))) else (wrap64 ((rd l0 1) - (rd l1 1)))) = ji9 := hji9
      obtain rfl := Option.some.inj H
      have p773 : 0 ≤ (0 : Int) := (by omega)
      have q773 : 0 < (l0.length : Int) := od_
      obtain ⟨ad773, e773, hx773_0⟩ := Kd.at_int HR0.out 0 p773 q773
      cases e773
      have qi773 : (0 < l0.length) = True := eq_true (by omega)
      (try rw [show ((0 : Int)).toNat = 0 from rfl] at hx773_0)
      (try rw [Addr.add_zero'] at hx773_0)
      replace p773 := eq_true p773
      replace q773 := eq_true q773
      have p774 : 0 ≤ (0 : Int) := (by omega)
      have q774 : 0 < (l1.length : Int) := od_
      obtain ⟨ad774, e774, hx774_0⟩ := Kd.at_int HR1.out 0 p774 q774
      cases e774
      have qi774 : (0 < l1.length) = True := eq_true (by omega)
      (try rw [show ((0 : Int)).toNat = 0 from rfl] at hx774_0)
      (try rw [Addr.add_zero'] at hx774_0)
      replace p774 := eq_true p774
      replace q774 := eq_true q774
      have p775 : 0 ≤ (0 : Int) := (by omega)
      have q775 : 0 < (l1.length : Int) := od_
      obtain ⟨ad775, e775, hx775_0⟩ := Kd.at_int HR1.out 0 p775 q775
      obtain rfl : ad774 = ad775 := (by injection e775)
      have qi775 : (0 < l1.length) = True := eq_true (by omega)
      (try rw [show ((0 : Int)).toNat = 0 from rfl] at hx775_0)
      (try rw [Addr.add_zero'] at hx775_0)
      replace p775 := eq_true p775
      replace q775 := eq_true q775
      have p776 : 0 ≤ (0 : Int) := (by omega)
      have q776 : 0 < (l0.length : Int) := od_
      obtain ⟨ad776, e776, hx776_0⟩ := Kd.at_int HR0.out 0 p776 q776
      obtain rfl : ad773 = ad776 := (by injection e776)
      have qi776 : (0 < l0.length) = True := eq_true (by omega)
      (try rw [show ((0 : Int)).toNat = 0 from rfl] at hx776_0)
      (try rw [Addr.add_zero'] at hx776_0)
      replace p776 := eq_true p776
      replace q776 := eq_true q776
      have p777 : 0 ≤ (1 : Int) := (by omega)
      have q777 : 1 < (l0.length : Int) := od_
      obtain ⟨ad777, e777, hx777_0⟩ := Kd.at_int HR0.out 1 p777 q777
      obtain rfl : ad773 = ad777 := (by injection e777)
      (try simp only [show (1 : Int).toNat = 1 from rfl, Nat.reduceMul, Nat.reduceEqDiff, Go.Addr.add, ↓reduceIte] at hx777_0)
      have qi777 : (1 < l0.length) = True := eq_true (by omega)
      (try rw [show ((1 : Int)).toNat = 1 from rfl] at hx777_0)
      replace p777 := eq_true p777
      replace q777 := eq_true q777
      have p778 : 0 ≤ (1 : Int) := (by omega)
      have q778 : 1 < (l1.length : Int) := od_
      obtain ⟨ad778, e778, hx778_0⟩ := Kd.at_int HR1.out 1 p778 q778
      obtain rfl : ad774 = ad778 := (by injection e778)
      (try simp only [show (1 : Int).toNat = 1 from rfl, Nat.reduceMul, Nat.reduceEqDiff, Go.Addr.add, ↓reduceIte] at hx778_0)
      have qi778 : (1 < l1.length) = True := eq_true (by omega)
      (try rw [show ((1 : Int)).toNat = 1 from rfl] at hx778_0)
      replace p778 := eq_true p778
      replace q778 := eq_true q778
      have p779 : 0 ≤ (1 : Int) := (by omega)
      have q779 : 1 < (l1.length : Int) := od_
      obtain ⟨ad779, e779, hx779_0⟩ := Kd.at_int HR1.out 1 p779 q779
      obtain rfl : ad774 = ad779 := (by injection e779)
      (try simp only [show (1 : Int).toNat = 1 from rfl, Nat.reduceMul, Nat.reduceEqDiff, Go.Addr.add, ↓reduceIte] at hx779_0)
      have qi779 : (1 < l1.length) = True := eq_true (by omega)
      (try rw [show ((1 : Int)).toNat = 1 from rfl] at hx779_0)
      replace p779 := eq_true p779
      replace q779 := eq_true q779
      have p780 : 0 ≤ (1 : Int) := (by omega)
      have q780 : 1 < (l0.length : Int) := od_
      obtain ⟨ad780, e780, hx780_0⟩ := Kd.at_int HR0.out 1 p780 q780
      obtain rfl : ad773 = ad780 := (by injection e780)
      (try simp only [show (1 : Int).toNat = 1 from rfl, Nat.reduceMul, Nat.reduceEqDiff, Go.Addr.add, ↓reduceIte] at hx780_0)
      have qi780 : (1 < l0.length) = True := eq_true (by omega)
      (try rw [show ((1 : Int)).toNat = 1 from rfl] at hx780_0)
      replace p780 := eq_true p780
      replace q780 := eq_true q780
      go_enter Try.func109, Try.ntmps109
      go_wp2
      repeat (go_quiet (fail); try go_wp2)
      go_ret
      exact ⟨by first | rfl | (simp [errW_none, errW_some] <;> rfl) | (simp only [← hji5, ← hji9]; first | rfl | (simp [errW_none, errW_some] <;> rfl)) | (simp [*, errW_none, errW_some] <;> rfl), tb_⟩
     ·
      rw [if_neg c8] at H
      exact absurd H (by simp)
    ·
     rw [if_neg c7] at H
     exact absurd H (by simp)
  ·
   rw [if_neg c4] at H
   exact absurd H (by simp)
 ·
  rw [if_neg c3] at H
  exact absurd H (by simp)

/-! ### bits_OnesCount64: function 227 -/
def bits_OnesCount64.f (a0 : Int) : Option (Int) := some (Go.bits .and .i64 (wrap64 (IntKind.u64.wrap ((IntKind.u64.wrap ((IntKind.u64.wrap ((Go.bits .and .u64 (IntKind.u64.wrap (((IntKind.u64.wrap ((Go.bits .and .u64 ((IntKind.u64.wrap ((Go.bits .and .u64 (a0 / 2) 6148914691236517205) + (Go.bits .and .u64 a0 6148914691236517205))) / 4) 3689348814741910323) + (Go.bits .and .u64 (IntKind.u64.wrap ((Go.bits .and .u64 (a0 / 2) 6148914691236517205) + (Go.bits .and .u64 a0 6148914691236517205))) 3689348814741910323))) / 16) + (IntKind.u64.wrap ((Go.bits .and .u64 ((IntKind.u64.wrap ((Go.bits .and .u64 (a0 / 2) 6148914691236517205) + (Go.bits .and .u64 a0 6148914691236517205))) / 4) 3689348814741910323) + (Go.bits .and .u64 (IntKind.u64.wrap ((Go.bits .and .u64 (a0 / 2) 6148914691236517205) + (Go.bits .and .u64 a0 6148914691236517205))) 3689348814741910323))))) 1085102592571150095) + ((Go.bits .and .u64 (IntKind.u64.wrap (((IntKind.u64.wrap ((Go.bits .and .u64 ((IntKind.u64.wrap ((Go.bits .and .u64 (a0 / 2) 6148914691236517205) + (Go.bits .and .u64 a0 6148914691236517205))) / 4) 3689348814741910323) + (Go.bits .and .u64 (IntKind.u64.wrap ((Go.bits .and .u64 (a0 / 2) 6148914691236517205) + (Go.bits .and .u64 a0 6148914691236517205))) 3689348814741910323))) / 16) + (IntKind.u64.wrap ((Go.bits .and .u64 ((IntKind.u64.wrap ((Go.bits .and .u64 (a0 / 2) 6148914691236517205) + (Go.bits .and .u64 a0 6148914691236517205))) / 4) 3689348814741910323) + (Go.bits .and .u64 (IntKind.u64.wrap ((Go.bits .and .u64 (a0 / 2) 6148914691236517205) + (Go.bits .and .u64 a0 6148914691236517205))) 3689348814741910323))))) 1085102592571150095) / 256))) + ((IntKind.u64.wrap ((Go.bits .and .u64 (IntKind.u64.wrap (((IntKind.u64.wrap ((Go.bits .and .u64 ((IntKind.u64.wrap ((Go.bits .and .u64 (a0 / 2) 6148914691236517205) + (Go.bits .and .u64 a0 6148914691236517205))) / 4) 3689348814741910323) + (Go.bits .and .u64 (IntKind.u64.wrap ((Go.bits .and .u64 (a0 / 2) 6148914691236517205) + (Go.bits .and .u64 a0 6148914691236517205))) 3689348814741910323))) / 16) + (IntKind.u64.wrap ((Go.bits .and .u64 ((IntKind.u64.wrap ((Go.bits .and .u64 (a0 / 2) 6148914691236517205) + (Go.bits .and .u64 a0 6148914691236517205))) / 4) 3689348814741910323) + (Go.bits .and .u64 (IntKind.u64.wrap ((Go.bits .and .u64 (a0 / 2) 6148914691236517205) + (Go.bits .and .u64 a0 6148914691236517205))) 3689348814741910323))))) 1085102592571150095) + ((Go.bits .and .u64 (IntKind.u64.wrap (((IntKind.u64.wrap ((Go.bits .and .u64 ((IntKind.u64.wrap ((Go.bits .and .u64 (a0 / 2) 6148914691236517205) + (Go.bits .and .u64 a0 6148914691236517205))) / 4) 3689348814741910323) + (Go.bits .and .u64 (IntKind.u64.wrap ((Go.bits .and .u64 (a0 / 2) 6148914691236517205) + (Go.bits .and .u64 a0 6148914691236517205))) 3689348814741910323))) / 16) + (IntKind.u64.wrap ((Go.bits .and .u64 ((IntKind.u64.wrap ((Go.bits .and .u64 (a0 / 2) 6148914691236517205) + (Go.bits .and .u64 a0 6148914691236517205))) / 4) 3689348814741910323) + (Go.bits .and .u64 (IntKind.u64.wrap ((Go.bits .and .u64 (a0 / 2) 6148914691236517205) + (Go.bits .and .u64 a0 6148914691236517205))) 3689348814741910323))))) 1085102592571150095) / 256))) / 65536))) + ((IntKind.u64.wrap ((IntKind.u64.wrap ((Go.bits .and .u64 (IntKind.u64.wrap (((IntKind.u64.wrap ((Go.bits .and .u64 ((IntKind.u64.wrap ((Go.bits .and .u64 (a0 / 2) 6148914691236517205) + (Go.bits .and .u64 a0 6148914691236517205))) / 4) 3689348814741910323) + (Go.bits .and .u64 (IntKind.u64.wrap ((Go.bits .and .u64 (a0 / 2) 6148914691236517205) + (Go.bits .and .u64 a0 6148914691236517205))) 3689348814741910323))) / 16) + (IntKind.u64.wrap ((Go.bits .and .u64 ((IntKind.u64.wrap ((Go.bits .and .u64 (a0 / 2) 6148914691236517205) + (Go.bits .and .u64 a0 6148914691236517205))) / 4) 3689348814741910323) + (Go.bits .and .u64 (IntKind.u64.wrap ((Go.bits .and .u64 (a0 / 2) 6148914691236517205) + (Go.bits .and .u64 a0 6148914691236517205))) 3689348814741910323))))) 1085102592571150095) + ((Go.bits .and .u64 (IntKind.u64.wrap (((IntKind.u64.wrap ((Go.bits .and .u64 ((IntKind.u64.wrap ((Go.bits .and .u64 (a0 / 2) 6148914691236517205) + (Go.bits .and .u64 a0 6148914691236517205))) / 4) 3689348814741910323) + (Go.bits .and .u64 (IntKind.u64.wrap ((Go.bits .and .u64 (a0 / 2) 6148914691236517205) + (Go.bits .and .u64 a0 6148914691236517205))) 3689348814741910323))) / 16) + (IntKind.u64.wrap ((Go.bits .and .u64 ((IntKind.u64.wrap ((Go.bits .and .u64 (a0 / 2) 6148914691236517205) + (Go.bits .and .u64 a0 6148914691236517205))) / 4) 3689348814741910323) + (Go.bits .and .u64 (IntKind.u64.wrap ((Go.bits .and .u64 (a0 / 2) 6148914691236517205) + (Go.bits .and .u64 a0 6148914691236517205))) 3689348814741910323))))) 1085102592571150095) / 256))) + ((IntKind.u64.wrap ((Go.bits .and .u64 (IntKind.u64.wrap (((IntKind.u64.wrap ((Go.bits .and .u64 ((IntKind.u64.wrap ((Go.bits .and .u64 (a0 / 2) 6148914691236517205) + (Go.bits .and .u64 a0 6148914691236517205))) / 4) 3689348814741910323) + (Go.bits .and .u64 (IntKind.u64.wrap ((Go.bits .and .u64 (a0 / 2) 6148914691236517205) + (Go.bits .and .u64 a0 6148914691236517205))) 3689348814741910323))) / 16) + (IntKind.u64.wrap ((Go.bits .and .u64 ((IntKind.u64.wrap ((Go.bits .and .u64 (a0 / 2) 6148914691236517205) + (Go.bits .and .u64 a0 6148914691236517205))) / 4) 3689348814741910323) + (Go.bits .and .u64 (IntKind.u64.wrap ((Go.bits .and .u64 (a0 / 2) 6148914691236517205) + (Go.bits .and .u64 a0 6148914691236517205))) 3689348814741910323))))) 1085102592571150095) + ((Go.bits .and .u64 (IntKind.u64.wrap (((IntKind.u64.wrap ((Go.bits .and .u64 ((IntKind.u64.wrap ((Go.bits .and .u64 (a0 / 2) 6148914691236517205) + (Go.bits .and .u64 a0 6148914691236517205))) / 4) 3689348814741910323) + (Go.bits .and .u64 (IntKind.u64.wrap ((Go.bits .and .u64 (a0 / 2) 6148914691236517205) + (Go.bits .and .u64 a0 6148914691236517205))) 3689348814741910323))) / 16) + (IntKind.u64.wrap ((Go.bits .and .u64 ((IntKind.u64.wrap ((Go.bits .and .u64 (a0 / 2) 6148914691236517205) + (Go.bits .and .u64 a0 6148914691236517205))) / 4) 3689348814741910323) + (Go.bits .and .u64 (IntKind.u64.wrap ((Go.bits .and .u64 (a0 / 2) 6148914691236517205) + (Go.bits .and .u64 a0 6148914691236517205))) 3689348814741910323))))) 1085102592571150095) / 256))) / 65536))) / 4294967296)))) 127)
theorem bits_OnesCount64.calls (a0 : Int) (r : Int) (w : World) (h : bits_OnesCount64.f a0 = some r) :
  Calls Try.prog 227 #[.int .u64 a0] w fun e w' => e = .returned (.int .i64 r) ∧ Drawn0 w w' := by
 have H : (some (Go.bits .and .i64 (wrap64 (IntKind.u64.wrap ((IntKind.u64.wrap ((IntKind.u64.wrap ((Go.bits .and .u64 (IntKind.u64.wrap (((IntKind.u64.wrap ((Go.bits .and .u64 ((IntKind.u64.wrap ((Go.bits .and .u64 (a0 / 2) 6148914691236517205) + (Go.bits .and .u64 a0 6148914691236517205))) / 4) 3689348814741910323) + (Go.bits .and .u64 (IntKind.u64.wrap ((Go.bits .and .u64 (a0 / 2) 6148914691236517205) + (Go.bits .and .u64 a0 6148914691236517205))) 3689348814741910323))) / 16) + (IntKind.u64.wrap ((Go.bits .and .u64 ((IntKind.u64.wrap ((Go.bits .and .u64 (a0 / 2) 6148914691236517205) + (Go.bits .and .u64 a0 6148914691236517205))) / 4) 3689348814741910323) + (Go.bits .and .u64 (IntKind.u64.wrap ((Go.bits .and .u64 (a0 / 2) 6148914691236517205) + (Go.bits .and .u64 a0 6148914691236517205))) 3689348814741910323))))) 1085102592571150095) + ((Go.bits .and .u64 (IntKind.u64.wrap (((IntKind.u64.wrap ((Go.bits .and .u64 ((IntKind.u64.wrap ((Go.bits .and .u64 (a0 / 2) 6148914691236517205) + (Go.bits .and .u64 a0 6148914691236517205))) / 4) 3689348814741910323) + (Go.bits .and .u64 (IntKind.u64.wrap ((Go.bits .and .u64 (a0 / 2) 6148914691236517205) + (Go.bits .and .u64 a0 6148914691236517205))) 3689348814741910323))) / 16) + (IntKind.u64.wrap ((Go.bits .and .u64 ((IntKind.u64.wrap ((Go.bits .and .u64 (a0 / 2) 6148914691236517205) + (Go.bits .and .u64 a0 6148914691236517205))) / 4) 3689348814741910323) + (Go.bits .and .u64 (IntKind.u64.wrap ((Go.bits .and .u64 (a0 / 2) 6148914691236517205) + (Go.bits .and .u64 a0 6148914691236517205))) 3689348814741910323))))) 1085102592571150095) / 256))) + ((IntKind.u64.wrap ((Go.bits .and .u64 (IntKind.u64.wrap (((IntKind.u64.wrap ((Go.bits .and .u64 ((IntKind.u64.wrap ((Go.bits .and .u64 (a0 / 2) 6148914691236517205) + (Go.bits .and .u64 a0 6148914691236517205))) / 4) 3689348814741910323) + (Go.bits .and .u64 (IntKind.u64.wrap ((Go.bits .and .u64 (a0 / 2) 6148914691236517205) + (Go.bits .and .u64 a0 6148914691236517205))) 3689348814741910323))) / 16) + (IntKind.u64.wrap ((Go.bits .and .u64 ((IntKind.u64.wrap ((Go.bits .and .u64 (a0 / 2) 6148914691236517205) + (Go.bits .and .u64 a0 6148914691236517205))) / 4) 3689348814741910323) + (Go.bits .and .u64 (IntKind.u64.wrap ((Go.bits .and .u64 (a0 / 2) 6148914691236517205) + (Go.bits .and .u64 a0 6148914691236517205))) 3689348814741910323))))) 1085102592571150095) + ((Go.bits .and .u64 (IntKind.u64.wrap (((IntKind.u64.wrap ((Go.bits .and .u64 ((IntKind.u64.wrap ((Go.bits .and .u64 (a0 / 2) 6148914691236517205) + (Go.bits .and .u64 a0 6148914691236517205))) / 4) 3689348814741910323) + (Go.bits .and .u64 (IntKind.u64.wrap ((Go.bits .and .u64 (a0 / 2) 6148914691236517205) + (Go.bits .and .u64 a0 6148914691236517205))) 3689348814741910323))) / 16) + (IntKind.u64.wrap ((Go.bits .and .u64 ((IntKind.u64.wrap ((Go.bits .and .u64 (a0 / 2) 6148914691236517205) + (Go.bits .and .u64 a0 6148914691236517205))) / 4) 3689348814741910323) + (Go.bits .and .u64 (IntKind.u64.wrap ((Go.bits .and .u64 (a0 / 2) 6148914691236517205) + (Go.bits .and .u64 a0 6148914691236517205))) 3689348814741910323))))) 1085102592571150095) / 256))) / 65536))) + ((IntKind.u64.wrap ((IntKind.u64.wrap ((Go.bits .and .u64 (IntKind.u64.wrap (((IntKind.u64.wrap ((Go.bits .and .u64 ((IntKind.u64.wrap ((Go.bits .and .u64 (a0 / 2) 6148914691236517205) + (Go.bits .and .u64 a0 6148914691236517205))) / 4) 3689348814741910323) + (Go.bits .and .u64 (IntKind.u64.wrap ((Go.bits .and .u64 (a0 / 2) 6148914691236517205) + (Go.bits .and .u64 a0 6148914691236517205))) 3689348814741910323))) / 16) + (IntKind.u64.wrap ((Go.bits .and .u64 ((IntKind.u64.wrap ((Go.bits .and .u64 (a0 / 2) 6148914691236517205) + (Go.bits .and .u64 a0 6148914691236517205))) / 4) 3689348814741910323) + (Go.bits .and .u64 (IntKind.u64.wrap ((Go.bits .and .u64 (a0 / 2) 6148914691236517205) + (Go.bits .and .u64 a0 6148914691236517205))) 3689348814741910323))))) 1085102592571150095) + ((Go.bits .and .u64 (IntKind.u64.wrap (((IntKind.u64.wrap ((Go.bits .and .u64 ((IntKind.u64.wrap ((Go.bits .and .u64 (a0 / 2) 6148914691236517205) + (Go.bits .and .u64 a0 6148914691236517205))) / 4) 3689348814741910323) + (Go.bits .and .u64 (IntKind.u64.wrap ((Go.bits .and .u64 (a0 / 2) 6148914691236517205) + (Go.bits .and .u64 a0 6148914691236517205))) 3689348814741910323))) / 16) + (IntKind.u64.wrap ((Go.bits .and .u64 ((IntKind.u64.wrap ((Go.bits .and .u64 (a0 / 2) 6148914691236517205) + (Go.bits .and .u64 a0 6148914691236517205))) / 4) 3689348814741910323) + (Go.bits .and .u64 (IntKind.u64.wrap ((Go.bits .and .u64 (a0 / 2) 6148914691236517205) + (Go.bits .and .u64 a0 6148914691236517205))) 3689348814741910323))))) 1085102592571150095) / 256))) + ((IntKind.u64.wrap ((Go.bits .and .u64 (IntKind.u64.wrap (((IntKind.u64.wrap ((Go.bits .and .u64 ((IntKind.u64.wrap ((Go.bits .and .u64 (a0 / 2) 6148914691236517205) + (Go.bits .and .u64 a0 6148914691236517205))) / 4) 3689348814741910323) + (Go.bits .and .u64 (IntKind.u64.wrap ((Go.bits .and .u64 (a0 / 2) 6148914691236517205) + (Go.bits .and .u64 a0 6148914691236517205))) 3689348814741910323))) / 16) + (IntKind.u64.wrap ((Go.bits .and .u64 ((IntKind.u64.wrap ((Go.bits .and .u64 (a0 / 2) 6148914691236517205) + (Go.bits .and .u64 a0 6148914691236517205))) / 4) 3689348814741910323) + (Go.bits .and .u64 (IntKind.u64.wrap ((Go.bits .and .u64 (a0 / 2) 6148914691236517205) + (Go.bits .and .u64 a0 6148914691236517205))) 3689348814741910323))))) 1085102592571150095) + ((Go.bits .and .u64 (IntKind.u64.wrap (((IntKind.u64.wrap ((Go.bits .and .u64 ((IntKind.u64.wrap ((Go.bits .and .u64 (a0 / 2) 6148914691236517205) + (Go.bits .and .u64 a0 6148914691236517205))) / 4) 3689348814741910323) + (Go.bits .and .u64 (IntKind.u64.wrap ((Go.bits .and .u64 (a0 / 2) 6148914691236517205) + (Go.bits .and .u64 a0 6148914691236517205))) 3689348814741910323))) / 16) + (IntKind.u64.wrap ((Go.bits .and .u64 ((IntKind.u64.wrap ((Go.bits .and .u64 (a0 / 2) 6148914691236517205) + (Go.bits .and .u64 a0 6148914691236517205))) / 4) 3689348814741910323) + (Go.bits .and .u64 (IntKind.u64.wrap ((Go.bits .and .u64 (a0 / 2) 6148914691236517205) + (Go.bits .and .u64 a0 6148914691236517205))) 3689348814741910323))))) 1085102592571150095) / 256))) / 65536))) / 4294967296)))) 127)) = some r := h
 clear h
 obtain rfl := Option.some.inj H
 go_enter Try.func227, Try.ntmps227
 go_wp2
 go_ret
 exact ⟨tf_, dr_⟩

/-! ### bits_OnesCount: function 217 -/
def bits_OnesCount.f (a0 : Int) : Option (Int) := (bits_OnesCount64.f a0).bind fun t781 => (some t781)
theorem bits_OnesCount.calls (a0 : Int) (r : Int) (w : World) (h : bits_OnesCount.f a0 = some r) :
  Calls Try.prog 217 #[.int .u64 a0] w fun e w' => e = .returned (.int .i64 r) ∧ Drawn0 w w' := by
 have H : ((bits_OnesCount64.f a0).bind fun t781 => (some t781)) = some r := h
 clear h
 replace H := Option.bind_eq_some_iff.mp H
 obtain ⟨t781, A20, H⟩ := H
 replace H : (some t781) = some r := H
 have A2 := A_ A20
 clear A20
 obtain rfl := Option.some.inj H
 go_enter Try.func217, Try.ntmps217
 go_wp2_with (first | (refine gc_ 227 ?_; refine goesT_ (some 7) Try.func227 #[.int .u64 a0] ?_; (with_reducible refine (bits_OnesCount64.calls a0 t781 _ A2.out).mono ?_); rintro e w' ⟨rfl, ⟨nd, rfl⟩⟩; refine ⟨_, rfl, ?_⟩))
 go_ret
 exact ⟨tf_, dr_⟩

/-! ### impl_count: function 187 -/
def impl_count.f (a0 : Int) : Option (Int) := (bits_OnesCount.f (IntKind.u64.wrap (a0))).bind fun t782 => (some t782)
theorem impl_count.calls (a0 : Int) (r : Int) (w : World) (h : impl_count.f a0 = some r) :
  Calls Try.prog 187 #[.int .i64 a0] w fun e w' => e = .returned (.int .i64 r) ∧ Drawn0 w w' := by
 have H : ((bits_OnesCount.f (IntKind.u64.wrap (a0))).bind fun t782 => (some t782)) = some r := h
 clear h
 replace H := Option.bind_eq_some_iff.mp H
 obtain ⟨t782, A20, H⟩ := H
 replace H : (some t782) = some r := H
 have A2 := A_ A20
 clear A20
 obtain rfl := Option.some.inj H
 go_enter Try.func187, Try.ntmps187
 go_wp2_with (first | (refine gc_ 217 ?_; refine goesT_ (some 5) Try.func217 #[.int .u64 (IntKind.u64.wrap (a0))] ?_; (with_reducible refine (bits_OnesCount.calls (IntKind.u64.wrap (a0)) t782 _ A2.out).mono ?_); rintro e w' ⟨rfl, ⟨nd, rfl⟩⟩; refine ⟨_, rfl, ?_⟩))
 go_ret
 exact ⟨tf_, dr_⟩

/-! ### impl_Board_kings: function 107 -/
def impl_Board_kings.cnt (m : Nat) : Nat := ((impl_count.f (m : Int)).getD 0).toNat
def impl_Board_kings.start : List (Int × List Int) := [(0, Cap.zeros.set 0 1)]
def impl_Board_kings.okM (K : List (Int × List Int)) (m : Nat) : Prop := impl_count.f (m : Int) = some ((impl_Board_kings.cnt m : Nat) : Int) ∧ ∀ y ∈ K, Cap.comp m y.1 = true → ∀ j, j < 37 → 0 < y.2.getD j 0 → j + impl_Board_kings.cnt m < 37
def impl_Board_kings.okL : List (Int × List Int) → List Int → Prop
 | _, [] => True
 | K, x :: l => (0 ≤ x ∧ x ≤ 63) ∧ (∀ m, m ≤ x.toNat → Cap.valid x.toNat m = true → impl_Board_kings.okM K m) ∧ impl_Board_kings.okL (Cap.upto impl_Board_kings.cnt K x.toNat (x.toNat + 1)) l
def impl_Board_kings.all (y : Int × List Int) (i : Nat) : Int := y.2.getD i 0
open Classical in
def impl_Board_kings.f (k : Nat) (a0_0 a0_1 : Int) (l0_2 : List Int) : Option (List Int) := if impl_Board_kings.okL impl_Board_kings.start l0_2 then impl_trimmed.f k (Cap.ownV impl_Board_kings.all (Cap.waysOf impl_Board_kings.cnt impl_Board_kings.start l0_2)) else none
open Classical in
theorem impl_Board_kings.mono : ∀ a0 a1 a2 k, LeO (impl_Board_kings.f k a0 a1 a2) (impl_Board_kings.f (k + 1) a0 a1 a2) := fun a0 a1 a2 k => LeO.ite (impl_trimmed.mono _ _) (LeO.refl _)
theorem impl_Board_kings.calls (k : Nat) (a0_0 a0_1 : Int) (A0_2 : Option Addr) (c0_2 : Nat) (l0_2 : List Int) (r : List Int) (w : World) (hr0_2 : Kd.C (Kd.int .i64) w A0_2 l0_2.length l0_2) (hc0_2 : l0_2.length ≤ c0_2) (h : impl_Board_kings.f k a0_0 a0_1 l0_2 = some r) :
  Calls Try.prog 107 #[.agg #[.int .i64 a0_0, .int .i64 a0_1, .slice A0_2 l0_2.length c0_2]] w fun e w' => ∃ v0_ : Value, e = .returned (v0_) ∧ Kd.R (Kd.int .i64) 3 w' w.heap.size (fun _ => True) v0_ r ∧ Below w.heap.size w w' := by
 have HR := A_ hr0_2
 have HC := A_ hc0_2
 clear hr0_2 hc0_2
 unfold impl_Board_kings.f at h
 by_cases hok : impl_Board_kings.okL impl_Board_kings.start l0_2
 case neg =>
  rw [if_neg hok] at h
  exact absurd h (by simp)
 rw [if_pos hok] at h
 have HT := A_ h
 have HLN := A_ HR.out.2.1
 have HOK := A_ hok
 clear h hok
 have hu26 := Try.underlying26
 have hum := A_ Try.underlying138
 have hmm := @run_makeMap Try.prog
 have hmk : ∀ W, _ := Cap.run_make37 (P := Try.prog) (T := 22) Try.underlying22 info3
 obtain ⟨W1, hW1⟩ : ∃ x, x = ((w.alloc (.cells #[.int .i64 a0_0, .int .i64 a0_1, .slice A0_2 l0_2.length c0_2] 26)).alloc (.map #[] 0)).alloc (.cells (Cap.ints Cap.zeros) 3) := ⟨_, rfl⟩
 have b1 : Below w.heap.size w W1 := by rw [hW1]; exact below_alloc (below_alloc (below_alloc (Below.refl _ _) _) _) _
 have s1 : W1.heap.size = w.heap.size + 1 + 1 + 1 := by rw [hW1]; simp
 have f0 : W1.heap[w.heap.size]? = some (.cells #[.int .i64 a0_0, .int .i64 a0_1, .slice A0_2 l0_2.length c0_2] 26 (0, 0)) := by rw [hW1]; exact blk_alloc (blk_alloc (blk_new _ _) _) _
 have e1 : (w.alloc (.cells #[.int .i64 a0_0, .int .i64 a0_1, .slice A0_2 l0_2.length c0_2] 26)).heap.size = w.heap.size + 1 := by simp
 have e2 : ((w.alloc (.cells #[.int .i64 a0_0, .int .i64 a0_1, .slice A0_2 l0_2.length c0_2] 26)).alloc (.map #[] 0)).heap.size = w.heap.size + 1 + 1 := by simp
 have f1 : Cap.MapAt W1 (w.heap.size + 1) [] := by
  have h := heap_alloc_new (w.alloc (.cells #[.int .i64 a0_0, .int .i64 a0_1, .slice A0_2 l0_2.length c0_2] 26)) (.map #[] 0)
  rw [e1] at h
  show W1.heap[w.heap.size + 1]? = _
  rw [hW1, heap_alloc_old _ _ (by rw [e2]; omega)]
  exact h
 have f2 : W1.heap[w.heap.size + 1 + 1]? = some (.cells (Cap.ints Cap.zeros) 3 (0, 0)) := by
  have h := blk_new ((w.alloc (.cells #[.int .i64 a0_0, .int .i64 a0_1, .slice A0_2 l0_2.length c0_2] 26)).alloc (.map #[] 0)) (.cells (Cap.ints Cap.zeros) 3)
  rw [e2, ← hW1] at h
  exact h
 obtain ⟨W2, hup, g1, g2, s2, b2⟩ := f1.update hum.out Try.underlying3 0 (w.heap.size + 1 + 1) (by simp) b1 (Nat.le_succ _)
 have hlk := g1.look hum.out Try.underlying3
 have c2 : W2.heap[w.heap.size + 1 + 1]? = some (.cells (Cap.ints Cap.zeros) 3 (0, 0)) := by rw [g2 _ (by omega)]; exact f2
 have c0 : W2.heap[w.heap.size]? = some (.cells #[.int .i64 a0_0, .int .i64 a0_1, .slice A0_2 l0_2.length c0_2] 26 (0, 0)) := by rw [g2 _ (by omega)]; exact f0
 have hz0 := blk_cell c2 0
 have hz1 := blk_frozen c2 0
 have hy0 := blk_cell c0 0
 rw [hW1] at hup
 replace f0 := A_ f0
 replace f1 := A_ f1
 replace f2 := A_ f2
 replace g1 := A_ g1
 replace g2 := A_ g2
 replace b1 := A_ b1
 replace b2 := A_ b2
 replace c0 := A_ c0
 replace c2 := A_ c2
 replace s1 := A_ s1
 replace s2 := A_ s2
 clear e1 e2 hW1
 go_enter Try.func107, Try.ntmps107
 go_upto_region 3 with (first | fail)
 obtain ⟨W3, hW3⟩ : ∃ x, x = W2.setCell ⟨w.heap.size + 1 + 1, 0, none⟩ (.int .i64 1) := ⟨_, rfl⟩
 rw [← hW3]
 have b3 : Below w.heap.size w W3 := by rw [hW3]; exact b2.out.setCell (by show w.heap.size ≤ w.heap.size + 1 + 1; omega) _
 have d0 : W3.heap[w.heap.size]? = some (.cells #[.int .i64 a0_0, .int .i64 a0_1, .slice A0_2 l0_2.length c0_2] 26 (0, 0)) := by rw [hW3, Cap.setCell_ne (by show w.heap.size ≠ w.heap.size + 1 + 1; omega)]; exact c0.out
 have d1 : Cap.MapAt W3 (w.heap.size + 1) [(0, w.heap.size + 1 + 1)] := by
  have h := g1.out
  unfold Cap.MapAt at h ⊢
  rw [hW3, Cap.setCell_ne (by show w.heap.size + 1 ≠ w.heap.size + 1 + 1; omega)]
  exact h
 have d2 : W3.heap[w.heap.size + 1 + 1]? = some (.cells (Cap.ints (Cap.zeros.set 0 1)) 3 (0, 0)) := by
  rw [hW3, ← Cap.ints_set]
  exact Cap.blk_put c2.out _
 have d3 : Cap.Ways w.heap.size W3 (w.heap.size + 1) [(0, w.heap.size + 1 + 1)] [(0, Cap.zeros.set 0 1)] := ⟨d1, Nat.le_succ _, rfl, fun i x y hx hy => by
  cases i with
  | zero =>
   obtain rfl := Option.some.inj hx
   obtain rfl := Option.some.inj hy
   exact ⟨rfl, rfl, by dsimp only; omega, by dsimp only; omega, d2⟩
  | succ i => simp at hx⟩
 replace b3 := A_ b3
 replace d0 := A_ d0
 replace d3 := A_ d3
 clear d1 d2 hW3 hz0 hz1 hy0 hup hlk g1 g2 s2 b2 c0 c2 f0 f1 f2 s1 b1
 have hy2 := blk_cell d0.out 2
 go_wp2
 go_loopg [27, 3] l0_2.length (fun n v27 v3 W' => ∃ (i : Nat) (B : Nat) (L : List (Int × Nat)) (K : List (Int × List Int)), v27 = .int .i64 i ∧ v3 = .map (some B) ∧ Aside0 (Cap.Ways w.heap.size W' B L K) ∧ Aside0 (Below w.heap.size w W') ∧ Aside0 (W'.heap[w.heap.size]? = some (.cells #[.int .i64 a0_0, .int .i64 a0_1, .slice A0_2 l0_2.length c0_2] 26 (0, 0))) ∧ Aside0 (i ≤ l0_2.length ∧ n = l0_2.length - i) ∧ Aside0 (impl_Board_kings.okL K (l0_2.drop i) ∧ Cap.waysOf impl_Board_kings.cnt K (l0_2.drop i) = Cap.waysOf impl_Board_kings.cnt impl_Board_kings.start l0_2 ∧ ∀ y ∈ K, 0 ≤ y.1 ∧ y.1 ≤ 63))
 case atStart => exact ⟨0, _, _, _, rfl, rfl, d3, b3, d0, ⟨⟨Nat.zero_le _, rfl⟩⟩, ⟨⟨HOK.out, rfl, fun y hy => by rw [List.mem_singleton.1 hy]; exact ⟨by decide, by decide⟩⟩⟩⟩
 case round =>
  obtain ⟨i, B, L, K, rfl, rfl, HW, HB, HO, HI, HK⟩ := hrel
  by_cases c1 : (i : Int) < (l0_2.length : Int)
  case neg =>
   have c1n : ¬ i < l0_2.length := by omega
   have c1b := decide_eq_false c1
   have c1d := decide_eq_false c1n
   clear c1
   have hnil : l0_2.drop i = [] := List.drop_eq_nil_of_le (by omega)
   have hK2 := HK.out.2.1
   rw [hnil] at hK2
   have hT := HT.out
   rw [← show K = Cap.waysOf impl_Board_kings.cnt impl_Board_kings.start l0_2 from hK2] at hT
   replace HT := A_ hT
   clear HK hnil hK2 hT HOK d3 b3
   obtain ⟨V0, rfl⟩ : ∃ x, x = wr := ⟨wr, rfl⟩
   obtain ⟨V1, hV1⟩ : ∃ x, x = V0.alloc (.cells (Cap.ints Cap.zeros) 3) := ⟨_, rfl⟩
   have b5 : Below V0.heap.size V0 V1 := by rw [hV1]; exact below_alloc (Below.refl _ _) _
   have s5 : V1.heap.size = V0.heap.size + 1 := by rw [hV1]; simp
   have w5 := HW.out.below b5
   have r5 : V1.heap[V0.heap.size]? = some (.cells (Cap.ints Cap.zeros) 3 (0, 0)) := by rw [hV1]; exact blk_new _ _
   have hrg := w5.map.range (P := Try.prog) hum.out
   rw [hV1] at hrg
   go_wp2
   obtain ⟨V2, hV2⟩ : ∃ x, x = (V0.alloc (.cells (Cap.ints Cap.zeros) 3)).alloc (.mapIter (some B) L.length #[] L.length) := ⟨_, rfl⟩
   rw [← hV2]
   rw [← hV1] at hV2
   have b6 : Below V1.heap.size V1 V2 := by rw [hV2]; exact below_alloc (Below.refl _ _) _
   have i6 : Cap.IterAt V2 (V0.heap.size + 1) B L.length #[] := by
    have h := heap_alloc_new V1 (.mapIter (some B) L.length #[] L.length)
    rw [← hV2, s5] at h
    exact h
   have w6 := w5.below b6
   have r6 := blk_below r5 b6
   have c5 : Below w.heap.size w V1 := below_then HB.out HB.out.size b5
   have c6 : Below w.heap.size w V2 := below_then c5 c5.size b6
   have hV0b := A_ HB.out.size
   have l5 : Aside0 (∀ k, (k = B ∨ ∃ x ∈ L, x.2 = k) → k < V0.heap.size) := ⟨fun k hk => (HW.out.blk hk).2⟩
   replace i6 := A_ i6
   replace w6 := A_ w6
   replace r6 := A_ r6
   replace c6 := A_ c6
   have HKL := A_ w6.out.len
   clear hV1 hV2 b5 b6 s5 w5 r5 c5 hrg HW HB HO
   go_loopg [95] (leftOf (Cap.ents L).toArray #[]).size (fun n v95 W' => ∃ (seen : Array Nat), v95 = v95 ∧ Aside0 (Cap.IterAt W' (V0.heap.size + 1) B L.length seen) ∧ Aside0 (Cap.Ways w.heap.size W' B L K) ∧ Aside0 (W'.heap[V0.heap.size]? = some (.cells (Cap.ints (Cap.ownS impl_Board_kings.all K seen)) 3 (0, 0))) ∧ Aside0 (Below w.heap.size w W') ∧ Aside0 (n = (leftOf (Cap.ents L).toArray seen).size))
   case atStart => exact ⟨#[], rfl, i6, w6, ⟨by rw [Cap.ownS_none]; exact r6.out⟩, c6, ⟨rfl⟩⟩
   case round =>
    obtain ⟨seen, _, HIT, HW, HR2, HB, HL⟩ := hrel
    clear i6 w6 r6 c6
    rcases HW.out.map.next (P := Try.prog) HIT.out HB.out (by have := hV0b.out; omega) 0 with ⟨hall, hrun⟩ | ⟨idx, x, X2, hx, hs, hrun, hit2, hsame, hsz, hb2, hent, hlt⟩
    ·
     have hown : Cap.ownS impl_Board_kings.all K seen = Cap.ownV impl_Board_kings.all K := Cap.ownS_all _ _ _ (fun q hq => hall q (by rw [HKL.out]; exact hq))
     have hR2 := HR2.out
     rw [hown] at hR2
     have HRR := A_ (Cap.ints_R (base := w.heap.size) hR2 (by rw [show (Cap.ownV impl_Board_kings.all K).length = 37 from Cap.vec_length _]; omega) hV0b.out)
     rw [show (Cap.ownV impl_Board_kings.all K).length = 37 from Cap.vec_length _] at HRR
     clear hown hR2 hall HR2 HIT HW
     go_wp2_with (first | (go_at_call 181; (with_reducible refine (impl_trimmed.calls k (fun _ => True) _ _ r w _ HB.out HRR.out HT.out).mono ?_); rintro e w1 ⟨v0, rfl, hR1, hB1, hK1⟩))
     go_ret
     exact ⟨_, rfl, Kd.R_mono hR1 (fun _ _ => trivial), hB1⟩
    ·
     obtain ⟨xm, xg⟩ := x
     have hi : idx < K.length := by rw [← HKL.out]; exact (List.getElem?_eq_some_iff.1 hx).1
     obtain ⟨y1, y2, y3, y4, y5⟩ := HW.out.row idx _ _ hx (List.getElem?_eq_getElem hi)
     have yD : K.getD idx (0, []) = K[idx] := by rw [List.getD_eq_getElem?_getD, List.getElem?_eq_getElem hi]; rfl
     have xlt := l5.out xg (.inr ⟨_, List.mem_of_getElem? hx, rfl⟩)
     generalize K[idx] = y at y1 y2 y5 yD
     obtain ⟨ym, row⟩ := y
     dsimp only at y1 y2 y3 y4 y5 hrun hent
     subst y1
     have k5 : X2.heap[xg]? = some (.cells (Cap.ints row) 3 (0, 0)) := by rw [hsame _ (by omega)]; exact y5
     have kR : X2.heap[V0.heap.size]? = some (.cells (Cap.ints (Cap.ownS impl_Board_kings.all K seen)) 3 (0, 0)) := by rw [hsame _ (by omega)]; exact HR2.out
     have kW := HW.out.far (W1 := X2) (fun k hk => hsame k (by have := l5.out k hk; omega))
     have K5' := A_ k5
     have KR := A_ kR
     have KW := A_ kW
     have KB := A_ hb2
     have KI := A_ hit2
     have KLT := A_ hlt
     have YD := A_ yD
     have Y2 := A_ y2
     have HS := A_ hs
     have HIX := A_ hi
     have XLT := A_ xlt
     clear k5 kR kW hb2 hit2 hlt yD y2 y3 y4 y5 hs hi xlt hsame hsz hx HW HR2 HB HIT
     go_wp2
     obtain ⟨SS, hSS⟩ : ∃ S, S = (fun q => Cap.sSum (fun j => impl_Board_kings.all (K.getD j (0, [])) q) seen K.length) := ⟨_, rfl⟩
     obtain ⟨pp, hpp⟩ : ∃ p : Int → Bool, p = fun _ => true := ⟨_, rfl⟩
     have hr0 : X2.heap[V0.heap.size]? = some (.cells (Cap.ints (Cap.ownJ SS pp 0 row 0)) 3 (0, 0)) := by
      rw [Cap.ownJ_zero, hSS]
      exact KR.out
     have KR0 := A_ hr0
     have HSS := A_ hSS
     have HPP := A_ hpp
     clear hr0 KR hSS hpp
     go_loopg [101] 37 (fun n v101 W' => ∃ (j : Nat), v101 = .int .i64 j ∧ Aside0 (∀ k, k ≠ V0.heap.size → W'.heap[k]? = X2.heap[k]?) ∧ Aside0 (W'.heap[V0.heap.size]? = some (.cells (Cap.ints (Cap.ownJ SS pp 0 row j)) 3 (0, 0))) ∧ Aside0 (Below w.heap.size w W') ∧ Aside0 (j ≤ 37 ∧ n = 37 - j))
     case atStart => exact ⟨0, rfl, ⟨fun _ _ => rfl⟩, KR0, KB, ⟨⟨by omega, rfl⟩⟩⟩
     case round =>
      obtain ⟨j, rfl, HSA, HJ, HBJ, HJN⟩ := hrel
      clear KR0
      by_cases c5 : j < 37
      case neg =>
       have hj37 : j = 37 := by have := HJN.out; omega
       subst hj37
       clear c5
       have hend : Cap.ownJ SS pp 0 row 37 = Cap.ownS impl_Board_kings.all K (seen.push idx) := by
        rw [HSS.out, HPP.out]
        refine Cap.ownJ_end impl_Board_kings.all _ 0 K seen idx HS.out HIX.out row (fun q hq => ?_)
        rw [YD.out]
        exact (if_pos ⟨Nat.zero_le _, rfl⟩).symm
       have HJ2 := HJ.out
       rw [hend] at HJ2
       have HJ3 := A_ HJ2
       have kW := KW.out.far (W1 := wr) (fun k hk => HSA.out k (by have := l5.out k hk; omega))
       have kI : Cap.IterAt wr (V0.heap.size + 1) B L.length (seen.push idx) := by
        have := KI.out
        unfold Cap.IterAt at this ⊢
        rw [HSA.out _ (by omega)]
        exact this
       have KW2 := A_ kW
       have KI2 := A_ kI
       clear kW kI HJ2 hend
       go_wp2
       go_roundg (leftOf (Cap.ents L).toArray (seen.push idx)).size
       case measure => have := KLT.out; have := HL.out; omega
       case rel => exact ⟨seen.push idx, (by first | rfl | trivial), KI2, KW2, HJ3, HBJ, ⟨rfl⟩⟩
      have c5b := decide_eq_true c5
      have c5c : decide ((j : Int) < 37) = true := decide_eq_true (by omega)
      have p5 : (0 ≤ (j : Int)) = True := eq_true (by omega)
      have q5 : ((j : Int) < 37) = True := eq_true (by omega)
      have x5 := Cap.ints_cell ((HSA.out xg (by have := XLT.out; omega)).trans K5'.out) j (by rw [Y2.out]; exact c5)
      generalize hrj : row.getD j 0 = rj at x5
      have HRJ := A_ hrj
      clear hrj
      have lJ : (Cap.ownJ SS pp 0 row j).length = 37 := Cap.vec_length _
      have x6 := Cap.ints_cell HJ.out j (by rw [lJ]; exact c5)
      have x7 := blk_frozen HJ.out j
      obtain ⟨oj, hoj⟩ : ∃ oj, (Cap.ownJ SS pp 0 row j).getD (j + 0) 0 = oj := ⟨_, rfl⟩
      rw [show (Cap.ownJ SS pp 0 row j).getD j 0 = oj from hoj] at x6
      have hadd2 : (Cap.ownJ SS pp 0 row j).set j (wrap64 (oj + rj)) = Cap.ownJ SS pp 0 row (j + 1) := Cap.ownJ_put SS pp 0 row j HRJ.out (by rw [HPP.out]) (by omega) hoj
      have HADD := A_ hadd2
      clear hadd2 hoj lJ
      go_wp2
      go_roundg (37 - (j + 1))
      case measure => have := HJN.out; omega
      case rel => exact ⟨j + 1, by first | rfl | (congr 1; unfold wrap64; omega), ⟨fun k hk => (Cap.setCell_ne hk).trans (HSA.out k hk)⟩, ⟨by rw [← HADD.out, ← Cap.ints_set]; exact Cap.blk_put HJ.out _⟩, ⟨HBJ.out.setCell (by have := hV0b.out; exact this) _⟩, ⟨by omega, rfl⟩⟩
  have c1b := decide_eq_true c1
  have c1n : i < l0_2.length := by omega
  obtain ⟨ad1, e1, hx1⟩ := Kd.at_int (Kd.C_below HR.out HB.out) (i : Int) (by omega) (by omega)
  rw [Int.toNat_natCast] at hx1
  have p1 : (0 ≤ (i : Int)) = True := eq_true (by omega)
  have q1 : ((i : Int) < (l0_2.length : Int)) = True := eq_true c1
  cases e1
  clear c1
  have hmm := @run_makeMap Try.prog
  go_wp2
  have hdr : l0_2.drop i = rd l0_2 (i : Int) :: l0_2.drop (i + 1) := by
   rw [List.drop_eq_getElem_cons c1n]
   congr 1
   simp [rd, c1n]
  obtain ⟨k1_, k2_, k3_⟩ := HK.out
  rw [hdr] at k1_ k2_
  clear HK hdr
  generalize hcl : rd l0_2 (i : Int) = cl at *
  obtain ⟨⟨x0, x63⟩, k4_, k5_⟩ := k1_
  have k6_ : Cap.waysOf impl_Board_kings.cnt (Cap.upto impl_Board_kings.cnt K cl.toNat (cl.toNat + 1)) (l0_2.drop (i + 1)) = Cap.waysOf impl_Board_kings.cnt impl_Board_kings.start l0_2 := k2_
  clear k2_
  obtain ⟨C, rfl⟩ : ∃ C : Nat, cl = (C : Int) := ⟨cl.toNat, by omega⟩
  have hC : C ≤ 63 := by omega
  rw [Int.toNat_natCast] at k4_ k5_ k6_
  have K3 := A_ k3_
  have K4 := A_ k4_
  have K5 := A_ k5_
  have K6 := A_ k6_
  clear k3_ k4_ k5_ k6_ x0 x63
  obtain ⟨W0, rfl⟩ : ∃ x, x = wr := ⟨wr, rfl⟩
  obtain ⟨W4, hW4⟩ : ∃ x, x = W0.alloc (.map #[] 0) := ⟨_, rfl⟩
  rw [← hW4]
  have b4 : Below W0.heap.size W0 W4 := by rw [hW4]; exact below_alloc (Below.refl _ _) _
  have s4 : W4.heap.size = W0.heap.size + 1 := by rw [hW4]; simp
  have m4 : Cap.MapAt W4 W0.heap.size [] := by rw [hW4]; exact heap_alloc_new _ _
  have n4 : Cap.Ways w.heap.size W4 W0.heap.size [] [] := ⟨m4, HB.out.size, rfl, fun i x y hx hy => by simp at hx⟩
  have w4 := HW.out.below b4
  have l4 : ∀ k, k = B ∨ (∃ x ∈ L, x.2 = k) → k < W0.heap.size := fun k hk => (HW.out.blk hk).2
  have c4 : Below w.heap.size w W4 := below_then HB.out HB.out.size b4
  have o4 := blk_below HO.out b4
  replace n4 := A_ n4
  replace w4 := A_ w4
  replace l4 := A_ l4
  replace c4 := A_ c4
  replace o4 := A_ o4
  have hlW := A_ HB.out.size
  have hbx := A_ (Cap.lt_of_at HO.out)
  clear m4 hW4 b4
  have hw1 : wrap64 ((C : Int) + 1) = (C : Int) + 1 := by unfold wrap64; omega
  rw [hw1]
  clear HW HB HO hw1 hcl
  go_loopg [34] (C + 1) (fun n v34 W' => ∃ (m : Nat) (L2 : List (Int × Nat)), v34 = .int .i64 m ∧ Aside0 (Cap.Ways w.heap.size W' B L K) ∧ Aside0 (Cap.Ways w.heap.size W' W0.heap.size L2 (Cap.upto impl_Board_kings.cnt K C m)) ∧ Aside0 (Below w.heap.size w W') ∧ Aside0 (W'.heap[w.heap.size]? = some (.cells #[.int .i64 a0_0, .int .i64 a0_1, .slice (some ad1) l0_2.length c0_2] 26 (0, 0))) ∧ Aside0 (m ≤ C + 1 ∧ n = C + 1 - m))
  case atStart => exact ⟨0, [], rfl, w4, n4, c4, o4, ⟨⟨Nat.zero_le _, rfl⟩⟩⟩
  case round =>
   obtain ⟨m, L2, rfl, HW, HN, HB, HO, HM⟩ := hrel
   clear n4 w4 c4 o4
   have hw2 : Aside0 (wrap64 ((m : Int) + 1) = ((m + 1 : Nat) : Int)) := ⟨by have := HM.out; unfold wrap64; omega⟩
   by_cases c2 : m < C + 1
   case neg =>
    have hmC : m = C + 1 := by have := HM.out; omega
    subst hmC
    have c2d := decide_eq_false c2
    have c2c : decide (((C + 1 : Nat) : Int) < (C : Int) + 1) = false := decide_eq_false (by omega)
    go_wp2
    go_roundg (l0_2.length - (i + 1))
    case measure => have := HI.out; omega
    case rel => exact ⟨i + 1, W0.heap.size, L2, Cap.upto impl_Board_kings.cnt K C (C + 1), by first | rfl | (congr 1; have := HLN.out; unfold wrap64; omega), rfl, HN, HB, HO, ⟨by omega, rfl⟩, ⟨K5.out, K6.out, fun y hy => by have := Cap.upto_key _ _ _ _ y hy; omega⟩⟩
   have c2b := decide_eq_true c2
   have c2c : decide ((m : Int) < (C : Int) + 1) = true := decide_eq_true (by omega)
   by_cases t1 : Go.bits .andNot .i64 (m : Int) (C : Int) = 0
   case neg =>
    have t1b : (Go.bits .andNot .i64 (m : Int) (C : Int) != 0) = true := bne_iff_ne.mpr t1
    have hv : Cap.valid C m = false := by unfold Cap.valid; rw [beq_eq_false_iff_ne.mpr t1]; rfl
    go_wp2
    go_roundg (C + 1 - (m + 1))
    case measure => have := HM.out; omega
    case rel => exact ⟨m + 1, L2, by first | rfl | rw [hw2.out] | (congr 1; omega), HW, by rw [Cap.upto, if_neg (by rw [hv]; simp)]; exact HN, HB, HO, ⟨by omega, rfl⟩⟩
   by_cases t2 : Go.bits .and .i64 (m : Int) ((m : Int) * 2) = 0
   case neg =>
    have t1b : (Go.bits .andNot .i64 (m : Int) (C : Int) != 0) = false := bne_eq_false_iff_eq.mpr t1
    have t2b : (Go.bits .and .i64 (m : Int) ((m : Int) * 2) != 0) = true := bne_iff_ne.mpr t2
    have hv : Cap.valid C m = false := by unfold Cap.valid; rw [beq_eq_false_iff_ne.mpr t2, Bool.and_false]
    go_wp2
    go_roundg (C + 1 - (m + 1))
    case measure => have := HM.out; omega
    case rel => exact ⟨m + 1, L2, by first | rfl | rw [hw2.out] | (congr 1; omega), HW, by rw [Cap.upto, if_neg (by rw [hv]; simp)]; exact HN, HB, HO, ⟨by omega, rfl⟩⟩
   have t1b : (Go.bits .andNot .i64 (m : Int) (C : Int) != 0) = false := bne_eq_false_iff_eq.mpr t1
   have t2b : (Go.bits .and .i64 (m : Int) ((m : Int) * 2) != 0) = false := bne_eq_false_iff_eq.mpr t2
   have hv : Cap.valid C m = true := by unfold Cap.valid; rw [t1, t2]; rfl
   obtain ⟨V0, rfl⟩ : ∃ x, x = wr := ⟨wr, rfl⟩
   obtain ⟨V1, hV1⟩ : ∃ x, x = V0.alloc (.cells (Cap.ints Cap.zeros) 3) := ⟨_, rfl⟩
   have b5 : Below V0.heap.size V0 V1 := by rw [hV1]; exact below_alloc (Below.refl _ _) _
   have s5 : V1.heap.size = V0.heap.size + 1 := by rw [hV1]; simp
   have w5 := HW.out.below b5
   have r5 : V1.heap[V0.heap.size]? = some (.cells (Cap.ints Cap.zeros) 3 (0, 0)) := by rw [hV1]; exact blk_new _ _
   have hrg := w5.map.range (P := Try.prog) hum.out
   rw [hV1] at hrg
   go_wp2
   obtain ⟨V2, hV2⟩ : ∃ x, x = (V0.alloc (.cells (Cap.ints Cap.zeros) 3)).alloc (.mapIter (some B) L.length #[] L.length) := ⟨_, rfl⟩
   rw [← hV2]
   rw [← hV1] at hV2
   have b6 : Below V1.heap.size V1 V2 := by rw [hV2]; exact below_alloc (Below.refl _ _) _
   have i6 : Cap.IterAt V2 (V0.heap.size + 1) B L.length #[] := by
    have h := heap_alloc_new V1 (.mapIter (some B) L.length #[] L.length)
    rw [← hV2, s5] at h
    exact h
   have w6 := w5.below b6
   have n6 := (HN.out.below b5).below b6
   have r6 := blk_below r5 b6
   have c5 : Below w.heap.size w V1 := below_then HB.out HB.out.size b5
   have c6 : Below w.heap.size w V2 := below_then c5 c5.size b6
   have o6 := blk_below (blk_below HO.out b5) b6
   have hV0 := A_ (Cap.lt_of_at HN.out.map)
   have hV0b := A_ HB.out.size
   have l5 : Aside0 (∀ k, (k = W0.heap.size ∨ ∃ x ∈ L2, x.2 = k) → k < V0.heap.size) := ⟨fun k hk => (HN.out.blk hk).2⟩
   obtain ⟨hcnt, hroom⟩ := K4.out m (by omega) hv
   generalize hcc : impl_Board_kings.cnt m = c at hcnt hroom
   have HCNT := A_ hcnt
   have HROOM := A_ hroom
   have HCC := A_ hcc
   replace i6 := A_ i6
   replace w6 := A_ w6
   replace n6 := A_ n6
   replace r6 := A_ r6
   replace c6 := A_ c6
   replace o6 := A_ o6
   have HKL := A_ w6.out.len
   clear hV1 hV2 b5 b6 s5 w5 r5 c5 hrg HW HN HB HO hcnt hroom hcc
   try rw [show decide ((m : Int) < (C : Int) + 1) = true from decide_eq_true (by omega)]
   go_loopg [51] (leftOf (Cap.ents L).toArray #[]).size (fun n v51 W' => ∃ (seen : Array Nat), v51 = v51 ∧ Aside0 (Cap.IterAt W' (V0.heap.size + 1) B L.length seen) ∧ Aside0 (Cap.Ways w.heap.size W' B L K) ∧ Aside0 (Cap.Ways w.heap.size W' W0.heap.size L2 (Cap.upto impl_Board_kings.cnt K C m)) ∧ Aside0 (W'.heap[V0.heap.size]? = some (.cells (Cap.ints (Cap.ownS (Cap.gives (m : Int) c) K seen)) 3 (0, 0))) ∧ Aside0 (Below w.heap.size w W') ∧ Aside0 (W'.heap[w.heap.size]? = some (.cells #[.int .i64 a0_0, .int .i64 a0_1, .slice (some ad1) l0_2.length c0_2] 26 (0, 0))) ∧ Aside0 (n = (leftOf (Cap.ents L).toArray seen).size))
   case atStart => exact ⟨#[], rfl, i6, w6, n6, ⟨by rw [Cap.ownS_none]; exact r6.out⟩, c6, o6, ⟨rfl⟩⟩
   case round =>
    obtain ⟨seen, _, HIT, HW, HN, HR2, HB, HO, HL⟩ := hrel
    clear i6 w6 n6 r6 c6 o6
    rcases HW.out.map.next (P := Try.prog) HIT.out HB.out (by have := hV0.out; have := hlW.out; omega) 0 with ⟨hall, hrun⟩ | ⟨idx, x, X2, hx, hs, hrun, hit2, hsame, hsz, hb2, hent, hlt⟩
    ·
     have hown : Cap.ownS (Cap.gives (m : Int) c) K seen = Cap.ownV (Cap.gives (m : Int) c) K := Cap.ownS_all _ _ _ (fun q hq => hall q (by rw [HKL.out]; exact hq))
     have hnew : ∀ x ∈ L2, x.1 ≠ (m : Int) := by
      intro x hx e
      obtain ⟨q, hq⟩ := List.mem_iff_getElem?.1 hx
      have hl : q < (Cap.upto impl_Board_kings.cnt K C m).length := by rw [← HN.out.len]; exact (List.getElem?_eq_some_iff.1 hq).1
      have h1 := (HN.out.row q x _ hq (List.getElem?_eq_getElem hl)).1
      have h2 := Cap.upto_key _ _ _ _ _ (List.getElem_mem hl)
      omega
     obtain ⟨X3, hup, hm3, hs3, hz3, hb3⟩ := HN.out.map.update (P := Try.prog) hum.out Try.underlying3 (m : Int) V0.heap.size hnew HB.out hlW.out
     have hN3 := HN.out.more hm3 hs3 HR2.out (by rw [hown]; exact Cap.vec_length _) (Nat.le_trans hlW.out (Nat.le_of_lt hV0.out)) (by have := hV0.out; omega)
     have hW3 := HW.out.far (W1 := X3) (fun k hk => hs3 k (by have := l4.out k hk; omega))
     have hO3 : X3.heap[w.heap.size]? = _ := (hs3 w.heap.size (by have := hbx.out; omega)).trans HO.out
     rw [hown] at hN3
     have HN3 := A_ hN3
     have HW3 := A_ hW3
     have HO3 := A_ hO3
     have HB3 := A_ hb3
     clear hN3 hW3 hO3 hb3 hm3 hs3 hz3 hall hnew hown HN HW HO HB HIT HR2
     go_wp2
     go_roundg (C + 1 - (m + 1))
     case measure => have := HM.out; omega
     case rel => exact ⟨m + 1, L2 ++ [((m : Int), V0.heap.size)], by first | rfl | rw [hw2.out] | (congr 1; omega), HW3, by rw [Cap.upto, if_pos hv, HCC.out]; exact HN3, HB3, HO3, ⟨by omega, rfl⟩⟩
    ·
     obtain ⟨xm, xg⟩ := x
     have hi : idx < K.length := by rw [← HKL.out]; exact (List.getElem?_eq_some_iff.1 hx).1
     obtain ⟨y1, y2, y3, y4, y5⟩ := HW.out.row idx _ _ hx (List.getElem?_eq_getElem hi)
     have ykey := K3.out _ (List.getElem_mem hi)
     have yD : K.getD idx (0, []) = K[idx] := by rw [List.getD_eq_getElem?_getD, List.getElem?_eq_getElem hi]; rfl
     have yroom := HROOM.out _ (List.getElem_mem hi)
     have xlt := l4.out xg (.inr ⟨_, List.mem_of_getElem? hx, rfl⟩)
     generalize K[idx] = y at y1 y2 y5 ykey yD yroom
     obtain ⟨ym, row⟩ := y
     dsimp only at y1 y2 y3 y4 y5 ykey yroom hrun hent
     subst y1
     have hV0a := hV0.out
     have hbxa := hbx.out
     have k5 : X2.heap[xg]? = some (.cells (Cap.ints row) 3 (0, 0)) := by rw [hsame _ (by omega)]; exact y5
     have kR : X2.heap[V0.heap.size]? = some (.cells (Cap.ints (Cap.ownS (Cap.gives (m : Int) c) K seen)) 3 (0, 0)) := by rw [hsame _ (by omega)]; exact HR2.out
     have kO : X2.heap[w.heap.size]? = some (.cells #[.int .i64 a0_0, .int .i64 a0_1, .slice (some ad1) l0_2.length c0_2] 26 (0, 0)) := by rw [hsame _ (by omega)]; exact HO.out
     have kW := HW.out.far (W1 := X2) (fun k hk => hsame k (by have := l4.out k hk; omega))
     have kN := HN.out.far (W1 := X2) (fun k hk => hsame k (by have := l5.out k hk; omega))
     have K5' := A_ k5
     have KR := A_ kR
     have KO := A_ kO
     have KW := A_ kW
     have KN := A_ kN
     have KB := A_ hb2
     have KI := A_ hit2
     have KLT := A_ hlt
     have YD := A_ yD
     have YR := A_ yroom
     have Y2 := A_ y2
     have HS := A_ hs
     have HIX := A_ hi
     have XLT := A_ xlt
     clear k5 kR kO kW kN hb2 hit2 hlt yD yroom y2 y3 y4 y5 hs hi xlt hsame hsz hx HW HN HR2 HB HO HIT
     by_cases t3 : Go.bits .and .i64 (m : Int) (Go.bits .or .i64 (Go.bits .or .i64 xm (xm * 2)) (xm / 2)) = 0
     case neg =>
      have t3b : (Go.bits .and .i64 (m : Int) (Go.bits .or .i64 (Go.bits .or .i64 xm (xm * 2)) (xm / 2)) != 0) = true := bne_iff_ne.mpr t3
      have hcm : Cap.comp (m : Int) xm = false := beq_eq_false_iff_ne.mpr t3
      go_wp2
      go_roundg (leftOf (Cap.ents L).toArray (seen.push idx)).size
      case measure => have := KLT.out; have := HL.out; omega
      case rel => exact ⟨seen.push idx, (by first | rfl | trivial), KI, KW, KN, ⟨by rw [Cap.ownS_skip _ _ _ _ HS.out HIX.out (fun q _ => by rw [YD.out]; unfold Cap.gives; rw [hcm]; exact if_neg (by simp))]; exact KR.out⟩, KB, KO, ⟨rfl⟩⟩
     have t3b : (Go.bits .and .i64 (m : Int) (Go.bits .or .i64 (Go.bits .or .i64 xm (xm * 2)) (xm / 2)) != 0) = false := bne_eq_false_iff_eq.mpr t3
     have hcm : Cap.comp (m : Int) xm = true := beq_iff_eq.mpr t3
     go_wp2
     generalize hSS : (fun q => Cap.sSum (fun j => Cap.gives (m : Int) c (K.getD j (0, [])) q) seen K.length) = SS
     generalize hpp : (fun x : Int => decide (0 < x)) = pp
     have hr0 : X2.heap[V0.heap.size]? = some (.cells (Cap.ints (Cap.ownJ SS pp c row 0)) 3 (0, 0)) := by
      rw [Cap.ownJ_zero, ← hSS]
      exact KR.out
     have KR0 := A_ hr0
     have HSS := A_ hSS
     have HPP := A_ hpp
     clear hr0 KR hSS hpp
     go_loopg [68] 37 (fun n v68 W' => ∃ (j : Nat), v68 = .int .i64 j ∧ Aside0 (∀ k, k ≠ V0.heap.size → W'.heap[k]? = X2.heap[k]?) ∧ Aside0 (W'.heap[V0.heap.size]? = some (.cells (Cap.ints (Cap.ownJ SS pp c row j)) 3 (0, 0))) ∧ Aside0 (Below w.heap.size w W') ∧ Aside0 (j ≤ 37 ∧ n = 37 - j))
     case atStart => exact ⟨0, rfl, ⟨fun _ _ => rfl⟩, KR0, KB, ⟨⟨by omega, rfl⟩⟩⟩
     case round =>
      obtain ⟨j, rfl, HSA, HJ, HBJ, HJN⟩ := hrel
      clear KR0
      by_cases c5 : j < 37
      case neg =>
       have hj37 : j = 37 := by have := HJN.out; omega
       subst hj37
       clear c5
       have hend : Cap.ownJ SS pp c row 37 = Cap.ownS (Cap.gives (m : Int) c) K (seen.push idx) := by
        rw [← HSS.out, ← HPP.out]
        refine Cap.ownJ_end (Cap.gives (m : Int) c) _ c K seen idx HS.out HIX.out row (fun q hq => ?_)
        rw [YD.out]
        unfold Cap.gives
        rw [if_pos hcm]
        exact Cap.if_same (by simp) _ _
       have HJ2 := HJ.out
       rw [hend] at HJ2
       have HJ3 := A_ HJ2
       have kW := KW.out.far (W1 := wr) (fun k hk => HSA.out k (by have := l4.out k hk; omega))
       have kN := KN.out.far (W1 := wr) (fun k hk => HSA.out k (by have := l5.out k hk; omega))
       have kI : Cap.IterAt wr (V0.heap.size + 1) B L.length (seen.push idx) := by
        have := KI.out
        unfold Cap.IterAt at this ⊢
        rw [HSA.out _ (by omega)]
        exact this
       have kO := (HSA.out w.heap.size (by omega)).trans KO.out
       have KW2 := A_ kW
       have KN2 := A_ kN
       have KI2 := A_ kI
       have KO2 := A_ kO
       clear kW kN kI kO HJ2 hend
       go_wp2
       go_roundg (leftOf (Cap.ents L).toArray (seen.push idx)).size
       case measure => have := KLT.out; have := HL.out; omega
       case rel => exact ⟨seen.push idx, (by first | rfl | trivial), KI2, KW2, KN2, HJ3, HBJ, KO2, ⟨rfl⟩⟩
      have c5b := decide_eq_true c5
      have c5c : decide ((j : Int) < 37) = true := decide_eq_true (by omega)
      have p5 : (0 ≤ (j : Int)) = True := eq_true (by omega)
      have q5 : ((j : Int) < 37) = True := eq_true (by omega)
      have x5 := Cap.ints_cell ((HSA.out xg (by have := XLT.out; omega)).trans K5'.out) j (by rw [Y2.out]; exact c5)
      have hw5 : Aside0 (wrap64 ((j : Int) + 1) = (j : Int) + 1) := ⟨by unfold wrap64; omega⟩
      generalize hrj : row.getD j 0 = rj at x5
      have HRJ := A_ hrj
      clear hrj
      by_cases t6 : 0 < rj
      case neg =>
       have t6b := decide_eq_false t6
       have t6c : decide (rj > 0) = false := decide_eq_false t6
       go_wp2
       go_roundg (37 - (j + 1))
       case measure => have := HJN.out; omega
       case rel => exact ⟨j + 1, by first | rfl | rw [hw5.out] | (congr 1; omega), HSA, by rw [Cap.ownJ_skip _ _ _ _ _ (by rw [HRJ.out, ← HPP.out]; exact t6b)]; exact HJ, HBJ, ⟨by omega, rfl⟩⟩
      have t6b := decide_eq_true t6
      have t6c : decide (rj > 0) = true := decide_eq_true t6
      have hjc : j + c < 37 := YR.out hcm j c5 (by rw [HRJ.out]; exact t6)
      obtain ⟨hw6, p6, q6, n6⟩ := Cap.small_sum hjc
      clear hw6
      have lJ : (Cap.ownJ SS pp c row j).length = 37 := Cap.vec_length _
      have x6 := Cap.ints_cell HJ.out (j + c) (by rw [lJ]; exact hjc)
      have x7 := blk_frozen HJ.out (j + c)
      obtain ⟨oj, hoj⟩ : ∃ oj, (Cap.ownJ SS pp c row j).getD (j + c) 0 = oj := ⟨_, rfl⟩
      rw [hoj] at x6
      have hadd2 := Cap.ownJ_put SS pp c row j HRJ.out (by rw [← HPP.out]; exact t6b) hjc hoj
      have HADD := A_ hadd2
      clear hadd2 hoj lJ
      clear HSS HPP KW KN KI KO KB YD YR HROOM HCC HS HIX KLT
      go_wp2_with (first | (go_at_call 187; (with_reducible refine (impl_count.calls (m : Int) (c : Int) _ HCNT.out).mono ?_); rintro e w' ⟨rfl, ⟨nd, rfl⟩⟩))
      go_roundg (37 - (j + 1))
      case measure => have := HJN.out; omega
      case rel => exact ⟨j + 1, by first | rfl | (congr 1; unfold wrap64; omega), ⟨fun k hk => (Cap.setCell_ne hk).trans (HSA.out k hk)⟩, ⟨by rw [← HADD.out, ← Cap.ints_set]; exact Cap.blk_put (W := wr.drewN nd) HJ.out _⟩, ⟨(pw_below_drewN HBJ.out nd).setCell (by have := hV0b.out; exact this) _⟩, ⟨by omega, rfl⟩⟩

/-! ### slices_Clone_int_int: function 143 -/
def slices_Clone_int_int.f (l0 : List Int) : Option (List Int) := if l0.length < 17592186044416 then some l0 else none
theorem slices_Clone_int_int.calls (A0 : Option Addr) (c0 : Nat) (l0 : List Int) (r : List Int) (w : World) (hr0 : Kd.C (Kd.int .i64) w A0 l0.length l0) (hc0 : l0.length ≤ c0) (h : slices_Clone_int_int.f l0 = some r) :
  Calls Try.prog 143 #[.slice A0 l0.length c0] w fun e w' => ∃ v0_ : Value, e = .returned (v0_) ∧ Kd.R (Kd.int .i64) 3 w' w.heap.size (fun _ => True) v0_ r ∧ Below w.heap.size w w' := by
 have hr : l0.length < 17592186044416 ∧ l0 = r := by
  unfold slices_Clone_int_int.f at h
  split at h
  ·
   exact ⟨‹_›, Option.some.inj h⟩
  ·
   cases h
 clear h
 obtain ⟨hlim, rfl⟩ := hr
 have hnil := fun (W : World) (A : Option Addr) (n c : Nat) => Lib.run_eql_slice_nil (P := Try.prog) W 22 3 A n c 0 0 Try.underlying22
 have HB := A_ (Below.refl w.heap.size w)
 cases A0 with
 | none =>
  have h0 : l0 = [] := by
   cases l0 with
   | nil => rfl
   | cons x l =>
    obtain ⟨ad, hh, _⟩ := hr0.2.2 (by simp)
    cases hh
  subst h0
  clear hlim hr0
  go_enter Try.func143, Try.ntmps143
  go_wp2
  go_ret
  exact ⟨.slice none 0 0, rfl, Kd.R_nil _ _ _ _ _, Below.refl _ _⟩
 | some ad0 =>
  have HR0 := A_ hr0
  have HC0 := A_ hc0
  clear hr0 hc0
  obtain ⟨y408, hy408⟩ : ∃ y_ : List Int, y_ = (([] : List Int)) := ⟨_, rfl⟩
  have hy411 : l0 = y408 ++ l0 := by rw [hy408]; rfl
  have LMc2 : Aside0 (y408.length + l0.length < 17592186044416) := ⟨by rw [hy408]; simpa using hlim⟩
  have Ny408 := A_ hy408
  have Ny411 := A_ hy411
  clear hy408 hy411 hlim
  go_enter Try.func143, Try.ntmps143
  go_wp2_with (first | (refine gd_ 5 ?_; refine Kd.R_lit (Kd.int .i64) _ 3 ?hg (N := 5) ?hd (xs := ([] : List Int)) (inner := []) (ok := fun _ => True) (okp := fun _ => True) ?hr ?hp (fun _ hk => hk) trivial (Below.refl _ _) (Nat.le_refl _) (by simp) ?_; (case hd => rfl); (case hg => rfl); (case hr => first | (go_simp; done) | (go_simp; rfl)); (case hp => exact (Reps.none _ _)); intro v409 w3 ho4 hb hg_ hnew_; clear hg_ hnew_; (first | rw [← Ny408.out] at ho4 | (simp only [Int.reduceToNat] at ho4; rw [← Ny408.out] at ho4)); have HO410 := A_ (Kd.R_lower ho4 (below_size tb_)); replace HB := A_ (below_step tb_ hb); clear hb ho4) | ((with_reducible refine gate_builtin (b := .append) (xs := #[.tmp 5, .tmp 6]) rfl ?_); at_builtin; refine Kd.R_append_rows (Kd.int .i64) (w0 := w) w.heap.size rfl (.tmp 5) (.tmp 6) 22 3 (.int .i64 0) 8 rfl Try.underlying22 info3 rfl (by decide) (by omega) v409 y408 l0 _ _ _ (fun _ => True) (fun _ => False) rfl rfl ?aO ?aR (fun _ _ h => h) (fun _ h => h.elim) ?aF ?aB ?aS ?aL ?_; (case aR => repeat (first | exact (Kd.C_below HR0.out HB.out) | (with_reducible refine Kd.C_alloc ?_ _) | (with_reducible refine Kd.C_drewN ?_ _) | (with_reducible refine Kd.C_drew ?_))); (case aB => exact tb_); (case aF => exact (fun _ _ => trivial)); (case aO => exact (tr_x HO410.out)); (case aS => exact (below_size tb_)); (case aL => have := LMc2.out; omega); intro v412 w5 ho hb hg hat; rw [← Ny411.out] at ho; have n0_ := A_ (hb); have n1_ := A_ (ho); clear HB; clear HO410; have HB := n0_; have HO413 := n1_; clear n0_ n1_; clear ho hb hg hat))
  go_ret
  exact ⟨_, te_, tr_x HO413.out, tb_⟩

/-! ### impl_Board_firstOf_1: function 188 -/
def impl_Board_firstOf_1.f (kk : Int) (s : Option (List (List Int))) (l : List (List Int)) : Option (Bool × Option (List (List Int))) :=
 if (l.length : Int) < kk then some (true, s) else match s with
  | none => if l.length ≤ 1000 ∧ ∀ x ∈ l, x.length ≤ 1000 then some (false, some l) else none
  | some _ => none
abbrev impl_Board_firstOf_1.ok (own : Nat → Prop) (gkk gok gout N : Nat) (j : Nat) : Prop := (own j ∨ N ≤ j) ∧ j ≠ gkk ∧ j ≠ gok ∧ j ≠ gout
/-- Its variables, while it runs: how many pieces there are to be, the flag, the rows so far. -/
structure impl_Board_firstOf_1.Fst (w W0 : World) (own : Nat → Prop) (gkk gok gout : Nat) (kk : Int) (W : World) (b : Bool) (o : List (List Int)) : Prop where
 lk : own gkk ∧ gkk < W0.heap.size ∧ w.heap.size ≤ gkk
 lo : own gok ∧ gok < W0.heap.size ∧ w.heap.size ≤ gok
 lu : own gout ∧ gout < W0.heap.size ∧ w.heap.size ≤ gout
 ne : gkk ≠ gok ∧ gkk ≠ gout ∧ gok ≠ gout
 sz : W0.heap.size ≤ W.heap.size
 bel : Below w.heap.size w W
 fr : ∀ k, k < W0.heap.size → ¬ own k → W.heap[k]? = W0.heap[k]?
 ck : W.heap[gkk]? = some (.cells #[.int .i64 kk] 3 (0, 0))
 co : W.heap[gok]? = some (.cells #[.bool b] 4 (0, 0))
 out : ∃ v, W.heap[gout]? = some (.cells #[v] 41 (0, 0)) ∧ Kd.S (Kd.slice 3 (Kd.int .i64)) 22 W w.heap.size (impl_Board_firstOf_1.ok own gkk gok gout W0.heap.size) v o
section
variable {w W0 W W1 w1 : World} {own : Nat → Prop} {gkk gok gout : Nat} {kk : Int} {b : Bool} {o : List (List Int)} {v v1 vc : Value} {c : List Int}
theorem impl_Board_firstOf_1.Fst.below (h : impl_Board_firstOf_1.Fst w W0 own gkk gok gout kk W b o) (hb : Below W.heap.size W W1) : impl_Board_firstOf_1.Fst w W0 own gkk gok gout kk W1 b o := by
 obtain ⟨v, h1, h2⟩ := h.out
 exact ⟨h.lk, h.lo, h.lu, h.ne, Nat.le_trans h.sz hb.size, below_then h.bel h.bel.size hb, fun k hk hn => (hb.block k (Nat.lt_of_lt_of_le hk h.sz)).trans (h.fr k hk hn), blk_below h.ck hb, blk_below h.co hb, v, blk_below h1 hb, Kd.S_below h2 hb⟩
theorem impl_Board_firstOf_1.Fst.flag (h : impl_Board_firstOf_1.Fst w W0 own gkk gok gout kk W b o) (b' : Bool) : impl_Board_firstOf_1.Fst w W0 own gkk gok gout kk (W.setCell ⟨gok, 0, none⟩ (.bool b')) b' o := by
 obtain ⟨v, h1, h2⟩ := h.out
 exact ⟨h.lk, h.lo, h.lu, h.ne, by simpa [World.setCell] using h.sz, h.bel.setCell h.lo.2.2 _, fun k hk hn => (Below.heap_setCell _ _ _ _ (fun e => hn (by rw [e]; exact h.lo.1))).trans (h.fr k hk hn), Cap.one_far h.ck h.ne.1 _, one_setCell h.co, v, Cap.one_far h1 (fun e => h.ne.2.2 e.symm) _, Kd.S_far h2 (fun k hk => hk.2.2.1) _⟩
theorem impl_Board_firstOf_1.Fst.rowM (h : impl_Board_firstOf_1.Fst w W0 own gkk gok gout kk W b o) (hc : (Kd.int .i64).R 3 W1 W.heap.size (fun _ => True) vc c) : (Kd.slice 3 (Kd.int .i64)).M W1 w.heap.size (fun k => some k = vc.ownBlock) c [vc] :=
 ⟨vc, rfl, Kd.R_lower (Kd.R_tight rfl hc) h.bel.size⟩
theorem impl_Board_firstOf_1.Fst.fresh (h : impl_Board_firstOf_1.Fst w W0 own gkk gok gout kk W b o) {k : Nat} (hk : W.heap.size ≤ k) : impl_Board_firstOf_1.ok own gkk gok gout W0.heap.size k :=
 ⟨Or.inr (Nat.le_trans h.sz hk), by have := h.lk.2.1; have := h.sz; omega, by have := h.lo.2.1; have := h.sz; omega, by have := h.lu.2.1; have := h.sz; omega⟩
theorem impl_Board_firstOf_1.Fst.rowok (h : impl_Board_firstOf_1.Fst w W0 own gkk gok gout kk W b o) (hv : Kd.S (Kd.slice 3 (Kd.int .i64)) 22 W w.heap.size (impl_Board_firstOf_1.ok own gkk gok gout W0.heap.size) v o) (hc : (Kd.int .i64).R 3 W1 W.heap.size (fun _ => True) vc c) :
  ∀ k, some k = vc.ownBlock → impl_Board_firstOf_1.ok own gkk gok gout W0.heap.size k ∧ some k ≠ v.ownBlock := fun k hk =>
 ⟨h.fresh (Kd.R_base hc k hk.symm), fun e => by have := Kd.R_lt (Kd.S_R hv) k e.symm; have := Kd.R_base hc k hk.symm; omega⟩
theorem impl_Board_firstOf_1.rowS {okp : Nat → Prop} (hv : Kd.S (Kd.slice 3 (Kd.int .i64)) 22 W w.heap.size okp v o) (hb : Below W.heap.size W W1) (hc : (Kd.int .i64).R 3 W1 W.heap.size (fun _ => True) vc c) :
  Kd.S (Kd.slice 3 (Kd.int .i64)) 22 W1 w.heap.size (fun k => okp k ∧ ¬ some k = vc.ownBlock) v o :=
 Kd.S_mono (Kd.S_below (Kd.S_bound hv) hb) (fun k hk => ⟨hk.1, fun e => by have := Kd.R_base hc k e.symm; have := hk.2.2.1; omega⟩)
theorem impl_Board_firstOf_1.Fst.app (h : impl_Board_firstOf_1.Fst w W0 own gkk gok gout kk W b o) (h1 : W.heap[gout]? = some (.cells #[v] 41 (0, 0))) (hv : Kd.S (Kd.slice 3 (Kd.int .i64)) 22 W w.heap.size (impl_Board_firstOf_1.ok own gkk gok gout W0.heap.size) v o) {o1 : List (List Int)} (bb : Below w.heap.size w w1) (hg : W.grownBy w1 v.ownBlock) (hS : Kd.S (Kd.slice 3 (Kd.int .i64)) 22 w1 w.heap.size (impl_Board_firstOf_1.ok own gkk gok gout W0.heap.size) v1 o1) :
  impl_Board_firstOf_1.Fst w W0 own gkk gok gout kk (w1.setCell ⟨gout, 0, none⟩ v1) b o1 ∧ w1.cell? ⟨gout, 0, none⟩ = some v ∧ w1.frozen? ⟨gout, 0, none⟩ = false := by
 have hno : ∀ k, some k = v.ownBlock → impl_Board_firstOf_1.ok own gkk gok gout W0.heap.size k := fun k hk => (Kd.S_R hv).1 k hk.symm
 have c1 : w1.heap[gout]? = some (.cells #[v] 41 (0, 0)) := blk_grown h1 hg (fun e => (hno _ e).2.2.2 rfl)
 refine ⟨⟨h.lk, h.lo, h.lu, h.ne, by have := h.sz; have := hg.size; simp only [World.setCell, Array.size_modify]; omega, bb.setCell h.lu.2.2 _, fun k hk hn => ((Below.heap_setCell _ _ _ _ (fun e => hn (by rw [e]; exact h.lu.1))).trans (hg.block k (Nat.lt_of_lt_of_le hk h.sz) (fun e => by rcases (hno k e).1 with hh | hh; exact hn hh; omega))).trans (h.fr k hk hn), Cap.one_far (blk_grown h.ck hg (fun e => (hno _ e).2.1 rfl)) h.ne.2.1 _, Cap.one_far (blk_grown h.co hg (fun e => (hno _ e).2.2.1 rfl)) h.ne.2.2 _, v1, one_setCell c1, Kd.S_far hS (fun k hk => hk.2.2.2) _⟩, cell_of_one c1, free_of_one c1⟩
end
/-- What it leaves. -/
def impl_Board_firstOf_1.D (w : World) (gkk gok gout : Nat) (kk : Int) (own : Nat → Prop) (W : World) (s : Option (List (List Int))) : Prop := (∀ j, own j → w.heap.size ≤ j ∧ j < W.heap.size) ∧ (own gkk ∧ own gok ∧ own gout) ∧ (gkk ≠ gok ∧ gkk ≠ gout ∧ gok ≠ gout) ∧ W.heap[gkk]? = some (.cells #[.int .i64 kk] 3 (0, 0)) ∧ W.heap[gok]? = some (.cells #[.bool s.isSome] 4 (0, 0)) ∧ ∃ v, W.heap[gout]? = some (.cells #[v] 41 (0, 0)) ∧ Kd.S (Kd.slice 3 (Kd.int .i64)) 22 W w.heap.size (fun j => own j ∧ j ≠ gkk ∧ j ≠ gok ∧ j ≠ gout) v (s.getD [])
theorem impl_Board_firstOf_1.calls (w W0 : World) (own : Nat → Prop) (gkk gok gout : Nat) (kk : Int) (A : Option Addr) (c : Nat) (l : List (List Int)) (hS0 : impl_Board_firstOf_1.Fst w W0 own gkk gok gout kk W0 false []) (hR0 : ∀ W', (∀ k, k < W0.heap.size → ¬ own k → W'.heap[k]? = W0.heap[k]?) → (Kd.slice 3 (Kd.int .i64)).C W' A l.length l) (hc0 : l.length ≤ c) (hk0 : ¬ (l.length : Int) < kk) (hl0 : l.length ≤ 1000 ∧ ∀ x ∈ l, x.length ≤ 1000) :
  Calls Try.prog 188 #[.slice A l.length c, .pointer (some ⟨gkk, 0, none⟩), .pointer (some ⟨gok, 0, none⟩), .pointer (some ⟨gout, 0, none⟩)] W0 fun e W' => e = .returned (.bool false) ∧ impl_Board_firstOf_1.Fst w W0 own gkk gok gout kk W' true l := by
 have hck := cell_of_one hS0.ck
 have hco := cell_of_one hS0.co
 have hfo := free_of_one hS0.co
 have HS := A_ (hS0.flag true)
 have HR := A_ hR0
 have HC := A_ hc0
 have HL := A_ hl0
 have c1b := decide_eq_false hk0
 clear hS0 hR0 hc0 hl0 hk0
 go_enter Try.func188, Try.ntmps188
 go_wp2
 go_loopg [14] l.length (fun kq v14 W' => ∃ (i : Nat), v14 = .int .i64 (i : Int) ∧ Aside0 (i ≤ l.length ∧ kq = l.length - i) ∧ Aside0 (impl_Board_firstOf_1.Fst w W0 own gkk gok gout kk W' true (l.take i)))
 case atStart => exact ⟨0, rfl, ⟨Nat.zero_le _, rfl⟩, by rw [List.take_zero]; exact HS⟩
 case round =>
  clear HS hck hco hfo c1b
  obtain ⟨i, rfl, HI, HS⟩ := hrel
  by_cases c4 : (i : Int) < (l.length : Int)
  case neg =>
   have c4b := decide_eq_false c4
   have hi : i = l.length := by have := HI.out; omega
   subst hi
   rw [List.take_length] at HS
   go_wp2
   go_ret
   exact ⟨rfl, HS.out⟩
  have c4b := decide_eq_true c4
  have c4n : i < l.length := by omega
  have hC := A_ (HR.out _ HS.out.fr)
  obtain ⟨ad, cs, e0, hl1, hk1, hcc⟩ := Kd.C_get hC.out [] (i : Int) (by omega) c4
  obtain ⟨Ax, cx, rfl, hlx, hCx⟩ := hk1
  subst e0
  have hcx := hcc 0 _ rfl
  simp only [Nat.add_zero, Int.toNat_natCast] at hcx hlx hCx
  rw [show i * (Kd.slice 3 (Kd.int .i64)).sz = i from Nat.mul_one i] at hcx
  have hgx : l.getD i [] = l[i] := by rw [List.getD_eq_getElem?_getD, List.getElem?_eq_getElem c4n]; rfl
  rw [hgx] at hcx hlx hCx
  have hxl := HL.out.2 l[i] (List.getElem_mem c4n)
  have hx := A_ hxl
  have HCx := A_ hCx
  have Hlx := A_ hlx
  have p0 : (0 ≤ (i : Int)) = True := eq_true (by omega)
  have q0 : ((i : Int) < (l.length : Int)) = True := eq_true c4
  have q1 : (i < l.length) = True := eq_true c4n
  have HN := A_ c4n
  obtain ⟨vo, hvo, hSo⟩ := HS.out.out
  have HV := A_ hvo
  have HSo := A_ hSo
  have hcv := cell_of_one hvo
  have hnx := A_ (show slices_Clone_int_int.f l[i] = some l[i] from if_pos (by omega))
  clear hcc hl1 hgx hxl hCx hlx hvo hSo
  go_wp2
  refine start_ (n := 6) (S := fun w' => w'.cell? ⟨gout, 0, none⟩ = some vo) (ds := [5]) (Fn.bl 6 0) (by kernel_rfl) rfl rfl (cell_of_one (blk_below HV.out (below_drew (Below.refl _ _)))) (fun hHeld => ?_)
  have HS9 := A_ (HS.out.below (below_drew (Below.refl _ _)))
  have HV9 := A_ (blk_below HV.out (below_drew (Below.refl _ _)))
  have HSo9 := A_ (Kd.S_below HSo.out (below_drew (Below.refl _ _)))
  have HC9 := A_ (Kd.C_below HCx.out (below_drew (Below.refl _ _)))
  clear HS HV HSo HCx hcv hcx hC
  refine take_ (i := 0) (N := some 18) (v := ?_) (a' := ?_) (Fn.bl 6 1) rfl rfl (by kernel_rfl) (fun _ _ _ h => h) (Or.inl ⟨by rfl, ?_⟩) hHeld ?_ ?_
  rotate_left
  ·
   rintro w' s0
   go_simp
   with_reducible rfl
  rotate_left
  ·
   simp only [Act.put, List.setIfInBounds_toArray, List.set_cons_zero, List.set_cons_succ, i64_w, i32_w]
   rfl
  refine take_ (i := 1) (N := some 19) (v := ?_) (a' := ?_) (Fn.bl 6 3) rfl rfl (by kernel_rfl) (fun _ _ _ h => h) (Or.inl ⟨by rfl, ?_⟩) hHeld ?_ ?_
  rotate_left
  ·
   rintro w' s0
   go_simp
   with_reducible rfl
  rotate_left
  ·
   simp only [Act.put, List.setIfInBounds_toArray, List.set_cons_zero, List.set_cons_succ, i64_w, i32_w]
   rfl
  refine one_ (i := 2) (N := some 20) (Fn.bl 6 7) rfl rfl (by kernel_rfl) (by decide) (fun K hK => ?_)
  refine goes_ Try.func143 (by kernel_rfl) rfl #[.slice Ax l[i].length cx] (by rfl) rfl rfl (by (try simp only [List.map_toArray, List.map_cons, List.map_nil]); first | done | rfl) ?_
  with_reducible refine (slices_Clone_int_int.calls Ax cx l[i] l[i] _ HC9.out Hlx.out hnx.out).mono ?_
  rintro e w10 ⟨vc, rfl, hoc, hb⟩
  refine ⟨_, rfl, ?_⟩
  have HS10 := A_ (HS9.out.below hb)
  have HV10 := A_ (blk_below HV9.out hb)
  have HCm := A_ (HS9.out.rowM hoc)
  have HCok := A_ (HS9.out.rowok HSo9.out hoc)
  have HCS := A_ (impl_Board_firstOf_1.rowS HSo9.out hb hoc)
  have HSo10 := A_ (Kd.S_below HSo9.out hb)
  obtain ⟨Ac, cc, ec⟩ := Kd.R_slice hoc
  subst ec
  clear hoc hb
  refine hK.out _ _ (cell_of_one HV10.out) (fun hHeld => ?_)
  clear hK K
  refine norm_ (a' := ?_) ?_ ?_
  rotate_left
  ·
   show Act.put _ (some 20) _ = _
   simp only [Act.put, List.setIfInBounds_toArray, List.set_cons_zero, List.set_cons_succ, i64_w, i32_w]
   rfl
  refine one_ (i := 3) (N := some 21) (Fn.bl 6 15) rfl rfl (by kernel_rfl) (by decide) (fun K hK => ?_)
  refine value_ (v := .slice (some ⟨w10.heap.size, 0, none⟩) 1 1) (w1 := w10.alloc (.cells #[.slice Ac l[i].length cc] 22)) (by rfl) rfl ?_ ?_
  ·
   go_simp
  refine hK.out _ _ (cell_of_one (blk_alloc HV10.out _)) (fun hHeld => ?_)
  clear hK K
  refine norm_ (a' := ?_) ?_ ?_
  rotate_left
  ·
   show Act.put _ (some 21) _ = _
   simp only [Act.put, List.setIfInBounds_toArray, List.set_cons_zero, List.set_cons_succ, i64_w, i32_w]
   rfl
  refine one_ (i := 4) (N := some 22) (Fn.bl 6 31) rfl rfl (by kernel_rfl) (by decide) (fun K hK => ?_)
  refine Kd.S_append_step (Kd.slice 3 (Kd.int .i64)) (w0 := w) w.heap.size (by rfl) (.tmp 18) (.tmp 21) 41 22 (.slice none 0 0) 24 rfl Try.underlying41 info22 rfl (by decide) (by omega) vo (l.take i) l[i] [.slice Ac l[i].length cc] _ _ rfl rfl HCm.out HCok.out (fun k hk => HS10.out.fresh hk) HCS.out HS10.out.bel HS10.out.bel.size (by have := HL.out.1; rw [List.length_take]; omega) ?_
  intro v1 w12 ho hb hg hat
  have HT := A_ (HS10.out.app HV10.out HSo10.out hb hg ho)
  have hcv12 := HT.out.2.1
  have hfv12 := HT.out.2.2
  have HS12 := A_ HT.out.1
  obtain ⟨A1, c1, e1⟩ := Kd.S_slice ho
  subst e1
  clear ho hb hg hat HT
  refine hK.out _ _ hcv12 (fun hHeld => ?_)
  clear hK K
  refine norm_ (a' := ?_) ?_ ?_
  rotate_left
  ·
   show Act.put _ (some 22) _ = _
   simp only [Act.put, List.setIfInBounds_toArray, List.set_cons_zero, List.set_cons_succ, i64_w, i32_w]
   rfl
  refine last_ (i := 5) (N := none) (Fn.bl 6 63) rfl rfl (by kernel_rfl) (by decide) (fun K hK => ?_)
  refine skip_ (w1 := ?_) (by rfl) rfl ?_ ?_
  rotate_left
  ·
   go_simp
   rfl
  refine hK.out _ _ ?_
  clear hK K
  refine done_ (by kernel_rfl) ?_
  have hw : wrap64 ((i : Int) + 1) = ((i + 1 : Nat) : Int) := by have := HL.out.1; have := HN.out; unfold wrap64; omega
  have HSf : Aside0 (impl_Board_firstOf_1.Fst w W0 own gkk gok gout kk _ true (l.take (i + 1))) := ⟨by rw [List.take_succ_eq_append_getElem HN.out]; exact HS12.out⟩
  have hmn : (l.take i ++ [l[i]]).length = min (i + 1) l.length := by rw [← List.take_succ_eq_append_getElem HN.out, List.length_take]
  rw [hmn] at HSf
  go_wp2
  go_roundg (l.length - (i + 1))
  case measure => have := HI.out; have := HN.out; omega
  case rel => exact ⟨i + 1, (by rw [← hw]), ⟨by have := HN.out; omega, rfl⟩, HSf⟩
theorem impl_Board_firstOf_1.few (gkk gok gout : Nat) (kk : Int) (A : Option Addr) (c : Nat) (l : List (List Int)) (W : World) (h1 : W.heap[gkk]? = some (.cells #[.int .i64 kk] 3 (0, 0))) (hk0 : (l.length : Int) < kk) :
  Calls Try.prog 188 #[.slice A l.length c, .pointer (some ⟨gkk, 0, none⟩), .pointer (some ⟨gok, 0, none⟩), .pointer (some ⟨gout, 0, none⟩)] W fun e W' => e = .returned (.bool true) ∧ W' = W := by
 have hck := cell_of_one h1
 have c1b := decide_eq_true hk0
 clear h1 hk0
 go_enter Try.func188, Try.ntmps188
 go_wp2
 go_ret
 exact ⟨rfl, rfl⟩
theorem impl_Board_firstOf_1.tells (w : World) (gkk gok gout : Nat) (kk : Int) : Cap.Tells Try.prog 3 w (.func (.func 188) #[] #[.pointer (some ⟨gkk, 0, none⟩), .pointer (some ⟨gok, 0, none⟩), .pointer (some ⟨gout, 0, none⟩)]) (impl_Board_firstOf_1.f kk) (impl_Board_firstOf_1.D w gkk gok gout kk) := by
 refine ⟨fun own W W1 s h hs => ?_, fun own W s h k hk => h.1 k hk, fun own W s A c l b s' h hC hc he hB => ?_⟩
 ·
  obtain ⟨h1, h2, h3, h4, h5, v, h6, h7⟩ := h
  refine ⟨fun j hj => ⟨(h1 j hj).1, ?_⟩, h2, h3, (hs _ h2.1).trans h4, (hs _ h2.2.1).trans h5, v, (hs _ h2.2.2).trans h6, Kd.S_move h7 (fun k hk => hs k hk.1)⟩
  have e := Array.getElem?_eq_getElem (h1 j hj).2
  exact (Array.getElem?_eq_some_iff.1 ((hs j hj).trans e)).1
 ·
  obtain ⟨h1, h2, h3, h4, h5, v, h6, h7⟩ := h
  refine ⟨188, _, _, rfl, Try.func188, by kernel_rfl, rfl, ?_⟩
  unfold impl_Board_firstOf_1.f at he
  by_cases c1 : (l.length : Int) < kk
  ·
   rw [if_pos c1] at he
   obtain ⟨rfl, rfl⟩ := Prod.mk.inj (Option.some.inj he)
   refine Calls.mono (by simpa using impl_Board_firstOf_1.few gkk gok gout kk A c l W h4 c1) ?_
   rintro e W' ⟨rfl, rfl⟩
   exact ⟨rfl, own, ⟨h1, h2, h3, h4, h5, v, h6, h7⟩, fun k hk => Or.inl hk, hB, Nat.le_refl _, fun k _ _ => rfl⟩
  ·
   rw [if_neg c1] at he
   cases s with
   | some o => exact absurd he (by simp)
   | none =>
    by_cases c2 : l.length ≤ 1000 ∧ ∀ x ∈ l, x.length ≤ 1000
    ·
     simp only [if_pos c2] at he
     obtain ⟨rfl, rfl⟩ := Prod.mk.inj (Option.some.inj he)
     have F : impl_Board_firstOf_1.Fst w W own gkk gok gout kk W false [] := ⟨⟨h2.1, (h1 _ h2.1).2, (h1 _ h2.1).1⟩, ⟨h2.2.1, (h1 _ h2.2.1).2, (h1 _ h2.2.1).1⟩, ⟨h2.2.2, (h1 _ h2.2.2).2, (h1 _ h2.2.2).1⟩, h3, Nat.le_refl _, hB, fun k _ _ => rfl, h4, h5, v, h6, Kd.S_mono h7 (fun k hk => ⟨Or.inl hk.1, hk.2⟩)⟩
     refine Calls.mono (by simpa using impl_Board_firstOf_1.calls w W own gkk gok gout kk A c l F hC hc c1 c2) ?_
     rintro e W' ⟨rfl, G⟩
     obtain ⟨v', g1, g2⟩ := G.out
     refine ⟨rfl, fun j => own j ∨ (W.heap.size ≤ j ∧ j < W'.heap.size), ⟨fun j hj => ?_, ⟨Or.inl h2.1, Or.inl h2.2.1, Or.inl h2.2.2⟩, h3, G.ck, G.co, v', g1, Kd.S_mono (Kd.S_bound g2) (fun k hk => ?_)⟩, fun k hk => ?_, G.bel, G.sz, G.fr⟩
     ·
      rcases hj with hj | hj
      ·
       exact ⟨(h1 j hj).1, Nat.lt_of_lt_of_le (h1 j hj).2 G.sz⟩
      ·
       exact ⟨Nat.le_trans hB.size hj.1, hj.2⟩
     ·
      obtain ⟨⟨k1, k2⟩, _, k3, _⟩ := hk
      exact ⟨k1.imp id (fun hh => ⟨hh, k3⟩), k2⟩
     ·
      exact hk.imp id (fun hh => hh.1)
    ·
     simp only [if_neg c2] at he
     exact absurd he (by simp)

/-! ### impl_Board_firstOf: function 108 -/
def impl_Board_firstOf.f (k : Nat) (R C : Int) (lb : List Int) (kk : Int) (are : FnT38) : Option (List (List Int) × Bool) := (impl_Board_lists.f k R C lb kk are (impl_Board_firstOf_1.f kk) none).bind fun r => some (r.2.getD [], r.2.isSome)
theorem impl_Board_firstOf.mono (R C : Int) (lb : List Int) (kk : Int) (are : FnT38) (k : Nat) : LeO (impl_Board_firstOf.f k R C lb kk are) (impl_Board_firstOf.f (k + 1) R C lb kk are) :=
 LeO.bind (impl_Board_lists.mono _ _ _ _ _ _ _ _) (fun _ => LeO.refl _)
theorem impl_Board_firstOf.calls (fr : Go.Fn) (hr1 hr2 : Array Value) (are : FnT38) (k : Nat) (R C : Int) (Ab : Option Addr) (lb : List Int) (c : Nat) (kk : Int) (r1 : List (List Int)) (r2 : Bool) (w : World) (hF0 : FnOk38 w (.func fr hr1 hr2) are) (hC : Kd.C (Kd.int .i64) w Ab lb.length lb) (hc : lb.length ≤ c) (h : impl_Board_firstOf.f k R C lb kk are = some (r1, r2)) :
  Calls Try.prog 108 #[.agg #[.int .i64 R, .int .i64 C, .slice Ab lb.length c], .int .i64 kk, .func fr hr1 hr2] w fun e w' => ∃ v0_ : Value, e = .returned (.tuple #[v0_, .bool r2]) ∧ Kd.S (Kd.slice 3 (Kd.int .i64)) 22 w' w.heap.size (fun _ => True) v0_ r1 ∧ Below w.heap.size w w' := by
 have hF := A_ hF0
 have HC := A_ hC
 have Hc := A_ hc
 clear hF0 hC hc
 unfold impl_Board_firstOf.f at h
 obtain ⟨⟨g, s⟩, A1, H⟩ := Option.bind_eq_some_iff.mp h
 clear h
 replace A1 := A_ A1
 obtain ⟨rfl, rfl⟩ := Prod.mk.inj (Option.some.inj H)
 clear H
 have hu26 := Try.underlying26
 have hmf_ : ∀ (fn : Go.Fn) (first cap : Array Value) (w : World), (Instr.makeFunc fn first cap).run Try.prog w = .ok (.func fn first cap) w := fun _ _ _ _ => rfl
 go_enter Try.func108, Try.ntmps108
 go_wp2_with (first | fail)
 have e1 : (w.alloc (.cells #[.int .i64 R, .int .i64 C, .slice Ab lb.length c] 26)).heap.size = w.heap.size + 1 := by simp
 have e2 : ((w.alloc (.cells #[.int .i64 R, .int .i64 C, .slice Ab lb.length c] 26)).alloc (.cells #[.int .i64 kk] 3)).heap.size = w.heap.size + 1 + 1 := by simp
 have e3 : (((w.alloc (.cells #[.int .i64 R, .int .i64 C, .slice Ab lb.length c] 26)).alloc (.cells #[.int .i64 kk] 3)).alloc (.cells #[] 22)).heap.size = w.heap.size + 1 + 1 + 1 := by simp
 have e4 : ((((w.alloc (.cells #[.int .i64 R, .int .i64 C, .slice Ab lb.length c] 26)).alloc (.cells #[.int .i64 kk] 3)).alloc (.cells #[] 22)).alloc (.cells #[.slice (some ⟨w.heap.size + 1 + 1, 0, none⟩) 0 0] 41)).heap.size = w.heap.size + 1 + 1 + 1 + 1 := by simp
 have e5 : (((((w.alloc (.cells #[.int .i64 R, .int .i64 C, .slice Ab lb.length c] 26)).alloc (.cells #[.int .i64 kk] 3)).alloc (.cells #[] 22)).alloc (.cells #[.slice (some ⟨w.heap.size + 1 + 1, 0, none⟩) 0 0] 41)).alloc (.cells #[.bool false] 4)).heap.size = w.heap.size + 1 + 1 + 1 + 1 + 1 := by simp
 have b5 : Below w.heap.size w (((((w.alloc (.cells #[.int .i64 R, .int .i64 C, .slice Ab lb.length c] 26)).alloc (.cells #[.int .i64 kk] 3)).alloc (.cells #[] 22)).alloc (.cells #[.slice (some ⟨w.heap.size + 1 + 1, 0, none⟩) 0 0] 41)).alloc (.cells #[.bool false] 4)) := below_alloc (below_alloc (below_alloc (below_alloc (below_alloc (Below.refl _ _) _) _) _) _) _
 have f1 : (((((w.alloc (.cells #[.int .i64 R, .int .i64 C, .slice Ab lb.length c] 26)).alloc (.cells #[.int .i64 kk] 3)).alloc (.cells #[] 22)).alloc (.cells #[.slice (some ⟨w.heap.size + 1 + 1, 0, none⟩) 0 0] 41)).alloc (.cells #[.bool false] 4)).heap[w.heap.size + 1]? = some (.cells #[.int .i64 kk] 3 (0, 0)) := by
  have := blk_alloc (blk_alloc (blk_alloc (blk_new (w.alloc (.cells #[.int .i64 R, .int .i64 C, .slice Ab lb.length c] 26)) (.cells #[.int .i64 kk] 3)) (.cells #[] 22)) (.cells #[.slice (some ⟨w.heap.size + 1 + 1, 0, none⟩) 0 0] 41)) (.cells #[.bool false] 4)
  rw [e1] at this
  exact this
 have f3 : (((((w.alloc (.cells #[.int .i64 R, .int .i64 C, .slice Ab lb.length c] 26)).alloc (.cells #[.int .i64 kk] 3)).alloc (.cells #[] 22)).alloc (.cells #[.slice (some ⟨w.heap.size + 1 + 1, 0, none⟩) 0 0] 41)).alloc (.cells #[.bool false] 4)).heap[w.heap.size + 1 + 1 + 1]? = some (.cells #[.slice (some ⟨w.heap.size + 1 + 1, 0, none⟩) 0 0] 41 (0, 0)) := by
  have := blk_alloc (blk_new (((w.alloc (.cells #[.int .i64 R, .int .i64 C, .slice Ab lb.length c] 26)).alloc (.cells #[.int .i64 kk] 3)).alloc (.cells #[] 22)) (.cells #[.slice (some ⟨w.heap.size + 1 + 1, 0, none⟩) 0 0] 41)) (.cells #[.bool false] 4)
  rw [e3] at this
  exact this
 have f4 : (((((w.alloc (.cells #[.int .i64 R, .int .i64 C, .slice Ab lb.length c] 26)).alloc (.cells #[.int .i64 kk] 3)).alloc (.cells #[] 22)).alloc (.cells #[.slice (some ⟨w.heap.size + 1 + 1, 0, none⟩) 0 0] 41)).alloc (.cells #[.bool false] 4)).heap[w.heap.size + 1 + 1 + 1 + 1]? = some (.cells #[.bool false] 4 (0, 0)) := by
  have := blk_new ((((w.alloc (.cells #[.int .i64 R, .int .i64 C, .slice Ab lb.length c] 26)).alloc (.cells #[.int .i64 kk] 3)).alloc (.cells #[] 22)).alloc (.cells #[.slice (some ⟨w.heap.size + 1 + 1, 0, none⟩) 0 0] 41)) (.cells #[.bool false] 4)
  rw [e4] at this
  exact this
 have hS : Kd.S (Kd.slice 3 (Kd.int .i64)) 22 (((((w.alloc (.cells #[.int .i64 R, .int .i64 C, .slice Ab lb.length c] 26)).alloc (.cells #[.int .i64 kk] 3)).alloc (.cells #[] 22)).alloc (.cells #[.slice (some ⟨w.heap.size + 1 + 1, 0, none⟩) 0 0] 41)).alloc (.cells #[.bool false] 4)) w.heap.size (fun j => (w.heap.size + 1 ≤ j ∧ j ≤ w.heap.size + 1 + 1 + 1 + 1) ∧ j ≠ w.heap.size + 1 ∧ j ≠ w.heap.size + 1 + 1 + 1 + 1 ∧ j ≠ w.heap.size + 1 + 1 + 1) (.slice (some ⟨w.heap.size + 1 + 1, 0, none⟩) 0 0) [] := by
  have h0 := Cap.R_empty (Kd.tag (fun _ => 0) (Kd.slice 3 (Kd.int .i64))) 22 w.heap.size ((w.alloc (.cells #[.int .i64 R, .int .i64 C, .slice Ab lb.length c] 26)).alloc (.cells #[.int .i64 kk] 3)) (by rw [e2]; omega)
  rw [e2] at h0
  have h1 := Kd.R_below h0 (below_alloc (below_alloc (Below.refl _ _) (.cells #[.slice (some ⟨w.heap.size + 1 + 1, 0, none⟩) 0 0] 41)) (.cells #[.bool false] 4))
  refine ⟨fun _ => 0, Kd.R_mono h1 (fun k hk => ?_)⟩
  have : k = w.heap.size + 1 + 1 := by simpa [Value.ownBlock] using hk
  omega
 refine (impl_Board_lists.calls (impl_Board_firstOf_1.D w (w.heap.size + 1) (w.heap.size + 1 + 1 + 1 + 1) (w.heap.size + 1 + 1 + 1) kk) (impl_Board_firstOf_1.f kk) (.func 188) fr #[] #[.pointer (some ⟨w.heap.size + 1, 0, none⟩), .pointer (some ⟨w.heap.size + 1 + 1 + 1 + 1, 0, none⟩), .pointer (some ⟨w.heap.size + 1 + 1 + 1, 0, none⟩)] hr1 hr2 are w (impl_Board_firstOf_1.tells w _ _ _ kk) hF.out k (fun j => w.heap.size + 1 ≤ j ∧ j ≤ w.heap.size + 1 + 1 + 1 + 1) _ none R C Ab lb c kk (g, s) ⟨fun j hj => ⟨by omega, by rw [e5]; omega⟩, ⟨by omega, by omega, by omega⟩, ⟨by omega, by omega, by omega⟩, f1, f4, _, f3, hS⟩ b5 (Kd.C_below HC.out b5) Hc.out A1.out).mono ?_
 rintro e w9 ⟨rfl, own9, ⟨d1, d2, d3, d4, d5, v9, d6, d7⟩, hb9⟩
 have hD5 := A_ d5
 have hD6 := A_ d6
 have hD7 := A_ d7
 have HB9 := A_ hb9
 clear d1 d2 d3 d4 d5 d6 d7 hb9 e1 e2 e3 e4 e5 f1 f3 f4 b5 hS
 go_wp2
 refine start_ (n := 4) (S := fun w' => w'.cell? ⟨w.heap.size + 1 + 1 + 1, 0, none⟩ = some v9 ∧ w'.cell? ⟨w.heap.size + 1 + 1 + 1 + 1, 0, none⟩ = some (.bool s.isSome)) (ds := []) (Fn.bl 4 0) (by kernel_rfl) rfl rfl ⟨cell_of_one (blk_below hD6.out (below_drew (Below.refl _ _))), cell_of_one (blk_below hD5.out (below_drew (Below.refl _ _)))⟩ (fun hHeld => ?_)
 refine take_ (i := 0) (N := some 16) (v := ?_) (a' := ?_) (Fn.bl 4 1) rfl rfl (by kernel_rfl) (fun _ _ _ h => h) (Or.inl ⟨by rfl, ?_⟩) hHeld ?_ ?_
 rotate_left
 ·
  rintro w' ⟨s0, s1⟩
  go_simp
  with_reducible rfl
 rotate_left
 ·
  simp only [Act.put, List.setIfInBounds_toArray, List.set_cons_zero, List.set_cons_succ, i64_w, i32_w]
  rfl
 refine take_ (i := 1) (N := some 17) (v := ?_) (a' := ?_) (Fn.bl 4 3) rfl rfl (by kernel_rfl) (fun _ _ _ h => h) (Or.inl ⟨by rfl, ?_⟩) hHeld ?_ ?_
 rotate_left
 ·
  rintro w' ⟨s0, s1⟩
  go_simp
  with_reducible rfl
 rotate_left
 ·
  simp only [Act.put, List.setIfInBounds_toArray, List.set_cons_zero, List.set_cons_succ, i64_w, i32_w]
  rfl
 refine take_ (i := 2) (N := some 6) (v := ?_) (a' := ?_) (Fn.bl 4 7) rfl rfl (by kernel_rfl) (fun _ _ _ h => h) (Or.inl ⟨by rfl, ?_⟩) hHeld ?_ ?_
 rotate_left
 ·
  rintro w' ⟨s0, s1⟩
  go_simp
  with_reducible rfl
 rotate_left
 ·
  simp only [Act.put, List.setIfInBounds_toArray, List.set_cons_zero, List.set_cons_succ, i64_w, i32_w]
  rfl
 refine take_ (i := 3) (N := some 7) (v := ?_) (a' := ?_) (Fn.bl 4 15) rfl rfl (by kernel_rfl) (fun _ _ _ h => h) (Or.inl ⟨by rfl, ?_⟩) hHeld ?_ ?_
 rotate_left
 ·
  rintro w' ⟨s0, s1⟩
  go_simp
  with_reducible rfl
 rotate_left
 ·
  simp only [Act.put, List.setIfInBounds_toArray, List.set_cons_zero, List.set_cons_succ, i64_w, i32_w]
  rfl
 refine done_ (by kernel_rfl) ?_
 try go_wp2
 go_ret2
 exact ⟨_, rfl, Kd.S_mono (Kd.S_drew hD7.out) (fun _ _ => trivial), below_then HB9.out HB9.out.size (below_drew (Below.refl _ _))⟩

/-! ### impl_FirstKings: function 34 -/
def impl_FirstKings.are : FnT38 := fun l0 l1 => impl_asKings.f l0 l1
theorem impl_FirstKings.areok (w : World) : FnOk38 w (.func (.func 109) #[] #[]) impl_FirstKings.are := fun A0 c0 l0 A1 c1 l1 r W hr0 hc0 hr1 hc1 h _ => ⟨109, #[], _, rfl, Try.func109, by kernel_rfl, rfl, (impl_asKings.calls A0 c0 l0 A1 c1 l1 r W hr0 hc0 hr1 hc1 h).mono fun e w' hh => ⟨hh.1, by have := hh.2; first | exact this | exact this.below⟩⟩
def impl_FirstKings.f (k : Nat) (a0_0 a0_1 : Int) (l0_2 : List Int) (a1 : Int) : Option (List (List Int) × Bool) := (impl_IsBoard.f a0_0 a0_1 l0_2).bind fun t => (if t = true then ((impl_isPieces.f a1).bind fun u => (if u = true then ((impl_Board_kings.f k a0_0 a0_1 l0_2).bind fun v => (if a1 ≥ (v.length : Int) then some ([], false) else impl_Board_firstOf.f k a0_0 a0_1 l0_2 a1 impl_FirstKings.are)) else some ([], false))) else some ([], false))
theorem impl_FirstKings.mono : ∀ a0 a1 a2 a3 k, LeO (impl_FirstKings.f k a0 a1 a2 a3) (impl_FirstKings.f (k + 1) a0 a1 a2 a3) := by
 intro a0 a1 a2 a3 k
 unfold impl_FirstKings.f
 refine LeO.bind (LeO.refl _) (fun _ => ?_)
 refine LeO.ite ?_ (LeO.refl _)
 refine LeO.bind (LeO.refl _) (fun _ => ?_)
 refine LeO.ite ?_ (LeO.refl _)
 refine LeO.bind (impl_Board_kings.mono _ _ _ _) (fun _ => ?_)
 exact LeO.ite (LeO.refl _) (impl_Board_firstOf.mono _ _ _ _ _ _)
theorem impl_FirstKings.calls (k : Nat) (a0_0 a0_1 : Int) (A0_2 : Option Addr) (c0_2 : Nat) (l0_2 : List Int) (a1 : Int) (r1 : List (List Int)) (r2 : Bool) (w : World) (hr0_2 : Kd.C (Kd.int .i64) w A0_2 l0_2.length l0_2) (hc0_2 : l0_2.length ≤ c0_2) (h : impl_FirstKings.f k a0_0 a0_1 l0_2 a1 = some (r1, r2)) :
  Calls Try.prog 34 #[.agg #[.int .i64 a0_0, .int .i64 a0_1, .slice A0_2 l0_2.length c0_2], .int .i64 a1] w fun e w' => ∃ v0_ : Value, e = .returned (.tuple #[v0_, .bool r2]) ∧ Kd.S (Kd.slice 3 (Kd.int .i64)) 22 w' w.heap.size (fun _ => True) v0_ r1 ∧ Below w.heap.size w w' := by
 have HR := A_ hr0_2
 have HC := A_ hc0_2
 clear hr0_2 hc0_2
 unfold impl_FirstKings.f at h
 have hu26 := Try.underlying26
 have HQ : Aside0 (∀ w1, Below w.heap.size w w1 → Kd.C (Kd.int .i64) w1 A0_2 l0_2.length l0_2) := ⟨fun w1 hb => Kd.C_below HR.out hb⟩
 obtain ⟨t, A2, H⟩ := Option.bind_eq_some_iff.mp h
 have A2' := A_ A2
 clear A2 h
 have hb2 := A_ (below_alloc (Below.refl w.heap.size w) (.cells #[.int .i64 a0_0, .int .i64 a0_1, .slice A0_2 l0_2.length c0_2] 26))
 have FB := A_ (blk_new w (.cells #[.int .i64 a0_0, .int .i64 a0_1, .slice A0_2 l0_2.length c0_2] 26))
 cases t with
 | false =>
  simp only [Bool.false_eq_true, if_false, Option.some.injEq, Prod.mk.injEq] at H
  obtain ⟨rfl, rfl⟩ := H
  go_enter Try.func34, Try.ntmps34
  go_wp2_with (first | (go_at_call 93; (with_reducible refine (impl_IsBoard.calls a0_0 a0_1 A0_2 c0_2 l0_2 false _ (HQ.out _ hb2.out) HC.out A2'.out).mono ?_); rintro e w1 ⟨rfl, hb⟩; have HB1 := A_ (below_then hb2.out hb2.out.size hb); clear hb))
  go_ret2
  exact ⟨_, rfl, Kd.S_nil _ _ _ _ _, HB1.out⟩
 | true =>
  simp only [if_true] at H
  obtain ⟨u, A3, H⟩ := Option.bind_eq_some_iff.mp H
  have A3' := A_ A3
  clear A3
  cases u with
  | false =>
   simp only [Bool.false_eq_true, if_false, Option.some.injEq, Prod.mk.injEq] at H
   obtain ⟨rfl, rfl⟩ := H
   go_enter Try.func34, Try.ntmps34
   go_wp2_with (first | (go_at_call 93; (with_reducible refine (impl_IsBoard.calls a0_0 a0_1 A0_2 c0_2 l0_2 true _ (HQ.out _ hb2.out) HC.out A2'.out).mono ?_); rintro e w1 ⟨rfl, hb⟩; have HB1 := A_ (below_then hb2.out hb2.out.size hb); clear hb) | (go_at_call 100; (with_reducible refine (impl_isPieces.calls a1 false _ A3'.out).mono ?_); rintro e w2 ⟨rfl, hb⟩; have HB2 := A_ (below_then HB1.out HB1.out.size hb.below); clear hb))
   go_ret2
   exact ⟨_, rfl, Kd.S_nil _ _ _ _ _, HB2.out⟩
  | true =>
   simp only [if_true] at H
   obtain ⟨v, A4, H⟩ := Option.bind_eq_some_iff.mp H
   have A4' := A_ A4
   clear A4
   by_cases c1 : a1 ≥ (v.length : Int)
   ·
    rw [if_pos c1] at H
    have c1b := decide_eq_true c1
    clear c1
    simp only [Option.some.injEq, Prod.mk.injEq] at H
    obtain ⟨rfl, rfl⟩ := H
    go_enter Try.func34, Try.ntmps34
    go_wp2_with (first | (go_at_call 93; (with_reducible refine (impl_IsBoard.calls a0_0 a0_1 A0_2 c0_2 l0_2 true _ (HQ.out _ hb2.out) HC.out A2'.out).mono ?_); rintro e w1 ⟨rfl, hb⟩; have HB1 := A_ (below_then hb2.out hb2.out.size hb); have hB1 := A_ (blk_below FB.out hb); clear hb) | (go_at_call 100; (with_reducible refine (impl_isPieces.calls a1 true _ A3'.out).mono ?_); rintro e w2 ⟨rfl, hb⟩; have HB2 := A_ (below_then HB1.out HB1.out.size hb.below); have hB2 := A_ (blk_below hB1.out hb.below); clear hb; have hb30 := blk_cell hB2.out 0; have hb31 := blk_cell hB2.out 1; have hb32 := blk_cell hB2.out 2) | (go_at_call 107; (with_reducible refine (impl_Board_kings.calls k a0_0 a0_1 A0_2 c0_2 l0_2 v _ (HQ.out _ HB2.out) HC.out A4'.out).mono ?_); rintro e w3 ⟨vb, rfl, hR, hb⟩; obtain ⟨Ab, cb, eb⟩ := Kd.R_slice hR; subst eb; have HB3 := A_ (below_then HB2.out HB2.out.size hb); clear hR hb))
    go_ret2
    exact ⟨_, rfl, Kd.S_nil _ _ _ _ _, HB3.out⟩
   ·
    rw [if_neg c1] at H
    have c1b := decide_eq_false c1
    clear c1
    replace H := A_ H
    go_enter Try.func34, Try.ntmps34
    go_wp2_with (first | (go_at_call 93; (with_reducible refine (impl_IsBoard.calls a0_0 a0_1 A0_2 c0_2 l0_2 true _ (HQ.out _ hb2.out) HC.out A2'.out).mono ?_); rintro e w1 ⟨rfl, hb⟩; have HB1 := A_ (below_then hb2.out hb2.out.size hb); have hB1 := A_ (blk_below FB.out hb); clear hb) | (go_at_call 100; (with_reducible refine (impl_isPieces.calls a1 true _ A3'.out).mono ?_); rintro e w2 ⟨rfl, hb⟩; have HB2 := A_ (below_then HB1.out HB1.out.size hb.below); have hB2 := A_ (blk_below hB1.out hb.below); clear hb; have hb30 := blk_cell hB2.out 0; have hb31 := blk_cell hB2.out 1; have hb32 := blk_cell hB2.out 2) | (go_at_call 107; (with_reducible refine (impl_Board_kings.calls k a0_0 a0_1 A0_2 c0_2 l0_2 v _ (HQ.out _ HB2.out) HC.out A4'.out).mono ?_); rintro e w3 ⟨vb, rfl, hR, hb⟩; obtain ⟨Ab, cb, eb⟩ := Kd.R_slice hR; subst eb; have HB3 := A_ (below_then HB2.out HB2.out.size hb); have hB3 := A_ (blk_below hB2.out hb); clear hR hb; have hb40 := blk_cell hB3.out 0; have hb41 := blk_cell hB3.out 1; have hb42 := blk_cell hB3.out 2) | (go_at_call 108; refine (impl_Board_firstOf.calls (.func 109) #[] #[] impl_FirstKings.are k a0_0 a0_1 A0_2 l0_2 c0_2 a1 r1 r2 _ (impl_FirstKings.areok _) (HQ.out _ HB3.out) HC.out H.out).mono ?_; rintro e w5 ⟨vr, rfl, hS, hb⟩; have HS5 := A_ (Kd.S_lower hS HB3.out.size); have HB5 := A_ (below_then HB3.out HB3.out.size hb); clear hS hb))
    go_ret2
    exact ⟨_, rfl, HS5.out, HB5.out⟩

/-! ### laws_eqIntSS: function 35 -/
def laws_eqIntSS.l0 : Nat → List (List Int) → List (List Int) → Int → Option (Bool)
 | 0, _, _, _ => none
 | k + 1, x0, x1, x5 => if x5 < (x0.length : Int) then (if 0 ≤ x5 then (if x5 < (x1.length : Int) then ((laws_eqIntS.f k (rd_L1 x0 x5) (rd_L1 x1 x5)).bind fun t785 => (if t785 = true then (laws_eqIntSS.l0 k x0 x1 (wrap64 (x5 + 1))) else (some false))) else (none)) else (none)) else (some true)
def laws_eqIntSS.f (k : Nat) (l0 : List (List Int)) (l1 : List (List Int)) : Option (Bool) := if (l0.length : Int) = (l1.length : Int) then (laws_eqIntSS.l0 k l0 l1 0) else (some false)
theorem laws_eqIntSS.mono_l : ∀ k, (∀ y0 y1 y2, LeO (laws_eqIntSS.l0 k y0 y1 y2) (laws_eqIntSS.l0 (k + 1) y0 y1 y2))
 | 0 => fun _ _ _ r h => by simp [laws_eqIntSS.l0] at h
 | k + 1 => by
  have ih0 := laws_eqIntSS.mono_l k
  ·
   intro y0 y1 y2
   unfold laws_eqIntSS.l0
   repeat' first | (with_reducible first | exact ih0 _ _ _ | exact laws_eqIntS.mono _ _ _ | exact LeO.refl _ | exact LeO.none _ | refine LeO.ite ?_ ?_ | refine LeO.bind ?_ (fun _ => ?_)) | exact ih0 _ _ _ | exact laws_eqIntS.mono _ _ _ | exact LeO.none _ | refine LeO.ite ?_ ?_ | refine LeO.bind ?_ (fun _ => ?_)
theorem laws_eqIntSS.mono : ∀ a0 a1 k, LeO (laws_eqIntSS.f k a0 a1) (laws_eqIntSS.f (k + 1) a0 a1) := by
 intro a0 a1 k
 have ih0 := laws_eqIntSS.mono_l k
 unfold laws_eqIntSS.f
 repeat' first | (with_reducible first | exact ih0 _ _ _ | exact laws_eqIntS.mono _ _ _ | exact LeO.refl _ | exact LeO.none _ | refine LeO.ite ?_ ?_ | refine LeO.bind ?_ (fun _ => ?_)) | exact ih0 _ _ _ | exact laws_eqIntS.mono _ _ _ | exact LeO.none _ | refine LeO.ite ?_ ?_ | refine LeO.bind ?_ (fun _ => ?_)
theorem laws_eqIntSS.calls (k : Nat) (A0 : Option Addr) (c0 : Nat) (l0 : List (List Int)) (A1 : Option Addr) (c1 : Nat) (l1 : List (List Int)) (r : Bool) (w : World) (hr0 : Kd.C (Kd.slice 3 (Kd.int .i64)) w A0 l0.length l0) (hc0 : l0.length ≤ c0) (hr1 : Kd.C (Kd.slice 3 (Kd.int .i64)) w A1 l1.length l1) (hc1 : l1.length ≤ c1) (h : laws_eqIntSS.f k l0 l1 = some r) :
  Calls Try.prog 35 #[.slice A0 l0.length c0, .slice A1 l1.length c1] w fun e w' => e = .returned (.bool r) ∧ Drawn0 w w' := by
 have HR0 := A_ hr0
 have HC0 := A_ hc0
 clear hr0 hc0
 have HR1 := A_ hr1
 have HC1 := A_ hc1
 clear hr1 hc1
 have H : (if (l0.length : Int) = (l1.length : Int) then (laws_eqIntSS.l0 k l0 l1 0) else (some false)) = some r := h
 clear h
 by_cases c3 : (l0.length : Int) = (l1.length : Int)
 ·
  rw [if_pos c3] at H
  have c3b0 : ((l0.length : Int) == (l1.length : Int)) = true := beq_iff_eq.mpr c3
  have c3b1 : ((l0.length : Int) != (l1.length : Int)) = false := bne_eq_false_iff_eq.mpr c3
  have c3b2 : (l0.length == l1.length) = true := by first | simpa using c3 | (simp at c3 ⊢; omega)
  clear c3
  have H' := A_ H
  clear H
  go_enter Try.func35, Try.ntmps35
  go_wp2
  repeat (go_quiet (fail); try go_wp2)
  go_loopg [5] k (fun kq v5 w' => ∃ (x5_1 : Int), v5 = .int .i64 x5_1 ∧ Aside0 (laws_eqIntSS.l0 kq l0 l1 x5_1 = some r) ∧ Aside0 (kq ≤ k) ∧ Drawn0 w w')
  case atStart => exact ⟨(0), tf_, H', ⟨Nat.le_refl _⟩, dr_⟩
  case round =>
   clear H'
   try clear c1
   try clear p2
   try clear c3
   try clear c3b0
   try clear c3b1
   try clear c3b2
   obtain ⟨x5_1, rfl, HA, HK1, ⟨m1, rfl⟩⟩ := hrel
   cases gk with
   | zero => exact absurd HA.out (by simp [laws_eqIntSS.l0])
   | succ k1 =>
    have H := HA.out
    clear HA
    simp only [laws_eqIntSS.l0] at H
    by_cases c4 : x5_1 < (l0.length : Int)
    ·
     rw [if_pos c4] at H
     have c4b0 := decide_eq_true c4
     clear c4
     by_cases c5 : 0 ≤ x5_1
     ·
      rw [if_pos c5] at H
      have c5b0 := decide_eq_true c5
      clear c5
      by_cases c6 : x5_1 < (l1.length : Int)
      ·
       rw [if_pos c6] at H
       have c6b0 := decide_eq_true c6
       clear c6
       replace H := Option.bind_eq_some_iff.mp H
       obtain ⟨t785, A70, H⟩ := H
       replace H : (if t785 = true then (laws_eqIntSS.l0 k1 l0 l1 (wrap64 (x5_1 + 1))) else (some false)) = some r := H
       have A7 := A_ A70
       clear A70
       by_cases c8 : t785 = true
       ·
        subst c8
        have H1 : (laws_eqIntSS.l0 k1 l0 l1 (wrap64 (x5_1 + 1))) = some r := by rw [if_pos rfl] at H; exact H
        clear H
        have H := H1
        clear H1
        have H' := A_ H
        clear H
        have p783 : 0 ≤ (x5_1 : Int) := od_
        have q783 : x5_1 < (l0.length : Int) := od_
        obtain ⟨ad783, A783_0, c783_0, e783, hx783_0, hl783_0, hi783_0⟩ := at_L1 HR0.out x5_1 p783 q783
        cases e783
        have HR783_0 := A_ hi783_0
        have HC783_0 := A_ hl783_0
        clear hi783_0 hl783_0
        replace p783 := eq_true p783
        replace q783 := eq_true q783
        have p784 : 0 ≤ (x5_1 : Int) := od_
        have q784 : x5_1 < (l1.length : Int) := od_
        obtain ⟨ad784, A784_0, c784_0, e784, hx784_0, hl784_0, hi784_0⟩ := at_L1 HR1.out x5_1 p784 q784
        cases e784
        have HR784_0 := A_ hi784_0
        have HC784_0 := A_ hl784_0
        clear hi784_0 hl784_0
        replace p784 := eq_true p784
        replace q784 := eq_true q784
        go_wp2_with (first | (go_at_call 28; (with_reducible refine (laws_eqIntS.calls k1 _ _ (rd_L1 l0 x5_1) _ _ (rd_L1 l1 x5_1) true _ ?side1 ?side2 ?side3 ?side4 A7.out).mono ?_); (case side1 => exact tc0_ HR783_0.out); (case side2 => exact HC783_0.out); (case side3 => exact tc0_ HR784_0.out); (case side4 => exact HC784_0.out); rintro e w' ⟨rfl, ⟨nd, rfl⟩⟩; (try exact dn_)))
        repeat (go_quiet (first | (go_at_call 28; (with_reducible refine (laws_eqIntS.calls k1 _ _ (rd_L1 l0 x5_1) _ _ (rd_L1 l1 x5_1) true _ ?side1 ?side2 ?side3 ?side4 A7.out).mono ?_); (case side1 => exact tc0_ HR783_0.out); (case side2 => exact HC783_0.out); (case side3 => exact tc0_ HR784_0.out); (case side4 => exact HC784_0.out); rintro e w' ⟨rfl, ⟨nd, rfl⟩⟩; (try exact dn_))); try go_wp2_with (first | (go_at_call 28; (with_reducible refine (laws_eqIntS.calls k1 _ _ (rd_L1 l0 x5_1) _ _ (rd_L1 l1 x5_1) true _ ?side1 ?side2 ?side3 ?side4 A7.out).mono ?_); (case side1 => exact tc0_ HR783_0.out); (case side2 => exact HC783_0.out); (case side3 => exact tc0_ HR784_0.out); (case side4 => exact HC784_0.out); rintro e w' ⟨rfl, ⟨nd, rfl⟩⟩; (try exact dn_))))
        go_roundg k1
        case measure => have := HK1.out; omega
        case rel => exact ⟨(wrap64 (x5_1 + 1)), tf_, H', ⟨by have := HK1.out; omega⟩, dr_⟩
       ·
        replace c8 := Bool.eq_false_iff.mpr c8
        subst c8
        have H1 : (some false) = some r := by rw [if_neg (show ¬ (false = true) by decide)] at H; exact H
        clear H
        have H := H1
        clear H1
        obtain rfl := Option.some.inj H
        have p783 : 0 ≤ (x5_1 : Int) := od_
        have q783 : x5_1 < (l0.length : Int) := od_
        obtain ⟨ad783, A783_0, c783_0, e783, hx783_0, hl783_0, hi783_0⟩ := at_L1 HR0.out x5_1 p783 q783
        cases e783
        have HR783_0 := A_ hi783_0
        have HC783_0 := A_ hl783_0
        clear hi783_0 hl783_0
        replace p783 := eq_true p783
        replace q783 := eq_true q783
        have p784 : 0 ≤ (x5_1 : Int) := od_
        have q784 : x5_1 < (l1.length : Int) := od_
        obtain ⟨ad784, A784_0, c784_0, e784, hx784_0, hl784_0, hi784_0⟩ := at_L1 HR1.out x5_1 p784 q784
        cases e784
        have HR784_0 := A_ hi784_0
        have HC784_0 := A_ hl784_0
        clear hi784_0 hl784_0
        replace p784 := eq_true p784
        replace q784 := eq_true q784
        go_wp2_with (first | (go_at_call 28; (with_reducible refine (laws_eqIntS.calls k1 _ _ (rd_L1 l0 x5_1) _ _ (rd_L1 l1 x5_1) false _ ?side1 ?side2 ?side3 ?side4 A7.out).mono ?_); (case side1 => exact tc0_ HR783_0.out); (case side2 => exact HC783_0.out); (case side3 => exact tc0_ HR784_0.out); (case side4 => exact HC784_0.out); rintro e w' ⟨rfl, ⟨nd, rfl⟩⟩; (try exact dn_)))
        repeat (go_quiet (first | (go_at_call 28; (with_reducible refine (laws_eqIntS.calls k1 _ _ (rd_L1 l0 x5_1) _ _ (rd_L1 l1 x5_1) false _ ?side1 ?side2 ?side3 ?side4 A7.out).mono ?_); (case side1 => exact tc0_ HR783_0.out); (case side2 => exact HC783_0.out); (case side3 => exact tc0_ HR784_0.out); (case side4 => exact HC784_0.out); rintro e w' ⟨rfl, ⟨nd, rfl⟩⟩; (try exact dn_))); try go_wp2_with (first | (go_at_call 28; (with_reducible refine (laws_eqIntS.calls k1 _ _ (rd_L1 l0 x5_1) _ _ (rd_L1 l1 x5_1) false _ ?side1 ?side2 ?side3 ?side4 A7.out).mono ?_); (case side1 => exact tc0_ HR783_0.out); (case side2 => exact HC783_0.out); (case side3 => exact tc0_ HR784_0.out); (case side4 => exact HC784_0.out); rintro e w' ⟨rfl, ⟨nd, rfl⟩⟩; (try exact dn_))))
        go_ret
        exact ⟨tf_, dr_⟩
      ·
       rw [if_neg c6] at H
       exact absurd H (by simp)
     ·
      rw [if_neg c5] at H
      exact absurd H (by simp)
    ·
     rw [if_neg c4] at H
     have c4b0 := decide_eq_false c4
     clear c4
     obtain rfl := Option.some.inj H
     go_wp2
     repeat (go_quiet (fail); try go_wp2)
     go_ret
     exact ⟨tf_, dr_⟩
 ·
  rw [if_neg c3] at H
  have c3b0 : ((l0.length : Int) == (l1.length : Int)) = false := beq_eq_false_iff_ne.mpr c3
  have c3b1 : ((l0.length : Int) != (l1.length : Int)) = true := bne_iff_ne.mpr c3
  have c3b2 : (l0.length == l1.length) = false := by first | simpa using c3 | (simp at c3 ⊢; omega)
  obtain rfl := Option.some.inj H
  go_enter Try.func35, Try.ntmps35
  go_wp2
  repeat (go_quiet (fail); try go_wp2)
  go_ret
  exact ⟨tf_, dr_⟩

/-! ### laws_markIntSS: function 36 -/
def laws_markIntSS.l0 : Nat → List (List Int) → Int → Int → Option (Int × List (List Int))
 | 0, _, _, _ => none
 | k + 1, x0, x1, x5 => if x5 < (x0.length : Int) then (if 0 ≤ x5 then ((laws_markIntS.f k (rd_L1 x0 x5) x1).bind fun t => laws_markIntSS.l0 k (x0.set (x5 : Int).toNat t.2) t.1 (wrap64 (x5 + 1))) else none) else some (x1, x0)
def laws_markIntSS.f (k : Nat) (l0 : List (List Int)) (a1 : Int) : Option (Int × List (List Int)) := laws_markIntSS.l0 k l0 a1 0
theorem laws_markIntSS.mono_l : ∀ k, (∀ y0 y1 y2, LeO (laws_markIntSS.l0 k y0 y1 y2) (laws_markIntSS.l0 (k + 1) y0 y1 y2))
 | 0 => fun _ _ _ r h => by simp [laws_markIntSS.l0] at h
 | k + 1 => by
  have ih0 := laws_markIntSS.mono_l k
  ·
   intro y0 y1 y2
   unfold laws_markIntSS.l0
   repeat' first | (with_reducible first | exact ih0 _ _ _ | exact LeO.refl _ | exact LeO.none _ | exact laws_markIntS.mono _ _ _ | refine LeO.ite ?_ ?_ | refine LeO.bind ?_ (fun _ => ?_)) | exact ih0 _ _ _ | exact LeO.none _ | exact laws_markIntS.mono _ _ _ | refine LeO.ite ?_ ?_ | refine LeO.bind ?_ (fun _ => ?_)
theorem laws_markIntSS.mono : ∀ a0 a1 k, LeO (laws_markIntSS.f k a0 a1) (laws_markIntSS.f (k + 1) a0 a1) := fun a0 a1 k => laws_markIntSS.mono_l k _ _ _
theorem laws_markIntSS.calls (k : Nat) (P0_ : Nat → Prop) (u9000_ : Value) (l0 : List (List Int)) (a1 : Int) (r1 : Int) (r2 : List (List Int)) (w0 w : World) (hB : Below w0.heap.size w0 w) (ho0 : Kd.S (Kd.slice 3 (Kd.int .i64)) 22 w w0.heap.size P0_ u9000_ l0) (h : laws_markIntSS.f k l0 a1 = some (r1, r2)) :
  Calls Try.prog 36 #[u9000_, .int .i64 a1] w fun e w' => e = .returned (.int .i64 r1) ∧ Kd.S (Kd.slice 3 (Kd.int .i64)) 22 w' w0.heap.size (fun k_ => (P0_ k_ ∨ w.heap.size ≤ k_)) u9000_ r2 ∧ Below w0.heap.size w0 w' ∧ Kept w w' (fun k_ => P0_ k_) := by
 have HO0 := A_ (show Kd.S (Kd.slice 3 (Kd.int .i64)) 22 w w0.heap.size (fun k_ => (P0_ k_ ∨ w.heap.size ≤ k_)) u9000_ l0 from Kd.S_mono ho0 (fun k_ hk => (.inl hk)))
 have HK := A_ (Kept.refl w (fun k_ => P0_ k_))
 have HB := A_ hB
 clear hB
 have H' := A_ (show laws_markIntSS.l0 k l0 a1 0 = some (r1, r2) from h)
 clear h
 go_enter Try.func36, Try.ntmps36
 go_wp2
 go_loopg [1, 5] k (fun kq v1 v5 w' => ∃ (x0_1 : List (List Int)) (x1_1 : Int) (x5_1 : Int), v1 = .int .i64 x1_1 ∧ v5 = .int .i64 x5_1 ∧ Aside0 (laws_markIntSS.l0 kq x0_1 x1_1 x5_1 = some (r1, r2)) ∧ Aside0 (kq ≤ k) ∧ Aside0 (Kd.S (Kd.slice 3 (Kd.int .i64)) 22 w' w0.heap.size (fun k_ => (P0_ k_ ∨ w.heap.size ≤ k_)) u9000_ x0_1) ∧ Aside0 (Kept w w' (fun k_ => P0_ k_)) ∧ Aside0 (Below w0.heap.size w0 w'))
 case atStart => exact ⟨l0, a1, 0, rfl, rfl, H', ⟨Nat.le_refl _⟩, ⟨ts1_x HO0.out⟩, ⟨by repeat (first | (with_reducible first | exact HK.out | apply Kept.alloc | apply Kept.drewN | apply Kept.drew) | exact HK.out)⟩, ⟨tb_⟩⟩
 case round =>
  clear H'
  obtain ⟨x0_1, x1_1, x5_1, rfl, rfl, HA, HK1, HO_0, HK, HB⟩ := hrel
  cases gk with
  | zero => exact absurd HA.out (by simp [laws_markIntSS.l0])
  | succ k1 =>
   have H := HA.out
   clear HA
   simp only [laws_markIntSS.l0] at H
   by_cases c3 : x5_1 < (x0_1.length : Int)
   ·
    rw [if_pos c3] at H
    by_cases c4 : 0 ≤ x5_1
    ·
     rw [if_pos c4] at H
     obtain ⟨⟨t1, t2⟩, A1, H⟩ := Option.bind_eq_some_iff.mp H
     have H' := A_ H
     have A1' := A_ A1
     clear H A1
     obtain ⟨go5, co5, eo5, gb5, gl5, cl5, HG5⟩ := Kd.S_form HO_0.out (by omega)
     subst eo5
     obtain ⟨oki, ci, hcl, hM, hcc, hoki, hH⟩ := Kd.S_lend HO_0.out [] x5_1 c4 c3
     obtain ⟨ve, rfl, hR⟩ := hM
     have hx := hcc 0 _ rfl
     simp only [show (Kd.slice 3 (Kd.int .i64)).sz = 1 from rfl, Nat.mul_one, Nat.add_zero] at hx
     have HR := A_ hR
     have HH := A_ hH
     have HI := A_ hoki
     have c3b := decide_eq_true c3
     have c4b := decide_eq_true c4
     have c3' := A_ c3
     have c4' := A_ c4
     clear hR hH hoki hcl hcc gb5 gl5 HG5 c3 c4
     have p5 : (0 ≤ x5_1) = True := eq_true c4'.out
     have q5 : (x5_1 < (x0_1.length : Int)) = True := eq_true c3'.out
     go_wp2_with (first | (go_at_call 29; (with_reducible refine (laws_markIntS.calls k1 oki ve (rd_L1 x0_1 x5_1) x1_1 t1 t2 w0 _ ?sB ?sR A1'.out).mono ?_); (case sB => repeat (first | (with_reducible first | exact HB.out | apply below_alloc | apply pw_below_drewN | apply below_drew1) | exact HB.out)); (case sR => (with_reducible repeat (first | apply Kd.R_alloc | apply Kd.R_drewN | apply Kd.R_drew)); exact HR.out); rintro e w8 ⟨rfl, hy, hb, hkp⟩; have HY := A_ hy; have HB2 := A_ hb; have HKP := A_ hkp; clear hy hb hkp))
     go_roundg k1
     case measure => have := HK1.out; omega
     case rel =>
      refine ⟨x0_1.set x5_1.toNat t2, t1, wrap64 (x5_1 + 1), rfl, by first | rfl | (simp; done), H', ⟨by have := HK1.out; omega⟩, ?_, ?_, ?_⟩
      ·
       refine ⟨?_⟩
       (with_reducible repeat (first | apply Kd.S_alloc | apply Kd.S_drewN | apply Kd.S_drew))
       have hle := HKP.out.1
       have hle2 := HK.out.1
       have hsz := HB.out.size
       exact Kd.H_back (Kd.H_step (Kd.H_widen HH.out) (fun k_ hk hn hlt => HKP.out.2 k_ hlt (fun h2 => hn (.inl h2)))) (Kd.M_row HY.out) (fun k_ hk => hk.elim .inl (fun h2 => .inr ⟨.inr (Nat.le_trans hle2 h2), h2⟩))
      ·
       refine ⟨?_⟩
       repeat (first | (with_reducible first | apply Kept.alloc | apply Kept.drewN | apply Kept.drew))
       exact Kept.then_ HK.out HKP.out (fun k_ hk => (HI.out k_ hk).1)
      ·
       exact ⟨by repeat (first | (with_reducible first | exact HB2.out | apply below_alloc | apply pw_below_drewN | apply below_drew1) | exact HB2.out)⟩
    ·
     rw [if_neg c4] at H
     exact absurd H (by simp)
   ·
    rw [if_neg c3] at H
    have c3b0 := decide_eq_false c3
    clear c3
    simp only [Option.some.injEq, Prod.mk.injEq] at H
    obtain ⟨rfl, rfl⟩ := H
    obtain ⟨Ao9, co9, eo9⟩ := Kd.S_slice HO_0.out
    subst eo9
    go_wp2
    go_ret
    exact ⟨te_, by (with_reducible repeat (first | apply Kd.S_alloc | apply Kd.S_drewN | apply Kd.S_drew)); exact HO_0.out, tb_, by repeat (first | (with_reducible first | exact HK.out | apply Kept.alloc | apply Kept.drewN | apply Kept.drew) | exact HK.out)⟩

end
end Go.Proofs.Ythlcaikplebpmaa.P
