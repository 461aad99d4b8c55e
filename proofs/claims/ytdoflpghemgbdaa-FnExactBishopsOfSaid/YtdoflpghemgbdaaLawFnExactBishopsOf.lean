-- printed by wip/hprint.py of this session (the kit's print.py, patched in memory)
import Derived.Test.YtdoflpghemgbdaaRows
import Derived.Test.YtdoflpghemgbdaaHead
import Derived.Test.YtdoflpghemgbdaaOpen
import Derived.Test.YtdoflpghemgbdaaQ113a131149
import Derived.Test.YtdoflpghemgbdaaPureFnExactBishopsOf
import Derived.WalkKit
import Derived.ProofKit
import Derived.OpenShut
import Derived.ShutString
import Derived.ChangeOld
import Derived.Below
import Derived.SizedLaws
import Derived.Lib.SmallJoins
import Derived.Deep.Strs
namespace Go.Proofs.Ytdoflpghemgbdaa.fnExactBishopsOf
open Go.ChangeShapes Go.WideShapes Go.ChangeAt Go.RowKit Go.Joins Go.Deep
open Go.ChangeMaps (open_string shut_string)
set_option linter.unusedVariables false
theorem own : ownKnob Try.prog.godebug = none := by kernel_rfl
theorem laidOut : laidOutB Try.prog = true := by kernel_rfl
set_option maxRecDepth 100000 in
theorem lifted (os : Os) (started : os.Started) (H : Type) (enc : TypeId × Value → H) :
    ReturnsInHanded {} Try.checked os 7 .any (Rows.fnExactBishopsOfSpec.pre6 enc Try.prog Try.f7 Rows.fnExactBishopsOfRow.domain false) (Rows.fnExactBishopsOfSpec.post enc Try.prog Try.f7 false true false false) := by
  refine returnsInHanded_of_change_sized (C := Try.checked) own started (by kernel_rfl) Try.func7
    (ChangeSpec.witness6 (enc := enc) (C := Try.checked) false ⟨#[], #[.agg #[.int .i64 0, .int .i64 0, .slice none 0 0], .int .i64 0, .slice none 0 0], []⟩ 8 (by kernel_rfl) (by kernel_rfl) (by kernel_rfl) (by kernel_rfl)) ?_
  intro W base args ds gs before hval0 hW hcnd hsz0 _
  have hval : ∀ (j : Nat) t v, Try.f7.params[j]? = some t → args[j]? = some v → Value.okWide Try.prog W .any base t v := hval0
  have hW' := hW
  obtain ⟨p, q, hA0, hV, rfl, hfz, hnd⟩ := hW
  have hA : DataW.TrodAll enc Try.prog W 0 (fun _ => true) true Try.f7.params.toList args.toList ds p := hA0
  rw [Try.params7] at hA hval
  obtain ⟨v0, vs0, d0, ds0, p0, q0, hargs, rfl, rfl, h0, r0⟩ := trodAll_cons hA
  obtain ⟨v1, vs1, d1, ds1, p1, q1, rfl, rfl, rfl, h1, r1⟩ := trodAll_cons r0
  obtain ⟨v2, vs2, d2, ds2, p2, q2, rfl, rfl, rfl, h2, r2⟩ := trodAll_cons r1
  obtain ⟨rfl, rfl, rfl⟩ := trodAll_nil r2
  obtain rfl : args = #[v0, v1, v2] := by cases args; simp_all
  obtain ⟨rfl, rfl⟩ := trodVars_none hV
  have k0 := h0
  have lt0 : ∀ x ∈ p0, x.block < W.heap.size := by obtain ⟨m, hm⟩ := k0; exact DataW.trod_lt m _ _ _ hm
  obtain ⟨z0_0, z0_1, z0_2, y0_0, y0_1, y0_2, m0, rfl, _, _, hy0_0, hy0_1, hy0_2⟩ := open_agg3 Try.underlying67 (by kernel_rfl) (by kernel_rfl) (hval 0 67 v0 rfl rfl) h0
  obtain ⟨a0_0, e0_0, hok0_0⟩ := (Fn.opens_int Try.underlying3) _ _ _ _ _ hy0_0
  obtain rfl : z0_0 = .int .i64 a0_0 := by have e := e0_0; exact List.singleton_inj.1 e
  obtain ⟨a0_1, e0_1, hok0_1⟩ := (Fn.opens_int Try.underlying3) _ _ _ _ _ hy0_1
  obtain rfl : z0_1 = .int .i64 a0_1 := by have e := e0_1; exact List.singleton_inj.1 e
  obtain ⟨l0_2, ⟨A0_2, c0_2, e0_2, hc0_2, hC0_2⟩, hok0_2⟩ := (Fn.opens_slice 0 Try.underlying24 (by kernel_rfl) rfl (Fn.opens_int Try.underlying3)) _ _ _ _ _ hy0_2
  obtain rfl : z0_2 = .slice A0_2 l0_2.length c0_2 := by simpa using e0_2
  obtain ⟨a1, rfl, rfl, rfl, w1⟩ := open_int Try.underlying3 (hval 1 3 v1 rfl rfl) h1
  have k2 := h2
  have lt2 : ∀ x ∈ p2, x.block < W.heap.size := by obtain ⟨m, hm⟩ := k2; exact DataW.trod_lt m _ _ _ hm
  obtain ⟨a2, len2, cap2, rfl⟩ := okWide_slice Try.underlying24 (hval 2 24 v2 rfl rfl)
  obtain ⟨A2, l2, c2, e2, hc2, hC2, hok2⟩ := Fn.open_arg_slice (Fn.opens_slice 0 Try.underlying24 (by kernel_rfl) rfl (Fn.opens_int Try.underlying3)) rfl h2
  cases e2
  clear hA0 hval0 hsz0
  obtain ⟨k, hk⟩ := Pure.FnExactBishopsOf a0_0 a0_1 l0_2 a1 l2 hok0_0 hok0_1 hok0_2 w1 hok2
  refine (P.laws_FnExactBishopsOf.calls k a0_0 a0_1 _ _ l0_2 a1 _ _ l2 true W hC0_2 hc0_2 hC2 hc2 hk).mono fun e W' ⟨he, bel0⟩ => ?_
  have bel : Below W.heap.size W W' := bel0
  subst he
  exact ⟨_, rfl, _, _, _, [], _, [], hW', trodAll_mk1 (shut_bool Try.underlying4 _), (trodAll_cons_mk (Below.trod laidOut (by kernel_rfl) (of_decide_eq_true (by kernel_rfl)) k0 bel lt0) (trodAll_cons_mk (shut_int Try.underlying3 w1) (trodAll_cons_mk (Below.trod laidOut (by kernel_rfl) (of_decide_eq_true (by kernel_rfl)) k2 bel lt2) trodAll_mk0))), rfl, bel.frame _, fun h => by cases h⟩
theorem closed : joinedFacts Try.prog 7 Try.f7 Rows.fnExactBishopsOfSpec Rows.fnExactBishopsOfRow = true :=
  Head.joined_of _ _ _ _ _ (by kernel_rfl) (by kernel_rfl) (by kernel_rfl) (by kernel_rfl) (by kernel_rfl) (by kernel_rfl) (by kernel_rfl) (by kernel_rfl) (by kernel_rfl) (by kernel_rfl) (by kernel_rfl) (by kernel_rfl) (by kernel_rfl) (by kernel_rfl) (by kernel_rfl) (by kernel_rfl) (by kernel_rfl) (by kernel_rfl) (by kernel_rfl) (by kernel_rfl) (by kernel_rfl) (by kernel_rfl) (by kernel_rfl) (by kernel_rfl) (by kernel_rfl) Head.enter (Head.lifts_of _ Head.head_list) rfl (Head.mk_of _ Head.head_list) rfl (by kernel_rfl) (by kernel_rfl) (by kernel_rfl) (by kernel_rfl)
theorem over : Rows.fnExactBishopsOfRow.holds Try.pinned (OpenSpec.ofChange Rows.fnExactBishopsOfSpec) :=
  OpenClaim.holds_of_wide 7 Try.f7 rfl rfl rfl rfl rfl rfl rfl ⟨rfl, rfl, rfl, rfl, rfl⟩ rfl rfl rfl rfl rfl (by kernel_rfl) Try.func7 closed
    (of_decide_eq_true (by kernel_rfl)) (by unfold Func.isWrapper; first | (rw [if_pos (by decide +kernel)]; kernel_rfl) | (rw [if_neg (by decide +kernel)]; exact ⟨rfl, rfl⟩))
    (fun os started H enc _ => lifted os started H enc)
theorem proved : Rows.FnExactBishopsOfSaid := over
#print axioms proved
end Go.Proofs.Ytdoflpghemgbdaa.fnExactBishopsOf
namespace Go.Proofs.Ytdoflpghemgbdaa
/-- The row, under a short name, for the claim. -/
theorem fnExactBishopsOf_holds : Rows.FnExactBishopsOfSaid := fnExactBishopsOf.proved
end Go.Proofs.Ytdoflpghemgbdaa
