-- printed by wip/hprint.py of this session (the kit's print.py, patched in memory)
import Derived.Test.YtnpacpdpgngdpaaPx0
import Derived.Test.YtnpacpdpgngdpaaPx3
namespace Go.Proofs.Ytnpacpdpgngdpaa.P
noncomputable section
set_option maxHeartbeats 8000000
set_option maxRecDepth 100000
open Go.RowKit Go.Proofs.YtnpacpdpgngdpaaW.PrintWords Go.Proofs.YtnpacpdpgngdpaaW.PrintLast Go.Proofs.YtnpacpdpgngdpaaW.PrintMore
attribute [local go_sem] max2_int min2_int max_two min_two max_three min_three max_four min_four   -- for this text's walks alone
set_option linter.unusedVariables false
set_option linter.unusedSimpArgs false

/-! ### spec_boSide: function 230 -/
def spec_boSide.f (a0 : Int) : Option (Bool) := (spec_l1In.f a0 1 6).bind fun t105 => (some t105)
theorem spec_boSide.calls (a0 : Int) (r : Bool) (w : World) (h : spec_boSide.f a0 = some r) :
  Calls Try.prog 230 #[.int .i64 a0] w fun e w' => e = .returned (.bool r) ∧ Drawn0 w w' := by
 have H : ((spec_l1In.f a0 1 6).bind fun t105 => (some t105)) = some r := h
 clear h
 replace H := Option.bind_eq_some_iff.mp H
 obtain ⟨t105, A20, H⟩ := H
 replace H : (some t105) = some r := H
 have A2 := A_ A20
 clear A20
 obtain rfl := Option.some.inj H
 go_enter Try.func230, Try.ntmps230
 go_wp2_with (first | (refine gc_ 137 ?_; refine goesT_ (some 4) Try.func137 #[.int .i64 a0, .int .i64 1, .int .i64 6] ?_; (with_reducible refine (spec_l1In.calls a0 1 6 t105 _ A2.out).mono ?_); rintro e w' ⟨rfl, ⟨nd, rfl⟩⟩; refine ⟨_, rfl, ?_⟩))
 go_ret
 exact ⟨tf_, dr_⟩

end
end Go.Proofs.Ytnpacpdpgngdpaa.P
