/- The row of 'FootprintConstraints'. -/
import GoSem.ClaimSeven
import Derived.Test.YthpangmpihkniaaGreatDoorCwC
import Derived.Test.YthpangmpihkniaaGreatDoorCwD
namespace Go.Proofs.YthpangmpihkniaaGreatDoor.footprintConstraints
open Go.ChangeShapes Go.WideShapes Go.ChangeAt Go.RowKit
set_option linter.unusedVariables false
theorem over : Rows.footprintConstraintsRow.holds Tryz.pinned (OpenSpec.ofChange Rows.footprintConstraintsSpec) :=
  OpenClaim.holds_of_wide 4 Tryz.f4 rfl rfl rfl rfl rfl rfl rfl ⟨rfl, rfl, rfl, rfl, rfl⟩ rfl rfl rfl rfl rfl (by kernel_rfl) Tryz.func4 closed
    (of_decide_eq_true (by kernel_rfl)) (by unfold Func.isWrapper; first | (rw [if_pos (by decide +kernel)]; kernel_rfl) | (rw [if_neg (by decide +kernel)]; exact ⟨rfl, rfl⟩))
    (fun os started H enc _ => lifted os started H enc)

theorem cW : Rows.footprintConstraintsRow.wfByText (OpenSpec.ofChange Rows.footprintConstraintsSpec) = true := by kernel_rfl
theorem cM : Tryz.prog.mainIs = some (true, "1a195c0fd40c2e8bb0c79cb30892dfd1aee7dac057f30933eadd26fe91796826".toList) := by kernel_rfl
theorem cL : false = Tryz.prog.looks [] := by kernel_rfl
theorem cS : ([23, 69, 26].all fun u => !Tryz.prog.wantsStandIn u) = true := by kernel_rfl
theorem cF : Tryz.prog.funcNamed Rows.footprintConstraintsRow.func = some 4 := by kernel_rfl
end Go.Proofs.YthpangmpihkniaaGreatDoor.footprintConstraints
