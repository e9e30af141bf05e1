/- The row of 'FootprintChanges'. -/
import GoSem.ClaimSeven
import Derived.Test.YthhgbpmjhkaeeaaGreatDoorLawC
import Derived.Test.YthhgbpmjhkaeeaaGreatDoorLawD
namespace Go.Proofs.YthhgbpmjhkaeeaaGreatDoor.footprintChanges
open Go.ChangeShapes Go.WideShapes Go.ChangeAt Go.RowKit
set_option linter.unusedVariables false
theorem over : Rows.footprintChangesRow.holds Tryz.pinned (OpenSpec.ofChange Rows.footprintChangesSpec) :=
  OpenClaim.holds_of_wide 3 Tryz.f3 rfl rfl rfl rfl rfl rfl rfl ⟨rfl, rfl, rfl, rfl, rfl⟩ rfl rfl rfl rfl rfl (by kernel_rfl) Tryz.func3 closed
    (of_decide_eq_true (by kernel_rfl)) (by unfold Func.isWrapper; first | (rw [if_pos (by decide +kernel)]; kernel_rfl) | (rw [if_neg (by decide +kernel)]; exact ⟨rfl, rfl⟩))
    (fun os started H enc _ => lifted os started H enc)

theorem cW : Rows.footprintChangesRow.wfByText (OpenSpec.ofChange Rows.footprintChangesSpec) = true := by kernel_rfl
theorem cM : Tryz.prog.mainIs = some (true, "1f1e8d1f00c3a4574ab21c2e79145baab3ee769e82d725003775925a01c2c9db".toList) := by kernel_rfl
theorem cL : false = Tryz.prog.looks [] := by kernel_rfl
theorem cS : ([23, 24, 26].all fun u => !Tryz.prog.wantsStandIn u) = true := by kernel_rfl
theorem cF : Tryz.prog.funcNamed Rows.footprintChangesRow.func = some 3 := by kernel_rfl
end Go.Proofs.YthhgbpmjhkaeeaaGreatDoor.footprintChanges
