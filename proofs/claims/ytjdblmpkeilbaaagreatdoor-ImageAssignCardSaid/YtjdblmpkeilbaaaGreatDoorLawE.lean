/- The row of 'ImageAssign'. -/
import GoSem.ClaimSeven
import Derived.Test.YtjdblmpkeilbaaaGreatDoorLawC
import Derived.Test.YtjdblmpkeilbaaaGreatDoorLawD
namespace Go.Proofs.YtjdblmpkeilbaaaGreatDoor.imageAssign
open Go.ChangeShapes Go.WideShapes Go.ChangeAt Go.RowKit
set_option linter.unusedVariables false
theorem over : Rows.imageAssignRow.holds Tryz.pinned (OpenSpec.ofChange Rows.imageAssignSpec) :=
  OpenClaim.holds_of_wide 3 Tryz.f3 rfl rfl rfl rfl rfl rfl rfl ⟨rfl, rfl, rfl, rfl, rfl⟩ rfl rfl rfl rfl rfl (by kernel_rfl) Tryz.func3 closed
    (of_decide_eq_true (by kernel_rfl)) (by unfold Func.isWrapper; first | (rw [if_pos (by decide +kernel)]; kernel_rfl) | (rw [if_neg (by decide +kernel)]; exact ⟨rfl, rfl⟩))
    (fun os started H enc _ => lifted os started H enc)

theorem cW : Rows.imageAssignRow.wfByText (OpenSpec.ofChange Rows.imageAssignSpec) = true := by kernel_rfl
theorem cM : Tryz.prog.mainIs = some (true, "d6ea797931626703a8777787ccf945f7b18412ae3de4dcee92988862d6e4e2b4".toList) := by kernel_rfl
theorem cL : false = Tryz.prog.looks [] := by kernel_rfl
theorem cS : ([34, 36].all fun u => !Tryz.prog.wantsStandIn u) = true := by kernel_rfl
theorem cF : Tryz.prog.funcNamed Rows.imageAssignRow.func = some 3 := by kernel_rfl
end Go.Proofs.YtjdblmpkeilbaaaGreatDoor.imageAssign
