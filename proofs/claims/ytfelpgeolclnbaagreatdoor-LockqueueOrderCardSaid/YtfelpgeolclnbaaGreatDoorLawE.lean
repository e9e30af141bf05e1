/- The row of 'LockqueueOrder'. -/
import GoSem.ClaimSeven
import Derived.Test.YtfelpgeolclnbaaGreatDoorLawC
import Derived.Test.YtfelpgeolclnbaaGreatDoorLawD
namespace Go.Proofs.YtfelpgeolclnbaaGreatDoor.lockqueueOrder
open Go.ChangeShapes Go.WideShapes Go.ChangeAt Go.RowKit
set_option linter.unusedVariables false
theorem over : Rows.lockqueueOrderRow.holds Tryz.pinned (OpenSpec.ofChange Rows.lockqueueOrderSpec) :=
  OpenClaim.holds_of_wide 3 Tryz.f3 rfl rfl rfl rfl rfl rfl rfl ⟨rfl, rfl, rfl, rfl, rfl⟩ rfl rfl rfl rfl rfl (by kernel_rfl) Tryz.func3 closed
    (of_decide_eq_true (by kernel_rfl)) (by unfold Func.isWrapper; first | (rw [if_pos (by decide +kernel)]; kernel_rfl) | (rw [if_neg (by decide +kernel)]; exact ⟨rfl, rfl⟩))
    (fun os started H enc _ => lifted os started H enc)

theorem cW : Rows.lockqueueOrderRow.wfByText (OpenSpec.ofChange Rows.lockqueueOrderSpec) = true := by kernel_rfl
theorem cM : Tryz.prog.mainIs = some (true, "93f6b0c1d5a5d1245f8b64e19592478986eab5bbe2cbc9dc28f9d9b656114ef7".toList) := by kernel_rfl
theorem cL : false = Tryz.prog.looks [] := by kernel_rfl
theorem cS : ([22].all fun u => !Tryz.prog.wantsStandIn u) = true := by kernel_rfl
theorem cF : Tryz.prog.funcNamed Rows.lockqueueOrderRow.func = some 3 := by kernel_rfl
end Go.Proofs.YtfelpgeolclnbaaGreatDoor.lockqueueOrder
