/- The row of 'DecideLengths'. -/
import GoSem.ClaimSeven
import Derived.Test.YtbhhmbchdponjaaGreatDoorLawC
import Derived.Test.YtbhhmbchdponjaaGreatDoorLawD
namespace Go.Proofs.YtbhhmbchdponjaaGreatDoor.decideLengths
open Go.ChangeShapes Go.WideShapes Go.ChangeAt Go.RowKit
set_option linter.unusedVariables false
theorem over : Rows.decideLengthsRow.holds Tryz.pinned (OpenSpec.ofChange Rows.decideLengthsSpec) :=
  OpenClaim.holds_of_wide 4 Tryz.f4 rfl rfl rfl rfl rfl rfl rfl ⟨rfl, rfl, rfl, rfl, rfl⟩ rfl rfl rfl rfl rfl (by kernel_rfl) Tryz.func4 closed
    (of_decide_eq_true (by kernel_rfl)) (by unfold Func.isWrapper; first | (rw [if_pos (by decide +kernel)]; kernel_rfl) | (rw [if_neg (by decide +kernel)]; exact ⟨rfl, rfl⟩))
    (fun os started H enc _ => lifted os started H enc)

theorem cW : Rows.decideLengthsRow.wfByText (OpenSpec.ofChange Rows.decideLengthsSpec) = true := by kernel_rfl
theorem cM : Tryz.prog.mainIs = some (true, "85109e02712a6c7708e789ce10f8420ff76ca5c7864006c929939302d1bf4779".toList) := by kernel_rfl
theorem cL : false = Tryz.prog.looks [] := by kernel_rfl
theorem cS : ([5, 22].all fun u => !Tryz.prog.wantsStandIn u) = true := by kernel_rfl
theorem cF : Tryz.prog.funcNamed Rows.decideLengthsRow.func = some 4 := by kernel_rfl
end Go.Proofs.YtbhhmbchdponjaaGreatDoor.decideLengths
