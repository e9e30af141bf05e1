/- The row of 'FootprintInsert'. -/
import GoSem.ClaimSeven
import Derived.Test.YthpangmpihkniaaGreatDoorLawC
import Derived.Test.YthpangmpihkniaaGreatDoorLawD
namespace Go.Proofs.YthpangmpihkniaaGreatDoor.footprintInsert
open Go.ChangeShapes Go.WideShapes Go.ChangeAt Go.RowKit
set_option linter.unusedVariables false
theorem over : Rows.footprintInsertRow.holds Tryz.pinned (OpenSpec.ofChange Rows.footprintInsertSpec) :=
  OpenClaim.holds_of_wide 3 Tryz.f3 rfl rfl rfl rfl rfl rfl rfl ⟨rfl, rfl, rfl, rfl, rfl⟩ rfl rfl rfl rfl rfl (by kernel_rfl) Tryz.func3 closed
    (of_decide_eq_true (by kernel_rfl)) (by unfold Func.isWrapper; first | (rw [if_pos (by decide +kernel)]; kernel_rfl) | (rw [if_neg (by decide +kernel)]; exact ⟨rfl, rfl⟩))
    (fun os started H enc _ => lifted os started H enc)

theorem cW : Rows.footprintInsertRow.wfByText (OpenSpec.ofChange Rows.footprintInsertSpec) = true := by kernel_rfl
theorem cM : Tryz.prog.mainIs = some (true, "1a195c0fd40c2e8bb0c79cb30892dfd1aee7dac057f30933eadd26fe91796826".toList) := by kernel_rfl
theorem cL : false = Tryz.prog.looks [] := by kernel_rfl
theorem cS : ([23, 24, 26].all fun u => !Tryz.prog.wantsStandIn u) = true := by kernel_rfl
theorem cF : Tryz.prog.funcNamed Rows.footprintInsertRow.func = some 3 := by kernel_rfl
end Go.Proofs.YthpangmpihkniaaGreatDoor.footprintInsert
