/- The row of 'FootprintCondition'. -/
import GoSem.ClaimSeven
import Derived.Test.YtfpfdfhlljjckaaGreatDoorConC
import Derived.Test.YtfpfdfhlljjckaaGreatDoorConD
namespace Go.Proofs.YtfpfdfhlljjckaaGreatDoor.footprintCondition
open Go.ChangeShapes Go.WideShapes Go.ChangeAt Go.RowKit
set_option linter.unusedVariables false
theorem over : Rows.footprintConditionRow.holds Tryz.pinned (OpenSpec.ofChange Rows.footprintConditionSpec) :=
  OpenClaim.holds_of_wide 4 Tryz.f4 rfl rfl rfl rfl rfl rfl rfl ⟨rfl, rfl, rfl, rfl, rfl⟩ rfl rfl rfl rfl rfl (by kernel_rfl) Tryz.func4 closed
    (of_decide_eq_true (by kernel_rfl)) (by unfold Func.isWrapper; first | (rw [if_pos (by decide +kernel)]; kernel_rfl) | (rw [if_neg (by decide +kernel)]; exact ⟨rfl, rfl⟩))
    (fun os started H enc _ => lifted os started H enc)

theorem cW : Rows.footprintConditionRow.wfByText (OpenSpec.ofChange Rows.footprintConditionSpec) = true := by kernel_rfl
theorem cM : Tryz.prog.mainIs = some (true, "a4e1061d7e8aa82193df116c679b993c929ad69c7c902ac426c0cb85d9742999".toList) := by kernel_rfl
theorem cL : false = Tryz.prog.looks [] := by kernel_rfl
theorem cS : ([92, 36].all fun u => !Tryz.prog.wantsStandIn u) = true := by kernel_rfl
theorem cF : Tryz.prog.funcNamed Rows.footprintConditionRow.func = some 4 := by kernel_rfl
end Go.Proofs.YtfpfdfhlljjckaaGreatDoor.footprintCondition
