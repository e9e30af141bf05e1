/- The row of 'FootprintDelete'. -/
import GoSem.ClaimSeven
import Derived.Test.YtfpfdfhlljjckaaGreatDoorLawC
import Derived.Test.YtfpfdfhlljjckaaGreatDoorLawD
namespace Go.Proofs.YtfpfdfhlljjckaaGreatDoor.footprintDelete
open Go.ChangeShapes Go.WideShapes Go.ChangeAt Go.RowKit
set_option linter.unusedVariables false
theorem over : Rows.footprintDeleteRow.holds Tryz.pinned (OpenSpec.ofChange Rows.footprintDeleteSpec) :=
  OpenClaim.holds_of_wide 3 Tryz.f3 rfl rfl rfl rfl rfl rfl rfl ⟨rfl, rfl, rfl, rfl, rfl⟩ rfl rfl rfl rfl rfl (by kernel_rfl) Tryz.func3 closed
    (of_decide_eq_true (by kernel_rfl)) (by unfold Func.isWrapper; first | (rw [if_pos (by decide +kernel)]; kernel_rfl) | (rw [if_neg (by decide +kernel)]; exact ⟨rfl, rfl⟩))
    (fun os started H enc _ => lifted os started H enc)

theorem cW : Rows.footprintDeleteRow.wfByText (OpenSpec.ofChange Rows.footprintDeleteSpec) = true := by kernel_rfl
theorem cM : Tryz.prog.mainIs = some (true, "a4e1061d7e8aa82193df116c679b993c929ad69c7c902ac426c0cb85d9742999".toList) := by kernel_rfl
theorem cL : false = Tryz.prog.looks [] := by kernel_rfl
theorem cS : ([34, 36, 36].all fun u => !Tryz.prog.wantsStandIn u) = true := by kernel_rfl
theorem cF : Tryz.prog.funcNamed Rows.footprintDeleteRow.func = some 3 := by kernel_rfl
end Go.Proofs.YtfpfdfhlljjckaaGreatDoor.footprintDelete
