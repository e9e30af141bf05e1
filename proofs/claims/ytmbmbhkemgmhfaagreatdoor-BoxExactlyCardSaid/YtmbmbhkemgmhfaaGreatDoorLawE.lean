/- The row of 'BoxExactly'. -/
import GoSem.ClaimSeven
import Derived.Test.YtmbmbhkemgmhfaaGreatDoorLawC
import Derived.Test.YtmbmbhkemgmhfaaGreatDoorLawD
namespace Go.Proofs.YtmbmbhkemgmhfaaGreatDoor.boxExactly
open Go.ChangeShapes Go.WideShapes Go.ChangeAt Go.RowKit
set_option linter.unusedVariables false
theorem over : Rows.boxExactlyRow.holds Tryz.pinned (OpenSpec.ofChange Rows.boxExactlySpec) :=
  OpenClaim.holds_of_wide 3 Tryz.f3 rfl rfl rfl rfl rfl rfl rfl ⟨rfl, rfl, rfl, rfl, rfl⟩ rfl rfl rfl rfl rfl (by kernel_rfl) Tryz.func3 closed
    (of_decide_eq_true (by kernel_rfl)) (by unfold Func.isWrapper; first | (rw [if_pos (by decide +kernel)]; kernel_rfl) | (rw [if_neg (by decide +kernel)]; exact ⟨rfl, rfl⟩))
    (fun os started H enc _ => lifted os started H enc)

theorem cW : Rows.boxExactlyRow.wfByText (OpenSpec.ofChange Rows.boxExactlySpec) = true := by kernel_rfl
theorem cM : Tryz.prog.mainIs = some (true, "4977111710393e33cd8a631385167b5aa402c40d776f227c0787e588756e8072".toList) := by kernel_rfl
theorem cL : false = Tryz.prog.looks [] := by kernel_rfl
theorem cS : ([3, 22, 24].all fun u => !Tryz.prog.wantsStandIn u) = true := by kernel_rfl
theorem cF : Tryz.prog.funcNamed Rows.boxExactlyRow.func = some 3 := by kernel_rfl
end Go.Proofs.YtmbmbhkemgmhfaaGreatDoor.boxExactly
