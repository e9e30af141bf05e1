/- The row of 'PredicateValid'. -/
import GoSem.ClaimSeven
import Derived.Test.YtgknefkobpnjaaaGreatDoorLawC
import Derived.Test.YtgknefkobpnjaaaGreatDoorLawD
namespace Go.Proofs.YtgknefkobpnjaaaGreatDoor.predicateValid
open Go.ChangeShapes Go.WideShapes Go.ChangeAt Go.RowKit
set_option linter.unusedVariables false
theorem over : Rows.predicateValidRow.holds Tryz.pinned (OpenSpec.ofChange Rows.predicateValidSpec) :=
  OpenClaim.holds_of_wide 4 Tryz.f4 rfl rfl rfl rfl rfl rfl rfl ⟨rfl, rfl, rfl, rfl, rfl⟩ rfl rfl rfl rfl rfl (by kernel_rfl) Tryz.func4 closed
    (of_decide_eq_true (by kernel_rfl)) (by unfold Func.isWrapper; first | (rw [if_pos (by decide +kernel)]; kernel_rfl) | (rw [if_neg (by decide +kernel)]; exact ⟨rfl, rfl⟩))
    (fun os started H enc _ => lifted os started H enc)

theorem cW : Rows.predicateValidRow.wfByText (OpenSpec.ofChange Rows.predicateValidSpec) = true := by kernel_rfl
theorem cM : Tryz.prog.mainIs = some (true, "e03b3c750e293b45490f3108f79bf64eb8a8d729eb155adc250322a9616e2fc2".toList) := by kernel_rfl
theorem cL : false = Tryz.prog.looks [] := by kernel_rfl
theorem cS : ([25, 3].all fun u => !Tryz.prog.wantsStandIn u) = true := by kernel_rfl
theorem cF : Tryz.prog.funcNamed Rows.predicateValidRow.func = some 4 := by kernel_rfl
end Go.Proofs.YtgknefkobpnjaaaGreatDoor.predicateValid
