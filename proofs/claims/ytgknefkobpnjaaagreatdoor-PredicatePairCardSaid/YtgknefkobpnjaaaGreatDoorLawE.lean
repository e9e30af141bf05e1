/- The row of 'PredicatePair'. -/
import GoSem.ClaimSeven
import Derived.Test.YtgknefkobpnjaaaGreatDoorLawC
import Derived.Test.YtgknefkobpnjaaaGreatDoorLawD
namespace Go.Proofs.YtgknefkobpnjaaaGreatDoor.predicatePair
open Go.ChangeShapes Go.WideShapes Go.ChangeAt Go.RowKit
set_option linter.unusedVariables false
theorem over : Rows.predicatePairRow.holds Tryz.pinned (OpenSpec.ofChange Rows.predicatePairSpec) :=
  OpenClaim.holds_of_wide 3 Tryz.f3 rfl rfl rfl rfl rfl rfl rfl ⟨rfl, rfl, rfl, rfl, rfl⟩ rfl rfl rfl rfl rfl (by kernel_rfl) Tryz.func3 closed
    (of_decide_eq_true (by kernel_rfl)) (by unfold Func.isWrapper; first | (rw [if_pos (by decide +kernel)]; kernel_rfl) | (rw [if_neg (by decide +kernel)]; exact ⟨rfl, rfl⟩))
    (fun os started H enc _ => lifted os started H enc)

theorem cW : Rows.predicatePairRow.wfByText (OpenSpec.ofChange Rows.predicatePairSpec) = true := by kernel_rfl
theorem cM : Tryz.prog.mainIs = some (true, "e03b3c750e293b45490f3108f79bf64eb8a8d729eb155adc250322a9616e2fc2".toList) := by kernel_rfl
theorem cL : false = Tryz.prog.looks [] := by kernel_rfl
theorem cS : ([25, 25, 26].all fun u => !Tryz.prog.wantsStandIn u) = true := by kernel_rfl
theorem cF : Tryz.prog.funcNamed Rows.predicatePairRow.func = some 3 := by kernel_rfl
end Go.Proofs.YtgknefkobpnjaaaGreatDoor.predicatePair
