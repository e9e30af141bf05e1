/- Texts of the claim. -/
import Derived.KernelRfl
import Derived.Test.YtbhhmbchdponjaaGreatDoorLT1
namespace Go.Proofs.YtbhhmbchdponjaaGreatDoor
set_option linter.unusedVariables false
set_option linter.unusedSimpArgs false
open Go.RowKit
set_option maxHeartbeats 0
set_option maxRecDepth 1000000
theorem e1s:PCe E1s:=ent [] trivial (by kernel_rfl)
theorem e11s:PCe E11s:=ent [] trivial (by kernel_rfl)
theorem e23s:PCe E23s:=ent [] trivial (by kernel_rfl)
theorem e32s:PCe E32s:=ent [] trivial (by kernel_rfl)
theorem e43s:PCe E43s:=ent [] trivial (by kernel_rfl)
theorem e55s:PCe E55s:=ent [] trivial (by kernel_rfl)
end Go.Proofs.YtbhhmbchdponjaaGreatDoor
