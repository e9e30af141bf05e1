/- Texts of the claim. -/
import Derived.KernelRfl
import Derived.Test.YtbhhmbchdponjaaGreatDoorLT1
namespace Go.Proofs.YtbhhmbchdponjaaGreatDoor
set_option linter.unusedVariables false
set_option linter.unusedSimpArgs false
open Go.RowKit
set_option maxHeartbeats 0
set_option maxRecDepth 1000000
theorem e5s:PCe E5s:=ent [] trivial (by kernel_rfl)
theorem e15s:PCe E15s:=ent [] trivial (by kernel_rfl)
theorem e26s:PCe E26s:=ent [] trivial (by kernel_rfl)
theorem e36s:PCe E36s:=ent [] trivial (by kernel_rfl)
theorem e48s:PCe E48s:=ent [] trivial (by kernel_rfl)
end Go.Proofs.YtbhhmbchdponjaaGreatDoor
