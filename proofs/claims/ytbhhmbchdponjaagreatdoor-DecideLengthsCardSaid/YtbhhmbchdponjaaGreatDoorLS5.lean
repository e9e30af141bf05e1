/- Texts of the claim. -/
import Derived.KernelRfl
import Derived.Test.YtbhhmbchdponjaaGreatDoorLT1
namespace Go.Proofs.YtbhhmbchdponjaaGreatDoor
set_option linter.unusedVariables false
set_option linter.unusedSimpArgs false
open Go.RowKit
set_option maxHeartbeats 0
set_option maxRecDepth 1000000
theorem e7s:PCe E7s:=ent [] trivial (by kernel_rfl)
theorem e16s:PCe E16s:=ent [] trivial (by kernel_rfl)
theorem e27s:PCe E27s:=ent [] trivial (by kernel_rfl)
theorem e37s:PCe E37s:=ent [] trivial (by kernel_rfl)
theorem e49s:PCe E49s:=ent [] trivial (by kernel_rfl)
end Go.Proofs.YtbhhmbchdponjaaGreatDoor
