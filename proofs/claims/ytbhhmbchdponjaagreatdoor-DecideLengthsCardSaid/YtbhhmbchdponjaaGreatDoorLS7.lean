/- Texts of the claim. -/
import Derived.KernelRfl
import Derived.Test.YtbhhmbchdponjaaGreatDoorLT1
namespace Go.Proofs.YtbhhmbchdponjaaGreatDoor
set_option linter.unusedVariables false
set_option linter.unusedSimpArgs false
open Go.RowKit
set_option maxHeartbeats 0
set_option maxRecDepth 1000000
theorem e9s:PCe E9s:=ent [] trivial (by kernel_rfl)
theorem e19s:PCe E19s:=ent [] trivial (by kernel_rfl)
theorem e30s:PCe E30s:=ent [] trivial (by kernel_rfl)
theorem e40s:PCe E40s:=ent [] trivial (by kernel_rfl)
theorem e52s:PCe E52s:=ent [] trivial (by kernel_rfl)
end Go.Proofs.YtbhhmbchdponjaaGreatDoor
