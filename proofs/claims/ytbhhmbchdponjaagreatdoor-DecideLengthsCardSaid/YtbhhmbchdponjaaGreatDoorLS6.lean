/- Texts of the claim. -/
import Derived.KernelRfl
import Derived.Test.YtbhhmbchdponjaaGreatDoorLT1
namespace Go.Proofs.YtbhhmbchdponjaaGreatDoor
set_option linter.unusedVariables false
set_option linter.unusedSimpArgs false
open Go.RowKit
set_option maxHeartbeats 0
set_option maxRecDepth 1000000
theorem e8s:PCe E8s:=ent [] trivial (by kernel_rfl)
theorem e17s:PCe E17s:=ent [] trivial (by kernel_rfl)
theorem e28s:PCe E28s:=ent [] trivial (by kernel_rfl)
theorem e38s:PCe E38s:=ent [] trivial (by kernel_rfl)
theorem e51s:PCe E51s:=ent [] trivial (by kernel_rfl)
end Go.Proofs.YtbhhmbchdponjaaGreatDoor
