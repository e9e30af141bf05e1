/- Texts of the claim. -/
import Derived.KernelRfl
import Derived.Test.YtbhhmbchdponjaaGreatDoorLT1
namespace Go.Proofs.YtbhhmbchdponjaaGreatDoor
set_option linter.unusedVariables false
set_option linter.unusedSimpArgs false
open Go.RowKit
set_option maxHeartbeats 0
set_option maxRecDepth 1000000
theorem e2s:PCe E2s:=ent [] trivial (by kernel_rfl)
theorem e12s:PCe E12s:=ent [] trivial (by kernel_rfl)
theorem e24s:PCe E24s:=ent [] trivial (by kernel_rfl)
theorem e33s:PCe E33s:=ent [] trivial (by kernel_rfl)
theorem e45s:PCe E45s:=ent [] trivial (by kernel_rfl)
theorem e56s:PCe E56s:=ent [] trivial (by kernel_rfl)
end Go.Proofs.YtbhhmbchdponjaaGreatDoor
