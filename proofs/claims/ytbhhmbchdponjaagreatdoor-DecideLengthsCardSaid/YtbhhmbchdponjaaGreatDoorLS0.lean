/- Texts of the claim. -/
import Derived.KernelRfl
import Derived.Test.YtbhhmbchdponjaaGreatDoorLT1
namespace Go.Proofs.YtbhhmbchdponjaaGreatDoor
set_option linter.unusedVariables false
set_option linter.unusedSimpArgs false
open Go.RowKit
set_option maxHeartbeats 0
set_option maxRecDepth 1000000
theorem e0s:PCe E0s:=ent [] trivial (by kernel_rfl)
theorem e10s:PCe E10s:=ent [] trivial (by kernel_rfl)
theorem e21s:PCe E21s:=ent [] trivial (by kernel_rfl)
theorem e31s:PCe E31s:=ent [] trivial (by kernel_rfl)
theorem e42s:PCe E42s:=ent [] trivial (by kernel_rfl)
theorem e53s:PCe E53s:=ent [] trivial (by kernel_rfl)
end Go.Proofs.YtbhhmbchdponjaaGreatDoor
