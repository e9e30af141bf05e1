/- Texts of the claim. -/
import Derived.KernelRfl
import Derived.Test.YtbhhmbchdponjaaGreatDoorLT1
namespace Go.Proofs.YtbhhmbchdponjaaGreatDoor
set_option linter.unusedVariables false
set_option linter.unusedSimpArgs false
open Go.RowKit
set_option maxHeartbeats 0
set_option maxRecDepth 1000000
theorem e3s:PCe E3s:=ent [] trivial (by kernel_rfl)
theorem e14s:PCe E14s:=ent [] trivial (by kernel_rfl)
theorem e25s:PCe E25s:=ent [] trivial (by kernel_rfl)
theorem e34s:PCe E34s:=ent [] trivial (by kernel_rfl)
theorem e47s:PCe E47s:=ent [] trivial (by kernel_rfl)
theorem e58s:PCe E58s:=ent [] trivial (by kernel_rfl)
end Go.Proofs.YtbhhmbchdponjaaGreatDoor
