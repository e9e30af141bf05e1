/- Texts of the claim. -/
import Derived.KernelRfl
import Derived.Test.YtbhhmbchdponjaaGreatDoorProg
import Derived.Test.YtbhhmbchdponjaaGreatDoorTabA
namespace Go.Proofs.YtbhhmbchdponjaaGreatDoor
set_option linter.unusedVariables false
set_option linter.unusedSimpArgs false
open Go.RowKit
set_option maxHeartbeats 0
set_option maxRecDepth 1000000
theorem Zc:aae (Hp Tryz.prog ovJ (B7 213) (i8 Tryz.prog) isC isB 100000 60) x3=true:=by kernel_rfl
end Go.Proofs.YtbhhmbchdponjaaGreatDoor
