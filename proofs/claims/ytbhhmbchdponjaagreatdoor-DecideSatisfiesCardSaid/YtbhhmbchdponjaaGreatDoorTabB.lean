/- Texts of the claim. -/
import Derived.KernelRfl
import Derived.Test.YtbhhmbchdponjaaGreatDoorProg
import Derived.Test.YtbhhmbchdponjaaGreatDoorTabA
namespace Go.Proofs.YtbhhmbchdponjaaGreatDoor
set_option linter.unusedVariables false
set_option linter.unusedSimpArgs false
open Go.RowKit
set_option maxHeartbeats 0
set_option maxRecDepth 1000000
theorem chkBig:chkT (runTG Tryz.prog ovJ (joinR 213) (extX4 Tryz.prog) isC isB 100000 60) tabBig=true:=by kernel_rfl
end Go.Proofs.YtbhhmbchdponjaaGreatDoor
