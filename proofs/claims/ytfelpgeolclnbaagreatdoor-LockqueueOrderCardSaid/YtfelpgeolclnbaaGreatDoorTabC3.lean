/- Texts of the claim. -/
import Derived.KernelRfl
import Derived.Test.YtfelpgeolclnbaaGreatDoorProg
import Derived.Test.YtfelpgeolclnbaaGreatDoorTabA
namespace Go.Proofs.YtfelpgeolclnbaaGreatDoor
set_option linter.unusedVariables false
set_option linter.unusedSimpArgs false
open Go.RowKit
set_option maxHeartbeats 0
set_option maxRecDepth 1000000
theorem great3:runTG Tryz.prog ovBig (orR (joinR 253) (findT tabBig)) (extX3 Tryz.prog) isC isB 100000 60 68 tA3=some tR3:=by kernel_rfl
end Go.Proofs.YtfelpgeolclnbaaGreatDoor
