/- Texts of the claim. -/
import Derived.KernelRfl
import Derived.Test.YtjdblmpkeilbaaaGreatDoorProg
import Derived.Test.YtjdblmpkeilbaaaGreatDoorTabA
namespace Go.Proofs.YtjdblmpkeilbaaaGreatDoor
set_option linter.unusedVariables false
set_option linter.unusedSimpArgs false
open Go.RowKit
set_option maxHeartbeats 0
set_option maxRecDepth 1000000
theorem awRun:runTZ Tryz.prog ovAll (orR (orR (orR (joinR 349) (findT tabBig)) (findT tabTop)) (findT tabTop2)) (extX3 Tryz.prog) isC isB isF 100000 60 4 []=some (.v (.bool true)):=by kernel_rfl
end Go.Proofs.YtjdblmpkeilbaaaGreatDoor
