/- Texts of the claim. -/
import Derived.KernelRfl
import Derived.Test.YtjdblmpkeilbaaaGreatDoorProg
import Derived.Test.YtjdblmpkeilbaaaGreatDoorTabA
namespace Go.Proofs.YtjdblmpkeilbaaaGreatDoor
set_option linter.unusedVariables false
set_option linter.unusedSimpArgs false
open Go.RowKit
set_option maxHeartbeats 0
set_option maxRecDepth 1000000
theorem great2:runTG Tryz.prog ovBig (orR (joinR 349) (findT tabBig)) (extX3 Tryz.prog) isC isB 100000 60 202 tA2=some tR2:=by kernel_rfl
end Go.Proofs.YtjdblmpkeilbaaaGreatDoor
