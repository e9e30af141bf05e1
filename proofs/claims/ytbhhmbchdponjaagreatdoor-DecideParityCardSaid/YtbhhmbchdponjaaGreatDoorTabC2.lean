/- Texts of the claim. -/
import Derived.KernelRfl
import Derived.Test.YtbhhmbchdponjaaGreatDoorProg
import Derived.Test.YtbhhmbchdponjaaGreatDoorTabA
namespace Go.Proofs.YtbhhmbchdponjaaGreatDoor
set_option linter.unusedVariables false
set_option linter.unusedSimpArgs false
open Go.RowKit
set_option maxHeartbeats 0
set_option maxRecDepth 1000000
theorem Yg:Hp Tryz.prog T8 (orR (orR (B7 213) (s8 x3)) (s8 Wk)) (i8 Tryz.prog) isC isB 100000 60 37 tA2=some tR2:=by kernel_rfl
end Go.Proofs.YtbhhmbchdponjaaGreatDoor
