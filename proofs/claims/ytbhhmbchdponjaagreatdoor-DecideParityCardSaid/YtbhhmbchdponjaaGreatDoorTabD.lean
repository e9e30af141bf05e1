/- Texts of the claim. -/
import Derived.KernelRfl
import Derived.Test.YtbhhmbchdponjaaGreatDoorProg
import Derived.Test.YtbhhmbchdponjaaGreatDoorTabA
namespace Go.Proofs.YtbhhmbchdponjaaGreatDoor
set_option linter.unusedVariables false
set_option linter.unusedSimpArgs false
open Go.RowKit
set_option maxHeartbeats 0
set_option maxRecDepth 1000000
theorem adm:Oq Tryz.prog abo (orR (orR (orR (B7 213) (s8 x3)) (s8 Wk)) (s8 I4)) (i8 Tryz.prog) isC isB isF 100000 60 6 []=some (.v (.bool true)):=by kernel_rfl
end Go.Proofs.YtbhhmbchdponjaaGreatDoor
