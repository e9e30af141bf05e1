/- Closed facts of the row of 'PredicatePair'. -/
import Derived.JoinedOf
import Derived.KernelRfl
import Derived.Test.YtgknefkobpnjaaaGreatDoorRows
namespace Go.Proofs.YtgknefkobpnjaaaGreatDoor.predicatePair
open Go
theorem jf9 : (Rows.predicatePairRow.inPlace == Tryz.prog.inPlace 3) = true := by kernel_rfl
theorem jf10 : (Rows.predicatePairRow.unfollowed == Tryz.prog.unfollowed 3) = true := by kernel_rfl
end Go.Proofs.YtgknefkobpnjaaaGreatDoor.predicatePair
