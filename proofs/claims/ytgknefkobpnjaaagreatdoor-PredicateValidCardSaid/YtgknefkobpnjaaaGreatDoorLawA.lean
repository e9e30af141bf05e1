/- Closed facts of the row of 'PredicateValid'. -/
import Derived.JoinedOf
import Derived.KernelRfl
import Derived.Test.YtgknefkobpnjaaaGreatDoorRows
namespace Go.Proofs.YtgknefkobpnjaaaGreatDoor.predicateValid
open Go
theorem jf9 : (Rows.predicateValidRow.inPlace == Tryz.prog.inPlace 4) = true := by kernel_rfl
theorem jf10 : (Rows.predicateValidRow.unfollowed == Tryz.prog.unfollowed 4) = true := by kernel_rfl
end Go.Proofs.YtgknefkobpnjaaaGreatDoor.predicateValid
