/- Closed facts of the row of 'PredicateValid'. -/
import Derived.JoinedOf
import Derived.KernelRfl
import Derived.Test.YtgknefkobpnjaaaGreatDoorRows
namespace Go.Proofs.YtgknefkobpnjaaaGreatDoor.predicateValid
open Go
theorem jf11 : (Rows.predicateValidRow.recurses == Tryz.prog.recurses 4) = true := by kernel_rfl
theorem jf12 : (Rows.predicateValidRow.named == Tryz.prog.varsNamed 4) = true := by kernel_rfl
end Go.Proofs.YtgknefkobpnjaaaGreatDoor.predicateValid
