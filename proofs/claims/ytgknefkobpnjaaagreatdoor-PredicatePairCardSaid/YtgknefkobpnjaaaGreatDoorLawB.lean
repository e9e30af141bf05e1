/- Closed facts of the row of 'PredicatePair'. -/
import Derived.JoinedOf
import Derived.KernelRfl
import Derived.Test.YtgknefkobpnjaaaGreatDoorRows
namespace Go.Proofs.YtgknefkobpnjaaaGreatDoor.predicatePair
open Go
theorem jf11 : (Rows.predicatePairRow.recurses == Tryz.prog.recurses 3) = true := by kernel_rfl
theorem jf12 : (Rows.predicatePairRow.named == Tryz.prog.varsNamed 3) = true := by kernel_rfl
end Go.Proofs.YtgknefkobpnjaaaGreatDoor.predicatePair
