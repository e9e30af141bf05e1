/- A closed fact of the card of 'PredicatePair'. -/
import Derived.SevenTiedAt
import Derived.KernelRfl
import GoSem.ClaimSeven
import Derived.Test.YtgknefkobpnjaaaGreatDoorRows
namespace Go.Proofs.YtgknefkobpnjaaaGreatDoor.predicatePair
open Go
theorem cG : false = Rows.predicatePairRow.goesBy Tryz.prog := by kernel_rfl
end Go.Proofs.YtgknefkobpnjaaaGreatDoor.predicatePair
