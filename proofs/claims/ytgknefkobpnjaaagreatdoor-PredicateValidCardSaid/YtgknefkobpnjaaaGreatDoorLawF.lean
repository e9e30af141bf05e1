/- A closed fact of the card of 'PredicateValid'. -/
import Derived.SevenTiedAt
import Derived.KernelRfl
import GoSem.ClaimSeven
import Derived.Test.YtgknefkobpnjaaaGreatDoorRows
namespace Go.Proofs.YtgknefkobpnjaaaGreatDoor.predicateValid
open Go
theorem cG : false = Rows.predicateValidRow.goesBy Tryz.prog := by kernel_rfl
end Go.Proofs.YtgknefkobpnjaaaGreatDoor.predicateValid
