/- A closed fact of the card of 'LockqueueOrder'. -/
import Derived.SevenTiedAt
import Derived.KernelRfl
import GoSem.ClaimSeven
import Derived.Test.YtfelpgeolclnbaaGreatDoorRows
namespace Go.Proofs.YtfelpgeolclnbaaGreatDoor.lockqueueOrder
open Go
theorem cG : false = Rows.lockqueueOrderRow.goesBy Tryz.prog := by kernel_rfl
end Go.Proofs.YtfelpgeolclnbaaGreatDoor.lockqueueOrder
