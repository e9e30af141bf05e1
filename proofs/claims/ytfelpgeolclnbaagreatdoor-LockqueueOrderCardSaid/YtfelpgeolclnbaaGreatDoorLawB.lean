/- Closed facts of the row of 'LockqueueOrder'. -/
import Derived.JoinedOf
import Derived.KernelRfl
import Derived.Test.YtfelpgeolclnbaaGreatDoorRows
namespace Go.Proofs.YtfelpgeolclnbaaGreatDoor.lockqueueOrder
open Go
theorem jf11 : (Rows.lockqueueOrderRow.recurses == Tryz.prog.recurses 3) = true := by kernel_rfl
theorem jf12 : (Rows.lockqueueOrderRow.named == Tryz.prog.varsNamed 3) = true := by kernel_rfl
end Go.Proofs.YtfelpgeolclnbaaGreatDoor.lockqueueOrder
