/- Closed facts of the row of 'LockqueueOrder'. -/
import Derived.JoinedOf
import Derived.KernelRfl
import Derived.Test.YtfelpgeolclnbaaGreatDoorRows
namespace Go.Proofs.YtfelpgeolclnbaaGreatDoor.lockqueueOrder
open Go
theorem jf9 : (Rows.lockqueueOrderRow.inPlace == Tryz.prog.inPlace 3) = true := by kernel_rfl
theorem jf10 : (Rows.lockqueueOrderRow.unfollowed == Tryz.prog.unfollowed 3) = true := by kernel_rfl
end Go.Proofs.YtfelpgeolclnbaaGreatDoor.lockqueueOrder
