/- Closed facts of the row of 'ImageAssign'. -/
import Derived.JoinedOf
import Derived.KernelRfl
import Derived.Test.YtjdblmpkeilbaaaGreatDoorRows
namespace Go.Proofs.YtjdblmpkeilbaaaGreatDoor.imageAssign
open Go
theorem jf9 : (Rows.imageAssignRow.inPlace == Tryz.prog.inPlace 3) = true := by kernel_rfl
theorem jf10 : (Rows.imageAssignRow.unfollowed == Tryz.prog.unfollowed 3) = true := by kernel_rfl
end Go.Proofs.YtjdblmpkeilbaaaGreatDoor.imageAssign
