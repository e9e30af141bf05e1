/- Closed facts of the row of 'ImageAssign'. -/
import Derived.JoinedOf
import Derived.KernelRfl
import Derived.Test.YtjdblmpkeilbaaaGreatDoorRows
namespace Go.Proofs.YtjdblmpkeilbaaaGreatDoor.imageAssign
open Go
theorem jf11 : (Rows.imageAssignRow.recurses == Tryz.prog.recurses 3) = true := by kernel_rfl
theorem jf12 : (Rows.imageAssignRow.named == Tryz.prog.varsNamed 3) = true := by kernel_rfl
end Go.Proofs.YtjdblmpkeilbaaaGreatDoor.imageAssign
