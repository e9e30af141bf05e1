/- Closed facts of the row of 'FootprintInsert'. -/
import Derived.JoinedOf
import Derived.KernelRfl
import Derived.Test.YthpangmpihkniaaGreatDoorRows
namespace Go.Proofs.YthpangmpihkniaaGreatDoor.footprintInsert
open Go
theorem jf9 : (Rows.footprintInsertRow.inPlace == Tryz.prog.inPlace 3) = true := by kernel_rfl
theorem jf10 : (Rows.footprintInsertRow.unfollowed == Tryz.prog.unfollowed 3) = true := by kernel_rfl
end Go.Proofs.YthpangmpihkniaaGreatDoor.footprintInsert
