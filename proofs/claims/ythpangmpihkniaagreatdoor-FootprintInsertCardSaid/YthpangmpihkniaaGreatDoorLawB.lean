/- Closed facts of the row of 'FootprintInsert'. -/
import Derived.JoinedOf
import Derived.KernelRfl
import Derived.Test.YthpangmpihkniaaGreatDoorRows
namespace Go.Proofs.YthpangmpihkniaaGreatDoor.footprintInsert
open Go
theorem jf11 : (Rows.footprintInsertRow.recurses == Tryz.prog.recurses 3) = true := by kernel_rfl
theorem jf12 : (Rows.footprintInsertRow.named == Tryz.prog.varsNamed 3) = true := by kernel_rfl
end Go.Proofs.YthpangmpihkniaaGreatDoor.footprintInsert
