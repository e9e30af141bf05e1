/- Closed facts of the row of 'FootprintConstraints'. -/
import Derived.JoinedOf
import Derived.KernelRfl
import Derived.Test.YthpangmpihkniaaGreatDoorRows
namespace Go.Proofs.YthpangmpihkniaaGreatDoor.footprintConstraints
open Go
theorem jf9 : (Rows.footprintConstraintsRow.inPlace == Tryz.prog.inPlace 4) = true := by kernel_rfl
theorem jf10 : (Rows.footprintConstraintsRow.unfollowed == Tryz.prog.unfollowed 4) = true := by kernel_rfl
end Go.Proofs.YthpangmpihkniaaGreatDoor.footprintConstraints
