/- Closed facts of the row of 'FootprintChanges'. -/
import Derived.JoinedOf
import Derived.KernelRfl
import Derived.Test.YthhgbpmjhkaeeaaGreatDoorRows
namespace Go.Proofs.YthhgbpmjhkaeeaaGreatDoor.footprintChanges
open Go
theorem jf9 : (Rows.footprintChangesRow.inPlace == Tryz.prog.inPlace 3) = true := by kernel_rfl
theorem jf10 : (Rows.footprintChangesRow.unfollowed == Tryz.prog.unfollowed 3) = true := by kernel_rfl
end Go.Proofs.YthhgbpmjhkaeeaaGreatDoor.footprintChanges
