/- Closed facts of the row of 'FootprintChanges'. -/
import Derived.JoinedOf
import Derived.KernelRfl
import Derived.Test.YthhgbpmjhkaeeaaGreatDoorRows
namespace Go.Proofs.YthhgbpmjhkaeeaaGreatDoor.footprintChanges
open Go
theorem jf11 : (Rows.footprintChangesRow.recurses == Tryz.prog.recurses 3) = true := by kernel_rfl
theorem jf12 : (Rows.footprintChangesRow.named == Tryz.prog.varsNamed 3) = true := by kernel_rfl
end Go.Proofs.YthhgbpmjhkaeeaaGreatDoor.footprintChanges
