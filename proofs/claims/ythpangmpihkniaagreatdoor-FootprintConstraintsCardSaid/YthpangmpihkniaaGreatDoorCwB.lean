/- Closed facts of the row of 'FootprintConstraints'. -/
import Derived.JoinedOf
import Derived.KernelRfl
import Derived.Test.YthpangmpihkniaaGreatDoorRows
namespace Go.Proofs.YthpangmpihkniaaGreatDoor.footprintConstraints
open Go
theorem jf11 : (Rows.footprintConstraintsRow.recurses == Tryz.prog.recurses 4) = true := by kernel_rfl
theorem jf12 : (Rows.footprintConstraintsRow.named == Tryz.prog.varsNamed 4) = true := by kernel_rfl
end Go.Proofs.YthpangmpihkniaaGreatDoor.footprintConstraints
