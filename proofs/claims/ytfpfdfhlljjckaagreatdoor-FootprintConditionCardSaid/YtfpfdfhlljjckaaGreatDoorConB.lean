/- Closed facts of the row of 'FootprintCondition'. -/
import Derived.JoinedOf
import Derived.KernelRfl
import Derived.Test.YtfpfdfhlljjckaaGreatDoorRows
namespace Go.Proofs.YtfpfdfhlljjckaaGreatDoor.footprintCondition
open Go
theorem jf11 : (Rows.footprintConditionRow.recurses == Tryz.prog.recurses 4) = true := by kernel_rfl
theorem jf12 : (Rows.footprintConditionRow.named == Tryz.prog.varsNamed 4) = true := by kernel_rfl
end Go.Proofs.YtfpfdfhlljjckaaGreatDoor.footprintCondition
