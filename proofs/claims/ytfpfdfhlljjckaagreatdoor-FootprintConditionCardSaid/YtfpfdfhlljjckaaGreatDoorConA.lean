/- Closed facts of the row of 'FootprintCondition'. -/
import Derived.JoinedOf
import Derived.KernelRfl
import Derived.Test.YtfpfdfhlljjckaaGreatDoorRows
namespace Go.Proofs.YtfpfdfhlljjckaaGreatDoor.footprintCondition
open Go
theorem jf9 : (Rows.footprintConditionRow.inPlace == Tryz.prog.inPlace 4) = true := by kernel_rfl
theorem jf10 : (Rows.footprintConditionRow.unfollowed == Tryz.prog.unfollowed 4) = true := by kernel_rfl
end Go.Proofs.YtfpfdfhlljjckaaGreatDoor.footprintCondition
