/- Closed facts of the row of 'FootprintDelete'. -/
import Derived.JoinedOf
import Derived.KernelRfl
import Derived.Test.YtfpfdfhlljjckaaGreatDoorRows
namespace Go.Proofs.YtfpfdfhlljjckaaGreatDoor.footprintDelete
open Go
theorem jf9 : (Rows.footprintDeleteRow.inPlace == Tryz.prog.inPlace 3) = true := by kernel_rfl
theorem jf10 : (Rows.footprintDeleteRow.unfollowed == Tryz.prog.unfollowed 3) = true := by kernel_rfl
end Go.Proofs.YtfpfdfhlljjckaaGreatDoor.footprintDelete
