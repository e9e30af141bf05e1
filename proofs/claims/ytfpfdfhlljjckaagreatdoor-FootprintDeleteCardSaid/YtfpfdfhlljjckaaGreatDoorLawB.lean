/- Closed facts of the row of 'FootprintDelete'. -/
import Derived.JoinedOf
import Derived.KernelRfl
import Derived.Test.YtfpfdfhlljjckaaGreatDoorRows
namespace Go.Proofs.YtfpfdfhlljjckaaGreatDoor.footprintDelete
open Go
theorem jf11 : (Rows.footprintDeleteRow.recurses == Tryz.prog.recurses 3) = true := by kernel_rfl
theorem jf12 : (Rows.footprintDeleteRow.named == Tryz.prog.varsNamed 3) = true := by kernel_rfl
end Go.Proofs.YtfpfdfhlljjckaaGreatDoor.footprintDelete
