/- Closed facts of the row of 'DecideLengths'. -/
import Derived.JoinedOf
import Derived.KernelRfl
import Derived.Test.YtbhhmbchdponjaaGreatDoorRows
namespace Go.Proofs.YtbhhmbchdponjaaGreatDoor.decideLengths
open Go
theorem jf11 : (Rows.decideLengthsRow.recurses == Tryz.prog.recurses 4) = true := by kernel_rfl
theorem jf12 : (Rows.decideLengthsRow.named == Tryz.prog.varsNamed 4) = true := by kernel_rfl
end Go.Proofs.YtbhhmbchdponjaaGreatDoor.decideLengths
