/- Closed facts of the row of 'BoxExactly'. -/
import Derived.JoinedOf
import Derived.KernelRfl
import Derived.Test.YtmbmbhkemgmhfaaGreatDoorRows
namespace Go.Proofs.YtmbmbhkemgmhfaaGreatDoor.boxExactly
open Go
theorem jf11 : (Rows.boxExactlyRow.recurses == Tryz.prog.recurses 3) = true := by kernel_rfl
theorem jf12 : (Rows.boxExactlyRow.named == Tryz.prog.varsNamed 3) = true := by kernel_rfl
end Go.Proofs.YtmbmbhkemgmhfaaGreatDoor.boxExactly
