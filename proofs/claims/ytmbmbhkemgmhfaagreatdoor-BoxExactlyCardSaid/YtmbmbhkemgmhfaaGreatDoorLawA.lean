/- Closed facts of the row of 'BoxExactly'. -/
import Derived.JoinedOf
import Derived.KernelRfl
import Derived.Test.YtmbmbhkemgmhfaaGreatDoorRows
namespace Go.Proofs.YtmbmbhkemgmhfaaGreatDoor.boxExactly
open Go
theorem jf9 : (Rows.boxExactlyRow.inPlace == Tryz.prog.inPlace 3) = true := by kernel_rfl
theorem jf10 : (Rows.boxExactlyRow.unfollowed == Tryz.prog.unfollowed 3) = true := by kernel_rfl
end Go.Proofs.YtmbmbhkemgmhfaaGreatDoor.boxExactly
