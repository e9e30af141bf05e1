/- Closed facts of the row of 'DecideParity'. -/
import Derived.JoinedOf
import Derived.KernelRfl
import Derived.Test.YtbhhmbchdponjaaGreatDoorRows
namespace Go.Proofs.YtbhhmbchdponjaaGreatDoor.decideParity
open Go
theorem jf9 : (Rows.decideParityRow.inPlace == Tryz.prog.inPlace 3) = true := by kernel_rfl
theorem jf10 : (Rows.decideParityRow.unfollowed == Tryz.prog.unfollowed 3) = true := by kernel_rfl
end Go.Proofs.YtbhhmbchdponjaaGreatDoor.decideParity
