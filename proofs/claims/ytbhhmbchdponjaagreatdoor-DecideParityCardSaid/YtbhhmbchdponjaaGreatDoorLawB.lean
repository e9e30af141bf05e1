/- Closed facts of the row of 'DecideParity'. -/
import Derived.JoinedOf
import Derived.KernelRfl
import Derived.Test.YtbhhmbchdponjaaGreatDoorRows
namespace Go.Proofs.YtbhhmbchdponjaaGreatDoor.decideParity
open Go
theorem jf11 : (Rows.decideParityRow.recurses == Tryz.prog.recurses 3) = true := by kernel_rfl
theorem jf12 : (Rows.decideParityRow.named == Tryz.prog.varsNamed 3) = true := by kernel_rfl
end Go.Proofs.YtbhhmbchdponjaaGreatDoor.decideParity
