/- Closed facts of the row of 'DecideSatisfies'. -/
import Derived.JoinedOf
import Derived.KernelRfl
import Derived.Test.YtbhhmbchdponjaaGreatDoorRows
namespace Go.Proofs.YtbhhmbchdponjaaGreatDoor.decideSatisfies
open Go
theorem jf11 : (Rows.decideSatisfiesRow.recurses == Tryz.prog.recurses 5) = true := by kernel_rfl
theorem jf12 : (Rows.decideSatisfiesRow.named == Tryz.prog.varsNamed 5) = true := by kernel_rfl
end Go.Proofs.YtbhhmbchdponjaaGreatDoor.decideSatisfies
