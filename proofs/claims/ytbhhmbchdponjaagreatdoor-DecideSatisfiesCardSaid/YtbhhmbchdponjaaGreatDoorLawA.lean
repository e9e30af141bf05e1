/- Closed facts of the row of 'DecideSatisfies'. -/
import Derived.JoinedOf
import Derived.KernelRfl
import Derived.Test.YtbhhmbchdponjaaGreatDoorRows
namespace Go.Proofs.YtbhhmbchdponjaaGreatDoor.decideSatisfies
open Go
theorem jf9 : (Rows.decideSatisfiesRow.inPlace == Tryz.prog.inPlace 5) = true := by kernel_rfl
theorem jf10 : (Rows.decideSatisfiesRow.unfollowed == Tryz.prog.unfollowed 5) = true := by kernel_rfl
end Go.Proofs.YtbhhmbchdponjaaGreatDoor.decideSatisfies
