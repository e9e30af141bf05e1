/- A closed fact of the card of 'BoxExactly'. -/
import Derived.SevenTiedAt
import Derived.KernelRfl
import GoSem.ClaimSeven
import Derived.Test.YtmbmbhkemgmhfaaGreatDoorRows
namespace Go.Proofs.YtmbmbhkemgmhfaaGreatDoor.boxExactly
open Go
theorem goes_none {P : Program} (h : P.funcs.any Func.goes = false) (c : OpenClaim) (hs : c.start = .entering) : false = c.goesBy P := by
  have hall : ∀ g : Nat, (P.funcs[g]?).any Func.goes = false := fun g => by
    cases hg : P.funcs[g]? with
    | none => rfl
    | some fn =>
      show Func.goes fn = false
      have := Array.any_eq_false'.1 h fn (Array.mem_of_getElem? hg)
      simpa using this
  unfold OpenClaim.goesBy Program.goesAt Program.goesFrom
  rw [hs]
  cases P.funcNamed c.func with
  | none => rfl
  | some f =>
    show false = (P.goes f || false)
    unfold Program.goes
    rw [h, Bool.and_false, Bool.or_false, Bool.or_false]
    symm
    rw [List.any_eq_false]
    intro g _
    rw [hall g]; decide
theorem cG : false = Rows.boxExactlyRow.goesBy Tryz.prog := goes_none (by kernel_rfl) _ rfl
end Go.Proofs.YtmbmbhkemgmhfaaGreatDoor.boxExactly
