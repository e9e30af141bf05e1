/- 'DecideLengths': for every input the call returns true and leaves what was there as it was (the tables that the row lists are tied to the program's text). Conditions: none beyond the given row's own. -/
import Derived.Test.YtbhhmbchdponjaaGreatDoorLawE
import Derived.Test.YtbhhmbchdponjaaGreatDoorLawF
import Derived.LaidMore
import Derived.Stop.Joined
import Derived.SevenTiedAt
import Derived.Test.YtbhhmbchdponjaaGreatDoorCards
import Derived.Test.YtbhhmbchdponjaaGreatDoorTie
namespace Go.Proofs.YtbhhmbchdponjaaGreatDoor.decideLengths
open Go.ChangeShapes Go.WideShapes Go.ChangeAt Go.RowKit
set_option linter.unusedVariables false
/-- THE STATEMENT: the tied card -/
theorem proved : Rows.DecideLengthsCardSaid :=
  Claim7.holds_tied_plain_at .later [] [.data, .data, .data] true (true, "85109e02712a6c7708e789ce10f8420ff76ca5c7864006c929939302d1bf4779") false
    over (fun _ h => by cases h) cW (fun _ h => by cases h) decideLengths_row_tie rfl ⟨rfl, rfl⟩ cM rfl
    (fun f fn hf hfn => by
      obtain rfl : f = 4 := Option.some.inj (cF.symm.trans hf) |>.symm
      obtain rfl : fn = Tryz.f4 := (Option.some.inj (Tryz.func4.symm.trans hfn)).symm
      exact ⟨cL, fun j t ht => by
        rw [Tryz.params4] at ht
        have hm : t ∈ [5, 22] := by simpa using Array.mem_of_getElem? ht
        exact (show Tryz.prog.wantsStandIn t = false by simpa using List.all_eq_true.1 cS t hm)⟩)
    cG
#print axioms proved
end Go.Proofs.YtbhhmbchdponjaaGreatDoor.decideLengths
