/- 'FootprintConstraints': for every input the call returns true and leaves what was there as it was (the tables that the row lists are tied to the program's text). Conditions: none beyond the given row's own. -/
import Derived.Test.YthpangmpihkniaaGreatDoorCwE
import Derived.Test.YthpangmpihkniaaGreatDoorCwF
import Derived.LaidMore
import Derived.Stop.Joined
import Derived.SevenTiedAt
import Derived.Test.YthpangmpihkniaaGreatDoorCards
import Derived.Test.YthpangmpihkniaaGreatDoorTie
namespace Go.Proofs.YthpangmpihkniaaGreatDoor.footprintConstraints
open Go.ChangeShapes Go.WideShapes Go.ChangeAt Go.RowKit
set_option linter.unusedVariables false
/-- THE STATEMENT: the tied card -/
theorem proved : Rows.FootprintConstraintsCardSaid :=
  Claim7.holds_tied_plain_at .later [] [.data, .data, .data, .data] true (true, "1a195c0fd40c2e8bb0c79cb30892dfd1aee7dac057f30933eadd26fe91796826") false
    over (fun _ h => by cases h) cW (fun _ h => by cases h) footprintConstraints_row_tie rfl ⟨rfl, rfl⟩ cM rfl
    (fun f fn hf hfn => by
      obtain rfl : f = 4 := Option.some.inj (cF.symm.trans hf) |>.symm
      obtain rfl : fn = Tryz.f4 := (Option.some.inj (Tryz.func4.symm.trans hfn)).symm
      exact ⟨cL, fun j t ht => by
        rw [Tryz.params4] at ht
        have hm : t ∈ [23, 69, 26] := by simpa using Array.mem_of_getElem? ht
        exact (show Tryz.prog.wantsStandIn t = false by simpa using List.all_eq_true.1 cS t hm)⟩)
    cG
#print axioms proved
end Go.Proofs.YthpangmpihkniaaGreatDoor.footprintConstraints
