/- 'FootprintChanges': for every input the call returns true and leaves what was there as it was (the tables that the row lists are tied to the program's text). Conditions: none beyond the given row's own. -/
import Derived.Test.YthhgbpmjhkaeeaaGreatDoorLawE
import Derived.Test.YthhgbpmjhkaeeaaGreatDoorLawF
import Derived.LaidMore
import Derived.Stop.Joined
import Derived.SevenTiedAt
import Derived.Test.YthhgbpmjhkaeeaaGreatDoorCards
import Derived.Test.YthhgbpmjhkaeeaaGreatDoorTie
namespace Go.Proofs.YthhgbpmjhkaeeaaGreatDoor.footprintChanges
open Go.ChangeShapes Go.WideShapes Go.ChangeAt Go.RowKit
set_option linter.unusedVariables false
/-- THE STATEMENT: the tied card -/
theorem proved : Rows.FootprintChangesCardSaid :=
  Claim7.holds_tied_plain_at .later [] [.data, .data, .data, .data] true (true, "1f1e8d1f00c3a4574ab21c2e79145baab3ee769e82d725003775925a01c2c9db") false
    over (fun _ h => by cases h) cW (fun _ h => by cases h) footprintChanges_row_tie rfl ⟨rfl, rfl⟩ cM rfl
    (fun f fn hf hfn => by
      obtain rfl : f = 3 := Option.some.inj (cF.symm.trans hf) |>.symm
      obtain rfl : fn = Tryz.f3 := (Option.some.inj (Tryz.func3.symm.trans hfn)).symm
      exact ⟨cL, fun j t ht => by
        rw [Tryz.params3] at ht
        have hm : t ∈ [23, 24, 26] := by simpa using Array.mem_of_getElem? ht
        exact (show Tryz.prog.wantsStandIn t = false by simpa using List.all_eq_true.1 cS t hm)⟩)
    cG
#print axioms proved
end Go.Proofs.YthhgbpmjhkaeeaaGreatDoor.footprintChanges
