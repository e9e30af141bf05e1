/- 'ImageAssign': for every input the call returns true and leaves what was there as it was (the tables that the row lists are tied to the program's text). Conditions: none beyond the given row's own. -/
import Derived.Test.YtjdblmpkeilbaaaGreatDoorLawE
import Derived.Test.YtjdblmpkeilbaaaGreatDoorLawF
import Derived.LaidMore
import Derived.Stop.Joined
import Derived.SevenTiedAt
import Derived.Test.YtjdblmpkeilbaaaGreatDoorCards
import Derived.Test.YtjdblmpkeilbaaaGreatDoorTie
namespace Go.Proofs.YtjdblmpkeilbaaaGreatDoor.imageAssign
open Go.ChangeShapes Go.WideShapes Go.ChangeAt Go.RowKit
set_option linter.unusedVariables false
/-- THE STATEMENT: the tied card -/
theorem proved : Rows.ImageAssignCardSaid :=
  Claim7.holds_tied_plain_at .later [] [.data, .data, .data] true (true, "d6ea797931626703a8777787ccf945f7b18412ae3de4dcee92988862d6e4e2b4") false
    over (fun _ h => by cases h) cW (fun _ h => by cases h) imageAssign_row_tie rfl ⟨rfl, rfl⟩ cM rfl
    (fun f fn hf hfn => by
      obtain rfl : f = 3 := Option.some.inj (cF.symm.trans hf) |>.symm
      obtain rfl : fn = Tryz.f3 := (Option.some.inj (Tryz.func3.symm.trans hfn)).symm
      exact ⟨cL, fun j t ht => by
        rw [Tryz.params3] at ht
        have hm : t ∈ [34, 36] := by simpa using Array.mem_of_getElem? ht
        exact (show Tryz.prog.wantsStandIn t = false by simpa using List.all_eq_true.1 cS t hm)⟩)
    cG
#print axioms proved
end Go.Proofs.YtjdblmpkeilbaaaGreatDoor.imageAssign
