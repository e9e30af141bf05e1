/- 'FootprintCondition': for every input the call returns true and leaves what was there as it was (the tables that the row lists are tied to the program's text). Conditions: none beyond the given row's own. -/
import Derived.Test.YtfpfdfhlljjckaaGreatDoorConE
import Derived.Test.YtfpfdfhlljjckaaGreatDoorConF
import Derived.LaidMore
import Derived.Stop.Joined
import Derived.SevenTiedAt
import Derived.Test.YtfpfdfhlljjckaaGreatDoorCards
import Derived.Test.YtfpfdfhlljjckaaGreatDoorTie
namespace Go.Proofs.YtfpfdfhlljjckaaGreatDoor.footprintCondition
open Go.ChangeShapes Go.WideShapes Go.ChangeAt Go.RowKit
set_option linter.unusedVariables false
/-- THE STATEMENT: the tied card -/
theorem proved : Rows.FootprintConditionCardSaid :=
  Claim7.holds_tied_plain_at .later [] [.data, .data, .data, .data] true (true, "a4e1061d7e8aa82193df116c679b993c929ad69c7c902ac426c0cb85d9742999") false
    over (fun _ h => by cases h) cW (fun _ h => by cases h) footprintCondition_row_tie rfl ⟨rfl, rfl⟩ cM rfl
    (fun f fn hf hfn => by
      obtain rfl : f = 4 := Option.some.inj (cF.symm.trans hf) |>.symm
      obtain rfl : fn = Tryz.f4 := (Option.some.inj (Tryz.func4.symm.trans hfn)).symm
      exact ⟨cL, fun j t ht => by
        rw [Tryz.params4] at ht
        have hm : t ∈ [92, 36] := by simpa using Array.mem_of_getElem? ht
        exact (show Tryz.prog.wantsStandIn t = false by simpa using List.all_eq_true.1 cS t hm)⟩)
    cG
#print axioms proved
end Go.Proofs.YtfpfdfhlljjckaaGreatDoor.footprintCondition
