/- 'BoxExactly': for every input the call returns true and leaves what was there as it was (the tables that the row lists are tied to the program's text). Conditions: none beyond the given row's own. -/
import Derived.Test.YtmbmbhkemgmhfaaGreatDoorLawE
import Derived.Test.YtmbmbhkemgmhfaaGreatDoorLawF
import Derived.LaidMore
import Derived.Stop.Joined
import Derived.SevenTiedAt
import Derived.Test.YtmbmbhkemgmhfaaGreatDoorCards
import Derived.Test.YtmbmbhkemgmhfaaGreatDoorTie
namespace Go.Proofs.YtmbmbhkemgmhfaaGreatDoor.boxExactly
open Go.ChangeShapes Go.WideShapes Go.ChangeAt Go.RowKit
set_option linter.unusedVariables false
/-- THE STATEMENT: the tied card -/
theorem proved : Rows.BoxExactlyCardSaid :=
  Claim7.holds_tied_plain_at .later [] [.data, .data, .data] true (true, "4977111710393e33cd8a631385167b5aa402c40d776f227c0787e588756e8072") false
    over (fun _ h => by cases h) cW (fun _ h => by cases h) boxExactly_row_tie rfl ⟨rfl, rfl⟩ cM rfl
    (fun f fn hf hfn => by
      obtain rfl : f = 3 := Option.some.inj (cF.symm.trans hf) |>.symm
      obtain rfl : fn = Tryz.f3 := (Option.some.inj (Tryz.func3.symm.trans hfn)).symm
      exact ⟨cL, fun j t ht => by
        rw [Tryz.params3] at ht
        have hm : t ∈ [3, 22, 24] := by simpa using Array.mem_of_getElem? ht
        exact (show Tryz.prog.wantsStandIn t = false by simpa using List.all_eq_true.1 cS t hm)⟩)
    cG
#print axioms proved
end Go.Proofs.YtmbmbhkemgmhfaaGreatDoor.boxExactly
