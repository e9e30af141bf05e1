/-
  DERIVED. GIVEN WITH THE SEED: THE CARDS: each row of YtmbmbhkemgmhfaaGreatDoorRows.lean that lists a variable, with what it lists TIED to the program's text (the seventh form; the later family's looks); each row that meets fmt, with fmt's text TOLD by the authors' own Lean function (tested against real Go, not proved from fmt's source: count such statements apart). THE CARD IS WHAT COUNTS. Prove the row's statement (the work); the ties are given (YtmbmbhkemgmhfaaGreatDoorTie.lean); close each card by the builder's one call (the guide's Derived/Test/ToyasCard.lean, 'card_holds'). Laid BY PROGRAM, IN A SANDBOX (cutbox-door.mjs). By AI agents, Wed Nov 11 2026. No macro, syntax, notation, axiom, sorry.
-/
import Derived.Test.YtmbmbhkemgmhfaaGreatDoorRows
import GoSem.ClaimSeven
namespace Go.Proofs.YtmbmbhkemgmhfaaGreatDoor
namespace Rows

/-- THE TIED CARD OF 'disjointlaw30.BoxExactly'. -/
def boxExactlyCard : Claim7 := { stood := { row := boxExactlyRow, standIns := [], harness := (true, "4977111710393e33cd8a631385167b5aa402c40d776f227c0787e588756e8072"), looks := false }, kinds := [], alts := [], laidByText := true, laidKinds := [.data, .data, .data], laidTests := true, laidLooks := .later }
def BoxExactlyCardSaid : Prop := Claim7.holds Tryz.pinned (.plain (OpenSpec.ofChange boxExactlySpec)) boxExactlyCard

/-- THE SECOND FORM's CARD OF 'disjointlaw30.BoxExactly'. -/
def boxExactlyUptoCard : Claim7 := { stood := { row := boxExactlyUptoRow, standIns := [], harness := (true, "4977111710393e33cd8a631385167b5aa402c40d776f227c0787e588756e8072"), looks := false }, kinds := [], alts := [], laidByText := true, laidKinds := [.data, .data, .data], laidTests := true, laidLooks := .later }
def BoxExactlyUptoCardSaid : Prop := Claim7.holds Tryz.pinned (.plain (OpenSpec.upto boxExactlySpec)) boxExactlyUptoCard
end Rows
end Go.Proofs.YtmbmbhkemgmhfaaGreatDoor
