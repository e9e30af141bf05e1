/-
  DERIVED. GIVEN WITH THE SEED: THE CARDS: each row of YthhgbpmjhkaeeaaGreatDoorRows.lean that lists a variable, with what it lists TIED to the program's text (the seventh form; the later family's looks); each row that meets fmt, with fmt's text TOLD by the authors' own Lean function (tested against real Go, not proved from fmt's source: count such statements apart). THE CARD IS WHAT COUNTS. Prove the row's statement (the work); the ties are given (YthhgbpmjhkaeeaaGreatDoorTie.lean); close each card by the builder's one call (the guide's Derived/Test/ToyasCard.lean, 'card_holds'). Laid BY PROGRAM, IN A SANDBOX (cutbox-door.mjs). By AI agents, Wed Nov 11 2026. No macro, syntax, notation, axiom, sorry.
-/
import Derived.Test.YthhgbpmjhkaeeaaGreatDoorRows
import GoSem.ClaimSeven
namespace Go.Proofs.YthhgbpmjhkaeeaaGreatDoor
namespace Rows

/-- THE TIED CARD OF 'disjointlaw29.FootprintChanges'. -/
def footprintChangesCard : Claim7 := { stood := { row := footprintChangesRow, standIns := [], harness := (true, "1f1e8d1f00c3a4574ab21c2e79145baab3ee769e82d725003775925a01c2c9db"), looks := false }, kinds := [], alts := [], laidByText := true, laidKinds := [.data, .data, .data, .data], laidTests := true, laidLooks := .later }
def FootprintChangesCardSaid : Prop := Claim7.holds Tryz.pinned (.plain (OpenSpec.ofChange footprintChangesSpec)) footprintChangesCard

/-- THE SECOND FORM's CARD OF 'disjointlaw29.FootprintChanges'. -/
def footprintChangesUptoCard : Claim7 := { stood := { row := footprintChangesUptoRow, standIns := [], harness := (true, "1f1e8d1f00c3a4574ab21c2e79145baab3ee769e82d725003775925a01c2c9db"), looks := false }, kinds := [], alts := [], laidByText := true, laidKinds := [.data, .data, .data, .data], laidTests := true, laidLooks := .later }
def FootprintChangesUptoCardSaid : Prop := Claim7.holds Tryz.pinned (.plain (OpenSpec.upto footprintChangesSpec)) footprintChangesUptoCard
end Rows
end Go.Proofs.YthhgbpmjhkaeeaaGreatDoor
