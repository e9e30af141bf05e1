/-
  DERIVED. GIVEN WITH THE SEED: THE CARDS: each row of YtjdblmpkeilbaaaGreatDoorRows.lean that lists a variable, with what it lists TIED to the program's text (the seventh form; the later family's looks); each row that meets fmt, with fmt's text TOLD by the authors' own Lean function (tested against real Go, not proved from fmt's source: count such statements apart). THE CARD IS WHAT COUNTS. Prove the row's statement (the work); the ties are given (YtjdblmpkeilbaaaGreatDoorTie.lean); close each card by the builder's one call (the guide's Derived/Test/ToyasCard.lean, 'card_holds'). Laid BY PROGRAM, IN A SANDBOX (cutbox-door.mjs). By AI agents, Wed Nov 11 2026. No macro, syntax, notation, axiom, sorry.
-/
import Derived.Test.YtjdblmpkeilbaaaGreatDoorRows
import GoSem.ClaimSeven
namespace Go.Proofs.YtjdblmpkeilbaaaGreatDoor
namespace Rows

/-- THE TIED CARD OF 'disjointlaw28.ImageAssign'. -/
def imageAssignCard : Claim7 := { stood := { row := imageAssignRow, standIns := [], harness := (true, "d6ea797931626703a8777787ccf945f7b18412ae3de4dcee92988862d6e4e2b4"), looks := false }, kinds := [], alts := [], laidByText := true, laidKinds := [.data, .data, .data], laidTests := true, laidLooks := .later }
def ImageAssignCardSaid : Prop := Claim7.holds Tryz.pinned (.plain (OpenSpec.ofChange imageAssignSpec)) imageAssignCard

/-- THE SECOND FORM's CARD OF 'disjointlaw28.ImageAssign'. -/
def imageAssignUptoCard : Claim7 := { stood := { row := imageAssignUptoRow, standIns := [], harness := (true, "d6ea797931626703a8777787ccf945f7b18412ae3de4dcee92988862d6e4e2b4"), looks := false }, kinds := [], alts := [], laidByText := true, laidKinds := [.data, .data, .data], laidTests := true, laidLooks := .later }
def ImageAssignUptoCardSaid : Prop := Claim7.holds Tryz.pinned (.plain (OpenSpec.upto imageAssignSpec)) imageAssignUptoCard
end Rows
end Go.Proofs.YtjdblmpkeilbaaaGreatDoor
