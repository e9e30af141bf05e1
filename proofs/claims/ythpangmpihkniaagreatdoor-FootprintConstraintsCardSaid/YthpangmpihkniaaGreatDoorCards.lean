/-
  DERIVED. GIVEN WITH THE SEED: THE CARDS: each row of YthpangmpihkniaaGreatDoorRows.lean that lists a variable, with what it lists TIED to the program's text (the seventh form; the later family's looks); each row that meets fmt, with fmt's text TOLD by the authors' own Lean function (tested against real Go, not proved from fmt's source: count such statements apart). THE CARD IS WHAT COUNTS. Prove the row's statement (the work); the ties are given (YthpangmpihkniaaGreatDoorTie.lean); close each card by the builder's one call (the guide's Derived/Test/ToyasCard.lean, 'card_holds'). Laid BY PROGRAM, IN A SANDBOX (cutbox-door.mjs). By AI agents, Wed Nov 11 2026. No macro, syntax, notation, axiom, sorry.
-/
import Derived.Test.YthpangmpihkniaaGreatDoorRows
import GoSem.ClaimSeven
namespace Go.Proofs.YthpangmpihkniaaGreatDoor
namespace Rows

/-- THE TIED CARD OF 'disjointlaw29.FootprintInsert'. -/
def footprintInsertCard : Claim7 := { stood := { row := footprintInsertRow, standIns := [], harness := (true, "1a195c0fd40c2e8bb0c79cb30892dfd1aee7dac057f30933eadd26fe91796826"), looks := false }, kinds := [], alts := [], laidByText := true, laidKinds := [.data, .data, .data, .data], laidTests := true, laidLooks := .later }
def FootprintInsertCardSaid : Prop := Claim7.holds Tryz.pinned (.plain (OpenSpec.ofChange footprintInsertSpec)) footprintInsertCard

/-- THE TIED CARD OF 'disjointlaw29.FootprintConstraints'. -/
def footprintConstraintsCard : Claim7 := { stood := { row := footprintConstraintsRow, standIns := [], harness := (true, "1a195c0fd40c2e8bb0c79cb30892dfd1aee7dac057f30933eadd26fe91796826"), looks := false }, kinds := [], alts := [], laidByText := true, laidKinds := [.data, .data, .data, .data], laidTests := true, laidLooks := .later }
def FootprintConstraintsCardSaid : Prop := Claim7.holds Tryz.pinned (.plain (OpenSpec.ofChange footprintConstraintsSpec)) footprintConstraintsCard

/-- THE SECOND FORM's CARD OF 'disjointlaw29.FootprintInsert'. -/
def footprintInsertUptoCard : Claim7 := { stood := { row := footprintInsertUptoRow, standIns := [], harness := (true, "1a195c0fd40c2e8bb0c79cb30892dfd1aee7dac057f30933eadd26fe91796826"), looks := false }, kinds := [], alts := [], laidByText := true, laidKinds := [.data, .data, .data, .data], laidTests := true, laidLooks := .later }
def FootprintInsertUptoCardSaid : Prop := Claim7.holds Tryz.pinned (.plain (OpenSpec.upto footprintInsertSpec)) footprintInsertUptoCard

/-- THE SECOND FORM's CARD OF 'disjointlaw29.FootprintConstraints'. -/
def footprintConstraintsUptoCard : Claim7 := { stood := { row := footprintConstraintsUptoRow, standIns := [], harness := (true, "1a195c0fd40c2e8bb0c79cb30892dfd1aee7dac057f30933eadd26fe91796826"), looks := false }, kinds := [], alts := [], laidByText := true, laidKinds := [.data, .data, .data, .data], laidTests := true, laidLooks := .later }
def FootprintConstraintsUptoCardSaid : Prop := Claim7.holds Tryz.pinned (.plain (OpenSpec.upto footprintConstraintsSpec)) footprintConstraintsUptoCard
end Rows
end Go.Proofs.YthpangmpihkniaaGreatDoor
