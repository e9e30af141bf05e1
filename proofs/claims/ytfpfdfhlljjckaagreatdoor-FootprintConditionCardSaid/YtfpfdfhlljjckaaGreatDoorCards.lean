/-
  DERIVED. GIVEN WITH THE SEED: THE CARDS: each row of YtfpfdfhlljjckaaGreatDoorRows.lean that lists a variable, with what it lists TIED to the program's text (the seventh form; the later family's looks); each row that meets fmt, with fmt's text TOLD by the authors' own Lean function (tested against real Go, not proved from fmt's source: count such statements apart). THE CARD IS WHAT COUNTS. Prove the row's statement (the work); the ties are given (YtfpfdfhlljjckaaGreatDoorTie.lean); close each card by the builder's one call (the guide's Derived/Test/ToyasCard.lean, 'card_holds'). Laid BY PROGRAM, IN A SANDBOX (cutbox-door.mjs). By AI agents, Wed Nov 11 2026. No macro, syntax, notation, axiom, sorry.
-/
import Derived.Test.YtfpfdfhlljjckaaGreatDoorRows
import GoSem.ClaimSeven
namespace Go.Proofs.YtfpfdfhlljjckaaGreatDoor
namespace Rows

/-- THE TIED CARD OF 'disjointlaw29.FootprintDelete'. -/
def footprintDeleteCard : Claim7 := { stood := { row := footprintDeleteRow, standIns := [], harness := (true, "a4e1061d7e8aa82193df116c679b993c929ad69c7c902ac426c0cb85d9742999"), looks := false }, kinds := [], alts := [], laidByText := true, laidKinds := [.data, .data, .data, .data], laidTests := true, laidLooks := .later }
def FootprintDeleteCardSaid : Prop := Claim7.holds Tryz.pinned (.plain (OpenSpec.ofChange footprintDeleteSpec)) footprintDeleteCard

/-- THE TIED CARD OF 'disjointlaw29.FootprintCondition'. -/
def footprintConditionCard : Claim7 := { stood := { row := footprintConditionRow, standIns := [], harness := (true, "a4e1061d7e8aa82193df116c679b993c929ad69c7c902ac426c0cb85d9742999"), looks := false }, kinds := [], alts := [], laidByText := true, laidKinds := [.data, .data, .data, .data], laidTests := true, laidLooks := .later }
def FootprintConditionCardSaid : Prop := Claim7.holds Tryz.pinned (.plain (OpenSpec.ofChange footprintConditionSpec)) footprintConditionCard

/-- THE SECOND FORM's CARD OF 'disjointlaw29.FootprintDelete'. -/
def footprintDeleteUptoCard : Claim7 := { stood := { row := footprintDeleteUptoRow, standIns := [], harness := (true, "a4e1061d7e8aa82193df116c679b993c929ad69c7c902ac426c0cb85d9742999"), looks := false }, kinds := [], alts := [], laidByText := true, laidKinds := [.data, .data, .data, .data], laidTests := true, laidLooks := .later }
def FootprintDeleteUptoCardSaid : Prop := Claim7.holds Tryz.pinned (.plain (OpenSpec.upto footprintDeleteSpec)) footprintDeleteUptoCard

/-- THE SECOND FORM's CARD OF 'disjointlaw29.FootprintCondition'. -/
def footprintConditionUptoCard : Claim7 := { stood := { row := footprintConditionUptoRow, standIns := [], harness := (true, "a4e1061d7e8aa82193df116c679b993c929ad69c7c902ac426c0cb85d9742999"), looks := false }, kinds := [], alts := [], laidByText := true, laidKinds := [.data, .data, .data, .data], laidTests := true, laidLooks := .later }
def FootprintConditionUptoCardSaid : Prop := Claim7.holds Tryz.pinned (.plain (OpenSpec.upto footprintConditionSpec)) footprintConditionUptoCard
end Rows
end Go.Proofs.YtfpfdfhlljjckaaGreatDoor
