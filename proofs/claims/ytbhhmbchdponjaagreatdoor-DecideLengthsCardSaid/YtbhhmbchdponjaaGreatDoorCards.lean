/-
  DERIVED. GIVEN WITH THE SEED: THE CARDS: each row of YtbhhmbchdponjaaGreatDoorRows.lean that lists a variable, with what it lists TIED to the program's text (the seventh form; the later family's looks); each row that meets fmt, with fmt's text TOLD by the authors' own Lean function (tested against real Go, not proved from fmt's source: count such statements apart). THE CARD IS WHAT COUNTS. Prove the row's statement (the work); the ties are given (YtbhhmbchdponjaaGreatDoorTie.lean); close each card by the builder's one call (the guide's Derived/Test/ToyasCard.lean, 'card_holds'). Laid BY PROGRAM, IN A SANDBOX (cutbox-door.mjs). By AI agents, Wed Nov 11 2026. No macro, syntax, notation, axiom, sorry.
-/
import Derived.Test.YtbhhmbchdponjaaGreatDoorRows
import GoSem.ClaimSeven
namespace Go.Proofs.YtbhhmbchdponjaaGreatDoor
namespace Rows

/-- THE TIED CARD OF 'disjointlaw26.DecideParity'. -/
def decideParityCard : Claim7 := { stood := { row := decideParityRow, standIns := [], harness := (true, "85109e02712a6c7708e789ce10f8420ff76ca5c7864006c929939302d1bf4779"), looks := false }, kinds := [], alts := [], laidByText := true, laidKinds := [.data, .data, .data], laidTests := true, laidLooks := .later }
def DecideParityCardSaid : Prop := Claim7.holds Tryz.pinned (.plain (OpenSpec.ofChange decideParitySpec)) decideParityCard

/-- THE TIED CARD OF 'disjointlaw26.DecideLengths'. -/
def decideLengthsCard : Claim7 := { stood := { row := decideLengthsRow, standIns := [], harness := (true, "85109e02712a6c7708e789ce10f8420ff76ca5c7864006c929939302d1bf4779"), looks := false }, kinds := [], alts := [], laidByText := true, laidKinds := [.data, .data, .data], laidTests := true, laidLooks := .later }
def DecideLengthsCardSaid : Prop := Claim7.holds Tryz.pinned (.plain (OpenSpec.ofChange decideLengthsSpec)) decideLengthsCard

/-- THE TIED CARD OF 'disjointlaw26.DecideSatisfies'. -/
def decideSatisfiesCard : Claim7 := { stood := { row := decideSatisfiesRow, standIns := [], harness := (true, "85109e02712a6c7708e789ce10f8420ff76ca5c7864006c929939302d1bf4779"), looks := false }, kinds := [], alts := [], laidByText := true, laidKinds := [.data, .data, .data], laidTests := true, laidLooks := .later }
def DecideSatisfiesCardSaid : Prop := Claim7.holds Tryz.pinned (.plain (OpenSpec.ofChange decideSatisfiesSpec)) decideSatisfiesCard

/-- THE SECOND FORM's CARD OF 'disjointlaw26.DecideParity'. -/
def decideParityUptoCard : Claim7 := { stood := { row := decideParityUptoRow, standIns := [], harness := (true, "85109e02712a6c7708e789ce10f8420ff76ca5c7864006c929939302d1bf4779"), looks := false }, kinds := [], alts := [], laidByText := true, laidKinds := [.data, .data, .data], laidTests := true, laidLooks := .later }
def DecideParityUptoCardSaid : Prop := Claim7.holds Tryz.pinned (.plain (OpenSpec.upto decideParitySpec)) decideParityUptoCard

/-- THE SECOND FORM's CARD OF 'disjointlaw26.DecideLengths'. -/
def decideLengthsUptoCard : Claim7 := { stood := { row := decideLengthsUptoRow, standIns := [], harness := (true, "85109e02712a6c7708e789ce10f8420ff76ca5c7864006c929939302d1bf4779"), looks := false }, kinds := [], alts := [], laidByText := true, laidKinds := [.data, .data, .data], laidTests := true, laidLooks := .later }
def DecideLengthsUptoCardSaid : Prop := Claim7.holds Tryz.pinned (.plain (OpenSpec.upto decideLengthsSpec)) decideLengthsUptoCard

/-- THE SECOND FORM's CARD OF 'disjointlaw26.DecideSatisfies'. -/
def decideSatisfiesUptoCard : Claim7 := { stood := { row := decideSatisfiesUptoRow, standIns := [], harness := (true, "85109e02712a6c7708e789ce10f8420ff76ca5c7864006c929939302d1bf4779"), looks := false }, kinds := [], alts := [], laidByText := true, laidKinds := [.data, .data, .data], laidTests := true, laidLooks := .later }
def DecideSatisfiesUptoCardSaid : Prop := Claim7.holds Tryz.pinned (.plain (OpenSpec.upto decideSatisfiesSpec)) decideSatisfiesUptoCard
end Rows
end Go.Proofs.YtbhhmbchdponjaaGreatDoor
