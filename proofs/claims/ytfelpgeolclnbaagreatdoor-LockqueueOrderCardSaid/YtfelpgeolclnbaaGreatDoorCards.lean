/-
  DERIVED. GIVEN WITH THE SEED: THE CARDS: each row of YtfelpgeolclnbaaGreatDoorRows.lean that lists a variable, with what it lists TIED to the program's text (the seventh form; the later family's looks); each row that meets fmt, with fmt's text TOLD by the authors' own Lean function (tested against real Go, not proved from fmt's source: count such statements apart). THE CARD IS WHAT COUNTS. Prove the row's statement (the work); the ties are given (YtfelpgeolclnbaaGreatDoorTie.lean); close each card by the builder's one call (the guide's Derived/Test/ToyasCard.lean, 'card_holds'). Laid BY PROGRAM, IN A SANDBOX (cutbox-door.mjs). By AI agents, Wed Nov 11 2026. No macro, syntax, notation, axiom, sorry.
-/
import Derived.Test.YtfelpgeolclnbaaGreatDoorRows
import GoSem.ClaimSeven
namespace Go.Proofs.YtfelpgeolclnbaaGreatDoor
namespace Rows

/-- THE TIED CARD OF 'disjointlaw33.LockqueueOrder'. -/
def lockqueueOrderCard : Claim7 := { stood := { row := lockqueueOrderRow, standIns := [], harness := (true, "93f6b0c1d5a5d1245f8b64e19592478986eab5bbe2cbc9dc28f9d9b656114ef7"), looks := false }, kinds := [], alts := [], laidByText := true, laidKinds := [.data, .data, .data], laidTests := true, laidLooks := .later }
def LockqueueOrderCardSaid : Prop := Claim7.holds Tryz.pinned (.plain (OpenSpec.ofChange lockqueueOrderSpec)) lockqueueOrderCard

/-- THE SECOND FORM's CARD OF 'disjointlaw33.LockqueueOrder'. -/
def lockqueueOrderUptoCard : Claim7 := { stood := { row := lockqueueOrderUptoRow, standIns := [], harness := (true, "93f6b0c1d5a5d1245f8b64e19592478986eab5bbe2cbc9dc28f9d9b656114ef7"), looks := false }, kinds := [], alts := [], laidByText := true, laidKinds := [.data, .data, .data], laidTests := true, laidLooks := .later }
def LockqueueOrderUptoCardSaid : Prop := Claim7.holds Tryz.pinned (.plain (OpenSpec.upto lockqueueOrderSpec)) lockqueueOrderUptoCard
end Rows
end Go.Proofs.YtfelpgeolclnbaaGreatDoor
