/-
  DERIVED. GIVEN WITH THE SEED: THE CARDS: each row of YtgknefkobpnjaaaGreatDoorRows.lean that lists a variable, with what it lists TIED to the program's text (the seventh form; the later family's looks); each row that meets fmt, with fmt's text TOLD by the authors' own Lean function (tested against real Go, not proved from fmt's source: count such statements apart). THE CARD IS WHAT COUNTS. Prove the row's statement (the work); the ties are given (YtgknefkobpnjaaaGreatDoorTie.lean); close each card by the builder's one call (the guide's Derived/Test/ToyasCard.lean, 'card_holds'). Laid BY PROGRAM, IN A SANDBOX (cutbox-door.mjs). By AI agents, Wed Nov 11 2026. No macro, syntax, notation, axiom, sorry.
-/
import Derived.Test.YtgknefkobpnjaaaGreatDoorRows
import GoSem.ClaimSeven
namespace Go.Proofs.YtgknefkobpnjaaaGreatDoor
namespace Rows

/-- THE TIED CARD OF 'disjointlaw27.PredicatePair'. -/
def predicatePairCard : Claim7 := { stood := { row := predicatePairRow, standIns := [], harness := (true, "e03b3c750e293b45490f3108f79bf64eb8a8d729eb155adc250322a9616e2fc2"), looks := false }, kinds := [], alts := [], laidByText := true, laidKinds := [.data, .data, .data], laidTests := true, laidLooks := .later }
def PredicatePairCardSaid : Prop := Claim7.holds Tryz.pinned (.plain (OpenSpec.ofChange predicatePairSpec)) predicatePairCard

/-- THE TIED CARD OF 'disjointlaw27.PredicateValid'. -/
def predicateValidCard : Claim7 := { stood := { row := predicateValidRow, standIns := [], harness := (true, "e03b3c750e293b45490f3108f79bf64eb8a8d729eb155adc250322a9616e2fc2"), looks := false }, kinds := [], alts := [], laidByText := true, laidKinds := [.data, .data, .data], laidTests := true, laidLooks := .later }
def PredicateValidCardSaid : Prop := Claim7.holds Tryz.pinned (.plain (OpenSpec.ofChange predicateValidSpec)) predicateValidCard

/-- THE SECOND FORM's CARD OF 'disjointlaw27.PredicatePair'. -/
def predicatePairUptoCard : Claim7 := { stood := { row := predicatePairUptoRow, standIns := [], harness := (true, "e03b3c750e293b45490f3108f79bf64eb8a8d729eb155adc250322a9616e2fc2"), looks := false }, kinds := [], alts := [], laidByText := true, laidKinds := [.data, .data, .data], laidTests := true, laidLooks := .later }
def PredicatePairUptoCardSaid : Prop := Claim7.holds Tryz.pinned (.plain (OpenSpec.upto predicatePairSpec)) predicatePairUptoCard

/-- THE SECOND FORM's CARD OF 'disjointlaw27.PredicateValid'. -/
def predicateValidUptoCard : Claim7 := { stood := { row := predicateValidUptoRow, standIns := [], harness := (true, "e03b3c750e293b45490f3108f79bf64eb8a8d729eb155adc250322a9616e2fc2"), looks := false }, kinds := [], alts := [], laidByText := true, laidKinds := [.data, .data, .data], laidTests := true, laidLooks := .later }
def PredicateValidUptoCardSaid : Prop := Claim7.holds Tryz.pinned (.plain (OpenSpec.upto predicateValidSpec)) predicateValidUptoCard
end Rows
end Go.Proofs.YtgknefkobpnjaaaGreatDoor
