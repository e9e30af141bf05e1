/-
  DERIVED. GIVEN WITH THE SEED: THE CARDS: each row of YtcbpakbhklbdnaaDoorRows.lean that lists a variable, with what it lists TIED to the program's text (the seventh form; the later family's looks); each row that meets fmt, with fmt's text TOLD by the authors' own Lean function (tested against real Go, not proved from fmt's source: count such statements apart). THE CARD IS WHAT COUNTS. Prove the row's statement (the work); the ties are given (YtcbpakbhklbdnaaDoorTie.lean); close each card by the builder's one call (the guide's Derived/Test/ToyasCard.lean, 'card_holds'). Laid BY PROGRAM, IN A SANDBOX (cutbox-door.mjs). By AI agents, Wed Nov 11 2026. No macro, syntax, notation, axiom, sorry.
-/
import Derived.Test.YtcbpakbhklbdnaaDoorRows
import GoSem.ClaimSeven
namespace Go.Proofs.YtcbpakbhklbdnaaDoor
namespace Rows

/-- THE TIED CARD OF 'disjointlaw01.TriboolConnectives'. -/
def triboolConnectivesCard : Claim7 := { stood := { row := triboolConnectivesRow, standIns := [], harness := (true, "bcc06c50da8d367983a02e3997a75a8bfe2f00ce1545cffe950b3a99d7cbd2f7"), looks := false }, kinds := [], alts := [], laidByText := true, laidKinds := [.data], laidTests := true, laidLooks := .later }
def TriboolConnectivesCardSaid : Prop := Claim7.holds Tryd.pinned (.plain (OpenSpec.ofChange triboolConnectivesSpec)) triboolConnectivesCard

/-- THE TIED CARD OF 'disjointlaw01.TriboolLaws'. -/
def triboolLawsCard : Claim7 := { stood := { row := triboolLawsRow, standIns := [], harness := (true, "bcc06c50da8d367983a02e3997a75a8bfe2f00ce1545cffe950b3a99d7cbd2f7"), looks := false }, kinds := [], alts := [], laidByText := true, laidKinds := [.data], laidTests := true, laidLooks := .later }
def TriboolLawsCardSaid : Prop := Claim7.holds Tryd.pinned (.plain (OpenSpec.ofChange triboolLawsSpec)) triboolLawsCard

/-- THE TIED CARD OF 'disjointlaw01.TriboolDistributive'. -/
def triboolDistributiveCard : Claim7 := { stood := { row := triboolDistributiveRow, standIns := [], harness := (true, "bcc06c50da8d367983a02e3997a75a8bfe2f00ce1545cffe950b3a99d7cbd2f7"), looks := false }, kinds := [], alts := [], laidByText := true, laidKinds := [.data], laidTests := true, laidLooks := .later }
def TriboolDistributiveCardSaid : Prop := Claim7.holds Tryd.pinned (.plain (OpenSpec.ofChange triboolDistributiveSpec)) triboolDistributiveCard

/-- THE TIED CARD OF 'disjointlaw01.TriboolBooleans'. -/
def triboolBooleansCard : Claim7 := { stood := { row := triboolBooleansRow, standIns := [], harness := (true, "bcc06c50da8d367983a02e3997a75a8bfe2f00ce1545cffe950b3a99d7cbd2f7"), looks := false }, kinds := [], alts := [], laidByText := true, laidKinds := [.data], laidTests := true, laidLooks := .later }
def TriboolBooleansCardSaid : Prop := Claim7.holds Tryd.pinned (.plain (OpenSpec.ofChange triboolBooleansSpec)) triboolBooleansCard

/-- THE TIED CARD OF 'disjointlaw01.TriboolKnown'. -/
def triboolKnownCard : Claim7 := { stood := { row := triboolKnownRow, standIns := [], harness := (true, "bcc06c50da8d367983a02e3997a75a8bfe2f00ce1545cffe950b3a99d7cbd2f7"), looks := false }, kinds := [], alts := [], laidByText := true, laidKinds := [.data], laidTests := true, laidLooks := .later }
def TriboolKnownCardSaid : Prop := Claim7.holds Tryd.pinned (.plain (OpenSpec.ofChange triboolKnownSpec)) triboolKnownCard

/-- THE TIED CARD OF 'disjointlaw01.TriboolLists'. -/
def triboolListsCard : Claim7 := { stood := { row := triboolListsRow, standIns := [], harness := (true, "bcc06c50da8d367983a02e3997a75a8bfe2f00ce1545cffe950b3a99d7cbd2f7"), looks := false }, kinds := [], alts := [], laidByText := true, laidKinds := [.data], laidTests := true, laidLooks := .later }
def TriboolListsCardSaid : Prop := Claim7.holds Tryd.pinned (.plain (OpenSpec.ofChange triboolListsSpec)) triboolListsCard

/-- THE TIED CARD OF 'disjointlaw01.TriboolText'. -/
def triboolTextCard : Claim7 := { stood := { row := triboolTextRow, standIns := [], harness := (true, "bcc06c50da8d367983a02e3997a75a8bfe2f00ce1545cffe950b3a99d7cbd2f7"), looks := false }, kinds := [], alts := [], laidByText := true, laidKinds := [.data, .data], laidTests := true, laidLooks := .later }
def TriboolTextCardSaid : Prop := Claim7.holds Tryd.pinned (.plain (OpenSpec.ofChange triboolTextSpec)) triboolTextCard

/-- THE SECOND FORM's CARD OF 'disjointlaw01.TriboolConnectives'. -/
def triboolConnectivesUptoCard : Claim7 := { stood := { row := triboolConnectivesUptoRow, standIns := [], harness := (true, "bcc06c50da8d367983a02e3997a75a8bfe2f00ce1545cffe950b3a99d7cbd2f7"), looks := false }, kinds := [], alts := [], laidByText := true, laidKinds := [.data], laidTests := true, laidLooks := .later }
def TriboolConnectivesUptoCardSaid : Prop := Claim7.holds Tryd.pinned (.plain (OpenSpec.upto triboolConnectivesSpec)) triboolConnectivesUptoCard

/-- THE SECOND FORM's CARD OF 'disjointlaw01.TriboolLaws'. -/
def triboolLawsUptoCard : Claim7 := { stood := { row := triboolLawsUptoRow, standIns := [], harness := (true, "bcc06c50da8d367983a02e3997a75a8bfe2f00ce1545cffe950b3a99d7cbd2f7"), looks := false }, kinds := [], alts := [], laidByText := true, laidKinds := [.data], laidTests := true, laidLooks := .later }
def TriboolLawsUptoCardSaid : Prop := Claim7.holds Tryd.pinned (.plain (OpenSpec.upto triboolLawsSpec)) triboolLawsUptoCard

/-- THE SECOND FORM's CARD OF 'disjointlaw01.TriboolDistributive'. -/
def triboolDistributiveUptoCard : Claim7 := { stood := { row := triboolDistributiveUptoRow, standIns := [], harness := (true, "bcc06c50da8d367983a02e3997a75a8bfe2f00ce1545cffe950b3a99d7cbd2f7"), looks := false }, kinds := [], alts := [], laidByText := true, laidKinds := [.data], laidTests := true, laidLooks := .later }
def TriboolDistributiveUptoCardSaid : Prop := Claim7.holds Tryd.pinned (.plain (OpenSpec.upto triboolDistributiveSpec)) triboolDistributiveUptoCard

/-- THE SECOND FORM's CARD OF 'disjointlaw01.TriboolBooleans'. -/
def triboolBooleansUptoCard : Claim7 := { stood := { row := triboolBooleansUptoRow, standIns := [], harness := (true, "bcc06c50da8d367983a02e3997a75a8bfe2f00ce1545cffe950b3a99d7cbd2f7"), looks := false }, kinds := [], alts := [], laidByText := true, laidKinds := [.data], laidTests := true, laidLooks := .later }
def TriboolBooleansUptoCardSaid : Prop := Claim7.holds Tryd.pinned (.plain (OpenSpec.upto triboolBooleansSpec)) triboolBooleansUptoCard

/-- THE SECOND FORM's CARD OF 'disjointlaw01.TriboolKnown'. -/
def triboolKnownUptoCard : Claim7 := { stood := { row := triboolKnownUptoRow, standIns := [], harness := (true, "bcc06c50da8d367983a02e3997a75a8bfe2f00ce1545cffe950b3a99d7cbd2f7"), looks := false }, kinds := [], alts := [], laidByText := true, laidKinds := [.data], laidTests := true, laidLooks := .later }
def TriboolKnownUptoCardSaid : Prop := Claim7.holds Tryd.pinned (.plain (OpenSpec.upto triboolKnownSpec)) triboolKnownUptoCard

/-- THE SECOND FORM's CARD OF 'disjointlaw01.TriboolLists'. -/
def triboolListsUptoCard : Claim7 := { stood := { row := triboolListsUptoRow, standIns := [], harness := (true, "bcc06c50da8d367983a02e3997a75a8bfe2f00ce1545cffe950b3a99d7cbd2f7"), looks := false }, kinds := [], alts := [], laidByText := true, laidKinds := [.data], laidTests := true, laidLooks := .later }
def TriboolListsUptoCardSaid : Prop := Claim7.holds Tryd.pinned (.plain (OpenSpec.upto triboolListsSpec)) triboolListsUptoCard

/-- THE SECOND FORM's CARD OF 'disjointlaw01.TriboolText'. -/
def triboolTextUptoCard : Claim7 := { stood := { row := triboolTextUptoRow, standIns := [], harness := (true, "bcc06c50da8d367983a02e3997a75a8bfe2f00ce1545cffe950b3a99d7cbd2f7"), looks := false }, kinds := [], alts := [], laidByText := true, laidKinds := [.data, .data], laidTests := true, laidLooks := .later }
def TriboolTextUptoCardSaid : Prop := Claim7.holds Tryd.pinned (.plain (OpenSpec.upto triboolTextSpec)) triboolTextUptoCard
end Rows
end Go.Proofs.YtcbpakbhklbdnaaDoor
