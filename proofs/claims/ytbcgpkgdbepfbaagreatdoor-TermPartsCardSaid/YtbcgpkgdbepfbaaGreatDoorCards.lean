/-
  DERIVED. GIVEN WITH THE SEED: THE CARDS: each row of YtbcgpkgdbepfbaaGreatDoorRows.lean that lists a variable, with what it lists TIED to the program's text (the seventh form; the later family's looks); each row that meets fmt, with fmt's text TOLD by the authors' own Lean function (tested against real Go, not proved from fmt's source: count such statements apart). THE CARD IS WHAT COUNTS. Prove the row's statement (the work); the ties are given (YtbcgpkgdbepfbaaGreatDoorTie.lean); close each card by the builder's one call (the guide's Derived/Test/ToyasCard.lean, 'card_holds'). Laid BY PROGRAM, IN A SANDBOX (cutbox-door.mjs). By AI agents, Wed Nov 11 2026. No macro, syntax, notation, axiom, sorry.
-/
import Derived.Test.YtbcgpkgdbepfbaaGreatDoorRows
import GoSem.ClaimSeven
namespace Go.Proofs.YtbcgpkgdbepfbaaGreatDoor
namespace Rows

/-- THE TIED CARD OF 'ostlerlaw01.TermNames'. -/
def termNamesCard : Claim7 := { stood := { row := termNamesRow, standIns := [], harness := (true, "aff2e8957ead360a146edb79a59c63b1af1c6156910456f35981b39cd8e1827e"), looks := false }, kinds := [], alts := [], laidByText := true, laidKinds := [.data, .data, .data, .data, .pinned], laidTests := true, laidLooks := .later }
def TermNamesCardSaid : Prop := Claim7.holds Tryz.pinned (.plain (OpenSpec.ofChange termNamesSpec)) termNamesCard

/-- THE TIED CARD OF 'ostlerlaw01.TermValues'. -/
def termValuesCard : Claim7 := { stood := { row := termValuesRow, standIns := [], harness := (true, "aff2e8957ead360a146edb79a59c63b1af1c6156910456f35981b39cd8e1827e"), looks := false }, kinds := [], alts := [], laidByText := true, laidKinds := [.data, .data, .data, .data, .pinned], laidTests := true, laidLooks := .later }
def TermValuesCardSaid : Prop := Claim7.holds Tryz.pinned (.plain (OpenSpec.ofChange termValuesSpec)) termValuesCard

/-- THE TIED CARD OF 'ostlerlaw01.TermParts'. -/
def termPartsCard : Claim7 := { stood := { row := termPartsRow, standIns := [], harness := (true, "aff2e8957ead360a146edb79a59c63b1af1c6156910456f35981b39cd8e1827e"), looks := false }, kinds := [], alts := [], laidByText := true, laidKinds := [.data, .data, .data, .data, .pinned], laidTests := true, laidLooks := .later }
def TermPartsCardSaid : Prop := Claim7.holds Tryz.pinned (.plain (OpenSpec.ofChange termPartsSpec)) termPartsCard

/-- THE TIED CARD OF 'ostlerlaw01.TermCompares'. -/
def termComparesCard : Claim7 := { stood := { row := termComparesRow, standIns := [], harness := (true, "aff2e8957ead360a146edb79a59c63b1af1c6156910456f35981b39cd8e1827e"), looks := false }, kinds := [], alts := [], laidByText := true, laidKinds := [.data, .data, .data, .data, .pinned], laidTests := true, laidLooks := .later }
def TermComparesCardSaid : Prop := Claim7.holds Tryz.pinned (.plain (OpenSpec.ofChange termComparesSpec)) termComparesCard

/-- THE TIED CARD OF 'ostlerlaw01.TermOrder'. -/
def termOrderCard : Claim7 := { stood := { row := termOrderRow, standIns := [], harness := (true, "aff2e8957ead360a146edb79a59c63b1af1c6156910456f35981b39cd8e1827e"), looks := false }, kinds := [], alts := [], laidByText := true, laidKinds := [.data, .data, .data, .data, .pinned], laidTests := true, laidLooks := .later }
def TermOrderCardSaid : Prop := Claim7.holds Tryz.pinned (.plain (OpenSpec.ofChange termOrderSpec)) termOrderCard

/-- THE TIED CARD OF 'ostlerlaw01.TermText'. -/
def termTextCard : Claim7 := { stood := { row := termTextRow, standIns := [], harness := (true, "aff2e8957ead360a146edb79a59c63b1af1c6156910456f35981b39cd8e1827e"), looks := false }, kinds := [], alts := [], laidByText := true, laidKinds := [.data, .data, .data, .data, .pinned], laidTests := true, laidLooks := .later }
def TermTextCardSaid : Prop := Claim7.holds Tryz.pinned (.plain (OpenSpec.ofChange termTextSpec)) termTextCard

/-- THE SECOND FORM's CARD OF 'ostlerlaw01.TermNames'. -/
def termNamesUptoCard : Claim7 := { stood := { row := termNamesUptoRow, standIns := [], harness := (true, "aff2e8957ead360a146edb79a59c63b1af1c6156910456f35981b39cd8e1827e"), looks := false }, kinds := [], alts := [], laidByText := true, laidKinds := [.data, .data, .data, .data, .pinned], laidTests := true, laidLooks := .later }
def TermNamesUptoCardSaid : Prop := Claim7.holds Tryz.pinned (.plain (OpenSpec.upto termNamesSpec)) termNamesUptoCard

/-- THE SECOND FORM's CARD OF 'ostlerlaw01.TermValues'. -/
def termValuesUptoCard : Claim7 := { stood := { row := termValuesUptoRow, standIns := [], harness := (true, "aff2e8957ead360a146edb79a59c63b1af1c6156910456f35981b39cd8e1827e"), looks := false }, kinds := [], alts := [], laidByText := true, laidKinds := [.data, .data, .data, .data, .pinned], laidTests := true, laidLooks := .later }
def TermValuesUptoCardSaid : Prop := Claim7.holds Tryz.pinned (.plain (OpenSpec.upto termValuesSpec)) termValuesUptoCard

/-- THE SECOND FORM's CARD OF 'ostlerlaw01.TermParts'. -/
def termPartsUptoCard : Claim7 := { stood := { row := termPartsUptoRow, standIns := [], harness := (true, "aff2e8957ead360a146edb79a59c63b1af1c6156910456f35981b39cd8e1827e"), looks := false }, kinds := [], alts := [], laidByText := true, laidKinds := [.data, .data, .data, .data, .pinned], laidTests := true, laidLooks := .later }
def TermPartsUptoCardSaid : Prop := Claim7.holds Tryz.pinned (.plain (OpenSpec.upto termPartsSpec)) termPartsUptoCard

/-- THE SECOND FORM's CARD OF 'ostlerlaw01.TermCompares'. -/
def termComparesUptoCard : Claim7 := { stood := { row := termComparesUptoRow, standIns := [], harness := (true, "aff2e8957ead360a146edb79a59c63b1af1c6156910456f35981b39cd8e1827e"), looks := false }, kinds := [], alts := [], laidByText := true, laidKinds := [.data, .data, .data, .data, .pinned], laidTests := true, laidLooks := .later }
def TermComparesUptoCardSaid : Prop := Claim7.holds Tryz.pinned (.plain (OpenSpec.upto termComparesSpec)) termComparesUptoCard

/-- THE SECOND FORM's CARD OF 'ostlerlaw01.TermOrder'. -/
def termOrderUptoCard : Claim7 := { stood := { row := termOrderUptoRow, standIns := [], harness := (true, "aff2e8957ead360a146edb79a59c63b1af1c6156910456f35981b39cd8e1827e"), looks := false }, kinds := [], alts := [], laidByText := true, laidKinds := [.data, .data, .data, .data, .pinned], laidTests := true, laidLooks := .later }
def TermOrderUptoCardSaid : Prop := Claim7.holds Tryz.pinned (.plain (OpenSpec.upto termOrderSpec)) termOrderUptoCard

/-- THE SECOND FORM's CARD OF 'ostlerlaw01.TermText'. -/
def termTextUptoCard : Claim7 := { stood := { row := termTextUptoRow, standIns := [], harness := (true, "aff2e8957ead360a146edb79a59c63b1af1c6156910456f35981b39cd8e1827e"), looks := false }, kinds := [], alts := [], laidByText := true, laidKinds := [.data, .data, .data, .data, .pinned], laidTests := true, laidLooks := .later }
def TermTextUptoCardSaid : Prop := Claim7.holds Tryz.pinned (.plain (OpenSpec.upto termTextSpec)) termTextUptoCard
end Rows
end Go.Proofs.YtbcgpkgdbepfbaaGreatDoor
