/-
  DERIVED. GIVEN WITH THE SEED: THE CARDS: each row of YtecgehidegnmnaaGreatDoorRows.lean that lists a variable, with what it lists TIED to the program's text (the seventh form; the later family's looks); each row that meets fmt, with fmt's text TOLD by the authors' own Lean function (tested against real Go, not proved from fmt's source: count such statements apart). THE CARD IS WHAT COUNTS. Prove the row's statement (the work); the ties are given (YtecgehidegnmnaaGreatDoorTie.lean); close each card by the builder's one call (the guide's Derived/Test/ToyasCard.lean, 'card_holds'). Laid BY PROGRAM, IN A SANDBOX (cutbox-door.mjs). By AI agents, Wed Nov 11 2026. No macro, syntax, notation, axiom, sorry.
-/
import Derived.Test.YtecgehidegnmnaaGreatDoorRows
import GoSem.ClaimSeven
namespace Go.Proofs.YtecgehidegnmnaaGreatDoor
namespace Rows

/-- THE TIED CARD OF 'ostlerlaw04.ParseAppends'. -/
def parseAppendsCard : Claim7 := { stood := { row := parseAppendsRow, standIns := [], harness := (true, "3d11a698b656620efd18dfc292a05036c8af228a10560a58afaa87a3bb80e732"), looks := true }, kinds := [], alts := [], laidByText := true, laidKinds := [.data, .data, .data, .data, .sentinel, .sentinel, .listed, .data, .pinned], laidTests := true, laidLooks := .later }
def ParseAppendsCardSaid : Prop := Claim7.holds Tryz.pinned (.plain (OpenSpec.ofChange parseAppendsSpec)) parseAppendsCard

/-- THE TIED CARD OF 'ostlerlaw04.ParseRules'. -/
def parseRulesCard : Claim7 := { stood := { row := parseRulesRow, standIns := [], harness := (true, "3d11a698b656620efd18dfc292a05036c8af228a10560a58afaa87a3bb80e732"), looks := true }, kinds := [], alts := [], laidByText := true, laidKinds := [.data, .data, .data, .data, .sentinel, .sentinel, .listed, .data, .pinned], laidTests := true, laidLooks := .later }
def ParseRulesCardSaid : Prop := Claim7.holds Tryz.pinned (.plain (OpenSpec.ofChange parseRulesSpec)) parseRulesCard

/-- THE TIED CARD OF 'ostlerlaw04.ParseTokens'. -/
def parseTokensCard : Claim7 := { stood := { row := parseTokensRow, standIns := [], harness := (true, "3d11a698b656620efd18dfc292a05036c8af228a10560a58afaa87a3bb80e732"), looks := true }, kinds := [], alts := [], laidByText := true, laidKinds := [.data, .data, .data, .data, .sentinel, .sentinel, .listed, .data, .pinned], laidTests := true, laidLooks := .later }
def ParseTokensCardSaid : Prop := Claim7.holds Tryz.pinned (.plain (OpenSpec.ofChange parseTokensSpec)) parseTokensCard

/-- THE TIED CARD OF 'ostlerlaw04.ParseFits'. -/
def parseFitsCard : Claim7 := { stood := { row := parseFitsRow, standIns := [], harness := (true, "3d11a698b656620efd18dfc292a05036c8af228a10560a58afaa87a3bb80e732"), looks := true }, kinds := [], alts := [], laidByText := true, laidKinds := [.data, .data, .data, .data, .sentinel, .sentinel, .listed, .data, .pinned], laidTests := true, laidLooks := .later }
def ParseFitsCardSaid : Prop := Claim7.holds Tryz.pinned (.plain (OpenSpec.ofChange parseFitsSpec)) parseFitsCard

/-- THE TIED CARD OF 'ostlerlaw04.ParseTerms'. -/
def parseTermsCard : Claim7 := { stood := { row := parseTermsRow, standIns := [], harness := (true, "3d11a698b656620efd18dfc292a05036c8af228a10560a58afaa87a3bb80e732"), looks := true }, kinds := [], alts := [], laidByText := true, laidKinds := [.data, .data, .data, .data, .sentinel, .sentinel, .listed, .data, .pinned], laidTests := true, laidLooks := .later }
def ParseTermsCardSaid : Prop := Claim7.holds Tryz.pinned (.plain (OpenSpec.ofChange parseTermsSpec)) parseTermsCard

/-- THE SECOND FORM's CARD OF 'ostlerlaw04.ParseAppends'. -/
def parseAppendsUptoCard : Claim7 := { stood := { row := parseAppendsUptoRow, standIns := [], harness := (true, "3d11a698b656620efd18dfc292a05036c8af228a10560a58afaa87a3bb80e732"), looks := true }, kinds := [], alts := [], laidByText := true, laidKinds := [.data, .data, .data, .data, .sentinel, .sentinel, .listed, .data, .pinned], laidTests := true, laidLooks := .later }
def ParseAppendsUptoCardSaid : Prop := Claim7.holds Tryz.pinned (.plain (OpenSpec.upto parseAppendsSpec)) parseAppendsUptoCard

/-- THE SECOND FORM's CARD OF 'ostlerlaw04.ParseRules'. -/
def parseRulesUptoCard : Claim7 := { stood := { row := parseRulesUptoRow, standIns := [], harness := (true, "3d11a698b656620efd18dfc292a05036c8af228a10560a58afaa87a3bb80e732"), looks := true }, kinds := [], alts := [], laidByText := true, laidKinds := [.data, .data, .data, .data, .sentinel, .sentinel, .listed, .data, .pinned], laidTests := true, laidLooks := .later }
def ParseRulesUptoCardSaid : Prop := Claim7.holds Tryz.pinned (.plain (OpenSpec.upto parseRulesSpec)) parseRulesUptoCard

/-- THE SECOND FORM's CARD OF 'ostlerlaw04.ParseTokens'. -/
def parseTokensUptoCard : Claim7 := { stood := { row := parseTokensUptoRow, standIns := [], harness := (true, "3d11a698b656620efd18dfc292a05036c8af228a10560a58afaa87a3bb80e732"), looks := true }, kinds := [], alts := [], laidByText := true, laidKinds := [.data, .data, .data, .data, .sentinel, .sentinel, .listed, .data, .pinned], laidTests := true, laidLooks := .later }
def ParseTokensUptoCardSaid : Prop := Claim7.holds Tryz.pinned (.plain (OpenSpec.upto parseTokensSpec)) parseTokensUptoCard

/-- THE SECOND FORM's CARD OF 'ostlerlaw04.ParseFits'. -/
def parseFitsUptoCard : Claim7 := { stood := { row := parseFitsUptoRow, standIns := [], harness := (true, "3d11a698b656620efd18dfc292a05036c8af228a10560a58afaa87a3bb80e732"), looks := true }, kinds := [], alts := [], laidByText := true, laidKinds := [.data, .data, .data, .data, .sentinel, .sentinel, .listed, .data, .pinned], laidTests := true, laidLooks := .later }
def ParseFitsUptoCardSaid : Prop := Claim7.holds Tryz.pinned (.plain (OpenSpec.upto parseFitsSpec)) parseFitsUptoCard

/-- THE SECOND FORM's CARD OF 'ostlerlaw04.ParseTerms'. -/
def parseTermsUptoCard : Claim7 := { stood := { row := parseTermsUptoRow, standIns := [], harness := (true, "3d11a698b656620efd18dfc292a05036c8af228a10560a58afaa87a3bb80e732"), looks := true }, kinds := [], alts := [], laidByText := true, laidKinds := [.data, .data, .data, .data, .sentinel, .sentinel, .listed, .data, .pinned], laidTests := true, laidLooks := .later }
def ParseTermsUptoCardSaid : Prop := Claim7.holds Tryz.pinned (.plain (OpenSpec.upto parseTermsSpec)) parseTermsUptoCard
end Rows
end Go.Proofs.YtecgehidegnmnaaGreatDoor
