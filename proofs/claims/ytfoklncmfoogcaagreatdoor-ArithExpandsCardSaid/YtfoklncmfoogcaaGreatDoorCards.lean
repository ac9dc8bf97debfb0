/-
  DERIVED. GIVEN WITH THE SEED: THE CARDS: each row of YtfoklncmfoogcaaGreatDoorRows.lean that lists a variable, with what it lists TIED to the program's text (the seventh form; the later family's looks); each row that meets fmt, with fmt's text TOLD by the authors' own Lean function (tested against real Go, not proved from fmt's source: count such statements apart). THE CARD IS WHAT COUNTS. Prove the row's statement (the work); the ties are given (YtfoklncmfoogcaaGreatDoorTie.lean); close each card by the builder's one call (the guide's Derived/Test/ToyasCard.lean, 'card_holds'). Laid BY PROGRAM, IN A SANDBOX (cutbox-door.mjs). By AI agents, Wed Nov 11 2026. No macro, syntax, notation, axiom, sorry.
-/
import Derived.Test.YtfoklncmfoogcaaGreatDoorRows
import GoSem.ClaimSeven
namespace Go.Proofs.YtfoklncmfoogcaaGreatDoor
namespace Rows

/-- THE TIED CARD OF 'ostlerlaw02.ArithCalcs'. -/
def arithCalcsCard : Claim7 := { stood := { row := arithCalcsRow, standIns := [], harness := (true, "c896248ed213e98521ed3c7625c93f6b9c112a07b0b44e9003b07a481dd8c711"), looks := true }, kinds := [], alts := [], laidByText := true, laidKinds := [.data, .pinned], laidTests := true, laidLooks := .later }
def ArithCalcsCardSaid : Prop := Claim7.holds Tryz.pinned (.plain (OpenSpec.ofChange arithCalcsSpec)) arithCalcsCard

/-- THE TIED CARD OF 'ostlerlaw02.ArithDivides'. -/
def arithDividesCard : Claim7 := { stood := { row := arithDividesRow, standIns := [], harness := (true, "c896248ed213e98521ed3c7625c93f6b9c112a07b0b44e9003b07a481dd8c711"), looks := true }, kinds := [], alts := [], laidByText := true, laidKinds := [.data, .pinned], laidTests := true, laidLooks := .later }
def ArithDividesCardSaid : Prop := Claim7.holds Tryz.pinned (.plain (OpenSpec.ofChange arithDividesSpec)) arithDividesCard

/-- THE TIED CARD OF 'ostlerlaw02.ArithReplaces'. -/
def arithReplacesCard : Claim7 := { stood := { row := arithReplacesRow, standIns := [], harness := (true, "c896248ed213e98521ed3c7625c93f6b9c112a07b0b44e9003b07a481dd8c711"), looks := true }, kinds := [], alts := [], laidByText := true, laidKinds := [.data, .pinned], laidTests := true, laidLooks := .later }
def ArithReplacesCardSaid : Prop := Claim7.holds Tryz.pinned (.plain (OpenSpec.ofChange arithReplacesSpec)) arithReplacesCard

/-- THE TIED CARD OF 'ostlerlaw02.ArithExpands'. -/
def arithExpandsCard : Claim7 := { stood := { row := arithExpandsRow, standIns := [], harness := (true, "c896248ed213e98521ed3c7625c93f6b9c112a07b0b44e9003b07a481dd8c711"), looks := true }, kinds := [], alts := [], laidByText := true, laidKinds := [.data, .pinned], laidTests := true, laidLooks := .later }
def ArithExpandsCardSaid : Prop := Claim7.holds Tryz.pinned (.plain (OpenSpec.ofChange arithExpandsSpec)) arithExpandsCard

/-- THE TIED CARD OF 'ostlerlaw02.ArithParts'. -/
def arithPartsCard : Claim7 := { stood := { row := arithPartsRow, standIns := [], harness := (true, "c896248ed213e98521ed3c7625c93f6b9c112a07b0b44e9003b07a481dd8c711"), looks := true }, kinds := [], alts := [], laidByText := true, laidKinds := [.data, .pinned], laidTests := true, laidLooks := .later }
def ArithPartsCardSaid : Prop := Claim7.holds Tryz.pinned (.plain (OpenSpec.ofChange arithPartsSpec)) arithPartsCard

/-- THE SECOND FORM's CARD OF 'ostlerlaw02.ArithCalcs'. -/
def arithCalcsUptoCard : Claim7 := { stood := { row := arithCalcsUptoRow, standIns := [], harness := (true, "c896248ed213e98521ed3c7625c93f6b9c112a07b0b44e9003b07a481dd8c711"), looks := true }, kinds := [], alts := [], laidByText := true, laidKinds := [.data, .pinned], laidTests := true, laidLooks := .later }
def ArithCalcsUptoCardSaid : Prop := Claim7.holds Tryz.pinned (.plain (OpenSpec.upto arithCalcsSpec)) arithCalcsUptoCard

/-- THE SECOND FORM's CARD OF 'ostlerlaw02.ArithDivides'. -/
def arithDividesUptoCard : Claim7 := { stood := { row := arithDividesUptoRow, standIns := [], harness := (true, "c896248ed213e98521ed3c7625c93f6b9c112a07b0b44e9003b07a481dd8c711"), looks := true }, kinds := [], alts := [], laidByText := true, laidKinds := [.data, .pinned], laidTests := true, laidLooks := .later }
def ArithDividesUptoCardSaid : Prop := Claim7.holds Tryz.pinned (.plain (OpenSpec.upto arithDividesSpec)) arithDividesUptoCard

/-- THE SECOND FORM's CARD OF 'ostlerlaw02.ArithReplaces'. -/
def arithReplacesUptoCard : Claim7 := { stood := { row := arithReplacesUptoRow, standIns := [], harness := (true, "c896248ed213e98521ed3c7625c93f6b9c112a07b0b44e9003b07a481dd8c711"), looks := true }, kinds := [], alts := [], laidByText := true, laidKinds := [.data, .pinned], laidTests := true, laidLooks := .later }
def ArithReplacesUptoCardSaid : Prop := Claim7.holds Tryz.pinned (.plain (OpenSpec.upto arithReplacesSpec)) arithReplacesUptoCard

/-- THE SECOND FORM's CARD OF 'ostlerlaw02.ArithExpands'. -/
def arithExpandsUptoCard : Claim7 := { stood := { row := arithExpandsUptoRow, standIns := [], harness := (true, "c896248ed213e98521ed3c7625c93f6b9c112a07b0b44e9003b07a481dd8c711"), looks := true }, kinds := [], alts := [], laidByText := true, laidKinds := [.data, .pinned], laidTests := true, laidLooks := .later }
def ArithExpandsUptoCardSaid : Prop := Claim7.holds Tryz.pinned (.plain (OpenSpec.upto arithExpandsSpec)) arithExpandsUptoCard

/-- THE SECOND FORM's CARD OF 'ostlerlaw02.ArithParts'. -/
def arithPartsUptoCard : Claim7 := { stood := { row := arithPartsUptoRow, standIns := [], harness := (true, "c896248ed213e98521ed3c7625c93f6b9c112a07b0b44e9003b07a481dd8c711"), looks := true }, kinds := [], alts := [], laidByText := true, laidKinds := [.data, .pinned], laidTests := true, laidLooks := .later }
def ArithPartsUptoCardSaid : Prop := Claim7.holds Tryz.pinned (.plain (OpenSpec.upto arithPartsSpec)) arithPartsUptoCard
end Rows
end Go.Proofs.YtfoklncmfoogcaaGreatDoor
