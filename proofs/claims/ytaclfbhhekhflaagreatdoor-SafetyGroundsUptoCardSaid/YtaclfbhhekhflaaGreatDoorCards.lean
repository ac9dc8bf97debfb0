/-
  DERIVED. GIVEN WITH THE SEED: THE CARDS: each row of YtaclfbhhekhflaaGreatDoorRows.lean that lists a variable, with what it lists TIED to the program's text (the seventh form; the later family's looks); each row that meets fmt, with fmt's text TOLD by the authors' own Lean function (tested against real Go, not proved from fmt's source: count such statements apart). THE CARD IS WHAT COUNTS. Prove the row's statement (the work); the ties are given (YtaclfbhhekhflaaGreatDoorTie.lean); close each card by the builder's one call (the guide's Derived/Test/ToyasCard.lean, 'card_holds'). Laid BY PROGRAM, IN A SANDBOX (cutbox-door.mjs). By AI agents, Wed Nov 11 2026. No macro, syntax, notation, axiom, sorry.
-/
import Derived.Test.YtaclfbhhekhflaaGreatDoorRows
import GoSem.ClaimSeven
namespace Go.Proofs.YtaclfbhhekhflaaGreatDoor
namespace Rows

/-- THE TIED CARD OF 'ostlerlaw08.SafetyGrounds'. -/
def safetyGroundsCard : Claim7 := { stood := { row := safetyGroundsRow, standIns := [], harness := (true, "c771f31e3bcbf650cce18af315e9087355fca8d31c9dec695d18af1691c7d972"), looks := true }, kinds := [], alts := [], laidByText := true, laidKinds := [.data, .pinned], laidTests := true, laidLooks := .later }
def SafetyGroundsCardSaid : Prop := Claim7.holds Tryz.pinned (.plain (OpenSpec.ofChange safetyGroundsSpec)) safetyGroundsCard

/-- THE SECOND FORM's CARD OF 'ostlerlaw08.SafetyGrounds'. -/
def safetyGroundsUptoCard : Claim7 := { stood := { row := safetyGroundsUptoRow, standIns := [], harness := (true, "c771f31e3bcbf650cce18af315e9087355fca8d31c9dec695d18af1691c7d972"), looks := true }, kinds := [], alts := [], laidByText := true, laidKinds := [.data, .pinned], laidTests := true, laidLooks := .later }
def SafetyGroundsUptoCardSaid : Prop := Claim7.holds Tryz.pinned (.plain (OpenSpec.upto safetyGroundsSpec)) safetyGroundsUptoCard
end Rows
end Go.Proofs.YtaclfbhhekhflaaGreatDoor
