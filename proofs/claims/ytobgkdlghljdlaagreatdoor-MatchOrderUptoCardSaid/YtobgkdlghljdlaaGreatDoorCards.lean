/-
  DERIVED. GIVEN WITH THE SEED: THE CARDS: each row of YtobgkdlghljdlaaGreatDoorRows.lean that lists a variable, with what it lists TIED to the program's text (the seventh form; the later family's looks); each row that meets fmt, with fmt's text TOLD by the authors' own Lean function (tested against real Go, not proved from fmt's source: count such statements apart). THE CARD IS WHAT COUNTS. Prove the row's statement (the work); the ties are given (YtobgkdlghljdlaaGreatDoorTie.lean); close each card by the builder's one call (the guide's Derived/Test/ToyasCard.lean, 'card_holds'). Laid BY PROGRAM, IN A SANDBOX (cutbox-door.mjs). By AI agents, Wed Nov 11 2026. No macro, syntax, notation, axiom, sorry.
-/
import Derived.Test.YtobgkdlghljdlaaGreatDoorRows
import GoSem.ClaimSeven
namespace Go.Proofs.YtobgkdlghljdlaaGreatDoor
namespace Rows

/-- THE TIED CARD OF 'ostlerlaw07.MatchOrder'. -/
def matchOrderCard : Claim7 := { stood := { row := matchOrderRow, standIns := [], harness := (true, "be33fee0d675a7a63535f690cf608918ae7ff08c6695b464d1ee1b5155b27b17"), looks := true }, kinds := [], alts := [], laidByText := true, laidKinds := [.data, .pinned], laidTests := true, laidLooks := .later }
def MatchOrderCardSaid : Prop := Claim7.holds Tryz.pinned (.plain (OpenSpec.ofChange matchOrderSpec)) matchOrderCard

/-- THE TIED CARD OF 'ostlerlaw07.MatchSound'. -/
def matchSoundCard : Claim7 := { stood := { row := matchSoundRow, standIns := [], harness := (true, "be33fee0d675a7a63535f690cf608918ae7ff08c6695b464d1ee1b5155b27b17"), looks := true }, kinds := [], alts := [], laidByText := true, laidKinds := [.data, .pinned], laidTests := true, laidLooks := .later }
def MatchSoundCardSaid : Prop := Claim7.holds Tryz.pinned (.plain (OpenSpec.ofChange matchSoundSpec)) matchSoundCard

/-- THE TIED CARD OF 'ostlerlaw07.MatchLaws'. -/
def matchLawsCard : Claim7 := { stood := { row := matchLawsRow, standIns := [], harness := (true, "be33fee0d675a7a63535f690cf608918ae7ff08c6695b464d1ee1b5155b27b17"), looks := true }, kinds := [], alts := [], laidByText := true, laidKinds := [.data, .pinned], laidTests := true, laidLooks := .later }
def MatchLawsCardSaid : Prop := Claim7.holds Tryz.pinned (.plain (OpenSpec.ofChange matchLawsSpec)) matchLawsCard

/-- THE TIED CARD OF 'ostlerlaw07.MatchFinds'. -/
def matchFindsCard : Claim7 := { stood := { row := matchFindsRow, standIns := [], harness := (true, "be33fee0d675a7a63535f690cf608918ae7ff08c6695b464d1ee1b5155b27b17"), looks := true }, kinds := [], alts := [], laidByText := true, laidKinds := [.data, .pinned], laidTests := true, laidLooks := .later }
def MatchFindsCardSaid : Prop := Claim7.holds Tryz.pinned (.plain (OpenSpec.ofChange matchFindsSpec)) matchFindsCard

/-- THE SECOND FORM's CARD OF 'ostlerlaw07.MatchOrder'. -/
def matchOrderUptoCard : Claim7 := { stood := { row := matchOrderUptoRow, standIns := [], harness := (true, "be33fee0d675a7a63535f690cf608918ae7ff08c6695b464d1ee1b5155b27b17"), looks := true }, kinds := [], alts := [], laidByText := true, laidKinds := [.data, .pinned], laidTests := true, laidLooks := .later }
def MatchOrderUptoCardSaid : Prop := Claim7.holds Tryz.pinned (.plain (OpenSpec.upto matchOrderSpec)) matchOrderUptoCard

/-- THE SECOND FORM's CARD OF 'ostlerlaw07.MatchSound'. -/
def matchSoundUptoCard : Claim7 := { stood := { row := matchSoundUptoRow, standIns := [], harness := (true, "be33fee0d675a7a63535f690cf608918ae7ff08c6695b464d1ee1b5155b27b17"), looks := true }, kinds := [], alts := [], laidByText := true, laidKinds := [.data, .pinned], laidTests := true, laidLooks := .later }
def MatchSoundUptoCardSaid : Prop := Claim7.holds Tryz.pinned (.plain (OpenSpec.upto matchSoundSpec)) matchSoundUptoCard

/-- THE SECOND FORM's CARD OF 'ostlerlaw07.MatchLaws'. -/
def matchLawsUptoCard : Claim7 := { stood := { row := matchLawsUptoRow, standIns := [], harness := (true, "be33fee0d675a7a63535f690cf608918ae7ff08c6695b464d1ee1b5155b27b17"), looks := true }, kinds := [], alts := [], laidByText := true, laidKinds := [.data, .pinned], laidTests := true, laidLooks := .later }
def MatchLawsUptoCardSaid : Prop := Claim7.holds Tryz.pinned (.plain (OpenSpec.upto matchLawsSpec)) matchLawsUptoCard

/-- THE SECOND FORM's CARD OF 'ostlerlaw07.MatchFinds'. -/
def matchFindsUptoCard : Claim7 := { stood := { row := matchFindsUptoRow, standIns := [], harness := (true, "be33fee0d675a7a63535f690cf608918ae7ff08c6695b464d1ee1b5155b27b17"), looks := true }, kinds := [], alts := [], laidByText := true, laidKinds := [.data, .pinned], laidTests := true, laidLooks := .later }
def MatchFindsUptoCardSaid : Prop := Claim7.holds Tryz.pinned (.plain (OpenSpec.upto matchFindsSpec)) matchFindsUptoCard
end Rows
end Go.Proofs.YtobgkdlghljdlaaGreatDoor
