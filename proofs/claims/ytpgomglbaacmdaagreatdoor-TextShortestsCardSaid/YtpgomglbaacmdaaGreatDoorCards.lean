/-
  DERIVED. GIVEN WITH THE SEED: THE CARDS: each row of YtpgomglbaacmdaaGreatDoorRows.lean that lists a variable, with what it lists TIED to the program's text (the seventh form; the later family's looks); each row that meets fmt, with fmt's text TOLD by the authors' own Lean function (tested against real Go, not proved from fmt's source: count such statements apart). THE CARD IS WHAT COUNTS. Prove the row's statement (the work); the ties are given (YtpgomglbaacmdaaGreatDoorTie.lean); close each card by the builder's one call (the guide's Derived/Test/ToyasCard.lean, 'card_holds'). Laid BY PROGRAM, IN A SANDBOX (cutbox-door.mjs). By AI agents, Wed Nov 11 2026. No macro, syntax, notation, axiom, sorry.
-/
import Derived.Test.YtpgomglbaacmdaaGreatDoorRows
import GoSem.ClaimSeven
namespace Go.Proofs.YtpgomglbaacmdaaGreatDoor
namespace Rows

/-- THE TIED CARD OF 'slipsticklaw.TextShortests'. -/
def textShortestsCard : Claim7 := { stood := { row := textShortestsRow, standIns := [], harness := (true, "b72b1fbb015a698834eb9c29836148e74bf33a4229d5e338309047ec93dc55f2"), looks := true }, kinds := [], alts := [], laidByText := true, laidKinds := [.data, .data, .data, .data, .sentinel, .sentinel, .pinned], laidTests := true, laidLooks := .later }
def TextShortestsCardSaid : Prop := Claim7.holds Tryz.pinned (.plain (OpenSpec.ofChange textShortestsSpec)) textShortestsCard

/-- THE SECOND FORM's CARD OF 'slipsticklaw.TextShortests'. -/
def textShortestsUptoCard : Claim7 := { stood := { row := textShortestsUptoRow, standIns := [], harness := (true, "b72b1fbb015a698834eb9c29836148e74bf33a4229d5e338309047ec93dc55f2"), looks := true }, kinds := [], alts := [], laidByText := true, laidKinds := [.data, .data, .data, .data, .sentinel, .sentinel, .pinned], laidTests := true, laidLooks := .later }
def TextShortestsUptoCardSaid : Prop := Claim7.holds Tryz.pinned (.plain (OpenSpec.upto textShortestsSpec)) textShortestsUptoCard
end Rows
end Go.Proofs.YtpgomglbaacmdaaGreatDoor
