/-
  DERIVED. GIVEN WITH THE SEED: THE CARDS: each row of YtgbbhlginbmghaaGreatDoorRows.lean that lists a variable, with what it lists TIED to the program's text (the seventh form; the later family's looks); each row that meets fmt, with fmt's text TOLD by the authors' own Lean function (tested against real Go, not proved from fmt's source: count such statements apart). THE CARD IS WHAT COUNTS. Prove the row's statement (the work); the ties are given (YtgbbhlginbmghaaGreatDoorTie.lean); close each card by the builder's one call (the guide's Derived/Test/ToyasCard.lean, 'card_holds'). Laid BY PROGRAM, IN A SANDBOX (cutbox-door.mjs). By AI agents, Wed Nov 11 2026. No macro, syntax, notation, axiom, sorry.
-/
import Derived.Test.YtgbbhlginbmghaaGreatDoorRows
import GoSem.ClaimSeven
namespace Go.Proofs.YtgbbhlginbmghaaGreatDoor
namespace Rows

/-- THE TIED CARD OF 'slipsticklaw.TopMachine'. -/
def topMachineCard : Claim7 := { stood := { row := topMachineRow, standIns := [], harness := (true, "7d028ea23e35c61c6058d8a42ef77c849df2c1efea6cbcbfebafe94ce41f9a03"), looks := true }, kinds := [], alts := [], laidByText := true, laidKinds := [.data, .data, .data, .data, .sentinel, .sentinel, .pinned], laidTests := true, laidLooks := .later }
def TopMachineCardSaid : Prop := Claim7.holds Tryz.pinned (.plain (OpenSpec.ofChange topMachineSpec)) topMachineCard

/-- THE TIED CARD OF 'slipsticklaw.MachineChecks'. -/
def machineChecksCard : Claim7 := { stood := { row := machineChecksRow, standIns := [], harness := (true, "7d028ea23e35c61c6058d8a42ef77c849df2c1efea6cbcbfebafe94ce41f9a03"), looks := true }, kinds := [], alts := [], laidByText := true, laidKinds := [.data, .data, .data, .data, .sentinel, .sentinel, .pinned], laidTests := true, laidLooks := .later }
def MachineChecksCardSaid : Prop := Claim7.holds Tryz.pinned (.plain (OpenSpec.ofChange machineChecksSpec)) machineChecksCard

/-- THE TIED CARD OF 'slipsticklaw.MachineShows'. -/
def machineShowsCard : Claim7 := { stood := { row := machineShowsRow, standIns := [], harness := (true, "7d028ea23e35c61c6058d8a42ef77c849df2c1efea6cbcbfebafe94ce41f9a03"), looks := true }, kinds := [], alts := [], laidByText := true, laidKinds := [.data, .data, .data, .data, .sentinel, .sentinel, .pinned], laidTests := true, laidLooks := .later }
def MachineShowsCardSaid : Prop := Claim7.holds Tryz.pinned (.plain (OpenSpec.ofChange machineShowsSpec)) machineShowsCard

/-- THE SECOND FORM's CARD OF 'slipsticklaw.TopMachine'. -/
def topMachineUptoCard : Claim7 := { stood := { row := topMachineUptoRow, standIns := [], harness := (true, "7d028ea23e35c61c6058d8a42ef77c849df2c1efea6cbcbfebafe94ce41f9a03"), looks := true }, kinds := [], alts := [], laidByText := true, laidKinds := [.data, .data, .data, .data, .sentinel, .sentinel, .pinned], laidTests := true, laidLooks := .later }
def TopMachineUptoCardSaid : Prop := Claim7.holds Tryz.pinned (.plain (OpenSpec.upto topMachineSpec)) topMachineUptoCard

/-- THE SECOND FORM's CARD OF 'slipsticklaw.MachineChecks'. -/
def machineChecksUptoCard : Claim7 := { stood := { row := machineChecksUptoRow, standIns := [], harness := (true, "7d028ea23e35c61c6058d8a42ef77c849df2c1efea6cbcbfebafe94ce41f9a03"), looks := true }, kinds := [], alts := [], laidByText := true, laidKinds := [.data, .data, .data, .data, .sentinel, .sentinel, .pinned], laidTests := true, laidLooks := .later }
def MachineChecksUptoCardSaid : Prop := Claim7.holds Tryz.pinned (.plain (OpenSpec.upto machineChecksSpec)) machineChecksUptoCard

/-- THE SECOND FORM's CARD OF 'slipsticklaw.MachineShows'. -/
def machineShowsUptoCard : Claim7 := { stood := { row := machineShowsUptoRow, standIns := [], harness := (true, "7d028ea23e35c61c6058d8a42ef77c849df2c1efea6cbcbfebafe94ce41f9a03"), looks := true }, kinds := [], alts := [], laidByText := true, laidKinds := [.data, .data, .data, .data, .sentinel, .sentinel, .pinned], laidTests := true, laidLooks := .later }
def MachineShowsUptoCardSaid : Prop := Claim7.holds Tryz.pinned (.plain (OpenSpec.upto machineShowsSpec)) machineShowsUptoCard
end Rows
end Go.Proofs.YtgbbhlginbmghaaGreatDoor
