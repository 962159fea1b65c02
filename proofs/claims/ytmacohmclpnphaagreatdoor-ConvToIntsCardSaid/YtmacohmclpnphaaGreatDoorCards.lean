/-
  DERIVED. GIVEN WITH THE SEED: THE CARDS: each row of YtmacohmclpnphaaGreatDoorRows.lean that lists a variable, with what it lists TIED to the program's text (the seventh form; the later family's looks); each row that meets fmt, with fmt's text TOLD by the authors' own Lean function (tested against real Go, not proved from fmt's source: count such statements apart). THE CARD IS WHAT COUNTS. Prove the row's statement (the work); the ties are given (YtmacohmclpnphaaGreatDoorTie.lean); close each card by the builder's one call (the guide's Derived/Test/ToyasCard.lean, 'card_holds'). Laid BY PROGRAM, IN A SANDBOX (cutbox-door.mjs). By AI agents, Wed Nov 11 2026. No macro, syntax, notation, axiom, sorry.
-/
import Derived.Test.YtmacohmclpnphaaGreatDoorRows
import GoSem.ClaimSeven
namespace Go.Proofs.YtmacohmclpnphaaGreatDoor
namespace Rows

/-- THE TIED CARD OF 'slipsticklaw.ArithDivs'. -/
def arithDivsCard : Claim7 := { stood := { row := arithDivsRow, standIns := [], harness := (true, "1041eba8c5f3f4b44048649bd2328a22346827d3d02d1b2ad4a4beb5c248afa0"), looks := false }, kinds := [], alts := [], laidByText := true, laidKinds := [.data], laidTests := true, laidLooks := .later }
def ArithDivsCardSaid : Prop := Claim7.holds Tryz.pinned (.plain (OpenSpec.ofChange arithDivsSpec)) arithDivsCard

/-- THE TIED CARD OF 'slipsticklaw.ArithSqrts'. -/
def arithSqrtsCard : Claim7 := { stood := { row := arithSqrtsRow, standIns := [], harness := (true, "1041eba8c5f3f4b44048649bd2328a22346827d3d02d1b2ad4a4beb5c248afa0"), looks := false }, kinds := [], alts := [], laidByText := true, laidKinds := [.data], laidTests := true, laidLooks := .later }
def ArithSqrtsCardSaid : Prop := Claim7.holds Tryz.pinned (.plain (OpenSpec.ofChange arithSqrtsSpec)) arithSqrtsCard

/-- THE TIED CARD OF 'slipsticklaw.ConvFromInts'. -/
def convFromIntsCard : Claim7 := { stood := { row := convFromIntsRow, standIns := [], harness := (true, "1041eba8c5f3f4b44048649bd2328a22346827d3d02d1b2ad4a4beb5c248afa0"), looks := false }, kinds := [], alts := [], laidByText := true, laidKinds := [.data], laidTests := true, laidLooks := .later }
def ConvFromIntsCardSaid : Prop := Claim7.holds Tryz.pinned (.plain (OpenSpec.ofChange convFromIntsSpec)) convFromIntsCard

/-- THE TIED CARD OF 'slipsticklaw.ConvToInts'. -/
def convToIntsCard : Claim7 := { stood := { row := convToIntsRow, standIns := [], harness := (true, "1041eba8c5f3f4b44048649bd2328a22346827d3d02d1b2ad4a4beb5c248afa0"), looks := false }, kinds := [], alts := [], laidByText := true, laidKinds := [.data], laidTests := true, laidLooks := .later }
def ConvToIntsCardSaid : Prop := Claim7.holds Tryz.pinned (.plain (OpenSpec.ofChange convToIntsSpec)) convToIntsCard

/-- THE TIED CARD OF 'slipsticklaw.ConvConverts'. -/
def convConvertsCard : Claim7 := { stood := { row := convConvertsRow, standIns := [], harness := (true, "1041eba8c5f3f4b44048649bd2328a22346827d3d02d1b2ad4a4beb5c248afa0"), looks := false }, kinds := [], alts := [], laidByText := true, laidKinds := [.data], laidTests := true, laidLooks := .later }
def ConvConvertsCardSaid : Prop := Claim7.holds Tryz.pinned (.plain (OpenSpec.ofChange convConvertsSpec)) convConvertsCard

/-- THE TIED CARD OF 'slipsticklaw.TopGrid'. -/
def topGridCard : Claim7 := { stood := { row := topGridRow, standIns := [], harness := (true, "1041eba8c5f3f4b44048649bd2328a22346827d3d02d1b2ad4a4beb5c248afa0"), looks := false }, kinds := [], alts := [], laidByText := true, laidKinds := [.data], laidTests := true, laidLooks := .later }
def TopGridCardSaid : Prop := Claim7.holds Tryz.pinned (.plain (OpenSpec.ofChange topGridSpec)) topGridCard

/-- THE SECOND FORM's CARD OF 'slipsticklaw.ArithDivs'. -/
def arithDivsUptoCard : Claim7 := { stood := { row := arithDivsUptoRow, standIns := [], harness := (true, "1041eba8c5f3f4b44048649bd2328a22346827d3d02d1b2ad4a4beb5c248afa0"), looks := false }, kinds := [], alts := [], laidByText := true, laidKinds := [.data], laidTests := true, laidLooks := .later }
def ArithDivsUptoCardSaid : Prop := Claim7.holds Tryz.pinned (.plain (OpenSpec.upto arithDivsSpec)) arithDivsUptoCard

/-- THE SECOND FORM's CARD OF 'slipsticklaw.ArithSqrts'. -/
def arithSqrtsUptoCard : Claim7 := { stood := { row := arithSqrtsUptoRow, standIns := [], harness := (true, "1041eba8c5f3f4b44048649bd2328a22346827d3d02d1b2ad4a4beb5c248afa0"), looks := false }, kinds := [], alts := [], laidByText := true, laidKinds := [.data], laidTests := true, laidLooks := .later }
def ArithSqrtsUptoCardSaid : Prop := Claim7.holds Tryz.pinned (.plain (OpenSpec.upto arithSqrtsSpec)) arithSqrtsUptoCard

/-- THE SECOND FORM's CARD OF 'slipsticklaw.ConvFromInts'. -/
def convFromIntsUptoCard : Claim7 := { stood := { row := convFromIntsUptoRow, standIns := [], harness := (true, "1041eba8c5f3f4b44048649bd2328a22346827d3d02d1b2ad4a4beb5c248afa0"), looks := false }, kinds := [], alts := [], laidByText := true, laidKinds := [.data], laidTests := true, laidLooks := .later }
def ConvFromIntsUptoCardSaid : Prop := Claim7.holds Tryz.pinned (.plain (OpenSpec.upto convFromIntsSpec)) convFromIntsUptoCard

/-- THE SECOND FORM's CARD OF 'slipsticklaw.ConvToInts'. -/
def convToIntsUptoCard : Claim7 := { stood := { row := convToIntsUptoRow, standIns := [], harness := (true, "1041eba8c5f3f4b44048649bd2328a22346827d3d02d1b2ad4a4beb5c248afa0"), looks := false }, kinds := [], alts := [], laidByText := true, laidKinds := [.data], laidTests := true, laidLooks := .later }
def ConvToIntsUptoCardSaid : Prop := Claim7.holds Tryz.pinned (.plain (OpenSpec.upto convToIntsSpec)) convToIntsUptoCard

/-- THE SECOND FORM's CARD OF 'slipsticklaw.ConvConverts'. -/
def convConvertsUptoCard : Claim7 := { stood := { row := convConvertsUptoRow, standIns := [], harness := (true, "1041eba8c5f3f4b44048649bd2328a22346827d3d02d1b2ad4a4beb5c248afa0"), looks := false }, kinds := [], alts := [], laidByText := true, laidKinds := [.data], laidTests := true, laidLooks := .later }
def ConvConvertsUptoCardSaid : Prop := Claim7.holds Tryz.pinned (.plain (OpenSpec.upto convConvertsSpec)) convConvertsUptoCard

/-- THE SECOND FORM's CARD OF 'slipsticklaw.TopGrid'. -/
def topGridUptoCard : Claim7 := { stood := { row := topGridUptoRow, standIns := [], harness := (true, "1041eba8c5f3f4b44048649bd2328a22346827d3d02d1b2ad4a4beb5c248afa0"), looks := false }, kinds := [], alts := [], laidByText := true, laidKinds := [.data], laidTests := true, laidLooks := .later }
def TopGridUptoCardSaid : Prop := Claim7.holds Tryz.pinned (.plain (OpenSpec.upto topGridSpec)) topGridUptoCard
end Rows
end Go.Proofs.YtmacohmclpnphaaGreatDoor
