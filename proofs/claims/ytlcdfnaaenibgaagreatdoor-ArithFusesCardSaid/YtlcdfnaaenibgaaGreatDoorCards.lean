/-
  DERIVED. GIVEN WITH THE SEED: THE CARDS: each row of YtlcdfnaaenibgaaGreatDoorRows.lean that lists a variable, with what it lists TIED to the program's text (the seventh form; the later family's looks); each row that meets fmt, with fmt's text TOLD by the authors' own Lean function (tested against real Go, not proved from fmt's source: count such statements apart). THE CARD IS WHAT COUNTS. Prove the row's statement (the work); the ties are given (YtlcdfnaaenibgaaGreatDoorTie.lean); close each card by the builder's one call (the guide's Derived/Test/ToyasCard.lean, 'card_holds'). Laid BY PROGRAM, IN A SANDBOX (cutbox-door.mjs). By AI agents, Wed Nov 11 2026. No macro, syntax, notation, axiom, sorry.
-/
import Derived.Test.YtlcdfnaaenibgaaGreatDoorRows
import GoSem.ClaimSeven
namespace Go.Proofs.YtlcdfnaaenibgaaGreatDoor
namespace Rows

/-- THE TIED CARD OF 'slipsticklaw.ArithAdds'. -/
def arithAddsCard : Claim7 := { stood := { row := arithAddsRow, standIns := [], harness := (true, "5c4e510400620acafa224cfe483535777b442e6d6def72c6e2ff48264eb11e2d"), looks := false }, kinds := [], alts := [], laidByText := true, laidKinds := [.data], laidTests := true, laidLooks := .later }
def ArithAddsCardSaid : Prop := Claim7.holds Tryz.pinned (.plain (OpenSpec.ofChange arithAddsSpec)) arithAddsCard

/-- THE TIED CARD OF 'slipsticklaw.ArithSubs'. -/
def arithSubsCard : Claim7 := { stood := { row := arithSubsRow, standIns := [], harness := (true, "5c4e510400620acafa224cfe483535777b442e6d6def72c6e2ff48264eb11e2d"), looks := false }, kinds := [], alts := [], laidByText := true, laidKinds := [.data], laidTests := true, laidLooks := .later }
def ArithSubsCardSaid : Prop := Claim7.holds Tryz.pinned (.plain (OpenSpec.ofChange arithSubsSpec)) arithSubsCard

/-- THE TIED CARD OF 'slipsticklaw.ArithDivs'. -/
def arithDivsCard : Claim7 := { stood := { row := arithDivsRow, standIns := [], harness := (true, "5c4e510400620acafa224cfe483535777b442e6d6def72c6e2ff48264eb11e2d"), looks := false }, kinds := [], alts := [], laidByText := true, laidKinds := [.data], laidTests := true, laidLooks := .later }
def ArithDivsCardSaid : Prop := Claim7.holds Tryz.pinned (.plain (OpenSpec.ofChange arithDivsSpec)) arithDivsCard

/-- THE TIED CARD OF 'slipsticklaw.ArithMuls'. -/
def arithMulsCard : Claim7 := { stood := { row := arithMulsRow, standIns := [], harness := (true, "5c4e510400620acafa224cfe483535777b442e6d6def72c6e2ff48264eb11e2d"), looks := false }, kinds := [], alts := [], laidByText := true, laidKinds := [.data], laidTests := true, laidLooks := .later }
def ArithMulsCardSaid : Prop := Claim7.holds Tryz.pinned (.plain (OpenSpec.ofChange arithMulsSpec)) arithMulsCard

/-- THE TIED CARD OF 'slipsticklaw.ArithCompares'. -/
def arithComparesCard : Claim7 := { stood := { row := arithComparesRow, standIns := [], harness := (true, "5c4e510400620acafa224cfe483535777b442e6d6def72c6e2ff48264eb11e2d"), looks := false }, kinds := [], alts := [], laidByText := true, laidKinds := [.data], laidTests := true, laidLooks := .later }
def ArithComparesCardSaid : Prop := Claim7.holds Tryz.pinned (.plain (OpenSpec.ofChange arithComparesSpec)) arithComparesCard

/-- THE TIED CARD OF 'slipsticklaw.ArithFuses'. -/
def arithFusesCard : Claim7 := { stood := { row := arithFusesRow, standIns := [], harness := (true, "5c4e510400620acafa224cfe483535777b442e6d6def72c6e2ff48264eb11e2d"), looks := false }, kinds := [], alts := [], laidByText := true, laidKinds := [.data], laidTests := true, laidLooks := .later }
def ArithFusesCardSaid : Prop := Claim7.holds Tryz.pinned (.plain (OpenSpec.ofChange arithFusesSpec)) arithFusesCard

/-- THE TIED CARD OF 'slipsticklaw.ArithFits'. -/
def arithFitsCard : Claim7 := { stood := { row := arithFitsRow, standIns := [], harness := (true, "5c4e510400620acafa224cfe483535777b442e6d6def72c6e2ff48264eb11e2d"), looks := false }, kinds := [], alts := [], laidByText := true, laidKinds := [.data], laidTests := true, laidLooks := .later }
def ArithFitsCardSaid : Prop := Claim7.holds Tryz.pinned (.plain (OpenSpec.ofChange arithFitsSpec)) arithFitsCard

/-- THE SECOND FORM's CARD OF 'slipsticklaw.ArithAdds'. -/
def arithAddsUptoCard : Claim7 := { stood := { row := arithAddsUptoRow, standIns := [], harness := (true, "5c4e510400620acafa224cfe483535777b442e6d6def72c6e2ff48264eb11e2d"), looks := false }, kinds := [], alts := [], laidByText := true, laidKinds := [.data], laidTests := true, laidLooks := .later }
def ArithAddsUptoCardSaid : Prop := Claim7.holds Tryz.pinned (.plain (OpenSpec.upto arithAddsSpec)) arithAddsUptoCard

/-- THE SECOND FORM's CARD OF 'slipsticklaw.ArithSubs'. -/
def arithSubsUptoCard : Claim7 := { stood := { row := arithSubsUptoRow, standIns := [], harness := (true, "5c4e510400620acafa224cfe483535777b442e6d6def72c6e2ff48264eb11e2d"), looks := false }, kinds := [], alts := [], laidByText := true, laidKinds := [.data], laidTests := true, laidLooks := .later }
def ArithSubsUptoCardSaid : Prop := Claim7.holds Tryz.pinned (.plain (OpenSpec.upto arithSubsSpec)) arithSubsUptoCard

/-- THE SECOND FORM's CARD OF 'slipsticklaw.ArithDivs'. -/
def arithDivsUptoCard : Claim7 := { stood := { row := arithDivsUptoRow, standIns := [], harness := (true, "5c4e510400620acafa224cfe483535777b442e6d6def72c6e2ff48264eb11e2d"), looks := false }, kinds := [], alts := [], laidByText := true, laidKinds := [.data], laidTests := true, laidLooks := .later }
def ArithDivsUptoCardSaid : Prop := Claim7.holds Tryz.pinned (.plain (OpenSpec.upto arithDivsSpec)) arithDivsUptoCard

/-- THE SECOND FORM's CARD OF 'slipsticklaw.ArithMuls'. -/
def arithMulsUptoCard : Claim7 := { stood := { row := arithMulsUptoRow, standIns := [], harness := (true, "5c4e510400620acafa224cfe483535777b442e6d6def72c6e2ff48264eb11e2d"), looks := false }, kinds := [], alts := [], laidByText := true, laidKinds := [.data], laidTests := true, laidLooks := .later }
def ArithMulsUptoCardSaid : Prop := Claim7.holds Tryz.pinned (.plain (OpenSpec.upto arithMulsSpec)) arithMulsUptoCard

/-- THE SECOND FORM's CARD OF 'slipsticklaw.ArithCompares'. -/
def arithComparesUptoCard : Claim7 := { stood := { row := arithComparesUptoRow, standIns := [], harness := (true, "5c4e510400620acafa224cfe483535777b442e6d6def72c6e2ff48264eb11e2d"), looks := false }, kinds := [], alts := [], laidByText := true, laidKinds := [.data], laidTests := true, laidLooks := .later }
def ArithComparesUptoCardSaid : Prop := Claim7.holds Tryz.pinned (.plain (OpenSpec.upto arithComparesSpec)) arithComparesUptoCard

/-- THE SECOND FORM's CARD OF 'slipsticklaw.ArithFuses'. -/
def arithFusesUptoCard : Claim7 := { stood := { row := arithFusesUptoRow, standIns := [], harness := (true, "5c4e510400620acafa224cfe483535777b442e6d6def72c6e2ff48264eb11e2d"), looks := false }, kinds := [], alts := [], laidByText := true, laidKinds := [.data], laidTests := true, laidLooks := .later }
def ArithFusesUptoCardSaid : Prop := Claim7.holds Tryz.pinned (.plain (OpenSpec.upto arithFusesSpec)) arithFusesUptoCard

/-- THE SECOND FORM's CARD OF 'slipsticklaw.ArithFits'. -/
def arithFitsUptoCard : Claim7 := { stood := { row := arithFitsUptoRow, standIns := [], harness := (true, "5c4e510400620acafa224cfe483535777b442e6d6def72c6e2ff48264eb11e2d"), looks := false }, kinds := [], alts := [], laidByText := true, laidKinds := [.data], laidTests := true, laidLooks := .later }
def ArithFitsUptoCardSaid : Prop := Claim7.holds Tryz.pinned (.plain (OpenSpec.upto arithFitsSpec)) arithFitsUptoCard
end Rows
end Go.Proofs.YtlcdfnaaenibgaaGreatDoor
