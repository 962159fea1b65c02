/-
  DERIVED. GIVEN WITH THE SEED: THE CARDS: each row of YtcbjidcpcompoaaDoorRows.lean that lists a variable, with what it lists TIED to the program's text (the seventh form; the later family's looks); each row that meets fmt, with fmt's text TOLD by the authors' own Lean function (tested against real Go, not proved from fmt's source: count such statements apart). THE CARD IS WHAT COUNTS. Prove the row's statement (the work); the ties are given (YtcbjidcpcompoaaDoorTie.lean); close each card by the builder's one call (the guide's Derived/Test/ToyasCard.lean, 'card_holds'). Laid BY PROGRAM, IN A SANDBOX (cutbox-door.mjs). By AI agents, Wed Nov 11 2026. No macro, syntax, notation, axiom, sorry.
-/
import Derived.Test.YtcbjidcpcompoaaDoorRows
import GoSem.ClaimSeven
namespace Go.Proofs.YtcbjidcpcompoaaDoor
namespace Rows

/-- THE TIED CARD OF 'slipsticklaw.DyadAdds'. -/
def dyadAddsCard : Claim7 := { stood := { row := dyadAddsRow, standIns := [], harness := (true, "da7d17ad23cbb61d60384a076fbb6212d6828bcdb20c48695f1885e8c4ed7fe3"), looks := false }, kinds := [], alts := [], laidByText := true, laidKinds := [.data], laidTests := true, laidLooks := .later }
def DyadAddsCardSaid : Prop := Claim7.holds Tryd.pinned (.plain (OpenSpec.ofChange dyadAddsSpec)) dyadAddsCard

/-- THE TIED CARD OF 'slipsticklaw.DyadChecks'. -/
def dyadChecksCard : Claim7 := { stood := { row := dyadChecksRow, standIns := [], harness := (true, "da7d17ad23cbb61d60384a076fbb6212d6828bcdb20c48695f1885e8c4ed7fe3"), looks := false }, kinds := [], alts := [], laidByText := true, laidKinds := [.data], laidTests := true, laidLooks := .later }
def DyadChecksCardSaid : Prop := Claim7.holds Tryd.pinned (.plain (OpenSpec.ofChange dyadChecksSpec)) dyadChecksCard

/-- THE TIED CARD OF 'slipsticklaw.DyadBares'. -/
def dyadBaresCard : Claim7 := { stood := { row := dyadBaresRow, standIns := [], harness := (true, "da7d17ad23cbb61d60384a076fbb6212d6828bcdb20c48695f1885e8c4ed7fe3"), looks := false }, kinds := [], alts := [], laidByText := true, laidKinds := [.data], laidTests := true, laidLooks := .later }
def DyadBaresCardSaid : Prop := Claim7.holds Tryd.pinned (.plain (OpenSpec.ofChange dyadBaresSpec)) dyadBaresCard

/-- THE TIED CARD OF 'slipsticklaw.DyadScales'. -/
def dyadScalesCard : Claim7 := { stood := { row := dyadScalesRow, standIns := [], harness := (true, "da7d17ad23cbb61d60384a076fbb6212d6828bcdb20c48695f1885e8c4ed7fe3"), looks := false }, kinds := [], alts := [], laidByText := true, laidKinds := [.data], laidTests := true, laidLooks := .later }
def DyadScalesCardSaid : Prop := Claim7.holds Tryd.pinned (.plain (OpenSpec.ofChange dyadScalesSpec)) dyadScalesCard

/-- THE TIED CARD OF 'slipsticklaw.DyadFloors'. -/
def dyadFloorsCard : Claim7 := { stood := { row := dyadFloorsRow, standIns := [], harness := (true, "da7d17ad23cbb61d60384a076fbb6212d6828bcdb20c48695f1885e8c4ed7fe3"), looks := false }, kinds := [], alts := [], laidByText := true, laidKinds := [.data], laidTests := true, laidLooks := .later }
def DyadFloorsCardSaid : Prop := Claim7.holds Tryd.pinned (.plain (OpenSpec.ofChange dyadFloorsSpec)) dyadFloorsCard

/-- THE TIED CARD OF 'slipsticklaw.DyadMuls'. -/
def dyadMulsCard : Claim7 := { stood := { row := dyadMulsRow, standIns := [], harness := (true, "da7d17ad23cbb61d60384a076fbb6212d6828bcdb20c48695f1885e8c4ed7fe3"), looks := false }, kinds := [], alts := [], laidByText := true, laidKinds := [.data], laidTests := true, laidLooks := .later }
def DyadMulsCardSaid : Prop := Claim7.holds Tryd.pinned (.plain (OpenSpec.ofChange dyadMulsSpec)) dyadMulsCard

/-- THE TIED CARD OF 'slipsticklaw.DyadTurns'. -/
def dyadTurnsCard : Claim7 := { stood := { row := dyadTurnsRow, standIns := [], harness := (true, "da7d17ad23cbb61d60384a076fbb6212d6828bcdb20c48695f1885e8c4ed7fe3"), looks := false }, kinds := [], alts := [], laidByText := true, laidKinds := [.data], laidTests := true, laidLooks := .later }
def DyadTurnsCardSaid : Prop := Claim7.holds Tryd.pinned (.plain (OpenSpec.ofChange dyadTurnsSpec)) dyadTurnsCard

/-- THE TIED CARD OF 'slipsticklaw.DyadCompares'. -/
def dyadComparesCard : Claim7 := { stood := { row := dyadComparesRow, standIns := [], harness := (true, "da7d17ad23cbb61d60384a076fbb6212d6828bcdb20c48695f1885e8c4ed7fe3"), looks := false }, kinds := [], alts := [], laidByText := true, laidKinds := [.data], laidTests := true, laidLooks := .later }
def DyadComparesCardSaid : Prop := Claim7.holds Tryd.pinned (.plain (OpenSpec.ofChange dyadComparesSpec)) dyadComparesCard

/-- THE TIED CARD OF 'slipsticklaw.DyadCuts'. -/
def dyadCutsCard : Claim7 := { stood := { row := dyadCutsRow, standIns := [], harness := (true, "da7d17ad23cbb61d60384a076fbb6212d6828bcdb20c48695f1885e8c4ed7fe3"), looks := false }, kinds := [], alts := [], laidByText := true, laidKinds := [.data], laidTests := true, laidLooks := .later }
def DyadCutsCardSaid : Prop := Claim7.holds Tryd.pinned (.plain (OpenSpec.ofChange dyadCutsSpec)) dyadCutsCard

/-- THE TIED CARD OF 'slipsticklaw.DyadBetween'. -/
def dyadBetweenCard : Claim7 := { stood := { row := dyadBetweenRow, standIns := [], harness := (true, "da7d17ad23cbb61d60384a076fbb6212d6828bcdb20c48695f1885e8c4ed7fe3"), looks := false }, kinds := [], alts := [], laidByText := true, laidKinds := [.data], laidTests := true, laidLooks := .later }
def DyadBetweenCardSaid : Prop := Claim7.holds Tryd.pinned (.plain (OpenSpec.ofChange dyadBetweenSpec)) dyadBetweenCard

/-- THE SECOND FORM's CARD OF 'slipsticklaw.DyadAdds'. -/
def dyadAddsUptoCard : Claim7 := { stood := { row := dyadAddsUptoRow, standIns := [], harness := (true, "da7d17ad23cbb61d60384a076fbb6212d6828bcdb20c48695f1885e8c4ed7fe3"), looks := false }, kinds := [], alts := [], laidByText := true, laidKinds := [.data], laidTests := true, laidLooks := .later }
def DyadAddsUptoCardSaid : Prop := Claim7.holds Tryd.pinned (.plain (OpenSpec.upto dyadAddsSpec)) dyadAddsUptoCard

/-- THE SECOND FORM's CARD OF 'slipsticklaw.DyadChecks'. -/
def dyadChecksUptoCard : Claim7 := { stood := { row := dyadChecksUptoRow, standIns := [], harness := (true, "da7d17ad23cbb61d60384a076fbb6212d6828bcdb20c48695f1885e8c4ed7fe3"), looks := false }, kinds := [], alts := [], laidByText := true, laidKinds := [.data], laidTests := true, laidLooks := .later }
def DyadChecksUptoCardSaid : Prop := Claim7.holds Tryd.pinned (.plain (OpenSpec.upto dyadChecksSpec)) dyadChecksUptoCard

/-- THE SECOND FORM's CARD OF 'slipsticklaw.DyadBares'. -/
def dyadBaresUptoCard : Claim7 := { stood := { row := dyadBaresUptoRow, standIns := [], harness := (true, "da7d17ad23cbb61d60384a076fbb6212d6828bcdb20c48695f1885e8c4ed7fe3"), looks := false }, kinds := [], alts := [], laidByText := true, laidKinds := [.data], laidTests := true, laidLooks := .later }
def DyadBaresUptoCardSaid : Prop := Claim7.holds Tryd.pinned (.plain (OpenSpec.upto dyadBaresSpec)) dyadBaresUptoCard

/-- THE SECOND FORM's CARD OF 'slipsticklaw.DyadScales'. -/
def dyadScalesUptoCard : Claim7 := { stood := { row := dyadScalesUptoRow, standIns := [], harness := (true, "da7d17ad23cbb61d60384a076fbb6212d6828bcdb20c48695f1885e8c4ed7fe3"), looks := false }, kinds := [], alts := [], laidByText := true, laidKinds := [.data], laidTests := true, laidLooks := .later }
def DyadScalesUptoCardSaid : Prop := Claim7.holds Tryd.pinned (.plain (OpenSpec.upto dyadScalesSpec)) dyadScalesUptoCard

/-- THE SECOND FORM's CARD OF 'slipsticklaw.DyadFloors'. -/
def dyadFloorsUptoCard : Claim7 := { stood := { row := dyadFloorsUptoRow, standIns := [], harness := (true, "da7d17ad23cbb61d60384a076fbb6212d6828bcdb20c48695f1885e8c4ed7fe3"), looks := false }, kinds := [], alts := [], laidByText := true, laidKinds := [.data], laidTests := true, laidLooks := .later }
def DyadFloorsUptoCardSaid : Prop := Claim7.holds Tryd.pinned (.plain (OpenSpec.upto dyadFloorsSpec)) dyadFloorsUptoCard

/-- THE SECOND FORM's CARD OF 'slipsticklaw.DyadMuls'. -/
def dyadMulsUptoCard : Claim7 := { stood := { row := dyadMulsUptoRow, standIns := [], harness := (true, "da7d17ad23cbb61d60384a076fbb6212d6828bcdb20c48695f1885e8c4ed7fe3"), looks := false }, kinds := [], alts := [], laidByText := true, laidKinds := [.data], laidTests := true, laidLooks := .later }
def DyadMulsUptoCardSaid : Prop := Claim7.holds Tryd.pinned (.plain (OpenSpec.upto dyadMulsSpec)) dyadMulsUptoCard

/-- THE SECOND FORM's CARD OF 'slipsticklaw.DyadTurns'. -/
def dyadTurnsUptoCard : Claim7 := { stood := { row := dyadTurnsUptoRow, standIns := [], harness := (true, "da7d17ad23cbb61d60384a076fbb6212d6828bcdb20c48695f1885e8c4ed7fe3"), looks := false }, kinds := [], alts := [], laidByText := true, laidKinds := [.data], laidTests := true, laidLooks := .later }
def DyadTurnsUptoCardSaid : Prop := Claim7.holds Tryd.pinned (.plain (OpenSpec.upto dyadTurnsSpec)) dyadTurnsUptoCard

/-- THE SECOND FORM's CARD OF 'slipsticklaw.DyadCompares'. -/
def dyadComparesUptoCard : Claim7 := { stood := { row := dyadComparesUptoRow, standIns := [], harness := (true, "da7d17ad23cbb61d60384a076fbb6212d6828bcdb20c48695f1885e8c4ed7fe3"), looks := false }, kinds := [], alts := [], laidByText := true, laidKinds := [.data], laidTests := true, laidLooks := .later }
def DyadComparesUptoCardSaid : Prop := Claim7.holds Tryd.pinned (.plain (OpenSpec.upto dyadComparesSpec)) dyadComparesUptoCard

/-- THE SECOND FORM's CARD OF 'slipsticklaw.DyadCuts'. -/
def dyadCutsUptoCard : Claim7 := { stood := { row := dyadCutsUptoRow, standIns := [], harness := (true, "da7d17ad23cbb61d60384a076fbb6212d6828bcdb20c48695f1885e8c4ed7fe3"), looks := false }, kinds := [], alts := [], laidByText := true, laidKinds := [.data], laidTests := true, laidLooks := .later }
def DyadCutsUptoCardSaid : Prop := Claim7.holds Tryd.pinned (.plain (OpenSpec.upto dyadCutsSpec)) dyadCutsUptoCard

/-- THE SECOND FORM's CARD OF 'slipsticklaw.DyadBetween'. -/
def dyadBetweenUptoCard : Claim7 := { stood := { row := dyadBetweenUptoRow, standIns := [], harness := (true, "da7d17ad23cbb61d60384a076fbb6212d6828bcdb20c48695f1885e8c4ed7fe3"), looks := false }, kinds := [], alts := [], laidByText := true, laidKinds := [.data], laidTests := true, laidLooks := .later }
def DyadBetweenUptoCardSaid : Prop := Claim7.holds Tryd.pinned (.plain (OpenSpec.upto dyadBetweenSpec)) dyadBetweenUptoCard
end Rows
end Go.Proofs.YtcbjidcpcompoaaDoor
