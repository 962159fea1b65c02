/-
  DERIVED. GIVEN WITH THE SEED: THE CARDS: each row of YtmacohmclpnphaaDoorRows.lean that lists a variable, with what it lists TIED to the program's text (the seventh form; the later family's looks); each row that meets fmt, with fmt's text TOLD by the authors' own Lean function (tested against real Go, not proved from fmt's source: count such statements apart). THE CARD IS WHAT COUNTS. Prove the row's statement (the work); the ties are given (YtmacohmclpnphaaDoorTie.lean); close each card by the builder's one call (the guide's Derived/Test/ToyasCard.lean, 'card_holds'). Laid BY PROGRAM, IN A SANDBOX (cutbox-door.mjs). By AI agents, Wed Nov 11 2026. No macro, syntax, notation, axiom, sorry.
-/
import Derived.Test.YtmacohmclpnphaaDoorRows
import GoSem.ClaimSeven
namespace Go.Proofs.YtmacohmclpnphaaDoor
namespace Rows

/-- THE TIED CARD OF 'slipsticklaw.CodecSteps'. -/
def codecStepsCard : Claim7 := { stood := { row := codecStepsRow, standIns := [], harness := (true, "9da97e8d6dadab38c0969b3befc4883caeb1fb52fd215c7da4461e62e4263e01"), looks := false }, kinds := [], alts := [], laidByText := true, laidKinds := [.data], laidTests := true, laidLooks := .later }
def CodecStepsCardSaid : Prop := Claim7.holds Tryd.pinned (.plain (OpenSpec.ofChange codecStepsSpec)) codecStepsCard

/-- THE TIED CARD OF 'slipsticklaw.ArithTurns'. -/
def arithTurnsCard : Claim7 := { stood := { row := arithTurnsRow, standIns := [], harness := (true, "9da97e8d6dadab38c0969b3befc4883caeb1fb52fd215c7da4461e62e4263e01"), looks := false }, kinds := [], alts := [], laidByText := true, laidKinds := [.data], laidTests := true, laidLooks := .later }
def ArithTurnsCardSaid : Prop := Claim7.holds Tryd.pinned (.plain (OpenSpec.ofChange arithTurnsSpec)) arithTurnsCard

/-- THE TIED CARD OF 'slipsticklaw.ArithSelf'. -/
def arithSelfCard : Claim7 := { stood := { row := arithSelfRow, standIns := [], harness := (true, "9da97e8d6dadab38c0969b3befc4883caeb1fb52fd215c7da4461e62e4263e01"), looks := false }, kinds := [], alts := [], laidByText := true, laidKinds := [.data], laidTests := true, laidLooks := .later }
def ArithSelfCardSaid : Prop := Claim7.holds Tryd.pinned (.plain (OpenSpec.ofChange arithSelfSpec)) arithSelfCard

/-- THE TIED CARD OF 'slipsticklaw.ArithOne'. -/
def arithOneCard : Claim7 := { stood := { row := arithOneRow, standIns := [], harness := (true, "9da97e8d6dadab38c0969b3befc4883caeb1fb52fd215c7da4461e62e4263e01"), looks := false }, kinds := [], alts := [], laidByText := true, laidKinds := [.data], laidTests := true, laidLooks := .later }
def ArithOneCardSaid : Prop := Claim7.holds Tryd.pinned (.plain (OpenSpec.ofChange arithOneSpec)) arithOneCard

/-- THE TIED CARD OF 'slipsticklaw.ArithBounds'. -/
def arithBoundsCard : Claim7 := { stood := { row := arithBoundsRow, standIns := [], harness := (true, "9da97e8d6dadab38c0969b3befc4883caeb1fb52fd215c7da4461e62e4263e01"), looks := false }, kinds := [], alts := [], laidByText := true, laidKinds := [.data], laidTests := true, laidLooks := .later }
def ArithBoundsCardSaid : Prop := Claim7.holds Tryd.pinned (.plain (OpenSpec.ofChange arithBoundsSpec)) arithBoundsCard

/-- THE TIED CARD OF 'slipsticklaw.ArithSquares'. -/
def arithSquaresCard : Claim7 := { stood := { row := arithSquaresRow, standIns := [], harness := (true, "9da97e8d6dadab38c0969b3befc4883caeb1fb52fd215c7da4461e62e4263e01"), looks := false }, kinds := [], alts := [], laidByText := true, laidKinds := [.data], laidTests := true, laidLooks := .later }
def ArithSquaresCardSaid : Prop := Claim7.holds Tryd.pinned (.plain (OpenSpec.ofChange arithSquaresSpec)) arithSquaresCard

/-- THE TIED CARD OF 'slipsticklaw.ConvExacts'. -/
def convExactsCard : Claim7 := { stood := { row := convExactsRow, standIns := [], harness := (true, "9da97e8d6dadab38c0969b3befc4883caeb1fb52fd215c7da4461e62e4263e01"), looks := false }, kinds := [], alts := [], laidByText := true, laidKinds := [.data], laidTests := true, laidLooks := .later }
def ConvExactsCardSaid : Prop := Claim7.holds Tryd.pinned (.plain (OpenSpec.ofChange convExactsSpec)) convExactsCard

/-- THE TIED CARD OF 'slipsticklaw.ConvBack'. -/
def convBackCard : Claim7 := { stood := { row := convBackRow, standIns := [], harness := (true, "9da97e8d6dadab38c0969b3befc4883caeb1fb52fd215c7da4461e62e4263e01"), looks := false }, kinds := [], alts := [], laidByText := true, laidKinds := [.data], laidTests := true, laidLooks := .later }
def ConvBackCardSaid : Prop := Claim7.holds Tryd.pinned (.plain (OpenSpec.ofChange convBackSpec)) convBackCard

/-- THE TIED CARD OF 'slipsticklaw.ConvThrough'. -/
def convThroughCard : Claim7 := { stood := { row := convThroughRow, standIns := [], harness := (true, "9da97e8d6dadab38c0969b3befc4883caeb1fb52fd215c7da4461e62e4263e01"), looks := false }, kinds := [], alts := [], laidByText := true, laidKinds := [.data], laidTests := true, laidLooks := .later }
def ConvThroughCardSaid : Prop := Claim7.holds Tryd.pinned (.plain (OpenSpec.ofChange convThroughSpec)) convThroughCard

/-- THE SECOND FORM's CARD OF 'slipsticklaw.CodecSteps'. -/
def codecStepsUptoCard : Claim7 := { stood := { row := codecStepsUptoRow, standIns := [], harness := (true, "9da97e8d6dadab38c0969b3befc4883caeb1fb52fd215c7da4461e62e4263e01"), looks := false }, kinds := [], alts := [], laidByText := true, laidKinds := [.data], laidTests := true, laidLooks := .later }
def CodecStepsUptoCardSaid : Prop := Claim7.holds Tryd.pinned (.plain (OpenSpec.upto codecStepsSpec)) codecStepsUptoCard

/-- THE SECOND FORM's CARD OF 'slipsticklaw.ArithTurns'. -/
def arithTurnsUptoCard : Claim7 := { stood := { row := arithTurnsUptoRow, standIns := [], harness := (true, "9da97e8d6dadab38c0969b3befc4883caeb1fb52fd215c7da4461e62e4263e01"), looks := false }, kinds := [], alts := [], laidByText := true, laidKinds := [.data], laidTests := true, laidLooks := .later }
def ArithTurnsUptoCardSaid : Prop := Claim7.holds Tryd.pinned (.plain (OpenSpec.upto arithTurnsSpec)) arithTurnsUptoCard

/-- THE SECOND FORM's CARD OF 'slipsticklaw.ArithSelf'. -/
def arithSelfUptoCard : Claim7 := { stood := { row := arithSelfUptoRow, standIns := [], harness := (true, "9da97e8d6dadab38c0969b3befc4883caeb1fb52fd215c7da4461e62e4263e01"), looks := false }, kinds := [], alts := [], laidByText := true, laidKinds := [.data], laidTests := true, laidLooks := .later }
def ArithSelfUptoCardSaid : Prop := Claim7.holds Tryd.pinned (.plain (OpenSpec.upto arithSelfSpec)) arithSelfUptoCard

/-- THE SECOND FORM's CARD OF 'slipsticklaw.ArithOne'. -/
def arithOneUptoCard : Claim7 := { stood := { row := arithOneUptoRow, standIns := [], harness := (true, "9da97e8d6dadab38c0969b3befc4883caeb1fb52fd215c7da4461e62e4263e01"), looks := false }, kinds := [], alts := [], laidByText := true, laidKinds := [.data], laidTests := true, laidLooks := .later }
def ArithOneUptoCardSaid : Prop := Claim7.holds Tryd.pinned (.plain (OpenSpec.upto arithOneSpec)) arithOneUptoCard

/-- THE SECOND FORM's CARD OF 'slipsticklaw.ArithBounds'. -/
def arithBoundsUptoCard : Claim7 := { stood := { row := arithBoundsUptoRow, standIns := [], harness := (true, "9da97e8d6dadab38c0969b3befc4883caeb1fb52fd215c7da4461e62e4263e01"), looks := false }, kinds := [], alts := [], laidByText := true, laidKinds := [.data], laidTests := true, laidLooks := .later }
def ArithBoundsUptoCardSaid : Prop := Claim7.holds Tryd.pinned (.plain (OpenSpec.upto arithBoundsSpec)) arithBoundsUptoCard

/-- THE SECOND FORM's CARD OF 'slipsticklaw.ArithSquares'. -/
def arithSquaresUptoCard : Claim7 := { stood := { row := arithSquaresUptoRow, standIns := [], harness := (true, "9da97e8d6dadab38c0969b3befc4883caeb1fb52fd215c7da4461e62e4263e01"), looks := false }, kinds := [], alts := [], laidByText := true, laidKinds := [.data], laidTests := true, laidLooks := .later }
def ArithSquaresUptoCardSaid : Prop := Claim7.holds Tryd.pinned (.plain (OpenSpec.upto arithSquaresSpec)) arithSquaresUptoCard

/-- THE SECOND FORM's CARD OF 'slipsticklaw.ConvExacts'. -/
def convExactsUptoCard : Claim7 := { stood := { row := convExactsUptoRow, standIns := [], harness := (true, "9da97e8d6dadab38c0969b3befc4883caeb1fb52fd215c7da4461e62e4263e01"), looks := false }, kinds := [], alts := [], laidByText := true, laidKinds := [.data], laidTests := true, laidLooks := .later }
def ConvExactsUptoCardSaid : Prop := Claim7.holds Tryd.pinned (.plain (OpenSpec.upto convExactsSpec)) convExactsUptoCard

/-- THE SECOND FORM's CARD OF 'slipsticklaw.ConvBack'. -/
def convBackUptoCard : Claim7 := { stood := { row := convBackUptoRow, standIns := [], harness := (true, "9da97e8d6dadab38c0969b3befc4883caeb1fb52fd215c7da4461e62e4263e01"), looks := false }, kinds := [], alts := [], laidByText := true, laidKinds := [.data], laidTests := true, laidLooks := .later }
def ConvBackUptoCardSaid : Prop := Claim7.holds Tryd.pinned (.plain (OpenSpec.upto convBackSpec)) convBackUptoCard

/-- THE SECOND FORM's CARD OF 'slipsticklaw.ConvThrough'. -/
def convThroughUptoCard : Claim7 := { stood := { row := convThroughUptoRow, standIns := [], harness := (true, "9da97e8d6dadab38c0969b3befc4883caeb1fb52fd215c7da4461e62e4263e01"), looks := false }, kinds := [], alts := [], laidByText := true, laidKinds := [.data], laidTests := true, laidLooks := .later }
def ConvThroughUptoCardSaid : Prop := Claim7.holds Tryd.pinned (.plain (OpenSpec.upto convThroughSpec)) convThroughUptoCard
end Rows
end Go.Proofs.YtmacohmclpnphaaDoor
