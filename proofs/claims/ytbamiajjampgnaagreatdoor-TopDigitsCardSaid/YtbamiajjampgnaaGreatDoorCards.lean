/-
  DERIVED. GIVEN WITH THE SEED: THE CARDS: each row of YtbamiajjampgnaaGreatDoorRows.lean that lists a variable, with what it lists TIED to the program's text (the seventh form; the later family's looks); each row that meets fmt, with fmt's text TOLD by the authors' own Lean function (tested against real Go, not proved from fmt's source: count such statements apart). THE CARD IS WHAT COUNTS. Prove the row's statement (the work); the ties are given (YtbamiajjampgnaaGreatDoorTie.lean); close each card by the builder's one call (the guide's Derived/Test/ToyasCard.lean, 'card_holds'). Laid BY PROGRAM, IN A SANDBOX (cutbox-door.mjs). By AI agents, Wed Nov 11 2026. No macro, syntax, notation, axiom, sorry.
-/
import Derived.Test.YtbamiajjampgnaaGreatDoorRows
import GoSem.ClaimSeven
namespace Go.Proofs.YtbamiajjampgnaaGreatDoor
namespace Rows

/-- THE TIED CARD OF 'slipsticklaw.TextRatios'. -/
def textRatiosCard : Claim7 := { stood := { row := textRatiosRow, standIns := [], harness := (true, "3bae148668a3cdf58d895e9c07342ef43754fc946ff874a98fc6fb99db41f4fe"), looks := true }, kinds := [], alts := [], laidByText := true, laidKinds := [.data, .data, .data, .data, .sentinel, .sentinel, .pinned], laidTests := true, laidLooks := .later }
def TextRatiosCardSaid : Prop := Claim7.holds Tryz.pinned (.plain (OpenSpec.ofChange textRatiosSpec)) textRatiosCard

/-- THE TIED CARD OF 'slipsticklaw.TextParses'. -/
def textParsesCard : Claim7 := { stood := { row := textParsesRow, standIns := [], harness := (true, "3bae148668a3cdf58d895e9c07342ef43754fc946ff874a98fc6fb99db41f4fe"), looks := true }, kinds := [], alts := [], laidByText := true, laidKinds := [.data, .data, .data, .data, .sentinel, .sentinel, .pinned], laidTests := true, laidLooks := .later }
def TextParsesCardSaid : Prop := Claim7.holds Tryz.pinned (.plain (OpenSpec.ofChange textParsesSpec)) textParsesCard

/-- THE TIED CARD OF 'slipsticklaw.TextShortests'. -/
def textShortestsCard : Claim7 := { stood := { row := textShortestsRow, standIns := [], harness := (true, "3bae148668a3cdf58d895e9c07342ef43754fc946ff874a98fc6fb99db41f4fe"), looks := true }, kinds := [], alts := [], laidByText := true, laidKinds := [.data, .data, .data, .data, .sentinel, .sentinel, .pinned], laidTests := true, laidLooks := .later }
def TextShortestsCardSaid : Prop := Claim7.holds Tryz.pinned (.plain (OpenSpec.ofChange textShortestsSpec)) textShortestsCard

/-- THE TIED CARD OF 'slipsticklaw.TextPrints'. -/
def textPrintsCard : Claim7 := { stood := { row := textPrintsRow, standIns := [], harness := (true, "3bae148668a3cdf58d895e9c07342ef43754fc946ff874a98fc6fb99db41f4fe"), looks := true }, kinds := [], alts := [], laidByText := true, laidKinds := [.data, .data, .data, .data, .sentinel, .sentinel, .pinned], laidTests := true, laidLooks := .later }
def TextPrintsCardSaid : Prop := Claim7.holds Tryz.pinned (.plain (OpenSpec.ofChange textPrintsSpec)) textPrintsCard

/-- THE TIED CARD OF 'slipsticklaw.TextBack'. -/
def textBackCard : Claim7 := { stood := { row := textBackRow, standIns := [], harness := (true, "3bae148668a3cdf58d895e9c07342ef43754fc946ff874a98fc6fb99db41f4fe"), looks := true }, kinds := [], alts := [], laidByText := true, laidKinds := [.data, .data, .data, .data, .sentinel, .sentinel, .pinned], laidTests := true, laidLooks := .later }
def TextBackCardSaid : Prop := Claim7.holds Tryz.pinned (.plain (OpenSpec.ofChange textBackSpec)) textBackCard

/-- THE TIED CARD OF 'slipsticklaw.TextNoShorter'. -/
def textNoShorterCard : Claim7 := { stood := { row := textNoShorterRow, standIns := [], harness := (true, "3bae148668a3cdf58d895e9c07342ef43754fc946ff874a98fc6fb99db41f4fe"), looks := true }, kinds := [], alts := [], laidByText := true, laidKinds := [.data, .data, .data, .data, .sentinel, .sentinel, .pinned], laidTests := true, laidLooks := .later }
def TextNoShorterCardSaid : Prop := Claim7.holds Tryz.pinned (.plain (OpenSpec.ofChange textNoShorterSpec)) textNoShorterCard

/-- THE TIED CARD OF 'slipsticklaw.TopDigits'. -/
def topDigitsCard : Claim7 := { stood := { row := topDigitsRow, standIns := [], harness := (true, "3bae148668a3cdf58d895e9c07342ef43754fc946ff874a98fc6fb99db41f4fe"), looks := true }, kinds := [], alts := [], laidByText := true, laidKinds := [.data, .data, .data, .data, .sentinel, .sentinel, .pinned], laidTests := true, laidLooks := .later }
def TopDigitsCardSaid : Prop := Claim7.holds Tryz.pinned (.plain (OpenSpec.ofChange topDigitsSpec)) topDigitsCard

/-- THE TIED CARD OF 'slipsticklaw.TopPrinted'. -/
def topPrintedCard : Claim7 := { stood := { row := topPrintedRow, standIns := [], harness := (true, "3bae148668a3cdf58d895e9c07342ef43754fc946ff874a98fc6fb99db41f4fe"), looks := true }, kinds := [], alts := [], laidByText := true, laidKinds := [.data, .data, .data, .data, .sentinel, .sentinel, .pinned], laidTests := true, laidLooks := .later }
def TopPrintedCardSaid : Prop := Claim7.holds Tryz.pinned (.plain (OpenSpec.ofChange topPrintedSpec)) topPrintedCard

/-- THE SECOND FORM's CARD OF 'slipsticklaw.TextRatios'. -/
def textRatiosUptoCard : Claim7 := { stood := { row := textRatiosUptoRow, standIns := [], harness := (true, "3bae148668a3cdf58d895e9c07342ef43754fc946ff874a98fc6fb99db41f4fe"), looks := true }, kinds := [], alts := [], laidByText := true, laidKinds := [.data, .data, .data, .data, .sentinel, .sentinel, .pinned], laidTests := true, laidLooks := .later }
def TextRatiosUptoCardSaid : Prop := Claim7.holds Tryz.pinned (.plain (OpenSpec.upto textRatiosSpec)) textRatiosUptoCard

/-- THE SECOND FORM's CARD OF 'slipsticklaw.TextParses'. -/
def textParsesUptoCard : Claim7 := { stood := { row := textParsesUptoRow, standIns := [], harness := (true, "3bae148668a3cdf58d895e9c07342ef43754fc946ff874a98fc6fb99db41f4fe"), looks := true }, kinds := [], alts := [], laidByText := true, laidKinds := [.data, .data, .data, .data, .sentinel, .sentinel, .pinned], laidTests := true, laidLooks := .later }
def TextParsesUptoCardSaid : Prop := Claim7.holds Tryz.pinned (.plain (OpenSpec.upto textParsesSpec)) textParsesUptoCard

/-- THE SECOND FORM's CARD OF 'slipsticklaw.TextShortests'. -/
def textShortestsUptoCard : Claim7 := { stood := { row := textShortestsUptoRow, standIns := [], harness := (true, "3bae148668a3cdf58d895e9c07342ef43754fc946ff874a98fc6fb99db41f4fe"), looks := true }, kinds := [], alts := [], laidByText := true, laidKinds := [.data, .data, .data, .data, .sentinel, .sentinel, .pinned], laidTests := true, laidLooks := .later }
def TextShortestsUptoCardSaid : Prop := Claim7.holds Tryz.pinned (.plain (OpenSpec.upto textShortestsSpec)) textShortestsUptoCard

/-- THE SECOND FORM's CARD OF 'slipsticklaw.TextPrints'. -/
def textPrintsUptoCard : Claim7 := { stood := { row := textPrintsUptoRow, standIns := [], harness := (true, "3bae148668a3cdf58d895e9c07342ef43754fc946ff874a98fc6fb99db41f4fe"), looks := true }, kinds := [], alts := [], laidByText := true, laidKinds := [.data, .data, .data, .data, .sentinel, .sentinel, .pinned], laidTests := true, laidLooks := .later }
def TextPrintsUptoCardSaid : Prop := Claim7.holds Tryz.pinned (.plain (OpenSpec.upto textPrintsSpec)) textPrintsUptoCard

/-- THE SECOND FORM's CARD OF 'slipsticklaw.TextBack'. -/
def textBackUptoCard : Claim7 := { stood := { row := textBackUptoRow, standIns := [], harness := (true, "3bae148668a3cdf58d895e9c07342ef43754fc946ff874a98fc6fb99db41f4fe"), looks := true }, kinds := [], alts := [], laidByText := true, laidKinds := [.data, .data, .data, .data, .sentinel, .sentinel, .pinned], laidTests := true, laidLooks := .later }
def TextBackUptoCardSaid : Prop := Claim7.holds Tryz.pinned (.plain (OpenSpec.upto textBackSpec)) textBackUptoCard

/-- THE SECOND FORM's CARD OF 'slipsticklaw.TextNoShorter'. -/
def textNoShorterUptoCard : Claim7 := { stood := { row := textNoShorterUptoRow, standIns := [], harness := (true, "3bae148668a3cdf58d895e9c07342ef43754fc946ff874a98fc6fb99db41f4fe"), looks := true }, kinds := [], alts := [], laidByText := true, laidKinds := [.data, .data, .data, .data, .sentinel, .sentinel, .pinned], laidTests := true, laidLooks := .later }
def TextNoShorterUptoCardSaid : Prop := Claim7.holds Tryz.pinned (.plain (OpenSpec.upto textNoShorterSpec)) textNoShorterUptoCard

/-- THE SECOND FORM's CARD OF 'slipsticklaw.TopDigits'. -/
def topDigitsUptoCard : Claim7 := { stood := { row := topDigitsUptoRow, standIns := [], harness := (true, "3bae148668a3cdf58d895e9c07342ef43754fc946ff874a98fc6fb99db41f4fe"), looks := true }, kinds := [], alts := [], laidByText := true, laidKinds := [.data, .data, .data, .data, .sentinel, .sentinel, .pinned], laidTests := true, laidLooks := .later }
def TopDigitsUptoCardSaid : Prop := Claim7.holds Tryz.pinned (.plain (OpenSpec.upto topDigitsSpec)) topDigitsUptoCard

/-- THE SECOND FORM's CARD OF 'slipsticklaw.TopPrinted'. -/
def topPrintedUptoCard : Claim7 := { stood := { row := topPrintedUptoRow, standIns := [], harness := (true, "3bae148668a3cdf58d895e9c07342ef43754fc946ff874a98fc6fb99db41f4fe"), looks := true }, kinds := [], alts := [], laidByText := true, laidKinds := [.data, .data, .data, .data, .sentinel, .sentinel, .pinned], laidTests := true, laidLooks := .later }
def TopPrintedUptoCardSaid : Prop := Claim7.holds Tryz.pinned (.plain (OpenSpec.upto topPrintedSpec)) topPrintedUptoCard
end Rows
end Go.Proofs.YtbamiajjampgnaaGreatDoor
