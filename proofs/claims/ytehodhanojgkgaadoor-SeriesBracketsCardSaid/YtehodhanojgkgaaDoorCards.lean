/-
  DERIVED. GIVEN WITH THE SEED: THE CARDS: each row of YtehodhanojgkgaaDoorRows.lean that lists a variable, with what it lists TIED to the program's text (the seventh form; the later family's looks); each row that meets fmt, with fmt's text TOLD by the authors' own Lean function (tested against real Go, not proved from fmt's source: count such statements apart). THE CARD IS WHAT COUNTS. Prove the row's statement (the work); the ties are given (YtehodhanojgkgaaDoorTie.lean); close each card by the builder's one call (the guide's Derived/Test/ToyasCard.lean, 'card_holds'). Laid BY PROGRAM, IN A SANDBOX (cutbox-door.mjs). By AI agents, Wed Nov 11 2026. No macro, syntax, notation, axiom, sorry.
-/
import Derived.Test.YtehodhanojgkgaaDoorRows
import GoSem.ClaimSeven
namespace Go.Proofs.YtehodhanojgkgaaDoor
namespace Rows

/-- THE TIED CARD OF 'slipsticklaw.SeriesPis'. -/
def seriesPisCard : Claim7 := { stood := { row := seriesPisRow, standIns := [], harness := (true, "af4ec729170754c3767ac282593e3707500411ba4b7d989cb91c42a6bb7e583b"), looks := false }, kinds := [], alts := [], laidByText := true, laidKinds := [.data], laidTests := true, laidLooks := .later }
def SeriesPisCardSaid : Prop := Claim7.holds Tryd.pinned (.plain (OpenSpec.ofChange seriesPisSpec)) seriesPisCard

/-- THE TIED CARD OF 'slipsticklaw.SeriesLn2s'. -/
def seriesLn2sCard : Claim7 := { stood := { row := seriesLn2sRow, standIns := [], harness := (true, "af4ec729170754c3767ac282593e3707500411ba4b7d989cb91c42a6bb7e583b"), looks := false }, kinds := [], alts := [], laidByText := true, laidKinds := [.data], laidTests := true, laidLooks := .later }
def SeriesLn2sCardSaid : Prop := Claim7.holds Tryd.pinned (.plain (OpenSpec.ofChange seriesLn2sSpec)) seriesLn2sCard

/-- THE TIED CARD OF 'slipsticklaw.SeriesNested'. -/
def seriesNestedCard : Claim7 := { stood := { row := seriesNestedRow, standIns := [], harness := (true, "af4ec729170754c3767ac282593e3707500411ba4b7d989cb91c42a6bb7e583b"), looks := false }, kinds := [], alts := [], laidByText := true, laidKinds := [.data], laidTests := true, laidLooks := .later }
def SeriesNestedCardSaid : Prop := Claim7.holds Tryd.pinned (.plain (OpenSpec.ofChange seriesNestedSpec)) seriesNestedCard

/-- THE TIED CARD OF 'slipsticklaw.SeriesSums'. -/
def seriesSumsCard : Claim7 := { stood := { row := seriesSumsRow, standIns := [], harness := (true, "af4ec729170754c3767ac282593e3707500411ba4b7d989cb91c42a6bb7e583b"), looks := false }, kinds := [], alts := [], laidByText := true, laidKinds := [.data], laidTests := true, laidLooks := .later }
def SeriesSumsCardSaid : Prop := Claim7.holds Tryd.pinned (.plain (OpenSpec.ofChange seriesSumsSpec)) seriesSumsCard

/-- THE TIED CARD OF 'slipsticklaw.SeriesBrackets'. -/
def seriesBracketsCard : Claim7 := { stood := { row := seriesBracketsRow, standIns := [], harness := (true, "af4ec729170754c3767ac282593e3707500411ba4b7d989cb91c42a6bb7e583b"), looks := false }, kinds := [], alts := [], laidByText := true, laidKinds := [.data], laidTests := true, laidLooks := .later }
def SeriesBracketsCardSaid : Prop := Claim7.holds Tryd.pinned (.plain (OpenSpec.ofChange seriesBracketsSpec)) seriesBracketsCard

/-- THE TIED CARD OF 'slipsticklaw.SeriesMachin'. -/
def seriesMachinCard : Claim7 := { stood := { row := seriesMachinRow, standIns := [], harness := (true, "af4ec729170754c3767ac282593e3707500411ba4b7d989cb91c42a6bb7e583b"), looks := false }, kinds := [], alts := [], laidByText := true, laidKinds := [.data], laidTests := true, laidLooks := .later }
def SeriesMachinCardSaid : Prop := Claim7.holds Tryd.pinned (.plain (OpenSpec.ofChange seriesMachinSpec)) seriesMachinCard

/-- THE SECOND FORM's CARD OF 'slipsticklaw.SeriesPis'. -/
def seriesPisUptoCard : Claim7 := { stood := { row := seriesPisUptoRow, standIns := [], harness := (true, "af4ec729170754c3767ac282593e3707500411ba4b7d989cb91c42a6bb7e583b"), looks := false }, kinds := [], alts := [], laidByText := true, laidKinds := [.data], laidTests := true, laidLooks := .later }
def SeriesPisUptoCardSaid : Prop := Claim7.holds Tryd.pinned (.plain (OpenSpec.upto seriesPisSpec)) seriesPisUptoCard

/-- THE SECOND FORM's CARD OF 'slipsticklaw.SeriesLn2s'. -/
def seriesLn2sUptoCard : Claim7 := { stood := { row := seriesLn2sUptoRow, standIns := [], harness := (true, "af4ec729170754c3767ac282593e3707500411ba4b7d989cb91c42a6bb7e583b"), looks := false }, kinds := [], alts := [], laidByText := true, laidKinds := [.data], laidTests := true, laidLooks := .later }
def SeriesLn2sUptoCardSaid : Prop := Claim7.holds Tryd.pinned (.plain (OpenSpec.upto seriesLn2sSpec)) seriesLn2sUptoCard

/-- THE SECOND FORM's CARD OF 'slipsticklaw.SeriesNested'. -/
def seriesNestedUptoCard : Claim7 := { stood := { row := seriesNestedUptoRow, standIns := [], harness := (true, "af4ec729170754c3767ac282593e3707500411ba4b7d989cb91c42a6bb7e583b"), looks := false }, kinds := [], alts := [], laidByText := true, laidKinds := [.data], laidTests := true, laidLooks := .later }
def SeriesNestedUptoCardSaid : Prop := Claim7.holds Tryd.pinned (.plain (OpenSpec.upto seriesNestedSpec)) seriesNestedUptoCard

/-- THE SECOND FORM's CARD OF 'slipsticklaw.SeriesSums'. -/
def seriesSumsUptoCard : Claim7 := { stood := { row := seriesSumsUptoRow, standIns := [], harness := (true, "af4ec729170754c3767ac282593e3707500411ba4b7d989cb91c42a6bb7e583b"), looks := false }, kinds := [], alts := [], laidByText := true, laidKinds := [.data], laidTests := true, laidLooks := .later }
def SeriesSumsUptoCardSaid : Prop := Claim7.holds Tryd.pinned (.plain (OpenSpec.upto seriesSumsSpec)) seriesSumsUptoCard

/-- THE SECOND FORM's CARD OF 'slipsticklaw.SeriesBrackets'. -/
def seriesBracketsUptoCard : Claim7 := { stood := { row := seriesBracketsUptoRow, standIns := [], harness := (true, "af4ec729170754c3767ac282593e3707500411ba4b7d989cb91c42a6bb7e583b"), looks := false }, kinds := [], alts := [], laidByText := true, laidKinds := [.data], laidTests := true, laidLooks := .later }
def SeriesBracketsUptoCardSaid : Prop := Claim7.holds Tryd.pinned (.plain (OpenSpec.upto seriesBracketsSpec)) seriesBracketsUptoCard

/-- THE SECOND FORM's CARD OF 'slipsticklaw.SeriesMachin'. -/
def seriesMachinUptoCard : Claim7 := { stood := { row := seriesMachinUptoRow, standIns := [], harness := (true, "af4ec729170754c3767ac282593e3707500411ba4b7d989cb91c42a6bb7e583b"), looks := false }, kinds := [], alts := [], laidByText := true, laidKinds := [.data], laidTests := true, laidLooks := .later }
def SeriesMachinUptoCardSaid : Prop := Claim7.holds Tryd.pinned (.plain (OpenSpec.upto seriesMachinSpec)) seriesMachinUptoCard
end Rows
end Go.Proofs.YtehodhanojgkgaaDoor
