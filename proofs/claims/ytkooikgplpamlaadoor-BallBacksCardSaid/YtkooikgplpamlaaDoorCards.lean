/-
  DERIVED. GIVEN WITH THE SEED: THE CARDS: each row of YtkooikgplpamlaaDoorRows.lean that lists a variable, with what it lists TIED to the program's text (the seventh form; the later family's looks); each row that meets fmt, with fmt's text TOLD by the authors' own Lean function (tested against real Go, not proved from fmt's source: count such statements apart). THE CARD IS WHAT COUNTS. Prove the row's statement (the work); the ties are given (YtkooikgplpamlaaDoorTie.lean); close each card by the builder's one call (the guide's Derived/Test/ToyasCard.lean, 'card_holds'). Laid BY PROGRAM, IN A SANDBOX (cutbox-door.mjs). By AI agents, Wed Nov 11 2026. No macro, syntax, notation, axiom, sorry.
-/
import Derived.Test.YtkooikgplpamlaaDoorRows
import GoSem.ClaimSeven
namespace Go.Proofs.YtkooikgplpamlaaDoor
namespace Rows

/-- THE TIED CARD OF 'slipsticklaw.BallChecks'. -/
def ballChecksCard : Claim7 := { stood := { row := ballChecksRow, standIns := [], harness := (true, "40444254b67034f08701ef376535cde68aba2fd6da74982bc24edd22dcbd75ff"), looks := false }, kinds := [], alts := [], laidByText := true, laidKinds := [.data], laidTests := true, laidLooks := .later }
def BallChecksCardSaid : Prop := Claim7.holds Tryd.pinned (.plain (OpenSpec.ofChange ballChecksSpec)) ballChecksCard

/-- THE TIED CARD OF 'slipsticklaw.BallDivs'. -/
def ballDivsCard : Claim7 := { stood := { row := ballDivsRow, standIns := [], harness := (true, "40444254b67034f08701ef376535cde68aba2fd6da74982bc24edd22dcbd75ff"), looks := false }, kinds := [], alts := [], laidByText := true, laidKinds := [.data], laidTests := true, laidLooks := .later }
def BallDivsCardSaid : Prop := Claim7.holds Tryd.pinned (.plain (OpenSpec.ofChange ballDivsSpec)) ballDivsCard

/-- THE TIED CARD OF 'slipsticklaw.BallJoins'. -/
def ballJoinsCard : Claim7 := { stood := { row := ballJoinsRow, standIns := [], harness := (true, "40444254b67034f08701ef376535cde68aba2fd6da74982bc24edd22dcbd75ff"), looks := false }, kinds := [], alts := [], laidByText := true, laidKinds := [.data], laidTests := true, laidLooks := .later }
def BallJoinsCardSaid : Prop := Claim7.holds Tryd.pinned (.plain (OpenSpec.ofChange ballJoinsSpec)) ballJoinsCard

/-- THE TIED CARD OF 'slipsticklaw.BallHas'. -/
def ballHasCard : Claim7 := { stood := { row := ballHasRow, standIns := [], harness := (true, "40444254b67034f08701ef376535cde68aba2fd6da74982bc24edd22dcbd75ff"), looks := false }, kinds := [], alts := [], laidByText := true, laidKinds := [.data], laidTests := true, laidLooks := .later }
def BallHasCardSaid : Prop := Claim7.holds Tryd.pinned (.plain (OpenSpec.ofChange ballHasSpec)) ballHasCard

/-- THE TIED CARD OF 'slipsticklaw.BallMuls'. -/
def ballMulsCard : Claim7 := { stood := { row := ballMulsRow, standIns := [], harness := (true, "40444254b67034f08701ef376535cde68aba2fd6da74982bc24edd22dcbd75ff"), looks := false }, kinds := [], alts := [], laidByText := true, laidKinds := [.data], laidTests := true, laidLooks := .later }
def BallMulsCardSaid : Prop := Claim7.holds Tryd.pinned (.plain (OpenSpec.ofChange ballMulsSpec)) ballMulsCard

/-- THE TIED CARD OF 'slipsticklaw.BallAdds'. -/
def ballAddsCard : Claim7 := { stood := { row := ballAddsRow, standIns := [], harness := (true, "40444254b67034f08701ef376535cde68aba2fd6da74982bc24edd22dcbd75ff"), looks := false }, kinds := [], alts := [], laidByText := true, laidKinds := [.data], laidTests := true, laidLooks := .later }
def BallAddsCardSaid : Prop := Claim7.holds Tryd.pinned (.plain (OpenSpec.ofChange ballAddsSpec)) ballAddsCard

/-- THE TIED CARD OF 'slipsticklaw.BallSubs'. -/
def ballSubsCard : Claim7 := { stood := { row := ballSubsRow, standIns := [], harness := (true, "40444254b67034f08701ef376535cde68aba2fd6da74982bc24edd22dcbd75ff"), looks := false }, kinds := [], alts := [], laidByText := true, laidKinds := [.data], laidTests := true, laidLooks := .later }
def BallSubsCardSaid : Prop := Claim7.holds Tryd.pinned (.plain (OpenSpec.ofChange ballSubsSpec)) ballSubsCard

/-- THE TIED CARD OF 'slipsticklaw.BallSqrts'. -/
def ballSqrtsCard : Claim7 := { stood := { row := ballSqrtsRow, standIns := [], harness := (true, "40444254b67034f08701ef376535cde68aba2fd6da74982bc24edd22dcbd75ff"), looks := false }, kinds := [], alts := [], laidByText := true, laidKinds := [.data], laidTests := true, laidLooks := .later }
def BallSqrtsCardSaid : Prop := Claim7.holds Tryd.pinned (.plain (OpenSpec.ofChange ballSqrtsSpec)) ballSqrtsCard

/-- THE TIED CARD OF 'slipsticklaw.BallHolds'. -/
def ballHoldsCard : Claim7 := { stood := { row := ballHoldsRow, standIns := [], harness := (true, "40444254b67034f08701ef376535cde68aba2fd6da74982bc24edd22dcbd75ff"), looks := false }, kinds := [], alts := [], laidByText := true, laidKinds := [.data], laidTests := true, laidLooks := .later }
def BallHoldsCardSaid : Prop := Claim7.holds Tryd.pinned (.plain (OpenSpec.ofChange ballHoldsSpec)) ballHoldsCard

/-- THE TIED CARD OF 'slipsticklaw.BallBacks'. -/
def ballBacksCard : Claim7 := { stood := { row := ballBacksRow, standIns := [], harness := (true, "40444254b67034f08701ef376535cde68aba2fd6da74982bc24edd22dcbd75ff"), looks := false }, kinds := [], alts := [], laidByText := true, laidKinds := [.data], laidTests := true, laidLooks := .later }
def BallBacksCardSaid : Prop := Claim7.holds Tryd.pinned (.plain (OpenSpec.ofChange ballBacksSpec)) ballBacksCard

/-- THE TIED CARD OF 'slipsticklaw.RestDyads'. -/
def restDyadsCard : Claim7 := { stood := { row := restDyadsRow, standIns := [], harness := (true, "40444254b67034f08701ef376535cde68aba2fd6da74982bc24edd22dcbd75ff"), looks := false }, kinds := [], alts := [], laidByText := true, laidKinds := [.data], laidTests := true, laidLooks := .later }
def RestDyadsCardSaid : Prop := Claim7.holds Tryd.pinned (.plain (OpenSpec.ofChange restDyadsSpec)) restDyadsCard

/-- THE SECOND FORM's CARD OF 'slipsticklaw.BallChecks'. -/
def ballChecksUptoCard : Claim7 := { stood := { row := ballChecksUptoRow, standIns := [], harness := (true, "40444254b67034f08701ef376535cde68aba2fd6da74982bc24edd22dcbd75ff"), looks := false }, kinds := [], alts := [], laidByText := true, laidKinds := [.data], laidTests := true, laidLooks := .later }
def BallChecksUptoCardSaid : Prop := Claim7.holds Tryd.pinned (.plain (OpenSpec.upto ballChecksSpec)) ballChecksUptoCard

/-- THE SECOND FORM's CARD OF 'slipsticklaw.BallDivs'. -/
def ballDivsUptoCard : Claim7 := { stood := { row := ballDivsUptoRow, standIns := [], harness := (true, "40444254b67034f08701ef376535cde68aba2fd6da74982bc24edd22dcbd75ff"), looks := false }, kinds := [], alts := [], laidByText := true, laidKinds := [.data], laidTests := true, laidLooks := .later }
def BallDivsUptoCardSaid : Prop := Claim7.holds Tryd.pinned (.plain (OpenSpec.upto ballDivsSpec)) ballDivsUptoCard

/-- THE SECOND FORM's CARD OF 'slipsticklaw.BallJoins'. -/
def ballJoinsUptoCard : Claim7 := { stood := { row := ballJoinsUptoRow, standIns := [], harness := (true, "40444254b67034f08701ef376535cde68aba2fd6da74982bc24edd22dcbd75ff"), looks := false }, kinds := [], alts := [], laidByText := true, laidKinds := [.data], laidTests := true, laidLooks := .later }
def BallJoinsUptoCardSaid : Prop := Claim7.holds Tryd.pinned (.plain (OpenSpec.upto ballJoinsSpec)) ballJoinsUptoCard

/-- THE SECOND FORM's CARD OF 'slipsticklaw.BallHas'. -/
def ballHasUptoCard : Claim7 := { stood := { row := ballHasUptoRow, standIns := [], harness := (true, "40444254b67034f08701ef376535cde68aba2fd6da74982bc24edd22dcbd75ff"), looks := false }, kinds := [], alts := [], laidByText := true, laidKinds := [.data], laidTests := true, laidLooks := .later }
def BallHasUptoCardSaid : Prop := Claim7.holds Tryd.pinned (.plain (OpenSpec.upto ballHasSpec)) ballHasUptoCard

/-- THE SECOND FORM's CARD OF 'slipsticklaw.BallMuls'. -/
def ballMulsUptoCard : Claim7 := { stood := { row := ballMulsUptoRow, standIns := [], harness := (true, "40444254b67034f08701ef376535cde68aba2fd6da74982bc24edd22dcbd75ff"), looks := false }, kinds := [], alts := [], laidByText := true, laidKinds := [.data], laidTests := true, laidLooks := .later }
def BallMulsUptoCardSaid : Prop := Claim7.holds Tryd.pinned (.plain (OpenSpec.upto ballMulsSpec)) ballMulsUptoCard

/-- THE SECOND FORM's CARD OF 'slipsticklaw.BallAdds'. -/
def ballAddsUptoCard : Claim7 := { stood := { row := ballAddsUptoRow, standIns := [], harness := (true, "40444254b67034f08701ef376535cde68aba2fd6da74982bc24edd22dcbd75ff"), looks := false }, kinds := [], alts := [], laidByText := true, laidKinds := [.data], laidTests := true, laidLooks := .later }
def BallAddsUptoCardSaid : Prop := Claim7.holds Tryd.pinned (.plain (OpenSpec.upto ballAddsSpec)) ballAddsUptoCard

/-- THE SECOND FORM's CARD OF 'slipsticklaw.BallSubs'. -/
def ballSubsUptoCard : Claim7 := { stood := { row := ballSubsUptoRow, standIns := [], harness := (true, "40444254b67034f08701ef376535cde68aba2fd6da74982bc24edd22dcbd75ff"), looks := false }, kinds := [], alts := [], laidByText := true, laidKinds := [.data], laidTests := true, laidLooks := .later }
def BallSubsUptoCardSaid : Prop := Claim7.holds Tryd.pinned (.plain (OpenSpec.upto ballSubsSpec)) ballSubsUptoCard

/-- THE SECOND FORM's CARD OF 'slipsticklaw.BallSqrts'. -/
def ballSqrtsUptoCard : Claim7 := { stood := { row := ballSqrtsUptoRow, standIns := [], harness := (true, "40444254b67034f08701ef376535cde68aba2fd6da74982bc24edd22dcbd75ff"), looks := false }, kinds := [], alts := [], laidByText := true, laidKinds := [.data], laidTests := true, laidLooks := .later }
def BallSqrtsUptoCardSaid : Prop := Claim7.holds Tryd.pinned (.plain (OpenSpec.upto ballSqrtsSpec)) ballSqrtsUptoCard

/-- THE SECOND FORM's CARD OF 'slipsticklaw.BallHolds'. -/
def ballHoldsUptoCard : Claim7 := { stood := { row := ballHoldsUptoRow, standIns := [], harness := (true, "40444254b67034f08701ef376535cde68aba2fd6da74982bc24edd22dcbd75ff"), looks := false }, kinds := [], alts := [], laidByText := true, laidKinds := [.data], laidTests := true, laidLooks := .later }
def BallHoldsUptoCardSaid : Prop := Claim7.holds Tryd.pinned (.plain (OpenSpec.upto ballHoldsSpec)) ballHoldsUptoCard

/-- THE SECOND FORM's CARD OF 'slipsticklaw.BallBacks'. -/
def ballBacksUptoCard : Claim7 := { stood := { row := ballBacksUptoRow, standIns := [], harness := (true, "40444254b67034f08701ef376535cde68aba2fd6da74982bc24edd22dcbd75ff"), looks := false }, kinds := [], alts := [], laidByText := true, laidKinds := [.data], laidTests := true, laidLooks := .later }
def BallBacksUptoCardSaid : Prop := Claim7.holds Tryd.pinned (.plain (OpenSpec.upto ballBacksSpec)) ballBacksUptoCard

/-- THE SECOND FORM's CARD OF 'slipsticklaw.RestDyads'. -/
def restDyadsUptoCard : Claim7 := { stood := { row := restDyadsUptoRow, standIns := [], harness := (true, "40444254b67034f08701ef376535cde68aba2fd6da74982bc24edd22dcbd75ff"), looks := false }, kinds := [], alts := [], laidByText := true, laidKinds := [.data], laidTests := true, laidLooks := .later }
def RestDyadsUptoCardSaid : Prop := Claim7.holds Tryd.pinned (.plain (OpenSpec.upto restDyadsSpec)) restDyadsUptoCard
end Rows
end Go.Proofs.YtkooikgplpamlaaDoor
