/-
  DERIVED. GIVEN WITH THE SEED: THE CARDS: each row of YtlegnbigddhmlaaDoorRows.lean that lists a variable, with what it lists TIED to the program's text (the seventh form; the later family's looks); each row that meets fmt, with fmt's text TOLD by the authors' own Lean function (tested against real Go, not proved from fmt's source: count such statements apart). THE CARD IS WHAT COUNTS. Prove the row's statement (the work); the ties are given (YtlegnbigddhmlaaDoorTie.lean); close each card by the builder's one call (the guide's Derived/Test/ToyasCard.lean, 'card_holds'). Laid BY PROGRAM, IN A SANDBOX (cutbox-door.mjs). By AI agents, Wed Nov 11 2026. No macro, syntax, notation, axiom, sorry.
-/
import Derived.Test.YtlegnbigddhmlaaDoorRows
import GoSem.ClaimSeven
namespace Go.Proofs.YtlegnbigddhmlaaDoor
namespace Rows

/-- THE TIED CARD OF 'slipsticklaw.GridGrows'. -/
def gridGrowsCard : Claim7 := { stood := { row := gridGrowsRow, standIns := [], harness := (true, "6fa8cfbb2ba3aec499798c22f786e46c2ecac905d3486fa545756fd8d1f5cf2b"), looks := false }, kinds := [], alts := [], laidByText := true, laidKinds := [.data], laidTests := true, laidLooks := .later }
def GridGrowsCardSaid : Prop := Claim7.holds Tryd.pinned (.plain (OpenSpec.ofChange gridGrowsSpec)) gridGrowsCard

/-- THE TIED CARD OF 'slipsticklaw.GridKeeps'. -/
def gridKeepsCard : Claim7 := { stood := { row := gridKeepsRow, standIns := [], harness := (true, "6fa8cfbb2ba3aec499798c22f786e46c2ecac905d3486fa545756fd8d1f5cf2b"), looks := false }, kinds := [], alts := [], laidByText := true, laidKinds := [.data], laidTests := true, laidLooks := .later }
def GridKeepsCardSaid : Prop := Claim7.holds Tryd.pinned (.plain (OpenSpec.ofChange gridKeepsSpec)) gridKeepsCard

/-- THE TIED CARD OF 'slipsticklaw.GridSteps'. -/
def gridStepsCard : Claim7 := { stood := { row := gridStepsRow, standIns := [], harness := (true, "6fa8cfbb2ba3aec499798c22f786e46c2ecac905d3486fa545756fd8d1f5cf2b"), looks := false }, kinds := [], alts := [], laidByText := true, laidKinds := [.data], laidTests := true, laidLooks := .later }
def GridStepsCardSaid : Prop := Claim7.holds Tryd.pinned (.plain (OpenSpec.ofChange gridStepsSpec)) gridStepsCard

/-- THE TIED CARD OF 'slipsticklaw.GridBetween'. -/
def gridBetweenCard : Claim7 := { stood := { row := gridBetweenRow, standIns := [], harness := (true, "6fa8cfbb2ba3aec499798c22f786e46c2ecac905d3486fa545756fd8d1f5cf2b"), looks := false }, kinds := [], alts := [], laidByText := true, laidKinds := [.data], laidTests := true, laidLooks := .later }
def GridBetweenCardSaid : Prop := Claim7.holds Tryd.pinned (.plain (OpenSpec.ofChange gridBetweenSpec)) gridBetweenCard

/-- THE SECOND FORM's CARD OF 'slipsticklaw.GridGrows'. -/
def gridGrowsUptoCard : Claim7 := { stood := { row := gridGrowsUptoRow, standIns := [], harness := (true, "6fa8cfbb2ba3aec499798c22f786e46c2ecac905d3486fa545756fd8d1f5cf2b"), looks := false }, kinds := [], alts := [], laidByText := true, laidKinds := [.data], laidTests := true, laidLooks := .later }
def GridGrowsUptoCardSaid : Prop := Claim7.holds Tryd.pinned (.plain (OpenSpec.upto gridGrowsSpec)) gridGrowsUptoCard

/-- THE SECOND FORM's CARD OF 'slipsticklaw.GridKeeps'. -/
def gridKeepsUptoCard : Claim7 := { stood := { row := gridKeepsUptoRow, standIns := [], harness := (true, "6fa8cfbb2ba3aec499798c22f786e46c2ecac905d3486fa545756fd8d1f5cf2b"), looks := false }, kinds := [], alts := [], laidByText := true, laidKinds := [.data], laidTests := true, laidLooks := .later }
def GridKeepsUptoCardSaid : Prop := Claim7.holds Tryd.pinned (.plain (OpenSpec.upto gridKeepsSpec)) gridKeepsUptoCard

/-- THE SECOND FORM's CARD OF 'slipsticklaw.GridSteps'. -/
def gridStepsUptoCard : Claim7 := { stood := { row := gridStepsUptoRow, standIns := [], harness := (true, "6fa8cfbb2ba3aec499798c22f786e46c2ecac905d3486fa545756fd8d1f5cf2b"), looks := false }, kinds := [], alts := [], laidByText := true, laidKinds := [.data], laidTests := true, laidLooks := .later }
def GridStepsUptoCardSaid : Prop := Claim7.holds Tryd.pinned (.plain (OpenSpec.upto gridStepsSpec)) gridStepsUptoCard

/-- THE SECOND FORM's CARD OF 'slipsticklaw.GridBetween'. -/
def gridBetweenUptoCard : Claim7 := { stood := { row := gridBetweenUptoRow, standIns := [], harness := (true, "6fa8cfbb2ba3aec499798c22f786e46c2ecac905d3486fa545756fd8d1f5cf2b"), looks := false }, kinds := [], alts := [], laidByText := true, laidKinds := [.data], laidTests := true, laidLooks := .later }
def GridBetweenUptoCardSaid : Prop := Claim7.holds Tryd.pinned (.plain (OpenSpec.upto gridBetweenSpec)) gridBetweenUptoCard
end Rows
end Go.Proofs.YtlegnbigddhmlaaDoor
