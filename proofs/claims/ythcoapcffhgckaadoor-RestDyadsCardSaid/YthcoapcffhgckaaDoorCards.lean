/-
  DERIVED. GIVEN WITH THE SEED: THE CARDS: each row of YthcoapcffhgckaaDoorRows.lean that lists a variable, with what it lists TIED to the program's text (the seventh form; the later family's looks); each row that meets fmt, with fmt's text TOLD by the authors' own Lean function (tested against real Go, not proved from fmt's source: count such statements apart). THE CARD IS WHAT COUNTS. Prove the row's statement (the work); the ties are given (YthcoapcffhgckaaDoorTie.lean); close each card by the builder's one call (the guide's Derived/Test/ToyasCard.lean, 'card_holds'). Laid BY PROGRAM, IN A SANDBOX (cutbox-door.mjs). By AI agents, Wed Nov 11 2026. No macro, syntax, notation, axiom, sorry.
-/
import Derived.Test.YthcoapcffhgckaaDoorRows
import GoSem.ClaimSeven
namespace Go.Proofs.YthcoapcffhgckaaDoor
namespace Rows

/-- THE TIED CARD OF 'slipsticklaw.RestDyads'. -/
def restDyadsCard : Claim7 := { stood := { row := restDyadsRow, standIns := [], harness := (true, "636cb9892737c26c3fc1974362b7cf2f9f80da91118a23c81be8fc97e501a572"), looks := false }, kinds := [], alts := [], laidByText := true, laidKinds := [.data], laidTests := true, laidLooks := .later }
def RestDyadsCardSaid : Prop := Claim7.holds Tryd.pinned (.plain (OpenSpec.ofChange restDyadsSpec)) restDyadsCard

/-- THE SECOND FORM's CARD OF 'slipsticklaw.RestDyads'. -/
def restDyadsUptoCard : Claim7 := { stood := { row := restDyadsUptoRow, standIns := [], harness := (true, "636cb9892737c26c3fc1974362b7cf2f9f80da91118a23c81be8fc97e501a572"), looks := false }, kinds := [], alts := [], laidByText := true, laidKinds := [.data], laidTests := true, laidLooks := .later }
def RestDyadsUptoCardSaid : Prop := Claim7.holds Tryd.pinned (.plain (OpenSpec.upto restDyadsSpec)) restDyadsUptoCard
end Rows
end Go.Proofs.YthcoapcffhgckaaDoor
