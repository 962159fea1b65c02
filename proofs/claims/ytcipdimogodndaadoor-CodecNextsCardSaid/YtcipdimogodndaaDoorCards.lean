/-
  DERIVED. GIVEN WITH THE SEED: THE CARDS: each row of YtcipdimogodndaaDoorRows.lean that lists a variable, with what it lists TIED to the program's text (the seventh form; the later family's looks); each row that meets fmt, with fmt's text TOLD by the authors' own Lean function (tested against real Go, not proved from fmt's source: count such statements apart). THE CARD IS WHAT COUNTS. Prove the row's statement (the work); the ties are given (YtcipdimogodndaaDoorTie.lean); close each card by the builder's one call (the guide's Derived/Test/ToyasCard.lean, 'card_holds'). Laid BY PROGRAM, IN A SANDBOX (cutbox-door.mjs). By AI agents, Wed Nov 11 2026. No macro, syntax, notation, axiom, sorry.
-/
import Derived.Test.YtcipdimogodndaaDoorRows
import GoSem.ClaimSeven
namespace Go.Proofs.YtcipdimogodndaaDoor
namespace Rows

/-- THE TIED CARD OF 'slipsticklaw.RestDyads'. -/
def restDyadsCard : Claim7 := { stood := { row := restDyadsRow, standIns := [], harness := (true, "1203977632fbc323861260757cc42889d4faf12ee9651b383eaa3072e3c13977"), looks := false }, kinds := [], alts := [], laidByText := true, laidKinds := [.data], laidTests := true, laidLooks := .later }
def RestDyadsCardSaid : Prop := Claim7.holds Tryd.pinned (.plain (OpenSpec.ofChange restDyadsSpec)) restDyadsCard

/-- THE TIED CARD OF 'slipsticklaw.CodecDecodes'. -/
def codecDecodesCard : Claim7 := { stood := { row := codecDecodesRow, standIns := [], harness := (true, "1203977632fbc323861260757cc42889d4faf12ee9651b383eaa3072e3c13977"), looks := false }, kinds := [], alts := [], laidByText := true, laidKinds := [.data], laidTests := true, laidLooks := .later }
def CodecDecodesCardSaid : Prop := Claim7.holds Tryd.pinned (.plain (OpenSpec.ofChange codecDecodesSpec)) codecDecodesCard

/-- THE TIED CARD OF 'slipsticklaw.CodecEncodes'. -/
def codecEncodesCard : Claim7 := { stood := { row := codecEncodesRow, standIns := [], harness := (true, "1203977632fbc323861260757cc42889d4faf12ee9651b383eaa3072e3c13977"), looks := false }, kinds := [], alts := [], laidByText := true, laidKinds := [.data], laidTests := true, laidLooks := .later }
def CodecEncodesCardSaid : Prop := Claim7.holds Tryd.pinned (.plain (OpenSpec.ofChange codecEncodesSpec)) codecEncodesCard

/-- THE TIED CARD OF 'slipsticklaw.CodecBack'. -/
def codecBackCard : Claim7 := { stood := { row := codecBackRow, standIns := [], harness := (true, "1203977632fbc323861260757cc42889d4faf12ee9651b383eaa3072e3c13977"), looks := false }, kinds := [], alts := [], laidByText := true, laidKinds := [.data], laidTests := true, laidLooks := .later }
def CodecBackCardSaid : Prop := Claim7.holds Tryd.pinned (.plain (OpenSpec.ofChange codecBackSpec)) codecBackCard

/-- THE TIED CARD OF 'slipsticklaw.CodecSizes'. -/
def codecSizesCard : Claim7 := { stood := { row := codecSizesRow, standIns := [], harness := (true, "1203977632fbc323861260757cc42889d4faf12ee9651b383eaa3072e3c13977"), looks := false }, kinds := [], alts := [], laidByText := true, laidKinds := [.data], laidTests := true, laidLooks := .later }
def CodecSizesCardSaid : Prop := Claim7.holds Tryd.pinned (.plain (OpenSpec.ofChange codecSizesSpec)) codecSizesCard

/-- THE TIED CARD OF 'slipsticklaw.CodecClasses'. -/
def codecClassesCard : Claim7 := { stood := { row := codecClassesRow, standIns := [], harness := (true, "1203977632fbc323861260757cc42889d4faf12ee9651b383eaa3072e3c13977"), looks := false }, kinds := [], alts := [], laidByText := true, laidKinds := [.data], laidTests := true, laidLooks := .later }
def CodecClassesCardSaid : Prop := Claim7.holds Tryd.pinned (.plain (OpenSpec.ofChange codecClassesSpec)) codecClassesCard

/-- THE TIED CARD OF 'slipsticklaw.CodecNexts'. -/
def codecNextsCard : Claim7 := { stood := { row := codecNextsRow, standIns := [], harness := (true, "1203977632fbc323861260757cc42889d4faf12ee9651b383eaa3072e3c13977"), looks := false }, kinds := [], alts := [], laidByText := true, laidKinds := [.data], laidTests := true, laidLooks := .later }
def CodecNextsCardSaid : Prop := Claim7.holds Tryd.pinned (.plain (OpenSpec.ofChange codecNextsSpec)) codecNextsCard

/-- THE SECOND FORM's CARD OF 'slipsticklaw.RestDyads'. -/
def restDyadsUptoCard : Claim7 := { stood := { row := restDyadsUptoRow, standIns := [], harness := (true, "1203977632fbc323861260757cc42889d4faf12ee9651b383eaa3072e3c13977"), looks := false }, kinds := [], alts := [], laidByText := true, laidKinds := [.data], laidTests := true, laidLooks := .later }
def RestDyadsUptoCardSaid : Prop := Claim7.holds Tryd.pinned (.plain (OpenSpec.upto restDyadsSpec)) restDyadsUptoCard

/-- THE SECOND FORM's CARD OF 'slipsticklaw.CodecDecodes'. -/
def codecDecodesUptoCard : Claim7 := { stood := { row := codecDecodesUptoRow, standIns := [], harness := (true, "1203977632fbc323861260757cc42889d4faf12ee9651b383eaa3072e3c13977"), looks := false }, kinds := [], alts := [], laidByText := true, laidKinds := [.data], laidTests := true, laidLooks := .later }
def CodecDecodesUptoCardSaid : Prop := Claim7.holds Tryd.pinned (.plain (OpenSpec.upto codecDecodesSpec)) codecDecodesUptoCard

/-- THE SECOND FORM's CARD OF 'slipsticklaw.CodecEncodes'. -/
def codecEncodesUptoCard : Claim7 := { stood := { row := codecEncodesUptoRow, standIns := [], harness := (true, "1203977632fbc323861260757cc42889d4faf12ee9651b383eaa3072e3c13977"), looks := false }, kinds := [], alts := [], laidByText := true, laidKinds := [.data], laidTests := true, laidLooks := .later }
def CodecEncodesUptoCardSaid : Prop := Claim7.holds Tryd.pinned (.plain (OpenSpec.upto codecEncodesSpec)) codecEncodesUptoCard

/-- THE SECOND FORM's CARD OF 'slipsticklaw.CodecBack'. -/
def codecBackUptoCard : Claim7 := { stood := { row := codecBackUptoRow, standIns := [], harness := (true, "1203977632fbc323861260757cc42889d4faf12ee9651b383eaa3072e3c13977"), looks := false }, kinds := [], alts := [], laidByText := true, laidKinds := [.data], laidTests := true, laidLooks := .later }
def CodecBackUptoCardSaid : Prop := Claim7.holds Tryd.pinned (.plain (OpenSpec.upto codecBackSpec)) codecBackUptoCard

/-- THE SECOND FORM's CARD OF 'slipsticklaw.CodecSizes'. -/
def codecSizesUptoCard : Claim7 := { stood := { row := codecSizesUptoRow, standIns := [], harness := (true, "1203977632fbc323861260757cc42889d4faf12ee9651b383eaa3072e3c13977"), looks := false }, kinds := [], alts := [], laidByText := true, laidKinds := [.data], laidTests := true, laidLooks := .later }
def CodecSizesUptoCardSaid : Prop := Claim7.holds Tryd.pinned (.plain (OpenSpec.upto codecSizesSpec)) codecSizesUptoCard

/-- THE SECOND FORM's CARD OF 'slipsticklaw.CodecClasses'. -/
def codecClassesUptoCard : Claim7 := { stood := { row := codecClassesUptoRow, standIns := [], harness := (true, "1203977632fbc323861260757cc42889d4faf12ee9651b383eaa3072e3c13977"), looks := false }, kinds := [], alts := [], laidByText := true, laidKinds := [.data], laidTests := true, laidLooks := .later }
def CodecClassesUptoCardSaid : Prop := Claim7.holds Tryd.pinned (.plain (OpenSpec.upto codecClassesSpec)) codecClassesUptoCard

/-- THE SECOND FORM's CARD OF 'slipsticklaw.CodecNexts'. -/
def codecNextsUptoCard : Claim7 := { stood := { row := codecNextsUptoRow, standIns := [], harness := (true, "1203977632fbc323861260757cc42889d4faf12ee9651b383eaa3072e3c13977"), looks := false }, kinds := [], alts := [], laidByText := true, laidKinds := [.data], laidTests := true, laidLooks := .later }
def CodecNextsUptoCardSaid : Prop := Claim7.holds Tryd.pinned (.plain (OpenSpec.upto codecNextsSpec)) codecNextsUptoCard
end Rows
end Go.Proofs.YtcipdimogodndaaDoor
