/-
  No cell of these rows narrows 'for every input' (looked for: loops, veiled, ifaces, maps, wideKeys, modest, calm, conditions, laid).
  DERIVED. THE GIVEN ROWS OF THIS SEAT. 15 by the template 'for every input the law returns true; each argument reads behind the call as it read before'; 0 by the template 'total and deterministic' (their statements: YtococmfcaobmhaaTotals.lean).
  GIVEN WITH THE SEED: the statements are not yours to turn. If you find one false, say at which input.
  Laid BY PROGRAM, IN A SANDBOX (cutbox-rows.mjs): the forced cells as the released guide's own fill.sh prints them over the translation f8cdece1812232f4… (all of the seat's roots in one cut). By AI agents, Wed Nov 11 2026. No macro, syntax, notation, axiom, sorry.
-/
import Derived.Test.YtococmfcaobmhaaChecked
import GoSem.Claim
import GoSem.ClaimJoined
import GoSem.ClaimMapViews
import Derived.JoinedTies
import Derived.KernelRfl
namespace Go.Proofs.Ytococmfcaobmhaa
/- THE CELL 'sum', in the pinned program and in every row, IS THE sha256 OF THE DUMP (.gsa) THAT YtococmfcaobmhaaProg.lean LOADS. Nothing in Lean hashes anything: it is a label: what it is worth is what the hold of that sum in a sandbox is worth. -/
noncomputable def Try.pinned : Pinned := { name := "ytococmfcaobmhaa", sum := "f8cdece1812232f4c5205bb664ded542e66d199b26d5397558cf5bcfbb8a01f8", checked := Try.checked }
namespace Rows
def none {H : Type} : Left H := { results := [], args := [] }

/-- 'slipsticklaw.NatMuls': WHATEVER THE INPUT: true; the input reads as it did. -/
def natMulsSpec : ChangeSpec := { name := "natMuls", fn := fun _ => fun
  | [d1, d2] => { results := [.lit (.bool true)], args := [d1, d2] }
  | _ => none }
def natMulsRow : OpenClaim := { program := "ytococmfcaobmhaa", sum := "f8cdece1812232f4c5205bb664ded542e66d199b26d5397558cf5bcfbb8a01f8", func := "slipstick/slipsticklaw.NatMuls", spec := "natMuls", unfollowed := true, recurses := true, apart := false }
def NatMulsSaid : Prop := natMulsRow.holds Try.pinned (OpenSpec.ofChange natMulsSpec)

/-- ITS FALSE NEIGHBOUR: 'it returns false'. Refute it at one input. -/
def natMulsWrong : ChangeSpec := { name := "natMuls", fn := fun _ => fun
  | [d1, d2] => { results := [.lit (.bool false)], args := [d1, d2] }
  | _ => none }
def NatMulsWrongFalsely : Prop := natMulsRow.holds Try.pinned (OpenSpec.ofChange natMulsWrong)

/-- 'slipsticklaw.NatPrints': WHATEVER THE INPUT: true; the input reads as it did. -/
def natPrintsSpec : ChangeSpec := { name := "natPrints", fn := fun _ => fun
  | [d] => { results := [.lit (.bool true)], args := [d] }
  | _ => none }
def natPrintsRow : OpenClaim := { program := "ytococmfcaobmhaa", sum := "f8cdece1812232f4c5205bb664ded542e66d199b26d5397558cf5bcfbb8a01f8", func := "slipstick/slipsticklaw.NatPrints", spec := "natPrints", unfollowed := true, recurses := true, apart := false }
def NatPrintsSaid : Prop := natPrintsRow.holds Try.pinned (OpenSpec.ofChange natPrintsSpec)

/-- ITS FALSE NEIGHBOUR: 'it returns false'. Refute it at one input. -/
def natPrintsWrong : ChangeSpec := { name := "natPrints", fn := fun _ => fun
  | [d] => { results := [.lit (.bool false)], args := [d] }
  | _ => none }
def NatPrintsWrongFalsely : Prop := natPrintsRow.holds Try.pinned (OpenSpec.ofChange natPrintsWrong)

/-- 'slipsticklaw.NatChecks': WHATEVER THE INPUT: true; the input reads as it did. -/
def natChecksSpec : ChangeSpec := { name := "natChecks", fn := fun _ => fun
  | [d] => { results := [.lit (.bool true)], args := [d] }
  | _ => none }
def natChecksRow : OpenClaim := { program := "ytococmfcaobmhaa", sum := "f8cdece1812232f4c5205bb664ded542e66d199b26d5397558cf5bcfbb8a01f8", func := "slipstick/slipsticklaw.NatChecks", spec := "natChecks", unfollowed := true, recurses := true, apart := false }
def NatChecksSaid : Prop := natChecksRow.holds Try.pinned (OpenSpec.ofChange natChecksSpec)

/-- ITS FALSE NEIGHBOUR: 'it returns false'. Refute it at one input. -/
def natChecksWrong : ChangeSpec := { name := "natChecks", fn := fun _ => fun
  | [d] => { results := [.lit (.bool false)], args := [d] }
  | _ => none }
def NatChecksWrongFalsely : Prop := natChecksRow.holds Try.pinned (OpenSpec.ofChange natChecksWrong)

/-- 'slipsticklaw.NatCompares': WHATEVER THE INPUT: true; the input reads as it did. -/
def natComparesSpec : ChangeSpec := { name := "natCompares", fn := fun _ => fun
  | [d1, d2] => { results := [.lit (.bool true)], args := [d1, d2] }
  | _ => none }
def natComparesRow : OpenClaim := { program := "ytococmfcaobmhaa", sum := "f8cdece1812232f4c5205bb664ded542e66d199b26d5397558cf5bcfbb8a01f8", func := "slipstick/slipsticklaw.NatCompares", spec := "natCompares", unfollowed := true, recurses := true, apart := false }
def NatComparesSaid : Prop := natComparesRow.holds Try.pinned (OpenSpec.ofChange natComparesSpec)

/-- ITS FALSE NEIGHBOUR: 'it returns false'. Refute it at one input. -/
def natComparesWrong : ChangeSpec := { name := "natCompares", fn := fun _ => fun
  | [d1, d2] => { results := [.lit (.bool false)], args := [d1, d2] }
  | _ => none }
def NatComparesWrongFalsely : Prop := natComparesRow.holds Try.pinned (OpenSpec.ofChange natComparesWrong)

/-- 'slipsticklaw.NatBits': WHATEVER THE INPUT: true; the input reads as it did. -/
def natBitsSpec : ChangeSpec := { name := "natBits", fn := fun _ => fun
  | [d] => { results := [.lit (.bool true)], args := [d] }
  | _ => none }
def natBitsRow : OpenClaim := { program := "ytococmfcaobmhaa", sum := "f8cdece1812232f4c5205bb664ded542e66d199b26d5397558cf5bcfbb8a01f8", func := "slipstick/slipsticklaw.NatBits", spec := "natBits", unfollowed := true, recurses := true, apart := false }
def NatBitsSaid : Prop := natBitsRow.holds Try.pinned (OpenSpec.ofChange natBitsSpec)

/-- ITS FALSE NEIGHBOUR: 'it returns false'. Refute it at one input. -/
def natBitsWrong : ChangeSpec := { name := "natBits", fn := fun _ => fun
  | [d] => { results := [.lit (.bool false)], args := [d] }
  | _ => none }
def NatBitsWrongFalsely : Prop := natBitsRow.holds Try.pinned (OpenSpec.ofChange natBitsWrong)

/-- 'slipsticklaw.NatReads': WHATEVER THE INPUT: true; the input reads as it did. -/
def natReadsSpec : ChangeSpec := { name := "natReads", fn := fun _ => fun
  | [d] => { results := [.lit (.bool true)], args := [d] }
  | _ => none }
def natReadsRow : OpenClaim := { program := "ytococmfcaobmhaa", sum := "f8cdece1812232f4c5205bb664ded542e66d199b26d5397558cf5bcfbb8a01f8", func := "slipstick/slipsticklaw.NatReads", spec := "natReads", unfollowed := true, recurses := true, apart := false }
def NatReadsSaid : Prop := natReadsRow.holds Try.pinned (OpenSpec.ofChange natReadsSpec)

/-- ITS FALSE NEIGHBOUR: 'it returns false'. Refute it at one input. -/
def natReadsWrong : ChangeSpec := { name := "natReads", fn := fun _ => fun
  | [d] => { results := [.lit (.bool false)], args := [d] }
  | _ => none }
def NatReadsWrongFalsely : Prop := natReadsRow.holds Try.pinned (OpenSpec.ofChange natReadsWrong)

/-- 'slipsticklaw.NatAdds': WHATEVER THE INPUT: true; the input reads as it did. -/
def natAddsSpec : ChangeSpec := { name := "natAdds", fn := fun _ => fun
  | [d1, d2] => { results := [.lit (.bool true)], args := [d1, d2] }
  | _ => none }
def natAddsRow : OpenClaim := { program := "ytococmfcaobmhaa", sum := "f8cdece1812232f4c5205bb664ded542e66d199b26d5397558cf5bcfbb8a01f8", func := "slipstick/slipsticklaw.NatAdds", spec := "natAdds", unfollowed := true, recurses := true, apart := false }
def NatAddsSaid : Prop := natAddsRow.holds Try.pinned (OpenSpec.ofChange natAddsSpec)

/-- ITS FALSE NEIGHBOUR: 'it returns false'. Refute it at one input. -/
def natAddsWrong : ChangeSpec := { name := "natAdds", fn := fun _ => fun
  | [d1, d2] => { results := [.lit (.bool false)], args := [d1, d2] }
  | _ => none }
def NatAddsWrongFalsely : Prop := natAddsRow.holds Try.pinned (OpenSpec.ofChange natAddsWrong)

/-- 'slipsticklaw.NatSpreads': WHATEVER THE INPUT: true; the input reads as it did. -/
def natSpreadsSpec : ChangeSpec := { name := "natSpreads", fn := fun _ => fun
  | [d1, d2, d3] => { results := [.lit (.bool true)], args := [d1, d2, d3] }
  | _ => none }
def natSpreadsRow : OpenClaim := { program := "ytococmfcaobmhaa", sum := "f8cdece1812232f4c5205bb664ded542e66d199b26d5397558cf5bcfbb8a01f8", func := "slipstick/slipsticklaw.NatSpreads", spec := "natSpreads", unfollowed := true, recurses := true, apart := false }
def NatSpreadsSaid : Prop := natSpreadsRow.holds Try.pinned (OpenSpec.ofChange natSpreadsSpec)

/-- ITS FALSE NEIGHBOUR: 'it returns false'. Refute it at one input. -/
def natSpreadsWrong : ChangeSpec := { name := "natSpreads", fn := fun _ => fun
  | [d1, d2, d3] => { results := [.lit (.bool false)], args := [d1, d2, d3] }
  | _ => none }
def NatSpreadsWrongFalsely : Prop := natSpreadsRow.holds Try.pinned (OpenSpec.ofChange natSpreadsWrong)

/-- 'slipsticklaw.NatShifts': WHATEVER THE INPUT: true; the input reads as it did. -/
def natShiftsSpec : ChangeSpec := { name := "natShifts", fn := fun _ => fun
  | [d1, d2] => { results := [.lit (.bool true)], args := [d1, d2] }
  | _ => none }
def natShiftsRow : OpenClaim := { program := "ytococmfcaobmhaa", sum := "f8cdece1812232f4c5205bb664ded542e66d199b26d5397558cf5bcfbb8a01f8", func := "slipstick/slipsticklaw.NatShifts", spec := "natShifts", unfollowed := true, recurses := true, apart := false }
def NatShiftsSaid : Prop := natShiftsRow.holds Try.pinned (OpenSpec.ofChange natShiftsSpec)

/-- ITS FALSE NEIGHBOUR: 'it returns false'. Refute it at one input. -/
def natShiftsWrong : ChangeSpec := { name := "natShifts", fn := fun _ => fun
  | [d1, d2] => { results := [.lit (.bool false)], args := [d1, d2] }
  | _ => none }
def NatShiftsWrongFalsely : Prop := natShiftsRow.holds Try.pinned (OpenSpec.ofChange natShiftsWrong)

/-- 'slipsticklaw.NatSubs': WHATEVER THE INPUT: true; the input reads as it did. -/
def natSubsSpec : ChangeSpec := { name := "natSubs", fn := fun _ => fun
  | [d1, d2] => { results := [.lit (.bool true)], args := [d1, d2] }
  | _ => none }
def natSubsRow : OpenClaim := { program := "ytococmfcaobmhaa", sum := "f8cdece1812232f4c5205bb664ded542e66d199b26d5397558cf5bcfbb8a01f8", func := "slipstick/slipsticklaw.NatSubs", spec := "natSubs", unfollowed := true, recurses := true, apart := false }
def NatSubsSaid : Prop := natSubsRow.holds Try.pinned (OpenSpec.ofChange natSubsSpec)

/-- ITS FALSE NEIGHBOUR: 'it returns false'. Refute it at one input. -/
def natSubsWrong : ChangeSpec := { name := "natSubs", fn := fun _ => fun
  | [d1, d2] => { results := [.lit (.bool false)], args := [d1, d2] }
  | _ => none }
def NatSubsWrongFalsely : Prop := natSubsRow.holds Try.pinned (OpenSpec.ofChange natSubsWrong)

/-- 'slipsticklaw.NatMoves': WHATEVER THE INPUT: true; the input reads as it did. -/
def natMovesSpec : ChangeSpec := { name := "natMoves", fn := fun _ => fun
  | [d1, d2] => { results := [.lit (.bool true)], args := [d1, d2] }
  | _ => none }
def natMovesRow : OpenClaim := { program := "ytococmfcaobmhaa", sum := "f8cdece1812232f4c5205bb664ded542e66d199b26d5397558cf5bcfbb8a01f8", func := "slipstick/slipsticklaw.NatMoves", spec := "natMoves", unfollowed := true, recurses := true, apart := false }
def NatMovesSaid : Prop := natMovesRow.holds Try.pinned (OpenSpec.ofChange natMovesSpec)

/-- ITS FALSE NEIGHBOUR: 'it returns false'. Refute it at one input. -/
def natMovesWrong : ChangeSpec := { name := "natMoves", fn := fun _ => fun
  | [d1, d2] => { results := [.lit (.bool false)], args := [d1, d2] }
  | _ => none }
def NatMovesWrongFalsely : Prop := natMovesRow.holds Try.pinned (OpenSpec.ofChange natMovesWrong)

/-- 'slipsticklaw.NatUndoes': WHATEVER THE INPUT: true; the input reads as it did. -/
def natUndoesSpec : ChangeSpec := { name := "natUndoes", fn := fun _ => fun
  | [d1, d2] => { results := [.lit (.bool true)], args := [d1, d2] }
  | _ => none }
def natUndoesRow : OpenClaim := { program := "ytococmfcaobmhaa", sum := "f8cdece1812232f4c5205bb664ded542e66d199b26d5397558cf5bcfbb8a01f8", func := "slipstick/slipsticklaw.NatUndoes", spec := "natUndoes", unfollowed := true, recurses := true, apart := false }
def NatUndoesSaid : Prop := natUndoesRow.holds Try.pinned (OpenSpec.ofChange natUndoesSpec)

/-- ITS FALSE NEIGHBOUR: 'it returns false'. Refute it at one input. -/
def natUndoesWrong : ChangeSpec := { name := "natUndoes", fn := fun _ => fun
  | [d1, d2] => { results := [.lit (.bool false)], args := [d1, d2] }
  | _ => none }
def NatUndoesWrongFalsely : Prop := natUndoesRow.holds Try.pinned (OpenSpec.ofChange natUndoesWrong)

/-- 'slipsticklaw.NatDivs': WHATEVER THE INPUT: true; the input reads as it did. -/
def natDivsSpec : ChangeSpec := { name := "natDivs", fn := fun _ => fun
  | [d1, d2] => { results := [.lit (.bool true)], args := [d1, d2] }
  | _ => none }
def natDivsRow : OpenClaim := { program := "ytococmfcaobmhaa", sum := "f8cdece1812232f4c5205bb664ded542e66d199b26d5397558cf5bcfbb8a01f8", func := "slipstick/slipsticklaw.NatDivs", spec := "natDivs", unfollowed := true, recurses := true, apart := false }
def NatDivsSaid : Prop := natDivsRow.holds Try.pinned (OpenSpec.ofChange natDivsSpec)

/-- ITS FALSE NEIGHBOUR: 'it returns false'. Refute it at one input. -/
def natDivsWrong : ChangeSpec := { name := "natDivs", fn := fun _ => fun
  | [d1, d2] => { results := [.lit (.bool false)], args := [d1, d2] }
  | _ => none }
def NatDivsWrongFalsely : Prop := natDivsRow.holds Try.pinned (OpenSpec.ofChange natDivsWrong)

/-- 'slipsticklaw.NatDivides': WHATEVER THE INPUT: true; the input reads as it did. -/
def natDividesSpec : ChangeSpec := { name := "natDivides", fn := fun _ => fun
  | [d1, d2] => { results := [.lit (.bool true)], args := [d1, d2] }
  | _ => none }
def natDividesRow : OpenClaim := { program := "ytococmfcaobmhaa", sum := "f8cdece1812232f4c5205bb664ded542e66d199b26d5397558cf5bcfbb8a01f8", func := "slipstick/slipsticklaw.NatDivides", spec := "natDivides", unfollowed := true, recurses := true, apart := false }
def NatDividesSaid : Prop := natDividesRow.holds Try.pinned (OpenSpec.ofChange natDividesSpec)

/-- ITS FALSE NEIGHBOUR: 'it returns false'. Refute it at one input. -/
def natDividesWrong : ChangeSpec := { name := "natDivides", fn := fun _ => fun
  | [d1, d2] => { results := [.lit (.bool false)], args := [d1, d2] }
  | _ => none }
def NatDividesWrongFalsely : Prop := natDividesRow.holds Try.pinned (OpenSpec.ofChange natDividesWrong)

/-- 'slipsticklaw.NatRoots': WHATEVER THE INPUT: true; the input reads as it did. -/
def natRootsSpec : ChangeSpec := { name := "natRoots", fn := fun _ => fun
  | [d1, d2] => { results := [.lit (.bool true)], args := [d1, d2] }
  | _ => none }
def natRootsRow : OpenClaim := { program := "ytococmfcaobmhaa", sum := "f8cdece1812232f4c5205bb664ded542e66d199b26d5397558cf5bcfbb8a01f8", func := "slipstick/slipsticklaw.NatRoots", spec := "natRoots", unfollowed := true, recurses := true, apart := false }
def NatRootsSaid : Prop := natRootsRow.holds Try.pinned (OpenSpec.ofChange natRootsSpec)

/-- ITS FALSE NEIGHBOUR: 'it returns false'. Refute it at one input. -/
def natRootsWrong : ChangeSpec := { name := "natRoots", fn := fun _ => fun
  | [d1, d2] => { results := [.lit (.bool false)], args := [d1, d2] }
  | _ => none }
def NatRootsWrongFalsely : Prop := natRootsRow.holds Try.pinned (OpenSpec.ofChange natRootsWrong)

/- THE SECOND FORM. 'bulk': how many values and letters a reading holds, each counted each time it is reached (what is shared counts as often as it is met; a slice's spare places count too). A statement '..UptoSaid' is the law's where the arguments, and the package variables that the reading takes, are together of bulk at most 1048576: NARROWER than '..Said'. Prove '..Said' where nothing that the law and all that it calls make is longer than what came in: it says more and counts as full. Else prove '..UptoSaid'. A law counts once. -/
mutual
def uptoBulk {H : Type} : DataW H → Nat
  | .lit (.string bytes) => bytes.length + 1
  | .lit _ => 1
  | .nil => 1
  | .ptr d => uptoBulk d + 1
  | .slice elems spare => uptoBulkAll elems + uptoBulkAll spare + 1
  | .agg parts => uptoBulkAll parts + 1
  | .iface _ d => uptoBulk d + 1
  | .map entries => uptoBulkEntries entries + 1
  | .held _ => 1
def uptoBulkAll {H : Type} : List (DataW H) → Nat
  | [] => 0
  | d :: r => uptoBulk d + uptoBulkAll r
def uptoBulkEntries {H : Type} : List (Lit × DataW H) → Nat
  | [] => 0
  | x :: r => uptoBulkEntry x + uptoBulkEntries r
def uptoBulkEntry {H : Type} : Lit × DataW H → Nat
  | (.string bytes, d) => bytes.length + uptoBulk d + 1
  | (_, d) => uptoBulk d + 1
 end
def uptoSmall : (H : Type) → List (DataW H) → Bool := fun _ ds => decide (uptoBulkAll ds ≤ 1048576)
def OpenSpec.upto (s : _root_.Go.ChangeSpec) : _root_.Go.OpenSpec := { _root_.Go.OpenSpec.ofChange s with cond := some uptoSmall }

/-- 'slipsticklaw.NatMuls', WHERE WHAT IT READS IS OF BULK AT MOST 1048576: true; the input reads as it did. -/
def natMulsUptoRow : OpenClaim := { program := "ytococmfcaobmhaa", sum := "f8cdece1812232f4c5205bb664ded542e66d199b26d5397558cf5bcfbb8a01f8", func := "slipstick/slipsticklaw.NatMuls", spec := "natMuls", unfollowed := true, recurses := true, apart := false, narrowed := true }
def NatMulsUptoSaid : Prop := natMulsUptoRow.holds Try.pinned (OpenSpec.upto natMulsSpec)

/-- 'slipsticklaw.NatPrints', WHERE WHAT IT READS IS OF BULK AT MOST 1048576: true; the input reads as it did. -/
def natPrintsUptoRow : OpenClaim := { program := "ytococmfcaobmhaa", sum := "f8cdece1812232f4c5205bb664ded542e66d199b26d5397558cf5bcfbb8a01f8", func := "slipstick/slipsticklaw.NatPrints", spec := "natPrints", unfollowed := true, recurses := true, apart := false, narrowed := true }
def NatPrintsUptoSaid : Prop := natPrintsUptoRow.holds Try.pinned (OpenSpec.upto natPrintsSpec)

/-- 'slipsticklaw.NatChecks', WHERE WHAT IT READS IS OF BULK AT MOST 1048576: true; the input reads as it did. -/
def natChecksUptoRow : OpenClaim := { program := "ytococmfcaobmhaa", sum := "f8cdece1812232f4c5205bb664ded542e66d199b26d5397558cf5bcfbb8a01f8", func := "slipstick/slipsticklaw.NatChecks", spec := "natChecks", unfollowed := true, recurses := true, apart := false, narrowed := true }
def NatChecksUptoSaid : Prop := natChecksUptoRow.holds Try.pinned (OpenSpec.upto natChecksSpec)

/-- 'slipsticklaw.NatCompares', WHERE WHAT IT READS IS OF BULK AT MOST 1048576: true; the input reads as it did. -/
def natComparesUptoRow : OpenClaim := { program := "ytococmfcaobmhaa", sum := "f8cdece1812232f4c5205bb664ded542e66d199b26d5397558cf5bcfbb8a01f8", func := "slipstick/slipsticklaw.NatCompares", spec := "natCompares", unfollowed := true, recurses := true, apart := false, narrowed := true }
def NatComparesUptoSaid : Prop := natComparesUptoRow.holds Try.pinned (OpenSpec.upto natComparesSpec)

/-- 'slipsticklaw.NatBits', WHERE WHAT IT READS IS OF BULK AT MOST 1048576: true; the input reads as it did. -/
def natBitsUptoRow : OpenClaim := { program := "ytococmfcaobmhaa", sum := "f8cdece1812232f4c5205bb664ded542e66d199b26d5397558cf5bcfbb8a01f8", func := "slipstick/slipsticklaw.NatBits", spec := "natBits", unfollowed := true, recurses := true, apart := false, narrowed := true }
def NatBitsUptoSaid : Prop := natBitsUptoRow.holds Try.pinned (OpenSpec.upto natBitsSpec)

/-- 'slipsticklaw.NatReads', WHERE WHAT IT READS IS OF BULK AT MOST 1048576: true; the input reads as it did. -/
def natReadsUptoRow : OpenClaim := { program := "ytococmfcaobmhaa", sum := "f8cdece1812232f4c5205bb664ded542e66d199b26d5397558cf5bcfbb8a01f8", func := "slipstick/slipsticklaw.NatReads", spec := "natReads", unfollowed := true, recurses := true, apart := false, narrowed := true }
def NatReadsUptoSaid : Prop := natReadsUptoRow.holds Try.pinned (OpenSpec.upto natReadsSpec)

/-- 'slipsticklaw.NatAdds', WHERE WHAT IT READS IS OF BULK AT MOST 1048576: true; the input reads as it did. -/
def natAddsUptoRow : OpenClaim := { program := "ytococmfcaobmhaa", sum := "f8cdece1812232f4c5205bb664ded542e66d199b26d5397558cf5bcfbb8a01f8", func := "slipstick/slipsticklaw.NatAdds", spec := "natAdds", unfollowed := true, recurses := true, apart := false, narrowed := true }
def NatAddsUptoSaid : Prop := natAddsUptoRow.holds Try.pinned (OpenSpec.upto natAddsSpec)

/-- 'slipsticklaw.NatSpreads', WHERE WHAT IT READS IS OF BULK AT MOST 1048576: true; the input reads as it did. -/
def natSpreadsUptoRow : OpenClaim := { program := "ytococmfcaobmhaa", sum := "f8cdece1812232f4c5205bb664ded542e66d199b26d5397558cf5bcfbb8a01f8", func := "slipstick/slipsticklaw.NatSpreads", spec := "natSpreads", unfollowed := true, recurses := true, apart := false, narrowed := true }
def NatSpreadsUptoSaid : Prop := natSpreadsUptoRow.holds Try.pinned (OpenSpec.upto natSpreadsSpec)

/-- 'slipsticklaw.NatShifts', WHERE WHAT IT READS IS OF BULK AT MOST 1048576: true; the input reads as it did. -/
def natShiftsUptoRow : OpenClaim := { program := "ytococmfcaobmhaa", sum := "f8cdece1812232f4c5205bb664ded542e66d199b26d5397558cf5bcfbb8a01f8", func := "slipstick/slipsticklaw.NatShifts", spec := "natShifts", unfollowed := true, recurses := true, apart := false, narrowed := true }
def NatShiftsUptoSaid : Prop := natShiftsUptoRow.holds Try.pinned (OpenSpec.upto natShiftsSpec)

/-- 'slipsticklaw.NatSubs', WHERE WHAT IT READS IS OF BULK AT MOST 1048576: true; the input reads as it did. -/
def natSubsUptoRow : OpenClaim := { program := "ytococmfcaobmhaa", sum := "f8cdece1812232f4c5205bb664ded542e66d199b26d5397558cf5bcfbb8a01f8", func := "slipstick/slipsticklaw.NatSubs", spec := "natSubs", unfollowed := true, recurses := true, apart := false, narrowed := true }
def NatSubsUptoSaid : Prop := natSubsUptoRow.holds Try.pinned (OpenSpec.upto natSubsSpec)

/-- 'slipsticklaw.NatMoves', WHERE WHAT IT READS IS OF BULK AT MOST 1048576: true; the input reads as it did. -/
def natMovesUptoRow : OpenClaim := { program := "ytococmfcaobmhaa", sum := "f8cdece1812232f4c5205bb664ded542e66d199b26d5397558cf5bcfbb8a01f8", func := "slipstick/slipsticklaw.NatMoves", spec := "natMoves", unfollowed := true, recurses := true, apart := false, narrowed := true }
def NatMovesUptoSaid : Prop := natMovesUptoRow.holds Try.pinned (OpenSpec.upto natMovesSpec)

/-- 'slipsticklaw.NatUndoes', WHERE WHAT IT READS IS OF BULK AT MOST 1048576: true; the input reads as it did. -/
def natUndoesUptoRow : OpenClaim := { program := "ytococmfcaobmhaa", sum := "f8cdece1812232f4c5205bb664ded542e66d199b26d5397558cf5bcfbb8a01f8", func := "slipstick/slipsticklaw.NatUndoes", spec := "natUndoes", unfollowed := true, recurses := true, apart := false, narrowed := true }
def NatUndoesUptoSaid : Prop := natUndoesUptoRow.holds Try.pinned (OpenSpec.upto natUndoesSpec)

/-- 'slipsticklaw.NatDivs', WHERE WHAT IT READS IS OF BULK AT MOST 1048576: true; the input reads as it did. -/
def natDivsUptoRow : OpenClaim := { program := "ytococmfcaobmhaa", sum := "f8cdece1812232f4c5205bb664ded542e66d199b26d5397558cf5bcfbb8a01f8", func := "slipstick/slipsticklaw.NatDivs", spec := "natDivs", unfollowed := true, recurses := true, apart := false, narrowed := true }
def NatDivsUptoSaid : Prop := natDivsUptoRow.holds Try.pinned (OpenSpec.upto natDivsSpec)

/-- 'slipsticklaw.NatDivides', WHERE WHAT IT READS IS OF BULK AT MOST 1048576: true; the input reads as it did. -/
def natDividesUptoRow : OpenClaim := { program := "ytococmfcaobmhaa", sum := "f8cdece1812232f4c5205bb664ded542e66d199b26d5397558cf5bcfbb8a01f8", func := "slipstick/slipsticklaw.NatDivides", spec := "natDivides", unfollowed := true, recurses := true, apart := false, narrowed := true }
def NatDividesUptoSaid : Prop := natDividesUptoRow.holds Try.pinned (OpenSpec.upto natDividesSpec)

/-- 'slipsticklaw.NatRoots', WHERE WHAT IT READS IS OF BULK AT MOST 1048576: true; the input reads as it did. -/
def natRootsUptoRow : OpenClaim := { program := "ytococmfcaobmhaa", sum := "f8cdece1812232f4c5205bb664ded542e66d199b26d5397558cf5bcfbb8a01f8", func := "slipstick/slipsticklaw.NatRoots", spec := "natRoots", unfollowed := true, recurses := true, apart := false, narrowed := true }
def NatRootsUptoSaid : Prop := natRootsUptoRow.holds Try.pinned (OpenSpec.upto natRootsSpec)

end Rows
end Go.Proofs.Ytococmfcaobmhaa
