/-
  NARROWER THAN 'FOR EVERY INPUT', by the rows' own cells (each row's printed sentence says how): ArithDivs: laid · ArithSqrts: laid · ConvFromInts: laid · ConvToInts: laid · ConvConverts: laid · TopGrid: laid.
  DERIVED. THE GIVEN ROWS OF THIS SEAT. 6 by the template 'for every input the law returns true; each argument reads behind the call as it read before'; 0 by the template 'total and deterministic' (their statements: YtmacohmclpnphaaGreatDoorTotals.lean).
  GIVEN WITH THE SEED: the statements are not yours to turn. If you find one false, say at which input.
  Laid BY PROGRAM, IN A SANDBOX (cutbox-rows.mjs): the forced cells as the released guide's own fill.sh prints them over the translation 04d759470c5c0cc1… (all of the seat's roots in one cut). By AI agents, Wed Nov 11 2026. No macro, syntax, notation, axiom, sorry.
-/
import Derived.Test.YtmacohmclpnphaaGreatDoorChecked
import GoSem.Claim
import GoSem.ClaimJoined
import GoSem.ClaimMapViews
import Derived.JoinedTies
import Derived.KernelRfl
namespace Go.Proofs.YtmacohmclpnphaaGreatDoor
/- THE CELL 'sum', in the pinned program and in every row, IS THE sha256 OF THE DUMP (.gsa) THAT YtmacohmclpnphaaGreatDoorProg.lean LOADS. Nothing in Lean hashes anything: it is a label: what it is worth is what the hold of that sum in a sandbox is worth. -/
noncomputable def Tryz.pinned : Pinned := { name := "ytmacohmclpnphaagreatdoor", sum := "04d759470c5c0cc141b61bf1aaad3c6174356225004b882b87bf32f4286325e7", checked := Tryz.checked }
namespace Rows
def none {H : Type} : Left H := { results := [], args := [] }

/- WHAT THE LISTED PACKAGE-LEVEL VARIABLES READ AS WHEN THE CALL BEGINS. Each datum BY PROGRAM (the guide's laid-datum.mjs) off the statement by which the dump's own 'gosem.cut.vars' lays the variable. In a bare row this is a premise. The card (YtmacohmclpnphaaGreatDoorCards.lean) ties it to the program's text. -/
def laid_math_bits_deBruijn32tab {H : Type} : DataW H := .agg [.lit (.int .u8 0), .lit (.int .u8 1), .lit (.int .u8 28), .lit (.int .u8 2), .lit (.int .u8 29), .lit (.int .u8 14), .lit (.int .u8 24), .lit (.int .u8 3), .lit (.int .u8 30), .lit (.int .u8 22), .lit (.int .u8 20), .lit (.int .u8 15), .lit (.int .u8 25), .lit (.int .u8 17), .lit (.int .u8 4), .lit (.int .u8 8), .lit (.int .u8 31), .lit (.int .u8 27), .lit (.int .u8 13), .lit (.int .u8 23), .lit (.int .u8 21), .lit (.int .u8 19), .lit (.int .u8 16), .lit (.int .u8 7), .lit (.int .u8 26), .lit (.int .u8 12), .lit (.int .u8 18), .lit (.int .u8 6), .lit (.int .u8 11), .lit (.int .u8 5), .lit (.int .u8 10), .lit (.int .u8 9)]

/-- 'slipsticklaw.ArithDivs': WHATEVER THE INPUT: true; the input reads as it did. -/
def arithDivsSpec : ChangeSpec := { name := "arithDivs", fn := fun _ => fun
  | [d1, d2, d3, d4] => { results := [.lit (.bool true)], args := [d1, d2, d3, d4] }
  | _ => none }
def arithDivsRow : OpenClaim := { program := "ytmacohmclpnphaagreatdoor", sum := "04d759470c5c0cc141b61bf1aaad3c6174356225004b882b87bf32f4286325e7", func := "slipstick/slipsticklaw.ArithDivs", spec := "arithDivs", unfollowed := true, recurses := true, named := ["math/bits.deBruijn32tab"], apart := false, laid := [("math/bits.deBruijn32tab", laid_math_bits_deBruijn32tab)] }
def ArithDivsSaid : Prop := arithDivsRow.holds Tryz.pinned (OpenSpec.ofChange arithDivsSpec)

/-- ITS FALSE NEIGHBOUR: 'it returns false'. Refute it at one input. -/
def arithDivsWrong : ChangeSpec := { name := "arithDivs", fn := fun _ => fun
  | [d1, d2, d3, d4] => { results := [.lit (.bool false)], args := [d1, d2, d3, d4] }
  | _ => none }
def ArithDivsWrongFalsely : Prop := arithDivsRow.holds Tryz.pinned (OpenSpec.ofChange arithDivsWrong)

/-- 'slipsticklaw.ArithSqrts': WHATEVER THE INPUT: true; the input reads as it did. -/
def arithSqrtsSpec : ChangeSpec := { name := "arithSqrts", fn := fun _ => fun
  | [d1, d2, d3] => { results := [.lit (.bool true)], args := [d1, d2, d3] }
  | _ => none }
def arithSqrtsRow : OpenClaim := { program := "ytmacohmclpnphaagreatdoor", sum := "04d759470c5c0cc141b61bf1aaad3c6174356225004b882b87bf32f4286325e7", func := "slipstick/slipsticklaw.ArithSqrts", spec := "arithSqrts", unfollowed := true, recurses := true, named := ["math/bits.deBruijn32tab"], apart := false, laid := [("math/bits.deBruijn32tab", laid_math_bits_deBruijn32tab)] }
def ArithSqrtsSaid : Prop := arithSqrtsRow.holds Tryz.pinned (OpenSpec.ofChange arithSqrtsSpec)

/-- ITS FALSE NEIGHBOUR: 'it returns false'. Refute it at one input. -/
def arithSqrtsWrong : ChangeSpec := { name := "arithSqrts", fn := fun _ => fun
  | [d1, d2, d3] => { results := [.lit (.bool false)], args := [d1, d2, d3] }
  | _ => none }
def ArithSqrtsWrongFalsely : Prop := arithSqrtsRow.holds Tryz.pinned (OpenSpec.ofChange arithSqrtsWrong)

/-- 'slipsticklaw.ConvFromInts': WHATEVER THE INPUT: true; the input reads as it did. -/
def convFromIntsSpec : ChangeSpec := { name := "convFromInts", fn := fun _ => fun
  | [d1, d2, d3] => { results := [.lit (.bool true)], args := [d1, d2, d3] }
  | _ => none }
def convFromIntsRow : OpenClaim := { program := "ytmacohmclpnphaagreatdoor", sum := "04d759470c5c0cc141b61bf1aaad3c6174356225004b882b87bf32f4286325e7", func := "slipstick/slipsticklaw.ConvFromInts", spec := "convFromInts", unfollowed := true, recurses := true, named := ["math/bits.deBruijn32tab"], apart := false, laid := [("math/bits.deBruijn32tab", laid_math_bits_deBruijn32tab)] }
def ConvFromIntsSaid : Prop := convFromIntsRow.holds Tryz.pinned (OpenSpec.ofChange convFromIntsSpec)

/-- ITS FALSE NEIGHBOUR: 'it returns false'. Refute it at one input. -/
def convFromIntsWrong : ChangeSpec := { name := "convFromInts", fn := fun _ => fun
  | [d1, d2, d3] => { results := [.lit (.bool false)], args := [d1, d2, d3] }
  | _ => none }
def ConvFromIntsWrongFalsely : Prop := convFromIntsRow.holds Tryz.pinned (OpenSpec.ofChange convFromIntsWrong)

/-- 'slipsticklaw.ConvToInts': WHATEVER THE INPUT: true; the input reads as it did. -/
def convToIntsSpec : ChangeSpec := { name := "convToInts", fn := fun _ => fun
  | [d1, d2, d3] => { results := [.lit (.bool true)], args := [d1, d2, d3] }
  | _ => none }
def convToIntsRow : OpenClaim := { program := "ytmacohmclpnphaagreatdoor", sum := "04d759470c5c0cc141b61bf1aaad3c6174356225004b882b87bf32f4286325e7", func := "slipstick/slipsticklaw.ConvToInts", spec := "convToInts", unfollowed := true, recurses := true, named := ["math/bits.deBruijn32tab"], apart := false, laid := [("math/bits.deBruijn32tab", laid_math_bits_deBruijn32tab)] }
def ConvToIntsSaid : Prop := convToIntsRow.holds Tryz.pinned (OpenSpec.ofChange convToIntsSpec)

/-- ITS FALSE NEIGHBOUR: 'it returns false'. Refute it at one input. -/
def convToIntsWrong : ChangeSpec := { name := "convToInts", fn := fun _ => fun
  | [d1, d2, d3] => { results := [.lit (.bool false)], args := [d1, d2, d3] }
  | _ => none }
def ConvToIntsWrongFalsely : Prop := convToIntsRow.holds Tryz.pinned (OpenSpec.ofChange convToIntsWrong)

/-- 'slipsticklaw.ConvConverts': WHATEVER THE INPUT: true; the input reads as it did. -/
def convConvertsSpec : ChangeSpec := { name := "convConverts", fn := fun _ => fun
  | [d1, d2, d3, d4] => { results := [.lit (.bool true)], args := [d1, d2, d3, d4] }
  | _ => none }
def convConvertsRow : OpenClaim := { program := "ytmacohmclpnphaagreatdoor", sum := "04d759470c5c0cc141b61bf1aaad3c6174356225004b882b87bf32f4286325e7", func := "slipstick/slipsticklaw.ConvConverts", spec := "convConverts", unfollowed := true, recurses := true, named := ["math/bits.deBruijn32tab"], apart := false, laid := [("math/bits.deBruijn32tab", laid_math_bits_deBruijn32tab)] }
def ConvConvertsSaid : Prop := convConvertsRow.holds Tryz.pinned (OpenSpec.ofChange convConvertsSpec)

/-- ITS FALSE NEIGHBOUR: 'it returns false'. Refute it at one input. -/
def convConvertsWrong : ChangeSpec := { name := "convConverts", fn := fun _ => fun
  | [d1, d2, d3, d4] => { results := [.lit (.bool false)], args := [d1, d2, d3, d4] }
  | _ => none }
def ConvConvertsWrongFalsely : Prop := convConvertsRow.holds Tryz.pinned (OpenSpec.ofChange convConvertsWrong)

/-- 'slipsticklaw.TopGrid': WHATEVER THE INPUT: true; the input reads as it did. -/
def topGridSpec : ChangeSpec := { name := "topGrid", fn := fun _ => fun
  | [d1, d2, d3, d4, d5, d6] => { results := [.lit (.bool true)], args := [d1, d2, d3, d4, d5, d6] }
  | _ => none }
def topGridRow : OpenClaim := { program := "ytmacohmclpnphaagreatdoor", sum := "04d759470c5c0cc141b61bf1aaad3c6174356225004b882b87bf32f4286325e7", func := "slipstick/slipsticklaw.TopGrid", spec := "topGrid", unfollowed := true, recurses := true, named := ["math/bits.deBruijn32tab"], apart := false, laid := [("math/bits.deBruijn32tab", laid_math_bits_deBruijn32tab)] }
def TopGridSaid : Prop := topGridRow.holds Tryz.pinned (OpenSpec.ofChange topGridSpec)

/-- ITS FALSE NEIGHBOUR: 'it returns false'. Refute it at one input. -/
def topGridWrong : ChangeSpec := { name := "topGrid", fn := fun _ => fun
  | [d1, d2, d3, d4, d5, d6] => { results := [.lit (.bool false)], args := [d1, d2, d3, d4, d5, d6] }
  | _ => none }
def TopGridWrongFalsely : Prop := topGridRow.holds Tryz.pinned (OpenSpec.ofChange topGridWrong)

/- THE SECOND FORM. 'bulk': how many values and letters a reading holds, each counted each time it is reached (what is shared counts as often as it is met; a slice's spare places count too). A statement '..UptoSaid' is the law's where the arguments, and the package variables that the reading takes, are together of bulk at most 1048576: NARROWER than '..Said'. Prove '..Said' where nothing that the law and all that it calls make is longer than what came in: it says more and counts as full. Else prove '..UptoSaid'. A law counts once. -/
mutual
def uptoBulk {H : Type} : DataW H → Nat
  | .lit (.string bytes) => bytes.length + 1
  | .lit _ => 1
  | .nil => 1
  | .ptr d => uptoBulk d + 1
  | .slice elems spare => uptoBulkAll elems + uptoBulkAll spare + 1
  | .agg parts => uptoBulkAll parts + 1
  | .iface _ d => uptoBulk d + 1
  | .map entries => uptoBulkEntries entries + 1
  | .held _ => 1
def uptoBulkAll {H : Type} : List (DataW H) → Nat
  | [] => 0
  | d :: r => uptoBulk d + uptoBulkAll r
def uptoBulkEntries {H : Type} : List (Lit × DataW H) → Nat
  | [] => 0
  | x :: r => uptoBulkEntry x + uptoBulkEntries r
def uptoBulkEntry {H : Type} : Lit × DataW H → Nat
  | (.string bytes, d) => bytes.length + uptoBulk d + 1
  | (_, d) => uptoBulk d + 1
 end
def uptoSmall : (H : Type) → List (DataW H) → Bool := fun _ ds => decide (uptoBulkAll ds ≤ 1048576)
def OpenSpec.upto (s : _root_.Go.ChangeSpec) : _root_.Go.OpenSpec := { _root_.Go.OpenSpec.ofChange s with cond := some uptoSmall }

/-- 'slipsticklaw.ArithDivs', WHERE WHAT IT READS IS OF BULK AT MOST 1048576: true; the input reads as it did. -/
def arithDivsUptoRow : OpenClaim := { program := "ytmacohmclpnphaagreatdoor", sum := "04d759470c5c0cc141b61bf1aaad3c6174356225004b882b87bf32f4286325e7", func := "slipstick/slipsticklaw.ArithDivs", spec := "arithDivs", unfollowed := true, recurses := true, named := ["math/bits.deBruijn32tab"], apart := false, laid := [("math/bits.deBruijn32tab", laid_math_bits_deBruijn32tab)], narrowed := true }
def ArithDivsUptoSaid : Prop := arithDivsUptoRow.holds Tryz.pinned (OpenSpec.upto arithDivsSpec)

/-- 'slipsticklaw.ArithSqrts', WHERE WHAT IT READS IS OF BULK AT MOST 1048576: true; the input reads as it did. -/
def arithSqrtsUptoRow : OpenClaim := { program := "ytmacohmclpnphaagreatdoor", sum := "04d759470c5c0cc141b61bf1aaad3c6174356225004b882b87bf32f4286325e7", func := "slipstick/slipsticklaw.ArithSqrts", spec := "arithSqrts", unfollowed := true, recurses := true, named := ["math/bits.deBruijn32tab"], apart := false, laid := [("math/bits.deBruijn32tab", laid_math_bits_deBruijn32tab)], narrowed := true }
def ArithSqrtsUptoSaid : Prop := arithSqrtsUptoRow.holds Tryz.pinned (OpenSpec.upto arithSqrtsSpec)

/-- 'slipsticklaw.ConvFromInts', WHERE WHAT IT READS IS OF BULK AT MOST 1048576: true; the input reads as it did. -/
def convFromIntsUptoRow : OpenClaim := { program := "ytmacohmclpnphaagreatdoor", sum := "04d759470c5c0cc141b61bf1aaad3c6174356225004b882b87bf32f4286325e7", func := "slipstick/slipsticklaw.ConvFromInts", spec := "convFromInts", unfollowed := true, recurses := true, named := ["math/bits.deBruijn32tab"], apart := false, laid := [("math/bits.deBruijn32tab", laid_math_bits_deBruijn32tab)], narrowed := true }
def ConvFromIntsUptoSaid : Prop := convFromIntsUptoRow.holds Tryz.pinned (OpenSpec.upto convFromIntsSpec)

/-- 'slipsticklaw.ConvToInts', WHERE WHAT IT READS IS OF BULK AT MOST 1048576: true; the input reads as it did. -/
def convToIntsUptoRow : OpenClaim := { program := "ytmacohmclpnphaagreatdoor", sum := "04d759470c5c0cc141b61bf1aaad3c6174356225004b882b87bf32f4286325e7", func := "slipstick/slipsticklaw.ConvToInts", spec := "convToInts", unfollowed := true, recurses := true, named := ["math/bits.deBruijn32tab"], apart := false, laid := [("math/bits.deBruijn32tab", laid_math_bits_deBruijn32tab)], narrowed := true }
def ConvToIntsUptoSaid : Prop := convToIntsUptoRow.holds Tryz.pinned (OpenSpec.upto convToIntsSpec)

/-- 'slipsticklaw.ConvConverts', WHERE WHAT IT READS IS OF BULK AT MOST 1048576: true; the input reads as it did. -/
def convConvertsUptoRow : OpenClaim := { program := "ytmacohmclpnphaagreatdoor", sum := "04d759470c5c0cc141b61bf1aaad3c6174356225004b882b87bf32f4286325e7", func := "slipstick/slipsticklaw.ConvConverts", spec := "convConverts", unfollowed := true, recurses := true, named := ["math/bits.deBruijn32tab"], apart := false, laid := [("math/bits.deBruijn32tab", laid_math_bits_deBruijn32tab)], narrowed := true }
def ConvConvertsUptoSaid : Prop := convConvertsUptoRow.holds Tryz.pinned (OpenSpec.upto convConvertsSpec)

/-- 'slipsticklaw.TopGrid', WHERE WHAT IT READS IS OF BULK AT MOST 1048576: true; the input reads as it did. -/
def topGridUptoRow : OpenClaim := { program := "ytmacohmclpnphaagreatdoor", sum := "04d759470c5c0cc141b61bf1aaad3c6174356225004b882b87bf32f4286325e7", func := "slipstick/slipsticklaw.TopGrid", spec := "topGrid", unfollowed := true, recurses := true, named := ["math/bits.deBruijn32tab"], apart := false, laid := [("math/bits.deBruijn32tab", laid_math_bits_deBruijn32tab)], narrowed := true }
def TopGridUptoSaid : Prop := topGridUptoRow.holds Tryz.pinned (OpenSpec.upto topGridSpec)

end Rows
end Go.Proofs.YtmacohmclpnphaaGreatDoor
