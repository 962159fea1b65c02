/-
  NARROWER THAN 'FOR EVERY INPUT', by the rows' own cells (each row's printed sentence says how): CodecSteps: laid · ArithTurns: laid · ArithSelf: laid · ArithOne: laid · ArithBounds: laid · ArithSquares: laid · ConvExacts: laid · ConvBack: laid · ConvThrough: laid.
  DERIVED. THE GIVEN ROWS OF THIS SEAT. 9 by the template 'for every input the law returns true; each argument reads behind the call as it read before'; 0 by the template 'total and deterministic' (their statements: YtmacohmclpnphaaDoorTotals.lean).
  GIVEN WITH THE SEED: the statements are not yours to turn. If you find one false, say at which input.
  Laid BY PROGRAM, IN A SANDBOX (cutbox-rows.mjs): the forced cells as the released guide's own fill.sh prints them over the translation ce4b6ea8b1139882… (all of the seat's roots in one cut). By AI agents, Wed Nov 11 2026. No macro, syntax, notation, axiom, sorry.
-/
import Derived.Test.YtmacohmclpnphaaDoorChecked
import GoSem.Claim
import GoSem.ClaimJoined
import GoSem.ClaimMapViews
import Derived.JoinedTies
import Derived.KernelRfl
namespace Go.Proofs.YtmacohmclpnphaaDoor
/- THE CELL 'sum', in the pinned program and in every row, IS THE sha256 OF THE DUMP (.gsa) THAT YtmacohmclpnphaaDoorProg.lean LOADS. Nothing in Lean hashes anything: it is a label: what it is worth is what the hold of that sum in a sandbox is worth. -/
noncomputable def Tryd.pinned : Pinned := { name := "ytmacohmclpnphaadoor", sum := "ce4b6ea8b1139882f32d44af77729019e426d8f7716996534f53c8944d83fcc8", checked := Tryd.checked }
namespace Rows
def none {H : Type} : Left H := { results := [], args := [] }

/- WHAT THE LISTED PACKAGE-LEVEL VARIABLES READ AS WHEN THE CALL BEGINS. Each datum BY PROGRAM (the guide's laid-datum.mjs) off the statement by which the dump's own 'gosem.cut.vars' lays the variable. In a bare row this is a premise. The card (YtmacohmclpnphaaDoorCards.lean) ties it to the program's text. -/
def laid_math_bits_deBruijn32tab {H : Type} : DataW H := .agg [.lit (.int .u8 0), .lit (.int .u8 1), .lit (.int .u8 28), .lit (.int .u8 2), .lit (.int .u8 29), .lit (.int .u8 14), .lit (.int .u8 24), .lit (.int .u8 3), .lit (.int .u8 30), .lit (.int .u8 22), .lit (.int .u8 20), .lit (.int .u8 15), .lit (.int .u8 25), .lit (.int .u8 17), .lit (.int .u8 4), .lit (.int .u8 8), .lit (.int .u8 31), .lit (.int .u8 27), .lit (.int .u8 13), .lit (.int .u8 23), .lit (.int .u8 21), .lit (.int .u8 19), .lit (.int .u8 16), .lit (.int .u8 7), .lit (.int .u8 26), .lit (.int .u8 12), .lit (.int .u8 18), .lit (.int .u8 6), .lit (.int .u8 11), .lit (.int .u8 5), .lit (.int .u8 10), .lit (.int .u8 9)]

/-- 'slipsticklaw.CodecSteps': WHATEVER THE INPUT: true; the input reads as it did. -/
def codecStepsSpec : ChangeSpec := { name := "codecSteps", fn := fun _ => fun
  | [d1, d2] => { results := [.lit (.bool true)], args := [d1, d2] }
  | _ => none }
def codecStepsRow : OpenClaim := { program := "ytmacohmclpnphaadoor", sum := "ce4b6ea8b1139882f32d44af77729019e426d8f7716996534f53c8944d83fcc8", func := "slipstick/slipsticklaw.CodecSteps", spec := "codecSteps", unfollowed := true, recurses := true, named := ["math/bits.deBruijn32tab"], apart := false, laid := [("math/bits.deBruijn32tab", laid_math_bits_deBruijn32tab)] }
def CodecStepsSaid : Prop := codecStepsRow.holds Tryd.pinned (OpenSpec.ofChange codecStepsSpec)

/-- ITS FALSE NEIGHBOUR: 'it returns false'. Refute it at one input. -/
def codecStepsWrong : ChangeSpec := { name := "codecSteps", fn := fun _ => fun
  | [d1, d2] => { results := [.lit (.bool false)], args := [d1, d2] }
  | _ => none }
def CodecStepsWrongFalsely : Prop := codecStepsRow.holds Tryd.pinned (OpenSpec.ofChange codecStepsWrong)

/-- 'slipsticklaw.ArithTurns': WHATEVER THE INPUT: true; the input reads as it did. -/
def arithTurnsSpec : ChangeSpec := { name := "arithTurns", fn := fun _ => fun
  | [d1, d2, d3, d4, d5] => { results := [.lit (.bool true)], args := [d1, d2, d3, d4, d5] }
  | _ => none }
def arithTurnsRow : OpenClaim := { program := "ytmacohmclpnphaadoor", sum := "ce4b6ea8b1139882f32d44af77729019e426d8f7716996534f53c8944d83fcc8", func := "slipstick/slipsticklaw.ArithTurns", spec := "arithTurns", unfollowed := true, recurses := true, named := ["math/bits.deBruijn32tab"], apart := false, laid := [("math/bits.deBruijn32tab", laid_math_bits_deBruijn32tab)] }
def ArithTurnsSaid : Prop := arithTurnsRow.holds Tryd.pinned (OpenSpec.ofChange arithTurnsSpec)

/-- ITS FALSE NEIGHBOUR: 'it returns false'. Refute it at one input. -/
def arithTurnsWrong : ChangeSpec := { name := "arithTurns", fn := fun _ => fun
  | [d1, d2, d3, d4, d5] => { results := [.lit (.bool false)], args := [d1, d2, d3, d4, d5] }
  | _ => none }
def ArithTurnsWrongFalsely : Prop := arithTurnsRow.holds Tryd.pinned (OpenSpec.ofChange arithTurnsWrong)

/-- 'slipsticklaw.ArithSelf': WHATEVER THE INPUT: true; the input reads as it did. -/
def arithSelfSpec : ChangeSpec := { name := "arithSelf", fn := fun _ => fun
  | [d1, d2, d3] => { results := [.lit (.bool true)], args := [d1, d2, d3] }
  | _ => none }
def arithSelfRow : OpenClaim := { program := "ytmacohmclpnphaadoor", sum := "ce4b6ea8b1139882f32d44af77729019e426d8f7716996534f53c8944d83fcc8", func := "slipstick/slipsticklaw.ArithSelf", spec := "arithSelf", unfollowed := true, recurses := true, named := ["math/bits.deBruijn32tab"], apart := false, laid := [("math/bits.deBruijn32tab", laid_math_bits_deBruijn32tab)] }
def ArithSelfSaid : Prop := arithSelfRow.holds Tryd.pinned (OpenSpec.ofChange arithSelfSpec)

/-- ITS FALSE NEIGHBOUR: 'it returns false'. Refute it at one input. -/
def arithSelfWrong : ChangeSpec := { name := "arithSelf", fn := fun _ => fun
  | [d1, d2, d3] => { results := [.lit (.bool false)], args := [d1, d2, d3] }
  | _ => none }
def ArithSelfWrongFalsely : Prop := arithSelfRow.holds Tryd.pinned (OpenSpec.ofChange arithSelfWrong)

/-- 'slipsticklaw.ArithOne': WHATEVER THE INPUT: true; the input reads as it did. -/
def arithOneSpec : ChangeSpec := { name := "arithOne", fn := fun _ => fun
  | [d1, d2, d3, d4] => { results := [.lit (.bool true)], args := [d1, d2, d3, d4] }
  | _ => none }
def arithOneRow : OpenClaim := { program := "ytmacohmclpnphaadoor", sum := "ce4b6ea8b1139882f32d44af77729019e426d8f7716996534f53c8944d83fcc8", func := "slipstick/slipsticklaw.ArithOne", spec := "arithOne", unfollowed := true, recurses := true, named := ["math/bits.deBruijn32tab"], apart := false, laid := [("math/bits.deBruijn32tab", laid_math_bits_deBruijn32tab)] }
def ArithOneSaid : Prop := arithOneRow.holds Tryd.pinned (OpenSpec.ofChange arithOneSpec)

/-- ITS FALSE NEIGHBOUR: 'it returns false'. Refute it at one input. -/
def arithOneWrong : ChangeSpec := { name := "arithOne", fn := fun _ => fun
  | [d1, d2, d3, d4] => { results := [.lit (.bool false)], args := [d1, d2, d3, d4] }
  | _ => none }
def ArithOneWrongFalsely : Prop := arithOneRow.holds Tryd.pinned (OpenSpec.ofChange arithOneWrong)

/-- 'slipsticklaw.ArithBounds': WHATEVER THE INPUT: true; the input reads as it did. -/
def arithBoundsSpec : ChangeSpec := { name := "arithBounds", fn := fun _ => fun
  | [d1, d2, d3, d4] => { results := [.lit (.bool true)], args := [d1, d2, d3, d4] }
  | _ => none }
def arithBoundsRow : OpenClaim := { program := "ytmacohmclpnphaadoor", sum := "ce4b6ea8b1139882f32d44af77729019e426d8f7716996534f53c8944d83fcc8", func := "slipstick/slipsticklaw.ArithBounds", spec := "arithBounds", unfollowed := true, recurses := true, named := ["math/bits.deBruijn32tab"], apart := false, laid := [("math/bits.deBruijn32tab", laid_math_bits_deBruijn32tab)] }
def ArithBoundsSaid : Prop := arithBoundsRow.holds Tryd.pinned (OpenSpec.ofChange arithBoundsSpec)

/-- ITS FALSE NEIGHBOUR: 'it returns false'. Refute it at one input. -/
def arithBoundsWrong : ChangeSpec := { name := "arithBounds", fn := fun _ => fun
  | [d1, d2, d3, d4] => { results := [.lit (.bool false)], args := [d1, d2, d3, d4] }
  | _ => none }
def ArithBoundsWrongFalsely : Prop := arithBoundsRow.holds Tryd.pinned (OpenSpec.ofChange arithBoundsWrong)

/-- 'slipsticklaw.ArithSquares': WHATEVER THE INPUT: true; the input reads as it did. -/
def arithSquaresSpec : ChangeSpec := { name := "arithSquares", fn := fun _ => fun
  | [d1, d2, d3] => { results := [.lit (.bool true)], args := [d1, d2, d3] }
  | _ => none }
def arithSquaresRow : OpenClaim := { program := "ytmacohmclpnphaadoor", sum := "ce4b6ea8b1139882f32d44af77729019e426d8f7716996534f53c8944d83fcc8", func := "slipstick/slipsticklaw.ArithSquares", spec := "arithSquares", unfollowed := true, recurses := true, named := ["math/bits.deBruijn32tab"], apart := false, laid := [("math/bits.deBruijn32tab", laid_math_bits_deBruijn32tab)] }
def ArithSquaresSaid : Prop := arithSquaresRow.holds Tryd.pinned (OpenSpec.ofChange arithSquaresSpec)

/-- ITS FALSE NEIGHBOUR: 'it returns false'. Refute it at one input. -/
def arithSquaresWrong : ChangeSpec := { name := "arithSquares", fn := fun _ => fun
  | [d1, d2, d3] => { results := [.lit (.bool false)], args := [d1, d2, d3] }
  | _ => none }
def ArithSquaresWrongFalsely : Prop := arithSquaresRow.holds Tryd.pinned (OpenSpec.ofChange arithSquaresWrong)

/-- 'slipsticklaw.ConvExacts': WHATEVER THE INPUT: true; the input reads as it did. -/
def convExactsSpec : ChangeSpec := { name := "convExacts", fn := fun _ => fun
  | [d1, d2, d3] => { results := [.lit (.bool true)], args := [d1, d2, d3] }
  | _ => none }
def convExactsRow : OpenClaim := { program := "ytmacohmclpnphaadoor", sum := "ce4b6ea8b1139882f32d44af77729019e426d8f7716996534f53c8944d83fcc8", func := "slipstick/slipsticklaw.ConvExacts", spec := "convExacts", unfollowed := true, recurses := true, named := ["math/bits.deBruijn32tab"], apart := false, laid := [("math/bits.deBruijn32tab", laid_math_bits_deBruijn32tab)] }
def ConvExactsSaid : Prop := convExactsRow.holds Tryd.pinned (OpenSpec.ofChange convExactsSpec)

/-- ITS FALSE NEIGHBOUR: 'it returns false'. Refute it at one input. -/
def convExactsWrong : ChangeSpec := { name := "convExacts", fn := fun _ => fun
  | [d1, d2, d3] => { results := [.lit (.bool false)], args := [d1, d2, d3] }
  | _ => none }
def ConvExactsWrongFalsely : Prop := convExactsRow.holds Tryd.pinned (OpenSpec.ofChange convExactsWrong)

/-- 'slipsticklaw.ConvBack': WHATEVER THE INPUT: true; the input reads as it did. -/
def convBackSpec : ChangeSpec := { name := "convBack", fn := fun _ => fun
  | [d1, d2, d3, d4] => { results := [.lit (.bool true)], args := [d1, d2, d3, d4] }
  | _ => none }
def convBackRow : OpenClaim := { program := "ytmacohmclpnphaadoor", sum := "ce4b6ea8b1139882f32d44af77729019e426d8f7716996534f53c8944d83fcc8", func := "slipstick/slipsticklaw.ConvBack", spec := "convBack", unfollowed := true, recurses := true, named := ["math/bits.deBruijn32tab"], apart := false, laid := [("math/bits.deBruijn32tab", laid_math_bits_deBruijn32tab)] }
def ConvBackSaid : Prop := convBackRow.holds Tryd.pinned (OpenSpec.ofChange convBackSpec)

/-- ITS FALSE NEIGHBOUR: 'it returns false'. Refute it at one input. -/
def convBackWrong : ChangeSpec := { name := "convBack", fn := fun _ => fun
  | [d1, d2, d3, d4] => { results := [.lit (.bool false)], args := [d1, d2, d3, d4] }
  | _ => none }
def ConvBackWrongFalsely : Prop := convBackRow.holds Tryd.pinned (OpenSpec.ofChange convBackWrong)

/-- 'slipsticklaw.ConvThrough': WHATEVER THE INPUT: true; the input reads as it did. -/
def convThroughSpec : ChangeSpec := { name := "convThrough", fn := fun _ => fun
  | [d1, d2, d3, d4, d5] => { results := [.lit (.bool true)], args := [d1, d2, d3, d4, d5] }
  | _ => none }
def convThroughRow : OpenClaim := { program := "ytmacohmclpnphaadoor", sum := "ce4b6ea8b1139882f32d44af77729019e426d8f7716996534f53c8944d83fcc8", func := "slipstick/slipsticklaw.ConvThrough", spec := "convThrough", unfollowed := true, recurses := true, named := ["math/bits.deBruijn32tab"], apart := false, laid := [("math/bits.deBruijn32tab", laid_math_bits_deBruijn32tab)] }
def ConvThroughSaid : Prop := convThroughRow.holds Tryd.pinned (OpenSpec.ofChange convThroughSpec)

/-- ITS FALSE NEIGHBOUR: 'it returns false'. Refute it at one input. -/
def convThroughWrong : ChangeSpec := { name := "convThrough", fn := fun _ => fun
  | [d1, d2, d3, d4, d5] => { results := [.lit (.bool false)], args := [d1, d2, d3, d4, d5] }
  | _ => none }
def ConvThroughWrongFalsely : Prop := convThroughRow.holds Tryd.pinned (OpenSpec.ofChange convThroughWrong)

/- THE SECOND FORM. 'bulk': how many values and letters a reading holds, each counted each time it is reached (what is shared counts as often as it is met; a slice's spare places count too). A statement '..UptoSaid' is the law's where the arguments, and the package variables that the reading takes, are together of bulk at most 1048576: NARROWER than '..Said'. Prove '..Said' where nothing that the law and all that it calls make is longer than what came in: it says more and counts as full. Else prove '..UptoSaid'. A law counts once. -/
mutual
def uptoBulk {H : Type} : DataW H → Nat
  | .lit (.string bytes) => bytes.length + 1
  | .lit _ => 1
  | .nil => 1
  | .ptr d => uptoBulk d + 1
  | .slice elems spare => uptoBulkAll elems + uptoBulkAll spare + 1
  | .agg parts => uptoBulkAll parts + 1
  | .iface _ d => uptoBulk d + 1
  | .map entries => uptoBulkEntries entries + 1
  | .held _ => 1
def uptoBulkAll {H : Type} : List (DataW H) → Nat
  | [] => 0
  | d :: r => uptoBulk d + uptoBulkAll r
def uptoBulkEntries {H : Type} : List (Lit × DataW H) → Nat
  | [] => 0
  | x :: r => uptoBulkEntry x + uptoBulkEntries r
def uptoBulkEntry {H : Type} : Lit × DataW H → Nat
  | (.string bytes, d) => bytes.length + uptoBulk d + 1
  | (_, d) => uptoBulk d + 1
 end
def uptoSmall : (H : Type) → List (DataW H) → Bool := fun _ ds => decide (uptoBulkAll ds ≤ 1048576)
def OpenSpec.upto (s : _root_.Go.ChangeSpec) : _root_.Go.OpenSpec := { _root_.Go.OpenSpec.ofChange s with cond := some uptoSmall }

/-- 'slipsticklaw.CodecSteps', WHERE WHAT IT READS IS OF BULK AT MOST 1048576: true; the input reads as it did. -/
def codecStepsUptoRow : OpenClaim := { program := "ytmacohmclpnphaadoor", sum := "ce4b6ea8b1139882f32d44af77729019e426d8f7716996534f53c8944d83fcc8", func := "slipstick/slipsticklaw.CodecSteps", spec := "codecSteps", unfollowed := true, recurses := true, named := ["math/bits.deBruijn32tab"], apart := false, laid := [("math/bits.deBruijn32tab", laid_math_bits_deBruijn32tab)], narrowed := true }
def CodecStepsUptoSaid : Prop := codecStepsUptoRow.holds Tryd.pinned (OpenSpec.upto codecStepsSpec)

/-- 'slipsticklaw.ArithTurns', WHERE WHAT IT READS IS OF BULK AT MOST 1048576: true; the input reads as it did. -/
def arithTurnsUptoRow : OpenClaim := { program := "ytmacohmclpnphaadoor", sum := "ce4b6ea8b1139882f32d44af77729019e426d8f7716996534f53c8944d83fcc8", func := "slipstick/slipsticklaw.ArithTurns", spec := "arithTurns", unfollowed := true, recurses := true, named := ["math/bits.deBruijn32tab"], apart := false, laid := [("math/bits.deBruijn32tab", laid_math_bits_deBruijn32tab)], narrowed := true }
def ArithTurnsUptoSaid : Prop := arithTurnsUptoRow.holds Tryd.pinned (OpenSpec.upto arithTurnsSpec)

/-- 'slipsticklaw.ArithSelf', WHERE WHAT IT READS IS OF BULK AT MOST 1048576: true; the input reads as it did. -/
def arithSelfUptoRow : OpenClaim := { program := "ytmacohmclpnphaadoor", sum := "ce4b6ea8b1139882f32d44af77729019e426d8f7716996534f53c8944d83fcc8", func := "slipstick/slipsticklaw.ArithSelf", spec := "arithSelf", unfollowed := true, recurses := true, named := ["math/bits.deBruijn32tab"], apart := false, laid := [("math/bits.deBruijn32tab", laid_math_bits_deBruijn32tab)], narrowed := true }
def ArithSelfUptoSaid : Prop := arithSelfUptoRow.holds Tryd.pinned (OpenSpec.upto arithSelfSpec)

/-- 'slipsticklaw.ArithOne', WHERE WHAT IT READS IS OF BULK AT MOST 1048576: true; the input reads as it did. -/
def arithOneUptoRow : OpenClaim := { program := "ytmacohmclpnphaadoor", sum := "ce4b6ea8b1139882f32d44af77729019e426d8f7716996534f53c8944d83fcc8", func := "slipstick/slipsticklaw.ArithOne", spec := "arithOne", unfollowed := true, recurses := true, named := ["math/bits.deBruijn32tab"], apart := false, laid := [("math/bits.deBruijn32tab", laid_math_bits_deBruijn32tab)], narrowed := true }
def ArithOneUptoSaid : Prop := arithOneUptoRow.holds Tryd.pinned (OpenSpec.upto arithOneSpec)

/-- 'slipsticklaw.ArithBounds', WHERE WHAT IT READS IS OF BULK AT MOST 1048576: true; the input reads as it did. -/
def arithBoundsUptoRow : OpenClaim := { program := "ytmacohmclpnphaadoor", sum := "ce4b6ea8b1139882f32d44af77729019e426d8f7716996534f53c8944d83fcc8", func := "slipstick/slipsticklaw.ArithBounds", spec := "arithBounds", unfollowed := true, recurses := true, named := ["math/bits.deBruijn32tab"], apart := false, laid := [("math/bits.deBruijn32tab", laid_math_bits_deBruijn32tab)], narrowed := true }
def ArithBoundsUptoSaid : Prop := arithBoundsUptoRow.holds Tryd.pinned (OpenSpec.upto arithBoundsSpec)

/-- 'slipsticklaw.ArithSquares', WHERE WHAT IT READS IS OF BULK AT MOST 1048576: true; the input reads as it did. -/
def arithSquaresUptoRow : OpenClaim := { program := "ytmacohmclpnphaadoor", sum := "ce4b6ea8b1139882f32d44af77729019e426d8f7716996534f53c8944d83fcc8", func := "slipstick/slipsticklaw.ArithSquares", spec := "arithSquares", unfollowed := true, recurses := true, named := ["math/bits.deBruijn32tab"], apart := false, laid := [("math/bits.deBruijn32tab", laid_math_bits_deBruijn32tab)], narrowed := true }
def ArithSquaresUptoSaid : Prop := arithSquaresUptoRow.holds Tryd.pinned (OpenSpec.upto arithSquaresSpec)

/-- 'slipsticklaw.ConvExacts', WHERE WHAT IT READS IS OF BULK AT MOST 1048576: true; the input reads as it did. -/
def convExactsUptoRow : OpenClaim := { program := "ytmacohmclpnphaadoor", sum := "ce4b6ea8b1139882f32d44af77729019e426d8f7716996534f53c8944d83fcc8", func := "slipstick/slipsticklaw.ConvExacts", spec := "convExacts", unfollowed := true, recurses := true, named := ["math/bits.deBruijn32tab"], apart := false, laid := [("math/bits.deBruijn32tab", laid_math_bits_deBruijn32tab)], narrowed := true }
def ConvExactsUptoSaid : Prop := convExactsUptoRow.holds Tryd.pinned (OpenSpec.upto convExactsSpec)

/-- 'slipsticklaw.ConvBack', WHERE WHAT IT READS IS OF BULK AT MOST 1048576: true; the input reads as it did. -/
def convBackUptoRow : OpenClaim := { program := "ytmacohmclpnphaadoor", sum := "ce4b6ea8b1139882f32d44af77729019e426d8f7716996534f53c8944d83fcc8", func := "slipstick/slipsticklaw.ConvBack", spec := "convBack", unfollowed := true, recurses := true, named := ["math/bits.deBruijn32tab"], apart := false, laid := [("math/bits.deBruijn32tab", laid_math_bits_deBruijn32tab)], narrowed := true }
def ConvBackUptoSaid : Prop := convBackUptoRow.holds Tryd.pinned (OpenSpec.upto convBackSpec)

/-- 'slipsticklaw.ConvThrough', WHERE WHAT IT READS IS OF BULK AT MOST 1048576: true; the input reads as it did. -/
def convThroughUptoRow : OpenClaim := { program := "ytmacohmclpnphaadoor", sum := "ce4b6ea8b1139882f32d44af77729019e426d8f7716996534f53c8944d83fcc8", func := "slipstick/slipsticklaw.ConvThrough", spec := "convThrough", unfollowed := true, recurses := true, named := ["math/bits.deBruijn32tab"], apart := false, laid := [("math/bits.deBruijn32tab", laid_math_bits_deBruijn32tab)], narrowed := true }
def ConvThroughUptoSaid : Prop := convThroughUptoRow.holds Tryd.pinned (OpenSpec.upto convThroughSpec)

end Rows
end Go.Proofs.YtmacohmclpnphaaDoor
