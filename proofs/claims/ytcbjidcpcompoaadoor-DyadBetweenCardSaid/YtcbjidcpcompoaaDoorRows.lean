/-
  NARROWER THAN 'FOR EVERY INPUT', by the rows' own cells (each row's printed sentence says how): DyadAdds: laid · DyadChecks: laid · DyadBares: laid · DyadScales: laid · DyadFloors: laid · DyadMuls: laid · DyadTurns: laid · DyadCompares: laid · DyadCuts: laid · DyadBetween: laid.
  DERIVED. THE GIVEN ROWS OF THIS SEAT. 10 by the template 'for every input the law returns true; each argument reads behind the call as it read before'; 0 by the template 'total and deterministic' (their statements: YtcbjidcpcompoaaDoorTotals.lean).
  GIVEN WITH THE SEED: the statements are not yours to turn. If you find one false, say at which input.
  Laid BY PROGRAM, IN A SANDBOX (cutbox-rows.mjs): the forced cells as the released guide's own fill.sh prints them over the translation 0b20755438de18ad… (all of the seat's roots in one cut). By AI agents, Wed Nov 11 2026. No macro, syntax, notation, axiom, sorry.
-/
import Derived.Test.YtcbjidcpcompoaaDoorChecked
import GoSem.Claim
import GoSem.ClaimJoined
import GoSem.ClaimMapViews
import Derived.JoinedTies
import Derived.KernelRfl
namespace Go.Proofs.YtcbjidcpcompoaaDoor
/- THE CELL 'sum', in the pinned program and in every row, IS THE sha256 OF THE DUMP (.gsa) THAT YtcbjidcpcompoaaDoorProg.lean LOADS. Nothing in Lean hashes anything: it is a label: what it is worth is what the hold of that sum in a sandbox is worth. -/
noncomputable def Tryd.pinned : Pinned := { name := "ytcbjidcpcompoaadoor", sum := "0b20755438de18addd993ae11fe3357c740880eae2ffa61243aead67732579e7", checked := Tryd.checked }
namespace Rows
def none {H : Type} : Left H := { results := [], args := [] }

/- WHAT THE LISTED PACKAGE-LEVEL VARIABLES READ AS WHEN THE CALL BEGINS. Each datum BY PROGRAM (the guide's laid-datum.mjs) off the statement by which the dump's own 'gosem.cut.vars' lays the variable. In a bare row this is a premise. The card (YtcbjidcpcompoaaDoorCards.lean) ties it to the program's text. -/
def laid_math_bits_deBruijn32tab {H : Type} : DataW H := .agg [.lit (.int .u8 0), .lit (.int .u8 1), .lit (.int .u8 28), .lit (.int .u8 2), .lit (.int .u8 29), .lit (.int .u8 14), .lit (.int .u8 24), .lit (.int .u8 3), .lit (.int .u8 30), .lit (.int .u8 22), .lit (.int .u8 20), .lit (.int .u8 15), .lit (.int .u8 25), .lit (.int .u8 17), .lit (.int .u8 4), .lit (.int .u8 8), .lit (.int .u8 31), .lit (.int .u8 27), .lit (.int .u8 13), .lit (.int .u8 23), .lit (.int .u8 21), .lit (.int .u8 19), .lit (.int .u8 16), .lit (.int .u8 7), .lit (.int .u8 26), .lit (.int .u8 12), .lit (.int .u8 18), .lit (.int .u8 6), .lit (.int .u8 11), .lit (.int .u8 5), .lit (.int .u8 10), .lit (.int .u8 9)]

/-- 'slipsticklaw.DyadAdds': WHATEVER THE INPUT: true; the input reads as it did. -/
def dyadAddsSpec : ChangeSpec := { name := "dyadAdds", fn := fun _ => fun
  | [d1, d2] => { results := [.lit (.bool true)], args := [d1, d2] }
  | _ => none }
def dyadAddsRow : OpenClaim := { program := "ytcbjidcpcompoaadoor", sum := "0b20755438de18addd993ae11fe3357c740880eae2ffa61243aead67732579e7", func := "slipstick/slipsticklaw.DyadAdds", spec := "dyadAdds", unfollowed := true, recurses := true, named := ["math/bits.deBruijn32tab"], apart := false, laid := [("math/bits.deBruijn32tab", laid_math_bits_deBruijn32tab)] }
def DyadAddsSaid : Prop := dyadAddsRow.holds Tryd.pinned (OpenSpec.ofChange dyadAddsSpec)

/-- ITS FALSE NEIGHBOUR: 'it returns false'. Refute it at one input. -/
def dyadAddsWrong : ChangeSpec := { name := "dyadAdds", fn := fun _ => fun
  | [d1, d2] => { results := [.lit (.bool false)], args := [d1, d2] }
  | _ => none }
def DyadAddsWrongFalsely : Prop := dyadAddsRow.holds Tryd.pinned (OpenSpec.ofChange dyadAddsWrong)

/-- 'slipsticklaw.DyadChecks': WHATEVER THE INPUT: true; the input reads as it did. -/
def dyadChecksSpec : ChangeSpec := { name := "dyadChecks", fn := fun _ => fun
  | [d] => { results := [.lit (.bool true)], args := [d] }
  | _ => none }
def dyadChecksRow : OpenClaim := { program := "ytcbjidcpcompoaadoor", sum := "0b20755438de18addd993ae11fe3357c740880eae2ffa61243aead67732579e7", func := "slipstick/slipsticklaw.DyadChecks", spec := "dyadChecks", unfollowed := true, recurses := true, named := ["math/bits.deBruijn32tab"], apart := false, laid := [("math/bits.deBruijn32tab", laid_math_bits_deBruijn32tab)] }
def DyadChecksSaid : Prop := dyadChecksRow.holds Tryd.pinned (OpenSpec.ofChange dyadChecksSpec)

/-- ITS FALSE NEIGHBOUR: 'it returns false'. Refute it at one input. -/
def dyadChecksWrong : ChangeSpec := { name := "dyadChecks", fn := fun _ => fun
  | [d] => { results := [.lit (.bool false)], args := [d] }
  | _ => none }
def DyadChecksWrongFalsely : Prop := dyadChecksRow.holds Tryd.pinned (OpenSpec.ofChange dyadChecksWrong)

/-- 'slipsticklaw.DyadBares': WHATEVER THE INPUT: true; the input reads as it did. -/
def dyadBaresSpec : ChangeSpec := { name := "dyadBares", fn := fun _ => fun
  | [d] => { results := [.lit (.bool true)], args := [d] }
  | _ => none }
def dyadBaresRow : OpenClaim := { program := "ytcbjidcpcompoaadoor", sum := "0b20755438de18addd993ae11fe3357c740880eae2ffa61243aead67732579e7", func := "slipstick/slipsticklaw.DyadBares", spec := "dyadBares", unfollowed := true, recurses := true, named := ["math/bits.deBruijn32tab"], apart := false, laid := [("math/bits.deBruijn32tab", laid_math_bits_deBruijn32tab)] }
def DyadBaresSaid : Prop := dyadBaresRow.holds Tryd.pinned (OpenSpec.ofChange dyadBaresSpec)

/-- ITS FALSE NEIGHBOUR: 'it returns false'. Refute it at one input. -/
def dyadBaresWrong : ChangeSpec := { name := "dyadBares", fn := fun _ => fun
  | [d] => { results := [.lit (.bool false)], args := [d] }
  | _ => none }
def DyadBaresWrongFalsely : Prop := dyadBaresRow.holds Tryd.pinned (OpenSpec.ofChange dyadBaresWrong)

/-- 'slipsticklaw.DyadScales': WHATEVER THE INPUT: true; the input reads as it did. -/
def dyadScalesSpec : ChangeSpec := { name := "dyadScales", fn := fun _ => fun
  | [d1, d2] => { results := [.lit (.bool true)], args := [d1, d2] }
  | _ => none }
def dyadScalesRow : OpenClaim := { program := "ytcbjidcpcompoaadoor", sum := "0b20755438de18addd993ae11fe3357c740880eae2ffa61243aead67732579e7", func := "slipstick/slipsticklaw.DyadScales", spec := "dyadScales", unfollowed := true, recurses := true, named := ["math/bits.deBruijn32tab"], apart := false, laid := [("math/bits.deBruijn32tab", laid_math_bits_deBruijn32tab)] }
def DyadScalesSaid : Prop := dyadScalesRow.holds Tryd.pinned (OpenSpec.ofChange dyadScalesSpec)

/-- ITS FALSE NEIGHBOUR: 'it returns false'. Refute it at one input. -/
def dyadScalesWrong : ChangeSpec := { name := "dyadScales", fn := fun _ => fun
  | [d1, d2] => { results := [.lit (.bool false)], args := [d1, d2] }
  | _ => none }
def DyadScalesWrongFalsely : Prop := dyadScalesRow.holds Tryd.pinned (OpenSpec.ofChange dyadScalesWrong)

/-- 'slipsticklaw.DyadFloors': WHATEVER THE INPUT: true; the input reads as it did. -/
def dyadFloorsSpec : ChangeSpec := { name := "dyadFloors", fn := fun _ => fun
  | [d] => { results := [.lit (.bool true)], args := [d] }
  | _ => none }
def dyadFloorsRow : OpenClaim := { program := "ytcbjidcpcompoaadoor", sum := "0b20755438de18addd993ae11fe3357c740880eae2ffa61243aead67732579e7", func := "slipstick/slipsticklaw.DyadFloors", spec := "dyadFloors", unfollowed := true, recurses := true, named := ["math/bits.deBruijn32tab"], apart := false, laid := [("math/bits.deBruijn32tab", laid_math_bits_deBruijn32tab)] }
def DyadFloorsSaid : Prop := dyadFloorsRow.holds Tryd.pinned (OpenSpec.ofChange dyadFloorsSpec)

/-- ITS FALSE NEIGHBOUR: 'it returns false'. Refute it at one input. -/
def dyadFloorsWrong : ChangeSpec := { name := "dyadFloors", fn := fun _ => fun
  | [d] => { results := [.lit (.bool false)], args := [d] }
  | _ => none }
def DyadFloorsWrongFalsely : Prop := dyadFloorsRow.holds Tryd.pinned (OpenSpec.ofChange dyadFloorsWrong)

/-- 'slipsticklaw.DyadMuls': WHATEVER THE INPUT: true; the input reads as it did. -/
def dyadMulsSpec : ChangeSpec := { name := "dyadMuls", fn := fun _ => fun
  | [d1, d2] => { results := [.lit (.bool true)], args := [d1, d2] }
  | _ => none }
def dyadMulsRow : OpenClaim := { program := "ytcbjidcpcompoaadoor", sum := "0b20755438de18addd993ae11fe3357c740880eae2ffa61243aead67732579e7", func := "slipstick/slipsticklaw.DyadMuls", spec := "dyadMuls", unfollowed := true, recurses := true, named := ["math/bits.deBruijn32tab"], apart := false, laid := [("math/bits.deBruijn32tab", laid_math_bits_deBruijn32tab)] }
def DyadMulsSaid : Prop := dyadMulsRow.holds Tryd.pinned (OpenSpec.ofChange dyadMulsSpec)

/-- ITS FALSE NEIGHBOUR: 'it returns false'. Refute it at one input. -/
def dyadMulsWrong : ChangeSpec := { name := "dyadMuls", fn := fun _ => fun
  | [d1, d2] => { results := [.lit (.bool false)], args := [d1, d2] }
  | _ => none }
def DyadMulsWrongFalsely : Prop := dyadMulsRow.holds Tryd.pinned (OpenSpec.ofChange dyadMulsWrong)

/-- 'slipsticklaw.DyadTurns': WHATEVER THE INPUT: true; the input reads as it did. -/
def dyadTurnsSpec : ChangeSpec := { name := "dyadTurns", fn := fun _ => fun
  | [d1, d2, d3] => { results := [.lit (.bool true)], args := [d1, d2, d3] }
  | _ => none }
def dyadTurnsRow : OpenClaim := { program := "ytcbjidcpcompoaadoor", sum := "0b20755438de18addd993ae11fe3357c740880eae2ffa61243aead67732579e7", func := "slipstick/slipsticklaw.DyadTurns", spec := "dyadTurns", unfollowed := true, recurses := true, named := ["math/bits.deBruijn32tab"], apart := false, laid := [("math/bits.deBruijn32tab", laid_math_bits_deBruijn32tab)] }
def DyadTurnsSaid : Prop := dyadTurnsRow.holds Tryd.pinned (OpenSpec.ofChange dyadTurnsSpec)

/-- ITS FALSE NEIGHBOUR: 'it returns false'. Refute it at one input. -/
def dyadTurnsWrong : ChangeSpec := { name := "dyadTurns", fn := fun _ => fun
  | [d1, d2, d3] => { results := [.lit (.bool false)], args := [d1, d2, d3] }
  | _ => none }
def DyadTurnsWrongFalsely : Prop := dyadTurnsRow.holds Tryd.pinned (OpenSpec.ofChange dyadTurnsWrong)

/-- 'slipsticklaw.DyadCompares': WHATEVER THE INPUT: true; the input reads as it did. -/
def dyadComparesSpec : ChangeSpec := { name := "dyadCompares", fn := fun _ => fun
  | [d1, d2] => { results := [.lit (.bool true)], args := [d1, d2] }
  | _ => none }
def dyadComparesRow : OpenClaim := { program := "ytcbjidcpcompoaadoor", sum := "0b20755438de18addd993ae11fe3357c740880eae2ffa61243aead67732579e7", func := "slipstick/slipsticklaw.DyadCompares", spec := "dyadCompares", unfollowed := true, recurses := true, named := ["math/bits.deBruijn32tab"], apart := false, laid := [("math/bits.deBruijn32tab", laid_math_bits_deBruijn32tab)] }
def DyadComparesSaid : Prop := dyadComparesRow.holds Tryd.pinned (OpenSpec.ofChange dyadComparesSpec)

/-- ITS FALSE NEIGHBOUR: 'it returns false'. Refute it at one input. -/
def dyadComparesWrong : ChangeSpec := { name := "dyadCompares", fn := fun _ => fun
  | [d1, d2] => { results := [.lit (.bool false)], args := [d1, d2] }
  | _ => none }
def DyadComparesWrongFalsely : Prop := dyadComparesRow.holds Tryd.pinned (OpenSpec.ofChange dyadComparesWrong)

/-- 'slipsticklaw.DyadCuts': WHATEVER THE INPUT: true; the input reads as it did. -/
def dyadCutsSpec : ChangeSpec := { name := "dyadCuts", fn := fun _ => fun
  | [d1, d2, d3] => { results := [.lit (.bool true)], args := [d1, d2, d3] }
  | _ => none }
def dyadCutsRow : OpenClaim := { program := "ytcbjidcpcompoaadoor", sum := "0b20755438de18addd993ae11fe3357c740880eae2ffa61243aead67732579e7", func := "slipstick/slipsticklaw.DyadCuts", spec := "dyadCuts", unfollowed := true, recurses := true, named := ["math/bits.deBruijn32tab"], apart := false, laid := [("math/bits.deBruijn32tab", laid_math_bits_deBruijn32tab)] }
def DyadCutsSaid : Prop := dyadCutsRow.holds Tryd.pinned (OpenSpec.ofChange dyadCutsSpec)

/-- ITS FALSE NEIGHBOUR: 'it returns false'. Refute it at one input. -/
def dyadCutsWrong : ChangeSpec := { name := "dyadCuts", fn := fun _ => fun
  | [d1, d2, d3] => { results := [.lit (.bool false)], args := [d1, d2, d3] }
  | _ => none }
def DyadCutsWrongFalsely : Prop := dyadCutsRow.holds Tryd.pinned (OpenSpec.ofChange dyadCutsWrong)

/-- 'slipsticklaw.DyadBetween': WHATEVER THE INPUT: true; the input reads as it did. -/
def dyadBetweenSpec : ChangeSpec := { name := "dyadBetween", fn := fun _ => fun
  | [d1, d2] => { results := [.lit (.bool true)], args := [d1, d2] }
  | _ => none }
def dyadBetweenRow : OpenClaim := { program := "ytcbjidcpcompoaadoor", sum := "0b20755438de18addd993ae11fe3357c740880eae2ffa61243aead67732579e7", func := "slipstick/slipsticklaw.DyadBetween", spec := "dyadBetween", unfollowed := true, recurses := true, named := ["math/bits.deBruijn32tab"], apart := false, laid := [("math/bits.deBruijn32tab", laid_math_bits_deBruijn32tab)] }
def DyadBetweenSaid : Prop := dyadBetweenRow.holds Tryd.pinned (OpenSpec.ofChange dyadBetweenSpec)

/-- ITS FALSE NEIGHBOUR: 'it returns false'. Refute it at one input. -/
def dyadBetweenWrong : ChangeSpec := { name := "dyadBetween", fn := fun _ => fun
  | [d1, d2] => { results := [.lit (.bool false)], args := [d1, d2] }
  | _ => none }
def DyadBetweenWrongFalsely : Prop := dyadBetweenRow.holds Tryd.pinned (OpenSpec.ofChange dyadBetweenWrong)

/- THE SECOND FORM. 'bulk': how many values and letters a reading holds, each counted each time it is reached (what is shared counts as often as it is met; a slice's spare places count too). A statement '..UptoSaid' is the law's where the arguments, and the package variables that the reading takes, are together of bulk at most 1048576: NARROWER than '..Said'. Prove '..Said' where nothing that the law and all that it calls make is longer than what came in: it says more and counts as full. Else prove '..UptoSaid'. A law counts once. -/
mutual
def uptoBulk {H : Type} : DataW H → Nat
  | .lit (.string bytes) => bytes.length + 1
  | .lit _ => 1
  | .nil => 1
  | .ptr d => uptoBulk d + 1
  | .slice elems spare => uptoBulkAll elems + uptoBulkAll spare + 1
  | .agg parts => uptoBulkAll parts + 1
  | .iface _ d => uptoBulk d + 1
  | .map entries => uptoBulkEntries entries + 1
  | .held _ => 1
def uptoBulkAll {H : Type} : List (DataW H) → Nat
  | [] => 0
  | d :: r => uptoBulk d + uptoBulkAll r
def uptoBulkEntries {H : Type} : List (Lit × DataW H) → Nat
  | [] => 0
  | x :: r => uptoBulkEntry x + uptoBulkEntries r
def uptoBulkEntry {H : Type} : Lit × DataW H → Nat
  | (.string bytes, d) => bytes.length + uptoBulk d + 1
  | (_, d) => uptoBulk d + 1
 end
def uptoSmall : (H : Type) → List (DataW H) → Bool := fun _ ds => decide (uptoBulkAll ds ≤ 1048576)
def OpenSpec.upto (s : _root_.Go.ChangeSpec) : _root_.Go.OpenSpec := { _root_.Go.OpenSpec.ofChange s with cond := some uptoSmall }

/-- 'slipsticklaw.DyadAdds', WHERE WHAT IT READS IS OF BULK AT MOST 1048576: true; the input reads as it did. -/
def dyadAddsUptoRow : OpenClaim := { program := "ytcbjidcpcompoaadoor", sum := "0b20755438de18addd993ae11fe3357c740880eae2ffa61243aead67732579e7", func := "slipstick/slipsticklaw.DyadAdds", spec := "dyadAdds", unfollowed := true, recurses := true, named := ["math/bits.deBruijn32tab"], apart := false, laid := [("math/bits.deBruijn32tab", laid_math_bits_deBruijn32tab)], narrowed := true }
def DyadAddsUptoSaid : Prop := dyadAddsUptoRow.holds Tryd.pinned (OpenSpec.upto dyadAddsSpec)

/-- 'slipsticklaw.DyadChecks', WHERE WHAT IT READS IS OF BULK AT MOST 1048576: true; the input reads as it did. -/
def dyadChecksUptoRow : OpenClaim := { program := "ytcbjidcpcompoaadoor", sum := "0b20755438de18addd993ae11fe3357c740880eae2ffa61243aead67732579e7", func := "slipstick/slipsticklaw.DyadChecks", spec := "dyadChecks", unfollowed := true, recurses := true, named := ["math/bits.deBruijn32tab"], apart := false, laid := [("math/bits.deBruijn32tab", laid_math_bits_deBruijn32tab)], narrowed := true }
def DyadChecksUptoSaid : Prop := dyadChecksUptoRow.holds Tryd.pinned (OpenSpec.upto dyadChecksSpec)

/-- 'slipsticklaw.DyadBares', WHERE WHAT IT READS IS OF BULK AT MOST 1048576: true; the input reads as it did. -/
def dyadBaresUptoRow : OpenClaim := { program := "ytcbjidcpcompoaadoor", sum := "0b20755438de18addd993ae11fe3357c740880eae2ffa61243aead67732579e7", func := "slipstick/slipsticklaw.DyadBares", spec := "dyadBares", unfollowed := true, recurses := true, named := ["math/bits.deBruijn32tab"], apart := false, laid := [("math/bits.deBruijn32tab", laid_math_bits_deBruijn32tab)], narrowed := true }
def DyadBaresUptoSaid : Prop := dyadBaresUptoRow.holds Tryd.pinned (OpenSpec.upto dyadBaresSpec)

/-- 'slipsticklaw.DyadScales', WHERE WHAT IT READS IS OF BULK AT MOST 1048576: true; the input reads as it did. -/
def dyadScalesUptoRow : OpenClaim := { program := "ytcbjidcpcompoaadoor", sum := "0b20755438de18addd993ae11fe3357c740880eae2ffa61243aead67732579e7", func := "slipstick/slipsticklaw.DyadScales", spec := "dyadScales", unfollowed := true, recurses := true, named := ["math/bits.deBruijn32tab"], apart := false, laid := [("math/bits.deBruijn32tab", laid_math_bits_deBruijn32tab)], narrowed := true }
def DyadScalesUptoSaid : Prop := dyadScalesUptoRow.holds Tryd.pinned (OpenSpec.upto dyadScalesSpec)

/-- 'slipsticklaw.DyadFloors', WHERE WHAT IT READS IS OF BULK AT MOST 1048576: true; the input reads as it did. -/
def dyadFloorsUptoRow : OpenClaim := { program := "ytcbjidcpcompoaadoor", sum := "0b20755438de18addd993ae11fe3357c740880eae2ffa61243aead67732579e7", func := "slipstick/slipsticklaw.DyadFloors", spec := "dyadFloors", unfollowed := true, recurses := true, named := ["math/bits.deBruijn32tab"], apart := false, laid := [("math/bits.deBruijn32tab", laid_math_bits_deBruijn32tab)], narrowed := true }
def DyadFloorsUptoSaid : Prop := dyadFloorsUptoRow.holds Tryd.pinned (OpenSpec.upto dyadFloorsSpec)

/-- 'slipsticklaw.DyadMuls', WHERE WHAT IT READS IS OF BULK AT MOST 1048576: true; the input reads as it did. -/
def dyadMulsUptoRow : OpenClaim := { program := "ytcbjidcpcompoaadoor", sum := "0b20755438de18addd993ae11fe3357c740880eae2ffa61243aead67732579e7", func := "slipstick/slipsticklaw.DyadMuls", spec := "dyadMuls", unfollowed := true, recurses := true, named := ["math/bits.deBruijn32tab"], apart := false, laid := [("math/bits.deBruijn32tab", laid_math_bits_deBruijn32tab)], narrowed := true }
def DyadMulsUptoSaid : Prop := dyadMulsUptoRow.holds Tryd.pinned (OpenSpec.upto dyadMulsSpec)

/-- 'slipsticklaw.DyadTurns', WHERE WHAT IT READS IS OF BULK AT MOST 1048576: true; the input reads as it did. -/
def dyadTurnsUptoRow : OpenClaim := { program := "ytcbjidcpcompoaadoor", sum := "0b20755438de18addd993ae11fe3357c740880eae2ffa61243aead67732579e7", func := "slipstick/slipsticklaw.DyadTurns", spec := "dyadTurns", unfollowed := true, recurses := true, named := ["math/bits.deBruijn32tab"], apart := false, laid := [("math/bits.deBruijn32tab", laid_math_bits_deBruijn32tab)], narrowed := true }
def DyadTurnsUptoSaid : Prop := dyadTurnsUptoRow.holds Tryd.pinned (OpenSpec.upto dyadTurnsSpec)

/-- 'slipsticklaw.DyadCompares', WHERE WHAT IT READS IS OF BULK AT MOST 1048576: true; the input reads as it did. -/
def dyadComparesUptoRow : OpenClaim := { program := "ytcbjidcpcompoaadoor", sum := "0b20755438de18addd993ae11fe3357c740880eae2ffa61243aead67732579e7", func := "slipstick/slipsticklaw.DyadCompares", spec := "dyadCompares", unfollowed := true, recurses := true, named := ["math/bits.deBruijn32tab"], apart := false, laid := [("math/bits.deBruijn32tab", laid_math_bits_deBruijn32tab)], narrowed := true }
def DyadComparesUptoSaid : Prop := dyadComparesUptoRow.holds Tryd.pinned (OpenSpec.upto dyadComparesSpec)

/-- 'slipsticklaw.DyadCuts', WHERE WHAT IT READS IS OF BULK AT MOST 1048576: true; the input reads as it did. -/
def dyadCutsUptoRow : OpenClaim := { program := "ytcbjidcpcompoaadoor", sum := "0b20755438de18addd993ae11fe3357c740880eae2ffa61243aead67732579e7", func := "slipstick/slipsticklaw.DyadCuts", spec := "dyadCuts", unfollowed := true, recurses := true, named := ["math/bits.deBruijn32tab"], apart := false, laid := [("math/bits.deBruijn32tab", laid_math_bits_deBruijn32tab)], narrowed := true }
def DyadCutsUptoSaid : Prop := dyadCutsUptoRow.holds Tryd.pinned (OpenSpec.upto dyadCutsSpec)

/-- 'slipsticklaw.DyadBetween', WHERE WHAT IT READS IS OF BULK AT MOST 1048576: true; the input reads as it did. -/
def dyadBetweenUptoRow : OpenClaim := { program := "ytcbjidcpcompoaadoor", sum := "0b20755438de18addd993ae11fe3357c740880eae2ffa61243aead67732579e7", func := "slipstick/slipsticklaw.DyadBetween", spec := "dyadBetween", unfollowed := true, recurses := true, named := ["math/bits.deBruijn32tab"], apart := false, laid := [("math/bits.deBruijn32tab", laid_math_bits_deBruijn32tab)], narrowed := true }
def DyadBetweenUptoSaid : Prop := dyadBetweenUptoRow.holds Tryd.pinned (OpenSpec.upto dyadBetweenSpec)

end Rows
end Go.Proofs.YtcbjidcpcompoaaDoor
