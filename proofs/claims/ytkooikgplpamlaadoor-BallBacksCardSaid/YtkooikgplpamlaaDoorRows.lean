/-
  NARROWER THAN 'FOR EVERY INPUT', by the rows' own cells (each row's printed sentence says how): BallChecks: laid · BallDivs: laid · BallJoins: laid · BallHas: laid · BallMuls: laid · BallAdds: laid · BallSubs: laid · BallSqrts: laid · BallHolds: laid · BallBacks: laid · RestDyads: laid.
  DERIVED. THE GIVEN ROWS OF THIS SEAT. 11 by the template 'for every input the law returns true; each argument reads behind the call as it read before'; 0 by the template 'total and deterministic' (their statements: YtkooikgplpamlaaDoorTotals.lean).
  GIVEN WITH THE SEED: the statements are not yours to turn. If you find one false, say at which input.
  Laid BY PROGRAM, IN A SANDBOX (cutbox-rows.mjs): the forced cells as the released guide's own fill.sh prints them over the translation 5a63d237e36edad3… (all of the seat's roots in one cut). By AI agents, Wed Nov 11 2026. No macro, syntax, notation, axiom, sorry.
-/
import Derived.Test.YtkooikgplpamlaaDoorChecked
import GoSem.Claim
import GoSem.ClaimJoined
import GoSem.ClaimMapViews
import Derived.JoinedTies
import Derived.KernelRfl
namespace Go.Proofs.YtkooikgplpamlaaDoor
/- THE CELL 'sum', in the pinned program and in every row, IS THE sha256 OF THE DUMP (.gsa) THAT YtkooikgplpamlaaDoorProg.lean LOADS. Nothing in Lean hashes anything: it is a label: what it is worth is what the hold of that sum in a sandbox is worth. -/
noncomputable def Tryd.pinned : Pinned := { name := "ytkooikgplpamlaadoor", sum := "5a63d237e36edad399a36c3f2cb4051a67bb221cc677cdfe5749dc2ab7ce3407", checked := Tryd.checked }
namespace Rows
def none {H : Type} : Left H := { results := [], args := [] }

/- WHAT THE LISTED PACKAGE-LEVEL VARIABLES READ AS WHEN THE CALL BEGINS. Each datum BY PROGRAM (the guide's laid-datum.mjs) off the statement by which the dump's own 'gosem.cut.vars' lays the variable. In a bare row this is a premise. The card (YtkooikgplpamlaaDoorCards.lean) ties it to the program's text. -/
def laid_math_bits_deBruijn32tab {H : Type} : DataW H := .agg [.lit (.int .u8 0), .lit (.int .u8 1), .lit (.int .u8 28), .lit (.int .u8 2), .lit (.int .u8 29), .lit (.int .u8 14), .lit (.int .u8 24), .lit (.int .u8 3), .lit (.int .u8 30), .lit (.int .u8 22), .lit (.int .u8 20), .lit (.int .u8 15), .lit (.int .u8 25), .lit (.int .u8 17), .lit (.int .u8 4), .lit (.int .u8 8), .lit (.int .u8 31), .lit (.int .u8 27), .lit (.int .u8 13), .lit (.int .u8 23), .lit (.int .u8 21), .lit (.int .u8 19), .lit (.int .u8 16), .lit (.int .u8 7), .lit (.int .u8 26), .lit (.int .u8 12), .lit (.int .u8 18), .lit (.int .u8 6), .lit (.int .u8 11), .lit (.int .u8 5), .lit (.int .u8 10), .lit (.int .u8 9)]

/-- 'slipsticklaw.BallChecks': WHATEVER THE INPUT: true; the input reads as it did. -/
def ballChecksSpec : ChangeSpec := { name := "ballChecks", fn := fun _ => fun
  | [d] => { results := [.lit (.bool true)], args := [d] }
  | _ => none }
def ballChecksRow : OpenClaim := { program := "ytkooikgplpamlaadoor", sum := "5a63d237e36edad399a36c3f2cb4051a67bb221cc677cdfe5749dc2ab7ce3407", func := "slipstick/slipsticklaw.BallChecks", spec := "ballChecks", named := ["math/bits.deBruijn32tab"], apart := false, laid := [("math/bits.deBruijn32tab", laid_math_bits_deBruijn32tab)] }
def BallChecksSaid : Prop := ballChecksRow.holds Tryd.pinned (OpenSpec.ofChange ballChecksSpec)

/-- ITS FALSE NEIGHBOUR: 'it returns false'. Refute it at one input. -/
def ballChecksWrong : ChangeSpec := { name := "ballChecks", fn := fun _ => fun
  | [d] => { results := [.lit (.bool false)], args := [d] }
  | _ => none }
def BallChecksWrongFalsely : Prop := ballChecksRow.holds Tryd.pinned (OpenSpec.ofChange ballChecksWrong)

/-- 'slipsticklaw.BallDivs': WHATEVER THE INPUT: true; the input reads as it did. -/
def ballDivsSpec : ChangeSpec := { name := "ballDivs", fn := fun _ => fun
  | [d1, d2, d3] => { results := [.lit (.bool true)], args := [d1, d2, d3] }
  | _ => none }
def ballDivsRow : OpenClaim := { program := "ytkooikgplpamlaadoor", sum := "5a63d237e36edad399a36c3f2cb4051a67bb221cc677cdfe5749dc2ab7ce3407", func := "slipstick/slipsticklaw.BallDivs", spec := "ballDivs", named := ["math/bits.deBruijn32tab"], apart := false, laid := [("math/bits.deBruijn32tab", laid_math_bits_deBruijn32tab)] }
def BallDivsSaid : Prop := ballDivsRow.holds Tryd.pinned (OpenSpec.ofChange ballDivsSpec)

/-- ITS FALSE NEIGHBOUR: 'it returns false'. Refute it at one input. -/
def ballDivsWrong : ChangeSpec := { name := "ballDivs", fn := fun _ => fun
  | [d1, d2, d3] => { results := [.lit (.bool false)], args := [d1, d2, d3] }
  | _ => none }
def BallDivsWrongFalsely : Prop := ballDivsRow.holds Tryd.pinned (OpenSpec.ofChange ballDivsWrong)

/-- 'slipsticklaw.BallJoins': WHATEVER THE INPUT: true; the input reads as it did. -/
def ballJoinsSpec : ChangeSpec := { name := "ballJoins", fn := fun _ => fun
  | [d1, d2, d3] => { results := [.lit (.bool true)], args := [d1, d2, d3] }
  | _ => none }
def ballJoinsRow : OpenClaim := { program := "ytkooikgplpamlaadoor", sum := "5a63d237e36edad399a36c3f2cb4051a67bb221cc677cdfe5749dc2ab7ce3407", func := "slipstick/slipsticklaw.BallJoins", spec := "ballJoins", unfollowed := true, recurses := true, named := ["math/bits.deBruijn32tab"], apart := false, laid := [("math/bits.deBruijn32tab", laid_math_bits_deBruijn32tab)] }
def BallJoinsSaid : Prop := ballJoinsRow.holds Tryd.pinned (OpenSpec.ofChange ballJoinsSpec)

/-- ITS FALSE NEIGHBOUR: 'it returns false'. Refute it at one input. -/
def ballJoinsWrong : ChangeSpec := { name := "ballJoins", fn := fun _ => fun
  | [d1, d2, d3] => { results := [.lit (.bool false)], args := [d1, d2, d3] }
  | _ => none }
def BallJoinsWrongFalsely : Prop := ballJoinsRow.holds Tryd.pinned (OpenSpec.ofChange ballJoinsWrong)

/-- 'slipsticklaw.BallHas': WHATEVER THE INPUT: true; the input reads as it did. -/
def ballHasSpec : ChangeSpec := { name := "ballHas", fn := fun _ => fun
  | [d1, d2] => { results := [.lit (.bool true)], args := [d1, d2] }
  | _ => none }
def ballHasRow : OpenClaim := { program := "ytkooikgplpamlaadoor", sum := "5a63d237e36edad399a36c3f2cb4051a67bb221cc677cdfe5749dc2ab7ce3407", func := "slipstick/slipsticklaw.BallHas", spec := "ballHas", named := ["math/bits.deBruijn32tab"], apart := false, laid := [("math/bits.deBruijn32tab", laid_math_bits_deBruijn32tab)] }
def BallHasSaid : Prop := ballHasRow.holds Tryd.pinned (OpenSpec.ofChange ballHasSpec)

/-- ITS FALSE NEIGHBOUR: 'it returns false'. Refute it at one input. -/
def ballHasWrong : ChangeSpec := { name := "ballHas", fn := fun _ => fun
  | [d1, d2] => { results := [.lit (.bool false)], args := [d1, d2] }
  | _ => none }
def BallHasWrongFalsely : Prop := ballHasRow.holds Tryd.pinned (OpenSpec.ofChange ballHasWrong)

/-- 'slipsticklaw.BallMuls': WHATEVER THE INPUT: true; the input reads as it did. -/
def ballMulsSpec : ChangeSpec := { name := "ballMuls", fn := fun _ => fun
  | [d1, d2, d3] => { results := [.lit (.bool true)], args := [d1, d2, d3] }
  | _ => none }
def ballMulsRow : OpenClaim := { program := "ytkooikgplpamlaadoor", sum := "5a63d237e36edad399a36c3f2cb4051a67bb221cc677cdfe5749dc2ab7ce3407", func := "slipstick/slipsticklaw.BallMuls", spec := "ballMuls", unfollowed := true, recurses := true, named := ["math/bits.deBruijn32tab"], apart := false, laid := [("math/bits.deBruijn32tab", laid_math_bits_deBruijn32tab)] }
def BallMulsSaid : Prop := ballMulsRow.holds Tryd.pinned (OpenSpec.ofChange ballMulsSpec)

/-- ITS FALSE NEIGHBOUR: 'it returns false'. Refute it at one input. -/
def ballMulsWrong : ChangeSpec := { name := "ballMuls", fn := fun _ => fun
  | [d1, d2, d3] => { results := [.lit (.bool false)], args := [d1, d2, d3] }
  | _ => none }
def BallMulsWrongFalsely : Prop := ballMulsRow.holds Tryd.pinned (OpenSpec.ofChange ballMulsWrong)

/-- 'slipsticklaw.BallAdds': WHATEVER THE INPUT: true; the input reads as it did. -/
def ballAddsSpec : ChangeSpec := { name := "ballAdds", fn := fun _ => fun
  | [d1, d2, d3] => { results := [.lit (.bool true)], args := [d1, d2, d3] }
  | _ => none }
def ballAddsRow : OpenClaim := { program := "ytkooikgplpamlaadoor", sum := "5a63d237e36edad399a36c3f2cb4051a67bb221cc677cdfe5749dc2ab7ce3407", func := "slipstick/slipsticklaw.BallAdds", spec := "ballAdds", unfollowed := true, recurses := true, named := ["math/bits.deBruijn32tab"], apart := false, laid := [("math/bits.deBruijn32tab", laid_math_bits_deBruijn32tab)] }
def BallAddsSaid : Prop := ballAddsRow.holds Tryd.pinned (OpenSpec.ofChange ballAddsSpec)

/-- ITS FALSE NEIGHBOUR: 'it returns false'. Refute it at one input. -/
def ballAddsWrong : ChangeSpec := { name := "ballAdds", fn := fun _ => fun
  | [d1, d2, d3] => { results := [.lit (.bool false)], args := [d1, d2, d3] }
  | _ => none }
def BallAddsWrongFalsely : Prop := ballAddsRow.holds Tryd.pinned (OpenSpec.ofChange ballAddsWrong)

/-- 'slipsticklaw.BallSubs': WHATEVER THE INPUT: true; the input reads as it did. -/
def ballSubsSpec : ChangeSpec := { name := "ballSubs", fn := fun _ => fun
  | [d1, d2, d3] => { results := [.lit (.bool true)], args := [d1, d2, d3] }
  | _ => none }
def ballSubsRow : OpenClaim := { program := "ytkooikgplpamlaadoor", sum := "5a63d237e36edad399a36c3f2cb4051a67bb221cc677cdfe5749dc2ab7ce3407", func := "slipstick/slipsticklaw.BallSubs", spec := "ballSubs", unfollowed := true, recurses := true, named := ["math/bits.deBruijn32tab"], apart := false, laid := [("math/bits.deBruijn32tab", laid_math_bits_deBruijn32tab)] }
def BallSubsSaid : Prop := ballSubsRow.holds Tryd.pinned (OpenSpec.ofChange ballSubsSpec)

/-- ITS FALSE NEIGHBOUR: 'it returns false'. Refute it at one input. -/
def ballSubsWrong : ChangeSpec := { name := "ballSubs", fn := fun _ => fun
  | [d1, d2, d3] => { results := [.lit (.bool false)], args := [d1, d2, d3] }
  | _ => none }
def BallSubsWrongFalsely : Prop := ballSubsRow.holds Tryd.pinned (OpenSpec.ofChange ballSubsWrong)

/-- 'slipsticklaw.BallSqrts': WHATEVER THE INPUT: true; the input reads as it did. -/
def ballSqrtsSpec : ChangeSpec := { name := "ballSqrts", fn := fun _ => fun
  | [d1, d2] => { results := [.lit (.bool true)], args := [d1, d2] }
  | _ => none }
def ballSqrtsRow : OpenClaim := { program := "ytkooikgplpamlaadoor", sum := "5a63d237e36edad399a36c3f2cb4051a67bb221cc677cdfe5749dc2ab7ce3407", func := "slipstick/slipsticklaw.BallSqrts", spec := "ballSqrts", named := ["math/bits.deBruijn32tab"], apart := false, laid := [("math/bits.deBruijn32tab", laid_math_bits_deBruijn32tab)] }
def BallSqrtsSaid : Prop := ballSqrtsRow.holds Tryd.pinned (OpenSpec.ofChange ballSqrtsSpec)

/-- ITS FALSE NEIGHBOUR: 'it returns false'. Refute it at one input. -/
def ballSqrtsWrong : ChangeSpec := { name := "ballSqrts", fn := fun _ => fun
  | [d1, d2] => { results := [.lit (.bool false)], args := [d1, d2] }
  | _ => none }
def BallSqrtsWrongFalsely : Prop := ballSqrtsRow.holds Tryd.pinned (OpenSpec.ofChange ballSqrtsWrong)

/-- 'slipsticklaw.BallHolds': WHATEVER THE INPUT: true; the input reads as it did. -/
def ballHoldsSpec : ChangeSpec := { name := "ballHolds", fn := fun _ => fun
  | [d1, d2, d3, d4, d5] => { results := [.lit (.bool true)], args := [d1, d2, d3, d4, d5] }
  | _ => none }
def ballHoldsRow : OpenClaim := { program := "ytkooikgplpamlaadoor", sum := "5a63d237e36edad399a36c3f2cb4051a67bb221cc677cdfe5749dc2ab7ce3407", func := "slipstick/slipsticklaw.BallHolds", spec := "ballHolds", unfollowed := true, recurses := true, named := ["math/bits.deBruijn32tab"], apart := false, laid := [("math/bits.deBruijn32tab", laid_math_bits_deBruijn32tab)] }
def BallHoldsSaid : Prop := ballHoldsRow.holds Tryd.pinned (OpenSpec.ofChange ballHoldsSpec)

/-- ITS FALSE NEIGHBOUR: 'it returns false'. Refute it at one input. -/
def ballHoldsWrong : ChangeSpec := { name := "ballHolds", fn := fun _ => fun
  | [d1, d2, d3, d4, d5] => { results := [.lit (.bool false)], args := [d1, d2, d3, d4, d5] }
  | _ => none }
def BallHoldsWrongFalsely : Prop := ballHoldsRow.holds Tryd.pinned (OpenSpec.ofChange ballHoldsWrong)

/-- 'slipsticklaw.BallBacks': WHATEVER THE INPUT: true; the input reads as it did. -/
def ballBacksSpec : ChangeSpec := { name := "ballBacks", fn := fun _ => fun
  | [d1, d2, d3] => { results := [.lit (.bool true)], args := [d1, d2, d3] }
  | _ => none }
def ballBacksRow : OpenClaim := { program := "ytkooikgplpamlaadoor", sum := "5a63d237e36edad399a36c3f2cb4051a67bb221cc677cdfe5749dc2ab7ce3407", func := "slipstick/slipsticklaw.BallBacks", spec := "ballBacks", unfollowed := true, recurses := true, named := ["math/bits.deBruijn32tab"], apart := false, laid := [("math/bits.deBruijn32tab", laid_math_bits_deBruijn32tab)] }
def BallBacksSaid : Prop := ballBacksRow.holds Tryd.pinned (OpenSpec.ofChange ballBacksSpec)

/-- ITS FALSE NEIGHBOUR: 'it returns false'. Refute it at one input. -/
def ballBacksWrong : ChangeSpec := { name := "ballBacks", fn := fun _ => fun
  | [d1, d2, d3] => { results := [.lit (.bool false)], args := [d1, d2, d3] }
  | _ => none }
def BallBacksWrongFalsely : Prop := ballBacksRow.holds Tryd.pinned (OpenSpec.ofChange ballBacksWrong)

/-- 'slipsticklaw.RestDyads': WHATEVER THE INPUT: true; the input reads as it did. -/
def restDyadsSpec : ChangeSpec := { name := "restDyads", fn := fun _ => fun
  | [d1, d2, d3, d4, d5, d6] => { results := [.lit (.bool true)], args := [d1, d2, d3, d4, d5, d6] }
  | _ => none }
def restDyadsRow : OpenClaim := { program := "ytkooikgplpamlaadoor", sum := "5a63d237e36edad399a36c3f2cb4051a67bb221cc677cdfe5749dc2ab7ce3407", func := "slipstick/slipsticklaw.RestDyads", spec := "restDyads", unfollowed := true, recurses := true, named := ["math/bits.deBruijn32tab"], apart := false, laid := [("math/bits.deBruijn32tab", laid_math_bits_deBruijn32tab)] }
def RestDyadsSaid : Prop := restDyadsRow.holds Tryd.pinned (OpenSpec.ofChange restDyadsSpec)

/-- ITS FALSE NEIGHBOUR: 'it returns false'. Refute it at one input. -/
def restDyadsWrong : ChangeSpec := { name := "restDyads", fn := fun _ => fun
  | [d1, d2, d3, d4, d5, d6] => { results := [.lit (.bool false)], args := [d1, d2, d3, d4, d5, d6] }
  | _ => none }
def RestDyadsWrongFalsely : Prop := restDyadsRow.holds Tryd.pinned (OpenSpec.ofChange restDyadsWrong)

/- THE SECOND FORM. 'bulk': how many values and letters a reading holds, each counted each time it is reached (what is shared counts as often as it is met; a slice's spare places count too). A statement '..UptoSaid' is the law's where the arguments, and the package variables that the reading takes, are together of bulk at most 1048576: NARROWER than '..Said'. Prove '..Said' where nothing that the law and all that it calls make is longer than what came in: it says more and counts as full. Else prove '..UptoSaid'. A law counts once. -/
mutual
def uptoBulk {H : Type} : DataW H → Nat
  | .lit (.string bytes) => bytes.length + 1
  | .lit _ => 1
  | .nil => 1
  | .ptr d => uptoBulk d + 1
  | .slice elems spare => uptoBulkAll elems + uptoBulkAll spare + 1
  | .agg parts => uptoBulkAll parts + 1
  | .iface _ d => uptoBulk d + 1
  | .map entries => uptoBulkEntries entries + 1
  | .held _ => 1
def uptoBulkAll {H : Type} : List (DataW H) → Nat
  | [] => 0
  | d :: r => uptoBulk d + uptoBulkAll r
def uptoBulkEntries {H : Type} : List (Lit × DataW H) → Nat
  | [] => 0
  | x :: r => uptoBulkEntry x + uptoBulkEntries r
def uptoBulkEntry {H : Type} : Lit × DataW H → Nat
  | (.string bytes, d) => bytes.length + uptoBulk d + 1
  | (_, d) => uptoBulk d + 1
 end
def uptoSmall : (H : Type) → List (DataW H) → Bool := fun _ ds => decide (uptoBulkAll ds ≤ 1048576)
def OpenSpec.upto (s : _root_.Go.ChangeSpec) : _root_.Go.OpenSpec := { _root_.Go.OpenSpec.ofChange s with cond := some uptoSmall }

/-- 'slipsticklaw.BallChecks', WHERE WHAT IT READS IS OF BULK AT MOST 1048576: true; the input reads as it did. -/
def ballChecksUptoRow : OpenClaim := { program := "ytkooikgplpamlaadoor", sum := "5a63d237e36edad399a36c3f2cb4051a67bb221cc677cdfe5749dc2ab7ce3407", func := "slipstick/slipsticklaw.BallChecks", spec := "ballChecks", named := ["math/bits.deBruijn32tab"], apart := false, laid := [("math/bits.deBruijn32tab", laid_math_bits_deBruijn32tab)], narrowed := true }
def BallChecksUptoSaid : Prop := ballChecksUptoRow.holds Tryd.pinned (OpenSpec.upto ballChecksSpec)

/-- 'slipsticklaw.BallDivs', WHERE WHAT IT READS IS OF BULK AT MOST 1048576: true; the input reads as it did. -/
def ballDivsUptoRow : OpenClaim := { program := "ytkooikgplpamlaadoor", sum := "5a63d237e36edad399a36c3f2cb4051a67bb221cc677cdfe5749dc2ab7ce3407", func := "slipstick/slipsticklaw.BallDivs", spec := "ballDivs", named := ["math/bits.deBruijn32tab"], apart := false, laid := [("math/bits.deBruijn32tab", laid_math_bits_deBruijn32tab)], narrowed := true }
def BallDivsUptoSaid : Prop := ballDivsUptoRow.holds Tryd.pinned (OpenSpec.upto ballDivsSpec)

/-- 'slipsticklaw.BallJoins', WHERE WHAT IT READS IS OF BULK AT MOST 1048576: true; the input reads as it did. -/
def ballJoinsUptoRow : OpenClaim := { program := "ytkooikgplpamlaadoor", sum := "5a63d237e36edad399a36c3f2cb4051a67bb221cc677cdfe5749dc2ab7ce3407", func := "slipstick/slipsticklaw.BallJoins", spec := "ballJoins", unfollowed := true, recurses := true, named := ["math/bits.deBruijn32tab"], apart := false, laid := [("math/bits.deBruijn32tab", laid_math_bits_deBruijn32tab)], narrowed := true }
def BallJoinsUptoSaid : Prop := ballJoinsUptoRow.holds Tryd.pinned (OpenSpec.upto ballJoinsSpec)

/-- 'slipsticklaw.BallHas', WHERE WHAT IT READS IS OF BULK AT MOST 1048576: true; the input reads as it did. -/
def ballHasUptoRow : OpenClaim := { program := "ytkooikgplpamlaadoor", sum := "5a63d237e36edad399a36c3f2cb4051a67bb221cc677cdfe5749dc2ab7ce3407", func := "slipstick/slipsticklaw.BallHas", spec := "ballHas", named := ["math/bits.deBruijn32tab"], apart := false, laid := [("math/bits.deBruijn32tab", laid_math_bits_deBruijn32tab)], narrowed := true }
def BallHasUptoSaid : Prop := ballHasUptoRow.holds Tryd.pinned (OpenSpec.upto ballHasSpec)

/-- 'slipsticklaw.BallMuls', WHERE WHAT IT READS IS OF BULK AT MOST 1048576: true; the input reads as it did. -/
def ballMulsUptoRow : OpenClaim := { program := "ytkooikgplpamlaadoor", sum := "5a63d237e36edad399a36c3f2cb4051a67bb221cc677cdfe5749dc2ab7ce3407", func := "slipstick/slipsticklaw.BallMuls", spec := "ballMuls", unfollowed := true, recurses := true, named := ["math/bits.deBruijn32tab"], apart := false, laid := [("math/bits.deBruijn32tab", laid_math_bits_deBruijn32tab)], narrowed := true }
def BallMulsUptoSaid : Prop := ballMulsUptoRow.holds Tryd.pinned (OpenSpec.upto ballMulsSpec)

/-- 'slipsticklaw.BallAdds', WHERE WHAT IT READS IS OF BULK AT MOST 1048576: true; the input reads as it did. -/
def ballAddsUptoRow : OpenClaim := { program := "ytkooikgplpamlaadoor", sum := "5a63d237e36edad399a36c3f2cb4051a67bb221cc677cdfe5749dc2ab7ce3407", func := "slipstick/slipsticklaw.BallAdds", spec := "ballAdds", unfollowed := true, recurses := true, named := ["math/bits.deBruijn32tab"], apart := false, laid := [("math/bits.deBruijn32tab", laid_math_bits_deBruijn32tab)], narrowed := true }
def BallAddsUptoSaid : Prop := ballAddsUptoRow.holds Tryd.pinned (OpenSpec.upto ballAddsSpec)

/-- 'slipsticklaw.BallSubs', WHERE WHAT IT READS IS OF BULK AT MOST 1048576: true; the input reads as it did. -/
def ballSubsUptoRow : OpenClaim := { program := "ytkooikgplpamlaadoor", sum := "5a63d237e36edad399a36c3f2cb4051a67bb221cc677cdfe5749dc2ab7ce3407", func := "slipstick/slipsticklaw.BallSubs", spec := "ballSubs", unfollowed := true, recurses := true, named := ["math/bits.deBruijn32tab"], apart := false, laid := [("math/bits.deBruijn32tab", laid_math_bits_deBruijn32tab)], narrowed := true }
def BallSubsUptoSaid : Prop := ballSubsUptoRow.holds Tryd.pinned (OpenSpec.upto ballSubsSpec)

/-- 'slipsticklaw.BallSqrts', WHERE WHAT IT READS IS OF BULK AT MOST 1048576: true; the input reads as it did. -/
def ballSqrtsUptoRow : OpenClaim := { program := "ytkooikgplpamlaadoor", sum := "5a63d237e36edad399a36c3f2cb4051a67bb221cc677cdfe5749dc2ab7ce3407", func := "slipstick/slipsticklaw.BallSqrts", spec := "ballSqrts", named := ["math/bits.deBruijn32tab"], apart := false, laid := [("math/bits.deBruijn32tab", laid_math_bits_deBruijn32tab)], narrowed := true }
def BallSqrtsUptoSaid : Prop := ballSqrtsUptoRow.holds Tryd.pinned (OpenSpec.upto ballSqrtsSpec)

/-- 'slipsticklaw.BallHolds', WHERE WHAT IT READS IS OF BULK AT MOST 1048576: true; the input reads as it did. -/
def ballHoldsUptoRow : OpenClaim := { program := "ytkooikgplpamlaadoor", sum := "5a63d237e36edad399a36c3f2cb4051a67bb221cc677cdfe5749dc2ab7ce3407", func := "slipstick/slipsticklaw.BallHolds", spec := "ballHolds", unfollowed := true, recurses := true, named := ["math/bits.deBruijn32tab"], apart := false, laid := [("math/bits.deBruijn32tab", laid_math_bits_deBruijn32tab)], narrowed := true }
def BallHoldsUptoSaid : Prop := ballHoldsUptoRow.holds Tryd.pinned (OpenSpec.upto ballHoldsSpec)

/-- 'slipsticklaw.BallBacks', WHERE WHAT IT READS IS OF BULK AT MOST 1048576: true; the input reads as it did. -/
def ballBacksUptoRow : OpenClaim := { program := "ytkooikgplpamlaadoor", sum := "5a63d237e36edad399a36c3f2cb4051a67bb221cc677cdfe5749dc2ab7ce3407", func := "slipstick/slipsticklaw.BallBacks", spec := "ballBacks", unfollowed := true, recurses := true, named := ["math/bits.deBruijn32tab"], apart := false, laid := [("math/bits.deBruijn32tab", laid_math_bits_deBruijn32tab)], narrowed := true }
def BallBacksUptoSaid : Prop := ballBacksUptoRow.holds Tryd.pinned (OpenSpec.upto ballBacksSpec)

/-- 'slipsticklaw.RestDyads', WHERE WHAT IT READS IS OF BULK AT MOST 1048576: true; the input reads as it did. -/
def restDyadsUptoRow : OpenClaim := { program := "ytkooikgplpamlaadoor", sum := "5a63d237e36edad399a36c3f2cb4051a67bb221cc677cdfe5749dc2ab7ce3407", func := "slipstick/slipsticklaw.RestDyads", spec := "restDyads", unfollowed := true, recurses := true, named := ["math/bits.deBruijn32tab"], apart := false, laid := [("math/bits.deBruijn32tab", laid_math_bits_deBruijn32tab)], narrowed := true }
def RestDyadsUptoSaid : Prop := restDyadsUptoRow.holds Tryd.pinned (OpenSpec.upto restDyadsSpec)

end Rows
end Go.Proofs.YtkooikgplpamlaaDoor
