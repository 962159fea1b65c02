/-
  NARROWER THAN 'FOR EVERY INPUT', by the rows' own cells (each row's printed sentence says how): SeriesPis: laid · SeriesLn2s: laid · SeriesNested: laid · SeriesSums: laid · SeriesBrackets: laid · SeriesMachin: laid.
  DERIVED. THE GIVEN ROWS OF THIS SEAT. 6 by the template 'for every input the law returns true; each argument reads behind the call as it read before'; 0 by the template 'total and deterministic' (their statements: YtehodhanojgkgaaDoorTotals.lean).
  GIVEN WITH THE SEED: the statements are not yours to turn. If you find one false, say at which input.
  Laid BY PROGRAM, IN A SANDBOX (cutbox-rows.mjs): the forced cells as the released guide's own fill.sh prints them over the translation ab4b5829aabb4554… (all of the seat's roots in one cut). By AI agents, Wed Nov 11 2026. No macro, syntax, notation, axiom, sorry.
-/
import Derived.Test.YtehodhanojgkgaaDoorChecked
import GoSem.Claim
import GoSem.ClaimJoined
import GoSem.ClaimMapViews
import Derived.JoinedTies
import Derived.KernelRfl
namespace Go.Proofs.YtehodhanojgkgaaDoor
/- THE CELL 'sum', in the pinned program and in every row, IS THE sha256 OF THE DUMP (.gsa) THAT YtehodhanojgkgaaDoorProg.lean LOADS. Nothing in Lean hashes anything: it is a label: what it is worth is what the hold of that sum in a sandbox is worth. -/
noncomputable def Tryd.pinned : Pinned := { name := "ytehodhanojgkgaadoor", sum := "ab4b5829aabb455420edd8ea8eeb40722dc7a0af09de90f55e2daa443c174de2", checked := Tryd.checked }
namespace Rows
def none {H : Type} : Left H := { results := [], args := [] }

/- WHAT THE LISTED PACKAGE-LEVEL VARIABLES READ AS WHEN THE CALL BEGINS. Each datum BY PROGRAM (the guide's laid-datum.mjs) off the statement by which the dump's own 'gosem.cut.vars' lays the variable. In a bare row this is a premise. The card (YtehodhanojgkgaaDoorCards.lean) ties it to the program's text. -/
def laid_math_bits_deBruijn32tab {H : Type} : DataW H := .agg [.lit (.int .u8 0), .lit (.int .u8 1), .lit (.int .u8 28), .lit (.int .u8 2), .lit (.int .u8 29), .lit (.int .u8 14), .lit (.int .u8 24), .lit (.int .u8 3), .lit (.int .u8 30), .lit (.int .u8 22), .lit (.int .u8 20), .lit (.int .u8 15), .lit (.int .u8 25), .lit (.int .u8 17), .lit (.int .u8 4), .lit (.int .u8 8), .lit (.int .u8 31), .lit (.int .u8 27), .lit (.int .u8 13), .lit (.int .u8 23), .lit (.int .u8 21), .lit (.int .u8 19), .lit (.int .u8 16), .lit (.int .u8 7), .lit (.int .u8 26), .lit (.int .u8 12), .lit (.int .u8 18), .lit (.int .u8 6), .lit (.int .u8 11), .lit (.int .u8 5), .lit (.int .u8 10), .lit (.int .u8 9)]

/-- 'slipsticklaw.SeriesPis': WHATEVER THE INPUT: true; the input reads as it did. -/
def seriesPisSpec : ChangeSpec := { name := "seriesPis", fn := fun _ => fun
  | [d] => { results := [.lit (.bool true)], args := [d] }
  | _ => none }
def seriesPisRow : OpenClaim := { program := "ytehodhanojgkgaadoor", sum := "ab4b5829aabb455420edd8ea8eeb40722dc7a0af09de90f55e2daa443c174de2", func := "slipstick/slipsticklaw.SeriesPis", spec := "seriesPis", named := ["math/bits.deBruijn32tab"], apart := false, laid := [("math/bits.deBruijn32tab", laid_math_bits_deBruijn32tab)] }
def SeriesPisSaid : Prop := seriesPisRow.holds Tryd.pinned (OpenSpec.ofChange seriesPisSpec)

/-- ITS FALSE NEIGHBOUR: 'it returns false'. Refute it at one input. -/
def seriesPisWrong : ChangeSpec := { name := "seriesPis", fn := fun _ => fun
  | [d] => { results := [.lit (.bool false)], args := [d] }
  | _ => none }
def SeriesPisWrongFalsely : Prop := seriesPisRow.holds Tryd.pinned (OpenSpec.ofChange seriesPisWrong)

/-- 'slipsticklaw.SeriesLn2s': WHATEVER THE INPUT: true; the input reads as it did. -/
def seriesLn2sSpec : ChangeSpec := { name := "seriesLn2s", fn := fun _ => fun
  | [d] => { results := [.lit (.bool true)], args := [d] }
  | _ => none }
def seriesLn2sRow : OpenClaim := { program := "ytehodhanojgkgaadoor", sum := "ab4b5829aabb455420edd8ea8eeb40722dc7a0af09de90f55e2daa443c174de2", func := "slipstick/slipsticklaw.SeriesLn2s", spec := "seriesLn2s", named := ["math/bits.deBruijn32tab"], apart := false, laid := [("math/bits.deBruijn32tab", laid_math_bits_deBruijn32tab)] }
def SeriesLn2sSaid : Prop := seriesLn2sRow.holds Tryd.pinned (OpenSpec.ofChange seriesLn2sSpec)

/-- ITS FALSE NEIGHBOUR: 'it returns false'. Refute it at one input. -/
def seriesLn2sWrong : ChangeSpec := { name := "seriesLn2s", fn := fun _ => fun
  | [d] => { results := [.lit (.bool false)], args := [d] }
  | _ => none }
def SeriesLn2sWrongFalsely : Prop := seriesLn2sRow.holds Tryd.pinned (OpenSpec.ofChange seriesLn2sWrong)

/-- 'slipsticklaw.SeriesNested': WHATEVER THE INPUT: true; the input reads as it did. -/
def seriesNestedSpec : ChangeSpec := { name := "seriesNested", fn := fun _ => fun
  | [d1, d2, d3] => { results := [.lit (.bool true)], args := [d1, d2, d3] }
  | _ => none }
def seriesNestedRow : OpenClaim := { program := "ytehodhanojgkgaadoor", sum := "ab4b5829aabb455420edd8ea8eeb40722dc7a0af09de90f55e2daa443c174de2", func := "slipstick/slipsticklaw.SeriesNested", spec := "seriesNested", named := ["math/bits.deBruijn32tab"], apart := false, laid := [("math/bits.deBruijn32tab", laid_math_bits_deBruijn32tab)] }
def SeriesNestedSaid : Prop := seriesNestedRow.holds Tryd.pinned (OpenSpec.ofChange seriesNestedSpec)

/-- ITS FALSE NEIGHBOUR: 'it returns false'. Refute it at one input. -/
def seriesNestedWrong : ChangeSpec := { name := "seriesNested", fn := fun _ => fun
  | [d1, d2, d3] => { results := [.lit (.bool false)], args := [d1, d2, d3] }
  | _ => none }
def SeriesNestedWrongFalsely : Prop := seriesNestedRow.holds Tryd.pinned (OpenSpec.ofChange seriesNestedWrong)

/-- 'slipsticklaw.SeriesSums': WHATEVER THE INPUT: true; the input reads as it did. -/
def seriesSumsSpec : ChangeSpec := { name := "seriesSums", fn := fun _ => fun
  | [d1, d2] => { results := [.lit (.bool true)], args := [d1, d2] }
  | _ => none }
def seriesSumsRow : OpenClaim := { program := "ytehodhanojgkgaadoor", sum := "ab4b5829aabb455420edd8ea8eeb40722dc7a0af09de90f55e2daa443c174de2", func := "slipstick/slipsticklaw.SeriesSums", spec := "seriesSums", named := ["math/bits.deBruijn32tab"], apart := false, laid := [("math/bits.deBruijn32tab", laid_math_bits_deBruijn32tab)] }
def SeriesSumsSaid : Prop := seriesSumsRow.holds Tryd.pinned (OpenSpec.ofChange seriesSumsSpec)

/-- ITS FALSE NEIGHBOUR: 'it returns false'. Refute it at one input. -/
def seriesSumsWrong : ChangeSpec := { name := "seriesSums", fn := fun _ => fun
  | [d1, d2] => { results := [.lit (.bool false)], args := [d1, d2] }
  | _ => none }
def SeriesSumsWrongFalsely : Prop := seriesSumsRow.holds Tryd.pinned (OpenSpec.ofChange seriesSumsWrong)

/-- 'slipsticklaw.SeriesBrackets': WHATEVER THE INPUT: true; the input reads as it did. -/
def seriesBracketsSpec : ChangeSpec := { name := "seriesBrackets", fn := fun _ => fun
  | [d1, d2] => { results := [.lit (.bool true)], args := [d1, d2] }
  | _ => none }
def seriesBracketsRow : OpenClaim := { program := "ytehodhanojgkgaadoor", sum := "ab4b5829aabb455420edd8ea8eeb40722dc7a0af09de90f55e2daa443c174de2", func := "slipstick/slipsticklaw.SeriesBrackets", spec := "seriesBrackets", unfollowed := true, recurses := true, named := ["math/bits.deBruijn32tab"], apart := false, laid := [("math/bits.deBruijn32tab", laid_math_bits_deBruijn32tab)] }
def SeriesBracketsSaid : Prop := seriesBracketsRow.holds Tryd.pinned (OpenSpec.ofChange seriesBracketsSpec)

/-- ITS FALSE NEIGHBOUR: 'it returns false'. Refute it at one input. -/
def seriesBracketsWrong : ChangeSpec := { name := "seriesBrackets", fn := fun _ => fun
  | [d1, d2] => { results := [.lit (.bool false)], args := [d1, d2] }
  | _ => none }
def SeriesBracketsWrongFalsely : Prop := seriesBracketsRow.holds Tryd.pinned (OpenSpec.ofChange seriesBracketsWrong)

/-- 'slipsticklaw.SeriesMachin': WHATEVER THE INPUT: true; the input reads as it did. -/
def seriesMachinSpec : ChangeSpec := { name := "seriesMachin", fn := fun _ => fun
  | [d] => { results := [.lit (.bool true)], args := [d] }
  | _ => none }
def seriesMachinRow : OpenClaim := { program := "ytehodhanojgkgaadoor", sum := "ab4b5829aabb455420edd8ea8eeb40722dc7a0af09de90f55e2daa443c174de2", func := "slipstick/slipsticklaw.SeriesMachin", spec := "seriesMachin", unfollowed := true, recurses := true, named := ["math/bits.deBruijn32tab"], apart := false, laid := [("math/bits.deBruijn32tab", laid_math_bits_deBruijn32tab)] }
def SeriesMachinSaid : Prop := seriesMachinRow.holds Tryd.pinned (OpenSpec.ofChange seriesMachinSpec)

/-- ITS FALSE NEIGHBOUR: 'it returns false'. Refute it at one input. -/
def seriesMachinWrong : ChangeSpec := { name := "seriesMachin", fn := fun _ => fun
  | [d] => { results := [.lit (.bool false)], args := [d] }
  | _ => none }
def SeriesMachinWrongFalsely : Prop := seriesMachinRow.holds Tryd.pinned (OpenSpec.ofChange seriesMachinWrong)

/- THE SECOND FORM. 'bulk': how many values and letters a reading holds, each counted each time it is reached (what is shared counts as often as it is met; a slice's spare places count too). A statement '..UptoSaid' is the law's where the arguments, and the package variables that the reading takes, are together of bulk at most 1048576: NARROWER than '..Said'. Prove '..Said' where nothing that the law and all that it calls make is longer than what came in: it says more and counts as full. Else prove '..UptoSaid'. A law counts once. -/
mutual
def uptoBulk {H : Type} : DataW H → Nat
  | .lit (.string bytes) => bytes.length + 1
  | .lit _ => 1
  | .nil => 1
  | .ptr d => uptoBulk d + 1
  | .slice elems spare => uptoBulkAll elems + uptoBulkAll spare + 1
  | .agg parts => uptoBulkAll parts + 1
  | .iface _ d => uptoBulk d + 1
  | .map entries => uptoBulkEntries entries + 1
  | .held _ => 1
def uptoBulkAll {H : Type} : List (DataW H) → Nat
  | [] => 0
  | d :: r => uptoBulk d + uptoBulkAll r
def uptoBulkEntries {H : Type} : List (Lit × DataW H) → Nat
  | [] => 0
  | x :: r => uptoBulkEntry x + uptoBulkEntries r
def uptoBulkEntry {H : Type} : Lit × DataW H → Nat
  | (.string bytes, d) => bytes.length + uptoBulk d + 1
  | (_, d) => uptoBulk d + 1
 end
def uptoSmall : (H : Type) → List (DataW H) → Bool := fun _ ds => decide (uptoBulkAll ds ≤ 1048576)
def OpenSpec.upto (s : _root_.Go.ChangeSpec) : _root_.Go.OpenSpec := { _root_.Go.OpenSpec.ofChange s with cond := some uptoSmall }

/-- 'slipsticklaw.SeriesPis', WHERE WHAT IT READS IS OF BULK AT MOST 1048576: true; the input reads as it did. -/
def seriesPisUptoRow : OpenClaim := { program := "ytehodhanojgkgaadoor", sum := "ab4b5829aabb455420edd8ea8eeb40722dc7a0af09de90f55e2daa443c174de2", func := "slipstick/slipsticklaw.SeriesPis", spec := "seriesPis", named := ["math/bits.deBruijn32tab"], apart := false, laid := [("math/bits.deBruijn32tab", laid_math_bits_deBruijn32tab)], narrowed := true }
def SeriesPisUptoSaid : Prop := seriesPisUptoRow.holds Tryd.pinned (OpenSpec.upto seriesPisSpec)

/-- 'slipsticklaw.SeriesLn2s', WHERE WHAT IT READS IS OF BULK AT MOST 1048576: true; the input reads as it did. -/
def seriesLn2sUptoRow : OpenClaim := { program := "ytehodhanojgkgaadoor", sum := "ab4b5829aabb455420edd8ea8eeb40722dc7a0af09de90f55e2daa443c174de2", func := "slipstick/slipsticklaw.SeriesLn2s", spec := "seriesLn2s", named := ["math/bits.deBruijn32tab"], apart := false, laid := [("math/bits.deBruijn32tab", laid_math_bits_deBruijn32tab)], narrowed := true }
def SeriesLn2sUptoSaid : Prop := seriesLn2sUptoRow.holds Tryd.pinned (OpenSpec.upto seriesLn2sSpec)

/-- 'slipsticklaw.SeriesNested', WHERE WHAT IT READS IS OF BULK AT MOST 1048576: true; the input reads as it did. -/
def seriesNestedUptoRow : OpenClaim := { program := "ytehodhanojgkgaadoor", sum := "ab4b5829aabb455420edd8ea8eeb40722dc7a0af09de90f55e2daa443c174de2", func := "slipstick/slipsticklaw.SeriesNested", spec := "seriesNested", named := ["math/bits.deBruijn32tab"], apart := false, laid := [("math/bits.deBruijn32tab", laid_math_bits_deBruijn32tab)], narrowed := true }
def SeriesNestedUptoSaid : Prop := seriesNestedUptoRow.holds Tryd.pinned (OpenSpec.upto seriesNestedSpec)

/-- 'slipsticklaw.SeriesSums', WHERE WHAT IT READS IS OF BULK AT MOST 1048576: true; the input reads as it did. -/
def seriesSumsUptoRow : OpenClaim := { program := "ytehodhanojgkgaadoor", sum := "ab4b5829aabb455420edd8ea8eeb40722dc7a0af09de90f55e2daa443c174de2", func := "slipstick/slipsticklaw.SeriesSums", spec := "seriesSums", named := ["math/bits.deBruijn32tab"], apart := false, laid := [("math/bits.deBruijn32tab", laid_math_bits_deBruijn32tab)], narrowed := true }
def SeriesSumsUptoSaid : Prop := seriesSumsUptoRow.holds Tryd.pinned (OpenSpec.upto seriesSumsSpec)

/-- 'slipsticklaw.SeriesBrackets', WHERE WHAT IT READS IS OF BULK AT MOST 1048576: true; the input reads as it did. -/
def seriesBracketsUptoRow : OpenClaim := { program := "ytehodhanojgkgaadoor", sum := "ab4b5829aabb455420edd8ea8eeb40722dc7a0af09de90f55e2daa443c174de2", func := "slipstick/slipsticklaw.SeriesBrackets", spec := "seriesBrackets", unfollowed := true, recurses := true, named := ["math/bits.deBruijn32tab"], apart := false, laid := [("math/bits.deBruijn32tab", laid_math_bits_deBruijn32tab)], narrowed := true }
def SeriesBracketsUptoSaid : Prop := seriesBracketsUptoRow.holds Tryd.pinned (OpenSpec.upto seriesBracketsSpec)

/-- 'slipsticklaw.SeriesMachin', WHERE WHAT IT READS IS OF BULK AT MOST 1048576: true; the input reads as it did. -/
def seriesMachinUptoRow : OpenClaim := { program := "ytehodhanojgkgaadoor", sum := "ab4b5829aabb455420edd8ea8eeb40722dc7a0af09de90f55e2daa443c174de2", func := "slipstick/slipsticklaw.SeriesMachin", spec := "seriesMachin", unfollowed := true, recurses := true, named := ["math/bits.deBruijn32tab"], apart := false, laid := [("math/bits.deBruijn32tab", laid_math_bits_deBruijn32tab)], narrowed := true }
def SeriesMachinUptoSaid : Prop := seriesMachinUptoRow.holds Tryd.pinned (OpenSpec.upto seriesMachinSpec)

end Rows
end Go.Proofs.YtehodhanojgkgaaDoor
