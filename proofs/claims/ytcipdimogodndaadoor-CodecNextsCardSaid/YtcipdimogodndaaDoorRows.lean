/-
  NARROWER THAN 'FOR EVERY INPUT', by the rows' own cells (each row's printed sentence says how): RestDyads: laid · CodecDecodes: laid · CodecEncodes: laid · CodecBack: laid · CodecSizes: laid · CodecClasses: laid · CodecNexts: laid.
  DERIVED. THE GIVEN ROWS OF THIS SEAT. 7 by the template 'for every input the law returns true; each argument reads behind the call as it read before'; 0 by the template 'total and deterministic' (their statements: YtcipdimogodndaaDoorTotals.lean).
  GIVEN WITH THE SEED: the statements are not yours to turn. If you find one false, say at which input.
  Laid BY PROGRAM, IN A SANDBOX (cutbox-rows.mjs): the forced cells as the released guide's own fill.sh prints them over the translation 6a2ceb8832d187b2… (all of the seat's roots in one cut). By AI agents, Wed Nov 11 2026. No macro, syntax, notation, axiom, sorry.
-/
import Derived.Test.YtcipdimogodndaaDoorChecked
import GoSem.Claim
import GoSem.ClaimJoined
import GoSem.ClaimMapViews
import Derived.JoinedTies
import Derived.KernelRfl
namespace Go.Proofs.YtcipdimogodndaaDoor
/- THE CELL 'sum', in the pinned program and in every row, IS THE sha256 OF THE DUMP (.gsa) THAT YtcipdimogodndaaDoorProg.lean LOADS. Nothing in Lean hashes anything: it is a label: what it is worth is what the hold of that sum in a sandbox is worth. -/
noncomputable def Tryd.pinned : Pinned := { name := "ytcipdimogodndaadoor", sum := "6a2ceb8832d187b2b0e441d83c1055d28db2e7346c2fb7fd097f55d13bf81877", checked := Tryd.checked }
namespace Rows
def none {H : Type} : Left H := { results := [], args := [] }

/- WHAT THE LISTED PACKAGE-LEVEL VARIABLES READ AS WHEN THE CALL BEGINS. Each datum BY PROGRAM (the guide's laid-datum.mjs) off the statement by which the dump's own 'gosem.cut.vars' lays the variable. In a bare row this is a premise. The card (YtcipdimogodndaaDoorCards.lean) ties it to the program's text. -/
def laid_math_bits_deBruijn32tab {H : Type} : DataW H := .agg [.lit (.int .u8 0), .lit (.int .u8 1), .lit (.int .u8 28), .lit (.int .u8 2), .lit (.int .u8 29), .lit (.int .u8 14), .lit (.int .u8 24), .lit (.int .u8 3), .lit (.int .u8 30), .lit (.int .u8 22), .lit (.int .u8 20), .lit (.int .u8 15), .lit (.int .u8 25), .lit (.int .u8 17), .lit (.int .u8 4), .lit (.int .u8 8), .lit (.int .u8 31), .lit (.int .u8 27), .lit (.int .u8 13), .lit (.int .u8 23), .lit (.int .u8 21), .lit (.int .u8 19), .lit (.int .u8 16), .lit (.int .u8 7), .lit (.int .u8 26), .lit (.int .u8 12), .lit (.int .u8 18), .lit (.int .u8 6), .lit (.int .u8 11), .lit (.int .u8 5), .lit (.int .u8 10), .lit (.int .u8 9)]

/-- 'slipsticklaw.RestDyads': WHATEVER THE INPUT: true; the input reads as it did. -/
def restDyadsSpec : ChangeSpec := { name := "restDyads", fn := fun _ => fun
  | [d1, d2, d3, d4, d5, d6] => { results := [.lit (.bool true)], args := [d1, d2, d3, d4, d5, d6] }
  | _ => none }
def restDyadsRow : OpenClaim := { program := "ytcipdimogodndaadoor", sum := "6a2ceb8832d187b2b0e441d83c1055d28db2e7346c2fb7fd097f55d13bf81877", func := "slipstick/slipsticklaw.RestDyads", spec := "restDyads", unfollowed := true, recurses := true, named := ["math/bits.deBruijn32tab"], apart := false, laid := [("math/bits.deBruijn32tab", laid_math_bits_deBruijn32tab)] }
def RestDyadsSaid : Prop := restDyadsRow.holds Tryd.pinned (OpenSpec.ofChange restDyadsSpec)

/-- ITS FALSE NEIGHBOUR: 'it returns false'. Refute it at one input. -/
def restDyadsWrong : ChangeSpec := { name := "restDyads", fn := fun _ => fun
  | [d1, d2, d3, d4, d5, d6] => { results := [.lit (.bool false)], args := [d1, d2, d3, d4, d5, d6] }
  | _ => none }
def RestDyadsWrongFalsely : Prop := restDyadsRow.holds Tryd.pinned (OpenSpec.ofChange restDyadsWrong)

/-- 'slipsticklaw.CodecDecodes': WHATEVER THE INPUT: true; the input reads as it did. -/
def codecDecodesSpec : ChangeSpec := { name := "codecDecodes", fn := fun _ => fun
  | [d1, d2] => { results := [.lit (.bool true)], args := [d1, d2] }
  | _ => none }
def codecDecodesRow : OpenClaim := { program := "ytcipdimogodndaadoor", sum := "6a2ceb8832d187b2b0e441d83c1055d28db2e7346c2fb7fd097f55d13bf81877", func := "slipstick/slipsticklaw.CodecDecodes", spec := "codecDecodes", unfollowed := true, recurses := true, named := ["math/bits.deBruijn32tab"], apart := false, laid := [("math/bits.deBruijn32tab", laid_math_bits_deBruijn32tab)] }
def CodecDecodesSaid : Prop := codecDecodesRow.holds Tryd.pinned (OpenSpec.ofChange codecDecodesSpec)

/-- ITS FALSE NEIGHBOUR: 'it returns false'. Refute it at one input. -/
def codecDecodesWrong : ChangeSpec := { name := "codecDecodes", fn := fun _ => fun
  | [d1, d2] => { results := [.lit (.bool false)], args := [d1, d2] }
  | _ => none }
def CodecDecodesWrongFalsely : Prop := codecDecodesRow.holds Tryd.pinned (OpenSpec.ofChange codecDecodesWrong)

/-- 'slipsticklaw.CodecEncodes': WHATEVER THE INPUT: true; the input reads as it did. -/
def codecEncodesSpec : ChangeSpec := { name := "codecEncodes", fn := fun _ => fun
  | [d1, d2] => { results := [.lit (.bool true)], args := [d1, d2] }
  | _ => none }
def codecEncodesRow : OpenClaim := { program := "ytcipdimogodndaadoor", sum := "6a2ceb8832d187b2b0e441d83c1055d28db2e7346c2fb7fd097f55d13bf81877", func := "slipstick/slipsticklaw.CodecEncodes", spec := "codecEncodes", unfollowed := true, recurses := true, named := ["math/bits.deBruijn32tab"], apart := false, laid := [("math/bits.deBruijn32tab", laid_math_bits_deBruijn32tab)] }
def CodecEncodesSaid : Prop := codecEncodesRow.holds Tryd.pinned (OpenSpec.ofChange codecEncodesSpec)

/-- ITS FALSE NEIGHBOUR: 'it returns false'. Refute it at one input. -/
def codecEncodesWrong : ChangeSpec := { name := "codecEncodes", fn := fun _ => fun
  | [d1, d2] => { results := [.lit (.bool false)], args := [d1, d2] }
  | _ => none }
def CodecEncodesWrongFalsely : Prop := codecEncodesRow.holds Tryd.pinned (OpenSpec.ofChange codecEncodesWrong)

/-- 'slipsticklaw.CodecBack': WHATEVER THE INPUT: true; the input reads as it did. -/
def codecBackSpec : ChangeSpec := { name := "codecBack", fn := fun _ => fun
  | [d1, d2, d3] => { results := [.lit (.bool true)], args := [d1, d2, d3] }
  | _ => none }
def codecBackRow : OpenClaim := { program := "ytcipdimogodndaadoor", sum := "6a2ceb8832d187b2b0e441d83c1055d28db2e7346c2fb7fd097f55d13bf81877", func := "slipstick/slipsticklaw.CodecBack", spec := "codecBack", unfollowed := true, recurses := true, named := ["math/bits.deBruijn32tab"], apart := false, laid := [("math/bits.deBruijn32tab", laid_math_bits_deBruijn32tab)] }
def CodecBackSaid : Prop := codecBackRow.holds Tryd.pinned (OpenSpec.ofChange codecBackSpec)

/-- ITS FALSE NEIGHBOUR: 'it returns false'. Refute it at one input. -/
def codecBackWrong : ChangeSpec := { name := "codecBack", fn := fun _ => fun
  | [d1, d2, d3] => { results := [.lit (.bool false)], args := [d1, d2, d3] }
  | _ => none }
def CodecBackWrongFalsely : Prop := codecBackRow.holds Tryd.pinned (OpenSpec.ofChange codecBackWrong)

/-- 'slipsticklaw.CodecSizes': WHATEVER THE INPUT: true; the input reads as it did. -/
def codecSizesSpec : ChangeSpec := { name := "codecSizes", fn := fun _ => fun
  | [d] => { results := [.lit (.bool true)], args := [d] }
  | _ => none }
def codecSizesRow : OpenClaim := { program := "ytcipdimogodndaadoor", sum := "6a2ceb8832d187b2b0e441d83c1055d28db2e7346c2fb7fd097f55d13bf81877", func := "slipstick/slipsticklaw.CodecSizes", spec := "codecSizes", unfollowed := true, recurses := true, named := ["math/bits.deBruijn32tab"], apart := false, laid := [("math/bits.deBruijn32tab", laid_math_bits_deBruijn32tab)] }
def CodecSizesSaid : Prop := codecSizesRow.holds Tryd.pinned (OpenSpec.ofChange codecSizesSpec)

/-- ITS FALSE NEIGHBOUR: 'it returns false'. Refute it at one input. -/
def codecSizesWrong : ChangeSpec := { name := "codecSizes", fn := fun _ => fun
  | [d] => { results := [.lit (.bool false)], args := [d] }
  | _ => none }
def CodecSizesWrongFalsely : Prop := codecSizesRow.holds Tryd.pinned (OpenSpec.ofChange codecSizesWrong)

/-- 'slipsticklaw.CodecClasses': WHATEVER THE INPUT: true; the input reads as it did. -/
def codecClassesSpec : ChangeSpec := { name := "codecClasses", fn := fun _ => fun
  | [d1, d2] => { results := [.lit (.bool true)], args := [d1, d2] }
  | _ => none }
def codecClassesRow : OpenClaim := { program := "ytcipdimogodndaadoor", sum := "6a2ceb8832d187b2b0e441d83c1055d28db2e7346c2fb7fd097f55d13bf81877", func := "slipstick/slipsticklaw.CodecClasses", spec := "codecClasses", unfollowed := true, recurses := true, named := ["math/bits.deBruijn32tab"], apart := false, laid := [("math/bits.deBruijn32tab", laid_math_bits_deBruijn32tab)] }
def CodecClassesSaid : Prop := codecClassesRow.holds Tryd.pinned (OpenSpec.ofChange codecClassesSpec)

/-- ITS FALSE NEIGHBOUR: 'it returns false'. Refute it at one input. -/
def codecClassesWrong : ChangeSpec := { name := "codecClasses", fn := fun _ => fun
  | [d1, d2] => { results := [.lit (.bool false)], args := [d1, d2] }
  | _ => none }
def CodecClassesWrongFalsely : Prop := codecClassesRow.holds Tryd.pinned (OpenSpec.ofChange codecClassesWrong)

/-- 'slipsticklaw.CodecNexts': WHATEVER THE INPUT: true; the input reads as it did. -/
def codecNextsSpec : ChangeSpec := { name := "codecNexts", fn := fun _ => fun
  | [d1, d2, d3] => { results := [.lit (.bool true)], args := [d1, d2, d3] }
  | _ => none }
def codecNextsRow : OpenClaim := { program := "ytcipdimogodndaadoor", sum := "6a2ceb8832d187b2b0e441d83c1055d28db2e7346c2fb7fd097f55d13bf81877", func := "slipstick/slipsticklaw.CodecNexts", spec := "codecNexts", unfollowed := true, recurses := true, named := ["math/bits.deBruijn32tab"], apart := false, laid := [("math/bits.deBruijn32tab", laid_math_bits_deBruijn32tab)] }
def CodecNextsSaid : Prop := codecNextsRow.holds Tryd.pinned (OpenSpec.ofChange codecNextsSpec)

/-- ITS FALSE NEIGHBOUR: 'it returns false'. Refute it at one input. -/
def codecNextsWrong : ChangeSpec := { name := "codecNexts", fn := fun _ => fun
  | [d1, d2, d3] => { results := [.lit (.bool false)], args := [d1, d2, d3] }
  | _ => none }
def CodecNextsWrongFalsely : Prop := codecNextsRow.holds Tryd.pinned (OpenSpec.ofChange codecNextsWrong)

/- THE SECOND FORM. 'bulk': how many values and letters a reading holds, each counted each time it is reached (what is shared counts as often as it is met; a slice's spare places count too). A statement '..UptoSaid' is the law's where the arguments, and the package variables that the reading takes, are together of bulk at most 1048576: NARROWER than '..Said'. Prove '..Said' where nothing that the law and all that it calls make is longer than what came in: it says more and counts as full. Else prove '..UptoSaid'. A law counts once. -/
mutual
def uptoBulk {H : Type} : DataW H → Nat
  | .lit (.string bytes) => bytes.length + 1
  | .lit _ => 1
  | .nil => 1
  | .ptr d => uptoBulk d + 1
  | .slice elems spare => uptoBulkAll elems + uptoBulkAll spare + 1
  | .agg parts => uptoBulkAll parts + 1
  | .iface _ d => uptoBulk d + 1
  | .map entries => uptoBulkEntries entries + 1
  | .held _ => 1
def uptoBulkAll {H : Type} : List (DataW H) → Nat
  | [] => 0
  | d :: r => uptoBulk d + uptoBulkAll r
def uptoBulkEntries {H : Type} : List (Lit × DataW H) → Nat
  | [] => 0
  | x :: r => uptoBulkEntry x + uptoBulkEntries r
def uptoBulkEntry {H : Type} : Lit × DataW H → Nat
  | (.string bytes, d) => bytes.length + uptoBulk d + 1
  | (_, d) => uptoBulk d + 1
 end
def uptoSmall : (H : Type) → List (DataW H) → Bool := fun _ ds => decide (uptoBulkAll ds ≤ 1048576)
def OpenSpec.upto (s : _root_.Go.ChangeSpec) : _root_.Go.OpenSpec := { _root_.Go.OpenSpec.ofChange s with cond := some uptoSmall }

/-- 'slipsticklaw.RestDyads', WHERE WHAT IT READS IS OF BULK AT MOST 1048576: true; the input reads as it did. -/
def restDyadsUptoRow : OpenClaim := { program := "ytcipdimogodndaadoor", sum := "6a2ceb8832d187b2b0e441d83c1055d28db2e7346c2fb7fd097f55d13bf81877", func := "slipstick/slipsticklaw.RestDyads", spec := "restDyads", unfollowed := true, recurses := true, named := ["math/bits.deBruijn32tab"], apart := false, laid := [("math/bits.deBruijn32tab", laid_math_bits_deBruijn32tab)], narrowed := true }
def RestDyadsUptoSaid : Prop := restDyadsUptoRow.holds Tryd.pinned (OpenSpec.upto restDyadsSpec)

/-- 'slipsticklaw.CodecDecodes', WHERE WHAT IT READS IS OF BULK AT MOST 1048576: true; the input reads as it did. -/
def codecDecodesUptoRow : OpenClaim := { program := "ytcipdimogodndaadoor", sum := "6a2ceb8832d187b2b0e441d83c1055d28db2e7346c2fb7fd097f55d13bf81877", func := "slipstick/slipsticklaw.CodecDecodes", spec := "codecDecodes", unfollowed := true, recurses := true, named := ["math/bits.deBruijn32tab"], apart := false, laid := [("math/bits.deBruijn32tab", laid_math_bits_deBruijn32tab)], narrowed := true }
def CodecDecodesUptoSaid : Prop := codecDecodesUptoRow.holds Tryd.pinned (OpenSpec.upto codecDecodesSpec)

/-- 'slipsticklaw.CodecEncodes', WHERE WHAT IT READS IS OF BULK AT MOST 1048576: true; the input reads as it did. -/
def codecEncodesUptoRow : OpenClaim := { program := "ytcipdimogodndaadoor", sum := "6a2ceb8832d187b2b0e441d83c1055d28db2e7346c2fb7fd097f55d13bf81877", func := "slipstick/slipsticklaw.CodecEncodes", spec := "codecEncodes", unfollowed := true, recurses := true, named := ["math/bits.deBruijn32tab"], apart := false, laid := [("math/bits.deBruijn32tab", laid_math_bits_deBruijn32tab)], narrowed := true }
def CodecEncodesUptoSaid : Prop := codecEncodesUptoRow.holds Tryd.pinned (OpenSpec.upto codecEncodesSpec)

/-- 'slipsticklaw.CodecBack', WHERE WHAT IT READS IS OF BULK AT MOST 1048576: true; the input reads as it did. -/
def codecBackUptoRow : OpenClaim := { program := "ytcipdimogodndaadoor", sum := "6a2ceb8832d187b2b0e441d83c1055d28db2e7346c2fb7fd097f55d13bf81877", func := "slipstick/slipsticklaw.CodecBack", spec := "codecBack", unfollowed := true, recurses := true, named := ["math/bits.deBruijn32tab"], apart := false, laid := [("math/bits.deBruijn32tab", laid_math_bits_deBruijn32tab)], narrowed := true }
def CodecBackUptoSaid : Prop := codecBackUptoRow.holds Tryd.pinned (OpenSpec.upto codecBackSpec)

/-- 'slipsticklaw.CodecSizes', WHERE WHAT IT READS IS OF BULK AT MOST 1048576: true; the input reads as it did. -/
def codecSizesUptoRow : OpenClaim := { program := "ytcipdimogodndaadoor", sum := "6a2ceb8832d187b2b0e441d83c1055d28db2e7346c2fb7fd097f55d13bf81877", func := "slipstick/slipsticklaw.CodecSizes", spec := "codecSizes", unfollowed := true, recurses := true, named := ["math/bits.deBruijn32tab"], apart := false, laid := [("math/bits.deBruijn32tab", laid_math_bits_deBruijn32tab)], narrowed := true }
def CodecSizesUptoSaid : Prop := codecSizesUptoRow.holds Tryd.pinned (OpenSpec.upto codecSizesSpec)

/-- 'slipsticklaw.CodecClasses', WHERE WHAT IT READS IS OF BULK AT MOST 1048576: true; the input reads as it did. -/
def codecClassesUptoRow : OpenClaim := { program := "ytcipdimogodndaadoor", sum := "6a2ceb8832d187b2b0e441d83c1055d28db2e7346c2fb7fd097f55d13bf81877", func := "slipstick/slipsticklaw.CodecClasses", spec := "codecClasses", unfollowed := true, recurses := true, named := ["math/bits.deBruijn32tab"], apart := false, laid := [("math/bits.deBruijn32tab", laid_math_bits_deBruijn32tab)], narrowed := true }
def CodecClassesUptoSaid : Prop := codecClassesUptoRow.holds Tryd.pinned (OpenSpec.upto codecClassesSpec)

/-- 'slipsticklaw.CodecNexts', WHERE WHAT IT READS IS OF BULK AT MOST 1048576: true; the input reads as it did. -/
def codecNextsUptoRow : OpenClaim := { program := "ytcipdimogodndaadoor", sum := "6a2ceb8832d187b2b0e441d83c1055d28db2e7346c2fb7fd097f55d13bf81877", func := "slipstick/slipsticklaw.CodecNexts", spec := "codecNexts", unfollowed := true, recurses := true, named := ["math/bits.deBruijn32tab"], apart := false, laid := [("math/bits.deBruijn32tab", laid_math_bits_deBruijn32tab)], narrowed := true }
def CodecNextsUptoSaid : Prop := codecNextsUptoRow.holds Tryd.pinned (OpenSpec.upto codecNextsSpec)

end Rows
end Go.Proofs.YtcipdimogodndaaDoor
