/-
  NARROWER THAN 'FOR EVERY INPUT', by the rows' own cells (each row's printed sentence says how): ArithAdds: laid · ArithSubs: laid · ArithDivs: laid · ArithMuls: laid · ArithCompares: laid · ArithFuses: laid · ArithFits: laid.
  DERIVED. THE GIVEN ROWS OF THIS SEAT. 7 by the template 'for every input the law returns true; each argument reads behind the call as it read before'; 0 by the template 'total and deterministic' (their statements: YtlcdfnaaenibgaaGreatDoorTotals.lean).
  GIVEN WITH THE SEED: the statements are not yours to turn. If you find one false, say at which input.
  Laid BY PROGRAM, IN A SANDBOX (cutbox-rows.mjs): the forced cells as the released guide's own fill.sh prints them over the translation fec9b0d57b5d3a84… (all of the seat's roots in one cut). By AI agents, Wed Nov 11 2026. No macro, syntax, notation, axiom, sorry.
-/
import Derived.Test.YtlcdfnaaenibgaaGreatDoorChecked
import GoSem.Claim
import GoSem.ClaimJoined
import GoSem.ClaimMapViews
import Derived.JoinedTies
import Derived.KernelRfl
namespace Go.Proofs.YtlcdfnaaenibgaaGreatDoor
/- THE CELL 'sum', in the pinned program and in every row, IS THE sha256 OF THE DUMP (.gsa) THAT YtlcdfnaaenibgaaGreatDoorProg.lean LOADS. Nothing in Lean hashes anything: it is a label: what it is worth is what the hold of that sum in a sandbox is worth. -/
noncomputable def Tryz.pinned : Pinned := { name := "ytlcdfnaaenibgaagreatdoor", sum := "fec9b0d57b5d3a84fe9666848820dc69caa30fb080f56465cc171b1d247b8f2b", checked := Tryz.checked }
namespace Rows
def none {H : Type} : Left H := { results := [], args := [] }

/- WHAT THE LISTED PACKAGE-LEVEL VARIABLES READ AS WHEN THE CALL BEGINS. Each datum BY PROGRAM (the guide's laid-datum.mjs) off the statement by which the dump's own 'gosem.cut.vars' lays the variable. In a bare row this is a premise. The card (YtlcdfnaaenibgaaGreatDoorCards.lean) ties it to the program's text. -/
def laid_math_bits_deBruijn32tab {H : Type} : DataW H := .agg [.lit (.int .u8 0), .lit (.int .u8 1), .lit (.int .u8 28), .lit (.int .u8 2), .lit (.int .u8 29), .lit (.int .u8 14), .lit (.int .u8 24), .lit (.int .u8 3), .lit (.int .u8 30), .lit (.int .u8 22), .lit (.int .u8 20), .lit (.int .u8 15), .lit (.int .u8 25), .lit (.int .u8 17), .lit (.int .u8 4), .lit (.int .u8 8), .lit (.int .u8 31), .lit (.int .u8 27), .lit (.int .u8 13), .lit (.int .u8 23), .lit (.int .u8 21), .lit (.int .u8 19), .lit (.int .u8 16), .lit (.int .u8 7), .lit (.int .u8 26), .lit (.int .u8 12), .lit (.int .u8 18), .lit (.int .u8 6), .lit (.int .u8 11), .lit (.int .u8 5), .lit (.int .u8 10), .lit (.int .u8 9)]

/-- 'slipsticklaw.ArithAdds': WHATEVER THE INPUT: true; the input reads as it did. -/
def arithAddsSpec : ChangeSpec := { name := "arithAdds", fn := fun _ => fun
  | [d1, d2, d3, d4] => { results := [.lit (.bool true)], args := [d1, d2, d3, d4] }
  | _ => none }
def arithAddsRow : OpenClaim := { program := "ytlcdfnaaenibgaagreatdoor", sum := "fec9b0d57b5d3a84fe9666848820dc69caa30fb080f56465cc171b1d247b8f2b", func := "slipstick/slipsticklaw.ArithAdds", spec := "arithAdds", unfollowed := true, recurses := true, named := ["math/bits.deBruijn32tab"], apart := false, laid := [("math/bits.deBruijn32tab", laid_math_bits_deBruijn32tab)] }
def ArithAddsSaid : Prop := arithAddsRow.holds Tryz.pinned (OpenSpec.ofChange arithAddsSpec)

/-- ITS FALSE NEIGHBOUR: 'it returns false'. Refute it at one input. -/
def arithAddsWrong : ChangeSpec := { name := "arithAdds", fn := fun _ => fun
  | [d1, d2, d3, d4] => { results := [.lit (.bool false)], args := [d1, d2, d3, d4] }
  | _ => none }
def ArithAddsWrongFalsely : Prop := arithAddsRow.holds Tryz.pinned (OpenSpec.ofChange arithAddsWrong)

/-- 'slipsticklaw.ArithSubs': WHATEVER THE INPUT: true; the input reads as it did. -/
def arithSubsSpec : ChangeSpec := { name := "arithSubs", fn := fun _ => fun
  | [d1, d2, d3, d4] => { results := [.lit (.bool true)], args := [d1, d2, d3, d4] }
  | _ => none }
def arithSubsRow : OpenClaim := { program := "ytlcdfnaaenibgaagreatdoor", sum := "fec9b0d57b5d3a84fe9666848820dc69caa30fb080f56465cc171b1d247b8f2b", func := "slipstick/slipsticklaw.ArithSubs", spec := "arithSubs", unfollowed := true, recurses := true, named := ["math/bits.deBruijn32tab"], apart := false, laid := [("math/bits.deBruijn32tab", laid_math_bits_deBruijn32tab)] }
def ArithSubsSaid : Prop := arithSubsRow.holds Tryz.pinned (OpenSpec.ofChange arithSubsSpec)

/-- ITS FALSE NEIGHBOUR: 'it returns false'. Refute it at one input. -/
def arithSubsWrong : ChangeSpec := { name := "arithSubs", fn := fun _ => fun
  | [d1, d2, d3, d4] => { results := [.lit (.bool false)], args := [d1, d2, d3, d4] }
  | _ => none }
def ArithSubsWrongFalsely : Prop := arithSubsRow.holds Tryz.pinned (OpenSpec.ofChange arithSubsWrong)

/-- 'slipsticklaw.ArithDivs': WHATEVER THE INPUT: true; the input reads as it did. -/
def arithDivsSpec : ChangeSpec := { name := "arithDivs", fn := fun _ => fun
  | [d1, d2, d3, d4] => { results := [.lit (.bool true)], args := [d1, d2, d3, d4] }
  | _ => none }
def arithDivsRow : OpenClaim := { program := "ytlcdfnaaenibgaagreatdoor", sum := "fec9b0d57b5d3a84fe9666848820dc69caa30fb080f56465cc171b1d247b8f2b", func := "slipstick/slipsticklaw.ArithDivs", spec := "arithDivs", unfollowed := true, recurses := true, named := ["math/bits.deBruijn32tab"], apart := false, laid := [("math/bits.deBruijn32tab", laid_math_bits_deBruijn32tab)] }
def ArithDivsSaid : Prop := arithDivsRow.holds Tryz.pinned (OpenSpec.ofChange arithDivsSpec)

/-- ITS FALSE NEIGHBOUR: 'it returns false'. Refute it at one input. -/
def arithDivsWrong : ChangeSpec := { name := "arithDivs", fn := fun _ => fun
  | [d1, d2, d3, d4] => { results := [.lit (.bool false)], args := [d1, d2, d3, d4] }
  | _ => none }
def ArithDivsWrongFalsely : Prop := arithDivsRow.holds Tryz.pinned (OpenSpec.ofChange arithDivsWrong)

/-- 'slipsticklaw.ArithMuls': WHATEVER THE INPUT: true; the input reads as it did. -/
def arithMulsSpec : ChangeSpec := { name := "arithMuls", fn := fun _ => fun
  | [d1, d2, d3, d4] => { results := [.lit (.bool true)], args := [d1, d2, d3, d4] }
  | _ => none }
def arithMulsRow : OpenClaim := { program := "ytlcdfnaaenibgaagreatdoor", sum := "fec9b0d57b5d3a84fe9666848820dc69caa30fb080f56465cc171b1d247b8f2b", func := "slipstick/slipsticklaw.ArithMuls", spec := "arithMuls", unfollowed := true, recurses := true, named := ["math/bits.deBruijn32tab"], apart := false, laid := [("math/bits.deBruijn32tab", laid_math_bits_deBruijn32tab)] }
def ArithMulsSaid : Prop := arithMulsRow.holds Tryz.pinned (OpenSpec.ofChange arithMulsSpec)

/-- ITS FALSE NEIGHBOUR: 'it returns false'. Refute it at one input. -/
def arithMulsWrong : ChangeSpec := { name := "arithMuls", fn := fun _ => fun
  | [d1, d2, d3, d4] => { results := [.lit (.bool false)], args := [d1, d2, d3, d4] }
  | _ => none }
def ArithMulsWrongFalsely : Prop := arithMulsRow.holds Tryz.pinned (OpenSpec.ofChange arithMulsWrong)

/-- 'slipsticklaw.ArithCompares': WHATEVER THE INPUT: true; the input reads as it did. -/
def arithComparesSpec : ChangeSpec := { name := "arithCompares", fn := fun _ => fun
  | [d1, d2, d3] => { results := [.lit (.bool true)], args := [d1, d2, d3] }
  | _ => none }
def arithComparesRow : OpenClaim := { program := "ytlcdfnaaenibgaagreatdoor", sum := "fec9b0d57b5d3a84fe9666848820dc69caa30fb080f56465cc171b1d247b8f2b", func := "slipstick/slipsticklaw.ArithCompares", spec := "arithCompares", unfollowed := true, recurses := true, named := ["math/bits.deBruijn32tab"], apart := false, laid := [("math/bits.deBruijn32tab", laid_math_bits_deBruijn32tab)] }
def ArithComparesSaid : Prop := arithComparesRow.holds Tryz.pinned (OpenSpec.ofChange arithComparesSpec)

/-- ITS FALSE NEIGHBOUR: 'it returns false'. Refute it at one input. -/
def arithComparesWrong : ChangeSpec := { name := "arithCompares", fn := fun _ => fun
  | [d1, d2, d3] => { results := [.lit (.bool false)], args := [d1, d2, d3] }
  | _ => none }
def ArithComparesWrongFalsely : Prop := arithComparesRow.holds Tryz.pinned (OpenSpec.ofChange arithComparesWrong)

/-- 'slipsticklaw.ArithFuses': WHATEVER THE INPUT: true; the input reads as it did. -/
def arithFusesSpec : ChangeSpec := { name := "arithFuses", fn := fun _ => fun
  | [d1, d2, d3, d4, d5] => { results := [.lit (.bool true)], args := [d1, d2, d3, d4, d5] }
  | _ => none }
def arithFusesRow : OpenClaim := { program := "ytlcdfnaaenibgaagreatdoor", sum := "fec9b0d57b5d3a84fe9666848820dc69caa30fb080f56465cc171b1d247b8f2b", func := "slipstick/slipsticklaw.ArithFuses", spec := "arithFuses", unfollowed := true, recurses := true, named := ["math/bits.deBruijn32tab"], apart := false, laid := [("math/bits.deBruijn32tab", laid_math_bits_deBruijn32tab)] }
def ArithFusesSaid : Prop := arithFusesRow.holds Tryz.pinned (OpenSpec.ofChange arithFusesSpec)

/-- ITS FALSE NEIGHBOUR: 'it returns false'. Refute it at one input. -/
def arithFusesWrong : ChangeSpec := { name := "arithFuses", fn := fun _ => fun
  | [d1, d2, d3, d4, d5] => { results := [.lit (.bool false)], args := [d1, d2, d3, d4, d5] }
  | _ => none }
def ArithFusesWrongFalsely : Prop := arithFusesRow.holds Tryz.pinned (OpenSpec.ofChange arithFusesWrong)

/-- 'slipsticklaw.ArithFits': WHATEVER THE INPUT: true; the input reads as it did. -/
def arithFitsSpec : ChangeSpec := { name := "arithFits", fn := fun _ => fun
  | [d1, d2, d3] => { results := [.lit (.bool true)], args := [d1, d2, d3] }
  | _ => none }
def arithFitsRow : OpenClaim := { program := "ytlcdfnaaenibgaagreatdoor", sum := "fec9b0d57b5d3a84fe9666848820dc69caa30fb080f56465cc171b1d247b8f2b", func := "slipstick/slipsticklaw.ArithFits", spec := "arithFits", unfollowed := true, recurses := true, named := ["math/bits.deBruijn32tab"], apart := false, laid := [("math/bits.deBruijn32tab", laid_math_bits_deBruijn32tab)] }
def ArithFitsSaid : Prop := arithFitsRow.holds Tryz.pinned (OpenSpec.ofChange arithFitsSpec)

/-- ITS FALSE NEIGHBOUR: 'it returns false'. Refute it at one input. -/
def arithFitsWrong : ChangeSpec := { name := "arithFits", fn := fun _ => fun
  | [d1, d2, d3] => { results := [.lit (.bool false)], args := [d1, d2, d3] }
  | _ => none }
def ArithFitsWrongFalsely : Prop := arithFitsRow.holds Tryz.pinned (OpenSpec.ofChange arithFitsWrong)

/- THE SECOND FORM. 'bulk': how many values and letters a reading holds, each counted each time it is reached (what is shared counts as often as it is met; a slice's spare places count too). A statement '..UptoSaid' is the law's where the arguments, and the package variables that the reading takes, are together of bulk at most 1048576: NARROWER than '..Said'. Prove '..Said' where nothing that the law and all that it calls make is longer than what came in: it says more and counts as full. Else prove '..UptoSaid'. A law counts once. -/
mutual
def uptoBulk {H : Type} : DataW H → Nat
  | .lit (.string bytes) => bytes.length + 1
  | .lit _ => 1
  | .nil => 1
  | .ptr d => uptoBulk d + 1
  | .slice elems spare => uptoBulkAll elems + uptoBulkAll spare + 1
  | .agg parts => uptoBulkAll parts + 1
  | .iface _ d => uptoBulk d + 1
  | .map entries => uptoBulkEntries entries + 1
  | .held _ => 1
def uptoBulkAll {H : Type} : List (DataW H) → Nat
  | [] => 0
  | d :: r => uptoBulk d + uptoBulkAll r
def uptoBulkEntries {H : Type} : List (Lit × DataW H) → Nat
  | [] => 0
  | x :: r => uptoBulkEntry x + uptoBulkEntries r
def uptoBulkEntry {H : Type} : Lit × DataW H → Nat
  | (.string bytes, d) => bytes.length + uptoBulk d + 1
  | (_, d) => uptoBulk d + 1
 end
def uptoSmall : (H : Type) → List (DataW H) → Bool := fun _ ds => decide (uptoBulkAll ds ≤ 1048576)
def OpenSpec.upto (s : _root_.Go.ChangeSpec) : _root_.Go.OpenSpec := { _root_.Go.OpenSpec.ofChange s with cond := some uptoSmall }

/-- 'slipsticklaw.ArithAdds', WHERE WHAT IT READS IS OF BULK AT MOST 1048576: true; the input reads as it did. -/
def arithAddsUptoRow : OpenClaim := { program := "ytlcdfnaaenibgaagreatdoor", sum := "fec9b0d57b5d3a84fe9666848820dc69caa30fb080f56465cc171b1d247b8f2b", func := "slipstick/slipsticklaw.ArithAdds", spec := "arithAdds", unfollowed := true, recurses := true, named := ["math/bits.deBruijn32tab"], apart := false, laid := [("math/bits.deBruijn32tab", laid_math_bits_deBruijn32tab)], narrowed := true }
def ArithAddsUptoSaid : Prop := arithAddsUptoRow.holds Tryz.pinned (OpenSpec.upto arithAddsSpec)

/-- 'slipsticklaw.ArithSubs', WHERE WHAT IT READS IS OF BULK AT MOST 1048576: true; the input reads as it did. -/
def arithSubsUptoRow : OpenClaim := { program := "ytlcdfnaaenibgaagreatdoor", sum := "fec9b0d57b5d3a84fe9666848820dc69caa30fb080f56465cc171b1d247b8f2b", func := "slipstick/slipsticklaw.ArithSubs", spec := "arithSubs", unfollowed := true, recurses := true, named := ["math/bits.deBruijn32tab"], apart := false, laid := [("math/bits.deBruijn32tab", laid_math_bits_deBruijn32tab)], narrowed := true }
def ArithSubsUptoSaid : Prop := arithSubsUptoRow.holds Tryz.pinned (OpenSpec.upto arithSubsSpec)

/-- 'slipsticklaw.ArithDivs', WHERE WHAT IT READS IS OF BULK AT MOST 1048576: true; the input reads as it did. -/
def arithDivsUptoRow : OpenClaim := { program := "ytlcdfnaaenibgaagreatdoor", sum := "fec9b0d57b5d3a84fe9666848820dc69caa30fb080f56465cc171b1d247b8f2b", func := "slipstick/slipsticklaw.ArithDivs", spec := "arithDivs", unfollowed := true, recurses := true, named := ["math/bits.deBruijn32tab"], apart := false, laid := [("math/bits.deBruijn32tab", laid_math_bits_deBruijn32tab)], narrowed := true }
def ArithDivsUptoSaid : Prop := arithDivsUptoRow.holds Tryz.pinned (OpenSpec.upto arithDivsSpec)

/-- 'slipsticklaw.ArithMuls', WHERE WHAT IT READS IS OF BULK AT MOST 1048576: true; the input reads as it did. -/
def arithMulsUptoRow : OpenClaim := { program := "ytlcdfnaaenibgaagreatdoor", sum := "fec9b0d57b5d3a84fe9666848820dc69caa30fb080f56465cc171b1d247b8f2b", func := "slipstick/slipsticklaw.ArithMuls", spec := "arithMuls", unfollowed := true, recurses := true, named := ["math/bits.deBruijn32tab"], apart := false, laid := [("math/bits.deBruijn32tab", laid_math_bits_deBruijn32tab)], narrowed := true }
def ArithMulsUptoSaid : Prop := arithMulsUptoRow.holds Tryz.pinned (OpenSpec.upto arithMulsSpec)

/-- 'slipsticklaw.ArithCompares', WHERE WHAT IT READS IS OF BULK AT MOST 1048576: true; the input reads as it did. -/
def arithComparesUptoRow : OpenClaim := { program := "ytlcdfnaaenibgaagreatdoor", sum := "fec9b0d57b5d3a84fe9666848820dc69caa30fb080f56465cc171b1d247b8f2b", func := "slipstick/slipsticklaw.ArithCompares", spec := "arithCompares", unfollowed := true, recurses := true, named := ["math/bits.deBruijn32tab"], apart := false, laid := [("math/bits.deBruijn32tab", laid_math_bits_deBruijn32tab)], narrowed := true }
def ArithComparesUptoSaid : Prop := arithComparesUptoRow.holds Tryz.pinned (OpenSpec.upto arithComparesSpec)

/-- 'slipsticklaw.ArithFuses', WHERE WHAT IT READS IS OF BULK AT MOST 1048576: true; the input reads as it did. -/
def arithFusesUptoRow : OpenClaim := { program := "ytlcdfnaaenibgaagreatdoor", sum := "fec9b0d57b5d3a84fe9666848820dc69caa30fb080f56465cc171b1d247b8f2b", func := "slipstick/slipsticklaw.ArithFuses", spec := "arithFuses", unfollowed := true, recurses := true, named := ["math/bits.deBruijn32tab"], apart := false, laid := [("math/bits.deBruijn32tab", laid_math_bits_deBruijn32tab)], narrowed := true }
def ArithFusesUptoSaid : Prop := arithFusesUptoRow.holds Tryz.pinned (OpenSpec.upto arithFusesSpec)

/-- 'slipsticklaw.ArithFits', WHERE WHAT IT READS IS OF BULK AT MOST 1048576: true; the input reads as it did. -/
def arithFitsUptoRow : OpenClaim := { program := "ytlcdfnaaenibgaagreatdoor", sum := "fec9b0d57b5d3a84fe9666848820dc69caa30fb080f56465cc171b1d247b8f2b", func := "slipstick/slipsticklaw.ArithFits", spec := "arithFits", unfollowed := true, recurses := true, named := ["math/bits.deBruijn32tab"], apart := false, laid := [("math/bits.deBruijn32tab", laid_math_bits_deBruijn32tab)], narrowed := true }
def ArithFitsUptoSaid : Prop := arithFitsUptoRow.holds Tryz.pinned (OpenSpec.upto arithFitsSpec)

end Rows
end Go.Proofs.YtlcdfnaaenibgaaGreatDoor
