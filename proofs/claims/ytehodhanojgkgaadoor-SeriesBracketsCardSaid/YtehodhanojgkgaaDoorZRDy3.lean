/- The references' SameNat, SameDyad, whatever the two are; ToDyad. -/
import Derived.Test.YtehodhanojgkgaaDoorZRDy2
namespace Go.Proofs.YtehodhanojgkgaaDoor
open Go.RowKit Go.Slip

instance decDv : DecidableEq Dv := fun a b => decidable_of_iff (a.neg = b.neg ∧ a.m = b.m ∧ a.e = b.e) ⟨fun h => Dv.ext' h.1 h.2.1 h.2.2, fun h => by subst h; exact ⟨rfl, rfl, rfl⟩⟩

end Go.Proofs.YtehodhanojgkgaaDoor
