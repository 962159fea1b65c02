/- slices.Reverse of bytes, limb.Decimal: decimal digits. -/
import Derived.Test.YtehodhanojgkgaaDoorZLimb4
import Derived.Deep.LoopGhost
namespace Go.Proofs.YtehodhanojgkgaaDoor
open Go.RowKit Go.Slip

end Go.Proofs.YtehodhanojgkgaaDoor
