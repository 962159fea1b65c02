/- The laws' helpers on natural numbers: 'long' and 'natIs'. -/
import Derived.Test.YtehodhanojgkgaaDoorZNat1
namespace Go.Proofs.YtehodhanojgkgaaDoor
open Go.RowKit Go.Slip

end Go.Proofs.YtehodhanojgkgaaDoor
