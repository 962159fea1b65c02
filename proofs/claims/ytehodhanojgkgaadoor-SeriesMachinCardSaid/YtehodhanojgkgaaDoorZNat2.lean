/- nat.Mul: products of natural numbers, errors too. -/
import Derived.Test.YtehodhanojgkgaaDoorZNat1
import Derived.Test.YtehodhanojgkgaaDoorZC
namespace Go.Proofs.YtehodhanojgkgaaDoor
open Go.RowKit Go.Slip

end Go.Proofs.YtehodhanojgkgaaDoor
