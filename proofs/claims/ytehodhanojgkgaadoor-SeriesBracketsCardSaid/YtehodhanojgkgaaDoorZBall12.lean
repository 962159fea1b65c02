/- ball: two; Add, Mul, Join, Sub. -/
import Derived.Test.YtehodhanojgkgaaDoorZI
namespace Go.Proofs.YtehodhanojgkgaaDoor
open Go.RowKit Go.Slip

end Go.Proofs.YtehodhanojgkgaaDoor
