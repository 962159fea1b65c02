/- The references' Ln2Of; the laws' sumOf. -/
import Derived.Test.YtehodhanojgkgaaDoorZQ
import Derived.Test.YtehodhanojgkgaaDoorZA
namespace Go.Slip

/-- 1 over k times 2 to the power of k, for k from 1 to J, over 2 to the power of P. -/
def lsum (P : Nat) : Nat → Nat
  | 0 => 0
  | j + 1 => lsum P j + 2 ^ (P - (j + 1)) / (j + 1)
end Go.Slip
namespace Go.Proofs.YtehodhanojgkgaaDoor
open Go.RowKit Go.Slip

end Go.Proofs.YtehodhanojgkgaaDoor
