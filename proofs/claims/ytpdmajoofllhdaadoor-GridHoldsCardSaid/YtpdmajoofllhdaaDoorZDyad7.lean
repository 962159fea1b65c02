/- dyad: Times. -/
import Derived.Test.YtpdmajoofllhdaaDoorZDyad6
namespace Go.Proofs.YtpdmajoofllhdaaDoor
open Go.RowKit Go.Slip

end Go.Proofs.YtpdmajoofllhdaaDoor
