/- references: RoundTo, whatever the ratio; SamePlace. -/
import Derived.Test.YtpdmajoofllhdaaDoorZRGd3
namespace Go.Proofs.YtpdmajoofllhdaaDoor
open Go.RowKit Go.Slip

end Go.Proofs.YtpdmajoofllhdaaDoor
