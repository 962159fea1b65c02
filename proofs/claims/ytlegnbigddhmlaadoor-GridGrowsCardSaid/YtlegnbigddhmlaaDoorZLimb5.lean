/- slices.Reverse of bytes, limb.Decimal: decimal digits. -/
import Derived.Test.YtlegnbigddhmlaaDoorZLimb4
import Derived.Deep.LoopGhost
namespace Go.Proofs.YtlegnbigddhmlaaDoor
open Go.RowKit Go.Slip

end Go.Proofs.YtlegnbigddhmlaaDoor
