/- references: RoundTo, whatever the ratio; SamePlace. -/
import Derived.Test.YtlegnbigddhmlaaDoorZRGd3
namespace Go.Proofs.YtlegnbigddhmlaaDoor
open Go.RowKit Go.Slip

end Go.Proofs.YtlegnbigddhmlaaDoor
