/- The laws' helpers on natural numbers: 'long' and 'natIs'. -/
import Derived.Test.YtlegnbigddhmlaaDoorZNat1
namespace Go.Proofs.YtlegnbigddhmlaaDoor
open Go.RowKit Go.Slip

end Go.Proofs.YtlegnbigddhmlaaDoor
