/- nat.Mul: products of natural numbers, errors too. -/
import Derived.Test.YtlegnbigddhmlaaDoorZNat1
import Derived.Test.YtlegnbigddhmlaaDoorZC
namespace Go.Proofs.YtlegnbigddhmlaaDoor
open Go.RowKit Go.Slip

end Go.Proofs.YtlegnbigddhmlaaDoor
