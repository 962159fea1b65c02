/- The laws' helpers on natural numbers: 'long' and 'natIs'. -/
import Derived.Test.YtlegnbigddhmlaaZNat1
namespace Go.Proofs.Ytlegnbigddhmlaa
open Go.RowKit Go.Slip

end Go.Proofs.Ytlegnbigddhmlaa
