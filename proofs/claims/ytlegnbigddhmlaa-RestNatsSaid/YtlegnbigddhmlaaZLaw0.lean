/- The laws' helpers on natural numbers. -/
import Derived.Test.YtlegnbigddhmlaaZNat3
import Derived.Test.YtlegnbigddhmlaaZLaw00

