/- The laws' helpers on natural numbers. -/
import Derived.Test.YtlegnbigddhmlaaDoorZNat3
import Derived.Test.YtlegnbigddhmlaaDoorZLaw00

