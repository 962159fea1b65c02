/- The laws' helpers on natural numbers. -/
import Derived.Test.YtehodhanojgkgaaDoorZNat3
import Derived.Test.YtehodhanojgkgaaDoorZLaw00

