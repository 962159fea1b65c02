/- What a call leaves: a dyad, and whether. -/
import Derived.Test.YtlegnbigddhmlaaDoorZF
namespace Go.Proofs.YtlegnbigddhmlaaDoor
open Go.RowKit Go.Slip

/-- A dyad, and whether. -/
def GivesDB (w : World) (base : Nat) (d : Dv) (b : Bool) (en : Ending) (w' : World) : Prop :=
  ∃ p c, en = .returned (.tuple #[.agg #[.bool d.neg, .slice p (dig B32 d.m).length c, .int .i64 d.e], .bool b]) ∧ Own w' base .u32 46 p c (dig B32 d.m) ∧ Below w.heap.size w w'

end Go.Proofs.YtlegnbigddhmlaaDoor
