/- dyad: two, where one of both is not well formed. -/
import Derived.Test.YtpdmajoofllhdaaDoorZDyad7
import Derived.Test.YtpdmajoofllhdaaDoorZE
namespace Go.Proofs.YtpdmajoofllhdaaDoor
open Go.RowKit Go.Slip

theorem three_laid (w : World) (o1 o2 o3 : Obj) : Below w.heap.size w (((w.alloc o1).alloc o2).alloc o3) := (two_laid _ _ _).alloc (by simp; omega) _

end Go.Proofs.YtpdmajoofllhdaaDoor
