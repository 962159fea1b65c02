/- Words for the walks of the laws on balls: boxes wherever they were laid. -/
import Derived.Test.YtkooikgplpamlaaDoorZLawB0
import Derived.Test.YtkooikgplpamlaaDoorZA
import Derived.Test.YtkooikgplpamlaaDoorZB
namespace Go.Proofs.YtkooikgplpamlaaDoor
open Go.RowKit Go.Slip

theorem _root_.Go.Slip.bx_at {w : World} {vs : Array Value} {t : TypeId} {k : Nat} (h : k = w.heap.size) : Bx (w.alloc (.cells vs t)) k vs := by subst h; exact bx_new w vs t
theorem InF.laid {w : World} {base : Nat} {a : Rw} (h : InF w base a) (o : Obj) : InF (w.alloc o) base a := h.past (below_lay1 _ _)
theorem InF.put6 {w : World} {base k : Nat} {a : Rw} {v0 v1 v2 v3 v4 v5 : Value} (h : InF w base a) (hne : 0 < (dig B16 a.m).length → blk a.p ≠ k) :
    InF ((((((w.setCell ⟨k, 0, none⟩ v0).setCell ⟨k, 1, none⟩ v1).setCell ⟨k, 2, none⟩ v2).setCell ⟨k, 3, none⟩ v3).setCell ⟨k, 4, none⟩ v4).setCell ⟨k, 5, none⟩ v5) base a := h.only (only6 w k v0 v1 v2 v3 v4 v5) hne
theorem _root_.Go.Slip.Bx.by6 {w : World} {b k : Nat} {vs : Array Value} {v0 v1 v2 v3 v4 v5 : Value} (h : Bx w b vs) (hne : b ≠ k) :
    Bx ((((((w.setCell ⟨k, 0, none⟩ v0).setCell ⟨k, 1, none⟩ v1).setCell ⟨k, 2, none⟩ v2).setCell ⟨k, 3, none⟩ v3).setCell ⟨k, 4, none⟩ v4).setCell ⟨k, 5, none⟩ v5) b vs := h.only (only6 w k v0 v1 v2 v3 v4 v5) hne
theorem _root_.Go.Slip.Below.by6 {w w' : World} {B k : Nat} {v0 v1 v2 v3 v4 v5 : Value} (h : Below B w w') (hB : B ≤ k) :
    Below B w ((((((w'.setCell ⟨k, 0, none⟩ v0).setCell ⟨k, 1, none⟩ v1).setCell ⟨k, 2, none⟩ v2).setCell ⟨k, 3, none⟩ v3).setCell ⟨k, 4, none⟩ v4).setCell ⟨k, 5, none⟩ v5) := h.trans ((only6 w' k v0 v1 v2 v3 v4 v5).below hB)
theorem below_laid {w w1 : World} {o : Obj} (h : Below w.heap.size w w1) : Below w.heap.size w (w1.alloc o) := h.trans ((below_lay1 _ _).mono h.size)
theorem below_step {w w1 w2 : World} {B : Nat} (h : Below B w w1) (k : Below w1.heap.size w1 w2) (hB : B ≤ w1.heap.size) : Below B w w2 := h.trans (k.mono hB)

end Go.Proofs.YtkooikgplpamlaaDoor
