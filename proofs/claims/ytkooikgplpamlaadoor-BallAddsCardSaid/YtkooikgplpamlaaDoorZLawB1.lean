/- Words for the walks of the laws on balls: boxes wherever they were laid. -/
import Derived.Test.YtkooikgplpamlaaDoorZLawB0
import Derived.Test.YtkooikgplpamlaaDoorZA
namespace Go.Proofs.YtkooikgplpamlaaDoor
open Go.RowKit Go.Slip

theorem _root_.Go.Slip.bx_at {w : World} {vs : Array Value} {t : TypeId} {k : Nat} (h : k = w.heap.size) : Bx (w.alloc (.cells vs t)) k vs := by subst h; exact bx_new w vs t
theorem InF.laid {w : World} {base : Nat} {a : Rw} (h : InF w base a) (o : Obj) : InF (w.alloc o) base a := h.past (below_lay1 _ _)
theorem InF.put6 {w : World} {base k : Nat} {a : Rw} {v0 v1 v2 v3 v4 v5 : Value} (h : InF w base a) (hne : 0 < (dig B16 a.m).length → blk a.p ≠ k) :
    InF ((((((w.setCell ⟨k, 0, none⟩ v0).setCell ⟨k, 1, none⟩ v1).setCell ⟨k, 2, none⟩ v2).setCell ⟨k, 3, none⟩ v3).setCell ⟨k, 4, none⟩ v4).setCell ⟨k, 5, none⟩ v5) base a := h.only (only6 w k v0 v1 v2 v3 v4 v5) hne
theorem _root_.Go.Slip.Bx.by6 {w : World} {b k : Nat} {vs : Array Value} {v0 v1 v2 v3 v4 v5 : Value} (h : Bx w b vs) (hne : b ≠ k) :
    Bx ((((((w.setCell ⟨k, 0, none⟩ v0).setCell ⟨k, 1, none⟩ v1).setCell ⟨k, 2, none⟩ v2).setCell ⟨k, 3, none⟩ v3).setCell ⟨k, 4, none⟩ v4).setCell ⟨k, 5, none⟩ v5) b vs := h.only (only6 w k v0 v1 v2 v3 v4 v5) hne
theorem _root_.Go.Slip.Below.by6 {w w' : World} {B k : Nat} {v0 v1 v2 v3 v4 v5 : Value} (h : Below B w w') (hB : B ≤ k) :
    Below B w ((((((w'.setCell ⟨k, 0, none⟩ v0).setCell ⟨k, 1, none⟩ v1).setCell ⟨k, 2, none⟩ v2).setCell ⟨k, 3, none⟩ v3).setCell ⟨k, 4, none⟩ v4).setCell ⟨k, 5, none⟩ v5) := h.trans ((only6 w' k v0 v1 v2 v3 v4 v5).below hB)
theorem below_thru {w w1 w2 : World} (h : Below w.heap.size w w1) (k : Below w1.heap.size w1 w2) : Below w.heap.size w w2 := h.trans (k.mono h.size)
theorem below_laid {w w1 : World} {o : Obj} (h : Below w.heap.size w w1) : Below w.heap.size w (w1.alloc o) := h.trans ((below_lay1 _ _).mono h.size)
theorem below_chain2 {w w0 w1 w2 : World} (h0 : Below w.heap.size w w0) (h1 : Below w0.heap.size w0 w1) (h2 : Below w1.heap.size w1 w2) : Below w.heap.size w w2 := below_thru (below_thru h0 h1) h2
theorem below_chain4 {w w0 w1 w2 w3 w4 : World} (h0 : Below w.heap.size w w0) (h1 : Below w0.heap.size w0 w1) (h2 : Below w1.heap.size w1 w2) (h3 : Below w2.heap.size w2 w3) (h4 : Below w3.heap.size w3 w4) : Below w.heap.size w w4 := below_thru (below_thru (below_chain2 h0 h1 h2) h3) h4
section
variable {P : Program} {md : Region.Mode} {ops : Array Oper} {Q : Exit → Act → World → Prop} {S : World → Prop} {fuel : Nat} {ls : Array Bool} {a : Act} {w : World}
theorem anyH_lay {v : Array Value} {t : TypeId} (h : ∀ W, Below w.heap.size w W → w.heap.size < W.heap.size → Bx W w.heap.size v → wpAnyH P md ops Q S fuel ls a W) : wpAnyH P md ops Q S fuel ls a (w.alloc (.cells v t)) :=
  h _ (below_lay1 _ _) (by simp) (bx_new _ _ _)
theorem anyH_put6 {b : Nat} {v0 v1 v2 v3 v4 v5 u0 u1 u2 u3 u4 u5 : Value} (hX : Bx w b #[v0, v1, v2, v3, v4, v5]) (h : ∀ W, Only b w W → Bx W b #[u0, u1, u2, u3, u4, u5] → wpAnyH P md ops Q S fuel ls a W) :
    wpAnyH P md ops Q S fuel ls a ((((((w.setCell ⟨b, 0, none⟩ u0).setCell ⟨b, 1, none⟩ u1).setCell ⟨b, 2, none⟩ u2).setCell ⟨b, 3, none⟩ u3).setCell ⟨b, 4, none⟩ u4).setCell ⟨b, 5, none⟩ u5) := h _ (only6 _ _ _ _ _ _ _ _) (hX.put6 _ _ _ _ _ _)
theorem anyH_put3 {b : Nat} {v0 v1 v2 u0 u1 u2 : Value} (hX : Bx w b #[v0, v1, v2]) (h : ∀ W, Only b w W → Bx W b #[u0, u1, u2] → wpAnyH P md ops Q S fuel ls a W) :
    wpAnyH P md ops Q S fuel ls a (((w.setCell ⟨b, 0, none⟩ u0).setCell ⟨b, 1, none⟩ u1).setCell ⟨b, 2, none⟩ u2) := h _ (only3 _ _ _ _ _) (hX.put3 _ _ _)
end
theorem below_step {w w1 w2 : World} {B : Nat} (h : Below B w w1) (k : Below w1.heap.size w1 w2) (hB : B ≤ w1.heap.size) : Below B w w2 := h.trans (k.mono hB)

end Go.Proofs.YtkooikgplpamlaaDoor
