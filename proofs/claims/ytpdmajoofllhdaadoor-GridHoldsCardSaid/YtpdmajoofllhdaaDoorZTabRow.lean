/- From what a row says of the library's table to what the walks ask. -/
import Derived.Test.YtpdmajoofllhdaaDoorRows
import Derived.Test.YtpdmajoofllhdaaDoorZRow
import Derived.Test.YtpdmajoofllhdaaDoorZC
import Derived.LaidMore
import Derived.Stop.Joined
namespace Go.Proofs.YtpdmajoofllhdaaDoor
open Go.ChangeShapes Go.WideShapes Go.ChangeAt Go.WideMaps Go.WideElems Go.RowKit Go.Slip

set_option maxRecDepth 100000 in
theorem gTab : Tryd.prog.globalNamed "math/bits.deBruijn32tab" = some 0 := by kernel_rfl
theorem tTab : (Tryd.prog.globals[0]?).map (·.type) = some 124 := by kernel_rfl

theorem laid_tab : (Rows.laid_math_bits_deBruijn32tab : DataW Unit) = .agg (Lib.deBruijn32tab.map fun n : Nat => .lit (.int .u8 (n : Int))) := rfl

set_option maxRecDepth 100000 in
theorem tab_of_laid {W : World} (h : laidMetH Tryd.prog [("math/bits.deBruijn32tab", Rows.laid_math_bits_deBruijn32tab)] W) : TabW W := by
  rw [MakeChecks.laidMetH_plain _ _ _ (by kernel_rfl)] at h
  obtain ⟨ps, ⟨g0, t0, cs0, f0, p0, q0, hg0, ht0, hv0, hd0, _, _⟩, _, _⟩ := h
  obtain rfl := Option.some.inj (gTab.symm.trans hg0)
  obtain rfl := Option.some.inj (tTab.symm.trans ht0)
  obtain ⟨xs, m1, rfl, hx1, hlen, hn, hel⟩ := DataW.trod_array Tryd.underlying124 hd0
  have c1 : Tryd.prog.cellsOf 5 = 1 := by kernel_rfl
  rw [c1] at hel
  have hcell : ∀ j, j < 32 → W.cell? ⟨0, j, none⟩ = some (.int .u8 ((Lib.deBruijn32tab.getD j 0 : Nat) : Int)) := by
    intro j hj
    have h1 := hel j hj
    have hxj : xs[j]? = some (xs[j]'(by omega)) := List.getElem?_eq_getElem (by omega)
    rw [hxj] at h1
    obtain ⟨k, e1, e2, _⟩ := DataW.trod_int Tryd.underlying5 h1
    have hlj : j < Lib.deBruijn32tab.length := hj
    have h2 : (xs.map (·.1))[j]? = some (.lit (.int .u8 ((Lib.deBruijn32tab.getD j 0 : Nat) : Int))) := by
      have h3 := (Prod.mk.inj hx1).1
      rw [laid_tab] at h3
      injection h3 with h4
      rw [← h4, List.getElem?_map, List.getElem?_eq_getElem hlj, List.getD, List.getElem?_eq_getElem hlj]
      rfl
    rw [List.getElem?_map, hxj, Option.map_some, e2] at h2
    have hk : k = ((Lib.deBruijn32tab.getD j 0 : Nat) : Int) := by
      simp only [Option.some.injEq, DataW.lit.injEq, Lit.int.injEq] at h2
      exact h2.2
    rw [← hk, World.var?_cell hg0 hv0 j]
    have h5 : cs0.toList[j]? = some (.int .u8 k) := by
      have := congrArg (·[0]?) e1
      simp only [Nat.mul_one] at this
      rw [List.getElem?_take_of_lt (by omega), List.getElem?_drop] at this
      simpa using this
    simpa using h5
  exact ⟨hcell, World.block_lt_of_cell? W _ (hcell 0 (by omega))⟩

end Go.Proofs.YtpdmajoofllhdaaDoor
