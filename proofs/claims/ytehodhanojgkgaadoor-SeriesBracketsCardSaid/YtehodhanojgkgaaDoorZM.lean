/- From what a row says of the library's table to what the walks ask.
   A dyad that came in, as a row hands it to the walks.
   Balls that came in, as a row hands them to the walks. -/
import Derived.Test.YtehodhanojgkgaaDoorRows
import Derived.Test.YtehodhanojgkgaaDoorZRow
import Derived.Test.YtehodhanojgkgaaDoorZC
import Derived.LaidMore
import Derived.Stop.Joined
import Derived.Test.YtehodhanojgkgaaDoorZF
import Derived.Lib.SmallJoins
namespace Go.Proofs.YtehodhanojgkgaaDoor
open Go.ChangeShapes Go.WideShapes Go.ChangeAt Go.WideMaps Go.WideElems Go.RowKit Go.Slip

set_option maxRecDepth 100000 in
theorem gTab : Tryd.prog.globalNamed "math/bits.deBruijn32tab" = some 0 := by kernel_rfl
theorem tTab : (Tryd.prog.globals[0]?).map (·.type) = some 127 := by kernel_rfl

theorem laid_tab : (Rows.laid_math_bits_deBruijn32tab : DataW Unit) = .agg (Lib.deBruijn32tab.map fun n : Nat => .lit (.int .u8 (n : Int))) := rfl

set_option maxRecDepth 100000 in
theorem tab_of_laid {W : World} (h : laidMetH Tryd.prog [("math/bits.deBruijn32tab", Rows.laid_math_bits_deBruijn32tab)] W) : TabW W := by
  rw [MakeChecks.laidMetH_plain _ _ _ (by kernel_rfl)] at h
  obtain ⟨ps, ⟨g0, t0, cs0, f0, p0, q0, hg0, ht0, hv0, hd0, _, _⟩, _, _⟩ := h
  obtain rfl := Option.some.inj (gTab.symm.trans hg0)
  obtain rfl := Option.some.inj (tTab.symm.trans ht0)
  obtain ⟨xs, m1, rfl, hx1, hlen, hn, hel⟩ := DataW.trod_array Tryd.underlying127 hd0
  have c1 : Tryd.prog.cellsOf 5 = 1 := by kernel_rfl
  rw [c1] at hel
  have hcell : ∀ j, j < 32 → W.cell? ⟨0, j, none⟩ = some (.int .u8 ((Lib.deBruijn32tab.getD j 0 : Nat) : Int)) := by
    intro j hj
    have h1 := hel j hj
    have hxj : xs[j]? = some (xs[j]'(by omega)) := List.getElem?_eq_getElem (by omega)
    rw [hxj] at h1
    obtain ⟨k, e1, e2, _⟩ := DataW.trod_int Tryd.underlying5 h1
    have hlj : j < Lib.deBruijn32tab.length := hj
    have h2 : (xs.map (·.1))[j]? = some (.lit (.int .u8 ((Lib.deBruijn32tab.getD j 0 : Nat) : Int))) := by
      have h3 := (Prod.mk.inj hx1).1
      rw [laid_tab] at h3
      injection h3 with h4
      rw [← h4, List.getElem?_map, List.getElem?_eq_getElem hlj, List.getD, List.getElem?_eq_getElem hlj]
      rfl
    rw [List.getElem?_map, hxj, Option.map_some, e2] at h2
    have hk : k = ((Lib.deBruijn32tab.getD j 0 : Nat) : Int) := by
      simp only [Option.some.injEq, DataW.lit.injEq, Lit.int.injEq] at h2
      exact h2.2
    rw [← hk, World.var?_cell hg0 hv0 j]
    have h5 : cs0.toList[j]? = some (.int .u8 k) := by
      have := congrArg (·[0]?) e1
      simp only [Nat.mul_one] at this
      rw [List.getElem?_take_of_lt (by omega), List.getElem?_drop] at this
      simpa using this
    simpa using h5
  exact ⟨hcell, World.block_lt_of_cell? W _ (hcell 0 (by omega))⟩

end Go.Proofs.YtehodhanojgkgaaDoor

namespace Go.Proofs.YtehodhanojgkgaaDoor
open Go.ChangeShapes Go.WideShapes Go.ChangeAt Go.WideMaps Go.WideElems Go.RowKit Go.Slip

end Go.Proofs.YtehodhanojgkgaaDoor

namespace Go.Proofs.YtehodhanojgkgaaDoor
open Go.ChangeShapes Go.WideShapes Go.ChangeAt Go.WideMaps Go.WideElems Go.RowKit Go.Slip Go.Joins Go.Deep

set_option maxRecDepth 100000 in
theorem natF {H : Type} {enc : TypeId × Value → H} {W : World} {n : Nat} {v : Value} {y : DataW H × List MemPlace} (h : DataW.trod enc Tryd.prog W 0 (fun _ => true) true n 23 [v] = some y) :
    ∃ (p : Option Addr) (c : Nat) (xs : List Nat), v = .slice p xs.length c ∧ Rd W .u32 p xs ∧ xs.length ≤ c ∧ xs.length ≤ 9223372036854775807 ∧ ∀ x ∈ xs, x < B32 := by
  rcases open_ints Tryd.underlying23 Tryd.underlying58 (by kernel_rfl) h with ⟨hcs, _⟩ | ⟨x, l, c, zs, hcs, _, hl, hm, hz, _, hcell, hwz⟩
  · simp only [List.cons.injEq, and_true] at hcs
    subst hcs
    exact ⟨none, 0, [], rfl, Rd.nil _ _ _, by simp, by simp, by simp⟩
  · simp only [List.cons.injEq, and_true] at hcs
    subst hcs
    have hz1 : zs.length = c := by simpa using hz
    obtain ⟨xs, hr1, hr2, hr3⟩ := rd_of_cells (len := l) (by omega) hcell hwz
    subst hr2
    refine ⟨some x, c, xs, rfl, hr1, hl, ?_, hr3⟩
    unfold maxLen at hm
    omega

set_option maxRecDepth 100000 in
theorem dyadF {H : Type} {enc : TypeId × Value → H} {W : World} {n : Nat} {c0 c1 c2 : Value} {y : DataW H × List MemPlace} (h : DataW.trod enc Tryd.prog W 0 (fun _ => true) true n 25 [c0, c1, c2] = some y) :
    ∃ a : Din, c0 = .bool a.g ∧ c1 = .slice a.p a.xs.length a.c ∧ c2 = .int .i64 a.e ∧ InD W a := by
  have hs := Tryd.underlying25
  obtain ⟨xs, m, _, _, _, hlen, hg⟩ := DataW.trod_struct hs h
  have k1 : Tryd.prog.cellsOf 4 = 1 := by kernel_rfl
  have k2 : Tryd.prog.cellsOf 23 = 1 := by kernel_rfl
  have k3 : Tryd.prog.cellsOf 3 = 1 := by kernel_rfl
  have h0 := hg 0 _ rfl
  have h1 := hg 1 _ rfl
  have h2 := hg 2 _ rfl
  change DataW.trod enc Tryd.prog W 0 (fun _ => true) true m 4 ([c0, c1, c2].take (Tryd.prog.cellsOf 4)) = _ at h0
  change DataW.trod enc Tryd.prog W 0 (fun _ => true) true m 23 ([c1, c2].take (Tryd.prog.cellsOf 23)) = _ at h1
  change DataW.trod enc Tryd.prog W 0 (fun _ => true) true m 3 ([c2].take (Tryd.prog.cellsOf 3)) = _ at h2
  rw [k1] at h0
  rw [k2] at h1
  rw [k3] at h2
  change DataW.trod enc Tryd.prog W 0 (fun _ => true) true m 4 [c0] = _ at h0
  change DataW.trod enc Tryd.prog W 0 (fun _ => true) true m 23 [c1] = _ at h1
  change DataW.trod enc Tryd.prog W 0 (fun _ => true) true m 3 [c2] = _ at h2
  have e0 : xs[0]? = some (xs[0]'(by rw [hlen]; decide)) := List.getElem?_eq_getElem _
  have e1 : xs[1]? = some (xs[1]'(by rw [hlen]; decide)) := List.getElem?_eq_getElem _
  have e2 : xs[2]? = some (xs[2]'(by rw [hlen]; decide)) := List.getElem?_eq_getElem _
  rw [e0] at h0
  rw [e1] at h1
  rw [e2] at h2
  obtain ⟨g, f0, _⟩ := DataW.trod_bool Tryd.underlying4 h0
  obtain ⟨p, c, zs, rfl, r1, q1, l1, b1⟩ := natF h1
  obtain ⟨e, f2, _, _⟩ := DataW.trod_int Tryd.underlying3 h2
  simp only [List.cons.injEq, and_true] at f0 f2
  exact ⟨⟨g, p, c, zs, e⟩, f0, rfl, f2, ⟨r1, q1, l1, b1⟩⟩

theorem arr6B {cs : Array Value} (h : cs.size = 6) : ∃ c0 c1 c2 c3 c4 c5, cs = #[c0, c1, c2, c3, c4, c5] := by
  obtain ⟨l⟩ := cs
  match l, h with
  | [c0, c1, c2, c3, c4, c5], _ => exact ⟨c0, c1, c2, c3, c4, c5, rfl⟩

set_option maxRecDepth 100000 in
theorem open_ball {H : Type} {enc : TypeId × Value → H} {W : World} {base : Nat} {v : Value} {d : DataW H} {p : List MemPlace} (hv : Value.okWide Tryd.prog W .any base 27 v)
    (h : DataW.Trod enc Tryd.prog W 0 (fun _ => true) true 27 v d p) : ∃ a b : Din, v = .agg #[.bool a.g, .slice a.p a.xs.length a.c, .int .i64 a.e, .bool b.g, .slice b.p b.xs.length b.c, .int .i64 b.e] ∧ InD W a ∧ InD W b := by
  have hs := Tryd.underlying27
  obtain ⟨cs, rfl, hsz⟩ := okWide_struct hs hv
  have k6 : Tryd.prog.cellsOf 27 = 6 := by kernel_rfl
  rw [k6] at hsz
  obtain ⟨c0, c1, c2, c3, c4, c5, rfl⟩ := arr6B hsz
  obtain ⟨fuel, hf⟩ := h
  obtain ⟨xs, n, _, _, _, hlen, hg⟩ := DataW.trod_struct hs hf
  have k3 : Tryd.prog.cellsOf 25 = 3 := by kernel_rfl
  have h0 := hg 0 _ rfl
  have h1 := hg 1 _ rfl
  have e0 : xs[0]? = some (xs[0]'(by rw [hlen]; decide)) := List.getElem?_eq_getElem _
  have e1 : xs[1]? = some (xs[1]'(by rw [hlen]; decide)) := List.getElem?_eq_getElem _
  rw [e0] at h0
  rw [e1] at h1
  change DataW.trod enc Tryd.prog W 0 (fun _ => true) true n 25 ([c0, c1, c2, c3, c4, c5].take (Tryd.prog.cellsOf 25)) = _ at h0
  change DataW.trod enc Tryd.prog W 0 (fun _ => true) true n 25 ([c3, c4, c5].take (Tryd.prog.cellsOf 25)) = _ at h1
  rw [k3] at h0 h1
  change DataW.trod enc Tryd.prog W 0 (fun _ => true) true n 25 [c0, c1, c2] = _ at h0
  change DataW.trod enc Tryd.prog W 0 (fun _ => true) true n 25 [c3, c4, c5] = _ at h1
  obtain ⟨a, rfl, rfl, rfl, ha⟩ := dyadF h0
  obtain ⟨b, rfl, rfl, rfl, hb⟩ := dyadF h1
  exact ⟨a, b, rfl, ha, hb⟩

end Go.Proofs.YtehodhanojgkgaaDoor
