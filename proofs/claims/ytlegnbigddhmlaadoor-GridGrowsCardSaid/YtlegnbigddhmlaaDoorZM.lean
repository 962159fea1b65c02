/- From what a row says of the library's table to what the walks ask.
   A dyad that came in, as a row hands it to the walks.
   Structs that came in, as a row hands them to the walks: grids, ratios.
   Places that came in, as a row hands them to the walks. -/
import Derived.Test.YtlegnbigddhmlaaDoorRows
import Derived.Test.YtlegnbigddhmlaaDoorZRow
import Derived.Test.YtlegnbigddhmlaaDoorZC
import Derived.LaidMore
import Derived.Stop.Joined
import Derived.Test.YtlegnbigddhmlaaDoorZF
import Derived.Lib.SmallJoins
import Derived.Test.YtlegnbigddhmlaaDoorZGd6
import Derived.Test.YtlegnbigddhmlaaDoorZGd7
namespace Go.Proofs.YtlegnbigddhmlaaDoor
open Go.ChangeShapes Go.WideShapes Go.ChangeAt Go.WideMaps Go.WideElems Go.RowKit Go.Slip

set_option maxRecDepth 100000 in
theorem gTab : Tryd.prog.globalNamed "math/bits.deBruijn32tab" = some 0 := by kernel_rfl
theorem tTab : (Tryd.prog.globals[0]?).map (·.type) = some 122 := by kernel_rfl

theorem laid_tab : (Rows.laid_math_bits_deBruijn32tab : DataW Unit) = .agg (Lib.deBruijn32tab.map fun n : Nat => .lit (.int .u8 (n : Int))) := rfl

set_option maxRecDepth 100000 in
theorem tab_of_laid {W : World} (h : laidMetH Tryd.prog [("math/bits.deBruijn32tab", Rows.laid_math_bits_deBruijn32tab)] W) : TabW W := by
  rw [MakeChecks.laidMetH_plain _ _ _ (by kernel_rfl)] at h
  obtain ⟨ps, ⟨g0, t0, cs0, f0, p0, q0, hg0, ht0, hv0, hd0, _, _⟩, _, _⟩ := h
  obtain rfl := Option.some.inj (gTab.symm.trans hg0)
  obtain rfl := Option.some.inj (tTab.symm.trans ht0)
  obtain ⟨xs, m1, rfl, hx1, hlen, hn, hel⟩ := DataW.trod_array Tryd.underlying122 hd0
  have c1 : Tryd.prog.cellsOf 5 = 1 := by kernel_rfl
  rw [c1] at hel
  have hcell : ∀ j, j < 32 → W.cell? ⟨0, j, none⟩ = some (.int .u8 ((Lib.deBruijn32tab.getD j 0 : Nat) : Int)) := by
    intro j hj
    have h1 := hel j hj
    have hxj : xs[j]? = some (xs[j]'(by omega)) := List.getElem?_eq_getElem (by omega)
    rw [hxj] at h1
    obtain ⟨k, e1, e2, _⟩ := DataW.trod_int Tryd.underlying5 h1
    have hlj : j < Lib.deBruijn32tab.length := hj
    have h2 : (xs.map (·.1))[j]? = some (.lit (.int .u8 ((Lib.deBruijn32tab.getD j 0 : Nat) : Int))) := by
      have h3 := (Prod.mk.inj hx1).1
      rw [laid_tab] at h3
      injection h3 with h4
      rw [← h4, List.getElem?_map, List.getElem?_eq_getElem hlj, List.getD, List.getElem?_eq_getElem hlj]
      rfl
    rw [List.getElem?_map, hxj, Option.map_some, e2] at h2
    have hk : k = ((Lib.deBruijn32tab.getD j 0 : Nat) : Int) := by
      simp only [Option.some.injEq, DataW.lit.injEq, Lit.int.injEq] at h2
      exact h2.2
    rw [← hk, World.var?_cell hg0 hv0 j]
    have h5 : cs0.toList[j]? = some (.int .u8 k) := by
      have := congrArg (·[0]?) e1
      simp only [Nat.mul_one] at this
      rw [List.getElem?_take_of_lt (by omega), List.getElem?_drop] at this
      simpa using this
    simpa using h5
  exact ⟨hcell, World.block_lt_of_cell? W _ (hcell 0 (by omega))⟩

end Go.Proofs.YtlegnbigddhmlaaDoor

namespace Go.Proofs.YtlegnbigddhmlaaDoor
open Go.ChangeShapes Go.WideShapes Go.ChangeAt Go.WideMaps Go.WideElems Go.RowKit Go.Slip

set_option maxRecDepth 100000 in
theorem open_dyad {H : Type} {enc : TypeId × Value → H} {W : World} {base : Nat} {v : Value} {d : DataW H} {p : List MemPlace} (hv : Value.okWide Tryd.prog W .any base 30 v)
    (h : DataW.Trod enc Tryd.prog W 0 (fun _ => true) true 30 v d p) :
    ∃ a : Din, v = .agg #[.bool a.g, .slice a.p a.xs.length a.c, .int .i64 a.e] ∧ InD W a ∧ (Lit.int .i64 a.e).wf = true := by
  obtain ⟨v0, v1, v2, y0, y1, y2, n, rfl, _, _, h0, h1, h2⟩ := Joins.open_agg3 Tryd.underlying30 (by kernel_rfl) (by kernel_rfl) hv h
  obtain ⟨g, e0, _⟩ := DataW.trod_bool Tryd.underlying4 h0
  obtain ⟨e, e2, _, we⟩ := DataW.trod_int Tryd.underlying3 h2
  simp only [List.cons.injEq, and_true] at e0 e2
  subst e0 e2
  rcases open_ints Tryd.underlying23 Tryd.underlying46 (by kernel_rfl) h1 with ⟨hcs, _⟩ | ⟨x, l, c, zs, hcs, _, hl, hm, hz, _, hcell, hwz⟩
  · simp only [List.cons.injEq, and_true] at hcs
    subst hcs
    exact ⟨⟨g, none, 0, [], e⟩, rfl, ⟨Rd.nil _ _ _, by simp, by simp, by simp⟩, we⟩
  · simp only [List.cons.injEq, and_true] at hcs
    subst hcs
    have hz1 : zs.length = c := by simpa using hz
    obtain ⟨xs, hr1, hr2, hr3⟩ := rd_of_cells (len := l) (by omega) hcell hwz
    subst hr2
    refine ⟨⟨g, some x, c, xs, e⟩, rfl, ⟨hr1, hl, ?_, hr3⟩, we⟩
    unfold maxLen at hm
    simp only
    omega

end Go.Proofs.YtlegnbigddhmlaaDoor

namespace Go.Proofs.YtlegnbigddhmlaaDoor
open Go.ChangeShapes Go.WideShapes Go.ChangeAt Go.WideMaps Go.WideElems Go.RowKit Go.Slip Go.Joins Go.Deep

/-- A struct of fields of one cell each, by value, field by field. -/
theorem open_fields {H : Type} {enc : TypeId × Value → H} {P : Program} {W : World} {base : Nat} {r : Reach} {b0 : Nat} {sp : Nat → Bool} {held : Bool} {t : TypeId} {fs : Array Field} {v : Value} {d : DataW H} {p : List MemPlace}
    (hs : P.underlying t = some (.struct fs)) (hone : oneCellFields P fs = true) (hC : P.cellsOf t = fs.size) (hv : Value.okWide P W r b0 t v) (h : DataW.Trod enc P W base sp held t v d p) :
    ∃ (cs : Array Value) (n : Nat), v = .agg cs ∧ cs.size = fs.size ∧ ∀ (j : Nat) (f : Field) (c : Value), fs[j]? = some f → cs[j]? = some c → ∃ y, DataW.trod enc P W base sp held n f.type [c] = some y := by
  obtain ⟨cs, rfl, hsz⟩ := okWide_struct hs hv
  obtain ⟨fuel, hf⟩ := h
  obtain ⟨xs, n, _, _, _, hlen, hg⟩ := DataW.trod_struct hs hf
  refine ⟨cs, n, rfl, hsz.trans hC, fun j f c hj hc => ?_⟩
  obtain ⟨ho, hk⟩ := hone_of hone j f hj
  have hjl : j < fs.size := (Array.getElem?_eq_some_iff.1 hj).1
  have h1 := hg j f hj
  rw [ho, hk] at h1
  have h4 : cs.toList[j]? = some c := by simpa using hc
  have h2 : (cs.toList.drop j).take 1 = [c] := by
    rw [List.drop_eq_getElem_cons (List.getElem?_eq_some_iff.1 h4).1, (List.getElem?_eq_some_iff.1 h4).2]
    rfl
  change DataW.trod enc P W base sp held n f.type ((cs.toList.drop j).take 1) = _ at h1
  rw [h2] at h1
  rw [List.getElem?_eq_getElem (by omega)] at h1
  exact ⟨_, h1⟩

theorem arr5 {cs : Array Value} (h : cs.size = 5) : ∃ c0 c1 c2 c3 c4, cs = #[c0, c1, c2, c3, c4] := by
  obtain ⟨l⟩ := cs
  match l, h with
  | [c0, c1, c2, c3, c4], _ => exact ⟨c0, c1, c2, c3, c4, rfl⟩

theorem arr4 {cs : Array Value} (h : cs.size = 4) : ∃ c0 c1 c2 c3, cs = #[c0, c1, c2, c3] := by
  obtain ⟨l⟩ := cs
  match l, h with
  | [c0, c1, c2, c3], _ => exact ⟨c0, c1, c2, c3, rfl⟩

theorem arr6 {cs : Array Value} (h : cs.size = 6) : ∃ c0 c1 c2 c3 c4 c5, cs = #[c0, c1, c2, c3, c4, c5] := by
  obtain ⟨l⟩ := cs
  match l, h with
  | [c0, c1, c2, c3, c4, c5], _ => exact ⟨c0, c1, c2, c3, c4, c5, rfl⟩

set_option maxRecDepth 100000 in
theorem nat_field {H : Type} {enc : TypeId × Value → H} {W : World} {n : Nat} {v : Value} {y : DataW H × List MemPlace} (h : DataW.trod enc Tryd.prog W 0 (fun _ => true) true n 23 [v] = some y) :
    ∃ (p : Option Addr) (c : Nat) (xs : List Nat), v = .slice p xs.length c ∧ Rd W .u32 p xs ∧ xs.length ≤ c ∧ xs.length ≤ 9223372036854775807 ∧ ∀ x ∈ xs, x < B32 := by
  rcases open_ints Tryd.underlying23 Tryd.underlying46 (by kernel_rfl) h with ⟨hcs, _⟩ | ⟨x, l, c, zs, hcs, _, hl, hm, hz, _, hcell, hwz⟩
  · simp only [List.cons.injEq, and_true] at hcs
    subst hcs
    exact ⟨none, 0, [], rfl, Rd.nil _ _ _, by simp, by simp, by simp⟩
  · simp only [List.cons.injEq, and_true] at hcs
    subst hcs
    have hz1 : zs.length = c := by simpa using hz
    obtain ⟨xs, hr1, hr2, hr3⟩ := rd_of_cells (len := l) (by omega) hcell hwz
    subst hr2
    refine ⟨some x, c, xs, rfl, hr1, hl, ?_, hr3⟩
    unfold maxLen at hm
    omega

theorem int_field {H : Type} {enc : TypeId × Value → H} {W : World} {n : Nat} {v : Value} {y : DataW H × List MemPlace} (h : DataW.trod enc Tryd.prog W 0 (fun _ => true) true n 3 [v] = some y) : ∃ k, v = .int .i64 k ∧ (Lit.int .i64 k).wf = true := by
  obtain ⟨k, e0, _, w⟩ := DataW.trod_int Tryd.underlying3 h
  simp only [List.cons.injEq, and_true] at e0
  exact ⟨k, e0, w⟩

theorem bool_field {H : Type} {enc : TypeId × Value → H} {W : World} {n : Nat} {v : Value} {y : DataW H × List MemPlace} (h : DataW.trod enc Tryd.prog W 0 (fun _ => true) true n 4 [v] = some y) : ∃ k, v = .bool k := by
  obtain ⟨k, e0, _⟩ := DataW.trod_bool Tryd.underlying4 h
  simp only [List.cons.injEq, and_true] at e0
  exact ⟨k, e0⟩

set_option maxRecDepth 100000 in
theorem open_grid {H : Type} {enc : TypeId × Value → H} {W : World} {base : Nat} {v : Value} {d : DataW H} {p : List MemPlace} (hv : Value.okWide Tryd.prog W .any base 27 v)
    (h : DataW.Trod enc Tryd.prog W 0 (fun _ => true) true 27 v d p) : ∃ g : Gd, v = .agg #[.int .i64 g.rad, .int .i64 g.digs, .int .i64 g.lo, .int .i64 g.hi, .bool g.grad] := by
  obtain ⟨cs, n, rfl, hsz, hf⟩ := open_fields Tryd.underlying27 (by kernel_rfl) (by kernel_rfl) hv h
  obtain ⟨c0, c1, c2, c3, c4, rfl⟩ := arr5 hsz
  obtain ⟨_, h0⟩ := hf 0 _ c0 rfl rfl
  obtain ⟨_, h1⟩ := hf 1 _ c1 rfl rfl
  obtain ⟨_, h2⟩ := hf 2 _ c2 rfl rfl
  obtain ⟨_, h3⟩ := hf 3 _ c3 rfl rfl
  obtain ⟨_, h4⟩ := hf 4 _ c4 rfl rfl
  obtain ⟨k0, rfl, _⟩ := int_field h0
  obtain ⟨k1, rfl, _⟩ := int_field h1
  obtain ⟨k2, rfl, _⟩ := int_field h2
  obtain ⟨k3, rfl, _⟩ := int_field h3
  obtain ⟨k4, rfl⟩ := bool_field h4
  exact ⟨⟨k0, k1, k2, k3, k4⟩, rfl⟩

set_option maxRecDepth 100000 in
theorem open_ratio {H : Type} {enc : TypeId × Value → H} {W : World} {base : Nat} {v : Value} {d : DataW H} {p : List MemPlace} (hv : Value.okWide Tryd.prog W .any base 25 v)
    (h : DataW.Trod enc Tryd.prog W 0 (fun _ => true) true 25 v d p) : ∃ a : Rin, v = .agg #[.bool a.g, .slice a.p a.xs.length a.c, .slice a.q a.ys.length a.d, .int .i64 a.e] ∧ InR W a := by
  obtain ⟨cs, n, rfl, hsz, hf⟩ := open_fields Tryd.underlying25 (by kernel_rfl) (by kernel_rfl) hv h
  obtain ⟨c0, c1, c2, c3, rfl⟩ := arr4 hsz
  obtain ⟨_, h0⟩ := hf 0 _ c0 rfl rfl
  obtain ⟨_, h1⟩ := hf 1 _ c1 rfl rfl
  obtain ⟨_, h2⟩ := hf 2 _ c2 rfl rfl
  obtain ⟨_, h3⟩ := hf 3 _ c3 rfl rfl
  obtain ⟨k0, rfl⟩ := bool_field h0
  obtain ⟨p1, d1, xs, rfl, r1, _, l1, b1⟩ := nat_field h1
  obtain ⟨p2, d2, ys, rfl, r2, _, l2, b2⟩ := nat_field h2
  obtain ⟨k3, rfl, _⟩ := int_field h3
  exact ⟨⟨k0, p1, d1, xs, p2, d2, ys, k3⟩, rfl, ⟨r1, l1, b1, r2, l2, b2⟩⟩

end Go.Proofs.YtlegnbigddhmlaaDoor

namespace Go.Proofs.YtlegnbigddhmlaaDoor
open Go.ChangeShapes Go.WideShapes Go.ChangeAt Go.WideMaps Go.WideElems Go.RowKit Go.Slip Go.Joins Go.Deep

set_option maxRecDepth 100000 in
theorem open_place {H : Type} {enc : TypeId × Value → H} {W : World} {base : Nat} {v : Value} {d : DataW H} {p : List MemPlace} (hv : Value.okWide Tryd.prog W .any base 61 v)
    (h : DataW.Trod enc Tryd.prog W 0 (fun _ => true) true 61 v d p) : ∃ a : Pin, v = .agg #[.bool a.g, .slice a.p a.xs.length a.c, .int .i64 a.k, .bool a.x, .bool a.o, .bool a.u] ∧ InP W a := by
  obtain ⟨cs, n, rfl, hsz, hf⟩ := open_fields Tryd.underlying61 (by kernel_rfl) (by kernel_rfl) hv h
  obtain ⟨c0, c1, c2, c3, c4, c5, rfl⟩ := arr6 hsz
  obtain ⟨_, h0⟩ := hf 0 _ c0 rfl rfl
  obtain ⟨_, h1⟩ := hf 1 _ c1 rfl rfl
  obtain ⟨_, h2⟩ := hf 2 _ c2 rfl rfl
  obtain ⟨_, h3⟩ := hf 3 _ c3 rfl rfl
  obtain ⟨_, h4⟩ := hf 4 _ c4 rfl rfl
  obtain ⟨_, h5⟩ := hf 5 _ c5 rfl rfl
  obtain ⟨k0, rfl⟩ := bool_field h0
  obtain ⟨p1, d1, xs, rfl, r1, q1, l1, b1⟩ := nat_field h1
  obtain ⟨k2, rfl, _⟩ := int_field h2
  obtain ⟨k3, rfl⟩ := bool_field h3
  obtain ⟨k4, rfl⟩ := bool_field h4
  obtain ⟨k5, rfl⟩ := bool_field h5
  exact ⟨⟨k0, p1, d1, xs, k2, k3, k4, k5⟩, rfl, ⟨r1, q1, l1, b1⟩⟩

end Go.Proofs.YtlegnbigddhmlaaDoor
