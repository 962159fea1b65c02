/- Places that came in, as a row hands them to the walks. -/
import Derived.Test.YtpdmajoofllhdaaDoorZOpn
import Derived.Test.YtpdmajoofllhdaaDoorZGd7
namespace Go.Proofs.YtpdmajoofllhdaaDoor
open Go.ChangeShapes Go.WideShapes Go.ChangeAt Go.WideMaps Go.WideElems Go.RowKit Go.Slip Go.Joins Go.Deep

set_option maxRecDepth 100000 in
theorem open_place {H : Type} {enc : TypeId × Value → H} {W : World} {base : Nat} {v : Value} {d : DataW H} {p : List MemPlace} (hv : Value.okWide Tryd.prog W .any base 25 v)
    (h : DataW.Trod enc Tryd.prog W 0 (fun _ => true) true 25 v d p) : ∃ a : Pin, v = .agg #[.bool a.g, .slice a.p a.xs.length a.c, .int .i64 a.k, .bool a.x, .bool a.o, .bool a.u] ∧ InP W a := by
  obtain ⟨cs, n, rfl, hsz, hf⟩ := open_fields Tryd.underlying25 (by kernel_rfl) (by kernel_rfl) hv h
  obtain ⟨c0, c1, c2, c3, c4, c5, rfl⟩ := arr6 hsz
  obtain ⟨_, h0⟩ := hf 0 _ c0 rfl rfl
  obtain ⟨_, h1⟩ := hf 1 _ c1 rfl rfl
  obtain ⟨_, h2⟩ := hf 2 _ c2 rfl rfl
  obtain ⟨_, h3⟩ := hf 3 _ c3 rfl rfl
  obtain ⟨_, h4⟩ := hf 4 _ c4 rfl rfl
  obtain ⟨_, h5⟩ := hf 5 _ c5 rfl rfl
  obtain ⟨k0, rfl⟩ := bool_field h0
  obtain ⟨p1, d1, xs, rfl, r1, q1, l1, b1⟩ := nat_field h1
  obtain ⟨k2, rfl, _⟩ := int_field h2
  obtain ⟨k3, rfl⟩ := bool_field h3
  obtain ⟨k4, rfl⟩ := bool_field h4
  obtain ⟨k5, rfl⟩ := bool_field h5
  exact ⟨⟨k0, p1, d1, xs, k2, k3, k4, k5⟩, rfl, ⟨r1, q1, l1, b1⟩⟩

end Go.Proofs.YtpdmajoofllhdaaDoor
