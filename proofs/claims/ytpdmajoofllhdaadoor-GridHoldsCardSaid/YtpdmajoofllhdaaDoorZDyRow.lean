/- A dyad that came in, as a row hands it to the walks. -/
import Derived.Test.YtpdmajoofllhdaaDoorZTabRow
import Derived.Test.YtpdmajoofllhdaaDoorZDyad9
import Derived.Lib.SmallJoins
namespace Go.Proofs.YtpdmajoofllhdaaDoor
open Go.ChangeShapes Go.WideShapes Go.ChangeAt Go.WideMaps Go.WideElems Go.RowKit Go.Slip

set_option maxRecDepth 100000 in
theorem open_dyad {H : Type} {enc : TypeId × Value → H} {W : World} {base : Nat} {v : Value} {d : DataW H} {p : List MemPlace} (hv : Value.okWide Tryd.prog W .any base 29 v)
    (h : DataW.Trod enc Tryd.prog W 0 (fun _ => true) true 29 v d p) :
    ∃ a : Din, v = .agg #[.bool a.g, .slice a.p a.xs.length a.c, .int .i64 a.e] ∧ InD W a ∧ (Lit.int .i64 a.e).wf = true := by
  obtain ⟨v0, v1, v2, y0, y1, y2, n, rfl, _, _, h0, h1, h2⟩ := Joins.open_agg3 Tryd.underlying29 (by kernel_rfl) (by kernel_rfl) hv h
  obtain ⟨g, e0, _⟩ := DataW.trod_bool Tryd.underlying4 h0
  obtain ⟨e, e2, _, we⟩ := DataW.trod_int Tryd.underlying3 h2
  simp only [List.cons.injEq, and_true] at e0 e2
  subst e0 e2
  rcases open_ints Tryd.underlying23 Tryd.underlying59 (by kernel_rfl) h1 with ⟨hcs, _⟩ | ⟨x, l, c, zs, hcs, _, hl, hm, hz, _, hcell, hwz⟩
  · simp only [List.cons.injEq, and_true] at hcs
    subst hcs
    exact ⟨⟨g, none, 0, [], e⟩, rfl, ⟨Rd.nil _ _ _, by simp, by simp, by simp⟩, we⟩
  · simp only [List.cons.injEq, and_true] at hcs
    subst hcs
    have hz1 : zs.length = c := by simpa using hz
    obtain ⟨xs, hr1, hr2, hr3⟩ := rd_of_cells (len := l) (by omega) hcell hwz
    subst hr2
    refine ⟨⟨g, some x, c, xs, e⟩, rfl, ⟨hr1, hl, ?_, hr3⟩, we⟩
    unfold maxLen at hm
    simp only
    omega

end Go.Proofs.YtpdmajoofllhdaaDoor
