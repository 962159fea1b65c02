/- ball: Over. -/
import Derived.Test.YtehodhanojgkgaaDoorZH
namespace Go.Slip

end Go.Slip
namespace Go.Proofs.YtehodhanojgkgaaDoor
open Go.RowKit Go.Slip

/-- Small enough to be divided. -/
structure Sm (x : Rw) : Prop where
  len : (dig B32 x.m).length ≤ 1300
  lo : -100000 ≤ x.e
  hi : x.e ≤ 100000

theorem tb_new (w : World) (vs : Array Value) (t : TypeId) : Tb (w.alloc (.cells vs t)) w.heap.size t := ⟨vs, (0, 0), by show (w.heap.push _)[_]? = _; simp⟩

theorem Tb.grown {w w' : World} {b : Nat} {t : TypeId} {v : Value} (h : Tb w b t) (hg : w.grownBy w' v.ownBlock) (hne : Off v b) : Tb w' b t := by
  have hl := h.lt
  obtain ⟨vs, fz, h⟩ := h
  exact ⟨vs, fz, (hg.block _ hl fun he => hne he.symm).trans h⟩

/-- around, of a row. -/
theorem around_ov (b base0 base : Nat) (v : Value) (d : Dv) (D : List Dv) (w : World) (O : Ov w base0 base v (d :: D)) (h1 : 1 ≤ D.length) (h2 : D.length ≤ 900) (hb : b ≤ 1000000) (hT : TabW w) (hbase : base ≤ w.heap.size) :
    Calls Tryd.prog 82 #[.int .i64 b, v] w (GivesB w base (pCut (lowD d D) b false) (pCut (highD d D) b true)) := by
  obtain ⟨L, k1, k2, k3⟩ := O
  match L, k1, k2, k3 with
  | a :: L, k1, k2, k3 =>
    simp only [List.map_cons, List.cons.injEq] at k2
    obtain ⟨k4, k5⟩ := k2
    have hl : L.length = D.length := by rw [← k5, List.length_map]
    obtain ⟨g, c, hv, hc, hel⟩ := k1.el (by simp)
    rw [hv]
    have h := around_any b g c base (a :: L) w _ rfl (by simp; omega) hc (by simp; omega) (fun j hj => (hel j hj).e3) (fun j hj => k3 _ (List.getElem_mem hj)) (hel 0 (by simp)).lt hb hT hbase
    simp only [List.getElem_cons_zero, List.tail_cons] at h
    rw [lowR_v, highR_v, k4, k5] at h
    exact h

end Go.Proofs.YtehodhanojgkgaaDoor
