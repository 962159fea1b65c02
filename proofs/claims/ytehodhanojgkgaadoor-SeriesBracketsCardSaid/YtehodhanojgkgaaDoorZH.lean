/- ball: quotient.
   ball: rows of numbers; how far what is cut, and a quotient, goes. -/
import Derived.Test.YtehodhanojgkgaaDoorZG
import Derived.Test.YtehodhanojgkgaaDoorZLimb13
import Derived.Maps.AppendAt
namespace Go.Proofs.YtehodhanojgkgaaDoor
open Go.RowKit Go.Slip

end Go.Proofs.YtehodhanojgkgaaDoor

namespace Go.Slip

end Go.Slip
namespace Go.Proofs.YtehodhanojgkgaaDoor
open Go.RowKit Go.Slip

def rowCells (L : List Rw) : List Value := L.flatMap fun x => [.bool x.g, .slice x.p (dig B32 x.m).length x.c, .int .i64 x.e]

theorem rowCells_len (L : List Rw) : (rowCells L).length = L.length * 3 := by
  induction L with
  | nil => rfl
  | cons x L ih => show (_ :: _ :: _ :: rowCells L).length = _; simp only [List.length_cons, ih]; omega

theorem rowCells_at (L : List Rw) : ∀ (j : Nat) (h : j < L.length), (rowCells L)[j * 3]? = some (.bool L[j].g) ∧ (rowCells L)[j * 3 + 1]? = some (.slice L[j].p (dig B32 L[j].m).length L[j].c) ∧ (rowCells L)[j * 3 + 2]? = some (.int .i64 L[j].e) := by
  induction L with
  | nil => intro j h; simp at h
  | cons x L ih =>
    intro j h
    match j with
    | 0 => exact ⟨rfl, rfl, rfl⟩
    | j + 1 =>
      have h2 := ih j (by simpa using h)
      show (_ :: _ :: _ :: rowCells L)[(j + 1) * 3]? = _ ∧ (_ :: _ :: _ :: rowCells L)[(j + 1) * 3 + 1]? = _ ∧ (_ :: _ :: _ :: rowCells L)[(j + 1) * 3 + 2]? = _
      rw [show (j + 1) * 3 = j * 3 + 1 + 1 + 1 by omega]
      simpa using h2

/-- A row of numbers of the call's own. -/
def RowW (w : World) (base : Nat) (v : Value) (L : List Rw) : Prop := w.ownsRow base 62 3 v L.length (rowCells L)

/-- A row that holds these numbers. -/
def Ov (w : World) (base0 base : Nat) (v : Value) (D : List Dv) : Prop := ∃ L : List Rw, RowW w base0 v L ∧ L.map Rw.v = D ∧ ∀ x ∈ L, InW w base x

/-- The row is not in this block. -/
def Off (v : Value) (k : Nat) : Prop := v.ownBlock ≠ some k

theorem Ov.nil (w : World) (base0 base : Nat) : Ov w base0 base (.slice none 0 0) [] := ⟨[], World.ownsRow_nil _ _ _ _, rfl, by simp⟩

theorem Ov.lt {w : World} {base0 base : Nat} {v : Value} {D : List Dv} (h : Ov w base0 base v D) : ∀ k, v.ownBlock = some k → base0 ≤ k ∧ k < w.heap.size := by
  obtain ⟨L, h1, _⟩ := h
  exact World.ownsRow.lt h1

theorem Ov.off {w : World} {base0 base : Nat} {v : Value} {D : List Dv} (h : Ov w base0 base v D) {k : Nat} (hk : k < base0 ∨ w.heap.size ≤ k) : Off v k := fun h1 => by
  have := h.lt k h1
  omega

theorem RowW.past {w w' : World} {base : Nat} {v : Value} {L : List Rw} (h : RowW w base v L) (hb : Below w.heap.size w w') : RowW w' base v L := by
  refine ⟨h.1, ?_⟩
  rcases h.2 with hn | ⟨g, cap, cur, hv, hbg, hg, r⟩
  · exact .inl hn
  · exact .inr ⟨g, cap, cur, hv, hbg, (hb.block _ (Array.getElem?_eq_some_iff.1 hg).1).trans hg, r⟩

theorem Ov.past {w w' : World} {base0 base : Nat} {v : Value} {D : List Dv} (h : Ov w base0 base v D) (hb : Below w.heap.size w w') : Ov w' base0 base v D := by
  obtain ⟨L, h1, h2, h3⟩ := h
  exact ⟨L, h1.past hb, h2, fun x hx => (h3 x hx).past hb⟩

/-- Numbers lie in no row of structs. -/
theorem InW.grown {w w' : World} {base base2 : Nat} {x : Rw} {v : Value} {n : Nat} {xs : List Value} (h : InW w base x) (hg : w.grownBy w' v.ownBlock) (h2 : w.ownsRow base2 62 3 v n xs) : InW w' base x :=
  ⟨h.ow.grown hg (fun hp he => by
    rcases h2.2 with ⟨h3, _⟩ | ⟨g, cap, cur, hv, _, hgg, _⟩
    · rw [h3] at he; simp [Value.ownBlock] at he
    · rw [hv] at he
      simp only [Value.ownBlock, Option.some.injEq] at he
      exact h.ow.ne_tb (b := g) ⟨cur, (0, 0), hgg⟩ (by decide) hp he), h.len, h.lo, h.hi⟩

theorem Ov.grown {w w' : World} {base0 base base2 base3 : Nat} {v v2 : Value} {D D2 : List Dv} (h : Ov w base0 base v D) (hg : w.grownBy w' v2.ownBlock) (h2 : Ov w base2 base3 v2 D2) (hne : v.ownBlock = none ∨ v.ownBlock ≠ v2.ownBlock) : Ov w' base0 base v D := by
  obtain ⟨L, h3, h4, h5⟩ := h
  obtain ⟨L2, h6, _⟩ := h2
  exact ⟨L, h3.kept hg hne, h4, fun x hx => (h5 x hx).grown hg h6⟩

theorem _root_.Go.Slip.Bx.grown {w w' : World} {b : Nat} {v : Value} {vs : Array Value} (h : Bx w b vs) (hg : w.grownBy w' v.ownBlock) (hne : Off v b) : Bx w' b vs :=
  h.same (hg.block _ h.lt fun he => hne he.symm)

theorem RowW.el {w : World} {base : Nat} {v : Value} {L : List Rw} (h : RowW w base v L) (h0 : 0 < L.length) :
    ∃ g c, v = .slice (some ⟨g, 0, none⟩) L.length c ∧ L.length ≤ c ∧ ∀ j (hj : j < L.length), El w g (j * 3) L[j] := by
  rcases h.2 with ⟨_, h1⟩ | ⟨g, cap, cur, hv, hb, hg, hn, _, _, _⟩
  · omega
  · refine ⟨g, cap, hv, hn, fun j hj => ?_⟩
    have hc := World.ownsRow.cells h (g := g) (by rw [hv]; rfl)
    obtain ⟨k0, k1, k2⟩ := rowCells_at L j hj
    have e0 := hc _ _ k0
    have e1 := hc _ _ k1
    have e2 := hc _ _ k2
    simp only [Addr.add_lit, Nat.zero_add] at e0 e1 e2
    exact ⟨e0, e1, e2, (Array.getElem?_eq_some_iff.1 hg).1⟩

end Go.Proofs.YtehodhanojgkgaaDoor
