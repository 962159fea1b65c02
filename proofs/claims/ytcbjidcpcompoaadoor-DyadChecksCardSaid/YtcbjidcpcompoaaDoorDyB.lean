/- Boxes of structs: laid at the head of a call, filled at its end. -/
import Derived.Test.YtcbjidcpcompoaaDoorDyad3
import Derived.Test.YtcbjidcpcompoaaDoorDy4
namespace Go.Proofs.YtcbjidcpcompoaaDoor
open Go.RowKit Go.Slip

theorem TabW.below {w w' : World} {B : Nat} (h : TabW w) (hb : Below B w w') (hB : 0 < B) : TabW w' :=
  ⟨fun j hj => by rw [Below.cell hb hB]; exact h.1 j hj, Nat.lt_of_lt_of_le h.2 hb.size⟩

theorem Box3.below {w w' : World} {B b : Nat} {v0 v1 v2 : Value} (h : Box3 w b v0 v1 v2) (hb : Below B w w') (hB : b < B) : Box3 w' b v0 v1 v2 :=
  ⟨by rw [Below.cell hb hB]; exact h.c0, by rw [Below.cell hb hB]; exact h.c1, by rw [Below.cell hb hB]; exact h.c2,
   by rw [Below.frozen hb hB]; exact h.f0, by rw [Below.frozen hb hB]; exact h.f1, by rw [Below.frozen hb hB]; exact h.f2, Nat.lt_of_lt_of_le h.lt hb.size⟩

theorem Box3.set {w : World} {b k o : Nat} {v0 v1 v2 u : Value} (h : Box3 w b v0 v1 v2) (hne : b < k) : Box3 (w.setCell ⟨k, o, none⟩ u) b v0 v1 v2 := by
  have hb : Below k w (w.setCell ⟨k, o, none⟩ u) := (Below.refl k w).setCell (p := ⟨k, o, none⟩) (Nat.le_refl _) u
  exact ⟨by rw [Below.cell hb hne]; exact h.c0, by rw [Below.cell hb hne]; exact h.c1, by rw [Below.cell hb hne]; exact h.c2,
   by rw [Below.frozen hb hne]; exact h.f0, by rw [Below.frozen hb hne]; exact h.f1, by rw [Below.frozen hb hne]; exact h.f2, Nat.lt_of_lt_of_le h.lt hb.size⟩

theorem Box3.laid {w : World} {b : Nat} {v0 v1 v2 : Value} (h : Box3 w b v0 v1 v2) (o : Obj) : Box3 (w.alloc o) b v0 v1 v2 := h.past ((Below.refl _ _).alloc (Nat.le_refl _) _)

theorem box2s (w : World) (a0 a1 a2 r0 r1 r2 : Value) (tA tR : TypeId) : ∃ W1, W1 = (w.alloc (.cells #[a0, a1, a2] tA)).alloc (.cells #[r0, r1, r2] tR) ∧
    Below w.heap.size w W1 ∧ Box3 W1 w.heap.size a0 a1 a2 ∧ Box3 W1 (w.heap.size + 1) r0 r1 r2 ∧ W1.heap.size = w.heap.size + 1 + 1 := by
  refine ⟨_, rfl, two_laid _ _ _, (box3_new w _ _ _ _).laid _, ?_, by simp⟩
  have := box3_new (w.alloc (.cells #[a0, a1, a2] tA)) r0 r1 r2 tR
  simpa using this

theorem box3s (w : World) (a0 a1 a2 b0 b1 b2 r0 r1 r2 : Value) (tA tB tR : TypeId) : ∃ W1, W1 = ((w.alloc (.cells #[a0, a1, a2] tA)).alloc (.cells #[b0, b1, b2] tB)).alloc (.cells #[r0, r1, r2] tR) ∧
    Below w.heap.size w W1 ∧ Box3 W1 w.heap.size a0 a1 a2 ∧ Box3 W1 (w.heap.size + 1) b0 b1 b2 ∧ Box3 W1 (w.heap.size + 1 + 1) r0 r1 r2 ∧ W1.heap.size = w.heap.size + 1 + 1 + 1 := by
  refine ⟨_, rfl, (two_laid _ _ _).alloc (by simp; omega) _, ((box3_new w _ _ _ _).laid _).laid _, ?_, ?_, by simp⟩
  · have := (box3_new (w.alloc (.cells #[a0, a1, a2] tA)) b0 b1 b2 tB).laid (.cells #[r0, r1, r2] tR)
    simpa using this
  · have := box3_new ((w.alloc (.cells #[a0, a1, a2] tA)).alloc (.cells #[b0, b1, b2] tB)) r0 r1 r2 tR
    simpa using this

/-- The last store into the box of the result. -/
theorem givesD_close {w wk : World} {base base' b : Nat} {d : Dv} {p : Option Addr} {c : Nat} {v0 v1 v2 : Value} (hs : Below w.heap.size w wk) (ho : Own wk base' .u32 66 p c (dig B32 d.m)) (hb : base ≤ base') (hB : w.heap.size ≤ b)
    (hne : p.isSome = true → blk p ≠ b) :
    GivesD w base d (.returned (.agg #[.bool d.neg, .slice p (dig B32 d.m).length c, .int .i64 d.e])) (((wk.setCell ⟨b, 0, none⟩ v0).setCell ⟨b, 1, none⟩ v1).setCell ⟨b, 2, none⟩ v2) :=
  ⟨p, c, rfl, (ho.mono hb).same (fun h => by rw [Below.heap_setCell _ _ _ _ (hne h), Below.heap_setCell _ _ _ _ (hne h), Below.heap_setCell _ _ _ _ (hne h)]), ((hs.setCell (by simp; omega) _).setCell (by simp; omega) _).setCell (by simp; omega) _⟩

theorem givesDE_close {w wk : World} {base base' b : Nat} {d : Dv} {er : Int} {p : Option Addr} {c : Nat} {v0 v1 v2 : Value} (hs : Below w.heap.size w wk) (ho : Own wk base' .u32 66 p c (dig B32 d.m)) (hb : base ≤ base') (hB : w.heap.size ≤ b)
    (hne : p.isSome = true → blk p ≠ b) :
    GivesDE w base d er (.returned (.tuple #[.agg #[.bool d.neg, .slice p (dig B32 d.m).length c, .int .i64 d.e], .int .i64 er])) (((wk.setCell ⟨b, 0, none⟩ v0).setCell ⟨b, 1, none⟩ v1).setCell ⟨b, 2, none⟩ v2) :=
  ⟨p, c, rfl, (ho.mono hb).same (fun h => by rw [Below.heap_setCell _ _ _ _ (hne h), Below.heap_setCell _ _ _ _ (hne h), Below.heap_setCell _ _ _ _ (hne h)]), ((hs.setCell (by simp; omega) _).setCell (by simp; omega) _).setCell (by simp; omega) _⟩

/-- A number with a point that a reference leaves: it reads so; its digits lie in new memory, or in a block that is fit. -/
def GivesF (w : World) (fit : Nat → Prop) (d : Dv) (en : Ending) (w' : World) : Prop :=
  ∃ p c, en = .returned (.agg #[.bool d.neg, .slice p (dig B16 d.m).length c, .int .i64 d.e]) ∧ Rd w' .i64 p (dig B16 d.m) ∧ (dig B16 d.m).length ≤ c ∧ (0 < (dig B16 d.m).length → fit (blk p) ∨ w.heap.size ≤ blk p) ∧ Below w.heap.size w w'

theorem givesF_close {w wk : World} {fit : Nat → Prop} {b : Nat} {d : Dv} {p : Option Addr} {c : Nat} {v0 v1 v2 : Value} (hs : Below w.heap.size w wk) (hr : Rd wk .i64 p (dig B16 d.m)) (hc : (dig B16 d.m).length ≤ c)
    (hf : 0 < (dig B16 d.m).length → fit (blk p) ∨ w.heap.size ≤ blk p) (hB : w.heap.size ≤ b) (hne : 0 < (dig B16 d.m).length → blk p ≠ b) :
    GivesF w fit d (.returned (.agg #[.bool d.neg, .slice p (dig B16 d.m).length c, .int .i64 d.e])) (((wk.setCell ⟨b, 0, none⟩ v0).setCell ⟨b, 1, none⟩ v1).setCell ⟨b, 2, none⟩ v2) :=
  ⟨p, c, rfl, hr.same (fun h => by rw [Below.heap_setCell _ _ _ _ (hne h), Below.heap_setCell _ _ _ _ (hne h), Below.heap_setCell _ _ _ _ (hne h)]), hc, hf, ((hs.setCell (by simp; omega) _).setCell (by simp; omega) _).setCell (by simp; omega) _⟩

end Go.Proofs.YtcbjidcpcompoaaDoor
