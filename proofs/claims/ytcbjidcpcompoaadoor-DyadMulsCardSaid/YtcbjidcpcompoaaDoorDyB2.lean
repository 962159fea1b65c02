/- Boxes of structs: what is stored into one. -/
import Derived.Test.YtcbjidcpcompoaaDoorDyB
namespace Go.Proofs.YtcbjidcpcompoaaDoor
open Go.RowKit Go.Slip

theorem Box3.put {w : World} {b : Nat} {v0 v1 v2 : Value} (h : Box3 w b v0 v1 v2) (u0 u1 u2 : Value) : Box3 (((w.setCell ⟨b, 0, none⟩ u0).setCell ⟨b, 1, none⟩ u1).setCell ⟨b, 2, none⟩ u2) b u0 u1 u2 := by
  have h1 : Box3 (w.setCell ⟨b, 0, none⟩ u0) b u0 v1 v2 :=
    ⟨World.cell?_setCell_same _ _ _ h.c0, (World.cell?_setCell_other _ _ _ _ (by simp)).trans h.c1, (World.cell?_setCell_other _ _ _ _ (by simp)).trans h.c2, by simpa using h.f0, by simpa using h.f1, by simpa using h.f2, by simpa using h.lt⟩
  have h2 : Box3 ((w.setCell ⟨b, 0, none⟩ u0).setCell ⟨b, 1, none⟩ u1) b u0 u1 v2 :=
    ⟨(World.cell?_setCell_other _ _ _ _ (by simp)).trans h1.c0, World.cell?_setCell_same _ _ _ h1.c1, (World.cell?_setCell_other _ _ _ _ (by simp)).trans h1.c2, by simpa using h.f0, by simpa using h.f1, by simpa using h.f2, by simpa using h.lt⟩
  exact ⟨(World.cell?_setCell_other _ _ _ _ (by simp)).trans h2.c0, (World.cell?_setCell_other _ _ _ _ (by simp)).trans h2.c1, World.cell?_setCell_same _ _ _ h2.c2, by simpa using h.f0, by simpa using h.f1, by simpa using h.f2, by simpa using h.lt⟩

/-- Another box is as it was. -/
theorem Box3.beside {w : World} {b k : Nat} {v0 v1 v2 : Value} (h : Box3 w b v0 v1 v2) (hne : b ≠ k) (u0 u1 u2 : Value) : Box3 (((w.setCell ⟨k, 0, none⟩ u0).setCell ⟨k, 1, none⟩ u1).setCell ⟨k, 2, none⟩ u2) b v0 v1 v2 := by
  have key : ∀ (W : World) (o : Nat) (u : Value), Box3 W b v0 v1 v2 → Box3 (W.setCell ⟨k, o, none⟩ u) b v0 v1 v2 := fun W o u h =>
    ⟨(World.cell?_setCell_other _ _ _ _ (fun e => hne (congrArg Addr.block e).symm)).trans h.c0, (World.cell?_setCell_other _ _ _ _ (fun e => hne (congrArg Addr.block e).symm)).trans h.c1, (World.cell?_setCell_other _ _ _ _ (fun e => hne (congrArg Addr.block e).symm)).trans h.c2, by simpa using h.f0, by simpa using h.f1, by simpa using h.f2, by simpa using h.lt⟩
  exact key _ _ _ (key _ _ _ (key _ _ _ h))

theorem Own.beside {w : World} {base k : Nat} {kd : IntKind} {e : TypeId} {p : Option Addr} {c : Nat} {xs : List Nat} (h : Own w base kd e p c xs) (hne : p.isSome = true → blk p ≠ k) (u0 u1 u2 : Value) :
    Own (((w.setCell ⟨k, 0, none⟩ u0).setCell ⟨k, 1, none⟩ u1).setCell ⟨k, 2, none⟩ u2) base kd e p c xs :=
  h.same (fun h => by rw [Below.heap_setCell _ _ _ _ (hne h), Below.heap_setCell _ _ _ _ (hne h), Below.heap_setCell _ _ _ _ (hne h)])

theorem Rd.beside {w : World} {k : Nat} {kd : IntKind} {p : Option Addr} {xs : List Nat} (h : Rd w kd p xs) (hne : 0 < xs.length → blk p ≠ k) (u0 u1 u2 : Value) :
    Rd (((w.setCell ⟨k, 0, none⟩ u0).setCell ⟨k, 1, none⟩ u1).setCell ⟨k, 2, none⟩ u2) kd p xs :=
  h.same (fun h => by rw [Below.heap_setCell _ _ _ _ (hne h), Below.heap_setCell _ _ _ _ (hne h), Below.heap_setCell _ _ _ _ (hne h)])

theorem TabW.beside {w : World} {k : Nat} (h : TabW w) (hk : 0 < k) (u0 u1 u2 : Value) : TabW (((w.setCell ⟨k, 0, none⟩ u0).setCell ⟨k, 1, none⟩ u1).setCell ⟨k, 2, none⟩ u2) :=
  h.below (((Below.refl k w).setCell (Nat.le_refl _) _ |>.setCell (Nat.le_refl _) _).setCell (Nat.le_refl _) _) hk

theorem Below.beside {w w' : World} {B k : Nat} (h : Below B w w') (hk : B ≤ k) (u0 u1 u2 : Value) : Below B w (((w'.setCell ⟨k, 0, none⟩ u0).setCell ⟨k, 1, none⟩ u1).setCell ⟨k, 2, none⟩ u2) :=
  ((h.setCell hk _).setCell hk _).setCell hk _

end Go.Proofs.YtcbjidcpcompoaaDoor
