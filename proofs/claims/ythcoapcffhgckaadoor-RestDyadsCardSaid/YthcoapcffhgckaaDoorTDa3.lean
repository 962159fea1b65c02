/- Blocks of a call's own that are known whole: 'Bx'; worlds that differ in one block: 'Only'; a world that has been laid is put behind a name. No program is in sight here. -/
import Derived.Deep.RegionHeld3
import Derived.KernelRfl
import Derived.IntWalk
import Derived.LoopN
import Derived.Deep.LoopGhost
import Derived.Laws.Sem
import Derived.Lib.ConvBytes
import Derived.Deep.RegionLaw
import Derived.Maps.Own
import Derived.Outline
import Derived.Test.YthcoapcffhgckaaDoorTDa1
import Derived.Test.YthcoapcffhgckaaDoorTDa2
set_option maxHeartbeats 8000000
set_option maxRecDepth 100000
namespace Go.Slip
open Go.RowKit
def Bx (w : World) (b : Nat) (vs : Array Value) : Prop := ∃ t, w.heap[b]? = some (.cells vs t)
theorem Bx.lt {w : World} {b : Nat} {vs : Array Value} (h : Bx w b vs) : b < w.heap.size := by
 obtain ⟨t, h⟩ := h
 exact (Array.getElem?_eq_some_iff.1 h).1
theorem Bx.cell {w : World} {b : Nat} {vs : Array Value} (h : Bx w b vs) (i : Nat) : w.cell? ⟨b, i, none⟩ = vs[i]? := by
 obtain ⟨t, h⟩ := h
 simp [World.cell?, h]
theorem Bx.c {w : World} {b : Nat} {vs : Array Value} (h : Bx w b vs) (i : Nat) {v : Value} (hv : vs[i]? = some v) : w.cell? ⟨b, i, none⟩ = some v := (h.cell i).trans hv
theorem Bx.f {w : World} {b : Nat} {vs : Array Value} (h : Bx w b vs) (i : Nat) : w.frozen? ⟨b, i, none⟩ = false := by
 obtain ⟨t, h⟩ := h
 simp [World.frozen?, h]
theorem Bx.same {w w' : World} {b : Nat} {vs : Array Value} (h : Bx w b vs) (hb : w'.heap[b]? = w.heap[b]?) : Bx w' b vs := by
 obtain ⟨t, h⟩ := h
 exact ⟨t, hb.trans h⟩
theorem Bx.past {w w' : World} {b : Nat} {vs : Array Value} (h : Bx w b vs) (hb : Below w.heap.size w w') : Bx w' b vs := h.same (hb.block _ h.lt)
theorem Bx.below {w w' : World} {B b : Nat} {vs : Array Value} (h : Bx w b vs) (hb : Below B w w') (hB : b < B) : Bx w' b vs := h.same (hb.block _ hB)
theorem Bx.drew {w : World} {b : Nat} {vs : Array Value} (h : Bx w b vs) : Bx w.drew b vs := h
theorem Bx.drewN {w : World} {b : Nat} {vs : Array Value} (h : Bx w b vs) (n : Nat) : Bx (w.drewN n) b vs := h.past (below_drewN (Below.refl _ _) n)
theorem e0w (w : World) (vs : Array Value) (t : TypeId) : Bx (w.alloc (.cells vs t)) w.heap.size vs := ⟨t, by show (w.heap.push _)[_]? = _; simp⟩
theorem Bx.laid {w : World} {b : Nat} {vs : Array Value} (h : Bx w b vs) (o : Obj) : Bx (w.alloc o) b vs := h.past ((Below.refl _ _).alloc (Nat.le_refl _) _)
theorem Bx.set {w : World} {b : Nat} {vs : Array Value} (h : Bx w b vs) (i : Nat) (v : Value) : Bx (w.setCell ⟨b, i, none⟩ v) b (vs.setIfInBounds i v) := by
 obtain ⟨t, h⟩ := h
 refine ⟨t, ?_⟩
 show (w.heap.modify b _)[b]? = _
 rw [Array.getElem?_modify, if_pos rfl, h]
 rfl
theorem Bx.e1 {w : World} {b : Nat} {v0 : Value} (h : Bx w b #[v0]) : w.cell? ⟨b, 0, none⟩ = some v0 := h.c 0 rfl
theorem Bx.e2 {w : World} {b : Nat} {v0 v1 : Value} (h : Bx w b #[v0, v1]) : w.cell? ⟨b, 0, none⟩ = some v0 ∧ w.cell? ⟨b, 1, none⟩ = some v1 := ⟨h.c 0 rfl, h.c 1 rfl⟩
theorem Bx.e3 {w : World} {b : Nat} {v0 v1 v2 : Value} (h : Bx w b #[v0, v1, v2]) : w.cell? ⟨b, 0, none⟩ = some v0 ∧ w.cell? ⟨b, 1, none⟩ = some v1 ∧ w.cell? ⟨b, 2, none⟩ = some v2 := ⟨h.c 0 rfl, h.c 1 rfl, h.c 2 rfl⟩
theorem Bx.e4 {w : World} {b : Nat} {v0 v1 v2 v3 : Value} (h : Bx w b #[v0, v1, v2, v3]) : w.cell? ⟨b, 0, none⟩ = some v0 ∧ w.cell? ⟨b, 1, none⟩ = some v1 ∧ w.cell? ⟨b, 2, none⟩ = some v2 ∧ w.cell? ⟨b, 3, none⟩ = some v3 := ⟨h.c 0 rfl, h.c 1 rfl, h.c 2 rfl, h.c 3 rfl⟩
theorem Bx.e5 {w : World} {b : Nat} {v0 v1 v2 v3 v4 : Value} (h : Bx w b #[v0, v1, v2, v3, v4]) : w.cell? ⟨b, 0, none⟩ = some v0 ∧ w.cell? ⟨b, 1, none⟩ = some v1 ∧ w.cell? ⟨b, 2, none⟩ = some v2 ∧ w.cell? ⟨b, 3, none⟩ = some v3 ∧ w.cell? ⟨b, 4, none⟩ = some v4 := ⟨h.c 0 rfl, h.c 1 rfl, h.c 2 rfl, h.c 3 rfl, h.c 4 rfl⟩
theorem Bx.e6 {w : World} {b : Nat} {v0 v1 v2 v3 v4 v5 : Value} (h : Bx w b #[v0, v1, v2, v3, v4, v5]) : w.cell? ⟨b, 0, none⟩ = some v0 ∧ w.cell? ⟨b, 1, none⟩ = some v1 ∧ w.cell? ⟨b, 2, none⟩ = some v2 ∧ w.cell? ⟨b, 3, none⟩ = some v3 ∧ w.cell? ⟨b, 4, none⟩ = some v4 ∧ w.cell? ⟨b, 5, none⟩ = some v5 := ⟨h.c 0 rfl, h.c 1 rfl, h.c 2 rfl, h.c 3 rfl, h.c 4 rfl, h.c 5 rfl⟩
theorem Bx.e7 {w : World} {b : Nat} {v0 v1 v2 v3 v4 v5 v6 : Value} (h : Bx w b #[v0, v1, v2, v3, v4, v5, v6]) : w.cell? ⟨b, 0, none⟩ = some v0 ∧ w.cell? ⟨b, 1, none⟩ = some v1 ∧ w.cell? ⟨b, 2, none⟩ = some v2 ∧ w.cell? ⟨b, 3, none⟩ = some v3 ∧ w.cell? ⟨b, 4, none⟩ = some v4 ∧ w.cell? ⟨b, 5, none⟩ = some v5 ∧ w.cell? ⟨b, 6, none⟩ = some v6 := ⟨h.c 0 rfl, h.c 1 rfl, h.c 2 rfl, h.c 3 rfl, h.c 4 rfl, h.c 5 rfl, h.c 6 rfl⟩
theorem Bx.e8 {w : World} {b : Nat} {v0 v1 v2 v3 v4 v5 v6 v7 : Value} (h : Bx w b #[v0, v1, v2, v3, v4, v5, v6, v7]) : w.cell? ⟨b, 0, none⟩ = some v0 ∧ w.cell? ⟨b, 1, none⟩ = some v1 ∧ w.cell? ⟨b, 2, none⟩ = some v2 ∧ w.cell? ⟨b, 3, none⟩ = some v3 ∧ w.cell? ⟨b, 4, none⟩ = some v4 ∧ w.cell? ⟨b, 5, none⟩ = some v5 ∧ w.cell? ⟨b, 6, none⟩ = some v6 ∧ w.cell? ⟨b, 7, none⟩ = some v7 := ⟨h.c 0 rfl, h.c 1 rfl, h.c 2 rfl, h.c 3 rfl, h.c 4 rfl, h.c 5 rfl, h.c 6 rfl, h.c 7 rfl⟩
structure Only (b : Nat) (w w' : World) : Prop where
 os : w'.os = w.os
 tape : w'.tape = w.tape
 output : w'.output = w.output
 size : w'.heap.size = w.heap.size
 block : ∀ k, k ≠ b → w'.heap[k]? = w.heap[k]?
theorem Only.refl (b : Nat) (w : World) : Only b w w := ⟨rfl, rfl, rfl, rfl, fun _ _ => rfl⟩
theorem Only.trans {b : Nat} {w1 w2 w3 : World} (h : Only b w1 w2) (k : Only b w2 w3) : Only b w1 w3 :=
 ⟨k.os.trans h.os, k.tape.trans h.tape, k.output.trans h.output, k.size.trans h.size, fun i hi => (k.block i hi).trans (h.block i hi)⟩
theorem f0s (w : World) (b i : Nat) (v : Value) : Only b w (w.setCell ⟨b, i, none⟩ v) :=
 ⟨rfl, rfl, rfl, by simp [World.setCell], fun k hk => Below.heap_setCell _ _ _ _ hk⟩
theorem Only.set {b : Nat} {w w' : World} (h : Only b w w') (i : Nat) (v : Value) : Only b w (w'.setCell ⟨b, i, none⟩ v) := h.trans (f0s w' b i v)
theorem b1y (w : World) (b : Nat) (v0 v1 v2 : Value) : Only b w (((w.setCell ⟨b, 0, none⟩ v0).setCell ⟨b, 1, none⟩ v1).setCell ⟨b, 2, none⟩ v2) := ((f0s w b 0 v0).set 1 v1).set 2 v2
theorem Bx.put3 {w : World} {b : Nat} {v0 v1 v2 : Value} (h : Bx w b #[v0, v1, v2]) (u0 u1 u2 : Value) : Bx (((w.setCell ⟨b, 0, none⟩ u0).setCell ⟨b, 1, none⟩ u1).setCell ⟨b, 2, none⟩ u2) b #[u0, u1, u2] := ((h.set 0 u0).set 1 u1).set 2 u2
theorem e0z (w : World) (b : Nat) (v0 v1 v2 v3 v4 v5 : Value) : Only b w ((((((w.setCell ⟨b, 0, none⟩ v0).setCell ⟨b, 1, none⟩ v1).setCell ⟨b, 2, none⟩ v2).setCell ⟨b, 3, none⟩ v3).setCell ⟨b, 4, none⟩ v4).setCell ⟨b, 5, none⟩ v5) := (((((f0s w b 0 v0).set 1 v1).set 2 v2).set 3 v3).set 4 v4).set 5 v5
theorem Only.below {b B : Nat} {w w' : World} (h : Only b w w') (hB : B ≤ b) : Below B w w' :=
 ⟨h.os, h.tape, h.output, by rw [h.size]; exact Nat.le_refl _, fun k hk => h.block k (by omega)⟩
theorem Bx.only {w w' : World} {b k : Nat} {vs : Array Value} (h : Bx w b vs) (hb : Only k w w') (hne : b ≠ k) : Bx w' b vs := h.same (hb.block _ hne)
theorem Own.only {w w' : World} {base k : Nat} {kd : IntKind} {e : TypeId} {p : OA} {c : Nat} {xs : List Nat} (h : Own w base kd e p c xs) (hb : Only k w w') (hne : p.isSome = true → blk p ≠ k) : Own w' base kd e p c xs :=
 h.same fun h0 => hb.block _ (hne h0)
theorem Rd.only {w w' : World} {k : Nat} {kd : IntKind} {p : OA} {xs : List Nat} (h : Rd w kd p xs) (hb : Only k w w') (hne : 0 < xs.length → blk p ≠ k) : Rd w' kd p xs :=
 h.same fun h0 => hb.block _ (hne h0)
structure Keep (b : Nat) (w w' : World) : Prop where
 os : w'.os = w.os
 tape : w'.tape = w.tape
 output : w'.output = w.output
 size : w.heap.size ≤ w'.heap.size
 block : ∀ k, k < w.heap.size → k ≠ b → w'.heap[k]? = w.heap[k]?
theorem Below.keep {w w' : World} (h : Below w.heap.size w w') (b : Nat) : Keep b w w' := ⟨h.os, h.tape, h.output, h.size, fun k hk _ => h.block k hk⟩
theorem Only.keep {b : Nat} {w w' : World} (h : Only b w w') : Keep b w w' := ⟨h.os, h.tape, h.output, by rw [h.size]; exact Nat.le_refl _, fun k _ hk => h.block k hk⟩
theorem Keep.trans {b : Nat} {w1 w2 w3 : World} (h : Keep b w1 w2) (k : Keep b w2 w3) : Keep b w1 w3 :=
 ⟨k.os.trans h.os, k.tape.trans h.tape, k.output.trans h.output, Nat.le_trans h.size k.size, fun i hi hn => (k.block i (Nat.lt_of_lt_of_le hi h.size) hn).trans (h.block i hi hn)⟩
theorem Keep.below {b B : Nat} {w w' : World} (h : Keep b w w') (hB : B ≤ b) (hs : B ≤ w.heap.size) : Below B w w' := ⟨h.os, h.tape, h.output, h.size, fun k hk => h.block k (by omega) (by omega)⟩
theorem Bx.keep {w w' : World} {b k : Nat} {vs : Array Value} (h : Bx w b vs) (hb : Keep k w w') (hne : b ≠ k) : Bx w' b vs := h.same (hb.block _ h.lt hne)
theorem Rd.keep {w w' : World} {k : Nat} {kd : IntKind} {p : OA} {xs : List Nat} (h : Rd w kd p xs) (hb : Keep k w w') (hne : 0 < xs.length → blk p ≠ k) : Rd w' kd p xs :=
 h.same fun h0 => hb.block _ (h.lt h0) (hne h0)
theorem Own.keep {w w' : World} {base k : Nat} {kd : IntKind} {e : TypeId} {p : OA} {c : Nat} {xs : List Nat} (h : Own w base kd e p c xs) (hb : Keep k w w') (hne : p.isSome = true → blk p ≠ k) : Own w' base kd e p c xs :=
 h.same fun h0 => hb.block _ (h.blk_lt h0).2 (hne h0)
theorem a0l (w : World) (o : Obj) : Below w.heap.size w (w.alloc o) := (Below.refl _ _).alloc (Nat.le_refl _) _
theorem f0t (w : World) (o1 o2 : Obj) : Below w.heap.size w ((w.alloc o1).alloc o2) := (a0l w o1).alloc (by simp) _
theorem k0z (w : World) (o1 o2 o3 : Obj) : Below w.heap.size w (((w.alloc o1).alloc o2).alloc o3) := (f0t w o1 o2).alloc (by simp; omega) _
theorem s0f (w : World) (o1 o2 o3 o4 : Obj) : Below w.heap.size w ((((w.alloc o1).alloc o2).alloc o3).alloc o4) := (k0z w o1 o2 o3).alloc (by simp; omega) _
theorem lay1 (w : World) (v1 : Array Value) (t1 : TypeId) : ∃ W, W = w.alloc (.cells v1 t1) ∧ Below w.heap.size w W ∧ w.heap.size < W.heap.size ∧ Bx W w.heap.size v1 :=
 ⟨_, rfl, a0l _ _, by simp, e0w _ _ _⟩
theorem lay2 (w : World) (v1 : Array Value) (t1 : TypeId) (v2 : Array Value) (t2 : TypeId) : ∃ W, W = (w.alloc (.cells v1 t1)).alloc (.cells v2 t2) ∧ Below w.heap.size w W ∧ w.heap.size + 1 < W.heap.size ∧ Bx W w.heap.size v1 ∧ Bx W (w.heap.size + 1) v2 :=
 ⟨_, rfl, f0t _ _ _, by simp, (e0w _ _ _).laid _, by simpa using e0w (w.alloc (.cells v1 t1)) v2 t2⟩
theorem lay3 (w : World) (v1 : Array Value) (t1 : TypeId) (v2 : Array Value) (t2 : TypeId) (v3 : Array Value) (t3 : TypeId) :
 ∃ W, W = ((w.alloc (.cells v1 t1)).alloc (.cells v2 t2)).alloc (.cells v3 t3) ∧ Below w.heap.size w W ∧ w.heap.size + 1 + 1 < W.heap.size ∧ Bx W w.heap.size v1 ∧ Bx W (w.heap.size + 1) v2 ∧ Bx W (w.heap.size + 1 + 1) v3 := by
 obtain ⟨W, rfl, _, _, h1, h2⟩ := lay2 w v1 t1 v2 t2
 exact ⟨_, rfl, k0z _ _ _ _, by simp, h1.laid _, h2.laid _, by simpa using e0w ((w.alloc (.cells v1 t1)).alloc (.cells v2 t2)) v3 t3⟩
theorem lay4 (w : World) (v1 : Array Value) (t1 : TypeId) (v2 : Array Value) (t2 : TypeId) (v3 : Array Value) (t3 : TypeId) (v4 : Array Value) (t4 : TypeId) :
 ∃ W, W = (((w.alloc (.cells v1 t1)).alloc (.cells v2 t2)).alloc (.cells v3 t3)).alloc (.cells v4 t4) ∧ Below w.heap.size w W ∧ w.heap.size + 1 + 1 + 1 < W.heap.size ∧ Bx W w.heap.size v1 ∧ Bx W (w.heap.size + 1) v2 ∧ Bx W (w.heap.size + 1 + 1) v3 ∧ Bx W (w.heap.size + 1 + 1 + 1) v4 := by
 obtain ⟨W, rfl, _, _, h1, h2, h3⟩ := lay3 w v1 t1 v2 t2 v3 t3
 exact ⟨_, rfl, s0f _ _ _ _ _, by simp, h1.laid _, h2.laid _, h3.laid _, by simpa using e0w (((w.alloc (.cells v1 t1)).alloc (.cells v2 t2)).alloc (.cells v3 t3)) v4 t4⟩
section
variable {P : Program} {f : FuncId} {args : Array Value} {R : Ending → World → Prop} {w : World} {v1 v2 v3 v4 v5 : Array Value} {t1 t2 t3 t4 t5 : TypeId}
theorem h0u (h : ∀ W, Below w.heap.size w W → w.heap.size < W.heap.size → Bx W w.heap.size v1 → Calls P f args W R) : Calls P f args (w.alloc (.cells v1 t1)) R := by
 obtain ⟨W, rfl, a, b, c⟩ := lay1 w v1 t1
 exact h _ a b c
theorem l0a (h : ∀ W, Below w.heap.size w W → w.heap.size + 1 + 1 < W.heap.size → Bx W w.heap.size v1 → Bx W (w.heap.size + 1) v2 → Bx W (w.heap.size + 1 + 1) v3 → Calls P f args W R) : Calls P f args (((w.alloc (.cells v1 t1)).alloc (.cells v2 t2)).alloc (.cells v3 t3)) R := by
 obtain ⟨W, rfl, a, b, c, d, e⟩ := lay3 w v1 t1 v2 t2 v3 t3
 exact h _ a b c d e
variable {c : Code} {Q : Exit → Act → World → Prop} {a : Act}
theorem c0l (h : ∀ W, Below w.heap.size w W → w.heap.size < W.heap.size → Bx W w.heap.size v1 → c.wp P Q a W) : c.wp P Q a (w.alloc (.cells v1 t1)) := by
 obtain ⟨W, rfl, a, b, c⟩ := lay1 w v1 t1
 exact h _ a b c
theorem p0l (h : ∀ W, Below w.heap.size w W → w.heap.size + 1 < W.heap.size → Bx W w.heap.size v1 → Bx W (w.heap.size + 1) v2 → c.wp P Q a W) : c.wp P Q a ((w.alloc (.cells v1 t1)).alloc (.cells v2 t2)) := by
 obtain ⟨W, rfl, a, b, c, d⟩ := lay2 w v1 t1 v2 t2
 exact h _ a b c d
theorem u0n (h : ∀ W, Below w.heap.size w W → w.heap.size + 1 + 1 < W.heap.size → Bx W w.heap.size v1 → Bx W (w.heap.size + 1) v2 → Bx W (w.heap.size + 1 + 1) v3 → c.wp P Q a W) : c.wp P Q a (((w.alloc (.cells v1 t1)).alloc (.cells v2 t2)).alloc (.cells v3 t3)) := by
 obtain ⟨W, rfl, a, b, c, d, e⟩ := lay3 w v1 t1 v2 t2 v3 t3
 exact h _ a b c d e
theorem a1d (h : ∀ W, Below w.heap.size w W → w.heap.size + 1 + 1 + 1 < W.heap.size → Bx W w.heap.size v1 → Bx W (w.heap.size + 1) v2 → Bx W (w.heap.size + 1 + 1) v3 → Bx W (w.heap.size + 1 + 1 + 1) v4 → c.wp P Q a W) : c.wp P Q a ((((w.alloc (.cells v1 t1)).alloc (.cells v2 t2)).alloc (.cells v3 t3)).alloc (.cells v4 t4)) := by
 obtain ⟨W, rfl, a, b, c, d, e, g⟩ := lay4 w v1 t1 v2 t2 v3 t3 v4 t4
 exact h _ a b c d e g
end
def Bt (w : World) (b : Nat) (t : TypeId) (vs : Array Value) : Prop := w.heap[b]? = some (.cells vs t)
theorem Bt.bx {w : World} {b : Nat} {t : TypeId} {vs : Array Value} (h : Bt w b t vs) : Bx w b vs := ⟨t, h⟩
theorem Bt.lt {w : World} {b : Nat} {t : TypeId} {vs : Array Value} (h : Bt w b t vs) : b < w.heap.size := h.bx.lt
theorem Bt.same {w w' : World} {b : Nat} {t : TypeId} {vs : Array Value} (h : Bt w b t vs) (hb : w'.heap[b]? = w.heap[b]?) : Bt w' b t vs := hb.trans h
theorem Bt.past {w w' : World} {b : Nat} {t : TypeId} {vs : Array Value} (h : Bt w b t vs) (hb : Below w.heap.size w w') : Bt w' b t vs := h.same (hb.block _ h.lt)
theorem Bt.only {w w' : World} {b k : Nat} {t : TypeId} {vs : Array Value} (h : Bt w b t vs) (hb : Only k w w') (hne : b ≠ k) : Bt w' b t vs := h.same (hb.block _ hne)
theorem Bt.keep {w w' : World} {b k : Nat} {t : TypeId} {vs : Array Value} (h : Bt w b t vs) (hb : Keep k w w') (hne : b ≠ k) : Bt w' b t vs := h.same (hb.block _ h.lt hne)
theorem b1z (w : World) (vs : Array Value) (t : TypeId) : Bt (w.alloc (.cells vs t)) w.heap.size t vs := by show (w.heap.push _)[_]? = _; simp
theorem Bt.set {w : World} {b : Nat} {t : TypeId} {vs : Array Value} (h : Bt w b t vs) (i : Nat) (v : Value) : Bt (w.setCell ⟨b, i, none⟩ v) b t (vs.setIfInBounds i v) := by
 show (w.heap.modify b _)[b]? = _
 rw [Array.getElem?_modify, if_pos rfl, h]
 rfl
theorem Bt.e1 {w : World} {b : Nat} {t : TypeId} {v0 : Value} (h : Bt w b t #[v0]) : w.cell? ⟨b, 0, none⟩ = some v0 := h.bx.c 0 rfl
theorem Own.far {w : World} {base : Nat} {k : IntKind} {e : TypeId} {p : OA} {c : Nat} {xs : List Nat} (h : Own w base k e p c xs) {b : Nat} {t : TypeId} {vs : Array Value} (hX : Bt w b t vs) (hne : Nat.beq t e = false) (hp : p.isSome = true) : blk p ≠ b := by
 rcases h.2 with ⟨h1, h2⟩ | ⟨g, cap, cur, hv, hb, hg, _⟩
 · simp only [Value.slice.injEq] at h1
   rw [h1.1] at hp; cases hp
 · simp only [Value.slice.injEq] at hv
   intro hE
   rw [hv.1] at hE
   have hE2 : g = b := hE
   subst hE2
   have hE3 := hg.symm.trans hX
   simp only [Option.some.injEq, Obj.cells.injEq] at hE3
   rw [hE3.2.1] at hne
   simp at hne
theorem Own.put {w w' : World} {base : Nat} {k : IntKind} {e : TypeId} {p : OA} {c : Nat} {xs : List Nat} (h : Own w base k e p c xs) {b : Nat} {t : TypeId} {vs : Array Value} (hX : Bt w b t vs) (hO : Only b w w') (hne : Nat.beq t e = false) : Own w' base k e p c xs :=
 h.only hO (h.far hX hne)
def u0o (k : IntKind) (vs : Array Value) : Bool := vs.all fun v => match v with | .int k' _ => !(decide (k' = k)) | _ => true
theorem Rd.far {w : World} {k : IntKind} {p : OA} {xs : List Nat} (h : Rd w k p xs) {b : Nat} {t : TypeId} {vs : Array Value} (hX : Bt w b t vs) (hne : u0o k vs = true) (hp : 0 < xs.length) : blk p ≠ b := by
 intro hE
 have h1 := h.cells 0 hp
 have h2 : w.cell? (at_ p 0) = vs[(p.getD ⟨0, 0, none⟩).off + 0]? := by
  have := hX.bx.cell ((p.getD ⟨0, 0, none⟩).off + 0)
  rw [← this]
  unfold at_
  rw [show (p.getD ⟨0, 0, none⟩).block = b from hE]
 rw [h2] at h1
 unfold u0o at hne
 rw [Array.all_eq_true_iff_forall_mem] at hne
 have := hne _ (Array.mem_of_getElem? h1)
 simp at this
theorem Rd.put {w w' : World} {k : IntKind} {p : OA} {xs : List Nat} (h : Rd w k p xs) {b : Nat} {t : TypeId} {vs : Array Value} (hX : Bt w b t vs) (hO : Only b w w') (hne : u0o k vs = true) : Rd w' k p xs := h.only hO (h.far hX hne)
structure OpW (P : Program) (ops : Array Oper) (Q : Exit → Act → World → Prop) (o : Oper) (K : Act → World → Prop) (a : Act) (w : World) : Prop where
 out : if Region.wanted o (yielded ops a.tmps) = true then o.wp P a w K Q else K (a.put o.dst undef) w
structure WpL (P : Program) (ops : Array Oper) (Q : Exit → Act → World → Prop) (l : List Oper) (a : Act) (w : World) : Prop where
 out : wpList P ops Q l a w
structure WpH (P : Program) (ops : Array Oper) (Q : Exit → Act → World → Prop) (S : World → Prop) (fuel : Nat) (listed : Array Bool) (a : Act) (w : World) : Prop where
 out : wpAnyH P .any ops Q S fuel listed a w
section
variable {P : Program} {ops : Array Oper} {Q : Exit → Act → World → Prop} {a : Act} {w : World} {rest : List Oper} {o : Oper} {K : Act → World → Prop}
theorem u0p (h : ∀ K : Act → World → Prop, Shut (∀ a w, WpL P ops Q rest a w → K a w) → OpW P ops Q o K a w) : WpL P ops Q (o :: rest) a w :=
 ⟨wpList_step fun K hK => (h K (fun a w k => hK a w k.out)).out⟩
theorem u0q {id : Nat} {l : List Oper} (h : WpL P l.toArray Q l a w) : (Code.region id l.toArray false).wp P Q a w := wp_region_lit h.out
theorem c1a (h : Q .normal a w) : WpL P ops Q [] a w := ⟨h⟩
theorem OpW.mono {K' : Act → World → Prop} (h : ∀ a w, K a w → K' a w) (hh : OpW P ops Q o K a w) : OpW P ops Q o K' a w := by
 refine ⟨?_⟩
 replace hh := hh.out
 split
 · rename_i hw; rw [if_pos hw] at hh; exact Oper.wp_mono h hh
 · rename_i hw; rw [if_neg hw] at hh; exact h _ _ hh
theorem f0g (h : OpW P ops Q o (WpL P ops Q rest) a w) : WpL P ops Q (o :: rest) a w :=
 u0p fun _ hK => h.mono hK.out
theorem a1e (d : Option Tmp) (hd : o.dst = d) (hw : Region.wanted o (yielded ops a.tmps) = false) (h : K (a.put d undef) w) : OpW P ops Q o K a w := by
 subst hd
 refine ⟨?_⟩
 rw [if_neg (by simp [hw])]
 exact h
theorem m0j (d : Option Tmp) (hd : o.dst = d) (v : Value) (hw : Region.wanted o (yielded ops a.tmps) = true) (hr : (execOp a.eval o).run P w = .ok (.value v) w) (h : K (a.put d v) w) : OpW P ops Q o K a w := by
 subst hd
 refine ⟨?_⟩
 rw [if_pos hw]
 unfold Oper.wp
 rw [hr]
 exact h
theorem j0o (d : Option Tmp) (hd : o.dst = d) (f : FuncId) (args : Array Value) (hw : Region.wanted o (yielded ops a.tmps) = true) (hr : (execOp a.eval o).run P w = .ok (.enter f args) w)
 (h : Calls P f args w fun e w' => ∃ v, e = .returned v ∧ K (a.put d v) w') : OpW P ops Q o K a w := by
 subst hd
 refine ⟨?_⟩
 rw [if_pos hw]
 unfold Oper.wp
 rw [hr]
 refine Calls.mono h ?_
 rintro e w' ⟨v, rfl, hk⟩
 exact hk
end
/-! ### Loads and stores -/
structure s0g (P : Program) (t : TypeId) (n : Nat) : Prop where
 row : ∃ d, P.underlying t = some d ∧ d.isRow = true
 size : (P.info? t).map (·.size) = some n
structure o0e (P : Program) (t : TypeId) : Prop where
 row : ∃ d, P.underlying t = some d ∧ d.isRow = false
 size : (P.info? t).map (·.size) = some 1
theorem x0m {P : Program} {t : TypeId} (h : (match P.underlying t with | some d => d.isRow | none => true) = false) (k : (P.info? t).map (·.size) = some 1) : o0e P t := by
 refine ⟨?_, k⟩
 revert h
 cases P.underlying t with
 | none => intro h; cases h
 | some d => intro h; exact ⟨d, rfl, h⟩
def Part (vs : Array Value) (off : Nat) (cs : List Value) : Prop := ∀ j v, cs[j]? = some v → vs[off + j]? = some v
theorem a1f {vs : Array Value} {off : Nat} {cs : List Value} (h : (vs.toList.drop off).take cs.length = cs) : Part vs off cs := by
 intro j v hv
 have hj := (List.getElem?_eq_some_iff.1 hv).1
 rw [← h, List.getElem?_take, if_pos hj, List.getElem?_drop] at hv
 simpa using hv
theorem Bx.rangeAt {w : World} {b : Nat} {vs : Array Value} (h : Bx w b vs) {off : Nat} {cs : List Value} (hc : Part vs off cs) : w.rangeAt b off cs := fun j v hv => by
 rw [h.cell]
 exact hc j v hv
theorem c1b {P : Program} {w : World} {b : Nat} {t : TypeId} {vs : Array Value} (h : Bt w b t vs) {ty n : Nat} (hT : s0g P ty n) (off : Nat) (cs : List Value) (hc : (vs.toList.drop off).take cs.length = cs) (hn : cs.length = n) :
 (Instr.loadAt ty (.pointer (some ⟨b, off, none⟩))).run P w = .ok (.agg cs.toArray) w := by
 obtain ⟨⟨d, hu, hd⟩, hi⟩ := hT
 exact run_loadAt_mid w b off ty cs d (h.bx.rangeAt (a1f hc)) hu hd (by rw [hi, hn])
theorem g0w {P : Program} {w : World} {ty : Nat} (hT : o0e P ty) : (isAgg ty).run P w = .ok false w := by
 obtain ⟨⟨d, hu, hd⟩, -⟩ := hT
 unfold isAgg
 rw [Sem.run_bind, run_underlying hu w]
 cases d <;> simp_all [TypeDesc.isRow]
theorem a1g {P : Program} {w : World} {b : Nat} {t : TypeId} {vs : Array Value} (h : Bt w b t vs) {ty : Nat} (hT : o0e P ty) (off : Nat) (v : Value) (hc : vs[off]? = some v) :
 (Instr.loadAt ty (.pointer (some ⟨b, off, none⟩))).run P w = .ok v w := by
 have hl : (load ⟨b, off, none⟩).run P w = .ok v w := by
  have := h.bx.c off hc
  simp [go_sem, this]
 simp only [Instr.loadAt, Instr.sureAddr, Sem.run_bind, Sem.run_pure, Result.andThen_ok, loadVar, g0w hT]
 simpa using hl
section
variable {P : Program} {ops : Array Oper} {Q : Exit → Act → World → Prop} {a : Act} {w : World} {K : Act → World → Prop}
end
def putL (vs : Array Value) (off : Nat) : List Value → Array Value
 | [] => vs
 | v :: r => putL (vs.setIfInBounds off v) (off + 1) r
theorem Bt.setCells {b : Nat} {t : TypeId} : ∀ (cs : List Value) (off : Nat) (w : World) (vs : Array Value), Bt w b t vs → Bt (w.setCells b off cs) b t (putL vs off cs) ∧ Only b w (w.setCells b off cs)
 | [], _, w, _, h => ⟨h, Only.refl _ _⟩
 | v :: r, off, w, vs, h => by
  have := Bt.setCells r (off + 1) (w.setCell ⟨b, off, none⟩ v) (vs.setIfInBounds off v) (h.set off v)
  exact ⟨this.1, (f0s w b off v).trans this.2⟩
theorem Bx.there {w : World} {b : Nat} {vs : Array Value} (h : Bx w b vs) {off n : Nat} (hn : off + n ≤ vs.size) : w.there b off n := fun j hj => by
 refine ⟨?_, h.f _⟩
 rw [h.cell, Array.getElem?_eq_getElem (by omega)]
 rfl
section
variable {P : Program} {ops : Array Oper} {Q : Exit → Act → World → Prop} {a : Act} {w : World} {K : Act → World → Prop} {o : Oper}
theorem z0f (d : Option Tmp) (hd : o.dst = d) {ty : TypeId} {x y : Operand} {b : Nat} {t : TypeId} {vs : Array Value} (hX : Bt w b t vs) {n : Nat} (hT : s0g P ty n) (off : Nat) (cs vs' : Array Value)
 (hw : Region.wanted o (yielded ops a.tmps) = true) (ho : o.op = .store ty x y) (hx : a.eval x = .pointer (some ⟨b, off, none⟩)) (hy : a.eval y = .agg cs)
 (hn : cs.size = n) (hle' : Nat.ble (off + n) vs.size = true) (h1 : cs.all (·.oneCell') = true) (hv : putL vs off cs.toList = vs')
 (h : ∀ W, Only b w W → Bt W b t vs' → K (a.put d undef) W) : OpW P ops Q o K a w := by
 subst hd
 subst hn hv
 have hle := Nat.le_of_ble_eq_true hle'
 refine ⟨?_⟩
 rw [if_pos hw]
 have hB := Bt.setCells cs.toList off w vs hX
 exact wp_store_mid ty x y ho b off cs hx hy (hX.bx.there hle) hT.size h1 (h _ hB.2 hB.1)
theorem a1h (d : Option Tmp) (hd : o.dst = d) {ty : TypeId} {x y : Operand} {b : Nat} {t : TypeId} {vs : Array Value} (hX : Bt w b t vs) (hT : o0e P ty) (off : Nat) (v : Value) (vs' : Array Value)
 (hw : Region.wanted o (yielded ops a.tmps) = true) (ho : o.op = .store ty x y) (hx : a.eval x = .pointer (some ⟨b, off, none⟩)) (hy : a.eval y = v)
 (hle' : Nat.ble (off + 1) vs.size = true) (h1 : v.cells = #[v]) (h5 : v.oneCell' = true) (hv : vs.setIfInBounds off v = vs')
 (h : ∀ W, Only b w W → Bt W b t vs' → K (a.put d undef) W) : OpW P ops Q o K a w := by
 subst hd
 subst hv
 have hle : off < vs.size := Nat.le_of_ble_eq_true hle'
 refine ⟨?_⟩
 rw [if_pos hw]
 have h2 := hX.bx.c off (v := vs[off]) (by rw [Array.getElem?_eq_getElem hle])
 have h3 := hX.bx.f off
 have h4 : (storeCells ⟨b, off, none⟩ [v] 0).run P w = .ok () (w.setCell ⟨b, off, none⟩ v) := by
  have := run_storeCells_cells (P := P) b off [v] 0 w (fun j hj => by simp at hj; subst hj; simp [h2]) (fun j hj => by simp at hj; subst hj; simpa using h3) (fun u hu => by simp at hu; subst hu; exact h5)
  simpa [World.setCells] using this
 have hs : (storeVar ty ⟨b, off, none⟩ v).run P w = .ok () (w.setCell ⟨b, off, none⟩ v) := by
  have hz := hT.size
  cases hq : P.info? ty with
  | none => simp [hq] at hz
  | some i =>
   have hi : i.size = 1 := by simpa [hq] using hz
   unfold storeVar
   rw [h1]
   simpa [sizeOf, typeInfo, hq, hi] using h4
 unfold Oper.wp execOp
 simp only [ho, hx, hy, Instr.storeAt, Instr.sureAddr, Sem.run_bind, Sem.run_pure, Result.andThen_ok, hs]
 exact h _ (f0s _ _ _ _) (hX.set off v)
end
/-! ### Reads of the references -/
structure Rf (w : World) (base : Nat) (p : OA) (c : Nat) (xs : List Nat) : Prop where
 rd : Rd w .i64 p xs
 cap : xs.length ≤ c
 at_ : 0 < xs.length → base ≤ blk p
theorem Rf.past {w w' : World} {base : Nat} {p : OA} {c : Nat} {xs : List Nat} (h : Rf w base p c xs) (hb : Below w.heap.size w w') : Rf w' base p c xs := ⟨h.rd.past hb, h.cap, h.at_⟩
theorem Rf.only {w w' : World} {base k : Nat} {p : OA} {c : Nat} {xs : List Nat} (h : Rf w base p c xs) (hb : Only k w w') (hne : 0 < xs.length → blk p ≠ k) : Rf w' base p c xs := ⟨h.rd.only hb hne, h.cap, h.at_⟩
theorem Rf.keep {w w' : World} {base k : Nat} {p : OA} {c : Nat} {xs : List Nat} (h : Rf w base p c xs) (hb : Keep k w w') (hne : 0 < xs.length → blk p ≠ k) : Rf w' base p c xs := ⟨h.rd.keep hb hne, h.cap, h.at_⟩
theorem Rf.mono {w : World} {base b' : Nat} {p : OA} {c : Nat} {xs : List Nat} (h : Rf w base p c xs) (hb : b' ≤ base) : Rf w b' p c xs := ⟨h.rd, h.cap, fun h0 => Nat.le_trans hb (h.at_ h0)⟩
theorem Rf.lt {w : World} {base : Nat} {p : OA} {c : Nat} {xs : List Nat} (h : Rf w base p c xs) (h0 : 0 < xs.length) : base ≤ blk p ∧ blk p < w.heap.size := ⟨h.at_ h0, h.rd.lt h0⟩
theorem d1b {w : World} {base : Nat} {p : OA} {c : Nat} {xs : List Nat} (hr : Rd w .i64 p xs) (hc : xs.length ≤ c) (hf : 0 < xs.length → False ∨ base ≤ blk p) : Rf w base p c xs := ⟨hr, hc, fun h => (hf h).resolve_left id⟩
/-! ### Quotients, shifts -/
section
variable {P : Program} {a : Act} {w : World} {dst : Option Tmp} {t2 xT yT : TypeId} {pos : String} {af : Array Edge} {g : Option (Nat × Bool)} {x y : Operand} {k : IntKind} {X Y : Int}
end
/-! ### The order -/
theorem x0n {P : Program} {ops : Array Oper} {Q : Exit → Act → World → Prop} (S : World → Prop) {id : Nat} {a : Act} {w V : World} (hV : V = w.drew) (hm : P.follows .mixedOrders = true) (hS : S V)
 (h : WpH P ops Q S ops.size (Array.replicate ops.size false) a V) : (Code.region id ops true).wp P Q a w := by
 subst hV
 exact wp_region_held_drew hm hS (fun _ => h.out)
theorem a1i {P : Program} {ops : Array Oper} {Q : Exit → Act → World → Prop} {S : World → Prop} {fuel : Nat} {listed : Array Bool} {a : Act} {w : World} (hr : Region.ready .any ops listed = []) (h : Q .normal a w) : WpH P ops Q S fuel listed a w := ⟨wpAnyH_done hr h _⟩
structure Rdy (P : Program) (ops : Array Oper) (Q : Exit → Act → World → Prop) (S : World → Prop) (fuel : Nat) (listed : Array Bool) (a : Act) (w : World) (rs : List Nat) : Prop where
 out : AllReadyH P .any ops Q S fuel listed a w rs
theorem x0o {P : Program} {ops : Array Oper} {Q : Exit → Act → World → Prop} {S : World → Prop} (rs : List Nat) {fuel : Nat} {listed : Array Bool} {a : Act} {w : World} (hr : Region.ready .any ops listed = rs) (hne : rs.isEmpty = false)
 (h : Rdy P ops Q S fuel listed a w rs) : WpH P ops Q S (fuel + 1) listed a w := ⟨wpAnyH_ready hr (by intro hn; rw [hn] at hne; cases hne) h.out⟩
theorem a1j {P : Program} {ops : Array Oper} {Q : Exit → Act → World → Prop} {S : World → Prop} {fuel : Nat} {listed : Array Bool} {a : Act} {w : World} : Rdy P ops Q S fuel listed a w [] := ⟨AllReadyH.nil⟩
theorem x0p {P : Program} {ops : Array Oper} {Q : Exit → Act → World → Prop} {S : World → Prop} {fuel : Nat} {listed : Array Bool} {a : Act} {w : World} {i : Nat} {o : Oper} {rs : List Nat} (listed' : Array Bool) (ho : ops[i]? = some o) (hl : listed.setIfInBounds i true = listed')
 (h : ∀ K' : Act → World → Prop, Shut (∀ a w, S w → WpH P ops Q S fuel listed' a w → K' a w) → OpW P ops Q o K' a w)
 (hs : Rdy P ops Q S fuel listed a w rs) : Rdy P ops Q S fuel listed a w (i :: rs) := by
 subst hl
 exact ⟨AllReadyH.cons ho (fun K' hK => (h K' (fun a w hS k => hK.out a w hS (fun _ => k.out))).out) hs.out⟩
theorem p0m {P : Program} {ops : Array Oper} {Q : Exit → Act → World → Prop} {S : World → Prop} {fuel : Nat} {listed : Array Bool} {a : Act} {w : World} (i : Nat) {oi : Oper} (d : Option Tmp) (v : Value) (listed' : Array Bool) (hi : ops[i]? = some oi) (hd : oi.dst = d) (hl : listed.setIfInBounds i true = listed')
 (hs : Region.noSelect ops = true) (hf : Region.free .any ops listed i = true) (hr : (Region.ready .any ops listed).contains i = true)
 (hQ : ∀ c a w, Q (.panic c) (a.put d v) w → Q (.panic c) a w) (hy : YieldsIf P ops S oi v a) (hS : S w)
 (h : WpH P ops Q S fuel listed' (a.put d v) w) : WpH P ops Q S (fuel + 1) listed a w := by
 subst hd hl
 exact ⟨wpAnyH_take hi hs hf hr hQ hy hS h.out⟩
theorem Keep.refl (b : Nat) (w : World) : Keep b w w := ⟨rfl, rfl, rfl, Nat.le_refl _, fun _ _ _ => rfl⟩
theorem Keep.step {b : Nat} {w w1 w2 : World} (h : Keep b w w1) (k : Below w1.heap.size w1 w2) : Keep b w w2 := h.trans (Below.keep k b)
theorem Keep.put {b x : Nat} {w w1 w2 : World} (h : Keep b w w1) (k : Only x w1 w2) (hx : w.heap.size ≤ x ∨ x = b) : Keep b w w2 :=
 ⟨k.os.trans h.os, k.tape.trans h.tape, k.output.trans h.output, by rw [k.size]; exact h.size, fun i hi hn => (k.block i (by omega)).trans (h.block i hi hn)⟩
section
variable {P : Program} {ops : Array Oper} {Q : Exit → Act → World → Prop} {a : Act} {w : World} {rest : List Oper} {o : Oper} {K : Act → World → Prop}
theorem ss (d : Option Tmp) {ty : TypeId} {x y : Operand} {b : Nat} {t : TypeId} {vs : Array Value} (hX : Bt w b t vs) {n : Nat} (hT : s0g P ty n) (off : Nat) (cs vs' : Array Value) (h : ∀ W, Only b w W → Bt W b t vs' → WpL P ops Q rest (a.put d undef) W)
 (hd : o.dst = d := by kernel_rfl) (hw : Region.wanted o (yielded ops a.tmps) = true := by kernel_rfl) (ho : o.op = .store ty x y := by rfl) (hx : a.eval x = .pointer (some ⟨b, off, none⟩) := by kernel_rfl) (hy : a.eval y = .agg cs := by kernel_rfl)
 (hn : cs.size = n := by kernel_rfl) (hle' : Nat.ble (off + n) vs.size = true := by kernel_rfl) (h1 : cs.all (·.oneCell') = true := by kernel_rfl) (hv : putL vs off cs.toList = vs' := by kernel_rfl) : WpL P ops Q (o :: rest) a w :=
 f0g (z0f d hd hX hT off cs vs' hw ho hx hy hn hle' h1 hv h)
end
section
variable {P : Program} {ops : Array Oper} {Q : Exit → Act → World → Prop} {S : World → Prop} {fuel : Nat} {listed : Array Bool} {a : Act} {w : World}
end
theorem sxd (P : Program) {ops : Array Oper} {Q : Exit → Act → World → Prop} (S : World → Prop) {id : Nat} {a : Act} {w V : World} (hV : V = w.drew) (hS : S V)
 (h : WpH P ops Q S ops.size (Array.replicate ops.size false) a V) (hm : P.follows .mixedOrders = true := by kernel_rfl) : (Code.region id ops true).wp P Q a w := x0n S hV hm hS h
section walk
variable {P : Program} {ops : Array Oper} {rest : List Oper} {o : Oper} {a : Act} {K : Act → World → Prop} {Q : Exit → Act → World → Prop} {w : World}
theorem s0h (s x : Operand) (t : TypeId) (ho : o.op = .call { callee := .builtin .append, args := #[s, x], argTypes := #[t, t] })
 {e : TypeId} {k : IntKind} {bytes : Nat} (hty : SlTy P t e k bytes) (base : Nat) (p : OA) (n c : Nat) (xs : List Nat) (hown : Own w base k e p c xs) (hn : n = xs.length)
 (q : OA) (m c2 : Nat) (ys : List Nat) (hrd : Rd w k q ys) (hm : m = ys.length) (hs : a.eval s = .slice p n c) (hx : a.eval x = .slice q m c2)
 (hb : (xs.length + ys.length) * bytes ≤ 140737488355328) (h63 : xs.length + ys.length ≤ maxLen) (hbase : base ≤ w.heap.size)
 (h : ∀ p' c' w', Own w' base k e p' c' (xs ++ ys) → w.grownBy w' (p.map (·.block)) → Below base w w' → K (a.put o.dst (.slice p' (xs ++ ys).length c')) w') : o.wp P a w K Q := by
 subst hn hm
 obtain ⟨p', c', w', hr, h1, h2, h3⟩ := g0p (P := P) w hty o.type base p c xs hown q c2 ys hrd hb h63 hbase
 unfold Oper.wp execOp
 simp only [ho, resolve, invoke, builtin, Sem.run_bind, Sem.run_pure, Result.andThen_ok, List.map_toArray, List.map_cons, List.map_nil, hs, hx, hr]
 have h4 := h p' c' w' h1 h2 (a0z h2 hbase fun k hk => by
   cases p with
   | none => cases hk
   | some a => have := (hown.blk_lt rfl).1; cases hk; exact this)
 rw [List.length_append] at h4
 exact h4
theorem p0n (hgd : o.guard = none) (s x : Operand) (t : TypeId) (ho : o.op = .call { callee := .builtin .append, args := #[s, x], argTypes := #[t, t] })
 {e : TypeId} {k : IntKind} {bytes : Nat} (hty : SlTy P t e k bytes) (base : Nat) (p : OA) (n c : Nat) (xs : List Nat) (hown : Own w base k e p c xs) (hn : n = xs.length)
 (q : OA) (m c2 : Nat) (ys : List Nat) (hrd : Rd w k q ys) (hm : m = ys.length) (hs : a.eval s = .slice p n c) (hx : a.eval x = .slice q m c2)
 (hb : (xs.length + ys.length) * bytes ≤ 140737488355328) (h63 : xs.length + ys.length ≤ maxLen) (hbase : base ≤ w.heap.size)
 (h : ∀ p' c' w', Own w' base k e p' c' (xs ++ ys) → w.grownBy w' (p.map (·.block)) → Below base w w' → wpList P ops Q rest (a.put o.dst (.slice p' (xs ++ ys).length c')) w') : wpList P ops Q (o :: rest) a w :=
 wpList_plain hgd fun _ hK => s0h s x t ho hty base p n c xs hown hn q m c2 ys hrd hm hs hx hb h63 hbase fun p' c' w' h900 h901 h902 => hK _ _ (h p' c' w' h900 h901 h902)
end walk
theorem u0r {p : OA} (h : p.isSome = true) : p.map (·.block) = some (blk p) := by
 cases p with
 | none => simp at h
 | some a => rfl
theorem Own.kept {w w' : World} {base : Nat} {k : IntKind} {e : TypeId} {p q : OA} {c : Nat} {xs : List Nat} (h : Own w base k e p c xs) (hg : w.grownBy w' (q.map (·.block))) (hne : q.isSome = true → p.isSome = true → blk q ≠ blk p) : Own w' base k e p c xs := by
 refine h.grown hg fun hp => ?_
 cases q with
 | none => simp
 | some a =>
  have := hne rfl hp
  simp [blk] at this ⊢
  exact fun e => this e.symm
end Go.Slip
namespace Go.Proofs.YthcoapcffhgckaaDoor
open Go.RowKit Go.Slip
theorem i0u (p : OA) (n c : Nat) (xs : List Nat) (w : World) (hr : Rd w .u32 p xs) (hn : n = xs.length) (hl : xs.length * 4 ≤ 140737488351232) :
 Calls Tryd.prog 7 #[.slice p n c] w (g0i w .u32 55 xs) := by
 subst hn
 go_enter Tryd.func7, Tryd.ntmps7
 go_wp2_with (first
   | (refine k0s rfl _ rfl b0l ?_; intro p1 w1 ho1 hb1 hz1 hp1)
   | (at_builtin; refine p0n rfl _ _ _ rfl b0l _ _ _ _ _ ho1 rfl _ _ _ _ (hr.past hb1) rfl rfl rfl ?_ ?_ ?_ ?_; (simp; omega); (unfold maxLen; simp; omega); omega; intro p2 c2 w2 ho2 hg2 hb2))
 go_ret
 exact ⟨p2, c2, rfl, ho2, hb1.trans hb2⟩
theorem o0f (p : OA) (n c base : Nat) (xs : List Nat) (w : World) (ho : Own w base .u32 55 p c xs) (hn : n = xs.length) (hl : xs.length ≤ 1000000000) :
 Calls Tryd.prog 13 #[.slice p n c] w fun e w' => e = .returned (.tuple #[]) ∧ w.grownBy w' (p.map (·.block)) ∧ Below base w w' := by
 subst hn
 go_enter Tryd.func13, Tryd.ntmps13
 go_wp2
 go_loopw [2] (fun iv wr => ∃ (i : Nat) (L : List Nat), iv = .int .i64 i ∧ i ≤ xs.length ∧ Hid (L.length = xs.length) ∧ Own wr base .u32 55 p c L ∧ w.grownBy wr (p.map (·.block)) ∧ Below base w wr)
  (fun iv _ => xs.length - (intOf iv).toNat)
 case atStart => exact ⟨0, xs, rfl, Nat.zero_le _, rfl, ho, World.grownBy.refl _ _, Below.refl _ _⟩
 case round =>
  obtain ⟨i, L, rfl, hi, hL, hoL, hgL, hbL⟩ := hrel
  by_cases hlt : i < xs.length
  · have hsL := hoL.solid
    rw [hL.out] at hsL
    have hps := lHd (hsL (by omega)).1
    go_wp2_with (refine a0j rfl _ _ _ rfl 55 b0l _ _ _ _ hoL i (by rw [hL.out]; omega) 77 (by omega) rfl rfl ?_; intro w3 ho3 hg3 hb3)
    rw [← u0r hps.out] at hg3
    go_roundw
    case rel => exact ⟨i + 1, _, by go_num, hlt, (by show (List.set _ _ _).length = _; rw [List.length_set]; exact hL.out), ho3, hgL.trans hg3, hbL.trans hb3⟩
    case measure => simp [intOf]; omega
  · go_wp2
    go_end0
    exact ⟨rfl, hgL, hbL⟩
end Go.Proofs.YthcoapcffhgckaaDoor
namespace Go.Slip
open Go.RowKit
theorem Rd.pre {w : World} {k : IntKind} {p : OA} {xs ys : List Nat} (h : Rd w k p (xs ++ ys)) : Rd w k p xs := by
 have hl : (xs ++ ys).length = xs.length + ys.length := List.length_append
 refine ⟨fun h0 => h.solid (by omega), fun j hj => ?_⟩
 rw [h.cells j (by omega)]
 unfold dg
 rw [List.getElem?_append_left hj]
theorem u0s {P : Program} {t e : TypeId} (h : P.underlying t = some (.slice e)) : P.elem t = e := by
 unfold Program.elem
 rw [h]
section
variable {P : Program} {ops : Array Oper} {Q : Exit → Act → World → Prop} {a : Act} {w : World} {rest : List Oper} {o : Oper}
end
theorem Own.same_block {w : World} {b1 b2 : Nat} {k : IntKind} {e : TypeId} {p q : OA} {c d : Nat} {xs ys : List Nat} (h : Own w b1 k e p c xs) (h' : Own w b2 k e q d ys) (hp : p.isSome = true) (hq : q.isSome = true) (hb : blk p = blk q) : p = q ∧ c = d := by
 obtain ⟨_, h2⟩ := h
 obtain ⟨_, h3⟩ := h'
 rcases h2 with ⟨h2, _⟩ | ⟨g, cap, cur, hv, _, hg, _, _, hs, _⟩
 · simp only [Value.slice.injEq] at h2
   rw [h2.1] at hp; cases hp
 rcases h3 with ⟨h3, _⟩ | ⟨g', cap', cur', hv', _, hg', _, _, hs', _⟩
 · simp only [Value.slice.injEq] at h3
   rw [h3.1] at hq; cases hq
 simp only [Value.slice.injEq] at hv hv'
 obtain ⟨rfl, _, rfl⟩ := hv
 obtain ⟨rfl, _, rfl⟩ := hv'
 have hE : g = g' := hb
 subst hE
 rw [hg] at hg'
 simp only [Option.some.injEq, Obj.cells.injEq] at hg'
 refine ⟨rfl, ?_⟩
 rw [hg'.1] at hs
 omega
end Go.Slip
namespace Go.Proofs.YthcoapcffhgckaaDoor
open Go.RowKit Go.Slip
theorem o0g (p : OA) (n c base : Nat) (xs : List Nat) (w : World) (ho : Own w base .u32 55 p c xs) (hn : n ≤ xs.length) (hl : xs.length ≤ 1000000000) :
 Calls Tryd.prog 13 #[.slice p n c] w fun e w' => e = .returned (.tuple #[]) ∧ w.grownBy w' (p.map (·.block)) ∧ Below base w w' ∧ ∃ L : List Nat, L.length = xs.length ∧ Own w' base .u32 55 p c L := by
 go_enter Tryd.func13, Tryd.ntmps13
 go_wp2
 go_loopw [2] (fun iv wr => ∃ (i : Nat) (L : List Nat), iv = .int .i64 i ∧ i ≤ n ∧ Hid (L.length = xs.length) ∧ Own wr base .u32 55 p c L ∧ w.grownBy wr (p.map (·.block)) ∧ Below base w wr)
  (fun iv _ => n - (intOf iv).toNat)
 case atStart => exact ⟨0, xs, rfl, Nat.zero_le _, rfl, ho, World.grownBy.refl _ _, Below.refl _ _⟩
 case round =>
  obtain ⟨i, L, rfl, hi, hL, hoL, hgL, hbL⟩ := hrel
  by_cases hlt : i < n
  · have hsL := hoL.solid.mono (show n ≤ L.length by rw [hL.out]; exact hn)
    have hps := lHd (hsL (by omega)).1
    go_wp2_with (refine a0j rfl _ _ _ rfl 55 b0l _ _ _ _ hoL i (by rw [hL.out]; omega) 77 (by omega) rfl rfl ?_; intro w3 ho3 hg3 hb3)
    rw [← u0r hps.out] at hg3
    go_roundw
    case rel => exact ⟨i + 1, _, by go_num, hlt, (by show (List.set _ _ _).length = _; rw [List.length_set]; exact hL.out), ho3, hgL.trans hg3, hbL.trans hb3⟩
    case measure => simp [intOf]; omega
  · go_wp2
    go_end0
    exact ⟨rfl, hgL, hbL, L, hL.out, hoL⟩
theorem u0t (p q : OA) (n c d base : Nat) (xs ys : List Nat) (w : World) (ho : Own w base .u32 55 p c xs) (hn : n = xs.length) (hl : xs.length ≤ 1000000000) (hq : Own w base .u32 55 q d ys) (hl2 : ys.length ≤ 1000000000) :
 Calls Tryd.prog 13 #[.slice p n c] w fun e w' => e = .returned (.tuple #[]) ∧ w.grownBy w' (p.map (·.block)) ∧ Below base w w' ∧ ∃ L : List Nat, L.length = ys.length ∧ Own w' base .u32 55 q d L := by
 subst hn
 by_cases hb : p.isSome = true ∧ q.isSome = true ∧ blk p = blk q
 · obtain ⟨h1, h2, h3⟩ := hb
   obtain ⟨rfl, rfl⟩ := ho.same_block hq h1 h2 h3
   rcases Nat.le_total xs.length ys.length with h | h
   · exact o0g p xs.length c base ys w hq h hl2
   · refine (o0g p xs.length c base xs w ho (Nat.le_refl _) hl).mono ?_
     rintro e w' ⟨g1, g2, g3, L, g4, g5⟩
     exact ⟨g1, g2, g3, L.take ys.length, by rw [List.length_take]; omega, g5.take _⟩
 · refine (o0f p xs.length c base xs w ho rfl hl).mono ?_
   rintro e w' ⟨g1, g2, g3⟩
   exact ⟨g1, g2, g3, ys, rfl, hq.kept g2 fun h1 h2 h3 => hb ⟨h1, h2, h3⟩⟩
end Go.Proofs.YthcoapcffhgckaaDoor
namespace Go.Slip
open Go.RowKit
def us : Nat → List Value → List Value
 | 0, l => l
 | n + 1, l => undef :: us n l
def runN (P : Program) (ops : Array Oper) : Nat → List Oper → Act → World → Option (Act × World)
 | 0, _, a, w => some (a, w)
 | _ + 1, [], _, _ => none
 | n + 1, o :: l, a, w =>
  match Region.wanted o (yielded ops a.tmps) with
  | true => match (execOp a.eval o).run P w with
   | .ok (.value v) w' => runN P ops n l (a.put o.dst v) w'
   | _ => none
  | false => runN P ops n l (a.put o.dst undef) w
def actN (P : Program) (ops : Array Oper) (n : Nat) (l : List Oper) (a : Act) (w : World) : Act := match runN P ops n l a w with | some (a', _) => a' | none => a
section
variable {P : Program} {ops : Array Oper} {Q : Exit → Act → World → Prop}
theorem h0v : ∀ (n : Nat) (l : List Oper) (a : Act) (w : World) (a' : Act) (w' : World), runN P ops n l a w = some (a', w') → WpL P ops Q (l.drop n) a' w' → WpL P ops Q l a w
 | 0, l, a, w, a', w', h, k => by
  simp only [runN, Option.some.injEq, Prod.mk.injEq] at h
  obtain ⟨rfl, rfl⟩ := h
  exact k
 | n + 1, [], a, w, a', w', h, k => by simp [runN] at h
 | n + 1, o :: l, a, w, a', w', h, k => by
  unfold runN at h
  split at h
  · rename_i hw
    split at h
    · rename_i v w2 hr
      refine f0g ⟨?_⟩
      rw [if_pos hw]
      unfold Oper.wp
      rw [hr]
      exact h0v n l _ _ a' w' h k
    · cases h
  · rename_i hw
    refine f0g ⟨?_⟩
    rw [if_neg (by simp [hw])]
    exact h0v n l _ _ a' w' h k
variable {a : Act} {w : World} {l l' : List Oper} {o : Oper}
theorem yn (n : Nat) (hs : l.drop n = l') (h : WpL P ops Q l' (actN P ops n l a w) w) (hr : runN P ops n l a w = some (actN P ops n l a w, w) := by kernel_rfl) : WpL P ops Q l a w :=
 h0v n l a w _ _ hr (by rw [hs]; exact h)
theorem ys (n : Nat) (hs : l.drop n = o :: l') {ty : TypeId} {x y : Operand} {b : Nat} {t : TypeId} {vs : Array Value} (hX : Bt w b t vs) {k : Nat} (hT : s0g P ty k) (off : Nat) (cs vs' : Array Value) (h : ∀ W, Only b w W → Bt W b t vs' → WpL P ops Q l' ((actN P ops n l a w).put none undef) W)
 (hd : o.dst = none := by kernel_rfl) (hw : Region.wanted o (yielded ops (actN P ops n l a w).tmps) = true := by kernel_rfl) (ho : o.op = .store ty x y := by rfl) (hx : (actN P ops n l a w).eval x = .pointer (some ⟨b, off, none⟩) := by kernel_rfl) (hy : (actN P ops n l a w).eval y = .agg cs := by kernel_rfl)
 (hn : cs.size = k := by kernel_rfl) (hle' : Nat.ble (off + k) vs.size = true := by kernel_rfl) (h1 : cs.all (·.oneCell') = true := by kernel_rfl) (hv : putL vs off cs.toList = vs' := by kernel_rfl)
 (hr : runN P ops n l a w = some (actN P ops n l a w, w) := by kernel_rfl) : WpL P ops Q l a w := yn n hs (ss none hX hT off cs vs' h hd hw ho hx hy hn hle' h1 hv) hr
end
section
variable {P : Program} {Q : Exit → Act → World → Prop} {a : Act} {w : World} {l : List Oper} {c c1 c2 : Code} {id : Nat} {x : Operand}
theorem yT (h : c1.wp P Q a w) (hx : a.eval x = .bool true := by kernel_rfl) : (Code.cond x c1 c2).wp P Q a w := wp_cond_true hx h
end
section
variable {P : Program} {fn : Func} {R : Ending → World → Prop} {a : Act} {w : World}
def rvS (tmps : Array Value) : ResultVar → Sem Value
 | .tmp t => pure (tmps.getD t undef)
 | .cell a t => do loadVar t (← asAddr (tmps.getD a undef))
theorem s0i (tmps : Array Value) : results fn tmps = (do
    let vs ← fn.results.mapM (rvS tmps)
    pure (if h : vs.size = 1 then vs[0] else .tuple vs)) := by
 unfold results
 congr 1
end
/-! ### Drawn regions -/
section
variable {P : Program} {ops : Array Oper} {Q : Exit → Act → World → Prop} {S : World → Prop} {a : Act} {w V : World} {fuel fuel' : Nat} {listed : Array Bool}
end
inductive SV where
 | v (x : Value)
 | p (k off : Nat)
 | s (k off n c : Nat)
 | a (cs : List Value) (ks : List (Option Nat))
 | f (fn : Fn) (cs : List Value) (ks : List (Option Nat))
def lk {α : Type} (d : α) : List α → Nat → α
 | [], _ => d
 | a :: _, 0 => a
 | _ :: l, n + 1 => lk d l n
def setL {α : Type} : List α → Nat → α → List α
 | [], _, _ => []
 | _ :: l, 0, v => v :: l
 | a :: l, n + 1, v => a :: setL l n v
theorem c0t {α : Type} (d : α) : ∀ (l : List α) (n : Nat), lk d l n = (l[n]?).getD d
 | [], _ => by simp [lk]
 | a :: _, 0 => by simp [lk]
 | _ :: l, n + 1 => by simp [lk, c0t d l n]
theorem d0b {α : Type} : ∀ (l : List α) (n : Nat) (v : α), setL l n v = l.set n v
 | [], _, _ => by simp [setL]
 | _ :: _, 0, _ => rfl
 | _ :: l, n + 1, v => by simp [setL, d0b l n v]
def j0p (A : List Nat) : Option Nat → Value → Value
 | some k, .pointer (some ⟨_, off, _⟩) => .pointer (some ⟨lk 0 A k, off, none⟩)
 | some k, .slice (some ⟨_, off, _⟩) n c => .slice (some ⟨lk 0 A k, off, none⟩) n c
 | _, v => v
def c0u (A : List Nat) : List Value → List (Option Nat) → List Value
 | v :: vs, k :: ks => j0p A k v :: c0u A vs ks
 | vs, _ => vs
def SV.r (A : List Nat) : SV → Value
 | .v x => x
 | .p k off => .pointer (some ⟨lk 0 A k, off, none⟩)
 | .s k off n c => .slice (some ⟨lk 0 A k, off, none⟩) n c
 | .a cs ks => .agg (c0u A cs ks).toArray
 | .f fn cs ks => .func fn #[] (c0u A cs ks).toArray
def act (A : List Nat) (fr : List SV) : Act := ⟨(fr.map (SV.r A)).toArray, []⟩
def ev (fr : List SV) : Operand → SV
 | .tmp t => lk (.v undef) fr t
 | .const v => .v v
 | .global g => .v (.pointer (some ⟨g, 0, none⟩))
 | .func f => .v (.func (.func f) #[] #[])
def evr (A : List Nat) (fr : List SV) (x : Operand) : Value := (ev fr x).r A
theorem u0u (A : List Nat) (fr : List SV) (t : Nat) : (act A fr).tmps[t]? = (fr[t]?).map (SV.r A) := by simp [act]
theorem b0u (A : List Nat) (fr : List SV) : (act A fr).eval = evr A fr := by
 funext x
 cases x with
 | tmp t =>
  show (act A fr).tmps.getD t undef = SV.r A (lk _ fr t)
  rw [Array.getD_eq_getD_getElem?, u0u, c0t]
  cases fr[t]? <;> rfl
 | const v => rfl
 | global g => rfl
 | func f => rfl
def putO (fr : List SV) (d : Option Tmp) (x : SV) : List SV := match d with | some d => setL fr d x | none => fr
theorem c0o (A : List Nat) (fr : List SV) (d : Option Tmp) (x : SV) : (act A fr).put d (x.r A) = act A (putO fr d x) := by
 cases d with
 | none => rfl
 | some d =>
  show (⟨(fr.map (SV.r A)).toArray.setIfInBounds d (x.r A), []⟩ : Act) = ⟨((setL fr d x).map (SV.r A)).toArray, []⟩
  rw [d0b, List.map_set]
  simp
def wnt (ops : Array Oper) (fr : List SV) (o : Oper) : Bool :=
 match o.guard with
 | none => true
 | some (j, b) => match (ops[j]?).bind (·.dst) with
  | some d => match lk (.v undef) fr d with
   | .v (.bool c) => match b with | true => c | false => !c
   | _ => false
  | none => false
theorem e0x (A : List Nat) (ops : Array Oper) (fr : List SV) (o : Oper) : Region.wanted o (yielded ops (act A fr).tmps) = wnt ops fr o := by
 unfold Region.wanted wnt
 cases o.guard with
 | none => rfl
 | some jb =>
  obtain ⟨j, b⟩ := jb
  simp only
  unfold yielded
  cases (ops[j]?).bind (·.dst) with
  | none => rfl
  | some d =>
   simp only [Option.bind_some, u0u, c0t]
   cases h : fr[d]? with
   | none => rfl
   | some x =>
    simp only [Option.map_some, Option.getD_some]
    cases x with
    | v x => cases x with
     | bool c => cases b <;> cases c <;> rfl
     | _ => rfl
    | p k off => rfl
    | s k off n c => rfl
    | a cs ks => rfl
    | f fn cs ks => rfl
/-! ### Boxes, facts -/
structure Box where
 t : TypeId
 cs : List SV
 ro : Bool
def Box.row (A : List Nat) (b : Box) : Array Value := (b.cs.map (SV.r A)).toArray
def bx0 : Box := ⟨0, [], false⟩
structure PF where
 prop : World → Prop
 foot : Nat → Prop
 keep : ∀ W W', prop W → (∀ b, b < W.heap.size → foot b → W'.heap[b]? = W.heap[b]?) → W.heap.size ≤ W'.heap.size → prop W'
 lt : ∀ W b, prop W → foot b → b < W.heap.size
def PF.all (W : World) : List PF → Prop
 | [] => True
 | f :: l => f.prop W ∧ PF.all W l
def PF.far (a : Nat) : List PF → Prop
 | [] => True
 | f :: l => ¬ f.foot a ∧ PF.far a l
theorem PF.all_keep {W W' : World} (hs : W.heap.size ≤ W'.heap.size) : ∀ {l : List PF}, PF.all W l → (∀ b, b < W.heap.size → (∀ a, PF.far a l → a ≠ b) → W'.heap[b]? = W.heap[b]?) → PF.all W' l
 | [], _, _ => True.intro
 | f :: _, h, hb => ⟨f.keep W W' h.1 (fun b hl hf => hb b hl fun _ ha hab => ha.1 (hab ▸ hf)) hs, PF.all_keep hs h.2 fun b hl ha => hb b hl fun _ h1 => ha _ h1.2⟩
theorem PF.far_new {W : World} : ∀ {l : List PF}, PF.all W l → PF.far W.heap.size l
 | [], _ => True.intro
 | f :: _, h => ⟨fun hf => Nat.lt_irrefl _ (f.lt W _ h.1 hf), PF.far_new h.2⟩
structure Kp (E : List Nat) (w w' : World) : Prop where
 os : w'.os = w.os
 tape : w'.tape = w.tape
 output : w'.output = w.output
 size : w.heap.size ≤ w'.heap.size
 block : ∀ k, k < w.heap.size → k ∉ E → w'.heap[k]? = w.heap[k]?
theorem Kp.refl (E : List Nat) (w : World) : Kp E w w := ⟨rfl, rfl, rfl, Nat.le_refl _, fun _ _ _ => rfl⟩
theorem Kp.step {E : List Nat} {w w1 w2 : World} (h : Kp E w w1) (k : Below w1.heap.size w1 w2) : Kp E w w2 :=
 ⟨k.os.trans h.os, k.tape.trans h.tape, k.output.trans h.output, Nat.le_trans h.size k.size, fun i hi hn => (k.block i (Nat.lt_of_lt_of_le hi h.size)).trans (h.block i hi hn)⟩
theorem Kp.put {E : List Nat} {w w1 w2 : World} {a : Nat} (h : Kp E w w1) (k : Only a w1 w2) (ha : w.heap.size ≤ a ∨ a ∈ E) : Kp E w w2 :=
 ⟨k.os.trans h.os, k.tape.trans h.tape, k.output.trans h.output, by rw [k.size]; exact h.size, fun i hi hn => (k.block i (fun e => by subst e; rcases ha with ha | ha; omega; exact hn ha)).trans (h.block i hi hn)⟩
def Fa (A : List Nat) (bx : List Box) (a : Nat) : Prop := ∃ k, k < bx.length ∧ (lk bx0 bx k).ro = false ∧ a = lk 0 A k
structure Inv (E : List Nat) (w0 : World) (A : List Nat) (bx : List Box) (fs : List PF) (W : World) : Prop where
 bel : Kp E w0 W
 ge : ∀ a, Fa A bx a → w0.heap.size ≤ a ∨ a ∈ E
 nd : ∀ i j, i < bx.length → j < bx.length → (lk bx0 bx i).ro = false → i ≠ j → lk 0 A i ≠ lk 0 A j
 len : A.length = bx.length
 pre : E <+: A
 bt : ∀ k, k < bx.length → Bt W (lk 0 A k) (lk bx0 bx k).t ((lk bx0 bx k).row A)
 fa : PF.all W fs
 far : ∀ a, Fa A bx a → PF.far a fs
theorem Inv.below {w0 : World} {A : List Nat} {bx : List Box} {fs : List PF} {W : World} (I : Inv [] w0 A bx fs W) : Below w0.heap.size w0 W :=
 ⟨I.bel.os, I.bel.tape, I.bel.output, I.bel.size, fun k hk => I.bel.block k hk (by simp)⟩
theorem Fa.nil {a : Nat} (h : Fa [] [] a) : False := by
 obtain ⟨k, hk, _⟩ := h
 simp at hk
theorem Inv.start (w : World) (fs : List PF) (h : PF.all w fs) : Inv [] w [] [] fs w :=
 ⟨Kp.refl _ _, fun _ h => h.nil.elim, fun _ _ h => by simp at h, rfl, List.prefix_refl _, fun _ h => by simp at h, h, fun _ h => h.nil.elim⟩
section
variable {E : List Nat} {w0 : World} {A : List Nat} {bx : List Box} {fs : List PF} {W W' : World}
theorem Inv.lt (I : Inv E w0 A bx fs W) : ∀ a, Fa A bx a → a < W.heap.size := fun a ⟨k, hk, _, e⟩ => by
 subst e
 exact (I.bt k hk).lt
theorem Inv.past (I : Inv E w0 A bx fs W) (hb : Below W.heap.size W W') : Inv E w0 A bx fs W' :=
 ⟨I.bel.step hb, I.ge, I.nd, I.len, I.pre, fun k hk => (I.bt k hk).past hb, PF.all_keep hb.size I.fa fun b hl _ => hb.block b hl, I.far⟩
theorem Inv.add (I : Inv E w0 A bx fs W) (f : PF) (h : f.prop W) (hf : ∀ a, Fa A bx a → ¬ f.foot a) : Inv E w0 A bx (f :: fs) W :=
 ⟨I.bel, I.ge, I.nd, I.len, I.pre, I.bt, ⟨h, I.fa⟩, fun a ha => ⟨hf a ha, I.far a ha⟩⟩
end
def BtOk (A : List Nat) (bx : List Box) (W : World) : Prop := ∀ k, k < bx.length → 0 < (lk bx0 bx k).cs.length → Bt W (lk 0 A k) (lk bx0 bx k).t ((lk bx0 bx k).row A)
theorem Inv.ok {E : List Nat} {w0 : World} {A : List Nat} {bx : List Box} {fs : List PF} {W : World} (I : Inv E w0 A bx fs W) : BtOk A bx W := fun k hk _ => I.bt k hk
/-! ### What an operation does -/
inductive Eff where
 | val (x : SV)
 | new (t : TypeId) (cs : List SV) (n : Option Nat)
 | st (k : Nat) (cs : List SV)
 | stop
def mkS : Option Nat → Nat → SV
 | none, k => .p k 0
 | some n, k => .s k 0 n n
def rowT (P : Program) (ty : TypeId) : Option Bool := (P.underlying ty).map (·.isRow)
def szT (P : Program) (ty : TypeId) : Option Nat := (P.info? ty).map (·.size)
def b0z : List SV → Option (List Value)
 | [] => some []
 | .v x :: l => match b0z l with | some r => some (x :: r) | none => none
 | _ :: _ => none
theorem g0f (A : List Nat) : ∀ {l : List SV} {r : List Value}, b0z l = some r → l.map (SV.r A) = r
 | [], r, h => by simp [b0z] at h; simp [h]
 | .v x :: l, r, h => by
  unfold b0z at h
  split at h
  · rename_i r' hr
    simp only [Option.some.injEq] at h
    rw [← h, List.map_cons, g0f A hr]; rfl
  · cases h
 | .p _ _ :: _, r, h => by simp [b0z] at h
 | .s _ _ _ _ :: _, r, h => by simp [b0z] at h
 | .a _ _ :: _, r, h => by simp [b0z] at h
 | .f _ _ _ :: _, r, h => by simp [b0z] at h
def own1 : SV → Option Nat
 | .p k _ => some k
 | .s k _ _ _ => some k
 | _ => none
def x0q : List SV → Bool
 | [] => true
 | .a _ _ :: _ => false
 | .f _ _ _ :: _ => false
 | _ :: l => x0q l
def mkA (l : List SV) : SV := match b0z l with
 | some r => .v (.agg r.toArray)
 | none => .a (l.map (SV.r [])) (l.map own1)
theorem g0x (A : List Nat) : ∀ {l : List SV}, x0q l = true → c0u A (l.map (SV.r [])) (l.map own1) = l.map (SV.r A)
 | [], _ => rfl
 | .v x :: l, h => by
  show j0p A none x :: c0u A (l.map (SV.r [])) (l.map own1) = x :: l.map (SV.r A)
  rw [g0x A (l := l) h]
  rfl
 | .p k off :: l, h => by
  show j0p A (some k) (.pointer (some ⟨lk 0 [] k, off, none⟩)) :: c0u A (l.map (SV.r [])) (l.map own1) = .pointer (some ⟨lk 0 A k, off, none⟩) :: l.map (SV.r A)
  rw [g0x A (l := l) h]
  rfl
 | .s k off n c :: l, h => by
  show j0p A (some k) (.slice (some ⟨lk 0 [] k, off, none⟩) n c) :: c0u A (l.map (SV.r [])) (l.map own1) = .slice (some ⟨lk 0 A k, off, none⟩) n c :: l.map (SV.r A)
  rw [g0x A (l := l) h]
  rfl
 | .a _ _ :: _, h => by cases h
 | .f _ _ _ :: _, h => by cases h
theorem d1c (A : List Nat) {l : List SV} (h : x0q l = true) : (mkA l).r A = .agg (l.map (SV.r A)).toArray := by
 unfold mkA
 split
 · rename_i r hr
   rw [g0f A hr]
   rfl
 · show Value.agg (c0u A _ _).toArray = _
   rw [g0x A h]
def spl : Option Nat → Value → SV
 | some k, .pointer (some ⟨_, off, _⟩) => .p k off
 | some k, .slice (some ⟨_, off, _⟩) n c => .s k off n c
 | _, v => .v v
def splL : List Value → List (Option Nat) → List SV
 | v :: vs, k :: ks => spl k v :: splL vs ks
 | vs, _ => vs.map .v
theorem d1d (A : List Nat) (k : Option Nat) (v : Value) : (spl k v).r A = j0p A k v := by
 unfold spl j0p
 split <;> rfl
theorem z0g (A : List Nat) : ∀ (vs : List Value) (ks : List (Option Nat)), (splL vs ks).map (SV.r A) = c0u A vs ks
 | v :: vs, k :: ks => by
  show (spl k v).r A :: (splL vs ks).map (SV.r A) = j0p A k v :: c0u A vs ks
  rw [d1d, z0g A vs ks]
 | [], [] => rfl
 | [], _ :: _ => rfl
 | v :: vs, [] => by
  show ((v :: vs).map SV.v).map (SV.r A) = v :: vs
  rw [List.map_map]
  exact List.map_id _
def ldB (P : Program) (bx : List Box) (ty : TypeId) (k off : Nat) : Option SV :=
 match Nat.ble (k + 1) bx.length with
 | false => none
 | true => match rowT P ty with
  | some true => match szT P ty with
   | some n => match Nat.beq (((lk bx0 bx k).cs.drop off).take n).length n && (Nat.ble 1 (lk bx0 bx k).cs.length && x0q (((lk bx0 bx k).cs.drop off).take n)) with
    | true => some (mkA (((lk bx0 bx k).cs.drop off).take n))
    | false => none
   | none => none
  | some false => match szT P ty with
   | some 1 => match Nat.ble (off + 1) (lk bx0 bx k).cs.length with | true => some (lk (.v undef) (lk bx0 bx k).cs off) | false => none
   | _ => none
  | none => none
def c1c : SV → List SV
 | .v x => x.cells.toList.map .v
 | .a cs ks => splL cs ks
 | x => [x]
def u0v : SV → Option (List SV)
 | .v (.agg cs) => some (cs.toList.map .v)
 | .a cs ks => some (splL cs ks)
 | _ => none
theorem x0r (A : List Nat) {x : SV} {l : List SV} (h : u0v x = some l) : x.r A = .agg (l.map (SV.r A)).toArray := by
 unfold u0v at h
 split at h
 · rename_i cs
   simp only [Option.some.injEq] at h
   subst h
   rw [List.map_map]
   show Value.agg cs = .agg (cs.toList.map id).toArray
   rw [List.map_id]
 · rename_i cs ks
   simp only [Option.some.injEq] at h
   subst h
   rw [z0g]
   rfl
 · cases h
def m0k : SV → Bool
 | .v x => x.oneCell'
 | .a _ _ => false
 | _ => true
theorem l0b (A : List Nat) {x : SV} (h : m0k x = true) : (x.r A).oneCell' = true := by
 cases x with
 | v x => exact h
 | p k off => rfl
 | s k off n c => rfl
 | a cs ks => cases h
 | f fn cs ks => rfl
def putC (cs : List SV) (off : Nat) : List SV → List SV
 | [] => cs
 | v :: r => putC (setL cs off v) (off + 1) r
def stB (P : Program) (bx : List Box) (ty : TypeId) (k off : Nat) (x : SV) : Option (List SV) :=
 match Nat.ble (k + 1) bx.length with
 | false => none
 | true => match (lk bx0 bx k).ro with
  | true => none
  | false => match rowT P ty with
   | some true => match u0v x with
    | some l => match szT P ty with
     | some n => match Nat.beq l.length n && Nat.ble (off + n) (lk bx0 bx k).cs.length && l.all m0k with
      | true => some (putC (lk bx0 bx k).cs off l)
      | false => none
     | none => none
    | none => none
   | some false => match szT P ty with
    | some 1 => match x with
     | .v (.agg _) => none
     | .a _ _ => none
     | x => match Nat.ble (off + 1) (lk bx0 bx k).cs.length && m0k x with
      | true => some (setL (lk bx0 bx k).cs off x)
      | false => none
    | _ => none
   | none => none
def d1e (fr : List SV) : Op → Option Nat
 | .fieldAddr _ x _ | .indexAddr _ x _ | .slice _ x _ _ _ | .nilCheck x => match ev fr x with | .p k _ => some k | .s k _ _ _ => some k | _ => none
 | _ => none
def a1k : Option Nat → Value → SV
 | some k, .pointer (some ⟨_, off, _⟩) => .p k off
 | some k, .slice (some ⟨_, off, _⟩) n c => .s k off n c
 | _, v => .v v
def d1f : SV → Value
 | .v (.agg cs) => .agg (cs.map fun _ => .nilFunc)
 | .v _ => .nilFunc
 | .p k _ => .chan (some k)
 | .s k _ _ _ => .chan (some k)
 | .f _ _ _ => .nilFunc
 | .a _ ks => .agg (ks.map fun k => match k with | some k => Value.chan (some k) | none => .nilFunc).toArray
def z0h : Value → Option Nat
 | .chan (some k) => some k
 | _ => none
def z0i : List (Option Nat) → Bool
 | [] => false
 | some _ :: _ => true
 | none :: l => z0i l
def comb (v m : Value) : SV :=
 match m with
 | .chan (some k) => spl (some k) v
 | .agg ms => match z0i (ms.toList.map z0h) with
  | true => match v with
   | .agg cs => .a cs.toList (ms.toList.map z0h)
   | _ => .v v
  | false => .v v
 | _ => .v v
def u0w (fr : List SV) : List Operand → Bool
 | [] => false
 | x :: l => match ev fr x with
  | .v _ => u0w fr l
  | _ => true
def genA (P : Program) (o : Oper) (fr : List SV) : SV :=
 match (execOp (evr [] fr) o).run P default with
 | .ok (.value v) _ => match (execOp (fun x => d1f (ev fr x)) o).run P default with
  | .ok (.value m) _ => comb v m
  | _ => .v undef
 | _ => .v undef
def a1l (fr : List SV) : Op → Bool
 | .build _ ps => u0w fr (ps.toList.map (·.2))
 | .field _ x _ => u0w fr [x]
 | _ => false
def genV (P : Program) (o : Oper) (fr : List SV) : SV :=
 match a1l fr o.op with
 | true => genA P o fr
 | false => match (execOp (evr [] fr) o).run P default with
  | .ok (.value v) _ => a1k (d1e fr o.op) v
  | _ => .v undef
def newC (P : Program) (o : Oper) (fr : List SV) : Option (TypeId × List SV) :=
 match (execOp (evr [] fr) o).run P default with
 | .ok (.value _) w => match (w.heap[0]? : Option Obj) with
  | some (.cells vs t _) => some (t, vs.toList.map .v)
  | _ => none
 | _ => none
def d1g : Builtin → Bool
 | .len | .cap | .max | .min => true
 | _ => false
def eff (P : Program) (bx : List Box) (fr : List SV) (o : Oper) : Eff :=
 match o.op with
 | .move x | .assign x => .val (ev fr x)
 | .pick c a b => match ev fr c with
  | .v (.bool true) => .val (ev fr a)
  | .v (.bool false) => .val (ev fr b)
  | _ => .stop
 | .load ty x => match ev fr x with
  | .p k off => match ldB P bx ty k off with | some v => .val v | none => .stop
  | _ => .stop
 | .store ty x y => match ev fr x with
  | .p k off => match stB P bx ty k off (ev fr y) with | some cs => .st k cs | none => .stop
  | _ => .stop
 | .box t x => .new t (c1c (ev fr x)) none
 | .alloc _ => match newC P o fr with | some (t, cs) => .new t cs none | none => .stop
 | .buildSlice _ n _ => match newC P o fr with | some (t, cs) => .new t cs (some n) | none => .stop
 | .call c => match c.callee with
  | .builtin b => match d1g b with | true => .val (genV P o fr) | false => .stop
  | _ => .stop
 | .makeFunc fn _ cs => .val (.f fn (cs.toList.map (evr [] fr)) (cs.toList.map fun x => own1 (ev fr x)))
 | .makeMap _ _ | .makeChan _ _ | .makeSlice _ _ _ | .mapUpdate _ _ _ _ | .insert _ _ _ _ | .mapEntry _ _ _ | .entryStore _ _ _ _ | .go _ | .defer _ | .panic _ | .send _ _ | .recv _ _ _ | .select _ _ | .next _ _ | .ready _ | .waits _ => .stop
 | _ => .val (genV P o fr)
def j0q (P : Program) (bx : List Box) (fr : List SV) (o : Oper) (A : List Nat) (w : World) : List (Result Next × Result Next) :=
 match o.op with
 | .move _ | .assign _ | .pick _ _ _ | .load _ _ | .store _ _ _ => []
 | _ => match eff P bx fr o with
  | .val x => [((execOp (evr A fr) o).run P w, .ok (.value (x.r A)) w)]
  | .new t cs x => [((execOp (evr A fr) o).run P w, .ok (.value ((mkS x 0).r [w.heap.size])) (w.alloc (.cells (cs.map (SV.r A)).toArray t)))]
  | _ => []
def wfS (n : Nat) : SV → Bool
 | .v _ => true
 | .p k _ => Nat.ble (k + 1) n
 | .s k _ _ _ => Nat.ble (k + 1) n
 | .a _ ks => ks.all fun k => match k with | some k => Nat.ble (k + 1) n | none => true
 | .f _ _ ks => ks.all fun k => match k with | some k => Nat.ble (k + 1) n | none => true
def wfL (n : Nat) : List SV → Bool
 | [] => true
 | x :: l => match wfS n x with | true => wfL n l | false => false
def wfB (n : Nat) : List Box → Bool
 | [] => true
 | b :: l => match wfL n b.cs with | true => wfB n l | false => false
def aft (bx : List Box) (fr : List SV) (d : Option Tmp) : Eff → Option (List SV × List Box)
 | .val x => some (putO fr d x, bx)
 | .new t cs x => match wfL bx.length fr && wfL bx.length cs && wfB bx.length bx with
  | true => some (putO fr d (mkS x bx.length), bx ++ [⟨t, cs, false⟩])
  | false => none
 | .st k cs => some (putO fr d (.v undef), setL bx k ⟨(lk bx0 bx k).t, cs, false⟩)
 | .stop => none
def j0r {α : Type} : List (α × α) → Prop
 | [] => True
 | x :: l => x.1 = x.2 ∧ j0r l
theorem g0y {α : Type} : ∀ {l : List (α × α)}, l.map (·.1) = l.map (·.2) → j0r l
 | [], _ => True.intro
 | _ :: _, h => by
  simp only [List.map_cons, List.cons.injEq] at h
  exact ⟨h.1, g0y h.2⟩
theorem c0j {α : Type} : ∀ {l m : List (α × α)}, j0r (l ++ m) → j0r l ∧ j0r m
 | [], _, h => ⟨True.intro, h⟩
 | _ :: _, _, h => ⟨⟨h.1, (c0j h.2).1⟩, (c0j h.2).2⟩
section
variable {P : Program} {E : List Nat} {w0 : World} {A : List Nat} {bx : List Box} {fs : List PF} {W : World} {fr : List SV} {o : Oper}
theorem i0g {a b : Nat} (h : Nat.ble a b = true) : a ≤ b := Nat.le_of_ble_eq_true h
theorem z0j (I : BtOk A bx W) {ty : TypeId} {k off : Nat} {x : SV} (h : ldB P bx ty k off = some x) : (Instr.loadAt ty (.pointer (some ⟨lk 0 A k, off, none⟩))).run P W = .ok (x.r A) W := by
 unfold ldB at h
 split at h
 · cases h
 · rename_i hk
   have hb := I k (i0g hk)
   generalize lk bx0 bx k = b at *
   split at h
   · rename_i hr
     split at h
     · rename_i n hn
       split at h
       · rename_i hl
         simp only [Option.some.injEq] at h
         subst h
         simp only [Bool.and_eq_true] at hl
         obtain ⟨hl, h1, h2⟩ := hl
         have hb := hb (i0g h1)
         have hl := Nat.eq_of_beq_eq_true hl
         have hT : s0g P ty n := ⟨by
           unfold rowT at hr
           cases hu : P.underlying ty with
           | none => rw [hu] at hr; cases hr
           | some d => rw [hu] at hr; exact ⟨d, rfl, by simpa using hr⟩, hn⟩
         rw [d1c A h2]
         refine c1b hb hT off (((b.cs.drop off).take n).map (SV.r A)) ?_ (by rw [List.length_map, hl])
         rw [List.length_map, hl]
         show List.take n (List.drop off (b.cs.map (SV.r A))) = _
         rw [← List.map_drop, ← List.map_take]
       · cases h
     · cases h
   · rename_i hr
     split at h
     · rename_i hn
       split at h
       · rename_i ho
         simp only [Option.some.injEq] at h
         subst h
         have ho := i0g ho
         have hb := hb (by omega)
         have hT : o0e P ty := ⟨by
           unfold rowT at hr
           cases hu : P.underlying ty with
           | none => rw [hu] at hr; cases hr
           | some d => rw [hu] at hr; exact ⟨d, rfl, by simpa using hr⟩, hn⟩
         refine a1g hb hT off _ ?_
         unfold Box.row
         rw [c0t]
         simp only [List.getElem?_toArray, List.getElem?_map]
         rw [List.getElem?_eq_getElem (by omega)]
         rfl
       · cases h
     · cases h
   · cases h
theorem m0l (I : BtOk A bx W) {x : SV} (he : eff P bx fr o = .val x) (hc : j0r (j0q P bx fr o A W)) : (execOp (act A fr).eval o).run P W = .ok (.value (x.r A)) W := by
 rw [b0u]
 unfold j0q at hc
 rw [he] at hc
 unfold eff at he
 cases hop : o.op <;> simp only [hop] at he hc <;> first | exact hc.1 | skip
 · simp only [Eff.val.injEq] at he
   subst he
   unfold execOp
   simp only [hop]
   rfl
 · simp only [Eff.val.injEq] at he
   subst he
   unfold execOp
   simp only [hop]
   rfl
 · rename_i c a b
   have hpk : ∀ t, evr A fr c = .bool t → (execOp (evr A fr) o).run P W = .ok (.value (if t then evr A fr a else evr A fr b)) W := fun t ht => by
    unfold execOp
    simp only [hop, ht]
    cases t <;> rfl
   split at he
   · rename_i h
     simp only [Eff.val.injEq] at he
     subst he
     exact hpk true (by unfold evr; rw [h]; rfl)
   · rename_i h
     simp only [Eff.val.injEq] at he
     subst he
     exact hpk false (by unfold evr; rw [h]; rfl)
   · cases he
 · rename_i ty x
   split at he
   · rename_i k off h
     split at he
     · rename_i v hv
       simp only [Eff.val.injEq] at he
       subst he
       have := z0j I hv
       have hx : evr A fr x = .pointer (some ⟨lk 0 A k, off, none⟩) := by unfold evr; rw [h]; rfl
       unfold execOp
       simp only [hop, hx, Sem.run_bind, this, Result.andThen_ok, Sem.run_pure]
     · cases he
   · cases he
 · repeat' split at he
   all_goals cases he
theorem x0s {A B : List Nat} {k : Nat} (h : lk 0 A k = lk 0 B k) (v : Value) : j0p A (some k) v = j0p B (some k) v := by
 cases v with
 | pointer p => cases p with
  | none => rfl
  | some a => show Value.pointer (some ⟨lk 0 A k, a.off, none⟩) = .pointer (some ⟨lk 0 B k, a.off, none⟩); rw [h]
 | slice p n c => cases p with
  | none => rfl
  | some a => show Value.slice (some ⟨lk 0 A k, a.off, none⟩) n c = .slice (some ⟨lk 0 B k, a.off, none⟩) n c; rw [h]
 | _ => rfl
theorem d1h {n : Nat} {x : SV} (h : wfS n x = true) (B : List Nat) (hA : A.length = n) : x.r (A ++ B) = x.r A := by
 have hl : ∀ k, k < n → lk 0 (A ++ B) k = lk 0 A k := fun k hk => by
  rw [c0t, c0t, List.getElem?_append_left (by omega)]
 have : ∀ (ks : List (Option Nat)) (cs : List Value), (ks.all fun k => match k with | some k => Nat.ble (k + 1) n | none => true) = true → c0u (A ++ B) cs ks = c0u A cs ks := fun ks => by
  induction ks with
  | nil => intro cs _; cases cs <;> rfl
  | cons k ks ih =>
   intro cs h
   simp only [List.all_cons, Bool.and_eq_true] at h
   cases cs with
   | nil => rfl
   | cons v cs =>
    have hp : j0p (A ++ B) k v = j0p A k v := by
     cases k with
     | none => rfl
     | some k => exact x0s (hl k (i0g h.1)) v
    unfold c0u
    rw [hp, ih cs h.2]
 cases x with
 | v x => rfl
 | p k off => unfold SV.r; simp only [hl k (i0g h)]
 | s k off n c => unfold SV.r; simp only [hl k (i0g h)]
 | a cs ks =>
  show Value.agg (c0u (A ++ B) cs ks).toArray = .agg (c0u A cs ks).toArray
  rw [this ks cs h]
 | f fn cs ks =>
  show Value.func fn #[] (c0u (A ++ B) cs ks).toArray = .func fn #[] (c0u A cs ks).toArray
  rw [this ks cs h]
theorem p0o {n : Nat} (B : List Nat) (hA : A.length = n) : ∀ {l : List SV}, wfL n l = true → l.map (SV.r (A ++ B)) = l.map (SV.r A)
 | [], _ => rfl
 | x :: l, h => by
  unfold wfL at h
  split at h
  · rename_i hx
    rw [List.map_cons, List.map_cons, d1h hx B hA, p0o B hA h]
  · cases h
theorem m0m {n : Nat} : ∀ {l : List Box}, wfB n l = true → ∀ k, wfL n (lk bx0 l k).cs = true
 | [], _, _ => rfl
 | b :: l, h, k => by
  unfold wfB at h
  split at h
  · rename_i hb
    cases k with
    | zero => exact hb
    | succ k => exact m0m h k
  · cases h
theorem e0f {α : Type} (d : α) {l m : List α} {k : Nat} (h : k < l.length) : lk d (l ++ m) k = lk d l k := by
 rw [c0t, c0t, List.getElem?_append_left h]
theorem f0h {α : Type} (d : α) {l : List α} {a : α} : lk d (l ++ [a]) l.length = a := by
 rw [c0t]; simp
theorem Inv.lay (I : Inv E w0 A bx fs W) (t : TypeId) (cs : List SV) (h1 : wfL bx.length cs = true) (h2 : wfB bx.length bx = true) :
 Inv E w0 (A ++ [W.heap.size]) (bx ++ [⟨t, cs, false⟩]) fs (W.alloc (.cells (cs.map (SV.r A)).toArray t)) := by
 have hb : Below W.heap.size W (W.alloc (.cells (cs.map (SV.r A)).toArray t)) := a0l _ _
 have I' := I.past hb
 have hl : ∀ k, k < bx.length → lk 0 (A ++ [W.heap.size]) k = lk 0 A k ∧ lk bx0 (bx ++ [⟨t, cs, false⟩]) k = lk bx0 bx k := fun k h => ⟨e0f 0 (by rw [I.len]; exact h), e0f bx0 h⟩
 have hn : lk 0 (A ++ [W.heap.size]) bx.length = W.heap.size ∧ lk bx0 (bx ++ [⟨t, cs, false⟩]) bx.length = ⟨t, cs, false⟩ := ⟨by rw [← I.len, f0h], f0h _⟩
 have hF : ∀ a, Fa (A ++ [W.heap.size]) (bx ++ [⟨t, cs, false⟩]) a → Fa A bx a ∨ a = W.heap.size := fun a ⟨k, hk, hr, e⟩ => by
  rw [List.length_append, List.length_singleton] at hk
  by_cases h : k < bx.length
  · rw [(hl k h).2] at hr
    rw [(hl k h).1] at e
    exact .inl ⟨k, h, hr, e⟩
  · obtain rfl : k = bx.length := by omega
    exact .inr (e.trans hn.1)
 refine ⟨I'.bel, fun a ha => ?_, fun i j hi hj hr hne => ?_, by simp [I.len], I.pre.trans (List.prefix_append _ _), fun k hk => ?_, I'.fa, fun a ha => ?_⟩
 · rcases hF a ha with h | rfl
   · exact I.ge a h
   · exact .inl I.bel.size
 · rw [List.length_append, List.length_singleton] at hi hj
   by_cases h : i < bx.length
   · rw [(hl i h).2] at hr
     by_cases h' : j < bx.length
     · rw [(hl i h).1, (hl j h').1]
       exact I.nd i j h h' hr hne
     · obtain rfl : j = bx.length := by omega
       rw [(hl i h).1, hn.1]
       have := (I.bt i h).lt
       omega
   · obtain rfl : i = bx.length := by omega
     have h' : j < bx.length := by omega
     rw [(hl j h').1, hn.1]
     have := (I.bt j h').lt
     omega
 · rw [List.length_append, List.length_singleton] at hk
   by_cases h : k < bx.length
   · rw [(hl k h).1, (hl k h).2]
     have := I'.bt k h
     unfold Box.row at this ⊢
     rw [p0o _ I.len (m0m h2 k)]
     exact this
   · obtain rfl : k = bx.length := by omega
     rw [hn.1, hn.2]
     unfold Box.row
     simp only
     rw [p0o _ I.len h1]
     exact b1z _ _ _
 · rcases hF a ha with h | rfl
   · exact I.far a h
   · exact PF.far_new I.fa
theorem Inv.put (I : Inv E w0 A bx fs W) {k : Nat} (hk : k < bx.length) (hr : (lk bx0 bx k).ro = false) {cs : List SV} {W' : World} (hO : Kp [lk 0 A k] W W') (hB : Bt W' (lk 0 A k) (lk bx0 bx k).t (cs.map (SV.r A)).toArray) :
 Inv E w0 A (setL bx k ⟨(lk bx0 bx k).t, cs, false⟩) fs W' := by
 have hF : Fa A bx (lk 0 A k) := ⟨k, hk, hr, rfl⟩
 have hl : ∀ j, j < bx.length → (lk bx0 (setL bx k ⟨(lk bx0 bx k).t, cs, false⟩) j).ro = (lk bx0 bx j).ro := fun j hj => by
  by_cases h : j = k
  · subst h
    rw [c0t bx0 (setL _ _ _), d0b, List.getElem?_set_self hj, hr]
    rfl
  · rw [c0t bx0 (setL _ _ _), d0b, List.getElem?_set_ne (Ne.symm h), ← c0t]
 have hn : (setL bx k ⟨(lk bx0 bx k).t, cs, false⟩).length = bx.length := by rw [d0b, List.length_set]
 have hFa : ∀ a, Fa A (setL bx k ⟨(lk bx0 bx k).t, cs, false⟩) a → Fa A bx a := fun a ⟨j, hj, hr, e⟩ => by
  rw [hn] at hj
  rw [hl j hj] at hr
  exact ⟨j, hj, hr, e⟩
 refine ⟨⟨hO.os.trans I.bel.os, hO.tape.trans I.bel.tape, hO.output.trans I.bel.output, Nat.le_trans I.bel.size hO.size, fun b hb hE => ?_⟩, fun a ha => I.ge a (hFa a ha), fun i j hi hj hr hne => ?_, by rw [hn]; exact I.len, I.pre, fun j hj => ?_, PF.all_keep hO.size I.fa fun b hb ha => hO.block b hb (by
   rw [List.mem_singleton]
   exact Ne.symm (ha _ (I.far _ hF))), fun a ha => I.far a (hFa a ha)⟩
 · rw [hO.block b (Nat.lt_of_lt_of_le hb I.bel.size) (by
     rw [List.mem_singleton]
     intro e
     subst e
     rcases I.ge _ hF with h | h
     · omega
     · exact hE h)]
   exact I.bel.block b hb hE
 · rw [hn] at hi hj
   rw [hl i hi] at hr
   exact I.nd i j hi hj hr hne
 · rw [hn] at hj
   by_cases h : j = k
   · subst h
     rw [c0t bx0 (setL _ _ _), d0b, List.getElem?_set_self hj]
     exact hB
   · rw [c0t bx0 (setL _ _ _), d0b, List.getElem?_set_ne (Ne.symm h), ← c0t]
     have hb := I.bt j hj
     exact hb.same (hO.block _ hb.lt (by
       rw [List.mem_singleton]
       exact (I.nd k j hk hj hr (Ne.symm h)).symm))
theorem Only.kp {a : Nat} {w w' : World} (h : Only a w w') : Kp [a] w w' := ⟨h.os, h.tape, h.output, by rw [h.size]; exact Nat.le_refl _, fun k _ hk => h.block k (by simpa using hk)⟩
theorem r0d (A : List Nat) : ∀ (l : List SV) (cs : List SV) (off : Nat), ((putC cs off l).map (SV.r A)).toArray = putL (cs.map (SV.r A)).toArray off (l.map (SV.r A))
 | [], _, _ => rfl
 | x :: l, cs, off => by
  unfold putC
  rw [r0d A l, List.map_cons]
  show _ = putL ((cs.map (SV.r A)).toArray.setIfInBounds off (x.r A)) (off + 1) (l.map (SV.r A))
  congr 1
  rw [d0b, List.map_set]
  simp
variable {ops : Array Oper} {Q : Exit → Act → World → Prop} {K : Act → World → Prop}
theorem d1i (I : Inv E w0 A bx fs W) (hw : wnt ops fr o = true) {ty : TypeId} {x y : Operand} {k off : Nat} {cs : List SV} (ho : o.op = .store ty x y) (hx : ev fr x = .p k off) (h : stB P bx ty k off (ev fr y) = some cs)
 (hk : ∀ W', Inv E w0 A (setL bx k ⟨(lk bx0 bx k).t, cs, false⟩) fs W' → K (act A (putO fr o.dst (.v undef))) W') : OpW P ops Q o K (act A fr) W := by
 have hw' : Region.wanted o (yielded ops (act A fr).tmps) = true := by rw [e0x]; exact hw
 have hx' : (act A fr).eval x = .pointer (some ⟨lk 0 A k, off, none⟩) := by rw [b0u]; unfold evr; rw [hx]; rfl
 have hp : ∀ W', Inv E w0 A (setL bx k ⟨(lk bx0 bx k).t, cs, false⟩) fs W' → K ((act A fr).put o.dst undef) W' := fun W' h => by
  rw [show undef = (SV.v undef).r A from rfl, c0o]
  exact hk W' h
 unfold stB at h
 split at h
 · cases h
 · rename_i hkb
   have hkb := i0g hkb
   have hb := I.bt k hkb
   have put := fun hr {W' cs} (h : Only _ _ _) => I.put (k := k) hkb hr (cs := cs) (W' := W') h.kp
   generalize lk bx0 bx k = b at *
   split at h
   · cases h
   rename_i hro
   replace put := fun {W' cs} => put hro (W' := W') (cs := cs)
   split at h
   · rename_i hr
     split at h
     · rename_i l hy
       split at h
       · rename_i n hn
         split at h
         · rename_i hc
           simp only [Bool.and_eq_true] at hc
           obtain ⟨⟨c1, c2⟩, c3⟩ := hc
           simp only [Option.some.injEq] at h
           subst h
           have hT : s0g P ty n := ⟨by
             unfold rowT at hr
             cases hu : P.underlying ty with
             | none => rw [hu] at hr; cases hr
             | some d => rw [hu] at hr; exact ⟨d, rfl, by simpa using hr⟩, hn⟩
           refine z0f o.dst rfl hb hT off (l.map (SV.r A)).toArray _ hw' ho hx' (by rw [b0u]; exact x0r A hy) (by simpa using Nat.eq_of_beq_eq_true c1) (by unfold Box.row; simpa using c2) ?_ rfl fun W' hO hB => hp W' (put hO ?_)
           · rw [List.all_toArray, List.all_map]
             rw [List.all_eq_true] at c3 ⊢
             exact fun x hx => l0b A (c3 x hx)
           · rw [r0d]
             exact hB
         · cases h
       · cases h
     · cases h
   · rename_i hr
     split at h
     · rename_i hn
       split at h
       · cases h
       · cases h
       · rename_i x' hna hna2
         split at h
         · rename_i hc
           simp only [Bool.and_eq_true] at hc
           obtain ⟨c2, c3⟩ := hc
           simp only [Option.some.injEq] at h
           subst h
           have hT : o0e P ty := ⟨by
             unfold rowT at hr
             cases hu : P.underlying ty with
             | none => rw [hu] at hr; cases hr
             | some d => rw [hu] at hr; exact ⟨d, rfl, by simpa using hr⟩, hn⟩
           have h1 : ((ev fr y).r A).cells = #[(ev fr y).r A] := by
            cases hv : ev fr y with
            | v z => cases z with
             | agg cs => exact absurd hv (hna cs)
             | _ => rfl
            | p k off => rfl
            | s k off n c => rfl
            | a cs ks => exact absurd hv (hna2 cs ks)
            | f fn cs ks => rfl
           have h5 : ((ev fr y).r A).oneCell' = true := l0b A c3
           refine a1h o.dst rfl hb hT off ((ev fr y).r A) _ hw' ho hx' (by rw [b0u]; rfl) (by unfold Box.row; simpa using c2) h1 h5 rfl fun W' hO hB => hp W' (put hO ?_)
           have e : ((setL b.cs off (ev fr y)).map (SV.r A)).toArray = (b.row A).setIfInBounds off ((ev fr y).r A) := by
            unfold Box.row
            rw [d0b, List.map_set]
            simp
           rw [e]
           exact hB
         · cases h
     · cases h
   · cases h
theorem c1d (I : Inv E w0 A bx fs W) (hw : wnt ops fr o = true) (hc : j0r (j0q P bx fr o A W)) {fr' : List SV} {bx' : List Box} (ha : aft bx fr o.dst (eff P bx fr o) = some (fr', bx'))
 (hk : ∀ A' W', A <+: A' → Inv E w0 A' bx' fs W' → K (act A' fr') W') : OpW P ops Q o K (act A fr) W := by
 have hw' : Region.wanted o (yielded ops (act A fr).tmps) = true := by rw [e0x]; exact hw
 cases he : eff P bx fr o with
 | stop => rw [he] at ha; cases ha
 | val x =>
  rw [he] at ha
  simp only [aft, Option.some.injEq, Prod.mk.injEq] at ha
  obtain ⟨rfl, rfl⟩ := ha
  refine m0j o.dst rfl (x.r A) hw' (m0l I.ok he hc) ?_
  rw [c0o]
  exact hk A W (List.prefix_refl _) I
 | new t cs n =>
  rw [he] at ha
  unfold aft at ha
  simp only at ha
  split at ha
  · rename_i hc2
    simp only [Bool.and_eq_true] at hc2
    obtain ⟨⟨c1, c2⟩, c3⟩ := hc2
    simp only [Option.some.injEq, Prod.mk.injEq] at ha
    obtain ⟨rfl, rfl⟩ := ha
    have hr : (execOp (evr A fr) o).run P W = .ok (.value ((mkS n 0).r [W.heap.size])) (W.alloc (.cells (cs.map (SV.r A)).toArray t)) := by
     unfold j0q at hc
     rw [he] at hc
     unfold eff at he
     cases hop : o.op <;> simp only [hop] at he hc <;> first | exact hc.1 | skip
     all_goals (repeat' split at he) <;> cases he
    have L := I.lay t cs c2 c3
    have e1 : act (A ++ [W.heap.size]) (putO fr o.dst (mkS n bx.length)) = (act A fr).put o.dst ((mkS n 0).r [W.heap.size]) := by
     have e2 : (mkS n 0).r [W.heap.size] = (mkS n bx.length).r (A ++ [W.heap.size]) := by
      have : lk 0 (A ++ [W.heap.size]) bx.length = W.heap.size := by rw [← I.len, f0h]
      cases n with
      | none => show Value.pointer (some ⟨W.heap.size, 0, none⟩) = .pointer (some ⟨lk 0 (A ++ [W.heap.size]) bx.length, 0, none⟩); rw [this]
      | some n => show Value.slice (some ⟨W.heap.size, 0, none⟩) n n = .slice (some ⟨lk 0 (A ++ [W.heap.size]) bx.length, 0, none⟩) n n; rw [this]
     have e3 : act A fr = act (A ++ [W.heap.size]) fr := by unfold act; rw [p0o _ I.len c1]
     rw [e2, e3, c0o]
    refine ⟨?_⟩
    rw [if_pos hw']
    unfold Oper.wp
    rw [b0u, hr]
    show K ((act A fr).put o.dst ((mkS n 0).r [W.heap.size])) _
    rw [← e1]
    exact hk _ _ (List.prefix_append _ _) L
  · cases ha
 | st k cs =>
  have he0 := he
  rw [he] at ha
  simp only [aft, Option.some.injEq, Prod.mk.injEq] at ha
  obtain ⟨rfl, rfl⟩ := ha
  unfold eff at he
  cases hop : o.op <;> simp only [hop] at he
  case store ty x y =>
   split at he
   · rename_i k' off hx
     split at he
     · rename_i cs' hs
       simp only [Eff.st.injEq] at he
       obtain ⟨rfl, rfl⟩ := he
       exact d1i I hw hop hx hs fun W' I' => hk A W' (List.prefix_refl _) I'
     · cases he
   · cases he
  all_goals (repeat' split at he) <;> cases he
end
inductive Kt where
 | code (c : Code)
 | block (id : Nat)
 | stop (J : Act → World → Prop)
def post (P : Program) (Q : Exit → Act → World → Prop) : List Kt → Exit → Act → World → Prop
 | [] => Q
 | .code c :: ks => Exit.then (fun a w => c.wp P (post P Q ks) a w) (post P Q ks)
 | .block id :: ks => Exit.inBlock id (post P Q ks)
 | .stop J :: ks => Exit.then J (post P Q ks)
inductive Rg where
 | off
 | pl (ops : Array Oper) (l : List Oper)
 | dr (ops : Array Oper) (A0 : List Nat) (m : List (Option Box)) (fuel : Nat) (listed : Array Bool)
 | one (ops : Array Oper) (A0 : List Nat) (m : List (Option Box)) (fuel : Nat) (listed : Array Bool) (i : Nat)
 | ret
structure Cfg where
 fr : List SV
 bx : List Box
 rg : Rg
 ks : List Kt
def unm : Option Box → Box
 | some b => b
 | none => bx0
def SB (A0 : List Nat) (m : List (Option Box)) (w : World) : Prop := BtOk A0 (m.map unm) w
structure PreD (A0 : List Nat) (m : List (Option Box)) (A : List Nat) : Prop where
 pre : A0 <+: A
 le : m.length ≤ A0.length
 wf : wfB A0.length (m.map unm) = true
theorem PreD.on {A0 A A' : List Nat} {m : List (Option Box)} (h : PreD A0 m A) (k : A <+: A') : PreD A0 m A' := ⟨h.pre.trans k, h.le, h.wf⟩
def c1e (P : Program) (Q : Exit → Act → World → Prop) (A : List Nat) (c : Cfg) (W : World) : Prop :=
 match c.rg with
 | .off => post P Q c.ks .normal (act A c.fr) W
 | .pl ops l => WpL P ops (post P Q c.ks) l (act A c.fr) W
 | .dr ops A0 m fuel listed => PreD A0 m A → WpH P ops (post P Q c.ks) (SB A0 m) fuel listed (act A c.fr) W
 | .one ops A0 m fuel listed i => PreD A0 m A → ∃ o, ops[i]? = some o ∧ ∀ K : Act → World → Prop, Shut (∀ a w, SB A0 m w → WpH P ops (post P Q c.ks) (SB A0 m) fuel (listed.setIfInBounds i true) a w → K a w) → OpW P ops (post P Q c.ks) o K (act A c.fr) W
 | .ret => post P Q c.ks .ret (act A c.fr) W
structure G (P : Program) (Q : Exit → Act → World → Prop) (A : List Nat) (c : Cfg) (W : World) : Prop where
 out : c1e P Q A c W
def s0j (id : Nat) : List Kt → Option (List Kt)
 | [] => none
 | .code _ :: ks => s0j id ks
 | .block j :: ks => match Nat.beq id j with | true => some ks | false => s0j id ks
 | .stop _ :: ks => s0j id ks
theorem f0u {P : Program} {Q : Exit → Act → World → Prop} {id : Nat} {a : Act} {w : World} : ∀ {ks ks' : List Kt}, s0j id ks = some ks' → post P Q ks' .normal a w → post P Q ks (.exit id) a w
 | [], _, h, _ => by cases h
 | .code _ :: ks, _, h, k => f0u (ks := ks) h k
 | .stop _ :: ks, _, h, k => f0u (ks := ks) h k
 | .block j :: ks, ks', h, k => by
  unfold s0j at h
  show Exit.inBlock j (post P Q ks) (.exit id) a w
  unfold Exit.inBlock
  split at h
  · rename_i hj
    simp only [Option.some.injEq] at h
    subst h
    simp only
    rw [if_pos (Nat.eq_of_beq_eq_true hj)]
    exact k
  · rename_i hj
    simp only
    rw [if_neg (fun e => by subst e; simp at hj)]
    exact f0u h k
def d1j (d : Option Nat) (o : Oper) : Bool :=
 match d with
 | none => true
 | some d => match o.dst with
  | some x => match Nat.beq d x with | true => false | false => true
  | none => true
def noAt (d : Option Nat) (n : Nat) : Bool :=
 match d with
 | none => true
 | some d => match Nat.beq d n with | true => false | false => true
def d1k (d : Option Nat) : Operand → Bool
 | .tmp t => noAt d (2000000 + t)
 | _ => true
def o0h (P : Program) (d : Option Nat) (c : Cfg) : Option Cfg :=
 match c.rg with
 | .pl _ [] => some ⟨c.fr, c.bx, .off, c.ks⟩
 | .pl ops (o :: l) => match wnt ops c.fr o with
  | false => some ⟨putO c.fr o.dst (.v undef), c.bx, .pl ops l, c.ks⟩
  | true => match d1j d o with
   | true => match aft c.bx c.fr o.dst (eff P c.bx c.fr o) with
    | some (fr, bx) => some ⟨fr, bx, .pl ops l, c.ks⟩
    | none => none
   | false => none
 | .off => match c.ks with
  | .code x :: ks => match x with
   | .skip => some ⟨c.fr, c.bx, .off, ks⟩
   | .label _ => some ⟨c.fr, c.bx, .off, ks⟩
   | .seq a b => some ⟨c.fr, c.bx, .off, .code a :: .code b :: ks⟩
   | .cond x a b => match d1k d x with
    | true => match ev c.fr x with
     | .v (.bool true) => some ⟨c.fr, c.bx, .off, .code a :: ks⟩
     | .v (.bool false) => some ⟨c.fr, c.bx, .off, .code b :: ks⟩
     | _ => none
    | false => none
   | .block id b => match noAt d (1000000 + id) with
    | true => some ⟨c.fr, c.bx, .off, .code b :: .block id :: ks⟩
    | false => none
   | .region id ops false => match noAt d (3000000 + id) with
    | true => some ⟨c.fr, c.bx, .pl ops ops.toList, ks⟩
    | false => none
   | .exit id => match s0j id ks with | some ks => some ⟨c.fr, c.bx, .off, ks⟩ | none => none
   | .ret => some ⟨c.fr, c.bx, .ret, ks⟩
   | _ => none
  | .block _ :: ks => some ⟨c.fr, c.bx, .off, ks⟩
  | _ => none
 | .dr ops _ _ _ listed => match Region.ready .any ops listed with
  | [] => some ⟨c.fr, c.bx, .off, c.ks⟩
  | _ => none
 | _ => none
def a1m (P : Program) (c : Cfg) (A : List Nat) (w : World) : List (Result Next × Result Next) :=
 match c.rg with
 | .pl ops (o :: _) => match wnt ops c.fr o with
  | false => []
  | true => j0q P c.bx c.fr o A w
 | _ => []
section
variable {P : Program} {Q : Exit → Act → World → Prop} {E : List Nat} {w0 : World} {A : List Nat} {fs : List PF} {W : World} {c c' : Cfg} {d : Option Nat}
theorem s0k {id : Nat} {ops : Array Oper} {Q : Exit → Act → World → Prop} {a : Act} {w : World} (h : WpL P ops Q ops.toList a w) : (Code.region id ops false).wp P Q a w := by
 cases ops
 exact u0q h
theorem p0p (I : Inv E w0 A c.bx fs W) (hs : o0h P d c = some c') (hc : j0r (a1m P c A W))
 (h : ∀ A' W', A <+: A' → Inv E w0 A' c'.bx fs W' → G P Q A' c' W') : G P Q A c W := by
 refine ⟨?_⟩
 obtain ⟨fr, bx, rg, ks⟩ := c
 have h0 := fun I => (h A W (List.prefix_refl _) I).out
 cases rg with
 | one => cases hs
 | ret => cases hs
 | dr ops A0 m fuel listed =>
  unfold o0h at hs
  simp only at hs
  split at hs
  · rename_i hr
    simp only [Option.some.injEq] at hs
    subst hs
    intro _
    exact a1i hr (h0 I)
  · cases hs
 | pl ops l =>
  cases l with
  | nil =>
   simp only [o0h, Option.some.injEq] at hs
   subst hs
   exact c1a (h0 I)
  | cons o l =>
   unfold o0h at hs
   unfold a1m at hc
   simp only at hs hc
   split at hs
   · rename_i hw
     simp only [Option.some.injEq] at hs
     subst hs
     refine f0g (a1e o.dst rfl (by rw [e0x]; exact hw) ?_)
     rw [show undef = (SV.v undef).r A from rfl, c0o]
     exact h0 I
   · rename_i hw
     rw [hw] at hc
     split at hs
     · split at hs
       · rename_i fr' bx' ha
         simp only [Option.some.injEq] at hs
         subst hs
         exact f0g (c1d I hw hc ha fun A' W' hA I' => (h A' W' hA I').out)
       · cases hs
     · cases hs
 | off =>
  unfold o0h at hs
  simp only at hs
  split at hs
  · rename_i x ks
    split at hs
    · simp only [Option.some.injEq] at hs
      subst hs
      exact wp_skip (h0 I)
    · simp only [Option.some.injEq] at hs
      subst hs
      exact wp_label (h0 I)
    · simp only [Option.some.injEq] at hs
      subst hs
      exact wp_seq (h0 I)
    · rename_i x a b
      split at hs
      · split at hs
        · rename_i hx
          simp only [Option.some.injEq] at hs
          subst hs
          exact wp_cond_true (by rw [b0u]; unfold evr; rw [hx]; rfl) (h0 I)
        · rename_i hx
          simp only [Option.some.injEq] at hs
          subst hs
          exact wp_cond_false (by rw [b0u]; unfold evr; rw [hx]; rfl) (h0 I)
        · cases hs
      · cases hs
    · split at hs
      · simp only [Option.some.injEq] at hs
        subst hs
        exact wp_block (h0 I)
      · cases hs
    · split at hs
      · simp only [Option.some.injEq] at hs
        subst hs
        exact s0k (h0 I)
      · cases hs
    · split at hs
      · rename_i ks' hk
        simp only [Option.some.injEq] at hs
        subst hs
        exact wp_exit (f0u hk (h0 I))
      · cases hs
    · simp only [Option.some.injEq] at hs
      subst hs
      exact wp_ret (h0 I)
    · cases hs
  · simp only [Option.some.injEq] at hs
    subst hs
    exact h0 I
  · cases hs
def zrun (P : Program) (d : Option Nat) : Nat → Cfg → Cfg
 | 0, c => c
 | n + 1, c => match o0h P d c with
  | some c' => zrun P d n c'
  | none => c
def zms (P : Program) (d : Option Nat) : Nat → Cfg → List Nat → World → List (Result Next × Result Next)
 | 0, _, _, _ => []
 | n + 1, c, A, w => match o0h P d c with
  | some c' => a1m P c A w ++ zms P d n c' A w
  | none => []
theorem l0c : ∀ (n : Nat) {A : List Nat} {W : World} {c : Cfg}, Inv E w0 A c.bx fs W → (∀ A w, j0r (zms P d n c A w)) →
 (∀ A' W', A <+: A' → Inv E w0 A' (zrun P d n c).bx fs W' → G P Q A' (zrun P d n c) W') → G P Q A c W
 | 0, A, W, c, I, _, h => h A W (List.prefix_refl _) I
 | n + 1, A, W, c, I, hm, h => by
  unfold zms at hm
  unfold zrun at h
  cases hs : o0h P d c with
  | none => rw [hs] at h; exact h A W (List.prefix_refl _) I
  | some c' =>
   rw [hs] at h hm
   simp only at h hm
   exact p0p I hs (c0j (hm A W)).1 fun A' W' hA I' => l0c n I' (fun A w => (c0j (hm A w)).2) fun A'' W'' hA' I'' => h A'' W'' (hA.trans hA') I''
end
def rvK {α β : Type} : List α → List α → (List α → β) → β
 | [], r, k => k r
 | a :: l, r, k => rvK l (a :: r) k
def frc {α β : Type} : List α → List α → (List α → β) → β
 | [], r, k => rvK r [] k
 | a :: l, r, k => frc l (a :: r) k
theorem z0k {α β : Type} (k : List α → β) : ∀ (l r : List α), rvK l r k = k (l.reverse ++ r)
 | [], r => rfl
 | a :: l, r => by rw [rvK, z0k k l]; simp
theorem u0x {α β : Type} (k : List α → β) : ∀ (l r : List α), frc l r k = k (r.reverse ++ l)
 | [], r => by rw [frc, z0k]
 | a :: l, r => by rw [frc, u0x k l]; simp
def nrm (c : Cfg) : Cfg := frc c.fr [] fun fr => frc c.bx [] fun bx => ⟨fr, bx, c.rg, c.ks⟩
theorem z0l (c : Cfg) : nrm c = c := by unfold nrm; rw [u0x, u0x]; simp
def zr (P : Program) (d : Option Nat) (c : Cfg) : Cfg := nrm (zrun P d 5000 c)
theorem d1l (P : Program) (d : Option Nat) (c : Cfg) : zr P d c = zrun P d 5000 c := z0l _
def nxt : Rg → Option Oper
 | .pl _ (o :: _) => some o
 | .one ops _ _ _ _ i => ops[i]?
 | _ => none
def s0l : Rg → Array Oper
 | .pl ops _ => ops
 | .one ops _ _ _ _ _ => ops
 | _ => #[]
def rgN : Rg → Rg
 | .pl ops (_ :: l) => .pl ops l
 | .one ops A0 m fuel listed i => .dr ops A0 m fuel (listed.setIfInBounds i true)
 | r => r
def msk : List (Option Box) → List Box → List (Option Box)
 | some _ :: m, b :: bx => some b :: msk m bx
 | none :: m, _ :: bx => none :: msk m bx
 | _, _ => []
def ok1 : Rg → List Box → List (Option Box)
 | .one _ _ m _ _ _, bx => msk m bx
 | _, _ => []
def ok2 : Rg → List (Option Box)
 | .one _ _ m _ _ _ => m
 | _ => []
def putc (c : Cfg) (x : SV) : Cfg := ⟨match nxt c.rg with | some o => putO c.fr o.dst x | none => c.fr, c.bx, rgN c.rg, c.ks⟩
def i0o (P : Program) (c : Cfg) (A : List Nat) (w : World) : Option (Result Next) :=
 match nxt c.rg with
 | some o => match wnt (s0l c.rg) c.fr o with
  | true => some ((execOp (evr A c.fr) o).run P w)
  | false => none
 | none => none
def u0y (P : Program) (c : Cfg) : Option Eff :=
 match nxt c.rg with
 | some o => match wnt (s0l c.rg) c.fr o with
  | true => some (eff P c.bx c.fr o)
  | false => none
 | none => none
def i0h (P : Program) (c : Cfg) (A : List Nat) (w : World) : List (Result Next × Result Next) :=
 match nxt c.rg with
 | some o => j0q P c.bx c.fr o A w
 | none => []
def c1f (c : Cfg) (A : List Nat) : Option (BinOp × Value × Value) :=
 match nxt c.rg with
 | some o => match wnt (s0l c.rg) c.fr o with
  | true => match o.op with
   | .binOp b _ x y _ => some (b, evr A c.fr x, evr A c.fr y)
   | _ => none
  | false => none
 | none => none
section
variable {P : Program} {Q : Exit → Act → World → Prop} {E : List Nat} {w0 : World} {A : List Nat} {fs : List PF} {W : World} {c : Cfg} {o : Oper}
theorem p0q : ∀ {m : List (Option Box)} {bx : List Box}, msk m bx = m → ∀ k, k < m.length → 0 < (lk bx0 (m.map unm) k).cs.length → k < bx.length ∧ lk bx0 (m.map unm) k = lk bx0 bx k
 | [], _, _, _, h, _ => by simp at h
 | some b :: m, [], h, _, _, _ => by simp [msk] at h
 | none :: m, [], h, _, _, _ => by simp [msk] at h
 | some b :: m, b' :: bx, h, k, hk, hc => by
  simp only [msk, List.cons.injEq, Option.some.injEq] at h
  cases k with
  | zero => exact ⟨by simp, h.1.symm⟩
  | succ k =>
   have := p0q h.2 k (by simpa using hk) hc
   exact ⟨by simpa using this.1, this.2⟩
 | none :: m, b' :: bx, h, k, hk, hc => by
  simp only [msk, List.cons.injEq, true_and] at h
  cases k with
  | zero => simp [unm, lk, bx0] at hc
  | succ k =>
   have := p0q h k (by simpa using hk) hc
   exact ⟨by simpa using this.1, this.2⟩
theorem z0m {A A' : List Nat} (h : A <+: A') {k : Nat} (hk : k < A.length) : lk 0 A' k = lk 0 A k := by
 obtain ⟨B, rfl⟩ := h
 exact e0f 0 hk
theorem u0z {A A' : List Nat} (h : A <+: A') {l : List Box} (hw : wfB A.length l = true) (k : Nat) : (lk bx0 l k).row A' = (lk bx0 l k).row A := by
 obtain ⟨B, rfl⟩ := h
 unfold Box.row
 rw [p0o B rfl (m0m hw k)]
theorem x0t {bx : List Box} {A0 : List Nat} {m : List (Option Box)} (I : Inv E w0 A bx fs W) (h : PreD A0 m A) (hm : msk m bx = m) : SB A0 m W := fun k hk hc => by
 rw [List.length_map] at hk
 obtain ⟨k1, k2⟩ := p0q hm k hk hc
 have := I.bt k k1
 rw [← k2, z0m h.pre (by have := h.le; omega), u0z h.pre h.wf] at this
 exact this
theorem G_op (hn : nxt c.rg = some o)
 (h : ∀ K : Act → World → Prop, (∀ A' W' fr' bx', A <+: A' → Inv E w0 A' bx' fs W' → ok1 c.rg bx' = ok2 c.rg → G P Q A' ⟨fr', bx', rgN c.rg, c.ks⟩ W' → K (act A' fr') W') → OpW P (s0l c.rg) (post P Q c.ks) o K (act A c.fr) W) : G P Q A c W := by
 refine ⟨?_⟩
 obtain ⟨fr, bx, rg, ks⟩ := c
 cases rg with
 | off => cases hn
 | ret => cases hn
 | dr => cases hn
 | pl ops l =>
  cases l with
  | nil => cases hn
  | cons o' l =>
   simp only [nxt, Option.some.injEq] at hn
   subst hn
   exact u0p fun K hK => h K fun A' W' fr' bx' _ _ _ g => hK.out _ _ g.out
 | one ops A0 m fuel listed i =>
  intro pre
  exact ⟨o, hn, fun K hK => h K fun A' W' fr' bx' hA I' hm g => hK.out _ _ (x0t I' (pre.on hA) hm) (g.out (pre.on hA))⟩
theorem b0g {d : Option Nat} (I : Inv E w0 A c.bx fs W) (hr : ∀ A w, (zms P d 5000 c A w).map (·.1) = (zms P d 5000 c A w).map (·.2))
 (h : ∀ A W, Inv E w0 A (zr P d c).bx fs W → G P Q A (zr P d c) W) : G P Q A c W :=
 l0c 5000 I (fun A w => g0y (hr A w)) fun A' W' _ I' => by have := h A' W'; rw [d1l] at this; exact this I'
theorem z0n (I : Inv E w0 A c.bx fs W) {f : FuncId} {args : Array Value} {post : Ending → World → Prop} (hc : Calls P f args W post)
 (h : ∀ K : Value → World → Prop, (∀ v W', Below W.heap.size W W' → (Inv E w0 A (putc c (.v v)).bx fs W' → G P Q A (putc c (.v v)) W') → K v W') → ∀ e W', post e W' → ∃ v, e = .returned v ∧ K v W')
 (ho : i0o P c A W = some (.ok (.enter f args) W)) (hm : ok1 c.rg c.bx = ok2 c.rg) : G P Q A c W := by
 unfold i0o at ho
 split at ho
 · rename_i o hn
   split at ho
   · rename_i hw
     refine G_op (E := E) (w0 := w0) (fs := fs) hn fun K hK => j0o o.dst rfl f args (by rw [e0x]; exact hw) (by rw [b0u]; exact Option.some.inj ho) (hc.mono fun e W' hp => ?_)
     refine h (fun v W' => K ((act A c.fr).put o.dst v) W') (fun v W' hb hg => ?_) e W' hp
     have := hg (I.past hb)
     unfold putc at this
     rw [hn] at this
     have := hK A W' _ c.bx (List.prefix_refl _) (I.past hb) hm this
     rw [← c0o] at this
     exact this
   · cases ho
 · cases ho
theorem zg (I : Inv E w0 A c.bx fs W) {f : FuncId} {args : List Nat → World → Array Value} {post : List Nat → World → Ending → World → Prop}
 (hc : ∀ A W, Inv E w0 A (zr P none c).bx fs W → Calls P f (args A W) W (post A W))
 (h : ∀ A V, Inv E w0 A (zr P none c).bx fs V → w0.heap.size ≤ V.heap.size → (∀ v a, Fa A (putc (zr P none c) (.v v)).bx a → Fa A (zr P none c).bx a) → ∀ K : Value → World → Prop, (∀ v W, Below V.heap.size V W → (Inv E w0 A (putc (zr P none c) (.v v)).bx fs W → G P Q A (putc (zr P none c) (.v v)) W) → K v W) → ∀ e W, post A V e W → ∃ v, e = .returned v ∧ K v W)
 (ho : ∀ A w, i0o P (zr P none c) A w = some (.ok (.enter f (args A w)) w) := by intro _ _; kernel_rfl)
 (hr : ∀ A w, (zms P none 5000 c A w).map (·.1) = (zms P none 5000 c A w).map (·.2) := by intro _ _; kernel_rfl)
 (hm : ok1 (zr P none c).rg (zr P none c).bx = ok2 (zr P none c).rg := by kernel_rfl) : G P Q A c W :=
 b0g I hr fun A V I => z0n I (hc A V I) (h A V I I.bel.size fun _ _ h => h) (ho A V) hm
theorem zq (I : Inv E w0 A c.bx fs W) {f : FuncId} {args : List Nat → World → Array Value} {v : Value}
 (hc : ∀ A W, Inv E w0 A (zr P none c).bx fs W → Calls P f (args A W) W fun e w' => e = .returned v ∧ Below W.heap.size W w')
 (h : ∀ A W, Inv E w0 A (putc (zr P none c) (.v v)).bx fs W → G P Q A (putc (zr P none c) (.v v)) W)
 (ho : ∀ A w, i0o P (zr P none c) A w = some (.ok (.enter f (args A w)) w) := by intro _ _; kernel_rfl)
 (hr : ∀ A w, (zms P none 5000 c A w).map (·.1) = (zms P none 5000 c A w).map (·.2) := by intro _ _; kernel_rfl)
 (hm : ok1 (zr P none c).rg (zr P none c).bx = ok2 (zr P none c).rg := by kernel_rfl) : G P Q A c W :=
 zg I hc (fun A _ _ _ _ _ hK _ W hp => ⟨v, hp.1, hK v W hp.2 fun I => h A W I⟩) ho hr hm
def v0a (c : Cfg) (A : List Nat) : Option (Value × Array Value) :=
 match nxt c.rg with
 | some o => match wnt (s0l c.rg) c.fr o with
  | true => match o.op with
   | .call k => match k.callee with
    | .value x => some (evr A c.fr x, k.args.map (evr A c.fr))
    | _ => none
   | _ => none
  | false => none
 | none => none
theorem x0u {f : FuncId} {args : Array Value} (h : v0a c A = some (.func (.func f) #[] #[], args)) (hf : ∀ w, (callFunc f args).run P w = .ok (.enter f args) w) : i0o P c A W = some (.ok (.enter f args) W) := by
 unfold v0a at h
 unfold i0o
 split at h
 · rename_i o hn
   split at h
   · rename_i hw
     split at h
     · rename_i k hk
       split at h
       · rename_i x hx
         simp only [Option.some.injEq, Prod.mk.injEq] at h
         have := hf W
         unfold execOp
         simp only [hk]
         unfold resolve
         simp only [hx, h.1, h.2]
         simp [Deferred.ofValue, invoke, this]
       · cases h
     · cases h
   · cases h
 · cases h
theorem zgf (I : Inv E w0 A c.bx fs W) {f : FuncId} {args : List Nat → World → Array Value} {post : List Nat → World → Ending → World → Prop} (hf : ∀ args w, (callFunc f args).run P w = .ok (.enter f args) w)
 (hc : ∀ A W, Inv E w0 A (zr P none c).bx fs W → Calls P f (args A W) W (post A W))
 (h : ∀ A V, Inv E w0 A (zr P none c).bx fs V → w0.heap.size ≤ V.heap.size → (∀ v a, Fa A (putc (zr P none c) (.v v)).bx a → Fa A (zr P none c).bx a) → ∀ K : Value → World → Prop, (∀ v W, Below V.heap.size V W → (Inv E w0 A (putc (zr P none c) (.v v)).bx fs W → G P Q A (putc (zr P none c) (.v v)) W) → K v W) → ∀ e W, post A V e W → ∃ v, e = .returned v ∧ K v W)
 (ho : ∀ A w, v0a (zr P none c) A = some (.func (.func f) #[] #[], args A w) := by intro _ _; kernel_rfl)
 (hr : ∀ A w, (zms P none 5000 c A w).map (·.1) = (zms P none 5000 c A w).map (·.2) := by intro _ _; kernel_rfl)
 (hm : ok1 (zr P none c).rg (zr P none c).bx = ok2 (zr P none c).rg := by kernel_rfl) : G P Q A c W :=
 b0g I hr fun A V I => z0n I (hc A V I) (h A V I I.bel.size fun _ _ h => h) (x0u (ho A V) (hf _)) hm
def hdOp (c : Cfg) : Option Oper :=
 match nxt c.rg with
 | some o => match wnt (s0l c.rg) c.fr o with | true => some o | false => none
 | none => none
inductive VO where
 | ix (t : TypeId) (x i : Value)
 | ld (t : TypeId) (x : Value)
 | sl (t : TypeId) (x : Value) (lo hi mx : Option Value)
 | cv (s d : TypeId) (x : Value)
 | sx (t : TypeId) (x i : Value)
 | lk (t : TypeId) (x i : Value) (ok : Bool)
def VO.sem : VO → Sem Value
 | .ix t x i => Instr.indexAt t x i
 | .ld t x => Instr.loadAt t x
 | .sl t x lo hi mx => Instr.sliceAt t x lo hi mx
 | .cv s d x => convert s d x
 | .sx t x i => Instr.index t x i
 | .lk t x i ok => Instr.lookup t x i ok
def voOf (c : Cfg) (A : List Nat) : Option VO :=
 match hdOp c with
 | some o => match o.op with
  | .indexAddr t x i => some (.ix t (evr A c.fr x) (evr A c.fr i))
  | .load t x => some (.ld t (evr A c.fr x))
  | .slice t x lo hi mx => some (.sl t (evr A c.fr x) (lo.map (evr A c.fr)) (hi.map (evr A c.fr)) (mx.map (evr A c.fr)))
  | .convert s d x => some (.cv s d (evr A c.fr x))
  | .index t x i => some (.sx t (evr A c.fr x) (evr A c.fr i))
  | .lookup t x i ok => some (.lk t (evr A c.fr x) (evr A c.fr i) ok)
  | _ => none
 | none => none
theorem zx (I : Inv E w0 A c.bx fs W) (d : Nat) {vo : List Nat → VO} (v : List Nat → Value) (hx : ∀ A W, Inv E w0 A (zr P (some d) c).bx fs W → (vo A).sem.run P W = .ok (v A) W)
 (h : ∀ A W, Inv E w0 A (putc (zr P (some d) c) (.v (v A))).bx fs W → G P Q A (putc (zr P (some d) c) (.v (v A))) W)
 (hv : ∀ A, voOf (zr P (some d) c) A = some (vo A) := by intro _; kernel_rfl)
 (hr : ∀ A w, (zms P (some d) 5000 c A w).map (·.1) = (zms P (some d) 5000 c A w).map (·.2) := by intro _ _; kernel_rfl)
 (hm : ok1 (zr P (some d) c).rg (zr P (some d) c).bx = ok2 (zr P (some d) c).rg := by kernel_rfl) : G P Q A c W :=
 b0g I hr fun A W I => by
  have hv9 := hv A
  have h9 := h A W
  have hx9 := hx A W I
  clear hv h hx hr
  generalize zr P (some d) c = c at *
  unfold voOf hdOp at hv9
  split at hv9
  · rename_i o hn'
    split at hn'
    · rename_i o' hn
      split at hn'
      · rename_i hw
        simp only [Option.some.injEq] at hn'
        subst hn'
        refine G_op (E := E) (w0 := w0) (fs := fs) hn fun K hK => m0j o'.dst rfl (v A) (by rw [e0x]; exact hw) ?_ ?_
        · rw [b0u]
          unfold execOp
          cases hop : o'.op <;> simp only [hop] at hv9 ⊢ <;> first | (cases hv9; done) | (simp only [Option.some.injEq] at hv9; rw [← hv9] at hx9; unfold VO.sem at hx9; simp only [Sem.run_bind, hx9, Result.andThen_ok, Sem.run_pure])
        · have h := h9 I
          unfold putc at h
          rw [hn] at h
          have := hK A W _ c.bx (List.prefix_refl _) I hm h
          rw [show v A = (SV.v (v A)).r A from rfl, c0o]
          exact this
      · cases hn'
    · cases hn'
  · cases hv9
theorem d1m (I : Inv E w0 A c.bx fs W) (x y : SV) (hxy : x.r A = y.r A) (h : Inv E w0 A (putc c y).bx fs W → G P Q A (putc c y) W) (hv : u0y P c = some (.val x)) (hc : ∀ A w, j0r (i0h P c A w)) (hm : ok1 c.rg c.bx = ok2 c.rg) : G P Q A c W := by
 unfold u0y at hv
 split at hv
 · rename_i o hn
   split at hv
   · rename_i hw
     have hv := Option.some.inj hv
     have hc := hc A W
     unfold i0h at hc
     rw [hn] at hc
     replace h := h I
     refine G_op (E := E) (w0 := w0) (fs := fs) hn fun K hK => m0j o.dst rfl (x.r A) (by rw [e0x]; exact hw) (m0l I.ok hv hc) ?_
     unfold putc at h
     rw [hn] at h
     have := hK A W _ c.bx (List.prefix_refl _) I hm h
     rw [hxy, c0o]
     exact this
   · cases hv
 · cases hv
theorem zs (I : Inv E w0 A c.bx fs W) (d : Nat) (x y : SV) (hxy : ∀ A, x.r A = y.r A) (h : ∀ A W, Inv E w0 A (putc (zr P (some d) c) y).bx fs W → G P Q A (putc (zr P (some d) c) y) W)
 (hv : u0y P (zr P (some d) c) = some (.val x) := by kernel_rfl)
 (hc : ∀ A w, (i0h P (zr P (some d) c) A w).map (·.1) = (i0h P (zr P (some d) c) A w).map (·.2) := by intro _ _; kernel_rfl)
 (hr : ∀ A w, (zms P (some d) 5000 c A w).map (·.1) = (zms P (some d) 5000 c A w).map (·.2) := by intro _ _; kernel_rfl)
 (hm : ok1 (zr P (some d) c).rg (zr P (some d) c).bx = ok2 (zr P (some d) c).rg := by kernel_rfl) : G P Q A c W :=
 b0g I hr fun A W I => d1m I x y (hxy A) (h A W) hv (fun A w => g0y (hc A w)) hm
theorem zi (I : Inv E w0 A c.bx fs W) (d : Nat) (k : IntKind) (t e : Int) (hp : k.wrap t = e) (h : ∀ A W, Inv E w0 A (putc (zr P (some d) c) (.v (.int k e))).bx fs W → G P Q A (putc (zr P (some d) c) (.v (.int k e))) W)
 (hv : u0y P (zr P (some d) c) = some (.val (.v (.int k (k.wrap t)))) := by kernel_rfl)
 (hc : ∀ A w, (i0h P (zr P (some d) c) A w).map (·.1) = (i0h P (zr P (some d) c) A w).map (·.2) := by intro _ _; kernel_rfl)
 (hr : ∀ A w, (zms P (some d) 5000 c A w).map (·.1) = (zms P (some d) 5000 c A w).map (·.2) := by intro _ _; kernel_rfl)
 (hm : ok1 (zr P (some d) c).rg (zr P (some d) c).bx = ok2 (zr P (some d) c).rg := by kernel_rfl) : G P Q A c W :=
 zs I d (.v (.int k (k.wrap t))) (.v (.int k e)) (fun _ => by show Value.int k (k.wrap t) = .int k e; rw [hp]) h hv hc hr hm
theorem zb (I : Inv E w0 A c.bx fs W) (d : Nat) (e b : Bool) (hp : e = b) (h : ∀ A W, Inv E w0 A (putc (zr P (some d) c) (.v (.bool b))).bx fs W → G P Q A (putc (zr P (some d) c) (.v (.bool b))) W)
 (hv : u0y P (zr P (some d) c) = some (.val (.v (.bool e))) := by kernel_rfl)
 (hc : ∀ A w, (i0h P (zr P (some d) c) A w).map (·.1) = (i0h P (zr P (some d) c) A w).map (·.2) := by intro _ _; kernel_rfl)
 (hr : ∀ A w, (zms P (some d) 5000 c A w).map (·.1) = (zms P (some d) 5000 c A w).map (·.2) := by intro _ _; kernel_rfl)
 (hm : ok1 (zr P (some d) c).rg (zr P (some d) c).bx = ok2 (zr P (some d) c).rg := by kernel_rfl) : G P Q A c W :=
 zs I d (.v (.bool e)) (.v (.bool b)) (fun _ => by rw [hp]) h hv hc hr hm
theorem zbin (I : Inv E w0 A c.bx fs W) (d : Nat) {b : BinOp} {X Y : List Nat → Value} (v : Value)
 (hx : ∀ A t x y W, (do eqGuard b t x y (X A) (Y A); binOp b t (X A) (Y A) : Sem Value).run P W = .ok v W) (h : ∀ A W, Inv E w0 A (putc (zr P (some d) c) (.v v)).bx fs W → G P Q A (putc (zr P (some d) c) (.v v)) W)
 (hv : ∀ A, c1f (zr P (some d) c) A = some (b, X A, Y A) := by intro _; kernel_rfl)
 (hr : ∀ A w, (zms P (some d) 5000 c A w).map (·.1) = (zms P (some d) 5000 c A w).map (·.2) := by intro _ _; kernel_rfl)
 (hm : ok1 (zr P (some d) c).rg (zr P (some d) c).bx = ok2 (zr P (some d) c).rg := by kernel_rfl) : G P Q A c W :=
 b0g I hr fun A W I => by
  have hv := hv A
  have h := h A W I
  generalize zr P (some d) c = c at *
  unfold c1f at hv
  split at hv
  · rename_i o hn
    split at hv
    · rename_i hw
      split at hv
      · rename_i b' t' x y t2 hop
        simp only [Option.some.injEq, Prod.mk.injEq] at hv
        obtain ⟨rfl, h1, h2⟩ := hv
        refine G_op (E := E) (w0 := w0) (fs := fs) hn fun K hK => m0j o.dst rfl v (by rw [e0x]; exact hw) ?_ ?_
        · rw [b0u]
          unfold execOp
          have := hx A t' x y W
          simp only [hop, h1, h2, Sem.run_bind] at this ⊢
          rw [this]
          rfl
        · unfold putc at h
          rw [hn] at h
          have := hK A W _ c.bx (List.prefix_refl _) I hm h
          rw [show v = (SV.v v).r A from rfl, c0o]
          exact this
      · cases hv
    · cases hv
  · cases hv
end
/-! ### What a function answers -/
def resO (P : Program) (c : Cfg) : List ResultVar → Option (List SV)
 | [] => some []
 | .tmp t :: l => match resO P c l with
  | some r => some (lk (.v undef) c.fr t :: r)
  | none => none
 | .cell a ty :: l => match lk (.v undef) c.fr a with
  | .p k off => match ldB P c.bx ty k off with
   | some x => match resO P c l with
    | some r => some (x :: r)
    | none => none
   | none => none
  | _ => none
def resV (A : List Nat) : Option (List SV) → Option Value
 | some [x] => some (x.r A)
 | some l => some (.tuple (l.map (SV.r A)).toArray)
 | none => none
def c1g (c : Cfg) : Bool :=
 match c.rg with
 | .ret => true
 | .off => match c.ks with
  | [] => true
  | _ => false
 | _ => false
section
variable {P : Program} {fn : Func} {R : Ending → World → Prop} {E : List Nat} {w0 : World} {A : List Nat} {fs : List PF} {W : World} {c : Cfg} {o : Oper}
theorem m0n (I : Inv E w0 A c.bx fs W) : ∀ (rs : List ResultVar) {xs : List SV}, resO P c rs = some xs → (rs.mapM (rvS (act A c.fr).tmps)).run P W = .ok (xs.map (SV.r A)) W
 | [], xs, h => by
  simp only [resO, Option.some.injEq] at h
  subst h
  rfl
 | .tmp t :: l, xs, h => by
  unfold resO at h
  split at h
  · rename_i r hr
    simp only [Option.some.injEq] at h
    subst h
    have ih := m0n I l hr
    rw [List.mapM_cons]
    simp only [rvS, Sem.run_bind, Sem.run_pure, Result.andThen_ok, ih, List.map_cons]
    congr 3
    exact congrFun (b0u A c.fr) (.tmp t)
  · cases h
 | .cell a ty :: l, xs, h => by
  unfold resO at h
  split at h
  · rename_i k off hp
    split at h
    · rename_i x hx
      split at h
      · rename_i r hr
        simp only [Option.some.injEq] at h
        subst h
        have ih := m0n I l hr
        have h2 := z0j (P := P) I.ok hx
        have he : (act A c.fr).tmps.getD a undef = .pointer (some ⟨lk 0 A k, off, none⟩) := by
         have := congrFun (b0u A c.fr) (.tmp a)
         refine this.trans ?_
         show SV.r A (lk (.v undef) c.fr a) = _
         rw [hp]; rfl
        simp only [Instr.loadAt, Instr.sureAddr, Sem.run_bind, Sem.run_pure, Result.andThen_ok] at h2
        rw [List.mapM_cons]
        simp only [rvS, he, asAddr, Sem.run_bind, Sem.run_pure, Result.andThen_ok, h2, ih, List.map_cons]
      · cases h
    · cases h
  · cases h
theorem a1n (I : Inv E w0 A c.bx fs W) {v : Value} (h : resV A (resO P c fn.results.toList) = some v) : (results fn (act A c.fr).tmps).run P W = .ok v W := by
 cases hx : resO P c fn.results.toList with
 | none => rw [hx] at h; cases h
 | some xs =>
  rw [hx] at h
  have := m0n I _ hx
  rw [s0i, ← Array.toArray_toList (xs := fn.results), List.mapM_toArray]
  rw [Sem.run_bind]
  simp only [map_eq_pure_bind, Sem.run_bind, this, Result.andThen_ok, Sem.run_pure]
  congr 1
  match xs, h with
  | [], h => simpa [resV] using h
  | [x], h => simpa [resV] using h
  | x :: y :: l, h => simpa [resV] using h
theorem zret (I : Inv E w0 A c.bx fs W) {v : List Nat → Value} (h : ∀ A W, Inv E w0 A (zr P none c).bx fs W → R (.returned (v A)) W)
 (hv : ∀ A, resV A (resO P (zr P none c) fn.results.toList) = some (v A) := by intro _; kernel_rfl)
 (hr : ∀ A w, (zms P none 5000 c A w).map (·.1) = (zms P none 5000 c A w).map (·.2) := by intro _ _; kernel_rfl)
 (hi : c1g (zr P none c) = true := by kernel_rfl) : G P (bodyPost P fn R) A c W :=
 b0g I hr fun A W I => by
  have hv9 := a1n I (hv A)
  have h9 := h A W I
  clear h hv
  generalize zr P none c = c at *
  refine ⟨?_⟩
  obtain ⟨fr, bx, rg, ks⟩ := c
  cases rg with
  | ret =>
   have : ∀ ks, post P (bodyPost P fn R) ks .ret (act A fr) W := fun ks => by
    induction ks with
    | nil => exact ⟨rfl, _, hv9, h9⟩
    | cons k ks ih => cases k <;> exact ih
   exact this ks
  | off =>
   cases ks with
   | nil => exact ⟨rfl, _, hv9, h9⟩
   | cons => cases hi
  | pl => cases hi
  | dr => cases hi
  | one => cases hi
theorem zrb (I : Inv [] w0 A c.bx fs W) {v : Value}
 (hv : ∀ A, resV A (resO P (zr P none c) fn.results.toList) = some v := by intro _; kernel_rfl)
 (hr : ∀ A w, (zms P none 5000 c A w).map (·.1) = (zms P none 5000 c A w).map (·.2) := by intro _ _; kernel_rfl)
 (hi : c1g (zr P none c) = true := by kernel_rfl) : G P (bodyPost P fn fun en w' => en = .returned v ∧ Below w0.heap.size w0 w') A c W :=
 zret (v := fun _ => v) I (fun _ _ I => ⟨rfl, I.below⟩) hv hr hi
end
/-! ### Drawn regions -/
def f0i (Q : Exit → Act → World → Prop) : Prop := ∀ ch a d v w, Q (.panic ch) (Act.put a d v) w → Q (.panic ch) a w
theorem d0t {P : Program} {fn : Func} {R : Ending → World → Prop} : f0i (bodyPost P fn R) := fun ch a d v w h => by
 cases d <;> exact h
theorem e0k {P : Program} {Q : Exit → Act → World → Prop} (hQ : f0i Q) : ∀ ks, f0i (post P Q ks)
 | [] => hQ
 | .code _ :: ks => fun ch a d v w h => e0k hQ ks ch a d v w h
 | .block _ :: ks => fun ch a d v w h => e0k hQ ks ch a d v w h
 | .stop _ :: ks => fun ch a d v w h => e0k hQ ks ch a d v w h
def memN (k : Nat) : List Nat → Bool
 | [] => false
 | x :: l => match Nat.beq k x with | true => true | false => memN k l
def mkM (ex : List Nat) : Nat → List Box → List (Option Box)
 | _, [] => []
 | k, b :: l => (match memN k ex with | true => none | false => some b) :: mkM ex (k + 1) l
theorem v0b (ex : List Nat) : ∀ (l : List Box) (k : Nat), (mkM ex k l).length = l.length
 | [], _ => rfl
 | _ :: l, k => by simp [mkM, v0b ex l]
theorem p0r (ex : List Nat) : ∀ (l : List Box) (k : Nat), msk (mkM ex k l) l = mkM ex k l
 | [], _ => rfl
 | b :: l, k => by
  unfold mkM
  split
  · simp [msk, p0r ex l]
  · simp [msk, p0r ex l]
def c1h (c : Cfg) : Bool :=
 match c.rg, c.ks with
 | .off, .code (.region _ _ true) :: _ => true
 | _, _ => false
def c1i (ex : List Nat) (c : Cfg) (A : List Nat) : Cfg :=
 match c.rg, c.ks with
 | .off, .code (.region _ ops true) :: ks => ⟨c.fr, c.bx, .dr ops A (mkM ex 0 c.bx) ops.size (Array.replicate ops.size false), ks⟩
 | _, _ => c
def m0o (P : Program) (i : Nat) (c : Cfg) : Cfg :=
 match c.rg with
 | .dr ops A0 m (fuel + 1) listed => match ops[i]? with
  | some o => match wnt ops c.fr o with
   | false => ⟨putO c.fr o.dst (.v undef), c.bx, .dr ops A0 m fuel (listed.setIfInBounds i true), c.ks⟩
   | true => match eff P (m.map unm) c.fr o with
    | .val x => ⟨putO c.fr o.dst x, c.bx, .dr ops A0 m fuel (listed.setIfInBounds i true), c.ks⟩
    | _ => c
  | none => c
 | _ => c
def p0s (P : Program) (i : Nat) (c : Cfg) : Bool :=
 match c.rg with
 | .dr ops _ m (_ + 1) listed => match ops[i]? with
  | some o => match Region.noSelect ops && Region.free .any ops listed i && (Region.ready .any ops listed).contains i with
   | true => match wnt ops c.fr o with
    | false => true
    | true => match eff P (m.map unm) c.fr o with
     | .val _ => true
     | _ => false
   | false => false
  | none => false
 | _ => false
def c0f (P : Program) (i : Nat) (c : Cfg) (A : List Nat) (w : World) : List (Result Next × Result Next) :=
 match c.rg with
 | .dr ops _ m _ _ => match ops[i]? with
  | some o => match wnt ops c.fr o with
   | false => []
   | true => j0q P (m.map unm) c.fr o A w
  | none => []
 | _ => []
def a1o (P : Program) : List Nat → Cfg → Cfg
 | [], c => c
 | i :: is, c => a1o P is (m0o P i c)
def v0c (P : Program) : List Nat → Cfg → Bool
 | [], _ => true
 | i :: is, c => match p0s P i c with | true => v0c P is (m0o P i c) | false => false
def m0p (P : Program) : List Nat → Cfg → List Nat → World → List (Result Next × Result Next)
 | [], _, _, _ => []
 | i :: is, c, A, w => c0f P i c A w ++ m0p P is (m0o P i c) A w
def dk1 : Rg → List Box → List (Option Box)
 | .dr _ _ m _ _, bx => msk m bx
 | _, _ => []
def dk2 : Rg → List (Option Box)
 | .dr _ _ m _ _ => m
 | _ => []
def a1p (c : Cfg) : Prop := dk1 c.rg c.bx = dk2 c.rg
def p0t (c : Cfg) : Option (List Nat) :=
 match c.rg with
 | .dr ops _ _ (_ + 1) listed => some (Region.ready .any ops listed)
 | _ => none
def oneC (i : Nat) (c : Cfg) : Cfg :=
 match c.rg with
 | .dr ops A0 m (fuel + 1) listed => ⟨c.fr, c.bx, .one ops A0 m fuel listed i, c.ks⟩
 | _ => c
section
variable {P : Program} {Q : Exit → Act → World → Prop} {E : List Nat} {w0 : World} {A : List Nat} {fs : List PF} {W : World} {c : Cfg} {o : Oper}
theorem c1j {A0 : List Nat} {m : List (Option Box)} {w : World} (h : PreD A0 m A) (hS : SB A0 m w) : BtOk A (m.map unm) w := fun k hk hc => by
 have := hS k hk hc
 rw [List.length_map] at hk
 rw [z0m h.pre (by have := h.le; omega), u0z h.pre h.wf]
 exact this
theorem p0u (hQ : f0i Q) (I : Inv E w0 A c.bx fs W) (hm : a1p c) (i : Nat) (h : G P Q A (m0o P i c) W) (ho : p0s P i c = true) (hc : ∀ A w, j0r (c0f P i c A w)) : G P Q A c W := by
 refine ⟨?_⟩
 have h := h.out
 obtain ⟨fr, bx, rg, ks⟩ := c
 cases rg with
 | off => cases ho
 | pl => cases ho
 | one => cases ho
 | ret => cases ho
 | dr ops A0 m fuel listed =>
  cases fuel with
  | zero => cases ho
  | succ fuel =>
   unfold p0s at ho
   unfold m0o at h
   unfold c0f at hc
   simp only at ho h hc
   intro pre
   split at ho
   · rename_i o hi
     rw [hi] at h hc
     split at ho
     · rename_i h1
       simp only [Bool.and_eq_true] at h1
       obtain ⟨⟨h1, h2⟩, h3⟩ := h1
       have hS : SB A0 m W := x0t I pre hm
       have hP := fun (x : Value) c a w => e0k (P := P) hQ ks c a o.dst x w
       cases hw : wnt ops fr o with
       | false =>
        simp only [hw] at h
        have h : WpH P ops (post P Q ks) (SB A0 m) fuel (listed.setIfInBounds i true) (act A (putO fr o.dst (.v undef))) W := h pre
        rw [← c0o] at h
        exact p0m i o.dst undef _ hi rfl rfl h1 h2 h3 (hP undef) (.inr ⟨by rw [e0x]; exact hw, rfl⟩) hS h
       | true =>
        simp only [hw] at h ho hc
        split at ho
        · rename_i x hx
          rw [hx] at h
          simp only at h
          have h : WpH P ops (post P Q ks) (SB A0 m) fuel (listed.setIfInBounds i true) (act A (putO fr o.dst x)) W := h pre
          rw [← c0o] at h
          exact p0m i o.dst (x.r A) _ hi rfl rfl h1 h2 h3 (hP _) (.inl ⟨by rw [e0x]; exact hw, fun w' hS' => m0l (c1j pre hS') hx (hc A w')⟩) hS h
        · cases ho
     · cases ho
   · cases ho
theorem v0d (i : Nat) (hm : a1p c) : a1p (m0o P i c) := by
 obtain ⟨fr, bx, rg, ks⟩ := c
 cases rg with
 | dr ops A0 m fuel listed =>
  cases fuel with
  | zero => exact hm
  | succ fuel =>
   unfold m0o
   simp only
   split
   · split
     · exact hm
     · split
       · exact hm
       · exact hm
   · exact hm
 | _ => exact hm
theorem x0v (i : Nat) : (m0o P i c).bx = c.bx := by
 unfold m0o
 repeat' split
 all_goals rfl
theorem zk (is : List Nat) (I : Inv E w0 A c.bx fs W) (h : Inv E w0 A (nrm (a1o P is c)).bx fs W → G P Q A (nrm (a1o P is c)) W) (ho : v0c P is c = true := by kernel_rfl)
 (hc : ∀ A w, (m0p P is c A w).map (·.1) = (m0p P is c A w).map (·.2) := by intro _ _; kernel_rfl) (hm : dk1 c.rg c.bx = dk2 c.rg := by kernel_rfl) (hQ : f0i Q := by exact d0t) : G P Q A c W := by
 rw [z0l] at h
 replace hc := fun A w => g0y (hc A w)
 induction is generalizing c with
 | nil => exact h I
 | cons i is ih =>
  unfold v0c at ho
  split at ho
  · rename_i h1
    refine p0u hQ I hm i (ih (by rw [x0v]; exact I) h ho (v0d i hm) fun A w => (c0j (hc A w)).2) h1 fun A w => (c0j (hc A w)).1
  · cases ho
theorem zd (ex : List Nat) (I : Inv E w0 A c.bx fs W) (h : ∀ A W, Inv E w0 A (c1i ex (zr P none c) A).bx fs W → G P Q A (c1i ex (zr P none c) A) W)
 (hr : ∀ A w, (zms P none 5000 c A w).map (·.1) = (zms P none 5000 c A w).map (·.2) := by intro _ _; kernel_rfl)
 (hd : c1h (zr P none c) = true := by kernel_rfl) (hw : wfB (zr P none c).bx.length ((mkM ex 0 (zr P none c).bx).map unm) = true := by kernel_rfl) (hm : P.follows .mixedOrders = true := by kernel_rfl) : G P Q A c W :=
 b0g I hr fun A W I => by
  have h := h A
  generalize zr P none c = c at *
  refine ⟨?_⟩
  obtain ⟨fr, bx, rg, ks⟩ := c
  cases rg with
  | pl => cases hd
  | dr => cases hd
  | one => cases hd
  | ret => cases hd
  | off =>
   cases ks with
   | nil => cases hd
   | cons k ks =>
    cases k with
    | block => cases hd
    | stop => cases hd
    | code x =>
     cases x with
     | region id ops b =>
      cases b with
      | false => cases hd
      | true =>
       have I2 := I.past (W' := W.drew) (Below.refl _ _).drew
       have hp : PreD A (mkM ex 0 bx) A := ⟨List.prefix_refl _, by rw [v0b, I.len]; exact Nat.le_refl _, by rw [I.len]; exact hw⟩
       have h := (h W.drew I2).out
       exact sxd P _ rfl (x0t I2 hp (p0r ex bx 0)) (h hp) hm
     | _ => cases hd
theorem zor (rs : List Nat) (h : ∀ i ∈ rs, G P Q A (oneC i c) W) (hr : p0t c = some rs) (hne : rs.isEmpty = false) : G P Q A c W := by
 refine ⟨?_⟩
 obtain ⟨fr, bx, rg, ks⟩ := c
 cases rg with
 | off => cases hr
 | pl => cases hr
 | one => cases hr
 | ret => cases hr
 | dr ops A0 m fuel listed =>
  cases fuel with
  | zero => cases hr
  | succ fuel =>
   intro pre
   refine x0o rs (Option.some.inj hr) hne ?_
   clear hr hne
   induction rs with
   | nil => exact a1j
   | cons i rs ih =>
    obtain ⟨o, ho, hk⟩ := (h i (by simp)).out pre
    exact x0p _ ho rfl hk (ih fun j hj => h j (by simp [hj]))
theorem p0v (i : Nat) : (oneC i c).bx = c.bx := by
 unfold oneC
 split <;> rfl
theorem zo (i : Nat) (I : Inv E w0 A c.bx fs W) (h : Inv E w0 A (oneC i c).bx fs W → G P Q A (oneC i c) W) (hr : p0t c = some [i] := by kernel_rfl) : G P Q A c W := zor [i] (fun j hj => by rw [List.mem_singleton] at hj; subst hj; exact h (by rw [p0v]; exact I)) hr rfl
theorem zo2 (i j : Nat) (I : Inv E w0 A c.bx fs W) (h : Inv E w0 A (oneC i c).bx fs W → G P Q A (oneC i c) W) (k : Inv E w0 A (oneC j c).bx fs W → G P Q A (oneC j c) W) (hr : p0t c = some [i, j] := by kernel_rfl) : G P Q A c W :=
 zor [i, j] (fun x hx => by simp only [List.mem_cons, List.not_mem_nil, or_false] at hx; rcases hx with rfl | rfl <;> first | exact h (by rw [p0v]; exact I) | exact k (by rw [p0v]; exact I)) hr rfl
/-! ### Loops, and where ways come together -/
def v0e (c : Cfg) : Option (Code × List Kt) :=
 match c.rg, c.ks with
 | .off, .code (.loop b) :: ks => some (b, ks)
 | _, _ => none
def l0d (c : Cfg) (fr : List SV) (bx : List Box) (J : Act → World → Prop) : Cfg :=
 match v0e c with
 | some (b, ks) => ⟨fr, bx, .off, .code b :: .stop J :: ks⟩
 | none => c
def uOf (c : Cfg) (A : List Nat) : Nat → Value := fun i => (lk (.v undef) c.fr i).r A
abbrev vu : SV := .v undef
def su : Nat → List SV → List SV
 | 0, l => l
 | n + 1, l => .v undef :: su n l
def sw (U : Nat → Value) : Nat → Nat → List SV → List SV
 | _, 0, l => l
 | i, n + 1, l => .v (U i) :: sw U (i + 1) n l
theorem d1n (I : Inv E w0 A c.bx fs W) (L : Nat → List SV → List Box → List PF → Prop) (n0 : Nat) {fr : List Nat → (Nat → Value) → List SV} {bx : List Nat → (Nat → Value) → List Box}
 (h0 : ∀ A W U, Inv E w0 A (bx A U) fs W → ∃ gs, L n0 (fr A U) (bx A U) gs ∧ Inv E w0 A (bx A U) gs W)
 (h : ∀ J n fr bx gs, L n fr bx gs → (∀ n' fr' bx' gs' A W, n' < n → L n' fr' bx' gs' → Inv E w0 A bx' gs' W → J (act A fr') W) → ∀ A W, Inv E w0 A (l0d (zr P none c) fr bx J).bx gs W → G P Q A (l0d (zr P none c) fr bx J) W)
 (hr : ∀ A w, (zms P none 5000 c A w).map (·.1) = (zms P none 5000 c A w).map (·.2) := by intro _ _; kernel_rfl)
 (hf : ∀ A, (zr P none c).fr.map (SV.r A) = (fr A (uOf (zr P none c) A)).map (SV.r A) := by intro _; kernel_rfl)
 (hb : ∀ A, (zr P none c).bx = bx A (uOf (zr P none c) A) := by intro _; kernel_rfl)
 (hl : (v0e (zr P none c)).isSome = true := by kernel_rfl) : G P Q A c W :=
 b0g I hr fun A W I => by
  have h9 := h0 A W (uOf (zr P none c) A) (by rw [← hb A]; exact I)
  have hf := hf A
  clear h0 hb
  generalize zr P none c = c at *
  refine ⟨?_⟩
  obtain ⟨gs, h9, I9⟩ := h9
  obtain ⟨cf, cb, rg, ks⟩ := c
  cases rg with
  | pl => cases hl
  | dr => cases hl
  | one => cases hl
  | ret => cases hl
  | off =>
   cases ks with
   | nil => cases hl
   | cons k ks =>
    cases k with
    | block => cases hl
    | stop => cases hl
    | code b =>
     cases b with
     | loop b =>
      refine wp_loop_ghost (fun n a w => ∃ fr bx gs A, L n fr bx gs ∧ a = act A fr ∧ Inv E w0 A bx gs w) n0 ⟨_, _, gs, A, h9, by unfold act; rw [hf], I9⟩ ?_
      rintro n a w ⟨fr, bx, gs, A, hL, rfl, I⟩
      exact (h (fun a w => ∃ n', n' < n ∧ ∃ fr bx gs A, L n' fr bx gs ∧ a = act A fr ∧ Inv E w0 A bx gs w) n fr bx gs hL (fun n' fr' bx' gs' A W hn hL I => ⟨n', hn, fr', bx', gs', A, hL, rfl, I⟩) A w I).out
     | _ => cases hl
def z0o (c : Cfg) : Option (Act → World → Prop) :=
 match c.rg, c.ks with
 | .off, .stop J :: _ => some J
 | _, _ => none
theorem d0k (I : Inv E w0 A c.bx fs W) (J : Act → World → Prop) {fr : List Nat → (Nat → Value) → List SV} {bx : List Nat → (Nat → Value) → List Box} (h : ∀ A W U, Inv E w0 A (bx A U) fs W → J (act A (fr A U)) W)
 (hr : ∀ A w, (zms P none 5000 c A w).map (·.1) = (zms P none 5000 c A w).map (·.2) := by intro _ _; kernel_rfl)
 (hf : ∀ A, (zr P none c).fr.map (SV.r A) = (fr A (uOf (zr P none c) A)).map (SV.r A) := by intro _; kernel_rfl)
 (hb : ∀ A, (zr P none c).bx = bx A (uOf (zr P none c) A) := by intro _; kernel_rfl)
 (hs : z0o (zr P none c) = some J := by kernel_rfl) : G P Q A c W :=
 b0g I hr fun A W I => by
  have h := h A W (uOf (zr P none c) A) (by rw [← hb A]; exact I)
  have hf := hf A
  clear hb
  unfold act at h
  rw [← hf] at h
  generalize zr P none c = c at *
  refine ⟨?_⟩
  obtain ⟨cf, cb, rg, ks⟩ := c
  cases rg with
  | pl => cases hs
  | dr => cases hs
  | one => cases hs
  | ret => cases hs
  | off =>
   cases ks with
   | nil => cases hs
   | cons k ks =>
    cases k with
    | block => cases hs
    | code => cases hs
    | stop J' =>
     obtain rfl : J' = J := Option.some.inj hs
     exact h
def cut1 (c : Cfg) (J : Act → World → Prop) : Cfg :=
 match c.ks with
 | k :: ks => ⟨c.fr, c.bx, c.rg, k :: .stop J :: ks⟩
 | [] => c
def cut2 (c : Cfg) (fr : List SV) (bx : List Box) : Cfg :=
 match c.ks with
 | _ :: ks => ⟨fr, bx, .off, ks⟩
 | [] => c
def c1k (c : Cfg) : Bool :=
 match c.rg, c.ks with
 | .off, .code _ :: _ => true
 | _, _ => false
theorem zcut (I : Inv E w0 A c.bx fs W) (d : Option Nat) (L : List SV → List Box → List PF → Prop)
 (h1 : ∀ J, (∀ fr bx gs A W, L fr bx gs → Inv E w0 A bx gs W → J (act A fr) W) → ∀ A W, Inv E w0 A (cut1 (zr P d c) J).bx fs W → G P Q A (cut1 (zr P d c) J) W)
 (h2 : ∀ fr bx gs, L fr bx gs → ∀ A W, Inv E w0 A (cut2 (zr P d c) fr bx).bx gs W → G P Q A (cut2 (zr P d c) fr bx) W)
 (hr : ∀ A w, (zms P d 5000 c A w).map (·.1) = (zms P d 5000 c A w).map (·.2) := by intro _ _; kernel_rfl)
 (hi : c1k (zr P d c) = true := by kernel_rfl) : G P Q A c W :=
 b0g I hr fun A W I => by
  have h1 := fun J hJ => h1 J hJ A W
  have h2 := fun fr bx gs hL A W I => (h2 fr bx gs hL A W I).out
  generalize zr P d c = c at *
  refine ⟨?_⟩
  obtain ⟨cf, cb, rg, ks⟩ := c
  cases rg with
  | pl => cases hi
  | dr => cases hi
  | one => cases hi
  | ret => cases hi
  | off =>
   cases ks with
   | nil => cases hi
   | cons k ks =>
    cases k with
    | block => cases hi
    | stop => cases hi
    | code b =>
     refine wp_mono (h1 (fun a w => ∃ fr bx gs A, L fr bx gs ∧ a = act A fr ∧ Inv E w0 A bx gs w) (fun fr bx gs A W hL I => ⟨fr, bx, gs, A, hL, rfl, I⟩) I).out ?_
     intro e a w hq
     cases e with
     | normal =>
      obtain ⟨fr, bx, gs, A, hL, rfl, I⟩ := hq
      exact h2 fr bx gs hL A w I
     | exit id => exact hq
     | goto l => exact hq
     | ret => exact hq
     | panic ch => exact hq
     | outgrown => exact hq
def m0q (i : Nat) (y : SV) (c : Cfg) : Cfg :=
 match c.rg with
 | .dr ops A0 m (fuel + 1) listed => match ops[i]? with
  | some o => ⟨putO c.fr o.dst y, c.bx, .dr ops A0 m fuel (listed.setIfInBounds i true), c.ks⟩
  | none => c
 | _ => c
def m0r (P : Program) (i : Nat) (c : Cfg) : Option Eff :=
 match c.rg with
 | .dr ops _ m (_ + 1) listed => match ops[i]? with
  | some o => match Region.noSelect ops && Region.free .any ops listed i && (Region.ready .any ops listed).contains i && wnt ops c.fr o with
   | true => some (eff P (m.map unm) c.fr o)
   | false => none
  | none => none
 | _ => none
theorem x0w (i : Nat) (y : SV) : (m0q i y c).bx = c.bx := by
 unfold m0q
 repeat' split
 all_goals rfl
theorem ztk (i : Nat) (I : Inv E w0 A c.bx fs W) (x y : SV) (hxy : ∀ A, x.r A = y.r A) (h : Inv E w0 A (m0q i y c).bx fs W → G P Q A (m0q i y c) W) (hv : m0r P i c = some (.val x) := by kernel_rfl)
 (hc : ∀ A w, (c0f P i c A w).map (·.1) = (c0f P i c A w).map (·.2) := by intro _ _; kernel_rfl) (hm : dk1 c.rg c.bx = dk2 c.rg := by kernel_rfl) (hQ : f0i Q := by exact d0t) : G P Q A c W := by
 refine ⟨?_⟩
 have h := (h (by rw [x0w]; exact I)).out
 replace hc := fun A w => g0y (hc A w)
 obtain ⟨cf, cb, rg, ks⟩ := c
 cases rg with
 | off => cases hv
 | pl => cases hv
 | one => cases hv
 | ret => cases hv
 | dr ops A0 m fuel listed =>
  cases fuel with
  | zero => cases hv
  | succ fuel =>
   unfold m0r at hv
   unfold m0q at h
   unfold c0f at hc
   simp only at hv h hc
   intro pre
   split at hv
   · rename_i o hi
     rw [hi] at h hc
     split at hv
     · rename_i h1
       simp only [Bool.and_eq_true] at h1
       obtain ⟨⟨⟨h1, h2⟩, h3⟩, hw⟩ := h1
       have hS : SB A0 m W := x0t I pre hm
       have hx := Option.some.inj hv
       simp only [hw] at hc
       have h : WpH P ops (post P Q ks) (SB A0 m) fuel (listed.setIfInBounds i true) (act A (putO cf o.dst y)) W := h pre
       rw [← c0o, ← hxy] at h
       exact p0m i o.dst (x.r A) _ hi rfl rfl h1 h2 h3 (fun c a w => e0k (P := P) hQ ks c a o.dst (x.r A) w) (.inl ⟨by rw [e0x]; exact hw, fun w' hS' => m0l (c1j pre hS') hx (hc A w')⟩) hS h
     · cases hv
   · cases hv
theorem zki (i : Nat) (I : Inv E w0 A c.bx fs W) (k : IntKind) (t e : Int) (hp : k.wrap t = e) (h : Inv E w0 A (m0q i (.v (.int k e)) c).bx fs W → G P Q A (m0q i (.v (.int k e)) c) W) (hv : m0r P i c = some (.val (.v (.int k (k.wrap t)))) := by kernel_rfl)
 (hc : ∀ A w, (c0f P i c A w).map (·.1) = (c0f P i c A w).map (·.2) := by intro _ _; kernel_rfl) (hm : dk1 c.rg c.bx = dk2 c.rg := by kernel_rfl) (hQ : f0i Q := by exact d0t) : G P Q A c W :=
 ztk i I (.v (.int k (k.wrap t))) (.v (.int k e)) (fun _ => by show Value.int k (k.wrap t) = .int k e; rw [hp]) h hv hc hm hQ
theorem zkb (i : Nat) (I : Inv E w0 A c.bx fs W) (e b : Bool) (hp : e = b) (h : Inv E w0 A (m0q i (.v (.bool b)) c).bx fs W → G P Q A (m0q i (.v (.bool b)) c) W) (hv : m0r P i c = some (.val (.v (.bool e))) := by kernel_rfl)
 (hc : ∀ A w, (c0f P i c A w).map (·.1) = (c0f P i c A w).map (·.2) := by intro _ _; kernel_rfl) (hm : dk1 c.rg c.bx = dk2 c.rg := by kernel_rfl) (hQ : f0i Q := by exact d0t) : G P Q A c W :=
 ztk i I (.v (.bool e)) (.v (.bool b)) (fun _ => by rw [hp]) h hv hc hm hQ
end
def bytesOf (s : ByteArray) : List Nat := s.data.toList.map UInt8.toNat
section walk
variable {P : Program} {ops : Array Oper} {rest : List Oper} {o : Oper} {a : Act} {K : Act → World → Prop} {Q : Exit → Act → World → Prop} {w : World}
end walk
structure RdV (w : World) (p : OA) (vs : List Value) : Prop where
 solid : h0n p vs.length
 cells : ∀ j, j < vs.length → w.cell? (at_ p j) = vs[j]?
theorem RdV.nil (w : World) (p : OA) : RdV w p [] := ⟨fun h => by simp at h, fun j hj => by simp at hj⟩
theorem RdV.lt {w : World} {p : OA} {vs : List Value} (h : RdV w p vs) (h0 : 0 < vs.length) : blk p < w.heap.size :=
 World.block_lt_of_cell? w (at_ p 0) (u := vs[0]) (by rw [h.cells 0 h0, List.getElem?_eq_getElem h0])
theorem RdV.same {w w' : World} {p : OA} {vs : List Value} (h : RdV w p vs) (hb : 0 < vs.length → w'.heap[blk p]? = w.heap[blk p]?) : RdV w' p vs :=
 ⟨h.solid, fun j hj => by rw [World.cell?_of_block (w := w) (a := at_ p j) (hb (by omega))]; exact h.cells j hj⟩
theorem RdV.below {w w' : World} {B : Nat} {p : OA} {vs : List Value} (h : RdV w p vs) (hb : Below B w w') (hp : 0 < vs.length → blk p < B) : RdV w' p vs :=
 h.same fun h0 => hb.block _ (hp h0)
theorem RdV.past {w w' : World} {p : OA} {vs : List Value} (h : RdV w p vs) (hb : Below w.heap.size w w') : RdV w' p vs :=
 h.below hb fun h0 => h.lt h0
theorem RdV.drop {w : World} {p : OA} {vs : List Value} (h : RdV w p vs) (n : Nat) : RdV w (p.map (·.add n)) (vs.drop n) := by
 refine ⟨fun h0 => ?_, fun j hj => ?_⟩
 · have h1 := h.solid (by simp at h0; omega)
   refine ⟨by simpa using h1.1, ?_⟩
   rw [l0w p n h1.1]
   unfold Addr.add
   split
   · exact h1.2
   · rfl
 · simp only [List.length_drop] at hj
   have h1 := h.solid (by omega)
   rw [t0h p n j h1.1, h.cells (n + j) (by omega), List.getElem?_drop]
theorem RdV.take {w : World} {p : OA} {vs : List Value} (h : RdV w p vs) (n : Nat) : RdV w p (vs.take n) := by
 refine ⟨h.solid.mono (by simp; omega), fun j hj => ?_⟩
 simp only [List.length_take] at hj
 rw [h.cells j (by omega), List.getElem?_take, if_pos (by omega)]
theorem Rd.v {w : World} {k : IntKind} {p : OA} {xs : List Nat} (h : Rd w k p xs) : RdV w p (xs.map fun x : Nat => Value.int k (x : Int)) := by
 refine ⟨by rw [List.length_map]; exact h.solid, fun j hj => ?_⟩
 rw [List.length_map] at hj
 rw [h.cells j hj, List.getElem?_map]
 simp [hj, b0k]
def OwnV (w : World) (base : Nat) (e : TypeId) (p : OA) (c : Nat) (vs : List Value) : Prop := w.ownsRow base e 1 (.slice p vs.length c) vs.length vs
theorem Own.v {w : World} {base : Nat} {k : IntKind} {e : TypeId} {p : OA} {c : Nat} {xs : List Nat} (h : Own w base k e p c xs) : OwnV w base e p c (xs.map fun x : Nat => Value.int k (x : Int)) := by
 unfold OwnV
 rw [List.length_map]
 exact h
theorem OwnV.nil (w : World) (base : Nat) (e : TypeId) : OwnV w base e none 0 [] := World.ownsRow_nil w base e 1
theorem OwnV.form {w : World} {base : Nat} {e : TypeId} {p : OA} {c : Nat} {vs : List Value} (h : OwnV w base e p c vs) :
 (p = none ∧ c = 0 ∧ vs = []) ∨ ∃ g, p = some ⟨g, 0, none⟩ ∧ base ≤ g ∧ g < w.heap.size ∧ vs.length ≤ c ∧ c ≤ maxLen := by
 rcases h.2 with ⟨h1, h2⟩ | ⟨g, cap, cur, hv, hb, hg, hn, hc, _, _⟩
 · left
   simp only [Value.slice.injEq] at h1
   exact ⟨h1.1, h1.2.2, List.eq_nil_of_length_eq_zero h2⟩
 · right
   simp only [Value.slice.injEq] at hv
   obtain ⟨rfl, _, rfl⟩ := hv
   exact ⟨g, rfl, hb, (Array.getElem?_eq_some_iff.1 hg).1, hn, hc⟩
theorem OwnV.mono {w : World} {base b' : Nat} {e : TypeId} {p : OA} {c : Nat} {vs : List Value} (h : OwnV w base e p c vs) (hb : b' ≤ base) : OwnV w b' e p c vs := by
 refine ⟨h.1, ?_⟩
 rcases h.2 with h1 | ⟨g, cap, cur, hv, hbg, r⟩
 · exact .inl h1
 · exact .inr ⟨g, cap, cur, hv, by omega, r⟩
theorem OwnV.le_cap {w : World} {base : Nat} {e : TypeId} {p : OA} {c : Nat} {vs : List Value} (h : OwnV w base e p c vs) : vs.length ≤ c := by
 rcases h.form with ⟨_, rfl, rfl⟩ | ⟨g, _, _, _, h, _⟩
 · simp
 · exact h
theorem OwnV.rd {w : World} {base : Nat} {e : TypeId} {p : OA} {c : Nat} {vs : List Value} (h : OwnV w base e p c vs) : RdV w p vs := by
 rcases h.form with ⟨rfl, _, rfl⟩ | ⟨g, rfl, _⟩
 · exact RdV.nil w none
 · refine ⟨fun _ => ⟨rfl, rfl⟩, fun j hj => ?_⟩
   have h1 := World.ownsRow.cellAt (w := w) (base := base) (e := e) (size := 1) (g := g) (n := vs.length) (cap := c) h j (by omega)
   simp only [at_, Option.getD_some, Nat.zero_add]
   exact h1
theorem OwnV.blk_lt {w : World} {base : Nat} {e : TypeId} {p : OA} {c : Nat} {vs : List Value} (h : OwnV w base e p c vs) (hp : p.isSome = true) : base ≤ blk p ∧ blk p < w.heap.size := by
 rcases h.form with ⟨rfl, _, rfl⟩ | ⟨g, rfl, h1, h2, _⟩
 · simp at hp
 · exact ⟨h1, h2⟩
theorem OwnV.same {w w' : World} {base : Nat} {e : TypeId} {p : OA} {c : Nat} {vs : List Value} (h : OwnV w base e p c vs) (hb : p.isSome = true → w'.heap[blk p]? = w.heap[blk p]?) : OwnV w' base e p c vs := by
 refine ⟨h.1, ?_⟩
 rcases h.2 with h1 | ⟨g, cap, cur, hv, hbg, hg, r⟩
 · exact .inl h1
 · simp only [Value.slice.injEq] at hv
   obtain ⟨rfl, h2, rfl⟩ := hv
   exact .inr ⟨g, c, cur, rfl, hbg, by rw [← hg]; exact hb rfl, r⟩
theorem OwnV.below {w w' : World} {base B : Nat} {e : TypeId} {p : OA} {c : Nat} {vs : List Value} (h : OwnV w base e p c vs) (hb : Below B w w') (hp : p.isSome = true → blk p < B) : OwnV w' base e p c vs :=
 h.same fun h0 => hb.block _ (hp h0)
theorem OwnV.past {w w' : World} {base : Nat} {e : TypeId} {p : OA} {c : Nat} {vs : List Value} (h : OwnV w base e p c vs) (hb : Below w.heap.size w w') : OwnV w' base e p c vs :=
 h.below hb fun h0 => (h.blk_lt h0).2
structure v0f (P : Program) (t e : TypeId) (z : Value) (bytes : Nat) : Prop where
 ht : P.underlying t = some (.slice e)
 hi : ∃ i, P.info? e = some i ∧ i.zero = some z ∧ i.size = 1 ∧ i.bytes = bytes
 hz : z.cells = #[z]
 h1 : z.oneCell' = true
 le : bytes ≤ 16
section walk
variable {P : Program} {ops : Array Oper} {rest : List Oper} {o : Oper} {a : Act} {Q : Exit → Act → World → Prop} {w : World} {K : Act → World → Prop}
end walk
structure Wr (w : World) (base : Nat) (k : IntKind) (p : OA) (xs : List Nat) : Prop where
 rd : Rd w k p xs
 fr : ∀ j, j < xs.length → w.frozen? (at_ p j) = false
 from_ : 0 < xs.length → base ≤ blk p
theorem Own.wr {w : World} {base : Nat} {k : IntKind} {e : TypeId} {p : OA} {c : Nat} {xs : List Nat} (h : Own w base k e p c xs) : Wr w base k p xs :=
 ⟨h.rd, fun j hj => f0o h j hj, fun h0 => (h.blk_lt (h.rd.solid h0).1).1⟩
theorem Wr.mono {w : World} {base b' : Nat} {k : IntKind} {p : OA} {xs : List Nat} (h : Wr w base k p xs) (hb : b' ≤ base) : Wr w b' k p xs := ⟨h.rd, h.fr, fun h0 => Nat.le_trans hb (h.from_ h0)⟩
theorem Wr.same {w w' : World} {base : Nat} {k : IntKind} {p : OA} {xs : List Nat} (h : Wr w base k p xs) (hb : 0 < xs.length → w'.heap[blk p]? = w.heap[blk p]?) : Wr w' base k p xs :=
 ⟨h.rd.same hb, fun j hj => by rw [World.frozen?_of_block (w := w) (a := at_ p j) (hb (by omega))]; exact h.fr j hj, h.from_⟩
theorem Wr.past {w w' : World} {base : Nat} {k : IntKind} {p : OA} {xs : List Nat} (h : Wr w base k p xs) (hb : Below w.heap.size w w') : Wr w' base k p xs :=
 h.same fun h0 => hb.block _ (h.rd.lt h0)
theorem Wr.drew {w : World} {base : Nat} {k : IntKind} {p : OA} {xs : List Nat} (h : Wr w base k p xs) : Wr w.drew base k p xs := h.same fun _ => rfl
theorem c1l {p : OA} {i j : Nat} (h : i ≠ j) : at_ p i ≠ at_ p j := by
 unfold at_
 intro e
 simp only [Addr.mk.injEq, true_and, and_true] at e
 omega
theorem Wr.set {w : World} {base : Nat} {k : IntKind} {p : OA} {xs : List Nat} (h : Wr w base k p xs) (j : Nat) (hj : j < xs.length) (n : Nat) :
 Wr (w.setCell (at_ p j) (.int k (n : Int))) base k p (xs.set j n) ∧ w.grownBy (w.setCell (at_ p j) (.int k (n : Int))) (some (blk p)) ∧ base ≤ blk p := by
 refine ⟨⟨⟨by rw [List.length_set]; exact h.rd.solid, fun i hi => ?_⟩, fun i hi => ?_, fun _ => h.from_ (by omega)⟩, ?_, h.from_ (by omega)⟩
 · rw [List.length_set] at hi
   by_cases e : j = i
   · subst e
     rw [World.cell?_setCell_same (h := h.rd.cells j hj)]
     unfold dg
     rw [List.getElem?_set_self hj]
     rfl
   · rw [World.cell?_setCell_other (h := c1l e), h.rd.cells i hi]
     unfold dg
     rw [List.getElem?_set_ne e]
 · rw [List.length_set] at hi
   rw [World.frozen?_setCell]
   exact h.fr i hi
 · refine ⟨rfl, rfl, rfl, by simp [World.setCell], fun b _ hne => ?_⟩
   show (w.heap.modify _ _)[b]? = _
   rw [Array.getElem?_modify, if_neg (fun e => hne (by rw [← e]; rfl))]
section walk
variable {P : Program} {ops : Array Oper} {rest : List Oper} {o : Oper} {a : Act} {K : Act → World → Prop} {Q : Exit → Act → World → Prop} {w : World}
end walk
section
variable {P : Program} {ops : Array Oper} {Q : Exit → Act → World → Prop} {a : Act} {w : World} {rest : List Oper} {o : Oper}
end
section
variable {P : Program} {a : Act} {w : World} {dst : Option Tmp} {t2 : TypeId} {pos : String} {af : Array Edge} {g : Option (Nat × Bool)} {x y : Operand}
theorem s0m {P : Program} {t e : TypeId} {z : Value} {bytes : Nat} (hty : v0f P t e z bytes) (w : World) : (sizeOf (P.elem t)).run P w = .ok 1 w := by
 obtain ⟨i, hi, -, hs, -⟩ := hty.hi
 rw [u0s hty.ht]
 simp [sizeOf, typeInfo, hi, hs]
theorem x0x {P : Program} {t e : TypeId} {z : Value} {bytes : Nat} (hty : v0f P t e z bytes) : P.underlying t = some (.slice (P.elem t)) := by
 rw [u0s hty.ht]; exact hty.ht
variable {k : IntKind} {X Y : Int} {xT yT : TypeId}
end
theorem Bx.e9 {w : World} {b : Nat} {v0 v1 v2 v3 v4 v5 v6 v7 v8 : Value} (h : Bx w b #[v0, v1, v2, v3, v4, v5, v6, v7, v8]) : w.cell? ⟨b, 0, none⟩ = some v0 ∧ w.cell? ⟨b, 1, none⟩ = some v1 ∧ w.cell? ⟨b, 2, none⟩ = some v2 ∧ w.cell? ⟨b, 3, none⟩ = some v3 ∧ w.cell? ⟨b, 4, none⟩ = some v4 ∧ w.cell? ⟨b, 5, none⟩ = some v5 ∧ w.cell? ⟨b, 6, none⟩ = some v6 ∧ w.cell? ⟨b, 7, none⟩ = some v7 ∧ w.cell? ⟨b, 8, none⟩ = some v8 := ⟨h.c 0 rfl, h.c 1 rfl, h.c 2 rfl, h.c 3 rfl, h.c 4 rfl, h.c 5 rfl, h.c 6 rfl, h.c 7 rfl, h.c 8 rfl⟩
theorem Bx.e10 {w : World} {b : Nat} {v0 v1 v2 v3 v4 v5 v6 v7 v8 v9 : Value} (h : Bx w b #[v0, v1, v2, v3, v4, v5, v6, v7, v8, v9]) : w.cell? ⟨b, 0, none⟩ = some v0 ∧ w.cell? ⟨b, 1, none⟩ = some v1 ∧ w.cell? ⟨b, 2, none⟩ = some v2 ∧ w.cell? ⟨b, 3, none⟩ = some v3 ∧ w.cell? ⟨b, 4, none⟩ = some v4 ∧ w.cell? ⟨b, 5, none⟩ = some v5 ∧ w.cell? ⟨b, 6, none⟩ = some v6 ∧ w.cell? ⟨b, 7, none⟩ = some v7 ∧ w.cell? ⟨b, 8, none⟩ = some v8 ∧ w.cell? ⟨b, 9, none⟩ = some v9 := ⟨h.c 0 rfl, h.c 1 rfl, h.c 2 rfl, h.c 3 rfl, h.c 4 rfl, h.c 5 rfl, h.c 6 rfl, h.c 7 rfl, h.c 8 rfl, h.c 9 rfl⟩
theorem Bx.e11 {w : World} {b : Nat} {v0 v1 v2 v3 v4 v5 v6 v7 v8 v9 v10 : Value} (h : Bx w b #[v0, v1, v2, v3, v4, v5, v6, v7, v8, v9, v10]) : w.cell? ⟨b, 0, none⟩ = some v0 ∧ w.cell? ⟨b, 1, none⟩ = some v1 ∧ w.cell? ⟨b, 2, none⟩ = some v2 ∧ w.cell? ⟨b, 3, none⟩ = some v3 ∧ w.cell? ⟨b, 4, none⟩ = some v4 ∧ w.cell? ⟨b, 5, none⟩ = some v5 ∧ w.cell? ⟨b, 6, none⟩ = some v6 ∧ w.cell? ⟨b, 7, none⟩ = some v7 ∧ w.cell? ⟨b, 8, none⟩ = some v8 ∧ w.cell? ⟨b, 9, none⟩ = some v9 ∧ w.cell? ⟨b, 10, none⟩ = some v10 := ⟨h.c 0 rfl, h.c 1 rfl, h.c 2 rfl, h.c 3 rfl, h.c 4 rfl, h.c 5 rfl, h.c 6 rfl, h.c 7 rfl, h.c 8 rfl, h.c 9 rfl, h.c 10 rfl⟩
def v0g (fn : Func) : Code := match fn.body with | some c => c | none => .skip
def cfg0 (fn : Func) (fr : List SV) (bx : List Box) : Cfg := ⟨fr ++ List.replicate (fn.ntmps - fr.length) (.v undef), bx, .off, [.code (v0g fn)]⟩
theorem z0p {P : Program} {E : List Nat} {w : World} {A : List Nat} {bx : List Box} {fs : List PF} {f : FuncId} {fn : Func} {args : Array Value} {R : Ending → World → Prop} (fr : List SV) (_ : Inv E w A bx fs w) (hf : P.funcs[f]? = some fn)
 (h : G P (bodyPost P fn R) A (cfg0 fn fr bx) w) (hb : fn.body.isSome = true := by kernel_rfl) (ha : fr.map (SV.r A) = args.toList := by kernel_rfl) : Calls P f args w R := by
 have hb2 : fn.body = some (v0g fn) := by
  unfold v0g
  cases h : fn.body with
  | none => rw [h] at hb; cases hb
  | some c => rfl
 refine calls_of_wp hf hb2 ?_
 have hl : fr.length = args.size := by rw [← Array.length_toList, ← ha, List.length_map]
 have e : (⟨args ++ Array.replicate (fn.ntmps - args.size) undef, []⟩ : Act) = act A (cfg0 fn fr bx).fr := by
  unfold act cfg0
  simp only [Act.mk.injEq, and_true]
  rw [List.map_append, ha, List.map_replicate, hl]
  apply Array.toList_inj.1
  simp [SV.r]
 rw [e]
 exact h.out
/-! ### What is handed in -/
/-! ### Facts -/
def ownF (b : Nat) (k : IntKind) (e : TypeId) (p : OA) (c : Nat) (xs : List Nat) : PF :=
 ⟨fun w => Own w b k e p c xs, fun a => p.isSome = true ∧ blk p = a, fun _ _ h hb _ => h.same fun hp => hb _ (h.blk_lt hp).2 ⟨hp, rfl⟩, fun _ _ h hf => hf.2 ▸ (h.blk_lt hf.1).2⟩
def rdF (k : IntKind) (p : OA) (xs : List Nat) : PF :=
 ⟨fun w => Rd w k p xs, fun a => 0 < xs.length ∧ blk p = a, fun _ _ h hb _ => h.same fun hp => hb _ (h.lt hp) ⟨hp, rfl⟩, fun _ _ h hf => hf.2 ▸ h.lt hf.1⟩
def rfF (b : Nat) (p : OA) (c : Nat) (xs : List Nat) : PF :=
 ⟨fun w => Rf w b p c xs, fun a => 0 < xs.length ∧ blk p = a, fun _ _ h hb _ => ⟨h.rd.same fun hp => hb _ (h.rd.lt hp) ⟨hp, rfl⟩, h.cap, h.at_⟩, fun _ _ h hf => hf.2 ▸ h.rd.lt hf.1⟩
theorem OwnV.far {w : World} {base : Nat} {e : TypeId} {p : OA} {c : Nat} {xs : List Value} (h : OwnV w base e p c xs) {b : Nat} {t : TypeId} {vs : Array Value} (hX : Bt w b t vs) (hne : Nat.beq t e = false) (hp : p.isSome = true) : blk p ≠ b := by
 rcases h.2 with ⟨h1, h2⟩ | ⟨g, cap, cur, hv, hb, hg, _⟩
 · simp only [Value.slice.injEq] at h1
   rw [h1.1] at hp; cases hp
 · simp only [Value.slice.injEq] at hv
   intro hE
   rw [hv.1] at hE
   have hE2 : g = b := hE
   subst hE2
   have hE3 := hg.symm.trans hX
   simp only [Option.some.injEq, Obj.cells.injEq] at hE3
   rw [hE3.2.1] at hne
   simp at hne
def v0h (e : TypeId) : List Box → Bool
 | [] => true
 | b :: l => match Nat.beq b.t e with | true => false | false => v0h e l
theorem o0i {e : TypeId} : ∀ {l : List Box}, v0h e l = true → ∀ k, k < l.length → Nat.beq (lk bx0 l k).t e = false
 | [], _, _, h => by simp at h
 | b :: l, h, k, hk => by
  unfold v0h at h
  split at h
  · cases h
  · rename_i hb
    cases k with
    | zero => exact hb
    | succ k => exact o0i h k (by simpa using hk)
section
variable {E : List Nat} {w0 : World} {A : List Nat} {bx : List Box} {fs : List PF} {W : World}
def c1m (bx : List Box) (k : Nat) (A : List Nat) : Option (TypeId × Array Value) := match Nat.ble (k + 1) bx.length with | true => some ((lk bx0 bx k).t, (lk bx0 bx k).row A) | false => none
theorem Inv.box (I : Inv E w0 A bx fs W) (k : Nat) (t : TypeId) (vs : Array Value) (h : c1m bx k A = some (t, vs) := by kernel_rfl) : Bt W (lk 0 A k) t vs := by
 unfold c1m at h
 split at h
 · rename_i hk
   simp only [Option.some.injEq, Prod.mk.injEq] at h
   have := I.bt k (i0g hk)
   rw [h.1, h.2] at this
   exact this
 · cases h
theorem Inv.own (I : Inv E w0 A bx fs W) {b : Nat} {k : IntKind} {e : TypeId} {p : OA} {c : Nat} {xs : List Nat} (o : Own W b k e p c xs) (hb : w0.heap.size ≤ b := by first | exact Nat.le_refl _ | assumption | omega) (hne : v0h e bx = true := by kernel_rfl) :
 Inv E w0 A bx (ownF w0.heap.size k e p c xs :: fs) W :=
 I.add (ownF w0.heap.size k e p c xs) (o.mono hb) fun a ha hf => by
  obtain ⟨j, hj, _, rfl⟩ := ha
  exact o.far (I.bt j hj) (o0i hne j hj) hf.1 hf.2
def v0i (k : IntKind) : SV → Bool
 | .v (.int k' _) => !(decide (k' = k))
 | _ => true
def r0e (k : IntKind) : List Box → Bool
 | [] => true
 | b :: l => match b.cs.all (v0i k) with | true => r0e k l | false => false
theorem l0e {k : IntKind} : ∀ {l : List Box}, r0e k l = true → ∀ j, j < l.length → (lk bx0 l j).cs.all (v0i k) = true
 | [], _, _, h => by simp at h
 | b :: l, h, j, hj => by
  unfold r0e at h
  split at h
  · rename_i hb
    cases j with
    | zero => exact hb
    | succ j => exact l0e h j (by simpa using hj)
  · cases h
theorem v0j {k : IntKind} (A : List Nat) {l : List SV} (h : l.all (v0i k) = true) : u0o k (l.map (SV.r A)).toArray = true := by
 unfold u0o
 rw [List.all_toArray, List.all_map]
 rw [List.all_eq_true] at h ⊢
 intro x hx
 have := h x hx
 cases x with
 | v x => cases x <;> first | exact this | rfl
 | _ => rfl
theorem Inv.rd (I : Inv E w0 A bx fs W) {k : IntKind} {p : OA} {xs : List Nat} (r : Rd W k p xs) (hne : r0e k bx = true := by kernel_rfl) : Inv E w0 A bx (rdF k p xs :: fs) W :=
 I.add (rdF k p xs) r fun a ha hf => by
  obtain ⟨j, hj, _, rfl⟩ := ha
  exact r.far (I.bt j hj) (v0j A (l0e hne j hj)) hf.1 hf.2
theorem Inv.rf (I : Inv E w0 A bx fs W) {p : OA} {c : Nat} {xs : List Nat} {bx' : List Box} {fs' : List PF} {V : World} (o : Rf W V.heap.size p c xs) (hB : ∀ a, Fa A bx a → Fa A bx' a) (J : Inv E w0 A bx' fs' V) (hb : w0.heap.size ≤ V.heap.size := by first | exact Nat.le_refl _ | assumption | omega) : Inv E w0 A bx (rfF w0.heap.size p c xs :: fs) W :=
 I.add (rfF w0.heap.size p c xs) (o.mono hb) fun a ha hf => by
  have h1 := J.lt a (hB a ha)
  have h2 := o.at_ hf.1
  have h3 := hf.2
  omega
end
section
variable {P : Program} {Q : Exit → Act → World → Prop} {E : List Nat} {w0 : World} {A : List Nat} {fs : List PF} {W : World} {c : Cfg}
theorem zqo (I : Inv E w0 A c.bx fs W) {f : FuncId} {args : List Nat → World → Array Value} {v : OA → Nat → Value} {k : IntKind} {t : TypeId} {xs : List Nat} {b : World → Nat}
 (hc : ∀ A W, Inv E w0 A (zr P none c).bx fs W → Calls P f (args A W) W fun e w' => ∃ p c, e = .returned (v p c) ∧ Own w' (b W) k t p c xs ∧ Below W.heap.size W w')
 (h : ∀ A W p d, Inv E w0 A (putc (zr P none c) (.v (v p d))).bx (ownF w0.heap.size k t p d xs :: fs) W → G P Q A (putc (zr P none c) (.v (v p d))) W)
 (ho : ∀ A w, i0o P (zr P none c) A w = some (.ok (.enter f (args A w)) w) := by intro _ _; kernel_rfl)
 (hr : ∀ A w, (zms P none 5000 c A w).map (·.1) = (zms P none 5000 c A w).map (·.2) := by intro _ _; kernel_rfl)
 (hm : ok1 (zr P none c).rg (zr P none c).bx = ok2 (zr P none c).rg := by kernel_rfl)
 (hne : v0h t (zr P none c).bx = true := by kernel_rfl) (hbb : ∀ V, w0.heap.size ≤ V.heap.size → w0.heap.size ≤ b V := by intro _ h; first | exact h | exact Nat.le_refl _ | assumption | omega) : G P Q A c W :=
 zg I hc (fun A V _ hz _ _ hK _ W ⟨p, d, h1, h2, h3⟩ => ⟨v p d, h1, hK _ W h3 fun I => h A W p d (I.own h2 (hbb V hz) hne)⟩) ho hr hm
end
def pick : List Nat → List PF → List PF
 | [], _ => []
 | i :: is, fs => lk ⟨fun _ => True, fun _ => False, fun _ _ h _ _ => h, fun _ _ _ h => h.elim⟩ fs i :: pick is fs
section
variable {E : List Nat} {w0 : World} {A : List Nat} {bx : List Box} {fs : List PF} {W : World}
theorem PF.all_lk {W : World} (d : PF) (hd : d.prop W) : ∀ {fs : List PF} (i : Nat), PF.all W fs → (lk d fs i).prop W
 | [], _, _ => hd
 | _ :: _, 0, h => h.1
 | _ :: _, i + 1, h => PF.all_lk d hd i h.2
theorem PF.far_lk {a : Nat} (d : PF) (hd : ¬ d.foot a) : ∀ {fs : List PF} (i : Nat), PF.far a fs → ¬ (lk d fs i).foot a
 | [], _, _ => hd
 | _ :: _, 0, h => h.1
 | _ :: _, i + 1, h => PF.far_lk d hd i h.2
theorem Inv.pick (I : Inv E w0 A bx fs W) (is : List Nat) : Inv E w0 A bx (pick is fs) W := by
 refine ⟨I.bel, I.ge, I.nd, I.len, I.pre, I.bt, ?_, fun a ha => ?_⟩
 · have := I.fa
   induction is with
   | nil => exact True.intro
   | cons i is ih => exact ⟨PF.all_lk _ True.intro i this, ih⟩
 · have := I.far a ha
   induction is with
   | nil => exact True.intro
   | cons i is ih => exact ⟨PF.far_lk _ id i this, ih⟩
end
/-! ### Values of two -/
section
variable {P : Program} {t : TypeId} {x y : Operand} {W : World}
theorem a1q (k : IntKind) (X Y m : Int) (hm : bits .and k X Y = m) : (do eqGuard .and t x y (.int k X) (.int k Y); binOp .and t (.int k X) (.int k Y) : Sem Value).run P W = .ok (.int k m) W := by
 subst hm
 simp [binOp, eqGuard, intBits_and]
end
/-! ### Rows of others -/
theorem tyV {P : Program} {t e : TypeId} {z : Value} {bytes : Nat} (h1 : P.underlying t = some (.slice e))
 (h2 : (P.info? e).map (fun i => (i.zero, i.size, i.bytes)) = some (some z, 1, bytes)) (h3 : bytes ≤ 16) (h4 : z.cells = #[z]) (h5 : z.oneCell' = true) : v0f P t e z bytes := by
 refine ⟨h1, ?_, h4, h5, h3⟩
 cases h : P.info? e with
 | none => rw [h] at h2; simp at h2
 | some i => rw [h] at h2; simp at h2; exact ⟨i, rfl, h2.1, h2.2.1, h2.2.2⟩
section
variable {P : Program} {w : World}
theorem c1n {t : TypeId} {e : TypeId} {z : Value} {bytes : Nat} (hty : v0f P t e z bytes) {p : OA} {n c m : Nat} (hp : h0n p n) (hm : m < n) : (VO.ix t (.slice p n c) (.int .i64 (m : Int))).sem.run P w = .ok (.pointer (some (at_ p m))) w := by
 show (Instr.indexAt _ _ _).run P w = _
 rw [run_indexAt_solid w t p n c .i64 m (x0x hty) hp, if_pos (show (0 : Int) ≤ (m : Int) ∧ (m : Int) < (n : Int) by omega)]
 simp only [s0m hty, Result.andThen_ok, Int.toNat_natCast, Nat.mul_one]
end
/-! ### What calls leave -/
section
variable {P : Program} {f : FuncId} {args : Array Value} {w : World}
end
end Go.Slip
namespace Go.Proofs.YthcoapcffhgckaaDoor
open Go.RowKit Go.Slip
theorem TabW.same {w w' : World} (h : TabW w) (hb : w'.heap[0]? = w.heap[0]?) (hs : w.heap.size ≤ w'.heap.size) : TabW w' :=
 ⟨fun j hj => by
   have := h.1 j hj
   unfold World.cell? at this ⊢
   rw [show w'.heap[(⟨0, j, none⟩ : Addr).block]? = w.heap[(⟨0, j, none⟩ : Addr).block]? from hb]
   exact this, Nat.lt_of_lt_of_le h.2 hs⟩
def tabF : PF := ⟨TabW, fun a => 0 = a, fun _ _ h hb hs => h.same (hb 0 h.2 rfl) hs, fun _ _ h hf => hf ▸ h.2⟩
end Go.Proofs.YthcoapcffhgckaaDoor
namespace Go.Slip
structure Gd where
 rad : Int
 digs : Int
 lo : Int
 hi : Int
 grad : Bool
def wid (g : Gd) : Nat := if g.rad = 16 then 4 else 1
def most (g : Gd) : Int := if g.rad = 16 then 4000 else 17000
def farG (g : Gd) (n : Int) : Prop := n < -most g ∨ most g < n
instance (g : Gd) (n : Int) : Decidable (farG g n) := by unfold farG; exact inferInstance
def errG (g : Gd) : Int :=
 if g.rad ≠ 2 ∧ g.rad ≠ 16 then 6 else if g.digs < 1 ∨ 120 < g.digs ∨ farG g g.lo ∨ farG g g.hi ∨ g.hi < g.lo then 3 else 0
structure x0y (g : Gd) : Prop where
 rad : g.rad = 2 ∨ g.rad = 16
 d1 : 1 ≤ g.digs
 d2 : g.digs ≤ 120
 l1 : -17000 ≤ g.lo
 l2 : g.lo ≤ 17000
 h1 : -17000 ≤ g.hi
 h2 : g.hi ≤ 17000
 le : g.lo ≤ g.hi
theorem r0f {g : Gd} (h : errG g = 0) : x0y g := by
 unfold errG at h
 by_cases h1 : g.rad ≠ 2 ∧ g.rad ≠ 16
 · rw [if_pos h1] at h; simp at h
 · rw [if_neg h1] at h
   by_cases h2 : g.digs < 1 ∨ 120 < g.digs ∨ farG g g.lo ∨ farG g g.hi ∨ g.hi < g.lo
   · rw [if_pos h2] at h; simp at h
   · unfold farG most at h2
     split at h2 <;> constructor <;> omega
theorem j0s (g : Gd) : 1 ≤ wid g ∧ wid g ≤ 4 := by unfold wid; split <;> omega
def numP (num : Nat) (n : Int) : Nat := num * 2 ^ n.toNat
def denP (den : Nat) (n : Int) : Nat := den * 2 ^ (-n).toNat
def qP (num den : Nat) (n : Int) : Nat := numP num n / denP den n
def rP (num den : Nat) (n : Int) : Nat := numP num n % denP den n
theorem i0v {den : Nat} (h : 0 < den) (n : Int) : 0 < denP den n := Nat.mul_pos h (Nat.pow_pos (by omega))
def d0p (num den : Nat) (e : Int) (w D : Nat) (k : Int) : Prop := 2 ^ (w * (D - 1)) ≤ qP num den (e - w * k)
instance (num den : Nat) (e : Int) (w D : Nat) (k : Int) : Decidable (d0p num den e w D k) := by unfold d0p; exact inferInstance
theorem g0z {num den : Nat} (hd : 0 < den) (e : Int) (w D : Nat) (k : Int) (u v : Nat) (huv : (u : Int) - v = w * k + (w * (D - 1) : Nat) - e) :
 d0p num den e w D k ↔ den * 2 ^ u ≤ num * 2 ^ v := by
 unfold d0p qP
 rw [Nat.le_div_iff_mul_le (i0v hd _)]
 unfold numP denP
 have h2 : ∀ n : Nat, 0 < 2 ^ n := fun n => Nat.pow_pos (by omega)
 generalize hj : w * (D - 1) = j at *
 have e1 : ∃ c : Nat, (2 : Nat) ^ j * 2 ^ (-(e - w * k)).toNat * 2 ^ c = 2 ^ u * 2 ^ (c - 0) * 1 ∨ True := ⟨0, .inr trivial⟩
 clear e1
 by_cases hn : 0 ≤ e - w * k
 · obtain ⟨a, ha⟩ : ∃ a : Nat, e - w * k = a := ⟨(e - w * k).toNat, by omega⟩
   rw [ha]
   have t1 : (-(a : Int)).toNat = 0 := by omega
   have t2 : ((a : Int)).toNat = a := by omega
   rw [t1, t2]
   have t3 : u + a = v + j := by omega
   constructor
   · intro h
     have := Nat.mul_le_mul_right (2 ^ v) h
     have e2 : (2 ^ j * (den * 2 ^ 0)) * 2 ^ v = den * 2 ^ u * 2 ^ a := by
      have : 2 ^ j * 2 ^ v = 2 ^ u * 2 ^ a := by rw [← Nat.pow_add, ← Nat.pow_add]; congr 1; omega
      simp only [Nat.pow_zero, Nat.mul_one]
      grind
     rw [e2] at this
     have e3 : num * 2 ^ a * 2 ^ v = num * 2 ^ v * 2 ^ a := by grind
     rw [e3] at this
     exact Nat.le_of_mul_le_mul_right this (h2 a)
   · intro h
     have := Nat.mul_le_mul_right (2 ^ a) h
     have e2 : den * 2 ^ u * 2 ^ a = (2 ^ j * (den * 2 ^ 0)) * 2 ^ v := by
      have : 2 ^ j * 2 ^ v = 2 ^ u * 2 ^ a := by rw [← Nat.pow_add, ← Nat.pow_add]; congr 1; omega
      simp only [Nat.pow_zero, Nat.mul_one]
      grind
     rw [e2] at this
     have e3 : num * 2 ^ v * 2 ^ a = num * 2 ^ a * 2 ^ v := by grind
     rw [e3] at this
     exact Nat.le_of_mul_le_mul_right this (h2 v)
 · obtain ⟨a, ha⟩ : ∃ a : Nat, e - w * k = -(a : Int) := ⟨(-(e - w * k)).toNat, by omega⟩
   rw [ha]
   have t1 : (-(-(a : Int))).toNat = a := by omega
   have t2 : (-(a : Int)).toNat = 0 := by omega
   rw [t1, t2]
   have t3 : u = v + j + a := by omega
   subst t3
   have e2 : den * 2 ^ (v + j + a) = (2 ^ j * (den * 2 ^ a)) * 2 ^ v := by rw [Nat.pow_add, Nat.pow_add]; grind
   rw [e2, Nat.pow_zero, Nat.mul_one]
   constructor
   · intro h; exact Nat.mul_le_mul_right _ h
   · intro h; exact Nat.le_of_mul_le_mul_right h (h2 v)
theorem l0f {num den : Nat} (hd : 0 < den) {e : Int} {w D : Nat} {k k' : Int} (h : d0p num den e w D k) (hk : k' ≤ k) : d0p num den e w D k' := by
 have hw : (w : Int) * k' ≤ w * k := Int.mul_le_mul_of_nonneg_left hk (by omega)
 obtain ⟨v, hv⟩ : ∃ v : Nat, 0 ≤ (w : Int) * k' + (w * (D - 1) : Nat) - e + v := ⟨(-((w : Int) * k' + (w * (D - 1) : Nat) - e)).toNat, by omega⟩
 have h1 := (g0z hd e w D k ((w : Int) * k + (w * (D - 1) : Nat) - e + v).toNat v (by omega)).1 h
 refine (g0z hd e w D k' ((w : Int) * k' + (w * (D - 1) : Nat) - e + v).toNat v (by omega)).2 (Nat.le_trans ?_ h1)
 exact Nat.mul_le_mul_left _ (Nat.pow_le_pow_right (by omega) (by omega))
structure IsK (num den : Nat) (e : Int) (w D : Nat) (K : Int) : Prop where
 yes : d0p num den e w D K
 no : ¬ d0p num den e w D (K + 1)
theorem IsK.le {num den : Nat} (hd : 0 < den) {e : Int} {w D : Nat} {K k : Int} (h : IsK num den e w D K) (hk : d0p num den e w D k) : k ≤ K := by
 rcases Int.lt_or_le K k with h1 | h1
 · exact absurd (l0f hd hk (by omega)) h.no
 · exact h1
theorem IsK.unique {num den : Nat} (hd : 0 < den) {e : Int} {w D : Nat} {K K' : Int} (h : IsK num den e w D K) (h' : IsK num den e w D K') : K = K' := by
 have h1 := h.le hd h'.yes
 have h2 := h'.le hd h.yes
 omega
theorem j0t (n : Int) (w : Nat) (hw : 0 < w) : (w : Int) * (n / w) ≤ n ∧ n < w * (n / w) + w := by
 have h1 := Int.emod_nonneg n (show (w : Int) ≠ 0 by omega)
 have h2 := Int.emod_lt_of_pos n (show (0 : Int) < w by omega)
 have h3 := Int.mul_ediv_add_emod n w
 omega
theorem r0g {num den : Nat} (hn : 0 < num) (hd : 0 < den) (e : Int) {w D : Nat} (hw : 0 < w) (hD : 1 ≤ D) (x : Int) (hx : x = (blen num : Int) - blen den + e) :
 d0p num den e w D (x / w - D) ∧ ¬ d0p num den e w D (x / w - D + 2) := by
 obtain ⟨b1, b2⟩ := j0t x w hw
 generalize x / (w : Int) = f at *
 have hn1 := f0r num hn
 have hn2 : num < 2 ^ blen num := (b0s num _).1 (Nat.le_refl _)
 have hd1 := f0r den hd
 have hd2 : den < 2 ^ blen den := (b0s den _).1 (Nat.le_refl _)
 have hbn := (d0r num).2 hn
 have hbd := (d0r den).2 hd
 have eD : (w : Int) * (f - D) + (w * (D - 1) : Nat) = w * f - w := by
  obtain ⟨d, rfl⟩ : ∃ d, D = d + 1 := ⟨D - 1, by omega⟩
  simp only [Nat.add_sub_cancel, Int.natCast_mul, Int.natCast_add]
  grind
 have eD2 : (w : Int) * (f - D + 2) + (w * (D - 1) : Nat) = w * f + w := by
  have : (w : Int) * (f - D + 2) = w * (f - D) + w * 2 := by grind
  omega
 constructor
 · obtain ⟨v, hv⟩ : ∃ v : Nat, 0 ≤ (w : Int) * f - w - e + v := ⟨(-((w : Int) * f - w - e)).toNat, by omega⟩
   refine (g0z hd e w D (f - D) ((w : Int) * f - w - e + v).toNat v (by omega)).2 ?_
   refine Nat.le_trans (Nat.mul_le_mul_right _ (Nat.le_of_lt hd2)) (Nat.le_trans ?_ (Nat.mul_le_mul_right _ hn1))
   rw [← Nat.pow_add, ← Nat.pow_add]
   exact Nat.pow_le_pow_right (by omega) (by omega)
 · obtain ⟨v, hv⟩ : ∃ v : Nat, 0 ≤ (w : Int) * f + w - e + v := ⟨(-((w : Int) * f + w - e)).toNat, by omega⟩
   intro h
   have h1 := (g0z hd e w D (f - D + 2) ((w : Int) * f + w - e + v).toNat v (by omega)).1 h
   have h2 : num * 2 ^ v < 2 ^ blen num * 2 ^ v := Nat.mul_lt_mul_of_pos_right hn2 (Nat.pow_pos (by omega))
   have h3 := Nat.mul_le_mul_right (2 ^ ((w : Int) * f + w - e + v).toNat) hd1
   rw [← Nat.pow_add] at h2 h3
   have h4 : 2 ^ (blen num + v) ≤ 2 ^ (blen den - 1 + ((w : Int) * f + w - e + v).toNat) := Nat.pow_le_pow_right (by omega) (by omega)
   omega
structure Pl where
 neg : Bool
 d : Nat
 pow : Int
 exact : Bool
 over : Bool
 under : Bool
def h0a (way : Int) (neg odd : Bool) (half : Int) : Bool :=
 if way = 1 then decide (0 < half) || (decide (half = 0) && odd) else if way = 2 then decide (0 ≤ half) else if way = 4 then !neg else if way = 5 then neg else false
def powK (g : Gd) (K : Int) : Int := if K < g.lo ∧ g.grad = true then g.lo else K
def upP (neg : Bool) (num den : Nat) (e : Int) (w : Nat) (way k : Int) : Bool :=
 decide (rP num den (e - w * k) ≠ 0) && h0a way neg (decide (qP num den (e - w * k) % 2 = 1)) (cmpN (rP num den (e - w * k) * 2) (denP den (e - w * k)))
def dUp (neg : Bool) (num den : Nat) (e : Int) (w : Nat) (way k : Int) : Nat := qP num den (e - w * k) + if upP neg num den e w way k then 1 else 0
def p0w (neg : Bool) (num den : Nat) (e : Int) (w D : Nat) (way k : Int) : Prop := upP neg num den e w way k = true ∧ w * D < blen (dUp neg num den e w way k)
instance (neg : Bool) (num den : Nat) (e : Int) (w D : Nat) (way k : Int) : Decidable (p0w neg num den e w D way k) := by unfold p0w; exact inferInstance
def digP (neg : Bool) (num den : Nat) (e : Int) (w D : Nat) (way k : Int) : Nat := if p0w neg num den e w D way k then 2 ^ (w * (D - 1)) else dUp neg num den e w way k
def powP (neg : Bool) (num den : Nat) (e : Int) (w D : Nat) (way k : Int) : Int := if p0w neg num den e w D way k then k + 1 else k
def fitK (neg : Bool) (num den : Nat) (e : Int) (g : Gd) (way K : Int) : Pl :=
 ⟨neg, digP neg num den e (wid g) g.digs.toNat way (powK g K),
  if digP neg num den e (wid g) g.digs.toNat way (powK g K) = 0 then 0 else powP neg num den e (wid g) g.digs.toNat way (powK g K),
  decide (rP num den (e - wid g * powK g K) = 0), decide (g.hi < powP neg num den e (wid g) g.digs.toNat way (powK g K)), decide (K < g.lo)⟩
theorem g0l {neg : Bool} {num den : Nat} {e : Int} {w D : Nat} {way k : Int} {X N : Nat} {ub : Bool} (h1 : upP neg num den e w way k = ub) (h2 : qP num den (e - w * k) = X) (h3 : N = w * (D - 1)) :
 digP neg num den e w D way k = (if ub = true ∧ w * D < blen (X + if ub then 1 else 0) then 2 ^ N else X + if ub then 1 else 0) ∧ powP neg num den e w D way k = if ub = true ∧ w * D < blen (X + if ub then 1 else 0) then k + 1 else k := by
 subst h1 h2 h3
 unfold digP powP
 by_cases h : p0w neg num den e w D way k
 · have h' : upP neg num den e w way k = true ∧ w * D < blen (qP num den (e - w * k) + if upP neg num den e w way k then 1 else 0) := h
   rw [if_pos h, if_pos h, if_pos h', if_pos h']; exact ⟨rfl, rfl⟩
 · have h' : ¬ (upP neg num den e w way k = true ∧ w * D < blen (qP num den (e - w * k) + if upP neg num den e w way k then 1 else 0)) := h
   rw [if_neg h, if_neg h, if_neg h', if_neg h']; exact ⟨rfl, rfl⟩
theorem v0k {neg : Bool} {num den : Nat} {e : Int} {g : Gd} {way K : Int} {wd D : Nat} {k1 : Int} {dd Y : Nat} {k2 : Int} (h5 : wid g = wd) (hD : g.digs.toNat = D) (h4 : powK g K = k1)
 (h2 : digP neg num den e wd D way k1 = dd) (h3 : powP neg num den e wd D way k1 = k2) (h8 : rP num den (e - wd * k1) = Y) :
 fitK neg num den e g way K = ⟨neg, dd, if dd = 0 then 0 else k2, decide (Y = 0), decide (g.hi < k2), decide (K < g.lo)⟩ := by
 subst h5 hD h4 h2 h3 h8
 rfl
def theK (num den : Nat) (e : Int) (w D : Nat) : Int :=
 if d0p num den e w D (((blen num : Int) - blen den + e) / w - D + 1) then ((blen num : Int) - blen den + e) / w - D + 1 else ((blen num : Int) - blen den + e) / w - D
theorem p0x {num den : Nat} (hn : 0 < num) (hd : 0 < den) (e : Int) {w D : Nat} (hw : 0 < w) (hD : 1 ≤ D) : IsK num den e w D (theK num den e w D) := by
 obtain ⟨h1, h2⟩ := r0g hn hd e hw hD _ rfl
 unfold theK
 by_cases h3 : d0p num den e w D (((blen num : Int) - blen den + e) / w - D + 1)
 · rw [if_pos h3]
   exact ⟨h3, by rw [show ∀ z : Int, z + 1 + 1 = z + 2 by omega]; exact h2⟩
 · rw [if_neg h3]
   exact ⟨h1, h3⟩
theorem a1r {num den : Nat} (hn : 0 < num) (hd : 0 < den) {e : Int} {w D : Nat} (hw : 0 < w) (hD : 1 ≤ D) {K : Int} (h : IsK num den e w D K) : theK num den e w D = K :=
 (p0x hn hd e hw hD).unique hd h
def g0g (neg : Bool) (num den : Nat) (e : Int) (g : Gd) (way : Int) : Pl :=
 if num = 0 then ⟨false, 0, 0, true, false, false⟩ else fitK neg num den e g way (theK num den e (wid g) g.digs.toNat)
end Go.Slip
namespace Go.Proofs.YthcoapcffhgckaaDoor
open Go.RowKit Go.Slip
def wiB (n m : Int) : Bool := decide (-m ≤ n) && decide (n ≤ m)
theorem f0v {n m : Int} (h1 : -m ≤ n) (h2 : n ≤ m) : wiB n m = true := by unfold wiB; simp [h1, h2]
theorem d0l {n m : Int} (h : n < -m ∨ m < n) : wiB n m = false := by
 unfold wiB
 rcases h with h | h
 · rw [decide_eq_false (by omega)]; rfl
 · rw [decide_eq_false (p := n ≤ m) (by omega)]; simp
theorem b0r (n m : Int) (w : World) (hm : -1000000000 ≤ m ∧ m ≤ 1000000000) :
 Calls Tryd.prog 32 #[.int .i64 n, .int .i64 m] w fun e w' => e = .returned (.bool (wiB n m)) ∧ w = w' := by
 obtain ⟨hm1, hm2⟩ := hm
 by_cases h1 : -m ≤ n
 · by_cases h2 : n ≤ m
   · rw [f0v h1 h2]
     go_enter Tryd.func32, Tryd.ntmps32
     go_wp2
     go_ret
     exact ⟨rfl, rfl⟩
   · rw [d0l (by omega)]
     go_enter Tryd.func32, Tryd.ntmps32
     go_wp2
     go_ret
     exact ⟨rfl, rfl⟩
 · rw [d0l (by omega)]
   go_enter Tryd.func32, Tryd.ntmps32
   go_wp2
   go_ret
   exact ⟨rfl, rfl⟩
theorem v0l (g : Gd) (w : World) :
 Calls Tryd.prog 58 #[.agg #[.int .i64 g.rad, .int .i64 g.digs, .int .i64 g.lo, .int .i64 g.hi, .bool g.grad]] w fun e w' => e = .returned (.int .i64 (wid g : Nat)) ∧ Below w.heap.size w w' := by
 obtain ⟨rad, digs, lo, hi, grad⟩ := g
 simp only
 unfold wid
 simp only
 have hb : Below w.heap.size w (w.alloc (.cells #[.int .i64 rad, .int .i64 digs, .int .i64 lo, .int .i64 hi, .bool grad] 29)) := a0l _ _
 by_cases h : rad = 16
 · subst h
   go_enter Tryd.func58, Tryd.ntmps58
   go_wp2
   go_ret
   exact ⟨by simp, hb⟩
 · have h1 : (rad == 16) = false := bFn h
   rw [if_neg h]
   clear h
   go_enter Tryd.func58, Tryd.ntmps58
   go_wp2
   go_ret
   exact ⟨rfl, hb⟩
theorem s0n {n : Int} {d : Nat} (hd : 1 ≤ d) (_h : n < 0) : -(((d : Int) - 1 - n) / d) = n / d := by
 have h1 := j0t n d hd
 have h2 := j0t ((d : Int) - 1 - n) d hd
 have hp : (0 : Int) < d := by omega
 generalize n / (d : Int) = x at *
 generalize ((d : Int) - 1 - n) / (d : Int) = y at *
 have h3 : (d : Int) * (x + y) < d := by rw [Int.mul_add]; omega
 have h4 : (d : Int) * (-1) < d * (x + y) := by rw [Int.mul_add]; omega
 have h5 := Int.lt_of_mul_lt_mul_left h4 (by omega)
 have h6 : (d : Int) * (x + y) < d * 1 := by omega
 have h7 := Int.lt_of_mul_lt_mul_left h6 (by omega)
 omega
theorem s0o (n : Int) (d : Nat) (w : World) (hn : -1000000000 ≤ n ∧ n ≤ 1000000000) (hd : 1 ≤ d) (hd2 : d ≤ 1000) :
 Calls Tryd.prog 59 #[.int .i64 n, .int .i64 d] w fun e w' => e = .returned (.int .i64 (n / (d : Int))) ∧ w = w' := by
 obtain ⟨hn1, hn2⟩ := hn
 have t1 : ((d : Int) == 0) = false := bFn (by omega)
 by_cases h : n < 0
 · have hq := Int.ediv_le_self (a := (d : Int) - 1 - n) (d : Int) (by omega)
   have hq0 := Int.ediv_nonneg (a := (d : Int) - 1 - n) (b := (d : Int)) (by omega) (by omega)
   rw [← s0n hd h]
   go_enter Tryd.func59, Tryd.ntmps59
   go_wp2
   go_ret
   exact ⟨rfl, rfl⟩
 · have hq := Int.ediv_le_self (a := n) (d : Int) (by omega)
   have hq0 := Int.ediv_nonneg (a := n) (b := (d : Int)) (by omega) (by omega)
   go_enter Tryd.func59, Tryd.ntmps59
   go_wp2
   go_ret
   exact ⟨rfl, rfl⟩
theorem m0s (g : Gd) (w : World) :
 Calls Tryd.prog 33 #[.agg #[.int .i64 g.rad, .int .i64 g.digs, .int .i64 g.lo, .int .i64 g.hi, .bool g.grad]] w fun e w' => e = .returned (.int .i64 (errG g)) ∧ Below w.heap.size w w' := by
 obtain ⟨rad, digs, lo, hi, grad⟩ := g
 unfold errG farG most
 simp only
 have hb : Below w.heap.size w (w.alloc (.cells #[.int .i64 rad, .int .i64 digs, .int .i64 lo, .int .i64 hi, .bool grad] 29)) := a0l _ _
 by_cases hr2 : rad = 2
 · subst hr2
   rw [if_neg (by omega)]
   simp only [show ¬ ((2 : Int) = 16) by omega, if_false]
   by_cases h1 : digs < 1
   · rw [if_pos (by omega)]
     go_enter Tryd.func33, Tryd.ntmps33
     go_wp2
     go_ret
     exact ⟨rfl, hb⟩
   · by_cases h2 : 120 < digs
     · rw [if_pos (by omega)]
       go_enter Tryd.func33, Tryd.ntmps33
       go_wp2
       go_ret
       exact ⟨rfl, hb⟩
     · by_cases h3 : lo < -17000 ∨ 17000 < lo
       · rw [if_pos (by omega)]
         have t3 := d0l h3
         clear h3
         go_enter Tryd.func33, Tryd.ntmps33
         go_wp2_with (go_at_call 32; refine (b0r _ _ _ (by omega)).mono ?_; rintro _ _ ⟨rfl, rfl⟩)
         go_ret
         exact ⟨rfl, hb⟩
       · have t3 := f0v (n := lo) (m := 17000) (by omega) (by omega)
         by_cases h4 : hi < -17000 ∨ 17000 < hi
         · rw [if_pos (by omega)]
           have t4 := d0l h4
           clear h3 h4
           go_enter Tryd.func33, Tryd.ntmps33
           go_wp2_with (go_at_call 32; refine (b0r _ _ _ (by omega)).mono ?_; rintro _ _ ⟨rfl, rfl⟩)
           go_ret
           exact ⟨rfl, hb⟩
         · have t4 := f0v (n := hi) (m := 17000) (by omega) (by omega)
           by_cases h5 : hi < lo
           · rw [if_pos (by omega)]
             clear h3 h4
             go_enter Tryd.func33, Tryd.ntmps33
             go_wp2_with (go_at_call 32; refine (b0r _ _ _ (by omega)).mono ?_; rintro _ _ ⟨rfl, rfl⟩)
             go_ret
             exact ⟨rfl, hb⟩
           · rw [if_neg (by omega)]
             clear h3 h4
             go_enter Tryd.func33, Tryd.ntmps33
             go_wp2_with (go_at_call 32; refine (b0r _ _ _ (by omega)).mono ?_; rintro _ _ ⟨rfl, rfl⟩)
             go_ret
             exact ⟨rfl, hb⟩
 · have u2 : (rad == 2) = false := bFn hr2
   have u2' : (rad != 2) = true := by rw [bne, u2]; rfl
   by_cases hr16 : rad = 16
   · subst hr16
     rw [if_neg (by omega)]
     simp only [if_true]
     by_cases h1 : digs < 1
     · rw [if_pos (by omega)]
       go_enter Tryd.func33, Tryd.ntmps33
       go_wp2
       go_ret
       exact ⟨rfl, hb⟩
     · by_cases h2 : 120 < digs
       · rw [if_pos (by omega)]
         go_enter Tryd.func33, Tryd.ntmps33
         go_wp2
         go_ret
         exact ⟨rfl, hb⟩
       · by_cases h3 : lo < -4000 ∨ 4000 < lo
         · rw [if_pos (by omega)]
           have t3 := d0l h3
           clear h3
           go_enter Tryd.func33, Tryd.ntmps33
           go_wp2_with (go_at_call 32; refine (b0r _ _ _ (by omega)).mono ?_; rintro _ _ ⟨rfl, rfl⟩)
           go_ret
           exact ⟨rfl, hb⟩
         · have t3 := f0v (n := lo) (m := 4000) (by omega) (by omega)
           by_cases h4 : hi < -4000 ∨ 4000 < hi
           · rw [if_pos (by omega)]
             have t4 := d0l h4
             clear h3 h4
             go_enter Tryd.func33, Tryd.ntmps33
             go_wp2_with (go_at_call 32; refine (b0r _ _ _ (by omega)).mono ?_; rintro _ _ ⟨rfl, rfl⟩)
             go_ret
             exact ⟨rfl, hb⟩
           · have t4 := f0v (n := hi) (m := 4000) (by omega) (by omega)
             by_cases h5 : hi < lo
             · rw [if_pos (by omega)]
               clear h3 h4
               go_enter Tryd.func33, Tryd.ntmps33
               go_wp2_with (go_at_call 32; refine (b0r _ _ _ (by omega)).mono ?_; rintro _ _ ⟨rfl, rfl⟩)
               go_ret
               exact ⟨rfl, hb⟩
             · rw [if_neg (by omega)]
               clear h3 h4
               go_enter Tryd.func33, Tryd.ntmps33
               go_wp2_with (go_at_call 32; refine (b0r _ _ _ (by omega)).mono ?_; rintro _ _ ⟨rfl, rfl⟩)
               go_ret
               exact ⟨rfl, hb⟩
   · have u16 : (rad == 16) = false := bFn hr16
     have u16' : (rad != 16) = true := by rw [bne, u16]; rfl
     rw [if_pos ⟨hr2, hr16⟩]
     clear hr2 hr16
     go_enter Tryd.func33, Tryd.ntmps33
     go_wp2
     go_ret
     exact ⟨rfl, hb⟩
theorem v0m (p : OA) (n c : Nat) (a d : Nat) (w : World) (hp : Rd w .u32 p (dig B32 a)) (hn : n = (dig B32 a).length) (hl : (dig B32 a).length ≤ 1000000000) (hd0 : 0 < d) (hd1 : d < 4294967296) :
 Calls Tryd.prog 82 #[.slice p n c, .int .u32 d] w fun e w' => ∃ p' c', e = .returned (.tuple #[.slice p' (dig B32 (a / d)).length c', .int .u32 (a % d : Nat)]) ∧
  Own w' w.heap.size .u32 55 p' c' (dig B32 (a / d)) ∧ Below w.heap.size w w' := by
 subst hn
 have HA := lHd (a0q a0a a)
 have HXL := lHd (b0a a0a a)
 generalize dig B32 a = xs at hp hl HA HXL ⊢
 have hsx := hp.solid
 go_enter Tryd.func82, Tryd.ntmps82
 go_wp2_with (refine i0q rfl _ _ _ rfl b0l .i64 .i64 xs.length _ _ rfl rfl ?_ ?_ ?_ ?_; omega; omega; omega; intro p1 c1 w1 ho1 hb1 hz1)
 go_loopw [7, 8] (fun rv iv wr => ∃ (k r : Nat) (L : List Nat), iv = .int .i64 ((k : Int) - 1) ∧ rv = .int .u64 r ∧ k ≤ xs.length ∧ r < d ∧ Hid (L.length = xs.length) ∧ Own wr w.heap.size .u32 55 p1 c1 L ∧ Below w.heap.size w wr ∧ Hid (SmallRel B32 L xs d k r))
  (fun _ iv _ => (intOf iv + 1).toNat)
 case atStart => exact ⟨xs.length, 0, _, rfl, rfl, Nat.le_refl _, hd0, List.length_replicate, ho1, hb1, (show SmallRel B32 _ xs d xs.length 0 from ⟨fun x hx => by rw [(List.mem_replicate.1 hx).2]; exact b0i, hd0, by simp⟩)⟩
 case round =>
  obtain ⟨k, r, L, rfl, rfl, hk, hrd, hL, hoL, hbL, HR⟩ := hrel
  have hpL := hp.past hbL
  have hsL := hoL.solid
  rw [hL.out] at hsL
  by_cases h0 : 0 < k
  · obtain ⟨k, rfl⟩ : ∃ j, k = j + 1 := ⟨k - 1, by omega⟩
    have hc1 := hpL.cells k (by omega)
    have hxd := a0f (B := 4294967296) (by omega) xs HXL.out k
    have hor := or32 r (dg xs k) (by omega) hxd
    obtain ⟨HS, HQ⟩ := HR.out.step (by omega) (by rw [hL.out]; omega) (by unfold B32; exact hxd)
    have HS := lHd HS
    have ej : ((k + 1 : Nat) : Int) - 1 = k := by omega
    rw [ej]
    unfold B32 at HQ
    obtain ⟨t, ht⟩ : ∃ t, t = r * 4294967296 + dg xs k := ⟨_, rfl⟩
    have et : (r : Int) * 4294967296 + (dg xs k : Nat) = (t : Nat) := by omega
    have htb : t < 18446744073709551616 := by omega
    rw [et] at hor
    rw [← ht] at HQ
    have HT := lHd ht
    have hq0 : (0 : Int) ≤ (t : Int) / (d : Int) := Int.ediv_nonneg (by omega) (by omega)
    have hq1 : (t : Int) / (d : Int) < 4294967296 := by have : ((t / d : Nat) : Int) = (t : Int) / (d : Int) := rfl; omega
    have hd2 : (1 : Int) ≤ (d : Int) := by omega
    have k0 : (0 : Int) ≤ (k : Int) := by omega
    have k1 : (k : Int) < (xs.length : Int) := by omega
    clear ht et hc1
    have hc1 := hpL.cells k (by omega)
    go_wp2_with fail
    clear hc1 hor ej
    have e1 : IntKind.u64.wrap (d : Int) = (d : Int) := IntWalk.u64_in _ (by omega)
    have e2 : ¬ d = 0 := by omega
    have e3 : IntKind.u64.wrap ((t : Int) / (d : Int)) = (t : Int) / (d : Int) := IntWalk.u64_in _ (by omega)
    have e4 : IntKind.u32.wrap ((t : Int) / (d : Int)) = (t : Int) / (d : Int) := IntWalk.u32_in _ (by omega)
    have e5 : (t : Int).tmod (d : Int) = (t : Int) % (d : Int) := Int.tmod_eq_emod_of_nonneg (by omega)
    have hcL := hoL.rd.cells k (by rw [hL.out]; omega)
    have hfL := f0o hoL k (by rw [hL.out]; omega)
    go_region
    obtain ⟨ho3, hg3, hb3⟩ := h0o hoL k (by rw [hL.out]; omega) (t / d)
    clear e1 e2 e3 e4 e5 hcL hfL
    have hb3 := hbL.trans (a0z hg3 hbL.size (fun j hj => by cases hj; exact hb3))
    have ho3 := ho3.drew
    have hb3 := hb3.drew
    have eq : ((t / d : Nat) : Int) = (t : Int) / (d : Int) := rfl
    rw [eq] at ho3 hb3 hg3
    generalize (wr.setCell (at_ p1 k) (.int .u32 ((t : Int) / (d : Int)))).drew = w3 at ho3 hb3 ⊢
    clear eq hg3
    go_wp2
    go_roundw
    case rel =>
     have e6 : r * B32 + dg xs k = t := by rw [HT.out]; rfl
     rw [e6] at HS
     exact ⟨k, t % d, _, rfl, rfl, by omega, Nat.mod_lt _ hd0, (by show (List.set _ _ _).length = _; rw [List.length_set]; exact hL.out), ho3, hb3, HS⟩
    case measure => first | (simp [intOf]; done) | (simp [intOf]; omega)
  · obtain rfl : k = 0 := by omega
    obtain ⟨hv, hm⟩ := HR.out.done HA.out
    have HM := lHd hm
    have HV := lHd hv
    clear hv hm
    go_wp2_with (go_at_call 63; refine (d0q _ _ _ L _ hoL.rd hL.out.symm hoL.le_cap HR.out.1 (by rw [hL.out]; omega)).mono ?_; rintro e w3 ⟨rfl, rfl⟩)
    go_ret2
    have ht := a0v a0a L HR.out.1
    have ho2 := hoL.take (dig B32 (val B32 L)).length
    rw [ht, HV.out] at ho2
    refine ⟨p1, c1, ?_, ho2, hbL⟩
    rw [HV.out, ← HM.out]
    rfl
theorem l0g {w : World} {base : Nat} {k : IntKind} {e : TypeId} {p : OA} {c : Nat} {X : List Nat} (h : Own w base k e p c X) (j : Nat) (hj : j < X.length) :
 (∀ i, at_ (p.map (·.add j)) i = at_ p (j + i)) ∧ h0n (p.map (·.add j)) (X.length - j) := by
 have h1 := h.rd.solid (by omega)
 refine ⟨fun i => t0h p j i h1.1, ?_⟩
 have := (h.rd.drop j).solid
 rwa [List.length_drop] at this
def v0n (w : World) (base : Nat) (e : TypeId) (p : OA) (c : Nat) (X ys : List Nat) (j t : Nat) (en : Ending) (w' : World) : Prop :=
 ∃ L br, br ≤ 1 ∧ en = .returned (.bool (decide (0 < br))) ∧ Own w' base .u32 e p c L ∧ w.grownBy w' (some (blk p)) ∧ Below base w w' ∧
  b0p L X j (ys.length + 1) ∧ val B32 L + B32 ^ j * (t * val B32 ys) = val B32 X + br * B32 ^ (j + (ys.length + 1))
theorem m0t (p pw q : OA) (c cw n m d : Nat) (X ys : List Nat) (j t base : Nat) (w : World) (hX : Own w base .u32 55 p c X) (hq : Rd w .u32 q ys) (hpw : pw = p.map (·.add j)) (hm : m = ys.length) (hn : n = ys.length + 1)
 (hj : j + ys.length < X.length) (hxl : ∀ x ∈ X, x < B32) (hyl : ∀ x ∈ ys, x < B32) (ht : t < 4294967296) (hap : n0r p q ys) (hps : p.isSome = true) (hl : X.length ≤ 1000000000) :
 Calls Tryd.prog 84 #[.slice pw n cw, .slice q m d, .int .u32 t] w (v0n w base 55 p c X ys j t) := by
 subst hm hn
 obtain ⟨hat, hsw⟩ := l0g hX j (by omega)
 have hsw := hsw.mono (show ys.length + 1 ≤ X.length - j by omega)
 rw [← hpw] at hat hsw
 clear hpw
 have hsy := hq.solid
 have HXL := lHd hxl
 have HYL := lHd hyl
 have HAT := lHd hat
 have H0 := lHd (m0b.start hxl ys j t)
 have HPS := lHd hps
 clear hxl hyl hat hps
 go_enter Tryd.func84, Tryd.ntmps84
 go_wp2
 go_loopw [7, 8, 14] (fun cv bv iv wr => ∃ (i cr br : Nat) (L : List Nat), iv = .int .i64 i ∧ cv = .int .u64 cr ∧ bv = .int .u32 br ∧ i ≤ ys.length ∧ cr < 4294967296 ∧ br ≤ 1 ∧ Hid (L.length = X.length) ∧ Own wr base .u32 55 p c L ∧ w.grownBy wr (some (blk p)) ∧ Below base w wr ∧ Hid (m0b L X ys j t i cr br))
  (fun _ _ iv _ => ys.length - (intOf iv).toNat)
 case atStart => exact ⟨0, 0, 0, X, rfl, rfl, rfl, Nat.zero_le _, by omega, by omega, rfl, hX, World.grownBy.refl _ _, Below.refl _ _, H0⟩
 case round =>
  obtain ⟨i, cr, br, L, rfl, rfl, rfl, hi, hcr, hbr, hL, hoL, hgL, hbL, HR⟩ := hrel
  have hqL := hq.written hgL hap HPS.out
  have hLd := a0f (B := 4294967296) (by omega) L HR.out.1.1 (j + i)
  have hXd := a0f (B := 4294967296) (by omega) X HXL.out (j + i)
  have hc1 := hoL.rd.cells (j + i) (by rw [hL.out]; omega)
  rw [← HAT.out i] at hc1
  by_cases hlt : i < ys.length
  · have hc2 := hqL.cells i hlt
    have hyd := a0f (B := 4294967296) (by omega) ys HYL.out i
    obtain ⟨hpr, hpr0⟩ := t0z hyd ht
    obtain ⟨P, hP⟩ : ∃ P, P = dg ys i * t + cr := ⟨_, rfl⟩
    have HS := lHd (HR.out.step (by omega) hXd hbr P hP)
    have et : (dg ys i : Int) * (t : Nat) + (cr : Nat) = (P : Nat) := by rw [hP]; simp
    have hP0 : P < 18446744073709551616 := by omega
    obtain ⟨pl, hpl⟩ : ∃ pl, pl = P % 4294967296 := ⟨_, rfl⟩
    obtain ⟨ph, hph⟩ : ∃ ph, ph = P / 4294967296 := ⟨_, rfl⟩
    have em : (P : Int) % 4294967296 = (pl : Nat) := by omega
    have ed : (P : Int) / 4294967296 = (ph : Nat) := by omega
    have hpl0 : pl < 4294967296 := by omega
    have hph0 : ph < 4294967296 := by omega
    rw [← hpl, ← hph] at HS
    have HC := m0a (dg L (j + i)) pl br
    clear hP hpl hph
    go_wp2_with (first
      | (go_at_call 66; refine (g0v _ _ br _ hLd hpl0 hbr).mono ?_; rintro e w2 ⟨rfl, rfl⟩)
      | (refine a0j rfl _ _ _ rfl 55 b0l _ _ _ _ hoL (j + i) (by rw [hL.out]; omega) _ ?_ (by rw [← HAT.out i]; rfl) rfl ?_; omega; intro w3 ho3 hg3 hb3))
    rw [Int.toNat_natCast] at ho3
    go_roundw
    case rel => exact ⟨i + 1, ph, subB (dg L (j + i)) pl br, _, by go_num, rfl, rfl, hlt, hph0, HC, (by show (List.set _ _ _).length = _; rw [List.length_set]; exact hL.out), ho3, hgL.trans hg3, hbL.trans hb3, HS⟩
    case measure => simp [intOf]; omega
  · obtain rfl : i = ys.length := by omega
    obtain ⟨HW, HV⟩ := HR.out.last (by omega) hXd hbr hcr
    have HW := lHd HW
    have HV := lHd HV
    have HC := m0a (dg L (j + ys.length)) cr br
    have ec : (cr : Int) % 4294967296 = (cr : Nat) := by omega
    go_wp2_with (first
      | (go_at_call 66; refine (g0v _ _ br _ hLd hcr hbr).mono ?_; rintro e w2 ⟨rfl, rfl⟩)
      | (refine a0j rfl _ _ _ rfl 55 b0l _ _ _ _ hoL (j + ys.length) (by rw [hL.out]; omega) _ ?_ (by rw [← HAT.out ys.length]; rfl) rfl ?_; omega; intro w3 ho3 hg3 hb3))
    rw [Int.toNat_natCast] at ho3
    go_ret
    exact ⟨_, subB (dg L (j + ys.length)) cr br, HC, w0z (by simp), ho3, hgL.trans hg3, hbL.trans hb3, HW.out, HV.out⟩
def v0o (w : World) (base : Nat) (e : TypeId) (p : OA) (c : Nat) (X ys : List Nat) (j : Nat) (en : Ending) (w' : World) : Prop :=
 ∃ L co, en = .returned (.tuple #[]) ∧ Own w' base .u32 e p c L ∧ w.grownBy w' (some (blk p)) ∧ Below base w w' ∧
  b0p L X j (ys.length + 1) ∧ val B32 L + co * B32 ^ (j + (ys.length + 1)) = val B32 X + B32 ^ j * val B32 ys
theorem m0u (p pw q : OA) (c cw n m d : Nat) (X ys : List Nat) (j base : Nat) (w : World) (hX : Own w base .u32 55 p c X) (hq : Rd w .u32 q ys) (hpw : pw = p.map (·.add j)) (hm : m = ys.length) (hn : n = ys.length + 1)
 (hj : j + ys.length < X.length) (hxl : ∀ x ∈ X, x < B32) (hyl : ∀ x ∈ ys, x < B32) (hap : n0r p q ys) (hps : p.isSome = true) (hl : X.length ≤ 1000000000) :
 Calls Tryd.prog 85 #[.slice pw n cw, .slice q m d] w (v0o w base 55 p c X ys j) := by
 subst hm hn
 obtain ⟨hat, hsw⟩ := l0g hX j (by omega)
 have hsw := hsw.mono (show ys.length + 1 ≤ X.length - j by omega)
 rw [← hpw] at hat hsw
 clear hpw
 have hsy := hq.solid
 have HXL := lHd hxl
 have HYL := lHd hyl
 have HAT := lHd hat
 have H0 := lHd (m0c.start hxl ys j)
 have HPS := lHd hps
 clear hxl hyl hat hps
 go_enter Tryd.func85, Tryd.ntmps85
 go_wp2
 go_loopw [4, 9] (fun cv iv wr => ∃ (i cr : Nat) (L : List Nat), iv = .int .i64 i ∧ cv = .int .u32 cr ∧ i ≤ ys.length ∧ cr ≤ 1 ∧ Hid (L.length = X.length) ∧ Own wr base .u32 55 p c L ∧ w.grownBy wr (some (blk p)) ∧ Below base w wr ∧ Hid (m0c L X ys j i cr))
  (fun _ iv _ => ys.length - (intOf iv).toNat)
 case atStart => exact ⟨0, 0, X, rfl, rfl, Nat.zero_le _, by omega, rfl, hX, World.grownBy.refl _ _, Below.refl _ _, H0⟩
 case round =>
  obtain ⟨i, cr, L, rfl, rfl, hi, hcr, hL, hoL, hgL, hbL, HR⟩ := hrel
  have hqL := hq.written hgL hap HPS.out
  have hLd := a0f (B := 4294967296) (by omega) L HR.out.1.1 (j + i)
  have hc1 := hoL.rd.cells (j + i) (by rw [hL.out]; omega)
  rw [← HAT.out i] at hc1
  by_cases hlt : i < ys.length
  · have hc2 := hqL.cells i hlt
    have hyd := a0f (B := 4294967296) (by omega) ys HYL.out i
    have HS := lHd (HR.out.step (by omega) _ rfl)
    have HC : (dg L (j + i) + dg ys i + cr) / 4294967296 ≤ 1 := by omega
    go_wp2_with (first
      | (go_at_call 65; refine (f0c _ _ cr _ hLd hyd hcr).mono ?_; rintro e w2 ⟨rfl, rfl⟩)
      | (refine a0j rfl _ _ _ rfl 55 b0l _ _ _ _ hoL (j + i) (by rw [hL.out]; omega) _ ?_ (by rw [← HAT.out i]; rfl) rfl ?_; omega; intro w3 ho3 hg3 hb3))
    have e3 : (((dg L (j + i) : Int) + dg ys i + cr) % 4294967296).toNat = (dg L (j + i) + dg ys i + cr) % 4294967296 := by omega
    rw [e3] at ho3
    go_roundw
    case rel => exact ⟨i + 1, (dg L (j + i) + dg ys i + cr) / 4294967296, _, by go_num, by go_num, hlt, HC, (by show (List.set _ _ _).length = _; rw [List.length_set]; exact hL.out), ho3, hgL.trans hg3, hbL.trans hb3, HS⟩
    case measure => simp [intOf]; omega
  · obtain rfl : i = ys.length := by omega
    obtain ⟨HW, HV⟩ := HR.out.last (by omega)
    have HW := lHd HW
    have HV := lHd HV
    go_wp2_with (refine a0j rfl _ _ _ rfl 55 b0l _ _ _ _ hoL (j + ys.length) (by rw [hL.out]; omega) _ ?_ (by rw [← HAT.out ys.length]; rfl) rfl ?_; omega; intro w3 ho3 hg3 hb3)
    have e3 : (((dg L (j + ys.length) : Int) + cr) % 4294967296).toNat = (dg L (j + ys.length) + cr) % 4294967296 := by omega
    rw [e3] at ho3
    go_end0
    exact ⟨_, _, rfl, ho3, hgL.trans hg3, hbL.trans hb3, HW.out, HV.out⟩
theorem x0z (x : Nat) (w : World) (h1 : x < 4294967296) :
 Calls Tryd.prog 83 #[.int .u32 x] w fun e w' => e = .returned (.int .i64 ((32 - blen x : Nat) : Int)) ∧ w = w' := by
 have hb : blen x ≤ 32 := (b0s x 32).2 (by omega)
 go_enter Tryd.func83, Tryd.ntmps83
 go_wp2_with (go_at_call 68; refine (n0y x _ h1).mono ?_; rintro e w1 ⟨rfl, rfl⟩)
 go_ret
 exact ⟨a0s (by omega), rfl⟩
theorem _root_.Go.Slip.DivRel.even' {A mm j t r : Nat} {ys U Q L : List Nat} (h : DivRel A (val B32 ys) ys.length U Q (j + 1)) (k : c0r ys U mm j) (ht : f0z ys U mm j t r) (hj : j < Q.length) (hB : t < 4294967296)
 (hw : b0p L U j (ys.length + 1)) (hv : val B32 L + B32 ^ j * (t * val B32 ys) = val B32 U + 0 * B32 ^ (j + (ys.length + 1))) : DivRel A (val B32 ys) ys.length L (Q.set j t) j := by
 have e := k.ly
 rw [e] at h hw hv ⊢
 exact h.even k ht hj hB hw hv
theorem _root_.Go.Slip.DivRel.owed' {A mm j t r co : Nat} {ys U Q L M : List Nat} (h : DivRel A (val B32 ys) ys.length U Q (j + 1)) (k : c0r ys U mm j) (ht : f0z ys U mm j t r) (he : t ≤ val B32 (U.drop j) / val B32 ys + 1) (hj : j < Q.length) (hB : t < 4294967296)
 (hw : b0p L U j (ys.length + 1)) (hv : val B32 L + B32 ^ j * (t * val B32 ys) = val B32 U + 1 * B32 ^ (j + (ys.length + 1)))
 (hw2 : b0p M L j (ys.length + 1)) (hv2 : val B32 M + co * B32 ^ (j + (ys.length + 1)) = val B32 L + B32 ^ j * val B32 ys) : 0 < t ∧ DivRel A (val B32 ys) ys.length M (Q.set j (t - 1)) j := by
 have e := k.ly
 rw [e] at h hw hv hw2 hv2 ⊢
 exact h.owed k ht he hj hB hw hv hw2 hv2
theorem m0v {mm j t : Nat} {ys U L : List Nat} (k : c0r ys U mm j) (hw : b0p L U j (ys.length + 1)) (hv : val B32 L + B32 ^ j * (t * val B32 ys) = val B32 U + 1 * B32 ^ (j + (ys.length + 1))) : 0 < t := by
 have e := k.ly
 rw [e] at hw hv
 have h1 := t0q hw hv
 have h2 := t0r hw k.z
 rcases Nat.eq_zero_or_pos t with h0 | h0
 · subst h0
   rw [Nat.zero_mul] at h1
   omega
 · exact h0
def r0h (w : World) (e : TypeId) (xs ys : List Nat) (en : Ending) (w' : World) : Prop :=
 ∃ p c q d, en = .returned (.tuple #[.slice p xs.length c, .slice q ys.length d]) ∧ Own w' w.heap.size .u32 e p c xs ∧ Own w' w.heap.size .u32 e q d ys ∧ Below w.heap.size w w' ∧ (p.isSome = true → q.isSome = true → blk p ≠ blk q)
theorem y0a (p q : OA) (n m c d : Nat) (a b : Nat) (w : World) (hp : Rd w .u32 p (dig B32 a)) (hq : Rd w .u32 q (dig B32 b)) (hn : n = (dig B32 a).length) (hm : m = (dig B32 b).length)
 (hl : (dig B32 a).length ≤ 1000000000) (hl2 : (dig B32 b).length ≤ 1000000000) (hab : a < b) :
 Calls Tryd.prog 77 #[.slice p n c, .slice q m d] w (r0h w 55 [] (dig B32 a)) := by
 subst hn hm
 have hC : cmpN a b ≤ -1 := by rw [f0d hab]; omega
 go_enter Tryd.func77, Tryd.ntmps77
 go_wp2_with fail
 refine (d0j p q _ _ c d a b _ hp hq rfl rfl (by omega) (by omega)).mono ?_
 rintro e w1 ⟨rfl, hb1⟩
 go_wp2_with fail
 refine (f0b p _ c _ _ (hp.past hb1) rfl hl).mono ?_
 rintro e w2 ⟨p2, c2, rfl, ho2, hb2⟩
 go_wp2_with fail
 go_ret2
 exact ⟨none, 0, p2, c2, rfl, Own.nil _ _ _ _, ho2.mono hb1.size, hb1.trans (hb2.mono hb1.size), fun h => by simp at h⟩
theorem v0p (p q : OA) (n m c d : Nat) (a b : Nat) (w : World) (hp : Rd w .u32 p (dig B32 a)) (hq : Rd w .u32 q [b]) (hn : n = (dig B32 a).length) (hm : m = 1)
 (hl : (dig B32 a).length ≤ 1000000000) (hb0 : 0 < b) (hb1 : b < 4294967296) (hab : b ≤ a) :
 Calls Tryd.prog 77 #[.slice p n c, .slice q m d] w (r0h w 55 (dig B32 (a / b)) (dig B32 (a % b))) := by
 subst hn hm
 have hC : 0 ≤ cmpN a b := by unfold cmpN; rw [if_neg (by omega)]; split <;> omega
 have eb : [b] = dig B32 b := by rw [d0e a0a hb0, Nat.div_eq_of_lt (by unfold B32; omega), a0b, Nat.mod_eq_of_lt (by unfold B32; omega)]
 have hr : a % b < 4294967296 := Nat.lt_trans (Nat.mod_lt a hb0) hb1
 obtain ⟨r, hrr⟩ : ∃ r, a % b = r := ⟨_, rfl⟩
 have HR := lHd hrr
 rw [hrr] at hr ⊢
 clear hrr
 have hX := lHd (show ∀ x ∈ [r], x < B32 by simp; unfold B32; omega)
 have hV := lHd (show val B32 [r] = r by simp)
 have hq2 := lHd (show Rd w .u32 q (dig B32 b) by rw [← eb]; exact hq)
 have hl1 := lHd (show 1 = (dig B32 b).length by rw [← eb]; rfl)
 clear eb
 have hsq := hq.solid
 simp only [List.length_singleton] at hsq
 go_enter Tryd.func77, Tryd.ntmps77
 go_wp2_with fail
 refine (d0j p q _ 1 c d a b _ hp hq2.out rfl hl1.out (by omega) (by rw [← hl1.out]; omega)).mono ?_
 rintro e w1 ⟨rfl, hb1'⟩
 have hcd : w1.cell? (at_ q 0) = some (.int .u32 (b : Nat)) := (hq.past hb1').cells 0 (by simp)
 go_wp2_with fail
 refine (v0m p _ c a b _ (hp.past hb1') rfl hl hb0 hb1).mono ?_
 rw [HR.out]
 rintro e w2 ⟨p2, c2, rfl, ho2, hb2⟩
 go_wp2_with (refine a0p rfl _ _ rfl b0l _ ?_ rfl ?_; omega; intro p3 w3 ho3 hb3 hz3 hp3)
 rw [Int.toNat_natCast] at ho3
 refine (d0q p3 1 1 [r] _ ho3.rd rfl (by simp) hX.out (by simp)).mono ?_
 rintro e w4 ⟨rfl, rfl⟩
 rw [hV.out]
 go_wp2_with fail
 go_ret2
 have ht := a0v a0a [r] hX.out
 have ho4 := ho3.take (dig B32 (val B32 [r])).length
 rw [ht, hV.out] at ho4
 have hs2 := hb1'.trans (hb2.mono hb1'.size)
 exact ⟨p2, c2, p3, _, rfl, (ho2.past hb3).mono hb1'.size, ho4.mono hs2.size, hs2.trans (hb3.mono hs2.size), fun h1 h2 => by have := (ho2.blk_lt h1).2; have := (ho4.blk_lt h2).1; omega⟩
theorem y0b (p q : OA) (n m c d : Nat) (a b : Nat) (w : World) (hp : Rd w .u32 p (dig B32 a)) (hq : Rd w .u32 q (dig B32 b)) (hn : n = (dig B32 a).length) (hm : m = (dig B32 b).length)
 (hl : (dig B32 a).length ≤ 100000000) (h2 : 2 ≤ (dig B32 b).length) (hab : b ≤ a) :
 Calls Tryd.prog 77 #[.slice p n c, .slice q m d] w (r0h w 55 (dig B32 (a / b)) (dig B32 (a % b))) := by
 subst hn hm
 have hC : 0 ≤ cmpN a b := by unfold cmpN; rw [if_neg (by omega)]; split <;> omega
 have hlb := a0e a0a hab
 have hb0 : 0 < b := by
  have := a0h a0a b
  omega
 obtain ⟨bt, hbt⟩ : ∃ bt, bt = dg (dig B32 b) ((dig B32 b).length - 1) := ⟨_, rfl⟩
 have hbt1 : bt < 4294967296 := by rw [hbt]; exact a0f (B := 4294967296) (by omega) _ (b0a a0a b) _
 have hbt2 : blen bt ≤ 32 := (b0s bt 32).2 (by omega)
 have hbt3 : 1 ≤ blen bt := (d0r bt).2 (by rw [hbt]; exact (i0r (B := B32) (s := 32) (by decide) a0a b hb0).2)
 obtain ⟨s, hs⟩ : ∃ s, s = 32 - blen bt := ⟨_, rfl⟩
 obtain ⟨nl, nt⟩ := x0f hb0 (s := s) (by rw [← hbt]; omega)
 have hs32 : s < 32 := by omega
 have HS := lHd hs
 have hcb := hq.cells ((dig B32 b).length - 1) (by omega)
 rw [← hbt] at hcb
 have t1 : (((dig B32 b).length : Int) == 1) = false := bFn (by omega)
 have lu1 := a0e a0a (show a ≤ a * 2 ^ s from Nat.le_mul_of_pos_right _ (Nat.pow_pos (by omega)))
 have lu2 : (dig B32 (a * 2 ^ s)).length ≤ (dig B32 a).length + 2 := by
  refine Nat.le_trans (e0l a0a _ _) ?_
  have : (dig B32 (2 ^ s)).length ≤ 1 := (a0d a0a _ 1).2 (Nat.lt_of_lt_of_le (Nat.pow_lt_pow_right (by omega) hs32) (by decide))
  omega
 obtain ⟨ys, hys⟩ : ∃ ys, ys = dig B32 (b * 2 ^ s) := ⟨_, rfl⟩
 obtain ⟨us, hus⟩ : ∃ us, us = dig B32 (a * 2 ^ s) := ⟨_, rfl⟩
 obtain ⟨mm, hmm⟩ : ∃ mm, ys.length = mm + 2 := ⟨ys.length - 2, by rw [hys, nl]; omega⟩
 have HYD := lHd (show ∀ x ∈ ys, x < B32 by rw [hys]; exact b0a a0a _)
 have HYV := lHd (show val B32 ys = b * 2 ^ s by rw [hys]; exact a0q a0a _)
 have hbig : 2147483648 ≤ dg ys (mm + 1) := by
  rw [hys, show mm + 1 = (dig B32 b).length - 1 by rw [← nl, ← hys, hmm]; omega]; exact nt
 rw [← hys] at nl
 rw [← hus] at lu1 lu2
 have hyl1 := Nat.le_of_eq nl
 have hyl2 := Nat.le_of_eq nl.symm
 have hU0 : DivRel (a * 2 ^ s) (val B32 ys) ys.length (us ++ [0]) (List.replicate (us.length + 1 - ys.length) 0) (us.length + 1 - ys.length) := by
  have := DivRel.start (A := a * 2 ^ s) (V := val B32 ys) (n := ys.length) (U := us ++ [0]) (fun x hx => by
    rcases List.mem_append.1 hx with h | h
    · rw [hus] at h; exact b0a a0a _ x h
    · simp at h; rw [h]; exact b0i) (by simp; omega) (by omega) (by rw [c0p, hus, a0q a0a]; simp)
   (by simp; rw [hus]; exact (a0d a0a _ _).1 (Nat.le_refl _))
   (by rw [HYV.out, hys]; exact c0m a0a _ (Nat.mul_pos hb0 (Nat.pow_pos (by omega))))
  simpa using this
 have HU0 := lHd hU0
 have HYS := lHd hys
 have HUS := lHd hus
 have HMM := lHd hmm
 obtain ⟨QL, hQL⟩ : ∃ QL, QL = us.length + 1 - ys.length := ⟨_, rfl⟩
 rw [← hQL] at HU0
 have q1 : QL + ys.length ≤ us.length + 1 := by omega
 have q2 : us.length + 1 ≤ QL + ys.length := by omega
 have y2 : 2 ≤ ys.length := by omega
 have HB0 := lHd hb0
 have HBT := lHd hbt
 clear hbt hs nl nt hU0 hys hus hmm hQL hb0
 go_enter Tryd.func77, Tryd.ntmps77
 go_wp2_with fail
 refine (d0j p q _ _ c d a b _ hp hq rfl rfl (by omega) (by omega)).mono ?_
 rintro e w1 ⟨rfl, hb1⟩
 have hp1 := hp.past hb1
 have hq1 := hq.past hb1
 have hsq := hq1.solid
 have hcb1 : w1.cell? (at_ q ((dig B32 b).length - 1)) = some (.int .u32 (bt : Nat)) := by
  have h := hq1.cells ((dig B32 b).length - 1) (by omega)
  rw [← HBT.out] at h; exact h
 go_wp2_with fail
 refine (x0z bt _ hbt1).mono ?_
 rintro e w2 ⟨rfl, rfl⟩
 rw [← HS.out]
 go_wp2_with fail
 refine (d0h q _ d b s _ hq1 rfl (by omega) (by omega)).mono ?_
 rw [← HYS.out]
 rintro e w3 ⟨pv, cv, rfl, hov, hb3⟩
 have hs3 := hb1.trans (hb3.mono hb1.size)
 go_wp2_with fail
 refine (d0h p _ c a s _ (hp1.past hb3) rfl (by omega) (by omega)).mono ?_
 rw [← HUS.out]
 rintro e w4 ⟨pu0, cu0, rfl, hou0, hb4⟩
 have hs4 := hs3.trans (hb4.mono hs3.size)
 go_wp2_with (first
   | (refine a0p rfl _ _ rfl b0l 0 (by omega) rfl ?_; intro p5 w5 ho5 hb5 hz5 hp5)
   | (at_builtin; refine a0o rfl _ _ _ rfl b0l w3.heap.size _ _ _ _ (hou0.past hb5) rfl _ _ _ _ ho5.rd rfl rfl rfl ?_ ?_ ?_; (simp; omega); (have := hb5.size; have := hb4.size; omega); intro pu cu w6 hou hg6 hb6 hn6))
 have hs5 := hs4.trans (hb5.mono hs4.size)
 have hs6 := hs5.trans (hb6.mono hs3.size)
 have hvl := hov.rd.lt (by omega)
 have hsz3 := hs3.size
 have hvr6 := ((hov.rd.past hb4).past hb5).below hb6 (fun _ => hvl)
 have hus6 := hou.solid
 rw [List.length_append, List.length_singleton] at hus6
 clear hb1 hb3 hb4 hb5 hb6 hs3 hs4 hs5 hp1 hq1 hcb hcb1 hsq t1 hn6 hg6 hou0 ho5 hz5 hp5
 go_loopw [10] (fun uv wr => uv = .slice pu (us.length + 1) cu ∧ w6 = wr) (fun _ _ => 0)
 case atStart => exact ⟨rfl, rfl⟩
 case round =>
  obtain ⟨rfl, rfl⟩ := hrel
  go_wp2_with (refine i0q rfl _ _ _ rfl b0l .i64 .i64 QL _ _ rfl rfl ?_ ?_ ?_ ?_; omega; omega; omega; intro pq cq w7 hoq hb7 hz7)
  obtain ⟨top, htop⟩ : ∃ top, dg ys (ys.length - 1) = top := ⟨_, rfl⟩
  obtain ⟨nx, hnx⟩ : ∃ nx, dg ys (ys.length - 2) = nx := ⟨_, rfl⟩
  have hvr7 := hvr6.past hb7
  have hc1 := hvr7.cells (ys.length - 1) (by omega)
  have hc2 := hvr7.cells (ys.length - 2) (by omega)
  rw [htop] at hc1
  rw [hnx] at hc2
  have hvs := hvr7.solid
  have htop1 : top < 4294967296 := by rw [← htop]; exact a0f (B := 4294967296) (by omega) ys HYD.out _
  have hnx1 : nx < 4294967296 := by rw [← hnx]; exact a0f (B := 4294967296) (by omega) ys HYD.out _
  have htop2 : 2147483648 ≤ top := by rw [← htop, HMM.out]; exact hbig
  have HTOP := lHd htop
  have HNX := lHd hnx
  clear htop hnx hbig
  have b1 : (0 : Int) ≤ (ys.length : Int) - 1 := by omega
  have b2 : (ys.length : Int) - 1 < (ys.length : Int) := by omega
  have b3 : (0 : Int) ≤ (ys.length : Int) - 2 := by omega
  have b4 : (ys.length : Int) - 2 < (ys.length : Int) := by omega
  have e1 : IntKind.i64.wrap ((ys.length : Int) - 1) = (ys.length : Int) - 1 := iwo
  have e2 : IntKind.i64.wrap ((ys.length : Int) - 2) = (ys.length : Int) - 2 := iwo
  have e3 : ((ys.length : Int) - 1).toNat = ys.length - 1 := by omega
  have e4 : ((ys.length : Int) - 2).toNat = ys.length - 2 := by omega
  have e5 : IntKind.u64.wrap (top : Int) = (top : Int) := IntWalk.u64_in _ (by omega)
  have e6 : IntKind.u64.wrap (nx : Int) = (nx : Int) := IntWalk.u64_in _ (by omega)
  go_wp2_with fail
  go_quiet (fail)
  clear b1 b2 b3 b4 e1 e2 e3 e4 e5 e6 hc1 hc2
  have hsvu : w3.heap.size ≤ w6.heap.size := by
   have := hou.rd.lt (by simp)
   have := (hou.blk_lt (hou.rd.solid (by simp)).1).1
   omega
  have hou7 := hou.past hb7
  have hups := (hou.rd.solid (by simp)).1
  have hbu := hou.blk_lt hups
  have hvu : blk pv ≠ blk pu := by omega
  have hqu : pq.isSome = true → some (blk pq) ≠ some (blk pu) := fun h => by
   have := hoq.blk_lt h
   simp only [ne_eq, Option.some.injEq]; omega
  have hqv : pq.isSome = true → blk pq ≠ blk pv := fun h => by
   have := hoq.blk_lt h
   omega
  have HVU := lHd hvu
  have HQU := lHd hqu
  have HQV := lHd hqv
  have HUPS := lHd hups
  have hs7 := hs6.trans (hb7.mono hs6.size)
  have hsz6 := hs6.size
  clear hvu hqu hqv hups hbu hsvu
  have hcu := hou.le_cap
  rw [List.length_append, List.length_singleton] at hcu
  go_wp2_with fail
  go_loopw [15] (fun jv wr => ∃ (k : Nat) (U Q : List Nat), jv = .int .i64 ((k : Int) - 1) ∧ k ≤ QL ∧ Hid (U.length = us.length + 1) ∧ Hid (Q.length = QL) ∧ Own wr w3.heap.size .u32 55 pu cu U ∧
      Own wr w6.heap.size .u32 55 pq cq Q ∧ Below w.heap.size w wr ∧ Rd wr .u32 pv ys ∧ Hid (DivRel (a * 2 ^ s) (val B32 ys) ys.length U Q k))
   (fun jv _ => (intOf jv + 1).toNat)
  case atStart => exact ⟨QL, _, _, by go_num, Nat.le_refl _, (by show (us ++ [Int.toNat 0]).length = us.length + 1; simp), List.length_replicate, hou7.drewN _, hoq.drewN _, below_drewN hs7 _, hvr7.drewN _, HU0⟩
  case round =>
   obtain ⟨k, U, Q, rfl, hk, hUl, hQl, hoU, hoQ, hbL, hrv, HR⟩ := hrel
   by_cases h0 : 0 < k
   · obtain ⟨j, rfl⟩ : ∃ j, k = j + 1 := ⟨k - 1, by omega⟩
     have ej : ((j + 1 : Nat) : Int) - 1 = j := by omega
     rw [ej]
     have KN : c0r ys U mm j := ⟨HYD.out, HR.out.dU, HMM.out, by rw [show mm + 1 = ys.length - 1 by rw [HMM.out]; omega, HTOP.out]; exact htop2, HR.out.win⟩
     have KN := lHd KN
     obtain ⟨u2, hu2⟩ : ∃ u2, dg U (j + ys.length) = u2 := ⟨_, rfl⟩
     obtain ⟨u1, hu1⟩ : ∃ u1, dg U (j + ys.length - 1) = u1 := ⟨_, rfl⟩
     obtain ⟨u0, hu0⟩ : ∃ u0, dg U (j + ys.length - 2) = u0 := ⟨_, rfl⟩
     have hc2 := hoU.rd.cells (j + ys.length) (by rw [hUl.out]; omega)
     have hc1 := hoU.rd.cells (j + ys.length - 1) (by rw [hUl.out]; omega)
     have hc0 := hoU.rd.cells (j + ys.length - 2) (by rw [hUl.out]; omega)
     have hsU := hoU.solid
     rw [hUl.out] at hsU
     rw [hu2] at hc2
     rw [hu1] at hc1
     rw [hu0] at hc0
     have hu2l : u2 < 4294967296 := by rw [← hu2]; exact a0f (B := 4294967296) (by omega) U HR.out.dU _
     have hu1l : u1 < 4294967296 := by rw [← hu1]; exact a0f (B := 4294967296) (by omega) U HR.out.dU _
     have hu0l : u0 < 4294967296 := by rw [← hu0]; exact a0f (B := 4294967296) (by omega) U HR.out.dU _
     have HU2 := lHd hu2
     have HU1 := lHd hu1
     have HUZ := lHd hu0
     clear hu2 hu1 hu0
     obtain ⟨two, htwo⟩ : ∃ two, two = u2 * 4294967296 + u1 := ⟨_, rfl⟩
     have HT0 : Hid (f0z ys U mm j (two / top) (two % top)) := by
      have := KN.out.start two (by rw [htwo, ← HU2.out, ← HU1.out, HMM.out]; rfl)
      rw [show mm + 1 = ys.length - 1 by rw [HMM.out]; omega, HTOP.out] at this
      exact this
     have HT0 := lHd HT0.out
     have hor := or32 u2 u1 hu2l hu1l
     have etw : (u2 : Int) * 4294967296 + (u1 : Nat) = (two : Nat) := by omega
     rw [etw] at hor
     have htwl : two < 18446744073709551616 := by omega
     have HTW := lHd htwo
     clear etw htwo
     have b0 : (0 : Int) ≤ (j : Int) + ys.length := by omega
     have b1 : (0 : Int) ≤ (j : Int) + ys.length - 1 := by omega
     have b2 : (j : Int) + ys.length < (us.length : Int) + 1 := by omega
     have b3 : (j : Int) + ys.length - 1 < (us.length : Int) + 1 := by omega
     have e1 : IntKind.i64.wrap ((j : Int) + ys.length) = (j : Int) + ys.length := iwo
     have e2 : IntKind.i64.wrap ((j : Int) + ys.length - 1) = (j : Int) + ys.length - 1 := iwo
     have e3 : ((j : Int) + ys.length).toNat = j + ys.length := by omega
     have e4 : ((j : Int) + ys.length - 1).toNat = j + ys.length - 1 := by omega
     have e5 : IntKind.u64.wrap (u2 : Int) = (u2 : Int) := IntWalk.u64_in _ (by omega)
     have e6 : IntKind.u64.wrap (u1 : Int) = (u1 : Int) := IntWalk.u64_in _ (by omega)
     have e7 : IntKind.u64.wrap ((u2 : Int) * 4294967296) = (u2 : Int) * 4294967296 := IntWalk.u64_in _ (by omega)
     go_wp2_with fail
     go_quiet (fail)
     obtain ⟨n1, rfl⟩ : ∃ n1, n1 = nq := ⟨_, rfl⟩
     go_wp2_with fail
     clear b0 b1 b2 b3 e1 e2 e3 e4 e5 e6 e7 hor
     obtain ⟨t0, ht0⟩ : ∃ t0, t0 = two / top := ⟨_, rfl⟩
     obtain ⟨r0, hr0⟩ : ∃ r0, r0 = two % top := ⟨_, rfl⟩
     rw [← ht0, ← hr0] at HT0
     have hr0l : r0 < 4294967296 := by rw [hr0]; exact Nat.lt_trans (Nat.mod_lt _ (by omega)) htop1
     have ht0l : t0 < 18446744073709551616 := by rw [ht0]; exact Nat.lt_of_le_of_lt (Nat.div_le_self _ _) htwl
     have e1 : (two : Int) / (top : Int) = (t0 : Nat) := by rw [ht0]; rfl
     have e2 : (two : Int).tmod (top : Int) = (r0 : Nat) := by rw [hr0, Int.tmod_eq_emod_of_nonneg (by omega)]; rfl
     have e3 : IntKind.u64.wrap (t0 : Int) = (t0 : Int) := IntWalk.u64_in _ (by omega)
     have e4 : ¬ top = 0 := by omega
     have e5 : IntKind.u64.wrap (r0 : Int) = (r0 : Int) := IntWalk.u64_in _ (by omega)
     clear ht0 hr0
     go_quiet (fail)
     clear e1 e2 e3 e4 e5
     have hoU8 := (hoU.drewN n1).drewN nq
     have hoQ8 := (hoQ.drewN n1).drewN nq
     have hrv8 := (hrv.drewN n1).drewN nq
     have hbL8 := below_drewN (below_drewN hbL n1) nq
     have hc8 := hoU8.rd.cells (j + ys.length - 2) (by rw [hUl.out]; omega)
     rw [HUZ.out] at hc8
     generalize (wr.drewN n1).drewN nq = w8 at *
     clear hc0 hc1 hc2 hoU hoQ hrv hbL
     have hju : j + ys.length + 1 ≤ us.length + 1 := by omega
     have hsQ := hoQ8.solid
     rw [hQl.out] at hsQ
     have hjc : j + ys.length + 1 ≤ cu := by omega
     clear ej
     have HXT : Hid (dg ys (mm + 1) = top) := by show dg ys (mm + 1) = top; rw [show mm + 1 = ys.length - 1 by rw [HMM.out]; omega]; exact HTOP.out
     have HXN : Hid (dg ys mm = nx) := by show dg ys mm = nx; rw [show mm = ys.length - 2 by rw [HMM.out]; omega]; exact HNX.out
     have HXU : Hid (dg U (j + mm) = u0) := by show dg U (j + mm) = u0; rw [show j + mm = j + ys.length - 2 by rw [HMM.out]; omega]; exact HUZ.out
     go_wp2_with fail
     go_loop [17, 18] (fun tv rv => ∃ (t r : Nat), tv = .int .u64 t ∧ rv = .int .u64 r ∧ r < 4294967296 ∧ t ≤ 4294967298 ∧ Hid (f0z ys U mm j t r)) (fun tv _ => (intOf tv).toNat)
     case atStart => exact ⟨t0, r0, rfl, rfl, hr0l, HT0.out.bound KN.out, HT0⟩
     case round =>
      obtain ⟨t, r, rfl, rfl, hrl, htl, HT⟩ := hrel
      by_cases hA : 4294967296 ≤ t
      · obtain ⟨hd1, hd2⟩ := HT.out.down KN.out (.inl hA)
        obtain ⟨u, rfl⟩ : ∃ u, t = u + 1 := ⟨t - 1, by omega⟩
        rw [HXT.out, Nat.add_sub_cancel] at hd2
        have HT' := lHd hd2
        have dA : decide ((4294967296 : Int) ≤ (u : Int) + 1) = true := dTr (by omega)
        clear hd2 hA
        by_cases hbk : 4294967296 ≤ r + top
        · obtain ⟨ht1, ht2⟩ := HT'.out.breaks KN.out hbk
          have HTE := lHd (HT'.out.exit KN.out ht1 ht2)
          have ht1 : u < 4294967296 := ht1
          have dB : decide ((4294967296 : Int) ≤ (r : Int) + (top : Int)) = true := dTr (by omega)
          clear hbk
          go_wp2_with fail
          ((with_reducible refine (m0t pu _ pv cu _ _ _ _ U ys j u w3.heap.size _ hoU8 hrv8 rfl rfl ?_ ?_ ?_ ?_ ?_ ?_ ?_ ?_).mono ?_))
          · omega
          · rw [hUl.out]; omega
          · exact HR.out.dU
          · exact HYD.out
          · exact ht1
          · exact fun _ _ => HVU.out.symm
          · exact HUPS.out
          · rw [hUl.out]; omega
          rintro e w9 ⟨L, br, hbr, rfl, hoL, hgL, hbL9, HW, HV⟩
          have HW := lHd HW
          have HV := lHd HV
          have hoQ9 := hoQ8.grown hgL HQU.out
          have hrv9 := hrv8.written hgL (fun _ _ => HVU.out.symm) HUPS.out
          have hb9 := hbL8.trans (hbL9.mono hsz3)
          have hjQ : j < Q.length := by rw [hQl.out]; omega
          have hqs := lHd (hoQ9.rd.solid (by omega)).1
          have hLl := lHd (show L.length = us.length + 1 by rw [HW.out.2.1]; exact hUl.out)
          rcases (show br = 0 ∨ br = 1 by omega) with rfl | rfl
          · have HS := lHd (HR.out.even' KN.out HT'.out hjQ ht1 HW.out HV.out)
            go_wp2_with (refine a0j rfl _ _ _ rfl 55 b0l _ _ _ _ hoQ9 j hjQ _ ?_ rfl rfl ?_; omega; intro w10 ho10 hg10 hb10)
            rw [Int.toNat_natCast] at ho10
            go_roundw
            case rel => exact ⟨j, L, _, rfl, by omega, hLl, (by show (List.set _ _ _).length = _; rw [List.length_set]; exact hQl.out), hoL.grown hg10 (fun _ => (HQU.out hqs.out).symm), ho10, hb9.trans (hb10.mono hsz6), hrv9.written hg10 (fun _ h => HQV.out h) hqs.out, HS⟩
            case measure => first | (simp [intOf]; done) | (simp [intOf]; omega)
          · have htp : 0 < u := m0v KN.out HW.out HV.out
            obtain ⟨v, rfl⟩ : ∃ v, u = v + 1 := ⟨u - 1, by omega⟩
            go_wp2_with fail
            ((with_reducible refine (m0u pu _ pv cu _ _ _ _ L ys j w3.heap.size _ hoL hrv9 rfl rfl ?_ ?_ ?_ ?_ ?_ ?_ ?_).mono ?_))
            · omega
            · rw [hLl.out]; omega
            · exact HW.out.1
            · exact HYD.out
            · exact fun _ _ => HVU.out.symm
            · exact HUPS.out
            · rw [hLl.out]; omega
            rintro e w10 ⟨M, co, rfl, hoM, hgM, hbM, HW2, HV2⟩
            obtain ⟨_, HS⟩ := HR.out.owed' KN.out HT'.out HTE.out hjQ ht1 HW.out HV.out HW2 HV2
            rw [Nat.add_sub_cancel] at HS
            have HS := lHd HS
            have hMl := lHd (show M.length = us.length + 1 by rw [HW2.2.1]; exact hLl.out)
            have hoQ10 := hoQ9.grown hgM HQU.out
            have hrv10 := hrv9.written hgM (fun _ _ => HVU.out.symm) HUPS.out
            have hb10 := hb9.trans (hbM.mono hsz3)
            clear HW2 HV2
            go_wp2_with (refine a0j rfl _ _ _ rfl 55 b0l _ _ _ _ hoQ10 j hjQ _ ?_ rfl rfl ?_; omega; intro w11 ho11 hg11 hb11)
            rw [Int.toNat_natCast] at ho11
            go_roundw
            case rel => exact ⟨j, M, _, rfl, by omega, hMl, (by show (List.set _ _ _).length = _; rw [List.length_set]; exact hQl.out), hoM.grown hg11 (fun _ => (HQU.out hqs.out).symm), ho11, hb10.trans (hb11.mono hsz6), hrv10.written hg11 (fun _ h => HQV.out h) hqs.out, HS⟩
            case measure => first | (simp [intOf]; done) | (simp [intOf]; omega)
        · have dB : decide ((4294967296 : Int) ≤ (r : Int) + (top : Int)) = false := dFa (by omega)
          have hbk' : r + top < 4294967296 := by omega
          clear hbk
          go_wp2_with fail
          go_round
          case rel => exact ⟨u, r + top, by go_num, by go_num, by omega, by omega, HT'⟩
          case measure => first | (simp [intOf]; done) | (simp [intOf]; omega)
      · have htlt : t < 4294967296 := by omega
        obtain ⟨tn, htn⟩ : ∃ tn, tn = t * nx := ⟨_, rfl⟩
        obtain ⟨rr, hrr⟩ : ∃ rr, rr = r * 4294967296 + u0 := ⟨_, rfl⟩
        have etn : (t : Int) * (nx : Int) = (tn : Nat) := by rw [htn]; simp
        obtain ⟨hpr, hpr0⟩ := t0z htlt hnx1
        rw [etn] at hpr hpr0
        have hor := or32 r u0 hrl hu0l
        have etw : (r : Int) * 4294967296 + (u0 : Nat) = (rr : Nat) := by omega
        rw [etw] at hor
        have dA : decide ((4294967296 : Int) ≤ (t : Int)) = false := dFa (by omega)
        have HTL := lHd htlt
        clear etw hA htlt
        by_cases hB : rr < tn
        · obtain ⟨hd1, hd2⟩ := HT.out.down KN.out (.inr (by rw [HXN.out, HXU.out, ← htn]; show r * 4294967296 + u0 < tn; omega))
          rw [HXT.out] at hd2
          obtain ⟨u, hu⟩ : ∃ u, u = t - 1 := ⟨_, rfl⟩
          rw [← hu] at hd2
          have HT' := lHd hd2
          have e6 : (t : Int) - 1 = (u : Int) := by omega
          have hut : u < t := by omega
          clear hd2 htn hrr hu
          by_cases hbk : 4294967296 ≤ r + top
          · obtain ⟨ht1, ht2⟩ := HT'.out.breaks KN.out hbk
            have HTE := lHd (HT'.out.exit KN.out ht1 ht2)
            have ht1 : u < 4294967296 := ht1
            have dB : decide ((4294967296 : Int) ≤ (r : Int) + (top : Int)) = true := dTr (by omega)
            clear hbk
            go_wp2_with fail
            ((with_reducible refine (m0t pu _ pv cu _ _ _ _ U ys j u w3.heap.size _ hoU8 hrv8 rfl rfl ?_ ?_ ?_ ?_ ?_ ?_ ?_ ?_).mono ?_))
            · omega
            · rw [hUl.out]; omega
            · exact HR.out.dU
            · exact HYD.out
            · exact ht1
            · exact fun _ _ => HVU.out.symm
            · exact HUPS.out
            · rw [hUl.out]; omega
            rintro e w9 ⟨L, br, hbr, rfl, hoL, hgL, hbL9, HW, HV⟩
            have HW := lHd HW
            have HV := lHd HV
            have hoQ9 := hoQ8.grown hgL HQU.out
            have hrv9 := hrv8.written hgL (fun _ _ => HVU.out.symm) HUPS.out
            have hb9 := hbL8.trans (hbL9.mono hsz3)
            have hjQ : j < Q.length := by rw [hQl.out]; omega
            have hqs := lHd (hoQ9.rd.solid (by omega)).1
            have hLl := lHd (show L.length = us.length + 1 by rw [HW.out.2.1]; exact hUl.out)
            rcases (show br = 0 ∨ br = 1 by omega) with rfl | rfl
            · have HS := lHd (HR.out.even' KN.out HT'.out hjQ ht1 HW.out HV.out)
              go_wp2_with (refine a0j rfl _ _ _ rfl 55 b0l _ _ _ _ hoQ9 j hjQ _ ?_ rfl rfl ?_; omega; intro w10 ho10 hg10 hb10)
              rw [Int.toNat_natCast] at ho10
              go_roundw
              case rel => exact ⟨j, L, _, rfl, by omega, hLl, (by show (List.set _ _ _).length = _; rw [List.length_set]; exact hQl.out), hoL.grown hg10 (fun _ => (HQU.out hqs.out).symm), ho10, hb9.trans (hb10.mono hsz6), hrv9.written hg10 (fun _ h => HQV.out h) hqs.out, HS⟩
              case measure => first | (simp [intOf]; done) | (simp [intOf]; omega)
            · have htp : 0 < u := m0v KN.out HW.out HV.out
              obtain ⟨v, rfl⟩ : ∃ v, u = v + 1 := ⟨u - 1, by omega⟩
              go_wp2_with fail
              ((with_reducible refine (m0u pu _ pv cu _ _ _ _ L ys j w3.heap.size _ hoL hrv9 rfl rfl ?_ ?_ ?_ ?_ ?_ ?_ ?_).mono ?_))
              · omega
              · rw [hLl.out]; omega
              · exact HW.out.1
              · exact HYD.out
              · exact fun _ _ => HVU.out.symm
              · exact HUPS.out
              · rw [hLl.out]; omega
              rintro e w10 ⟨M, co, rfl, hoM, hgM, hbM, HW2, HV2⟩
              obtain ⟨_, HS⟩ := HR.out.owed' KN.out HT'.out HTE.out hjQ ht1 HW.out HV.out HW2 HV2
              rw [Nat.add_sub_cancel] at HS
              have HS := lHd HS
              have hMl := lHd (show M.length = us.length + 1 by rw [HW2.2.1]; exact hLl.out)
              have hoQ10 := hoQ9.grown hgM HQU.out
              have hrv10 := hrv9.written hgM (fun _ _ => HVU.out.symm) HUPS.out
              have hb10 := hb9.trans (hbM.mono hsz3)
              clear HW2 HV2
              go_wp2_with (refine a0j rfl _ _ _ rfl 55 b0l _ _ _ _ hoQ10 j hjQ _ ?_ rfl rfl ?_; omega; intro w11 ho11 hg11 hb11)
              rw [Int.toNat_natCast] at ho11
              go_roundw
              case rel => exact ⟨j, M, _, rfl, by omega, hMl, (by show (List.set _ _ _).length = _; rw [List.length_set]; exact hQl.out), hoM.grown hg11 (fun _ => (HQU.out hqs.out).symm), ho11, hb10.trans (hb11.mono hsz6), hrv10.written hg11 (fun _ h => HQV.out h) hqs.out, HS⟩
              case measure => first | (simp [intOf]; done) | (simp [intOf]; omega)
          · have dB : decide ((4294967296 : Int) ≤ (r : Int) + (top : Int)) = false := dFa (by omega)
            have hbk' : r + top < 4294967296 := by omega
            clear hbk
            go_wp2_with fail
            go_round
            case rel => exact ⟨u, r + top, by go_num, by go_num, by omega, by omega, HT'⟩
            case measure => first | (simp [intOf]; done) | (simp [intOf]; omega)
        · have HTE := lHd (HT.out.exit KN.out HTL.out (by rw [HXN.out, HXU.out, ← htn]; show tn ≤ r * 4294967296 + u0; omega))
          have em : (t : Int) % 4294967296 = (t : Int) := by have := HTL.out; omega
          clear htn hrr
          have ht1 := HTL.out
          have ht1 := lHd ht1
          go_wp2_with fail
          have ht1 := ht1.out
          clear em dA hor etn
          ((with_reducible refine (m0t pu _ pv cu _ _ _ _ U ys j t w3.heap.size _ hoU8 hrv8 rfl rfl ?_ ?_ ?_ ?_ ?_ ?_ ?_ ?_).mono ?_))
          · omega
          · rw [hUl.out]; omega
          · exact HR.out.dU
          · exact HYD.out
          · exact ht1
          · exact fun _ _ => HVU.out.symm
          · exact HUPS.out
          · rw [hUl.out]; omega
          rintro e w9 ⟨L, br, hbr, rfl, hoL, hgL, hbL9, HW, HV⟩
          have HW := lHd HW
          have HV := lHd HV
          have hoQ9 := hoQ8.grown hgL HQU.out
          have hrv9 := hrv8.written hgL (fun _ _ => HVU.out.symm) HUPS.out
          have hb9 := hbL8.trans (hbL9.mono hsz3)
          have hjQ : j < Q.length := by rw [hQl.out]; omega
          have hqs := lHd (hoQ9.rd.solid (by omega)).1
          have hLl := lHd (show L.length = us.length + 1 by rw [HW.out.2.1]; exact hUl.out)
          rcases (show br = 0 ∨ br = 1 by omega) with rfl | rfl
          · have HS := lHd (HR.out.even' KN.out HT.out hjQ ht1 HW.out HV.out)
            go_wp2_with (refine a0j rfl _ _ _ rfl 55 b0l _ _ _ _ hoQ9 j hjQ _ ?_ rfl rfl ?_; omega; intro w10 ho10 hg10 hb10)
            rw [Int.toNat_natCast] at ho10
            go_roundw
            case rel => exact ⟨j, L, _, rfl, by omega, hLl, (by show (List.set _ _ _).length = _; rw [List.length_set]; exact hQl.out), hoL.grown hg10 (fun _ => (HQU.out hqs.out).symm), ho10, hb9.trans (hb10.mono hsz6), hrv9.written hg10 (fun _ h => HQV.out h) hqs.out, HS⟩
            case measure => first | (simp [intOf]; done) | (simp [intOf]; omega)
          · have htp : 0 < t := m0v KN.out HW.out HV.out
            obtain ⟨v, rfl⟩ : ∃ v, t = v + 1 := ⟨t - 1, by omega⟩
            go_wp2_with fail
            ((with_reducible refine (m0u pu _ pv cu _ _ _ _ L ys j w3.heap.size _ hoL hrv9 rfl rfl ?_ ?_ ?_ ?_ ?_ ?_ ?_).mono ?_))
            · omega
            · rw [hLl.out]; omega
            · exact HW.out.1
            · exact HYD.out
            · exact fun _ _ => HVU.out.symm
            · exact HUPS.out
            · rw [hLl.out]; omega
            rintro e w10 ⟨M, co, rfl, hoM, hgM, hbM, HW2, HV2⟩
            obtain ⟨_, HS⟩ := HR.out.owed' KN.out HT.out HTE.out hjQ ht1 HW.out HV.out HW2 HV2
            rw [Nat.add_sub_cancel] at HS
            have HS := lHd HS
            have hMl := lHd (show M.length = us.length + 1 by rw [HW2.2.1]; exact hLl.out)
            have hoQ10 := hoQ9.grown hgM HQU.out
            have hrv10 := hrv9.written hgM (fun _ _ => HVU.out.symm) HUPS.out
            have hb10 := hb9.trans (hbM.mono hsz3)
            clear HW2 HV2
            go_wp2_with (refine a0j rfl _ _ _ rfl 55 b0l _ _ _ _ hoQ10 j hjQ _ ?_ rfl rfl ?_; omega; intro w11 ho11 hg11 hb11)
            rw [Int.toNat_natCast] at ho11
            go_roundw
            case rel => exact ⟨j, M, _, rfl, by omega, hMl, (by show (List.set _ _ _).length = _; rw [List.length_set]; exact hQl.out), hoM.grown hg11 (fun _ => (HQU.out hqs.out).symm), ho11, hb10.trans (hb11.mono hsz6), hrv10.written hg11 (fun _ h => HQV.out h) hqs.out, HS⟩
            case measure => first | (simp [intOf]; done) | (simp [intOf]; omega)
   · obtain rfl : k = 0 := by omega
     obtain ⟨hd1, hd2⟩ := HR.out.done
     rw [HYV.out, Nat.mul_div_mul_right _ _ (Nat.pow_pos (by omega))] at hd1
     rw [HYV.out, Nat.mul_mod_mul_right] at hd2
     have HD1 := lHd hd1
     have HD2 := lHd hd2
     have HM := lHd (show a % b * 2 ^ s / 2 ^ s = a % b from Nat.mul_div_cancel _ (Nat.pow_pos (by omega)))
     have hTQ := hoQ.take (dig B32 (val B32 Q)).length
     rw [a0v a0a Q HR.out.dQ, hd1] at hTQ
     have hTU := hoU.take (dig B32 (val B32 U)).length
     rw [a0v a0a U HR.out.dU, hd2] at hTU
     have hlU := r0s a0a U HR.out.dU
     rw [hd2, hUl.out] at hlU
     clear hd1 hd2
     go_wp2_with fail
     refine (d0q pq QL cq Q _ hoQ.rd hQl.out.symm hoQ.le_cap HR.out.dQ (by rw [hQl.out]; omega)).mono ?_
     rintro e w9 ⟨rfl, rfl⟩
     rw [HD1.out]
     go_wp2_with fail
     refine (d0q pu (us.length + 1) cu U _ hoU.rd hUl.out.symm hoU.le_cap HR.out.dU (by rw [hUl.out]; omega)).mono ?_
     rintro e w10 ⟨rfl, rfl⟩
     rw [HD2.out]
     go_wp2_with fail
     refine (m0e pu _ cu (a % b * 2 ^ s) s _ hTU.rd rfl hTU.le_cap (by omega) (by omega)).mono ?_
     rw [HM.out]
     rintro e w11 ⟨p9, c9, rfl, ho9, hb9⟩
     go_wp2_with fail
     go_ret2
     exact ⟨pq, cq, p9, c9, rfl, (hTQ.past hb9).mono hsz6, ho9.mono hbL.size, hbL.trans (hb9.mono hbL.size), fun h1 h2 => by have := (hTQ.blk_lt h1).2; have := (ho9.blk_lt h2).1; omega⟩
theorem g0m (p q : OA) (n m c d : Nat) (a b : Nat) (w : World) (hp : Rd w .u32 p (dig B32 a)) (hq : Rd w .u32 q (dig B32 b)) (hn : n = (dig B32 a).length) (hm : m = (dig B32 b).length)
 (hl : (dig B32 a).length ≤ 100000000) (hl2 : (dig B32 b).length ≤ 100000000) (hb : 0 < b) :
 Calls Tryd.prog 77 #[.slice p n c, .slice q m d] w (r0h w 55 (dig B32 (a / b)) (dig B32 (a % b))) := by
 by_cases hab : a < b
 · rw [Nat.div_eq_of_lt hab, Nat.mod_eq_of_lt hab, a0b]
   exact y0a p q n m c d a b w hp hq hn hm (by omega) (by omega) hab
 · by_cases h1 : (dig B32 b).length = 1
   · have h2 := (a0d a0a b 1).1 (by omega)
     rw [Nat.pow_one] at h2
     have eb : dig B32 b = [b] := by rw [d0e a0a hb, Nat.div_eq_of_lt h2, a0b, Nat.mod_eq_of_lt h2]
     rw [h1] at hm
     rw [eb] at hq
     exact v0p p q n m c d a b w hp hq hn hm (by omega) hb h2 (by omega)
   · have h0 : (dig B32 b).length ≠ 0 := by
      have := a0h a0a b
      omega
     exact y0b p q n m c d a b w hp hq hn hm hl (by omega) (by omega)
def e0r (O : List Nat) (u N : Nat) : Prop := O ++ dig B32 u = dig B32 N
theorem e0r.len {O : List Nat} {u N : Nat} (h : e0r O u N) : O.length ≤ (dig B32 N).length := by
 have := congrArg List.length h
 simp at this; omega
theorem e0r.step {O : List Nat} {u N : Nat} (h : e0r O u N) (h0 : 0 < u) : e0r (O ++ [u % 4294967296]) (u / 4294967296) N := by
 unfold e0r at *
 rw [d0e a0a h0] at h
 rw [← h]
 simp [B32]
theorem v0q (N : Nat) (w : World) (hN : N < 9223372036854775808) : Calls Tryd.prog 48 #[.int .i64 N] w (g0i w .u32 55 (dig B32 N)) := by
 have hl : (dig B32 N).length ≤ 2 := (a0d a0a N 2).2 (by unfold B32; omega)
 go_enter Tryd.func48, Tryd.ntmps48
 go_wp2
 go_loopw [3, 4] (fun av uv wr => ∃ (u : Nat) (t : OA) (e : Nat) (O : List Nat), uv = .int .u64 u ∧ av = .slice t O.length e ∧ u ≤ N ∧ Own wr w.heap.size .u32 55 t e O ∧ Below w.heap.size w wr ∧ Hid (e0r O u N))
  (fun _ uv _ => (intOf uv).toNat)
 case atStart => exact ⟨N, none, 0, [], by go_num, rfl, Nat.le_refl _, Own.nil _ _ _ _, Below.refl _ _, (show e0r [] N N from rfl)⟩
 case round =>
  obtain ⟨u, t, e, O, rfl, rfl, hu, hoO, hb, HR⟩ := hrel
  have hOl : O.length ≤ 2 := Nat.le_trans HR.out.len hl
  by_cases h0 : 0 < u
  · have HS := lHd (HR.out.step h0)
    go_wp2_with (first
      | (refine a0p rfl _ _ rfl b0l _ ?_ rfl ?_; omega; intro p2 w2 ho2 hb2 hz2 hp2)
      | (at_builtin; refine a0o rfl _ _ _ rfl b0l _ _ _ _ _ (hoO.past hb2) rfl _ _ _ _ ho2.rd rfl rfl rfl ?_ ?_ ?_; (simp; omega); (have := hb2.size; have := hb.size; omega); intro p3 c3 w3 ho3 hg3 hb3 hn3))
    have e4 : ((u : Int) % 4294967296).toNat = u % 4294967296 := by omega
    rw [e4] at ho3
    have hb4 := hb.trans ((hb2.mono hb.size).trans hb3)
    go_roundw
    case rel => exact ⟨u / 4294967296, p3, c3, _, by go_num, by simp, by omega, ho3, hb4, HS⟩
    case measure => simp [intOf]; omega
  · obtain rfl : u = 0 := by omega
    go_wp2
    go_ret
    have := HR.out
    unfold e0r at this
    rw [a0b, List.append_nil] at this
    rw [← this]
    exact ⟨t, e, rfl, hoO, hb⟩
theorem h0b (a N n : Nat) (h : (dig B32 a).length ≤ n) : (dig B32 (a * 2 ^ N)).length ≤ n + (N / 32 + 1) := Nat.le_trans (e0e a N) (by omega)
theorem m0w {a : Nat} {n : Int} (h : (dig B32 a).length ≤ 1000000) (hn : -10000000 ≤ n ∧ n ≤ 10000000) : (dig B32 (numP a n)).length ≤ 1400000 := by
 have := h0b a n.toNat _ h; unfold numP; omega
theorem m0x {a : Nat} {n : Int} (h : (dig B32 a).length ≤ 1000000) (hn : -10000000 ≤ n ∧ n ≤ 10000000) : (dig B32 (denP a n)).length ≤ 1400000 := by
 have := h0b a (-n).toNat _ h; unfold denP; omega
theorem v0r (w : World) : Calls Tryd.prog 48 #[.int .i64 1] w (g0i w .u32 55 (dig B32 1)) := v0q 1 w (by omega)
def c1o (w : World) (q0 : OA) (x y z : Nat) (en : Ending) (w' : World) : Prop :=
 ∃ p c q d r f, en = .returned (.tuple #[.slice p (dig B32 x).length c, .slice q (dig B32 y).length d, .slice r (dig B32 z).length f]) ∧ Own w' w.heap.size .u32 55 p c (dig B32 x) ∧ Own w' w.heap.size .u32 55 q d (dig B32 y) ∧ Rd w' .u32 r (dig B32 z) ∧ (r = q0 ∨ (0 < (dig B32 z).length → w.heap.size ≤ blk r)) ∧ Below w.heap.size w w'
theorem h0w (p q : OA) (m k c d : Nat) (a b : Nat) (n : Int) (w : World) (hp : Rd w .u32 p (dig B32 a)) (hq : Rd w .u32 q (dig B32 b)) (hm : m = (dig B32 a).length) (hk : k = (dig B32 b).length)
 (hl : (dig B32 a).length ≤ 1000000) (hl2 : (dig B32 b).length ≤ 1000000) (hb : 0 < b) (hn : -10000000 ≤ n ∧ n ≤ 10000000) :
 Calls Tryd.prog 60 #[.slice p m c, .slice q k d, .int .i64 n] w (c1o w q (qP a b n) (rP a b n) (denP b n)) := by
 subst hm hk
 have l1 := m0w hl hn
 have l2 := m0x hl2 hn
 have h0 := i0v hb n
 unfold qP rP
 by_cases h : 0 ≤ n
 · obtain ⟨N, rfl⟩ : ∃ N : Nat, n = N := ⟨n.toNat, by omega⟩
   have e1 : denP b (N : Int) = b := by unfold denP; rw [show (-(N : Int)).toNat = 0 by omega, Nat.pow_zero, Nat.mul_one]
   have HN := lHd (show numP a (N : Int) = a * 2 ^ N by unfold numP; rw [Int.toNat_natCast])
   rw [e1] at l2 h0 ⊢
   clear e1
   generalize numP a (N : Int) = x at *
   go_enter Tryd.func60, Tryd.ntmps60
   go_wp2_with fail
   ((with_reducible refine (d0h p _ c a N _ hp rfl (by omega) (by omega)).mono ?_))
   rintro e1 w1 ⟨p1, c1, rfl, ho1, hb1⟩
   replace hp := hp.past hb1
   replace hq := hq.past hb1
   have hs1 := hb1
   rw [← HN.out] at ho1 ⊢
   go_wp2_with fail
   ((with_reducible refine (g0m p1 q _ _ c1 d x b _ ho1.rd hq rfl rfl (by omega) (by omega) h0).mono ?_))
   rintro e2 w2 ⟨p2, c2, q2, d2, rfl, ho2, ho3, hb2, -⟩
   replace hp := hp.past hb2
   replace hq := hq.past hb2
   replace ho1 := ho1.past hb2
   have hs2 := hs1.trans (hb2.mono hs1.size)
   go_wp2_with fail
   refine bodyPost_ret (v := .tuple #[.slice p2 (dig B32 (x / b)).length c2, .slice q2 (dig B32 (x % b)).length d2, .slice q (dig B32 b).length d]) (by simp [results, Tryd.results60, go_sem]) rfl ?_
   exact ⟨p2, c2, q2, d2, q, d, rfl, ho2.mono hs1.size, ho3.mono hs1.size, hq, .inl rfl, hs2⟩
 · obtain ⟨N, rfl⟩ : ∃ N : Nat, n = -(N : Int) := ⟨(-n).toNat, by omega⟩
   have e1 : numP a (-(N : Int)) = a := by unfold numP; rw [show (-(N : Int)).toNat = 0 by omega, Nat.pow_zero, Nat.mul_one]
   have HN := lHd (show denP b (-(N : Int)) = b * 2 ^ N by unfold denP; rw [show (-(-(N : Int))).toNat = N by omega])
   rw [e1] at l1 ⊢
   clear e1
   generalize denP b (-(N : Int)) = x at *
   go_enter Tryd.func60, Tryd.ntmps60
   go_wp2_with fail
   ((with_reducible refine (d0h q _ d b N _ hq rfl (by omega) (by omega)).mono ?_))
   rintro e1 w1 ⟨p1, c1, rfl, ho1, hb1⟩
   replace hp := hp.past hb1
   replace hq := hq.past hb1
   have hs1 := hb1
   rw [← HN.out] at ho1 ⊢
   go_wp2_with fail
   ((with_reducible refine (g0m p p1 _ _ c c1 a x _ hp ho1.rd rfl rfl (by omega) (by omega) h0).mono ?_))
   rintro e2 w2 ⟨p2, c2, q2, d2, rfl, ho2, ho3, hb2, -⟩
   replace hp := hp.past hb2
   replace hq := hq.past hb2
   replace ho1 := ho1.past hb2
   have hs2 := hs1.trans (hb2.mono hs1.size)
   go_wp2_with fail
   refine bodyPost_ret (v := .tuple #[.slice p2 (dig B32 (a / x)).length c2, .slice q2 (dig B32 (a % x)).length d2, .slice p1 (dig B32 x).length c1]) (by simp [results, Tryd.results60, go_sem]) rfl ?_
   exact ⟨p2, c2, q2, d2, p1, c1, rfl, ho2.mono hs1.size, ho3.mono hs1.size, ho1.rd, .inr fun h => (ho1.blk_lt (ho1.rd.solid h).1).1, hs2⟩
end Go.Proofs.YthcoapcffhgckaaDoor
namespace Go.Slip
open Go.RowKit Go.MapKept
section
variable {P : Program} {w : World} {ik : IntKind}
theorem j0u (ik : IntKind) (k : Int) : IsKey (.int ik) (.int ik k) := by first | rfl | (simp [IsKey]) | (cases ik <;> rfl)
theorem k0n {mt kt vt : TypeId} (hm : P.underlying mt = some (.map kt vt)) (hk : P.underlying kt = some (.int ik)) (es : Array MapEntry) (clock : Nat) (k : Int) (v : Value)
 (hf : Instr.findNow (.int ik) (.int ik k) es.toList 0 = some none) :
 (Instr.mapUpdate mt (.map (some w.heap.size)) (.int ik k) v).run P (w.alloc (.map es clock)) = .ok () (w.alloc (.map (es.push ⟨.int ik k, v, clock⟩) (clock + 1))) := by
 have hb : (w.alloc (.map es clock)).heap[w.heap.size]? = some (.map es clock) := by show (w.heap.push _)[_]? = _; simp
 simp [Instr.mapUpdate, run_underlying hm, MapKept.run_getObj_map hb, run_checkKey hk (j0u ik k), run_findKey hk hf, run_setObj_map _ hb, Result.andThen]
 have e : (w.heap.push (.map es clock)).setIfInBounds w.heap.size (.map (es.push ⟨.int ik k, v, clock⟩) (clock + 1)) = w.heap.push (.map (es.push ⟨.int ik k, v, clock⟩) (clock + 1)) := by
  apply Array.ext'
  simp
 show World.mk _ _ _ _ _ = World.mk _ _ _ _ _
 congr 1
theorem k0o {mt kt vt : TypeId} {b : Nat} {es : Array MapEntry} {clock : Nat} (hm : P.underlying mt = some (.map kt vt)) (hk : P.underlying kt = some (.int ik)) (hb : w.heap[b]? = some (.map es clock)) (k : Int)
 {i : Nat} {v : Value} (hf : Instr.findNow (.int ik) (.int ik k) es.toList 0 = some (some (i, v))) :
 (Instr.lookup mt (.map (some b)) (.int ik k) false).run P w = .ok v w := by
 simp [Instr.lookup, run_underlying hm, MapKept.run_getObj_map hb, run_checkKey hk (j0u ik k), run_findKey hk hf, Result.andThen]
theorem j0v {mt kt vt : TypeId} {b : Nat} {es : Array MapEntry} {clock : Nat} {z : Value} (hm : P.underlying mt = some (.map kt vt)) (hk : P.underlying kt = some (.int ik)) (hb : w.heap[b]? = some (.map es clock)) (k : Int)
 (hz : (zeroValue vt).run P w = .ok z w) (hf : Instr.findNow (.int ik) (.int ik k) es.toList 0 = some none) :
 (Instr.lookup mt (.map (some b)) (.int ik k) false).run P w = .ok z w := by
 simp [Instr.lookup, run_underlying hm, MapKept.run_getObj_map hb, run_checkKey hk (j0u ik k), run_findKey hk hf, Result.andThen, hz]
theorem s0p {ops : Array Oper} {rest : List Oper} {o : Oper} {a : Act} {Q : Exit → Act → World → Prop}
 (hg : o.guard = none) (m x v : Operand) (t : TypeId) (hop : o.op = Op.insert t m x v) {kt vt : TypeId} (hm : P.underlying t = some (.map kt vt)) (hk : P.underlying kt = some (.int ik)) {es : Array MapEntry} {clock : Nat} {k : Int} {val : Value}
 (h1 : a.eval m = .map (some w.heap.size)) (h2 : a.eval x = .int ik k) (h3 : a.eval v = val) (hf : Instr.findNow (.int ik) (.int ik k) es.toList 0 = some none)
 (h : wpList P ops Q rest (a.put o.dst undef) (w.alloc (.map (es.push ⟨.int ik k, val, clock⟩) (clock + 1)))) : wpList P ops Q (o :: rest) a (w.alloc (.map es clock)) := by
 refine wpList_plain hg fun K' hK' => ?_
 unfold Oper.wp
 simp [execOp, hop, h1, h2, h3, k0n hm hk es clock k val hf, Result.andThen]
 exact hK' _ _ h
end
end Go.Slip
namespace Go.Proofs.YthcoapcffhgckaaDoor
open Go.RowKit Go.Slip
def j0w : Array MapEntry := #[⟨.int .i64 1, .func (.func 72) #[] #[], 0⟩, ⟨.int .i64 2, .func (.func 73) #[] #[], 1⟩, ⟨.int .i64 3, .func (.func 74) #[] #[], 2⟩, ⟨.int .i64 4, .func (.func 75) #[] #[], 3⟩, ⟨.int .i64 5, .func (.func 76) #[] #[], 4⟩]
theorem v0s : Tryd.prog.underlying 97 = some (.map 3 96) := by kernel_rfl
def Ways (w : World) (b : Nat) : Prop := w.heap[b]? = some (.map j0w 5)
theorem Ways.past {w w' : World} {b : Nat} (h : Ways w b) (hb : Below w.heap.size w w') : Ways w' b := (hb.block b (Array.getElem?_eq_some_iff.1 h).1).trans h
theorem p0y (w : World) :
 Calls Tryd.prog 57 #[] w fun e w' => e = .returned (.map (some w.heap.size)) ∧ Ways w' w.heap.size ∧ Below w.heap.size w w' := by
 have hmm := @run_makeMap Tryd.prog
 go_enter Tryd.func57, Tryd.ntmps57
 go_wp2_with (refine s0p rfl _ _ _ _ rfl v0s Tryd.underlying3 rfl rfl rfl rfl ?_)
 go_ret
 exact ⟨rfl, by show (w.heap.push _)[_]? = _; simp [j0w], (Below.refl _ _).alloc (Nat.le_refl _) _⟩
def wayF (k : Int) : Value := if k = 1 then .func (.func 72) #[] #[] else if k = 2 then .func (.func 73) #[] #[] else if k = 3 then .func (.func 74) #[] #[]
 else if k = 4 then .func (.func 75) #[] #[] else if k = 5 then .func (.func 76) #[] #[] else .nilFunc
theorem s0q {k : Int} (h1 : 1 ≤ k) (h2 : k ≤ 5) : ∃ i, Instr.findNow (.int .i64) (.int .i64 k) j0w.toList 0 = some (some (i, wayF k)) := by
 obtain rfl | rfl | rfl | rfl | rfl : k = 1 ∨ k = 2 ∨ k = 3 ∨ k = 4 ∨ k = 5 := by omega
 · exact ⟨0, rfl⟩
 · exact ⟨1, rfl⟩
 · exact ⟨2, rfl⟩
 · exact ⟨3, rfl⟩
 · exact ⟨4, rfl⟩
theorem p0z {k : Int} (h : k < 1 ∨ 5 < k) : Instr.findNow (.int .i64) (.int .i64 k) j0w.toList 0 = some none := by
 have g : ∀ j : Int, 1 ≤ j → j ≤ 5 → (k == j) = false := fun j h1 h2 => bFn (by omega)
 simp [j0w, Instr.findNow, Instr.sameNow, g 1 (by omega) (by omega), g 2 (by omega) (by omega), g 3 (by omega) (by omega), g 4 (by omega) (by omega), g 5 (by omega) (by omega)]
theorem v0t {w : World} {b : Nat} (h : Ways w b) {k : Int} (h1 : 1 ≤ k) (h2 : k ≤ 5) :
 (Instr.lookup 97 (.map (some b)) (.int .i64 k) false).run Tryd.prog w = .ok (wayF k) w := by
 obtain ⟨i, hi⟩ := s0q h1 h2
 exact k0o v0s Tryd.underlying3 h k hi
theorem y0c {w : World} {b : Nat} (h : Ways w b) {k : Int} (hk : k < 1 ∨ 5 < k) :
 (Instr.lookup 97 (.map (some b)) (.int .i64 k) false).run Tryd.prog w = .ok .nilFunc w :=
 j0v v0s Tryd.underlying3 h k (by kernel_rfl) (p0z hk)
def wayB (k : Int) : Bool := decide (1 ≤ k) && decide (k ≤ 5)
theorem o0j {k : Int} (h1 : 1 ≤ k) (h2 : k ≤ 5) : wayB k = true := by unfold wayB; simp [h1, h2]
theorem l0h {k : Int} (h : k < 1 ∨ 5 < k) : wayB k = false := by
 unfold wayB
 rcases h with h | h
 · rw [decide_eq_false (by omega)]; rfl
 · rw [decide_eq_false (p := k ≤ 5) (by omega)]; simp
theorem o0k (k : Int) (w : World) :
 Calls Tryd.prog 34 #[.int .i64 k] w fun e w' => e = .returned (.bool (wayB k)) ∧ Below w.heap.size w w' := by
 by_cases h : k < 1 ∨ 5 < k
 · rw [l0h h]
   have HL := fun W (hW : Ways W w.heap.size) => y0c hW h
   have HLL := lHd HL
   clear HL h
   have hne : ∀ w, (binOp .neq 96 .nilFunc .nilFunc).run Tryd.prog w = .ok (.bool false) w := fun w => by kernel_rfl
   go_enter Tryd.func34, Tryd.ntmps34
   go_wp2_with fail
   ((with_reducible refine (p0y _).mono ?_))
   rintro e1 w1 ⟨rfl, hw, hb⟩
   have hl := HLL.out w1 hw
   go_wp2
   go_ret
   exact ⟨rfl, hb⟩
 · rw [o0j (by omega) (by omega)]
   have HL := fun W (hW : Ways W w.heap.size) => v0t hW (k := k) (by omega) (by omega)
   have HLL := lHd HL
   obtain ⟨f, hf⟩ : ∃ f, wayF k = .func (.func f) #[] #[] := by
    obtain rfl | rfl | rfl | rfl | rfl : k = 1 ∨ k = 2 ∨ k = 3 ∨ k = 4 ∨ k = 5 := by omega
    · exact ⟨_, rfl⟩
    · exact ⟨_, rfl⟩
    · exact ⟨_, rfl⟩
    · exact ⟨_, rfl⟩
    · exact ⟨_, rfl⟩
   rw [hf] at HLL
   clear HL h hf
   have hne : ∀ w, (binOp .neq 96 (.func (.func f) #[] #[]) .nilFunc).run Tryd.prog w = .ok (.bool true) w := fun w => by kernel_rfl
   go_enter Tryd.func34, Tryd.ntmps34
   go_wp2_with fail
   ((with_reducible refine (p0y _).mono ?_))
   rintro e1 w1 ⟨rfl, hw, hb⟩
   have hl := HLL.out w1 hw
   go_wp2
   go_ret
   exact ⟨rfl, hb⟩
theorem y0d (neg odd : Bool) (half : Int) (w : World) :
 Calls Tryd.prog 72 #[.bool neg, .bool odd, .int .i64 half] w fun e w' => e = .returned (.bool (h0a 1 neg odd half)) ∧ w' = w := by
 unfold h0a
 simp only [if_true]
 by_cases h : 0 < half
 · go_enter Tryd.func72, Tryd.ntmps72
   go_wp2
   go_ret
   exact ⟨by simp [h], rfl⟩
 · by_cases h0 : half = 0
   · subst h0
     cases odd
     · go_enter Tryd.func72, Tryd.ntmps72
       go_wp2
       go_ret
       exact ⟨rfl, rfl⟩
     · go_enter Tryd.func72, Tryd.ntmps72
       go_wp2
       go_ret
       exact ⟨rfl, rfl⟩
   · have t0 : (half == 0) = false := bFn h0
     have H := lHd h0
     clear h0
     go_enter Tryd.func72, Tryd.ntmps72
     go_wp2
     go_ret
     exact ⟨by simp [H.out, show ¬ 0 < half from by omega], rfl⟩
theorem y0e (neg odd : Bool) (half : Int) (w : World) :
 Calls Tryd.prog 73 #[.bool neg, .bool odd, .int .i64 half] w fun e w' => e = .returned (.bool (h0a 2 neg odd half)) ∧ w' = w := by
 have e : h0a 2 neg odd half = decide (0 ≤ half) := rfl
 rw [e]
 clear e
 by_cases h : 0 ≤ half
 · go_enter Tryd.func73, Tryd.ntmps73
   go_wp2
   go_ret
   exact ⟨by simp [h], rfl⟩
 · go_enter Tryd.func73, Tryd.ntmps73
   go_wp2
   go_ret
   exact ⟨by simp; omega, rfl⟩
theorem y0f (neg odd : Bool) (half : Int) (w : World) :
 Calls Tryd.prog 74 #[.bool neg, .bool odd, .int .i64 half] w fun e w' => e = .returned (.bool (h0a 3 neg odd half)) ∧ w' = w := by
 have e : h0a 3 neg odd half = false := rfl
 rw [e]
 clear e
 go_enter Tryd.func74, Tryd.ntmps74
 go_wp2
 go_ret
 exact ⟨rfl, rfl⟩
theorem y0g (neg odd : Bool) (half : Int) (w : World) :
 Calls Tryd.prog 75 #[.bool neg, .bool odd, .int .i64 half] w fun e w' => e = .returned (.bool (h0a 4 neg odd half)) ∧ w' = w := by
 have e : h0a 4 neg odd half = !neg := rfl
 rw [e]
 clear e
 go_enter Tryd.func75, Tryd.ntmps75
 go_wp2
 go_ret
 exact ⟨rfl, rfl⟩
theorem y0h (neg odd : Bool) (half : Int) (w : World) :
 Calls Tryd.prog 76 #[.bool neg, .bool odd, .int .i64 half] w fun e w' => e = .returned (.bool (h0a 5 neg odd half)) ∧ w' = w := by
 have e : h0a 5 neg odd half = neg := rfl
 rw [e]
 clear e
 go_enter Tryd.func76, Tryd.ntmps76
 go_wp2
 go_ret
 exact ⟨rfl, rfl⟩
theorem v0u {k : Int} (h1 : 1 ≤ k) (h2 : k ≤ 5) :
 ∃ f, wayF k = .func (.func f) #[] #[] ∧ (∀ (neg odd : Bool) (half : Int) (w : World), Calls Tryd.prog f #[.bool neg, .bool odd, .int .i64 half] w fun e w' => e = .returned (.bool (h0a k neg odd half)) ∧ w' = w) ∧ ∀ args w, (callFunc f args).run Tryd.prog w = .ok (.enter f args) w := by
 obtain rfl | rfl | rfl | rfl | rfl : k = 1 ∨ k = 2 ∨ k = 3 ∨ k = 4 ∨ k = 5 := by omega
 · exact ⟨_, rfl, y0d, fun _ _ => by kernel_rfl⟩
 · exact ⟨_, rfl, y0e, fun _ _ => by kernel_rfl⟩
 · exact ⟨_, rfl, y0f, fun _ _ => by kernel_rfl⟩
 · exact ⟨_, rfl, y0g, fun _ _ => by kernel_rfl⟩
 · exact ⟨_, rfl, y0h, fun _ _ => by kernel_rfl⟩
end Go.Proofs.YthcoapcffhgckaaDoor
namespace Go.Slip
theorem h0c {n : Nat} (h : n ≤ 480) : (dig B32 (2 ^ n)).length ≤ 16 := by
 have h1 := congrArg List.length (g0s (B := B32) (w := 32) (by decide) (by omega) n)
 rw [List.length_set, List.length_replicate] at h1
 omega
end Go.Slip
