/- More of the walk over slices: 'make' with a capacity of its own, 'a[k:]'. No program is in sight here. -/
import Derived.Test.YtcbjidcpcompoaaDoorBase
namespace Go.Slip
open Go.RowKit

section walk
variable {P : Program} {ops : Array Oper} {rest : List Oper} {o : Oper} {a : Act} {K : Act → World → Prop} {Q : Exit → Act → World → Prop} {w : World}

/-- 'make' of so many noughts, with room for more. -/
theorem wp_make2 (x y : Operand) (t : TypeId) (ho : o.op = .makeSlice t x y) {e : TypeId} {k : IntKind} {bytes : Nat} (hty : SlTy P t e k bytes) (kl kc : IntKind) (n m : Nat) (i1 i2 : Int)
    (hx : a.eval x = .int kl i1) (hy : a.eval y = .int kc i2) (h1 : i1 = n) (h2 : i2 = m) (hnm : n ≤ m) (hb : m ≤ 4000000000)
    (h : ∀ p' c' w', Own w' w.heap.size k e p' c' (List.replicate n 0) → Below w.heap.size w w' → w.heap.size < w'.heap.size → K (a.put o.dst (.slice p' n c')) w') : o.wp P a w K Q := by
  subst h1 h2
  obtain ⟨i, hi, hz, hs, hbt⟩ := hty.hi
  have hbb : (i.bytes : Int) * (m : Int) ≤ 281474976710656 := by
    have h1 : m * i.bytes ≤ 4000000000 * 8 := Nat.mul_le_mul hb (by rw [hbt]; exact hty.le)
    have h2 : ((i.bytes * m : Nat) : Int) ≤ 281474976710656 := by rw [Nat.mul_comm]; omega
    rwa [Int.natCast_mul] at h2
  have hr := run_make (P := P) w t e i (.int k 0) hty.ht hi hz kl kc n m (by omega) (by omega) hbb (by omega)
  simp only [Int.toNat_natCast, hs, Nat.mul_one] at hr
  unfold Oper.wp execOp
  simp only [ho, hx, hy]
  simp only [Sem.run_bind, hr, Result.andThen_ok, Sem.run_pure]
  have hO : Own (w.alloc (.cells (madeCells (Value.cells (.int k 0)) m) e)) w.heap.size k e (some ⟨w.heap.size, 0, none⟩) m (List.replicate m 0) := by
    unfold Own
    rw [List.length_replicate, List.map_replicate]
    have : (madeCells (Value.cells (.int k 0)) m).toList = List.replicate m (.int k ((0 : Nat) : Int)) := toList_madeCells_one _ _
    rw [← this]
    exact World.ownsRow_lit w _ m (Nat.le_refl _) (by simp only [maxLen]; omega) (by simp [madeCells])
  have hO2 := hO.take n
  rw [List.take_replicate, Nat.min_eq_left hnm] at hO2
  exact h _ _ _ hO2 ((Below.refl _ _).alloc (Nat.le_refl _) _) (by simp)

theorem wpl_make2 (hgd : o.guard = none) (x y : Operand) (t : TypeId) (ho : o.op = .makeSlice t x y) {e : TypeId} {k : IntKind} {bytes : Nat} (hty : SlTy P t e k bytes) (kl kc : IntKind) (n m : Nat) (i1 i2 : Int)
    (hx : a.eval x = .int kl i1) (hy : a.eval y = .int kc i2) (h1 : i1 = n) (h2 : i2 = m) (hnm : n ≤ m) (hb : m ≤ 4000000000)
    (h : ∀ p' c' w', Own w' w.heap.size k e p' c' (List.replicate n 0) → Below w.heap.size w w' → w.heap.size < w'.heap.size → wpList P ops Q rest (a.put o.dst (.slice p' n c')) w') : wpList P ops Q (o :: rest) a w :=
  wpList_plain hgd fun _ hK => wp_make2 x y t ho hty kl kc n m i1 i2 hx hy h1 h2 hnm hb fun p' c' w' h900 h901 h902 => hK _ _ (h p' c' w' h900 h901 h902)

end walk

theorem sliced_low (p : Option Addr) (l n c : Nat) (h : l < c) : sliced p l n c 1 = .slice (p.map (·.add l)) (n - l) (c - l) := by
  unfold sliced
  rw [if_neg (by omega), Nat.mul_one]

end Go.Slip
