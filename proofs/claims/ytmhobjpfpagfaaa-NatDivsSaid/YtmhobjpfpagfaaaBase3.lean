/- Texts as lists of bytes; '[]byte(s)'. No program is in sight here. -/
import Derived.Test.YtmhobjpfpagfaaaBase
import Derived.Lib.ConvBytes
namespace Go.Slip
open Go.RowKit

/-- A text as a list of its bytes. -/
def bytesOf (s : ByteArray) : List Nat := s.data.toList.map UInt8.toNat

theorem bytesOf_length (s : ByteArray) : (bytesOf s).length = s.size := by unfold bytesOf; rw [List.length_map, Array.length_toList]; rfl
theorem dg_bytesOf (s : ByteArray) (j : Nat) (h : j < s.size) : (s[j]'h).toNat = dg (bytesOf s) j := by
  rw [dg_of_lt (by rw [bytesOf_length]; exact h)]
  simp [bytesOf]; rfl
theorem bytesOf_lt (s : ByteArray) : ∀ x ∈ bytesOf s, x < 256 := by
  intro x hx
  obtain ⟨u, _, rfl⟩ := List.mem_map.1 hx
  exact u.toNat_lt

theorem bytesOf_extract (s : ByteArray) (i j : Nat) : bytesOf (s.extract i j) = ((bytesOf s).take j).drop i := by
  unfold bytesOf
  rw [ByteArray.data_extract, Array.toList_extract, List.extract_eq_take_drop]
  rw [← List.map_take, ← List.map_drop, List.drop_take]

/-- Decimal digits alone. -/
def AllDig (s : ByteArray) : Prop := ∀ j, j < s.size → 48 ≤ dg (bytesOf s) j ∧ dg (bytesOf s) j ≤ 57

theorem below_bytesWorld {w : World} {B : Nat} (hB : B ≤ w.heap.size) (e : TypeId) (s : ByteArray) : Below B w (Lib.bytesWorld w e s) := by
  refine ⟨?_, ?_, ?_, by rw [Lib.bytesWorld_size]; omega, fun i hi => Lib.bytesWorld_at_old w e s i (by omega)⟩
  all_goals (unfold Lib.bytesWorld World.freeze; split <;> rfl)

theorem rd_bytesWorld (w : World) (e : TypeId) (s : ByteArray) : Rd (Lib.bytesWorld w e s) .u8 (some ⟨w.heap.size, 0, none⟩) (bytesOf s) := by
  refine ⟨fun _ => ⟨rfl, rfl⟩, fun j hj => ?_⟩
  have hj2 : j < s.size := by rw [← bytesOf_length]; exact hj
  have h := Lib.bytesWorld_cell w e s j hj2
  simp only [at_, Option.getD_some, Nat.zero_add]
  rw [h, dg_of_lt hj]
  simp [bytesOf, List.getD, hj2]

section walk
variable {P : Program} {ops : Array Oper} {rest : List Oper} {o : Oper} {a : Act} {K : Act → World → Prop} {Q : Exit → Act → World → Prop} {w : World}

/-- '[]byte(s)'. -/
theorem wp_bytes (x : Operand) (src dst : TypeId) (ho : o.op = .convert src dst x) {e : TypeId} (hs : P.underlying src = some .string) (hd : P.underlying dst = some (.slice e)) (he : P.underlying e = some (.int .u8))
    (s : ByteArray) (hx : a.eval x = .string s) (h : ∀ p' c' w', Rd w' .u8 p' (bytesOf s) → Below w.heap.size w w' → K (a.put o.dst (.slice p' s.size c')) w') : o.wp P a w K Q := by
  unfold Oper.wp execOp
  simp only [ho, hx]
  have hr := Lib.run_convert_string_bytes (P := P) w src dst e s hs hd he
  simp [hr, Oper.upon]
  exact h _ _ _ (rd_bytesWorld w e s) (below_bytesWorld (Nat.le_refl _) e s)

theorem wpl_bytes (hgd : o.guard = none) (x : Operand) (src dst : TypeId) (ho : o.op = .convert src dst x) {e : TypeId} (hs : P.underlying src = some .string) (hd : P.underlying dst = some (.slice e)) (he : P.underlying e = some (.int .u8))
    (s : ByteArray) (hx : a.eval x = .string s) (h : ∀ p' c' w', Rd w' .u8 p' (bytesOf s) → Below w.heap.size w w' → wpList P ops Q rest (a.put o.dst (.slice p' s.size c')) w') : wpList P ops Q (o :: rest) a w :=
  wpList_plain hgd fun _ hK => wp_bytes x src dst ho hs hd he s hx fun p' c' w' h900 h901 => hK _ _ (h p' c' w' h900 h901)

end walk
end Go.Slip
