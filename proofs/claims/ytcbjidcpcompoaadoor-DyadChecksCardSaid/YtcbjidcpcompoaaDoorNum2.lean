/- More plain arithmetic of digit lists: sums, differences, comparisons. -/
import Derived.Test.YtcbjidcpcompoaaDoorNum
namespace Go.Slip

/-! ### The references' sum -/
def PlusRel (O xs ys : List Nat) (i cr : Nat) : Prop :=
  (∀ x ∈ O, x < B16) ∧ O.length = i ∧ cr ≤ 1 ∧ val B16 O + cr * B16 ^ i = val B16 (xs.take i) + val B16 (ys.take i) ∧
    (i ≤ xs.length ∨ i ≤ ys.length ∨ (cr = 0 ∧ B16 ^ (i - 1) ≤ val B16 O))

theorem PlusRel.start (xs ys : List Nat) : PlusRel [] xs ys 0 0 := ⟨by simp, rfl, by omega, by simp, .inl (Nat.zero_le _)⟩

theorem PlusRel.step {O xs ys : List Nat} {i cr : Nat} (h : PlusRel O xs ys i cr) (hx : dg xs i < B16) (hy : dg ys i < B16) (hc : i < xs.length ∨ i < ys.length ∨ 0 < cr) :
    PlusRel (O ++ [(cr + dg xs i + dg ys i) % B16]) xs ys (i + 1) ((cr + dg xs i + dg ys i) / B16) := by
  obtain ⟨h1, h2, h3, h4, h5⟩ := h
  have hv : val B16 (O ++ [(cr + dg xs i + dg ys i) % B16]) + (cr + dg xs i + dg ys i) / B16 * B16 ^ (i + 1) = val B16 (xs.take (i + 1)) + val B16 (ys.take (i + 1)) := by
    rw [val_snoc, val_take_succ, val_take_succ, h2, Nat.pow_succ]
    have := Nat.div_add_mod (cr + dg xs i + dg ys i) B16
    generalize (cr + dg xs i + dg ys i) / B16 = q at *
    generalize (cr + dg xs i + dg ys i) % B16 = r at *
    have e : B16 ^ i * (B16 * q + r) = B16 ^ i * (cr + dg xs i + dg ys i) := by rw [this]
    grind
  refine ⟨fun x hm => ?_, by simp [h2], ?_, hv, ?_⟩
  · rcases List.mem_append.1 hm with hm | hm
    · exact h1 x hm
    · simp at hm; rw [hm]; exact Nat.mod_lt _ B16_pos
  · unfold B16 at *; omega
  · by_cases hn : i < xs.length ∨ i < ys.length
    · omega
    · have e1 : dg xs i = 0 := dg_of_ge (by omega)
      have e2 : dg ys i = 0 := dg_of_ge (by omega)
      have e3 : cr = 1 := by omega
      subst e3
      rw [e1, e2]
      refine .inr (.inr ⟨by decide, ?_⟩)
      have : (1 + 0 + 0) % B16 = 1 := by decide
      rw [this, val_snoc, h2]
      simp

theorem PlusRel.done {O xs ys : List Nat} {i a b : Nat} (h : PlusRel O xs ys i 0) (hx : xs.length ≤ i) (hy : ys.length ≤ i) (ha : xs = dig B16 a) (hb : ys = dig B16 b) : O = dig B16 (a + b) := by
  obtain ⟨h1, h2, h3, h4, h5⟩ := h
  rw [val_take_all _ _ _ hx, val_take_all _ _ _ hy, ha, hb, val_dig B16_two, val_dig B16_two, Nat.zero_mul, Nat.add_zero] at h4
  refine dig_eq B16_two O _ h1 (tight_of_ge O h1 ?_) h4
  rw [h2]
  by_cases hi : i = 0
  · left; exact List.eq_nil_of_length_eq_zero (by omega)
  · right
    rcases h5 with h5 | h5 | h5
    · have e : xs.length = i := by omega
      rw [h4, ← e, ha]
      have hp : 0 < a := by
        rcases Nat.eq_zero_or_pos a with h0 | h0
        · rw [h0, dig_zero] at ha; rw [ha] at e; simp at e; omega
        · exact h0
      have := dig_len_pow B16_two a hp
      omega
    · have e : ys.length = i := by omega
      rw [h4, ← e, hb]
      have hp : 0 < b := by
        rcases Nat.eq_zero_or_pos b with h0 | h0
        · rw [h0, dig_zero] at hb; rw [hb] at e; simp at e; omega
        · exact h0
      have := dig_len_pow B16_two b hp
      omega
    · exact h5.2

end Go.Slip
