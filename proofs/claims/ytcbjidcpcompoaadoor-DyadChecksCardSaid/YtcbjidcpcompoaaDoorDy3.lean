/- Noughts behind a list of digits. Plain arithmetic. No program is in sight here. -/
import Derived.Test.YtcbjidcpcompoaaDoorDy
import Derived.Lib.TrailingZeros
namespace Go.Slip

theorem tz_shift {m : Nat} (h : 0 < m) (k : Nat) : tz (m * 2 ^ k) = tz m + k := by
  obtain ⟨h1, h2⟩ := tz_spec m h
  have e : m * 2 ^ k = (m / 2 ^ tz m) * 2 ^ (tz m + k) := by
    conv => lhs; rw [← h1]
    rw [Nat.pow_add]; grind
  rw [e]
  exact tz_mul _ _ h2

theorem tz_low {d r : Nat} (h0 : 0 < d) (h : d < 4294967296) : tz (d + 4294967296 * r) = tz d := by
  obtain ⟨h1, h2⟩ := tz_spec d h0
  have hle : tz d < 32 := by
    rcases Nat.lt_or_ge (tz d) 32 with h3 | h3
    · exact h3
    · have h4 : 2 ^ 32 ≤ 2 ^ tz d := Nat.pow_le_pow_right (by omega) h3
      have h5 : 0 < d / 2 ^ tz d := by
        rcases Nat.eq_zero_or_pos (d / 2 ^ tz d) with h | h
        · rw [h] at h2; simp at h2
        · exact h
      have h6 := Nat.mul_le_mul_left (2 ^ tz d) h5
      simp only [Nat.succ_eq_add_one, Nat.zero_add, Nat.mul_one] at h6
      omega
  obtain ⟨t, ht⟩ : ∃ t, t = tz d := ⟨_, rfl⟩
  rw [← ht] at h1 h2 hle ⊢
  obtain ⟨s, hs⟩ : ∃ s, 32 = t + (s + 1) := ⟨31 - t, by omega⟩
  have e : d + 4294967296 * r = (d / 2 ^ t + 2 * (2 ^ s * r)) * 2 ^ t := by
    have e1 : (4294967296 : Nat) = 2 ^ t * (2 ^ s * 2) := by
      rw [show (4294967296 : Nat) = 2 ^ 32 by decide, hs, Nat.pow_add, Nat.pow_succ]
    rw [e1, Nat.add_mul]
    conv => lhs; rw [← h1]
    grind
  rw [e]
  exact tz_mul _ _ (by omega)

theorem tz_lt_blen {m : Nat} (h : 0 < m) : tz m < blen m := by
  obtain ⟨h1, h2⟩ := tz_spec m h
  rcases Nat.lt_or_ge (tz m) (blen m) with h3 | h3
  · exact h3
  · have h4 := (blen_le m (tz m)).1 h3
    have h5 : 0 < m / 2 ^ tz m := by
      rcases Nat.eq_zero_or_pos (m / 2 ^ tz m) with h | h
      · rw [h] at h2; simp at h2
      · exact h
    have h6 := Nat.mul_le_mul_left (2 ^ tz m) h5
    simp only [Nat.succ_eq_add_one, Nat.zero_add, Nat.mul_one] at h6
    omega

theorem blen_len32 (a : Nat) : blen a ≤ 32 * (dig B32 a).length := by
  rw [blen_le, Nat.pow_mul]
  exact (dig_len_le B32_two a _).1 (Nat.le_refl _)

theorem bare_pos {g : Bool} {m : Nat} {e : Int} (h : 0 < m) : bare ⟨g, m, e⟩ = ⟨g, m / 2 ^ tz m, e + tz m⟩ := by
  unfold bare
  rw [if_neg (show ¬ m = 0 by omega)]

theorem ctzFrom_tz : ∀ (f x : Nat), 0 < x → x < 2 ^ f → Lib.ctzFrom f x = tz x
  | 0, x, h0, h => by simp at h; omega
  | f + 1, x, h0, h => by
    unfold Lib.ctzFrom
    by_cases h1 : x % 2 = 1
    · rw [if_pos h1, tz_odd h1]
    · rw [if_neg h1, tz_even h0 (by omega), ctzFrom_tz f (x / 2) (by omega) (by rw [Nat.pow_succ] at h; omega)]
      omega

theorem ctz_tz {x : Nat} (h0 : 0 < x) (h : x < 4294967296) : Lib.ctz 32 x = tz x := by
  unfold Lib.ctz
  rw [if_neg (by omega)]
  exact ctzFrom_tz 32 x h0 (by omega)

/-- The first digit that is not 0 tells. -/
theorem tz_dig {xs : List Nat} {a i : Nat} (ha : val B32 xs = a) (hz : ∀ j, j < i → dg xs j = 0) (hd : 0 < dg xs i) (hl : dg xs i < 4294967296) : tz a = 32 * i + tz (dg xs i) := by
  have h1 := val_take_drop0 B32 xs i
  have h2 : val B32 (xs.take i) = 0 := by
    have : xs.take i = List.replicate (xs.take i).length 0 := by
      apply list_ext_dg
      · simp
      · intro t ht
        simp only [List.length_take] at ht
        rw [dg_take (by omega), dg_replicate, hz t (by omega)]
    rw [this, val_replicate]
  rw [h2, val_drop0, Nat.zero_add] at h1
  have e : a = (dg xs i + 4294967296 * val B32 (xs.drop (i + 1))) * 2 ^ (32 * i) := by
    rw [← ha, h1, Nat.pow_mul, show (2 : Nat) ^ 32 = B32 by decide, Nat.mul_comm]
    rfl
  rw [e, tz_shift (by omega), tz_low hd hl]
  omega

theorem val_zero_of {B : Nat} {xs : List Nat} (hz : ∀ j, j < xs.length → dg xs j = 0) : val B xs = 0 := by
  have : xs = List.replicate xs.length 0 := by
    apply list_ext_dg
    · simp
    · intro t ht
      rw [dg_replicate, hz t ht]
  rw [this, val_replicate]

end Go.Slip
