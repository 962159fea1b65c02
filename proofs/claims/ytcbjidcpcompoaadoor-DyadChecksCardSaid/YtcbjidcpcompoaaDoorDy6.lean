/- Noughts behind a list of digits to the base of 65536. Plain arithmetic. No program is in sight here. -/
import Derived.Test.YtcbjidcpcompoaaDoorDy3
namespace Go.Slip

theorem tz_low16 {d r : Nat} (h0 : 0 < d) (h : d < 65536) : tz (d + 65536 * r) = tz d := by
  obtain ⟨h1, h2⟩ := tz_spec d h0
  have hle : tz d < 16 := by
    rcases Nat.lt_or_ge (tz d) 16 with h3 | h3
    · exact h3
    · have h4 : 2 ^ 16 ≤ 2 ^ tz d := Nat.pow_le_pow_right (by omega) h3
      have h5 : 0 < d / 2 ^ tz d := by
        rcases Nat.eq_zero_or_pos (d / 2 ^ tz d) with h | h
        · rw [h] at h2; simp at h2
        · exact h
      have h6 := Nat.mul_le_mul_left (2 ^ tz d) h5
      simp only [Nat.succ_eq_add_one, Nat.zero_add, Nat.mul_one] at h6
      omega
  obtain ⟨t, ht⟩ : ∃ t, t = tz d := ⟨_, rfl⟩
  rw [← ht] at h1 h2 hle ⊢
  obtain ⟨s, hs⟩ : ∃ s, 16 = t + (s + 1) := ⟨15 - t, by omega⟩
  have e : d + 65536 * r = (d / 2 ^ t + 2 * (2 ^ s * r)) * 2 ^ t := by
    have e1 : (65536 : Nat) = 2 ^ t * (2 ^ s * 2) := by
      rw [show (65536 : Nat) = 2 ^ 16 by decide, hs, Nat.pow_add, Nat.pow_succ]
    rw [e1, Nat.add_mul]
    conv => lhs; rw [← h1]
    grind
  rw [e]
  exact tz_mul _ _ (by omega)

/-- The first digit that is not 0 tells. -/
theorem tz_dig16 {xs : List Nat} {a i : Nat} (ha : val B16 xs = a) (hz : ∀ j, j < i → dg xs j = 0) (hd : 0 < dg xs i) (hl : dg xs i < 65536) : tz a = 16 * i + tz (dg xs i) := by
  have h1 := val_take_drop0 B16 xs i
  have h2 : val B16 (xs.take i) = 0 := by
    have : xs.take i = List.replicate (xs.take i).length 0 := by
      apply list_ext_dg
      · simp
      · intro t ht
        simp only [List.length_take] at ht
        rw [dg_take (by omega), dg_replicate, hz t (by omega)]
    rw [this, val_replicate]
  rw [h2, val_drop0, Nat.zero_add] at h1
  have e : a = (dg xs i + 65536 * val B16 (xs.drop (i + 1))) * 2 ^ (16 * i) := by
    rw [← ha, h1, Nat.pow_mul, show (2 : Nat) ^ 16 = B16 by decide, Nat.mul_comm]
    rfl
  rw [e, tz_shift (by omega), tz_low16 hd hl]
  omega

/-- What the search for the first one knows. -/
def BareOut (xs : List Nat) (j n : Nat) : Prop := n = 16 * j ∧ ∀ i, i < j → dg xs i = 0

theorem BareOut.start (xs : List Nat) : BareOut xs 0 0 := ⟨rfl, fun i hi => by omega⟩
theorem BareOut.step {xs : List Nat} {j n : Nat} (h : BareOut xs j n) (hz : dg xs j = 0) : BareOut xs (j + 1) (n + 16) :=
  ⟨by have := h.1; omega, fun i hi => by
    by_cases he : i = j
    · subst he; exact hz
    · exact h.2 i (by omega)⟩
theorem BareOut.lt {xs : List Nat} {j n m : Nat} (h : BareOut xs j n) (hv : val B16 xs = m) (h0 : 0 < m) : j < xs.length := by
  rcases Nat.lt_or_ge j xs.length with h1 | h1
  · exact h1
  · have := val_zero_of (B := B16) (xs := xs) (fun i hi => h.2 i (by omega))
    omega

/-- Within the digit. -/
def BareIn (m d n : Nat) : Prop := ∃ t, n + tz d = t ∧ t = tz m ∧ 0 < d
theorem BareIn.start {xs : List Nat} {j n m : Nat} (h : BareOut xs j n) (hv : val B16 xs = m) (h0 : 0 < dg xs j) (hl : dg xs j < 65536) : BareIn m (dg xs j) n :=
  ⟨_, rfl, by rw [tz_dig16 hv h.2 h0 hl, h.1], h0⟩
theorem BareIn.step {m d n : Nat} (h : BareIn m d n) (he : d % 2 = 0) : BareIn m (d / 2) (n + 1) := by
  obtain ⟨t, h1, h2, h3⟩ := h
  rw [tz_even h3 he] at h1
  exact ⟨t, by omega, h2, by omega⟩
theorem BareIn.done {m d n : Nat} (h : BareIn m d n) (he : d % 2 = 1) : n = tz m := by
  obtain ⟨t, h1, h2, h3⟩ := h
  rw [tz_odd he] at h1
  omega

theorem blen_len16 (a : Nat) : blen a ≤ 16 * (dig B16 a).length := by
  rw [blen_le, Nat.pow_mul]
  exact (dig_len_le B16_two a _).1 (Nat.le_refl _)

end Go.Slip
