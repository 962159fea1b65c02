/- The references' division, its digits found by counting down; powers, and roots by means. Plain arithmetic. No program is in sight here. -/
import Derived.Test.YtcbjidcpcompoaaDoorNum8
namespace Go.Slip

/-- The digit that is looked for lies between what the uppermost digits tell, and one more. -/
theorem into_trial {B P b rest : Nat} (hP : 0 < P) (hu : B ≤ b / P) (hr : rest < b * B) :
    rest / P / (b / P + 1) ≤ rest / b ∧ rest / b ≤ rest / P / (b / P + 1) + 1 := by
  have hb : 0 < b := by
    rcases Nat.eq_zero_or_pos b with h | h
    · subst h; omega
    · exact h
  have h1 := lt_succ_div rest b hb
  have h2 := lt_succ_div b P hP
  have h3 := Nat.div_mul_le_self rest P
  have h4 := lt_succ_div rest P hP
  have h5 := Nat.div_mul_le_self b P
  have h6 := Nat.div_mul_le_self rest b
  have hd : rest / b < B := by rw [Nat.div_lt_iff_lt_mul hb, Nat.mul_comm]; exact hr
  generalize rest / b = d at *
  generalize rest / P = top at *
  generalize b / P = under at *
  constructor
  · have h7 : (d + 1) * b ≤ (d + 1) * ((under + 1) * P) := Nat.mul_le_mul_left _ (Nat.le_of_lt h2)
    have h8 : top * P < ((d + 1) * (under + 1)) * P := by rw [Nat.mul_assoc]; omega
    have h9 := Nat.lt_of_mul_lt_mul_right h8
    have : top / (under + 1) < d + 1 := (Nat.div_lt_iff_lt_mul (by omega)).2 h9
    omega
  · have h7 : d * (under * P) ≤ d * b := Nat.mul_le_mul_left _ h5
    have h8 : (d * under) * P < (top + 1) * P := by rw [Nat.mul_assoc]; omega
    have h9 := Nat.lt_of_mul_lt_mul_right h8
    have h10 := lt_succ_div top (under + 1) (by omega)
    generalize top / (under + 1) = x at *
    rcases Nat.lt_or_ge d (x + 2) with h11 | h11
    · omega
    · exfalso
      obtain ⟨k, rfl⟩ : ∃ k, d = x + 2 + k := ⟨d - (x + 2), by omega⟩
      have h12 : (x + 2) * under ≤ (x + 2 + k) * under := Nat.mul_le_mul_right _ (by omega)
      have h13 : (x + 1) * (under + 1) = (x + 2) * under + (x + 1) - under := by grind
      omega

theorem set_same (L : List Nat) (k : Nat) (h : dg L k = 0) : L.set k 0 = L := by
  apply list_ext_dg
  · simp
  · intro t ht
    by_cases hk : k = t
    · subst hk
      rw [dg_set_same (by simpa using ht), h]
    · rw [dg_set_ne hk]

/-- The round of a division that begins with a digit more. -/
theorem SmallRel.push {B : Nat} {L xs : List Nat} {d k r : Nat} (h : SmallRel B L xs d (k + 1) r) (hx : dg xs k < B) : dg xs k + B * r < d * B := by
  have h1 : (r + 1) * B ≤ d * B := Nat.mul_le_mul_right _ h.2.1
  rw [Nat.add_mul, Nat.one_mul] at h1
  rw [Nat.mul_comm B r]; omega

/-! ### powers -/
theorem dig_len_pow_le {B : Nat} (hB : 2 ≤ B) (a k : Nat) : (dig B (a ^ k)).length ≤ k * (dig B a).length + 1 := by
  induction k with
  | zero =>
    rw [Nat.pow_zero, dig_len_le hB]; simp; omega
  | succ k ih =>
    rcases Nat.eq_zero_or_pos k with h0 | h0
    · subst h0; simp
    · rw [Nat.pow_succ]
      refine Nat.le_trans (dig_len_mul hB _ _) ?_
      rw [Nat.add_mul, Nat.one_mul]; omega

/-- One on the tangent is below the power. -/
theorem tangent (k t x : Nat) : ((k + 1) * t) * x ^ k ≤ t ^ (k + 1) + k * x ^ (k + 1) := by
  induction k with
  | zero => simp
  | succ k ih =>
    have h1 := Nat.mul_le_mul_right t ih
    have h2 : 2 * t * x ≤ t * t + x * x := by
      rcases Nat.le_total t x with h | h
      · obtain ⟨u, rfl⟩ : ∃ u, x = t + u := ⟨x - t, by omega⟩
        grind
      · obtain ⟨u, rfl⟩ : ∃ u, t = x + u := ⟨t - x, by omega⟩
        grind
    have h3 := Nat.mul_le_mul_left ((k + 1) * x ^ k) h2
    have e1 : t ^ (k + 1 + 1) = t ^ (k + 1) * t := Nat.pow_succ _ _
    have e2 : x ^ (k + 1 + 1) = x ^ k * x * x := by rw [Nat.pow_succ, Nat.pow_succ]
    have e3 : x ^ (k + 1) = x ^ k * x := Nat.pow_succ _ _
    rw [e1, e2]
    rw [e3] at h1 ⊢
    generalize t ^ (k + 1) = T at *
    generalize x ^ k = X at *
    grind

/-- A mean is not below the root. -/
theorem newton_above {a k x y : Nat} (hx : 0 < x) (hy : y = (x * k + a / x ^ k) / (k + 1)) : a < (y + 1) ^ (k + 1) := by
  have hP : 0 < x ^ k := Nat.pow_pos hx
  have h1 := lt_succ_div a (x ^ k) hP
  have h2 := lt_succ_div (x * k + a / x ^ k) (k + 1) (by omega)
  rw [← hy] at h2
  have h3 := tangent k (y + 1) x
  generalize a / x ^ k = q at *
  have e3 : x ^ (k + 1) = x ^ k * x := Nat.pow_succ _ _
  rw [e3] at h3
  generalize x ^ k = X at *
  have h4 : (q + 1 + x * k) * X ≤ ((k + 1) * (y + 1)) * X := Nat.mul_le_mul_right _ (by rw [Nat.mul_comm (k + 1)]; omega)
  have e4 : (q + 1 + x * k) * X = (q + 1) * X + k * (X * x) := by grind
  omega

/-- Where a mean is no less it is the root. -/
theorem newton_stop {a k x y : Nat} (hx : 0 < x) (hy : y = (x * k + a / x ^ k) / (k + 1)) (h : x ≤ y) : x ^ (k + 1) ≤ a := by
  have hP : 0 < x ^ k := Nat.pow_pos hx
  have h1 := Nat.div_mul_le_self a (x ^ k)
  have h2 := Nat.div_mul_le_self (x * k + a / x ^ k) (k + 1)
  rw [← hy] at h2
  generalize a / x ^ k = q at *
  rw [Nat.pow_succ]
  generalize x ^ k = X at *
  have h3 : x * (k + 1) ≤ y * (k + 1) := Nat.mul_le_mul_right _ h
  have h4 : x ≤ q := by rw [Nat.mul_add] at h3; omega
  have h5 := Nat.mul_le_mul_right X h4
  rw [Nat.mul_comm X x]; omega

theorem blen_shift {m : Nat} (h : 0 < m) (k : Nat) : blen (m * 2 ^ k) = blen m + k := by
  have h1 := blen_pow m h
  have h2 := (blen_le m (blen m)).1 (Nat.le_refl _)
  have h3 := (blen_pos m).2 h
  have e : blen m + k = (blen m - 1 + k) + 1 := by omega
  rw [e]
  refine blen_eq ?_ ?_
  · rw [Nat.pow_add]; exact Nat.mul_le_mul_right _ h1
  · rw [show blen m - 1 + k + 1 = blen m + k by omega, Nat.pow_add]
    exact Nat.mul_lt_mul_of_pos_right h2 (Nat.pow_pos (by omega))


/-- So many bits up, the uppermost digit has its uppermost bit set. -/
theorem norm_top {b s : Nat} (h : 0 < b) (hs : s + blen (dg (dig B32 b) ((dig B32 b).length - 1)) = 32) :
    (dig B32 (b * 2 ^ s)).length = (dig B32 b).length ∧ 2147483648 ≤ dg (dig B32 (b * 2 ^ s)) ((dig B32 b).length - 1) := by
  obtain ⟨h1, h2⟩ := blen_dig (B := B32) (s := 32) (by decide) B32_two b h
  have hl0 : 0 < (dig B32 b).length := List.length_pos_iff.2 ((dig_spec B32_two b).2.2.2 h)
  have h3 := blen_shift h s
  have hV : 0 < b * 2 ^ s := Nat.mul_pos h (Nat.pow_pos (by omega))
  obtain ⟨k1, k2⟩ := blen_dig (B := B32) (s := 32) (by decide) B32_two (b * 2 ^ s) hV
  have k0 : 0 < (dig B32 (b * 2 ^ s)).length := List.length_pos_iff.2 ((dig_spec B32_two _).2.2.2 hV)
  have k3 := getD_lt B32_pos _ (dig_lt B32_two (b * 2 ^ s)) ((dig B32 (b * 2 ^ s)).length - 1)
  have k3' : dg (dig B32 (b * 2 ^ s)) ((dig B32 (b * 2 ^ s)).length - 1) < 4294967296 := k3
  have k4 := (blen_le (dg (dig B32 (b * 2 ^ s)) ((dig B32 (b * 2 ^ s)).length - 1)) 32).2 (by omega)
  have k5 := (blen_pos _).2 k2
  have hl : (dig B32 (b * 2 ^ s)).length = (dig B32 b).length := by omega
  refine ⟨hl, ?_⟩
  rw [hl] at k1 k2 k4 k5
  have k6 : blen (dg (dig B32 (b * 2 ^ s)) ((dig B32 b).length - 1)) = 32 := by omega
  have := blen_pow _ k2
  rw [k6] at this
  omega

theorem root_start {a k : Nat} (n : Nat) (hn : blen a ≤ n * (k + 1)) : a < (2 ^ n + 1) ^ (k + 1) := by
  have h1 := (blen_le a _).1 hn
  rw [Nat.pow_mul] at h1
  exact Nat.lt_of_lt_of_le h1 (Nat.pow_le_pow_left (by omega) _)

end Go.Slip
