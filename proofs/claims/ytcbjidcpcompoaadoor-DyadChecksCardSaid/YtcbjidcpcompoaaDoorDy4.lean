/- How long and how far off a bare number is. Plain arithmetic. No program is in sight here. -/
import Derived.Test.YtcbjidcpcompoaaDoorDy3
namespace Go.Slip

theorem bare_m_le (d : Dv) : (bare d).m ≤ d.m := by
  unfold bare
  by_cases h : d.m = 0
  · rw [if_pos h]; exact Nat.zero_le _
  · rw [if_neg h]; exact Nat.div_le_self _ _

theorem bare_len {B : Nat} (hB : 2 ≤ B) (d : Dv) : (dig B (bare d).m).length ≤ (dig B d.m).length := dig_len_mono hB (bare_m_le d)

/-- The bare one's exponent. -/
theorem bare_e (d : Dv) {n : Nat} (hl : (dig B32 d.m).length ≤ n) {lo hi : Int} (h1 : lo ≤ d.e) (h2 : d.e ≤ hi) (h3 : lo ≤ 0) (h4 : 0 ≤ hi) : lo ≤ (bare d).e ∧ (bare d).e ≤ hi + 32 * n := by
  unfold bare
  by_cases h : d.m = 0
  · rw [if_pos h]; simp only; omega
  · rw [if_neg h]
    have h5 := tz_lt_blen (m := d.m) (by omega)
    have h6 := blen_len32 d.m
    simp only
    omega

theorem joinD_m_le (g h : Bool) (x y : Nat) (e : Int) : (joinD g h x y e).m ≤ x + y ∧ (joinD g h x y e).e = e := by
  unfold joinD
  split
  · simp
  · split
    · simp; omega
    · simp; omega

theorem len_shl (a N : Nat) : (dig B32 (a * 2 ^ N)).length ≤ (dig B32 a).length + (N / 32 + 1) := by
  refine Nat.le_trans (dig_len_mul B32_two _ _) ?_
  have : (dig B32 (2 ^ N)).length = N / 32 + 1 := by rw [← pow2_dig (B := B32) (w := 32) (by decide) (by omega) N]; simp
  omega

theorem pPlus_len {a b : Dv} {n : Nat} {lo hi : Int} (hla : (dig B32 a.m).length ≤ n) (hlb : (dig B32 b.m).length ≤ n) (ha1 : lo ≤ a.e) (ha2 : a.e ≤ hi) (hb1 : lo ≤ b.e) (hb2 : b.e ≤ hi) :
    (dig B32 (pPlus a b).m).length ≤ 2 * n + 2 * (hi - lo).toNat + 10 := by
  unfold pPlus
  split
  · omega
  · split
    · omega
    · refine Nat.le_trans (bare_len B32_two _) ?_
      refine Nat.le_trans (dig_len_mono B32_two (joinD_m_le _ _ _ _ _).1) ?_
      refine Nat.le_trans (dig_len_add B32_two _ _) ?_
      have h1 := len_shl a.m (a.e - min a.e b.e).toNat
      have h2 := len_shl b.m (b.e - min a.e b.e).toNat
      omega

theorem dTimes_len (a b : Dv) : (dig B32 (dTimes a b).m).length ≤ (dig B32 a.m).length + (dig B32 b.m).length :=
  Nat.le_trans (bare_len B32_two _) (dig_len_mul B32_two _ _)

theorem B16_len32 (m : Nat) : (dig B16 m).length ≤ 2 * (dig B32 m).length := by
  have := dig_len_halves m
  omega

end Go.Slip
