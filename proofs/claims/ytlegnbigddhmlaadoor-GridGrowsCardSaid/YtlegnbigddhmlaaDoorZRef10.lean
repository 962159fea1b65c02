/- The references' division: of more than one digit. -/
import Derived.Test.YtlegnbigddhmlaaDoorZR
import Derived.Test.YtlegnbigddhmlaaDoorZA
namespace Go.Proofs.YtlegnbigddhmlaaDoor
open Go.RowKit Go.Slip

theorem _root_.Go.Slip.SmallRel.skip {B : Nat} {L xs : List Nat} {d k r : Nat} (h : SmallRel B L xs d (k + 1) r) (hk : k < xs.length) (hL : k < L.length) (hx : dg xs k < B) (hz : dg L k = 0) (hlt : r * B + dg xs k < d) : SmallRel B L xs d k (r * B + dg xs k) := by
  have h1 := (h.step hk hL hx).1
  rw [Nat.div_eq_of_lt hlt, Nat.mod_eq_of_lt hlt, set_same L k hz] at h1
  exact h1

theorem div_digit {B R j : Nat} : R / B ^ j = B * (R / B ^ (j + 1)) + R / B ^ j % B := by
  rw [Nat.pow_succ, ← Nat.div_div_eq_div_mul, Nat.div_add_mod]

theorem dg_dig {B : Nat} (hB : 2 ≤ B) (R j : Nat) : dg (dig B R) j = R / B ^ j % B := by
  have h1 := val_drop_div (B := B) (by omega) (dig B R) (dig_lt hB R) j
  have h2 := val_drop0 B (dig B R) j
  rw [val_dig hB] at h1
  rw [h1] at h2
  rw [h2, Nat.add_mul_mod_self_left, Nat.mod_eq_of_lt (getD_lt (by omega) _ (dig_lt hB R) j)]

theorem top_step {R n k tp : Nat} (hk : k ≤ n) (h : tp = R / B16 ^ (n + 1 - k)) : 65536 * tp + dg (dig B16 R) (n - k) = R / B16 ^ (n - k) := by
  rw [dg_dig B16_two, h, show n + 1 - k = n - k + 1 by omega]
  exact (div_digit (B := B16)).symm

theorem top_lt {R n k : Nat} (hk : k ≤ n + 1) (h : R < B16 ^ (n + 1)) : R / B16 ^ (n + 1 - k) < B16 ^ k := by
  rw [Nat.div_lt_iff_lt_mul (Nat.pow_pos B16_pos), ← Nat.pow_add, show k + (n + 1 - k) = n + 1 by omega]
  exact h

theorem top_under {b n : Nat} (h2 : (dig B16 b).length = n + 2) : dg (dig B16 b) (n + 1) * 65536 + dg (dig B16 b) n = b / B16 ^ n ∧ B16 ≤ b / B16 ^ n := by
  have hb : b < B16 ^ (n + 2) := (dig_len_le B16_two b _).1 (by omega)
  have h0 : 0 < b := by
    have := dig_len_zero B16_two b
    omega
  have h1 := dig_len_pow B16_two b h0
  rw [h2] at h1
  have e1 : b / B16 ^ (n + 2) = 0 := Nat.div_eq_of_lt hb
  have e2 : b / B16 ^ n = B16 * (b / B16 ^ (n + 1)) + b / B16 ^ n % B16 := div_digit
  have e3 : b / B16 ^ (n + 1) = B16 * (b / B16 ^ (n + 2)) + b / B16 ^ (n + 1) % B16 := div_digit
  rw [dg_dig B16_two, dg_dig B16_two]
  have e4 : b / B16 ^ (n + 1) % B16 = b / B16 ^ (n + 1) := by rw [e1] at e3; omega
  refine ⟨by rw [e4, show (65536 : Nat) = B16 from rfl, Nat.mul_comm]; exact e2.symm, ?_⟩
  rw [Nat.le_div_iff_mul_le (Nat.pow_pos B16_pos), Nat.mul_comm, ← Nat.pow_succ]
  exact h1

end Go.Proofs.YtlegnbigddhmlaaDoor
