/- The references' numbers lie where the sums lie: one numeric fact each, over 2 to the power of 1200; the rest by bounds. No program is in sight here. -/
import Derived.Test.YtehodhanojgkgaaDoorZA
import Derived.Test.YtehodhanojgkgaaDoorZRSe2
import Derived.Deep.LoopGhost
namespace Go.Slip

theorem isJ_ex {n : Nat} (hn : 2 ≤ n) (P : Nat) : ∃ J, IsJ n P J := by
  obtain ⟨J, h1, h2⟩ := exists_least (p := fun j => 2 ^ P < n ^ (2 * j + 1)) ⟨P, Nat.lt_of_lt_of_le (Nat.pow_lt_pow_right (by omega) (by omega)) (pow_two_le hn _)⟩
  refine ⟨J, h1, fun j hj => ?_⟩
  rcases Nat.lt_or_ge (2 ^ P) (n ^ (2 * j + 1)) with h | h
  · have := h2 j h; omega
  · exact h

theorem an_near (t : Bool) {n p P : Nat} (hn : 2 ≤ n) (h : p ≤ P) : (An t n p - (p + 3)) * 2 ^ (P - p) ≤ An t n P ∧ An t n P ≤ (An t n p + (p + 3)) * 2 ^ (P - p) := by
  obtain ⟨J, k⟩ := isJ_ex hn p
  have hJ := isJ_le hn k
  obtain ⟨h1, h2⟩ := sI_near t h hn k (show J ≤ P + 1 by omega)
  have hs : An t n p = sI t n p J := by unfold An; rw [sI_stop t hn k (by omega)]
  have hp : (0 : Int) ≤ 2 ^ (P - p) := Int.le_of_lt (Int.pow_pos (by omega))
  rw [hs]
  unfold An
  have m1 := Int.mul_le_mul_of_nonneg_right (show sI t n p J - (p + 3) ≤ sI t n p J - (J + 2) by omega) hp
  have m2 := Int.mul_le_mul_of_nonneg_right (show sI t n p J + (J + 2) ≤ sI t n p J + (p + 3) by omega) hp
  omega

/-- The reference's number of the circle, of sums. -/
def Rpi (P : Nat) : Int := An true 18 P * 48 + An true 57 P * 32 - An true 239 P * 20

def near20 (x y : Int) : Bool := decide (x - y ≤ 1048576) && decide (y - x ≤ 1048576)
def Pw (n : Nat) : Int := 2 ^ n
theorem num_pi : (near20 (Xpi 1200) (Rpi 1200) && decide (3 * Pw 1200 + Pw 1190 ≤ Xpi 1200) && decide (Xpi 1200 + Pw 1190 ≤ 4 * Pw 1200)) = true := by decide +kernel
theorem num_ln : (near20 (Xln 1200) (lsum 1200 1200 : Nat) && decide (Pw 1199 ≤ Xln 1200)) = true := by decide +kernel
theorem pw_split {n p : Nat} (h : p ≤ n) : Pw n = Pw p * 2 ^ (n - p) := by
  have h1 : (2 : Int) ^ (p + (n - p)) = 2 ^ p * 2 ^ (n - p) := Int.pow_add 2 p (n - p)
  rw [show p + (n - p) = n by omega] at h1
  exact h1

end Go.Slip
