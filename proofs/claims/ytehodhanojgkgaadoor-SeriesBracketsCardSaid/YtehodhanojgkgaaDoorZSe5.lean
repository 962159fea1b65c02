/- The references' numbers lie where the sums lie: one numeric fact each, over 2 to the power of 1200; the rest by bounds. No program is in sight here. -/
import Derived.Test.YtehodhanojgkgaaDoorZA
import Derived.Test.YtehodhanojgkgaaDoorZRSe2
import Derived.Deep.LoopGhost
namespace Go.Slip

/-- The reference's number of the circle, of sums. -/
def Rpi (P : Nat) : Int := An true 18 P * 48 + An true 57 P * 32 - An true 239 P * 20

def near20 (x y : Int) : Bool := decide (x - y ≤ 1048576) && decide (y - x ≤ 1048576)
def Pw (n : Nat) : Int := 2 ^ n
theorem num_pi : (near20 (Xpi 1200) (Rpi 1200) && decide (3 * Pw 1200 + Pw 1190 ≤ Xpi 1200) && decide (Xpi 1200 + Pw 1190 ≤ 4 * Pw 1200)) = true := by decide +kernel
theorem num_ln : (near20 (Xln 1200) (lsum 1200 1200 : Nat) && decide (Pw 1199 ≤ Xln 1200)) = true := by decide +kernel
theorem pw_split {n p : Nat} (h : p ≤ n) : Pw n = Pw p * 2 ^ (n - p) := by
  have h1 : (2 : Int) ^ (p + (n - p)) = 2 ^ p * 2 ^ (n - p) := Int.pow_add 2 p (n - p)
  rw [show p + (n - p) = n by omega] at h1
  exact h1

end Go.Slip
