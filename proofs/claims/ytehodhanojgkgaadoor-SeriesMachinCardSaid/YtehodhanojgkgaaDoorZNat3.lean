/- nat.Print; what must be in any case of natural numbers; the laws' small helpers. -/
import Derived.Test.YtehodhanojgkgaaDoorZNat2
import Derived.Test.YtehodhanojgkgaaDoorZLimb5
import Derived.Test.YtehodhanojgkgaaDoorZR
namespace Go.Proofs.YtehodhanojgkgaaDoor
open Go.RowKit Go.Slip

/-- What Print answers. -/
def printS (xs : List Nat) : ByteArray := if errNat xs = 0 then strOf (decOf (val B32 xs)) else ⟨#[]⟩

theorem dig_begun : dig B32 12884901888 = [0, 3] := (dig_eq B32_two [0, 3] _ (by unfold B32; simp) (by simp [Tight]) (by simp [B32])).symm
theorem dec_begun : decOf 12884901888 = [49, 50, 56, 56, 52, 57, 48, 49, 56, 56, 56] := by
  unfold decOf
  rw [if_neg (by omega), ← dig_eq (B := 10) (by omega) [8, 8, 8, 1, 0, 9, 4, 8, 8, 2, 1] 12884901888 (by simp) (by simp [Tight]) (by simp)]
  rfl
theorem mul_begun1 : natE (err2 [0, 1] [3]) (val B32 [0, 1] * val B32 [3]) = 0 := by
  have h : val B32 [0, 1] * val B32 [3] = 12884901888 := by simp [B32]
  have h2 : err2 [0, 1] [3] = 0 := by decide
  rw [h, h2]
  unfold natE
  rw [if_pos rfl, dig_begun]; rfl
theorem mul_begun2 : natL (err2 [0, 1] [3]) (val B32 [0, 1] * val B32 [3]) = [0, 3] := by
  unfold natL
  rw [if_pos mul_begun1]
  have h : val B32 [0, 1] * val B32 [3] = 12884901888 := by simp [B32]
  rw [h, dig_begun]
theorem print_begun : printS [0, 3] = ⟨#[49, 50, 56, 56, 52, 57, 48, 49, 56, 56, 56]⟩ := by
  have h : val B32 [0, 3] = 12884901888 := by simp [B32]
  have h2 : errNat [0, 3] = 0 := by decide
  unfold printS
  rw [if_pos h2, h, dec_begun]
  rfl

end Go.Proofs.YtehodhanojgkgaaDoor
