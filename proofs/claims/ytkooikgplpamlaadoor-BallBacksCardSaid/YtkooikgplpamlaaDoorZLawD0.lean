/- The laws' helpers on dyads: 'dyadIs', 'dyadBegun'. -/
import Derived.Test.YtkooikgplpamlaaDoorZRDy3
namespace Go.Proofs.YtkooikgplpamlaaDoor
open Go.RowKit Go.Slip

/-- What dyadIs asks of the heap when it has laid its boxes. -/
theorem doneD_len (d : Dv) : (dig B32 (doneD d).m).length ≤ 1200 := by
  unfold doneD
  by_cases h : errD d = 0
  · rw [if_pos h]
    unfold errD at h
    by_cases h1 : 1200 < (dig B32 d.m).length
    · rw [if_pos h1] at h; simp at h
    · omega
  · rw [if_neg h]; simp [zeroD, dig_zero]

end Go.Proofs.YtkooikgplpamlaaDoor
