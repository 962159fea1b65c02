/- ball: Add, Mul, Join, Sub. -/
import Derived.Test.YtehodhanojgkgaaDoorZBall12
namespace Go.Slip

theorem cut_len (a : Dv) (b : Nat) (up : Bool) {n : Nat} (h : (dig B32 a.m).length ≤ n) : (dig B32 (pCut a b up).m).length ≤ n + 2 := by
  unfold pCut
  split
  · omega
  · refine Nat.le_trans (bare_len B32_two _) ?_
    refine Nat.le_trans (dig_len_add B32_two _ _) ?_
    have h5 := dig_len_mono B32_two (Nat.div_le_self a.m (2 ^ (blen a.m - b)))
    have h6 : (dig B32 (if up ≠ a.neg then 1 else 0)).length ≤ 1 := (dig_len_le B32_two _ 1).2 (by split <;> decide)
    omega

end Go.Slip
namespace Go.Proofs.YtehodhanojgkgaaDoor
open Go.RowKit Go.Slip

end Go.Proofs.YtehodhanojgkgaaDoor
