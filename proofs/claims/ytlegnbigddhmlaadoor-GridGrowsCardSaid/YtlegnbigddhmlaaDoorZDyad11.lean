/- dyad: Cut. -/
import Derived.Test.YtlegnbigddhmlaaDoorZF
import Derived.Test.YtlegnbigddhmlaaDoorZC
import Derived.Test.YtlegnbigddhmlaaDoorZLimb6
namespace Go.Proofs.YtlegnbigddhmlaaDoor
open Go.RowKit Go.Slip


theorem of_one (w : World) : Calls Tryd.prog 64 #[.int .i64 1] w (Gives w .u32 46 (dig B32 1)) := of_any 1 w (by omega)

theorem pCut_small {g : Bool} {m : Nat} {e : Int} {b : Nat} (up : Bool) (h : blen m ≤ b) : pCut ⟨g, m, e⟩ b up = ⟨g, m, e⟩ := by unfold pCut; rw [if_pos h]
theorem pCut_same {g : Bool} {m : Nat} {e : Int} {b N : Nat} (h : blen m = b + N) (h0 : 0 < N) : pCut ⟨g, m, e⟩ b g = bare ⟨g, m / 2 ^ N, e + N⟩ := by
  unfold pCut
  rw [if_neg (by simp only; omega)]
  simp [h]
theorem pCut_more {g up : Bool} {m : Nat} {e : Int} {b N : Nat} (h : blen m = b + N) (h0 : 0 < N) (hu : up ≠ g) : pCut ⟨g, m, e⟩ b up = bare ⟨g, m / 2 ^ N + 1, e + N⟩ := by
  unfold pCut
  rw [if_neg (by simp only; omega)]
  simp [h, hu]

end Go.Proofs.YtlegnbigddhmlaaDoor
