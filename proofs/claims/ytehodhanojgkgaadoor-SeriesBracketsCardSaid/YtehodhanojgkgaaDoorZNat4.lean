/- nat.Check; nat.Add: sums of natural numbers, errors too. -/
import Derived.Test.YtehodhanojgkgaaDoorZNat1
import Derived.Test.YtehodhanojgkgaaDoorZC
namespace Go.Proofs.YtehodhanojgkgaaDoor
open Go.RowKit Go.Slip

theorem natCheck1_any (p : Option Addr) (n c : Nat) (xs : List Nat) (w : World) (hp : Rd w .u32 p xs) (hn : n = xs.length) (hl : xs.length ≤ 9223372036854775807) :
    Calls Tryd.prog 102 #[.slice p n c] w fun e w' => e = .returned (.int .i64 (errNat xs)) ∧ Below w.heap.size w w' := by
  subst hn
  go_enter Tryd.func102, Tryd.ntmps102
  go_wp2_with fail
  refine (check1_new p c _ xs _ hp rfl hl).mono ?_
  rintro e w1 ⟨rfl, rfl⟩
  go_wp2_with fail
  go_ret
  exact ⟨rfl, (Below.refl _ _).alloc (Nat.le_refl _) _⟩

end Go.Proofs.YtehodhanojgkgaaDoor
