/- The law NatChecks: its walk. -/
import Derived.Test.YtococmfcaobmhaaLaw0
import Derived.Test.YtococmfcaobmhaaNat4
namespace Go.Proofs.Ytococmfcaobmhaa
open Go.RowKit Go.Slip

theorem lawChk_row (p : Option Addr) (n c : Nat) (xs : List Nat) (w : World)
    (hp : Rd w .u32 p xs) (hn : n = xs.length) (hl : xs.length ≤ 9223372036854775807) (_hx : ∀ x ∈ xs, x < B32) :
    Calls Try.prog 5 #[.slice p n c] w fun e w' => e = .returned (.bool true) ∧ Below w.heap.size w w' := by
  subst hn
  have t : (errNat xs == errNat xs) = true := by simp
  go_enter Try.func5, Try.ntmps5
  go_wp2_with fail
  refine (natBegun_any _).mono ?_
  rintro e w1 ⟨rfl, hb1⟩
  go_wp2_with fail
  refine (natCheck1_any p _ c xs _ (hp.past hb1) rfl hl).mono ?_
  rintro e w2 ⟨rfl, hb2⟩
  go_wp2_with fail
  refine (refCheckNat_any p _ c xs _ ((hp.past hb1).past hb2) rfl hl).mono ?_
  rintro e w3 ⟨rfl, rfl⟩
  go_wp2_with fail
  go_ret
  exact ⟨rfl, hb1.trans (hb2.mono hb1.size)⟩

end Go.Proofs.Ytococmfcaobmhaa
