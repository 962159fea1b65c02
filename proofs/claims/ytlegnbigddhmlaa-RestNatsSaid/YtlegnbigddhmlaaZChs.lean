/- choose. -/
import Derived.Test.YtlegnbigddhmlaaZLaw0
namespace Go.Proofs.Ytlegnbigddhmlaa
open Go.RowKit Go.Slip

/-- Which of n things a raw number speaks of. -/
def chs (c : Int) (n : Nat) : Nat := ((if c < 0 then -(c + 1) else c) % (n : Int)).toNat

theorem chs_lt (c : Int) (n : Nat) (h : 0 < n) : chs c n < n := by
  unfold chs
  have h1 := Int.emod_lt_of_pos (if c < 0 then -(c + 1) else c) (show (0 : Int) < (n : Int) by omega)
  have h2 := Int.emod_nonneg (if c < 0 then -(c + 1) else c) (show (n : Int) ≠ 0 by omega)
  omega

theorem choose_any (i : Int) (n : Nat) (w : World) (hi : -9223372036854775808 ≤ i ∧ i ≤ 9223372036854775807) (hn : 0 < n) (hn2 : n ≤ 1000000000) :
    Calls Try.prog 6 #[.int .i64 i, .int .i64 n] w fun e w' => e = .returned (.int .i64 (chs i n : Nat)) ∧ w = w' := by
  by_cases h : i < 0
  · have hc : ((chs i n : Nat) : Int) = (-(i + 1)) % (n : Int) := by
      unfold chs; rw [if_pos h, Int.toNat_of_nonneg (Int.emod_nonneg _ (by omega))]
    have HC := Lib.hid hc
    clear hc
    go_enter Try.func6, Try.ntmps6
    go_wp2
    go_ret
    refine ⟨ret_int ?_, rfl⟩
    rw [HC.out, ← Int.neg_tmod, Int.tmod_eq_emod_of_nonneg (by omega)]
  · have hc : ((chs i n : Nat) : Int) = i % (n : Int) := by
      unfold chs; rw [if_neg h, Int.toNat_of_nonneg (Int.emod_nonneg _ (by omega))]
    have HC := Lib.hid hc
    clear hc
    go_enter Try.func6, Try.ntmps6
    go_wp2
    go_ret
    exact ⟨ret_int HC.out.symm, rfl⟩


end Go.Proofs.Ytlegnbigddhmlaa
