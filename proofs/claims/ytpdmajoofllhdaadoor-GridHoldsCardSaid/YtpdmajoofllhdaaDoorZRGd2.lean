/- references: OfRatio, parts. -/
import Derived.Test.YtpdmajoofllhdaaDoorZRGd1
import Derived.Test.YtpdmajoofllhdaaDoorZRef10
import Derived.Test.YtpdmajoofllhdaaDoorZR
namespace Go.Proofs.YtpdmajoofllhdaaDoor
open Go.RowKit Go.Slip

def GivesQ (w : World) (g : Bool) (x y : Nat) (e : Int) (en : Ending) (w' : World) : Prop :=
  ∃ p c q d, en = .returned (.agg #[.bool g, .slice p (dig B16 x).length c, .slice q (dig B16 y).length d, .int .i64 e]) ∧ Rd w' .i64 p (dig B16 x) ∧ (0 < (dig B16 x).length → w.heap.size ≤ blk p) ∧ Rd w' .i64 q (dig B16 y) ∧ (0 < (dig B16 y).length → w.heap.size ≤ blk q) ∧ Below w.heap.size w w'

theorem up_len16 (a N n : Nat) (h : (dig B16 a).length ≤ n) : (dig B16 (a * 2 ^ N)).length ≤ n + (N / 16 + 1) := by
  refine Nat.le_trans (dig_len_mul B16_two a (2 ^ N)) ?_
  rw [dig_len_pow2]; omega
theorem numP_len16 {a : Nat} {n : Int} (h : (dig B16 a).length ≤ 2000000) (hn : -10000000 ≤ n ∧ n ≤ 10000000) : (dig B16 (numP a n)).length ≤ 2700000 := by
  have := up_len16 a n.toNat _ h; unfold numP; omega
theorem denP_len16 {a : Nat} {n : Int} (h : (dig B16 a).length ≤ 2000000) (hn : -10000000 ≤ n ∧ n ≤ 10000000) : (dig B16 (denP a n)).length ≤ 2700000 := by
  have := up_len16 a (-n).toNat _ h; unfold denP; omega

/-- Quotient, rest, and over what: digits to the base of 65536. -/
def GivesR3 (w : World) (q0 : Option Addr) (x y z : Nat) (en : Ending) (w' : World) : Prop :=
  ∃ p c q d r f, en = .returned (.tuple #[.slice p (dig B16 x).length c, .slice q (dig B16 y).length d, .slice r (dig B16 z).length f]) ∧ Rd w' .i64 p (dig B16 x) ∧ (0 < (dig B16 x).length → w.heap.size ≤ blk p) ∧
    Rd w' .i64 q (dig B16 y) ∧ (0 < (dig B16 y).length → w.heap.size ≤ blk q) ∧ Rd w' .i64 r (dig B16 z) ∧ (r = q0 ∨ (0 < (dig B16 z).length → w.heap.size ≤ blk r)) ∧ Below w.heap.size w w'

end Go.Proofs.YtpdmajoofllhdaaDoor
