/- grid: scaled. -/
import Derived.Test.YtpdmajoofllhdaaDoorZGd1
import Derived.Test.YtpdmajoofllhdaaDoorZLimb13
import Derived.Test.YtpdmajoofllhdaaDoorZC
import Derived.Test.YtpdmajoofllhdaaDoorZLimb6
namespace Go.Proofs.YtpdmajoofllhdaaDoor
open Go.RowKit Go.Slip

theorem len_shl' (a N n : Nat) (h : (dig B32 a).length ≤ n) : (dig B32 (a * 2 ^ N)).length ≤ n + (N / 32 + 1) := Nat.le_trans (len_shl a N) (by omega)
theorem numP_len {a : Nat} {n : Int} (h : (dig B32 a).length ≤ 1000000) (hn : -10000000 ≤ n ∧ n ≤ 10000000) : (dig B32 (numP a n)).length ≤ 1400000 := by
  have := len_shl' a n.toNat _ h; unfold numP; omega
theorem denP_len {a : Nat} {n : Int} (h : (dig B32 a).length ≤ 1000000) (hn : -10000000 ≤ n ∧ n ≤ 10000000) : (dig B32 (denP a n)).length ≤ 1400000 := by
  have := len_shl' a (-n).toNat _ h; unfold denP; omega

theorem gof_one (w : World) : Calls Tryd.prog 70 #[.int .i64 1] w (Gives w .u32 59 (dig B32 1)) := of_any 1 w (by omega)

/-- Quotient, rest, and over what. -/
def Gives3 (w : World) (q0 : Option Addr) (x y z : Nat) (en : Ending) (w' : World) : Prop :=
  ∃ p c q d r f, en = .returned (.tuple #[.slice p (dig B32 x).length c, .slice q (dig B32 y).length d, .slice r (dig B32 z).length f]) ∧ Own w' w.heap.size .u32 59 p c (dig B32 x) ∧ Own w' w.heap.size .u32 59 q d (dig B32 y) ∧ Rd w' .u32 r (dig B32 z) ∧ (r = q0 ∨ (0 < (dig B32 z).length → w.heap.size ≤ blk r)) ∧ Below w.heap.size w w'

set_option maxHeartbeats 1000000 in
theorem scaled_any (p q : Option Addr) (m k c d : Nat) (a b : Nat) (n : Int) (w : World) (hp : Rd w .u32 p (dig B32 a)) (hq : Rd w .u32 q (dig B32 b)) (hm : m = (dig B32 a).length) (hk : k = (dig B32 b).length)
    (hl : (dig B32 a).length ≤ 1000000) (hl2 : (dig B32 b).length ≤ 1000000) (hb : 0 < b) (hn : -10000000 ≤ n ∧ n ≤ 10000000) :
    Calls Tryd.prog 75 #[.slice p m c, .slice q k d, .int .i64 n] w (Gives3 w q (qP a b n) (rP a b n) (denP b n)) := by
  subst hm hk
  have l1 := numP_len hl hn
  have l2 := denP_len hl2 hn
  have h0 := denP_pos hb n
  unfold qP rP
  by_cases h : 0 ≤ n
  · obtain ⟨N, rfl⟩ : ∃ N : Nat, n = N := ⟨n.toNat, by omega⟩
    have e1 : denP b (N : Int) = b := by unfold denP; rw [show (-(N : Int)).toNat = 0 by omega, Nat.pow_zero, Nat.mul_one]
    have HN := Lib.hid (show numP a (N : Int) = a * 2 ^ N by unfold numP; rw [Int.toNat_natCast])
    rw [e1] at l2 h0 ⊢
    clear e1
    generalize numP a (N : Int) = x at *
    go_enter Tryd.func75, Tryd.ntmps75
    go_wp2_with fail
    ((with_reducible refine (shl_any p _ c a N _ hp rfl (by omega) (by omega)).mono ?_))
    rintro e1 w1 ⟨p1, c1, rfl, ho1, hb1⟩
    replace hp := hp.past hb1
    replace hq := hq.past hb1
    have hs1 := hb1
    rw [← HN.out] at ho1 ⊢
    go_wp2_with fail
    ((with_reducible refine (limbDiv_any p1 q _ _ c1 d x b _ ho1.rd hq rfl rfl (by omega) (by omega) h0).mono ?_))
    rintro e2 w2 ⟨p2, c2, q2, d2, rfl, ho2, ho3, hb2, -⟩
    replace hp := hp.past hb2
    replace hq := hq.past hb2
    replace ho1 := ho1.past hb2
    have hs2 := hs1.trans (hb2.mono hs1.size)
    go_wp2_with fail
    refine bodyPost_ret (v := .tuple #[.slice p2 (dig B32 (x / b)).length c2, .slice q2 (dig B32 (x % b)).length d2, .slice q (dig B32 b).length d]) (by simp [results, Tryd.results75, go_sem]) rfl ?_
    exact ⟨p2, c2, q2, d2, q, d, rfl, ho2.mono hs1.size, ho3.mono hs1.size, hq, .inl rfl, hs2⟩
  · obtain ⟨N, rfl⟩ : ∃ N : Nat, n = -(N : Int) := ⟨(-n).toNat, by omega⟩
    have e1 : numP a (-(N : Int)) = a := by unfold numP; rw [show (-(N : Int)).toNat = 0 by omega, Nat.pow_zero, Nat.mul_one]
    have HN := Lib.hid (show denP b (-(N : Int)) = b * 2 ^ N by unfold denP; rw [show (-(-(N : Int))).toNat = N by omega])
    rw [e1] at l1 ⊢
    clear e1
    generalize denP b (-(N : Int)) = x at *
    go_enter Tryd.func75, Tryd.ntmps75
    go_wp2_with fail
    ((with_reducible refine (shl_any q _ d b N _ hq rfl (by omega) (by omega)).mono ?_))
    rintro e1 w1 ⟨p1, c1, rfl, ho1, hb1⟩
    replace hp := hp.past hb1
    replace hq := hq.past hb1
    have hs1 := hb1
    rw [← HN.out] at ho1 ⊢
    go_wp2_with fail
    ((with_reducible refine (limbDiv_any p p1 _ _ c c1 a x _ hp ho1.rd rfl rfl (by omega) (by omega) h0).mono ?_))
    rintro e2 w2 ⟨p2, c2, q2, d2, rfl, ho2, ho3, hb2, -⟩
    replace hp := hp.past hb2
    replace hq := hq.past hb2
    replace ho1 := ho1.past hb2
    have hs2 := hs1.trans (hb2.mono hs1.size)
    go_wp2_with fail
    refine bodyPost_ret (v := .tuple #[.slice p2 (dig B32 (a / x)).length c2, .slice q2 (dig B32 (a % x)).length d2, .slice p1 (dig B32 x).length c1]) (by simp [results, Tryd.results75, go_sem]) rfl ?_
    exact ⟨p2, c2, q2, d2, p1, c1, rfl, ho2.mono hs1.size, ho3.mono hs1.size, ho1.rd, .inr fun h => (ho1.blk_lt (ho1.rd.solid h).1).1, hs2⟩

end Go.Proofs.YtpdmajoofllhdaaDoor
