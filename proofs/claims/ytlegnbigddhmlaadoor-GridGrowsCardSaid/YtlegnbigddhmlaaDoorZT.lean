/- grid: within, width, floor, Check.
   grid: scaled.
   grid: the map of ways.
   grid: the ways to round. -/
import Derived.Test.YtlegnbigddhmlaaDoorZB
import Derived.Test.YtlegnbigddhmlaaDoorZA
import Derived.Test.YtlegnbigddhmlaaDoorZLimb13
import Derived.Test.YtlegnbigddhmlaaDoorZC
import Derived.Test.YtlegnbigddhmlaaDoorZLimb6
import Derived.Outline
namespace Go.Proofs.YtlegnbigddhmlaaDoor
open Go.RowKit Go.Slip

/-- Is n no further than m from 0? -/
def wiB (n m : Int) : Bool := decide (-m ≤ n) && decide (n ≤ m)
theorem wiB_true {n m : Int} (h1 : -m ≤ n) (h2 : n ≤ m) : wiB n m = true := by unfold wiB; simp [h1, h2]
theorem wiB_false {n m : Int} (h : n < -m ∨ m < n) : wiB n m = false := by
  unfold wiB
  rcases h with h | h
  · rw [decide_eq_false (by omega)]; rfl
  · rw [decide_eq_false (p := n ≤ m) (by omega)]; simp

set_option maxHeartbeats 1000000 in
theorem within_any (n m : Int) (w : World) (hm : -1000000000 ≤ m ∧ m ≤ 1000000000) :
    Calls Tryd.prog 46 #[.int .i64 n, .int .i64 m] w fun e w' => e = .returned (.bool (wiB n m)) ∧ w = w' := by
  obtain ⟨hm1, hm2⟩ := hm
  by_cases h1 : -m ≤ n
  · by_cases h2 : n ≤ m
    · rw [wiB_true h1 h2]
      go_enter Tryd.func46, Tryd.ntmps46
      go_wp2
      go_ret
      exact ⟨rfl, rfl⟩
    · rw [wiB_false (by omega)]
      go_enter Tryd.func46, Tryd.ntmps46
      go_wp2
      go_ret
      exact ⟨rfl, rfl⟩
  · rw [wiB_false (by omega)]
    go_enter Tryd.func46, Tryd.ntmps46
    go_wp2
    go_ret
    exact ⟨rfl, rfl⟩

set_option maxHeartbeats 1000000 in
theorem width_any (g : Gd) (w : World) :
    Calls Tryd.prog 51 #[.agg #[.int .i64 g.rad, .int .i64 g.digs, .int .i64 g.lo, .int .i64 g.hi, .bool g.grad]] w fun e w' => e = .returned (.int .i64 (wid g : Nat)) ∧ Below w.heap.size w w' := by
  obtain ⟨rad, digs, lo, hi, grad⟩ := g
  simp only
  unfold wid
  simp only
  have hb : Below w.heap.size w (w.alloc (.cells #[.int .i64 rad, .int .i64 digs, .int .i64 lo, .int .i64 hi, .bool grad] 27)) := below_lay1 _ _
  by_cases h : rad = 16
  · subst h
    go_enter Tryd.func51, Tryd.ntmps51
    go_wp2
    go_ret
    exact ⟨by simp, hb⟩
  · have h1 : (rad == 16) = false := beq_eq_false_iff_ne.2 h
    rw [if_neg h]
    clear h
    go_enter Tryd.func51, Tryd.ntmps51
    go_wp2
    go_ret
    exact ⟨rfl, hb⟩

theorem floor_ediv {n : Int} {d : Nat} (hd : 1 ≤ d) (h : n < 0) : -(((d : Int) - 1 - n) / d) = n / d := by
  have h1 := ediv_bd n d hd
  have h2 := ediv_bd ((d : Int) - 1 - n) d hd
  have hp : (0 : Int) < d := by omega
  generalize n / (d : Int) = x at *
  generalize ((d : Int) - 1 - n) / (d : Int) = y at *
  have h3 : (d : Int) * (x + y) < d := by rw [Int.mul_add]; omega
  have h4 : (d : Int) * (-1) < d * (x + y) := by rw [Int.mul_add]; omega
  have h5 := Int.lt_of_mul_lt_mul_left h4 (by omega)
  have h6 : (d : Int) * (x + y) < d * 1 := by omega
  have h7 := Int.lt_of_mul_lt_mul_left h6 (by omega)
  omega

set_option maxHeartbeats 1000000 in
theorem gfloor_any (n : Int) (d : Nat) (w : World) (hn : -1000000000 ≤ n ∧ n ≤ 1000000000) (hd : 1 ≤ d) (hd2 : d ≤ 1000) :
    Calls Tryd.prog 72 #[.int .i64 n, .int .i64 d] w fun e w' => e = .returned (.int .i64 (n / (d : Int))) ∧ w = w' := by
  obtain ⟨hn1, hn2⟩ := hn
  have t1 : ((d : Int) == 0) = false := beq_eq_false_iff_ne.2 (by omega)
  by_cases h : n < 0
  · have hq := Int.ediv_le_self (a := (d : Int) - 1 - n) (d : Int) (by omega)
    have hq0 := Int.ediv_nonneg (a := (d : Int) - 1 - n) (b := (d : Int)) (by omega) (by omega)
    rw [← floor_ediv hd h]
    go_enter Tryd.func72, Tryd.ntmps72
    go_wp2
    go_ret
    exact ⟨rfl, rfl⟩
  · have hq := Int.ediv_le_self (a := n) (d : Int) (by omega)
    have hq0 := Int.ediv_nonneg (a := n) (b := (d : Int)) (by omega) (by omega)
    go_enter Tryd.func72, Tryd.ntmps72
    go_wp2
    go_ret
    exact ⟨rfl, rfl⟩


set_option maxHeartbeats 4000000 in
set_option maxRecDepth 100000 in
theorem gridCheck_any (g : Gd) (w : World) :
    Calls Tryd.prog 47 #[.agg #[.int .i64 g.rad, .int .i64 g.digs, .int .i64 g.lo, .int .i64 g.hi, .bool g.grad]] w fun e w' => e = .returned (.int .i64 (errG g)) ∧ Below w.heap.size w w' := by
  obtain ⟨rad, digs, lo, hi, grad⟩ := g
  unfold errG farG most
  simp only
  have hb : Below w.heap.size w (w.alloc (.cells #[.int .i64 rad, .int .i64 digs, .int .i64 lo, .int .i64 hi, .bool grad] 27)) := below_lay1 _ _
  by_cases hr2 : rad = 2
  · subst hr2
    rw [if_neg (by omega)]
    simp only [show ¬ ((2 : Int) = 16) by omega, if_false]
    by_cases h1 : digs < 1
    · rw [if_pos (by omega)]
      go_enter Tryd.func47, Tryd.ntmps47
      go_wp2
      go_ret
      exact ⟨rfl, hb⟩
    · by_cases h2 : 120 < digs
      · rw [if_pos (by omega)]
        go_enter Tryd.func47, Tryd.ntmps47
        go_wp2
        go_ret
        exact ⟨rfl, hb⟩
      · by_cases h3 : lo < -17000 ∨ 17000 < lo
        · rw [if_pos (by omega)]
          have t3 := wiB_false h3
          clear h3
          go_enter Tryd.func47, Tryd.ntmps47
          go_wp2_with (go_at_call 46; refine (within_any _ _ _ (by omega)).mono ?_; rintro _ _ ⟨rfl, rfl⟩)
          go_ret
          exact ⟨rfl, hb⟩
        · have t3 := wiB_true (n := lo) (m := 17000) (by omega) (by omega)
          by_cases h4 : hi < -17000 ∨ 17000 < hi
          · rw [if_pos (by omega)]
            have t4 := wiB_false h4
            clear h3 h4
            go_enter Tryd.func47, Tryd.ntmps47
            go_wp2_with (go_at_call 46; refine (within_any _ _ _ (by omega)).mono ?_; rintro _ _ ⟨rfl, rfl⟩)
            go_ret
            exact ⟨rfl, hb⟩
          · have t4 := wiB_true (n := hi) (m := 17000) (by omega) (by omega)
            by_cases h5 : hi < lo
            · rw [if_pos (by omega)]
              clear h3 h4
              go_enter Tryd.func47, Tryd.ntmps47
              go_wp2_with (go_at_call 46; refine (within_any _ _ _ (by omega)).mono ?_; rintro _ _ ⟨rfl, rfl⟩)
              go_ret
              exact ⟨rfl, hb⟩
            · rw [if_neg (by omega)]
              clear h3 h4
              go_enter Tryd.func47, Tryd.ntmps47
              go_wp2_with (go_at_call 46; refine (within_any _ _ _ (by omega)).mono ?_; rintro _ _ ⟨rfl, rfl⟩)
              go_ret
              exact ⟨rfl, hb⟩
  · have u2 : (rad == 2) = false := beq_eq_false_iff_ne.2 hr2
    have u2' : (rad != 2) = true := by rw [bne, u2]; rfl
    by_cases hr16 : rad = 16
    · subst hr16
      rw [if_neg (by omega)]
      simp only [if_true]
      by_cases h1 : digs < 1
      · rw [if_pos (by omega)]
        go_enter Tryd.func47, Tryd.ntmps47
        go_wp2
        go_ret
        exact ⟨rfl, hb⟩
      · by_cases h2 : 120 < digs
        · rw [if_pos (by omega)]
          go_enter Tryd.func47, Tryd.ntmps47
          go_wp2
          go_ret
          exact ⟨rfl, hb⟩
        · by_cases h3 : lo < -4000 ∨ 4000 < lo
          · rw [if_pos (by omega)]
            have t3 := wiB_false h3
            clear h3
            go_enter Tryd.func47, Tryd.ntmps47
            go_wp2_with (go_at_call 46; refine (within_any _ _ _ (by omega)).mono ?_; rintro _ _ ⟨rfl, rfl⟩)
            go_ret
            exact ⟨rfl, hb⟩
          · have t3 := wiB_true (n := lo) (m := 4000) (by omega) (by omega)
            by_cases h4 : hi < -4000 ∨ 4000 < hi
            · rw [if_pos (by omega)]
              have t4 := wiB_false h4
              clear h3 h4
              go_enter Tryd.func47, Tryd.ntmps47
              go_wp2_with (go_at_call 46; refine (within_any _ _ _ (by omega)).mono ?_; rintro _ _ ⟨rfl, rfl⟩)
              go_ret
              exact ⟨rfl, hb⟩
            · have t4 := wiB_true (n := hi) (m := 4000) (by omega) (by omega)
              by_cases h5 : hi < lo
              · rw [if_pos (by omega)]
                clear h3 h4
                go_enter Tryd.func47, Tryd.ntmps47
                go_wp2_with (go_at_call 46; refine (within_any _ _ _ (by omega)).mono ?_; rintro _ _ ⟨rfl, rfl⟩)
                go_ret
                exact ⟨rfl, hb⟩
              · rw [if_neg (by omega)]
                clear h3 h4
                go_enter Tryd.func47, Tryd.ntmps47
                go_wp2_with (go_at_call 46; refine (within_any _ _ _ (by omega)).mono ?_; rintro _ _ ⟨rfl, rfl⟩)
                go_ret
                exact ⟨rfl, hb⟩
    · have u16 : (rad == 16) = false := beq_eq_false_iff_ne.2 hr16
      have u16' : (rad != 16) = true := by rw [bne, u16]; rfl
      rw [if_pos ⟨hr2, hr16⟩]
      clear hr2 hr16
      go_enter Tryd.func47, Tryd.ntmps47
      go_wp2
      go_ret
      exact ⟨rfl, hb⟩

end Go.Proofs.YtlegnbigddhmlaaDoor

namespace Go.Proofs.YtlegnbigddhmlaaDoor
open Go.RowKit Go.Slip

theorem len_shl' (a N n : Nat) (h : (dig B32 a).length ≤ n) : (dig B32 (a * 2 ^ N)).length ≤ n + (N / 32 + 1) := Nat.le_trans (len_shl a N) (by omega)
theorem numP_len {a : Nat} {n : Int} (h : (dig B32 a).length ≤ 1000000) (hn : -10000000 ≤ n ∧ n ≤ 10000000) : (dig B32 (numP a n)).length ≤ 1400000 := by
  have := len_shl' a n.toNat _ h; unfold numP; omega
theorem denP_len {a : Nat} {n : Int} (h : (dig B32 a).length ≤ 1000000) (hn : -10000000 ≤ n ∧ n ≤ 10000000) : (dig B32 (denP a n)).length ≤ 1400000 := by
  have := len_shl' a (-n).toNat _ h; unfold denP; omega

theorem gof_one (w : World) : Calls Tryd.prog 64 #[.int .i64 1] w (Gives w .u32 46 (dig B32 1)) := of_any 1 w (by omega)

/-- Quotient, rest, and over what. -/
def Gives3 (w : World) (q0 : Option Addr) (x y z : Nat) (en : Ending) (w' : World) : Prop :=
  ∃ p c q d r f, en = .returned (.tuple #[.slice p (dig B32 x).length c, .slice q (dig B32 y).length d, .slice r (dig B32 z).length f]) ∧ Own w' w.heap.size .u32 46 p c (dig B32 x) ∧ Own w' w.heap.size .u32 46 q d (dig B32 y) ∧ Rd w' .u32 r (dig B32 z) ∧ (r = q0 ∨ (0 < (dig B32 z).length → w.heap.size ≤ blk r)) ∧ Below w.heap.size w w'

set_option maxHeartbeats 1000000 in
theorem scaled_any (p q : Option Addr) (m k c d : Nat) (a b : Nat) (n : Int) (w : World) (hp : Rd w .u32 p (dig B32 a)) (hq : Rd w .u32 q (dig B32 b)) (hm : m = (dig B32 a).length) (hk : k = (dig B32 b).length)
    (hl : (dig B32 a).length ≤ 1000000) (hl2 : (dig B32 b).length ≤ 1000000) (hb : 0 < b) (hn : -10000000 ≤ n ∧ n ≤ 10000000) :
    Calls Tryd.prog 73 #[.slice p m c, .slice q k d, .int .i64 n] w (Gives3 w q (qP a b n) (rP a b n) (denP b n)) := by
  subst hm hk
  have l1 := numP_len hl hn
  have l2 := denP_len hl2 hn
  have h0 := denP_pos hb n
  unfold qP rP
  by_cases h : 0 ≤ n
  · obtain ⟨N, rfl⟩ : ∃ N : Nat, n = N := ⟨n.toNat, by omega⟩
    have e1 : denP b (N : Int) = b := by unfold denP; rw [show (-(N : Int)).toNat = 0 by omega, Nat.pow_zero, Nat.mul_one]
    have HN := Lib.hid (show numP a (N : Int) = a * 2 ^ N by unfold numP; rw [Int.toNat_natCast])
    rw [e1] at l2 h0 ⊢
    clear e1
    generalize numP a (N : Int) = x at *
    go_enter Tryd.func73, Tryd.ntmps73
    go_wp2_with fail
    ((with_reducible refine (shl_any p _ c a N _ hp rfl (by omega) (by omega)).mono ?_))
    rintro e1 w1 ⟨p1, c1, rfl, ho1, hb1⟩
    replace hp := hp.past hb1
    replace hq := hq.past hb1
    have hs1 := hb1
    rw [← HN.out] at ho1 ⊢
    go_wp2_with fail
    ((with_reducible refine (limbDiv_any p1 q _ _ c1 d x b _ ho1.rd hq rfl rfl (by omega) (by omega) h0).mono ?_))
    rintro e2 w2 ⟨p2, c2, q2, d2, rfl, ho2, ho3, hb2, -⟩
    replace hp := hp.past hb2
    replace hq := hq.past hb2
    replace ho1 := ho1.past hb2
    have hs2 := hs1.trans (hb2.mono hs1.size)
    go_wp2_with fail
    refine bodyPost_ret (v := .tuple #[.slice p2 (dig B32 (x / b)).length c2, .slice q2 (dig B32 (x % b)).length d2, .slice q (dig B32 b).length d]) (by simp [results, Tryd.results73, go_sem]) rfl ?_
    exact ⟨p2, c2, q2, d2, q, d, rfl, ho2.mono hs1.size, ho3.mono hs1.size, hq, .inl rfl, hs2⟩
  · obtain ⟨N, rfl⟩ : ∃ N : Nat, n = -(N : Int) := ⟨(-n).toNat, by omega⟩
    have e1 : numP a (-(N : Int)) = a := by unfold numP; rw [show (-(N : Int)).toNat = 0 by omega, Nat.pow_zero, Nat.mul_one]
    have HN := Lib.hid (show denP b (-(N : Int)) = b * 2 ^ N by unfold denP; rw [show (-(-(N : Int))).toNat = N by omega])
    rw [e1] at l1 ⊢
    clear e1
    generalize denP b (-(N : Int)) = x at *
    go_enter Tryd.func73, Tryd.ntmps73
    go_wp2_with fail
    ((with_reducible refine (shl_any q _ d b N _ hq rfl (by omega) (by omega)).mono ?_))
    rintro e1 w1 ⟨p1, c1, rfl, ho1, hb1⟩
    replace hp := hp.past hb1
    replace hq := hq.past hb1
    have hs1 := hb1
    rw [← HN.out] at ho1 ⊢
    go_wp2_with fail
    ((with_reducible refine (limbDiv_any p p1 _ _ c c1 a x _ hp ho1.rd rfl rfl (by omega) (by omega) h0).mono ?_))
    rintro e2 w2 ⟨p2, c2, q2, d2, rfl, ho2, ho3, hb2, -⟩
    replace hp := hp.past hb2
    replace hq := hq.past hb2
    replace ho1 := ho1.past hb2
    have hs2 := hs1.trans (hb2.mono hs1.size)
    go_wp2_with fail
    refine bodyPost_ret (v := .tuple #[.slice p2 (dig B32 (a / x)).length c2, .slice q2 (dig B32 (a % x)).length d2, .slice p1 (dig B32 x).length c1]) (by simp [results, Tryd.results73, go_sem]) rfl ?_
    exact ⟨p2, c2, q2, d2, p1, c1, rfl, ho2.mono hs1.size, ho3.mono hs1.size, ho1.rd, .inr fun h => (ho1.blk_lt (ho1.rd.solid h).1).1, hs2⟩

end Go.Proofs.YtlegnbigddhmlaaDoor

namespace Go.Proofs.YtlegnbigddhmlaaDoor
open Go.RowKit Go.Slip

/-- The map that 'ups' makes. -/
def waysMap : Array MapEntry := #[⟨.int .i64 1, .func (.func 80) #[] #[], 0⟩, ⟨.int .i64 2, .func (.func 81) #[] #[], 1⟩, ⟨.int .i64 3, .func (.func 82) #[] #[], 2⟩, ⟨.int .i64 4, .func (.func 83) #[] #[], 3⟩, ⟨.int .i64 5, .func (.func 84) #[] #[], 4⟩]

theorem tyWays : Tryd.prog.underlying 103 = some (.map 3 102) := by kernel_rfl

def Ways (w : World) (b : Nat) : Prop := w.heap[b]? = some (.map waysMap 5)
theorem Ways.past {w w' : World} {b : Nat} (h : Ways w b) (hb : Below w.heap.size w w') : Ways w' b := (hb.block b (Array.getElem?_eq_some_iff.1 h).1).trans h

set_option maxHeartbeats 1000000 in
theorem ups_any (w : World) :
    Calls Tryd.prog 70 #[] w fun e w' => e = .returned (.map (some w.heap.size)) ∧ Ways w' w.heap.size ∧ Below w.heap.size w w' := by
  have hmm := @run_makeMap Tryd.prog
  go_enter Tryd.func70, Tryd.ntmps70
  go_wp2_with (refine wpl_insert rfl _ _ _ _ rfl tyWays Tryd.underlying3 rfl rfl rfl rfl ?_)
  go_ret
  exact ⟨rfl, by show (w.heap.push _)[_]? = _; simp [waysMap], (Below.refl _ _).alloc (Nat.le_refl _) _⟩

/-- What is found in it. -/
def wayF (k : Int) : Value := if k = 1 then .func (.func 80) #[] #[] else if k = 2 then .func (.func 81) #[] #[] else if k = 3 then .func (.func 82) #[] #[]
  else if k = 4 then .func (.func 83) #[] #[] else if k = 5 then .func (.func 84) #[] #[] else .nilFunc

theorem findWay_in {k : Int} (h1 : 1 ≤ k) (h2 : k ≤ 5) : ∃ i, Instr.findNow (.int .i64) (.int .i64 k) waysMap.toList 0 = some (some (i, wayF k)) := by
  obtain rfl | rfl | rfl | rfl | rfl : k = 1 ∨ k = 2 ∨ k = 3 ∨ k = 4 ∨ k = 5 := by omega
  · exact ⟨0, rfl⟩
  · exact ⟨1, rfl⟩
  · exact ⟨2, rfl⟩
  · exact ⟨3, rfl⟩
  · exact ⟨4, rfl⟩

theorem findWay_out {k : Int} (h : k < 1 ∨ 5 < k) : Instr.findNow (.int .i64) (.int .i64 k) waysMap.toList 0 = some none := by
  have g : ∀ j : Int, 1 ≤ j → j ≤ 5 → (k == j) = false := fun j h1 h2 => beq_eq_false_iff_ne.2 (by omega)
  simp [waysMap, Instr.findNow, Instr.sameNow, g 1 (by omega) (by omega), g 2 (by omega) (by omega), g 3 (by omega) (by omega), g 4 (by omega) (by omega), g 5 (by omega) (by omega)]

theorem look_in {w : World} {b : Nat} (h : Ways w b) {k : Int} (h1 : 1 ≤ k) (h2 : k ≤ 5) :
    (Instr.lookup 103 (.map (some b)) (.int .i64 k) false).run Tryd.prog w = .ok (wayF k) w := by
  obtain ⟨i, hi⟩ := findWay_in h1 h2
  exact run_lookup_int tyWays Tryd.underlying3 h k hi

theorem look_out {w : World} {b : Nat} (h : Ways w b) {k : Int} (hk : k < 1 ∨ 5 < k) :
    (Instr.lookup 103 (.map (some b)) (.int .i64 k) false).run Tryd.prog w = .ok .nilFunc w :=
  run_lookup_none tyWays Tryd.underlying3 h k (by kernel_rfl) (findWay_out hk)

/-- Is there such a way? -/
def wayB (k : Int) : Bool := decide (1 ≤ k) && decide (k ≤ 5)
theorem wayB_true {k : Int} (h1 : 1 ≤ k) (h2 : k ≤ 5) : wayB k = true := by unfold wayB; simp [h1, h2]
theorem wayB_false {k : Int} (h : k < 1 ∨ 5 < k) : wayB k = false := by
  unfold wayB
  rcases h with h | h
  · rw [decide_eq_false (by omega)]; rfl
  · rw [decide_eq_false (p := k ≤ 5) (by omega)]; simp

set_option maxHeartbeats 1000000 in
theorem isWay_any (k : Int) (w : World) :
    Calls Tryd.prog 48 #[.int .i64 k] w fun e w' => e = .returned (.bool (wayB k)) ∧ Below w.heap.size w w' := by
  by_cases h : k < 1 ∨ 5 < k
  · rw [wayB_false h]
    have HL := fun W (hW : Ways W w.heap.size) => look_out hW h
    have HLL := Lib.hid HL
    clear HL h
    have hne : ∀ w, (binOp .neq 102 .nilFunc .nilFunc).run Tryd.prog w = .ok (.bool false) w := fun w => by kernel_rfl
    go_enter Tryd.func48, Tryd.ntmps48
    go_wp2_with fail
    ((with_reducible refine (ups_any _).mono ?_))
    rintro e1 w1 ⟨rfl, hw, hb⟩
    have hl := HLL.out w1 hw
    go_wp2
    go_ret
    exact ⟨rfl, hb⟩
  · rw [wayB_true (by omega) (by omega)]
    have HL := fun W (hW : Ways W w.heap.size) => look_in hW (k := k) (by omega) (by omega)
    have HLL := Lib.hid HL
    obtain ⟨f, hf⟩ : ∃ f, wayF k = .func (.func f) #[] #[] := by
      obtain rfl | rfl | rfl | rfl | rfl : k = 1 ∨ k = 2 ∨ k = 3 ∨ k = 4 ∨ k = 5 := by omega
      · exact ⟨_, rfl⟩
      · exact ⟨_, rfl⟩
      · exact ⟨_, rfl⟩
      · exact ⟨_, rfl⟩
      · exact ⟨_, rfl⟩
    rw [hf] at HLL
    clear HL h hf
    have hne : ∀ w, (binOp .neq 102 (.func (.func f) #[] #[]) .nilFunc).run Tryd.prog w = .ok (.bool true) w := fun w => by kernel_rfl
    go_enter Tryd.func48, Tryd.ntmps48
    go_wp2_with fail
    ((with_reducible refine (ups_any _).mono ?_))
    rintro e1 w1 ⟨rfl, hw, hb⟩
    have hl := HLL.out w1 hw
    go_wp2
    go_ret
    exact ⟨rfl, hb⟩

end Go.Proofs.YtlegnbigddhmlaaDoor

namespace Go.Proofs.YtlegnbigddhmlaaDoor
open Go.RowKit Go.Slip


set_option maxHeartbeats 400000 in
theorem ups1_any (neg odd : Bool) (half : Int) (w : World) :
    Calls Tryd.prog 80 #[.bool neg, .bool odd, .int .i64 half] w fun e w' => e = .returned (.bool (awayP 1 neg odd half)) ∧ w' = w := by
  unfold awayP
  simp only [if_true]
  by_cases h : 0 < half
  · go_enter Tryd.func80, Tryd.ntmps80
    go_wp2
    go_ret
    exact ⟨by simp [h], rfl⟩
  · by_cases h0 : half = 0
    · subst h0
      cases odd
      · go_enter Tryd.func80, Tryd.ntmps80
        go_wp2
        go_ret
        exact ⟨rfl, rfl⟩
      · go_enter Tryd.func80, Tryd.ntmps80
        go_wp2
        go_ret
        exact ⟨rfl, rfl⟩
    · have t0 : (half == 0) = false := beq_eq_false_iff_ne.2 h0
      have H := Lib.hid h0
      clear h0
      go_enter Tryd.func80, Tryd.ntmps80
      go_wp2
      go_ret
      exact ⟨by simp [H.out, show ¬ 0 < half from by omega], rfl⟩

set_option maxHeartbeats 400000 in
theorem ups2_any (neg odd : Bool) (half : Int) (w : World) :
    Calls Tryd.prog 81 #[.bool neg, .bool odd, .int .i64 half] w fun e w' => e = .returned (.bool (awayP 2 neg odd half)) ∧ w' = w := by
  have e : awayP 2 neg odd half = decide (0 ≤ half) := rfl
  rw [e]
  clear e
  by_cases h : 0 ≤ half
  · go_enter Tryd.func81, Tryd.ntmps81
    go_wp2
    go_ret
    exact ⟨by simp [h], rfl⟩
  · go_enter Tryd.func81, Tryd.ntmps81
    go_wp2
    go_ret
    exact ⟨by simp; omega, rfl⟩

set_option maxHeartbeats 400000 in
theorem ups3_any (neg odd : Bool) (half : Int) (w : World) :
    Calls Tryd.prog 82 #[.bool neg, .bool odd, .int .i64 half] w fun e w' => e = .returned (.bool (awayP 3 neg odd half)) ∧ w' = w := by
  have e : awayP 3 neg odd half = false := rfl
  rw [e]
  clear e
  go_enter Tryd.func82, Tryd.ntmps82
  go_wp2
  go_ret
  exact ⟨rfl, rfl⟩

set_option maxHeartbeats 400000 in
theorem ups4_any (neg odd : Bool) (half : Int) (w : World) :
    Calls Tryd.prog 83 #[.bool neg, .bool odd, .int .i64 half] w fun e w' => e = .returned (.bool (awayP 4 neg odd half)) ∧ w' = w := by
  have e : awayP 4 neg odd half = !neg := rfl
  rw [e]
  clear e
  go_enter Tryd.func83, Tryd.ntmps83
  go_wp2
  go_ret
  exact ⟨rfl, rfl⟩

set_option maxHeartbeats 400000 in
theorem ups5_any (neg odd : Bool) (half : Int) (w : World) :
    Calls Tryd.prog 84 #[.bool neg, .bool odd, .int .i64 half] w fun e w' => e = .returned (.bool (awayP 5 neg odd half)) ∧ w' = w := by
  have e : awayP 5 neg odd half = neg := rfl
  rw [e]
  clear e
  go_enter Tryd.func84, Tryd.ntmps84
  go_wp2
  go_ret
  exact ⟨rfl, rfl⟩

theorem wayF_spec {k : Int} (h1 : 1 ≤ k) (h2 : k ≤ 5) :
    ∃ f, wayF k = .func (.func f) #[] #[] ∧ (∀ (neg odd : Bool) (half : Int) (w : World), Calls Tryd.prog f #[.bool neg, .bool odd, .int .i64 half] w fun e w' => e = .returned (.bool (awayP k neg odd half)) ∧ w' = w) ∧ ∀ args w, (callFunc f args).run Tryd.prog w = .ok (.enter f args) w := by
  obtain rfl | rfl | rfl | rfl | rfl : k = 1 ∨ k = 2 ∨ k = 3 ∨ k = 4 ∨ k = 5 := by omega
  · exact ⟨_, rfl, ups1_any, fun _ _ => by kernel_rfl⟩
  · exact ⟨_, rfl, ups2_any, fun _ _ => by kernel_rfl⟩
  · exact ⟨_, rfl, ups3_any, fun _ _ => by kernel_rfl⟩
  · exact ⟨_, rfl, ups4_any, fun _ _ => by kernel_rfl⟩
  · exact ⟨_, rfl, ups5_any, fun _ _ => by kernel_rfl⟩

end Go.Proofs.YtlegnbigddhmlaaDoor
