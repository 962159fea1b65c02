/- grid: within, width, floor, Check. -/
import Derived.Test.YtpdmajoofllhdaaDoorZB
import Derived.Test.YtpdmajoofllhdaaDoorZA
namespace Go.Proofs.YtpdmajoofllhdaaDoor
open Go.RowKit Go.Slip

/-- Is n no further than m from 0? -/
def wiB (n m : Int) : Bool := decide (-m ≤ n) && decide (n ≤ m)
theorem wiB_true {n m : Int} (h1 : -m ≤ n) (h2 : n ≤ m) : wiB n m = true := by unfold wiB; simp [h1, h2]
theorem wiB_false {n m : Int} (h : n < -m ∨ m < n) : wiB n m = false := by
  unfold wiB
  rcases h with h | h
  · rw [decide_eq_false (by omega)]; rfl
  · rw [decide_eq_false (p := n ≤ m) (by omega)]; simp

set_option maxHeartbeats 1000000 in
theorem within_any (n m : Int) (w : World) (hm : -1000000000 ≤ m ∧ m ≤ 1000000000) :
    Calls Tryd.prog 34 #[.int .i64 n, .int .i64 m] w fun e w' => e = .returned (.bool (wiB n m)) ∧ w = w' := by
  obtain ⟨hm1, hm2⟩ := hm
  by_cases h1 : -m ≤ n
  · by_cases h2 : n ≤ m
    · rw [wiB_true h1 h2]
      go_enter Tryd.func34, Tryd.ntmps34
      go_wp2
      go_ret
      exact ⟨rfl, rfl⟩
    · rw [wiB_false (by omega)]
      go_enter Tryd.func34, Tryd.ntmps34
      go_wp2
      go_ret
      exact ⟨rfl, rfl⟩
  · rw [wiB_false (by omega)]
    go_enter Tryd.func34, Tryd.ntmps34
    go_wp2
    go_ret
    exact ⟨rfl, rfl⟩

set_option maxHeartbeats 1000000 in
theorem width_any (g : Gd) (w : World) :
    Calls Tryd.prog 36 #[.agg #[.int .i64 g.rad, .int .i64 g.digs, .int .i64 g.lo, .int .i64 g.hi, .bool g.grad]] w fun e w' => e = .returned (.int .i64 (wid g : Nat)) ∧ Below w.heap.size w w' := by
  obtain ⟨rad, digs, lo, hi, grad⟩ := g
  simp only
  unfold wid
  simp only
  have hb : Below w.heap.size w (w.alloc (.cells #[.int .i64 rad, .int .i64 digs, .int .i64 lo, .int .i64 hi, .bool grad] 27)) := below_lay1 _ _
  by_cases h : rad = 16
  · subst h
    go_enter Tryd.func36, Tryd.ntmps36
    go_wp2
    go_ret
    exact ⟨by simp, hb⟩
  · have h1 : (rad == 16) = false := beq_eq_false_iff_ne.2 h
    rw [if_neg h]
    clear h
    go_enter Tryd.func36, Tryd.ntmps36
    go_wp2
    go_ret
    exact ⟨rfl, hb⟩

theorem floor_ediv {n : Int} {d : Nat} (hd : 1 ≤ d) (h : n < 0) : -(((d : Int) - 1 - n) / d) = n / d := by
  have h1 := ediv_bd n d hd
  have h2 := ediv_bd ((d : Int) - 1 - n) d hd
  have hp : (0 : Int) < d := by omega
  generalize n / (d : Int) = x at *
  generalize ((d : Int) - 1 - n) / (d : Int) = y at *
  have h3 : (d : Int) * (x + y) < d := by rw [Int.mul_add]; omega
  have h4 : (d : Int) * (-1) < d * (x + y) := by rw [Int.mul_add]; omega
  have h5 := Int.lt_of_mul_lt_mul_left h4 (by omega)
  have h6 : (d : Int) * (x + y) < d * 1 := by omega
  have h7 := Int.lt_of_mul_lt_mul_left h6 (by omega)
  omega

set_option maxHeartbeats 1000000 in
theorem gfloor_any (n : Int) (d : Nat) (w : World) (hn : -1000000000 ≤ n ∧ n ≤ 1000000000) (hd : 1 ≤ d) (hd2 : d ≤ 1000) :
    Calls Tryd.prog 74 #[.int .i64 n, .int .i64 d] w fun e w' => e = .returned (.int .i64 (n / (d : Int))) ∧ w = w' := by
  obtain ⟨hn1, hn2⟩ := hn
  have t1 : ((d : Int) == 0) = false := beq_eq_false_iff_ne.2 (by omega)
  by_cases h : n < 0
  · have hq := Int.ediv_le_self (a := (d : Int) - 1 - n) (d : Int) (by omega)
    have hq0 := Int.ediv_nonneg (a := (d : Int) - 1 - n) (b := (d : Int)) (by omega) (by omega)
    rw [← floor_ediv hd h]
    go_enter Tryd.func74, Tryd.ntmps74
    go_wp2
    go_ret
    exact ⟨rfl, rfl⟩
  · have hq := Int.ediv_le_self (a := n) (d : Int) (by omega)
    have hq0 := Int.ediv_nonneg (a := n) (b := (d : Int)) (by omega) (by omega)
    go_enter Tryd.func74, Tryd.ntmps74
    go_wp2
    go_ret
    exact ⟨rfl, rfl⟩


set_option maxHeartbeats 4000000 in
set_option maxRecDepth 100000 in
theorem gridCheck_any (g : Gd) (w : World) :
    Calls Tryd.prog 33 #[.agg #[.int .i64 g.rad, .int .i64 g.digs, .int .i64 g.lo, .int .i64 g.hi, .bool g.grad]] w fun e w' => e = .returned (.int .i64 (errG g)) ∧ Below w.heap.size w w' := by
  obtain ⟨rad, digs, lo, hi, grad⟩ := g
  unfold errG farG most
  simp only
  have hb : Below w.heap.size w (w.alloc (.cells #[.int .i64 rad, .int .i64 digs, .int .i64 lo, .int .i64 hi, .bool grad] 27)) := below_lay1 _ _
  by_cases hr2 : rad = 2
  · subst hr2
    rw [if_neg (by omega)]
    simp only [show ¬ ((2 : Int) = 16) by omega, if_false]
    by_cases h1 : digs < 1
    · rw [if_pos (by omega)]
      go_enter Tryd.func33, Tryd.ntmps33
      go_wp2
      go_ret
      exact ⟨rfl, hb⟩
    · by_cases h2 : 120 < digs
      · rw [if_pos (by omega)]
        go_enter Tryd.func33, Tryd.ntmps33
        go_wp2
        go_ret
        exact ⟨rfl, hb⟩
      · by_cases h3 : lo < -17000 ∨ 17000 < lo
        · rw [if_pos (by omega)]
          have t3 := wiB_false h3
          clear h3
          go_enter Tryd.func33, Tryd.ntmps33
          go_wp2_with (go_at_call 34; refine (within_any _ _ _ (by omega)).mono ?_; rintro _ _ ⟨rfl, rfl⟩)
          go_ret
          exact ⟨rfl, hb⟩
        · have t3 := wiB_true (n := lo) (m := 17000) (by omega) (by omega)
          by_cases h4 : hi < -17000 ∨ 17000 < hi
          · rw [if_pos (by omega)]
            have t4 := wiB_false h4
            clear h3 h4
            go_enter Tryd.func33, Tryd.ntmps33
            go_wp2_with (go_at_call 34; refine (within_any _ _ _ (by omega)).mono ?_; rintro _ _ ⟨rfl, rfl⟩)
            go_ret
            exact ⟨rfl, hb⟩
          · have t4 := wiB_true (n := hi) (m := 17000) (by omega) (by omega)
            by_cases h5 : hi < lo
            · rw [if_pos (by omega)]
              clear h3 h4
              go_enter Tryd.func33, Tryd.ntmps33
              go_wp2_with (go_at_call 34; refine (within_any _ _ _ (by omega)).mono ?_; rintro _ _ ⟨rfl, rfl⟩)
              go_ret
              exact ⟨rfl, hb⟩
            · rw [if_neg (by omega)]
              clear h3 h4
              go_enter Tryd.func33, Tryd.ntmps33
              go_wp2_with (go_at_call 34; refine (within_any _ _ _ (by omega)).mono ?_; rintro _ _ ⟨rfl, rfl⟩)
              go_ret
              exact ⟨rfl, hb⟩
  · have u2 : (rad == 2) = false := beq_eq_false_iff_ne.2 hr2
    have u2' : (rad != 2) = true := by rw [bne, u2]; rfl
    by_cases hr16 : rad = 16
    · subst hr16
      rw [if_neg (by omega)]
      simp only [if_true]
      by_cases h1 : digs < 1
      · rw [if_pos (by omega)]
        go_enter Tryd.func33, Tryd.ntmps33
        go_wp2
        go_ret
        exact ⟨rfl, hb⟩
      · by_cases h2 : 120 < digs
        · rw [if_pos (by omega)]
          go_enter Tryd.func33, Tryd.ntmps33
          go_wp2
          go_ret
          exact ⟨rfl, hb⟩
        · by_cases h3 : lo < -4000 ∨ 4000 < lo
          · rw [if_pos (by omega)]
            have t3 := wiB_false h3
            clear h3
            go_enter Tryd.func33, Tryd.ntmps33
            go_wp2_with (go_at_call 34; refine (within_any _ _ _ (by omega)).mono ?_; rintro _ _ ⟨rfl, rfl⟩)
            go_ret
            exact ⟨rfl, hb⟩
          · have t3 := wiB_true (n := lo) (m := 4000) (by omega) (by omega)
            by_cases h4 : hi < -4000 ∨ 4000 < hi
            · rw [if_pos (by omega)]
              have t4 := wiB_false h4
              clear h3 h4
              go_enter Tryd.func33, Tryd.ntmps33
              go_wp2_with (go_at_call 34; refine (within_any _ _ _ (by omega)).mono ?_; rintro _ _ ⟨rfl, rfl⟩)
              go_ret
              exact ⟨rfl, hb⟩
            · have t4 := wiB_true (n := hi) (m := 4000) (by omega) (by omega)
              by_cases h5 : hi < lo
              · rw [if_pos (by omega)]
                clear h3 h4
                go_enter Tryd.func33, Tryd.ntmps33
                go_wp2_with (go_at_call 34; refine (within_any _ _ _ (by omega)).mono ?_; rintro _ _ ⟨rfl, rfl⟩)
                go_ret
                exact ⟨rfl, hb⟩
              · rw [if_neg (by omega)]
                clear h3 h4
                go_enter Tryd.func33, Tryd.ntmps33
                go_wp2_with (go_at_call 34; refine (within_any _ _ _ (by omega)).mono ?_; rintro _ _ ⟨rfl, rfl⟩)
                go_ret
                exact ⟨rfl, hb⟩
    · have u16 : (rad == 16) = false := beq_eq_false_iff_ne.2 hr16
      have u16' : (rad != 16) = true := by rw [bne, u16]; rfl
      rw [if_pos ⟨hr2, hr16⟩]
      clear hr2 hr16
      go_enter Tryd.func33, Tryd.ntmps33
      go_wp2
      go_ret
      exact ⟨rfl, hb⟩

end Go.Proofs.YtpdmajoofllhdaaDoor
