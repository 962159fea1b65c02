/- references: CheckGrid, Width, Away, IsWay, CheckRatio.
   references: OfRatio, parts. -/
import Derived.Test.YtlegnbigddhmlaaDoorZGd6
import Derived.Test.YtlegnbigddhmlaaDoorZRef10
import Derived.Test.YtlegnbigddhmlaaDoorZR
namespace Go.Proofs.YtlegnbigddhmlaaDoor
open Go.RowKit Go.Slip

def farB (g : Gd) (n : Int) : Bool := decide (farG g n)
theorem farB_true {g : Gd} {n : Int} (h : farG g n) : farB g n = true := by unfold farB; exact decide_eq_true h
theorem farB_false {g : Gd} {n : Int} (h : ¬ farG g n) : farB g n = false := by unfold farB; exact decide_eq_false h

set_option maxHeartbeats 2000000 in
theorem refFar_any (g : Gd) (n : Int) (b : Nat) (w : World) (hB : Bx w b #[.int .i64 g.rad, .int .i64 g.digs, .int .i64 g.lo, .int .i64 g.hi, .bool g.grad]) :
    Calls Tryd.prog 67 #[.int .i64 n, .pointer (some ⟨b, 0, none⟩)] w fun e w' => e = .returned (.bool (farB g n)) ∧ w = w' := by
  obtain ⟨B_0, -, -, -, -⟩ := hB.e5
  obtain ⟨rad, digs, lo, hi, grad⟩ := g
  simp only at B_0
  clear hB
  by_cases h1 : n < -17000
  · rw [farB_true (by unfold farG most; simp only; split <;> omega)]
    go_enter Tryd.func67, Tryd.ntmps67
    go_wp2
    go_ret
    exact ⟨rfl, rfl⟩
  · by_cases h2 : 17000 < n
    · rw [farB_true (by unfold farG most; simp only; split <;> omega)]
      go_enter Tryd.func67, Tryd.ntmps67
      go_wp2
      go_ret
      exact ⟨rfl, rfl⟩
    · by_cases hr : rad = 16
      · subst hr
        by_cases h3 : n < -4000
        · rw [farB_true (by unfold farG most; simp; omega)]
          go_enter Tryd.func67, Tryd.ntmps67
          go_wp2
          go_ret
          exact ⟨rfl, rfl⟩
        · by_cases h4 : 4000 < n
          · rw [farB_true (by unfold farG most; simp; omega)]
            go_enter Tryd.func67, Tryd.ntmps67
            go_wp2
            go_ret
            exact ⟨rfl, rfl⟩
          · rw [farB_false (by unfold farG most; simp; omega)]
            go_enter Tryd.func67, Tryd.ntmps67
            go_wp2
            go_ret
            exact ⟨rfl, rfl⟩
      · have t1 : (rad == 16) = false := beq_eq_false_iff_ne.2 hr
        rw [farB_false (by unfold farG most; simp [hr]; omega)]
        clear hr
        go_enter Tryd.func67, Tryd.ntmps67
        go_wp2
        go_ret
        exact ⟨rfl, rfl⟩



set_option maxHeartbeats 4000000 in
set_option maxRecDepth 100000 in
theorem refCheckGrid_any (g : Gd) (w : World) :
    Calls Tryd.prog 41 #[.agg #[.int .i64 g.rad, .int .i64 g.digs, .int .i64 g.lo, .int .i64 g.hi, .bool g.grad]] w fun e w' => e = .returned (.int .i64 (errG g)) ∧ Below w.heap.size w w' := by
  obtain ⟨rad, digs, lo, hi, grad⟩ := g
  unfold errG
  simp only
  have hb : Below w.heap.size w (w.alloc (.cells #[.int .i64 rad, .int .i64 digs, .int .i64 lo, .int .i64 hi, .bool grad] 27)) := below_lay1 _ _
  by_cases hr2 : rad = 2
  · subst hr2
    rw [if_neg (by omega)]
    by_cases h1 : digs < 1
    · rw [if_pos (.inl h1)]
      go_enter Tryd.func41, Tryd.ntmps41
      go_wp2
      go_ret
      exact ⟨rfl, hb⟩
    · by_cases h2 : 120 < digs
      · rw [if_pos (.inr (.inl h2))]
        go_enter Tryd.func41, Tryd.ntmps41
        go_wp2
        go_ret
        exact ⟨rfl, hb⟩
      · by_cases h3 : farG ⟨2, digs, lo, hi, grad⟩ lo
        · rw [if_pos (.inr (.inr (.inl h3)))]
          have t3 := farB_true h3
          clear h3
          go_enter Tryd.func41, Tryd.ntmps41
          go_wp2_with (go_at_call 67; refine (refFar_any ⟨2, digs, lo, hi, grad⟩ _ _ _ (bx_new _ _ _)).mono ?_; rintro _ _ ⟨rfl, rfl⟩)
          go_ret
          exact ⟨rfl, hb⟩
        · have t3 := farB_false h3
          by_cases h4 : farG ⟨2, digs, lo, hi, grad⟩ hi
          · rw [if_pos (.inr (.inr (.inr (.inl h4))))]
            have t4 := farB_true h4
            clear h3 h4
            go_enter Tryd.func41, Tryd.ntmps41
            go_wp2_with (go_at_call 67; refine (refFar_any ⟨2, digs, lo, hi, grad⟩ _ _ _ (bx_new _ _ _)).mono ?_; rintro _ _ ⟨rfl, rfl⟩)
            go_ret
            exact ⟨rfl, hb⟩
          · have t4 := farB_false h4
            by_cases h5 : hi < lo
            · rw [if_pos (.inr (.inr (.inr (.inr h5))))]
              clear h3 h4
              go_enter Tryd.func41, Tryd.ntmps41
              go_wp2_with (go_at_call 67; refine (refFar_any ⟨2, digs, lo, hi, grad⟩ _ _ _ (bx_new _ _ _)).mono ?_; rintro _ _ ⟨rfl, rfl⟩)
              go_ret
              exact ⟨rfl, hb⟩
            · rw [if_neg (by rintro (h | h | h | h | h); exact h1 h; exact h2 h; exact h3 h; exact h4 h; exact h5 h)]
              clear h3 h4
              go_enter Tryd.func41, Tryd.ntmps41
              go_wp2_with (go_at_call 67; refine (refFar_any ⟨2, digs, lo, hi, grad⟩ _ _ _ (bx_new _ _ _)).mono ?_; rintro _ _ ⟨rfl, rfl⟩)
              go_ret
              exact ⟨rfl, hb⟩
  · have u2 : (rad == 2) = false := beq_eq_false_iff_ne.2 hr2
    have u2' : (rad != 2) = true := by rw [bne, u2]; rfl
    by_cases hr16 : rad = 16
    · subst hr16
      rw [if_neg (by omega)]
      by_cases h1 : digs < 1
      · rw [if_pos (.inl h1)]
        go_enter Tryd.func41, Tryd.ntmps41
        go_wp2
        go_ret
        exact ⟨rfl, hb⟩
      · by_cases h2 : 120 < digs
        · rw [if_pos (.inr (.inl h2))]
          go_enter Tryd.func41, Tryd.ntmps41
          go_wp2
          go_ret
          exact ⟨rfl, hb⟩
        · by_cases h3 : farG ⟨16, digs, lo, hi, grad⟩ lo
          · rw [if_pos (.inr (.inr (.inl h3)))]
            have t3 := farB_true h3
            clear h3
            go_enter Tryd.func41, Tryd.ntmps41
            go_wp2_with (go_at_call 67; refine (refFar_any ⟨16, digs, lo, hi, grad⟩ _ _ _ (bx_new _ _ _)).mono ?_; rintro _ _ ⟨rfl, rfl⟩)
            go_ret
            exact ⟨rfl, hb⟩
          · have t3 := farB_false h3
            by_cases h4 : farG ⟨16, digs, lo, hi, grad⟩ hi
            · rw [if_pos (.inr (.inr (.inr (.inl h4))))]
              have t4 := farB_true h4
              clear h3 h4
              go_enter Tryd.func41, Tryd.ntmps41
              go_wp2_with (go_at_call 67; refine (refFar_any ⟨16, digs, lo, hi, grad⟩ _ _ _ (bx_new _ _ _)).mono ?_; rintro _ _ ⟨rfl, rfl⟩)
              go_ret
              exact ⟨rfl, hb⟩
            · have t4 := farB_false h4
              by_cases h5 : hi < lo
              · rw [if_pos (.inr (.inr (.inr (.inr h5))))]
                clear h3 h4
                go_enter Tryd.func41, Tryd.ntmps41
                go_wp2_with (go_at_call 67; refine (refFar_any ⟨16, digs, lo, hi, grad⟩ _ _ _ (bx_new _ _ _)).mono ?_; rintro _ _ ⟨rfl, rfl⟩)
                go_ret
                exact ⟨rfl, hb⟩
              · rw [if_neg (by rintro (h | h | h | h | h); exact h1 h; exact h2 h; exact h3 h; exact h4 h; exact h5 h)]
                clear h3 h4
                go_enter Tryd.func41, Tryd.ntmps41
                go_wp2_with (go_at_call 67; refine (refFar_any ⟨16, digs, lo, hi, grad⟩ _ _ _ (bx_new _ _ _)).mono ?_; rintro _ _ ⟨rfl, rfl⟩)
                go_ret
                exact ⟨rfl, hb⟩
    · have u16 : (rad == 16) = false := beq_eq_false_iff_ne.2 hr16
      have u16' : (rad != 16) = true := by rw [bne, u16]; rfl
      rw [if_pos ⟨hr2, hr16⟩]
      clear hr2 hr16
      go_enter Tryd.func41, Tryd.ntmps41
      go_wp2
      go_ret
      exact ⟨rfl, hb⟩

set_option maxHeartbeats 1000000 in
theorem refWidth_any (g : Gd) (w : World) :
    Calls Tryd.prog 42 #[.agg #[.int .i64 g.rad, .int .i64 g.digs, .int .i64 g.lo, .int .i64 g.hi, .bool g.grad]] w fun e w' => e = .returned (.int .i64 (wid g : Nat)) ∧ Below w.heap.size w w' := by
  obtain ⟨rad, digs, lo, hi, grad⟩ := g
  simp only
  unfold wid
  simp only
  have hb : Below w.heap.size w (w.alloc (.cells #[.int .i64 rad, .int .i64 digs, .int .i64 lo, .int .i64 hi, .bool grad] 27)) := below_lay1 _ _
  by_cases h : rad = 16
  · subst h
    go_enter Tryd.func42, Tryd.ntmps42
    go_wp2
    go_ret
    exact ⟨by simp, hb⟩
  · have h1 : (rad == 16) = false := beq_eq_false_iff_ne.2 h
    rw [if_neg h]
    clear h
    go_enter Tryd.func42, Tryd.ntmps42
    go_wp2
    go_ret
    exact ⟨rfl, hb⟩

end Go.Proofs.YtlegnbigddhmlaaDoor

namespace Go.Proofs.YtlegnbigddhmlaaDoor
open Go.RowKit Go.Slip

def GivesQ (w : World) (g : Bool) (x y : Nat) (e : Int) (en : Ending) (w' : World) : Prop :=
  ∃ p c q d, en = .returned (.agg #[.bool g, .slice p (dig B16 x).length c, .slice q (dig B16 y).length d, .int .i64 e]) ∧ Rd w' .i64 p (dig B16 x) ∧ (0 < (dig B16 x).length → w.heap.size ≤ blk p) ∧ Rd w' .i64 q (dig B16 y) ∧ (0 < (dig B16 y).length → w.heap.size ≤ blk q) ∧ Below w.heap.size w w'

theorem up_len16 (a N n : Nat) (h : (dig B16 a).length ≤ n) : (dig B16 (a * 2 ^ N)).length ≤ n + (N / 16 + 1) := by
  refine Nat.le_trans (dig_len_mul B16_two a (2 ^ N)) ?_
  rw [dig_len_pow2]; omega
theorem numP_len16 {a : Nat} {n : Int} (h : (dig B16 a).length ≤ 2000000) (hn : -10000000 ≤ n ∧ n ≤ 10000000) : (dig B16 (numP a n)).length ≤ 2700000 := by
  have := up_len16 a n.toNat _ h; unfold numP; omega
theorem denP_len16 {a : Nat} {n : Int} (h : (dig B16 a).length ≤ 2000000) (hn : -10000000 ≤ n ∧ n ≤ 10000000) : (dig B16 (denP a n)).length ≤ 2700000 := by
  have := up_len16 a (-n).toNat _ h; unfold denP; omega

/-- Quotient, rest, and over what: digits to the base of 65536. -/
def GivesR3 (w : World) (q0 : Option Addr) (x y z : Nat) (en : Ending) (w' : World) : Prop :=
  ∃ p c q d r f, en = .returned (.tuple #[.slice p (dig B16 x).length c, .slice q (dig B16 y).length d, .slice r (dig B16 z).length f]) ∧ Rd w' .i64 p (dig B16 x) ∧ (0 < (dig B16 x).length → w.heap.size ≤ blk p) ∧
    Rd w' .i64 q (dig B16 y) ∧ (0 < (dig B16 y).length → w.heap.size ≤ blk q) ∧ Rd w' .i64 r (dig B16 z) ∧ (r = q0 ∨ (0 < (dig B16 z).length → w.heap.size ≤ blk r)) ∧ Below w.heap.size w w'

end Go.Proofs.YtlegnbigddhmlaaDoor
