/- grid: the ways to round. -/
import Derived.Test.YtpdmajoofllhdaaDoorZGd3
namespace Go.Proofs.YtpdmajoofllhdaaDoor
open Go.RowKit Go.Slip


set_option maxHeartbeats 400000 in
theorem ups1_any (neg odd : Bool) (half : Int) (w : World) :
    Calls Tryd.prog 82 #[.bool neg, .bool odd, .int .i64 half] w fun e w' => e = .returned (.bool (awayP 1 neg odd half)) ∧ w' = w := by
  unfold awayP
  simp only [if_true]
  by_cases h : 0 < half
  · go_enter Tryd.func82, Tryd.ntmps82
    go_wp2
    go_ret
    exact ⟨by simp [h], rfl⟩
  · by_cases h0 : half = 0
    · subst h0
      cases odd
      · go_enter Tryd.func82, Tryd.ntmps82
        go_wp2
        go_ret
        exact ⟨rfl, rfl⟩
      · go_enter Tryd.func82, Tryd.ntmps82
        go_wp2
        go_ret
        exact ⟨rfl, rfl⟩
    · have t0 : (half == 0) = false := beq_eq_false_iff_ne.2 h0
      have H := Lib.hid h0
      clear h0
      go_enter Tryd.func82, Tryd.ntmps82
      go_wp2
      go_ret
      exact ⟨by simp [H.out, show ¬ 0 < half from by omega], rfl⟩

set_option maxHeartbeats 400000 in
theorem ups2_any (neg odd : Bool) (half : Int) (w : World) :
    Calls Tryd.prog 83 #[.bool neg, .bool odd, .int .i64 half] w fun e w' => e = .returned (.bool (awayP 2 neg odd half)) ∧ w' = w := by
  have e : awayP 2 neg odd half = decide (0 ≤ half) := rfl
  rw [e]
  clear e
  by_cases h : 0 ≤ half
  · go_enter Tryd.func83, Tryd.ntmps83
    go_wp2
    go_ret
    exact ⟨by simp [h], rfl⟩
  · go_enter Tryd.func83, Tryd.ntmps83
    go_wp2
    go_ret
    exact ⟨by simp; omega, rfl⟩

set_option maxHeartbeats 400000 in
theorem ups3_any (neg odd : Bool) (half : Int) (w : World) :
    Calls Tryd.prog 84 #[.bool neg, .bool odd, .int .i64 half] w fun e w' => e = .returned (.bool (awayP 3 neg odd half)) ∧ w' = w := by
  have e : awayP 3 neg odd half = false := rfl
  rw [e]
  clear e
  go_enter Tryd.func84, Tryd.ntmps84
  go_wp2
  go_ret
  exact ⟨rfl, rfl⟩

set_option maxHeartbeats 400000 in
theorem ups4_any (neg odd : Bool) (half : Int) (w : World) :
    Calls Tryd.prog 85 #[.bool neg, .bool odd, .int .i64 half] w fun e w' => e = .returned (.bool (awayP 4 neg odd half)) ∧ w' = w := by
  have e : awayP 4 neg odd half = !neg := rfl
  rw [e]
  clear e
  go_enter Tryd.func85, Tryd.ntmps85
  go_wp2
  go_ret
  exact ⟨rfl, rfl⟩

set_option maxHeartbeats 400000 in
theorem ups5_any (neg odd : Bool) (half : Int) (w : World) :
    Calls Tryd.prog 86 #[.bool neg, .bool odd, .int .i64 half] w fun e w' => e = .returned (.bool (awayP 5 neg odd half)) ∧ w' = w := by
  have e : awayP 5 neg odd half = neg := rfl
  rw [e]
  clear e
  go_enter Tryd.func86, Tryd.ntmps86
  go_wp2
  go_ret
  exact ⟨rfl, rfl⟩

theorem wayF_spec {k : Int} (h1 : 1 ≤ k) (h2 : k ≤ 5) :
    ∃ f, wayF k = .func (.func f) #[] #[] ∧ (∀ (neg odd : Bool) (half : Int) (w : World), Calls Tryd.prog f #[.bool neg, .bool odd, .int .i64 half] w fun e w' => e = .returned (.bool (awayP k neg odd half)) ∧ w' = w) ∧ ∀ args w, (callFunc f args).run Tryd.prog w = .ok (.enter f args) w := by
  obtain rfl | rfl | rfl | rfl | rfl : k = 1 ∨ k = 2 ∨ k = 3 ∨ k = 4 ∨ k = 5 := by omega
  · exact ⟨_, rfl, ups1_any, fun _ _ => by kernel_rfl⟩
  · exact ⟨_, rfl, ups2_any, fun _ _ => by kernel_rfl⟩
  · exact ⟨_, rfl, ups3_any, fun _ _ => by kernel_rfl⟩
  · exact ⟨_, rfl, ups4_any, fun _ _ => by kernel_rfl⟩
  · exact ⟨_, rfl, ups5_any, fun _ _ => by kernel_rfl⟩

end Go.Proofs.YtpdmajoofllhdaaDoor
