/- The references' CheckDyad, TwoDyads, SameDyad. -/
import Derived.Test.YtpdmajoofllhdaaDoorZE
import Derived.Test.YtpdmajoofllhdaaDoorZR
namespace Go.Proofs.YtpdmajoofllhdaaDoor
open Go.RowKit Go.Slip

set_option maxHeartbeats 1000000 in
theorem refCheckDyad_any (d : Din) (w : World) (hx : Rd w .u32 d.p d.xs) (hl : d.xs.length ≤ 9223372036854775807) :
    Calls Tryd.prog 47 #[.agg #[.bool d.g, .slice d.p d.xs.length d.c, .int .i64 d.e]] w fun e w' => e = .returned (.int .i64 (errDy d)) ∧ Below w.heap.size w w' := by
  obtain ⟨g, p, c, xs, ex⟩ := d
  simp only at hx hl ⊢
  have hs1 : Below w.heap.size w (w.alloc (.cells #[.bool g, .slice p xs.length c, .int .i64 ex] 29)) := (Below.refl _ _).alloc (Nat.le_refl _) _
  by_cases he : errNat xs = 0
  · have HE := Lib.hid he
    by_cases hr : ex < -20000 ∨ 20000 < ex
    · have hd : errDy ⟨g, p, c, xs, ex⟩ = 3 := by unfold errDy; rw [if_pos he, if_pos hr]
      rw [hd]
      clear hd he
      rcases hr with hr | hr
      · go_enter Tryd.func47, Tryd.ntmps47
        go_wp2_with fail
        ((with_reducible refine (refCheckNat_any p _ c xs _ (hx.laid _) rfl hl).mono ?_))
        rintro e2 w2 ⟨rfl, rfl⟩
        rw [HE.out]
        go_wp2
        go_ret
        exact ⟨rfl, hs1⟩
      · have h3 : ¬ ex < -20000 := by omega
        go_enter Tryd.func47, Tryd.ntmps47
        go_wp2_with fail
        ((with_reducible refine (refCheckNat_any p _ c xs _ (hx.laid _) rfl hl).mono ?_))
        rintro e2 w2 ⟨rfl, rfl⟩
        rw [HE.out]
        go_wp2
        go_ret
        exact ⟨rfl, hs1⟩
    · have hd : errDy ⟨g, p, c, xs, ex⟩ = 0 := by unfold errDy; rw [if_pos he, if_neg hr]
      rw [hd]
      have h3 : ¬ ex < -20000 := by omega
      have h4 : ¬ 20000 < ex := by omega
      clear hd he hr
      go_enter Tryd.func47, Tryd.ntmps47
      go_wp2_with fail
      ((with_reducible refine (refCheckNat_any p _ c xs _ (hx.laid _) rfl hl).mono ?_))
      rintro e2 w2 ⟨rfl, rfl⟩
      rw [HE.out]
      go_wp2
      go_ret
      exact ⟨rfl, hs1⟩
  · have hd : errDy ⟨g, p, c, xs, ex⟩ = errNat xs := by unfold errDy; rw [if_neg he]
    have hz : (errNat xs == 0) = false := by simpa using he
    rw [hd]
    clear hd he
    go_enter Tryd.func47, Tryd.ntmps47
    go_wp2_with fail
    ((with_reducible refine (refCheckNat_any p _ c xs _ (hx.laid _) rfl hl).mono ?_))
    rintro e2 w2 ⟨rfl, rfl⟩
    go_wp2
    go_ret
    exact ⟨rfl, hs1⟩

end Go.Proofs.YtpdmajoofllhdaaDoor
