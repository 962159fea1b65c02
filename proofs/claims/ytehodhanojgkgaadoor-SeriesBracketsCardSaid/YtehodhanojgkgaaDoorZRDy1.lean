/- The references' CheckDyad, TwoDyads, SameDyad. -/
import Derived.Test.YtehodhanojgkgaaDoorZDyad4
import Derived.Test.YtehodhanojgkgaaDoorZR
namespace Go.Proofs.YtehodhanojgkgaaDoor
open Go.RowKit Go.Slip

set_option maxHeartbeats 1000000 in
theorem refCheckDyad_any (d : Din) (w : World) (hx : Rd w .u32 d.p d.xs) (hl : d.xs.length ≤ 9223372036854775807) :
    Calls Tryd.prog 80 #[.agg #[.bool d.g, .slice d.p d.xs.length d.c, .int .i64 d.e]] w fun e w' => e = .returned (.int .i64 (errDy d)) ∧ Below w.heap.size w w' := by
  obtain ⟨g, p, c, xs, ex⟩ := d
  simp only at hx hl ⊢
  have hs1 : Below w.heap.size w (w.alloc (.cells #[.bool g, .slice p xs.length c, .int .i64 ex] 25)) := (Below.refl _ _).alloc (Nat.le_refl _) _
  by_cases he : errNat xs = 0
  · have HE := Lib.hid he
    by_cases hr : ex < -20000 ∨ 20000 < ex
    · have hd : errDy ⟨g, p, c, xs, ex⟩ = 3 := by unfold errDy; rw [if_pos he, if_pos hr]
      rw [hd]
      clear hd he
      rcases hr with hr | hr
      · go_enter Tryd.func80, Tryd.ntmps80
        go_wp2_with fail
        ((with_reducible refine (refCheckNat_any p _ c xs _ (hx.laid _) rfl hl).mono ?_))
        rintro e2 w2 ⟨rfl, rfl⟩
        rw [HE.out]
        go_wp2
        go_ret
        exact ⟨rfl, hs1⟩
      · have h3 : ¬ ex < -20000 := by omega
        go_enter Tryd.func80, Tryd.ntmps80
        go_wp2_with fail
        ((with_reducible refine (refCheckNat_any p _ c xs _ (hx.laid _) rfl hl).mono ?_))
        rintro e2 w2 ⟨rfl, rfl⟩
        rw [HE.out]
        go_wp2
        go_ret
        exact ⟨rfl, hs1⟩
    · have hd : errDy ⟨g, p, c, xs, ex⟩ = 0 := by unfold errDy; rw [if_pos he, if_neg hr]
      rw [hd]
      have h3 : ¬ ex < -20000 := by omega
      have h4 : ¬ 20000 < ex := by omega
      clear hd he hr
      go_enter Tryd.func80, Tryd.ntmps80
      go_wp2_with fail
      ((with_reducible refine (refCheckNat_any p _ c xs _ (hx.laid _) rfl hl).mono ?_))
      rintro e2 w2 ⟨rfl, rfl⟩
      rw [HE.out]
      go_wp2
      go_ret
      exact ⟨rfl, hs1⟩
  · have hd : errDy ⟨g, p, c, xs, ex⟩ = errNat xs := by unfold errDy; rw [if_neg he]
    have hz : (errNat xs == 0) = false := by simpa using he
    rw [hd]
    clear hd he
    go_enter Tryd.func80, Tryd.ntmps80
    go_wp2_with fail
    ((with_reducible refine (refCheckNat_any p _ c xs _ (hx.laid _) rfl hl).mono ?_))
    rintro e2 w2 ⟨rfl, rfl⟩
    go_wp2
    go_ret
    exact ⟨rfl, hs1⟩

set_option maxHeartbeats 1000000 in
theorem refTwoDyads_any (a b : Din) (w : World) (hx : Rd w .u32 a.p a.xs) (hl : a.xs.length ≤ 9223372036854775807) (hy : Rd w .u32 b.p b.xs) (hl2 : b.xs.length ≤ 9223372036854775807) :
    Calls Tryd.prog 55 #[.agg #[.bool a.g, .slice a.p a.xs.length a.c, .int .i64 a.e], .agg #[.bool b.g, .slice b.p b.xs.length b.c, .int .i64 b.e]] w fun e w' => e = .returned (.int .i64 (errDy2 a b)) ∧ Below w.heap.size w w' := by
  have hs1 := two_laid w (.cells #[.bool a.g, .slice a.p a.xs.length a.c, .int .i64 a.e] 25) (.cells #[.bool b.g, .slice b.p b.xs.length b.c, .int .i64 b.e] 25)
  have B2 := box3_new (w.alloc (.cells #[.bool a.g, .slice a.p a.xs.length a.c, .int .i64 a.e] 25)) (.bool b.g) (.slice b.p b.xs.length b.c) (.int .i64 b.e) 25
  have ez : (w.alloc (.cells #[.bool a.g, .slice a.p a.xs.length a.c, .int .i64 a.e] 25)).heap.size = w.heap.size + 1 := by simp
  rw [ez] at B2
  clear ez
  have hx1 := (hx.laid (.cells #[.bool a.g, .slice a.p a.xs.length a.c, .int .i64 a.e] 25)).laid (.cells #[.bool b.g, .slice b.p b.xs.length b.c, .int .i64 b.e] 25)
  have hy1 := (hy.laid (.cells #[.bool a.g, .slice a.p a.xs.length a.c, .int .i64 a.e] 25)).laid (.cells #[.bool b.g, .slice b.p b.xs.length b.c, .int .i64 b.e] 25)
  by_cases h : errDy a = 0
  · have hd : errDy2 a b = errDy b := by unfold errDy2; rw [if_pos h]
    have HE := Lib.hid h
    rw [hd]
    clear hd h
    go_enter Tryd.func55, Tryd.ntmps55
    go_wp2_with fail
    ((with_reducible refine (refCheckDyad_any a _ hx1 hl).mono ?_))
    generalize (w.alloc (.cells #[.bool a.g, .slice a.p a.xs.length a.c, .int .i64 a.e] 25)).alloc (.cells #[.bool b.g, .slice b.p b.xs.length b.c, .int .i64 b.e] 25) = W1 at *
    rintro e2 w2 ⟨rfl, hb2⟩
    rw [HE.out]
    obtain ⟨d0, d1, d2, f0, f1, f2, dlt⟩ := B2.past hb2
    go_wp2_with fail
    ((with_reducible refine (refCheckDyad_any b _ (hy1.past hb2) hl2).mono ?_))
    rintro e3 w3 ⟨rfl, hb3⟩
    go_wp2
    go_ret
    have hs2 := hs1.trans (hb2.mono hs1.size)
    exact ⟨rfl, hs2.trans (hb3.mono hs2.size)⟩
  · have hd : errDy2 a b = errDy a := by unfold errDy2; rw [if_neg h]
    have hz : (errDy a == 0) = false := by simpa using h
    rw [hd]
    clear hd h
    go_enter Tryd.func55, Tryd.ntmps55
    go_wp2_with fail
    ((with_reducible refine (refCheckDyad_any a _ hx1 hl).mono ?_))
    generalize (w.alloc (.cells #[.bool a.g, .slice a.p a.xs.length a.c, .int .i64 a.e] 25)).alloc (.cells #[.bool b.g, .slice b.p b.xs.length b.c, .int .i64 b.e] 25) = W1 at *
    rintro e2 w2 ⟨rfl, hb2⟩
    go_wp2
    go_ret
    exact ⟨rfl, hs1.trans (hb2.mono hs1.size)⟩

end Go.Proofs.YtehodhanojgkgaaDoor
