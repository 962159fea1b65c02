/- dyad: two, where one of both is not well formed. -/
import Derived.Test.YtcbjidcpcompoaaDoorZDyad7
import Derived.Test.YtcbjidcpcompoaaDoorZE
namespace Go.Proofs.YtcbjidcpcompoaaDoor
open Go.RowKit Go.Slip

theorem three_laid (w : World) (o1 o2 o3 : Obj) : Below w.heap.size w (((w.alloc o1).alloc o2).alloc o3) := (two_laid _ _ _).alloc (by simp; omega) _

set_option maxHeartbeats 1000000 in
theorem twoErr_any (fv : Value) (a b : Din) (w : World) (hx : Rd w .u32 a.p a.xs) (hl : a.xs.length ≤ 9223372036854775807) (hy : Rd w .u32 b.p b.xs) (hl2 : b.xs.length ≤ 9223372036854775807) (he : errDy2 a b ≠ 0) :
    Calls Tryd.prog 35 #[.agg #[.bool a.g, .slice a.p a.xs.length a.c, .int .i64 a.e], .agg #[.bool b.g, .slice b.p b.xs.length b.c, .int .i64 b.e], fv] w (GivesDE w w.heap.size ⟨false, 0, 0⟩ (errDy2 a b)) := by
  have hz2 : (errDy2 a b != 0) = true := by simpa using he
  have hs1 := three_laid w (.cells #[.bool a.g, .slice a.p a.xs.length a.c, .int .i64 a.e] 25) (.cells #[.bool b.g, .slice b.p b.xs.length b.c, .int .i64 b.e] 25) (.cells #[.bool false, .slice none 0 0, .int .i64 0] 25)
  have R1 := box3_new ((w.alloc (.cells #[.bool a.g, .slice a.p a.xs.length a.c, .int .i64 a.e] 25)).alloc (.cells #[.bool b.g, .slice b.p b.xs.length b.c, .int .i64 b.e] 25)) (.bool false) (.slice none 0 0) (.int .i64 0) 25
  go_enter Tryd.func35, Tryd.ntmps35
  go_wp2_with fail
  ((with_reducible refine (dyCheck2_new a b _ _ (by simp) (((hx.laid _).laid _).laid _) hl (((hy.laid _).laid _).laid _) hl2).mono ?_))
  rintro e2 w2 ⟨rfl, hb2⟩
  have R2 := (R1.past ((Below.refl _ _).alloc (Nat.le_refl _) (.cells #[.bool a.g, .slice a.p a.xs.length a.c, .int .i64 a.e, .bool b.g, .slice b.p b.xs.length b.c, .int .i64 b.e] 25))).below hb2 (by simp)
  simp only [World.size_alloc] at R2
  obtain ⟨d0, d1, d2, f0, f1, f2, dlt⟩ := R2
  go_wp2_with fail
  refine bodyPost_ret (v := .tuple #[.agg #[.bool false, .slice none 0 0, .int .i64 0], .int .i64 (errDy2 a b)]) (by simp [results, Tryd.results35, go_sem, d0, d1, d2]) rfl ?_
  have hs2 := (hs1.alloc hs1.size (.cells #[.bool a.g, .slice a.p a.xs.length a.c, .int .i64 a.e, .bool b.g, .slice b.p b.xs.length b.c, .int .i64 b.e] 25)).trans (hb2.mono (by simp; omega))
  exact ⟨none, 0, by rw [dig_zero]; rfl, by rw [dig_zero]; exact Own.nil _ _ _ _, ((hs2.setCell (by simp; omega) _).setCell (by simp; omega) _).setCell (by simp; omega) _⟩

end Go.Proofs.YtcbjidcpcompoaaDoor
