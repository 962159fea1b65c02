/- The references' DTimes, Minus, DCmp, FloorOf. -/
import Derived.Test.YtehodhanojgkgaaDoorZRDy4
namespace Go.Proofs.YtehodhanojgkgaaDoor
open Go.RowKit Go.Slip

set_option maxHeartbeats 1000000 in
theorem refMinus_any (P : Nat → Prop) (g : Bool) (p : Option Addr) (n c : Nat) (e : Int) (a : Nat) (w : World) (hp : Rd w .i64 p (dig B16 a)) (hn : n = (dig B16 a).length) (hc : n ≤ c) (hP : 0 < (dig B16 a).length → P (blk p)) :
    Calls Tryd.prog 24 #[.agg #[.bool g, .slice p n c, .int .i64 e]] w (GivesF w P (dMinus ⟨g, a, e⟩)) := by
  subst hn
  have hz := dig_len_zero B16_two a
  cases g
  · by_cases h0 : 0 < (dig B16 a).length
    · have t1 : decide ((0 : Int) < ((dig B16 a).length : Int)) = true := decide_eq_true (by omega)
      have hd : dMinus ⟨false, a, e⟩ = ⟨true, a, e⟩ := by unfold dMinus; simp; (try omega)
      rw [hd]
      clear hd hz
      go_enter Tryd.func24, Tryd.ntmps24
      go_wp2
      refine bodyPost_ret (v := .agg #[.bool true, .slice p (dig B16 a).length c, .int .i64 e]) (by simp [results, Tryd.results24, go_sem]) rfl ?_
      exact ⟨p, c, rfl, (hp.laid _).laid _, hc, fun h => .inl (hP h), two_laid _ _ _⟩
    · have t1 : decide ((0 : Int) < ((dig B16 a).length : Int)) = false := decide_eq_false (by omega)
      have hd : dMinus ⟨false, a, e⟩ = ⟨false, a, e⟩ := by unfold dMinus; simp; (try omega)
      rw [hd]
      clear hd hz
      go_enter Tryd.func24, Tryd.ntmps24
      go_wp2
      refine bodyPost_ret (v := .agg #[.bool false, .slice p (dig B16 a).length c, .int .i64 e]) (by simp [results, Tryd.results24, go_sem]) rfl ?_
      exact ⟨p, c, rfl, (hp.laid _).laid _, hc, fun h => .inl (hP h), two_laid _ _ _⟩
  · have t0 := True.intro
    have hd : dMinus ⟨true, a, e⟩ = ⟨false, a, e⟩ := by unfold dMinus; simp; (try omega)
    rw [hd]
    clear hd hz
    go_enter Tryd.func24, Tryd.ntmps24
    go_wp2
    refine bodyPost_ret (v := .agg #[.bool false, .slice p (dig B16 a).length c, .int .i64 e]) (by simp [results, Tryd.results24, go_sem]) rfl ?_
    exact ⟨p, c, rfl, (hp.laid _).laid _, hc, fun h => .inl (hP h), two_laid _ _ _⟩

end Go.Proofs.YtehodhanojgkgaaDoor
