/- dyad: Done; Times. -/
import Derived.Test.YtcbjidcpcompoaaDoorDyad2
import Derived.Test.YtcbjidcpcompoaaDoorLimb3
namespace Go.Proofs.YtcbjidcpcompoaaDoor
open Go.RowKit Go.Slip

/-- The same, with an errno beside it. -/
def GivesDE (w : World) (base : Nat) (d : Dv) (er : Int) (en : Ending) (w' : World) : Prop :=
  ∃ p c, en = .returned (.tuple #[.agg #[.bool d.neg, .slice p (dig B32 d.m).length c, .int .i64 d.e], .int .i64 er]) ∧ Own w' base .u32 66 p c (dig B32 d.m) ∧ Below w.heap.size w w'

theorem two_laid (w : World) (o1 o2 : Obj) : Below w.heap.size w ((w.alloc o1).alloc o2) := ((Below.refl _ _).alloc (Nat.le_refl _) _).alloc (by simp) _

set_option maxHeartbeats 1000000 in
theorem doneR_any (g : Bool) (p : Option Addr) (n c base : Nat) (e : Int) (m : Nat) (w : World) (ho : Own w base .u32 66 p c (dig B32 m)) (hn : n = (dig B32 m).length) (hl : (dig B32 m).length ≤ 1000000000) :
    Calls Tryd.prog 47 #[.agg #[.bool g, .slice p n c, .int .i64 e]] w (GivesDE w base (doneD ⟨g, m, e⟩) (errD ⟨g, m, e⟩)) := by
  subst hn
  by_cases h1 : 1200 < (dig B32 m).length
  · have he : errD ⟨g, m, e⟩ = 2 := by unfold errD; rw [if_pos h1]
    have hd : doneD ⟨g, m, e⟩ = ⟨false, 0, 0⟩ := by unfold doneD; rw [he, if_neg (by omega)]; rfl
    rw [he, hd]
    clear he hd
    go_enter Tryd.func47, Tryd.ntmps47
    go_wp2
    refine bodyPost_ret (v := .tuple #[.agg #[.bool false, .slice none 0 0, .int .i64 0], .int .i64 2]) (by simp [results, Tryd.results47, go_sem]) rfl ?_
    exact ⟨none, 0, by rw [dig_zero]; rfl, by rw [dig_zero]; exact Own.nil _ _ _ _, two_laid _ _ _⟩
  · by_cases h2 : e < -20000 ∨ 20000 < e
    · have he : errD ⟨g, m, e⟩ = 3 := by unfold errD; rw [if_neg h1, if_pos h2]
      have hd : doneD ⟨g, m, e⟩ = ⟨false, 0, 0⟩ := by unfold doneD; rw [he, if_neg (by omega)]; rfl
      rw [he, hd]
      clear he hd
      rcases h2 with h2 | h2
      · go_enter Tryd.func47, Tryd.ntmps47
        go_wp2
        refine bodyPost_ret (v := .tuple #[.agg #[.bool false, .slice none 0 0, .int .i64 0], .int .i64 3]) (by simp [results, Tryd.results47, go_sem]) rfl ?_
        exact ⟨none, 0, by rw [dig_zero]; rfl, by rw [dig_zero]; exact Own.nil _ _ _ _, two_laid _ _ _⟩
      · have h3 : ¬ e < -20000 := by omega
        go_enter Tryd.func47, Tryd.ntmps47
        go_wp2
        refine bodyPost_ret (v := .tuple #[.agg #[.bool false, .slice none 0 0, .int .i64 0], .int .i64 3]) (by simp [results, Tryd.results47, go_sem]) rfl ?_
        exact ⟨none, 0, by rw [dig_zero]; rfl, by rw [dig_zero]; exact Own.nil _ _ _ _, two_laid _ _ _⟩
    · have he : errD ⟨g, m, e⟩ = 0 := by unfold errD; rw [if_neg h1, if_neg h2]
      have hd : doneD ⟨g, m, e⟩ = ⟨g, m, e⟩ := by unfold doneD; rw [he, if_pos rfl]
      rw [he, hd]
      have h3 : ¬ e < -20000 := by omega
      have h4 : ¬ 20000 < e := by omega
      clear he hd h2
      go_enter Tryd.func47, Tryd.ntmps47
      go_wp2
      refine bodyPost_ret (v := .tuple #[.agg #[.bool g, .slice p (dig B32 m).length c, .int .i64 e], .int .i64 0]) (by simp [results, Tryd.results47, go_sem]) rfl ?_
      exact ⟨p, c, rfl, (ho.laid _).laid _, two_laid _ _ _⟩

end Go.Proofs.YtcbjidcpcompoaaDoor
