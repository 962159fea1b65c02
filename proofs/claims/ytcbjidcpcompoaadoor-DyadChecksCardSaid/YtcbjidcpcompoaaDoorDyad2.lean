/- dyad: Of, Sign. -/
import Derived.Test.YtcbjidcpcompoaaDoorDyad1
namespace Go.Proofs.YtcbjidcpcompoaaDoor
open Go.RowKit Go.Slip

set_option maxHeartbeats 1000000 in
theorem ofD_any (g : Bool) (p : Option Addr) (n c : Nat) (e : Int) (m : Nat) (w : World) (hp : Rd w .u32 p (dig B32 m)) (hn : n = (dig B32 m).length) (hc : n ≤ c) (hl : (dig B32 m).length ≤ 10000000)
    (he : -1000000000 ≤ e ∧ e ≤ 1000000000) (hT : TabW w) :
    Calls Tryd.prog 46 #[.agg #[.bool g, .slice p n c, .int .i64 e]] w (GivesD w w.heap.size (bare ⟨g, m, e⟩)) := by
  subst hn
  have hs1 : Below w.heap.size w ((w.alloc (.cells #[.bool g, .slice p (dig B32 m).length c, .int .i64 e] 25)).alloc (.cells #[.bool false, .slice none 0 0, .int .i64 0] 60)) := ((Below.refl _ _).alloc (Nat.le_refl _) _).alloc (by simp) _
  have B2 := box3_new (w.alloc (.cells #[.bool g, .slice p (dig B32 m).length c, .int .i64 e] 25)) (.bool false) (.slice none 0 0) (.int .i64 0) 60
  have ez : (w.alloc (.cells #[.bool g, .slice p (dig B32 m).length c, .int .i64 e] 25)).heap.size = w.heap.size + 1 := by simp
  rw [ez] at B2
  clear ez
  go_enter Tryd.func46, Tryd.ntmps46
  go_wp2_with fail
  ((with_reducible refine (bareRaw_any g p _ c e m _ ((hp.laid _).laid _) rfl hc hl he ((hT.laid _).laid _)).mono ?_))
  generalize bare ⟨g, m, e⟩ = r at *
  generalize (w.alloc (.cells #[.bool g, .slice p (dig B32 m).length c, .int .i64 e] 25)).alloc (.cells #[.bool false, .slice none 0 0, .int .i64 0] 60) = W1 at *
  rintro e2 w2 ⟨p2, c2, rfl, ho2, hb2⟩
  obtain ⟨d0, d1, d2, f0, f1, f2, dlt⟩ := B2.past hb2
  go_wp2_with fail
  refine bodyPost_ret (v := .agg #[.bool r.neg, .slice p2 (dig B32 r.m).length c2, .int .i64 r.e]) (by simp [results, Tryd.results46, go_sem, d0, d1, d2]) rfl ?_
  have hs2 := hs1.trans (hb2.mono hs1.size)
  have hz := B2.lt
  refine ⟨p2, c2, rfl, (ho2.mono hs1.size).same (fun h => ?_), ((hs2.setCell (by simp) _).setCell (by simp) _).setCell (by simp) _⟩
  have hk := (ho2.blk_lt h).1
  have hne : blk p2 ≠ w.heap.size + 1 := by omega
  rw [Below.heap_setCell _ _ _ _ hne, Below.heap_setCell _ _ _ _ hne, Below.heap_setCell _ _ _ _ hne]

/-- A number with a point, as a call takes it: its digits in a row of the call's own. -/
theorem signD_any (g : Bool) (p : Option Addr) (n c : Nat) (e : Int) (m : Nat) (w : World) (hn : n = (dig B32 m).length) :
    Calls Tryd.prog 48 #[.agg #[.bool g, .slice p n c, .int .i64 e]] w fun en w' => en = .returned (.int .i64 (dSign ⟨g, m, e⟩)) ∧ Below w.heap.size w w' := by
  have hb : Below w.heap.size w (w.alloc (.cells #[.bool g, .slice p n c, .int .i64 e] 60)) := (Below.refl _ _).alloc (Nat.le_refl _) _
  by_cases h0 : m = 0
  · subst h0
    rw [dig_zero] at hn
    subst hn
    go_enter Tryd.func48, Tryd.ntmps48
    go_wp2
    go_ret
    exact ⟨rfl, hb⟩
  · have hl0 : 0 < n := by
      have := dig_len_zero B32_two m
      omega
    have t1 : ((n : Int) == 0) = false := beq_eq_false_iff_ne.2 (by omega)
    have hs : dSign ⟨g, m, e⟩ = if g then -1 else 1 := by unfold dSign; rw [if_neg h0]
    rw [hs]
    clear hn h0 hs
    cases g
    · go_enter Tryd.func48, Tryd.ntmps48
      go_wp2
      go_ret
      exact ⟨rfl, hb⟩
    · go_enter Tryd.func48, Tryd.ntmps48
      go_wp2
      go_ret
      exact ⟨rfl, hb⟩

end Go.Proofs.YtcbjidcpcompoaaDoor
