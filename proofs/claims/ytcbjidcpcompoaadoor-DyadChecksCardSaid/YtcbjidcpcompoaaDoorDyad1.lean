/- dyad: bare numbers. -/
import Derived.Test.YtcbjidcpcompoaaDoorZeros
import Derived.Test.YtcbjidcpcompoaaDoorLimb8
import Derived.Test.YtcbjidcpcompoaaDoorDy
import Derived.Deep.RegionHeld3
import Derived.Deep.DeepCutAuto
namespace Go.Proofs.YtcbjidcpcompoaaDoor
open Go.RowKit Go.Slip

/-- A block of three cells that may be written. -/
structure Box3 (w : World) (b : Nat) (v0 v1 v2 : Value) : Prop where
  c0 : w.cell? ⟨b, 0, none⟩ = some v0
  c1 : w.cell? ⟨b, 1, none⟩ = some v1
  c2 : w.cell? ⟨b, 2, none⟩ = some v2
  f0 : w.frozen? ⟨b, 0, none⟩ = false
  f1 : w.frozen? ⟨b, 1, none⟩ = false
  f2 : w.frozen? ⟨b, 2, none⟩ = false
  lt : b < w.heap.size

theorem Box3.past {w w' : World} {b : Nat} {v0 v1 v2 : Value} (h : Box3 w b v0 v1 v2) (hb : Below w.heap.size w w') : Box3 w' b v0 v1 v2 :=
  ⟨by rw [Below.cell hb h.lt]; exact h.c0, by rw [Below.cell hb h.lt]; exact h.c1, by rw [Below.cell hb h.lt]; exact h.c2,
   by rw [Below.frozen hb h.lt]; exact h.f0, by rw [Below.frozen hb h.lt]; exact h.f1, by rw [Below.frozen hb h.lt]; exact h.f2, Nat.lt_of_lt_of_le h.lt hb.size⟩

theorem Box3.drew {w : World} {b : Nat} {v0 v1 v2 : Value} (h : Box3 w b v0 v1 v2) : Box3 w.drew b v0 v1 v2 := ⟨h.c0, h.c1, h.c2, h.f0, h.f1, h.f2, h.lt⟩

theorem box3_new (w : World) (v0 v1 v2 : Value) (t : TypeId) : Box3 (w.alloc (.cells #[v0, v1, v2] t)) w.heap.size v0 v1 v2 :=
  ⟨by simp [go_sem], by simp [go_sem], by simp [go_sem], by simp [go_sem], by simp [go_sem], by simp [go_sem], by simp⟩

/-- A number with a point that a call leaves: its digits in a row of the call's own, from block 'base' on. -/
def GivesD (w : World) (base : Nat) (d : Dv) (en : Ending) (w' : World) : Prop :=
  ∃ p c, en = .returned (.agg #[.bool d.neg, .slice p (dig B32 d.m).length c, .int .i64 d.e]) ∧ Own w' base .u32 66 p c (dig B32 d.m) ∧ Below w.heap.size w w'

set_option maxHeartbeats 1000000 in
theorem bare_zero_any (g : Bool) (p : Option Addr) (c : Nat) (e : Int) (w : World) :
    Calls Tryd.prog 67 #[.agg #[.bool g, .slice p 0 c, .int .i64 e]] w (GivesD w w.heap.size ⟨false, 0, 0⟩) := by
  go_enter Tryd.func67, Tryd.ntmps67
  go_wp2
  refine bodyPost_ret (v := .agg #[.bool false, .slice none 0 0, .int .i64 0]) (by simp [results, Tryd.results67, go_sem]) rfl ?_
  exact ⟨none, 0, by rw [dig_zero]; rfl, by rw [dig_zero]; exact Own.nil _ _ _ _, ((Below.refl _ _).alloc (Nat.le_refl _) _).alloc (by simp) _⟩

set_option maxHeartbeats 1000000 in
theorem bare_pos_any (g : Bool) (p : Option Addr) (n c : Nat) (e : Int) (m : Nat) (w : World) (hp : Rd w .u32 p (dig B32 m)) (hn : n = (dig B32 m).length) (hc : n ≤ c) (hl : (dig B32 m).length ≤ 10000000) (h0 : 0 < m)
    (he : -1000000000 ≤ e ∧ e ≤ 1000000000) (hT : TabW w) :
    Calls Tryd.prog 67 #[.agg #[.bool g, .slice p n c, .int .i64 e]] w (GivesD w w.heap.size (bare ⟨g, m, e⟩)) := by
  subst hn
  have hl0 : 0 < (dig B32 m).length := by
    have := dig_len_zero B32_two m
    omega
  have t1 : (((dig B32 m).length : Int) == 0) = false := beq_eq_false_iff_ne.2 (by omega)
  go_enter Tryd.func67, Tryd.ntmps67
  go_wp2_with fail
  refine (zeros_any p _ c m _ ((hp.laid _).laid _) rfl (by omega) ((hT.laid _).laid _)).mono ?_
  rintro e1 w1 ⟨rfl, rfl⟩
  have htz : tz m ≤ 1000000000 := by have := tz_lt_blen h0; have := blen_len32 m; omega
  have HB := Lib.hid (bare_pos (g := g) (e := e) h0)
  obtain ⟨t, ht⟩ : ∃ t, tz m = t := ⟨_, rfl⟩
  have HT := Lib.hid ht
  rw [ht] at htz HB ⊢
  clear ht
  go_wp2_with fail
  have B1 := (box3_new w (.bool g) (.slice p (dig B32 m).length c) (.int .i64 e) 60).past ((Below.refl _ _).alloc (Nat.le_refl _) (.cells #[.bool false, .slice none 0 0, .int .i64 0] 60))
  have B2 := box3_new (w.alloc (.cells #[.bool g, .slice p (dig B32 m).length c, .int .i64 e] 60)) (.bool false) (.slice none 0 0) (.int .i64 0) 60
  have hp1 := (hp.laid (.cells #[.bool g, .slice p (dig B32 m).length c, .int .i64 e] 60)).laid (.cells #[.bool false, .slice none 0 0, .int .i64 0] 60)
  have hs1 : Below w.heap.size w ((w.alloc (.cells #[.bool g, .slice p (dig B32 m).length c, .int .i64 e] 60)).alloc (.cells #[.bool false, .slice none 0 0, .int .i64 0] 60)) := ((Below.refl _ _).alloc (Nat.le_refl _) _).alloc (by simp) _
  have ez : (w.alloc (.cells #[.bool g, .slice p (dig B32 m).length c, .int .i64 e] 60)).heap.size = w.heap.size + 1 := by simp
  rw [ez] at B2
  clear ez
  generalize (w.alloc (.cells #[.bool g, .slice p (dig B32 m).length c, .int .i64 e] 60)).alloc (.cells #[.bool false, .slice none 0 0, .int .i64 0] 60) = W1 at *
  have e1 : IntKind.i64.wrap (e + (t : Int)) = e + (t : Int) := IntWalk.i64_in _ (by omega)
  go_region_held3 (fun w' => w'.cell? ⟨w.heap.size, 0, none⟩ = some (.bool g) ∧ w'.cell? ⟨w.heap.size, 1, none⟩ = some (.slice p (dig B32 m).length c) ∧ w'.cell? ⟨w.heap.size, 2, none⟩ = some (.int .i64 e))
    (first | exact ⟨B1.c0, B1.c1, B1.c2⟩
           | (have D1 := B1.drew; exact ⟨D1.c0, D1.c1, D1.c2⟩)
           | (have D1 := B1.drew.past hb2; exact ⟨D1.c0, D1.c1, D1.c2⟩)
           | go_keep)
    (first | (go_at_call 49; refine (shr_any p _ c m t _ hp1.drew rfl hc (by clear e1; omega) (by clear e1; omega)).mono ?_; rintro e2 w2 ⟨p2, c2, rfl, ho2, hb2⟩; obtain ⟨d0, d1, d2, f0, f1, f2, dlt⟩ := B2.drew.past hb2))
  all_goals (go_wp2_with fail)
  refine bodyPost_ret (v := .agg #[.bool g, .slice p2 (dig B32 (m / 2 ^ t)).length c2, .int .i64 (e + (t : Int))]) (by simp [results, Tryd.results67, go_sem, d0, d1, d2]) rfl ?_
  rw [HB.out]
  clear e1
  have hs2 := hs1.drew.trans (hb2.mono hs1.size)
  have hz := B2.lt
  refine ⟨p2, c2, rfl, (ho2.mono hs1.size).same (fun h => ?_), ((hs2.setCell (by simp) _).setCell (by simp) _).setCell (by simp) _⟩
  have hk := (ho2.blk_lt h).1
  have hne : blk p2 ≠ w.heap.size + 1 := by
    have : W1.drew.heap.size = W1.heap.size := rfl
    omega
  rw [Below.heap_setCell _ _ _ _ hne, Below.heap_setCell _ _ _ _ hne, Below.heap_setCell _ _ _ _ hne]

theorem bareRaw_any (g : Bool) (p : Option Addr) (n c : Nat) (e : Int) (m : Nat) (w : World) (hp : Rd w .u32 p (dig B32 m)) (hn : n = (dig B32 m).length) (hc : n ≤ c) (hl : (dig B32 m).length ≤ 10000000)
    (he : -1000000000 ≤ e ∧ e ≤ 1000000000) (hT : TabW w) :
    Calls Tryd.prog 67 #[.agg #[.bool g, .slice p n c, .int .i64 e]] w (GivesD w w.heap.size (bare ⟨g, m, e⟩)) := by
  by_cases h0 : m = 0
  · subst h0
    rw [dig_zero] at hn
    subst hn
    exact bare_zero_any g p c e w
  · exact bare_pos_any g p n c e m w hp hn hc hl (by omega) he hT

end Go.Proofs.YtcbjidcpcompoaaDoor
