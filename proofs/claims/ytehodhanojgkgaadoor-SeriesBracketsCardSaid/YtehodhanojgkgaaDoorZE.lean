/- dyad: bare numbers.
   dyad: Of, Sign.
   dyad: Done; Times.
   Boxes of structs: laid at the head of a call, filled at its end.
   Boxes of structs: what is stored into one.
   dyad.Whole, Opposite. -/
import Derived.Test.YtehodhanojgkgaaDoorZC
import Derived.Test.YtehodhanojgkgaaDoorZA
import Derived.Deep.RegionHeld3
import Derived.Deep.DeepCutAuto
import Derived.Test.YtehodhanojgkgaaDoorZB
namespace Go.Proofs.YtehodhanojgkgaaDoor
open Go.RowKit Go.Slip

/-- A block of three cells that may be written. -/
structure Box3 (w : World) (b : Nat) (v0 v1 v2 : Value) : Prop where
  c0 : w.cell? ⟨b, 0, none⟩ = some v0
  c1 : w.cell? ⟨b, 1, none⟩ = some v1
  c2 : w.cell? ⟨b, 2, none⟩ = some v2
  f0 : w.frozen? ⟨b, 0, none⟩ = false
  f1 : w.frozen? ⟨b, 1, none⟩ = false
  f2 : w.frozen? ⟨b, 2, none⟩ = false
  lt : b < w.heap.size

theorem Box3.past {w w' : World} {b : Nat} {v0 v1 v2 : Value} (h : Box3 w b v0 v1 v2) (hb : Below w.heap.size w w') : Box3 w' b v0 v1 v2 :=
  ⟨by rw [Below.cell hb h.lt]; exact h.c0, by rw [Below.cell hb h.lt]; exact h.c1, by rw [Below.cell hb h.lt]; exact h.c2,
   by rw [Below.frozen hb h.lt]; exact h.f0, by rw [Below.frozen hb h.lt]; exact h.f1, by rw [Below.frozen hb h.lt]; exact h.f2, Nat.lt_of_lt_of_le h.lt hb.size⟩

theorem Box3.drew {w : World} {b : Nat} {v0 v1 v2 : Value} (h : Box3 w b v0 v1 v2) : Box3 w.drew b v0 v1 v2 := ⟨h.c0, h.c1, h.c2, h.f0, h.f1, h.f2, h.lt⟩

theorem box3_new (w : World) (v0 v1 v2 : Value) (t : TypeId) : Box3 (w.alloc (.cells #[v0, v1, v2] t)) w.heap.size v0 v1 v2 :=
  ⟨by simp [go_sem], by simp [go_sem], by simp [go_sem], by simp [go_sem], by simp [go_sem], by simp [go_sem], by simp⟩

/-- A number with a point that a call leaves: its digits in a row of the call's own, from block 'base' on. -/
def GivesD (w : World) (base : Nat) (d : Dv) (en : Ending) (w' : World) : Prop :=
  ∃ p c, en = .returned (.agg #[.bool d.neg, .slice p (dig B32 d.m).length c, .int .i64 d.e]) ∧ Own w' base .u32 58 p c (dig B32 d.m) ∧ Below w.heap.size w w'

set_option maxHeartbeats 1000000 in
theorem bare_zero_any (g : Bool) (p : Option Addr) (c : Nat) (e : Int) (w : World) :
    Calls Tryd.prog 76 #[.agg #[.bool g, .slice p 0 c, .int .i64 e]] w (GivesD w w.heap.size ⟨false, 0, 0⟩) := by
  go_enter Tryd.func76, Tryd.ntmps76
  go_wp2
  refine bodyPost_ret (v := .agg #[.bool false, .slice none 0 0, .int .i64 0]) (by simp [results, Tryd.results76, go_sem]) rfl ?_
  exact ⟨none, 0, by rw [dig_zero]; rfl, by rw [dig_zero]; exact Own.nil _ _ _ _, ((Below.refl _ _).alloc (Nat.le_refl _) _).alloc (by simp) _⟩

set_option maxHeartbeats 1000000 in
theorem bare_pos_any (g : Bool) (p : Option Addr) (n c : Nat) (e : Int) (m : Nat) (w : World) (hp : Rd w .u32 p (dig B32 m)) (hn : n = (dig B32 m).length) (hc : n ≤ c) (hl : (dig B32 m).length ≤ 10000000) (h0 : 0 < m)
    (he : -1000000000 ≤ e ∧ e ≤ 1000000000) (hT : TabW w) :
    Calls Tryd.prog 76 #[.agg #[.bool g, .slice p n c, .int .i64 e]] w (GivesD w w.heap.size (bare ⟨g, m, e⟩)) := by
  subst hn
  have hl0 : 0 < (dig B32 m).length := by
    have := dig_len_zero B32_two m
    omega
  have t1 : (((dig B32 m).length : Int) == 0) = false := beq_eq_false_iff_ne.2 (by omega)
  go_enter Tryd.func76, Tryd.ntmps76
  go_wp2_with fail
  refine (zeros_any p _ c m _ ((hp.laid _).laid _) rfl (by omega) ((hT.laid _).laid _)).mono ?_
  rintro e1 w1 ⟨rfl, rfl⟩
  have htz : tz m ≤ 1000000000 := by have := tz_lt_blen h0; have := blen_len32 m; omega
  have HB := Lib.hid (bare_pos (g := g) (e := e) h0)
  obtain ⟨t, ht⟩ : ∃ t, tz m = t := ⟨_, rfl⟩
  have HT := Lib.hid ht
  rw [ht] at htz HB ⊢
  clear ht
  go_wp2_with fail
  have B1 := (box3_new w (.bool g) (.slice p (dig B32 m).length c) (.int .i64 e) 62).past ((Below.refl _ _).alloc (Nat.le_refl _) (.cells #[.bool false, .slice none 0 0, .int .i64 0] 62))
  have B2 := box3_new (w.alloc (.cells #[.bool g, .slice p (dig B32 m).length c, .int .i64 e] 62)) (.bool false) (.slice none 0 0) (.int .i64 0) 62
  have hp1 := (hp.laid (.cells #[.bool g, .slice p (dig B32 m).length c, .int .i64 e] 62)).laid (.cells #[.bool false, .slice none 0 0, .int .i64 0] 62)
  have hs1 : Below w.heap.size w ((w.alloc (.cells #[.bool g, .slice p (dig B32 m).length c, .int .i64 e] 62)).alloc (.cells #[.bool false, .slice none 0 0, .int .i64 0] 62)) := ((Below.refl _ _).alloc (Nat.le_refl _) _).alloc (by simp) _
  have ez : (w.alloc (.cells #[.bool g, .slice p (dig B32 m).length c, .int .i64 e] 62)).heap.size = w.heap.size + 1 := by simp
  rw [ez] at B2
  clear ez
  generalize (w.alloc (.cells #[.bool g, .slice p (dig B32 m).length c, .int .i64 e] 62)).alloc (.cells #[.bool false, .slice none 0 0, .int .i64 0] 62) = W1 at *
  have e1 : IntKind.i64.wrap (e + (t : Int)) = e + (t : Int) := IntWalk.i64_in _ (by omega)
  go_region_held3 (fun w' => w'.cell? ⟨w.heap.size, 0, none⟩ = some (.bool g) ∧ w'.cell? ⟨w.heap.size, 1, none⟩ = some (.slice p (dig B32 m).length c) ∧ w'.cell? ⟨w.heap.size, 2, none⟩ = some (.int .i64 e))
    (first | exact ⟨B1.c0, B1.c1, B1.c2⟩
           | (have D1 := B1.drew; exact ⟨D1.c0, D1.c1, D1.c2⟩)
           | (have D1 := B1.drew.past hb2; exact ⟨D1.c0, D1.c1, D1.c2⟩)
           | go_keep)
    (first | (go_at_call 73; refine (shr_any p _ c m t _ hp1.drew rfl hc (by clear e1; omega) (by clear e1; omega)).mono ?_; rintro e2 w2 ⟨p2, c2, rfl, ho2, hb2⟩; obtain ⟨d0, d1, d2, f0, f1, f2, dlt⟩ := B2.drew.past hb2))
  all_goals (go_wp2_with fail)
  refine bodyPost_ret (v := .agg #[.bool g, .slice p2 (dig B32 (m / 2 ^ t)).length c2, .int .i64 (e + (t : Int))]) (by simp [results, Tryd.results76, go_sem, d0, d1, d2]) rfl ?_
  rw [HB.out]
  clear e1
  have hs2 := hs1.drew.trans (hb2.mono hs1.size)
  have hz := B2.lt
  refine ⟨p2, c2, rfl, (ho2.mono hs1.size).same (fun h => ?_), ((hs2.setCell (by simp) _).setCell (by simp) _).setCell (by simp) _⟩
  have hk := (ho2.blk_lt h).1
  have hne : blk p2 ≠ w.heap.size + 1 := by
    have : W1.drew.heap.size = W1.heap.size := rfl
    omega
  rw [Below.heap_setCell _ _ _ _ hne, Below.heap_setCell _ _ _ _ hne, Below.heap_setCell _ _ _ _ hne]

theorem bareRaw_any (g : Bool) (p : Option Addr) (n c : Nat) (e : Int) (m : Nat) (w : World) (hp : Rd w .u32 p (dig B32 m)) (hn : n = (dig B32 m).length) (hc : n ≤ c) (hl : (dig B32 m).length ≤ 10000000)
    (he : -1000000000 ≤ e ∧ e ≤ 1000000000) (hT : TabW w) :
    Calls Tryd.prog 76 #[.agg #[.bool g, .slice p n c, .int .i64 e]] w (GivesD w w.heap.size (bare ⟨g, m, e⟩)) := by
  by_cases h0 : m = 0
  · subst h0
    rw [dig_zero] at hn
    subst hn
    exact bare_zero_any g p c e w
  · exact bare_pos_any g p n c e m w hp hn hc hl (by omega) he hT

end Go.Proofs.YtehodhanojgkgaaDoor

namespace Go.Proofs.YtehodhanojgkgaaDoor
open Go.RowKit Go.Slip

set_option maxHeartbeats 1000000 in
theorem ofD_any (g : Bool) (p : Option Addr) (n c : Nat) (e : Int) (m : Nat) (w : World) (hp : Rd w .u32 p (dig B32 m)) (hn : n = (dig B32 m).length) (hc : n ≤ c) (hl : (dig B32 m).length ≤ 10000000)
    (he : -1000000000 ≤ e ∧ e ≤ 1000000000) (hT : TabW w) :
    Calls Tryd.prog 71 #[.agg #[.bool g, .slice p n c, .int .i64 e]] w (GivesD w w.heap.size (bare ⟨g, m, e⟩)) := by
  subst hn
  have hs1 : Below w.heap.size w ((w.alloc (.cells #[.bool g, .slice p (dig B32 m).length c, .int .i64 e] 25)).alloc (.cells #[.bool false, .slice none 0 0, .int .i64 0] 62)) := ((Below.refl _ _).alloc (Nat.le_refl _) _).alloc (by simp) _
  have B2 := box3_new (w.alloc (.cells #[.bool g, .slice p (dig B32 m).length c, .int .i64 e] 25)) (.bool false) (.slice none 0 0) (.int .i64 0) 62
  have ez : (w.alloc (.cells #[.bool g, .slice p (dig B32 m).length c, .int .i64 e] 25)).heap.size = w.heap.size + 1 := by simp
  rw [ez] at B2
  clear ez
  go_enter Tryd.func71, Tryd.ntmps71
  go_wp2_with fail
  ((with_reducible refine (bareRaw_any g p _ c e m _ ((hp.laid _).laid _) rfl hc hl he ((hT.laid _).laid _)).mono ?_))
  generalize bare ⟨g, m, e⟩ = r at *
  generalize (w.alloc (.cells #[.bool g, .slice p (dig B32 m).length c, .int .i64 e] 25)).alloc (.cells #[.bool false, .slice none 0 0, .int .i64 0] 62) = W1 at *
  rintro e2 w2 ⟨p2, c2, rfl, ho2, hb2⟩
  obtain ⟨d0, d1, d2, f0, f1, f2, dlt⟩ := B2.past hb2
  go_wp2_with fail
  refine bodyPost_ret (v := .agg #[.bool r.neg, .slice p2 (dig B32 r.m).length c2, .int .i64 r.e]) (by simp [results, Tryd.results71, go_sem, d0, d1, d2]) rfl ?_
  have hs2 := hs1.trans (hb2.mono hs1.size)
  have hz := B2.lt
  refine ⟨p2, c2, rfl, (ho2.mono hs1.size).same (fun h => ?_), ((hs2.setCell (by simp) _).setCell (by simp) _).setCell (by simp) _⟩
  have hk := (ho2.blk_lt h).1
  have hne : blk p2 ≠ w.heap.size + 1 := by omega
  rw [Below.heap_setCell _ _ _ _ hne, Below.heap_setCell _ _ _ _ hne, Below.heap_setCell _ _ _ _ hne]

/-- A number with a point, as a call takes it: its digits in a row of the call's own. -/
theorem signD_any (g : Bool) (p : Option Addr) (n c : Nat) (e : Int) (m : Nat) (w : World) (hn : n = (dig B32 m).length) :
    Calls Tryd.prog 51 #[.agg #[.bool g, .slice p n c, .int .i64 e]] w fun en w' => en = .returned (.int .i64 (dSign ⟨g, m, e⟩)) ∧ Below w.heap.size w w' := by
  have hb : Below w.heap.size w (w.alloc (.cells #[.bool g, .slice p n c, .int .i64 e] 62)) := (Below.refl _ _).alloc (Nat.le_refl _) _
  by_cases h0 : m = 0
  · subst h0
    rw [dig_zero] at hn
    subst hn
    go_enter Tryd.func51, Tryd.ntmps51
    go_wp2
    go_ret
    exact ⟨rfl, hb⟩
  · have hl0 : 0 < n := by
      have := dig_len_zero B32_two m
      omega
    have t1 : ((n : Int) == 0) = false := beq_eq_false_iff_ne.2 (by omega)
    have hs : dSign ⟨g, m, e⟩ = if g then -1 else 1 := by unfold dSign; rw [if_neg h0]
    rw [hs]
    clear hn h0 hs
    cases g
    · go_enter Tryd.func51, Tryd.ntmps51
      go_wp2
      go_ret
      exact ⟨rfl, hb⟩
    · go_enter Tryd.func51, Tryd.ntmps51
      go_wp2
      go_ret
      exact ⟨rfl, hb⟩

end Go.Proofs.YtehodhanojgkgaaDoor

namespace Go.Proofs.YtehodhanojgkgaaDoor
open Go.RowKit Go.Slip

/-- The same, with an errno beside it. -/
def GivesDE (w : World) (base : Nat) (d : Dv) (er : Int) (en : Ending) (w' : World) : Prop :=
  ∃ p c, en = .returned (.tuple #[.agg #[.bool d.neg, .slice p (dig B32 d.m).length c, .int .i64 d.e], .int .i64 er]) ∧ Own w' base .u32 58 p c (dig B32 d.m) ∧ Below w.heap.size w w'

theorem two_laid (w : World) (o1 o2 : Obj) : Below w.heap.size w ((w.alloc o1).alloc o2) := ((Below.refl _ _).alloc (Nat.le_refl _) _).alloc (by simp) _

set_option maxHeartbeats 1000000 in
theorem doneR_any (g : Bool) (p : Option Addr) (n c base : Nat) (e : Int) (m : Nat) (w : World) (ho : Own w base .u32 58 p c (dig B32 m)) (hn : n = (dig B32 m).length) (hl : (dig B32 m).length ≤ 1000000000) :
    Calls Tryd.prog 62 #[.agg #[.bool g, .slice p n c, .int .i64 e]] w (GivesDE w base (doneD ⟨g, m, e⟩) (errD ⟨g, m, e⟩)) := by
  subst hn
  by_cases h1 : 1200 < (dig B32 m).length
  · have he : errD ⟨g, m, e⟩ = 2 := by unfold errD; rw [if_pos h1]
    have hd : doneD ⟨g, m, e⟩ = ⟨false, 0, 0⟩ := by unfold doneD; rw [he, if_neg (by omega)]; rfl
    rw [he, hd]
    clear he hd
    go_enter Tryd.func62, Tryd.ntmps62
    go_wp2
    refine bodyPost_ret (v := .tuple #[.agg #[.bool false, .slice none 0 0, .int .i64 0], .int .i64 2]) (by simp [results, Tryd.results62, go_sem]) rfl ?_
    exact ⟨none, 0, by rw [dig_zero]; rfl, by rw [dig_zero]; exact Own.nil _ _ _ _, two_laid _ _ _⟩
  · by_cases h2 : e < -20000 ∨ 20000 < e
    · have he : errD ⟨g, m, e⟩ = 3 := by unfold errD; rw [if_neg h1, if_pos h2]
      have hd : doneD ⟨g, m, e⟩ = ⟨false, 0, 0⟩ := by unfold doneD; rw [he, if_neg (by omega)]; rfl
      rw [he, hd]
      clear he hd
      rcases h2 with h2 | h2
      · go_enter Tryd.func62, Tryd.ntmps62
        go_wp2
        refine bodyPost_ret (v := .tuple #[.agg #[.bool false, .slice none 0 0, .int .i64 0], .int .i64 3]) (by simp [results, Tryd.results62, go_sem]) rfl ?_
        exact ⟨none, 0, by rw [dig_zero]; rfl, by rw [dig_zero]; exact Own.nil _ _ _ _, two_laid _ _ _⟩
      · have h3 : ¬ e < -20000 := by omega
        go_enter Tryd.func62, Tryd.ntmps62
        go_wp2
        refine bodyPost_ret (v := .tuple #[.agg #[.bool false, .slice none 0 0, .int .i64 0], .int .i64 3]) (by simp [results, Tryd.results62, go_sem]) rfl ?_
        exact ⟨none, 0, by rw [dig_zero]; rfl, by rw [dig_zero]; exact Own.nil _ _ _ _, two_laid _ _ _⟩
    · have he : errD ⟨g, m, e⟩ = 0 := by unfold errD; rw [if_neg h1, if_neg h2]
      have hd : doneD ⟨g, m, e⟩ = ⟨g, m, e⟩ := by unfold doneD; rw [he, if_pos rfl]
      rw [he, hd]
      have h3 : ¬ e < -20000 := by omega
      have h4 : ¬ 20000 < e := by omega
      clear he hd h2
      go_enter Tryd.func62, Tryd.ntmps62
      go_wp2
      refine bodyPost_ret (v := .tuple #[.agg #[.bool g, .slice p (dig B32 m).length c, .int .i64 e], .int .i64 0]) (by simp [results, Tryd.results62, go_sem]) rfl ?_
      exact ⟨p, c, rfl, (ho.laid _).laid _, two_laid _ _ _⟩

end Go.Proofs.YtehodhanojgkgaaDoor

namespace Go.Proofs.YtehodhanojgkgaaDoor
open Go.RowKit Go.Slip

theorem TabW.below {w w' : World} {B : Nat} (h : TabW w) (hb : Below B w w') (hB : 0 < B) : TabW w' :=
  ⟨fun j hj => by rw [Below.cell hb hB]; exact h.1 j hj, Nat.lt_of_lt_of_le h.2 hb.size⟩

theorem Box3.below {w w' : World} {B b : Nat} {v0 v1 v2 : Value} (h : Box3 w b v0 v1 v2) (hb : Below B w w') (hB : b < B) : Box3 w' b v0 v1 v2 :=
  ⟨by rw [Below.cell hb hB]; exact h.c0, by rw [Below.cell hb hB]; exact h.c1, by rw [Below.cell hb hB]; exact h.c2,
   by rw [Below.frozen hb hB]; exact h.f0, by rw [Below.frozen hb hB]; exact h.f1, by rw [Below.frozen hb hB]; exact h.f2, Nat.lt_of_lt_of_le h.lt hb.size⟩

theorem Box3.set {w : World} {b k o : Nat} {v0 v1 v2 u : Value} (h : Box3 w b v0 v1 v2) (hne : b < k) : Box3 (w.setCell ⟨k, o, none⟩ u) b v0 v1 v2 := by
  have hb : Below k w (w.setCell ⟨k, o, none⟩ u) := (Below.refl k w).setCell (p := ⟨k, o, none⟩) (Nat.le_refl _) u
  exact ⟨by rw [Below.cell hb hne]; exact h.c0, by rw [Below.cell hb hne]; exact h.c1, by rw [Below.cell hb hne]; exact h.c2,
   by rw [Below.frozen hb hne]; exact h.f0, by rw [Below.frozen hb hne]; exact h.f1, by rw [Below.frozen hb hne]; exact h.f2, Nat.lt_of_lt_of_le h.lt hb.size⟩

theorem Box3.laid {w : World} {b : Nat} {v0 v1 v2 : Value} (h : Box3 w b v0 v1 v2) (o : Obj) : Box3 (w.alloc o) b v0 v1 v2 := h.past ((Below.refl _ _).alloc (Nat.le_refl _) _)

theorem box2s (w : World) (a0 a1 a2 r0 r1 r2 : Value) (tA tR : TypeId) : ∃ W1, W1 = (w.alloc (.cells #[a0, a1, a2] tA)).alloc (.cells #[r0, r1, r2] tR) ∧
    Below w.heap.size w W1 ∧ Box3 W1 w.heap.size a0 a1 a2 ∧ Box3 W1 (w.heap.size + 1) r0 r1 r2 ∧ W1.heap.size = w.heap.size + 1 + 1 := by
  refine ⟨_, rfl, two_laid _ _ _, (box3_new w _ _ _ _).laid _, ?_, by simp⟩
  have := box3_new (w.alloc (.cells #[a0, a1, a2] tA)) r0 r1 r2 tR
  simpa using this

theorem box3s (w : World) (a0 a1 a2 b0 b1 b2 r0 r1 r2 : Value) (tA tB tR : TypeId) : ∃ W1, W1 = ((w.alloc (.cells #[a0, a1, a2] tA)).alloc (.cells #[b0, b1, b2] tB)).alloc (.cells #[r0, r1, r2] tR) ∧
    Below w.heap.size w W1 ∧ Box3 W1 w.heap.size a0 a1 a2 ∧ Box3 W1 (w.heap.size + 1) b0 b1 b2 ∧ Box3 W1 (w.heap.size + 1 + 1) r0 r1 r2 ∧ W1.heap.size = w.heap.size + 1 + 1 + 1 := by
  refine ⟨_, rfl, (two_laid _ _ _).alloc (by simp; omega) _, ((box3_new w _ _ _ _).laid _).laid _, ?_, ?_, by simp⟩
  · have := (box3_new (w.alloc (.cells #[a0, a1, a2] tA)) b0 b1 b2 tB).laid (.cells #[r0, r1, r2] tR)
    simpa using this
  · have := box3_new ((w.alloc (.cells #[a0, a1, a2] tA)).alloc (.cells #[b0, b1, b2] tB)) r0 r1 r2 tR
    simpa using this

/-- The last store into the box of the result. -/
theorem givesD_close {w wk : World} {base base' b : Nat} {d : Dv} {p : Option Addr} {c : Nat} {v0 v1 v2 : Value} (hs : Below w.heap.size w wk) (ho : Own wk base' .u32 58 p c (dig B32 d.m)) (hb : base ≤ base') (hB : w.heap.size ≤ b)
    (hne : p.isSome = true → blk p ≠ b) :
    GivesD w base d (.returned (.agg #[.bool d.neg, .slice p (dig B32 d.m).length c, .int .i64 d.e])) (((wk.setCell ⟨b, 0, none⟩ v0).setCell ⟨b, 1, none⟩ v1).setCell ⟨b, 2, none⟩ v2) :=
  ⟨p, c, rfl, (ho.mono hb).same (fun h => by rw [Below.heap_setCell _ _ _ _ (hne h), Below.heap_setCell _ _ _ _ (hne h), Below.heap_setCell _ _ _ _ (hne h)]), ((hs.setCell (by simp; omega) _).setCell (by simp; omega) _).setCell (by simp; omega) _⟩

/-- A number with a point that a reference leaves: it reads so; its digits lie in new memory, or in a block that is fit. -/
def GivesF (w : World) (fit : Nat → Prop) (d : Dv) (en : Ending) (w' : World) : Prop :=
  ∃ p c, en = .returned (.agg #[.bool d.neg, .slice p (dig B16 d.m).length c, .int .i64 d.e]) ∧ Rd w' .i64 p (dig B16 d.m) ∧ (dig B16 d.m).length ≤ c ∧ (0 < (dig B16 d.m).length → fit (blk p) ∨ w.heap.size ≤ blk p) ∧ Below w.heap.size w w'

theorem givesF_close {w wk : World} {fit : Nat → Prop} {b : Nat} {d : Dv} {p : Option Addr} {c : Nat} {v0 v1 v2 : Value} (hs : Below w.heap.size w wk) (hr : Rd wk .i64 p (dig B16 d.m)) (hc : (dig B16 d.m).length ≤ c)
    (hf : 0 < (dig B16 d.m).length → fit (blk p) ∨ w.heap.size ≤ blk p) (hB : w.heap.size ≤ b) (hne : 0 < (dig B16 d.m).length → blk p ≠ b) :
    GivesF w fit d (.returned (.agg #[.bool d.neg, .slice p (dig B16 d.m).length c, .int .i64 d.e])) (((wk.setCell ⟨b, 0, none⟩ v0).setCell ⟨b, 1, none⟩ v1).setCell ⟨b, 2, none⟩ v2) :=
  ⟨p, c, rfl, hr.same (fun h => by rw [Below.heap_setCell _ _ _ _ (hne h), Below.heap_setCell _ _ _ _ (hne h), Below.heap_setCell _ _ _ _ (hne h)]), hc, hf, ((hs.setCell (by simp; omega) _).setCell (by simp; omega) _).setCell (by simp; omega) _⟩

end Go.Proofs.YtehodhanojgkgaaDoor

namespace Go.Proofs.YtehodhanojgkgaaDoor
open Go.RowKit Go.Slip

theorem Box3.put {w : World} {b : Nat} {v0 v1 v2 : Value} (h : Box3 w b v0 v1 v2) (u0 u1 u2 : Value) : Box3 (((w.setCell ⟨b, 0, none⟩ u0).setCell ⟨b, 1, none⟩ u1).setCell ⟨b, 2, none⟩ u2) b u0 u1 u2 := by
  have h1 : Box3 (w.setCell ⟨b, 0, none⟩ u0) b u0 v1 v2 :=
    ⟨World.cell?_setCell_same _ _ _ h.c0, (World.cell?_setCell_other _ _ _ _ (by simp)).trans h.c1, (World.cell?_setCell_other _ _ _ _ (by simp)).trans h.c2, by simpa using h.f0, by simpa using h.f1, by simpa using h.f2, by simpa using h.lt⟩
  have h2 : Box3 ((w.setCell ⟨b, 0, none⟩ u0).setCell ⟨b, 1, none⟩ u1) b u0 u1 v2 :=
    ⟨(World.cell?_setCell_other _ _ _ _ (by simp)).trans h1.c0, World.cell?_setCell_same _ _ _ h1.c1, (World.cell?_setCell_other _ _ _ _ (by simp)).trans h1.c2, by simpa using h.f0, by simpa using h.f1, by simpa using h.f2, by simpa using h.lt⟩
  exact ⟨(World.cell?_setCell_other _ _ _ _ (by simp)).trans h2.c0, (World.cell?_setCell_other _ _ _ _ (by simp)).trans h2.c1, World.cell?_setCell_same _ _ _ h2.c2, by simpa using h.f0, by simpa using h.f1, by simpa using h.f2, by simpa using h.lt⟩

end Go.Proofs.YtehodhanojgkgaaDoor

namespace Go.Proofs.YtehodhanojgkgaaDoor
open Go.RowKit Go.Slip

theorem _root_.Go.Slip.Bx.bb3 {w : World} {b : Nat} {v0 v1 v2 : Value} (h : Bx w b #[v0, v1, v2]) : Box3 w b v0 v1 v2 :=
  ⟨h.e3.1, h.e3.2.1, h.e3.2.2, h.f 0, h.f 1, h.f 2, h.lt⟩

set_option maxHeartbeats 1000000 in
theorem whole_any (p : Option Addr) (n c : Nat) (e : Int) (m : Nat) (w : World) (hp : Rd w .u32 p (dig B32 m)) (hn : n = (dig B32 m).length) (hc : n ≤ c) (hl : (dig B32 m).length ≤ 10000000)
    (he : -1000000000 ≤ e ∧ e ≤ 1000000000) (hT : TabW w) :
    Calls Tryd.prog 86 #[.slice p n c, .int .i64 e] w (GivesD w w.heap.size (bare ⟨false, m, e⟩)) := by
  subst hn
  go_enter Tryd.func86, Tryd.ntmps86
  go_wp2_with fail
  refine calls_lay1 (fun W1 hb1 hz1 R => ?_)
  replace hp := hp.past hb1
  replace hT := hT.past hb1
  have hs1 := hb1
  ((with_reducible refine (bareRaw_any false p _ c e m _ hp rfl hc hl he hT).mono ?_))
  generalize bare ⟨false, m, e⟩ = r at *
  rintro e2 w2 ⟨p2, c2, rfl, ho2, hb2⟩
  replace R := R.past hb2
  obtain ⟨R_0, R_1, R_2⟩ := R.e3
  have R_f0 := R.f 0
  have R_f1 := R.f 1
  have R_f2 := R.f 2
  go_wp2_with fail
  clear R_0 R_1 R_2 R_f0 R_f1 R_f2
  obtain ⟨R_0, R_1, R_2⟩ := R.e3
  refine bodyPost_ret (v := .agg #[.bool r.neg, .slice p2 (dig B32 r.m).length c2, .int .i64 r.e]) (by simp [results, Tryd.results86, go_sem, R_0, R_1, R_2]) rfl ?_
  have hz := hs1.size
  exact givesD_close (hs1.trans (hb2.mono hs1.size)) ho2 hz (Nat.le_refl _) (fun h => by have := (ho2.blk_lt h).1; omega)

set_option maxHeartbeats 1000000 in
theorem opp_any (g : Bool) (p : Option Addr) (n c : Nat) (e : Int) (m : Nat) (w : World) (hn : n = (dig B32 m).length) :
    Calls Tryd.prog 87 #[.agg #[.bool g, .slice p n c, .int .i64 e]] w fun en w' => en = .returned (.agg #[.bool (dMinus ⟨g, m, e⟩).neg, .slice p (dig B32 m).length c, .int .i64 e]) ∧ Below w.heap.size w w' := by
  subst hn
  have hz := dig_len_zero B32_two m
  have A := (bx_new w #[.bool g, .slice p (dig B32 m).length c, .int .i64 e] 62).bb3
  cases g
  · by_cases h0 : 0 < (dig B32 m).length
    · have t1 : decide ((0 : Int) < ((dig B32 m).length : Int)) = true := decide_eq_true (by omega)
      have hd : (dMinus ⟨false, m, e⟩).neg = true := by unfold dMinus; simp; (try omega)
      rw [hd]
      clear hd hz
      obtain ⟨A_0, A_1, A_2, A_f0, A_f1, A_f2, A_lt⟩ := A
      go_enter Tryd.func87, Tryd.ntmps87
      go_wp2_with fail
      refine bodyPost_ret (v := .agg #[.bool true, .slice p (dig B32 m).length c, .int .i64 e]) (by simp [results, Tryd.results87, go_sem]) rfl ?_
      exact ⟨rfl, below_lay2 _ _ _⟩
    · have t1 : decide ((0 : Int) < ((dig B32 m).length : Int)) = false := decide_eq_false (by omega)
      have hd : (dMinus ⟨false, m, e⟩).neg = false := by unfold dMinus; simp; (try omega)
      rw [hd]
      clear hd hz
      obtain ⟨A_0, A_1, A_2, A_f0, A_f1, A_f2, A_lt⟩ := A
      go_enter Tryd.func87, Tryd.ntmps87
      go_wp2_with fail
      refine bodyPost_ret (v := .agg #[.bool false, .slice p (dig B32 m).length c, .int .i64 e]) (by simp [results, Tryd.results87, go_sem]) rfl ?_
      exact ⟨rfl, below_lay2 _ _ _⟩
  · have t1 := True.intro
    have hd : (dMinus ⟨true, m, e⟩).neg = false := by unfold dMinus; simp; (try omega)
    rw [hd]
    clear hd hz
    obtain ⟨A_0, A_1, A_2, A_f0, A_f1, A_f2, A_lt⟩ := A
    go_enter Tryd.func87, Tryd.ntmps87
    go_wp2_with fail
    refine bodyPost_ret (v := .agg #[.bool false, .slice p (dig B32 m).length c, .int .i64 e]) (by simp [results, Tryd.results87, go_sem]) rfl ?_
    exact ⟨rfl, below_lay2 _ _ _⟩

end Go.Proofs.YtehodhanojgkgaaDoor
