/- dyad: Plus, whatever the two are. -/
import Derived.Test.YtpdmajoofllhdaaDoorZDyad5
namespace Go.Proofs.YtpdmajoofllhdaaDoor
open Go.RowKit Go.Slip


set_option maxHeartbeats 1000000 in
theorem plus_left (g h : Bool) (p q : Option Addr) (c d base : Nat) (e f : Int) (b : Nat) (w : World) (hq : Own w base .u32 59 q d (dig B32 b)) (hbase : base ≤ w.heap.size) :
    Calls Tryd.prog 71 #[.agg #[.bool g, .slice p 0 c, .int .i64 e], .agg #[.bool h, .slice q (dig B32 b).length d, .int .i64 f]] w (GivesD w base ⟨h, b, f⟩) := by
  obtain ⟨W1, hW1⟩ : ∃ W1, W1 = ((w.alloc (.cells #[.bool g, .slice p 0 c, .int .i64 e] 73)).alloc (.cells #[.bool h, .slice q (dig B32 b).length d, .int .i64 f] 73)).alloc (.cells #[.bool false, .slice none 0 0, .int .i64 0] 73) := ⟨_, rfl⟩
  have hs1 : Below w.heap.size w W1 := by rw [hW1]; exact (two_laid _ _ _).alloc (by simp; omega) _
  have A1 : Box3 W1 w.heap.size (.bool g) (.slice p 0 c) (.int .i64 e) := by
    rw [hW1]; exact ((box3_new w _ _ _ _).past ((Below.refl _ _).alloc (Nat.le_refl _) _)).past ((Below.refl _ _).alloc (Nat.le_refl _) _)
  have B1 : Box3 W1 (w.heap.size + 1) (.bool h) (.slice q (dig B32 b).length d) (.int .i64 f) := by
    have := (box3_new (w.alloc (.cells #[.bool g, .slice p 0 c, .int .i64 e] 73)) (.bool h) (.slice q (dig B32 b).length d) (.int .i64 f) 73).past ((Below.refl _ _).alloc (Nat.le_refl _) (.cells #[.bool false, .slice none 0 0, .int .i64 0] 73))
    rw [hW1]; simpa using this
  have R1 : Box3 W1 (w.heap.size + 1 + 1) (.bool false) (.slice none 0 0) (.int .i64 0) := by
    have := box3_new ((w.alloc (.cells #[.bool g, .slice p 0 c, .int .i64 e] 73)).alloc (.cells #[.bool h, .slice q (dig B32 b).length d, .int .i64 f] 73)) (.bool false) (.slice none 0 0) (.int .i64 0) 73
    rw [hW1]; simpa using this
  have HW1 := Lib.hid hW1
  clear hW1
  have hqW := hq.past hs1
  have hsa : dSign ⟨g, 0, e⟩ = 0 := rfl
  have HS := Lib.hid hsa
  clear hsa
  go_enter Tryd.func71, Tryd.ntmps71
  go_wp2_with fail
  rw [← HW1.out]
  ((with_reducible refine (signD_any g p _ c e 0 _ (by simp [dig_zero])).mono ?_))
  rintro e2 w2 ⟨rfl, hb2⟩
  rw [HS.out]
  have hs2 := hs1.trans (hb2.mono hs1.size)
  obtain ⟨b0, b1, b2, _, _, _, _⟩ := B1.past hb2
  obtain ⟨d0, d1, d2, f0, f1, f2, dlt⟩ := R1.past hb2
  have hqW := hqW.past hb2
  clear hb2 HW1
  go_wp2_with fail
  refine bodyPost_ret (v := .agg #[.bool h, .slice q (dig B32 b).length d, .int .i64 f]) (by simp [results, Tryd.results71, go_sem, d0, d1, d2]) rfl ?_
  refine ⟨q, d, rfl, hqW.same (fun hh => ?_), ((hs2.setCell (by simp; omega) _).setCell (by simp; omega) _).setCell (by simp; omega) _⟩
  have hk := (hq.blk_lt hh).2
  have hne : blk q ≠ w.heap.size + 1 + 1 := by omega
  rw [Below.heap_setCell _ _ _ _ hne, Below.heap_setCell _ _ _ _ hne, Below.heap_setCell _ _ _ _ hne]

set_option maxHeartbeats 1000000 in
theorem plus_right (g h : Bool) (p q : Option Addr) (c d base : Nat) (e f : Int) (a : Nat) (w : World) (hp : Own w base .u32 59 p c (dig B32 a)) (ha : 0 < a) (hbase : base ≤ w.heap.size) :
    Calls Tryd.prog 71 #[.agg #[.bool g, .slice p (dig B32 a).length c, .int .i64 e], .agg #[.bool h, .slice q 0 d, .int .i64 f]] w (GivesD w base ⟨g, a, e⟩) := by
  obtain ⟨W1, hW1⟩ : ∃ W1, W1 = ((w.alloc (.cells #[.bool g, .slice p (dig B32 a).length c, .int .i64 e] 73)).alloc (.cells #[.bool h, .slice q 0 d, .int .i64 f] 73)).alloc (.cells #[.bool false, .slice none 0 0, .int .i64 0] 73) := ⟨_, rfl⟩
  have hs1 : Below w.heap.size w W1 := by rw [hW1]; exact (two_laid _ _ _).alloc (by simp; omega) _
  have A1 : Box3 W1 w.heap.size (.bool g) (.slice p (dig B32 a).length c) (.int .i64 e) := by
    rw [hW1]; exact ((box3_new w _ _ _ _).past ((Below.refl _ _).alloc (Nat.le_refl _) _)).past ((Below.refl _ _).alloc (Nat.le_refl _) _)
  have B1 : Box3 W1 (w.heap.size + 1) (.bool h) (.slice q 0 d) (.int .i64 f) := by
    have := (box3_new (w.alloc (.cells #[.bool g, .slice p (dig B32 a).length c, .int .i64 e] 73)) (.bool h) (.slice q 0 d) (.int .i64 f) 73).past ((Below.refl _ _).alloc (Nat.le_refl _) (.cells #[.bool false, .slice none 0 0, .int .i64 0] 73))
    rw [hW1]; simpa using this
  have R1 : Box3 W1 (w.heap.size + 1 + 1) (.bool false) (.slice none 0 0) (.int .i64 0) := by
    have := box3_new ((w.alloc (.cells #[.bool g, .slice p (dig B32 a).length c, .int .i64 e] 73)).alloc (.cells #[.bool h, .slice q 0 d, .int .i64 f] 73)) (.bool false) (.slice none 0 0) (.int .i64 0) 73
    rw [hW1]; simpa using this
  have HW1 := Lib.hid hW1
  clear hW1
  have hpW := hp.past hs1
  have hsa := dSign_pos (g := g) (e := e) ha
  have HS := Lib.hid (show dSign ⟨h, 0, f⟩ = 0 from rfl)
  go_enter Tryd.func71, Tryd.ntmps71
  go_wp2_with fail
  rw [← HW1.out]
  ((with_reducible refine (signD_any g p _ c e a _ rfl).mono ?_))
  rintro e2 w2 ⟨rfl, hb2⟩
  generalize dSign ⟨g, a, e⟩ = sa at *
  have hs2 := hs1.trans (hb2.mono hs1.size)
  have A2 := A1.past hb2
  have B2 := B1.past hb2
  have R2 := R1.past hb2
  have hpW := hpW.past hb2
  obtain ⟨b0, b1, b2, _, _, _, _⟩ := B2
  clear hb2 HW1
  go_wp2_with fail
  ((with_reducible refine (signD_any h q _ d f 0 _ (by simp [dig_zero])).mono ?_))
  rintro e3 w3 ⟨rfl, hb3⟩
  rw [HS.out]
  have hs3 := hs2.trans (hb3.mono hs2.size)
  obtain ⟨a0, a1, a2, _, _, _, _⟩ := A2.past hb3
  obtain ⟨d0, d1, d2, f0, f1, f2, dlt⟩ := R2.past hb3
  have hpW := hpW.past hb3
  clear hb3 b0 b1 b2
  go_wp2_with fail
  refine bodyPost_ret (v := .agg #[.bool g, .slice p (dig B32 a).length c, .int .i64 e]) (by simp [results, Tryd.results71, go_sem, d0, d1, d2]) rfl ?_
  refine ⟨p, c, rfl, hpW.same (fun hh => ?_), ((hs3.setCell (by simp; omega) _).setCell (by simp; omega) _).setCell (by simp; omega) _⟩
  have hk := (hp.blk_lt hh).2
  have hne : blk p ≠ w.heap.size + 1 + 1 := by omega
  rw [Below.heap_setCell _ _ _ _ hne, Below.heap_setCell _ _ _ _ hne, Below.heap_setCell _ _ _ _ hne]

theorem plusD_any (g h : Bool) (p q : Option Addr) (n c m d base : Nat) (e f : Int) (a b : Nat) (w : World) (hp : Own w base .u32 59 p c (dig B32 a)) (hq : Own w base .u32 59 q d (dig B32 b)) (hn : n = (dig B32 a).length) (hm : m = (dig B32 b).length)
    (hl : (dig B32 a).length ≤ 1000000) (hl2 : (dig B32 b).length ≤ 1000000) (he : -1000000 ≤ e ∧ e ≤ 1000000) (hf : -1000000 ≤ f ∧ f ≤ 1000000) (hT : TabW w) (hbase : base ≤ w.heap.size) :
    Calls Tryd.prog 71 #[.agg #[.bool g, .slice p n c, .int .i64 e], .agg #[.bool h, .slice q m d, .int .i64 f]] w (GivesD w base (pPlus ⟨g, a, e⟩ ⟨h, b, f⟩)) := by
  subst hn hm
  by_cases ha : a = 0
  · subst ha
    have hE : pPlus ⟨g, 0, e⟩ ⟨h, b, f⟩ = ⟨h, b, f⟩ := by unfold pPlus; rw [if_pos rfl]
    rw [hE, dig_zero]
    exact plus_left g h p q c d base e f b w hq hbase
  · by_cases hb : b = 0
    · subst hb
      have hE : pPlus ⟨g, a, e⟩ ⟨h, 0, f⟩ = ⟨g, a, e⟩ := by unfold pPlus; rw [if_neg ha, if_pos rfl]
      rw [hE, dig_zero]
      exact plus_right g h p q c d base e f a w hp (by omega) hbase
    · refine (plus_pos_any g h p q c d base e f a b w hp hq hl hl2 he hf (by omega) (by omega) hT).mono ?_
      rintro en w' ⟨p', c', h1, h2, h3⟩
      exact ⟨p', c', h1, h2.mono hbase, h3⟩

end Go.Proofs.YtpdmajoofllhdaaDoor
