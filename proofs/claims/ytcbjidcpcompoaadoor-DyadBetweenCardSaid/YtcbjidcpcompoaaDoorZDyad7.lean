/- dyad: Times. -/
import Derived.Test.YtcbjidcpcompoaaDoorZDyad6
namespace Go.Proofs.YtcbjidcpcompoaaDoor
open Go.RowKit Go.Slip

set_option maxHeartbeats 2000000 in
set_option maxRecDepth 100000 in
theorem timesD_any (g h : Bool) (p q : Option Addr) (n c m d base : Nat) (e f : Int) (a b : Nat) (w : World) (hp : Own w base .u32 66 p c (dig B32 a)) (hq : Own w base .u32 66 q d (dig B32 b)) (hn : n = (dig B32 a).length) (hm : m = (dig B32 b).length)
    (hl : (dig B32 a).length ≤ 1000000) (hl2 : (dig B32 b).length ≤ 1000000) (he : -1000000 ≤ e ∧ e ≤ 1000000) (hf : -1000000 ≤ f ∧ f ≤ 1000000) (hT : TabW w) :
    Calls Tryd.prog 54 #[.agg #[.bool g, .slice p n c, .int .i64 e], .agg #[.bool h, .slice q m d, .int .i64 f]] w (GivesD w w.heap.size (dTimes ⟨g, a, e⟩ ⟨h, b, f⟩)) := by
  subst hn hm
  obtain ⟨W1, hW1⟩ : ∃ W1, W1 = ((w.alloc (.cells #[.bool g, .slice p (dig B32 a).length c, .int .i64 e] 60)).alloc (.cells #[.bool h, .slice q (dig B32 b).length d, .int .i64 f] 60)).alloc (.cells #[.bool false, .slice none 0 0, .int .i64 0] 60) := ⟨_, rfl⟩
  have hs1 : Below w.heap.size w W1 := by rw [hW1]; exact (two_laid _ _ _).alloc (by simp; omega) _
  have A1 : Box3 W1 w.heap.size (.bool g) (.slice p (dig B32 a).length c) (.int .i64 e) := by
    rw [hW1]; exact ((box3_new w _ _ _ _).past ((Below.refl _ _).alloc (Nat.le_refl _) _)).past ((Below.refl _ _).alloc (Nat.le_refl _) _)
  have B1 : Box3 W1 (w.heap.size + 1) (.bool h) (.slice q (dig B32 b).length d) (.int .i64 f) := by
    have := (box3_new (w.alloc (.cells #[.bool g, .slice p (dig B32 a).length c, .int .i64 e] 60)) (.bool h) (.slice q (dig B32 b).length d) (.int .i64 f) 60).past ((Below.refl _ _).alloc (Nat.le_refl _) (.cells #[.bool false, .slice none 0 0, .int .i64 0] 60))
    rw [hW1]; simpa using this
  have R1 : Box3 W1 (w.heap.size + 1 + 1) (.bool false) (.slice none 0 0) (.int .i64 0) := by
    have := box3_new ((w.alloc (.cells #[.bool g, .slice p (dig B32 a).length c, .int .i64 e] 60)).alloc (.cells #[.bool h, .slice q (dig B32 b).length d, .int .i64 f] 60)) (.bool false) (.slice none 0 0) (.int .i64 0) 60
    rw [hW1]; simpa using this
  have hpW := hp.rd.past hs1
  have hqW := hq.rd.past hs1
  have hTW := hT.past hs1
  have HW1 := Lib.hid hW1
  clear hW1
  obtain ⟨m, hm⟩ : ∃ m, a * b = m := ⟨_, rfl⟩
  have HM := Lib.hid hm
  have HJ := Lib.hid (show dTimes ⟨g, a, e⟩ ⟨h, b, f⟩ = bare ⟨!(g == h), m, e + f⟩ by rw [← hm]; unfold dTimes; cases g <;> cases h <;> rfl)
  have lm : (dig B32 m).length ≤ 5000000 := by rw [← hm]; have := dig_len_mul B32_two a b; omega
  have e1 : IntKind.i64.wrap (e + f) = e + f := IntWalk.i64_in _ (by omega)
  have hzR := R1.lt
  have hr3 : -1000000000 ≤ e + f ∧ e + f ≤ 1000000000 := ⟨by omega, by omega⟩
  clear hm
  go_enter Tryd.func54, Tryd.ntmps54
  go_wp2_with fail
  rw [← HW1.out]
  clear HW1
  go_region_held3 (fun w' => (w'.cell? ⟨w.heap.size, 0, none⟩ = some (.bool g) ∧ w'.cell? ⟨w.heap.size, 1, none⟩ = some (.slice p (dig B32 a).length c) ∧ w'.cell? ⟨w.heap.size, 2, none⟩ = some (.int .i64 e)) ∧
      (w'.cell? ⟨w.heap.size + 1, 0, none⟩ = some (.bool h) ∧ w'.cell? ⟨w.heap.size + 1, 1, none⟩ = some (.slice q (dig B32 b).length d) ∧ w'.cell? ⟨w.heap.size + 1, 2, none⟩ = some (.int .i64 f)))
    (first | exact ⟨⟨A1.c0, A1.c1, A1.c2⟩, B1.c0, B1.c1, B1.c2⟩
           | (have D1 := A1.drew; have D2 := B1.drew; exact ⟨⟨D1.c0, D1.c1, D1.c2⟩, D2.c0, D2.c1, D2.c2⟩)
           | (have D1 := A1.drew.past hb2; have D2 := B1.drew.past hb2; exact ⟨⟨D1.c0, D1.c1, D1.c2⟩, D2.c0, D2.c1, D2.c2⟩)
           | (have D1 := (A1.drew.past hb2).past hb3; have D2 := (B1.drew.past hb2).past hb3; exact ⟨⟨D1.c0, D1.c1, D1.c2⟩, D2.c0, D2.c1, D2.c2⟩)
           | (have D1 := (A1.drew.past hb2).past hb3; have D2 := (B1.drew.past hb2).past hb3; clear e1; exact ⟨⟨(((D1.set (by omega)).set (by omega)).set (by omega)).c0, (((D1.set (by omega)).set (by omega)).set (by omega)).c1, (((D1.set (by omega)).set (by omega)).set (by omega)).c2⟩, (((D2.set (by omega)).set (by omega)).set (by omega)).c0, (((D2.set (by omega)).set (by omega)).set (by omega)).c1, (((D2.set (by omega)).set (by omega)).set (by omega)).c2⟩))
    (first
      | (go_at_call 72; refine (mul_any p q _ _ c d a b _ hpW.drew hqW.drew rfl rfl (by clear e1; omega)).mono ?_; rw [HM.out]; rintro ex w2 ⟨p2, c2, rfl, ho2, hb2⟩)
      | (go_at_call 67; refine (bareRaw_any (!(g == h)) p2 _ c2 (e + f) m _ ho2.rd rfl ho2.le_cap (by clear e1; omega) hr3 (hTW.drew.past hb2)).mono ?_; generalize bare ⟨!(g == h), m, e + f⟩ = rr at *; rintro ex w3 ⟨p3, c3, rfl, ho3, hb3⟩; obtain ⟨d0, d1, d2, f0, f1, f2, dlt⟩ := (R1.drew.past hb2).past hb3))
  all_goals (go_wp2_with fail)
  refine bodyPost_ret (v := .agg #[.bool rr.neg, .slice p3 (dig B32 rr.m).length c3, .int .i64 rr.e]) (by simp [results, Tryd.results54, go_sem, d0, d1, d2]) rfl ?_
  rw [HJ.out]
  clear e1
  have hs2 := hs1.drew.trans (hb2.mono hs1.size)
  have hs3 := hs2.trans (hb3.mono hs2.size)
  have hz2 := hb2.size
  have hzd : W1.drew.heap.size = W1.heap.size := rfl
  refine ⟨p3, c3, rfl, (ho3.mono hs2.size).same (fun hh => ?_), ((hs3.setCell (by simp; omega) _).setCell (by simp; omega) _).setCell (by simp; omega) _⟩
  have hk := (ho3.blk_lt hh).1
  have hne : blk p3 ≠ w.heap.size + 1 + 1 := by omega
  rw [Below.heap_setCell _ _ _ _ hne, Below.heap_setCell _ _ _ _ hne, Below.heap_setCell _ _ _ _ hne]

end Go.Proofs.YtcbjidcpcompoaaDoor
