/- dyad: Plus.
   dyad: Plus, whatever the two are.
   dyad: Times.
   dyad: two, where one of both is not well formed.
   dyad: two, where both are well formed; Add, Mul.
   dyad: Bare, Scale. -/
import Derived.Test.YtehodhanojgkgaaDoorZE
import Derived.Test.YtehodhanojgkgaaDoorZLimb7
import Derived.Outline
import Derived.Test.YtehodhanojgkgaaDoorZDyad4
import Derived.Test.YtehodhanojgkgaaDoorZA
namespace Go.Proofs.YtehodhanojgkgaaDoor
open Go.RowKit Go.Slip

theorem dSign_pos {g : Bool} {a : Nat} {e : Int} (ha : 0 < a) : (dSign ⟨g, a, e⟩ == 0) = false := by
  unfold dSign
  rw [if_neg (by simp; omega)]
  cases g
  · rfl
  · rfl

set_option maxHeartbeats 2000000 in
set_option maxRecDepth 100000 in
theorem plus_pos_any (g h : Bool) (p q : Option Addr) (c d base : Nat) (e f : Int) (a b : Nat) (w : World) (hp : Own w base .u32 58 p c (dig B32 a)) (hq : Own w base .u32 58 q d (dig B32 b))
    (hl : (dig B32 a).length ≤ 1000000) (hl2 : (dig B32 b).length ≤ 1000000) (he : -1000000 ≤ e ∧ e ≤ 1000000) (hf : -1000000 ≤ f ∧ f ≤ 1000000) (ha : 0 < a) (hb : 0 < b) (hT : TabW w) :
    Calls Tryd.prog 84 #[.agg #[.bool g, .slice p (dig B32 a).length c, .int .i64 e], .agg #[.bool h, .slice q (dig B32 b).length d, .int .i64 f]] w (GivesD w w.heap.size (pPlus ⟨g, a, e⟩ ⟨h, b, f⟩)) := by
  obtain ⟨W1, hW1⟩ : ∃ W1, W1 = ((w.alloc (.cells #[.bool g, .slice p (dig B32 a).length c, .int .i64 e] 62)).alloc (.cells #[.bool h, .slice q (dig B32 b).length d, .int .i64 f] 62)).alloc (.cells #[.bool false, .slice none 0 0, .int .i64 0] 62) := ⟨_, rfl⟩
  have hs1 : Below w.heap.size w W1 := by rw [hW1]; exact (two_laid _ _ _).alloc (by simp; omega) _
  have A1 : Box3 W1 w.heap.size (.bool g) (.slice p (dig B32 a).length c) (.int .i64 e) := by
    rw [hW1]; exact ((box3_new w _ _ _ _).past ((Below.refl _ _).alloc (Nat.le_refl _) _)).past ((Below.refl _ _).alloc (Nat.le_refl _) _)
  have B1 : Box3 W1 (w.heap.size + 1) (.bool h) (.slice q (dig B32 b).length d) (.int .i64 f) := by
    have := (box3_new (w.alloc (.cells #[.bool g, .slice p (dig B32 a).length c, .int .i64 e] 62)) (.bool h) (.slice q (dig B32 b).length d) (.int .i64 f) 62).past ((Below.refl _ _).alloc (Nat.le_refl _) (.cells #[.bool false, .slice none 0 0, .int .i64 0] 62))
    rw [hW1]; simpa using this
  have R1 : Box3 W1 (w.heap.size + 1 + 1) (.bool false) (.slice none 0 0) (.int .i64 0) := by
    have := box3_new ((w.alloc (.cells #[.bool g, .slice p (dig B32 a).length c, .int .i64 e] 62)).alloc (.cells #[.bool h, .slice q (dig B32 b).length d, .int .i64 f] 62)) (.bool false) (.slice none 0 0) (.int .i64 0) 62
    rw [hW1]; simpa using this
  have hpW := hp.rd.past hs1
  have hqW := hq.rd.past hs1
  have hTW := hT.past hs1
  have hsa := dSign_pos (g := g) (e := e) ha
  have hsb := dSign_pos (g := h) (e := f) hb
  have HW1 := Lib.hid hW1
  clear hW1
  go_enter Tryd.func84, Tryd.ntmps84
  go_wp2_with fail
  rw [← HW1.out]
  ((with_reducible refine (signD_any g p _ c e a _ rfl).mono ?_))
  rintro e2 w2 ⟨rfl, hb2⟩
  generalize dSign ⟨g, a, e⟩ = sa at *
  have hs2 := hs1.trans (hb2.mono hs1.size)
  have A2 := A1.past hb2
  have B2 := B1.past hb2
  have R2 := R1.past hb2
  have hpW := hpW.past hb2
  have hqW := hqW.past hb2
  have hTW := hTW.past hb2
  clear hb2 A1 B1 R1 hs1
  have b0 := B2.c0
  have b1 := B2.c1
  have b2 := B2.c2
  go_wp2_with fail
  ((with_reducible refine (signD_any h q _ d f b _ rfl).mono ?_))
  rintro e3 w3 ⟨rfl, hb3⟩
  generalize dSign ⟨h, b, f⟩ = sb at *
  have hs3 := hs2.trans (hb3.mono hs2.size)
  have A3 := A2.past hb3
  have B3 := B2.past hb3
  have R3 := R2.past hb3
  have hpW := hpW.past hb3
  have hqW := hqW.past hb3
  have hTW := hTW.past hb3
  clear hb3 A2 B2 R2 hs2 b0 b1 b2 HW1
  have a2 := A3.c2
  have b2 := B3.c2
  go_wp2_with fail
  clear a2 b2
  have hk1 : min e f ≤ e := by omega
  have hk2 : min e f ≤ f := by omega
  have hk3 : -1000000 ≤ min e f := by omega
  have HP := Lib.hid (show pPlus ⟨g, a, e⟩ ⟨h, b, f⟩ = bare (joinD g h (a * 2 ^ (e - min e f).toNat) (b * 2 ^ (f - min e f).toNat) (min e f)) by
    unfold pPlus; rw [if_neg (by simp; omega), if_neg (by simp; omega)])
  generalize min e f = k at *
  obtain ⟨N1, hN1⟩ : ∃ N1, N1 = (e - k).toNat := ⟨_, rfl⟩
  obtain ⟨N2, hN2⟩ : ∃ N2, N2 = (f - k).toNat := ⟨_, rfl⟩
  rw [← hN1, ← hN2] at HP
  have n1 : N1 ≤ 2000000 := by omega
  have n2 : N2 ≤ 2000000 := by omega
  have e1 : IntKind.i64.wrap (e - k) = (N1 : Int) := by rw [IntWalk.i64_in _ (by omega)]; omega
  have e2 : IntKind.i64.wrap (f - k) = (N2 : Int) := by rw [IntWalk.i64_in _ (by omega)]; omega
  clear hN1 hN2
  go_cut [6, 7] (fun s6 s7 wx => ∃ (px : Option Addr) (cx : Nat) (py : Option Addr) (cy : Nat), s6 = .slice px (dig B32 (a * 2 ^ N1)).length cx ∧ s7 = .slice py (dig B32 (b * 2 ^ N2)).length cy ∧
    Own wx w3.heap.size .u32 58 px cx (dig B32 (a * 2 ^ N1)) ∧ Own wx w3.heap.size .u32 58 py cy (dig B32 (b * 2 ^ N2)) ∧ Below w3.heap.size w3 wx)
  case first =>
    go_region_held3 (fun w' => (w'.cell? ⟨w.heap.size, 1, none⟩ = some (.slice p (dig B32 a).length c) ∧ w'.cell? ⟨w.heap.size, 2, none⟩ = some (.int .i64 e)) ∧
        (w'.cell? ⟨w.heap.size + 1, 1, none⟩ = some (.slice q (dig B32 b).length d) ∧ w'.cell? ⟨w.heap.size + 1, 2, none⟩ = some (.int .i64 f)))
      (first | exact ⟨⟨A3.c1, A3.c2⟩, B3.c1, B3.c2⟩
             | (have D1 := A3.drew; have D2 := B3.drew; exact ⟨⟨D1.c1, D1.c2⟩, D2.c1, D2.c2⟩)
             | (have D1 := (A3.drew.past hbx).past hby; have D2 := (B3.drew.past hbx).past hby; exact ⟨⟨D1.c1, D1.c2⟩, D2.c1, D2.c2⟩)
             | (have D1 := (A3.drew.past hby).past hbx; have D2 := (B3.drew.past hby).past hbx; exact ⟨⟨D1.c1, D1.c2⟩, D2.c1, D2.c2⟩)
             | (have D1 := A3.drew.past hbx; have D2 := B3.drew.past hbx; exact ⟨⟨D1.c1, D1.c2⟩, D2.c1, D2.c2⟩)
             | (have D1 := A3.drew.past hby; have D2 := B3.drew.past hby; exact ⟨⟨D1.c1, D1.c2⟩, D2.c1, D2.c2⟩))
      (first
        | (go_at_call_of 79 (Value.slice p (dig B32 a).length c); refine (shl_any p _ c a N1 _ ?_ rfl (by clear e1 e2; omega) (by clear e1 e2; omega)).mono ?_; (first | exact hpW.drew | exact hpW.drew.past hby); rintro ex wx ⟨px, cx, rfl, hox, hbx⟩)
        | (go_at_call_of 79 (Value.slice q (dig B32 b).length d); refine (shl_any q _ d b N2 _ ?_ rfl (by clear e1 e2; omega) (by clear e1 e2; omega)).mono ?_; (first | exact hqW.drew | exact hqW.drew.past hbx); rintro ey wy ⟨py, cy, rfl, hoy, hby⟩))
    all_goals (clear e1 e2)
    all_goals (go_wp2_with fail)
    all_goals go_meet
    all_goals (first
      | exact ⟨px, cx, py, cy, rfl, rfl, hox.past hby, hoy.mono hbx.size, ((Below.refl _ _).drew.trans hbx).trans (hby.mono hbx.size)⟩
      | exact ⟨px, cx, py, cy, rfl, rfl, hox.mono hby.size, hoy.past hbx, ((Below.refl _ _).drew.trans hby).trans (hbx.mono hby.size)⟩)
  case rest =>
    obtain ⟨px, cx, py, cy, rfl, rfl, hox, hoy, hb4⟩ := hcut
    clear e1 e2
    have lX : (dig B32 (a * 2 ^ N1)).length ≤ 2000000 := by have := len_shl a N1; omega
    have lY : (dig B32 (b * 2 ^ N2)).length ≤ 2000000 := by have := len_shl b N2; omega
    generalize a * 2 ^ N1 = x at *
    generalize b * 2 ^ N2 = y at *
    have hs4 := hs3.trans (hb4.mono hs3.size)
    have A4 := A3.past hb4
    have B4 := B3.past hb4
    have R4 := R3.past hb4
    have hTW := hTW.past hb4
    have O5 := box3_new wc (.bool g) (.slice none 0 0) (.int .i64 k) 25
    have hb5 : Below wc.heap.size wc (wc.alloc (.cells #[.bool g, .slice none 0 0, .int .i64 k] 25)) := (Below.refl _ _).alloc (Nat.le_refl _) _
    have A5 := A4.past hb5
    have B5 := B4.past hb5
    have R5 := R4.past hb5
    have hTW := hTW.past hb5
    have hox := hox.past hb5
    have hoy := hoy.past hb5
    have hs5 := hs4.trans (hb5.mono hs4.size)
    have a0 := A4.c0
    have a0' := A5.c0
    have b0' := B5.c0
    by_cases hgh : g = h
    · subst hgh
      have HJ := Lib.hid (HP.out.trans (congrArg bare (show joinD g g x y k = ⟨g, x + y, k⟩ by unfold joinD; rw [if_pos rfl])))
      have hgg : (g == g) = true := by simp
      go_wp2_with fail
      ((with_reducible refine (add_any px py _ _ cx cy x y _ hox.rd hoy.rd rfl rfl (by omega) (by omega)).mono ?_))
      have lm : (dig B32 (x + y)).length ≤ 5000000 := by have := dig_len_add B32_two x y; omega
      generalize x + y = m at *
      rintro e6 w6 ⟨p6, c6, rfl, ho6, hb6⟩
      have O6 := O5.past hb6
      have R6 := R5.past hb6
      have hTW6 := hTW.past hb6
      have hs6 := hs5.trans (hb6.mono hs5.size)
      have hzc := R4.lt
      have hol := O5.lt
      obtain ⟨o0, o1, o2, f0, f1, f2, olt⟩ := O6
      have hne6 : 0 < (dig B32 m).length → blk p6 ≠ wc.heap.size := fun h0 => by
        have := (ho6.blk_lt (ho6.rd.solid h0).1).1
        omega
      clear a0 a0' b0'
      go_wp2_with fail
      have hbS : Below wc.heap.size w6 (w6.setCell ⟨wc.heap.size, 1, none⟩ (.slice p6 (dig B32 m).length c6)) := (Below.refl _ _).setCell (by simp) _
      have hr7 : Rd (w6.setCell ⟨wc.heap.size, 1, none⟩ (.slice p6 (dig B32 m).length c6)) .u32 p6 (dig B32 m) := ho6.rd.same fun h0 => Below.heap_setCell _ _ _ _ (hne6 h0)
      have hT7 := hTW6.below hbS (by omega)
      have R7 := R6.below hbS (by omega)
      have hs7 := hs6.trans (hbS.mono (by omega))
      ((with_reducible refine (bareRaw_any g p6 _ c6 k m _ hr7 rfl ho6.le_cap (by omega) ⟨by omega, by omega⟩ hT7).mono ?_))
      generalize bare ⟨g, m, k⟩ = rr at *
      rintro e8 w8 ⟨p8, c8, rfl, ho8, hb8⟩
      obtain ⟨d0, d1, d2, f0', f1', f2', dlt⟩ := R7.past hb8
      have hsz7 : w.heap.size + 1 + 1 < (w6.setCell ⟨wc.heap.size, 1, none⟩ (.slice p6 (dig B32 m).length c6)).heap.size := R7.lt
      go_wp2_with fail
      refine bodyPost_ret (v := .agg #[.bool rr.neg, .slice p8 (dig B32 rr.m).length c8, .int .i64 rr.e]) (by simp [results, Tryd.results84, go_sem, d0, d1, d2]) rfl ?_
      rw [HJ.out]
      have hs8 := hs7.trans (hb8.mono hs7.size)
      refine ⟨p8, c8, rfl, (ho8.mono hs7.size).same (fun h => ?_), ((hs8.setCell (by simp; omega) _).setCell (by simp; omega) _).setCell (by simp; omega) _⟩
      have hk := (ho8.blk_lt h).1
      have hne : blk p8 ≠ w.heap.size + 1 + 1 := by omega
      rw [Below.heap_setCell _ _ _ _ hne, Below.heap_setCell _ _ _ _ hne, Below.heap_setCell _ _ _ _ hne]
    · by_cases hxy : y ≤ x
      · have HJ := Lib.hid (HP.out.trans (congrArg bare (show joinD g h x y k = ⟨g, x - y, k⟩ by unfold joinD; rw [if_neg hgh, if_pos hxy])))
        have hgg : (g == h) = false := by simpa using hgh
        have hC : 0 ≤ cmpN x y := by unfold cmpN; rw [if_neg (by omega)]; split <;> omega
        have HXY := Lib.hid hxy
        clear hxy
        go_wp2_with fail
        ((with_reducible refine (cmp_any px py _ _ cx cy x y _ hox.rd hoy.rd rfl rfl (by omega) (by omega)).mono ?_))
        rintro e9 w9 ⟨rfl, hb9⟩
        have O5 := O5.past hb9
        have A5 := A5.past hb9
        have B5 := B5.past hb9
        have R5 := R5.past hb9
        have hTW := hTW.past hb9
        have hox := hox.past hb9
        have hoy := hoy.past hb9
        have hs5 := hs5.trans (hb9.mono hs5.size)
        have hz9 := hb9.size
        clear hb9
        go_wp2_with fail
        ((with_reducible refine (sub_any px py _ _ cx cy x y _ hox.rd hoy.rd rfl rfl (by omega) HXY.out).mono ?_))
        have lm : (dig B32 (x - y)).length ≤ 5000000 := by have := dig_len_mono B32_two (Nat.sub_le x y); omega
        generalize x - y = m at *
        rintro e6 w6 ⟨p6, c6, rfl, ho6, hb6⟩
        have O6 := O5.past hb6
        have R6 := R5.past hb6
        have hTW6 := hTW.past hb6
        have hs6 := hs5.trans (hb6.mono hs5.size)
        have hzc := R4.lt
        have hol := O5.lt
        obtain ⟨o0, o1, o2, f0, f1, f2, olt⟩ := O6
        have hne6 : 0 < (dig B32 m).length → blk p6 ≠ wc.heap.size := fun h0 => by
          have := (ho6.blk_lt (ho6.rd.solid h0).1).1
          omega
        clear a0 a0' b0'
        go_wp2_with fail
        have hbS : Below wc.heap.size w6 (w6.setCell ⟨wc.heap.size, 1, none⟩ (.slice p6 (dig B32 m).length c6)) := (Below.refl _ _).setCell (by simp) _
        have hr7 : Rd (w6.setCell ⟨wc.heap.size, 1, none⟩ (.slice p6 (dig B32 m).length c6)) .u32 p6 (dig B32 m) := ho6.rd.same fun h0 => Below.heap_setCell _ _ _ _ (hne6 h0)
        have hT7 := hTW6.below hbS (by omega)
        have R7 := R6.below hbS (by omega)
        have hs7 := hs6.trans (hbS.mono (by omega))
        ((with_reducible refine (bareRaw_any g p6 _ c6 k m _ hr7 rfl ho6.le_cap (by omega) ⟨by omega, by omega⟩ hT7).mono ?_))
        generalize bare ⟨g, m, k⟩ = rr at *
        rintro e8 w8 ⟨p8, c8, rfl, ho8, hb8⟩
        obtain ⟨d0, d1, d2, f0', f1', f2', dlt⟩ := R7.past hb8
        have hsz7 : w.heap.size + 1 + 1 < (w6.setCell ⟨wc.heap.size, 1, none⟩ (.slice p6 (dig B32 m).length c6)).heap.size := R7.lt
        go_wp2_with fail
        refine bodyPost_ret (v := .agg #[.bool rr.neg, .slice p8 (dig B32 rr.m).length c8, .int .i64 rr.e]) (by simp [results, Tryd.results84, go_sem, d0, d1, d2]) rfl ?_
        rw [HJ.out]
        have hs8 := hs7.trans (hb8.mono hs7.size)
        refine ⟨p8, c8, rfl, (ho8.mono hs7.size).same (fun h => ?_), ((hs8.setCell (by simp; omega) _).setCell (by simp; omega) _).setCell (by simp; omega) _⟩
        have hk := (ho8.blk_lt h).1
        have hne : blk p8 ≠ w.heap.size + 1 + 1 := by omega
        rw [Below.heap_setCell _ _ _ _ hne, Below.heap_setCell _ _ _ _ hne, Below.heap_setCell _ _ _ _ hne]
      · obtain ⟨m, hm⟩ : ∃ m, y - x = m := ⟨_, rfl⟩
        have HJ := Lib.hid (HP.out.trans (congrArg bare (show joinD g h x y k = ⟨h, m, k⟩ by unfold joinD; rw [if_neg hgh, if_neg hxy, hm])))
        have hgg : (g == h) = false := by simpa using hgh
        have hC : cmpN x y ≤ -1 := by rw [cmpN_lt (by omega)]; omega
        have HXY := Lib.hid (show x ≤ y by omega)
        have HM := Lib.hid hm
        have lm : (dig B32 m).length ≤ 5000000 := by rw [← hm]; have := dig_len_mono B32_two (Nat.sub_le y x); omega
        clear hxy hm
        go_wp2_with fail
        ((with_reducible refine (cmp_any px py _ _ cx cy x y _ hox.rd hoy.rd rfl rfl (by omega) (by omega)).mono ?_))
        rintro e9 w9 ⟨rfl, hb9⟩
        have O5 := O5.past hb9
        have A5 := A5.past hb9
        have B5 := B5.past hb9
        have R5 := R5.past hb9
        have hTW := hTW.past hb9
        have hox := hox.past hb9
        have hoy := hoy.past hb9
        have hs5 := hs5.trans (hb9.mono hs5.size)
        have hz9 := hb9.size
        clear hb9 a0 a0' b0'
        have hzB := B4.lt
        go_wp2_with fail
        go_region_held3 (fun w' => w'.cell? ⟨w.heap.size + 1, 0, none⟩ = some (.bool h))
          (first | exact B5.c0 | exact B5.drew.c0 | exact (B5.drew.past hb6).c0 | exact ((B5.drew.past hb6).set hzB).c0 | exact (((B5.drew.past hb6).set hzB).set hzB).c0)
          (first | (go_at_call 97; refine (sub_any py px _ _ cy cx y x _ hoy.rd.drew hox.rd.drew rfl rfl (by omega) HXY.out).mono ?_; rw [HM.out]; rintro e6 w6 ⟨p6, c6, rfl, ho6, hb6⟩; obtain ⟨o0, o1, o2, f0, f1, f2, olt⟩ := O5.drew.past hb6))
        all_goals (go_wp2_with fail)
        have R6 := R5.drew.past hb6
        have hTW6 := hTW.drew.past hb6
        have hs6 := hs5.drew.trans (hb6.mono hs5.size)
        have hzc := R4.lt
        have hol := O5.lt
        have hne6 : 0 < (dig B32 m).length → blk p6 ≠ wc.heap.size := fun h0 => by
          have := (ho6.blk_lt (ho6.rd.solid h0).1).1
          have : w9.drew.heap.size = w9.heap.size := rfl
          omega
        have hbS : Below wc.heap.size w6 ((w6.setCell ⟨wc.heap.size, 0, none⟩ (.bool h)).setCell ⟨wc.heap.size, 1, none⟩ (.slice p6 (dig B32 m).length c6)) := ((Below.refl _ _).setCell (by simp) _).setCell (by simp) _
        have hr7 : Rd ((w6.setCell ⟨wc.heap.size, 0, none⟩ (.bool h)).setCell ⟨wc.heap.size, 1, none⟩ (.slice p6 (dig B32 m).length c6)) .u32 p6 (dig B32 m) := ho6.rd.same fun h0 => by rw [Below.heap_setCell _ _ _ _ (hne6 h0), Below.heap_setCell _ _ _ _ (hne6 h0)]
        have hT7 := hTW6.below hbS (by omega)
        have R7 := R6.below hbS (by omega)
        have hs7 := hs6.trans (hbS.mono (by omega))
        ((with_reducible refine (bareRaw_any h p6 _ c6 k m _ hr7 rfl ho6.le_cap (by omega) ⟨by omega, by omega⟩ hT7).mono ?_))
        generalize bare ⟨h, m, k⟩ = rr at *
        rintro e8 w8 ⟨p8, c8, rfl, ho8, hb8⟩
        obtain ⟨d0, d1, d2, f0', f1', f2', dlt⟩ := R7.past hb8
        have hsz7 : w.heap.size + 1 + 1 < ((w6.setCell ⟨wc.heap.size, 0, none⟩ (.bool h)).setCell ⟨wc.heap.size, 1, none⟩ (.slice p6 (dig B32 m).length c6)).heap.size := R7.lt
        go_wp2_with fail
        refine bodyPost_ret (v := .agg #[.bool rr.neg, .slice p8 (dig B32 rr.m).length c8, .int .i64 rr.e]) (by simp [results, Tryd.results84, go_sem, d0, d1, d2]) rfl ?_
        rw [HJ.out]
        have hs8 := hs7.trans (hb8.mono hs7.size)
        refine ⟨p8, c8, rfl, (ho8.mono hs7.size).same (fun h => ?_), ((hs8.setCell (by simp; omega) _).setCell (by simp; omega) _).setCell (by simp; omega) _⟩
        have hk := (ho8.blk_lt h).1
        have hne : blk p8 ≠ w.heap.size + 1 + 1 := by omega
        rw [Below.heap_setCell _ _ _ _ hne, Below.heap_setCell _ _ _ _ hne, Below.heap_setCell _ _ _ _ hne]

end Go.Proofs.YtehodhanojgkgaaDoor

namespace Go.Proofs.YtehodhanojgkgaaDoor
open Go.RowKit Go.Slip

set_option maxHeartbeats 1000000 in
theorem plus_left (g h : Bool) (p q : Option Addr) (c d base : Nat) (e f : Int) (b : Nat) (w : World) (hq : Own w base .u32 58 q d (dig B32 b)) (_hbase : base ≤ w.heap.size) :
    Calls Tryd.prog 84 #[.agg #[.bool g, .slice p 0 c, .int .i64 e], .agg #[.bool h, .slice q (dig B32 b).length d, .int .i64 f]] w (GivesD w base ⟨h, b, f⟩) := by
  obtain ⟨W1, hW1⟩ : ∃ W1, W1 = ((w.alloc (.cells #[.bool g, .slice p 0 c, .int .i64 e] 62)).alloc (.cells #[.bool h, .slice q (dig B32 b).length d, .int .i64 f] 62)).alloc (.cells #[.bool false, .slice none 0 0, .int .i64 0] 62) := ⟨_, rfl⟩
  have hs1 : Below w.heap.size w W1 := by rw [hW1]; exact (two_laid _ _ _).alloc (by simp; omega) _
  have A1 : Box3 W1 w.heap.size (.bool g) (.slice p 0 c) (.int .i64 e) := by
    rw [hW1]; exact ((box3_new w _ _ _ _).past ((Below.refl _ _).alloc (Nat.le_refl _) _)).past ((Below.refl _ _).alloc (Nat.le_refl _) _)
  have B1 : Box3 W1 (w.heap.size + 1) (.bool h) (.slice q (dig B32 b).length d) (.int .i64 f) := by
    have := (box3_new (w.alloc (.cells #[.bool g, .slice p 0 c, .int .i64 e] 62)) (.bool h) (.slice q (dig B32 b).length d) (.int .i64 f) 62).past ((Below.refl _ _).alloc (Nat.le_refl _) (.cells #[.bool false, .slice none 0 0, .int .i64 0] 62))
    rw [hW1]; simpa using this
  have R1 : Box3 W1 (w.heap.size + 1 + 1) (.bool false) (.slice none 0 0) (.int .i64 0) := by
    have := box3_new ((w.alloc (.cells #[.bool g, .slice p 0 c, .int .i64 e] 62)).alloc (.cells #[.bool h, .slice q (dig B32 b).length d, .int .i64 f] 62)) (.bool false) (.slice none 0 0) (.int .i64 0) 62
    rw [hW1]; simpa using this
  have HW1 := Lib.hid hW1
  clear hW1
  have hqW := hq.past hs1
  have hsa : dSign ⟨g, 0, e⟩ = 0 := rfl
  have HS := Lib.hid hsa
  clear hsa
  go_enter Tryd.func84, Tryd.ntmps84
  go_wp2_with fail
  rw [← HW1.out]
  ((with_reducible refine (signD_any g p _ c e 0 _ (by simp [dig_zero])).mono ?_))
  rintro e2 w2 ⟨rfl, hb2⟩
  rw [HS.out]
  have hs2 := hs1.trans (hb2.mono hs1.size)
  obtain ⟨b0, b1, b2, _, _, _, _⟩ := B1.past hb2
  obtain ⟨d0, d1, d2, f0, f1, f2, dlt⟩ := R1.past hb2
  have hqW := hqW.past hb2
  clear hb2 HW1
  go_wp2_with fail
  refine bodyPost_ret (v := .agg #[.bool h, .slice q (dig B32 b).length d, .int .i64 f]) (by simp [results, Tryd.results84, go_sem, d0, d1, d2]) rfl ?_
  refine ⟨q, d, rfl, hqW.same (fun hh => ?_), ((hs2.setCell (by simp; omega) _).setCell (by simp; omega) _).setCell (by simp; omega) _⟩
  have hk := (hq.blk_lt hh).2
  have hne : blk q ≠ w.heap.size + 1 + 1 := by omega
  rw [Below.heap_setCell _ _ _ _ hne, Below.heap_setCell _ _ _ _ hne, Below.heap_setCell _ _ _ _ hne]

set_option maxHeartbeats 1000000 in
theorem plus_right (g h : Bool) (p q : Option Addr) (c d base : Nat) (e f : Int) (a : Nat) (w : World) (hp : Own w base .u32 58 p c (dig B32 a)) (ha : 0 < a) (_hbase : base ≤ w.heap.size) :
    Calls Tryd.prog 84 #[.agg #[.bool g, .slice p (dig B32 a).length c, .int .i64 e], .agg #[.bool h, .slice q 0 d, .int .i64 f]] w (GivesD w base ⟨g, a, e⟩) := by
  obtain ⟨W1, hW1⟩ : ∃ W1, W1 = ((w.alloc (.cells #[.bool g, .slice p (dig B32 a).length c, .int .i64 e] 62)).alloc (.cells #[.bool h, .slice q 0 d, .int .i64 f] 62)).alloc (.cells #[.bool false, .slice none 0 0, .int .i64 0] 62) := ⟨_, rfl⟩
  have hs1 : Below w.heap.size w W1 := by rw [hW1]; exact (two_laid _ _ _).alloc (by simp; omega) _
  have A1 : Box3 W1 w.heap.size (.bool g) (.slice p (dig B32 a).length c) (.int .i64 e) := by
    rw [hW1]; exact ((box3_new w _ _ _ _).past ((Below.refl _ _).alloc (Nat.le_refl _) _)).past ((Below.refl _ _).alloc (Nat.le_refl _) _)
  have B1 : Box3 W1 (w.heap.size + 1) (.bool h) (.slice q 0 d) (.int .i64 f) := by
    have := (box3_new (w.alloc (.cells #[.bool g, .slice p (dig B32 a).length c, .int .i64 e] 62)) (.bool h) (.slice q 0 d) (.int .i64 f) 62).past ((Below.refl _ _).alloc (Nat.le_refl _) (.cells #[.bool false, .slice none 0 0, .int .i64 0] 62))
    rw [hW1]; simpa using this
  have R1 : Box3 W1 (w.heap.size + 1 + 1) (.bool false) (.slice none 0 0) (.int .i64 0) := by
    have := box3_new ((w.alloc (.cells #[.bool g, .slice p (dig B32 a).length c, .int .i64 e] 62)).alloc (.cells #[.bool h, .slice q 0 d, .int .i64 f] 62)) (.bool false) (.slice none 0 0) (.int .i64 0) 62
    rw [hW1]; simpa using this
  have HW1 := Lib.hid hW1
  clear hW1
  have hpW := hp.past hs1
  have hsa := dSign_pos (g := g) (e := e) ha
  have HS := Lib.hid (show dSign ⟨h, 0, f⟩ = 0 from rfl)
  go_enter Tryd.func84, Tryd.ntmps84
  go_wp2_with fail
  rw [← HW1.out]
  ((with_reducible refine (signD_any g p _ c e a _ rfl).mono ?_))
  rintro e2 w2 ⟨rfl, hb2⟩
  generalize dSign ⟨g, a, e⟩ = sa at *
  have hs2 := hs1.trans (hb2.mono hs1.size)
  have A2 := A1.past hb2
  have B2 := B1.past hb2
  have R2 := R1.past hb2
  have hpW := hpW.past hb2
  obtain ⟨b0, b1, b2, _, _, _, _⟩ := B2
  clear hb2 HW1
  go_wp2_with fail
  ((with_reducible refine (signD_any h q _ d f 0 _ (by simp [dig_zero])).mono ?_))
  rintro e3 w3 ⟨rfl, hb3⟩
  rw [HS.out]
  have hs3 := hs2.trans (hb3.mono hs2.size)
  obtain ⟨a0, a1, a2, _, _, _, _⟩ := A2.past hb3
  obtain ⟨d0, d1, d2, f0, f1, f2, dlt⟩ := R2.past hb3
  have hpW := hpW.past hb3
  clear hb3 b0 b1 b2
  go_wp2_with fail
  refine bodyPost_ret (v := .agg #[.bool g, .slice p (dig B32 a).length c, .int .i64 e]) (by simp [results, Tryd.results84, go_sem, d0, d1, d2]) rfl ?_
  refine ⟨p, c, rfl, hpW.same (fun hh => ?_), ((hs3.setCell (by simp; omega) _).setCell (by simp; omega) _).setCell (by simp; omega) _⟩
  have hk := (hp.blk_lt hh).2
  have hne : blk p ≠ w.heap.size + 1 + 1 := by omega
  rw [Below.heap_setCell _ _ _ _ hne, Below.heap_setCell _ _ _ _ hne, Below.heap_setCell _ _ _ _ hne]

theorem plusD_any (g h : Bool) (p q : Option Addr) (n c m d base : Nat) (e f : Int) (a b : Nat) (w : World) (hp : Own w base .u32 58 p c (dig B32 a)) (hq : Own w base .u32 58 q d (dig B32 b)) (hn : n = (dig B32 a).length) (hm : m = (dig B32 b).length)
    (hl : (dig B32 a).length ≤ 1000000) (hl2 : (dig B32 b).length ≤ 1000000) (he : -1000000 ≤ e ∧ e ≤ 1000000) (hf : -1000000 ≤ f ∧ f ≤ 1000000) (hT : TabW w) (hbase : base ≤ w.heap.size) :
    Calls Tryd.prog 84 #[.agg #[.bool g, .slice p n c, .int .i64 e], .agg #[.bool h, .slice q m d, .int .i64 f]] w (GivesD w base (pPlus ⟨g, a, e⟩ ⟨h, b, f⟩)) := by
  subst hn hm
  by_cases ha : a = 0
  · subst ha
    have hE : pPlus ⟨g, 0, e⟩ ⟨h, b, f⟩ = ⟨h, b, f⟩ := by unfold pPlus; rw [if_pos rfl]
    rw [hE, dig_zero]
    exact plus_left g h p q c d base e f b w hq hbase
  · by_cases hb : b = 0
    · subst hb
      have hE : pPlus ⟨g, a, e⟩ ⟨h, 0, f⟩ = ⟨g, a, e⟩ := by unfold pPlus; rw [if_neg ha, if_pos rfl]
      rw [hE, dig_zero]
      exact plus_right g h p q c d base e f a w hp (by omega) hbase
    · refine (plus_pos_any g h p q c d base e f a b w hp hq hl hl2 he hf (by omega) (by omega) hT).mono ?_
      rintro en w' ⟨p', c', h1, h2, h3⟩
      exact ⟨p', c', h1, h2.mono hbase, h3⟩

end Go.Proofs.YtehodhanojgkgaaDoor

namespace Go.Proofs.YtehodhanojgkgaaDoor
open Go.RowKit Go.Slip

set_option maxHeartbeats 2000000 in
set_option maxRecDepth 100000 in
theorem timesD_any (g h : Bool) (p q : Option Addr) (n c m d base : Nat) (e f : Int) (a b : Nat) (w : World) (hp : Own w base .u32 58 p c (dig B32 a)) (hq : Own w base .u32 58 q d (dig B32 b)) (hn : n = (dig B32 a).length) (hm : m = (dig B32 b).length)
    (hl : (dig B32 a).length ≤ 1000000) (hl2 : (dig B32 b).length ≤ 1000000) (he : -1000000 ≤ e ∧ e ≤ 1000000) (hf : -1000000 ≤ f ∧ f ≤ 1000000) (hT : TabW w) :
    Calls Tryd.prog 83 #[.agg #[.bool g, .slice p n c, .int .i64 e], .agg #[.bool h, .slice q m d, .int .i64 f]] w (GivesD w w.heap.size (dTimes ⟨g, a, e⟩ ⟨h, b, f⟩)) := by
  subst hn hm
  obtain ⟨W1, hW1⟩ : ∃ W1, W1 = ((w.alloc (.cells #[.bool g, .slice p (dig B32 a).length c, .int .i64 e] 62)).alloc (.cells #[.bool h, .slice q (dig B32 b).length d, .int .i64 f] 62)).alloc (.cells #[.bool false, .slice none 0 0, .int .i64 0] 62) := ⟨_, rfl⟩
  have hs1 : Below w.heap.size w W1 := by rw [hW1]; exact (two_laid _ _ _).alloc (by simp; omega) _
  have A1 : Box3 W1 w.heap.size (.bool g) (.slice p (dig B32 a).length c) (.int .i64 e) := by
    rw [hW1]; exact ((box3_new w _ _ _ _).past ((Below.refl _ _).alloc (Nat.le_refl _) _)).past ((Below.refl _ _).alloc (Nat.le_refl _) _)
  have B1 : Box3 W1 (w.heap.size + 1) (.bool h) (.slice q (dig B32 b).length d) (.int .i64 f) := by
    have := (box3_new (w.alloc (.cells #[.bool g, .slice p (dig B32 a).length c, .int .i64 e] 62)) (.bool h) (.slice q (dig B32 b).length d) (.int .i64 f) 62).past ((Below.refl _ _).alloc (Nat.le_refl _) (.cells #[.bool false, .slice none 0 0, .int .i64 0] 62))
    rw [hW1]; simpa using this
  have R1 : Box3 W1 (w.heap.size + 1 + 1) (.bool false) (.slice none 0 0) (.int .i64 0) := by
    have := box3_new ((w.alloc (.cells #[.bool g, .slice p (dig B32 a).length c, .int .i64 e] 62)).alloc (.cells #[.bool h, .slice q (dig B32 b).length d, .int .i64 f] 62)) (.bool false) (.slice none 0 0) (.int .i64 0) 62
    rw [hW1]; simpa using this
  have hpW := hp.rd.past hs1
  have hqW := hq.rd.past hs1
  have hTW := hT.past hs1
  have HW1 := Lib.hid hW1
  clear hW1
  obtain ⟨m, hm⟩ : ∃ m, a * b = m := ⟨_, rfl⟩
  have HM := Lib.hid hm
  have HJ := Lib.hid (show dTimes ⟨g, a, e⟩ ⟨h, b, f⟩ = bare ⟨!(g == h), m, e + f⟩ by rw [← hm]; unfold dTimes; cases g <;> cases h <;> rfl)
  have lm : (dig B32 m).length ≤ 5000000 := by rw [← hm]; have := dig_len_mul B32_two a b; omega
  have e1 : IntKind.i64.wrap (e + f) = e + f := IntWalk.i64_in _ (by omega)
  have hzR := R1.lt
  have hr3 : -1000000000 ≤ e + f ∧ e + f ≤ 1000000000 := ⟨by omega, by omega⟩
  clear hm
  go_enter Tryd.func83, Tryd.ntmps83
  go_wp2_with fail
  rw [← HW1.out]
  clear HW1
  go_region_held3 (fun w' => (w'.cell? ⟨w.heap.size, 0, none⟩ = some (.bool g) ∧ w'.cell? ⟨w.heap.size, 1, none⟩ = some (.slice p (dig B32 a).length c) ∧ w'.cell? ⟨w.heap.size, 2, none⟩ = some (.int .i64 e)) ∧
      (w'.cell? ⟨w.heap.size + 1, 0, none⟩ = some (.bool h) ∧ w'.cell? ⟨w.heap.size + 1, 1, none⟩ = some (.slice q (dig B32 b).length d) ∧ w'.cell? ⟨w.heap.size + 1, 2, none⟩ = some (.int .i64 f)))
    (first | exact ⟨⟨A1.c0, A1.c1, A1.c2⟩, B1.c0, B1.c1, B1.c2⟩
           | (have D1 := A1.drew; have D2 := B1.drew; exact ⟨⟨D1.c0, D1.c1, D1.c2⟩, D2.c0, D2.c1, D2.c2⟩)
           | (have D1 := A1.drew.past hb2; have D2 := B1.drew.past hb2; exact ⟨⟨D1.c0, D1.c1, D1.c2⟩, D2.c0, D2.c1, D2.c2⟩)
           | (have D1 := (A1.drew.past hb2).past hb3; have D2 := (B1.drew.past hb2).past hb3; exact ⟨⟨D1.c0, D1.c1, D1.c2⟩, D2.c0, D2.c1, D2.c2⟩)
           | (have D1 := (A1.drew.past hb2).past hb3; have D2 := (B1.drew.past hb2).past hb3; clear e1; exact ⟨⟨(((D1.set (by omega)).set (by omega)).set (by omega)).c0, (((D1.set (by omega)).set (by omega)).set (by omega)).c1, (((D1.set (by omega)).set (by omega)).set (by omega)).c2⟩, (((D2.set (by omega)).set (by omega)).set (by omega)).c0, (((D2.set (by omega)).set (by omega)).set (by omega)).c1, (((D2.set (by omega)).set (by omega)).set (by omega)).c2⟩))
    (first
      | (go_at_call 96; refine (mul_any p q _ _ c d a b _ hpW.drew hqW.drew rfl rfl (by clear e1; omega)).mono ?_; rw [HM.out]; rintro ex w2 ⟨p2, c2, rfl, ho2, hb2⟩)
      | (go_at_call 76; refine (bareRaw_any (!(g == h)) p2 _ c2 (e + f) m _ ho2.rd rfl ho2.le_cap (by clear e1; omega) hr3 (hTW.drew.past hb2)).mono ?_; generalize bare ⟨!(g == h), m, e + f⟩ = rr at *; rintro ex w3 ⟨p3, c3, rfl, ho3, hb3⟩; obtain ⟨d0, d1, d2, f0, f1, f2, dlt⟩ := (R1.drew.past hb2).past hb3))
  all_goals (go_wp2_with fail)
  refine bodyPost_ret (v := .agg #[.bool rr.neg, .slice p3 (dig B32 rr.m).length c3, .int .i64 rr.e]) (by simp [results, Tryd.results83, go_sem, d0, d1, d2]) rfl ?_
  rw [HJ.out]
  clear e1
  have hs2 := hs1.drew.trans (hb2.mono hs1.size)
  have hs3 := hs2.trans (hb3.mono hs2.size)
  have hz2 := hb2.size
  have hzd : W1.drew.heap.size = W1.heap.size := rfl
  refine ⟨p3, c3, rfl, (ho3.mono hs2.size).same (fun hh => ?_), ((hs3.setCell (by simp; omega) _).setCell (by simp; omega) _).setCell (by simp; omega) _⟩
  have hk := (ho3.blk_lt hh).1
  have hne : blk p3 ≠ w.heap.size + 1 + 1 := by omega
  rw [Below.heap_setCell _ _ _ _ hne, Below.heap_setCell _ _ _ _ hne, Below.heap_setCell _ _ _ _ hne]

end Go.Proofs.YtehodhanojgkgaaDoor

namespace Go.Proofs.YtehodhanojgkgaaDoor
open Go.RowKit Go.Slip

end Go.Proofs.YtehodhanojgkgaaDoor

namespace Go.Proofs.YtehodhanojgkgaaDoor
open Go.RowKit Go.Slip

/-- What a dyad that came in stands for. -/
def dyV (a : Din) : Dv := bare ⟨a.g, val B32 a.xs, a.e⟩

theorem dyV_bare (a : Din) : Bare (dyV a) := bare_bare _

/-- A dyad that came in, as the walks ask for it. -/
structure InD (w : World) (a : Din) : Prop where
  rd : Rd w .u32 a.p a.xs
  cap : a.xs.length ≤ a.c
  len : a.xs.length ≤ 9223372036854775807
  lt : ∀ x ∈ a.xs, x < B32

theorem InD.past {w w' : World} {a : Din} (h : InD w a) (hb : Below w.heap.size w w') : InD w' a := ⟨h.rd.past hb, h.cap, h.len, h.lt⟩
theorem InD.laid {w : World} {a : Din} (h : InD w a) (o : Obj) : InD (w.alloc o) a := ⟨h.rd.laid o, h.cap, h.len, h.lt⟩
theorem InD.drew {w : World} {a : Din} (h : InD w a) : InD w.drew a := ⟨h.rd.drew, h.cap, h.len, h.lt⟩

/-- Where nothing is wrong with it. -/
theorem InD.ok {w : World} {a : Din} (h : InD w a) (he : errDy a = 0) : ∃ m, a.xs = dig B32 m ∧ val B32 a.xs = m ∧ (dig B32 m).length ≤ 1200 ∧ -20000 ≤ a.e ∧ a.e ≤ 20000 := by
  unfold errDy at he
  by_cases h1 : errNat a.xs = 0
  · rw [if_pos h1] at he
    obtain ⟨h2, h3⟩ := errNat_ok h.lt h1
    refine ⟨_, h2, rfl, by rw [← h2]; exact h3, ?_⟩
    by_cases h4 : a.e < -20000 ∨ 20000 < a.e
    · rw [if_pos h4] at he; simp at he
    · omega
  · rw [if_neg h1] at he; exact absurd he h1

theorem errDy2_ok {a b : Din} (h : errDy2 a b = 0) : errDy a = 0 ∧ errDy b = 0 := by
  unfold errDy2 at h
  by_cases h1 : errDy a = 0
  · rw [if_pos h1] at h; exact ⟨h1, h⟩
  · rw [if_neg h1] at h; exact absurd h h1

/-- Its length and its exponent. -/
theorem dyV_bd {w : World} {a : Din} (h : InD w a) (he : errDy a = 0) : (dig B32 (dyV a).m).length ≤ 1200 ∧ -20000 ≤ (dyV a).e ∧ (dyV a).e ≤ 58400 := by
  obtain ⟨m, _, hv, hl, h1, h2⟩ := h.ok he
  unfold dyV
  rw [hv]
  refine ⟨Nat.le_trans (bare_len B32_two _) hl, ?_⟩
  have := bare_e ⟨a.g, m, a.e⟩ (n := 1200) hl h1 h2 (by omega) (by omega)
  omega

theorem GivesDE.mono {w w' : World} {base base' : Nat} {d : Dv} {er : Int} {en : Ending} (h : GivesDE w base d er en w') (hb : base' ≤ base) : GivesDE w base' d er en w' := by
  obtain ⟨p, c, h1, h2, h3⟩ := h
  exact ⟨p, c, h1, h2.mono hb, h3⟩

end Go.Proofs.YtehodhanojgkgaaDoor

namespace Go.Proofs.YtehodhanojgkgaaDoor
open Go.RowKit Go.Slip

end Go.Proofs.YtehodhanojgkgaaDoor
