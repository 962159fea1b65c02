/- The references' DPlus. -/
import Derived.Test.YtehodhanojgkgaaDoorZRDy2
import Derived.Test.YtehodhanojgkgaaDoorZR
namespace Go.Proofs.YtehodhanojgkgaaDoor
open Go.RowKit Go.Slip

theorem len_shl16 (a N : Nat) : (dig B16 (a * 2 ^ N)).length ≤ (dig B16 a).length + (N / 16 + 1) := by
  refine Nat.le_trans (dig_len_mul B16_two _ _) ?_
  have : (dig B16 (2 ^ N)).length = N / 16 + 1 := by rw [← pow2_dig (B := B16) (w := 16) (by decide) (by omega) N]; simp
  omega

/-- The exponent that both have, ahead of the second test. -/
def plusE0 (a : Nat) (e f : Int) : Int := if a = 0 then f else min e f

theorem plusE_eq (g h : Bool) (a b : Nat) (e f : Int) : plusE ⟨g, a, e⟩ ⟨h, b, f⟩ = if b = 0 then e else plusE0 a e f := rfl

theorem len_eq_zero (a : Nat) : (((dig B16 a).length : Int) == 0) = decide (a = 0) := by
  have := dig_len_zero B16_two a
  by_cases h : a = 0
  · subst h; rw [dig_zero]; rfl
  · rw [decide_eq_false h]; exact beq_eq_false_iff_ne.2 (by omega)

set_option maxHeartbeats 4000000 in
set_option maxRecDepth 100000 in
theorem refDPlus_any (g h : Bool) (p q : Option Addr) (n c m d : Nat) (e f : Int) (a b : Nat) (w : World) (hp : Rd w .i64 p (dig B16 a)) (hq : Rd w .i64 q (dig B16 b)) (hn : n = (dig B16 a).length) (hm : m = (dig B16 b).length)
    (hl : (dig B16 a).length ≤ 1000000) (hl2 : (dig B16 b).length ≤ 1000000) (he : -1000000 ≤ e ∧ e ≤ 1000000) (hf : -1000000 ≤ f ∧ f ≤ 1000000) :
    Calls Tryd.prog 38 #[.agg #[.bool g, .slice p n c, .int .i64 e], .agg #[.bool h, .slice q m d, .int .i64 f]] w (GivesF w (fun _ => False) (rPlus ⟨g, a, e⟩ ⟨h, b, f⟩)) := by
  subst hn hm
  obtain ⟨W1, hW1, hs1, A1, B1, R1, hz1⟩ := box3s w (.bool g) (.slice p (dig B16 a).length c) (.int .i64 e) (.bool h) (.slice q (dig B16 b).length d) (.int .i64 f) (.bool false) (.slice none 0 0) (.int .i64 0) 36 36 36
  have hp1 := hp.past hs1
  have hq1 := hq.past hs1
  have a1 := A1.c1
  have a2 := A1.c2
  have b1 := B1.c1
  have b2 := B1.c2
  have HW1 := Lib.hid hW1
  clear hW1
  have za := len_eq_zero a
  have zb := len_eq_zero b
  go_enter Tryd.func38, Tryd.ntmps38
  go_upto_if 16 with (fail)
  rw [← HW1.out]
  clear HW1
  go_cut [5] (fun s5 wx => s5 = .int .i64 (plusE0 a e f) ∧ wx = W1)
  case first =>
    go_wp2_with fail
    all_goals go_meet
    all_goals (refine ⟨?_, rfl⟩; unfold plusE0; simp [*])
  case rest =>
    obtain ⟨rfl, rfl⟩ := hcut
    go_upto_if 22 with (fail)
    go_cut [5] (fun s5 wx => s5 = .int .i64 (plusE ⟨g, a, e⟩ ⟨h, b, f⟩) ∧ wx = wc)
    case first =>
      go_wp2_with fail
      all_goals go_meet
      all_goals (refine ⟨?_, rfl⟩; rw [plusE_eq]; simp [*])
    case rest =>
      obtain ⟨rfl, rfl⟩ := hcut
      clear za zb
      go_wp2_with fail
      clear a1 a2 b1 b2
      obtain ⟨w1, hw1⟩ : ∃ w1, w1 = wc := ⟨_, rfl⟩
      subst hw1
      have HJ := Lib.hid (show rPlus ⟨g, a, e⟩ ⟨h, b, f⟩ = bare (joinD g h (a * 2 ^ (e - plusE ⟨g, a, e⟩ ⟨h, b, f⟩).toNat) (b * 2 ^ (f - plusE ⟨g, a, e⟩ ⟨h, b, f⟩).toNat) (plusE ⟨g, a, e⟩ ⟨h, b, f⟩)) from rfl)
      have hk1 : -1000000 ≤ plusE ⟨g, a, e⟩ ⟨h, b, f⟩ ∧ plusE ⟨g, a, e⟩ ⟨h, b, f⟩ ≤ 1000000 := by unfold plusE; simp only; split; omega; split; omega; omega
      generalize plusE ⟨g, a, e⟩ ⟨h, b, f⟩ = k at *
      obtain ⟨N1, hN1⟩ : ∃ N1, N1 = (e - k).toNat := ⟨_, rfl⟩
      obtain ⟨N2, hN2⟩ : ∃ N2, N2 = (f - k).toNat := ⟨_, rfl⟩
      rw [← hN1, ← hN2] at HJ
      have n1 : N1 ≤ 2000000 := by omega
      have n2 : N2 ≤ 2000000 := by omega
      have e1 : IntKind.i64.wrap (e - k) = e - k := IntWalk.i64_in _ (by omega)
      have e2 : IntKind.i64.wrap (f - k) = f - k := IntWalk.i64_in _ (by omega)
      have m1 : max 0 (e - k) = (N1 : Int) := by omega
      have m2 : max 0 (f - k) = (N2 : Int) := by omega
      clear hN1 hN2
      go_cut [6, 7] (fun s6 s7 wx => ∃ (px : Option Addr) (cx : Nat) (py : Option Addr) (cy : Nat), s6 = .slice px (dig B16 (a * 2 ^ N1)).length cx ∧ s7 = .slice py (dig B16 (b * 2 ^ N2)).length cy ∧
        Rd wx .i64 px (dig B16 (a * 2 ^ N1)) ∧ Rd wx .i64 py (dig B16 (b * 2 ^ N2)) ∧ Below w1.heap.size w1 wx)
      case first =>
        go_region_held3 (fun w' => (w'.cell? ⟨w.heap.size, 1, none⟩ = some (.slice p (dig B16 a).length c) ∧ w'.cell? ⟨w.heap.size, 2, none⟩ = some (.int .i64 e)) ∧
            (w'.cell? ⟨w.heap.size + 1, 1, none⟩ = some (.slice q (dig B16 b).length d) ∧ w'.cell? ⟨w.heap.size + 1, 2, none⟩ = some (.int .i64 f)))
          (first | exact ⟨⟨A1.c1, A1.c2⟩, B1.c1, B1.c2⟩
                 | (have D1 := A1.drew; have D2 := B1.drew; exact ⟨⟨D1.c1, D1.c2⟩, D2.c1, D2.c2⟩)
                 | (have D1 := (A1.drew.past hbx).past hby; have D2 := (B1.drew.past hbx).past hby; exact ⟨⟨D1.c1, D1.c2⟩, D2.c1, D2.c2⟩)
                 | (have D1 := (A1.drew.past hby).past hbx; have D2 := (B1.drew.past hby).past hbx; exact ⟨⟨D1.c1, D1.c2⟩, D2.c1, D2.c2⟩)
                 | (have D1 := A1.drew.past hbx; have D2 := B1.drew.past hbx; exact ⟨⟨D1.c1, D1.c2⟩, D2.c1, D2.c2⟩)
                 | (have D1 := A1.drew.past hby; have D2 := B1.drew.past hby; exact ⟨⟨D1.c1, D1.c2⟩, D2.c1, D2.c2⟩))
          (first
            | (go_at_call_of 65 (Value.slice p (dig B16 a).length c); refine (refUp_any p _ c a N1 _ ?_ rfl (by clear e1 e2 m1 m2; omega) (by clear e1 e2 m1 m2; omega)).mono ?_; (first | exact hp1.drew | exact hp1.drew.past hby); rintro ex wx ⟨px, cx, rfl, hrx, hcx, hfx, hbx⟩)
            | (go_at_call_of 65 (Value.slice q (dig B16 b).length d); refine (refUp_any q _ d b N2 _ ?_ rfl (by clear e1 e2 m1 m2; omega) (by clear e1 e2 m1 m2; omega)).mono ?_; (first | exact hq1.drew | exact hq1.drew.past hbx); rintro ey wy ⟨py, cy, rfl, hry, hcy, hfy, hby⟩))
        all_goals (clear e1 e2 m1 m2)
        all_goals (go_wp2_with fail)
        all_goals go_meet
        all_goals (first
          | exact ⟨px, cx, py, cy, rfl, rfl, hrx.past hby, hry, ((Below.refl _ _).drew.trans hbx).trans (hby.mono hbx.size)⟩
          | exact ⟨px, cx, py, cy, rfl, rfl, hrx, hry.past hbx, ((Below.refl _ _).drew.trans hby).trans (hbx.mono hby.size)⟩)
      case rest =>
        obtain ⟨px, cx, py, cy, rfl, rfl, hrx, hry, hb4⟩ := hcut
        clear e1 e2 m1 m2
        have lX : (dig B16 (a * 2 ^ N1)).length ≤ 2000000 := by have := len_shl16 a N1; omega
        have lY : (dig B16 (b * 2 ^ N2)).length ≤ 2000000 := by have := len_shl16 b N2; omega
        generalize a * 2 ^ N1 = x at *
        generalize b * 2 ^ N2 = y at *
        have hs4 := hs1.trans (hb4.mono hs1.size)
        have A4 := A1.past hb4
        have B4 := B1.past hb4
        have R4 := R1.past hb4
        have a0 := A4.c0
        have b0 := B4.c0
        have hzc := hb4.size
        clear a0 b0
        have hxy0 : 0 ≤ k + 1000000 := by omega
        by_cases hgh : g = h
        · subst hgh
          have HK := Lib.hid (HJ.out.trans (congrArg bare (show joinD g g x y k = ⟨g, x + y, k⟩ by unfold joinD; rw [if_pos rfl])))
          have hgg : (g == g) = true := by simp
          have lm : (dig B16 (x + y)).length ≤ 5000000 := by have := dig_len_add B16_two x y; omega
          have a0 := A4.c0
          have b0 := B4.c0
          go_wp2_with fail
          clear a0 b0
          obtain ⟨m, hm⟩ : ∃ m, x + y = m := ⟨_, rfl⟩
          have HM := Lib.hid hm
          rw [hm] at HK lm
          clear hm
          go_region_held3 (fun w' => w'.cell? ⟨w.heap.size, 0, none⟩ = some (.bool g))
            (first | exact A4.c0 | exact A4.drew.c0 | exact (A4.drew.past hb6).c0 | exact ((A4.drew.past hb6).past hb7).c0 | exact (((((A4.drew.past hb6).past hb7).set (by omega)).set (by omega)).set (by omega)).c0)
            (first | (go_at_call 44; refine (refPlus_any px py _ _ cx cy x y _ hrx.drew hry.drew rfl rfl (by omega)).mono ?_; rw [HM.out]; rintro e6 w6 ⟨p6, c6, rfl, hr6, hc6, hf6, hb6⟩)
                   | (go_at_call 39; refine (refBared_any g p6 _ c6 k m _ hr6 rfl (by omega) (by omega)).mono ?_; generalize bare ⟨g, m, k⟩ = rr at *; rintro e7 w7 ⟨p7, c7, rfl, hr7, hc7, hf7, hb7⟩; obtain ⟨d0, d1, d2, f0, f1, f2, dlt⟩ := (R4.drew.past hb6).past hb7))
          all_goals (go_wp2_with fail)
          refine bodyPost_ret (v := .agg #[.bool rr.neg, .slice p7 (dig B16 rr.m).length c7, .int .i64 rr.e]) (by simp [results, Tryd.results38, go_sem, d0, d1, d2]) rfl ?_
          rw [HK.out]
          have hzd : wc.drew.heap.size = wc.heap.size := rfl
          have hs6 := hs4.drew.trans (hb6.mono hs4.size)
          have hz6 := hb6.size
          have hzR := R4.lt
          have hzS := hs4.size
          have hf : 0 < (dig B16 rr.m).length → w6.heap.size ≤ blk p7 := fun h => by rcases hf7 h with h | h; exact h.elim; exact h
          exact givesF_close (hs6.trans (hb7.mono hs6.size)) hr7 hc7 (fun h => .inr (by have := hf h; omega)) (by omega) (fun h => by have := hf h; omega)
        · by_cases hxy : y ≤ x
          · have HK := Lib.hid (HJ.out.trans (congrArg bare (show joinD g h x y k = ⟨g, x - y, k⟩ by unfold joinD; rw [if_neg hgh, if_pos hxy])))
            have hgg : (g == h) = false := by simpa using hgh
            have hC : 0 ≤ cmpN x y := by unfold cmpN; rw [if_neg (by omega)]; split <;> omega
            have HXY := Lib.hid hxy
            have lm : (dig B16 (x - y)).length ≤ 5000000 := by have := dig_len_mono B16_two (Nat.sub_le x y); omega
            clear hxy hgh
            have a0 := A4.c0
            have b0 := B4.c0
            go_wp2_with fail
            ((with_reducible refine (refCmp_any px py _ _ cx cy x y _ hrx hry rfl rfl (by omega) (by omega)).mono ?_))
            rintro e9 w9 ⟨rfl, hb9⟩
            clear a0 b0
            have hs9 := hs4.trans (hb9.mono hs4.size)
            have hz9 := hb9.size
            replace A4 := A4.past hb9
            replace B4 := B4.past hb9
            replace R4 := R4.past hb9
            replace hrx := hrx.past hb9
            replace hry := hry.past hb9
            go_wp2_with fail
            obtain ⟨m, hm⟩ : ∃ m, x - y = m := ⟨_, rfl⟩
            have HM := Lib.hid hm
            rw [hm] at HK lm
            clear hm
            go_region_held3 (fun w' => w'.cell? ⟨w.heap.size, 0, none⟩ = some (.bool g))
              (first | exact A4.c0 | exact A4.drew.c0 | exact (A4.drew.past hb6).c0 | exact ((A4.drew.past hb6).past hb7).c0 | exact (((((A4.drew.past hb6).past hb7).set (by omega)).set (by omega)).set (by omega)).c0)
              (first | (go_at_call 43; refine (refLess_any px py _ _ cx cy x y _ hrx.drew hry.drew rfl rfl (by omega) HXY.out).mono ?_; rw [HM.out]; rintro e6 w6 ⟨p6, c6, rfl, hr6, hc6, hf6, hb6⟩)
                     | (go_at_call 39; refine (refBared_any g p6 _ c6 k m _ hr6 rfl (by omega) (by omega)).mono ?_; generalize bare ⟨g, m, k⟩ = rr at *; rintro e7 w7 ⟨p7, c7, rfl, hr7, hc7, hf7, hb7⟩; obtain ⟨d0, d1, d2, f0, f1, f2, dlt⟩ := (R4.drew.past hb6).past hb7))
            all_goals (go_wp2_with fail)
            refine bodyPost_ret (v := .agg #[.bool rr.neg, .slice p7 (dig B16 rr.m).length c7, .int .i64 rr.e]) (by simp [results, Tryd.results38, go_sem, d0, d1, d2]) rfl ?_
            rw [HK.out]
            have hzd : w9.drew.heap.size = w9.heap.size := rfl
            have hs6 := hs9.drew.trans (hb6.mono hs9.size)
            have hz6 := hb6.size
            have hzR := R4.lt
            have hzS := hs9.size
            have hf : 0 < (dig B16 rr.m).length → w6.heap.size ≤ blk p7 := fun h => by rcases hf7 h with h | h; exact h.elim; exact h
            exact givesF_close (hs6.trans (hb7.mono hs6.size)) hr7 hc7 (fun h => .inr (by have := hf h; omega)) (by omega) (fun h => by have := hf h; omega)
          · have HK := Lib.hid (HJ.out.trans (congrArg bare (show joinD g h x y k = ⟨h, y - x, k⟩ by unfold joinD; rw [if_neg hgh, if_neg hxy])))
            have hgg : (g == h) = false := by simpa using hgh
            have hC : cmpN x y ≤ -1 := by rw [cmpN_lt (by omega)]; omega
            have HXY := Lib.hid (show x ≤ y by omega)
            have lm : (dig B16 (y - x)).length ≤ 5000000 := by have := dig_len_mono B16_two (Nat.sub_le y x); omega
            clear hxy hgh
            have a0 := A4.c0
            have b0 := B4.c0
            go_wp2_with fail
            ((with_reducible refine (refCmp_any px py _ _ cx cy x y _ hrx hry rfl rfl (by omega) (by omega)).mono ?_))
            rintro e9 w9 ⟨rfl, hb9⟩
            clear a0 b0
            have hs9 := hs4.trans (hb9.mono hs4.size)
            have hz9 := hb9.size
            replace A4 := A4.past hb9
            replace B4 := B4.past hb9
            replace R4 := R4.past hb9
            replace hrx := hrx.past hb9
            replace hry := hry.past hb9
            go_wp2_with fail
            obtain ⟨m, hm⟩ : ∃ m, y - x = m := ⟨_, rfl⟩
            have HM := Lib.hid hm
            rw [hm] at HK lm
            clear hm
            go_region_held3 (fun w' => w'.cell? ⟨w.heap.size + 1, 0, none⟩ = some (.bool h))
              (first | exact B4.c0 | exact B4.drew.c0 | exact (B4.drew.past hb6).c0 | exact ((B4.drew.past hb6).past hb7).c0 | exact (((((B4.drew.past hb6).past hb7).set (by omega)).set (by omega)).set (by omega)).c0)
              (first | (go_at_call 43; refine (refLess_any py px _ _ cy cx y x _ hry.drew hrx.drew rfl rfl (by omega) HXY.out).mono ?_; rw [HM.out]; rintro e6 w6 ⟨p6, c6, rfl, hr6, hc6, hf6, hb6⟩)
                     | (go_at_call 39; refine (refBared_any h p6 _ c6 k m _ hr6 rfl (by omega) (by omega)).mono ?_; generalize bare ⟨h, m, k⟩ = rr at *; rintro e7 w7 ⟨p7, c7, rfl, hr7, hc7, hf7, hb7⟩; obtain ⟨d0, d1, d2, f0, f1, f2, dlt⟩ := (R4.drew.past hb6).past hb7))
            all_goals (go_wp2_with fail)
            refine bodyPost_ret (v := .agg #[.bool rr.neg, .slice p7 (dig B16 rr.m).length c7, .int .i64 rr.e]) (by simp [results, Tryd.results38, go_sem, d0, d1, d2]) rfl ?_
            rw [HK.out]
            have hzd : w9.drew.heap.size = w9.heap.size := rfl
            have hs6 := hs9.drew.trans (hb6.mono hs9.size)
            have hz6 := hb6.size
            have hzR := R4.lt
            have hzS := hs9.size
            have hf : 0 < (dig B16 rr.m).length → w6.heap.size ≤ blk p7 := fun h => by rcases hf7 h with h | h; exact h.elim; exact h
            exact givesF_close (hs6.trans (hb7.mono hs6.size)) hr7 hc7 (fun h => .inr (by have := hf h; omega)) (by omega) (fun h => by have := hf h; omega)

end Go.Proofs.YtehodhanojgkgaaDoor
