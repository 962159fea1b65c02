/- The references' DPlus. -/
import Derived.Carry
import Derived.Deep.LoopGhost
import Derived.Deep.RegionHeld3
import Derived.Deep.RegionLaw
import Derived.LoopN
import Derived.Lib.SmallJoins
import Derived.SizedLaws
import Derived.Test.YthcoapcffhgckaaDoorTDa1
import Derived.Test.YthcoapcffhgckaaDoorTDa2
import Derived.Test.YthcoapcffhgckaaDoorTDa3
import Derived.Test.YthcoapcffhgckaaDoorTDa4
import Derived.Test.YthcoapcffhgckaaDoorTDa5
set_option maxHeartbeats 8000000
set_option maxRecDepth 100000
namespace Go.Proofs.YthcoapcffhgckaaDoor
open Go.RowKit Go.Slip
theorem o0u (a N : Nat) : (dig B16 (a * 2 ^ N)).length ≤ (dig B16 a).length + (N / 16 + 1) := by
 refine Nat.le_trans (e0l a0g _ _) ?_
 have : (dig B16 (2 ^ N)).length = N / 16 + 1 := by rw [← g0s (B := B16) (w := 16) (by decide) (by omega) N]; simp
 omega
def w0r (a : Nat) (e f : Int) : Int := if a = 0 then f else min e f
theorem y0x (g h : Bool) (a b : Nat) (e f : Int) : e0j ⟨g, a, e⟩ ⟨h, b, f⟩ = if b = 0 then e else w0r a e f := rfl
theorem k0e (a : Nat) : (((dig B16 a).length : Int) == 0) = decide (a = 0) := by
 have := a0h a0g a
 by_cases h : a = 0
 · subst h; rw [a0b]; rfl
 · rw [decide_eq_false h]; exact bFn (by omega)
theorem o0v (g h : Bool) (p q : OA) (n c m d : Nat) (e f : Int) (a b : Nat) (w : World) (hp : Rd w .i64 p (dig B16 a)) (hq : Rd w .i64 q (dig B16 b)) (hn : n = (dig B16 a).length) (hm : m = (dig B16 b).length)
 (hl : (dig B16 a).length ≤ 1000000) (hl2 : (dig B16 b).length ≤ 1000000) (he : -1000000 ≤ e ∧ e ≤ 1000000) (hf : -1000000 ≤ f ∧ f ≤ 1000000) :
 Calls Tryd.prog 27 #[.agg #[.bool g, .slice p n c, .int .i64 e], .agg #[.bool h, .slice q m d, .int .i64 f]] w (j0k w (fun _ => False) (k0m ⟨g, a, e⟩ ⟨h, b, f⟩)) := by
 subst hn hm
 obtain ⟨W1, hW1, hs1, A1, B1, R1, hz1⟩ := a1c w (.bool g) (.slice p (dig B16 a).length c) (.int .i64 e) (.bool h) (.slice q (dig B16 b).length d) (.int .i64 f) (.bool false) (.slice none 0 0) (.int .i64 0) 34 34 34
 have hp1 := hp.past hs1
 have hq1 := hq.past hs1
 have a1 := A1.c1
 have a2 := A1.c2
 have b1 := B1.c1
 have b2 := B1.c2
 have HW1 := lHd hW1
 clear hW1
 have za := k0e a
 have zb := k0e b
 go_enter Tryd.func27, Tryd.ntmps27
 go_upto_if 16 with (fail)
 rw [← HW1.out]
 clear HW1
 go_cut [5] (fun s5 wx => s5 = .int .i64 (w0r a e f) ∧ wx = W1)
 case first =>
  go_wp2_with fail
  all_goals go_meet
  all_goals (refine ⟨?_, rfl⟩; unfold w0r; simp [*])
 case rest =>
  obtain ⟨rfl, rfl⟩ := hcut
  go_upto_if 22 with (fail)
  go_cut [5] (fun s5 wx => s5 = .int .i64 (e0j ⟨g, a, e⟩ ⟨h, b, f⟩) ∧ wx = wc)
  case first =>
   go_wp2_with fail
   all_goals go_meet
   all_goals (refine ⟨?_, rfl⟩; rw [y0x]; simp [*])
  case rest =>
   obtain ⟨rfl, rfl⟩ := hcut
   clear za zb
   go_wp2_with fail
   clear a1 a2 b1 b2
   obtain ⟨w1, hw1⟩ : ∃ w1, w1 = wc := ⟨_, rfl⟩
   subst hw1
   have HJ := lHd (show k0m ⟨g, a, e⟩ ⟨h, b, f⟩ = bare (e0b g h (a * 2 ^ (e - e0j ⟨g, a, e⟩ ⟨h, b, f⟩).toNat) (b * 2 ^ (f - e0j ⟨g, a, e⟩ ⟨h, b, f⟩).toNat) (e0j ⟨g, a, e⟩ ⟨h, b, f⟩)) from rfl)
   have hk1 : -1000000 ≤ e0j ⟨g, a, e⟩ ⟨h, b, f⟩ ∧ e0j ⟨g, a, e⟩ ⟨h, b, f⟩ ≤ 1000000 := by unfold e0j; simp only; split; omega; split; omega; omega
   generalize e0j ⟨g, a, e⟩ ⟨h, b, f⟩ = k at *
   obtain ⟨N1, hN1⟩ : ∃ N1, N1 = (e - k).toNat := ⟨_, rfl⟩
   obtain ⟨N2, hN2⟩ : ∃ N2, N2 = (f - k).toNat := ⟨_, rfl⟩
   rw [← hN1, ← hN2] at HJ
   have n1 : N1 ≤ 2000000 := by omega
   have n2 : N2 ≤ 2000000 := by omega
   have e1 : IntKind.i64.wrap (e - k) = e - k := iwo
   have e2 : IntKind.i64.wrap (f - k) = f - k := iwo
   have m1 : max 0 (e - k) = (N1 : Int) := by omega
   have m2 : max 0 (f - k) = (N2 : Int) := by omega
   clear hN1 hN2
   go_cut [6, 7] (fun s6 s7 wx => ∃ (px : OA) (cx : Nat) (py : OA) (cy : Nat), s6 = .slice px (dig B16 (a * 2 ^ N1)).length cx ∧ s7 = .slice py (dig B16 (b * 2 ^ N2)).length cy ∧
     Rd wx .i64 px (dig B16 (a * 2 ^ N1)) ∧ Rd wx .i64 py (dig B16 (b * 2 ^ N2)) ∧ Below w1.heap.size w1 wx)
   case first =>
    go_region_held3 (fun w' => (w'.cell? ⟨w.heap.size, 1, none⟩ = some (.slice p (dig B16 a).length c) ∧ w'.cell? ⟨w.heap.size, 2, none⟩ = some (.int .i64 e)) ∧
        (w'.cell? ⟨w.heap.size + 1, 1, none⟩ = some (.slice q (dig B16 b).length d) ∧ w'.cell? ⟨w.heap.size + 1, 2, none⟩ = some (.int .i64 f)))
     (first | exact ⟨⟨A1.c1, A1.c2⟩, B1.c1, B1.c2⟩
            | (have D1 := A1.drew; have D2 := B1.drew; exact ⟨⟨D1.c1, D1.c2⟩, D2.c1, D2.c2⟩)
            | (have D1 := (A1.drew.past hbx).past hby; have D2 := (B1.drew.past hbx).past hby; exact ⟨⟨D1.c1, D1.c2⟩, D2.c1, D2.c2⟩)
            | (have D1 := (A1.drew.past hby).past hbx; have D2 := (B1.drew.past hby).past hbx; exact ⟨⟨D1.c1, D1.c2⟩, D2.c1, D2.c2⟩)
            | (have D1 := A1.drew.past hbx; have D2 := B1.drew.past hbx; exact ⟨⟨D1.c1, D1.c2⟩, D2.c1, D2.c2⟩)
            | (have D1 := A1.drew.past hby; have D2 := B1.drew.past hby; exact ⟨⟨D1.c1, D1.c2⟩, D2.c1, D2.c2⟩))
     (first
       | (go_at_call_of 51 (Value.slice p (dig B16 a).length c); refine (o0s p _ c a N1 _ ?_ rfl (by clear e1 e2 m1 m2; omega) (by clear e1 e2 m1 m2; omega)).mono ?_; (first | exact hp1.drew | exact hp1.drew.past hby); rintro ex wx ⟨px, cx, rfl, hrx, hcx, hfx, hbx⟩)
       | (go_at_call_of 51 (Value.slice q (dig B16 b).length d); refine (o0s q _ d b N2 _ ?_ rfl (by clear e1 e2 m1 m2; omega) (by clear e1 e2 m1 m2; omega)).mono ?_; (first | exact hq1.drew | exact hq1.drew.past hbx); rintro ey wy ⟨py, cy, rfl, hry, hcy, hfy, hby⟩))
    all_goals (clear e1 e2 m1 m2)
    all_goals (go_wp2_with fail)
    all_goals go_meet
    all_goals (first
      | exact ⟨px, cx, py, cy, rfl, rfl, hrx.past hby, hry, ((Below.refl _ _).drew.trans hbx).trans (hby.mono hbx.size)⟩
      | exact ⟨px, cx, py, cy, rfl, rfl, hrx, hry.past hbx, ((Below.refl _ _).drew.trans hby).trans (hbx.mono hby.size)⟩)
   case rest =>
    obtain ⟨px, cx, py, cy, rfl, rfl, hrx, hry, hb4⟩ := hcut
    clear e1 e2 m1 m2
    have lX : (dig B16 (a * 2 ^ N1)).length ≤ 2000000 := by have := o0u a N1; omega
    have lY : (dig B16 (b * 2 ^ N2)).length ≤ 2000000 := by have := o0u b N2; omega
    generalize a * 2 ^ N1 = x at *
    generalize b * 2 ^ N2 = y at *
    have hs4 := hs1.trans (hb4.mono hs1.size)
    have A4 := A1.past hb4
    have B4 := B1.past hb4
    have R4 := R1.past hb4
    have a0 := A4.c0
    have b0 := B4.c0
    have hzc := hb4.size
    clear a0 b0
    have hxy0 : 0 ≤ k + 1000000 := by omega
    by_cases hgh : g = h
    · subst hgh
      have HK := lHd (HJ.out.trans (congrArg bare (show e0b g g x y k = ⟨g, x + y, k⟩ by unfold e0b; rw [if_pos rfl])))
      have hgg : (g == g) = true := by simp
      have lm : (dig B16 (x + y)).length ≤ 5000000 := by have := b0b a0g x y; omega
      have a0 := A4.c0
      have b0 := B4.c0
      go_wp2_with fail
      clear a0 b0
      obtain ⟨m, hm⟩ : ∃ m, x + y = m := ⟨_, rfl⟩
      have HM := lHd hm
      rw [hm] at HK lm
      clear hm
      go_region_held3 (fun w' => w'.cell? ⟨w.heap.size, 0, none⟩ = some (.bool g))
       (first | exact A4.c0 | exact A4.drew.c0 | exact (A4.drew.past hb6).c0 | exact ((A4.drew.past hb6).past hb7).c0 | exact (((((A4.drew.past hb6).past hb7).set (by omega)).set (by omega)).set (by omega)).c0)
       (first | (go_at_call 52; refine (q0m px py _ _ cx cy x y _ hrx.drew hry.drew rfl rfl (by omega)).mono ?_; rw [HM.out]; rintro e6 w6 ⟨p6, c6, rfl, hr6, hc6, hf6, hb6⟩)
              | (go_at_call 25; refine (d0x g p6 _ c6 k m _ hr6 rfl (by omega) (by omega)).mono ?_; generalize bare ⟨g, m, k⟩ = rr at *; rintro e7 w7 ⟨p7, c7, rfl, hr7, hc7, hf7, hb7⟩; obtain ⟨d0, d1, d2, f0, f1, f2, dlt⟩ := (R4.drew.past hb6).past hb7))
      all_goals (go_wp2_with fail)
      refine bodyPost_ret (v := .agg #[.bool rr.neg, .slice p7 (dig B16 rr.m).length c7, .int .i64 rr.e]) (by simp [results, Tryd.results27, go_sem, d0, d1, d2]) rfl ?_
      rw [HK.out]
      have hzd : wc.drew.heap.size = wc.heap.size := rfl
      have hs6 := hs4.drew.trans (hb6.mono hs4.size)
      have hz6 := hb6.size
      have hzR := R4.lt
      have hzS := hs4.size
      have hf : 0 < (dig B16 rr.m).length → w6.heap.size ≤ blk p7 := fun h => by rcases hf7 h with h | h; exact h.elim; exact h
      exact c0s (hs6.trans (hb7.mono hs6.size)) hr7 hc7 (fun h => .inr (by have := hf h; omega)) (by omega) (fun h => by have := hf h; omega)
    · by_cases hxy : y ≤ x
      · have HK := lHd (HJ.out.trans (congrArg bare (show e0b g h x y k = ⟨g, x - y, k⟩ by unfold e0b; rw [if_neg hgh, if_pos hxy])))
        have hgg : (g == h) = false := by simpa using hgh
        have hC : 0 ≤ cmpN x y := by unfold cmpN; rw [if_neg (by omega)]; split <;> omega
        have HXY := lHd hxy
        have lm : (dig B16 (x - y)).length ≤ 5000000 := by have := a0e a0g (Nat.sub_le x y); omega
        clear hxy hgh
        have a0 := A4.c0
        have b0 := B4.c0
        go_wp2_with fail
        ((with_reducible refine (l0n px py _ _ cx cy x y _ hrx hry rfl rfl (by omega) (by omega)).mono ?_))
        rintro e9 w9 ⟨rfl, hb9⟩
        clear a0 b0
        have hs9 := hs4.trans (hb9.mono hs4.size)
        have hz9 := hb9.size
        replace A4 := A4.past hb9
        replace B4 := B4.past hb9
        replace R4 := R4.past hb9
        replace hrx := hrx.past hb9
        replace hry := hry.past hb9
        go_wp2_with fail
        obtain ⟨m, hm⟩ : ∃ m, x - y = m := ⟨_, rfl⟩
        have HM := lHd hm
        rw [hm] at HK lm
        clear hm
        go_region_held3 (fun w' => w'.cell? ⟨w.heap.size, 0, none⟩ = some (.bool g))
         (first | exact A4.c0 | exact A4.drew.c0 | exact (A4.drew.past hb6).c0 | exact ((A4.drew.past hb6).past hb7).c0 | exact (((((A4.drew.past hb6).past hb7).set (by omega)).set (by omega)).set (by omega)).c0)
         (first | (go_at_call 54; refine (k0d px py _ _ cx cy x y _ hrx.drew hry.drew rfl rfl (by omega) HXY.out).mono ?_; rw [HM.out]; rintro e6 w6 ⟨p6, c6, rfl, hr6, hc6, hf6, hb6⟩)
                | (go_at_call 25; refine (d0x g p6 _ c6 k m _ hr6 rfl (by omega) (by omega)).mono ?_; generalize bare ⟨g, m, k⟩ = rr at *; rintro e7 w7 ⟨p7, c7, rfl, hr7, hc7, hf7, hb7⟩; obtain ⟨d0, d1, d2, f0, f1, f2, dlt⟩ := (R4.drew.past hb6).past hb7))
        all_goals (go_wp2_with fail)
        refine bodyPost_ret (v := .agg #[.bool rr.neg, .slice p7 (dig B16 rr.m).length c7, .int .i64 rr.e]) (by simp [results, Tryd.results27, go_sem, d0, d1, d2]) rfl ?_
        rw [HK.out]
        have hzd : w9.drew.heap.size = w9.heap.size := rfl
        have hs6 := hs9.drew.trans (hb6.mono hs9.size)
        have hz6 := hb6.size
        have hzR := R4.lt
        have hzS := hs9.size
        have hf : 0 < (dig B16 rr.m).length → w6.heap.size ≤ blk p7 := fun h => by rcases hf7 h with h | h; exact h.elim; exact h
        exact c0s (hs6.trans (hb7.mono hs6.size)) hr7 hc7 (fun h => .inr (by have := hf h; omega)) (by omega) (fun h => by have := hf h; omega)
      · have HK := lHd (HJ.out.trans (congrArg bare (show e0b g h x y k = ⟨h, y - x, k⟩ by unfold e0b; rw [if_neg hgh, if_neg hxy])))
        have hgg : (g == h) = false := by simpa using hgh
        have hC : cmpN x y ≤ -1 := by rw [f0d (by omega)]; omega
        have HXY := lHd (show x ≤ y by omega)
        have lm : (dig B16 (y - x)).length ≤ 5000000 := by have := a0e a0g (Nat.sub_le y x); omega
        clear hxy hgh
        have a0 := A4.c0
        have b0 := B4.c0
        go_wp2_with fail
        ((with_reducible refine (l0n px py _ _ cx cy x y _ hrx hry rfl rfl (by omega) (by omega)).mono ?_))
        rintro e9 w9 ⟨rfl, hb9⟩
        clear a0 b0
        have hs9 := hs4.trans (hb9.mono hs4.size)
        have hz9 := hb9.size
        replace A4 := A4.past hb9
        replace B4 := B4.past hb9
        replace R4 := R4.past hb9
        replace hrx := hrx.past hb9
        replace hry := hry.past hb9
        go_wp2_with fail
        obtain ⟨m, hm⟩ : ∃ m, y - x = m := ⟨_, rfl⟩
        have HM := lHd hm
        rw [hm] at HK lm
        clear hm
        go_region_held3 (fun w' => w'.cell? ⟨w.heap.size + 1, 0, none⟩ = some (.bool h))
         (first | exact B4.c0 | exact B4.drew.c0 | exact (B4.drew.past hb6).c0 | exact ((B4.drew.past hb6).past hb7).c0 | exact (((((B4.drew.past hb6).past hb7).set (by omega)).set (by omega)).set (by omega)).c0)
         (first | (go_at_call 54; refine (k0d py px _ _ cy cx y x _ hry.drew hrx.drew rfl rfl (by omega) HXY.out).mono ?_; rw [HM.out]; rintro e6 w6 ⟨p6, c6, rfl, hr6, hc6, hf6, hb6⟩)
                | (go_at_call 25; refine (d0x h p6 _ c6 k m _ hr6 rfl (by omega) (by omega)).mono ?_; generalize bare ⟨h, m, k⟩ = rr at *; rintro e7 w7 ⟨p7, c7, rfl, hr7, hc7, hf7, hb7⟩; obtain ⟨d0, d1, d2, f0, f1, f2, dlt⟩ := (R4.drew.past hb6).past hb7))
        all_goals (go_wp2_with fail)
        refine bodyPost_ret (v := .agg #[.bool rr.neg, .slice p7 (dig B16 rr.m).length c7, .int .i64 rr.e]) (by simp [results, Tryd.results27, go_sem, d0, d1, d2]) rfl ?_
        rw [HK.out]
        have hzd : w9.drew.heap.size = w9.heap.size := rfl
        have hs6 := hs9.drew.trans (hb6.mono hs9.size)
        have hz6 := hb6.size
        have hzR := R4.lt
        have hzS := hs9.size
        have hf : 0 < (dig B16 rr.m).length → w6.heap.size ≤ blk p7 := fun h => by rcases hf7 h with h | h; exact h.elim; exact h
        exact c0s (hs6.trans (hb7.mono hs6.size)) hr7 hc7 (fun h => .inr (by have := hf h; omega)) (by omega) (fun h => by have := hf h; omega)
theorem o0w (P : Nat → Prop) (g : Bool) (p : OA) (n c : Nat) (e : Int) (a : Nat) (w : World) (hp : Rd w .i64 p (dig B16 a)) (hn : n = (dig B16 a).length) (hc : n ≤ c) (hP : 0 < (dig B16 a).length → P (blk p)) :
 Calls Tryd.prog 28 #[.agg #[.bool g, .slice p n c, .int .i64 e]] w (j0k w P (c0a ⟨g, a, e⟩)) := by
 subst hn
 have hz := a0h a0g a
 cases g
 · by_cases h0 : 0 < (dig B16 a).length
   · have t1 : decide ((0 : Int) < ((dig B16 a).length : Int)) = true := dTr (by omega)
     have hd : c0a ⟨false, a, e⟩ = ⟨true, a, e⟩ := by unfold c0a; simp; (try omega)
     rw [hd]
     clear hd hz
     go_enter Tryd.func28, Tryd.ntmps28
     go_wp2
     refine bodyPost_ret (v := .agg #[.bool true, .slice p (dig B16 a).length c, .int .i64 e]) (by simp [results, Tryd.results28, go_sem]) rfl ?_
     exact ⟨p, c, rfl, (hp.laid _).laid _, hc, fun h => .inl (hP h), b0d _ _ _⟩
   · have t1 : decide ((0 : Int) < ((dig B16 a).length : Int)) = false := dFa (by omega)
     have hd : c0a ⟨false, a, e⟩ = ⟨false, a, e⟩ := by unfold c0a; simp; (try omega)
     rw [hd]
     clear hd hz
     go_enter Tryd.func28, Tryd.ntmps28
     go_wp2
     refine bodyPost_ret (v := .agg #[.bool false, .slice p (dig B16 a).length c, .int .i64 e]) (by simp [results, Tryd.results28, go_sem]) rfl ?_
     exact ⟨p, c, rfl, (hp.laid _).laid _, hc, fun h => .inl (hP h), b0d _ _ _⟩
 · have t0 := True.intro
   have hd : c0a ⟨true, a, e⟩ = ⟨false, a, e⟩ := by unfold c0a; simp; (try omega)
   rw [hd]
   clear hd hz
   go_enter Tryd.func28, Tryd.ntmps28
   go_wp2
   refine bodyPost_ret (v := .agg #[.bool false, .slice p (dig B16 a).length c, .int .i64 e]) (by simp [results, Tryd.results28, go_sem]) rfl ?_
   exact ⟨p, c, rfl, (hp.laid _).laid _, hc, fun h => .inl (hP h), b0d _ _ _⟩
theorem s0y (a b : Dv) : rCmp a b = if (k0m a (c0a b)).m = 0 then 0 else if (k0m a (c0a b)).neg then -1 else 1 := rfl
theorem q0n (g h : Bool) (p q : OA) (n c m d : Nat) (e f : Int) (a b : Nat) (w : World) (hp : Rd w .i64 p (dig B16 a)) (hq : Rd w .i64 q (dig B16 b)) (hn : n = (dig B16 a).length) (hm : m = (dig B16 b).length) (hcm : m ≤ d)
 (hl : (dig B16 a).length ≤ 1000000) (hl2 : (dig B16 b).length ≤ 1000000) (he : -1000000 ≤ e ∧ e ≤ 1000000) (hf : -1000000 ≤ f ∧ f ≤ 1000000) :
 Calls Tryd.prog 12 #[.agg #[.bool g, .slice p n c, .int .i64 e], .agg #[.bool h, .slice q m d, .int .i64 f]] w fun en w' => en = .returned (.int .i64 (rCmp ⟨g, a, e⟩ ⟨h, b, f⟩)) ∧ Below w.heap.size w w' := by
 subst hn hm
 have hs1 := b0d w (.cells #[.bool g, .slice p (dig B16 a).length c, .int .i64 e] 34) (.cells #[.bool h, .slice q (dig B16 b).length d, .int .i64 f] 34)
 have A1 := (a0i w (.bool g) (.slice p (dig B16 a).length c) (.int .i64 e) 34).laid (.cells #[.bool h, .slice q (dig B16 b).length d, .int .i64 f] 34)
 have B1 := a0i (w.alloc (.cells #[.bool g, .slice p (dig B16 a).length c, .int .i64 e] 34)) (.bool h) (.slice q (dig B16 b).length d) (.int .i64 f) 34
 simp only [World.size_alloc] at B1
 have hp1 := hp.past hs1
 have hq1 := hq.past hs1
 have HC := lHd (s0y ⟨g, a, e⟩ ⟨h, b, f⟩)
 obtain ⟨mi, hmi⟩ : ∃ mi, c0a ⟨h, b, f⟩ = mi := ⟨_, rfl⟩
 have hmm : mi.m = b ∧ mi.e = f := by rw [← hmi]; exact ⟨rfl, rfl⟩
 have HMI := lHd hmi
 rw [hmi] at HC
 clear hmi
 obtain ⟨h', b', f'⟩ := mi
 simp only at hmm
 obtain ⟨rfl, rfl⟩ := hmm
 obtain ⟨⟨gr, mr, xr⟩, hr⟩ : ∃ r, k0m ⟨g, a, e⟩ ⟨h', b', f'⟩ = r := ⟨_, rfl⟩
 rw [hr] at HC
 have HR := lHd hr
 clear hr
 have hz := a0h a0g mr
 obtain ⟨W1, hW1⟩ : ∃ W1, W1 = (w.alloc (.cells #[.bool g, .slice p (dig B16 a).length c, .int .i64 e] 34)).alloc (.cells #[.bool h, .slice q (dig B16 b').length d, .int .i64 f'] 34) := ⟨_, rfl⟩
 have hz1 : W1.heap.size = w.heap.size + 1 + 1 := by rw [hW1]; simp
 rw [← hW1] at hs1 A1 B1 hp1 hq1
 have HW1 := lHd hW1
 clear hW1
 have HZ := lHd hz
 clear hz
 go_enter Tryd.func12, Tryd.ntmps12
 go_wp2_with fail
 rw [← HW1.out]
 clear HW1
 go_cut [5] (fun s5 wx => ∃ (k : Nat) (pr : OA) (cr : Nat), s5 = .pointer (some ⟨k, 0, none⟩) ∧ wx.cell? ⟨k, 0, none⟩ = some (.bool gr) ∧ wx.cell? ⟨k, 1, none⟩ = some (.slice pr (dig B16 mr).length cr) ∧ Below w.heap.size w wx)
 case first =>
  go_region_held3 (fun w' => (w'.cell? ⟨w.heap.size, 0, none⟩ = some (.bool g) ∧ w'.cell? ⟨w.heap.size, 1, none⟩ = some (.slice p (dig B16 a).length c) ∧ w'.cell? ⟨w.heap.size, 2, none⟩ = some (.int .i64 e)) ∧
      (w'.cell? ⟨w.heap.size + 1, 0, none⟩ = some (.bool h) ∧ w'.cell? ⟨w.heap.size + 1, 1, none⟩ = some (.slice q (dig B16 b').length d) ∧ w'.cell? ⟨w.heap.size + 1, 2, none⟩ = some (.int .i64 f')))
   (first | exact ⟨⟨(((A6.set hkA).set hkA).set hkA).c0, (((A6.set hkA).set hkA).set hkA).c1, (((A6.set hkA).set hkA).set hkA).c2⟩, (((B6.set hkB).set hkB).set hkB).c0, (((B6.set hkB).set hkB).set hkB).c1, (((B6.set hkB).set hkB).set hkB).c2⟩
          | exact ⟨⟨(A6.laid _).c0, (A6.laid _).c1, (A6.laid _).c2⟩, (B6.laid _).c0, (B6.laid _).c1, (B6.laid _).c2⟩
          | exact ⟨⟨(A6).c0, (A6).c1, (A6).c2⟩, (B6).c0, (B6).c1, (B6).c2⟩
          | exact ⟨⟨((A1.drew.laid _).past hb2).c0, ((A1.drew.laid _).past hb2).c1, ((A1.drew.laid _).past hb2).c2⟩, ((B1.drew.laid _).past hb2).c0, ((B1.drew.laid _).past hb2).c1, ((B1.drew.laid _).past hb2).c2⟩
          | exact ⟨⟨((A1.drew.past hb2).laid _).c0, ((A1.drew.past hb2).laid _).c1, ((A1.drew.past hb2).laid _).c2⟩, ((B1.drew.past hb2).laid _).c0, ((B1.drew.past hb2).laid _).c1, ((B1.drew.past hb2).laid _).c2⟩
          | exact ⟨⟨(A1.drew.past hb2).c0, (A1.drew.past hb2).c1, (A1.drew.past hb2).c2⟩, (B1.drew.past hb2).c0, (B1.drew.past hb2).c1, (B1.drew.past hb2).c2⟩
          | exact ⟨⟨(A1.drew.laid _).c0, (A1.drew.laid _).c1, (A1.drew.laid _).c2⟩, (B1.drew.laid _).c0, (B1.drew.laid _).c1, (B1.drew.laid _).c2⟩
          | exact ⟨⟨(A1.drew).c0, (A1.drew).c1, (A1.drew).c2⟩, (B1.drew).c0, (B1.drew).c1, (B1.drew).c2⟩
          | exact ⟨⟨(A1).c0, (A1).c1, (A1).c2⟩, (B1).c0, (B1).c1, (B1).c2⟩)
   (first
     | (go_at_call 28; refine (o0w (fun _ => True) h q _ d f' b' _ ?_ rfl hcm (fun _ => trivial)).mono ?_; (first | exact hq1.drew | exact hq1.drew.laid _); rw [HMI.out]; rintro e2 w2 ⟨p2, c2, rfl, hr2, hc2, hf2, hb2⟩)
     | (go_at_call 27; refine (o0v g h' p p2 _ c _ c2 e f' a b' _ ?_ ?_ rfl rfl hl hl2 he hf).mono ?_; (first | exact hp1.drew.past hb2 | exact (hp1.drew.laid _).past hb2 | exact (hp1.drew.past hb2).laid _); (first | exact hr2 | exact hr2.laid _); rw [HR.out]; rintro e3 w3 ⟨p3, c3, rfl, hr3, hc3, hf3, hb3⟩; (first
         | (have K3 := ((a0i W1.drew (.bool false) (.slice none 0 0) (.int .i64 0) 34).past hb2).past hb3; have hK3 : W1.drew.heap.size = W1.heap.size := rfl; rw [hK3, hz1] at K3; clear hK3; have KP := K3.put (.bool gr) (.slice p3 (dig B16 mr).length c3) (.int .i64 xr); obtain ⟨k0, k1, k2, k3, k4, k5, k6⟩ := K3; have hsA := (hs1.alloc hs1.size (.cells #[.bool false, .slice none 0 0, .int .i64 0] 34)).drew; have hs2 := hsA.trans (hb2.mono hsA.size); have hs3 := hs2.trans (hb3.mono hs2.size); have hkK : w.heap.size ≤ w.heap.size + 1 + 1 := Nat.le_succ_of_le (Nat.le_succ _); have A6 := ((A1.drew.laid _).past hb2).past hb3; have B6 := ((B1.drew.laid _).past hb2).past hb3; have hkA : w.heap.size < w.heap.size + 1 + 1 := Nat.lt_succ_of_lt (Nat.lt_succ_self _); have hkB : w.heap.size + 1 < w.heap.size + 1 + 1 := Nat.lt_succ_self _)
         | (have K3 := (a0i w2 (.bool false) (.slice none 0 0) (.int .i64 0) 34).past hb3; have KP := K3.put (.bool gr) (.slice p3 (dig B16 mr).length c3) (.int .i64 xr); obtain ⟨k0, k1, k2, k3, k4, k5, k6⟩ := K3; have hs2 := hs1.drew.trans (hb2.mono hs1.size); have hkK : w.heap.size ≤ w2.heap.size := hs2.size; have hsA := hs2.alloc hs2.size (.cells #[.bool false, .slice none 0 0, .int .i64 0] 34); have hs3 := hsA.trans (hb3.mono hsA.size); have A6 := ((A1.drew.past hb2).laid _).past hb3; have B6 := ((B1.drew.past hb2).laid _).past hb3; have hkA : w.heap.size < w2.heap.size := (A1.drew.past hb2).lt; have hkB : w.heap.size + 1 < w2.heap.size := (B1.drew.past hb2).lt)
         | (have hs2 := hs1.drew.trans (hb2.mono hs1.size); have hs3 := hs2.trans (hb3.mono hs2.size); have A6 := (A1.drew.past hb2).past hb3; have B6 := (B1.drew.past hb2).past hb3))))
  all_goals (go_wp2_with fail)
  all_goals go_meet
  all_goals (first
    | exact ⟨_, p3, c3, rfl, KP.c0, KP.c1, ((hs3.setCell hkK _).setCell hkK _).setCell hkK _⟩
    | exact ⟨w3.heap.size, p3, c3, rfl, (a0i w3 _ _ _ _).c0, (a0i w3 _ _ _ _).c1, hs3.alloc hs3.size _⟩)
 case rest =>
  obtain ⟨k, pr, cr, rfl, k0, k1, hs9⟩ := hcut
  by_cases h0 : mr = 0
  · have hl0 : (dig B16 mr).length = 0 := HZ.out.2 h0
    have HK := lHd (HC.out.trans (by rw [if_pos h0]))
    rw [hl0] at k1
    clear hl0 h0
    go_wp2
    go_ret
    exact ⟨a0s HK.out.symm, hs9⟩
  · have t1 : (((dig B16 mr).length : Int) == 0) = false := bFn (fun h => h0 (HZ.out.1 (by omega)))
    cases gr
    · have HK := lHd (HC.out.trans (by rw [if_neg h0]))
      clear h0
      go_wp2
      go_ret
      exact ⟨a0s HK.out.symm, hs9⟩
    · have HK := lHd (HC.out.trans (by rw [if_neg h0]))
      clear h0
      go_wp2
      go_ret
      exact ⟨a0s HK.out.symm, hs9⟩
end Go.Proofs.YthcoapcffhgckaaDoor
namespace Go.Slip
def le2 (a : Nat) (x : Int) (b : Nat) (y : Int) : Prop := a * 2 ^ (x - min x y).toNat ≤ b * 2 ^ (y - min x y).toNat
theorem k0f {a b : Nat} {x y : Int} (s : Int) (h1 : s ≤ x) (h2 : s ≤ y) : le2 a x b y ↔ a * 2 ^ (x - s).toNat ≤ b * 2 ^ (y - s).toNat := by
 unfold le2
 rw [show (x - s).toNat = (x - min x y).toNat + (min x y - s).toNat by omega, show (y - s).toNat = (y - min x y).toNat + (min x y - s).toNat by omega, Nat.pow_add, Nat.pow_add, ← Nat.mul_assoc, ← Nat.mul_assoc]
 have hp : 0 < 2 ^ (min x y - s).toNat := Nat.pow_pos (by omega)
 exact ⟨fun h => Nat.mul_le_mul_right _ h, fun h => Nat.le_of_mul_le_mul_right h hp⟩
theorem w0s {a b c : Nat} {x y z : Int} (h : le2 a x b y) (k : le2 b y c z) : le2 a x c z := by
 obtain ⟨s, h1, h2, h3⟩ : ∃ s : Int, s ≤ x ∧ s ≤ y ∧ s ≤ z := ⟨min x (min y z), by omega, by omega, by omega⟩
 rw [k0f s h1 h2] at h
 rw [k0f s h2 h3] at k
 rw [k0f s h1 h3]
 exact Nat.le_trans h k
theorem b1f {a : Nat} {x : Int} (n : Nat) : le2 (a * 2 ^ n) x a (x + n) ∧ le2 a (x + n) (a * 2 ^ n) x := by
 rw [k0f x (Int.le_refl _) (by omega), k0f x (by omega) (Int.le_refl _)]
 rw [show (x - x).toNat = 0 by omega, show (x + (n : Int) - x).toNat = n by omega]
 simp
theorem z0t {num den : Nat} (hd : 0 < den) (e k : Int) (m : Nat) : m ≤ qP num den (e - k) ↔ le2 (m * den) k num e := by
 unfold qP
 rw [Nat.le_div_iff_mul_le (i0v hd _)]
 unfold numP denP le2
 rcases Int.le_total k e with h | h
 · rw [show (-(e - k)).toNat = 0 by omega, show (k - min k e).toNat = 0 by omega, show (e - min k e).toNat = (e - k).toNat by omega]
   simp only [Nat.pow_zero, Nat.mul_one]
 · rw [show (e - k).toNat = 0 by omega, show (k - min k e).toNat = (-(e - k)).toNat by omega, show (e - min k e).toNat = 0 by omega]
   simp only [Nat.pow_zero, Nat.mul_one, Nat.mul_assoc]
theorem w0t {num den : Nat} (hd : 0 < den) (e : Int) (w D : Nat) (k : Int) : d0p num den e w D k ↔ le2 (2 ^ (w * (D - 1)) * den) (w * k) num e := by
 unfold d0p; exact z0t hd e _ _
theorem q_lt {num den : Nat} (hd : 0 < den) {e : Int} {w D : Nat} (hD : 1 ≤ D) {k : Int} (h : ¬ d0p num den e w D (k + 1)) : qP num den (e - w * k) < 2 ^ (w * D) := by
 rcases Nat.lt_or_ge (qP num den (e - w * k)) (2 ^ (w * D)) with h1 | h1
 · exact h1
 · exfalso
   refine h ((w0t hd e w D (k + 1)).2 ?_)
   have h2 := (z0t hd e ((w : Int) * k) _).1 h1
   have e1 : w * D = w * (D - 1) + w := by
    obtain ⟨c, rfl⟩ : ∃ c, D = c + 1 := ⟨D - 1, by omega⟩
    simp only [Nat.add_sub_cancel]; grind
   have e2 : 2 ^ (w * D) * den = 2 ^ (w * (D - 1)) * den * 2 ^ w := by rw [e1, Nat.pow_add]; grind
   rw [e2] at h2
   have h3 := (b1f (a := 2 ^ (w * (D - 1)) * den) (x := (w : Int) * k) w).2
   rw [show (w : Int) * (k + 1) = w * k + w by rw [Int.mul_add]; simp]
   exact w0s h3 h2
theorem b1g (g : Gd) (K : Int) : K ≤ powK g K := by unfold powK; split <;> omega
theorem b1h {num den : Nat} (hd : 0 < den) {e : Int} {w D : Nat} {K : Int} (hK : IsK num den e w D K) {k : Int} (hk : K ≤ k) : ¬ d0p num den e w D (k + 1) := fun h => by
 have := hK.le hd h
 omega
theorem y0y {neg : Bool} {num den : Nat} {e : Int} {g : Gd} {way K : Int} (hd : 0 < den) (G : x0y g) (hK : IsK num den e (wid g) g.digs.toNat K) : (fitK neg num den e g way K).d < 2 ^ (wid g * g.digs.toNat) := by
 have hD : 1 ≤ g.digs.toNat := by have := G.d1; omega
 have hq := q_lt hd hD (b1h hd hK (b1g g K))
 have hww : wid g * (g.digs.toNat - 1) < wid g * g.digs.toNat := Nat.mul_lt_mul_of_pos_left (by omega) (j0s g).1
 show digP neg num den e (wid g) g.digs.toNat way (powK g K) < _
 unfold digP
 by_cases hl : p0w neg num den e (wid g) g.digs.toNat way (powK g K)
 · rw [if_pos hl]; exact Nat.pow_lt_pow_right (by omega) hww
 · rw [if_neg hl]
   unfold p0w at hl
   by_cases hu : upP neg num den e (wid g) way (powK g K) = true
   · exact (b0s _ _).1 (by have : ¬ wid g * g.digs.toNat < blen (dUp neg num den e (wid g) way (powK g K)) := fun h => hl ⟨hu, h⟩; omega)
   · have : upP neg num den e (wid g) way (powK g K) = false := by simpa using hu
     unfold dUp; rw [this]; simpa using hq
def rv (neg : Bool) (num den : Nat) (e : Int) (g : Gd) (way : Int) : Dv := bare ⟨(g0g neg num den e g way).neg, (g0g neg num den e g way).d, wid g * (g0g neg num den e g way).pow⟩
theorem b1i {neg : Bool} {num den : Nat} {e : Int} {g : Gd} {way : Int} (hd : 0 < den) (G : x0y g) : (dig B32 (g0g neg num den e g way).d).length ≤ 16 := by
 unfold g0g
 by_cases h0 : num = 0
 · rw [if_pos h0]; simp [a0b]
 · rw [if_neg h0]
   have hK := p0x (num := num) (by omega) hd e (w := wid g) (D := g.digs.toNat) (j0s g).1 (by have := G.d1; omega)
   have h1 := y0y (neg := neg) (way := way) hd G hK
   have h2 : wid g * g.digs.toNat ≤ 480 := by
    have := Nat.mul_le_mul (j0s g).2 (show g.digs.toNat ≤ 120 by have := G.d2; omega)
    omega
   exact Nat.le_trans (a0e a0a (Nat.le_of_lt h1)) (h0c h2)
theorem o0x (a : Dv) : rCmp a a = 0 := by
 rw [i0t a a (e := a.e) (Int.le_refl _) (Int.le_refl _), Int.sub_self]
 rfl
structure Bd (d : Dv) : Prop where
 len : (dig B32 d.m).length ≤ 1200
 lo : -20000 ≤ d.e
 hi : d.e ≤ 20000
theorem q0o : Bd ⟨false, 0, 0⟩ := ⟨by simp [a0b], by decide, by decide⟩
end Go.Slip
namespace Go.Proofs.YthcoapcffhgckaaDoor
open Go.RowKit Go.Slip
theorem r0o (D : Dv) : Bd (c0k D) := by
 unfold c0k
 split
 · rename_i h
   obtain ⟨h1, h2, h3⟩ := q0l h
   exact ⟨h1, h2, h3⟩
 · exact q0o
theorem l0o (e : Int) (D : Dv) : Bd (e0g e D) := by
 unfold e0g
 split
 · exact r0o D
 · exact q0o
theorem s0z (a b : Din) (D : Dv) : Bd (e0q a b D) := by
 unfold e0q
 split
 · exact r0o D
 · exact q0o
def GNr (w : World) (d : Dv) (en : Ending) (w' : World) : Prop :=
 ∃ p c, en = .returned (.agg #[.bool d.neg, .slice p (dig B16 d.m).length c, .int .i64 d.e]) ∧ Rf w' w.heap.size p c (dig B16 d.m) ∧ Below w.heap.size w w'
theorem f0x (d : Dv) (p : OA) (c base : Nat) (w : World) (ho : Own w base .u32 55 p c (dig B32 d.m)) (h : Bd d) :
 Calls Tryd.prog 11 #[.agg #[.bool d.neg, .slice p (dig B32 d.m).length c, .int .i64 d.e]] w (GNr w (bare d)) := by
 obtain ⟨h1, _⟩ := c1x w base d p c ho (by have := h.len; omega)
 have he : a0w ⟨d.neg, p, c, dig B32 d.m, d.e⟩ = 0 := by
  unfold a0w
  rw [if_pos (show a0n (dig B32 d.m) = 0 by rw [r0t, if_neg (by have := h.len; omega)]), if_neg (by have := h.lo; have := h.hi; simp; omega)]
 have hv : dyV ⟨d.neg, p, c, dig B32 d.m, d.e⟩ = bare d := by
  unfold dyV
  rw [a0q a0a]
 have k := n0g _ w h1 he
 rw [hv] at k
 refine k.mono ?_
 rintro e w' ⟨p', c', g1, g2, g3, g4, g5⟩
 exact ⟨p', c', g1, d1b g2 g3 g4, g5⟩
theorem n0i (d : Dv) (p q : OA) (c c' b1 b2 : Nat) (w : World) (hp : Rf w b1 p c (dig B16 (bare d).m)) (hq : Rf w b2 q c' (dig B16 (bare d).m)) (h : Bd d) :
 Calls Tryd.prog 12 #[.agg #[.bool (bare d).neg, .slice p (dig B16 (bare d).m).length c, .int .i64 (bare d).e], .agg #[.bool (bare d).neg, .slice q (dig B16 (bare d).m).length c', .int .i64 (bare d).e]] w
  fun en w' => en = .returned (.int .i64 0) ∧ Below w.heap.size w w' := by
 have h1 := c0z a0a d
 have h2 := g0c (bare d).m
 have h3 := h.len
 have h4 := k0y d (n := 1200) (by omega) h.lo h.hi (by omega) (by omega)
 have k := q0n (bare d).neg (bare d).neg p q _ c _ c' (bare d).e (bare d).e (bare d).m (bare d).m w hp.rd hq.rd rfl rfl hq.cap (by omega) (by omega) (by omega) (by omega)
 rw [o0x ⟨(bare d).neg, (bare d).m, (bare d).e⟩] at k
 exact k
theorem o0y {a : Rin} {g : Gd} {way : Int} {w : World} (ha : InR w a) (h : b0v a g way = 0) : 0 < val B32 a.ys ∧ errG g = 0 ∧ 1 ≤ way ∧ way ≤ 5 ∧ a0n a.xs = 0 ∧ a0n a.ys = 0 ∧ -20000 ≤ a.e ∧ a.e ≤ 20000 := by
 unfold b0v at h
 by_cases h1 : d0m a = 0
 · rw [if_neg (by simp [h1])] at h
   by_cases h2 : errG g = 0
   · rw [if_neg (by simp [h2])] at h
     have h3 : 1 ≤ way ∧ way ≤ 5 := by
      by_cases h3 : way < 1 ∨ 5 < way
      · rw [if_pos h3] at h; simp at h
      · omega
     unfold d0m at h1
     have h4 : a0n a.xs = 0 := by
      by_cases k : a0n a.xs = 0
      · exact k
      · rw [if_pos k] at h1; exact absurd h1 k
     rw [if_neg (by simp [h4])] at h1
     have h5 : a0n a.ys = 0 := by
      by_cases k : a0n a.ys = 0
      · exact k
      · rw [if_pos k] at h1; exact absurd h1 k
     rw [if_neg (by simp [h5])] at h1
     have h6 : ¬ (a.ys.length = 0 ∨ a.e < -20000 ∨ 20000 < a.e) := by
      intro k; rw [if_pos k] at h1; simp at h1
     obtain ⟨k1, k2⟩ := g0o ha.b2 h5
     have k3 := a0h a0a (val B32 a.ys)
     refine ⟨?_, h2, h3.1, h3.2, h4, h5, by omega, by omega⟩
     rcases Nat.eq_zero_or_pos (val B32 a.ys) with hz | hz
     · exfalso; apply h6; left; rw [k1]; exact k3.2 hz
     · exact hz
   · rw [if_pos h2] at h; exact absurd h h2
 · rw [if_pos h1] at h; exact absurd h h1
theorem q0p {q : Rin} {g : Gd} {way : Int} {w : World} (hq : InR w q) : (dig B32 (f0j q g way).d).length ≤ 1000000 := by
 unfold f0j
 split
 · rename_i h
   have k := o0y hq h
   exact Nat.le_trans (b1i k.1 (r0f k.2.1)) (by omega)
 · simp [a1u, a0b]
end Go.Proofs.YthcoapcffhgckaaDoor
namespace Go.Slip
open Go.RowKit
/-! ### Slices of structs -/
def OwnS (w : World) (base : Nat) (e : TypeId) (s : Nat) (p : OA) (c n : Nat) (vs : List Value) : Prop := w.ownsRow base e s (.slice p n c) n vs
theorem OwnS.nil (w : World) (base : Nat) (e : TypeId) (s : Nat) : OwnS w base e s none 0 0 [] := World.ownsRow_nil w base e s
section
variable {w w' : World} {base : Nat} {e : TypeId} {s : Nat} {p : OA} {c n : Nat} {vs : List Value}
theorem OwnS.form (h : OwnS w base e s p c n vs) : (p = none ∧ c = 0 ∧ n = 0 ∧ vs = []) ∨ ∃ g, p = some ⟨g, 0, none⟩ ∧ base ≤ g ∧ g < w.heap.size ∧ n ≤ c ∧ c ≤ maxLen := by
 rcases h.2 with ⟨h1, h2⟩ | ⟨g, cap, cur, hv, hb, hg, hn, hc, _, _⟩
 · left
   simp only [Value.slice.injEq] at h1
   refine ⟨h1.1, h1.2.2, h2, List.eq_nil_of_length_eq_zero ?_⟩
   rw [h.1, h2, Nat.zero_mul]
 · right
   simp only [Value.slice.injEq] at hv
   obtain ⟨rfl, _, rfl⟩ := hv
   exact ⟨g, rfl, hb, (Array.getElem?_eq_some_iff.1 hg).1, hn, hc⟩
theorem OwnS.blk_lt (h : OwnS w base e s p c n vs) (hp : p.isSome = true) : base ≤ blk p ∧ blk p < w.heap.size := by
 rcases h.form with ⟨rfl, _, _, rfl⟩ | ⟨g, rfl, h1, h2, _⟩
 · simp at hp
 · exact ⟨h1, h2⟩
theorem OwnS.mono {b' : Nat} (h : OwnS w base e s p c n vs) (hb : b' ≤ base) : OwnS w b' e s p c n vs := by
 refine ⟨h.1, ?_⟩
 rcases h.2 with h1 | ⟨g, cap, cur, hv, hbg, r⟩
 · exact .inl h1
 · exact .inr ⟨g, cap, cur, hv, by omega, r⟩
theorem OwnS.same (h : OwnS w base e s p c n vs) (hb : p.isSome = true → w'.heap[blk p]? = w.heap[blk p]?) : OwnS w' base e s p c n vs := by
 refine ⟨h.1, ?_⟩
 rcases h.2 with h1 | ⟨g, cap, cur, hv, hbg, hg, r⟩
 · exact .inl h1
 · simp only [Value.slice.injEq] at hv
   obtain ⟨rfl, h2, rfl⟩ := hv
   exact .inr ⟨g, c, cur, rfl, hbg, by rw [← hg]; exact hb rfl, r⟩
theorem OwnS.cell (h : OwnS w base e s p c n vs) {j : Nat} {u : Value} (hu : vs[j]? = some u) : w.cell? (at_ p j) = some u := by
 rcases h.form with ⟨_, _, _, rfl⟩ | ⟨g, rfl, _⟩
 · simp at hu
 · have := World.ownsRow.cells h (g := g) rfl j u hu
   rw [← this]
   unfold at_ Addr.add
   split <;> simp_all
theorem OwnS.solid (h : OwnS w base e s p c n vs) : h0n p n := by
 rcases h.form with ⟨_, _, rfl, _⟩ | ⟨g, rfl, _⟩
 · exact fun h => by simp at h
 · exact fun _ => ⟨rfl, rfl⟩
theorem OwnS.far (h : OwnS w base e s p c n vs) {b : Nat} {t : TypeId} {us : Array Value} (hX : Bt w b t us) (hne : Nat.beq t e = false) (hp : p.isSome = true) : blk p ≠ b := by
 rcases h.2 with ⟨h1, h2⟩ | ⟨g, cap, cur, hv, hb, hg, _⟩
 · simp only [Value.slice.injEq] at h1
   rw [h1.1] at hp; cases hp
 · simp only [Value.slice.injEq] at hv
   intro hE
   rw [hv.1] at hE
   have hE2 : g = b := hE
   subst hE2
   have hE3 := hg.symm.trans hX
   simp only [Option.some.injEq, Obj.cells.injEq] at hE3
   rw [hE3.2.1] at hne
   simp at hne
end
def c1y (b : Nat) (e : TypeId) (s : Nat) (p : OA) (c n : Nat) (vs : List Value) : PF :=
 ⟨fun w => OwnS w b e s p c n vs, fun a => p.isSome = true ∧ blk p = a, fun _ _ h hb _ => h.same fun hp => hb _ (h.blk_lt hp).2 ⟨hp, rfl⟩, fun _ _ h hf => hf.2 ▸ (h.blk_lt hf.1).2⟩
section
variable {P : Program} {w : World}
end
section
variable {P : Program} {ops : Array Oper} {rest : List Oper} {o : Oper} {a : Act} {Q : Exit → Act → World → Prop} {w : World} {K : Act → World → Prop}
end
/-! ### A block that was handed in -/
theorem Bt.far {w : World} {b b' : Nat} {t t' : TypeId} {vs us : Array Value} (h : Bt w b t vs) (hX : Bt w b' t' us) (hne : Nat.beq t t' = false) : ¬ (b = b') := by
 intro e
 subst e
 have := h.symm.trans hX
 simp only [Option.some.injEq, Obj.cells.injEq] at this
 rw [this.2.1] at hne
 simp at hne
/-! ### Steps -/
def n0j : List Box → Bool
 | [] => true
 | b :: l => match b.ro with | true => false | false => n0j l
theorem k0g : ∀ {l : List Box}, n0j l = true → ∀ k, k < l.length → (lk bx0 l k).ro = false
 | [], _, _, h => by simp at h
 | b :: l, h, k, hk => by
  unfold n0j at h
  split at h
  · cases h
  · rename_i hb
    cases k with
    | zero => exact hb
    | succ k => exact k0g h k (by simpa using hk)
section
variable {P : Program} {Q : Exit → Act → World → Prop} {E : List Nat} {w0 : World} {A : List Nat} {fs : List PF} {W V : World} {c : Cfg}
theorem Inv.grown {W' : World} {bx : List Box} {b : Nat} {e : TypeId} {s : Nat} {p p' : OA} {cc c' n n' : Nat} {vs vs' : List Value} (I : Inv E w0 A bx (c1y b e s p cc n vs :: fs) W) (hb : w0.heap.size ≤ b) (hrw : n0j bx = true)
 (hO : OwnS W' b e s p' c' n' vs') (hg : W.grownBy W' (p.map (·.block))) (hat : p'.isSome = true → (p.isSome = true ∧ blk p' = blk p) ∨ blk p' = W.heap.size) (hfar : p.isSome = true → PF.far (blk p) fs) :
 Inv E w0 A bx (c1y b e s p' c' n' vs' :: fs) W' := by
 have hrow := I.fa.1
 have hne : ∀ k, p.map (·.block) = some k → p.isSome = true ∧ blk p = k := fun k h => by
  cases p with
  | none => cases h
  | some a => exact ⟨rfl, Option.some.inj h⟩
 have keep : ∀ k, k < W.heap.size → (p.isSome = true → blk p ≠ k) → W'.heap[k]? = W.heap[k]? := fun k hk h => hg.block k hk fun e => by
  obtain ⟨h1, h2⟩ := hne k e.symm
  exact h h1 h2
 refine ⟨⟨hg.os.trans I.bel.os, hg.tape.trans I.bel.tape, hg.output.trans I.bel.output, Nat.le_trans I.bel.size hg.size, fun k hk hkE => ?_⟩, I.ge, I.nd, I.len, I.pre, fun k hk => ?_, ⟨hO, ?_⟩, fun a ha => ⟨fun hf => ?_, (I.far a ha).2⟩⟩
 · rw [keep k (Nat.lt_of_lt_of_le hk I.bel.size) fun hp => by have := (hrow.blk_lt hp).1; omega]
   exact I.bel.block k hk hkE
 · have hF : Fa A bx (lk 0 A k) := ⟨k, hk, k0g hrw k hk, rfl⟩
   have h1 := I.bt k hk
   unfold Bt at h1 ⊢
   rw [keep _ (I.lt _ hF) fun hp e => (I.far _ hF).1 ⟨hp, e⟩]
   exact h1
 · refine PF.all_keep hg.size I.fa.2 fun k hk ha => keep k hk fun hp => ha _ (hfar hp)
 · rcases hat hf.1 with ⟨hp, h⟩ | h
   · exact (I.far a ha).1 ⟨hp, h.symm.trans hf.2⟩
   · have := I.lt a ha
     have := hf.2
     omega
theorem g0n {α : Type} (d : α) {l : List α} {n k : Nat} (h : k < n) : lk d (l.take n) k = lk d l k := by
 rw [c0t, c0t, List.getElem?_take, if_pos h]
theorem Inv.dropB {bx : List Box} (I : Inv E w0 A bx fs W) (n : Nat) (hE : E.length ≤ n) (hw : wfB n (bx.take n) = true) (hn : n ≤ bx.length) : Inv E w0 (A.take n) (bx.take n) fs W := by
 have hl : (bx.take n).length = n := by rw [List.length_take]; omega
 have hla : (A.take n).length = n := by rw [List.length_take, I.len]; omega
 have hF : ∀ a, Fa (A.take n) (bx.take n) a → Fa A bx a := fun a ⟨k, hk, hr, e⟩ => by
  rw [hl] at hk
  rw [g0n _ hk] at hr e
  exact ⟨k, by omega, hr, e⟩
 refine ⟨I.bel, fun a ha => I.ge a (hF a ha), fun i j hi hj hr hne => ?_, by rw [hl, hla], ?_, fun k hk => ?_, I.fa, fun a ha => I.far a (hF a ha)⟩
 · rw [hl] at hi hj
   rw [g0n _ hi] at hr
   rw [g0n _ hi, g0n _ hj]
   exact I.nd i j (by omega) (by omega) hr hne
 · exact List.prefix_take_iff.2 ⟨I.pre, hE⟩
 · rw [hl] at hk
   have h1 := I.bt k (by omega)
   rw [g0n _ hk, g0n _ hk]
   unfold Box.row at h1 ⊢
   have hw2 := m0m hw k
   rw [g0n _ hk] at hw2
   have h2 := p0o (A := A.take n) (A.drop n) hla hw2
   rw [List.take_append_drop] at h2
   rw [← h2]
   exact h1
theorem i0m (n : Nat) (I : Inv E w0 A c.bx fs W) (J : Act → World → Prop) {fr : (Nat → Value) → List SV} {bx : (Nat → Value) → List Box} (h : ∀ A W U, Inv E w0 A (bx U) fs W → J (act A (fr U)) W)
 (hr : ∀ A w, (zms P none 5000 c A w).map (·.1) = (zms P none 5000 c A w).map (·.2) := by intro _ _; kernel_rfl)
 (hf : ∀ A, (zr P none c).fr.map (SV.r A) = (fr (uOf (zr P none c) A)).map (SV.r A) := by intro _; kernel_rfl)
 (hb : ∀ A, (zr P none c).bx.take n = bx (uOf (zr P none c) A) := by intro _; kernel_rfl)
 (hw : ∀ U, wfL n (fr U) = true := by intro _; kernel_rfl) (hw2 : wfB n ((zr P none c).bx.take n) = true := by kernel_rfl) (hn : Nat.ble n (zr P none c).bx.length = true := by kernel_rfl) (hE : Nat.ble E.length n = true := by kernel_rfl)
 (hs : z0o (zr P none c) = some J := by kernel_rfl) : G P Q A c W :=
 b0g I hr fun A W I => by
  have I2 := I.dropB n (Nat.le_of_ble_eq_true hE) hw2 (Nat.le_of_ble_eq_true hn)
  rw [hb A] at I2
  have h := h (A.take n) W (uOf (zr P none c) A) I2
  have hf := hf A
  have hla : (A.take n).length = n := by rw [List.length_take, I.len]; exact Nat.min_eq_left (Nat.le_of_ble_eq_true hn)
  have h3 := p0o (A := A.take n) (A.drop n) hla (hw (uOf (zr P none c) A))
  rw [List.take_append_drop] at h3
  unfold act at h
  rw [← h3, ← hf] at h
  clear hb hf h3 hw hw2 hn I2
  generalize zr P none c = c at *
  refine ⟨?_⟩
  obtain ⟨cf, cb, rg, ks⟩ := c
  cases rg with
  | pl => cases hs
  | dr => cases hs
  | one => cases hs
  | ret => cases hs
  | off =>
   cases ks with
   | nil => cases hs
   | cons k ks =>
    cases k with
    | block => cases hs
    | code => cases hs
    | stop J' =>
     obtain rfl : J' = J := Option.some.inj hs
     exact h
end
end Go.Slip
namespace Go.Slip
open Go.RowKit Go.Slip
structure Spl (p : OA) (w w' : World) : Prop where
 os : w'.os = w.os
 tape : w'.tape = w.tape
 output : w'.output = w.output
 size : w.heap.size ≤ w'.heap.size
 block : ∀ b, b < w.heap.size → (p.isSome = true → blk p ≠ b) → w'.heap[b]? = w.heap[b]?
section
variable {P : Program} {Q : Exit → Act → World → Prop} {E : List Nat} {w0 : World} {A : List Nat} {f : PF} {fs : List PF} {W : World} {c : Cfg}
theorem Inv.spoiled {bx : List Box} (I : Inv E w0 A bx (f :: fs) W) {p : OA} {W' : World} (hS : Spl p W W') (hf : p.isSome = true → f.foot (blk p)) (hge : p.isSome = true → w0.heap.size ≤ blk p) (hfar : p.isSome = true → PF.far (blk p) fs) (hrw : n0j bx = true) : Inv E w0 A bx fs W' := by
 refine ⟨⟨hS.os.trans I.bel.os, hS.tape.trans I.bel.tape, hS.output.trans I.bel.output, Nat.le_trans I.bel.size hS.size, fun j hj hjE => ?_⟩, I.ge, I.nd, I.len, I.pre, fun j hj => ?_, ?_, fun a ha => (I.far a ha).2⟩
 · rw [hS.block j (Nat.lt_of_lt_of_le hj I.bel.size) (fun hp e => by have := hge hp; omega)]
   exact I.bel.block j hj hjE
 · have hF : Fa A bx (lk 0 A j) := ⟨j, hj, k0g hrw j hj, rfl⟩
   have h1 := I.bt j hj
   unfold Bt at h1 ⊢
   have hl := (Array.getElem?_eq_some_iff.1 h1).1
   rw [hS.block _ hl (fun hp e => (I.far _ hF).1 (e ▸ hf hp))]
   exact h1
 · exact PF.all_keep hS.size I.fa.2 fun b hb ha => hS.block b hb fun hp => ha _ (hfar hp)
theorem y0z (I : Inv E w0 A c.bx (f :: fs) W) {fn : FuncId} {args : Array Value} {p : OA} {v : Value} (hf : p.isSome = true → f.foot (blk p)) (hge : p.isSome = true → w0.heap.size ≤ blk p) (hfar : p.isSome = true → PF.far (blk p) fs) (hrw : n0j c.bx = true)
 (hc : Calls P fn args W fun e w' => e = .returned v ∧ Spl p W w')
 (h : ∀ W', Inv E w0 A (putc c (.v v)).bx fs W' → G P Q A (putc c (.v v)) W')
 (ho : i0o P c A W = some (.ok (.enter fn args) W)) (hm : ok1 c.rg c.bx = ok2 c.rg) : G P Q A c W := by
 unfold i0o at ho
 split at ho
 · rename_i o hn
   split at ho
   · rename_i hw
     refine G_op (E := E) (w0 := w0) (fs := fs) hn fun K hK => j0o o.dst rfl fn args (by rw [e0x]; exact hw) (by rw [b0u]; exact Option.some.inj ho) (hc.mono fun e W' hp => ?_)
     obtain ⟨rfl, hS⟩ := hp
     have J := I.spoiled hS hf hge hfar hrw
     refine ⟨_, rfl, ?_⟩
     have := h W' J
     unfold putc at this
     rw [hn] at this
     have := hK A W' _ c.bx (List.prefix_refl _) J hm this
     rw [← c0o] at this
     exact this
   · cases ho
 · cases ho
theorem zspl (I : Inv E w0 A c.bx (f :: fs) W) (p : OA) {fn : FuncId} {args : List Nat → World → Array Value} {v : Value}
 (hf : p.isSome = true → f.foot (blk p)) (hge : p.isSome = true → w0.heap.size ≤ blk p)
 (hfar : ∀ A W, Inv E w0 A (zr P none c).bx (f :: fs) W → p.isSome = true → PF.far (blk p) fs)
 (hc : ∀ A W, Inv E w0 A (zr P none c).bx (f :: fs) W → Calls P fn (args A W) W fun e w' => e = .returned v ∧ Spl p W w')
 (h : ∀ A W, Inv E w0 A (putc (zr P none c) (.v v)).bx fs W → G P Q A (putc (zr P none c) (.v v)) W)
 (ho : ∀ A w, i0o P (zr P none c) A w = some (.ok (.enter fn (args A w)) w) := by intro _ _; kernel_rfl)
 (hr : ∀ A w, (zms P none 5000 c A w).map (·.1) = (zms P none 5000 c A w).map (·.2) := by intro _ _; kernel_rfl)
 (hrw : n0j (zr P none c).bx = true := by kernel_rfl)
 (hm : ok1 (zr P none c).rg (zr P none c).bx = ok2 (zr P none c).rg := by kernel_rfl) : G P Q A c W :=
 b0g I hr fun A V I => y0z I hf hge (hfar A V I) hrw (hc A V I) (fun W' I => h A W' I) (ho A V) hm
end
end Go.Slip
namespace Go.Slip
open Go.RowKit
/-! ### Rows -/
section
variable {P : Program} {Q : Exit → Act → World → Prop} {E : List Nat} {w0 : World} {A : List Nat} {fs : List PF} {f : PF} {W W' : World} {c : Cfg}
/-! ### Operations that write -/
inductive WO where
 | st (t : TypeId) (x y : Value)
 | ap (t ty : TypeId) (s x : Value)
 | mk (t : TypeId) (n m : Value)
 | cv (s d : TypeId) (x : Value)
def WO.run (P : Program) (w w' : World) (v : Value) : WO → Prop
 | .st t x y => (Instr.storeAt t x y).run P w = .ok () w' ∧ v = undef
 | .ap t ty s x => (Builtin.append_ #[t, t] ty #[s, x]).run P w = .ok v w'
 | .mk t n m => (Instr.makeSlice t n m).run P w = .ok v w'
 | .cv s d x => (convert s d x).run P w = .ok v w'
end
end Go.Slip
namespace Go.Slip
open Go.RowKit Go.Slip
theorem z0u {p : OA} {w w' : World} {base : Nat} (hg : w.grownBy w' (p.map (·.block))) (hb : Below base w w') : Spl p w w' := by
 refine ⟨hb.os, hb.tape, hb.output, hb.size, fun b hl hp => ?_⟩
 refine hg.block b hl ?_
 cases p with
 | none => simp
 | some a =>
  have := hp rfl
  simp [blk] at this ⊢
  exact fun e => this e.symm
def c1z (b : Nat) (k : IntKind) (e : TypeId) (p : OA) (c n : Nat) : PF :=
 ⟨fun w => ∃ xs : List Nat, xs.length = n ∧ Own w b k e p c xs, fun a => p.isSome = true ∧ blk p = a, fun _ _ ⟨xs, h, o⟩ hb _ => ⟨xs, h, o.same fun hp => hb _ (o.blk_lt hp).2 ⟨hp, rfl⟩⟩, fun _ _ ⟨_, _, o⟩ hf => hf.2 ▸ (o.blk_lt hf.1).2⟩
section
variable {P : Program} {Q : Exit → Act → World → Prop} {E : List Nat} {w0 : World} {A : List Nat} {f h : PF} {fs : List PF} {W : World} {c : Cfg}
theorem Inv.spoiled2 {bx : List Box} (I : Inv E w0 A bx (f :: h :: fs) W) {p : OA} {W' : World} (hS : Spl p W W') (hf : p.isSome = true → f.foot (blk p)) (hge : p.isSome = true → w0.heap.size ≤ blk p) (hfar : p.isSome = true → PF.far (blk p) fs) (hrw : n0j bx = true) (h' : PF) (hp : h'.prop W') (hfo : ∀ a, h'.foot a → h.foot a) : Inv E w0 A bx (h' :: fs) W' := by
 have I2 : Inv E w0 A bx (f :: fs) W := ⟨I.bel, I.ge, I.nd, I.len, I.pre, I.bt, ⟨I.fa.1, I.fa.2.2⟩, fun a ha => ⟨(I.far a ha).1, (I.far a ha).2.2⟩⟩
 exact (I2.spoiled hS hf hge hfar hrw).add h' hp fun a ha k => (I.far a ha).2.1 (hfo a k)
theorem d1a (I : Inv E w0 A c.bx (f :: h :: fs) W) (p : OA) (h' : PF) {fn : FuncId} {args : List Nat → World → Array Value} {v : Value}
 (hf : p.isSome = true → f.foot (blk p)) (hge : p.isSome = true → w0.heap.size ≤ blk p) (hfo : ∀ a, h'.foot a → h.foot a)
 (hfar : ∀ A W, Inv E w0 A (zr P none c).bx (f :: h :: fs) W → p.isSome = true → PF.far (blk p) fs)
 (hc : ∀ A W, Inv E w0 A (zr P none c).bx (f :: h :: fs) W → Calls P fn (args A W) W fun e w' => e = .returned v ∧ Spl p W w' ∧ h'.prop w')
 (k : ∀ A W, Inv E w0 A (putc (zr P none c) (.v v)).bx (h' :: fs) W → G P Q A (putc (zr P none c) (.v v)) W)
 (ho : ∀ A w, i0o P (zr P none c) A w = some (.ok (.enter fn (args A w)) w) := by intro _ _; kernel_rfl)
 (hr : ∀ A w, (zms P none 5000 c A w).map (·.1) = (zms P none 5000 c A w).map (·.2) := by intro _ _; kernel_rfl)
 (hrw : n0j (zr P none c).bx = true := by kernel_rfl)
 (hm : ok1 (zr P none c).rg (zr P none c).bx = ok2 (zr P none c).rg := by kernel_rfl) : G P Q A c W :=
 b0g I hr fun A V I => by
  have k := k A
  have ho := ho A V
  have hc := hc A V I
  have hfar := hfar A V I
  unfold i0o at ho
  split at ho
  · rename_i o hn
    split at ho
    · rename_i hw
      refine G_op (E := E) (w0 := w0) (fs := h' :: fs) hn fun K hK => j0o o.dst rfl fn _ (by rw [e0x]; exact hw) (by rw [b0u]; exact Option.some.inj ho) (hc.mono fun e W' hp => ?_)
      obtain ⟨rfl, hS, h2⟩ := hp
      have J := I.spoiled2 hS hf hge hfar hrw h' h2 hfo
      refine ⟨_, rfl, ?_⟩
      have := k W' J
      unfold putc at this
      rw [hn] at this
      have := hK A W' _ (zr P none c).bx (List.prefix_refl _) J hm this
      rw [← c0o] at this
      exact this
    · cases ho
  · cases ho
end
end Go.Slip
namespace Go.Proofs.YthcoapcffhgckaaDoor
open Go.RowKit Go.Slip
theorem c0g (p : OA) (n c base : Nat) (xs : List Nat) (w : World) (ho : Own w base .u32 55 p c xs) (hn : n = xs.length) (hl : xs.length ≤ 1000000000) :
 Calls Tryd.prog 13 #[.slice p n c] w fun e w' => e = .returned (.tuple #[]) ∧ Spl p w w' :=
 (o0f p n c base xs w ho hn hl).mono fun _ _ h => ⟨h.1, z0u h.2.1 h.2.2⟩
theorem l0p (p q : OA) (n c d base : Nat) (xs ys : List Nat) (w : World) (ho : Own w base .u32 55 p c xs) (hn : n = xs.length) (hl : xs.length ≤ 1000000000) (hq : Own w base .u32 55 q d ys) (hl2 : ys.length ≤ 1000000000) :
 Calls Tryd.prog 13 #[.slice p n c] w fun e w' => e = .returned (.tuple #[]) ∧ Spl p w w' ∧ ∃ L : List Nat, L.length = ys.length ∧ Own w' base .u32 55 q d L :=
 (u0t p q n c d base xs ys w ho hn hl hq hl2).mono fun _ _ h => ⟨h.1, z0u h.2.1 h.2.2.1, h.2.2.2⟩
end Go.Proofs.YthcoapcffhgckaaDoor
namespace Go.Slip
theorem r0p (a : Dv) (e : Int) : Int.sign (zOf a e) = a0k a := by
 have hp := Nat.pow_pos (n := (a.e - e).toNat) (show 0 < 2 by omega)
 unfold zOf a0k sg
 by_cases h0 : a.m = 0
 · rw [if_pos h0, h0, Nat.zero_mul]; cases a.neg <;> rfl
 · have hm : 0 < a.m * 2 ^ (a.e - e).toNat := Nat.mul_pos (by omega) hp
   rw [if_neg h0]
   cases a.neg
   · simp only [Bool.false_eq_true, if_false]; exact Int.sign_eq_one_of_pos (by omega)
   · simp only [if_true]; exact Int.sign_eq_neg_one_of_neg (by omega)
theorem b1j {a b : Dv} (ha : Bare a) (hb : Bare b) (h : pCmp a b ≤ 0) : zOf a (min a.e b.e) ≤ zOf b (min a.e b.e) := by
 rw [t0v ha hb, i0t a b (e := min a.e b.e) (by omega) (by omega), Int.sign_nonpos_iff] at h
 omega
theorem b1k {a b : Dv} (ha : Bare a) (hb : Bare b) (h : pCmp a b ≤ 0) (hs : ¬ (a0k a ≤ 0 ∧ 0 ≤ a0k b)) : 0 < a.m ∧ 0 < b.m := by
 have h1 := b1j ha hb h
 have h2 := r0p a (min a.e b.e)
 have h3 := r0p b (min a.e b.e)
 generalize zOf a (min a.e b.e) = x at *
 generalize zOf b (min a.e b.e) = y at *
 have k1 : a.m = 0 → a0k a = 0 := fun h => by unfold a0k; rw [if_pos h]
 have k2 : b.m = 0 → a0k b = 0 := fun h => by unfold a0k; rw [if_pos h]
 have k3 : a0k a ≤ 0 ↔ x ≤ 0 := by rw [← h2, Int.sign_nonpos_iff]
 have k4 : 0 ≤ a0k b ↔ 0 ≤ y := by rw [← h3, Int.sign_nonneg_iff]
 have k5 : a0k a = 0 → x = 0 := fun h => by rw [h] at h2; exact Int.sign_eq_zero_iff_zero.1 h2
 have k6 : a0k b = 0 → y = 0 := fun h => by rw [h] at h3; exact Int.sign_eq_zero_iff_zero.1 h3
 constructor
 · rcases Nat.eq_zero_or_pos a.m with h | h
   · have := k5 (k1 h); omega
   · exact h
 · rcases Nat.eq_zero_or_pos b.m with h | h
   · have := k6 (k2 h); omega
   · exact h
def k0h (a b a' b' : Dv) (n : Int) : Dv := pCut (lowD (a0t a a' n.toNat false) [a0t a b' n.toNat false, a0t b a' n.toNat false, a0t b b' n.toNat false]) n.toNat false
def k0i (a b a' b' : Dv) (n : Int) : Dv := pCut (f0a (a0t a a' n.toNat true) [a0t a b' n.toNat true, a0t b a' n.toNat true, a0t b b' n.toNat true]) n.toNat true
theorem d0y {a b : Dv} (n : Nat) (up : Bool) (hn : n ≤ 5000) (ha : SmD a) (hb : SmD b) : (dig B32 (a0t a b n up).m).length ≤ 3000 := (r0l n up hn ha.len hb.len ha.lo ha.hi hb.lo hb.hi).1
theorem w0u {a b a' b' : Dv} {n : Int} (hn : n ≤ 4096) (h1 : SmD a) (h2 : SmD b) (h3 : SmD a') (h4 : SmD b') : (dig B32 (k0h a b a' b' n).m).length ≤ 1000000 := by
 have hk : n.toNat ≤ 5000 := by omega
 exact Nat.le_trans (n0e _ _ _ (w0i (d0y _ _ hk h1 h3) (i0y (P := fun d => (dig B32 d.m).length ≤ 3000) (d0y _ _ hk h1 h4) (d0y _ _ hk h2 h3) (d0y _ _ hk h2 h4)))) (by omega)
theorem w0v {a b a' b' : Dv} {n : Int} (hn : n ≤ 4096) (h1 : SmD a) (h2 : SmD b) (h3 : SmD a') (h4 : SmD b') : (dig B32 (k0i a b a' b' n).m).length ≤ 1000000 := by
 have hk : n.toNat ≤ 5000 := by omega
 exact Nat.le_trans (n0e _ _ _ (r0n (d0y _ _ hk h1 h3) (i0y (P := fun d => (dig B32 d.m).length ≤ 3000) (d0y _ _ hk h1 h4) (d0y _ _ hk h2 h3) (d0y _ _ hk h2 h4)))) (by omega)
end Go.Slip
namespace Go.Proofs.YthcoapcffhgckaaDoor
open Go.RowKit Go.Slip
def divC (n : Int) (a b a' b' : Din) : Int := if errC n [(a, b), (a', b')] = 0 then (if a0k (dyV a') ≤ 0 ∧ 0 ≤ a0k (dyV b') then 5 else 0) else errC n [(a, b), (a', b')]
def divE (n : Int) (a b a' b' : Din) : Int := if divC n a b a' b' = 0 then errB (k0h (dyV a) (dyV b) (dyV a') (dyV b') n) (k0i (dyV a) (dyV b) (dyV a') (dyV b') n) else divC n a b a' b'
def divL (n : Int) (a b a' b' : Din) : Dv := if divC n a b a' b' = 0 then e0s (k0h (dyV a) (dyV b) (dyV a') (dyV b') n) (k0i (dyV a) (dyV b) (dyV a') (dyV b') n) else e0y
def divH (n : Int) (a b a' b' : Din) : Dv := if divC n a b a' b' = 0 then e0t (k0h (dyV a) (dyV b) (dyV a') (dyV b') n) (k0i (dyV a) (dyV b) (dyV a') (dyV b') n) else e0y
theorem z0a (a b a' b' : Din) (n : Int) (w : World) (ha : InD w a) (hb : InD w b) (ha' : InD w a') (hb' : InD w b') (hT : TabW w) :
 Calls Tryd.prog 18 #[.agg #[.bool a.g, .slice a.p a.xs.length a.c, .int .i64 a.e, .bool b.g, .slice b.p b.xs.length b.c, .int .i64 b.e], .agg #[.bool a'.g, .slice a'.p a'.xs.length a'.c, .int .i64 a'.e, .bool b'.g, .slice b'.p b'.xs.length b'.c, .int .i64 b'.e], .int .i64 n] w (e0u w w.heap.size (divL n a b a' b') (divH n a b a' b') (divE n a b a' b')) := by
 have HC := fun W k1 k2 k3 k4 k5 => lHd (k0a n a b a' b' W _ rfl k1 k2 k3 k4 k5)
 have HE := lHd (show divE n a b a' b' = if divC n a b a' b' = 0 then errB (k0h (dyV a) (dyV b) (dyV a') (dyV b') n) (k0i (dyV a) (dyV b) (dyV a') (dyV b') n) else divC n a b a' b' from rfl)
 have HL := lHd (show divL n a b a' b' = if divC n a b a' b' = 0 then e0s (k0h (dyV a) (dyV b) (dyV a') (dyV b') n) (k0i (dyV a) (dyV b) (dyV a') (dyV b') n) else e0y from rfl)
 have HH := lHd (show divH n a b a' b' = if divC n a b a' b' = 0 then e0t (k0h (dyV a) (dyV b) (dyV a') (dyV b') n) (k0i (dyV a) (dyV b) (dyV a') (dyV b') n) else e0y from rfl)
 have HD := lHd (show divC n a b a' b' = if errC n [(a, b), (a', b')] = 0 then (if a0k (dyV a') ≤ 0 ∧ 0 ≤ a0k (dyV b') then 5 else 0) else errC n [(a, b), (a', b')] from rfl)
 have HOK := lHd (fun h : errC n [(a, b), (a', b')] = 0 => n0d h)
 generalize errC n [(a, b), (a', b')] = ec at *
 by_cases h0 : ec = 0
 · obtain ⟨k1, k2, k3, k4⟩ := HOK.out h0
   obtain ⟨q1, q2, -⟩ := d0d k1
   obtain ⟨q3, q4, q5⟩ := d0d k2
   have t1 : (ec == 0) = true := by simpa using h0
   have t2 : (ec != 0) = false := by simpa using h0
   rw [if_pos h0] at HD
   have HNE := lHd (fun h => b1k (r0c a') (r0c b') q5 h)
   have hn : n = (n.toNat : Int) := by omega
   have h5 : n.toNat ≤ 5000 := by omega
   have f1 := w0u (n := n) k4 (c0c ha q1) (c0c hb q2) (c0c ha' q3) (c0c hb' q4)
   have f2 := w0v (n := n) k4 (c0c ha q1) (c0c hb q2) (c0c ha' q3) (c0c hb' q4)
   have HOA := fun W k1 k2 k3 => lHd (f0w a b W k1 k2 q1 q2 k3)
   have HOB := fun W k1 k2 k3 => lHd (f0w a' b' W k1 k2 q3 q4 k3)
   have HS1 := fun W p c => lHd (show Calls Tryd.prog 38 #[.agg #[.bool (dyV a').neg, .slice p (dig B32 (dyV a').m).length c, .int .i64 (dyV a').e]] W fun en w' => en = .returned (.int .i64 (a0k (dyV a'))) ∧ Below W.heap.size W w' from j0x ⟨(dyV a').neg, p, c, (dyV a').m, (dyV a').e⟩ W)
   have HS2 := fun W p c => lHd (show Calls Tryd.prog 38 #[.agg #[.bool (dyV b').neg, .slice p (dig B32 (dyV b').m).length c, .int .i64 (dyV b').e]] W fun en w' => en = .returned (.int .i64 (a0k (dyV b'))) ∧ Below W.heap.size W w' from j0x ⟨(dyV b').neg, p, c, (dyV b').m, (dyV b').e⟩ W)
   have HOV := fun (g1 : 0 < (dyV a').m) (g2 : 0 < (dyV b').m) W p1 c1 p2 c2 p3 c3 p4 c4 base i1 i2 i3 i4 iT ib => lHd (show Calls Tryd.prog 39 #[.agg #[.bool (dyV a).neg, .slice p1 (dig B32 (dyV a).m).length c1, .int .i64 (dyV a).e, .bool (dyV b).neg, .slice p2 (dig B32 (dyV b).m).length c2, .int .i64 (dyV b).e], .agg #[.bool (dyV a').neg, .slice p3 (dig B32 (dyV a').m).length c3, .int .i64 (dyV a').e, .bool (dyV b').neg, .slice p4 (dig B32 (dyV b').m).length c4, .int .i64 (dyV b').e], .int .i64 n] W (h0f W base (k0h (dyV a) (dyV b) (dyV a') (dyV b') n) (k0i (dyV a) (dyV b) (dyV a') (dyV b') n)) by
     have h := y0t ⟨(dyV a).neg, p1, c1, (dyV a).m, (dyV a).e⟩ ⟨(dyV b).neg, p2, c2, (dyV b).m, (dyV b).e⟩ ⟨(dyV a').neg, p3, c3, (dyV a').m, (dyV a').e⟩ ⟨(dyV b').neg, p4, c4, (dyV b').m, (dyV b').e⟩ n.toNat base W
       (i0k i1 (f0l ha q1)) (i0k i2 (f0l hb q2)) (i0k i3 (f0l ha' q3)) (i0k i4 (f0l hb' q4)) (i0l ha q1) (i0l hb q2) (i0l ha' q3) (i0l hb' q4) g1 g2 h5 iT ib
     rw [← hn] at h
     exact h)
   clear k1 k2 q1 q2 q3 q4 q5 hn HOK h0
   generalize k0h (dyV a) (dyV b) (dyV a') (dyV b') n = rl at *
   generalize k0i (dyV a) (dyV b) (dyV a') (dyV b') n = rh at *
   generalize dyV a = va at *
   generalize dyV b = vb at *
   generalize dyV a' = va' at *
   generalize dyV b' = vb' at *
   obtain ⟨S1, hS1⟩ : ∃ S1, a0k va' = S1 := ⟨_, rfl⟩
   obtain ⟨S2, hS2⟩ : ∃ S2, a0k vb' = S2 := ⟨_, rfl⟩
   rw [hS1, hS2] at HNE
   rw [hS1, hS2] at HD
   rw [hS1] at HS1
   rw [hS2] at HS2
   clear hS1 hS2
   by_cases g1 : S1 ≤ 0
   · have t3 : decide (S1 ≤ 0) = true := dTr g1
     by_cases g2 : 0 ≤ S2
     · have t4 : decide (0 ≤ S2) = true := dTr g2
       rw [if_pos ⟨g1, g2⟩] at HD
       rw [HD.out, if_neg (by omega)] at HE HL HH
       clear HNE HOV HOA f1 f2 HD
       go_enter Tryd.func18, Tryd.ntmps18
       go_upto_region 1 with (fail)
       refine d0w (fun W1 hs1 hz1 A B R RT => ?_)
       replace ha := ha.past hs1
       replace hb := hb.past hs1
       replace ha' := ha'.past hs1
       replace hb' := hb'.past hs1
       replace hT := hT.past hs1
       obtain ⟨A_0, A_1, A_2, A_3, A_4, A_5⟩ := (A).e6
       have A_f0 := (A).f 0
       have A_f1 := (A).f 1
       have A_f2 := (A).f 2
       have A_f3 := (A).f 3
       have A_f4 := (A).f 4
       have A_f5 := (A).f 5
       obtain ⟨B_0, B_1, B_2, B_3, B_4, B_5⟩ := (B).e6
       have B_f0 := (B).f 0
       have B_f1 := (B).f 1
       have B_f2 := (B).f 2
       have B_f3 := (B).f 3
       have B_f4 := (B).f 4
       have B_f5 := (B).f 5
       go_wp2_with fail
       ((with_reducible refine (HC _ ha hb ha' hb' hT).out.mono ?_))
       clear A_0 A_1 A_2 A_3 A_4 A_5 B_0 B_1 B_2 B_3 B_4 B_5
       rintro e2 w2 ⟨rfl, hb2⟩
       replace hb2 : Below W1.heap.size W1 w2 := (a0l W1 _).trans (hb2.mono (by omega))
       have hs2 := hs1.trans (hb2.mono hs1.size)
       replace A := A.past hb2
       replace B := B.past hb2
       replace R := R.past hb2
       replace RT := RT.past hb2
       replace ha := ha.past hb2
       replace hb := hb.past hb2
       replace ha' := ha'.past hb2
       replace hb' := hb'.past hb2
       replace hT := hT.past hb2
       obtain ⟨B_0, B_1, B_2, B_3, B_4, B_5⟩ := B.e6
       go_wp2_with fail
       clear B_0 B_1 B_2 B_3 B_4 B_5
       ((with_reducible refine ((HOB _ ha' hb' hT).out).mono ?_))
       rintro e3 w3 ⟨p3, c3, q3, d3, rfl, ho3, hq3, hb3⟩
       replace A := A.past hb3
       replace B := B.past hb3
       replace R := R.past hb3
       replace ha := ha.past hb3
       replace hb := hb.past hb3
       replace ha' := ha'.past hb3
       replace hb' := hb'.past hb3
       replace hT := hT.past hb3
       replace RT := RT.past hb3
       have hs3 := hs2.trans (hb3.mono hs2.size)
       go_upto_region 5 with (fail)
       refine c0l (fun W4 hb4 hz4 Y => ?_)
       replace A := A.past hb4
       replace B := B.past hb4
       replace R := R.past hb4
       replace ha := ha.past hb4
       replace hb := hb.past hb4
       replace ha' := ha'.past hb4
       replace hb' := hb'.past hb4
       replace hT := hT.past hb4
       replace RT := RT.past hb4
       have hs4 := hs3.trans (hb4.mono hs3.size)
       obtain ⟨Y_0, Y_1, Y_2, Y_3, Y_4, Y_5⟩ := Y.e6
       go_wp2_with fail
       clear Y_0 Y_1 Y_2 Y_3 Y_4 Y_5
       ((with_reducible refine ((HS1 _ p3 c3).out).mono ?_))
       rintro e5 w5 ⟨rfl, hb5⟩
       replace A := A.past hb5
       replace B := B.past hb5
       replace R := R.past hb5
       replace Y := Y.past hb5
       replace ha := ha.past hb5
       replace hb := hb.past hb5
       replace ha' := ha'.past hb5
       replace hb' := hb'.past hb5
       replace hT := hT.past hb5
       replace RT := RT.past hb5
       have hs5 := hs4.trans (hb5.mono hs4.size)
       obtain ⟨Y_0, Y_1, Y_2, Y_3, Y_4, Y_5⟩ := Y.e6
       go_wp2_with fail
       clear Y_0 Y_1 Y_2 Y_3 Y_4 Y_5
       ((with_reducible refine ((HS2 _ q3 d3).out).mono ?_))
       rintro e6 w6 ⟨rfl, hb6⟩
       replace A := A.past hb6
       replace B := B.past hb6
       replace R := R.past hb6
       replace Y := Y.past hb6
       replace ha := ha.past hb6
       replace hb := hb.past hb6
       replace ha' := ha'.past hb6
       replace hb' := hb'.past hb6
       replace hT := hT.past hb6
       replace RT := RT.past hb6
       have hs6 := hs5.trans (hb6.mono hs5.size)
       obtain ⟨R_0, R_1, R_2, R_3, R_4, R_5⟩ := (R).e6
       have R_f0 := (R).f 0
       have R_f1 := (R).f 1
       have R_f2 := (R).f 2
       have R_f3 := (R).f 3
       have R_f4 := (R).f 4
       have R_f5 := (R).f 5
       go_wp2_with fail
       refine bodyPost_ret (v := .tuple #[.agg #[.bool false, .slice none 0 0, .int .i64 0, .bool false, .slice none 0 0, .int .i64 0], .int .i64 5]) (by simp [results, Tryd.results18, go_sem, R_0, R_1, R_2, R_3, R_4, R_5]) rfl ?_
       rw [HE.out, HL.out, HH.out]
       exact c0v hs6 (by omega)
     · have t4 : decide (0 ≤ S2) = false := dFa g2
       rw [if_neg (fun h => g2 h.2)] at HD
       rw [HD.out, if_pos rfl] at HE HL HH
       obtain ⟨n1, n2⟩ := HNE.out (fun h => g2 h.2)
       have HOV := HOV n1 n2
       clear HNE HD
       go_enter Tryd.func18, Tryd.ntmps18
       go_upto_region 1 with (fail)
       refine d0w (fun W1 hs1 hz1 A B R RT => ?_)
       replace ha := ha.past hs1
       replace hb := hb.past hs1
       replace ha' := ha'.past hs1
       replace hb' := hb'.past hs1
       replace hT := hT.past hs1
       obtain ⟨A_0, A_1, A_2, A_3, A_4, A_5⟩ := (A).e6
       have A_f0 := (A).f 0
       have A_f1 := (A).f 1
       have A_f2 := (A).f 2
       have A_f3 := (A).f 3
       have A_f4 := (A).f 4
       have A_f5 := (A).f 5
       obtain ⟨B_0, B_1, B_2, B_3, B_4, B_5⟩ := (B).e6
       have B_f0 := (B).f 0
       have B_f1 := (B).f 1
       have B_f2 := (B).f 2
       have B_f3 := (B).f 3
       have B_f4 := (B).f 4
       have B_f5 := (B).f 5
       go_wp2_with fail
       ((with_reducible refine (HC _ ha hb ha' hb' hT).out.mono ?_))
       clear A_0 A_1 A_2 A_3 A_4 A_5 B_0 B_1 B_2 B_3 B_4 B_5
       rintro e2 w2 ⟨rfl, hb2⟩
       replace hb2 : Below W1.heap.size W1 w2 := (a0l W1 _).trans (hb2.mono (by omega))
       have hs2 := hs1.trans (hb2.mono hs1.size)
       replace A := A.past hb2
       replace B := B.past hb2
       replace R := R.past hb2
       replace RT := RT.past hb2
       replace ha := ha.past hb2
       replace hb := hb.past hb2
       replace ha' := ha'.past hb2
       replace hb' := hb'.past hb2
       replace hT := hT.past hb2
       obtain ⟨B_0, B_1, B_2, B_3, B_4, B_5⟩ := B.e6
       go_wp2_with fail
       clear B_0 B_1 B_2 B_3 B_4 B_5
       ((with_reducible refine ((HOB _ ha' hb' hT).out).mono ?_))
       rintro e3 w3 ⟨p3, c3, q3, d3, rfl, ho3, hq3, hb3⟩
       replace A := A.past hb3
       replace B := B.past hb3
       replace R := R.past hb3
       replace ha := ha.past hb3
       replace hb := hb.past hb3
       replace ha' := ha'.past hb3
       replace hb' := hb'.past hb3
       replace hT := hT.past hb3
       replace RT := RT.past hb3
       have hs3 := hs2.trans (hb3.mono hs2.size)
       go_upto_region 5 with (fail)
       refine c0l (fun W4 hb4 hz4 Y => ?_)
       replace A := A.past hb4
       replace B := B.past hb4
       replace R := R.past hb4
       replace ha := ha.past hb4
       replace hb := hb.past hb4
       replace ha' := ha'.past hb4
       replace hb' := hb'.past hb4
       replace hT := hT.past hb4
       replace RT := RT.past hb4
       have hs4 := hs3.trans (hb4.mono hs3.size)
       obtain ⟨Y_0, Y_1, Y_2, Y_3, Y_4, Y_5⟩ := Y.e6
       go_wp2_with fail
       clear Y_0 Y_1 Y_2 Y_3 Y_4 Y_5
       ((with_reducible refine ((HS1 _ p3 c3).out).mono ?_))
       rintro e5 w5 ⟨rfl, hb5⟩
       replace A := A.past hb5
       replace B := B.past hb5
       replace R := R.past hb5
       replace Y := Y.past hb5
       replace ha := ha.past hb5
       replace hb := hb.past hb5
       replace ha' := ha'.past hb5
       replace hb' := hb'.past hb5
       replace hT := hT.past hb5
       replace RT := RT.past hb5
       have hs5 := hs4.trans (hb5.mono hs4.size)
       obtain ⟨Y_0, Y_1, Y_2, Y_3, Y_4, Y_5⟩ := Y.e6
       go_wp2_with fail
       clear Y_0 Y_1 Y_2 Y_3 Y_4 Y_5
       ((with_reducible refine ((HS2 _ q3 d3).out).mono ?_))
       rintro e6 w6 ⟨rfl, hb6⟩
       replace A := A.past hb6
       replace B := B.past hb6
       replace R := R.past hb6
       replace Y := Y.past hb6
       replace ha := ha.past hb6
       replace hb := hb.past hb6
       replace ha' := ha'.past hb6
       replace hb' := hb'.past hb6
       replace hT := hT.past hb6
       replace RT := RT.past hb6
       have hs6 := hs5.trans (hb6.mono hs5.size)
       go_upto_region 7 with (fail)
       have hzb : w.heap.size ≤ (w6).drew.heap.size := (hs6).size
       have hzd : (w6).drew.heap.size = (w6).heap.size := rfl
       have HZD := lHd hzd
       clear hzd
       go_region_held3 (fun w' => (w'.cell? ⟨w.heap.size, 0, none⟩ = some (.bool a.g) ∧ w'.cell? ⟨w.heap.size, 1, none⟩ = some (.slice a.p a.xs.length a.c) ∧ w'.cell? ⟨w.heap.size, 2, none⟩ = some (.int .i64 a.e) ∧ w'.cell? ⟨w.heap.size, 3, none⟩ = some (.bool b.g) ∧ w'.cell? ⟨w.heap.size, 4, none⟩ = some (.slice b.p b.xs.length b.c) ∧ w'.cell? ⟨w.heap.size, 5, none⟩ = some (.int .i64 b.e)) ∧
           (w'.cell? ⟨w.heap.size + 1, 0, none⟩ = some (.bool a'.g) ∧ w'.cell? ⟨w.heap.size + 1, 1, none⟩ = some (.slice a'.p a'.xs.length a'.c) ∧ w'.cell? ⟨w.heap.size + 1, 2, none⟩ = some (.int .i64 a'.e) ∧ w'.cell? ⟨w.heap.size + 1, 3, none⟩ = some (.bool b'.g) ∧ w'.cell? ⟨w.heap.size + 1, 4, none⟩ = some (.slice b'.p b'.xs.length b'.c) ∧ w'.cell? ⟨w.heap.size + 1, 5, none⟩ = some (.int .i64 b'.e)))
        (first
          | with_reducible exact ⟨A.e6, B.e6⟩
          | with_reducible exact ⟨A.drew.e6, B.drew.e6⟩
          | with_reducible exact ⟨(A.drew.past hbx).e6, (B.drew.past hbx).e6⟩
          | with_reducible exact ⟨((A.drew.past hbx).past hby).e6, ((B.drew.past hbx).past hby).e6⟩
          | with_reducible exact ⟨(((A.drew.past hbx).past hby).past hbz).e6, (((B.drew.past hbx).past hby).past hbz).e6⟩
          | with_reducible exact ⟨((((A.drew.past hbx).past hby).past hbz).past hbt).e6, ((((B.drew.past hbx).past hby).past hbz).past hbt).e6⟩
          | with_reducible exact ⟨(((((A.drew.past hbx).past hby).past hbz).past hbt).only (e0z _ _ _ _ _ _ _ _) (by omega)).e6, (((((B.drew.past hbx).past hby).past hbz).past hbt).only (e0z _ _ _ _ _ _ _ _) (by omega)).e6⟩)
        (first
          | (go_at_call_of 37 (Value.agg #[.bool a.g, .slice a.p a.xs.length a.c, .int .i64 a.e, .bool b.g, .slice b.p b.xs.length b.c, .int .i64 b.e]); ((with_reducible refine (HOA _ ha.drew hb.drew hT.drew).out.mono ?_)); rintro ex wx ⟨px, cx, qx, dx, rfl, hox, hqx, hbx⟩)
          | (go_at_call_of 37 (Value.agg #[.bool a'.g, .slice a'.p a'.xs.length a'.c, .int .i64 a'.e, .bool b'.g, .slice b'.p b'.xs.length b'.c, .int .i64 b'.e]); ((with_reducible refine (HOB _ (ha'.drew.past hbx) (hb'.drew.past hbx) (hT.drew.past hbx)).out.mono ?_)); rintro ey wy ⟨py, cy, qy, dy, rfl, hoy, hqy, hby⟩)
          | (go_at_call 40; ((with_reducible refine (f0m rl rh pz qz cz dz _ _ hoz hqz f1 f2).mono ?_)); rintro et wt ⟨pt, ct, qt, dt, rfl, hot, hqt, hbt⟩; (have RR := (((R.drew.past hbx).past hby).past hbz).past hbt); obtain ⟨R_0, R_1, R_2, R_3, R_4, R_5⟩ := RR.e6; (have R_f0 := RR.f 0); (have R_f1 := RR.f 1); (have R_f2 := RR.f 2); (have R_f3 := RR.f 3); (have R_f4 := RR.f 4); have R_f5 := RR.f 5)
          | (go_at_call 39; ((with_reducible refine (HOV _ px cx qx dx py cy qy dy (w6).drew.heap.size (hox.past hby) (hqx.past hby) (hoy.mono hbx.size) (hqy.mono hbx.size) ((hT.drew.past hbx).past hby) (Nat.le_trans hbx.size hby.size)).out.mono ?_)); rintro ez wz ⟨pz, cz, qz, dz, rfl, hoz, hqz, hbz⟩))
       all_goals (go_wp2_with fail)
       all_goals (refine bodyPost_ret (v := .tuple #[.agg #[.bool (e0s rl rh).neg, .slice pt (dig B32 (e0s rl rh).m).length ct, .int .i64 (e0s rl rh).e, .bool (e0t rl rh).neg, .slice qt (dig B32 (e0t rl rh).m).length dt, .int .i64 (e0t rl rh).e], .int .i64 (errB rl rh)]) (by simp [results, Tryd.results18, go_sem, R_0, R_1, R_2, R_3, R_4, R_5]) rfl ?_)
       rw [HE.out, HL.out, HH.out]
       have y2 := Nat.le_trans (hs6).size hbx.size
       have y3 := Nat.le_trans y2 hby.size
       have y4 := Nat.le_trans y3 hbz.size
       exact d0n ((((hs6).drew.trans (hbx.mono (hs6).size)).trans (hby.mono y2)).trans (hbz.mono y3) |>.trans (hbt.mono y4)) (hot.mono hzb) (hqt.mono hzb) (by omega) ((((RT.drew.past hbx).past hby).past hbz).past hbt)
   · have t3 : decide (S1 ≤ 0) = false := dFa g1
     rw [if_neg (fun h => g1 h.1)] at HD
     rw [HD.out, if_pos rfl] at HE HL HH
     obtain ⟨n1, n2⟩ := HNE.out (fun h => g1 h.1)
     have HOV := HOV n1 n2
     clear HNE HD
     go_enter Tryd.func18, Tryd.ntmps18
     go_upto_region 1 with (fail)
     refine d0w (fun W1 hs1 hz1 A B R RT => ?_)
     replace ha := ha.past hs1
     replace hb := hb.past hs1
     replace ha' := ha'.past hs1
     replace hb' := hb'.past hs1
     replace hT := hT.past hs1
     obtain ⟨A_0, A_1, A_2, A_3, A_4, A_5⟩ := (A).e6
     have A_f0 := (A).f 0
     have A_f1 := (A).f 1
     have A_f2 := (A).f 2
     have A_f3 := (A).f 3
     have A_f4 := (A).f 4
     have A_f5 := (A).f 5
     obtain ⟨B_0, B_1, B_2, B_3, B_4, B_5⟩ := (B).e6
     have B_f0 := (B).f 0
     have B_f1 := (B).f 1
     have B_f2 := (B).f 2
     have B_f3 := (B).f 3
     have B_f4 := (B).f 4
     have B_f5 := (B).f 5
     go_wp2_with fail
     ((with_reducible refine (HC _ ha hb ha' hb' hT).out.mono ?_))
     clear A_0 A_1 A_2 A_3 A_4 A_5 B_0 B_1 B_2 B_3 B_4 B_5
     rintro e2 w2 ⟨rfl, hb2⟩
     replace hb2 : Below W1.heap.size W1 w2 := (a0l W1 _).trans (hb2.mono (by omega))
     have hs2 := hs1.trans (hb2.mono hs1.size)
     replace A := A.past hb2
     replace B := B.past hb2
     replace R := R.past hb2
     replace RT := RT.past hb2
     replace ha := ha.past hb2
     replace hb := hb.past hb2
     replace ha' := ha'.past hb2
     replace hb' := hb'.past hb2
     replace hT := hT.past hb2
     obtain ⟨B_0, B_1, B_2, B_3, B_4, B_5⟩ := B.e6
     go_wp2_with fail
     clear B_0 B_1 B_2 B_3 B_4 B_5
     ((with_reducible refine ((HOB _ ha' hb' hT).out).mono ?_))
     rintro e3 w3 ⟨p3, c3, q3, d3, rfl, ho3, hq3, hb3⟩
     replace A := A.past hb3
     replace B := B.past hb3
     replace R := R.past hb3
     replace ha := ha.past hb3
     replace hb := hb.past hb3
     replace ha' := ha'.past hb3
     replace hb' := hb'.past hb3
     replace hT := hT.past hb3
     replace RT := RT.past hb3
     have hs3 := hs2.trans (hb3.mono hs2.size)
     go_upto_region 5 with (fail)
     refine c0l (fun W4 hb4 hz4 Y => ?_)
     replace A := A.past hb4
     replace B := B.past hb4
     replace R := R.past hb4
     replace ha := ha.past hb4
     replace hb := hb.past hb4
     replace ha' := ha'.past hb4
     replace hb' := hb'.past hb4
     replace hT := hT.past hb4
     replace RT := RT.past hb4
     have hs4 := hs3.trans (hb4.mono hs3.size)
     obtain ⟨Y_0, Y_1, Y_2, Y_3, Y_4, Y_5⟩ := Y.e6
     go_wp2_with fail
     clear Y_0 Y_1 Y_2 Y_3 Y_4 Y_5
     ((with_reducible refine ((HS1 _ p3 c3).out).mono ?_))
     rintro e5 w5 ⟨rfl, hb5⟩
     replace A := A.past hb5
     replace B := B.past hb5
     replace R := R.past hb5
     replace Y := Y.past hb5
     replace ha := ha.past hb5
     replace hb := hb.past hb5
     replace ha' := ha'.past hb5
     replace hb' := hb'.past hb5
     replace hT := hT.past hb5
     replace RT := RT.past hb5
     have hs5 := hs4.trans (hb5.mono hs4.size)
     go_upto_region 7 with (fail)
     have hzb : w.heap.size ≤ (w5).drew.heap.size := (hs5).size
     have hzd : (w5).drew.heap.size = (w5).heap.size := rfl
     have HZD := lHd hzd
     clear hzd
     go_region_held3 (fun w' => (w'.cell? ⟨w.heap.size, 0, none⟩ = some (.bool a.g) ∧ w'.cell? ⟨w.heap.size, 1, none⟩ = some (.slice a.p a.xs.length a.c) ∧ w'.cell? ⟨w.heap.size, 2, none⟩ = some (.int .i64 a.e) ∧ w'.cell? ⟨w.heap.size, 3, none⟩ = some (.bool b.g) ∧ w'.cell? ⟨w.heap.size, 4, none⟩ = some (.slice b.p b.xs.length b.c) ∧ w'.cell? ⟨w.heap.size, 5, none⟩ = some (.int .i64 b.e)) ∧
         (w'.cell? ⟨w.heap.size + 1, 0, none⟩ = some (.bool a'.g) ∧ w'.cell? ⟨w.heap.size + 1, 1, none⟩ = some (.slice a'.p a'.xs.length a'.c) ∧ w'.cell? ⟨w.heap.size + 1, 2, none⟩ = some (.int .i64 a'.e) ∧ w'.cell? ⟨w.heap.size + 1, 3, none⟩ = some (.bool b'.g) ∧ w'.cell? ⟨w.heap.size + 1, 4, none⟩ = some (.slice b'.p b'.xs.length b'.c) ∧ w'.cell? ⟨w.heap.size + 1, 5, none⟩ = some (.int .i64 b'.e)))
      (first
        | with_reducible exact ⟨A.e6, B.e6⟩
        | with_reducible exact ⟨A.drew.e6, B.drew.e6⟩
        | with_reducible exact ⟨(A.drew.past hbx).e6, (B.drew.past hbx).e6⟩
        | with_reducible exact ⟨((A.drew.past hbx).past hby).e6, ((B.drew.past hbx).past hby).e6⟩
        | with_reducible exact ⟨(((A.drew.past hbx).past hby).past hbz).e6, (((B.drew.past hbx).past hby).past hbz).e6⟩
        | with_reducible exact ⟨((((A.drew.past hbx).past hby).past hbz).past hbt).e6, ((((B.drew.past hbx).past hby).past hbz).past hbt).e6⟩
        | with_reducible exact ⟨(((((A.drew.past hbx).past hby).past hbz).past hbt).only (e0z _ _ _ _ _ _ _ _) (by omega)).e6, (((((B.drew.past hbx).past hby).past hbz).past hbt).only (e0z _ _ _ _ _ _ _ _) (by omega)).e6⟩)
      (first
        | (go_at_call_of 37 (Value.agg #[.bool a.g, .slice a.p a.xs.length a.c, .int .i64 a.e, .bool b.g, .slice b.p b.xs.length b.c, .int .i64 b.e]); ((with_reducible refine (HOA _ ha.drew hb.drew hT.drew).out.mono ?_)); rintro ex wx ⟨px, cx, qx, dx, rfl, hox, hqx, hbx⟩)
        | (go_at_call_of 37 (Value.agg #[.bool a'.g, .slice a'.p a'.xs.length a'.c, .int .i64 a'.e, .bool b'.g, .slice b'.p b'.xs.length b'.c, .int .i64 b'.e]); ((with_reducible refine (HOB _ (ha'.drew.past hbx) (hb'.drew.past hbx) (hT.drew.past hbx)).out.mono ?_)); rintro ey wy ⟨py, cy, qy, dy, rfl, hoy, hqy, hby⟩)
        | (go_at_call 40; ((with_reducible refine (f0m rl rh pz qz cz dz _ _ hoz hqz f1 f2).mono ?_)); rintro et wt ⟨pt, ct, qt, dt, rfl, hot, hqt, hbt⟩; (have RR := (((R.drew.past hbx).past hby).past hbz).past hbt); obtain ⟨R_0, R_1, R_2, R_3, R_4, R_5⟩ := RR.e6; (have R_f0 := RR.f 0); (have R_f1 := RR.f 1); (have R_f2 := RR.f 2); (have R_f3 := RR.f 3); (have R_f4 := RR.f 4); have R_f5 := RR.f 5)
        | (go_at_call 39; ((with_reducible refine (HOV _ px cx qx dx py cy qy dy (w5).drew.heap.size (hox.past hby) (hqx.past hby) (hoy.mono hbx.size) (hqy.mono hbx.size) ((hT.drew.past hbx).past hby) (Nat.le_trans hbx.size hby.size)).out.mono ?_)); rintro ez wz ⟨pz, cz, qz, dz, rfl, hoz, hqz, hbz⟩))
     all_goals (go_wp2_with fail)
     all_goals (refine bodyPost_ret (v := .tuple #[.agg #[.bool (e0s rl rh).neg, .slice pt (dig B32 (e0s rl rh).m).length ct, .int .i64 (e0s rl rh).e, .bool (e0t rl rh).neg, .slice qt (dig B32 (e0t rl rh).m).length dt, .int .i64 (e0t rl rh).e], .int .i64 (errB rl rh)]) (by simp [results, Tryd.results18, go_sem, R_0, R_1, R_2, R_3, R_4, R_5]) rfl ?_)
     rw [HE.out, HL.out, HH.out]
     have y2 := Nat.le_trans (hs5).size hbx.size
     have y3 := Nat.le_trans y2 hby.size
     have y4 := Nat.le_trans y3 hbz.size
     exact d0n ((((hs5).drew.trans (hbx.mono (hs5).size)).trans (hby.mono y2)).trans (hbz.mono y3) |>.trans (hbt.mono y4)) (hot.mono hzb) (hqt.mono hzb) (by omega) ((((RT.drew.past hbx).past hby).past hbz).past hbt)
 · have t1 : (ec == 0) = false := bFn h0
   have t2 : (ec != 0) = true := by rw [bne, t1]; rfl
   rw [if_neg h0] at HD
   rw [HD.out, if_neg h0] at HE HL HH
   clear HOK h0 HD
   go_enter Tryd.func18, Tryd.ntmps18
   go_upto_region 1 with (fail)
   refine d0w (fun W1 hs1 hz1 A B R RT => ?_)
   replace ha := ha.past hs1
   replace hb := hb.past hs1
   replace ha' := ha'.past hs1
   replace hb' := hb'.past hs1
   replace hT := hT.past hs1
   obtain ⟨A_0, A_1, A_2, A_3, A_4, A_5⟩ := (A).e6
   have A_f0 := (A).f 0
   have A_f1 := (A).f 1
   have A_f2 := (A).f 2
   have A_f3 := (A).f 3
   have A_f4 := (A).f 4
   have A_f5 := (A).f 5
   obtain ⟨B_0, B_1, B_2, B_3, B_4, B_5⟩ := (B).e6
   have B_f0 := (B).f 0
   have B_f1 := (B).f 1
   have B_f2 := (B).f 2
   have B_f3 := (B).f 3
   have B_f4 := (B).f 4
   have B_f5 := (B).f 5
   go_wp2_with fail
   ((with_reducible refine (HC _ ha hb ha' hb' hT).out.mono ?_))
   clear A_0 A_1 A_2 A_3 A_4 A_5 B_0 B_1 B_2 B_3 B_4 B_5
   rintro e2 w2 ⟨rfl, hb2⟩
   replace hb2 : Below W1.heap.size W1 w2 := (a0l W1 _).trans (hb2.mono (by omega))
   have hs2 := hs1.trans (hb2.mono hs1.size)
   replace A := A.past hb2
   replace B := B.past hb2
   replace R := R.past hb2
   replace RT := RT.past hb2
   replace ha := ha.past hb2
   replace hb := hb.past hb2
   replace ha' := ha'.past hb2
   replace hb' := hb'.past hb2
   replace hT := hT.past hb2
   obtain ⟨R_0, R_1, R_2, R_3, R_4, R_5⟩ := (R).e6
   have R_f0 := (R).f 0
   have R_f1 := (R).f 1
   have R_f2 := (R).f 2
   have R_f3 := (R).f 3
   have R_f4 := (R).f 4
   have R_f5 := (R).f 5
   go_wp2_with fail
   refine bodyPost_ret (v := .tuple #[.agg #[.bool false, .slice none 0 0, .int .i64 0, .bool false, .slice none 0 0, .int .i64 0], .int .i64 ec]) (by simp [results, Tryd.results18, go_sem, R_0, R_1, R_2, R_3, R_4, R_5]) rfl ?_
   rw [HE.out, HL.out, HH.out]
   exact c0v hs2 (by omega)
end Go.Proofs.YthcoapcffhgckaaDoor
namespace Go.Slip
def t0a (N : Nat) (D : List Nat) (i d A : Nat) : Prop := (∀ x ∈ D, x < 10) ∧ d < 10 ^ (4 - i) ∧ N = val 10 D + 10 ^ D.length * (d + 10 ^ (4 - i) * A)
def k0j (N : Nat) (D : List Nat) (A : Nat) : Prop := (∀ x ∈ D, x < 10) ∧ N = val 10 D + 10 ^ D.length * A
theorem k0j.start (N : Nat) : k0j N [] N := ⟨by simp, by simp⟩
theorem k0j.enter {N : Nat} {D : List Nat} {A : Nat} (h : k0j N D A) : t0a N D 0 (A % 10000) (A / 10000) := by
 refine ⟨h.1, Nat.mod_lt _ (by omega), ?_⟩
 rw [h.2]
 congr 2
 have := Nat.mod_add_div A 10000
 show A = A % 10000 + 10000 * (A / 10000)
 omega
theorem t0a.step {N : Nat} {D : List Nat} {i d A : Nat} (h : t0a N D i d A) (hi : i < 4) : t0a N (D ++ [d % 10]) (i + 1) (d / 10) A := by
 obtain ⟨h1, h2, h3⟩ := h
 have e : 4 - i = 4 - (i + 1) + 1 := by omega
 rw [e, Nat.pow_succ] at h2 h3
 refine ⟨fun x hx => ?_, by omega, ?_⟩
 · rcases List.mem_append.1 hx with hx | hx
   · exact h1 x hx
   · simp at hx; omega
 · rw [h3, c0p, List.length_append, List.length_singleton, Nat.pow_succ]
   have := Nat.mod_add_div d 10
   generalize d % 10 = s at *
   generalize d / 10 = q at *
   subst this
   grind
theorem t0a.leave {N : Nat} {D : List Nat} {d A : Nat} (h : t0a N D 4 d A) : k0j N D A := by
 obtain ⟨h1, h2, h3⟩ := h
 have hd : d = 0 := by simpa using h2
 subst hd
 exact ⟨h1, by rw [h3]; simp⟩
theorem k0j.size {N : Nat} {D : List Nat} {A : Nat} (h : k0j N D A) (hA : 0 < A) : D.length ≤ 16 * (dig B16 N).length := by
 have h1 : 10 ^ D.length ≤ N := by
  rw [h.2]
  have := Nat.le_mul_of_pos_right (10 ^ D.length) hA
  omega
 have h2 := (a0d a0g N _).1 (Nat.le_refl _)
 have h3 : B16 ^ (dig B16 N).length = 2 ^ (16 * (dig B16 N).length) := by rw [Nat.pow_mul]; congr 1
 have h4 : 2 ^ D.length ≤ 10 ^ D.length := Nat.pow_le_pow_left (by omega) _
 have h5 : 2 ^ D.length < 2 ^ (16 * (dig B16 N).length) := by rw [← h3]; omega
 exact Nat.le_of_lt ((Nat.pow_lt_pow_iff_right (by omega)).1 h5)
def n0k (L X : List Nat) (ten d0 i d : Nat) : Prop :=
 (∀ x ∈ L, x < B32) ∧ L.length = X.length ∧ (∀ j, i ≤ j → dg L j = dg X j) ∧ val B32 (L.take i) + d * B32 ^ i = val B32 (X.take i) * ten + d0
theorem n0k.start {X : List Nat} (h : ∀ x ∈ X, x < B32) (ten d0 : Nat) : n0k X X ten d0 0 d0 := ⟨h, rfl, fun _ _ => rfl, by simp⟩
theorem n0k.step {L X : List Nat} {ten d0 i d : Nat} (h : n0k L X ten d0 i d) (hi : i < X.length) (t : Nat) (ht : t = dg X i * ten + d) : n0k (L.set i (t % B32)) X ten d0 (i + 1) (t / B32) := by
 obtain ⟨h1, h2, h3, h4⟩ := h
 refine ⟨g0b L h1 i _ (Nat.mod_lt _ b0i), by simpa using h2, fun j hj => ?_, ?_⟩
 · rw [c0d (by omega)]; exact h3 j (by omega)
 · rw [a0c, b0y, b0h (by omega), a0c, Nat.pow_succ]
   have h5 := Nat.div_add_mod t B32
   generalize t / B32 = q at *
   generalize t % B32 = r at *
   have e : B32 ^ i * (B32 * q + r) = B32 ^ i * (dg X i * ten + d) := by rw [h5, ht]
   grind
theorem n0k.done0 {L : List Nat} {ten d0 a : Nat} (h : n0k L (dig B32 a) ten d0 (dig B32 a).length 0) (h1 : 0 < ten) : L = dig B32 (a * ten + d0) := by
 have h4 := h.2.2.2
 rw [List.take_length, a0q a0a, ← h.2.1, List.take_length] at h4
 obtain ⟨m, rfl⟩ : ∃ m, ten = m + 1 := ⟨ten - 1, by omega⟩
 have e : a * (m + 1) + d0 = a + (a * m + d0) := by grind
 rw [e] at h4 ⊢
 exact q0v a0a L a _ h.1 h.2.1 (by omega)
theorem n0k.done1 {L : List Nat} {ten d0 a d : Nat} (h : n0k L (dig B32 a) ten d0 (dig B32 a).length d) (h1 : 0 < d) (h2 : d < B32) : L ++ [d] = dig B32 (a * ten + d0) := by
 have h4 := h.2.2.2
 rw [List.take_length, a0q a0a, ← h.2.1, List.take_length] at h4
 exact q0w a0a L d _ h.1 h1 h2 h4
end Go.Slip
namespace Go.Proofs.YthcoapcffhgckaaDoor
open Go.RowKit Go.Slip
theorem _root_.Go.Slip.SmallRel.skip {B : Nat} {L xs : List Nat} {d k r : Nat} (h : SmallRel B L xs d (k + 1) r) (hk : k < xs.length) (hL : k < L.length) (hx : dg xs k < B) (hz : dg L k = 0) (hlt : r * B + dg xs k < d) : SmallRel B L xs d k (r * B + dg xs k) := by
 have h1 := (h.step hk hL hx).1
 rw [Nat.div_eq_of_lt hlt, Nat.mod_eq_of_lt hlt, x0e L k hz] at h1
 exact h1
structure InF (w : World) (base : Nat) (a : Rw) : Prop where
 rd : Rd w .i64 a.p (dig B16 a.m)
 cap : (dig B16 a.m).length ≤ a.c
 len : (dig B16 a.m).length ≤ 1000000
 lo : -1000000 ≤ a.e
 hi : a.e ≤ 1000000
 at_ : 0 < (dig B16 a.m).length → base ≤ blk a.p
theorem InF.past {w w' : World} {base : Nat} {a : Rw} (h : InF w base a) (hb : Below w.heap.size w w') : InF w' base a := ⟨h.rd.past hb, h.cap, h.len, h.lo, h.hi, h.at_⟩
theorem InF.drew {w : World} {base : Nat} {a : Rw} (h : InF w base a) : InF w.drew base a := ⟨h.rd.drew, h.cap, h.len, h.lo, h.hi, h.at_⟩
theorem InF.mono {w : World} {base base' : Nat} {a : Rw} (h : InF w base a) (hb : base' ≤ base) : InF w base' a := ⟨h.rd, h.cap, h.len, h.lo, h.hi, fun k => Nat.le_trans hb (h.at_ k)⟩
theorem InF.only {w w' : World} {base k : Nat} {a : Rw} (h : InF w base a) (hb : Only k w w') (hne : 0 < (dig B16 a.m).length → blk a.p ≠ k) : InF w' base a := ⟨h.rd.only hb hne, h.cap, h.len, h.lo, h.hi, h.at_⟩
theorem InF.lt {w : World} {base : Nat} {a : Rw} (h : InF w base a) : 0 < (dig B16 a.m).length → blk a.p < w.heap.size := fun k => h.rd.lt k
structure ElF (w : World) (g o : Nat) (a : Rw) : Prop where
 c0 : w.cell? ⟨g, o, none⟩ = some (.bool a.g)
 c1 : w.cell? ⟨g, o + 1, none⟩ = some (.slice a.p (dig B16 a.m).length a.c)
 c2 : w.cell? ⟨g, o + 2, none⟩ = some (.int .i64 a.e)
 lt : g < w.heap.size
theorem ElF.e3 {w : World} {g o : Nat} {a : Rw} (h : ElF w g o a) : w.cell? ⟨g, o, none⟩ = some (.bool a.g) ∧ w.cell? ⟨g, o + 1, none⟩ = some (.slice a.p (dig B16 a.m).length a.c) ∧ w.cell? ⟨g, o + 2, none⟩ = some (.int .i64 a.e) := ⟨h.c0, h.c1, h.c2⟩
theorem ElF.below {w w' : World} {B g o : Nat} {a : Rw} (h : ElF w g o a) (hb : Below B w w') (hB : g < B) : ElF w' g o a :=
 ⟨by rw [Below.cell hb hB]; exact h.c0, by rw [Below.cell hb hB]; exact h.c1, by rw [Below.cell hb hB]; exact h.c2, Nat.lt_of_lt_of_le h.lt hb.size⟩
theorem ElF.past {w w' : World} {g o : Nat} {a : Rw} (h : ElF w g o a) (hb : Below w.heap.size w w') : ElF w' g o a := h.below hb h.lt
theorem ElF.drew {w : World} {g o : Nat} {a : Rw} (h : ElF w g o a) : ElF w.drew g o a := ⟨h.c0, h.c1, h.c2, h.lt⟩
theorem ElF.laid {w : World} {g o : Nat} {a : Rw} (h : ElF w g o a) (ob : Obj) : ElF (w.alloc ob) g o a := h.past (a0l _ _)
theorem ElF.set {w : World} {g o k i : Nat} {a : Rw} {v : Value} (h : ElF w g o a) (hne : g < k) : ElF (w.setCell ⟨k, i, none⟩ v) g o a :=
 h.below ((Below.refl k w).setCell (p := ⟨k, i, none⟩) (Nat.le_refl _) v) hne
theorem o0x (a : Dv) : rCmp a a = 0 := by rw [i0t a a (Int.le_refl _) (Int.le_refl _)]; simp
end Go.Proofs.YthcoapcffhgckaaDoor
namespace Go.Slip
theorem k0k {n k : Nat} (h1 : n < 2 ^ k) (h2 : ¬ n < 2 ^ (k - 1)) (hk : 0 < k) : blen n = k := by
 have a := (b0s n k).2 h1
 have b : ¬ blen n ≤ k - 1 := fun h => h2 ((b0s n (k - 1)).1 h)
 omega
theorem l0q (up : Bool) : a0t ⟨false, 1, 0⟩ ⟨false, 3, 0⟩ 2 up = if up then ⟨false, 3, -3⟩ else ⟨false, 1, -2⟩ := by
 unfold a0t
 rw [if_neg (by simp)]
 simp only [k0k (n := 3) (k := 2) (by decide) (by decide) (by decide), k0k (n := 1) (k := 1) (by decide) (by decide) (by decide)]
 have h1 : h0x (xor false false) 1 3 (2 + 2 + 2 - 1) 1 (0 - 0) = ⟨false, 21, -6⟩ := by unfold h0x; rfl
 rw [h1, g0k (d := ⟨false, 21, -6⟩) (.inl rfl)]
 unfold pCut
 simp only [k0k (n := 21) (k := 5) (by decide) (by decide) (by decide)]
 rw [if_neg (by omega)]
 cases up
 · have : (⟨false, 21 / 2 ^ (5 - 2) + (if false ≠ false then 1 else 0), -6 + ((5 - 2 : Nat) : Int)⟩ : Dv) = ⟨false, 1 * 2 ^ 1, -3⟩ := rfl
   rw [this, h0r, g0k (.inl rfl)]
   rfl
 · have : (⟨false, 21 / 2 ^ (5 - 2) + (if true ≠ false then 1 else 0), -6 + ((5 - 2 : Nat) : Int)⟩ : Dv) = ⟨false, 3, -3⟩ := rfl
   rw [this, g0k (.inl rfl)]
   rfl
theorem h0k {a : Dv} (ha : Bare a) : pCmp a a = 0 := by
 rw [t0v ha ha, i0t a a (Int.le_refl _) (Int.le_refl _)]; simp
theorem z0b {a : Dv} (ha : Bare a) : lowD a [a, a, a] = a := by
 have h := h0k ha
 simp [lowD, h]
theorem w0w {a : Dv} (ha : Bare a) : f0a a [a, a, a] = a := by
 have h := h0k ha
 simp [f0a, h]
theorem t0b : k0h ⟨false, 1, 0⟩ ⟨false, 1, 0⟩ ⟨false, 3, 0⟩ ⟨false, 3, 0⟩ 2 = ⟨false, 1, -2⟩ ∧ k0i ⟨false, 1, 0⟩ ⟨false, 1, 0⟩ ⟨false, 3, 0⟩ ⟨false, 3, 0⟩ 2 = ⟨false, 3, -3⟩ := by
 have h2 : (2 : Int).toNat = 2 := rfl
 constructor
 · unfold k0h
   rw [h2, l0q]
   simp only [Bool.false_eq_true, if_false]
   rw [z0b (.inl rfl)]
   unfold pCut
   simp only [k0k (n := 1) (k := 1) (by decide) (by decide) (by decide)]
   rw [if_pos (by omega)]
 · unfold k0i
   rw [h2, l0q]
   simp only [if_true]
   rw [w0w (.inl rfl)]
   unfold pCut
   simp only [k0k (n := 3) (k := 2) (by decide) (by decide) (by decide)]
   rw [if_pos (by omega)]
end Go.Slip
namespace Go.Proofs.YthcoapcffhgckaaDoor
open Go.RowKit Go.Slip
theorem b0q {k : Nat} (h0 : 0 < k) (h : k < 4294967296) : dig B32 k = [k] := by rw [d0e a0a h0, show k / B32 = 0 by unfold B32; omega, a0b, show k % B32 = k by unfold B32; omega]
theorem r0q {g : Bool} {m : Nat} {e : Int} (h : (dig B32 m).length ≤ 1) (h1 : -20000 ≤ e) (h2 : e ≤ 20000) : errD ⟨g, m, e⟩ = 0 := by
 unfold errD
 rw [if_neg (by simp only; omega), if_neg (by simp only; omega)]
theorem w0x (p1 p2 p3 p4 : OA) : divE 2 ⟨false, p1, 1, [1], 0⟩ ⟨false, p2, 1, [1], 0⟩ ⟨false, p3, 1, [3], 0⟩ ⟨false, p4, 1, [3], 0⟩ = 0 ∧ divL 2 ⟨false, p1, 1, [1], 0⟩ ⟨false, p2, 1, [1], 0⟩ ⟨false, p3, 1, [3], 0⟩ ⟨false, p4, 1, [3], 0⟩ = ⟨false, 1, -2⟩ ∧ divH 2 ⟨false, p1, 1, [1], 0⟩ ⟨false, p2, 1, [1], 0⟩ ⟨false, p3, 1, [3], 0⟩ ⟨false, p4, 1, [3], 0⟩ = ⟨false, 3, -3⟩ := by
 have v1 := s0x 1 p1 (by omega)
 have v2 := s0x 1 p2 (by omega)
 have v3 := s0x 3 p3 (by omega)
 have v4 := s0x 3 p4 (by omega)
 have b1 : b0o ⟨false, p1, 1, [1], 0⟩ ⟨false, p2, 1, [1], 0⟩ = 0 := by
  unfold b0o b0t
  rw [v1, v2, h0k (a := ⟨false, 1, 0⟩) (.inl rfl)]
  simp [l0m 1 p1 (by omega), l0m 1 p2 (by omega)]
 have b2 : b0o ⟨false, p3, 1, [3], 0⟩ ⟨false, p4, 1, [3], 0⟩ = 0 := by
  unfold b0o b0t
  rw [v3, v4, h0k (a := ⟨false, 3, 0⟩) (.inl rfl)]
  simp [l0m 3 p3 (by omega), l0m 3 p4 (by omega)]
 have hc : errC 2 [(⟨false, p1, 1, [1], 0⟩, ⟨false, p2, 1, [1], 0⟩), (⟨false, p3, 1, [3], 0⟩, ⟨false, p4, 1, [3], 0⟩)] = 0 := by
  unfold errC
  rw [h0i]
  simp only [b1, b2, if_true]
  rw [if_neg (by omega)]
 have hd : divC 2 ⟨false, p1, 1, [1], 0⟩ ⟨false, p2, 1, [1], 0⟩ ⟨false, p3, 1, [3], 0⟩ ⟨false, p4, 1, [3], 0⟩ = 0 := by
  unfold divC
  rw [hc, v3, v4, if_pos rfl, if_neg]
  rintro ⟨h, _⟩
  have : a0k ⟨false, 3, 0⟩ = 1 := rfl
  omega
 have hb : errB ⟨false, 1, -2⟩ ⟨false, 3, -3⟩ = 0 := by
  unfold errB
  rw [r0q (by rw [b0q (by omega) (by omega)]; simp) (by omega) (by omega), if_pos rfl]
  exact r0q (by rw [b0q (by omega) (by omega)]; simp) (by omega) (by omega)
 obtain ⟨k1, k2⟩ := t0b
 refine ⟨?_, ?_, ?_⟩
 · unfold divE
   rw [hd, if_pos rfl, v1, v2, v3, v4, k1, k2, hb]
 · unfold divL
   rw [hd, if_pos rfl, v1, v2, v3, v4, k1, k2]
   unfold e0s
   rw [if_pos hb]
 · unfold divH
   rw [hd, if_pos rfl, v1, v2, v3, v4, k1, k2]
   unfold e0t
   rw [if_pos hb]
theorem l0r {w : World} {b k : Nat} (hk : k < 4294967296) (h : Bx w b #[.int .u32 (k : Int)]) : InD w ⟨false, some ⟨b, 0, none⟩, 1, [k], 0⟩ :=
 ⟨⟨fun _ => ⟨rfl, rfl⟩, fun j hj => by
   obtain rfl : j = 0 := by simp at hj; omega
   exact h.e1⟩, by simp, by simp, by intro x hx; simp at hx; subst hx; unfold B32; exact hk⟩
theorem n0l (w : World) (hT : TabW w) :
 Calls Tryd.prog 5 #[] w fun e w' => e = .returned (.bool true) ∧ Below w.heap.size w w' := by
 have HDIV := fun (p1 p2 p3 p4 : OA) W k1 k2 k3 k4 k5 => lHd (show Calls Tryd.prog 18 #[.agg #[.bool false, .slice p1 1 1, .int .i64 0, .bool false, .slice p2 1 1, .int .i64 0], .agg #[.bool false, .slice p3 1 1, .int .i64 0, .bool false, .slice p4 1 1, .int .i64 0], .int .i64 2] W (e0u W W.heap.size ⟨false, 1, -2⟩ ⟨false, 3, -3⟩ 0) by
   have h := z0a ⟨false, p1, 1, [1], 0⟩ ⟨false, p2, 1, [1], 0⟩ ⟨false, p3, 1, [3], 0⟩ ⟨false, p4, 1, [3], 0⟩ 2 W k1 k2 k3 k4 k5
   obtain ⟨e1, e2, e3⟩ := w0x p1 p2 p3 p4
   rw [e1, e2, e3] at h
   exact h)
 have HS1 := fun (p q : OA) c d W k1 k2 => lHd (show Calls Tryd.prog 17 #[.agg #[.bool false, .slice p 1 c, .int .i64 (-2)], .agg #[.bool false, .slice q 1 d, .int .i64 (-2)]] W fun en w' => en = .returned (.bool true) ∧ Below W.heap.size W w' by
   have h := d0o false false p q 1 c 1 d (-2) (-2) 1 1 W k1 k2 (by rw [b0q (by omega) (by omega)]; rfl) (by rw [b0q (by omega) (by omega)]; rfl) (by rw [b0q (by omega) (by omega)]; simp) (by rw [b0q (by omega) (by omega)]; simp)
   simp only [decide_true] at h
   exact h)
 have HS2 := fun (p q : OA) c d W k1 k2 => lHd (show Calls Tryd.prog 17 #[.agg #[.bool false, .slice p 1 c, .int .i64 (-3)], .agg #[.bool false, .slice q 1 d, .int .i64 (-3)]] W fun en w' => en = .returned (.bool true) ∧ Below W.heap.size W w' by
   have h := d0o false false p q 1 c 1 d (-3) (-3) 3 3 W k1 k2 (by rw [b0q (by omega) (by omega)]; rfl) (by rw [b0q (by omega) (by omega)]; rfl) (by rw [b0q (by omega) (by omega)]; simp) (by rw [b0q (by omega) (by omega)]; simp)
   simp only [decide_true] at h
   exact h)
 have HG1 := lHd (b0q (show 0 < 1 by omega) (show 1 < 4294967296 by omega))
 have HG3 := lHd (b0q (show 0 < 3 by omega) (show 3 < 4294967296 by omega))
 go_enter Tryd.func5, Tryd.ntmps5
 go_upto_region 2 with (fail)
 refine u0n (fun W1 hb1 hz1 N1 N2 O => ?_)
 replace hT := hT.past hb1
 have hs1 := hb1
 go_upto_region 3 with (fail)
 refine u0n (fun W2 hb2 hz2 N3 N4 T => ?_)
 replace N1 := N1.past hb2
 replace N2 := N2.past hb2
 replace O := O.past hb2
 replace hT := hT.past hb2
 have hs2 := hs1.trans (hb2.mono hs1.size)
 obtain ⟨O_0, O_1, O_2, O_3, O_4, O_5⟩ := O.e6
 obtain ⟨T_0, T_1, T_2, T_3, T_4, T_5⟩ := T.e6
 go_wp2_with fail
 clear O_0 O_1 O_2 O_3 O_4 O_5 T_0 T_1 T_2 T_3 T_4 T_5
 ((with_reducible refine (HDIV _ _ _ _ _ (l0r (k := 1) (by omega) N1) (l0r (k := 1) (by omega) N2) (l0r (k := 3) (by omega) N3) (l0r (k := 3) (by omega) N4) hT).out.mono ?_))
 rintro e3 w3 ⟨p3, c3, q3, d3, rfl, ho3, hq3, hb3⟩
 simp only [HG1.out, HG3.out, List.length_cons, List.length_nil, Nat.zero_add]
 have hs3 := hs2.trans (hb3.mono hs2.size)
 go_upto_region 4 with (fail)
 refine c0l (fun W4 hb4 hz4 Z => ?_)
 replace ho3 := ho3.past hb4
 replace hq3 := hq3.past hb4
 have hs4 := hs3.trans (hb4.mono hs3.size)
 obtain ⟨Z_0, Z_1, Z_2, Z_3, Z_4, Z_5⟩ := Z.e6
 go_wp2_with fail
 clear Z_0 Z_1 Z_2 Z_3 Z_4 Z_5
 refine h0u (fun W5 hb5 hz5 L1 => ?_)
 replace Z := Z.past hb5
 replace ho3 := ho3.past hb5
 replace hq3 := hq3.past hb5
 have hs5 := hs4.trans (hb5.mono hs4.size)
 ((with_reducible refine ((HS1 p3 _ c3 _ _ ho3.rd (by rw [HG1.out]; exact (l0r (k := 1) (by omega) L1).rd)).out).mono ?_))
 rintro e6 w6 ⟨rfl, hb6⟩
 replace Z := Z.past hb6
 replace L1 := L1.past hb6
 replace ho3 := ho3.past hb6
 replace hq3 := hq3.past hb6
 have hs6 := hs5.trans (hb6.mono hs5.size)
 obtain ⟨Z_0, Z_1, Z_2, Z_3, Z_4, Z_5⟩ := Z.e6
 go_wp2_with fail
 clear Z_0 Z_1 Z_2 Z_3 Z_4 Z_5
 refine h0u (fun W7 hb7 hz7 L3 => ?_)
 replace Z := Z.past hb7
 replace L1 := L1.past hb7
 replace ho3 := ho3.past hb7
 replace hq3 := hq3.past hb7
 have hs7 := hs6.trans (hb7.mono hs6.size)
 ((with_reducible refine ((HS2 q3 _ d3 _ _ hq3.rd (by rw [HG3.out]; exact (l0r (k := 3) (by omega) L3).rd)).out).mono ?_))
 rintro e8 w8 ⟨rfl, hb8⟩
 replace Z := Z.past hb8
 replace L1 := L1.past hb8
 replace L3 := L3.past hb8
 replace ho3 := ho3.past hb8
 replace hq3 := hq3.past hb8
 have hs8 := hs7.trans (hb8.mono hs7.size)
 go_wp2
 go_ret
 exact ⟨rfl, hs8⟩
theorem q0q (g : Gd) (hg : g = ⟨2, 3, -5, 5, true⟩) : g0g false 9 1 0 g 1 = ⟨false, 4, 1, false, false, false⟩ := by
 subst hg
 unfold g0g
 rw [if_neg (by omega)]
 have hK : IsK 9 1 0 1 3 1 := by
  constructor
  · unfold d0p qP numP denP; decide
  · unfold d0p qP numP denP; decide
 have e1 : theK 9 1 0 1 3 = 1 := a1r (by omega) (by omega) (by omega) (by omega) hK
 have h := g0l (neg := false) (num := 9) (den := 1) (e := 0) (w := 1) (D := 3) (way := 1) (k := 1) (X := 4) (N := 2) (ub := false) (by decide) (by decide) (by decide)
 have e2 := v0k (neg := false) (num := 9) (den := 1) (e := 0) (g := ⟨2, 3, -5, 5, true⟩) (way := 1) (K := 1) (wd := 1) (D := 3) (k1 := 1) (by rfl) (by rfl) (by decide) h.1 h.2 (Y := 1) (by decide)
 show fitK false 9 1 0 ⟨2, 3, -5, 5, true⟩ 1 (theK 9 1 0 1 3) = _
 rw [e1, e2]
 simp
theorem q0r {k : Nat} (h0 : 0 < k) (h : k < 4294967296) : dig B32 k = [k] := by rw [d0e a0a h0, show k / B32 = 0 by unfold B32; omega, a0b, show k % B32 = k by unfold B32; omega]
theorem n0m {w : World} {b k : Nat} (h : Bx w b #[.int .u32 (k : Int)]) : Rd w .u32 (some ⟨b, 0, none⟩) [k] := by
 refine ⟨fun _ => ⟨rfl, rfl⟩, fun j hj => ?_⟩
 obtain rfl : j = 0 := by simp at hj; omega
 exact h.e1
theorem l0s {k : Nat} (hk : 0 < k) : a0n [k] = 0 := by
 unfold a0n
 rw [if_neg, if_neg (by simp)]
 rintro ⟨_, h2⟩
 simp [dg] at h2
 omega
theorem n0n (w : World) :
 Calls Tryd.prog 6 #[] w fun e w' => e = .returned (.bool true) ∧ Below w.heap.size w w' := by
 obtain ⟨W1, hW1, hb1, hz1, G, N9, N1⟩ := lay3 w #[.int .i64 2, .int .i64 3, .int .i64 (-5), .int .i64 5, .bool true] 29 #[.int .u32 9] 55 #[.int .u32 1] 55
 have r9 := n0m (k := 9) N9
 have r1 := n0m (k := 1) N1
 have HR := o0l ⟨false, some ⟨w.heap.size + 1, 0, none⟩, 1, [9], some ⟨w.heap.size + 1 + 1, 0, none⟩, 1, [1], 0⟩ ⟨2, 3, -5, 5, true⟩ 1 W1 ⟨r9, by simp, by simp [B32], r1, by simp, by simp [B32]⟩
 have e0 : d0m ⟨false, some ⟨w.heap.size + 1, 0, none⟩, 1, [9], some ⟨w.heap.size + 1 + 1, 0, none⟩, 1, [1], 0⟩ = 0 := by
  unfold d0m
  simp only [l0s (show 0 < 9 by omega), l0s (show 0 < 1 by omega)]
  simp
 have e1 : b0v ⟨false, some ⟨w.heap.size + 1, 0, none⟩, 1, [9], some ⟨w.heap.size + 1 + 1, 0, none⟩, 1, [1], 0⟩ ⟨2, 3, -5, 5, true⟩ 1 = 0 := by
  unfold b0v
  rw [e0]
  decide
 have e2 : f0j ⟨false, some ⟨w.heap.size + 1, 0, none⟩, 1, [9], some ⟨w.heap.size + 1 + 1, 0, none⟩, 1, [1], 0⟩ ⟨2, 3, -5, 5, true⟩ 1 = ⟨false, 4, 1, false, false, false⟩ := by
  unfold f0j
  rw [e1, if_pos rfl]
  simp only [val_cons, val_nil, Nat.mul_zero, Nat.add_zero]
  exact q0q _ rfl
 rw [e1, e2] at HR
 simp only [List.length_cons, List.length_nil, Nat.zero_add] at HR
 have HRR := lHd HR
 have HW1 := lHd hW1
 have d4 := q0r (show 0 < 4 by omega) (show 4 < 4294967296 by omega)
 have HD4 := lHd d4
 clear HR hW1 e0 e1 e2 d4 r9 r1
 go_enter Tryd.func6, Tryd.ntmps6
 go_wp2_with fail
 rw [← HW1.out]
 ((with_reducible refine HRR.out.mono ?_))
 clear HRR HW1
 rintro e2 w2 ⟨p2, c2, rfl, ho2, hb2⟩
 simp only [HD4.out, List.length_cons, List.length_nil, Nat.zero_add] at ho2 ⊢
 have hs2 := hb1.trans (hb2.mono hb1.size)
 obtain ⟨W3, hW3, hb3, hz3, P, N4⟩ := lay2 w2 #[.bool false, .slice p2 1 c2, .int .i64 1, .bool false, .bool false, .bool false] 50 #[.int .u32 4] 55
 have r4 := n0m (k := 4) N4
 have ho3 := ho2.past hb3
 have Pn := e0w w2 #[.bool false, .slice p2 1 c2, .int .i64 1, .bool false, .bool false, .bool false] 50
 obtain ⟨Pn_0, Pn_1, Pn_2, Pn_3, Pn_4, Pn_5⟩ := Pn.e6
 obtain ⟨P_0, P_1, P_2, P_3, P_4, P_5⟩ := P.e6
 have HW3 := lHd hW3
 clear hW3
 go_wp2_with fail
 rw [← HW3.out]
 clear Pn_0 Pn_1 Pn_2 Pn_3 Pn_4 Pn_5 P_0 P_1 P_2 P_3 P_4 P_5
 ((with_reducible refine (a0r p2 (some ⟨w2.heap.size + 1, 0, none⟩) 1 c2 1 1 [4] [4] _ ho3.rd r4 rfl rfl rfl (by simp)).mono ?_))
 rintro e4 w4 ⟨rfl, hb4⟩
 have P4 := P.past hb4
 obtain ⟨P_0, P_1, P_2, P_3, P_4, P_5⟩ := P4.e6
 go_wp2
 go_ret
 exact ⟨rfl, (hs2.trans (hb3.mono hs2.size)).trans (hb4.mono (Nat.le_trans hs2.size hb3.size))⟩
def inDF (a : Din) : PF :=
 ⟨fun w => InD w a, fun b => 0 < a.xs.length ∧ blk a.p = b, fun _ _ h hb _ => ⟨h.rd.same fun hp => hb _ (h.rd.lt hp) ⟨hp, rfl⟩, h.cap, h.len, h.lt⟩, fun _ _ h hf => hf.2 ▸ h.rd.lt hf.1⟩
end Go.Proofs.YthcoapcffhgckaaDoor
namespace Go.Slip
open Go.RowKit
section
variable {P : Program} {Q : Exit → Act → World → Prop} {E : List Nat} {w0 : World} {A : List Nat} {fs : List PF} {W : World} {c : Cfg}
theorem zunr (I : Inv E w0 A c.bx fs W) (n : Nat)
 (h : ∀ J : Nat → Act → World → Prop, (∀ m fr bx A W fs, Inv E w0 A bx fs W → (Inv E w0 A (l0d (zr P none c) fr bx (J m)).bx fs W → G P Q A (l0d (zr P none c) fr bx (J m)) W) → J (m + 1) (act A fr) W) → ∀ A W, Inv E w0 A (l0d (zr P none c) (zr P none c).fr (zr P none c).bx (J n)).bx fs W → G P Q A (l0d (zr P none c) (zr P none c).fr (zr P none c).bx (J n)) W)
 (hr : ∀ A w, (zms P none 5000 c A w).map (·.1) = (zms P none 5000 c A w).map (·.2) := by intro _ _; kernel_rfl)
 (hl : (v0e (zr P none c)).isSome = true := by kernel_rfl) : G P Q A c W :=
 b0g I hr fun A W I => by
  generalize zr P none c = c at *
  refine ⟨?_⟩
  obtain ⟨cf, cb, rg, ks⟩ := c
  cases rg with
  | pl => cases hl
  | dr => cases hl
  | one => cases hl
  | ret => cases hl
  | off =>
   cases ks with
   | nil => cases hl
   | cons k ks =>
    cases k with
    | block => cases hl
    | stop => cases hl
    | code b =>
     cases b with
     | loop b =>
      refine wp_loop_rounds (n + 1) ?_
      exact (h (fun m a w => Code.rounds P b (post P Q ks) m a w) (fun m fr bx A W fs I h => (h I).out) A W I).out
     | _ => cases hl
end
end Go.Slip
namespace Go.Proofs.YthcoapcffhgckaaDoor
open Go.RowKit Go.Slip
theorem t0c (l h : Dv) : (dig B32 (e0s l h).m).length ≤ 1200 ∧ (dig B32 (e0t l h).m).length ≤ 1200 := by
 unfold e0s e0t
 by_cases h0 : errB l h = 0
 · rw [if_pos h0, if_pos h0]
   obtain ⟨h1, h2⟩ := a1y h0
   exact ⟨(q0l h1).1, (q0l h2).1⟩
 · rw [if_neg h0, if_neg h0]
   simp [e0y, a0b]
theorem l0t (n : Int) (L : List (Din × Din)) (l h : Dv) : (dig B32 (twoL n L l h).m).length ≤ 1200 ∧ (dig B32 (twoH n L l h).m).length ≤ 1200 := by
 unfold twoL twoH
 split
 · exact t0c l h
 · simp [e0y, a0b]
def inRF (a : Rin) : PF :=
 ⟨fun w => InR w a, fun b => (0 < a.xs.length ∧ blk a.p = b) ∨ (0 < a.ys.length ∧ blk a.q = b), fun _ _ h hb _ => ⟨h.r1.same fun hp => hb _ (h.r1.lt hp) (.inl ⟨hp, rfl⟩), h.2, h.3, h.r2.same fun hp => hb _ (h.r2.lt hp) (.inr ⟨hp, rfl⟩), h.5, h.6⟩, fun _ _ h hf => by
   rcases hf with ⟨h1, e⟩ | ⟨h1, e⟩
   · exact e ▸ h.r1.lt h1
   · exact e ▸ h.r2.lt h1⟩
theorem z0c (x y : Din) (bits : Int) (q : Rin) (g : Gd) (way : Int) (d3 d2 d1 dl dh : Dv) (pl : Pl) (es ec em ej er : Int) (w : World)
 (hx : InD w x) (hy : InD w y) (hq : InR w q) (hT : TabW w) (lx : x.xs.length * 4 ≤ 140737488351232) (ly : y.xs.length * 4 ≤ 140737488351232) (ln : q.xs.length * 4 ≤ 140737488351232) (ld : q.ys.length * 4 ≤ 140737488351232)
 (B3 : Bd d3) (B2 : Bd d2) (B1 : Bd d1) (ll : (dig B32 dl.m).length ≤ 1000000) (lh : (dig B32 dh.m).length ≤ 1000000) (lp : (dig B32 pl.d).length ≤ 1000000)
 (HS : ∀ W, InD W x → InD W y → TabW W → Calls Tryd.prog 8 #[.agg #[.bool x.g, .slice x.p x.xs.length x.c, .int .i64 x.e], .agg #[.bool y.g, .slice y.p y.xs.length y.c, .int .i64 y.e]] W (c0b W W.heap.size d3 es))
 (HC : ∀ W, InD W x → TabW W → Calls Tryd.prog 9 #[.agg #[.bool x.g, .slice x.p x.xs.length x.c, .int .i64 x.e], .int .i64 bits, .bool true] W (c0b W W.heap.size d2 ec))
 (HM : ∀ W, InD W x → TabW W → Calls Tryd.prog 10 #[.agg #[.bool x.g, .slice x.p x.xs.length x.c, .int .i64 x.e]] W (c0b W W.heap.size d1 em))
 (HJ : ∀ W, InD W x → InD W y → TabW W → Calls Tryd.prog 14 #[.agg #[.bool x.g, .slice x.p x.xs.length x.c, .int .i64 x.e, .bool x.g, .slice x.p x.xs.length x.c, .int .i64 x.e], .agg #[.bool y.g, .slice y.p y.xs.length y.c, .int .i64 y.e, .bool y.g, .slice y.p y.xs.length y.c, .int .i64 y.e], .int .i64 bits] W (e0u W W.heap.size dl dh ej))
 (HR : ∀ W, InR W q → TabW W → Calls Tryd.prog 15 #[.agg #[.bool q.g, .slice q.p q.xs.length q.c, .slice q.q q.ys.length q.d, .int .i64 q.e], .agg #[.int .i64 g.rad, .int .i64 g.digs, .int .i64 g.lo, .int .i64 g.hi, .bool g.grad], .int .i64 way] W (m0y W pl er)) :
 Calls Tryd.prog 3 #[.agg #[.bool x.g, .slice x.p x.xs.length x.c, .int .i64 x.e], .agg #[.bool y.g, .slice y.p y.xs.length y.c, .int .i64 y.e], .int .i64 bits, .agg #[.bool q.g, .slice q.p q.xs.length q.c, .slice q.q q.ys.length q.d, .int .i64 q.e], .agg #[.int .i64 g.rad, .int .i64 g.digs, .int .i64 g.lo, .int .i64 g.hi, .bool g.grad], .int .i64 way] w fun e w' => e = .returned (.bool true) ∧ Below w.heap.size w w' := by
 have fx := fun (b : Nat) (h1 : 0 < x.xs.length) (h2 : w.heap.size ≤ b) => (show ¬ blk x.p = b from fun e => by have := hx.rd.lt h1; omega)
 have fy := fun (b : Nat) (h1 : 0 < y.xs.length) (h2 : w.heap.size ≤ b) => (show ¬ blk y.p = b from fun e => by have := hy.rd.lt h1; omega)
 have fq := fun (b : Nat) (h : (inRF q).foot b) (h2 : w.heap.size ≤ b) => (show False from by
   rcases h with ⟨h1, e⟩ | ⟨h1, e⟩
   · have := hq.r1.lt h1; omega
   · have := hq.r2.lt h1; omega)
 obtain ⟨bj, hbj⟩ : ∃ b, (ej == 0) = b := ⟨_, rfl⟩
 obtain ⟨br, hbr⟩ : ∃ b, (er == 0) = b := ⟨_, rfl⟩
 let aA : Box := ⟨29, [.v (.int .i64 g.rad), .v (.int .i64 g.digs), .v (.int .i64 g.lo), .v (.int .i64 g.hi), .v (.bool g.grad)], false⟩
 let aB : Box := ⟨27, [.v (.bool q.g), .v (.slice q.p q.xs.length q.c), .v (.slice q.q q.ys.length q.d), .v (.int .i64 q.e)], false⟩
 let aC : Box := ⟨25, [.v (.bool x.g), .v (.slice x.p x.xs.length x.c), .v (.int .i64 x.e)], false⟩
 let aD : Box := ⟨25, [.v (.bool y.g), .v (.slice y.p y.xs.length y.c), .v (.int .i64 y.e)], false⟩
 let aE : SV := .v (.agg #[.bool q.g, .slice q.p q.xs.length q.c, .slice q.q q.ys.length q.d, .int .i64 q.e])
 let aF : SV := .v (.agg #[.int .i64 g.rad, .int .i64 g.digs, .int .i64 g.lo, .int .i64 g.hi, .bool g.grad])
 let aG : SV := .v (.agg #[.bool x.g, .slice x.p x.xs.length x.c, .int .i64 x.e])
 let aH : SV := .v (.agg #[.bool y.g, .slice y.p y.xs.length y.c, .int .i64 y.e])
 have I := Inv.start w [inDF x, inDF y, inRF q, tabF] ⟨hx, hy, hq, hT, True.intro⟩
 refine z0p [.v (.agg #[.bool x.g, .slice x.p x.xs.length x.c, .int .i64 x.e]), .v (.agg #[.bool y.g, .slice y.p y.xs.length y.c, .int .i64 y.e]), .v (.int .i64 bits), .v (.agg #[.bool q.g, .slice q.p q.xs.length q.c, .slice q.q q.ys.length q.d, .int .i64 q.e]), .v (.agg #[.int .i64 g.rad, .int .i64 g.digs, .int .i64 g.lo, .int .i64 g.hi, .bool g.grad]), .v (.int .i64 way)] I Tryd.func3 ?_
 refine zq I (fun Al W I => n0h W I.fa.2.2.2.1) fun Al W I => zq I (fun Al W I => n0l W I.fa.2.2.2.1) fun Al W I => zq I (fun Al W I => n0n W) fun Al W I => zd [] I fun Al W I => zk [0, 1, 3, 4] I fun I => zo 2 I fun I => zg I (fun Al W I => i0u x.p _ x.c x.xs W (I.fa.1).rd rfl lx) fun Al V Iv _ hB _ kz => ?_
 rintro _ W ⟨p43, c43, rfl, o43, hb⟩
 refine ⟨_, rfl, kz _ _ hb fun I => ?_⟩
 have I := I.own o43
 refine zo 5 I fun I => zg I (fun Al W I => i0u y.p _ y.c y.xs W (I.fa.2.2.1).rd rfl ly) fun Al V Iv _ hB _ kz => ?_
 rintro _ W ⟨p46, c46, rfl, o46, hb⟩
 have ne_o46_o43 := fun (h1 : p46.isSome = true) (h2 : p43.isSome = true) => (show blk p46 ≠ blk p43 by have h3 := (Iv.fa.1.blk_lt h2).2; have h4 := (o46.blk_lt h1).1; omega)
 refine ⟨_, rfl, kz _ _ hb fun I => ?_⟩
 have I := I.own o46
 refine zk [6, 7] I fun I => zd [] I fun Al W I => zk [0, 1, 3, 4] I fun I => zo 2 I fun I => zg I (fun Al W I => i0u q.p _ q.c q.xs W (I.fa.2.2.2.2.1).r1 rfl ln) fun Al V Iv _ hB _ kz => ?_
 rintro _ W ⟨p49, c49, rfl, o49, hb⟩
 have ne_o49_o46 := fun (h1 : p49.isSome = true) (h2 : p46.isSome = true) => (show blk p49 ≠ blk p46 by have h3 := (Iv.fa.1.blk_lt h2).2; have h4 := (o49.blk_lt h1).1; omega)
 have ne_o49_o43 := fun (h1 : p49.isSome = true) (h2 : p43.isSome = true) => (show blk p49 ≠ blk p43 by have h3 := (Iv.fa.2.1.blk_lt h2).2; have h4 := (o49.blk_lt h1).1; omega)
 refine ⟨_, rfl, kz _ _ hb fun I => ?_⟩
 have I := I.own o49
 refine zo 5 I fun I => zg I (fun Al W I => i0u q.q _ q.d q.ys W (I.fa.2.2.2.2.2.1).r2 rfl ld) fun Al V Iv _ hB _ kz => ?_
 rintro _ W ⟨p52, c52, rfl, o52, hb⟩
 have ne_o52_o49 := fun (h1 : p52.isSome = true) (h2 : p49.isSome = true) => (show blk p52 ≠ blk p49 by have h3 := (Iv.fa.1.blk_lt h2).2; have h4 := (o52.blk_lt h1).1; omega)
 have ne_o52_o46 := fun (h1 : p52.isSome = true) (h2 : p46.isSome = true) => (show blk p52 ≠ blk p46 by have h3 := (Iv.fa.2.1.blk_lt h2).2; have h4 := (o52.blk_lt h1).1; omega)
 have ne_o52_o43 := fun (h1 : p52.isSome = true) (h2 : p43.isSome = true) => (show blk p52 ≠ blk p43 by have h3 := (Iv.fa.2.2.1.blk_lt h2).2; have h4 := (o52.blk_lt h1).1; omega)
 refine ⟨_, rfl, kz _ _ hb fun I => ?_⟩
 have I := I.own o52
 refine zk [6, 7] I fun I => zunr I 2 ?_
 rintro J0 hJ0 Al W I
 refine zg I (fun Al W I => HS W I.fa.2.2.2.2.1 I.fa.2.2.2.2.2.1 I.fa.2.2.2.2.2.2.2.1) fun Al V Iv _ hB _ kz => ?_
 rintro _ W ⟨p3_2, c3_2, rfl, o3_2, hb⟩
 have ne_o3_2_o52 := fun (h1 : p3_2.isSome = true) (h2 : p52.isSome = true) => (show blk p3_2 ≠ blk p52 by have h3 := (Iv.fa.1.blk_lt h2).2; have h4 := (o3_2.blk_lt h1).1; omega)
 have ne_o3_2_o49 := fun (h1 : p3_2.isSome = true) (h2 : p49.isSome = true) => (show blk p3_2 ≠ blk p49 by have h3 := (Iv.fa.2.1.blk_lt h2).2; have h4 := (o3_2.blk_lt h1).1; omega)
 have ne_o3_2_o46 := fun (h1 : p3_2.isSome = true) (h2 : p46.isSome = true) => (show blk p3_2 ≠ blk p46 by have h3 := (Iv.fa.2.2.1.blk_lt h2).2; have h4 := (o3_2.blk_lt h1).1; omega)
 have ne_o3_2_o43 := fun (h1 : p3_2.isSome = true) (h2 : p43.isSome = true) => (show blk p3_2 ≠ blk p43 by have h3 := (Iv.fa.2.2.2.1.blk_lt h2).2; have h4 := (o3_2.blk_lt h1).1; omega)
 refine ⟨_, rfl, kz _ _ hb fun I => ?_⟩
 have I := I.own o3_2
 refine zg I (fun Al W I => HC W I.fa.2.2.2.2.2.1 I.fa.2.2.2.2.2.2.2.2.1) fun Al V Iv _ hB _ kz => ?_
 rintro _ W ⟨p2_2, c2_2, rfl, o2_2, hb⟩
 have ne_o2_2_o3_2 := fun (h1 : p2_2.isSome = true) (h2 : p3_2.isSome = true) => (show blk p2_2 ≠ blk p3_2 by have h3 := (Iv.fa.1.blk_lt h2).2; have h4 := (o2_2.blk_lt h1).1; omega)
 have ne_o2_2_o52 := fun (h1 : p2_2.isSome = true) (h2 : p52.isSome = true) => (show blk p2_2 ≠ blk p52 by have h3 := (Iv.fa.2.1.blk_lt h2).2; have h4 := (o2_2.blk_lt h1).1; omega)
 have ne_o2_2_o49 := fun (h1 : p2_2.isSome = true) (h2 : p49.isSome = true) => (show blk p2_2 ≠ blk p49 by have h3 := (Iv.fa.2.2.1.blk_lt h2).2; have h4 := (o2_2.blk_lt h1).1; omega)
 have ne_o2_2_o46 := fun (h1 : p2_2.isSome = true) (h2 : p46.isSome = true) => (show blk p2_2 ≠ blk p46 by have h3 := (Iv.fa.2.2.2.1.blk_lt h2).2; have h4 := (o2_2.blk_lt h1).1; omega)
 have ne_o2_2_o43 := fun (h1 : p2_2.isSome = true) (h2 : p43.isSome = true) => (show blk p2_2 ≠ blk p43 by have h3 := (Iv.fa.2.2.2.2.1.blk_lt h2).2; have h4 := (o2_2.blk_lt h1).1; omega)
 refine ⟨_, rfl, kz _ _ hb fun I => ?_⟩
 have I := I.own o2_2
 refine zg I (fun Al W I => HM W I.fa.2.2.2.2.2.2.1 I.fa.2.2.2.2.2.2.2.2.2.1) fun Al V Iv _ hB _ kz => ?_
 rintro _ W ⟨p1_2, c1_2, rfl, o1_2, hb⟩
 have ne_o1_2_o2_2 := fun (h1 : p1_2.isSome = true) (h2 : p2_2.isSome = true) => (show blk p1_2 ≠ blk p2_2 by have h3 := (Iv.fa.1.blk_lt h2).2; have h4 := (o1_2.blk_lt h1).1; omega)
 have ne_o1_2_o3_2 := fun (h1 : p1_2.isSome = true) (h2 : p3_2.isSome = true) => (show blk p1_2 ≠ blk p3_2 by have h3 := (Iv.fa.2.1.blk_lt h2).2; have h4 := (o1_2.blk_lt h1).1; omega)
 have ne_o1_2_o52 := fun (h1 : p1_2.isSome = true) (h2 : p52.isSome = true) => (show blk p1_2 ≠ blk p52 by have h3 := (Iv.fa.2.2.1.blk_lt h2).2; have h4 := (o1_2.blk_lt h1).1; omega)
 have ne_o1_2_o49 := fun (h1 : p1_2.isSome = true) (h2 : p49.isSome = true) => (show blk p1_2 ≠ blk p49 by have h3 := (Iv.fa.2.2.2.1.blk_lt h2).2; have h4 := (o1_2.blk_lt h1).1; omega)
 have ne_o1_2_o46 := fun (h1 : p1_2.isSome = true) (h2 : p46.isSome = true) => (show blk p1_2 ≠ blk p46 by have h3 := (Iv.fa.2.2.2.2.1.blk_lt h2).2; have h4 := (o1_2.blk_lt h1).1; omega)
 have ne_o1_2_o43 := fun (h1 : p1_2.isSome = true) (h2 : p43.isSome = true) => (show blk p1_2 ≠ blk p43 by have h3 := (Iv.fa.2.2.2.2.2.1.blk_lt h2).2; have h4 := (o1_2.blk_lt h1).1; omega)
 refine ⟨_, rfl, kz _ _ hb fun I => ?_⟩
 have I := I.own o1_2
 refine zunr I 3 ?_
 rintro J1 hJ1 Al W I
 refine zg I (fun Al W I => f0x d3 p3_2 c3_2 _ W I.fa.2.2.1 B3) fun Al V Iv _ hB _ kz => ?_
 rintro _ W ⟨p86_3_2, c86_3_2, rfl, x86_3_2, hb⟩
 have ne_x86_3_2_o1_2 := fun (h1 : 0 < ((dig B16 (bare d3).m)).length) (h2 : p1_2.isSome = true) => (show blk p86_3_2 ≠ blk p1_2 by have h3 := (Iv.fa.1.blk_lt h2).2; have h4 := x86_3_2.at_ h1; omega)
 have ne_x86_3_2_o2_2 := fun (h1 : 0 < ((dig B16 (bare d3).m)).length) (h2 : p2_2.isSome = true) => (show blk p86_3_2 ≠ blk p2_2 by have h3 := (Iv.fa.2.1.blk_lt h2).2; have h4 := x86_3_2.at_ h1; omega)
 have ne_x86_3_2_o3_2 := fun (h1 : 0 < ((dig B16 (bare d3).m)).length) (h2 : p3_2.isSome = true) => (show blk p86_3_2 ≠ blk p3_2 by have h3 := (Iv.fa.2.2.1.blk_lt h2).2; have h4 := x86_3_2.at_ h1; omega)
 have ne_x86_3_2_o52 := fun (h1 : 0 < ((dig B16 (bare d3).m)).length) (h2 : p52.isSome = true) => (show blk p86_3_2 ≠ blk p52 by have h3 := (Iv.fa.2.2.2.1.blk_lt h2).2; have h4 := x86_3_2.at_ h1; omega)
 have ne_x86_3_2_o49 := fun (h1 : 0 < ((dig B16 (bare d3).m)).length) (h2 : p49.isSome = true) => (show blk p86_3_2 ≠ blk p49 by have h3 := (Iv.fa.2.2.2.2.1.blk_lt h2).2; have h4 := x86_3_2.at_ h1; omega)
 have ne_x86_3_2_o46 := fun (h1 : 0 < ((dig B16 (bare d3).m)).length) (h2 : p46.isSome = true) => (show blk p86_3_2 ≠ blk p46 by have h3 := (Iv.fa.2.2.2.2.2.1.blk_lt h2).2; have h4 := x86_3_2.at_ h1; omega)
 have ne_x86_3_2_o43 := fun (h1 : 0 < ((dig B16 (bare d3).m)).length) (h2 : p43.isSome = true) => (show blk p86_3_2 ≠ blk p43 by have h3 := (Iv.fa.2.2.2.2.2.2.1.blk_lt h2).2; have h4 := x86_3_2.at_ h1; omega)
 refine ⟨_, rfl, kz _ _ hb fun I => ?_⟩
 have I := I.rf x86_3_2 (hB _) Iv
 refine zd [] I fun Al W I => zk [0, 1, 2, 3, 4, 5, 6, 7, 8, 9] I fun I => ?_
 have I := I.pick [3, 0, 1, 2, 4, 5, 6, 7, 8, 9, 10, 11]
 refine zspl I p3_2 (fun h => ⟨h, rfl⟩) (fun h => (I.fa.1.blk_lt h).1) (fun Al W I h9 => ⟨fun h => ne_x86_3_2_o3_2 h.1 h9 h.2, fun h => ne_o1_2_o3_2 h.1 h9 h.2, fun h => ne_o2_2_o3_2 h.1 h9 h.2, fun h => ne_o3_2_o52 h9 h.1 h.2.symm, fun h => ne_o3_2_o49 h9 h.1 h.2.symm, fun h => ne_o3_2_o46 h9 h.1 h.2.symm, fun h => ne_o3_2_o43 h9 h.1 h.2.symm, fun h => fx _ h.1 (I.fa.1.blk_lt h9).1 h.2, fun h => fy _ h.1 (I.fa.1.blk_lt h9).1 h.2, fun h => fq _ h (I.fa.1.blk_lt h9).1, fun e => by have h1 := (I.fa.1.blk_lt h9).1; have h2 := hT.2; have e : 0 = _ := e; omega, True.intro⟩) (fun Al W I => c0g p3_2 _ c3_2 _ (dig B32 d3.m) W I.fa.1 rfl (by have := B3.len; omega)) fun Al W I => i0m 11 I (J1 3) (fr := fun U1 => (.v (.agg #[.bool x.g, .slice x.p x.xs.length x.c, vI x.e]) :: .v (.agg #[.bool y.g, .slice y.p y.xs.length y.c, vI y.e]) :: .v (vI bits) :: .v (.agg #[.bool q.g, .slice q.p q.xs.length q.c, .slice q.q q.ys.length q.d, vI q.e]) :: .v (.agg #[vI g.rad, vI g.digs, vI g.lo, vI g.hi, .bool g.grad]) :: .v (vI way) :: .p 0 0 :: .p 1 0 :: .v undef :: .p 2 0 :: .p 3 0 :: .v undef :: .v (U1 12) :: .v (vS x.xs p43 c43) :: .v (vS y.xs p46 c46) :: .v (vS q.xs p49 c49) :: .v (vS q.ys p52 c52) :: .p 4 0 :: .v (vI 0) :: .p 5 0 :: .v (U1 20) :: .p 6 0 :: .v (U1 22) :: .p 7 0 :: .v (U1 24) :: .v (vI 1) :: sw U1 26 2 (su 3 (sw U1 31 9 (.v (.bool false) :: sw U1 41 13 (.v (.bool true) :: sw U1 55 60 (.v undef :: sw U1 116 16 (.v undef :: sw U1 133 28 (.v undef :: []))))))) : List SV)) (bx := fun U1 => [⟨25, [.v (.bool x.g), .v (.slice x.p x.xs.length x.c), .v (vI x.e)], false⟩, ⟨25, [.v (.bool y.g), .v (.slice y.p y.xs.length y.c), .v (vI y.e)], false⟩, ⟨27, [.v (.bool q.g), .v (.slice q.p q.xs.length q.c), .v (.slice q.q q.ys.length q.d), .v (vI q.e)], false⟩, ⟨29, [.v (vI g.rad), .v (vI g.digs), .v (vI g.lo), .v (vI g.hi), .v (.bool g.grad)], false⟩, ⟨35, [.v (.bool ((bare d3).neg)), .v (vS (dig B16 (bare d3).m) p86_3_2 c86_3_2), .v (vI ((bare d3).e)), .v (.bool false), .v (.slice none 0 0), .v (vI 0), .v (.bool false), .v (.slice none 0 0), .v (vI 0)], false⟩, ⟨25, [.v (.bool d3.neg), .v (vS (dig B32 d3.m) p3_2 c3_2), .v (vI d3.e)], false⟩, ⟨25, [.v (.bool d2.neg), .v (vS (dig B32 d2.m) p2_2 c2_2), .v (vI d2.e)], false⟩, ⟨25, [.v (.bool d1.neg), .v (vS (dig B32 d1.m) p1_2 c1_2), .v (vI d1.e)], false⟩, ⟨25, [.v (.bool d3.neg), .v (vS (dig B32 d3.m) p3_2 c3_2), .v (vI d3.e), .v (.bool d2.neg), .v (vS (dig B32 d2.m) p2_2 c2_2), .v (vI d2.e), .v (.bool d1.neg), .v (vS (dig B32 d1.m) p1_2 c1_2), .v (vI d1.e)], false⟩, ⟨25, [.v (.bool d3.neg), .v (vS (dig B32 d3.m) p3_2 c3_2), .v (vI d3.e)], false⟩, ⟨34, [.v (.bool ((bare d3).neg)), .v (vS (dig B16 (bare d3).m) p86_3_2 c86_3_2), .v (vI ((bare d3).e))], false⟩]) fun Al W U1 I => hJ1 _ _ _ _ _ _ I fun I => ?_
 refine zg I (fun Al W I => f0x d2 p2_2 c2_2 _ W I.fa.2.2.1 B2) fun Al V Iv _ hB _ kz => ?_
 rintro _ W ⟨p86_2_2, c86_2_2, rfl, x86_2_2, hb⟩
 have ne_x86_2_2_o1_2 := fun (h1 : 0 < ((dig B16 (bare d2).m)).length) (h2 : p1_2.isSome = true) => (show blk p86_2_2 ≠ blk p1_2 by have h3 := (Iv.fa.2.1.blk_lt h2).2; have h4 := x86_2_2.at_ h1; omega)
 have ne_x86_2_2_o2_2 := fun (h1 : 0 < ((dig B16 (bare d2).m)).length) (h2 : p2_2.isSome = true) => (show blk p86_2_2 ≠ blk p2_2 by have h3 := (Iv.fa.2.2.1.blk_lt h2).2; have h4 := x86_2_2.at_ h1; omega)
 have ne_x86_2_2_o52 := fun (h1 : 0 < ((dig B16 (bare d2).m)).length) (h2 : p52.isSome = true) => (show blk p86_2_2 ≠ blk p52 by have h3 := (Iv.fa.2.2.2.1.blk_lt h2).2; have h4 := x86_2_2.at_ h1; omega)
 have ne_x86_2_2_o49 := fun (h1 : 0 < ((dig B16 (bare d2).m)).length) (h2 : p49.isSome = true) => (show blk p86_2_2 ≠ blk p49 by have h3 := (Iv.fa.2.2.2.2.1.blk_lt h2).2; have h4 := x86_2_2.at_ h1; omega)
 have ne_x86_2_2_o46 := fun (h1 : 0 < ((dig B16 (bare d2).m)).length) (h2 : p46.isSome = true) => (show blk p86_2_2 ≠ blk p46 by have h3 := (Iv.fa.2.2.2.2.2.1.blk_lt h2).2; have h4 := x86_2_2.at_ h1; omega)
 have ne_x86_2_2_o43 := fun (h1 : 0 < ((dig B16 (bare d2).m)).length) (h2 : p43.isSome = true) => (show blk p86_2_2 ≠ blk p43 by have h3 := (Iv.fa.2.2.2.2.2.2.1.blk_lt h2).2; have h4 := x86_2_2.at_ h1; omega)
 refine ⟨_, rfl, kz _ _ hb fun I => ?_⟩
 have I := I.rf x86_2_2 (hB _) Iv
 refine zd [] I fun Al W I => zk [0, 1, 2, 3, 4, 5, 6, 7, 8, 9] I fun I => ?_
 have I := I.pick [3, 0, 1, 2, 4, 5, 6, 7, 8, 9, 10, 11]
 refine zspl I p2_2 (fun h => ⟨h, rfl⟩) (fun h => (I.fa.1.blk_lt h).1) (fun Al W I h9 => ⟨fun h => ne_x86_2_2_o2_2 h.1 h9 h.2, fun h => ne_x86_3_2_o2_2 h.1 h9 h.2, fun h => ne_o1_2_o2_2 h.1 h9 h.2, fun h => ne_o2_2_o52 h9 h.1 h.2.symm, fun h => ne_o2_2_o49 h9 h.1 h.2.symm, fun h => ne_o2_2_o46 h9 h.1 h.2.symm, fun h => ne_o2_2_o43 h9 h.1 h.2.symm, fun h => fx _ h.1 (I.fa.1.blk_lt h9).1 h.2, fun h => fy _ h.1 (I.fa.1.blk_lt h9).1 h.2, fun h => fq _ h (I.fa.1.blk_lt h9).1, fun e => by have h1 := (I.fa.1.blk_lt h9).1; have h2 := hT.2; have e : 0 = _ := e; omega, True.intro⟩) (fun Al W I => c0g p2_2 _ c2_2 _ (dig B32 d2.m) W I.fa.1 rfl (by have := B2.len; omega)) fun Al W I => i0m 14 I (J1 2) (fr := fun U2 => (.v (.agg #[.bool x.g, .slice x.p x.xs.length x.c, vI x.e]) :: .v (.agg #[.bool y.g, .slice y.p y.xs.length y.c, vI y.e]) :: .v (vI bits) :: .v (.agg #[.bool q.g, .slice q.p q.xs.length q.c, .slice q.q q.ys.length q.d, vI q.e]) :: .v (.agg #[vI g.rad, vI g.digs, vI g.lo, vI g.hi, .bool g.grad]) :: .v (vI way) :: .p 0 0 :: .p 1 0 :: .v undef :: .p 2 0 :: .p 3 0 :: .v undef :: .v (U2 12) :: .v (vS x.xs p43 c43) :: .v (vS y.xs p46 c46) :: .v (vS q.xs p49 c49) :: .v (vS q.ys p52 c52) :: .p 4 0 :: .v (vI 0) :: .p 5 0 :: .v (U2 20) :: .p 6 0 :: .v (U2 22) :: .p 7 0 :: .v (U2 24) :: .v (vI 2) :: sw U2 26 2 (su 3 (sw U2 31 9 (.v (.bool false) :: sw U2 41 13 (.v (.bool true) :: sw U2 55 60 (.v undef :: sw U2 116 16 (.v undef :: sw U2 133 28 (.v undef :: []))))))) : List SV)) (bx := fun U2 => [⟨25, [.v (.bool x.g), .v (.slice x.p x.xs.length x.c), .v (vI x.e)], false⟩, ⟨25, [.v (.bool y.g), .v (.slice y.p y.xs.length y.c), .v (vI y.e)], false⟩, ⟨27, [.v (.bool q.g), .v (.slice q.p q.xs.length q.c), .v (.slice q.q q.ys.length q.d), .v (vI q.e)], false⟩, ⟨29, [.v (vI g.rad), .v (vI g.digs), .v (vI g.lo), .v (vI g.hi), .v (.bool g.grad)], false⟩, ⟨35, [.v (.bool ((bare d3).neg)), .v (vS (dig B16 (bare d3).m) p86_3_2 c86_3_2), .v (vI ((bare d3).e)), .v (.bool ((bare d2).neg)), .v (vS (dig B16 (bare d2).m) p86_2_2 c86_2_2), .v (vI ((bare d2).e)), .v (.bool false), .v (.slice none 0 0), .v (vI 0)], false⟩, ⟨25, [.v (.bool d3.neg), .v (vS (dig B32 d3.m) p3_2 c3_2), .v (vI d3.e)], false⟩, ⟨25, [.v (.bool d2.neg), .v (vS (dig B32 d2.m) p2_2 c2_2), .v (vI d2.e)], false⟩, ⟨25, [.v (.bool d1.neg), .v (vS (dig B32 d1.m) p1_2 c1_2), .v (vI d1.e)], false⟩, ⟨25, [.v (.bool d3.neg), .v (vS (dig B32 d3.m) p3_2 c3_2), .v (vI d3.e), .v (.bool d2.neg), .v (vS (dig B32 d2.m) p2_2 c2_2), .v (vI d2.e), .v (.bool d1.neg), .v (vS (dig B32 d1.m) p1_2 c1_2), .v (vI d1.e)], false⟩, ⟨25, [.v (.bool d3.neg), .v (vS (dig B32 d3.m) p3_2 c3_2), .v (vI d3.e)], false⟩, ⟨34, [.v (.bool ((bare d3).neg)), .v (vS (dig B16 (bare d3).m) p86_3_2 c86_3_2), .v (vI ((bare d3).e))], false⟩, ⟨25, [.v (.bool d3.neg), .v (vS (dig B32 d3.m) p3_2 c3_2), .v (vI d3.e), .v (.bool d2.neg), .v (vS (dig B32 d2.m) p2_2 c2_2), .v (vI d2.e), .v (.bool d1.neg), .v (vS (dig B32 d1.m) p1_2 c1_2), .v (vI d1.e)], false⟩, ⟨25, [.v (.bool d2.neg), .v (vS (dig B32 d2.m) p2_2 c2_2), .v (vI d2.e)], false⟩, ⟨34, [.v (.bool ((bare d2).neg)), .v (vS (dig B16 (bare d2).m) p86_2_2 c86_2_2), .v (vI ((bare d2).e))], false⟩]) fun Al W U2 I => hJ1 _ _ _ _ _ _ I fun I => ?_
 refine zg I (fun Al W I => f0x d1 p1_2 c1_2 _ W I.fa.2.2.1 B1) fun Al V Iv _ hB _ kz => ?_
 rintro _ W ⟨p86_1_2, c86_1_2, rfl, x86_1_2, hb⟩
 have ne_x86_1_2_o1_2 := fun (h1 : 0 < ((dig B16 (bare d1).m)).length) (h2 : p1_2.isSome = true) => (show blk p86_1_2 ≠ blk p1_2 by have h3 := (Iv.fa.2.2.1.blk_lt h2).2; have h4 := x86_1_2.at_ h1; omega)
 have ne_x86_1_2_o52 := fun (h1 : 0 < ((dig B16 (bare d1).m)).length) (h2 : p52.isSome = true) => (show blk p86_1_2 ≠ blk p52 by have h3 := (Iv.fa.2.2.2.1.blk_lt h2).2; have h4 := x86_1_2.at_ h1; omega)
 have ne_x86_1_2_o49 := fun (h1 : 0 < ((dig B16 (bare d1).m)).length) (h2 : p49.isSome = true) => (show blk p86_1_2 ≠ blk p49 by have h3 := (Iv.fa.2.2.2.2.1.blk_lt h2).2; have h4 := x86_1_2.at_ h1; omega)
 have ne_x86_1_2_o46 := fun (h1 : 0 < ((dig B16 (bare d1).m)).length) (h2 : p46.isSome = true) => (show blk p86_1_2 ≠ blk p46 by have h3 := (Iv.fa.2.2.2.2.2.1.blk_lt h2).2; have h4 := x86_1_2.at_ h1; omega)
 have ne_x86_1_2_o43 := fun (h1 : 0 < ((dig B16 (bare d1).m)).length) (h2 : p43.isSome = true) => (show blk p86_1_2 ≠ blk p43 by have h3 := (Iv.fa.2.2.2.2.2.2.1.blk_lt h2).2; have h4 := x86_1_2.at_ h1; omega)
 refine ⟨_, rfl, kz _ _ hb fun I => ?_⟩
 have I := I.rf x86_1_2 (hB _) Iv
 refine zd [] I fun Al W I => zk [0, 1, 2, 3, 4, 5, 6, 7, 8, 9] I fun I => ?_
 have I := I.pick [3, 0, 1, 2, 4, 5, 6, 7, 8, 9, 10, 11]
 refine zspl I p1_2 (fun h => ⟨h, rfl⟩) (fun h => (I.fa.1.blk_lt h).1) (fun Al W I h9 => ⟨fun h => ne_x86_1_2_o1_2 h.1 h9 h.2, fun h => ne_x86_2_2_o1_2 h.1 h9 h.2, fun h => ne_x86_3_2_o1_2 h.1 h9 h.2, fun h => ne_o1_2_o52 h9 h.1 h.2.symm, fun h => ne_o1_2_o49 h9 h.1 h.2.symm, fun h => ne_o1_2_o46 h9 h.1 h.2.symm, fun h => ne_o1_2_o43 h9 h.1 h.2.symm, fun h => fx _ h.1 (I.fa.1.blk_lt h9).1 h.2, fun h => fy _ h.1 (I.fa.1.blk_lt h9).1 h.2, fun h => fq _ h (I.fa.1.blk_lt h9).1, fun e => by have h1 := (I.fa.1.blk_lt h9).1; have h2 := hT.2; have e : 0 = _ := e; omega, True.intro⟩) (fun Al W I => c0g p1_2 _ c1_2 _ (dig B32 d1.m) W I.fa.1 rfl (by have := B1.len; omega)) fun Al W I => i0m 17 I (J1 1) (fr := fun U3 => (.v (.agg #[.bool x.g, .slice x.p x.xs.length x.c, vI x.e]) :: .v (.agg #[.bool y.g, .slice y.p y.xs.length y.c, vI y.e]) :: .v (vI bits) :: .v (.agg #[.bool q.g, .slice q.p q.xs.length q.c, .slice q.q q.ys.length q.d, vI q.e]) :: .v (.agg #[vI g.rad, vI g.digs, vI g.lo, vI g.hi, .bool g.grad]) :: .v (vI way) :: .p 0 0 :: .p 1 0 :: .v undef :: .p 2 0 :: .p 3 0 :: .v undef :: .v (U3 12) :: .v (vS x.xs p43 c43) :: .v (vS y.xs p46 c46) :: .v (vS q.xs p49 c49) :: .v (vS q.ys p52 c52) :: .p 4 0 :: .v (vI 0) :: .p 5 0 :: .v (U3 20) :: .p 6 0 :: .v (U3 22) :: .p 7 0 :: .v (U3 24) :: .v (vI 3) :: sw U3 26 2 (su 3 (sw U3 31 9 (.v (.bool false) :: sw U3 41 13 (.v (.bool true) :: sw U3 55 60 (.v undef :: sw U3 116 16 (.v undef :: sw U3 133 28 (.v undef :: []))))))) : List SV)) (bx := fun U3 => [⟨25, [.v (.bool x.g), .v (.slice x.p x.xs.length x.c), .v (vI x.e)], false⟩, ⟨25, [.v (.bool y.g), .v (.slice y.p y.xs.length y.c), .v (vI y.e)], false⟩, ⟨27, [.v (.bool q.g), .v (.slice q.p q.xs.length q.c), .v (.slice q.q q.ys.length q.d), .v (vI q.e)], false⟩, ⟨29, [.v (vI g.rad), .v (vI g.digs), .v (vI g.lo), .v (vI g.hi), .v (.bool g.grad)], false⟩, ⟨35, [.v (.bool ((bare d3).neg)), .v (vS (dig B16 (bare d3).m) p86_3_2 c86_3_2), .v (vI ((bare d3).e)), .v (.bool ((bare d2).neg)), .v (vS (dig B16 (bare d2).m) p86_2_2 c86_2_2), .v (vI ((bare d2).e)), .v (.bool ((bare d1).neg)), .v (vS (dig B16 (bare d1).m) p86_1_2 c86_1_2), .v (vI ((bare d1).e))], false⟩, ⟨25, [.v (.bool d3.neg), .v (vS (dig B32 d3.m) p3_2 c3_2), .v (vI d3.e)], false⟩, ⟨25, [.v (.bool d2.neg), .v (vS (dig B32 d2.m) p2_2 c2_2), .v (vI d2.e)], false⟩, ⟨25, [.v (.bool d1.neg), .v (vS (dig B32 d1.m) p1_2 c1_2), .v (vI d1.e)], false⟩, ⟨25, [.v (.bool d3.neg), .v (vS (dig B32 d3.m) p3_2 c3_2), .v (vI d3.e), .v (.bool d2.neg), .v (vS (dig B32 d2.m) p2_2 c2_2), .v (vI d2.e), .v (.bool d1.neg), .v (vS (dig B32 d1.m) p1_2 c1_2), .v (vI d1.e)], false⟩, ⟨25, [.v (.bool d3.neg), .v (vS (dig B32 d3.m) p3_2 c3_2), .v (vI d3.e)], false⟩, ⟨34, [.v (.bool ((bare d3).neg)), .v (vS (dig B16 (bare d3).m) p86_3_2 c86_3_2), .v (vI ((bare d3).e))], false⟩, ⟨25, [.v (.bool d3.neg), .v (vS (dig B32 d3.m) p3_2 c3_2), .v (vI d3.e), .v (.bool d2.neg), .v (vS (dig B32 d2.m) p2_2 c2_2), .v (vI d2.e), .v (.bool d1.neg), .v (vS (dig B32 d1.m) p1_2 c1_2), .v (vI d1.e)], false⟩, ⟨25, [.v (.bool d2.neg), .v (vS (dig B32 d2.m) p2_2 c2_2), .v (vI d2.e)], false⟩, ⟨34, [.v (.bool ((bare d2).neg)), .v (vS (dig B16 (bare d2).m) p86_2_2 c86_2_2), .v (vI ((bare d2).e))], false⟩, ⟨25, [.v (.bool d3.neg), .v (vS (dig B32 d3.m) p3_2 c3_2), .v (vI d3.e), .v (.bool d2.neg), .v (vS (dig B32 d2.m) p2_2 c2_2), .v (vI d2.e), .v (.bool d1.neg), .v (vS (dig B32 d1.m) p1_2 c1_2), .v (vI d1.e)], false⟩, ⟨25, [.v (.bool d1.neg), .v (vS (dig B32 d1.m) p1_2 c1_2), .v (vI d1.e)], false⟩, ⟨34, [.v (.bool ((bare d1).neg)), .v (vS (dig B16 (bare d1).m) p86_1_2 c86_1_2), .v (vI ((bare d1).e))], false⟩]) fun Al W U3 I => hJ1 _ _ _ _ _ _ I fun I => ?_
 refine zg I (fun Al W I => HJ W I.fa.2.2.2.2.2.2.2.1 I.fa.2.2.2.2.2.2.2.2.1 I.fa.2.2.2.2.2.2.2.2.2.2.1) fun Al V Iv _ hB _ kz => ?_
 rintro _ W ⟨pl_2, cl_2, qh_2, dh_2, rfl, ol_2, oh_2, hb⟩
 have ne_ol_2_x86_1_2 := fun (h1 : pl_2.isSome = true) (h2 : _) => (show blk pl_2 ≠ blk p86_1_2 by have h3 := Iv.fa.1.rd.lt h2; have h4 := (ol_2.blk_lt h1).1; omega)
 have ne_ol_2_x86_2_2 := fun (h1 : pl_2.isSome = true) (h2 : _) => (show blk pl_2 ≠ blk p86_2_2 by have h3 := Iv.fa.2.1.rd.lt h2; have h4 := (ol_2.blk_lt h1).1; omega)
 have ne_ol_2_x86_3_2 := fun (h1 : pl_2.isSome = true) (h2 : _) => (show blk pl_2 ≠ blk p86_3_2 by have h3 := Iv.fa.2.2.1.rd.lt h2; have h4 := (ol_2.blk_lt h1).1; omega)
 have ne_ol_2_o52 := fun (h1 : pl_2.isSome = true) (h2 : p52.isSome = true) => (show blk pl_2 ≠ blk p52 by have h3 := (Iv.fa.2.2.2.1.blk_lt h2).2; have h4 := (ol_2.blk_lt h1).1; omega)
 have ne_ol_2_o49 := fun (h1 : pl_2.isSome = true) (h2 : p49.isSome = true) => (show blk pl_2 ≠ blk p49 by have h3 := (Iv.fa.2.2.2.2.1.blk_lt h2).2; have h4 := (ol_2.blk_lt h1).1; omega)
 have ne_ol_2_o46 := fun (h1 : pl_2.isSome = true) (h2 : p46.isSome = true) => (show blk pl_2 ≠ blk p46 by have h3 := (Iv.fa.2.2.2.2.2.1.blk_lt h2).2; have h4 := (ol_2.blk_lt h1).1; omega)
 have ne_ol_2_o43 := fun (h1 : pl_2.isSome = true) (h2 : p43.isSome = true) => (show blk pl_2 ≠ blk p43 by have h3 := (Iv.fa.2.2.2.2.2.2.1.blk_lt h2).2; have h4 := (ol_2.blk_lt h1).1; omega)
 have ne_oh_2_x86_1_2 := fun (h1 : qh_2.isSome = true) (h2 : _) => (show blk qh_2 ≠ blk p86_1_2 by have h3 := Iv.fa.1.rd.lt h2; have h4 := (oh_2.blk_lt h1).1; omega)
 have ne_oh_2_x86_2_2 := fun (h1 : qh_2.isSome = true) (h2 : _) => (show blk qh_2 ≠ blk p86_2_2 by have h3 := Iv.fa.2.1.rd.lt h2; have h4 := (oh_2.blk_lt h1).1; omega)
 have ne_oh_2_x86_3_2 := fun (h1 : qh_2.isSome = true) (h2 : _) => (show blk qh_2 ≠ blk p86_3_2 by have h3 := Iv.fa.2.2.1.rd.lt h2; have h4 := (oh_2.blk_lt h1).1; omega)
 have ne_oh_2_o52 := fun (h1 : qh_2.isSome = true) (h2 : p52.isSome = true) => (show blk qh_2 ≠ blk p52 by have h3 := (Iv.fa.2.2.2.1.blk_lt h2).2; have h4 := (oh_2.blk_lt h1).1; omega)
 have ne_oh_2_o49 := fun (h1 : qh_2.isSome = true) (h2 : p49.isSome = true) => (show blk qh_2 ≠ blk p49 by have h3 := (Iv.fa.2.2.2.2.1.blk_lt h2).2; have h4 := (oh_2.blk_lt h1).1; omega)
 have ne_oh_2_o46 := fun (h1 : qh_2.isSome = true) (h2 : p46.isSome = true) => (show blk qh_2 ≠ blk p46 by have h3 := (Iv.fa.2.2.2.2.2.1.blk_lt h2).2; have h4 := (oh_2.blk_lt h1).1; omega)
 have ne_oh_2_o43 := fun (h1 : qh_2.isSome = true) (h2 : p43.isSome = true) => (show blk qh_2 ≠ blk p43 by have h3 := (Iv.fa.2.2.2.2.2.2.1.blk_lt h2).2; have h4 := (oh_2.blk_lt h1).1; omega)
 refine ⟨_, rfl, kz _ _ hb fun I => ?_⟩
 have I := I.own ol_2
 have I := I.own oh_2
 refine zb I 115 (ej == 0) (bj) (hbj) fun Al W I => zcut I (some 2000115) (fun fr bx gs => ∃ (U4 : Nat → Value) , fr = (aG :: aH :: .v (vI bits) :: aE :: aF :: .v (vI way) :: .p 0 0 :: .p 1 0 :: vu :: .p 2 0 :: .p 3 0 :: vu :: .v (U3 12) :: .v (vS x.xs p43 c43) :: .v (vS y.xs p46 c46) :: .v (vS q.xs p49 c49) :: .v (vS q.ys p52 c52) :: .p 4 0 :: .v (vI 0) :: .p 5 0 :: .v (U4 20) :: .p 6 0 :: .v (U4 22) :: .p 7 0 :: .v (U4 24) :: .v (vI 3) :: sw U3 26 2 (.p 17 0 :: .v (vI ej) :: vu :: sw U4 31 9 (.v (.bool false) :: sw U4 41 13 (.v (.bool true) :: sw U4 55 20 (.v (.bool false) :: sw U4 76 20 (.v (U3 96) :: sw U4 97 18 (.v (.bool bj) :: sw U4 116 16 (vu :: sw U4 133 28 (vu :: [])))))))) : List SV) ∧ bx = [aC, aD, aB, aA, ⟨35, [.v (.bool ((bare d3).neg)), .v (vS (dig B16 (bare d3).m) p86_3_2 c86_3_2), .v (vI ((bare d3).e)), .v (.bool ((bare d2).neg)), .v (vS (dig B16 (bare d2).m) p86_2_2 c86_2_2), .v (vI ((bare d2).e)), .v (.bool ((bare d1).neg)), .v (vS (dig B16 (bare d1).m) p86_1_2 c86_1_2), .v (vI ((bare d1).e))], false⟩, ⟨25, [.v (.bool d3.neg), .v (vS (dig B32 d3.m) p3_2 c3_2), .v (vI d3.e)], false⟩, ⟨25, [.v (.bool d2.neg), .v (vS (dig B32 d2.m) p2_2 c2_2), .v (vI d2.e)], false⟩, ⟨25, [.v (.bool d1.neg), .v (vS (dig B32 d1.m) p1_2 c1_2), .v (vI d1.e)], false⟩, ⟨25, [.v (.bool d3.neg), .v (vS (dig B32 d3.m) p3_2 c3_2), .v (vI d3.e), .v (.bool d2.neg), .v (vS (dig B32 d2.m) p2_2 c2_2), .v (vI d2.e), .v (.bool d1.neg), .v (vS (dig B32 d1.m) p1_2 c1_2), .v (vI d1.e)], false⟩, ⟨25, [.v (.bool d3.neg), .v (vS (dig B32 d3.m) p3_2 c3_2), .v (vI d3.e)], false⟩, ⟨34, [.v (.bool ((bare d3).neg)), .v (vS (dig B16 (bare d3).m) p86_3_2 c86_3_2), .v (vI ((bare d3).e))], false⟩, ⟨25, [.v (.bool d3.neg), .v (vS (dig B32 d3.m) p3_2 c3_2), .v (vI d3.e), .v (.bool d2.neg), .v (vS (dig B32 d2.m) p2_2 c2_2), .v (vI d2.e), .v (.bool d1.neg), .v (vS (dig B32 d1.m) p1_2 c1_2), .v (vI d1.e)], false⟩, ⟨25, [.v (.bool d2.neg), .v (vS (dig B32 d2.m) p2_2 c2_2), .v (vI d2.e)], false⟩, ⟨34, [.v (.bool ((bare d2).neg)), .v (vS (dig B16 (bare d2).m) p86_2_2 c86_2_2), .v (vI ((bare d2).e))], false⟩, ⟨25, [.v (.bool d3.neg), .v (vS (dig B32 d3.m) p3_2 c3_2), .v (vI d3.e), .v (.bool d2.neg), .v (vS (dig B32 d2.m) p2_2 c2_2), .v (vI d2.e), .v (.bool d1.neg), .v (vS (dig B32 d1.m) p1_2 c1_2), .v (vI d1.e)], false⟩, ⟨25, [.v (.bool d1.neg), .v (vS (dig B32 d1.m) p1_2 c1_2), .v (vI d1.e)], false⟩, ⟨34, [.v (.bool ((bare d1).neg)), .v (vS (dig B16 (bare d1).m) p86_1_2 c86_1_2), .v (vI ((bare d1).e))], false⟩, ⟨46, [.v (.bool dl.neg), .v (vS (dig B32 dl.m) pl_2 cl_2), .v (vI dl.e), .v (.bool dh.neg), .v (vS (dig B32 dh.m) qh_2 dh_2), .v (vI dh.e)], false⟩] ∧ gs = [rfF w.heap.size p86_1_2 c86_1_2 (dig B16 (bare d1).m), rfF w.heap.size p86_2_2 c86_2_2 (dig B16 (bare d2).m), rfF w.heap.size p86_3_2 c86_3_2 (dig B16 (bare d3).m), ownF w.heap.size .u32 55 p52 c52 q.ys, ownF w.heap.size .u32 55 p49 c49 q.xs, ownF w.heap.size .u32 55 p46 c46 y.xs, ownF w.heap.size .u32 55 p43 c43 x.xs, inDF x, inDF y, inRF q, tabF]) ?_ ?_
 · intro J hJ Al W I
   rcases bTF bj with rfl | rfl
   · have I := I.pick [1, 0, 2, 3, 4, 5, 6, 7, 8, 9, 10, 11, 12]
     have I := I.pick [0, 1, 2, 3, 4, 5, 6, 7, 8, 9, 10, 11, 12]
     refine d1a I pl_2 (c1z w.heap.size .u32 55 qh_2 dh_2 (dig B32 dh.m).length) (fun h => ⟨h, rfl⟩) (fun h => (I.fa.1.blk_lt h).1) (fun _ h => h) (fun Al W I h9 => ⟨fun h => ne_ol_2_x86_1_2 h9 h.1 h.2.symm, fun h => ne_ol_2_x86_2_2 h9 h.1 h.2.symm, fun h => ne_ol_2_x86_3_2 h9 h.1 h.2.symm, fun h => ne_ol_2_o52 h9 h.1 h.2.symm, fun h => ne_ol_2_o49 h9 h.1 h.2.symm, fun h => ne_ol_2_o46 h9 h.1 h.2.symm, fun h => ne_ol_2_o43 h9 h.1 h.2.symm, fun h => fx _ h.1 (I.fa.1.blk_lt h9).1 h.2, fun h => fy _ h.1 (I.fa.1.blk_lt h9).1 h.2, fun h => fq _ h (I.fa.1.blk_lt h9).1, fun e => by have h1 := (I.fa.1.blk_lt h9).1; have h2 := hT.2; have e : 0 = _ := e; omega, True.intro⟩) (fun Al W I => l0p pl_2 qh_2 _ cl_2 dh_2 _ (dig B32 dl.m) (dig B32 dh.m) W I.fa.1 rfl (by omega) I.fa.2.1 (by omega)) fun Al W I => zspl I qh_2 (fun h => ⟨h, rfl⟩) (fun h => by obtain ⟨xs, _, o⟩ := I.fa.1; exact (o.blk_lt h).1) (fun Al W I h9 => ⟨fun h => ne_oh_2_x86_1_2 h9 h.1 h.2.symm, fun h => ne_oh_2_x86_2_2 h9 h.1 h.2.symm, fun h => ne_oh_2_x86_3_2 h9 h.1 h.2.symm, fun h => ne_oh_2_o52 h9 h.1 h.2.symm, fun h => ne_oh_2_o49 h9 h.1 h.2.symm, fun h => ne_oh_2_o46 h9 h.1 h.2.symm, fun h => ne_oh_2_o43 h9 h.1 h.2.symm, fun h => fx _ h.1 (by obtain ⟨xs, _, o⟩ := I.fa.1; exact (o.blk_lt h9).1) h.2, fun h => fy _ h.1 (by obtain ⟨xs, _, o⟩ := I.fa.1; exact (o.blk_lt h9).1) h.2, fun h => fq _ h (by obtain ⟨xs, _, o⟩ := I.fa.1; exact (o.blk_lt h9).1), fun e => by obtain ⟨xs, _, o⟩ := I.fa.1; have h1 := (o.blk_lt h9).1; have h2 := hT.2; have e : 0 = _ := e; omega, True.intro⟩) (fun Al W I => (by obtain ⟨xs, h1, h2⟩ := I.fa.1; exact c0g qh_2 _ dh_2 _ xs W h2 h1.symm (by omega))) fun Al W I => d0k I J fun Al W U I => hJ _ _ _ _ _ ⟨U, rfl, rfl, rfl⟩ (I.pick [0, 1, 2, 3, 4, 5, 6, 7, 8, 9, 10])
   exact d0k I J fun Al W U I => hJ _ _ _ _ _ ⟨U, rfl, rfl, rfl⟩ (I.pick [2, 3, 4, 5, 6, 7, 8, 9, 10, 11, 12])
 rintro _ _ _ ⟨U4, rfl, rfl, rfl⟩ Al W I
 refine zg I (fun Al W I => HR W I.fa.2.2.2.2.2.2.2.2.2.1 I.fa.2.2.2.2.2.2.2.2.2.2.1) fun Al V Iv _ hB _ kz => ?_
 rintro _ W ⟨p128_2, c128_2, rfl, o128_2, hb⟩
 have ne_o128_2_x86_1_2 := fun (h1 : p128_2.isSome = true) (h2 : _) => (show blk p128_2 ≠ blk p86_1_2 by have h3 := Iv.fa.1.rd.lt h2; have h4 := (o128_2.blk_lt h1).1; omega)
 have ne_o128_2_x86_2_2 := fun (h1 : p128_2.isSome = true) (h2 : _) => (show blk p128_2 ≠ blk p86_2_2 by have h3 := Iv.fa.2.1.rd.lt h2; have h4 := (o128_2.blk_lt h1).1; omega)
 have ne_o128_2_x86_3_2 := fun (h1 : p128_2.isSome = true) (h2 : _) => (show blk p128_2 ≠ blk p86_3_2 by have h3 := Iv.fa.2.2.1.rd.lt h2; have h4 := (o128_2.blk_lt h1).1; omega)
 have ne_o128_2_o52 := fun (h1 : p128_2.isSome = true) (h2 : p52.isSome = true) => (show blk p128_2 ≠ blk p52 by have h3 := (Iv.fa.2.2.2.1.blk_lt h2).2; have h4 := (o128_2.blk_lt h1).1; omega)
 have ne_o128_2_o49 := fun (h1 : p128_2.isSome = true) (h2 : p49.isSome = true) => (show blk p128_2 ≠ blk p49 by have h3 := (Iv.fa.2.2.2.2.1.blk_lt h2).2; have h4 := (o128_2.blk_lt h1).1; omega)
 have ne_o128_2_o46 := fun (h1 : p128_2.isSome = true) (h2 : p46.isSome = true) => (show blk p128_2 ≠ blk p46 by have h3 := (Iv.fa.2.2.2.2.2.1.blk_lt h2).2; have h4 := (o128_2.blk_lt h1).1; omega)
 have ne_o128_2_o43 := fun (h1 : p128_2.isSome = true) (h2 : p43.isSome = true) => (show blk p128_2 ≠ blk p43 by have h3 := (Iv.fa.2.2.2.2.2.2.1.blk_lt h2).2; have h4 := (o128_2.blk_lt h1).1; omega)
 refine ⟨_, rfl, kz _ _ hb fun I => ?_⟩
 have I := I.own o128_2
 refine zb I 132 (er == 0) (br) (hbr) fun Al W I => zcut I (some 2000132) (fun fr bx gs => ∃ (U5 : Nat → Value) , fr = (aG :: aH :: .v (vI bits) :: aE :: aF :: .v (vI way) :: .p 0 0 :: .p 1 0 :: vu :: .p 2 0 :: .p 3 0 :: vu :: .v (U3 12) :: .v (vS x.xs p43 c43) :: .v (vS y.xs p46 c46) :: .v (vS q.xs p49 c49) :: .v (vS q.ys p52 c52) :: .p 4 0 :: .v (vI 0) :: .p 5 0 :: .v (U5 20) :: .p 6 0 :: .v (U5 22) :: .p 7 0 :: .v (U5 24) :: .v (vI 3) :: sw U3 26 2 (.p 17 0 :: .v (vI er) :: .p 18 0 :: sw U5 31 9 (.v (.bool false) :: sw U5 41 13 (.v (.bool true) :: sw U5 55 20 (.v (.bool false) :: sw U5 76 20 (.v (U3 96) :: sw U5 97 18 (.v (.bool bj) :: sw U5 116 16 (.v (.bool br) :: sw U5 133 28 (vu :: [])))))))) : List SV) ∧ bx = [aC, aD, aB, aA, ⟨35, [.v (.bool ((bare d3).neg)), .v (vS (dig B16 (bare d3).m) p86_3_2 c86_3_2), .v (vI ((bare d3).e)), .v (.bool ((bare d2).neg)), .v (vS (dig B16 (bare d2).m) p86_2_2 c86_2_2), .v (vI ((bare d2).e)), .v (.bool ((bare d1).neg)), .v (vS (dig B16 (bare d1).m) p86_1_2 c86_1_2), .v (vI ((bare d1).e))], false⟩, ⟨25, [.v (.bool d3.neg), .v (vS (dig B32 d3.m) p3_2 c3_2), .v (vI d3.e)], false⟩, ⟨25, [.v (.bool d2.neg), .v (vS (dig B32 d2.m) p2_2 c2_2), .v (vI d2.e)], false⟩, ⟨25, [.v (.bool d1.neg), .v (vS (dig B32 d1.m) p1_2 c1_2), .v (vI d1.e)], false⟩, ⟨25, [.v (.bool d3.neg), .v (vS (dig B32 d3.m) p3_2 c3_2), .v (vI d3.e), .v (.bool d2.neg), .v (vS (dig B32 d2.m) p2_2 c2_2), .v (vI d2.e), .v (.bool d1.neg), .v (vS (dig B32 d1.m) p1_2 c1_2), .v (vI d1.e)], false⟩, ⟨25, [.v (.bool d3.neg), .v (vS (dig B32 d3.m) p3_2 c3_2), .v (vI d3.e)], false⟩, ⟨34, [.v (.bool ((bare d3).neg)), .v (vS (dig B16 (bare d3).m) p86_3_2 c86_3_2), .v (vI ((bare d3).e))], false⟩, ⟨25, [.v (.bool d3.neg), .v (vS (dig B32 d3.m) p3_2 c3_2), .v (vI d3.e), .v (.bool d2.neg), .v (vS (dig B32 d2.m) p2_2 c2_2), .v (vI d2.e), .v (.bool d1.neg), .v (vS (dig B32 d1.m) p1_2 c1_2), .v (vI d1.e)], false⟩, ⟨25, [.v (.bool d2.neg), .v (vS (dig B32 d2.m) p2_2 c2_2), .v (vI d2.e)], false⟩, ⟨34, [.v (.bool ((bare d2).neg)), .v (vS (dig B16 (bare d2).m) p86_2_2 c86_2_2), .v (vI ((bare d2).e))], false⟩, ⟨25, [.v (.bool d3.neg), .v (vS (dig B32 d3.m) p3_2 c3_2), .v (vI d3.e), .v (.bool d2.neg), .v (vS (dig B32 d2.m) p2_2 c2_2), .v (vI d2.e), .v (.bool d1.neg), .v (vS (dig B32 d1.m) p1_2 c1_2), .v (vI d1.e)], false⟩, ⟨25, [.v (.bool d1.neg), .v (vS (dig B32 d1.m) p1_2 c1_2), .v (vI d1.e)], false⟩, ⟨34, [.v (.bool ((bare d1).neg)), .v (vS (dig B16 (bare d1).m) p86_1_2 c86_1_2), .v (vI ((bare d1).e))], false⟩, ⟨46, [.v (.bool dl.neg), .v (vS (dig B32 dl.m) pl_2 cl_2), .v (vI dl.e), .v (.bool dh.neg), .v (vS (dig B32 dh.m) qh_2 dh_2), .v (vI dh.e)], false⟩, ⟨50, [.v (.bool pl.neg), .v (vS (dig B32 pl.d) p128_2 c128_2), .v (vI pl.pow), .v (.bool pl.exact), .v (.bool pl.over), .v (.bool pl.under)], false⟩] ∧ gs = [rfF w.heap.size p86_1_2 c86_1_2 (dig B16 (bare d1).m), rfF w.heap.size p86_2_2 c86_2_2 (dig B16 (bare d2).m), rfF w.heap.size p86_3_2 c86_3_2 (dig B16 (bare d3).m), ownF w.heap.size .u32 55 p52 c52 q.ys, ownF w.heap.size .u32 55 p49 c49 q.xs, ownF w.heap.size .u32 55 p46 c46 y.xs, ownF w.heap.size .u32 55 p43 c43 x.xs, inDF x, inDF y, inRF q, tabF]) ?_ ?_
 · intro J hJ Al W I
   rcases bTF br with rfl | rfl
   · refine zspl I p128_2 (fun h => ⟨h, rfl⟩) (fun h => (I.fa.1.blk_lt h).1) (fun Al W I h9 => ⟨fun h => ne_o128_2_x86_1_2 h9 h.1 h.2.symm, fun h => ne_o128_2_x86_2_2 h9 h.1 h.2.symm, fun h => ne_o128_2_x86_3_2 h9 h.1 h.2.symm, fun h => ne_o128_2_o52 h9 h.1 h.2.symm, fun h => ne_o128_2_o49 h9 h.1 h.2.symm, fun h => ne_o128_2_o46 h9 h.1 h.2.symm, fun h => ne_o128_2_o43 h9 h.1 h.2.symm, fun h => fx _ h.1 (I.fa.1.blk_lt h9).1 h.2, fun h => fy _ h.1 (I.fa.1.blk_lt h9).1 h.2, fun h => fq _ h (I.fa.1.blk_lt h9).1, fun e => by have h1 := (I.fa.1.blk_lt h9).1; have h2 := hT.2; have e : 0 = _ := e; omega, True.intro⟩) (fun Al W I => c0g p128_2 _ c128_2 _ (dig B32 pl.d) W I.fa.1 rfl (by omega)) fun Al W I => d0k I J fun Al W U I => hJ _ _ _ _ _ ⟨U, rfl, rfl, rfl⟩ (I.pick [0, 1, 2, 3, 4, 5, 6, 7, 8, 9, 10])
   exact d0k I J fun Al W U I => hJ _ _ _ _ _ ⟨U, rfl, rfl, rfl⟩ (I.pick [1, 2, 3, 4, 5, 6, 7, 8, 9, 10, 11])
 rintro _ _ _ ⟨U5, rfl, rfl, rfl⟩ Al W I
 refine zq I (fun Al W I => have hzW := I.bel.size; a0r x.p p43 _ x.c _ c43 x.xs x.xs W (I.fa.2.2.2.2.2.2.2.1).rd (I.fa.2.2.2.2.2.2.1).rd rfl rfl rfl (by omega)) fun Al W I => zq I (fun Al W I => have hzW := I.bel.size; a0r y.p p46 _ y.c _ c46 y.xs y.xs W (I.fa.2.2.2.2.2.2.2.2.1).rd (I.fa.2.2.2.2.2.1).rd rfl rfl rfl (by omega)) fun Al W I => zq I (fun Al W I => have hzW := I.bel.size; a0r q.p p49 _ q.c _ c49 q.xs q.xs W (I.fa.2.2.2.2.2.2.2.2.2.1).r1 (I.fa.2.2.2.2.1).rd rfl rfl rfl (by omega)) fun Al W I => zq I (fun Al W I => have hzW := I.bel.size; a0r q.q p52 _ q.d _ c52 q.ys q.ys W (I.fa.2.2.2.2.2.2.2.2.2.1).r2 (I.fa.2.2.2.1).rd rfl rfl rfl (by omega)) fun Al W I => i0m 11 I (J0 2) (fr := fun U6 => (.v (.agg #[.bool x.g, .slice x.p x.xs.length x.c, vI x.e]) :: .v (.agg #[.bool y.g, .slice y.p y.xs.length y.c, vI y.e]) :: .v (vI bits) :: .v (.agg #[.bool q.g, .slice q.p q.xs.length q.c, .slice q.q q.ys.length q.d, vI q.e]) :: .v (.agg #[vI g.rad, vI g.digs, vI g.lo, vI g.hi, .bool g.grad]) :: .v (vI way) :: .p 0 0 :: .p 1 0 :: .v undef :: .p 2 0 :: .p 3 0 :: .v undef :: .v (U6 12) :: .v (vS x.xs p43 c43) :: .v (vS y.xs p46 c46) :: .v (vS q.xs p49 c49) :: .v (vS q.ys p52 c52) :: .p 4 0 :: .v (vI 1) :: sw U6 19 21 (.v (.bool false) :: sw U6 41 121 []) : List SV)) (bx := fun U6 => [⟨25, [.v (.bool x.g), .v (.slice x.p x.xs.length x.c), .v (vI x.e)], false⟩, ⟨25, [.v (.bool y.g), .v (.slice y.p y.xs.length y.c), .v (vI y.e)], false⟩, ⟨27, [.v (.bool q.g), .v (.slice q.p q.xs.length q.c), .v (.slice q.q q.ys.length q.d), .v (vI q.e)], false⟩, ⟨29, [.v (vI g.rad), .v (vI g.digs), .v (vI g.lo), .v (vI g.hi), .v (.bool g.grad)], false⟩, ⟨35, [.v (.bool ((bare d3).neg)), .v (vS (dig B16 (bare d3).m) p86_3_2 c86_3_2), .v (vI ((bare d3).e)), .v (.bool ((bare d2).neg)), .v (vS (dig B16 (bare d2).m) p86_2_2 c86_2_2), .v (vI ((bare d2).e)), .v (.bool ((bare d1).neg)), .v (vS (dig B16 (bare d1).m) p86_1_2 c86_1_2), .v (vI ((bare d1).e))], false⟩, ⟨25, [.v (.bool d3.neg), .v (vS (dig B32 d3.m) p3_2 c3_2), .v (vI d3.e)], false⟩, ⟨25, [.v (.bool d2.neg), .v (vS (dig B32 d2.m) p2_2 c2_2), .v (vI d2.e)], false⟩, ⟨25, [.v (.bool d1.neg), .v (vS (dig B32 d1.m) p1_2 c1_2), .v (vI d1.e)], false⟩, ⟨25, [.v (.bool d3.neg), .v (vS (dig B32 d3.m) p3_2 c3_2), .v (vI d3.e), .v (.bool d2.neg), .v (vS (dig B32 d2.m) p2_2 c2_2), .v (vI d2.e), .v (.bool d1.neg), .v (vS (dig B32 d1.m) p1_2 c1_2), .v (vI d1.e)], false⟩, ⟨25, [.v (.bool d3.neg), .v (vS (dig B32 d3.m) p3_2 c3_2), .v (vI d3.e)], false⟩, ⟨34, [.v (.bool ((bare d3).neg)), .v (vS (dig B16 (bare d3).m) p86_3_2 c86_3_2), .v (vI ((bare d3).e))], false⟩]) fun Al W U6 I => hJ0 _ _ _ _ _ _ I fun I => ?_
 refine zg I (fun Al W I => HS W I.fa.2.2.2.2.2.2.2.1 I.fa.2.2.2.2.2.2.2.2.1 I.fa.2.2.2.2.2.2.2.2.2.2.1) fun Al V Iv _ hB _ kz => ?_
 rintro _ W ⟨p3_1, c3_1, rfl, o3_1, hb⟩
 have ne_o3_1_x86_1_2 := fun (h1 : p3_1.isSome = true) (h2 : _) => (show blk p3_1 ≠ blk p86_1_2 by have h3 := Iv.fa.1.rd.lt h2; have h4 := (o3_1.blk_lt h1).1; omega)
 have ne_o3_1_x86_2_2 := fun (h1 : p3_1.isSome = true) (h2 : _) => (show blk p3_1 ≠ blk p86_2_2 by have h3 := Iv.fa.2.1.rd.lt h2; have h4 := (o3_1.blk_lt h1).1; omega)
 have ne_o3_1_x86_3_2 := fun (h1 : p3_1.isSome = true) (h2 : _) => (show blk p3_1 ≠ blk p86_3_2 by have h3 := Iv.fa.2.2.1.rd.lt h2; have h4 := (o3_1.blk_lt h1).1; omega)
 have ne_o3_1_o52 := fun (h1 : p3_1.isSome = true) (h2 : p52.isSome = true) => (show blk p3_1 ≠ blk p52 by have h3 := (Iv.fa.2.2.2.1.blk_lt h2).2; have h4 := (o3_1.blk_lt h1).1; omega)
 have ne_o3_1_o49 := fun (h1 : p3_1.isSome = true) (h2 : p49.isSome = true) => (show blk p3_1 ≠ blk p49 by have h3 := (Iv.fa.2.2.2.2.1.blk_lt h2).2; have h4 := (o3_1.blk_lt h1).1; omega)
 have ne_o3_1_o46 := fun (h1 : p3_1.isSome = true) (h2 : p46.isSome = true) => (show blk p3_1 ≠ blk p46 by have h3 := (Iv.fa.2.2.2.2.2.1.blk_lt h2).2; have h4 := (o3_1.blk_lt h1).1; omega)
 have ne_o3_1_o43 := fun (h1 : p3_1.isSome = true) (h2 : p43.isSome = true) => (show blk p3_1 ≠ blk p43 by have h3 := (Iv.fa.2.2.2.2.2.2.1.blk_lt h2).2; have h4 := (o3_1.blk_lt h1).1; omega)
 refine ⟨_, rfl, kz _ _ hb fun I => ?_⟩
 have I := I.own o3_1
 refine zg I (fun Al W I => HC W I.fa.2.2.2.2.2.2.2.2.1 I.fa.2.2.2.2.2.2.2.2.2.2.2.1) fun Al V Iv _ hB _ kz => ?_
 rintro _ W ⟨p2_1, c2_1, rfl, o2_1, hb⟩
 have ne_o2_1_o3_1 := fun (h1 : p2_1.isSome = true) (h2 : p3_1.isSome = true) => (show blk p2_1 ≠ blk p3_1 by have h3 := (Iv.fa.1.blk_lt h2).2; have h4 := (o2_1.blk_lt h1).1; omega)
 have ne_o2_1_x86_1_2 := fun (h1 : p2_1.isSome = true) (h2 : _) => (show blk p2_1 ≠ blk p86_1_2 by have h3 := Iv.fa.2.1.rd.lt h2; have h4 := (o2_1.blk_lt h1).1; omega)
 have ne_o2_1_x86_2_2 := fun (h1 : p2_1.isSome = true) (h2 : _) => (show blk p2_1 ≠ blk p86_2_2 by have h3 := Iv.fa.2.2.1.rd.lt h2; have h4 := (o2_1.blk_lt h1).1; omega)
 have ne_o2_1_x86_3_2 := fun (h1 : p2_1.isSome = true) (h2 : _) => (show blk p2_1 ≠ blk p86_3_2 by have h3 := Iv.fa.2.2.2.1.rd.lt h2; have h4 := (o2_1.blk_lt h1).1; omega)
 have ne_o2_1_o52 := fun (h1 : p2_1.isSome = true) (h2 : p52.isSome = true) => (show blk p2_1 ≠ blk p52 by have h3 := (Iv.fa.2.2.2.2.1.blk_lt h2).2; have h4 := (o2_1.blk_lt h1).1; omega)
 have ne_o2_1_o49 := fun (h1 : p2_1.isSome = true) (h2 : p49.isSome = true) => (show blk p2_1 ≠ blk p49 by have h3 := (Iv.fa.2.2.2.2.2.1.blk_lt h2).2; have h4 := (o2_1.blk_lt h1).1; omega)
 have ne_o2_1_o46 := fun (h1 : p2_1.isSome = true) (h2 : p46.isSome = true) => (show blk p2_1 ≠ blk p46 by have h3 := (Iv.fa.2.2.2.2.2.2.1.blk_lt h2).2; have h4 := (o2_1.blk_lt h1).1; omega)
 have ne_o2_1_o43 := fun (h1 : p2_1.isSome = true) (h2 : p43.isSome = true) => (show blk p2_1 ≠ blk p43 by have h3 := (Iv.fa.2.2.2.2.2.2.2.1.blk_lt h2).2; have h4 := (o2_1.blk_lt h1).1; omega)
 refine ⟨_, rfl, kz _ _ hb fun I => ?_⟩
 have I := I.own o2_1
 refine zg I (fun Al W I => HM W I.fa.2.2.2.2.2.2.2.2.2.1 I.fa.2.2.2.2.2.2.2.2.2.2.2.2.1) fun Al V Iv _ hB _ kz => ?_
 rintro _ W ⟨p1_1, c1_1, rfl, o1_1, hb⟩
 have ne_o1_1_o2_1 := fun (h1 : p1_1.isSome = true) (h2 : p2_1.isSome = true) => (show blk p1_1 ≠ blk p2_1 by have h3 := (Iv.fa.1.blk_lt h2).2; have h4 := (o1_1.blk_lt h1).1; omega)
 have ne_o1_1_o3_1 := fun (h1 : p1_1.isSome = true) (h2 : p3_1.isSome = true) => (show blk p1_1 ≠ blk p3_1 by have h3 := (Iv.fa.2.1.blk_lt h2).2; have h4 := (o1_1.blk_lt h1).1; omega)
 have ne_o1_1_x86_1_2 := fun (h1 : p1_1.isSome = true) (h2 : _) => (show blk p1_1 ≠ blk p86_1_2 by have h3 := Iv.fa.2.2.1.rd.lt h2; have h4 := (o1_1.blk_lt h1).1; omega)
 have ne_o1_1_x86_2_2 := fun (h1 : p1_1.isSome = true) (h2 : _) => (show blk p1_1 ≠ blk p86_2_2 by have h3 := Iv.fa.2.2.2.1.rd.lt h2; have h4 := (o1_1.blk_lt h1).1; omega)
 have ne_o1_1_x86_3_2 := fun (h1 : p1_1.isSome = true) (h2 : _) => (show blk p1_1 ≠ blk p86_3_2 by have h3 := Iv.fa.2.2.2.2.1.rd.lt h2; have h4 := (o1_1.blk_lt h1).1; omega)
 have ne_o1_1_o52 := fun (h1 : p1_1.isSome = true) (h2 : p52.isSome = true) => (show blk p1_1 ≠ blk p52 by have h3 := (Iv.fa.2.2.2.2.2.1.blk_lt h2).2; have h4 := (o1_1.blk_lt h1).1; omega)
 have ne_o1_1_o49 := fun (h1 : p1_1.isSome = true) (h2 : p49.isSome = true) => (show blk p1_1 ≠ blk p49 by have h3 := (Iv.fa.2.2.2.2.2.2.1.blk_lt h2).2; have h4 := (o1_1.blk_lt h1).1; omega)
 have ne_o1_1_o46 := fun (h1 : p1_1.isSome = true) (h2 : p46.isSome = true) => (show blk p1_1 ≠ blk p46 by have h3 := (Iv.fa.2.2.2.2.2.2.2.1.blk_lt h2).2; have h4 := (o1_1.blk_lt h1).1; omega)
 have ne_o1_1_o43 := fun (h1 : p1_1.isSome = true) (h2 : p43.isSome = true) => (show blk p1_1 ≠ blk p43 by have h3 := (Iv.fa.2.2.2.2.2.2.2.2.1.blk_lt h2).2; have h4 := (o1_1.blk_lt h1).1; omega)
 refine ⟨_, rfl, kz _ _ hb fun I => ?_⟩
 have I := I.own o1_1
 refine zunr I 3 ?_
 rintro J1 hJ1 Al W I
 refine zg I (fun Al W I => f0x d3 p3_1 c3_1 _ W I.fa.2.2.1 B3) fun Al V Iv _ hB _ kz => ?_
 rintro _ W ⟨p86_3_1, c86_3_1, rfl, x86_3_1, hb⟩
 have ne_x86_3_1_o1_1 := fun (h1 : 0 < ((dig B16 (bare d3).m)).length) (h2 : p1_1.isSome = true) => (show blk p86_3_1 ≠ blk p1_1 by have h3 := (Iv.fa.1.blk_lt h2).2; have h4 := x86_3_1.at_ h1; omega)
 have ne_x86_3_1_o2_1 := fun (h1 : 0 < ((dig B16 (bare d3).m)).length) (h2 : p2_1.isSome = true) => (show blk p86_3_1 ≠ blk p2_1 by have h3 := (Iv.fa.2.1.blk_lt h2).2; have h4 := x86_3_1.at_ h1; omega)
 have ne_x86_3_1_o3_1 := fun (h1 : 0 < ((dig B16 (bare d3).m)).length) (h2 : p3_1.isSome = true) => (show blk p86_3_1 ≠ blk p3_1 by have h3 := (Iv.fa.2.2.1.blk_lt h2).2; have h4 := x86_3_1.at_ h1; omega)
 have ne_x86_3_1_o52 := fun (h1 : 0 < ((dig B16 (bare d3).m)).length) (h2 : p52.isSome = true) => (show blk p86_3_1 ≠ blk p52 by have h3 := (Iv.fa.2.2.2.2.2.2.1.blk_lt h2).2; have h4 := x86_3_1.at_ h1; omega)
 have ne_x86_3_1_o49 := fun (h1 : 0 < ((dig B16 (bare d3).m)).length) (h2 : p49.isSome = true) => (show blk p86_3_1 ≠ blk p49 by have h3 := (Iv.fa.2.2.2.2.2.2.2.1.blk_lt h2).2; have h4 := x86_3_1.at_ h1; omega)
 have ne_x86_3_1_o46 := fun (h1 : 0 < ((dig B16 (bare d3).m)).length) (h2 : p46.isSome = true) => (show blk p86_3_1 ≠ blk p46 by have h3 := (Iv.fa.2.2.2.2.2.2.2.2.1.blk_lt h2).2; have h4 := x86_3_1.at_ h1; omega)
 have ne_x86_3_1_o43 := fun (h1 : 0 < ((dig B16 (bare d3).m)).length) (h2 : p43.isSome = true) => (show blk p86_3_1 ≠ blk p43 by have h3 := (Iv.fa.2.2.2.2.2.2.2.2.2.1.blk_lt h2).2; have h4 := x86_3_1.at_ h1; omega)
 refine ⟨_, rfl, kz _ _ hb fun I => ?_⟩
 have I := I.rf x86_3_1 (hB _) Iv
 refine zd [] I fun Al W I => zk [0, 1, 2, 3, 4, 5, 6] I fun I => zo 7 I fun I => zq I (fun Al W I => n0i d3 p86_3_1 p86_3_2 c86_3_1 c86_3_2 _ _ W I.fa.1 I.fa.2.2.2.2.2.2.1 B3) fun Al W I => zk [8, 9] I fun I => ?_
 have I := I.pick [3, 0, 1, 2, 4, 5, 6, 7, 8, 9, 10, 11, 12, 13, 14]
 refine zspl I p3_1 (fun h => ⟨h, rfl⟩) (fun h => (I.fa.1.blk_lt h).1) (fun Al W I h9 => ⟨fun h => ne_x86_3_1_o3_1 h.1 h9 h.2, fun h => ne_o1_1_o3_1 h.1 h9 h.2, fun h => ne_o2_1_o3_1 h.1 h9 h.2, fun h => ne_o3_1_x86_1_2 h9 h.1 h.2.symm, fun h => ne_o3_1_x86_2_2 h9 h.1 h.2.symm, fun h => ne_o3_1_x86_3_2 h9 h.1 h.2.symm, fun h => ne_o3_1_o52 h9 h.1 h.2.symm, fun h => ne_o3_1_o49 h9 h.1 h.2.symm, fun h => ne_o3_1_o46 h9 h.1 h.2.symm, fun h => ne_o3_1_o43 h9 h.1 h.2.symm, fun h => fx _ h.1 (I.fa.1.blk_lt h9).1 h.2, fun h => fy _ h.1 (I.fa.1.blk_lt h9).1 h.2, fun h => fq _ h (I.fa.1.blk_lt h9).1, fun e => by have h1 := (I.fa.1.blk_lt h9).1; have h2 := hT.2; have e : 0 = _ := e; omega, True.intro⟩) (fun Al W I => c0g p3_1 _ c3_1 _ (dig B32 d3.m) W I.fa.1 rfl (by have := B3.len; omega)) fun Al W I => i0m 17 I (J1 3) (fr := fun U7 => (.v (.agg #[.bool x.g, .slice x.p x.xs.length x.c, vI x.e]) :: .v (.agg #[.bool y.g, .slice y.p y.xs.length y.c, vI y.e]) :: .v (vI bits) :: .v (.agg #[.bool q.g, .slice q.p q.xs.length q.c, .slice q.q q.ys.length q.d, vI q.e]) :: .v (.agg #[vI g.rad, vI g.digs, vI g.lo, vI g.hi, .bool g.grad]) :: .v (vI way) :: .p 0 0 :: .p 1 0 :: .v undef :: .p 2 0 :: .p 3 0 :: .v undef :: .v (U7 12) :: .v (vS x.xs p43 c43) :: .v (vS y.xs p46 c46) :: .v (vS q.xs p49 c49) :: .v (vS q.ys p52 c52) :: .p 4 0 :: .v (vI 1) :: .p 11 0 :: .v (U7 20) :: .p 12 0 :: .v (U7 22) :: .p 13 0 :: .v (U7 24) :: .v (vI 1) :: sw U7 26 2 (sw U6 28 3 (sw U7 31 9 (.v (.bool false) :: sw U7 41 13 (.v (.bool true) :: sw U7 55 60 (.v (U6 115) :: sw U7 116 16 (.v (U6 132) :: sw U7 133 28 (.v (U6 161) :: []))))))) : List SV)) (bx := fun U7 => [⟨25, [.v (.bool x.g), .v (.slice x.p x.xs.length x.c), .v (vI x.e)], false⟩, ⟨25, [.v (.bool y.g), .v (.slice y.p y.xs.length y.c), .v (vI y.e)], false⟩, ⟨27, [.v (.bool q.g), .v (.slice q.p q.xs.length q.c), .v (.slice q.q q.ys.length q.d), .v (vI q.e)], false⟩, ⟨29, [.v (vI g.rad), .v (vI g.digs), .v (vI g.lo), .v (vI g.hi), .v (.bool g.grad)], false⟩, ⟨35, [.v (.bool ((bare d3).neg)), .v (vS (dig B16 (bare d3).m) p86_3_1 c86_3_1), .v (vI ((bare d3).e)), .v (.bool ((bare d2).neg)), .v (vS (dig B16 (bare d2).m) p86_2_2 c86_2_2), .v (vI ((bare d2).e)), .v (.bool ((bare d1).neg)), .v (vS (dig B16 (bare d1).m) p86_1_2 c86_1_2), .v (vI ((bare d1).e))], false⟩, ⟨25, [.v (.bool d3.neg), .v (vS (dig B32 d3.m) p3_2 c3_2), .v (vI d3.e)], false⟩, ⟨25, [.v (.bool d2.neg), .v (vS (dig B32 d2.m) p2_2 c2_2), .v (vI d2.e)], false⟩, ⟨25, [.v (.bool d1.neg), .v (vS (dig B32 d1.m) p1_2 c1_2), .v (vI d1.e)], false⟩, ⟨25, [.v (.bool d3.neg), .v (vS (dig B32 d3.m) p3_2 c3_2), .v (vI d3.e), .v (.bool d2.neg), .v (vS (dig B32 d2.m) p2_2 c2_2), .v (vI d2.e), .v (.bool d1.neg), .v (vS (dig B32 d1.m) p1_2 c1_2), .v (vI d1.e)], false⟩, ⟨25, [.v (.bool d3.neg), .v (vS (dig B32 d3.m) p3_2 c3_2), .v (vI d3.e)], false⟩, ⟨34, [.v (.bool ((bare d3).neg)), .v (vS (dig B16 (bare d3).m) p86_3_2 c86_3_2), .v (vI ((bare d3).e))], false⟩, ⟨25, [.v (.bool d3.neg), .v (vS (dig B32 d3.m) p3_1 c3_1), .v (vI d3.e)], false⟩, ⟨25, [.v (.bool d2.neg), .v (vS (dig B32 d2.m) p2_1 c2_1), .v (vI d2.e)], false⟩, ⟨25, [.v (.bool d1.neg), .v (vS (dig B32 d1.m) p1_1 c1_1), .v (vI d1.e)], false⟩, ⟨25, [.v (.bool d3.neg), .v (vS (dig B32 d3.m) p3_1 c3_1), .v (vI d3.e), .v (.bool d2.neg), .v (vS (dig B32 d2.m) p2_1 c2_1), .v (vI d2.e), .v (.bool d1.neg), .v (vS (dig B32 d1.m) p1_1 c1_1), .v (vI d1.e)], false⟩, ⟨25, [.v (.bool d3.neg), .v (vS (dig B32 d3.m) p3_1 c3_1), .v (vI d3.e)], false⟩, ⟨34, [.v (.bool ((bare d3).neg)), .v (vS (dig B16 (bare d3).m) p86_3_1 c86_3_1), .v (vI ((bare d3).e))], false⟩]) fun Al W U7 I => hJ1 _ _ _ _ _ _ I fun I => ?_
 refine zg I (fun Al W I => f0x d2 p2_1 c2_1 _ W I.fa.2.2.1 B2) fun Al V Iv _ hB _ kz => ?_
 rintro _ W ⟨p86_2_1, c86_2_1, rfl, x86_2_1, hb⟩
 have ne_x86_2_1_o1_1 := fun (h1 : 0 < ((dig B16 (bare d2).m)).length) (h2 : p1_1.isSome = true) => (show blk p86_2_1 ≠ blk p1_1 by have h3 := (Iv.fa.2.1.blk_lt h2).2; have h4 := x86_2_1.at_ h1; omega)
 have ne_x86_2_1_o2_1 := fun (h1 : 0 < ((dig B16 (bare d2).m)).length) (h2 : p2_1.isSome = true) => (show blk p86_2_1 ≠ blk p2_1 by have h3 := (Iv.fa.2.2.1.blk_lt h2).2; have h4 := x86_2_1.at_ h1; omega)
 have ne_x86_2_1_o52 := fun (h1 : 0 < ((dig B16 (bare d2).m)).length) (h2 : p52.isSome = true) => (show blk p86_2_1 ≠ blk p52 by have h3 := (Iv.fa.2.2.2.2.2.2.1.blk_lt h2).2; have h4 := x86_2_1.at_ h1; omega)
 have ne_x86_2_1_o49 := fun (h1 : 0 < ((dig B16 (bare d2).m)).length) (h2 : p49.isSome = true) => (show blk p86_2_1 ≠ blk p49 by have h3 := (Iv.fa.2.2.2.2.2.2.2.1.blk_lt h2).2; have h4 := x86_2_1.at_ h1; omega)
 have ne_x86_2_1_o46 := fun (h1 : 0 < ((dig B16 (bare d2).m)).length) (h2 : p46.isSome = true) => (show blk p86_2_1 ≠ blk p46 by have h3 := (Iv.fa.2.2.2.2.2.2.2.2.1.blk_lt h2).2; have h4 := x86_2_1.at_ h1; omega)
 have ne_x86_2_1_o43 := fun (h1 : 0 < ((dig B16 (bare d2).m)).length) (h2 : p43.isSome = true) => (show blk p86_2_1 ≠ blk p43 by have h3 := (Iv.fa.2.2.2.2.2.2.2.2.2.1.blk_lt h2).2; have h4 := x86_2_1.at_ h1; omega)
 refine ⟨_, rfl, kz _ _ hb fun I => ?_⟩
 have I := I.rf x86_2_1 (hB _) Iv
 refine zd [] I fun Al W I => zk [0, 1, 2, 3, 4, 5, 6] I fun I => zo 7 I fun I => zq I (fun Al W I => n0i d2 p86_2_1 p86_2_2 c86_2_1 c86_2_2 _ _ W I.fa.1 I.fa.2.2.2.2.2.1 B2) fun Al W I => zk [8, 9] I fun I => ?_
 have I := I.pick [3, 0, 1, 2, 4, 5, 6, 7, 8, 9, 10, 11, 12, 13, 14]
 refine zspl I p2_1 (fun h => ⟨h, rfl⟩) (fun h => (I.fa.1.blk_lt h).1) (fun Al W I h9 => ⟨fun h => ne_x86_2_1_o2_1 h.1 h9 h.2, fun h => ne_x86_3_1_o2_1 h.1 h9 h.2, fun h => ne_o1_1_o2_1 h.1 h9 h.2, fun h => ne_o2_1_x86_1_2 h9 h.1 h.2.symm, fun h => ne_o2_1_x86_2_2 h9 h.1 h.2.symm, fun h => ne_o2_1_x86_3_2 h9 h.1 h.2.symm, fun h => ne_o2_1_o52 h9 h.1 h.2.symm, fun h => ne_o2_1_o49 h9 h.1 h.2.symm, fun h => ne_o2_1_o46 h9 h.1 h.2.symm, fun h => ne_o2_1_o43 h9 h.1 h.2.symm, fun h => fx _ h.1 (I.fa.1.blk_lt h9).1 h.2, fun h => fy _ h.1 (I.fa.1.blk_lt h9).1 h.2, fun h => fq _ h (I.fa.1.blk_lt h9).1, fun e => by have h1 := (I.fa.1.blk_lt h9).1; have h2 := hT.2; have e : 0 = _ := e; omega, True.intro⟩) (fun Al W I => c0g p2_1 _ c2_1 _ (dig B32 d2.m) W I.fa.1 rfl (by have := B2.len; omega)) fun Al W I => i0m 20 I (J1 2) (fr := fun U8 => (.v (.agg #[.bool x.g, .slice x.p x.xs.length x.c, vI x.e]) :: .v (.agg #[.bool y.g, .slice y.p y.xs.length y.c, vI y.e]) :: .v (vI bits) :: .v (.agg #[.bool q.g, .slice q.p q.xs.length q.c, .slice q.q q.ys.length q.d, vI q.e]) :: .v (.agg #[vI g.rad, vI g.digs, vI g.lo, vI g.hi, .bool g.grad]) :: .v (vI way) :: .p 0 0 :: .p 1 0 :: .v undef :: .p 2 0 :: .p 3 0 :: .v undef :: .v (U8 12) :: .v (vS x.xs p43 c43) :: .v (vS y.xs p46 c46) :: .v (vS q.xs p49 c49) :: .v (vS q.ys p52 c52) :: .p 4 0 :: .v (vI 1) :: .p 11 0 :: .v (U8 20) :: .p 12 0 :: .v (U8 22) :: .p 13 0 :: .v (U8 24) :: .v (vI 2) :: sw U8 26 2 (sw U6 28 3 (sw U8 31 9 (.v (.bool false) :: sw U8 41 13 (.v (.bool true) :: sw U8 55 60 (.v (U6 115) :: sw U8 116 16 (.v (U6 132) :: sw U8 133 28 (.v (U6 161) :: []))))))) : List SV)) (bx := fun U8 => [⟨25, [.v (.bool x.g), .v (.slice x.p x.xs.length x.c), .v (vI x.e)], false⟩, ⟨25, [.v (.bool y.g), .v (.slice y.p y.xs.length y.c), .v (vI y.e)], false⟩, ⟨27, [.v (.bool q.g), .v (.slice q.p q.xs.length q.c), .v (.slice q.q q.ys.length q.d), .v (vI q.e)], false⟩, ⟨29, [.v (vI g.rad), .v (vI g.digs), .v (vI g.lo), .v (vI g.hi), .v (.bool g.grad)], false⟩, ⟨35, [.v (.bool ((bare d3).neg)), .v (vS (dig B16 (bare d3).m) p86_3_1 c86_3_1), .v (vI ((bare d3).e)), .v (.bool ((bare d2).neg)), .v (vS (dig B16 (bare d2).m) p86_2_1 c86_2_1), .v (vI ((bare d2).e)), .v (.bool ((bare d1).neg)), .v (vS (dig B16 (bare d1).m) p86_1_2 c86_1_2), .v (vI ((bare d1).e))], false⟩, ⟨25, [.v (.bool d3.neg), .v (vS (dig B32 d3.m) p3_2 c3_2), .v (vI d3.e)], false⟩, ⟨25, [.v (.bool d2.neg), .v (vS (dig B32 d2.m) p2_2 c2_2), .v (vI d2.e)], false⟩, ⟨25, [.v (.bool d1.neg), .v (vS (dig B32 d1.m) p1_2 c1_2), .v (vI d1.e)], false⟩, ⟨25, [.v (.bool d3.neg), .v (vS (dig B32 d3.m) p3_2 c3_2), .v (vI d3.e), .v (.bool d2.neg), .v (vS (dig B32 d2.m) p2_2 c2_2), .v (vI d2.e), .v (.bool d1.neg), .v (vS (dig B32 d1.m) p1_2 c1_2), .v (vI d1.e)], false⟩, ⟨25, [.v (.bool d3.neg), .v (vS (dig B32 d3.m) p3_2 c3_2), .v (vI d3.e)], false⟩, ⟨34, [.v (.bool ((bare d3).neg)), .v (vS (dig B16 (bare d3).m) p86_3_2 c86_3_2), .v (vI ((bare d3).e))], false⟩, ⟨25, [.v (.bool d3.neg), .v (vS (dig B32 d3.m) p3_1 c3_1), .v (vI d3.e)], false⟩, ⟨25, [.v (.bool d2.neg), .v (vS (dig B32 d2.m) p2_1 c2_1), .v (vI d2.e)], false⟩, ⟨25, [.v (.bool d1.neg), .v (vS (dig B32 d1.m) p1_1 c1_1), .v (vI d1.e)], false⟩, ⟨25, [.v (.bool d3.neg), .v (vS (dig B32 d3.m) p3_1 c3_1), .v (vI d3.e), .v (.bool d2.neg), .v (vS (dig B32 d2.m) p2_1 c2_1), .v (vI d2.e), .v (.bool d1.neg), .v (vS (dig B32 d1.m) p1_1 c1_1), .v (vI d1.e)], false⟩, ⟨25, [.v (.bool d3.neg), .v (vS (dig B32 d3.m) p3_1 c3_1), .v (vI d3.e)], false⟩, ⟨34, [.v (.bool ((bare d3).neg)), .v (vS (dig B16 (bare d3).m) p86_3_1 c86_3_1), .v (vI ((bare d3).e))], false⟩, ⟨25, [.v (.bool d3.neg), .v (vS (dig B32 d3.m) p3_1 c3_1), .v (vI d3.e), .v (.bool d2.neg), .v (vS (dig B32 d2.m) p2_1 c2_1), .v (vI d2.e), .v (.bool d1.neg), .v (vS (dig B32 d1.m) p1_1 c1_1), .v (vI d1.e)], false⟩, ⟨25, [.v (.bool d2.neg), .v (vS (dig B32 d2.m) p2_1 c2_1), .v (vI d2.e)], false⟩, ⟨34, [.v (.bool ((bare d2).neg)), .v (vS (dig B16 (bare d2).m) p86_2_1 c86_2_1), .v (vI ((bare d2).e))], false⟩]) fun Al W U8 I => hJ1 _ _ _ _ _ _ I fun I => ?_
 refine zg I (fun Al W I => f0x d1 p1_1 c1_1 _ W I.fa.2.2.1 B1) fun Al V Iv _ hB _ kz => ?_
 rintro _ W ⟨p86_1_1, c86_1_1, rfl, x86_1_1, hb⟩
 have ne_x86_1_1_o1_1 := fun (h1 : 0 < ((dig B16 (bare d1).m)).length) (h2 : p1_1.isSome = true) => (show blk p86_1_1 ≠ blk p1_1 by have h3 := (Iv.fa.2.2.1.blk_lt h2).2; have h4 := x86_1_1.at_ h1; omega)
 have ne_x86_1_1_o52 := fun (h1 : 0 < ((dig B16 (bare d1).m)).length) (h2 : p52.isSome = true) => (show blk p86_1_1 ≠ blk p52 by have h3 := (Iv.fa.2.2.2.2.2.2.1.blk_lt h2).2; have h4 := x86_1_1.at_ h1; omega)
 have ne_x86_1_1_o49 := fun (h1 : 0 < ((dig B16 (bare d1).m)).length) (h2 : p49.isSome = true) => (show blk p86_1_1 ≠ blk p49 by have h3 := (Iv.fa.2.2.2.2.2.2.2.1.blk_lt h2).2; have h4 := x86_1_1.at_ h1; omega)
 have ne_x86_1_1_o46 := fun (h1 : 0 < ((dig B16 (bare d1).m)).length) (h2 : p46.isSome = true) => (show blk p86_1_1 ≠ blk p46 by have h3 := (Iv.fa.2.2.2.2.2.2.2.2.1.blk_lt h2).2; have h4 := x86_1_1.at_ h1; omega)
 have ne_x86_1_1_o43 := fun (h1 : 0 < ((dig B16 (bare d1).m)).length) (h2 : p43.isSome = true) => (show blk p86_1_1 ≠ blk p43 by have h3 := (Iv.fa.2.2.2.2.2.2.2.2.2.1.blk_lt h2).2; have h4 := x86_1_1.at_ h1; omega)
 refine ⟨_, rfl, kz _ _ hb fun I => ?_⟩
 have I := I.rf x86_1_1 (hB _) Iv
 refine zd [] I fun Al W I => zk [0, 1, 2, 3, 4, 5, 6] I fun I => zo 7 I fun I => zq I (fun Al W I => n0i d1 p86_1_1 p86_1_2 c86_1_1 c86_1_2 _ _ W I.fa.1 I.fa.2.2.2.2.1 B1) fun Al W I => zk [8, 9] I fun I => ?_
 have I := I.pick [3, 0, 1, 2, 4, 5, 6, 7, 8, 9, 10, 11, 12, 13, 14]
 refine zspl I p1_1 (fun h => ⟨h, rfl⟩) (fun h => (I.fa.1.blk_lt h).1) (fun Al W I h9 => ⟨fun h => ne_x86_1_1_o1_1 h.1 h9 h.2, fun h => ne_x86_2_1_o1_1 h.1 h9 h.2, fun h => ne_x86_3_1_o1_1 h.1 h9 h.2, fun h => ne_o1_1_x86_1_2 h9 h.1 h.2.symm, fun h => ne_o1_1_x86_2_2 h9 h.1 h.2.symm, fun h => ne_o1_1_x86_3_2 h9 h.1 h.2.symm, fun h => ne_o1_1_o52 h9 h.1 h.2.symm, fun h => ne_o1_1_o49 h9 h.1 h.2.symm, fun h => ne_o1_1_o46 h9 h.1 h.2.symm, fun h => ne_o1_1_o43 h9 h.1 h.2.symm, fun h => fx _ h.1 (I.fa.1.blk_lt h9).1 h.2, fun h => fy _ h.1 (I.fa.1.blk_lt h9).1 h.2, fun h => fq _ h (I.fa.1.blk_lt h9).1, fun e => by have h1 := (I.fa.1.blk_lt h9).1; have h2 := hT.2; have e : 0 = _ := e; omega, True.intro⟩) (fun Al W I => c0g p1_1 _ c1_1 _ (dig B32 d1.m) W I.fa.1 rfl (by have := B1.len; omega)) fun Al W I => i0m 23 I (J1 1) (fr := fun U9 => (.v (.agg #[.bool x.g, .slice x.p x.xs.length x.c, vI x.e]) :: .v (.agg #[.bool y.g, .slice y.p y.xs.length y.c, vI y.e]) :: .v (vI bits) :: .v (.agg #[.bool q.g, .slice q.p q.xs.length q.c, .slice q.q q.ys.length q.d, vI q.e]) :: .v (.agg #[vI g.rad, vI g.digs, vI g.lo, vI g.hi, .bool g.grad]) :: .v (vI way) :: .p 0 0 :: .p 1 0 :: .v undef :: .p 2 0 :: .p 3 0 :: .v undef :: .v (U9 12) :: .v (vS x.xs p43 c43) :: .v (vS y.xs p46 c46) :: .v (vS q.xs p49 c49) :: .v (vS q.ys p52 c52) :: .p 4 0 :: .v (vI 1) :: .p 11 0 :: .v (U9 20) :: .p 12 0 :: .v (U9 22) :: .p 13 0 :: .v (U9 24) :: .v (vI 3) :: sw U9 26 2 (sw U6 28 3 (sw U9 31 9 (.v (.bool false) :: sw U9 41 13 (.v (.bool true) :: sw U9 55 60 (.v (U6 115) :: sw U9 116 16 (.v (U6 132) :: sw U9 133 28 (.v (U6 161) :: []))))))) : List SV)) (bx := fun U9 => [⟨25, [.v (.bool x.g), .v (.slice x.p x.xs.length x.c), .v (vI x.e)], false⟩, ⟨25, [.v (.bool y.g), .v (.slice y.p y.xs.length y.c), .v (vI y.e)], false⟩, ⟨27, [.v (.bool q.g), .v (.slice q.p q.xs.length q.c), .v (.slice q.q q.ys.length q.d), .v (vI q.e)], false⟩, ⟨29, [.v (vI g.rad), .v (vI g.digs), .v (vI g.lo), .v (vI g.hi), .v (.bool g.grad)], false⟩, ⟨35, [.v (.bool ((bare d3).neg)), .v (vS (dig B16 (bare d3).m) p86_3_1 c86_3_1), .v (vI ((bare d3).e)), .v (.bool ((bare d2).neg)), .v (vS (dig B16 (bare d2).m) p86_2_1 c86_2_1), .v (vI ((bare d2).e)), .v (.bool ((bare d1).neg)), .v (vS (dig B16 (bare d1).m) p86_1_1 c86_1_1), .v (vI ((bare d1).e))], false⟩, ⟨25, [.v (.bool d3.neg), .v (vS (dig B32 d3.m) p3_2 c3_2), .v (vI d3.e)], false⟩, ⟨25, [.v (.bool d2.neg), .v (vS (dig B32 d2.m) p2_2 c2_2), .v (vI d2.e)], false⟩, ⟨25, [.v (.bool d1.neg), .v (vS (dig B32 d1.m) p1_2 c1_2), .v (vI d1.e)], false⟩, ⟨25, [.v (.bool d3.neg), .v (vS (dig B32 d3.m) p3_2 c3_2), .v (vI d3.e), .v (.bool d2.neg), .v (vS (dig B32 d2.m) p2_2 c2_2), .v (vI d2.e), .v (.bool d1.neg), .v (vS (dig B32 d1.m) p1_2 c1_2), .v (vI d1.e)], false⟩, ⟨25, [.v (.bool d3.neg), .v (vS (dig B32 d3.m) p3_2 c3_2), .v (vI d3.e)], false⟩, ⟨34, [.v (.bool ((bare d3).neg)), .v (vS (dig B16 (bare d3).m) p86_3_2 c86_3_2), .v (vI ((bare d3).e))], false⟩, ⟨25, [.v (.bool d3.neg), .v (vS (dig B32 d3.m) p3_1 c3_1), .v (vI d3.e)], false⟩, ⟨25, [.v (.bool d2.neg), .v (vS (dig B32 d2.m) p2_1 c2_1), .v (vI d2.e)], false⟩, ⟨25, [.v (.bool d1.neg), .v (vS (dig B32 d1.m) p1_1 c1_1), .v (vI d1.e)], false⟩, ⟨25, [.v (.bool d3.neg), .v (vS (dig B32 d3.m) p3_1 c3_1), .v (vI d3.e), .v (.bool d2.neg), .v (vS (dig B32 d2.m) p2_1 c2_1), .v (vI d2.e), .v (.bool d1.neg), .v (vS (dig B32 d1.m) p1_1 c1_1), .v (vI d1.e)], false⟩, ⟨25, [.v (.bool d3.neg), .v (vS (dig B32 d3.m) p3_1 c3_1), .v (vI d3.e)], false⟩, ⟨34, [.v (.bool ((bare d3).neg)), .v (vS (dig B16 (bare d3).m) p86_3_1 c86_3_1), .v (vI ((bare d3).e))], false⟩, ⟨25, [.v (.bool d3.neg), .v (vS (dig B32 d3.m) p3_1 c3_1), .v (vI d3.e), .v (.bool d2.neg), .v (vS (dig B32 d2.m) p2_1 c2_1), .v (vI d2.e), .v (.bool d1.neg), .v (vS (dig B32 d1.m) p1_1 c1_1), .v (vI d1.e)], false⟩, ⟨25, [.v (.bool d2.neg), .v (vS (dig B32 d2.m) p2_1 c2_1), .v (vI d2.e)], false⟩, ⟨34, [.v (.bool ((bare d2).neg)), .v (vS (dig B16 (bare d2).m) p86_2_1 c86_2_1), .v (vI ((bare d2).e))], false⟩, ⟨25, [.v (.bool d3.neg), .v (vS (dig B32 d3.m) p3_1 c3_1), .v (vI d3.e), .v (.bool d2.neg), .v (vS (dig B32 d2.m) p2_1 c2_1), .v (vI d2.e), .v (.bool d1.neg), .v (vS (dig B32 d1.m) p1_1 c1_1), .v (vI d1.e)], false⟩, ⟨25, [.v (.bool d1.neg), .v (vS (dig B32 d1.m) p1_1 c1_1), .v (vI d1.e)], false⟩, ⟨34, [.v (.bool ((bare d1).neg)), .v (vS (dig B16 (bare d1).m) p86_1_1 c86_1_1), .v (vI ((bare d1).e))], false⟩]) fun Al W U9 I => hJ1 _ _ _ _ _ _ I fun I => ?_
 refine zg I (fun Al W I => HJ W I.fa.2.2.2.2.2.2.2.2.2.2.1 I.fa.2.2.2.2.2.2.2.2.2.2.2.1 I.fa.2.2.2.2.2.2.2.2.2.2.2.2.2.1) fun Al V Iv _ hB _ kz => ?_
 rintro _ W ⟨pl_1, cl_1, qh_1, dh_1, rfl, ol_1, oh_1, hb⟩
 have ne_ol_1_x86_1_1 := fun (h1 : pl_1.isSome = true) (h2 : _) => (show blk pl_1 ≠ blk p86_1_1 by have h3 := Iv.fa.1.rd.lt h2; have h4 := (ol_1.blk_lt h1).1; omega)
 have ne_ol_1_x86_2_1 := fun (h1 : pl_1.isSome = true) (h2 : _) => (show blk pl_1 ≠ blk p86_2_1 by have h3 := Iv.fa.2.1.rd.lt h2; have h4 := (ol_1.blk_lt h1).1; omega)
 have ne_ol_1_x86_3_1 := fun (h1 : pl_1.isSome = true) (h2 : _) => (show blk pl_1 ≠ blk p86_3_1 by have h3 := Iv.fa.2.2.1.rd.lt h2; have h4 := (ol_1.blk_lt h1).1; omega)
 have ne_ol_1_x86_1_2 := fun (h1 : pl_1.isSome = true) (h2 : _) => (show blk pl_1 ≠ blk p86_1_2 by have h3 := Iv.fa.2.2.2.1.rd.lt h2; have h4 := (ol_1.blk_lt h1).1; omega)
 have ne_ol_1_x86_2_2 := fun (h1 : pl_1.isSome = true) (h2 : _) => (show blk pl_1 ≠ blk p86_2_2 by have h3 := Iv.fa.2.2.2.2.1.rd.lt h2; have h4 := (ol_1.blk_lt h1).1; omega)
 have ne_ol_1_x86_3_2 := fun (h1 : pl_1.isSome = true) (h2 : _) => (show blk pl_1 ≠ blk p86_3_2 by have h3 := Iv.fa.2.2.2.2.2.1.rd.lt h2; have h4 := (ol_1.blk_lt h1).1; omega)
 have ne_ol_1_o52 := fun (h1 : pl_1.isSome = true) (h2 : p52.isSome = true) => (show blk pl_1 ≠ blk p52 by have h3 := (Iv.fa.2.2.2.2.2.2.1.blk_lt h2).2; have h4 := (ol_1.blk_lt h1).1; omega)
 have ne_ol_1_o49 := fun (h1 : pl_1.isSome = true) (h2 : p49.isSome = true) => (show blk pl_1 ≠ blk p49 by have h3 := (Iv.fa.2.2.2.2.2.2.2.1.blk_lt h2).2; have h4 := (ol_1.blk_lt h1).1; omega)
 have ne_ol_1_o46 := fun (h1 : pl_1.isSome = true) (h2 : p46.isSome = true) => (show blk pl_1 ≠ blk p46 by have h3 := (Iv.fa.2.2.2.2.2.2.2.2.1.blk_lt h2).2; have h4 := (ol_1.blk_lt h1).1; omega)
 have ne_ol_1_o43 := fun (h1 : pl_1.isSome = true) (h2 : p43.isSome = true) => (show blk pl_1 ≠ blk p43 by have h3 := (Iv.fa.2.2.2.2.2.2.2.2.2.1.blk_lt h2).2; have h4 := (ol_1.blk_lt h1).1; omega)
 have ne_oh_1_x86_1_1 := fun (h1 : qh_1.isSome = true) (h2 : _) => (show blk qh_1 ≠ blk p86_1_1 by have h3 := Iv.fa.1.rd.lt h2; have h4 := (oh_1.blk_lt h1).1; omega)
 have ne_oh_1_x86_2_1 := fun (h1 : qh_1.isSome = true) (h2 : _) => (show blk qh_1 ≠ blk p86_2_1 by have h3 := Iv.fa.2.1.rd.lt h2; have h4 := (oh_1.blk_lt h1).1; omega)
 have ne_oh_1_x86_3_1 := fun (h1 : qh_1.isSome = true) (h2 : _) => (show blk qh_1 ≠ blk p86_3_1 by have h3 := Iv.fa.2.2.1.rd.lt h2; have h4 := (oh_1.blk_lt h1).1; omega)
 have ne_oh_1_x86_1_2 := fun (h1 : qh_1.isSome = true) (h2 : _) => (show blk qh_1 ≠ blk p86_1_2 by have h3 := Iv.fa.2.2.2.1.rd.lt h2; have h4 := (oh_1.blk_lt h1).1; omega)
 have ne_oh_1_x86_2_2 := fun (h1 : qh_1.isSome = true) (h2 : _) => (show blk qh_1 ≠ blk p86_2_2 by have h3 := Iv.fa.2.2.2.2.1.rd.lt h2; have h4 := (oh_1.blk_lt h1).1; omega)
 have ne_oh_1_x86_3_2 := fun (h1 : qh_1.isSome = true) (h2 : _) => (show blk qh_1 ≠ blk p86_3_2 by have h3 := Iv.fa.2.2.2.2.2.1.rd.lt h2; have h4 := (oh_1.blk_lt h1).1; omega)
 have ne_oh_1_o52 := fun (h1 : qh_1.isSome = true) (h2 : p52.isSome = true) => (show blk qh_1 ≠ blk p52 by have h3 := (Iv.fa.2.2.2.2.2.2.1.blk_lt h2).2; have h4 := (oh_1.blk_lt h1).1; omega)
 have ne_oh_1_o49 := fun (h1 : qh_1.isSome = true) (h2 : p49.isSome = true) => (show blk qh_1 ≠ blk p49 by have h3 := (Iv.fa.2.2.2.2.2.2.2.1.blk_lt h2).2; have h4 := (oh_1.blk_lt h1).1; omega)
 have ne_oh_1_o46 := fun (h1 : qh_1.isSome = true) (h2 : p46.isSome = true) => (show blk qh_1 ≠ blk p46 by have h3 := (Iv.fa.2.2.2.2.2.2.2.2.1.blk_lt h2).2; have h4 := (oh_1.blk_lt h1).1; omega)
 have ne_oh_1_o43 := fun (h1 : qh_1.isSome = true) (h2 : p43.isSome = true) => (show blk qh_1 ≠ blk p43 by have h3 := (Iv.fa.2.2.2.2.2.2.2.2.2.1.blk_lt h2).2; have h4 := (oh_1.blk_lt h1).1; omega)
 refine ⟨_, rfl, kz _ _ hb fun I => ?_⟩
 have I := I.own ol_1
 have I := I.own oh_1
 refine zb I 115 (ej == 0) (bj) (hbj) fun Al W I => zcut I (some 2000115) (fun fr bx gs => ∃ (U10 : Nat → Value) , fr = (aG :: aH :: .v (vI bits) :: aE :: aF :: .v (vI way) :: .p 0 0 :: .p 1 0 :: vu :: .p 2 0 :: .p 3 0 :: vu :: .v (U9 12) :: .v (vS x.xs p43 c43) :: .v (vS y.xs p46 c46) :: .v (vS q.xs p49 c49) :: .v (vS q.ys p52 c52) :: .p 4 0 :: .v (vI 1) :: .p 11 0 :: .v (U10 20) :: .p 12 0 :: .v (U10 22) :: .p 13 0 :: .v (U10 24) :: .v (vI 3) :: sw U9 26 2 (.p 23 0 :: .v (vI ej) :: .v (U6 30) :: sw U10 31 9 (.v (.bool false) :: sw U10 41 13 (.v (.bool true) :: sw U10 55 20 (.v (.bool false) :: sw U10 76 20 (.v (U9 96) :: sw U10 97 18 (.v (.bool bj) :: sw U10 116 16 (.v (U6 132) :: sw U10 133 28 (.v (U6 161) :: [])))))))) : List SV) ∧ bx = [aC, aD, aB, aA, ⟨35, [.v (.bool ((bare d3).neg)), .v (vS (dig B16 (bare d3).m) p86_3_1 c86_3_1), .v (vI ((bare d3).e)), .v (.bool ((bare d2).neg)), .v (vS (dig B16 (bare d2).m) p86_2_1 c86_2_1), .v (vI ((bare d2).e)), .v (.bool ((bare d1).neg)), .v (vS (dig B16 (bare d1).m) p86_1_1 c86_1_1), .v (vI ((bare d1).e))], false⟩, ⟨25, [.v (.bool d3.neg), .v (vS (dig B32 d3.m) p3_2 c3_2), .v (vI d3.e)], false⟩, ⟨25, [.v (.bool d2.neg), .v (vS (dig B32 d2.m) p2_2 c2_2), .v (vI d2.e)], false⟩, ⟨25, [.v (.bool d1.neg), .v (vS (dig B32 d1.m) p1_2 c1_2), .v (vI d1.e)], false⟩, ⟨25, [.v (.bool d3.neg), .v (vS (dig B32 d3.m) p3_2 c3_2), .v (vI d3.e), .v (.bool d2.neg), .v (vS (dig B32 d2.m) p2_2 c2_2), .v (vI d2.e), .v (.bool d1.neg), .v (vS (dig B32 d1.m) p1_2 c1_2), .v (vI d1.e)], false⟩, ⟨25, [.v (.bool d3.neg), .v (vS (dig B32 d3.m) p3_2 c3_2), .v (vI d3.e)], false⟩, ⟨34, [.v (.bool ((bare d3).neg)), .v (vS (dig B16 (bare d3).m) p86_3_2 c86_3_2), .v (vI ((bare d3).e))], false⟩, ⟨25, [.v (.bool d3.neg), .v (vS (dig B32 d3.m) p3_1 c3_1), .v (vI d3.e)], false⟩, ⟨25, [.v (.bool d2.neg), .v (vS (dig B32 d2.m) p2_1 c2_1), .v (vI d2.e)], false⟩, ⟨25, [.v (.bool d1.neg), .v (vS (dig B32 d1.m) p1_1 c1_1), .v (vI d1.e)], false⟩, ⟨25, [.v (.bool d3.neg), .v (vS (dig B32 d3.m) p3_1 c3_1), .v (vI d3.e), .v (.bool d2.neg), .v (vS (dig B32 d2.m) p2_1 c2_1), .v (vI d2.e), .v (.bool d1.neg), .v (vS (dig B32 d1.m) p1_1 c1_1), .v (vI d1.e)], false⟩, ⟨25, [.v (.bool d3.neg), .v (vS (dig B32 d3.m) p3_1 c3_1), .v (vI d3.e)], false⟩, ⟨34, [.v (.bool ((bare d3).neg)), .v (vS (dig B16 (bare d3).m) p86_3_1 c86_3_1), .v (vI ((bare d3).e))], false⟩, ⟨25, [.v (.bool d3.neg), .v (vS (dig B32 d3.m) p3_1 c3_1), .v (vI d3.e), .v (.bool d2.neg), .v (vS (dig B32 d2.m) p2_1 c2_1), .v (vI d2.e), .v (.bool d1.neg), .v (vS (dig B32 d1.m) p1_1 c1_1), .v (vI d1.e)], false⟩, ⟨25, [.v (.bool d2.neg), .v (vS (dig B32 d2.m) p2_1 c2_1), .v (vI d2.e)], false⟩, ⟨34, [.v (.bool ((bare d2).neg)), .v (vS (dig B16 (bare d2).m) p86_2_1 c86_2_1), .v (vI ((bare d2).e))], false⟩, ⟨25, [.v (.bool d3.neg), .v (vS (dig B32 d3.m) p3_1 c3_1), .v (vI d3.e), .v (.bool d2.neg), .v (vS (dig B32 d2.m) p2_1 c2_1), .v (vI d2.e), .v (.bool d1.neg), .v (vS (dig B32 d1.m) p1_1 c1_1), .v (vI d1.e)], false⟩, ⟨25, [.v (.bool d1.neg), .v (vS (dig B32 d1.m) p1_1 c1_1), .v (vI d1.e)], false⟩, ⟨34, [.v (.bool ((bare d1).neg)), .v (vS (dig B16 (bare d1).m) p86_1_1 c86_1_1), .v (vI ((bare d1).e))], false⟩, ⟨46, [.v (.bool dl.neg), .v (vS (dig B32 dl.m) pl_1 cl_1), .v (vI dl.e), .v (.bool dh.neg), .v (vS (dig B32 dh.m) qh_1 dh_1), .v (vI dh.e)], false⟩] ∧ gs = [rfF w.heap.size p86_1_1 c86_1_1 (dig B16 (bare d1).m), rfF w.heap.size p86_2_1 c86_2_1 (dig B16 (bare d2).m), rfF w.heap.size p86_3_1 c86_3_1 (dig B16 (bare d3).m), rfF w.heap.size p86_1_2 c86_1_2 (dig B16 (bare d1).m), rfF w.heap.size p86_2_2 c86_2_2 (dig B16 (bare d2).m), rfF w.heap.size p86_3_2 c86_3_2 (dig B16 (bare d3).m), ownF w.heap.size .u32 55 p52 c52 q.ys, ownF w.heap.size .u32 55 p49 c49 q.xs, ownF w.heap.size .u32 55 p46 c46 y.xs, ownF w.heap.size .u32 55 p43 c43 x.xs, inDF x, inDF y, inRF q, tabF]) ?_ ?_
 · intro J hJ Al W I
   rcases bTF bj with rfl | rfl
   · have I := I.pick [1, 0, 2, 3, 4, 5, 6, 7, 8, 9, 10, 11, 12, 13, 14, 15]
     have I := I.pick [0, 1, 2, 3, 4, 5, 6, 7, 8, 9, 10, 11, 12, 13, 14, 15]
     refine d1a I pl_1 (c1z w.heap.size .u32 55 qh_1 dh_1 (dig B32 dh.m).length) (fun h => ⟨h, rfl⟩) (fun h => (I.fa.1.blk_lt h).1) (fun _ h => h) (fun Al W I h9 => ⟨fun h => ne_ol_1_x86_1_1 h9 h.1 h.2.symm, fun h => ne_ol_1_x86_2_1 h9 h.1 h.2.symm, fun h => ne_ol_1_x86_3_1 h9 h.1 h.2.symm, fun h => ne_ol_1_x86_1_2 h9 h.1 h.2.symm, fun h => ne_ol_1_x86_2_2 h9 h.1 h.2.symm, fun h => ne_ol_1_x86_3_2 h9 h.1 h.2.symm, fun h => ne_ol_1_o52 h9 h.1 h.2.symm, fun h => ne_ol_1_o49 h9 h.1 h.2.symm, fun h => ne_ol_1_o46 h9 h.1 h.2.symm, fun h => ne_ol_1_o43 h9 h.1 h.2.symm, fun h => fx _ h.1 (I.fa.1.blk_lt h9).1 h.2, fun h => fy _ h.1 (I.fa.1.blk_lt h9).1 h.2, fun h => fq _ h (I.fa.1.blk_lt h9).1, fun e => by have h1 := (I.fa.1.blk_lt h9).1; have h2 := hT.2; have e : 0 = _ := e; omega, True.intro⟩) (fun Al W I => l0p pl_1 qh_1 _ cl_1 dh_1 _ (dig B32 dl.m) (dig B32 dh.m) W I.fa.1 rfl (by omega) I.fa.2.1 (by omega)) fun Al W I => zspl I qh_1 (fun h => ⟨h, rfl⟩) (fun h => by obtain ⟨xs, _, o⟩ := I.fa.1; exact (o.blk_lt h).1) (fun Al W I h9 => ⟨fun h => ne_oh_1_x86_1_1 h9 h.1 h.2.symm, fun h => ne_oh_1_x86_2_1 h9 h.1 h.2.symm, fun h => ne_oh_1_x86_3_1 h9 h.1 h.2.symm, fun h => ne_oh_1_x86_1_2 h9 h.1 h.2.symm, fun h => ne_oh_1_x86_2_2 h9 h.1 h.2.symm, fun h => ne_oh_1_x86_3_2 h9 h.1 h.2.symm, fun h => ne_oh_1_o52 h9 h.1 h.2.symm, fun h => ne_oh_1_o49 h9 h.1 h.2.symm, fun h => ne_oh_1_o46 h9 h.1 h.2.symm, fun h => ne_oh_1_o43 h9 h.1 h.2.symm, fun h => fx _ h.1 (by obtain ⟨xs, _, o⟩ := I.fa.1; exact (o.blk_lt h9).1) h.2, fun h => fy _ h.1 (by obtain ⟨xs, _, o⟩ := I.fa.1; exact (o.blk_lt h9).1) h.2, fun h => fq _ h (by obtain ⟨xs, _, o⟩ := I.fa.1; exact (o.blk_lt h9).1), fun e => by obtain ⟨xs, _, o⟩ := I.fa.1; have h1 := (o.blk_lt h9).1; have h2 := hT.2; have e : 0 = _ := e; omega, True.intro⟩) (fun Al W I => (by obtain ⟨xs, h1, h2⟩ := I.fa.1; exact c0g qh_1 _ dh_1 _ xs W h2 h1.symm (by omega))) fun Al W I => d0k I J fun Al W U I => hJ _ _ _ _ _ ⟨U, rfl, rfl, rfl⟩ (I.pick [0, 1, 2, 3, 4, 5, 6, 7, 8, 9, 10, 11, 12, 13])
   exact d0k I J fun Al W U I => hJ _ _ _ _ _ ⟨U, rfl, rfl, rfl⟩ (I.pick [2, 3, 4, 5, 6, 7, 8, 9, 10, 11, 12, 13, 14, 15])
 rintro _ _ _ ⟨U10, rfl, rfl, rfl⟩ Al W I
 refine zg I (fun Al W I => HR W I.fa.2.2.2.2.2.2.2.2.2.2.2.2.1 I.fa.2.2.2.2.2.2.2.2.2.2.2.2.2.1) fun Al V Iv _ hB _ kz => ?_
 rintro _ W ⟨p128_1, c128_1, rfl, o128_1, hb⟩
 have ne_o128_1_x86_1_1 := fun (h1 : p128_1.isSome = true) (h2 : _) => (show blk p128_1 ≠ blk p86_1_1 by have h3 := Iv.fa.1.rd.lt h2; have h4 := (o128_1.blk_lt h1).1; omega)
 have ne_o128_1_x86_2_1 := fun (h1 : p128_1.isSome = true) (h2 : _) => (show blk p128_1 ≠ blk p86_2_1 by have h3 := Iv.fa.2.1.rd.lt h2; have h4 := (o128_1.blk_lt h1).1; omega)
 have ne_o128_1_x86_3_1 := fun (h1 : p128_1.isSome = true) (h2 : _) => (show blk p128_1 ≠ blk p86_3_1 by have h3 := Iv.fa.2.2.1.rd.lt h2; have h4 := (o128_1.blk_lt h1).1; omega)
 have ne_o128_1_x86_1_2 := fun (h1 : p128_1.isSome = true) (h2 : _) => (show blk p128_1 ≠ blk p86_1_2 by have h3 := Iv.fa.2.2.2.1.rd.lt h2; have h4 := (o128_1.blk_lt h1).1; omega)
 have ne_o128_1_x86_2_2 := fun (h1 : p128_1.isSome = true) (h2 : _) => (show blk p128_1 ≠ blk p86_2_2 by have h3 := Iv.fa.2.2.2.2.1.rd.lt h2; have h4 := (o128_1.blk_lt h1).1; omega)
 have ne_o128_1_x86_3_2 := fun (h1 : p128_1.isSome = true) (h2 : _) => (show blk p128_1 ≠ blk p86_3_2 by have h3 := Iv.fa.2.2.2.2.2.1.rd.lt h2; have h4 := (o128_1.blk_lt h1).1; omega)
 have ne_o128_1_o52 := fun (h1 : p128_1.isSome = true) (h2 : p52.isSome = true) => (show blk p128_1 ≠ blk p52 by have h3 := (Iv.fa.2.2.2.2.2.2.1.blk_lt h2).2; have h4 := (o128_1.blk_lt h1).1; omega)
 have ne_o128_1_o49 := fun (h1 : p128_1.isSome = true) (h2 : p49.isSome = true) => (show blk p128_1 ≠ blk p49 by have h3 := (Iv.fa.2.2.2.2.2.2.2.1.blk_lt h2).2; have h4 := (o128_1.blk_lt h1).1; omega)
 have ne_o128_1_o46 := fun (h1 : p128_1.isSome = true) (h2 : p46.isSome = true) => (show blk p128_1 ≠ blk p46 by have h3 := (Iv.fa.2.2.2.2.2.2.2.2.1.blk_lt h2).2; have h4 := (o128_1.blk_lt h1).1; omega)
 have ne_o128_1_o43 := fun (h1 : p128_1.isSome = true) (h2 : p43.isSome = true) => (show blk p128_1 ≠ blk p43 by have h3 := (Iv.fa.2.2.2.2.2.2.2.2.2.1.blk_lt h2).2; have h4 := (o128_1.blk_lt h1).1; omega)
 refine ⟨_, rfl, kz _ _ hb fun I => ?_⟩
 have I := I.own o128_1
 refine zb I 132 (er == 0) (br) (hbr) fun Al W I => zcut I (some 2000132) (fun fr bx gs => ∃ (U11 : Nat → Value) , fr = (aG :: aH :: .v (vI bits) :: aE :: aF :: .v (vI way) :: .p 0 0 :: .p 1 0 :: vu :: .p 2 0 :: .p 3 0 :: vu :: .v (U9 12) :: .v (vS x.xs p43 c43) :: .v (vS y.xs p46 c46) :: .v (vS q.xs p49 c49) :: .v (vS q.ys p52 c52) :: .p 4 0 :: .v (vI 1) :: .p 11 0 :: .v (U11 20) :: .p 12 0 :: .v (U11 22) :: .p 13 0 :: .v (U11 24) :: .v (vI 3) :: sw U9 26 2 (.p 23 0 :: .v (vI er) :: .p 24 0 :: sw U11 31 9 (.v (.bool false) :: sw U11 41 13 (.v (.bool true) :: sw U11 55 20 (.v (.bool false) :: sw U11 76 20 (.v (U9 96) :: sw U11 97 18 (.v (.bool bj) :: sw U11 116 16 (.v (.bool br) :: sw U11 133 28 (.v (U6 161) :: [])))))))) : List SV) ∧ bx = [aC, aD, aB, aA, ⟨35, [.v (.bool ((bare d3).neg)), .v (vS (dig B16 (bare d3).m) p86_3_1 c86_3_1), .v (vI ((bare d3).e)), .v (.bool ((bare d2).neg)), .v (vS (dig B16 (bare d2).m) p86_2_1 c86_2_1), .v (vI ((bare d2).e)), .v (.bool ((bare d1).neg)), .v (vS (dig B16 (bare d1).m) p86_1_1 c86_1_1), .v (vI ((bare d1).e))], false⟩, ⟨25, [.v (.bool d3.neg), .v (vS (dig B32 d3.m) p3_2 c3_2), .v (vI d3.e)], false⟩, ⟨25, [.v (.bool d2.neg), .v (vS (dig B32 d2.m) p2_2 c2_2), .v (vI d2.e)], false⟩, ⟨25, [.v (.bool d1.neg), .v (vS (dig B32 d1.m) p1_2 c1_2), .v (vI d1.e)], false⟩, ⟨25, [.v (.bool d3.neg), .v (vS (dig B32 d3.m) p3_2 c3_2), .v (vI d3.e), .v (.bool d2.neg), .v (vS (dig B32 d2.m) p2_2 c2_2), .v (vI d2.e), .v (.bool d1.neg), .v (vS (dig B32 d1.m) p1_2 c1_2), .v (vI d1.e)], false⟩, ⟨25, [.v (.bool d3.neg), .v (vS (dig B32 d3.m) p3_2 c3_2), .v (vI d3.e)], false⟩, ⟨34, [.v (.bool ((bare d3).neg)), .v (vS (dig B16 (bare d3).m) p86_3_2 c86_3_2), .v (vI ((bare d3).e))], false⟩, ⟨25, [.v (.bool d3.neg), .v (vS (dig B32 d3.m) p3_1 c3_1), .v (vI d3.e)], false⟩, ⟨25, [.v (.bool d2.neg), .v (vS (dig B32 d2.m) p2_1 c2_1), .v (vI d2.e)], false⟩, ⟨25, [.v (.bool d1.neg), .v (vS (dig B32 d1.m) p1_1 c1_1), .v (vI d1.e)], false⟩, ⟨25, [.v (.bool d3.neg), .v (vS (dig B32 d3.m) p3_1 c3_1), .v (vI d3.e), .v (.bool d2.neg), .v (vS (dig B32 d2.m) p2_1 c2_1), .v (vI d2.e), .v (.bool d1.neg), .v (vS (dig B32 d1.m) p1_1 c1_1), .v (vI d1.e)], false⟩, ⟨25, [.v (.bool d3.neg), .v (vS (dig B32 d3.m) p3_1 c3_1), .v (vI d3.e)], false⟩, ⟨34, [.v (.bool ((bare d3).neg)), .v (vS (dig B16 (bare d3).m) p86_3_1 c86_3_1), .v (vI ((bare d3).e))], false⟩, ⟨25, [.v (.bool d3.neg), .v (vS (dig B32 d3.m) p3_1 c3_1), .v (vI d3.e), .v (.bool d2.neg), .v (vS (dig B32 d2.m) p2_1 c2_1), .v (vI d2.e), .v (.bool d1.neg), .v (vS (dig B32 d1.m) p1_1 c1_1), .v (vI d1.e)], false⟩, ⟨25, [.v (.bool d2.neg), .v (vS (dig B32 d2.m) p2_1 c2_1), .v (vI d2.e)], false⟩, ⟨34, [.v (.bool ((bare d2).neg)), .v (vS (dig B16 (bare d2).m) p86_2_1 c86_2_1), .v (vI ((bare d2).e))], false⟩, ⟨25, [.v (.bool d3.neg), .v (vS (dig B32 d3.m) p3_1 c3_1), .v (vI d3.e), .v (.bool d2.neg), .v (vS (dig B32 d2.m) p2_1 c2_1), .v (vI d2.e), .v (.bool d1.neg), .v (vS (dig B32 d1.m) p1_1 c1_1), .v (vI d1.e)], false⟩, ⟨25, [.v (.bool d1.neg), .v (vS (dig B32 d1.m) p1_1 c1_1), .v (vI d1.e)], false⟩, ⟨34, [.v (.bool ((bare d1).neg)), .v (vS (dig B16 (bare d1).m) p86_1_1 c86_1_1), .v (vI ((bare d1).e))], false⟩, ⟨46, [.v (.bool dl.neg), .v (vS (dig B32 dl.m) pl_1 cl_1), .v (vI dl.e), .v (.bool dh.neg), .v (vS (dig B32 dh.m) qh_1 dh_1), .v (vI dh.e)], false⟩, ⟨50, [.v (.bool pl.neg), .v (vS (dig B32 pl.d) p128_1 c128_1), .v (vI pl.pow), .v (.bool pl.exact), .v (.bool pl.over), .v (.bool pl.under)], false⟩] ∧ gs = [rfF w.heap.size p86_1_1 c86_1_1 (dig B16 (bare d1).m), rfF w.heap.size p86_2_1 c86_2_1 (dig B16 (bare d2).m), rfF w.heap.size p86_3_1 c86_3_1 (dig B16 (bare d3).m), rfF w.heap.size p86_1_2 c86_1_2 (dig B16 (bare d1).m), rfF w.heap.size p86_2_2 c86_2_2 (dig B16 (bare d2).m), rfF w.heap.size p86_3_2 c86_3_2 (dig B16 (bare d3).m), ownF w.heap.size .u32 55 p52 c52 q.ys, ownF w.heap.size .u32 55 p49 c49 q.xs, ownF w.heap.size .u32 55 p46 c46 y.xs, ownF w.heap.size .u32 55 p43 c43 x.xs, inDF x, inDF y, inRF q, tabF]) ?_ ?_
 · intro J hJ Al W I
   rcases bTF br with rfl | rfl
   · refine zspl I p128_1 (fun h => ⟨h, rfl⟩) (fun h => (I.fa.1.blk_lt h).1) (fun Al W I h9 => ⟨fun h => ne_o128_1_x86_1_1 h9 h.1 h.2.symm, fun h => ne_o128_1_x86_2_1 h9 h.1 h.2.symm, fun h => ne_o128_1_x86_3_1 h9 h.1 h.2.symm, fun h => ne_o128_1_x86_1_2 h9 h.1 h.2.symm, fun h => ne_o128_1_x86_2_2 h9 h.1 h.2.symm, fun h => ne_o128_1_x86_3_2 h9 h.1 h.2.symm, fun h => ne_o128_1_o52 h9 h.1 h.2.symm, fun h => ne_o128_1_o49 h9 h.1 h.2.symm, fun h => ne_o128_1_o46 h9 h.1 h.2.symm, fun h => ne_o128_1_o43 h9 h.1 h.2.symm, fun h => fx _ h.1 (I.fa.1.blk_lt h9).1 h.2, fun h => fy _ h.1 (I.fa.1.blk_lt h9).1 h.2, fun h => fq _ h (I.fa.1.blk_lt h9).1, fun e => by have h1 := (I.fa.1.blk_lt h9).1; have h2 := hT.2; have e : 0 = _ := e; omega, True.intro⟩) (fun Al W I => c0g p128_1 _ c128_1 _ (dig B32 pl.d) W I.fa.1 rfl (by omega)) fun Al W I => d0k I J fun Al W U I => hJ _ _ _ _ _ ⟨U, rfl, rfl, rfl⟩ (I.pick [0, 1, 2, 3, 4, 5, 6, 7, 8, 9, 10, 11, 12, 13])
   exact d0k I J fun Al W U I => hJ _ _ _ _ _ ⟨U, rfl, rfl, rfl⟩ (I.pick [1, 2, 3, 4, 5, 6, 7, 8, 9, 10, 11, 12, 13, 14])
 rintro _ _ _ ⟨U11, rfl, rfl, rfl⟩ Al W I
 refine zq I (fun Al W I => have hzW := I.bel.size; a0r x.p p43 _ x.c _ c43 x.xs x.xs W (I.fa.2.2.2.2.2.2.2.2.2.2.1).rd (I.fa.2.2.2.2.2.2.2.2.2.1).rd rfl rfl rfl (by omega)) fun Al W I => zq I (fun Al W I => have hzW := I.bel.size; a0r y.p p46 _ y.c _ c46 y.xs y.xs W (I.fa.2.2.2.2.2.2.2.2.2.2.2.1).rd (I.fa.2.2.2.2.2.2.2.2.1).rd rfl rfl rfl (by omega)) fun Al W I => zq I (fun Al W I => have hzW := I.bel.size; a0r q.p p49 _ q.c _ c49 q.xs q.xs W (I.fa.2.2.2.2.2.2.2.2.2.2.2.2.1).r1 (I.fa.2.2.2.2.2.2.2.1).rd rfl rfl rfl (by omega)) fun Al W I => zq I (fun Al W I => have hzW := I.bel.size; a0r q.q p52 _ q.d _ c52 q.ys q.ys W (I.fa.2.2.2.2.2.2.2.2.2.2.2.2.1).r2 (I.fa.2.2.2.2.2.2.1).rd rfl rfl rfl (by omega)) fun Al W I => i0m 17 I (J0 1) (fr := fun U12 => (.v (.agg #[.bool x.g, .slice x.p x.xs.length x.c, vI x.e]) :: .v (.agg #[.bool y.g, .slice y.p y.xs.length y.c, vI y.e]) :: .v (vI bits) :: .v (.agg #[.bool q.g, .slice q.p q.xs.length q.c, .slice q.q q.ys.length q.d, vI q.e]) :: .v (.agg #[vI g.rad, vI g.digs, vI g.lo, vI g.hi, .bool g.grad]) :: .v (vI way) :: .p 0 0 :: .p 1 0 :: .v undef :: .p 2 0 :: .p 3 0 :: .v undef :: .v (U12 12) :: .v (vS x.xs p43 c43) :: .v (vS y.xs p46 c46) :: .v (vS q.xs p49 c49) :: .v (vS q.ys p52 c52) :: .p 4 0 :: .v (vI 2) :: sw U12 19 21 (.v (.bool false) :: sw U12 41 121 []) : List SV)) (bx := fun U12 => [⟨25, [.v (.bool x.g), .v (.slice x.p x.xs.length x.c), .v (vI x.e)], false⟩, ⟨25, [.v (.bool y.g), .v (.slice y.p y.xs.length y.c), .v (vI y.e)], false⟩, ⟨27, [.v (.bool q.g), .v (.slice q.p q.xs.length q.c), .v (.slice q.q q.ys.length q.d), .v (vI q.e)], false⟩, ⟨29, [.v (vI g.rad), .v (vI g.digs), .v (vI g.lo), .v (vI g.hi), .v (.bool g.grad)], false⟩, ⟨35, [.v (.bool ((bare d3).neg)), .v (vS (dig B16 (bare d3).m) p86_3_1 c86_3_1), .v (vI ((bare d3).e)), .v (.bool ((bare d2).neg)), .v (vS (dig B16 (bare d2).m) p86_2_1 c86_2_1), .v (vI ((bare d2).e)), .v (.bool ((bare d1).neg)), .v (vS (dig B16 (bare d1).m) p86_1_1 c86_1_1), .v (vI ((bare d1).e))], false⟩, ⟨25, [.v (.bool d3.neg), .v (vS (dig B32 d3.m) p3_2 c3_2), .v (vI d3.e)], false⟩, ⟨25, [.v (.bool d2.neg), .v (vS (dig B32 d2.m) p2_2 c2_2), .v (vI d2.e)], false⟩, ⟨25, [.v (.bool d1.neg), .v (vS (dig B32 d1.m) p1_2 c1_2), .v (vI d1.e)], false⟩, ⟨25, [.v (.bool d3.neg), .v (vS (dig B32 d3.m) p3_2 c3_2), .v (vI d3.e), .v (.bool d2.neg), .v (vS (dig B32 d2.m) p2_2 c2_2), .v (vI d2.e), .v (.bool d1.neg), .v (vS (dig B32 d1.m) p1_2 c1_2), .v (vI d1.e)], false⟩, ⟨25, [.v (.bool d3.neg), .v (vS (dig B32 d3.m) p3_2 c3_2), .v (vI d3.e)], false⟩, ⟨34, [.v (.bool ((bare d3).neg)), .v (vS (dig B16 (bare d3).m) p86_3_2 c86_3_2), .v (vI ((bare d3).e))], false⟩, ⟨25, [.v (.bool d3.neg), .v (vS (dig B32 d3.m) p3_1 c3_1), .v (vI d3.e)], false⟩, ⟨25, [.v (.bool d2.neg), .v (vS (dig B32 d2.m) p2_1 c2_1), .v (vI d2.e)], false⟩, ⟨25, [.v (.bool d1.neg), .v (vS (dig B32 d1.m) p1_1 c1_1), .v (vI d1.e)], false⟩, ⟨25, [.v (.bool d3.neg), .v (vS (dig B32 d3.m) p3_1 c3_1), .v (vI d3.e), .v (.bool d2.neg), .v (vS (dig B32 d2.m) p2_1 c2_1), .v (vI d2.e), .v (.bool d1.neg), .v (vS (dig B32 d1.m) p1_1 c1_1), .v (vI d1.e)], false⟩, ⟨25, [.v (.bool d3.neg), .v (vS (dig B32 d3.m) p3_1 c3_1), .v (vI d3.e)], false⟩, ⟨34, [.v (.bool ((bare d3).neg)), .v (vS (dig B16 (bare d3).m) p86_3_1 c86_3_1), .v (vI ((bare d3).e))], false⟩]) fun Al W U12 I => hJ0 _ _ _ _ _ _ I fun I => ?_
 exact zrb I
theorem b1l (x y : Din) (bits : Int) (q : Rin) (g : Gd) (way : Int) (w : World) (hx : InD w x) (lx : x.xs.length * 4 ≤ 140737488351232) (hy : InD w y) (ly : y.xs.length * 4 ≤ 140737488351232)
 (hq : InR w q) (ln : q.xs.length * 4 ≤ 140737488351232) (ld : q.ys.length * 4 ≤ 140737488351232) (hT : TabW w) :
 Calls Tryd.prog 3 #[.agg #[.bool x.g, .slice x.p x.xs.length x.c, .int .i64 x.e], .agg #[.bool y.g, .slice y.p y.xs.length y.c, .int .i64 y.e], .int .i64 bits, .agg #[.bool q.g, .slice q.p q.xs.length q.c, .slice q.q q.ys.length q.d, .int .i64 q.e], .agg #[.int .i64 g.rad, .int .i64 g.digs, .int .i64 g.lo, .int .i64 g.hi, .bool g.grad], .int .i64 way] w fun e w' => e = .returned (.bool true) ∧ Below w.heap.size w w' :=
 z0c x y bits q g way _ _ _ _ _ _ _ _ _ _ _ w hx hy hq hT lx ly ln ld (s0z _ _ _) (l0o _ _) (l0o _ _)
  (by have := (l0t bits [(x, x), (y, y)] (k0b (dyV x) (dyV x) (dyV y) (dyV y) bits) (k0c (dyV x) (dyV x) (dyV y) (dyV y) bits)).1; omega)
  (by have := (l0t bits [(x, x), (y, y)] (k0b (dyV x) (dyV x) (dyV y) (dyV y) bits) (k0c (dyV x) (dyV x) (dyV y) (dyV y) bits)).2; omega)
  (q0p hq) (fun W h1 h2 h3 => o0d x y W h1 h2 h3) (fun W h1 h3 => w0a x bits true W h1 h3) (fun W h1 h3 => s0r x W h1 h3) (fun W h1 h2 h3 => w0l x x y y bits W h1 h1 h2 h2 h3) (fun W h1 _ => o0l q g way W h1)
end Go.Proofs.YthcoapcffhgckaaDoor
namespace Go.Proofs.YthcoapcffhgckaaDoor
open Go.ChangeShapes Go.WideShapes Go.ChangeAt Go.WideMaps Go.WideElems Go.RowKit Go.Slip Go.Joins Go.Deep
theorem q0s {H : Type} {enc : TypeId × Value → H} {P : Program} {W : World} {base : Nat} {r : Reach} {b0 : Nat} {sp : Nat → Bool} {held : Bool} {t : TypeId} {fs : Array Field} {v : Value} {d : DataW H} {p : List MemPlace}
 (hs : P.underlying t = some (.struct fs)) (hone : oneCellFields P fs = true) (hC : P.cellsOf t = fs.size) (hv : Value.okWide P W r b0 t v) (h : DataW.Trod enc P W base sp held t v d p) :
 ∃ (cs : Array Value) (n : Nat), v = .agg cs ∧ cs.size = fs.size ∧ ∀ (j : Nat) (f : Field) (c : Value), fs[j]? = some f → cs[j]? = some c → ∃ y, DataW.trod enc P W base sp held n f.type [c] = some y := by
 obtain ⟨cs, rfl, hsz⟩ := okWide_struct hs hv
 obtain ⟨fuel, hf⟩ := h
 obtain ⟨xs, n, _, _, _, hlen, hg⟩ := DataW.trod_struct hs hf
 refine ⟨cs, n, rfl, hsz.trans hC, fun j f c hj hc => ?_⟩
 obtain ⟨ho, hk⟩ := hone_of hone j f hj
 have hjl : j < fs.size := (Array.getElem?_eq_some_iff.1 hj).1
 have h1 := hg j f hj
 rw [ho, hk] at h1
 have h4 : cs.toList[j]? = some c := by simpa using hc
 have h2 : (cs.toList.drop j).take 1 = [c] := by
  rw [List.drop_eq_getElem_cons (List.getElem?_eq_some_iff.1 h4).1, (List.getElem?_eq_some_iff.1 h4).2]
  rfl
 change DataW.trod enc P W base sp held n f.type ((cs.toList.drop j).take 1) = _ at h1
 rw [h2] at h1
 rw [List.getElem?_eq_getElem (by omega)] at h1
 exact ⟨_, h1⟩
theorem arr5 {cs : Array Value} (h : cs.size = 5) : ∃ c0 c1 c2 c3 c4, cs = #[c0, c1, c2, c3, c4] := by
 obtain ⟨l⟩ := cs
 match l, h with
 | [c0, c1, c2, c3, c4], _ => exact ⟨c0, c1, c2, c3, c4, rfl⟩
theorem h0l {H : Type} {enc : TypeId × Value → H} {W : World} {n : Nat} {v : Value} {y : DataW H × List MemPlace} (h : DataW.trod enc Tryd.prog W 0 (fun _ => true) true n 3 [v] = some y) : ∃ k, v = .int .i64 k ∧ (Lit.int .i64 k).wf = true := by
 obtain ⟨k, e0, _, w⟩ := DataW.trod_int Tryd.underlying3 h
 simp only [List.cons.injEq, and_true] at e0
 exact ⟨k, e0, w⟩
theorem t0d {H : Type} {enc : TypeId × Value → H} {W : World} {n : Nat} {v : Value} {y : DataW H × List MemPlace} (h : DataW.trod enc Tryd.prog W 0 (fun _ => true) true n 4 [v] = some y) : ∃ k, v = .bool k := by
 obtain ⟨k, e0, _⟩ := DataW.trod_bool Tryd.underlying4 h
 simp only [List.cons.injEq, and_true] at e0
 exact ⟨k, e0⟩
theorem w0y {H : Type} {enc : TypeId × Value → H} {W : World} {base : Nat} {v : Value} {d : DataW H} {p : List MemPlace} (hv : Value.okWide Tryd.prog W .any base 29 v)
 (h : DataW.Trod enc Tryd.prog W 0 (fun _ => true) true 29 v d p) : ∃ g : Gd, v = .agg #[.int .i64 g.rad, .int .i64 g.digs, .int .i64 g.lo, .int .i64 g.hi, .bool g.grad] := by
 obtain ⟨cs, n, rfl, hsz, hf⟩ := q0s Tryd.underlying29 (by kernel_rfl) (by kernel_rfl) hv h
 obtain ⟨c0, c1, c2, c3, c4, rfl⟩ := arr5 hsz
 obtain ⟨_, h0⟩ := hf 0 _ c0 rfl rfl
 obtain ⟨_, h1⟩ := hf 1 _ c1 rfl rfl
 obtain ⟨_, h2⟩ := hf 2 _ c2 rfl rfl
 obtain ⟨_, h3⟩ := hf 3 _ c3 rfl rfl
 obtain ⟨_, h4⟩ := hf 4 _ c4 rfl rfl
 obtain ⟨k0, rfl, _⟩ := h0l h0
 obtain ⟨k1, rfl, _⟩ := h0l h1
 obtain ⟨k2, rfl, _⟩ := h0l h2
 obtain ⟨k3, rfl, _⟩ := h0l h3
 obtain ⟨k4, rfl⟩ := t0d h4
 exact ⟨⟨k0, k1, k2, k3, k4⟩, rfl⟩
end Go.Proofs.YthcoapcffhgckaaDoor
namespace Go.Proofs.YthcoapcffhgckaaDoor
open Go.ChangeShapes Go.WideShapes Go.ChangeAt Go.RowKit Go.Slip
theorem f0y {H : Type} {ts : List TypeId} {ds : List (DataW H)} (h : (DataW.weightsEach Tryd.prog ts ds).all (· ≤ reachBytes) = true) {j : Nat} {t : TypeId} {d : DataW H} (ht : ts[j]? = some t) (hd : ds[j]? = some d) :
 (d.weights Tryd.prog t).all (· ≤ reachBytes) = true :=
 List.all_eq_true.2 fun n hn => List.all_eq_true.1 h n (DataW.weights_mem_each ht hd n hn)
theorem o0z {H : Type} {elems spare : List (DataW H)} (h : ((DataW.slice elems spare).weights Tryd.prog 23).all (· ≤ reachBytes) = true) : (elems.length + spare.length) * 4 ≤ 140737488351232 := by
 have := List.all_eq_true.1 h ((elems.length + spare.length) * Tryd.prog.bytesOf 55) (by simp [DataW.weights, Tryd.underlying23])
 rw [show Tryd.prog.bytesOf 55 = 4 by kernel_rfl] at this
 exact oTr this
theorem i0n {H : Type} {enc : TypeId × Value → H} {W : World} {base : Nat} {v : Value} {d : DataW H} {p : List MemPlace} (hv : Value.okWide Tryd.prog W .any base 25 v)
 (h : DataW.Trod enc Tryd.prog W 0 (fun _ => true) true 25 v d p) (hw : (d.weights Tryd.prog 25).all (· ≤ reachBytes) = true) :
 ∃ a : Din, v = .agg #[.bool a.g, .slice a.p a.xs.length a.c, .int .i64 a.e] ∧ InD W a ∧ (Lit.int .i64 a.e).wf = true ∧ a.xs.length * 4 ≤ 140737488351232 := by
 obtain ⟨v0, v1, v2, y0, y1, y2, n, rfl, hd, _, h0, h1, h2⟩ := Joins.open_agg3 Tryd.underlying25 (by kernel_rfl) (by kernel_rfl) hv h
 obtain ⟨g, e0, _⟩ := DataW.trod_bool Tryd.underlying4 h0
 obtain ⟨e, e2, _, we⟩ := DataW.trod_int Tryd.underlying3 h2
 simp only [List.cons.injEq, and_true] at e0 e2
 subst e0 e2
 rcases open_ints Tryd.underlying23 Tryd.underlying55 (by kernel_rfl) h1 with ⟨hcs, _⟩ | ⟨x, l, c, zs, hcs, _, hl, hm, hz, hy, hcell, hwz⟩
 · simp only [List.cons.injEq, and_true] at hcs
   subst hcs
   exact ⟨⟨g, none, 0, [], e⟩, rfl, ⟨Rd.nil _ _ _, by simp, by simp, by simp⟩, we, by simp⟩
 · simp only [List.cons.injEq, and_true] at hcs
   subst hcs
   have hz1 : zs.length = c := by simpa using hz
   obtain ⟨xs, hr1, hr2, hr3⟩ := j0d (len := l) (by omega) hcell hwz
   subst hr2
   have hw1 : ((DataW.slice (lits (H := H) .u32 (zs.take xs.length)) (lits .u32 (zs.drop xs.length))).weights Tryd.prog 23).all (· ≤ reachBytes) = true := by
    rw [hd, hy] at hw
    unfold DataW.weights at hw
    rw [Tryd.underlying25] at hw
    exact f0y hw (j := 1) rfl rfl
   have hs := o0z hw1
   simp only [lits, List.length_map, List.length_take, List.length_drop] at hs
   refine ⟨⟨g, some x, c, xs, e⟩, rfl, ⟨hr1, hl, ?_, hr3⟩, we, ?_⟩
   · unfold maxLen at hm
     simp only
     omega
   · show xs.length * 4 ≤ _
     omega
theorem z0v {H : Type} {enc : TypeId × Value → H} {W : World} {n : Nat} {v : Value} {y : DataW H × List MemPlace} (h1 : DataW.trod enc Tryd.prog W 0 (fun _ => true) true n 23 [v] = some y)
 (hw : (y.1.weights Tryd.prog 23).all (· ≤ reachBytes) = true) :
 ∃ (p : OA) (c : Nat) (xs : List Nat), v = .slice p xs.length c ∧ Rd W .u32 p xs ∧ xs.length * 4 ≤ 140737488351232 ∧ ∀ x ∈ xs, x < B32 := by
 rcases open_ints Tryd.underlying23 Tryd.underlying55 (by kernel_rfl) h1 with ⟨hcs, _⟩ | ⟨x, l, c, zs, hcs, _, hl, hm, hz, hy, hcell, hwz⟩
 · simp only [List.cons.injEq, and_true] at hcs
   subst hcs
   exact ⟨none, 0, [], rfl, Rd.nil _ _ _, by simp, by simp⟩
 · simp only [List.cons.injEq, and_true] at hcs
   subst hcs
   have hz1 : zs.length = c := by simpa using hz
   obtain ⟨xs, hr1, hr2, hr3⟩ := j0d (len := l) (by omega) hcell hwz
   subst hr2
   rw [hy] at hw
   have hs := o0z hw
   simp only [lits, List.length_map, List.length_take, List.length_drop] at hs
   exact ⟨some x, c, xs, rfl, hr1, by omega, hr3⟩
theorem n0o {H : Type} {enc : TypeId × Value → H} {W : World} {base : Nat} {v : Value} {d : DataW H} {p : List MemPlace} (hv : Value.okWide Tryd.prog W .any base 27 v)
 (h : DataW.Trod enc Tryd.prog W 0 (fun _ => true) true 27 v d p) (hw : (d.weights Tryd.prog 27).all (· ≤ reachBytes) = true) :
 ∃ a : Rin, v = .agg #[.bool a.g, .slice a.p a.xs.length a.c, .slice a.q a.ys.length a.d, .int .i64 a.e] ∧ InR W a ∧ a.xs.length * 4 ≤ 140737488351232 ∧ a.ys.length * 4 ≤ 140737488351232 := by
 obtain ⟨v0, v1, v2, v3, y0, y1, y2, y3, n, rfl, hd, _, h0, h1, h2, h3⟩ := Joins.open_agg4 Tryd.underlying27 (by kernel_rfl) (by kernel_rfl) hv h
 obtain ⟨g, e0, _⟩ := DataW.trod_bool Tryd.underlying4 h0
 obtain ⟨e, e3, _, we⟩ := DataW.trod_int Tryd.underlying3 h3
 simp only [List.cons.injEq, and_true] at e0 e3
 subst e0 e3
 rw [hd] at hw
 unfold DataW.weights at hw
 rw [Tryd.underlying27] at hw
 obtain ⟨p1, c1, xs, rfl, r1, l1, b1⟩ := z0v h1 (f0y hw (j := 1) rfl rfl)
 obtain ⟨p2, c2, ys, rfl, r2, l2, b2⟩ := z0v h2 (f0y hw (j := 2) rfl rfl)
 exact ⟨⟨g, p1, c1, xs, p2, c2, ys, e⟩, rfl, ⟨r1, by simp only; omega, b1, r2, by simp only; omega, b2⟩, l1, l2⟩
end Go.Proofs.YthcoapcffhgckaaDoor
