/- What the laws of the series share: bracketed, narrow, meet.
   What the laws of the series share: bracketed, meet, seriesBegun. -/
import Derived.Test.YtehodhanojgkgaaDoorZRSe2
import Derived.Test.YtehodhanojgkgaaDoorZK
import Derived.Test.YtehodhanojgkgaaDoorZSe6
namespace Go.Slip

end Go.Slip
namespace Go.Proofs.YtehodhanojgkgaaDoor
open Go.RowKit Go.Slip

/-- A digit of the reference's that lies in a block of its own. -/
theorem rone {w : World} {b : Nat} {t : TypeId} {k : Nat} (h : Bt w b t #[.int .i64 (k : Int)]) (h0 : 0 < k) (h1 : k < 65536) : Rd w .i64 (some ⟨b, 0, none⟩) (dig B16 k) := by
  rw [dig_small B16_two h0 (by unfold B16; omega)]; exact (rf_lit h).rd

theorem rdcmpOne (a : Dv) (g : Bool) (E : Int) (p q : Option Addr) (c c' k : Nat) (w : World) (hp : Rd w .i64 p (dig B16 a.m)) (hq : Rd w .i64 q (dig B16 k)) (h0 : 0 < k) (h1 : k < 65536) (hc : 1 ≤ c') (fa : FitR a) (hE : -1000000 ≤ E ∧ E ≤ 1000000) :
    Calls Tryd.prog 26 #[.agg #[.bool a.neg, .slice p (dig B16 a.m).length c, .int .i64 a.e], .agg #[.bool g, .slice q 1 c', .int .i64 E]] w fun en w' => en = .returned (.int .i64 (rCmp a ⟨g, k, E⟩)) ∧ Below w.heap.size w w' :=
  refDCmp_any a.neg g p q _ c 1 c' a.e E a.m k w hp hq rfl (by rw [dig_small B16_two h0 (by unfold B16; omega)]; rfl) hc fa.len (by simp [dig_small B16_two h0 (show k < B16 by unfold B16; omega)]) ⟨fa.lo, fa.hi⟩ hE
theorem rdcmpOneL (b : Dv) (g : Bool) (E : Int) (p q : Option Addr) (c c' k : Nat) (w : World) (hp : Rd w .i64 p (dig B16 k)) (h0 : 0 < k) (h1 : k < 65536) (hq : Rd w .i64 q (dig B16 b.m)) (hc : (dig B16 b.m).length ≤ c') (fb : FitR b) (hE : -1000000 ≤ E ∧ E ≤ 1000000) :
    Calls Tryd.prog 26 #[.agg #[.bool g, .slice p 1 c, .int .i64 E], .agg #[.bool b.neg, .slice q (dig B16 b.m).length c', .int .i64 b.e]] w fun en w' => en = .returned (.int .i64 (rCmp ⟨g, k, E⟩ b)) ∧ Below w.heap.size w w' :=
  refDCmp_any g b.neg p q 1 c _ c' E b.e k b.m w hp hq (by rw [dig_small B16_two h0 (by unfold B16; omega)]; rfl) rfl hc (by simp [dig_small B16_two h0 (show k < B16 by unfold B16; omega)]) fb.len hE ⟨fb.lo, fb.hi⟩
end Go.Proofs.YtehodhanojgkgaaDoor

namespace Go.Slip

theorem rCmp_lit (a : Dv) (k : Nat) : rCmp a ⟨false, k, 0⟩ = rCmp a (norm (k : Int) 0) ∧ rCmp ⟨false, k, 0⟩ a = rCmp (norm (k : Int) 0) a := by
  have hz : ∀ f : Int, f ≤ 0 → zOf ⟨false, k, 0⟩ f = zOf (norm (k : Int) 0) f := fun f hf => by
    rw [zOf_norm _ hf]
    unfold zOf sg
    simp
  have h0 := norm_e (k : Int) (Int.le_refl 0)
  have e : ∃ f : Int, f ≤ 0 ∧ f ≤ a.e ∧ f ≤ (norm (k : Int) 0).e := ⟨min 0 a.e, by omega, by omega, by omega⟩
  obtain ⟨f, f0, f1, f2⟩ := e
  constructor
  · rw [rCmp_zOf a ⟨false, k, 0⟩ f1 f0, rCmp_zOf a _ f1 f2, hz f f0]
  · rw [rCmp_zOf ⟨false, k, 0⟩ a f0 f1, rCmp_zOf _ a f2 f1, hz f f0]
theorem dSign_norm (z E : Int) : dSign (norm z E) = Int.sign z := dSign_bare z E

end Go.Slip
namespace Go.Proofs.YtehodhanojgkgaaDoor
open Go.RowKit Go.Slip

theorem FitR.minus {d : Dv} (h : FitR d) : FitR (dMinus d) := ⟨h.len, h.lo, h.hi⟩

theorem rofdyad (l : Dv) (p : Option Addr) (c b1 : Nat) (w : World) (hp : Own w b1 .u32 58 p c (dig B32 l.m)) (bl : Bare l) (el : errD l = 0) :
    Calls Tryd.prog 36 #[.agg #[.bool l.neg, .slice p (dig B32 l.m).length c, .int .i64 l.e]] w (GNf w w.heap.size l) := by
  obtain ⟨i1, e1, v1⟩ := din_of hp bl el
  have := refOfDyad_any _ w i1 e1
  rw [v1] at this
  exact this.mono fun _ _ => gnf_of
theorem rdsign (l : Dv) (p : Option Addr) (c b1 : Nat) (w : World) (hp : Rf w b1 p c (dig B16 l.m)) (f : FitR l) :
    Calls Tryd.prog 28 #[.agg #[.bool l.neg, .slice p (dig B16 l.m).length c, .int .i64 l.e]] w fun en w' => en = .returned (.int .i64 (dSign l)) ∧ Below w.heap.size w w' :=
  dsignF_any ⟨l.neg, p, c, l.m, l.e⟩ b1 w ⟨hp.rd, hp.cap, f.len, f.lo, f.hi, hp.at_⟩

theorem piZ_ok (N : Int) (b : Nat) (h : N = b) (w : World) (hb1 : 10 ≤ b) (hb2 : b ≤ 1000) (hT : TabW w) : Calls Tryd.prog 9 #[.int .i64 N] w (GivesXE w Xpi (b + 20)) := by subst h; exact pi_ok b w hb1 hb2 hT
theorem ln2Z_ok (N : Int) (b : Nat) (h : N = b) (w : World) (hb1 : 10 ≤ b) (hb2 : b ≤ 1000) (hT : TabW w) : Calls Tryd.prog 15 #[.int .i64 N] w (GivesXE w Xln (b + 20)) := by subst h; exact ln2_ok b w hb1 hb2 hT

theorem ball_told {X : Nat → Int} {w : Nat} {L H : Int} (B : BallOf X w L H) (hw : w ≤ 1100) : errD (norm L (-w)) = 0 ∧ errD (norm H (-w)) = 0 ∧ FitR (norm L (-w)) ∧ FitR (norm H (-w)) := by
  obtain ⟨s1, s2⟩ := ball_small B hw
  exact ⟨errD_nn L w (by omega) s1, errD_nn H w (by omega) s2, fit_nn (by omega) s1, fit_nn (by omega) s2⟩

set_option maxHeartbeats 4000000 in
set_option maxRecDepth 100000 in
theorem seriesBegun_any (w : World) (hT : TabW w) :
    Calls Tryd.prog 10 #[] w fun en w' => en = .returned (.bool true) ∧ Below w.heap.size w w' := by
  have H1 : ∀ W, TabW W → Hid (Calls Tryd.prog 9 #[.int .i64 20] W fun en w' => ∃ (l h : Dv), (Bare l ∧ Bare h ∧ errD l = 0 ∧ errD h = 0 ∧ FitR l ∧ FitR h ∧ rCmp ⟨false, 3, 0⟩ l ≤ 0 ∧ rCmp h ⟨false, 4, 0⟩ < 0) ∧ GivesBE W W.heap.size l h 0 en w') := fun W hT => by
    refine Lib.hid ((piZ_ok 20 20 rfl W (by omega) (by omega) hT).mono fun en w' hh => ?_)
    obtain ⟨L, H, hB, hg⟩ := hh
    obtain ⟨e1, e2, f1, f2⟩ := ball_told hB (by omega)
    obtain ⟨g1, g2⟩ := begun_pi hB
    refine ⟨_, _, ⟨norm_bare _ _, norm_bare _ _, e1, e2, f1, f2, ?_, ?_⟩, hg⟩
    · rw [(rCmp_lit _ 3).2]; exact g1
    · rw [(rCmp_lit _ 4).1]; exact g2
  have H2 : ∀ W, TabW W → Hid (Calls Tryd.prog 15 #[.int .i64 20] W fun en w' => ∃ (l h : Dv), (Bare l ∧ errD l = 0 ∧ FitR l ∧ dSign l > 0) ∧ GivesBE W W.heap.size l h 0 en w') := fun W hT => by
    refine Lib.hid ((ln2Z_ok 20 20 rfl W (by omega) (by omega) hT).mono fun en w' hh => ?_)
    obtain ⟨L, H, hB, hg⟩ := hh
    obtain ⟨e1, e2, f1, f2⟩ := ball_told hB (by omega)
    have g1 := begun_ln hB
    refine ⟨_, _, ⟨norm_bare _ _, e1, f1, ?_⟩, hg⟩
    rw [dSign_norm, Int.sign_eq_one_of_pos g1]; omega
  have hT25 : SxAgg Tryd.prog 25 3 := sxAgg_of (by kernel_rfl) (by kernel_rfl)
  have hT27 : SxAgg Tryd.prog 27 6 := sxAgg_of (by kernel_rfl) (by kernel_rfl)
  have hT36 : SxAgg Tryd.prog 36 3 := sxAgg_of (by kernel_rfl) (by kernel_rfl)
  refine calls_of_wp Tryd.func10 rfl ?_
  refine sx_frame (a' := ⟨(undef :: undef :: undef :: undef :: undef :: undef :: undef :: undef :: undef :: undef :: undef :: undef :: undef :: undef :: undef :: undef :: undef :: undef :: undef :: undef :: undef :: undef :: undef :: undef :: undef :: undef :: undef :: undef :: undef :: undef :: undef :: undef :: undef :: undef :: undef :: undef :: undef :: undef :: undef :: undef :: undef :: undef :: undef :: undef :: undef :: undef :: undef :: undef :: []).toArray, []⟩) (by kernel_rfl) ?_
  refine wp_seq ?_
  refine sx_region ?_
  refine sv 0 (.bool false) ?_
  refine sx_nil ?_
  refine sx_then ?_
  refine wp_seq ?_
  refine sx_region ?_
  refine se 8 9 #[.int .i64 20] (fun Gx hGx => ?_)
  ((with_reducible refine ((H1 _ hT).out).mono ?_))
  rintro eV1 V1 ⟨lo, up, hp1, p8, c8, q8, d8, rfl, ho8, hq8, hbV1⟩
  have hzV1 := hbV1.size
  refine ⟨.tuple #[.agg #[.bool lo.neg, .slice p8 (dig B32 lo.m).length c8, .int .i64 lo.e, .bool up.neg, .slice q8 (dig B32 up.m).length d8, .int .i64 up.e], .int .i64 0], rfl, hGx _ _ ?_⟩
  clear hGx Gx
  refine sv 7 (.tuple #[.agg #[.bool lo.neg, .slice p8 (dig B32 lo.m).length c8, .int .i64 lo.e, .bool up.neg, .slice q8 (dig B32 up.m).length d8, .int .i64 up.e], .int .i64 0]) ?_
  refine sv 9 (.agg #[.bool lo.neg, .slice p8 (dig B32 lo.m).length c8, .int .i64 lo.e, .bool up.neg, .slice q8 (dig B32 up.m).length d8, .int .i64 up.e]) ?_
  refine sv 10 (.int .i64 0) ?_
  refine sn 1 #[.bool false, .slice none 0 0, .int .i64 0, .bool false, .slice none 0 0, .int .i64 0] 27 (fun V2 hbV2 hzV2 b1 => ?_)
  refine ss none b1 hT27 0 #[.bool lo.neg, .slice p8 (dig B32 lo.m).length c8, .int .i64 lo.e, .bool up.neg, .slice q8 (dig B32 up.m).length d8, .int .i64 up.e] #[.bool lo.neg, .slice p8 (dig B32 lo.m).length c8, .int .i64 lo.e, .bool up.neg, .slice q8 (dig B32 up.m).length d8, .int .i64 up.e] ?_
  have boV3 := b1
  clear b1
  intro V3 hOV3 b1
  have hzV3 := hOV3.size
  refine sv 2 (.int .i64 0) ?_
  refine sx_nil ?_
  refine sx_then ?_
  refine wp_seq ?_
  refine sx_region ?_
  obtain ⟨gb1, gb2, e1, e2, f1, f2, k1, k2⟩ := hp1
  replace hT := (hT.past ((bthru hbV1 hbV2).trans (hOV3.below (by omega))))
  refine se 12 15 #[.int .i64 20] (fun Gx hGx => ?_)
  ((with_reducible refine ((H2 _ hT).out).mono ?_))
  rintro eV4 V4 ⟨lu, lv, hp2, p12, c12, q12, d12, rfl, ho12, hq12, hbV4⟩
  have hzV4 := hbV4.size
  refine ⟨.tuple #[.agg #[.bool lu.neg, .slice p12 (dig B32 lu.m).length c12, .int .i64 lu.e, .bool lv.neg, .slice q12 (dig B32 lv.m).length d12, .int .i64 lv.e], .int .i64 0], rfl, hGx _ _ ?_⟩
  clear hGx Gx
  refine sv 11 (.tuple #[.agg #[.bool lu.neg, .slice p12 (dig B32 lu.m).length c12, .int .i64 lu.e, .bool lv.neg, .slice q12 (dig B32 lv.m).length d12, .int .i64 lv.e], .int .i64 0]) ?_
  refine sv 13 (.agg #[.bool lu.neg, .slice p12 (dig B32 lu.m).length c12, .int .i64 lu.e, .bool lv.neg, .slice q12 (dig B32 lv.m).length d12, .int .i64 lv.e]) ?_
  refine sv 14 (.int .i64 0) ?_
  refine sn 3 #[.bool false, .slice none 0 0, .int .i64 0, .bool false, .slice none 0 0, .int .i64 0] 27 (fun V5 hbV5 hzV5 b3 => ?_)
  refine ss none b3 hT27 0 #[.bool lu.neg, .slice p12 (dig B32 lu.m).length c12, .int .i64 lu.e, .bool lv.neg, .slice q12 (dig B32 lv.m).length d12, .int .i64 lv.e] #[.bool lu.neg, .slice p12 (dig B32 lu.m).length c12, .int .i64 lu.e, .bool lv.neg, .slice q12 (dig B32 lv.m).length d12, .int .i64 lv.e] ?_
  have boV6 := b3
  clear b3
  intro V6 hOV6 b3
  have hzV6 := hOV6.size
  refine sv 4 (.int .i64 0) ?_
  refine sx_nil ?_
  refine sx_then ?_
  refine wp_seq ?_
  refine sx_region ?_
  obtain ⟨gb3, e3, f3, k3⟩ := hp2
  refine snv 15 (.slice (some ⟨V6.heap.size, 0, none⟩) 1 1) #[.int .i64 3] 3 (fun V7 hbV7 hzV7 b15 => ?_)
  refine sv 16 (.agg #[.bool false, .slice (some ⟨V6.heap.size, 0, none⟩) 1 1, .int .i64 0]) ?_
  refine snv 17 (.slice (some ⟨V7.heap.size, 0, none⟩) 1 1) #[.int .i64 4] 3 (fun V8 hbV8 hzV8 b17 => ?_)
  refine sv 18 (.agg #[.bool false, .slice (some ⟨V7.heap.size, 0, none⟩) 1 1, .int .i64 0]) ?_
  refine sn 5 #[.bool false, .slice none 0 0, .int .i64 0] 36 (fun V9 hbV9 hzV9 b5 => ?_)
  refine sn 6 #[.bool false, .slice none 0 0, .int .i64 0] 36 (fun V10 hbV10 hzV10 b6 => ?_)
  replace b5 := (b5.past hbV10)
  refine ss none b5 hT36 0 #[.bool false, .slice (some ⟨V6.heap.size, 0, none⟩) 1 1, .int .i64 0] #[.bool false, .slice (some ⟨V6.heap.size, 0, none⟩) 1 1, .int .i64 0] ?_
  have boV11 := b5
  clear b5
  intro V11 hOV11 b5
  have hzV11 := hOV11.size
  replace b6 := (b6.only hOV11 (by omega))
  refine ss none b6 hT36 0 #[.bool false, .slice (some ⟨V7.heap.size, 0, none⟩) 1 1, .int .i64 0] #[.bool false, .slice (some ⟨V7.heap.size, 0, none⟩) 1 1, .int .i64 0] ?_
  have boV12 := b6
  clear b6
  intro V12 hOV12 b6
  have hzV12 := hOV12.size
  refine sx_nil ?_
  refine sx_then ?_
  refine wp_seq ?_
  replace b5 := (b5.only hOV12 (by omega))
  replace b1 := (b1.past (((bthru (bthru (bthru (bthru ((bthru hbV4 hbV5).trans (hOV6.below (by omega))) hbV7) hbV8) hbV9) hbV10).trans (hOV11.below (by omega))).trans (hOV12.below (by omega))))
  replace b3 := (b3.past (((bthru (bthru (bthru hbV7 hbV8) hbV9) hbV10).trans (hOV11.below (by omega))).trans (hOV12.below (by omega))))
  obtain ⟨V13, hVV13⟩ : ∃ V, V = (V12).drew := ⟨_, rfl⟩
  have hbV13 : Below (V12).heap.size (V12) V13 := by rw [hVV13]; exact (Below.refl _ _).drew
  have hzV13 : V13.heap.size = (V12).heap.size := by rw [hVV13]; rfl
  replace b5 := (b5.past hbV13)
  replace b1 := (b1.past hbV13)
  replace b6 := (b6.past hbV13)
  replace b3 := (b3.past hbV13)
  refine sxd _ (fun w' => Bt w' V8.heap.size 36 #[.bool false, .slice (some ⟨V6.heap.size, 0, none⟩) 1 1, .int .i64 0] ∧ Bt w' V1.heap.size 27 #[.bool lo.neg, .slice p8 (dig B32 lo.m).length c8, .int .i64 lo.e, .bool up.neg, .slice q8 (dig B32 up.m).length d8, .int .i64 up.e] ∧ Bt w' V9.heap.size 36 #[.bool false, .slice (some ⟨V7.heap.size, 0, none⟩) 1 1, .int .i64 0] ∧ Bt w' V4.heap.size 27 #[.bool lu.neg, .slice p12 (dig B32 lu.m).length c12, .int .i64 lu.e, .bool lv.neg, .slice q12 (dig B32 lv.m).length d12, .int .i64 lv.e]) hVV13 ⟨b5, b1, b6, b3⟩ ?_
  clear hVV13
  refine tk 0 19 (.int .i64 0) ⟨b5, b1, b6, b3⟩ ?_
  refine tk 1 20 (.bool true) ⟨b5, b1, b6, b3⟩ ?_
  refine tk 2 21 (.bool true) ⟨b5, b1, b6, b3⟩ ?_
  refine tk 3 22 (.int .i64 0) ⟨b5, b1, b6, b3⟩ ?_
  refine tk 4 23 (.bool true) ⟨b5, b1, b6, b3⟩ ?_
  refine tk 5 24 (.bool true) ⟨b5, b1, b6, b3⟩ ?_
  refine tk 6 25 (.bool true) ⟨b5, b1, b6, b3⟩ ?_
  refine tk 7 26 (.agg #[.bool false, .slice (some ⟨V6.heap.size, 0, none⟩) 1 1, .int .i64 0]) ⟨b5, b1, b6, b3⟩ ?_ (hy := fun w' hS => (exec_ld (by kernel_rfl) (run_ld hS.1 hT36 0 [.bool false, .slice (some ⟨V6.heap.size, 0, none⟩) 1 1, .int .i64 0] (by kernel_rfl) (by kernel_rfl))))
  refine tk 8 27 (.pointer (some ⟨V1.heap.size, 0, none⟩)) ⟨b5, b1, b6, b3⟩ ?_
  refine tk 9 28 (.agg #[.bool lo.neg, .slice p8 (dig B32 lo.m).length c8, .int .i64 lo.e]) ⟨b5, b1, b6, b3⟩ ?_ (hy := fun w' hS => (exec_ld (by kernel_rfl) (run_ld hS.2.1 hT25 0 [.bool lo.neg, .slice p8 (dig B32 lo.m).length c8, .int .i64 lo.e] (by kernel_rfl) (by kernel_rfl))))
  refine sxr [10] ?_
  refine rd1 (fun Kx hKx => ?_)
  replace ho8 := (ho8.past (bthru (((bthru (bthru (bthru (bthru ((bthru (bthru (hbV2.trans (hOV3.below (by omega))) hbV4) hbV5).trans (hOV6.below (by omega))) hbV7) hbV8) hbV9) hbV10).trans (hOV11.below (by omega))).trans (hOV12.below (by omega))) hbV13))
  refine sek 29 36 #[.agg #[.bool lo.neg, .slice p8 (dig B32 lo.m).length c8, .int .i64 lo.e]] ?_
  ((with_reducible refine (rofdyad lo p8 c8 _ _ ho8 gb1 e1).mono ?_))
  rintro eV14 V14 ⟨p29, c29, rfl, x29, hbV14⟩
  have hzV14 := hbV14.size
  have lx29 := fun h => x29.lt h
  refine ⟨.agg #[.bool lo.neg, .slice p29 (dig B16 lo.m).length c29, .int .i64 lo.e], rfl, ?_⟩
  replace b5 := (b5.past hbV14)
  replace b1 := (b1.past hbV14)
  replace b6 := (b6.past hbV14)
  replace b3 := (b3.past hbV14)
  refine hKx.out _ _ ⟨b5, b1, b6, b3⟩ ?_
  clear hKx Kx
  refine sxr [11] ?_
  refine rd1 (fun Kx hKx => ?_)
  replace b15 := (b15.past (bthru (bthru (((bthru (bthru hbV8 hbV9) hbV10).trans (hOV11.below (by omega))).trans (hOV12.below (by omega))) hbV13) hbV14))
  refine sek 30 26 #[.agg #[.bool false, .slice (some ⟨V6.heap.size, 0, none⟩) 1 1, .int .i64 0], .agg #[.bool lo.neg, .slice p29 (dig B16 lo.m).length c29, .int .i64 lo.e]] ?_
  ((with_reducible refine (rdcmpOneL lo false 0 _ p29 1 c29 3 _ (rone (k := 3) b15 (by omega) (by omega)) (by omega) (by omega) x29.rd x29.cap f1 (by omega)).mono ?_))
  rintro eV15 V15 ⟨rfl, hbV15⟩
  have hzV15 := hbV15.size
  refine ⟨.int .i64 (rCmp ⟨false, 3, 0⟩ lo), rfl, ?_⟩
  replace b5 := (b5.past hbV15)
  replace b1 := (b1.past hbV15)
  replace b6 := (b6.past hbV15)
  replace b3 := (b3.past hbV15)
  refine hKx.out _ _ ⟨b5, b1, b6, b3⟩ ?_
  clear hKx Kx
  refine tk 12 31 (.bool true) ⟨b5, b1, b6, b3⟩ ?_ (hy := fun w' _ => ((show _ = Result.ok (Next.value (.bool (decide ((rCmp ⟨false, 3, 0⟩ lo) ≤ 0)))) _ from (by kernel_rfl)).trans (congrArg (fun z => Result.ok (Next.value (.bool z)) _) (show (decide ((rCmp ⟨false, 3, 0⟩ lo) ≤ 0)) = true from decide_eq_true k1))))
  refine tk 13 32 (.bool true) ⟨b5, b1, b6, b3⟩ ?_
  refine tk 14 33 (.bool true) ⟨b5, b1, b6, b3⟩ ?_
  refine tk 15 34 (.pointer (some ⟨V1.heap.size, 3, none⟩)) ⟨b5, b1, b6, b3⟩ ?_
  refine tk 16 35 (.agg #[.bool up.neg, .slice q8 (dig B32 up.m).length d8, .int .i64 up.e]) ⟨b5, b1, b6, b3⟩ ?_ (hy := fun w' hS => (exec_ld (by kernel_rfl) (run_ld hS.2.1 hT25 3 [.bool up.neg, .slice q8 (dig B32 up.m).length d8, .int .i64 up.e] (by kernel_rfl) (by kernel_rfl))))
  refine tk 18 37 (.agg #[.bool false, .slice (some ⟨V7.heap.size, 0, none⟩) 1 1, .int .i64 0]) ⟨b5, b1, b6, b3⟩ ?_ (hy := fun w' hS => (exec_ld (by kernel_rfl) (run_ld hS.2.2.1 hT36 0 [.bool false, .slice (some ⟨V7.heap.size, 0, none⟩) 1 1, .int .i64 0] (by kernel_rfl) (by kernel_rfl))))
  refine sxr [17] ?_
  refine rd1 (fun Kx hKx => ?_)
  replace hq8 := (hq8.past (bthru (bthru (bthru (((bthru (bthru (bthru (bthru ((bthru (bthru (hbV2.trans (hOV3.below (by omega))) hbV4) hbV5).trans (hOV6.below (by omega))) hbV7) hbV8) hbV9) hbV10).trans (hOV11.below (by omega))).trans (hOV12.below (by omega))) hbV13) hbV14) hbV15))
  refine sek 36 36 #[.agg #[.bool up.neg, .slice q8 (dig B32 up.m).length d8, .int .i64 up.e]] ?_
  ((with_reducible refine (rofdyad up q8 d8 _ _ hq8 gb2 e2).mono ?_))
  rintro eV16 V16 ⟨p36, c36, rfl, x36, hbV16⟩
  have hzV16 := hbV16.size
  have lx36 := fun h => x36.lt h
  refine ⟨.agg #[.bool up.neg, .slice p36 (dig B16 up.m).length c36, .int .i64 up.e], rfl, ?_⟩
  replace b5 := (b5.past hbV16)
  replace b1 := (b1.past hbV16)
  replace b6 := (b6.past hbV16)
  replace b3 := (b3.past hbV16)
  refine hKx.out _ _ ⟨b5, b1, b6, b3⟩ ?_
  clear hKx Kx
  refine sxr [19] ?_
  refine rd1 (fun Kx hKx => ?_)
  replace b17 := (b17.past (bthru (bthru (bthru (bthru (((bthru hbV9 hbV10).trans (hOV11.below (by omega))).trans (hOV12.below (by omega))) hbV13) hbV14) hbV15) hbV16))
  refine sek 38 26 #[.agg #[.bool up.neg, .slice p36 (dig B16 up.m).length c36, .int .i64 up.e], .agg #[.bool false, .slice (some ⟨V7.heap.size, 0, none⟩) 1 1, .int .i64 0]] ?_
  ((with_reducible refine (rdcmpOne up false 0 p36 _ c36 1 4 _ x36.rd (rone (k := 4) b17 (by omega) (by omega)) (by omega) (by omega) (by omega) f2 (by omega)).mono ?_))
  rintro eV17 V17 ⟨rfl, hbV17⟩
  have hzV17 := hbV17.size
  refine ⟨.int .i64 (rCmp up ⟨false, 4, 0⟩), rfl, ?_⟩
  replace b5 := (b5.past hbV17)
  replace b1 := (b1.past hbV17)
  replace b6 := (b6.past hbV17)
  replace b3 := (b3.past hbV17)
  refine hKx.out _ _ ⟨b5, b1, b6, b3⟩ ?_
  clear hKx Kx
  refine tk 20 39 (.bool true) ⟨b5, b1, b6, b3⟩ ?_ (hy := fun w' _ => ((show _ = Result.ok (Next.value (.bool (decide ((rCmp up ⟨false, 4, 0⟩) < 0)))) _ from (by kernel_rfl)).trans (congrArg (fun z => Result.ok (Next.value (.bool z)) _) (show (decide ((rCmp up ⟨false, 4, 0⟩) < 0)) = true from decide_eq_true k2))))
  refine tk 21 40 (.bool true) ⟨b5, b1, b6, b3⟩ ?_
  refine tk 22 41 (.bool true) ⟨b5, b1, b6, b3⟩ ?_
  refine tk 23 42 (.pointer (some ⟨V4.heap.size, 0, none⟩)) ⟨b5, b1, b6, b3⟩ ?_
  refine tk 24 43 (.agg #[.bool lu.neg, .slice p12 (dig B32 lu.m).length c12, .int .i64 lu.e]) ⟨b5, b1, b6, b3⟩ ?_ (hy := fun w' hS => (exec_ld (by kernel_rfl) (run_ld hS.2.2.2 hT25 0 [.bool lu.neg, .slice p12 (dig B32 lu.m).length c12, .int .i64 lu.e] (by kernel_rfl) (by kernel_rfl))))
  refine sxr [25] ?_
  refine rd1 (fun Kx hKx => ?_)
  replace ho12 := (ho12.past (bthru (bthru (bthru (bthru (bthru (((bthru (bthru (bthru (bthru (hbV5.trans (hOV6.below (by omega))) hbV7) hbV8) hbV9) hbV10).trans (hOV11.below (by omega))).trans (hOV12.below (by omega))) hbV13) hbV14) hbV15) hbV16) hbV17))
  refine sek 44 36 #[.agg #[.bool lu.neg, .slice p12 (dig B32 lu.m).length c12, .int .i64 lu.e]] ?_
  ((with_reducible refine (rofdyad lu p12 c12 _ _ ho12 gb3 e3).mono ?_))
  rintro eV18 V18 ⟨p44, c44, rfl, x44, hbV18⟩
  have hzV18 := hbV18.size
  have lx44 := fun h => x44.lt h
  refine ⟨.agg #[.bool lu.neg, .slice p44 (dig B16 lu.m).length c44, .int .i64 lu.e], rfl, ?_⟩
  replace b5 := (b5.past hbV18)
  replace b1 := (b1.past hbV18)
  replace b6 := (b6.past hbV18)
  replace b3 := (b3.past hbV18)
  refine hKx.out _ _ ⟨b5, b1, b6, b3⟩ ?_
  clear hKx Kx
  refine sxr [26] ?_
  refine rd1 (fun Kx hKx => ?_)
  refine sek 45 28 #[.agg #[.bool lu.neg, .slice p44 (dig B16 lu.m).length c44, .int .i64 lu.e]] ?_
  ((with_reducible refine (rdsign lu p44 c44 _ _ x44 f3).mono ?_))
  rintro eV19 V19 ⟨rfl, hbV19⟩
  have hzV19 := hbV19.size
  refine ⟨.int .i64 (dSign lu), rfl, ?_⟩
  replace b5 := (b5.past hbV19)
  replace b1 := (b1.past hbV19)
  replace b6 := (b6.past hbV19)
  replace b3 := (b3.past hbV19)
  refine hKx.out _ _ ⟨b5, b1, b6, b3⟩ ?_
  clear hKx Kx
  refine tk 27 46 (.bool true) ⟨b5, b1, b6, b3⟩ ?_ (hy := fun w' _ => ((show _ = Result.ok (Next.value (.bool (decide ((dSign lu) > 0)))) _ from (by kernel_rfl)).trans (congrArg (fun z => Result.ok (Next.value (.bool z)) _) (show (decide ((dSign lu) > 0)) = true from decide_eq_true k3))))
  refine tk 28 47 (.bool true) ⟨b5, b1, b6, b3⟩ ?_
  refine tk 29 0 (.bool true) ⟨b5, b1, b6, b3⟩ ?_
  refine sx_done (by kernel_rfl) ?_
  refine sx_then ?_
  refine wp_ret ?_
  repeat (first | with_reducible refine sx_thenret ?_ | with_reducible refine sx_blockret ?_)
  refine bodyPost_ret (v := .bool true) (by simp [results, Tryd.results10, go_sem]) rfl ?_
  exact ⟨rfl, (bthru (bthru (bthru (bthru (bthru (bthru (bthru (((bthru (bthru (bthru (bthru ((bthru (bthru ((bthru hbV1 hbV2).trans (hOV3.below (by omega))) hbV4) hbV5).trans (hOV6.below (by omega))) hbV7) hbV8) hbV9) hbV10).trans (hOV11.below (by omega))).trans (hOV12.below (by omega))) hbV13) hbV14) hbV15) hbV16) hbV17) hbV18) hbV19)⟩

end Go.Proofs.YtehodhanojgkgaaDoor
