/- What the laws of the series share: bracketed, narrow, meet.
   What the laws of the series share: bracketed, meet, seriesBegun.
   series: Atanh, Atan. -/
import Derived.Test.YtehodhanojgkgaaDoorZRSe2
import Derived.Test.YtehodhanojgkgaaDoorZK
import Derived.Test.YtehodhanojgkgaaDoorZSe6
namespace Go.Slip

theorem norm_one (E : Int) : norm 1 E = ⟨false, 1, E⟩ := by
  have h := norm_sg false 1 E
  rw [show sg false 1 = (1 : Int) from rfl] at h
  rw [h]
  exact bare_of (d := ⟨false, 1, E⟩) (.inl rfl)
theorem norm_mone (E : Int) : norm (-1) E = ⟨true, 1, E⟩ := by
  have h := norm_sg true 1 E
  rw [show sg true 1 = (-1 : Int) from rfl] at h
  rw [h]
  exact bare_of (d := ⟨true, 1, E⟩) (.inl rfl)

end Go.Slip
namespace Go.Proofs.YtehodhanojgkgaaDoor
open Go.RowKit Go.Slip

theorem dig16_one' : dig B16 1 = [1] := dig_small B16_two (by omega) (by unfold B16; omega)
/-- A digit of the reference's that lies in a block of its own. -/
theorem rone {w : World} {b : Nat} {t : TypeId} {k : Nat} (h : Bt w b t #[.int .i64 (k : Int)]) (h0 : 0 < k) (h1 : k < 65536) : Rd w .i64 (some ⟨b, 0, none⟩) (dig B16 k) := by
  rw [dig_small B16_two h0 (by unfold B16; omega)]; exact (rf_lit h).rd

theorem fit_one (z : Int) (hz : z = 1 ∨ z = -1) (E : Int) (hE : -1000000 ≤ E ∧ E ≤ 1000000) : FitR (norm z E) := by
  rcases hz with rfl | rfl
  · rw [norm_one]; exact ⟨by simp [dig16_one'], hE.1, hE.2⟩
  · rw [norm_mone]; exact ⟨by simp [dig16_one'], hE.1, hE.2⟩
/-- One of some power, as a literal. -/
theorem rdplusOne (a d : Dv) (g : Bool) (E : Int) (p q : Option Addr) (c c' : Nat) (w : World) (hp : Rd w .i64 p (dig B16 a.m)) (hq : Rd w .i64 q [1]) (fa : FitR a) (hE : -1000000 ≤ E ∧ E ≤ 1000000) (h : rPlus a ⟨g, 1, E⟩ = d) :
    Calls Tryd.prog 38 #[.agg #[.bool a.neg, .slice p (dig B16 a.m).length c, .int .i64 a.e], .agg #[.bool g, .slice q 1 c', .int .i64 E]] w (GNf w w.heap.size d) := by
  subst h
  exact (refDPlus_any a.neg g p q _ c 1 c' a.e E a.m 1 w hp (by rw [dig16_one']; exact hq) rfl (by rw [dig16_one']; rfl) fa.len (by simp [dig16_one']) ⟨fa.lo, fa.hi⟩ hE).mono fun _ _ => gnf_of
theorem rdcmpOne (a : Dv) (g : Bool) (E : Int) (p q : Option Addr) (c c' k : Nat) (w : World) (hp : Rd w .i64 p (dig B16 a.m)) (hq : Rd w .i64 q (dig B16 k)) (h0 : 0 < k) (h1 : k < 65536) (hc : 1 ≤ c') (fa : FitR a) (hE : -1000000 ≤ E ∧ E ≤ 1000000) :
    Calls Tryd.prog 26 #[.agg #[.bool a.neg, .slice p (dig B16 a.m).length c, .int .i64 a.e], .agg #[.bool g, .slice q 1 c', .int .i64 E]] w fun en w' => en = .returned (.int .i64 (rCmp a ⟨g, k, E⟩)) ∧ Below w.heap.size w w' :=
  refDCmp_any a.neg g p q _ c 1 c' a.e E a.m k w hp hq rfl (by rw [dig_small B16_two h0 (by unfold B16; omega)]; rfl) hc fa.len (by simp [dig_small B16_two h0 (show k < B16 by unfold B16; omega)]) ⟨fa.lo, fa.hi⟩ hE
theorem rdcmpOneL (b : Dv) (g : Bool) (E : Int) (p q : Option Addr) (c c' k : Nat) (w : World) (hp : Rd w .i64 p (dig B16 k)) (h0 : 0 < k) (h1 : k < 65536) (hq : Rd w .i64 q (dig B16 b.m)) (hc : (dig B16 b.m).length ≤ c') (fb : FitR b) (hE : -1000000 ≤ E ∧ E ≤ 1000000) :
    Calls Tryd.prog 26 #[.agg #[.bool g, .slice p 1 c, .int .i64 E], .agg #[.bool b.neg, .slice q (dig B16 b.m).length c', .int .i64 b.e]] w fun en w' => en = .returned (.int .i64 (rCmp ⟨g, k, E⟩ b)) ∧ Below w.heap.size w w' :=
  refDCmp_any g b.neg p q 1 c _ c' E b.e k b.m w hp hq (by rw [dig_small B16_two h0 (by unfold B16; omega)]; rfl) rfl hc (by simp [dig_small B16_two h0 (show k < B16 by unfold B16; omega)]) fb.len hE ⟨fb.lo, fb.hi⟩
theorem rminusOne (E : Int) (p : Option Addr) (c base : Nat) (w : World) (hp : Rf w base p c [1]) (hb : base ≤ w.heap.size) :
    Calls Tryd.prog 24 #[.agg #[.bool false, .slice p 1 c, .int .i64 E]] w fun en w' => ∃ p c, en = .returned (.agg #[.bool true, .slice p 1 c, .int .i64 E]) ∧ Rf w' base p c [1] ∧ Below w.heap.size w w' := by
  refine (refMinus_any (fun k => base ≤ k) false p 1 c E 1 w (by rw [dig16_one']; exact hp.rd) (by rw [dig16_one']; rfl) hp.cap (fun h => hp.at_ (by simp))).mono fun en w' hh => ?_
  obtain ⟨p, c, h1, h2, h3, h4, h5⟩ := hh
  have e : dMinus ⟨false, 1, E⟩ = ⟨true, 1, E⟩ := by simp [dMinus]
  rw [e] at h1 h2 h3 h4
  rw [dig16_one'] at h1 h2 h3 h4
  exact ⟨p, c, h1, rf_ofP h2 h3 h4 hb, h5⟩


set_option maxHeartbeats 4000000 in
set_option maxRecDepth 100000 in
theorem narrow_any (m p : Nat) (P0 : Int) (q : Option Addr) (c : Nat) (w : World) (hP0 : P0 = p) (hp : p ≤ 1500) (hq : Rd w .i64 q (dig B16 m)) (hm : Small m) :
    Calls Tryd.prog 13 #[.slice q (dig B16 m).length c, .int .i64 P0] w fun en w' => ∃ p1 c1 p2 c2, en = .returned (.agg #[.bool (norm ((m : Int) - 1099511627776) (-(p : Int))).neg, .slice p1 (dig B16 (norm ((m : Int) - 1099511627776) (-(p : Int))).m).length c1, .int .i64 (norm ((m : Int) - 1099511627776) (-(p : Int))).e, .bool (norm ((m : Int) + 1099511627776) (-(p : Int))).neg, .slice p2 (dig B16 (norm ((m : Int) + 1099511627776) (-(p : Int))).m).length c2, .int .i64 (norm ((m : Int) + 1099511627776) (-(p : Int))).e]) ∧
      Rf w' w.heap.size p1 c1 (dig B16 (norm ((m : Int) - 1099511627776) (-(p : Int))).m) ∧ Rf w' w.heap.size p2 c2 (dig B16 (norm ((m : Int) + 1099511627776) (-(p : Int))).m) ∧ Below w.heap.size w w' := by
  subst hP0
  have fx := fit_nn (z := (m : Int)) (w := p) (by omega) hm
  have lm : (dig B16 m).length ≤ 1000000 := by
    have h1 := blen_len m 8000 (by have := hm; unfold Small at this; simpa using this)
    have := B16_len32 m
    omega
  have eB : bare ⟨false, m, -(p : Int)⟩ = norm (m : Int) (-p) := norm_nat m _
  have e40 : ∀ s : Int, norm s (40 - p) = norm (s * 2 ^ 40) (-p) := fun s => by rw [norm_shift]; congr 1; omega
  have eL : rPlus (norm (m : Int) (-p)) ⟨true, 1, 40 - (p : Int)⟩ = norm ((m : Int) - 1099511627776) (-p) := by
    rw [← norm_mone, e40, rPlus_nn]; rfl
  have eH : rPlus (norm (m : Int) (-p)) ⟨false, 1, 40 - (p : Int)⟩ = norm ((m : Int) + 1099511627776) (-p) := by
    rw [← norm_one, e40, rPlus_nn]; rfl
  generalize norm ((m : Int) - 1099511627776) (-p) = u at *
  generalize norm ((m : Int) + 1099511627776) (-p) = v at *
  generalize norm (m : Int) (-p) = x at *
  have hT36 : SxAgg Tryd.prog 36 3 := sxAgg_of (by kernel_rfl) (by kernel_rfl)
  have hT38 : SxAgg Tryd.prog 38 6 := sxAgg_of (by kernel_rfl) (by kernel_rfl)
  refine calls_of_wp Tryd.func13 rfl ?_
  refine sx_frame (a' := ⟨((.slice q (dig B16 m).length c) :: (.int .i64 ((p : Nat) : Int)) :: undef :: undef :: undef :: undef :: undef :: undef :: undef :: undef :: undef :: undef :: undef :: undef :: undef :: undef :: undef :: undef :: undef :: undef :: undef :: undef :: undef :: undef :: []).toArray, []⟩) (by kernel_rfl) ?_
  refine wp_seq ?_
  refine sx_region ?_
  refine sn 4 #[.bool false, .slice none 0 0, .int .i64 0, .bool false, .slice none 0 0, .int .i64 0] 38 (fun V1 hbV1 hzV1 b4 => ?_)
  refine sx_nil ?_
  refine sx_then ?_
  refine wp_seq ?_
  refine sx_region ?_
  refine snv 7 (.slice (some ⟨V1.heap.size, 0, none⟩) 1 1) #[.int .i64 1] 3 (fun V2 hbV2 hzV2 b7 => ?_)
  refine sv 8 (.int .i64 ((p : Nat) : Int)) ?_
  refine sv 9 (.int .i64 ((40 : Int) - ((p : Nat) : Int))) ?_ (hr := ((show _ = Result.ok (Next.value (.int .i64 (IntKind.wrap .i64 ((40 : Int) - ((p : Nat) : Int))))) _ by kernel_rfl).trans (congrArg (fun z => Result.ok (Next.value (.int .i64 z)) _) (IntWalk.i64_in _ (by omega)))))
  refine sv 10 (.agg #[.bool false, .slice (some ⟨V1.heap.size, 0, none⟩) 1 1, .int .i64 ((40 : Int) - ((p : Nat) : Int))]) ?_
  refine sn 5 #[.bool false, .slice none 0 0, .int .i64 0] 36 (fun V3 hbV3 hzV3 b5 => ?_)
  refine ss none b5 hT36 0 #[.bool false, .slice (some ⟨V1.heap.size, 0, none⟩) 1 1, .int .i64 ((40 : Int) - ((p : Nat) : Int))] #[.bool false, .slice (some ⟨V1.heap.size, 0, none⟩) 1 1, .int .i64 ((40 : Int) - ((p : Nat) : Int))] ?_
  have boV4 := b5
  clear b5
  intro V4 hOV4 b5
  have hzV4 := hOV4.size
  refine sx_nil ?_
  refine sx_then ?_
  refine wp_seq ?_
  refine sx_region ?_
  refine sv 11 (.slice q (dig B16 m).length c) ?_
  refine sv 12 (.int .i64 ((p : Nat) : Int)) ?_
  refine sv 13 (.int .i64 (-((p : Nat) : Int))) ?_ (hr := ((show _ = Result.ok (Next.value (.int .i64 (IntKind.wrap .i64 (0 - ((p : Nat) : Int))))) _ by kernel_rfl).trans (congrArg (fun z => Result.ok (Next.value (.int .i64 z)) _) ((IntWalk.i64_in _ (by omega)).trans (by omega)))))
  refine sv 14 (.agg #[.bool false, .slice q (dig B16 m).length c, .int .i64 (-((p : Nat) : Int))]) ?_
  replace hq := (hq.past ((bthru (bthru hbV1 hbV2) hbV3).trans (hOV4.below (by omega))))
  refine se 15 39 #[.agg #[.bool false, .slice q (dig B16 m).length c, .int .i64 (-((p : Nat) : Int))]] (fun Gx hGx => ?_)
  ((with_reducible refine (rbared false q _ c _ m x _ hq rfl lm (by omega) eB).mono ?_))
  rintro eV5 V5 ⟨p15, c15, rfl, x15, hbV5⟩
  have hzV5 := hbV5.size
  have lx15 := fun h => x15.lt h
  refine ⟨.agg #[.bool x.neg, .slice p15 (dig B16 x.m).length c15, .int .i64 x.e], rfl, hGx _ _ ?_⟩
  clear hGx Gx
  refine sn 6 #[.bool false, .slice none 0 0, .int .i64 0] 36 (fun V6 hbV6 hzV6 b6 => ?_)
  refine ss none b6 hT36 0 #[.bool x.neg, .slice p15 (dig B16 x.m).length c15, .int .i64 x.e] #[.bool x.neg, .slice p15 (dig B16 x.m).length c15, .int .i64 x.e] ?_
  have boV7 := b6
  clear b6
  intro V7 hOV7 b6
  have hzV7 := hOV7.size
  refine sx_nil ?_
  refine sx_then ?_
  refine wp_seq ?_
  replace b5 := (b5.past ((bthru hbV5 hbV6).trans (hOV7.below (by omega))))
  obtain ⟨V8, hVV8⟩ : ∃ V, V = (V7).drew := ⟨_, rfl⟩
  have hbV8 : Below (V7).heap.size (V7) V8 := by rw [hVV8]; exact (Below.refl _ _).drew
  have hzV8 : V8.heap.size = (V7).heap.size := by rw [hVV8]; rfl
  replace b6 := (b6.past hbV8)
  replace b5 := (b5.past hbV8)
  refine sxd _ (fun w' => Bt w' V5.heap.size 36 #[.bool x.neg, .slice p15 (dig B16 x.m).length c15, .int .i64 x.e] ∧ Bt w' V2.heap.size 36 #[.bool false, .slice (some ⟨V1.heap.size, 0, none⟩) 1 1, .int .i64 ((40 : Int) - ((p : Nat) : Int))]) hVV8 ⟨b6, b5⟩ ?_
  clear hVV8
  refine tk 0 16 (.agg #[.bool x.neg, .slice p15 (dig B16 x.m).length c15, .int .i64 x.e]) ⟨b6, b5⟩ ?_ (hy := fun w' hS => (exec_ld (by kernel_rfl) (run_ld hS.1 hT36 0 [.bool x.neg, .slice p15 (dig B16 x.m).length c15, .int .i64 x.e] (by kernel_rfl) (by kernel_rfl))))
  refine tk 1 17 (.agg #[.bool false, .slice (some ⟨V1.heap.size, 0, none⟩) 1 1, .int .i64 ((40 : Int) - ((p : Nat) : Int))]) ⟨b6, b5⟩ ?_ (hy := fun w' hS => (exec_ld (by kernel_rfl) (run_ld hS.2 hT36 0 [.bool false, .slice (some ⟨V1.heap.size, 0, none⟩) 1 1, .int .i64 ((40 : Int) - ((p : Nat) : Int))] (by kernel_rfl) (by kernel_rfl))))
  refine tk 4 20 (.agg #[.bool x.neg, .slice p15 (dig B16 x.m).length c15, .int .i64 x.e]) ⟨b6, b5⟩ ?_ (hy := fun w' hS => (exec_ld (by kernel_rfl) (run_ld hS.1 hT36 0 [.bool x.neg, .slice p15 (dig B16 x.m).length c15, .int .i64 x.e] (by kernel_rfl) (by kernel_rfl))))
  refine tk 5 21 (.agg #[.bool false, .slice (some ⟨V1.heap.size, 0, none⟩) 1 1, .int .i64 ((40 : Int) - ((p : Nat) : Int))]) ⟨b6, b5⟩ ?_ (hy := fun w' hS => (exec_ld (by kernel_rfl) (run_ld hS.2 hT36 0 [.bool false, .slice (some ⟨V1.heap.size, 0, none⟩) 1 1, .int .i64 ((40 : Int) - ((p : Nat) : Int))] (by kernel_rfl) (by kernel_rfl))))
  refine sxr [2] ?_
  refine rd1 (fun Kx hKx => ?_)
  replace b7 := (b7.past (bthru ((bthru (bthru (hbV3.trans (hOV4.below (by omega))) hbV5) hbV6).trans (hOV7.below (by omega))) hbV8))
  refine sek 18 24 #[.agg #[.bool false, .slice (some ⟨V1.heap.size, 0, none⟩) 1 1, .int .i64 ((40 : Int) - ((p : Nat) : Int))]] ?_
  ((with_reducible refine (rminusOne (40 - (p : Int)) _ 1 w.heap.size _ ((rf_lit (k := 1) b7).mono (by omega)) (by omega)).mono ?_))
  rintro eV9 V9 ⟨p18, c18, rfl, x18, hbV9⟩
  have hzV9 := hbV9.size
  have lx18 := fun h => x18.lt h
  refine ⟨.agg #[.bool true, .slice p18 1 c18, .int .i64 (40 - (p : Int))], rfl, ?_⟩
  replace b6 := (b6.past hbV9)
  replace b5 := (b5.past hbV9)
  refine hKx.out _ _ ⟨b6, b5⟩ ?_
  clear hKx Kx
  refine sxr [3] ?_
  refine rd1 (fun Kx hKx => ?_)
  replace x15 := (x15.past (bthru (bthru (hbV6.trans (hOV7.below (by omega))) hbV8) hbV9))
  refine sek 19 38 #[.agg #[.bool x.neg, .slice p15 (dig B16 x.m).length c15, .int .i64 x.e], .agg #[.bool true, .slice p18 1 c18, .int .i64 (40 - (p : Int))]] ?_
  ((with_reducible refine (rdplusOne x u true (40 - (p : Int)) p15 p18 c15 c18 _ x15.rd x18.rd fx (by omega) eL).mono ?_))
  rintro eV10 V10 ⟨p19, c19, rfl, x19, hbV10⟩
  have hzV10 := hbV10.size
  have lx19 := fun h => x19.lt h
  refine ⟨.agg #[.bool u.neg, .slice p19 (dig B16 u.m).length c19, .int .i64 u.e], rfl, ?_⟩
  replace b6 := (b6.past hbV10)
  replace b5 := (b5.past hbV10)
  refine hKx.out _ _ ⟨b6, b5⟩ ?_
  clear hKx Kx
  refine sxr [6] ?_
  refine rd1 (fun Kx hKx => ?_)
  replace x15 := (x15.past hbV10)
  replace b7 := (b7.past (bthru hbV9 hbV10))
  refine sek 22 38 #[.agg #[.bool x.neg, .slice p15 (dig B16 x.m).length c15, .int .i64 x.e], .agg #[.bool false, .slice (some ⟨V1.heap.size, 0, none⟩) 1 1, .int .i64 ((40 : Int) - ((p : Nat) : Int))]] ?_
  ((with_reducible refine (rdplusOne x v false (40 - (p : Int)) p15 _ c15 1 _ x15.rd (rf_lit (k := 1) b7).rd fx (by omega) eH).mono ?_))
  rintro eV11 V11 ⟨p22, c22, rfl, x22, hbV11⟩
  have hzV11 := hbV11.size
  have lx22 := fun h => x22.lt h
  refine ⟨.agg #[.bool v.neg, .slice p22 (dig B16 v.m).length c22, .int .i64 v.e], rfl, ?_⟩
  replace b6 := (b6.past hbV11)
  replace b5 := (b5.past hbV11)
  refine hKx.out _ _ ⟨b6, b5⟩ ?_
  clear hKx Kx
  refine tk 7 23 (.agg #[.bool u.neg, .slice p19 (dig B16 u.m).length c19, .int .i64 u.e, .bool v.neg, .slice p22 (dig B16 v.m).length c22, .int .i64 v.e]) ⟨b6, b5⟩ ?_
  refine sxr [8] ?_
  refine rd1 (fun Kx hKx => ?_)
  replace b4 := (b4.past (bthru (bthru (bthru (bthru ((bthru (bthru ((bthru hbV2 hbV3).trans (hOV4.below (by omega))) hbV5) hbV6).trans (hOV7.below (by omega))) hbV8) hbV9) hbV10) hbV11))
  refine ssk none b4 hT38 0 #[.bool u.neg, .slice p19 (dig B16 u.m).length c19, .int .i64 u.e, .bool v.neg, .slice p22 (dig B16 v.m).length c22, .int .i64 v.e] #[.bool u.neg, .slice p19 (dig B16 u.m).length c19, .int .i64 u.e, .bool v.neg, .slice p22 (dig B16 v.m).length c22, .int .i64 v.e] ?_
  have boV12 := b4
  clear b4
  intro V12 hOV12 b4
  have hzV12 := hOV12.size
  replace b6 := (b6.only hOV12 (by omega))
  replace b5 := (b5.only hOV12 (by omega))
  refine hKx.out _ _ ⟨b6, b5⟩ ?_
  clear hKx Kx
  refine sx_done (by kernel_rfl) ?_
  refine sx_then ?_
  refine wp_ret ?_
  have ⟨b4_0, b4_1, b4_2, b4_3, b4_4, b4_5⟩ := b4.bx.e6
  repeat (first | with_reducible refine sx_thenret ?_ | with_reducible refine sx_blockret ?_)
  refine bodyPost_ret (v := .agg #[.bool u.neg, .slice p19 (dig B16 u.m).length c19, .int .i64 u.e, .bool v.neg, .slice p22 (dig B16 v.m).length c22, .int .i64 v.e]) (by simp [results, Tryd.results13, go_sem, b4_0, b4_1, b4_2, b4_3, b4_4, b4_5]) rfl ?_
  replace x19 := ((x19.past hbV11).only hOV12 (fun h => by have := lx19 h; omega))
  replace x22 := (x22.only hOV12 (fun h => by have := lx22 h; omega))
  exact ⟨p19, c19, p22, c22, rfl, x19.mono (by omega), x22.mono (by omega), ((bthru (bthru (bthru (bthru ((bthru (bthru ((bthru (bthru hbV1 hbV2) hbV3).trans (hOV4.below (by omega))) hbV5) hbV6).trans (hOV7.below (by omega))) hbV8) hbV9) hbV10) hbV11).trans (hOV12.below (by omega)))⟩

end Go.Proofs.YtehodhanojgkgaaDoor

namespace Go.Slip

theorem rCmp_lit (a : Dv) (k : Nat) : rCmp a ⟨false, k, 0⟩ = rCmp a (norm (k : Int) 0) ∧ rCmp ⟨false, k, 0⟩ a = rCmp (norm (k : Int) 0) a := by
  have hz : ∀ f : Int, f ≤ 0 → zOf ⟨false, k, 0⟩ f = zOf (norm (k : Int) 0) f := fun f hf => by
    rw [zOf_norm _ hf]
    unfold zOf sg
    simp
  have h0 := norm_e (k : Int) (Int.le_refl 0)
  have e : ∃ f : Int, f ≤ 0 ∧ f ≤ a.e ∧ f ≤ (norm (k : Int) 0).e := ⟨min 0 a.e, by omega, by omega, by omega⟩
  obtain ⟨f, f0, f1, f2⟩ := e
  constructor
  · rw [rCmp_zOf a ⟨false, k, 0⟩ f1 f0, rCmp_zOf a _ f1 f2, hz f f0]
  · rw [rCmp_zOf ⟨false, k, 0⟩ a f0 f1, rCmp_zOf _ a f2 f1, hz f f0]
theorem dSign_norm (z E : Int) : dSign (norm z E) = Int.sign z := dSign_bare z E

end Go.Slip
namespace Go.Proofs.YtehodhanojgkgaaDoor
open Go.RowKit Go.Slip

theorem FitR.minus {d : Dv} (h : FitR d) : FitR (dMinus d) := ⟨h.len, h.lo, h.hi⟩

set_option maxHeartbeats 4000000 in
set_option maxRecDepth 100000 in
theorem bracketed_any (l h u v d : Dv) (n : Int) (pl ph pu pv : Option Addr) (cl ch cu cv b1 b2 b3 b4 : Nat) (w : World) (ol : Own w b1 .u32 58 pl cl (dig B32 l.m)) (oh : Own w b2 .u32 58 ph ch (dig B32 h.m)) (ru : Rf w b3 pu cu (dig B16 u.m)) (rv : Rf w b4 pv cv (dig B16 v.m))
    (Bl : Bare l) (Bh : Bare h) (el : errD l = 0) (eh : errD h = 0) (fl : FitR l) (fh : FitR h) (fu : FitR u) (fv : FitR v) (hd : rPlus h (dMinus l) = d) (fd : FitR d) (hn : -100000 ≤ n ∧ n ≤ 100000) (k1 : leD l h) (k2 : leD l v) (k3 : leD u h) (k4 : leD d ⟨false, 1, 4 - n⟩) :
    Calls Tryd.prog 12 #[.agg #[.bool l.neg, .slice pl (dig B32 l.m).length cl, .int .i64 l.e, .bool h.neg, .slice ph (dig B32 h.m).length ch, .int .i64 h.e], .agg #[.bool u.neg, .slice pu (dig B16 u.m).length cu, .int .i64 u.e, .bool v.neg, .slice pv (dig B16 v.m).length cv, .int .i64 v.e], .int .i64 n] w fun en w' => en = .returned (.bool true) ∧ Below w.heap.size w w' := by
  have fm := fl.minus
  have lru := fun h => ru.lt h
  have lrv := fun h => rv.lt h
  unfold leD at k2 k3 k4
  have hT27 : SxAgg Tryd.prog 27 6 := sxAgg_of (by kernel_rfl) (by kernel_rfl)
  have hT36 : SxAgg Tryd.prog 36 3 := sxAgg_of (by kernel_rfl) (by kernel_rfl)
  have hT38 : SxAgg Tryd.prog 38 6 := sxAgg_of (by kernel_rfl) (by kernel_rfl)
  refine calls_of_wp Tryd.func12 rfl ?_
  refine sx_frame (a' := ⟨((.agg #[.bool l.neg, .slice pl (dig B32 l.m).length cl, .int .i64 l.e, .bool h.neg, .slice ph (dig B32 h.m).length ch, .int .i64 h.e]) :: (.agg #[.bool u.neg, .slice pu (dig B16 u.m).length cu, .int .i64 u.e, .bool v.neg, .slice pv (dig B16 v.m).length cv, .int .i64 v.e]) :: (.int .i64 n) :: undef :: undef :: undef :: undef :: undef :: undef :: undef :: undef :: undef :: undef :: undef :: undef :: undef :: undef :: undef :: undef :: undef :: undef :: undef :: undef :: undef :: undef :: undef :: undef :: undef :: undef :: undef :: undef :: undef :: undef :: undef :: undef :: undef :: undef :: undef :: undef :: undef :: undef :: undef :: undef :: []).toArray, []⟩) (by kernel_rfl) ?_
  refine wp_seq ?_
  refine sx_region ?_
  refine sn 3 #[.bool l.neg, .slice pl (dig B32 l.m).length cl, .int .i64 l.e, .bool h.neg, .slice ph (dig B32 h.m).length ch, .int .i64 h.e] 27 (fun V1 hbV1 hzV1 b3 => ?_)
  refine sn 4 #[.bool u.neg, .slice pu (dig B16 u.m).length cu, .int .i64 u.e, .bool v.neg, .slice pv (dig B16 v.m).length cv, .int .i64 v.e] 38 (fun V2 hbV2 hzV2 b4 => ?_)
  refine sv 6 (.bool false) ?_
  refine sx_nil ?_
  refine sx_then ?_
  refine wp_seq ?_
  refine wp_seq ?_
  refine sx_region ?_
  replace b3 := (b3.past hbV2)
  refine sv 9 (.agg #[.bool l.neg, .slice pl (dig B32 l.m).length cl, .int .i64 l.e, .bool h.neg, .slice ph (dig B32 h.m).length ch, .int .i64 h.e]) ?_ (hr := (exec_ld (by kernel_rfl) (run_ld b3 hT27 0 [.bool l.neg, .slice pl (dig B32 l.m).length cl, .int .i64 l.e, .bool h.neg, .slice ph (dig B32 h.m).length ch, .int .i64 h.e] (by kernel_rfl) (by kernel_rfl))))
  replace ol := (ol.past (bthru hbV1 hbV2))
  replace oh := (oh.past (bthru hbV1 hbV2))
  refine se 10 22 #[.agg #[.bool l.neg, .slice pl (dig B32 l.m).length cl, .int .i64 l.e, .bool h.neg, .slice ph (dig B32 h.m).length ch, .int .i64 h.e]] (fun Gx hGx => ?_)
  ((with_reducible refine (rcheckball l h pl ph cl ch _ _ _ ol oh Bl Bh el eh k1).mono ?_))
  rintro eV3 V3 ⟨rfl, hbV3⟩
  have hzV3 := hbV3.size
  refine ⟨.int .i64 0, rfl, hGx _ _ ?_⟩
  clear hGx Gx
  refine sv 11 (.bool false) ?_
  refine sx_nil ?_
  refine sx_then ?_
  refine wp_cond_false (by kernel_rfl) ?_
  refine wp_skip ?_
  refine sx_then ?_
  refine wp_seq ?_
  refine sx_region ?_
  replace b3 := (b3.past hbV3)
  refine sv 12 (.agg #[.bool l.neg, .slice pl (dig B32 l.m).length cl, .int .i64 l.e, .bool h.neg, .slice ph (dig B32 h.m).length ch, .int .i64 h.e]) ?_ (hr := (exec_ld (by kernel_rfl) (run_ld b3 hT27 0 [.bool l.neg, .slice pl (dig B32 l.m).length cl, .int .i64 l.e, .bool h.neg, .slice ph (dig B32 h.m).length ch, .int .i64 h.e] (by kernel_rfl) (by kernel_rfl))))
  replace ol := (ol.past hbV3)
  replace oh := (oh.past hbV3)
  refine se 13 23 #[.agg #[.bool l.neg, .slice pl (dig B32 l.m).length cl, .int .i64 l.e, .bool h.neg, .slice ph (dig B32 h.m).length ch, .int .i64 h.e]] (fun Gx hGx => ?_)
  ((with_reducible refine (rofball l h pl ph cl ch _ _ _ ol oh Bl Bh el eh).mono ?_))
  rintro eV4 V4 ⟨p13, c13, q13, d13, rfl, x13, y13, hbV4⟩
  have hzV4 := hbV4.size
  have lx13 := fun h => x13.lt h
  have ly13 := fun h => y13.lt h
  refine ⟨.agg #[.bool l.neg, .slice p13 (dig B16 l.m).length c13, .int .i64 l.e, .bool h.neg, .slice q13 (dig B16 h.m).length d13, .int .i64 h.e], rfl, hGx _ _ ?_⟩
  clear hGx Gx
  refine sn 7 #[.bool false, .slice none 0 0, .int .i64 0, .bool false, .slice none 0 0, .int .i64 0] 38 (fun V5 hbV5 hzV5 b7 => ?_)
  refine ss none b7 hT38 0 #[.bool l.neg, .slice p13 (dig B16 l.m).length c13, .int .i64 l.e, .bool h.neg, .slice q13 (dig B16 h.m).length d13, .int .i64 h.e] #[.bool l.neg, .slice p13 (dig B16 l.m).length c13, .int .i64 l.e, .bool h.neg, .slice q13 (dig B16 h.m).length d13, .int .i64 h.e] ?_
  have boV6 := b7
  clear b7
  intro V6 hOV6 b7
  have hzV6 := hOV6.size
  refine sx_nil ?_
  refine sx_then ?_
  refine wp_seq ?_
  refine sx_cutg (R := fun a' w' => ∃ (kb8 : Nat) (p18 : Option Addr) (c18 : Nat) (p19 : Option Addr) (c19 : Nat), a' = ⟨((.agg #[.bool l.neg, .slice pl (dig B32 l.m).length cl, .int .i64 l.e, .bool h.neg, .slice ph (dig B32 h.m).length ch, .int .i64 h.e]) :: (.agg #[.bool u.neg, .slice pu (dig B16 u.m).length cu, .int .i64 u.e, .bool v.neg, .slice pv (dig B16 v.m).length cv, .int .i64 v.e]) :: (.int .i64 n) :: (.pointer (some ⟨w.heap.size, 0, none⟩)) :: (.pointer (some ⟨V1.heap.size, 0, none⟩)) :: undef :: (.bool false) :: (.pointer (some ⟨V4.heap.size, 0, none⟩)) :: (.pointer (some ⟨kb8, 0, none⟩)) :: (.agg #[.bool l.neg, .slice pl (dig B32 l.m).length cl, .int .i64 l.e, .bool h.neg, .slice ph (dig B32 h.m).length ch, .int .i64 h.e]) :: (.int .i64 0) :: (.bool false) :: (.agg #[.bool l.neg, .slice pl (dig B32 l.m).length cl, .int .i64 l.e, .bool h.neg, .slice ph (dig B32 h.m).length ch, .int .i64 h.e]) :: (.agg #[.bool l.neg, .slice p13 (dig B16 l.m).length c13, .int .i64 l.e, .bool h.neg, .slice q13 (dig B16 h.m).length d13, .int .i64 h.e]) :: (.pointer (some ⟨V4.heap.size, 3, none⟩)) :: (.agg #[.bool h.neg, .slice q13 (dig B16 h.m).length d13, .int .i64 h.e]) :: (.pointer (some ⟨V4.heap.size, 0, none⟩)) :: (.agg #[.bool l.neg, .slice p13 (dig B16 l.m).length c13, .int .i64 l.e]) :: (.agg #[.bool ((dMinus l).neg), .slice p18 (dig B16 (dMinus l).m).length c18, .int .i64 ((dMinus l).e)]) :: (.agg #[.bool d.neg, .slice p19 (dig B16 d.m).length c19, .int .i64 d.e]) :: undef :: undef :: undef :: undef :: undef :: undef :: undef :: undef :: undef :: undef :: undef :: undef :: undef :: undef :: undef :: undef :: undef :: undef :: undef :: undef :: undef :: undef :: undef :: []).toArray, []⟩ ∧ Bt w' kb8 36 #[.bool d.neg, .slice p19 (dig B16 d.m).length c19, .int .i64 d.e] ∧ Rf w' V6.heap.size p19 c19 (dig B16 d.m) ∧ Below V6.heap.size V6 w' ∧ V6.heap.size ≤ kb8) ?_ (fun Gx hGx => ?_)
  · skip
    obtain ⟨V7, hVV7⟩ : ∃ V, V = (V6).drew := ⟨_, rfl⟩
    have hbV7 : Below (V6).heap.size (V6) V7 := by rw [hVV7]; exact (Below.refl _ _).drew
    have hzV7 : V7.heap.size = (V6).heap.size := by rw [hVV7]; rfl
    replace b7 := (b7.past hbV7)
    refine sxd _ (fun w' => Bt w' V4.heap.size 38 #[.bool l.neg, .slice p13 (dig B16 l.m).length c13, .int .i64 l.e, .bool h.neg, .slice q13 (dig B16 h.m).length d13, .int .i64 h.e]) hVV7 b7 ?_
    clear hVV7
    refine tk 0 14 (.pointer (some ⟨V4.heap.size, 3, none⟩)) b7 ?_
    refine tk 1 15 (.agg #[.bool h.neg, .slice q13 (dig B16 h.m).length d13, .int .i64 h.e]) b7 ?_ (hy := fun w' hS => (exec_ld (by kernel_rfl) (run_ld hS hT36 3 [.bool h.neg, .slice q13 (dig B16 h.m).length d13, .int .i64 h.e] (by kernel_rfl) (by kernel_rfl))))
    refine tk 2 16 (.pointer (some ⟨V4.heap.size, 0, none⟩)) b7 ?_
    refine tk 3 17 (.agg #[.bool l.neg, .slice p13 (dig B16 l.m).length c13, .int .i64 l.e]) b7 ?_ (hy := fun w' hS => (exec_ld (by kernel_rfl) (run_ld hS hT36 0 [.bool l.neg, .slice p13 (dig B16 l.m).length c13, .int .i64 l.e] (by kernel_rfl) (by kernel_rfl))))
    refine sxr [4, 6] ?_
    refine rd2 (fun Kx hKx => ?_) ?_
    · skip
      replace x13 := (x13.past (bthru (hbV5.trans (hOV6.below (by omega))) hbV7))
      refine sek 18 24 #[.agg #[.bool l.neg, .slice p13 (dig B16 l.m).length c13, .int .i64 l.e]] ?_
      ((with_reducible refine (rminus l (dMinus l) p13 c13 w.heap.size _ (x13.mono (by omega)) (by omega) rfl).mono ?_))
      rintro eV8 V8 ⟨p18, c18, rfl, x18, hbV8⟩
      have hzV8 := hbV8.size
      have lx18 := fun h => x18.lt h
      refine ⟨.agg #[.bool ((dMinus l).neg), .slice p18 (dig B16 (dMinus l).m).length c18, .int .i64 ((dMinus l).e)], rfl, ?_⟩
      replace b7 := (b7.past hbV8)
      refine hKx.out _ _ b7 ?_
      clear hKx Kx
      refine sxr [5, 6] ?_
      refine rd2 (fun Kx hKx => ?_) ?_
      · skip
        replace y13 := (y13.past (bthru (bthru (hbV5.trans (hOV6.below (by omega))) hbV7) hbV8))
        refine sek 19 38 #[.agg #[.bool h.neg, .slice q13 (dig B16 h.m).length d13, .int .i64 h.e], .agg #[.bool ((dMinus l).neg), .slice p18 (dig B16 (dMinus l).m).length c18, .int .i64 ((dMinus l).e)]] ?_
        ((with_reducible refine (rdplus h (dMinus l) d q13 p18 d13 c18 _ y13.rd x18.rd fh fm hd).mono ?_))
        rintro eV9 V9 ⟨p19, c19, rfl, x19, hbV9⟩
        have hzV9 := hbV9.size
        have lx19 := fun h => x19.lt h
        refine ⟨.agg #[.bool d.neg, .slice p19 (dig B16 d.m).length c19, .int .i64 d.e], rfl, ?_⟩
        replace b7 := (b7.past hbV9)
        refine hKx.out _ _ b7 ?_
        clear hKx Kx
        refine sxr [6] ?_
        refine rd1 (fun Kx hKx => ?_)
        refine snk 8 #[.bool false, .slice none 0 0, .int .i64 0] 36 (fun V10 hbV10 hzV10 b8 => ?_)
        replace b7 := (b7.past hbV10)
        refine hKx.out _ _ b7 ?_
        clear hKx Kx
        refine sxr [7] ?_
        refine rd1 (fun Kx hKx => ?_)
        refine ssk none b8 hT36 0 #[.bool d.neg, .slice p19 (dig B16 d.m).length c19, .int .i64 d.e] #[.bool d.neg, .slice p19 (dig B16 d.m).length c19, .int .i64 d.e] ?_
        have boV11 := b8
        clear b8
        intro V11 hOV11 b8
        have hzV11 := hOV11.size
        replace b7 := (b7.only hOV11 (by omega))
        refine hKx.out _ _ b7 ?_
        clear hKx Kx
        refine sx_done (by kernel_rfl) ?_
        replace x19 := (x19.past (hbV10.trans (hOV11.below (by omega))))
        exact ⟨rfl, V9.heap.size, p18, c18, p19, c19, by kernel_rfl, b8, (x19.mono (by omega)), ((bthru (bthru (bthru hbV7 hbV8) hbV9) hbV10).trans (hOV11.below (by omega))), by omega⟩
      refine rd1 (fun Kx hKx => ?_)
      refine snk 8 #[.bool false, .slice none 0 0, .int .i64 0] 36 (fun V9 hbV9 hzV9 b8 => ?_)
      replace b7 := (b7.past hbV9)
      refine hKx.out _ _ b7 ?_
      clear hKx Kx
      refine sxr [5] ?_
      refine rd1 (fun Kx hKx => ?_)
      replace y13 := (y13.past (bthru (bthru (bthru (hbV5.trans (hOV6.below (by omega))) hbV7) hbV8) hbV9))
      replace x18 := (x18.past hbV9)
      refine sek 19 38 #[.agg #[.bool h.neg, .slice q13 (dig B16 h.m).length d13, .int .i64 h.e], .agg #[.bool ((dMinus l).neg), .slice p18 (dig B16 (dMinus l).m).length c18, .int .i64 ((dMinus l).e)]] ?_
      ((with_reducible refine (rdplus h (dMinus l) d q13 p18 d13 c18 _ y13.rd x18.rd fh fm hd).mono ?_))
      rintro eV10 V10 ⟨p19, c19, rfl, x19, hbV10⟩
      have hzV10 := hbV10.size
      have lx19 := fun h => x19.lt h
      refine ⟨.agg #[.bool d.neg, .slice p19 (dig B16 d.m).length c19, .int .i64 d.e], rfl, ?_⟩
      replace b7 := (b7.past hbV10)
      refine hKx.out _ _ b7 ?_
      clear hKx Kx
      refine sxr [7] ?_
      refine rd1 (fun Kx hKx => ?_)
      replace b8 := (b8.past hbV10)
      refine ssk none b8 hT36 0 #[.bool d.neg, .slice p19 (dig B16 d.m).length c19, .int .i64 d.e] #[.bool d.neg, .slice p19 (dig B16 d.m).length c19, .int .i64 d.e] ?_
      have boV11 := b8
      clear b8
      intro V11 hOV11 b8
      have hzV11 := hOV11.size
      replace b7 := (b7.only hOV11 (by omega))
      refine hKx.out _ _ b7 ?_
      clear hKx Kx
      refine sx_done (by kernel_rfl) ?_
      replace x19 := (x19.only hOV11 (fun h => by have := lx19 h; omega))
      exact ⟨rfl, V8.heap.size, p18, c18, p19, c19, by kernel_rfl, b8, (x19.mono (by omega)), ((bthru (bthru (bthru hbV7 hbV8) hbV9) hbV10).trans (hOV11.below (by omega))), by omega⟩
    refine rd1 (fun Kx hKx => ?_)
    refine snk 8 #[.bool false, .slice none 0 0, .int .i64 0] 36 (fun V8 hbV8 hzV8 b8 => ?_)
    replace b7 := (b7.past hbV8)
    refine hKx.out _ _ b7 ?_
    clear hKx Kx
    refine sxr [4] ?_
    refine rd1 (fun Kx hKx => ?_)
    replace x13 := (x13.past (bthru (bthru (hbV5.trans (hOV6.below (by omega))) hbV7) hbV8))
    refine sek 18 24 #[.agg #[.bool l.neg, .slice p13 (dig B16 l.m).length c13, .int .i64 l.e]] ?_
    ((with_reducible refine (rminus l (dMinus l) p13 c13 w.heap.size _ (x13.mono (by omega)) (by omega) rfl).mono ?_))
    rintro eV9 V9 ⟨p18, c18, rfl, x18, hbV9⟩
    have hzV9 := hbV9.size
    have lx18 := fun h => x18.lt h
    refine ⟨.agg #[.bool ((dMinus l).neg), .slice p18 (dig B16 (dMinus l).m).length c18, .int .i64 ((dMinus l).e)], rfl, ?_⟩
    replace b7 := (b7.past hbV9)
    refine hKx.out _ _ b7 ?_
    clear hKx Kx
    refine sxr [5] ?_
    refine rd1 (fun Kx hKx => ?_)
    replace y13 := (y13.past (bthru (bthru (bthru (hbV5.trans (hOV6.below (by omega))) hbV7) hbV8) hbV9))
    refine sek 19 38 #[.agg #[.bool h.neg, .slice q13 (dig B16 h.m).length d13, .int .i64 h.e], .agg #[.bool ((dMinus l).neg), .slice p18 (dig B16 (dMinus l).m).length c18, .int .i64 ((dMinus l).e)]] ?_
    ((with_reducible refine (rdplus h (dMinus l) d q13 p18 d13 c18 _ y13.rd x18.rd fh fm hd).mono ?_))
    rintro eV10 V10 ⟨p19, c19, rfl, x19, hbV10⟩
    have hzV10 := hbV10.size
    have lx19 := fun h => x19.lt h
    refine ⟨.agg #[.bool d.neg, .slice p19 (dig B16 d.m).length c19, .int .i64 d.e], rfl, ?_⟩
    replace b7 := (b7.past hbV10)
    refine hKx.out _ _ b7 ?_
    clear hKx Kx
    refine sxr [7] ?_
    refine rd1 (fun Kx hKx => ?_)
    replace b8 := (b8.past (bthru hbV9 hbV10))
    refine ssk none b8 hT36 0 #[.bool d.neg, .slice p19 (dig B16 d.m).length c19, .int .i64 d.e] #[.bool d.neg, .slice p19 (dig B16 d.m).length c19, .int .i64 d.e] ?_
    have boV11 := b8
    clear b8
    intro V11 hOV11 b8
    have hzV11 := hOV11.size
    replace b7 := (b7.only hOV11 (by omega))
    refine hKx.out _ _ b7 ?_
    clear hKx Kx
    refine sx_done (by kernel_rfl) ?_
    replace x19 := (x19.only hOV11 (fun h => by have := lx19 h; omega))
    exact ⟨rfl, V7.heap.size, p18, c18, p19, c19, by kernel_rfl, b8, (x19.mono (by omega)), ((bthru (bthru (bthru hbV7 hbV8) hbV9) hbV10).trans (hOV11.below (by omega))), by omega⟩
  rintro _ V7 ⟨kb8, p18, c18, p19, c19, rfl, b8, x19, hbV7, hkb8⟩
  refine hGx _ _ ?_
  clear hGx Gx
  have hzV7 := hbV7.size
  have hlb8 := b8.lt
  have lx19 := fun h => x19.lt h
  refine sx_then ?_
  refine wp_seq ?_
  refine sx_region ?_
  refine sv 20 (.pointer (some ⟨V4.heap.size, 0, none⟩)) ?_
  replace b7 := (b7.past hbV7)
  refine sv 21 (.agg #[.bool l.neg, .slice p13 (dig B16 l.m).length c13, .int .i64 l.e]) ?_ (hr := (exec_ld (by kernel_rfl) (run_ld b7 hT36 0 [.bool l.neg, .slice p13 (dig B16 l.m).length c13, .int .i64 l.e] (by kernel_rfl) (by kernel_rfl))))
  refine sv 22 (.pointer (some ⟨V1.heap.size, 3, none⟩)) ?_
  replace b4 := (b4.past (bthru ((bthru (bthru hbV3 hbV4) hbV5).trans (hOV6.below (by omega))) hbV7))
  refine sv 23 (.agg #[.bool v.neg, .slice pv (dig B16 v.m).length cv, .int .i64 v.e]) ?_ (hr := (exec_ld (by kernel_rfl) (run_ld b4 hT36 3 [.bool v.neg, .slice pv (dig B16 v.m).length cv, .int .i64 v.e] (by kernel_rfl) (by kernel_rfl))))
  replace x13 := (x13.past (bthru (hbV5.trans (hOV6.below (by omega))) hbV7))
  replace rv := (rv.past (bthru ((bthru (bthru (bthru (bthru hbV1 hbV2) hbV3) hbV4) hbV5).trans (hOV6.below (by omega))) hbV7))
  refine se 24 26 #[.agg #[.bool l.neg, .slice p13 (dig B16 l.m).length c13, .int .i64 l.e], .agg #[.bool v.neg, .slice pv (dig B16 v.m).length cv, .int .i64 v.e]] (fun Gx hGx => ?_)
  ((with_reducible refine (rdcmp l v p13 pv c13 cv _ x13.rd rv.rd rv.cap fl fv).mono ?_))
  rintro eV8 V8 ⟨rfl, hbV8⟩
  have hzV8 := hbV8.size
  refine ⟨.int .i64 (rCmp l v), rfl, hGx _ _ ?_⟩
  clear hGx Gx
  refine sv 25 (.bool true) ?_ (hr := ((show _ = Result.ok (Next.value (.bool (decide ((rCmp l v) ≤ 0)))) _ from (by kernel_rfl)).trans (congrArg (fun z => Result.ok (Next.value (.bool z)) _) (show (decide ((rCmp l v) ≤ 0)) = true from decide_eq_true k2))))
  refine sv 26 (.bool true) ?_
  refine sv 27 (.pointer (some ⟨V1.heap.size, 0, none⟩)) ?_
  replace b4 := (b4.past hbV8)
  refine sv 28 (.agg #[.bool u.neg, .slice pu (dig B16 u.m).length cu, .int .i64 u.e]) ?_ (hr := (exec_ld (by kernel_rfl) (run_ld b4 hT36 0 [.bool u.neg, .slice pu (dig B16 u.m).length cu, .int .i64 u.e] (by kernel_rfl) (by kernel_rfl))))
  refine sv 29 (.pointer (some ⟨V4.heap.size, 3, none⟩)) ?_
  replace b7 := (b7.past hbV8)
  refine sv 30 (.agg #[.bool h.neg, .slice q13 (dig B16 h.m).length d13, .int .i64 h.e]) ?_ (hr := (exec_ld (by kernel_rfl) (run_ld b7 hT36 3 [.bool h.neg, .slice q13 (dig B16 h.m).length d13, .int .i64 h.e] (by kernel_rfl) (by kernel_rfl))))
  replace ru := (ru.past (bthru (bthru ((bthru (bthru (bthru (bthru hbV1 hbV2) hbV3) hbV4) hbV5).trans (hOV6.below (by omega))) hbV7) hbV8))
  replace y13 := (y13.past (bthru (bthru (hbV5.trans (hOV6.below (by omega))) hbV7) hbV8))
  refine se 31 26 #[.agg #[.bool u.neg, .slice pu (dig B16 u.m).length cu, .int .i64 u.e], .agg #[.bool h.neg, .slice q13 (dig B16 h.m).length d13, .int .i64 h.e]] (fun Gx hGx => ?_)
  ((with_reducible refine (rdcmp u h pu q13 cu d13 _ ru.rd y13.rd y13.cap fu fh).mono ?_))
  rintro eV9 V9 ⟨rfl, hbV9⟩
  have hzV9 := hbV9.size
  refine ⟨.int .i64 (rCmp u h), rfl, hGx _ _ ?_⟩
  clear hGx Gx
  refine sv 32 (.bool true) ?_ (hr := ((show _ = Result.ok (Next.value (.bool (decide ((rCmp u h) ≤ 0)))) _ from (by kernel_rfl)).trans (congrArg (fun z => Result.ok (Next.value (.bool z)) _) (show (decide ((rCmp u h) ≤ 0)) = true from decide_eq_true k3))))
  refine sv 33 (.bool true) ?_
  refine sv 34 (.bool true) ?_
  replace b8 := (b8.past (bthru hbV8 hbV9))
  refine sv 35 (.agg #[.bool d.neg, .slice p19 (dig B16 d.m).length c19, .int .i64 d.e]) ?_ (hr := (exec_ld (by kernel_rfl) (run_ld b8 hT36 0 [.bool d.neg, .slice p19 (dig B16 d.m).length c19, .int .i64 d.e] (by kernel_rfl) (by kernel_rfl))))
  refine snv 36 (.slice (some ⟨V9.heap.size, 0, none⟩) 1 1) #[.int .i64 1] 3 (fun V10 hbV10 hzV10 b36 => ?_)
  refine sv 37 (.int .i64 n) ?_
  refine sv 38 (.int .i64 (4 - n)) ?_ (hr := ((show _ = Result.ok (Next.value (.int .i64 (IntKind.wrap .i64 ((4 : Int) - n)))) _ by kernel_rfl).trans (congrArg (fun z => Result.ok (Next.value (.int .i64 z)) _) (IntWalk.i64_in _ (by omega)))))
  refine sv 39 (.agg #[.bool false, .slice (some ⟨V9.heap.size, 0, none⟩) 1 1, .int .i64 (4 - n)]) ?_
  replace x19 := (x19.past (bthru (bthru hbV8 hbV9) hbV10))
  refine se 40 26 #[.agg #[.bool d.neg, .slice p19 (dig B16 d.m).length c19, .int .i64 d.e], .agg #[.bool false, .slice (some ⟨V9.heap.size, 0, none⟩) 1 1, .int .i64 (4 - n)]] (fun Gx hGx => ?_)
  ((with_reducible refine (rdcmpOne d false (4 - n) p19 _ c19 1 1 _ x19.rd (rone (k := 1) b36 (by omega) (by omega)) (by omega) (by omega) (by omega) fd (by omega)).mono ?_))
  rintro eV11 V11 ⟨rfl, hbV11⟩
  have hzV11 := hbV11.size
  refine ⟨.int .i64 (rCmp d ⟨false, 1, 4 - n⟩), rfl, hGx _ _ ?_⟩
  clear hGx Gx
  refine sv 41 (.bool true) ?_ (hr := ((show _ = Result.ok (Next.value (.bool (decide ((rCmp d ⟨false, 1, 4 - n⟩) ≤ 0)))) _ from (by kernel_rfl)).trans (congrArg (fun z => Result.ok (Next.value (.bool z)) _) (show (decide ((rCmp d ⟨false, 1, 4 - n⟩) ≤ 0)) = true from decide_eq_true k4))))
  refine sv 42 (.bool true) ?_
  refine sv 6 (.bool true) ?_
  refine sx_nil ?_
  refine sx_then ?_
  refine wp_ret ?_
  repeat (first | with_reducible refine sx_thenret ?_ | with_reducible refine sx_blockret ?_)
  refine bodyPost_ret (v := .bool true) (by simp [results, Tryd.results12, go_sem]) rfl ?_
  exact ⟨rfl, (bthru (bthru (bthru (bthru (bthru ((bthru (bthru (bthru (bthru hbV1 hbV2) hbV3) hbV4) hbV5).trans (hOV6.below (by omega))) hbV7) hbV8) hbV9) hbV10) hbV11)⟩

set_option maxHeartbeats 4000000 in
set_option maxRecDepth 100000 in
theorem meet_any (l h u v : Dv) (pl ph pu pv : Option Addr) (cl ch cu cv b1 b2 b3 b4 : Nat) (w : World) (ol : Own w b1 .u32 58 pl cl (dig B32 l.m)) (oh : Own w b2 .u32 58 ph ch (dig B32 h.m)) (ou : Own w b3 .u32 58 pu cu (dig B32 u.m)) (ov : Own w b4 .u32 58 pv cv (dig B32 v.m))
    (Bl : Bare l) (Bh : Bare h) (Bu : Bare u) (Bv : Bare v) (el : errD l = 0) (eh : errD h = 0) (eu : errD u = 0) (ev : errD v = 0) (fl : FitR l) (fh : FitR h) (fu : FitR u) (fv : FitR v) (k1 : leD l v) (k2 : leD u h) :
    Calls Tryd.prog 18 #[.agg #[.bool l.neg, .slice pl (dig B32 l.m).length cl, .int .i64 l.e, .bool h.neg, .slice ph (dig B32 h.m).length ch, .int .i64 h.e], .agg #[.bool u.neg, .slice pu (dig B32 u.m).length cu, .int .i64 u.e, .bool v.neg, .slice pv (dig B32 v.m).length cv, .int .i64 v.e]] w fun en w' => en = .returned (.bool true) ∧ Below w.heap.size w w' := by
  unfold leD at k1 k2
  have hT27 : SxAgg Tryd.prog 27 6 := sxAgg_of (by kernel_rfl) (by kernel_rfl)
  have hT36 : SxAgg Tryd.prog 36 3 := sxAgg_of (by kernel_rfl) (by kernel_rfl)
  have hT38 : SxAgg Tryd.prog 38 6 := sxAgg_of (by kernel_rfl) (by kernel_rfl)
  refine calls_of_wp Tryd.func18 rfl ?_
  refine sx_frame (a' := ⟨((.agg #[.bool l.neg, .slice pl (dig B32 l.m).length cl, .int .i64 l.e, .bool h.neg, .slice ph (dig B32 h.m).length ch, .int .i64 h.e]) :: (.agg #[.bool u.neg, .slice pu (dig B32 u.m).length cu, .int .i64 u.e, .bool v.neg, .slice pv (dig B32 v.m).length cv, .int .i64 v.e]) :: undef :: undef :: undef :: undef :: undef :: undef :: undef :: undef :: undef :: undef :: undef :: undef :: undef :: undef :: undef :: undef :: undef :: undef :: undef :: undef :: undef :: undef :: undef :: []).toArray, []⟩) (by kernel_rfl) ?_
  refine wp_seq ?_
  refine sx_region ?_
  refine sn 2 #[.bool l.neg, .slice pl (dig B32 l.m).length cl, .int .i64 l.e, .bool h.neg, .slice ph (dig B32 h.m).length ch, .int .i64 h.e] 27 (fun V1 hbV1 hzV1 b2 => ?_)
  refine sn 3 #[.bool u.neg, .slice pu (dig B32 u.m).length cu, .int .i64 u.e, .bool v.neg, .slice pv (dig B32 v.m).length cv, .int .i64 v.e] 27 (fun V2 hbV2 hzV2 b3 => ?_)
  refine sv 4 (.bool false) ?_
  refine sx_nil ?_
  refine sx_then ?_
  refine wp_seq ?_
  refine sx_cutg (R := fun a' w' => ∃ (kb5 : Nat) (kb6 : Nat) (p8 : Option Addr) (c8 : Nat) (q8 : Option Addr) (d8 : Nat) (p10 : Option Addr) (c10 : Nat) (q10 : Option Addr) (d10 : Nat), a' = ⟨((.agg #[.bool l.neg, .slice pl (dig B32 l.m).length cl, .int .i64 l.e, .bool h.neg, .slice ph (dig B32 h.m).length ch, .int .i64 h.e]) :: (.agg #[.bool u.neg, .slice pu (dig B32 u.m).length cu, .int .i64 u.e, .bool v.neg, .slice pv (dig B32 v.m).length cv, .int .i64 v.e]) :: (.pointer (some ⟨w.heap.size, 0, none⟩)) :: (.pointer (some ⟨V1.heap.size, 0, none⟩)) :: (.bool false) :: (.pointer (some ⟨kb5, 0, none⟩)) :: (.pointer (some ⟨kb6, 0, none⟩)) :: (.agg #[.bool l.neg, .slice pl (dig B32 l.m).length cl, .int .i64 l.e, .bool h.neg, .slice ph (dig B32 h.m).length ch, .int .i64 h.e]) :: (.agg #[.bool l.neg, .slice p8 (dig B16 l.m).length c8, .int .i64 l.e, .bool h.neg, .slice q8 (dig B16 h.m).length d8, .int .i64 h.e]) :: (.agg #[.bool u.neg, .slice pu (dig B32 u.m).length cu, .int .i64 u.e, .bool v.neg, .slice pv (dig B32 v.m).length cv, .int .i64 v.e]) :: (.agg #[.bool u.neg, .slice p10 (dig B16 u.m).length c10, .int .i64 u.e, .bool v.neg, .slice q10 (dig B16 v.m).length d10, .int .i64 v.e]) :: undef :: undef :: undef :: undef :: undef :: undef :: undef :: undef :: undef :: undef :: undef :: undef :: undef :: undef :: []).toArray, []⟩ ∧ Bt w' kb5 38 #[.bool l.neg, .slice p8 (dig B16 l.m).length c8, .int .i64 l.e, .bool h.neg, .slice q8 (dig B16 h.m).length d8, .int .i64 h.e] ∧ Bt w' kb6 38 #[.bool u.neg, .slice p10 (dig B16 u.m).length c10, .int .i64 u.e, .bool v.neg, .slice q10 (dig B16 v.m).length d10, .int .i64 v.e] ∧ Rf w' V2.heap.size p8 c8 (dig B16 l.m) ∧ Rf w' V2.heap.size q8 d8 (dig B16 h.m) ∧ Rf w' V2.heap.size p10 c10 (dig B16 u.m) ∧ Rf w' V2.heap.size q10 d10 (dig B16 v.m) ∧ Below V2.heap.size V2 w' ∧ V2.heap.size ≤ kb5 ∧ V2.heap.size ≤ kb6 ∧ kb6 ≠ kb5) ?_ (fun Gx hGx => ?_)
  · skip
    replace b2 := (b2.past hbV2)
    obtain ⟨V3, hVV3⟩ : ∃ V, V = (V2).drew := ⟨_, rfl⟩
    have hbV3 : Below (V2).heap.size (V2) V3 := by rw [hVV3]; exact (Below.refl _ _).drew
    have hzV3 : V3.heap.size = (V2).heap.size := by rw [hVV3]; rfl
    replace b2 := (b2.past hbV3)
    replace b3 := (b3.past hbV3)
    refine sxd _ (fun w' => Bt w' w.heap.size 27 #[.bool l.neg, .slice pl (dig B32 l.m).length cl, .int .i64 l.e, .bool h.neg, .slice ph (dig B32 h.m).length ch, .int .i64 h.e] ∧ Bt w' V1.heap.size 27 #[.bool u.neg, .slice pu (dig B32 u.m).length cu, .int .i64 u.e, .bool v.neg, .slice pv (dig B32 v.m).length cv, .int .i64 v.e]) hVV3 ⟨b2, b3⟩ ?_
    clear hVV3
    refine tk 0 7 (.agg #[.bool l.neg, .slice pl (dig B32 l.m).length cl, .int .i64 l.e, .bool h.neg, .slice ph (dig B32 h.m).length ch, .int .i64 h.e]) ⟨b2, b3⟩ ?_ (hy := fun w' hS => (exec_ld (by kernel_rfl) (run_ld hS.1 hT27 0 [.bool l.neg, .slice pl (dig B32 l.m).length cl, .int .i64 l.e, .bool h.neg, .slice ph (dig B32 h.m).length ch, .int .i64 h.e] (by kernel_rfl) (by kernel_rfl))))
    refine tk 2 9 (.agg #[.bool u.neg, .slice pu (dig B32 u.m).length cu, .int .i64 u.e, .bool v.neg, .slice pv (dig B32 v.m).length cv, .int .i64 v.e]) ⟨b2, b3⟩ ?_ (hy := fun w' hS => (exec_ld (by kernel_rfl) (run_ld hS.2 hT27 0 [.bool u.neg, .slice pu (dig B32 u.m).length cu, .int .i64 u.e, .bool v.neg, .slice pv (dig B32 v.m).length cv, .int .i64 v.e] (by kernel_rfl) (by kernel_rfl))))
    refine sxr [1, 4, 5] ?_
    refine rd2 (fun Kx hKx => ?_) ?_
    · skip
      replace ol := (ol.past (bthru (bthru hbV1 hbV2) hbV3))
      replace oh := (oh.past (bthru (bthru hbV1 hbV2) hbV3))
      refine sek 8 23 #[.agg #[.bool l.neg, .slice pl (dig B32 l.m).length cl, .int .i64 l.e, .bool h.neg, .slice ph (dig B32 h.m).length ch, .int .i64 h.e]] ?_
      ((with_reducible refine (rofball l h pl ph cl ch _ _ _ ol oh Bl Bh el eh).mono ?_))
      rintro eV4 V4 ⟨p8, c8, q8, d8, rfl, x8, y8, hbV4⟩
      have hzV4 := hbV4.size
      have lx8 := fun h => x8.lt h
      have ly8 := fun h => y8.lt h
      refine ⟨.agg #[.bool l.neg, .slice p8 (dig B16 l.m).length c8, .int .i64 l.e, .bool h.neg, .slice q8 (dig B16 h.m).length d8, .int .i64 h.e], rfl, ?_⟩
      replace b2 := (b2.past hbV4)
      replace b3 := (b3.past hbV4)
      refine hKx.out _ _ ⟨b2, b3⟩ ?_
      clear hKx Kx
      refine sxr [3, 4, 5] ?_
      refine rd2 (fun Kx hKx => ?_) ?_
      · skip
        replace ou := (ou.past (bthru (bthru (bthru hbV1 hbV2) hbV3) hbV4))
        replace ov := (ov.past (bthru (bthru (bthru hbV1 hbV2) hbV3) hbV4))
        refine sek 10 23 #[.agg #[.bool u.neg, .slice pu (dig B32 u.m).length cu, .int .i64 u.e, .bool v.neg, .slice pv (dig B32 v.m).length cv, .int .i64 v.e]] ?_
        ((with_reducible refine (rofball u v pu pv cu cv _ _ _ ou ov Bu Bv eu ev).mono ?_))
        rintro eV5 V5 ⟨p10, c10, q10, d10, rfl, x10, y10, hbV5⟩
        have hzV5 := hbV5.size
        have lx10 := fun h => x10.lt h
        have ly10 := fun h => y10.lt h
        refine ⟨.agg #[.bool u.neg, .slice p10 (dig B16 u.m).length c10, .int .i64 u.e, .bool v.neg, .slice q10 (dig B16 v.m).length d10, .int .i64 v.e], rfl, ?_⟩
        replace b2 := (b2.past hbV5)
        replace b3 := (b3.past hbV5)
        refine hKx.out _ _ ⟨b2, b3⟩ ?_
        clear hKx Kx
        refine sxr [4, 5] ?_
        refine rd2 (fun Kx hKx => ?_) ?_
        · skip
          refine snk 5 #[.bool false, .slice none 0 0, .int .i64 0, .bool false, .slice none 0 0, .int .i64 0] 38 (fun V6 hbV6 hzV6 b5 => ?_)
          replace b2 := (b2.past hbV6)
          replace b3 := (b3.past hbV6)
          refine hKx.out _ _ ⟨b2, b3⟩ ?_
          clear hKx Kx
          refine sxr [5] ?_
          refine rd1 (fun Kx hKx => ?_)
          refine snk 6 #[.bool false, .slice none 0 0, .int .i64 0, .bool false, .slice none 0 0, .int .i64 0] 38 (fun V7 hbV7 hzV7 b6 => ?_)
          replace b2 := (b2.past hbV7)
          replace b3 := (b3.past hbV7)
          refine hKx.out _ _ ⟨b2, b3⟩ ?_
          clear hKx Kx
          refine sxr [6] ?_
          refine rd1 (fun Kx hKx => ?_)
          replace b5 := (b5.past hbV7)
          refine ssk none b5 hT38 0 #[.bool l.neg, .slice p8 (dig B16 l.m).length c8, .int .i64 l.e, .bool h.neg, .slice q8 (dig B16 h.m).length d8, .int .i64 h.e] #[.bool l.neg, .slice p8 (dig B16 l.m).length c8, .int .i64 l.e, .bool h.neg, .slice q8 (dig B16 h.m).length d8, .int .i64 h.e] ?_
          have boV8 := b5
          clear b5
          intro V8 hOV8 b5
          have hzV8 := hOV8.size
          replace b2 := (b2.only hOV8 (by omega))
          replace b3 := (b3.only hOV8 (by omega))
          refine hKx.out _ _ ⟨b2, b3⟩ ?_
          clear hKx Kx
          refine sxr [7] ?_
          refine rd1 (fun Kx hKx => ?_)
          replace b6 := (b6.only hOV8 (by omega))
          refine ssk none b6 hT38 0 #[.bool u.neg, .slice p10 (dig B16 u.m).length c10, .int .i64 u.e, .bool v.neg, .slice q10 (dig B16 v.m).length d10, .int .i64 v.e] #[.bool u.neg, .slice p10 (dig B16 u.m).length c10, .int .i64 u.e, .bool v.neg, .slice q10 (dig B16 v.m).length d10, .int .i64 v.e] ?_
          have boV9 := b6
          clear b6
          intro V9 hOV9 b6
          have hzV9 := hOV9.size
          replace b2 := (b2.only hOV9 (by omega))
          replace b3 := (b3.only hOV9 (by omega))
          refine hKx.out _ _ ⟨b2, b3⟩ ?_
          clear hKx Kx
          refine sx_done (by kernel_rfl) ?_
          replace b5 := (b5.only hOV9 (by omega))
          replace x8 := (x8.past (((bthru (bthru hbV5 hbV6) hbV7).trans (hOV8.below (by omega))).trans (hOV9.below (by omega))))
          replace y8 := (y8.past (((bthru (bthru hbV5 hbV6) hbV7).trans (hOV8.below (by omega))).trans (hOV9.below (by omega))))
          replace x10 := (x10.past (((bthru hbV6 hbV7).trans (hOV8.below (by omega))).trans (hOV9.below (by omega))))
          replace y10 := (y10.past (((bthru hbV6 hbV7).trans (hOV8.below (by omega))).trans (hOV9.below (by omega))))
          exact ⟨rfl, V5.heap.size, V6.heap.size, p8, c8, q8, d8, p10, c10, q10, d10, by kernel_rfl, b5, b6, (x8.mono (by omega)), (y8.mono (by omega)), (x10.mono (by omega)), (y10.mono (by omega)), (((bthru (bthru (bthru (bthru hbV3 hbV4) hbV5) hbV6) hbV7).trans (hOV8.below (by omega))).trans (hOV9.below (by omega))), by omega, by omega, by omega⟩
        refine rd1 (fun Kx hKx => ?_)
        refine snk 6 #[.bool false, .slice none 0 0, .int .i64 0, .bool false, .slice none 0 0, .int .i64 0] 38 (fun V6 hbV6 hzV6 b6 => ?_)
        replace b2 := (b2.past hbV6)
        replace b3 := (b3.past hbV6)
        refine hKx.out _ _ ⟨b2, b3⟩ ?_
        clear hKx Kx
        refine sxr [4] ?_
        refine rd1 (fun Kx hKx => ?_)
        refine snk 5 #[.bool false, .slice none 0 0, .int .i64 0, .bool false, .slice none 0 0, .int .i64 0] 38 (fun V7 hbV7 hzV7 b5 => ?_)
        replace b2 := (b2.past hbV7)
        replace b3 := (b3.past hbV7)
        refine hKx.out _ _ ⟨b2, b3⟩ ?_
        clear hKx Kx
        refine sxr [6] ?_
        refine rd1 (fun Kx hKx => ?_)
        refine ssk none b5 hT38 0 #[.bool l.neg, .slice p8 (dig B16 l.m).length c8, .int .i64 l.e, .bool h.neg, .slice q8 (dig B16 h.m).length d8, .int .i64 h.e] #[.bool l.neg, .slice p8 (dig B16 l.m).length c8, .int .i64 l.e, .bool h.neg, .slice q8 (dig B16 h.m).length d8, .int .i64 h.e] ?_
        have boV8 := b5
        clear b5
        intro V8 hOV8 b5
        have hzV8 := hOV8.size
        replace b2 := (b2.only hOV8 (by omega))
        replace b3 := (b3.only hOV8 (by omega))
        refine hKx.out _ _ ⟨b2, b3⟩ ?_
        clear hKx Kx
        refine sxr [7] ?_
        refine rd1 (fun Kx hKx => ?_)
        replace b6 := (b6.past (hbV7.trans (hOV8.below (by omega))))
        refine ssk none b6 hT38 0 #[.bool u.neg, .slice p10 (dig B16 u.m).length c10, .int .i64 u.e, .bool v.neg, .slice q10 (dig B16 v.m).length d10, .int .i64 v.e] #[.bool u.neg, .slice p10 (dig B16 u.m).length c10, .int .i64 u.e, .bool v.neg, .slice q10 (dig B16 v.m).length d10, .int .i64 v.e] ?_
        have boV9 := b6
        clear b6
        intro V9 hOV9 b6
        have hzV9 := hOV9.size
        replace b2 := (b2.only hOV9 (by omega))
        replace b3 := (b3.only hOV9 (by omega))
        refine hKx.out _ _ ⟨b2, b3⟩ ?_
        clear hKx Kx
        refine sx_done (by kernel_rfl) ?_
        replace b5 := (b5.only hOV9 (by omega))
        replace x8 := (x8.past (((bthru (bthru hbV5 hbV6) hbV7).trans (hOV8.below (by omega))).trans (hOV9.below (by omega))))
        replace y8 := (y8.past (((bthru (bthru hbV5 hbV6) hbV7).trans (hOV8.below (by omega))).trans (hOV9.below (by omega))))
        replace x10 := (x10.past (((bthru hbV6 hbV7).trans (hOV8.below (by omega))).trans (hOV9.below (by omega))))
        replace y10 := (y10.past (((bthru hbV6 hbV7).trans (hOV8.below (by omega))).trans (hOV9.below (by omega))))
        exact ⟨rfl, V6.heap.size, V5.heap.size, p8, c8, q8, d8, p10, c10, q10, d10, by kernel_rfl, b5, b6, (x8.mono (by omega)), (y8.mono (by omega)), (x10.mono (by omega)), (y10.mono (by omega)), (((bthru (bthru (bthru (bthru hbV3 hbV4) hbV5) hbV6) hbV7).trans (hOV8.below (by omega))).trans (hOV9.below (by omega))), by omega, by omega, by omega⟩
      refine rd2 (fun Kx hKx => ?_) ?_
      · skip
        refine snk 5 #[.bool false, .slice none 0 0, .int .i64 0, .bool false, .slice none 0 0, .int .i64 0] 38 (fun V5 hbV5 hzV5 b5 => ?_)
        replace b2 := (b2.past hbV5)
        replace b3 := (b3.past hbV5)
        refine hKx.out _ _ ⟨b2, b3⟩ ?_
        clear hKx Kx
        refine sxr [3, 5] ?_
        refine rd2 (fun Kx hKx => ?_) ?_
        · skip
          replace ou := (ou.past (bthru (bthru (bthru (bthru hbV1 hbV2) hbV3) hbV4) hbV5))
          replace ov := (ov.past (bthru (bthru (bthru (bthru hbV1 hbV2) hbV3) hbV4) hbV5))
          refine sek 10 23 #[.agg #[.bool u.neg, .slice pu (dig B32 u.m).length cu, .int .i64 u.e, .bool v.neg, .slice pv (dig B32 v.m).length cv, .int .i64 v.e]] ?_
          ((with_reducible refine (rofball u v pu pv cu cv _ _ _ ou ov Bu Bv eu ev).mono ?_))
          rintro eV6 V6 ⟨p10, c10, q10, d10, rfl, x10, y10, hbV6⟩
          have hzV6 := hbV6.size
          have lx10 := fun h => x10.lt h
          have ly10 := fun h => y10.lt h
          refine ⟨.agg #[.bool u.neg, .slice p10 (dig B16 u.m).length c10, .int .i64 u.e, .bool v.neg, .slice q10 (dig B16 v.m).length d10, .int .i64 v.e], rfl, ?_⟩
          replace b2 := (b2.past hbV6)
          replace b3 := (b3.past hbV6)
          refine hKx.out _ _ ⟨b2, b3⟩ ?_
          clear hKx Kx
          refine sxr [5] ?_
          refine rd1 (fun Kx hKx => ?_)
          refine snk 6 #[.bool false, .slice none 0 0, .int .i64 0, .bool false, .slice none 0 0, .int .i64 0] 38 (fun V7 hbV7 hzV7 b6 => ?_)
          replace b2 := (b2.past hbV7)
          replace b3 := (b3.past hbV7)
          refine hKx.out _ _ ⟨b2, b3⟩ ?_
          clear hKx Kx
          refine sxr [6] ?_
          refine rd1 (fun Kx hKx => ?_)
          replace b5 := (b5.past (bthru hbV6 hbV7))
          refine ssk none b5 hT38 0 #[.bool l.neg, .slice p8 (dig B16 l.m).length c8, .int .i64 l.e, .bool h.neg, .slice q8 (dig B16 h.m).length d8, .int .i64 h.e] #[.bool l.neg, .slice p8 (dig B16 l.m).length c8, .int .i64 l.e, .bool h.neg, .slice q8 (dig B16 h.m).length d8, .int .i64 h.e] ?_
          have boV8 := b5
          clear b5
          intro V8 hOV8 b5
          have hzV8 := hOV8.size
          replace b2 := (b2.only hOV8 (by omega))
          replace b3 := (b3.only hOV8 (by omega))
          refine hKx.out _ _ ⟨b2, b3⟩ ?_
          clear hKx Kx
          refine sxr [7] ?_
          refine rd1 (fun Kx hKx => ?_)
          replace b6 := (b6.only hOV8 (by omega))
          refine ssk none b6 hT38 0 #[.bool u.neg, .slice p10 (dig B16 u.m).length c10, .int .i64 u.e, .bool v.neg, .slice q10 (dig B16 v.m).length d10, .int .i64 v.e] #[.bool u.neg, .slice p10 (dig B16 u.m).length c10, .int .i64 u.e, .bool v.neg, .slice q10 (dig B16 v.m).length d10, .int .i64 v.e] ?_
          have boV9 := b6
          clear b6
          intro V9 hOV9 b6
          have hzV9 := hOV9.size
          replace b2 := (b2.only hOV9 (by omega))
          replace b3 := (b3.only hOV9 (by omega))
          refine hKx.out _ _ ⟨b2, b3⟩ ?_
          clear hKx Kx
          refine sx_done (by kernel_rfl) ?_
          replace b5 := (b5.only hOV9 (by omega))
          replace x8 := (x8.past (((bthru (bthru hbV5 hbV6) hbV7).trans (hOV8.below (by omega))).trans (hOV9.below (by omega))))
          replace y8 := (y8.past (((bthru (bthru hbV5 hbV6) hbV7).trans (hOV8.below (by omega))).trans (hOV9.below (by omega))))
          replace x10 := (((x10.past hbV7).only hOV8 (fun h => by have := lx10 h; omega)).only hOV9 (fun h => by have := lx10 h; omega))
          replace y10 := (((y10.past hbV7).only hOV8 (fun h => by have := ly10 h; omega)).only hOV9 (fun h => by have := ly10 h; omega))
          exact ⟨rfl, V4.heap.size, V6.heap.size, p8, c8, q8, d8, p10, c10, q10, d10, by kernel_rfl, b5, b6, (x8.mono (by omega)), (y8.mono (by omega)), (x10.mono (by omega)), (y10.mono (by omega)), (((bthru (bthru (bthru (bthru hbV3 hbV4) hbV5) hbV6) hbV7).trans (hOV8.below (by omega))).trans (hOV9.below (by omega))), by omega, by omega, by omega⟩
        refine rd1 (fun Kx hKx => ?_)
        refine snk 6 #[.bool false, .slice none 0 0, .int .i64 0, .bool false, .slice none 0 0, .int .i64 0] 38 (fun V6 hbV6 hzV6 b6 => ?_)
        replace b2 := (b2.past hbV6)
        replace b3 := (b3.past hbV6)
        refine hKx.out _ _ ⟨b2, b3⟩ ?_
        clear hKx Kx
        refine sxr [3] ?_
        refine rd1 (fun Kx hKx => ?_)
        replace ou := (ou.past (bthru (bthru (bthru (bthru (bthru hbV1 hbV2) hbV3) hbV4) hbV5) hbV6))
        replace ov := (ov.past (bthru (bthru (bthru (bthru (bthru hbV1 hbV2) hbV3) hbV4) hbV5) hbV6))
        refine sek 10 23 #[.agg #[.bool u.neg, .slice pu (dig B32 u.m).length cu, .int .i64 u.e, .bool v.neg, .slice pv (dig B32 v.m).length cv, .int .i64 v.e]] ?_
        ((with_reducible refine (rofball u v pu pv cu cv _ _ _ ou ov Bu Bv eu ev).mono ?_))
        rintro eV7 V7 ⟨p10, c10, q10, d10, rfl, x10, y10, hbV7⟩
        have hzV7 := hbV7.size
        have lx10 := fun h => x10.lt h
        have ly10 := fun h => y10.lt h
        refine ⟨.agg #[.bool u.neg, .slice p10 (dig B16 u.m).length c10, .int .i64 u.e, .bool v.neg, .slice q10 (dig B16 v.m).length d10, .int .i64 v.e], rfl, ?_⟩
        replace b2 := (b2.past hbV7)
        replace b3 := (b3.past hbV7)
        refine hKx.out _ _ ⟨b2, b3⟩ ?_
        clear hKx Kx
        refine sxr [6] ?_
        refine rd1 (fun Kx hKx => ?_)
        replace b5 := (b5.past (bthru hbV6 hbV7))
        refine ssk none b5 hT38 0 #[.bool l.neg, .slice p8 (dig B16 l.m).length c8, .int .i64 l.e, .bool h.neg, .slice q8 (dig B16 h.m).length d8, .int .i64 h.e] #[.bool l.neg, .slice p8 (dig B16 l.m).length c8, .int .i64 l.e, .bool h.neg, .slice q8 (dig B16 h.m).length d8, .int .i64 h.e] ?_
        have boV8 := b5
        clear b5
        intro V8 hOV8 b5
        have hzV8 := hOV8.size
        replace b2 := (b2.only hOV8 (by omega))
        replace b3 := (b3.only hOV8 (by omega))
        refine hKx.out _ _ ⟨b2, b3⟩ ?_
        clear hKx Kx
        refine sxr [7] ?_
        refine rd1 (fun Kx hKx => ?_)
        replace b6 := ((b6.past hbV7).only hOV8 (by omega))
        refine ssk none b6 hT38 0 #[.bool u.neg, .slice p10 (dig B16 u.m).length c10, .int .i64 u.e, .bool v.neg, .slice q10 (dig B16 v.m).length d10, .int .i64 v.e] #[.bool u.neg, .slice p10 (dig B16 u.m).length c10, .int .i64 u.e, .bool v.neg, .slice q10 (dig B16 v.m).length d10, .int .i64 v.e] ?_
        have boV9 := b6
        clear b6
        intro V9 hOV9 b6
        have hzV9 := hOV9.size
        replace b2 := (b2.only hOV9 (by omega))
        replace b3 := (b3.only hOV9 (by omega))
        refine hKx.out _ _ ⟨b2, b3⟩ ?_
        clear hKx Kx
        refine sx_done (by kernel_rfl) ?_
        replace b5 := (b5.only hOV9 (by omega))
        replace x8 := (x8.past (((bthru (bthru hbV5 hbV6) hbV7).trans (hOV8.below (by omega))).trans (hOV9.below (by omega))))
        replace y8 := (y8.past (((bthru (bthru hbV5 hbV6) hbV7).trans (hOV8.below (by omega))).trans (hOV9.below (by omega))))
        replace x10 := ((x10.only hOV8 (fun h => by have := lx10 h; omega)).only hOV9 (fun h => by have := lx10 h; omega))
        replace y10 := ((y10.only hOV8 (fun h => by have := ly10 h; omega)).only hOV9 (fun h => by have := ly10 h; omega))
        exact ⟨rfl, V4.heap.size, V5.heap.size, p8, c8, q8, d8, p10, c10, q10, d10, by kernel_rfl, b5, b6, (x8.mono (by omega)), (y8.mono (by omega)), (x10.mono (by omega)), (y10.mono (by omega)), (((bthru (bthru (bthru (bthru hbV3 hbV4) hbV5) hbV6) hbV7).trans (hOV8.below (by omega))).trans (hOV9.below (by omega))), by omega, by omega, by omega⟩
      refine rd1 (fun Kx hKx => ?_)
      refine snk 6 #[.bool false, .slice none 0 0, .int .i64 0, .bool false, .slice none 0 0, .int .i64 0] 38 (fun V5 hbV5 hzV5 b6 => ?_)
      replace b2 := (b2.past hbV5)
      replace b3 := (b3.past hbV5)
      refine hKx.out _ _ ⟨b2, b3⟩ ?_
      clear hKx Kx
      refine sxr [3, 4] ?_
      refine rd2 (fun Kx hKx => ?_) ?_
      · skip
        replace ou := (ou.past (bthru (bthru (bthru (bthru hbV1 hbV2) hbV3) hbV4) hbV5))
        replace ov := (ov.past (bthru (bthru (bthru (bthru hbV1 hbV2) hbV3) hbV4) hbV5))
        refine sek 10 23 #[.agg #[.bool u.neg, .slice pu (dig B32 u.m).length cu, .int .i64 u.e, .bool v.neg, .slice pv (dig B32 v.m).length cv, .int .i64 v.e]] ?_
        ((with_reducible refine (rofball u v pu pv cu cv _ _ _ ou ov Bu Bv eu ev).mono ?_))
        rintro eV6 V6 ⟨p10, c10, q10, d10, rfl, x10, y10, hbV6⟩
        have hzV6 := hbV6.size
        have lx10 := fun h => x10.lt h
        have ly10 := fun h => y10.lt h
        refine ⟨.agg #[.bool u.neg, .slice p10 (dig B16 u.m).length c10, .int .i64 u.e, .bool v.neg, .slice q10 (dig B16 v.m).length d10, .int .i64 v.e], rfl, ?_⟩
        replace b2 := (b2.past hbV6)
        replace b3 := (b3.past hbV6)
        refine hKx.out _ _ ⟨b2, b3⟩ ?_
        clear hKx Kx
        refine sxr [4] ?_
        refine rd1 (fun Kx hKx => ?_)
        refine snk 5 #[.bool false, .slice none 0 0, .int .i64 0, .bool false, .slice none 0 0, .int .i64 0] 38 (fun V7 hbV7 hzV7 b5 => ?_)
        replace b2 := (b2.past hbV7)
        replace b3 := (b3.past hbV7)
        refine hKx.out _ _ ⟨b2, b3⟩ ?_
        clear hKx Kx
        refine sxr [6] ?_
        refine rd1 (fun Kx hKx => ?_)
        refine ssk none b5 hT38 0 #[.bool l.neg, .slice p8 (dig B16 l.m).length c8, .int .i64 l.e, .bool h.neg, .slice q8 (dig B16 h.m).length d8, .int .i64 h.e] #[.bool l.neg, .slice p8 (dig B16 l.m).length c8, .int .i64 l.e, .bool h.neg, .slice q8 (dig B16 h.m).length d8, .int .i64 h.e] ?_
        have boV8 := b5
        clear b5
        intro V8 hOV8 b5
        have hzV8 := hOV8.size
        replace b2 := (b2.only hOV8 (by omega))
        replace b3 := (b3.only hOV8 (by omega))
        refine hKx.out _ _ ⟨b2, b3⟩ ?_
        clear hKx Kx
        refine sxr [7] ?_
        refine rd1 (fun Kx hKx => ?_)
        replace b6 := (b6.past ((bthru hbV6 hbV7).trans (hOV8.below (by omega))))
        refine ssk none b6 hT38 0 #[.bool u.neg, .slice p10 (dig B16 u.m).length c10, .int .i64 u.e, .bool v.neg, .slice q10 (dig B16 v.m).length d10, .int .i64 v.e] #[.bool u.neg, .slice p10 (dig B16 u.m).length c10, .int .i64 u.e, .bool v.neg, .slice q10 (dig B16 v.m).length d10, .int .i64 v.e] ?_
        have boV9 := b6
        clear b6
        intro V9 hOV9 b6
        have hzV9 := hOV9.size
        replace b2 := (b2.only hOV9 (by omega))
        replace b3 := (b3.only hOV9 (by omega))
        refine hKx.out _ _ ⟨b2, b3⟩ ?_
        clear hKx Kx
        refine sx_done (by kernel_rfl) ?_
        replace b5 := (b5.only hOV9 (by omega))
        replace x8 := (x8.past (((bthru (bthru hbV5 hbV6) hbV7).trans (hOV8.below (by omega))).trans (hOV9.below (by omega))))
        replace y8 := (y8.past (((bthru (bthru hbV5 hbV6) hbV7).trans (hOV8.below (by omega))).trans (hOV9.below (by omega))))
        replace x10 := ((x10.past (hbV7.trans (hOV8.below (by omega)))).only hOV9 (fun h => by have := lx10 h; omega))
        replace y10 := ((y10.past (hbV7.trans (hOV8.below (by omega)))).only hOV9 (fun h => by have := ly10 h; omega))
        exact ⟨rfl, V6.heap.size, V4.heap.size, p8, c8, q8, d8, p10, c10, q10, d10, by kernel_rfl, b5, b6, (x8.mono (by omega)), (y8.mono (by omega)), (x10.mono (by omega)), (y10.mono (by omega)), (((bthru (bthru (bthru (bthru hbV3 hbV4) hbV5) hbV6) hbV7).trans (hOV8.below (by omega))).trans (hOV9.below (by omega))), by omega, by omega, by omega⟩
      refine rd1 (fun Kx hKx => ?_)
      refine snk 5 #[.bool false, .slice none 0 0, .int .i64 0, .bool false, .slice none 0 0, .int .i64 0] 38 (fun V6 hbV6 hzV6 b5 => ?_)
      replace b2 := (b2.past hbV6)
      replace b3 := (b3.past hbV6)
      refine hKx.out _ _ ⟨b2, b3⟩ ?_
      clear hKx Kx
      refine sxr [3] ?_
      refine rd1 (fun Kx hKx => ?_)
      replace ou := (ou.past (bthru (bthru (bthru (bthru (bthru hbV1 hbV2) hbV3) hbV4) hbV5) hbV6))
      replace ov := (ov.past (bthru (bthru (bthru (bthru (bthru hbV1 hbV2) hbV3) hbV4) hbV5) hbV6))
      refine sek 10 23 #[.agg #[.bool u.neg, .slice pu (dig B32 u.m).length cu, .int .i64 u.e, .bool v.neg, .slice pv (dig B32 v.m).length cv, .int .i64 v.e]] ?_
      ((with_reducible refine (rofball u v pu pv cu cv _ _ _ ou ov Bu Bv eu ev).mono ?_))
      rintro eV7 V7 ⟨p10, c10, q10, d10, rfl, x10, y10, hbV7⟩
      have hzV7 := hbV7.size
      have lx10 := fun h => x10.lt h
      have ly10 := fun h => y10.lt h
      refine ⟨.agg #[.bool u.neg, .slice p10 (dig B16 u.m).length c10, .int .i64 u.e, .bool v.neg, .slice q10 (dig B16 v.m).length d10, .int .i64 v.e], rfl, ?_⟩
      replace b2 := (b2.past hbV7)
      replace b3 := (b3.past hbV7)
      refine hKx.out _ _ ⟨b2, b3⟩ ?_
      clear hKx Kx
      refine sxr [6] ?_
      refine rd1 (fun Kx hKx => ?_)
      replace b5 := (b5.past hbV7)
      refine ssk none b5 hT38 0 #[.bool l.neg, .slice p8 (dig B16 l.m).length c8, .int .i64 l.e, .bool h.neg, .slice q8 (dig B16 h.m).length d8, .int .i64 h.e] #[.bool l.neg, .slice p8 (dig B16 l.m).length c8, .int .i64 l.e, .bool h.neg, .slice q8 (dig B16 h.m).length d8, .int .i64 h.e] ?_
      have boV8 := b5
      clear b5
      intro V8 hOV8 b5
      have hzV8 := hOV8.size
      replace b2 := (b2.only hOV8 (by omega))
      replace b3 := (b3.only hOV8 (by omega))
      refine hKx.out _ _ ⟨b2, b3⟩ ?_
      clear hKx Kx
      refine sxr [7] ?_
      refine rd1 (fun Kx hKx => ?_)
      replace b6 := (b6.past ((bthru hbV6 hbV7).trans (hOV8.below (by omega))))
      refine ssk none b6 hT38 0 #[.bool u.neg, .slice p10 (dig B16 u.m).length c10, .int .i64 u.e, .bool v.neg, .slice q10 (dig B16 v.m).length d10, .int .i64 v.e] #[.bool u.neg, .slice p10 (dig B16 u.m).length c10, .int .i64 u.e, .bool v.neg, .slice q10 (dig B16 v.m).length d10, .int .i64 v.e] ?_
      have boV9 := b6
      clear b6
      intro V9 hOV9 b6
      have hzV9 := hOV9.size
      replace b2 := (b2.only hOV9 (by omega))
      replace b3 := (b3.only hOV9 (by omega))
      refine hKx.out _ _ ⟨b2, b3⟩ ?_
      clear hKx Kx
      refine sx_done (by kernel_rfl) ?_
      replace b5 := (b5.only hOV9 (by omega))
      replace x8 := (x8.past (((bthru (bthru hbV5 hbV6) hbV7).trans (hOV8.below (by omega))).trans (hOV9.below (by omega))))
      replace y8 := (y8.past (((bthru (bthru hbV5 hbV6) hbV7).trans (hOV8.below (by omega))).trans (hOV9.below (by omega))))
      replace x10 := ((x10.only hOV8 (fun h => by have := lx10 h; omega)).only hOV9 (fun h => by have := lx10 h; omega))
      replace y10 := ((y10.only hOV8 (fun h => by have := ly10 h; omega)).only hOV9 (fun h => by have := ly10 h; omega))
      exact ⟨rfl, V5.heap.size, V4.heap.size, p8, c8, q8, d8, p10, c10, q10, d10, by kernel_rfl, b5, b6, (x8.mono (by omega)), (y8.mono (by omega)), (x10.mono (by omega)), (y10.mono (by omega)), (((bthru (bthru (bthru (bthru hbV3 hbV4) hbV5) hbV6) hbV7).trans (hOV8.below (by omega))).trans (hOV9.below (by omega))), by omega, by omega, by omega⟩
    refine rd2 (fun Kx hKx => ?_) ?_
    · skip
      refine snk 5 #[.bool false, .slice none 0 0, .int .i64 0, .bool false, .slice none 0 0, .int .i64 0] 38 (fun V4 hbV4 hzV4 b5 => ?_)
      replace b2 := (b2.past hbV4)
      replace b3 := (b3.past hbV4)
      refine hKx.out _ _ ⟨b2, b3⟩ ?_
      clear hKx Kx
      refine sxr [1, 5] ?_
      refine rd2 (fun Kx hKx => ?_) ?_
      · skip
        replace ol := (ol.past (bthru (bthru (bthru hbV1 hbV2) hbV3) hbV4))
        replace oh := (oh.past (bthru (bthru (bthru hbV1 hbV2) hbV3) hbV4))
        refine sek 8 23 #[.agg #[.bool l.neg, .slice pl (dig B32 l.m).length cl, .int .i64 l.e, .bool h.neg, .slice ph (dig B32 h.m).length ch, .int .i64 h.e]] ?_
        ((with_reducible refine (rofball l h pl ph cl ch _ _ _ ol oh Bl Bh el eh).mono ?_))
        rintro eV5 V5 ⟨p8, c8, q8, d8, rfl, x8, y8, hbV5⟩
        have hzV5 := hbV5.size
        have lx8 := fun h => x8.lt h
        have ly8 := fun h => y8.lt h
        refine ⟨.agg #[.bool l.neg, .slice p8 (dig B16 l.m).length c8, .int .i64 l.e, .bool h.neg, .slice q8 (dig B16 h.m).length d8, .int .i64 h.e], rfl, ?_⟩
        replace b2 := (b2.past hbV5)
        replace b3 := (b3.past hbV5)
        refine hKx.out _ _ ⟨b2, b3⟩ ?_
        clear hKx Kx
        refine sxr [3, 5] ?_
        refine rd2 (fun Kx hKx => ?_) ?_
        · skip
          replace ou := (ou.past (bthru (bthru (bthru (bthru hbV1 hbV2) hbV3) hbV4) hbV5))
          replace ov := (ov.past (bthru (bthru (bthru (bthru hbV1 hbV2) hbV3) hbV4) hbV5))
          refine sek 10 23 #[.agg #[.bool u.neg, .slice pu (dig B32 u.m).length cu, .int .i64 u.e, .bool v.neg, .slice pv (dig B32 v.m).length cv, .int .i64 v.e]] ?_
          ((with_reducible refine (rofball u v pu pv cu cv _ _ _ ou ov Bu Bv eu ev).mono ?_))
          rintro eV6 V6 ⟨p10, c10, q10, d10, rfl, x10, y10, hbV6⟩
          have hzV6 := hbV6.size
          have lx10 := fun h => x10.lt h
          have ly10 := fun h => y10.lt h
          refine ⟨.agg #[.bool u.neg, .slice p10 (dig B16 u.m).length c10, .int .i64 u.e, .bool v.neg, .slice q10 (dig B16 v.m).length d10, .int .i64 v.e], rfl, ?_⟩
          replace b2 := (b2.past hbV6)
          replace b3 := (b3.past hbV6)
          refine hKx.out _ _ ⟨b2, b3⟩ ?_
          clear hKx Kx
          refine sxr [5] ?_
          refine rd1 (fun Kx hKx => ?_)
          refine snk 6 #[.bool false, .slice none 0 0, .int .i64 0, .bool false, .slice none 0 0, .int .i64 0] 38 (fun V7 hbV7 hzV7 b6 => ?_)
          replace b2 := (b2.past hbV7)
          replace b3 := (b3.past hbV7)
          refine hKx.out _ _ ⟨b2, b3⟩ ?_
          clear hKx Kx
          refine sxr [6] ?_
          refine rd1 (fun Kx hKx => ?_)
          replace b5 := (b5.past (bthru (bthru hbV5 hbV6) hbV7))
          refine ssk none b5 hT38 0 #[.bool l.neg, .slice p8 (dig B16 l.m).length c8, .int .i64 l.e, .bool h.neg, .slice q8 (dig B16 h.m).length d8, .int .i64 h.e] #[.bool l.neg, .slice p8 (dig B16 l.m).length c8, .int .i64 l.e, .bool h.neg, .slice q8 (dig B16 h.m).length d8, .int .i64 h.e] ?_
          have boV8 := b5
          clear b5
          intro V8 hOV8 b5
          have hzV8 := hOV8.size
          replace b2 := (b2.only hOV8 (by omega))
          replace b3 := (b3.only hOV8 (by omega))
          refine hKx.out _ _ ⟨b2, b3⟩ ?_
          clear hKx Kx
          refine sxr [7] ?_
          refine rd1 (fun Kx hKx => ?_)
          replace b6 := (b6.only hOV8 (by omega))
          refine ssk none b6 hT38 0 #[.bool u.neg, .slice p10 (dig B16 u.m).length c10, .int .i64 u.e, .bool v.neg, .slice q10 (dig B16 v.m).length d10, .int .i64 v.e] #[.bool u.neg, .slice p10 (dig B16 u.m).length c10, .int .i64 u.e, .bool v.neg, .slice q10 (dig B16 v.m).length d10, .int .i64 v.e] ?_
          have boV9 := b6
          clear b6
          intro V9 hOV9 b6
          have hzV9 := hOV9.size
          replace b2 := (b2.only hOV9 (by omega))
          replace b3 := (b3.only hOV9 (by omega))
          refine hKx.out _ _ ⟨b2, b3⟩ ?_
          clear hKx Kx
          refine sx_done (by kernel_rfl) ?_
          replace b5 := (b5.only hOV9 (by omega))
          replace x8 := (((x8.past (bthru hbV6 hbV7)).only hOV8 (fun h => by have := lx8 h; omega)).only hOV9 (fun h => by have := lx8 h; omega))
          replace y8 := (((y8.past (bthru hbV6 hbV7)).only hOV8 (fun h => by have := ly8 h; omega)).only hOV9 (fun h => by have := ly8 h; omega))
          replace x10 := (((x10.past hbV7).only hOV8 (fun h => by have := lx10 h; omega)).only hOV9 (fun h => by have := lx10 h; omega))
          replace y10 := (((y10.past hbV7).only hOV8 (fun h => by have := ly10 h; omega)).only hOV9 (fun h => by have := ly10 h; omega))
          exact ⟨rfl, V3.heap.size, V6.heap.size, p8, c8, q8, d8, p10, c10, q10, d10, by kernel_rfl, b5, b6, (x8.mono (by omega)), (y8.mono (by omega)), (x10.mono (by omega)), (y10.mono (by omega)), (((bthru (bthru (bthru (bthru hbV3 hbV4) hbV5) hbV6) hbV7).trans (hOV8.below (by omega))).trans (hOV9.below (by omega))), by omega, by omega, by omega⟩
        refine rd1 (fun Kx hKx => ?_)
        refine snk 6 #[.bool false, .slice none 0 0, .int .i64 0, .bool false, .slice none 0 0, .int .i64 0] 38 (fun V6 hbV6 hzV6 b6 => ?_)
        replace b2 := (b2.past hbV6)
        replace b3 := (b3.past hbV6)
        refine hKx.out _ _ ⟨b2, b3⟩ ?_
        clear hKx Kx
        refine sxr [3] ?_
        refine rd1 (fun Kx hKx => ?_)
        replace ou := (ou.past (bthru (bthru (bthru (bthru (bthru hbV1 hbV2) hbV3) hbV4) hbV5) hbV6))
        replace ov := (ov.past (bthru (bthru (bthru (bthru (bthru hbV1 hbV2) hbV3) hbV4) hbV5) hbV6))
        refine sek 10 23 #[.agg #[.bool u.neg, .slice pu (dig B32 u.m).length cu, .int .i64 u.e, .bool v.neg, .slice pv (dig B32 v.m).length cv, .int .i64 v.e]] ?_
        ((with_reducible refine (rofball u v pu pv cu cv _ _ _ ou ov Bu Bv eu ev).mono ?_))
        rintro eV7 V7 ⟨p10, c10, q10, d10, rfl, x10, y10, hbV7⟩
        have hzV7 := hbV7.size
        have lx10 := fun h => x10.lt h
        have ly10 := fun h => y10.lt h
        refine ⟨.agg #[.bool u.neg, .slice p10 (dig B16 u.m).length c10, .int .i64 u.e, .bool v.neg, .slice q10 (dig B16 v.m).length d10, .int .i64 v.e], rfl, ?_⟩
        replace b2 := (b2.past hbV7)
        replace b3 := (b3.past hbV7)
        refine hKx.out _ _ ⟨b2, b3⟩ ?_
        clear hKx Kx
        refine sxr [6] ?_
        refine rd1 (fun Kx hKx => ?_)
        replace b5 := (b5.past (bthru (bthru hbV5 hbV6) hbV7))
        refine ssk none b5 hT38 0 #[.bool l.neg, .slice p8 (dig B16 l.m).length c8, .int .i64 l.e, .bool h.neg, .slice q8 (dig B16 h.m).length d8, .int .i64 h.e] #[.bool l.neg, .slice p8 (dig B16 l.m).length c8, .int .i64 l.e, .bool h.neg, .slice q8 (dig B16 h.m).length d8, .int .i64 h.e] ?_
        have boV8 := b5
        clear b5
        intro V8 hOV8 b5
        have hzV8 := hOV8.size
        replace b2 := (b2.only hOV8 (by omega))
        replace b3 := (b3.only hOV8 (by omega))
        refine hKx.out _ _ ⟨b2, b3⟩ ?_
        clear hKx Kx
        refine sxr [7] ?_
        refine rd1 (fun Kx hKx => ?_)
        replace b6 := ((b6.past hbV7).only hOV8 (by omega))
        refine ssk none b6 hT38 0 #[.bool u.neg, .slice p10 (dig B16 u.m).length c10, .int .i64 u.e, .bool v.neg, .slice q10 (dig B16 v.m).length d10, .int .i64 v.e] #[.bool u.neg, .slice p10 (dig B16 u.m).length c10, .int .i64 u.e, .bool v.neg, .slice q10 (dig B16 v.m).length d10, .int .i64 v.e] ?_
        have boV9 := b6
        clear b6
        intro V9 hOV9 b6
        have hzV9 := hOV9.size
        replace b2 := (b2.only hOV9 (by omega))
        replace b3 := (b3.only hOV9 (by omega))
        refine hKx.out _ _ ⟨b2, b3⟩ ?_
        clear hKx Kx
        refine sx_done (by kernel_rfl) ?_
        replace b5 := (b5.only hOV9 (by omega))
        replace x8 := (((x8.past (bthru hbV6 hbV7)).only hOV8 (fun h => by have := lx8 h; omega)).only hOV9 (fun h => by have := lx8 h; omega))
        replace y8 := (((y8.past (bthru hbV6 hbV7)).only hOV8 (fun h => by have := ly8 h; omega)).only hOV9 (fun h => by have := ly8 h; omega))
        replace x10 := ((x10.only hOV8 (fun h => by have := lx10 h; omega)).only hOV9 (fun h => by have := lx10 h; omega))
        replace y10 := ((y10.only hOV8 (fun h => by have := ly10 h; omega)).only hOV9 (fun h => by have := ly10 h; omega))
        exact ⟨rfl, V3.heap.size, V5.heap.size, p8, c8, q8, d8, p10, c10, q10, d10, by kernel_rfl, b5, b6, (x8.mono (by omega)), (y8.mono (by omega)), (x10.mono (by omega)), (y10.mono (by omega)), (((bthru (bthru (bthru (bthru hbV3 hbV4) hbV5) hbV6) hbV7).trans (hOV8.below (by omega))).trans (hOV9.below (by omega))), by omega, by omega, by omega⟩
      refine rd1 (fun Kx hKx => ?_)
      refine snk 6 #[.bool false, .slice none 0 0, .int .i64 0, .bool false, .slice none 0 0, .int .i64 0] 38 (fun V5 hbV5 hzV5 b6 => ?_)
      replace b2 := (b2.past hbV5)
      replace b3 := (b3.past hbV5)
      refine hKx.out _ _ ⟨b2, b3⟩ ?_
      clear hKx Kx
      refine sxr [1] ?_
      refine rd1 (fun Kx hKx => ?_)
      replace ol := (ol.past (bthru (bthru (bthru (bthru hbV1 hbV2) hbV3) hbV4) hbV5))
      replace oh := (oh.past (bthru (bthru (bthru (bthru hbV1 hbV2) hbV3) hbV4) hbV5))
      refine sek 8 23 #[.agg #[.bool l.neg, .slice pl (dig B32 l.m).length cl, .int .i64 l.e, .bool h.neg, .slice ph (dig B32 h.m).length ch, .int .i64 h.e]] ?_
      ((with_reducible refine (rofball l h pl ph cl ch _ _ _ ol oh Bl Bh el eh).mono ?_))
      rintro eV6 V6 ⟨p8, c8, q8, d8, rfl, x8, y8, hbV6⟩
      have hzV6 := hbV6.size
      have lx8 := fun h => x8.lt h
      have ly8 := fun h => y8.lt h
      refine ⟨.agg #[.bool l.neg, .slice p8 (dig B16 l.m).length c8, .int .i64 l.e, .bool h.neg, .slice q8 (dig B16 h.m).length d8, .int .i64 h.e], rfl, ?_⟩
      replace b2 := (b2.past hbV6)
      replace b3 := (b3.past hbV6)
      refine hKx.out _ _ ⟨b2, b3⟩ ?_
      clear hKx Kx
      refine sxr [3] ?_
      refine rd1 (fun Kx hKx => ?_)
      replace ou := (ou.past (bthru (bthru (bthru (bthru (bthru hbV1 hbV2) hbV3) hbV4) hbV5) hbV6))
      replace ov := (ov.past (bthru (bthru (bthru (bthru (bthru hbV1 hbV2) hbV3) hbV4) hbV5) hbV6))
      refine sek 10 23 #[.agg #[.bool u.neg, .slice pu (dig B32 u.m).length cu, .int .i64 u.e, .bool v.neg, .slice pv (dig B32 v.m).length cv, .int .i64 v.e]] ?_
      ((with_reducible refine (rofball u v pu pv cu cv _ _ _ ou ov Bu Bv eu ev).mono ?_))
      rintro eV7 V7 ⟨p10, c10, q10, d10, rfl, x10, y10, hbV7⟩
      have hzV7 := hbV7.size
      have lx10 := fun h => x10.lt h
      have ly10 := fun h => y10.lt h
      refine ⟨.agg #[.bool u.neg, .slice p10 (dig B16 u.m).length c10, .int .i64 u.e, .bool v.neg, .slice q10 (dig B16 v.m).length d10, .int .i64 v.e], rfl, ?_⟩
      replace b2 := (b2.past hbV7)
      replace b3 := (b3.past hbV7)
      refine hKx.out _ _ ⟨b2, b3⟩ ?_
      clear hKx Kx
      refine sxr [6] ?_
      refine rd1 (fun Kx hKx => ?_)
      replace b5 := (b5.past (bthru (bthru hbV5 hbV6) hbV7))
      refine ssk none b5 hT38 0 #[.bool l.neg, .slice p8 (dig B16 l.m).length c8, .int .i64 l.e, .bool h.neg, .slice q8 (dig B16 h.m).length d8, .int .i64 h.e] #[.bool l.neg, .slice p8 (dig B16 l.m).length c8, .int .i64 l.e, .bool h.neg, .slice q8 (dig B16 h.m).length d8, .int .i64 h.e] ?_
      have boV8 := b5
      clear b5
      intro V8 hOV8 b5
      have hzV8 := hOV8.size
      replace b2 := (b2.only hOV8 (by omega))
      replace b3 := (b3.only hOV8 (by omega))
      refine hKx.out _ _ ⟨b2, b3⟩ ?_
      clear hKx Kx
      refine sxr [7] ?_
      refine rd1 (fun Kx hKx => ?_)
      replace b6 := ((b6.past (bthru hbV6 hbV7)).only hOV8 (by omega))
      refine ssk none b6 hT38 0 #[.bool u.neg, .slice p10 (dig B16 u.m).length c10, .int .i64 u.e, .bool v.neg, .slice q10 (dig B16 v.m).length d10, .int .i64 v.e] #[.bool u.neg, .slice p10 (dig B16 u.m).length c10, .int .i64 u.e, .bool v.neg, .slice q10 (dig B16 v.m).length d10, .int .i64 v.e] ?_
      have boV9 := b6
      clear b6
      intro V9 hOV9 b6
      have hzV9 := hOV9.size
      replace b2 := (b2.only hOV9 (by omega))
      replace b3 := (b3.only hOV9 (by omega))
      refine hKx.out _ _ ⟨b2, b3⟩ ?_
      clear hKx Kx
      refine sx_done (by kernel_rfl) ?_
      replace b5 := (b5.only hOV9 (by omega))
      replace x8 := (((x8.past hbV7).only hOV8 (fun h => by have := lx8 h; omega)).only hOV9 (fun h => by have := lx8 h; omega))
      replace y8 := (((y8.past hbV7).only hOV8 (fun h => by have := ly8 h; omega)).only hOV9 (fun h => by have := ly8 h; omega))
      replace x10 := ((x10.only hOV8 (fun h => by have := lx10 h; omega)).only hOV9 (fun h => by have := lx10 h; omega))
      replace y10 := ((y10.only hOV8 (fun h => by have := ly10 h; omega)).only hOV9 (fun h => by have := ly10 h; omega))
      exact ⟨rfl, V3.heap.size, V4.heap.size, p8, c8, q8, d8, p10, c10, q10, d10, by kernel_rfl, b5, b6, (x8.mono (by omega)), (y8.mono (by omega)), (x10.mono (by omega)), (y10.mono (by omega)), (((bthru (bthru (bthru (bthru hbV3 hbV4) hbV5) hbV6) hbV7).trans (hOV8.below (by omega))).trans (hOV9.below (by omega))), by omega, by omega, by omega⟩
    refine rd1 (fun Kx hKx => ?_)
    refine snk 6 #[.bool false, .slice none 0 0, .int .i64 0, .bool false, .slice none 0 0, .int .i64 0] 38 (fun V4 hbV4 hzV4 b6 => ?_)
    replace b2 := (b2.past hbV4)
    replace b3 := (b3.past hbV4)
    refine hKx.out _ _ ⟨b2, b3⟩ ?_
    clear hKx Kx
    refine sxr [1, 4] ?_
    refine rd2 (fun Kx hKx => ?_) ?_
    · skip
      replace ol := (ol.past (bthru (bthru (bthru hbV1 hbV2) hbV3) hbV4))
      replace oh := (oh.past (bthru (bthru (bthru hbV1 hbV2) hbV3) hbV4))
      refine sek 8 23 #[.agg #[.bool l.neg, .slice pl (dig B32 l.m).length cl, .int .i64 l.e, .bool h.neg, .slice ph (dig B32 h.m).length ch, .int .i64 h.e]] ?_
      ((with_reducible refine (rofball l h pl ph cl ch _ _ _ ol oh Bl Bh el eh).mono ?_))
      rintro eV5 V5 ⟨p8, c8, q8, d8, rfl, x8, y8, hbV5⟩
      have hzV5 := hbV5.size
      have lx8 := fun h => x8.lt h
      have ly8 := fun h => y8.lt h
      refine ⟨.agg #[.bool l.neg, .slice p8 (dig B16 l.m).length c8, .int .i64 l.e, .bool h.neg, .slice q8 (dig B16 h.m).length d8, .int .i64 h.e], rfl, ?_⟩
      replace b2 := (b2.past hbV5)
      replace b3 := (b3.past hbV5)
      refine hKx.out _ _ ⟨b2, b3⟩ ?_
      clear hKx Kx
      refine sxr [3, 4] ?_
      refine rd2 (fun Kx hKx => ?_) ?_
      · skip
        replace ou := (ou.past (bthru (bthru (bthru (bthru hbV1 hbV2) hbV3) hbV4) hbV5))
        replace ov := (ov.past (bthru (bthru (bthru (bthru hbV1 hbV2) hbV3) hbV4) hbV5))
        refine sek 10 23 #[.agg #[.bool u.neg, .slice pu (dig B32 u.m).length cu, .int .i64 u.e, .bool v.neg, .slice pv (dig B32 v.m).length cv, .int .i64 v.e]] ?_
        ((with_reducible refine (rofball u v pu pv cu cv _ _ _ ou ov Bu Bv eu ev).mono ?_))
        rintro eV6 V6 ⟨p10, c10, q10, d10, rfl, x10, y10, hbV6⟩
        have hzV6 := hbV6.size
        have lx10 := fun h => x10.lt h
        have ly10 := fun h => y10.lt h
        refine ⟨.agg #[.bool u.neg, .slice p10 (dig B16 u.m).length c10, .int .i64 u.e, .bool v.neg, .slice q10 (dig B16 v.m).length d10, .int .i64 v.e], rfl, ?_⟩
        replace b2 := (b2.past hbV6)
        replace b3 := (b3.past hbV6)
        refine hKx.out _ _ ⟨b2, b3⟩ ?_
        clear hKx Kx
        refine sxr [4] ?_
        refine rd1 (fun Kx hKx => ?_)
        refine snk 5 #[.bool false, .slice none 0 0, .int .i64 0, .bool false, .slice none 0 0, .int .i64 0] 38 (fun V7 hbV7 hzV7 b5 => ?_)
        replace b2 := (b2.past hbV7)
        replace b3 := (b3.past hbV7)
        refine hKx.out _ _ ⟨b2, b3⟩ ?_
        clear hKx Kx
        refine sxr [6] ?_
        refine rd1 (fun Kx hKx => ?_)
        refine ssk none b5 hT38 0 #[.bool l.neg, .slice p8 (dig B16 l.m).length c8, .int .i64 l.e, .bool h.neg, .slice q8 (dig B16 h.m).length d8, .int .i64 h.e] #[.bool l.neg, .slice p8 (dig B16 l.m).length c8, .int .i64 l.e, .bool h.neg, .slice q8 (dig B16 h.m).length d8, .int .i64 h.e] ?_
        have boV8 := b5
        clear b5
        intro V8 hOV8 b5
        have hzV8 := hOV8.size
        replace b2 := (b2.only hOV8 (by omega))
        replace b3 := (b3.only hOV8 (by omega))
        refine hKx.out _ _ ⟨b2, b3⟩ ?_
        clear hKx Kx
        refine sxr [7] ?_
        refine rd1 (fun Kx hKx => ?_)
        replace b6 := (b6.past ((bthru (bthru hbV5 hbV6) hbV7).trans (hOV8.below (by omega))))
        refine ssk none b6 hT38 0 #[.bool u.neg, .slice p10 (dig B16 u.m).length c10, .int .i64 u.e, .bool v.neg, .slice q10 (dig B16 v.m).length d10, .int .i64 v.e] #[.bool u.neg, .slice p10 (dig B16 u.m).length c10, .int .i64 u.e, .bool v.neg, .slice q10 (dig B16 v.m).length d10, .int .i64 v.e] ?_
        have boV9 := b6
        clear b6
        intro V9 hOV9 b6
        have hzV9 := hOV9.size
        replace b2 := (b2.only hOV9 (by omega))
        replace b3 := (b3.only hOV9 (by omega))
        refine hKx.out _ _ ⟨b2, b3⟩ ?_
        clear hKx Kx
        refine sx_done (by kernel_rfl) ?_
        replace b5 := (b5.only hOV9 (by omega))
        replace x8 := ((x8.past ((bthru hbV6 hbV7).trans (hOV8.below (by omega)))).only hOV9 (fun h => by have := lx8 h; omega))
        replace y8 := ((y8.past ((bthru hbV6 hbV7).trans (hOV8.below (by omega)))).only hOV9 (fun h => by have := ly8 h; omega))
        replace x10 := ((x10.past (hbV7.trans (hOV8.below (by omega)))).only hOV9 (fun h => by have := lx10 h; omega))
        replace y10 := ((y10.past (hbV7.trans (hOV8.below (by omega)))).only hOV9 (fun h => by have := ly10 h; omega))
        exact ⟨rfl, V6.heap.size, V3.heap.size, p8, c8, q8, d8, p10, c10, q10, d10, by kernel_rfl, b5, b6, (x8.mono (by omega)), (y8.mono (by omega)), (x10.mono (by omega)), (y10.mono (by omega)), (((bthru (bthru (bthru (bthru hbV3 hbV4) hbV5) hbV6) hbV7).trans (hOV8.below (by omega))).trans (hOV9.below (by omega))), by omega, by omega, by omega⟩
      refine rd1 (fun Kx hKx => ?_)
      refine snk 5 #[.bool false, .slice none 0 0, .int .i64 0, .bool false, .slice none 0 0, .int .i64 0] 38 (fun V6 hbV6 hzV6 b5 => ?_)
      replace b2 := (b2.past hbV6)
      replace b3 := (b3.past hbV6)
      refine hKx.out _ _ ⟨b2, b3⟩ ?_
      clear hKx Kx
      refine sxr [3] ?_
      refine rd1 (fun Kx hKx => ?_)
      replace ou := (ou.past (bthru (bthru (bthru (bthru (bthru hbV1 hbV2) hbV3) hbV4) hbV5) hbV6))
      replace ov := (ov.past (bthru (bthru (bthru (bthru (bthru hbV1 hbV2) hbV3) hbV4) hbV5) hbV6))
      refine sek 10 23 #[.agg #[.bool u.neg, .slice pu (dig B32 u.m).length cu, .int .i64 u.e, .bool v.neg, .slice pv (dig B32 v.m).length cv, .int .i64 v.e]] ?_
      ((with_reducible refine (rofball u v pu pv cu cv _ _ _ ou ov Bu Bv eu ev).mono ?_))
      rintro eV7 V7 ⟨p10, c10, q10, d10, rfl, x10, y10, hbV7⟩
      have hzV7 := hbV7.size
      have lx10 := fun h => x10.lt h
      have ly10 := fun h => y10.lt h
      refine ⟨.agg #[.bool u.neg, .slice p10 (dig B16 u.m).length c10, .int .i64 u.e, .bool v.neg, .slice q10 (dig B16 v.m).length d10, .int .i64 v.e], rfl, ?_⟩
      replace b2 := (b2.past hbV7)
      replace b3 := (b3.past hbV7)
      refine hKx.out _ _ ⟨b2, b3⟩ ?_
      clear hKx Kx
      refine sxr [6] ?_
      refine rd1 (fun Kx hKx => ?_)
      replace b5 := (b5.past hbV7)
      refine ssk none b5 hT38 0 #[.bool l.neg, .slice p8 (dig B16 l.m).length c8, .int .i64 l.e, .bool h.neg, .slice q8 (dig B16 h.m).length d8, .int .i64 h.e] #[.bool l.neg, .slice p8 (dig B16 l.m).length c8, .int .i64 l.e, .bool h.neg, .slice q8 (dig B16 h.m).length d8, .int .i64 h.e] ?_
      have boV8 := b5
      clear b5
      intro V8 hOV8 b5
      have hzV8 := hOV8.size
      replace b2 := (b2.only hOV8 (by omega))
      replace b3 := (b3.only hOV8 (by omega))
      refine hKx.out _ _ ⟨b2, b3⟩ ?_
      clear hKx Kx
      refine sxr [7] ?_
      refine rd1 (fun Kx hKx => ?_)
      replace b6 := (b6.past ((bthru (bthru hbV5 hbV6) hbV7).trans (hOV8.below (by omega))))
      refine ssk none b6 hT38 0 #[.bool u.neg, .slice p10 (dig B16 u.m).length c10, .int .i64 u.e, .bool v.neg, .slice q10 (dig B16 v.m).length d10, .int .i64 v.e] #[.bool u.neg, .slice p10 (dig B16 u.m).length c10, .int .i64 u.e, .bool v.neg, .slice q10 (dig B16 v.m).length d10, .int .i64 v.e] ?_
      have boV9 := b6
      clear b6
      intro V9 hOV9 b6
      have hzV9 := hOV9.size
      replace b2 := (b2.only hOV9 (by omega))
      replace b3 := (b3.only hOV9 (by omega))
      refine hKx.out _ _ ⟨b2, b3⟩ ?_
      clear hKx Kx
      refine sx_done (by kernel_rfl) ?_
      replace b5 := (b5.only hOV9 (by omega))
      replace x8 := ((x8.past ((bthru hbV6 hbV7).trans (hOV8.below (by omega)))).only hOV9 (fun h => by have := lx8 h; omega))
      replace y8 := ((y8.past ((bthru hbV6 hbV7).trans (hOV8.below (by omega)))).only hOV9 (fun h => by have := ly8 h; omega))
      replace x10 := ((x10.only hOV8 (fun h => by have := lx10 h; omega)).only hOV9 (fun h => by have := lx10 h; omega))
      replace y10 := ((y10.only hOV8 (fun h => by have := ly10 h; omega)).only hOV9 (fun h => by have := ly10 h; omega))
      exact ⟨rfl, V5.heap.size, V3.heap.size, p8, c8, q8, d8, p10, c10, q10, d10, by kernel_rfl, b5, b6, (x8.mono (by omega)), (y8.mono (by omega)), (x10.mono (by omega)), (y10.mono (by omega)), (((bthru (bthru (bthru (bthru hbV3 hbV4) hbV5) hbV6) hbV7).trans (hOV8.below (by omega))).trans (hOV9.below (by omega))), by omega, by omega, by omega⟩
    refine rd1 (fun Kx hKx => ?_)
    refine snk 5 #[.bool false, .slice none 0 0, .int .i64 0, .bool false, .slice none 0 0, .int .i64 0] 38 (fun V5 hbV5 hzV5 b5 => ?_)
    replace b2 := (b2.past hbV5)
    replace b3 := (b3.past hbV5)
    refine hKx.out _ _ ⟨b2, b3⟩ ?_
    clear hKx Kx
    refine sxr [1] ?_
    refine rd1 (fun Kx hKx => ?_)
    replace ol := (ol.past (bthru (bthru (bthru (bthru hbV1 hbV2) hbV3) hbV4) hbV5))
    replace oh := (oh.past (bthru (bthru (bthru (bthru hbV1 hbV2) hbV3) hbV4) hbV5))
    refine sek 8 23 #[.agg #[.bool l.neg, .slice pl (dig B32 l.m).length cl, .int .i64 l.e, .bool h.neg, .slice ph (dig B32 h.m).length ch, .int .i64 h.e]] ?_
    ((with_reducible refine (rofball l h pl ph cl ch _ _ _ ol oh Bl Bh el eh).mono ?_))
    rintro eV6 V6 ⟨p8, c8, q8, d8, rfl, x8, y8, hbV6⟩
    have hzV6 := hbV6.size
    have lx8 := fun h => x8.lt h
    have ly8 := fun h => y8.lt h
    refine ⟨.agg #[.bool l.neg, .slice p8 (dig B16 l.m).length c8, .int .i64 l.e, .bool h.neg, .slice q8 (dig B16 h.m).length d8, .int .i64 h.e], rfl, ?_⟩
    replace b2 := (b2.past hbV6)
    replace b3 := (b3.past hbV6)
    refine hKx.out _ _ ⟨b2, b3⟩ ?_
    clear hKx Kx
    refine sxr [3] ?_
    refine rd1 (fun Kx hKx => ?_)
    replace ou := (ou.past (bthru (bthru (bthru (bthru (bthru hbV1 hbV2) hbV3) hbV4) hbV5) hbV6))
    replace ov := (ov.past (bthru (bthru (bthru (bthru (bthru hbV1 hbV2) hbV3) hbV4) hbV5) hbV6))
    refine sek 10 23 #[.agg #[.bool u.neg, .slice pu (dig B32 u.m).length cu, .int .i64 u.e, .bool v.neg, .slice pv (dig B32 v.m).length cv, .int .i64 v.e]] ?_
    ((with_reducible refine (rofball u v pu pv cu cv _ _ _ ou ov Bu Bv eu ev).mono ?_))
    rintro eV7 V7 ⟨p10, c10, q10, d10, rfl, x10, y10, hbV7⟩
    have hzV7 := hbV7.size
    have lx10 := fun h => x10.lt h
    have ly10 := fun h => y10.lt h
    refine ⟨.agg #[.bool u.neg, .slice p10 (dig B16 u.m).length c10, .int .i64 u.e, .bool v.neg, .slice q10 (dig B16 v.m).length d10, .int .i64 v.e], rfl, ?_⟩
    replace b2 := (b2.past hbV7)
    replace b3 := (b3.past hbV7)
    refine hKx.out _ _ ⟨b2, b3⟩ ?_
    clear hKx Kx
    refine sxr [6] ?_
    refine rd1 (fun Kx hKx => ?_)
    replace b5 := (b5.past (bthru hbV6 hbV7))
    refine ssk none b5 hT38 0 #[.bool l.neg, .slice p8 (dig B16 l.m).length c8, .int .i64 l.e, .bool h.neg, .slice q8 (dig B16 h.m).length d8, .int .i64 h.e] #[.bool l.neg, .slice p8 (dig B16 l.m).length c8, .int .i64 l.e, .bool h.neg, .slice q8 (dig B16 h.m).length d8, .int .i64 h.e] ?_
    have boV8 := b5
    clear b5
    intro V8 hOV8 b5
    have hzV8 := hOV8.size
    replace b2 := (b2.only hOV8 (by omega))
    replace b3 := (b3.only hOV8 (by omega))
    refine hKx.out _ _ ⟨b2, b3⟩ ?_
    clear hKx Kx
    refine sxr [7] ?_
    refine rd1 (fun Kx hKx => ?_)
    replace b6 := (b6.past ((bthru (bthru hbV5 hbV6) hbV7).trans (hOV8.below (by omega))))
    refine ssk none b6 hT38 0 #[.bool u.neg, .slice p10 (dig B16 u.m).length c10, .int .i64 u.e, .bool v.neg, .slice q10 (dig B16 v.m).length d10, .int .i64 v.e] #[.bool u.neg, .slice p10 (dig B16 u.m).length c10, .int .i64 u.e, .bool v.neg, .slice q10 (dig B16 v.m).length d10, .int .i64 v.e] ?_
    have boV9 := b6
    clear b6
    intro V9 hOV9 b6
    have hzV9 := hOV9.size
    replace b2 := (b2.only hOV9 (by omega))
    replace b3 := (b3.only hOV9 (by omega))
    refine hKx.out _ _ ⟨b2, b3⟩ ?_
    clear hKx Kx
    refine sx_done (by kernel_rfl) ?_
    replace b5 := (b5.only hOV9 (by omega))
    replace x8 := (((x8.past hbV7).only hOV8 (fun h => by have := lx8 h; omega)).only hOV9 (fun h => by have := lx8 h; omega))
    replace y8 := (((y8.past hbV7).only hOV8 (fun h => by have := ly8 h; omega)).only hOV9 (fun h => by have := ly8 h; omega))
    replace x10 := ((x10.only hOV8 (fun h => by have := lx10 h; omega)).only hOV9 (fun h => by have := lx10 h; omega))
    replace y10 := ((y10.only hOV8 (fun h => by have := ly10 h; omega)).only hOV9 (fun h => by have := ly10 h; omega))
    exact ⟨rfl, V4.heap.size, V3.heap.size, p8, c8, q8, d8, p10, c10, q10, d10, by kernel_rfl, b5, b6, (x8.mono (by omega)), (y8.mono (by omega)), (x10.mono (by omega)), (y10.mono (by omega)), (((bthru (bthru (bthru (bthru hbV3 hbV4) hbV5) hbV6) hbV7).trans (hOV8.below (by omega))).trans (hOV9.below (by omega))), by omega, by omega, by omega⟩
  rintro _ V3 ⟨kb5, kb6, p8, c8, q8, d8, p10, c10, q10, d10, rfl, b5, b6, x8, y8, x10, y10, hbV3, hkb5, hkb6, hd_b6_b5⟩
  refine hGx _ _ ?_
  clear hGx Gx
  have hzV3 := hbV3.size
  have hlb5 := b5.lt
  have hlb6 := b6.lt
  have lx8 := fun h => x8.lt h
  have ly8 := fun h => y8.lt h
  have lx10 := fun h => x10.lt h
  have ly10 := fun h => y10.lt h
  refine sx_then ?_
  refine wp_seq ?_
  refine sx_region ?_
  refine sv 11 (.pointer (some ⟨kb5, 0, none⟩)) ?_
  refine sv 12 (.agg #[.bool l.neg, .slice p8 (dig B16 l.m).length c8, .int .i64 l.e]) ?_ (hr := (exec_ld (by kernel_rfl) (run_ld b5 hT36 0 [.bool l.neg, .slice p8 (dig B16 l.m).length c8, .int .i64 l.e] (by kernel_rfl) (by kernel_rfl))))
  refine sv 13 (.pointer (some ⟨kb6, 3, none⟩)) ?_
  refine sv 14 (.agg #[.bool v.neg, .slice q10 (dig B16 v.m).length d10, .int .i64 v.e]) ?_ (hr := (exec_ld (by kernel_rfl) (run_ld b6 hT36 3 [.bool v.neg, .slice q10 (dig B16 v.m).length d10, .int .i64 v.e] (by kernel_rfl) (by kernel_rfl))))
  refine se 15 26 #[.agg #[.bool l.neg, .slice p8 (dig B16 l.m).length c8, .int .i64 l.e], .agg #[.bool v.neg, .slice q10 (dig B16 v.m).length d10, .int .i64 v.e]] (fun Gx hGx => ?_)
  ((with_reducible refine (rdcmp l v p8 q10 c8 d10 _ x8.rd y10.rd y10.cap fl fv).mono ?_))
  rintro eV4 V4 ⟨rfl, hbV4⟩
  have hzV4 := hbV4.size
  refine ⟨.int .i64 (rCmp l v), rfl, hGx _ _ ?_⟩
  clear hGx Gx
  refine sv 16 (.bool true) ?_ (hr := ((show _ = Result.ok (Next.value (.bool (decide ((rCmp l v) ≤ 0)))) _ from (by kernel_rfl)).trans (congrArg (fun z => Result.ok (Next.value (.bool z)) _) (show (decide ((rCmp l v) ≤ 0)) = true from decide_eq_true k1))))
  refine sv 17 (.bool true) ?_
  refine sv 18 (.pointer (some ⟨kb6, 0, none⟩)) ?_
  replace b6 := (b6.past hbV4)
  refine sv 19 (.agg #[.bool u.neg, .slice p10 (dig B16 u.m).length c10, .int .i64 u.e]) ?_ (hr := (exec_ld (by kernel_rfl) (run_ld b6 hT36 0 [.bool u.neg, .slice p10 (dig B16 u.m).length c10, .int .i64 u.e] (by kernel_rfl) (by kernel_rfl))))
  refine sv 20 (.pointer (some ⟨kb5, 3, none⟩)) ?_
  replace b5 := (b5.past hbV4)
  refine sv 21 (.agg #[.bool h.neg, .slice q8 (dig B16 h.m).length d8, .int .i64 h.e]) ?_ (hr := (exec_ld (by kernel_rfl) (run_ld b5 hT36 3 [.bool h.neg, .slice q8 (dig B16 h.m).length d8, .int .i64 h.e] (by kernel_rfl) (by kernel_rfl))))
  replace x10 := (x10.past hbV4)
  replace y8 := (y8.past hbV4)
  refine se 22 26 #[.agg #[.bool u.neg, .slice p10 (dig B16 u.m).length c10, .int .i64 u.e], .agg #[.bool h.neg, .slice q8 (dig B16 h.m).length d8, .int .i64 h.e]] (fun Gx hGx => ?_)
  ((with_reducible refine (rdcmp u h p10 q8 c10 d8 _ x10.rd y8.rd y8.cap fu fh).mono ?_))
  rintro eV5 V5 ⟨rfl, hbV5⟩
  have hzV5 := hbV5.size
  refine ⟨.int .i64 (rCmp u h), rfl, hGx _ _ ?_⟩
  clear hGx Gx
  refine sv 23 (.bool true) ?_ (hr := ((show _ = Result.ok (Next.value (.bool (decide ((rCmp u h) ≤ 0)))) _ from (by kernel_rfl)).trans (congrArg (fun z => Result.ok (Next.value (.bool z)) _) (show (decide ((rCmp u h) ≤ 0)) = true from decide_eq_true k2))))
  refine sv 24 (.bool true) ?_
  refine sv 4 (.bool true) ?_
  refine sx_nil ?_
  refine sx_then ?_
  refine wp_ret ?_
  repeat (first | with_reducible refine sx_thenret ?_ | with_reducible refine sx_blockret ?_)
  refine bodyPost_ret (v := .bool true) (by simp [results, Tryd.results18, go_sem]) rfl ?_
  exact ⟨rfl, (bthru (bthru (bthru (bthru hbV1 hbV2) hbV3) hbV4) hbV5)⟩

theorem rofdyad (l : Dv) (p : Option Addr) (c b1 : Nat) (w : World) (hp : Own w b1 .u32 58 p c (dig B32 l.m)) (bl : Bare l) (el : errD l = 0) :
    Calls Tryd.prog 36 #[.agg #[.bool l.neg, .slice p (dig B32 l.m).length c, .int .i64 l.e]] w (GNf w w.heap.size l) := by
  obtain ⟨i1, e1, v1⟩ := din_of hp bl el
  have := refOfDyad_any _ w i1 e1
  rw [v1] at this
  exact this.mono fun _ _ => gnf_of
theorem rdsign (l : Dv) (p : Option Addr) (c b1 : Nat) (w : World) (hp : Rf w b1 p c (dig B16 l.m)) (f : FitR l) :
    Calls Tryd.prog 28 #[.agg #[.bool l.neg, .slice p (dig B16 l.m).length c, .int .i64 l.e]] w fun en w' => en = .returned (.int .i64 (dSign l)) ∧ Below w.heap.size w w' :=
  dsignF_any ⟨l.neg, p, c, l.m, l.e⟩ b1 w ⟨hp.rd, hp.cap, f.len, f.lo, f.hi, hp.at_⟩

theorem piZ_ok (N : Int) (b : Nat) (h : N = b) (w : World) (hb1 : 10 ≤ b) (hb2 : b ≤ 1000) (hT : TabW w) : Calls Tryd.prog 9 #[.int .i64 N] w (GivesXE w Xpi (b + 20)) := by subst h; exact pi_ok b w hb1 hb2 hT
theorem ln2Z_ok (N : Int) (b : Nat) (h : N = b) (w : World) (hb1 : 10 ≤ b) (hb2 : b ≤ 1000) (hT : TabW w) : Calls Tryd.prog 15 #[.int .i64 N] w (GivesXE w Xln (b + 20)) := by subst h; exact ln2_ok b w hb1 hb2 hT


theorem ball_told {X : Nat → Int} {w : Nat} {L H : Int} (B : BallOf X w L H) (hw : w ≤ 1100) : errD (norm L (-w)) = 0 ∧ errD (norm H (-w)) = 0 ∧ FitR (norm L (-w)) ∧ FitR (norm H (-w)) := by
  obtain ⟨s1, s2⟩ := ball_small B hw
  exact ⟨errD_nn L w (by omega) s1, errD_nn H w (by omega) s2, fit_nn (by omega) s1, fit_nn (by omega) s2⟩

set_option maxHeartbeats 4000000 in
set_option maxRecDepth 100000 in
theorem seriesBegun_any (w : World) (hT : TabW w) :
    Calls Tryd.prog 10 #[] w fun en w' => en = .returned (.bool true) ∧ Below w.heap.size w w' := by
  have H1 : ∀ W, TabW W → Hid (Calls Tryd.prog 9 #[.int .i64 20] W fun en w' => ∃ (l h : Dv), (Bare l ∧ Bare h ∧ errD l = 0 ∧ errD h = 0 ∧ FitR l ∧ FitR h ∧ rCmp ⟨false, 3, 0⟩ l ≤ 0 ∧ rCmp h ⟨false, 4, 0⟩ < 0) ∧ GivesBE W W.heap.size l h 0 en w') := fun W hT => by
    refine Lib.hid ((piZ_ok 20 20 rfl W (by omega) (by omega) hT).mono fun en w' hh => ?_)
    obtain ⟨L, H, hB, hg⟩ := hh
    obtain ⟨e1, e2, f1, f2⟩ := ball_told hB (by omega)
    obtain ⟨g1, g2⟩ := begun_pi hB
    refine ⟨_, _, ⟨norm_bare _ _, norm_bare _ _, e1, e2, f1, f2, ?_, ?_⟩, hg⟩
    · rw [(rCmp_lit _ 3).2]; exact g1
    · rw [(rCmp_lit _ 4).1]; exact g2
  have H2 : ∀ W, TabW W → Hid (Calls Tryd.prog 15 #[.int .i64 20] W fun en w' => ∃ (l h : Dv), (Bare l ∧ errD l = 0 ∧ FitR l ∧ dSign l > 0) ∧ GivesBE W W.heap.size l h 0 en w') := fun W hT => by
    refine Lib.hid ((ln2Z_ok 20 20 rfl W (by omega) (by omega) hT).mono fun en w' hh => ?_)
    obtain ⟨L, H, hB, hg⟩ := hh
    obtain ⟨e1, e2, f1, f2⟩ := ball_told hB (by omega)
    have g1 := begun_ln hB
    refine ⟨_, _, ⟨norm_bare _ _, e1, f1, ?_⟩, hg⟩
    rw [dSign_norm, Int.sign_eq_one_of_pos g1]; omega
  have hT25 : SxAgg Tryd.prog 25 3 := sxAgg_of (by kernel_rfl) (by kernel_rfl)
  have hT27 : SxAgg Tryd.prog 27 6 := sxAgg_of (by kernel_rfl) (by kernel_rfl)
  have hT36 : SxAgg Tryd.prog 36 3 := sxAgg_of (by kernel_rfl) (by kernel_rfl)
  refine calls_of_wp Tryd.func10 rfl ?_
  refine sx_frame (a' := ⟨(undef :: undef :: undef :: undef :: undef :: undef :: undef :: undef :: undef :: undef :: undef :: undef :: undef :: undef :: undef :: undef :: undef :: undef :: undef :: undef :: undef :: undef :: undef :: undef :: undef :: undef :: undef :: undef :: undef :: undef :: undef :: undef :: undef :: undef :: undef :: undef :: undef :: undef :: undef :: undef :: undef :: undef :: undef :: undef :: undef :: undef :: undef :: undef :: []).toArray, []⟩) (by kernel_rfl) ?_
  refine wp_seq ?_
  refine sx_region ?_
  refine sv 0 (.bool false) ?_
  refine sx_nil ?_
  refine sx_then ?_
  refine wp_seq ?_
  refine sx_region ?_
  refine se 8 9 #[.int .i64 20] (fun Gx hGx => ?_)
  ((with_reducible refine ((H1 _ hT).out).mono ?_))
  rintro eV1 V1 ⟨lo, up, hp1, p8, c8, q8, d8, rfl, ho8, hq8, hbV1⟩
  have hzV1 := hbV1.size
  refine ⟨.tuple #[.agg #[.bool lo.neg, .slice p8 (dig B32 lo.m).length c8, .int .i64 lo.e, .bool up.neg, .slice q8 (dig B32 up.m).length d8, .int .i64 up.e], .int .i64 0], rfl, hGx _ _ ?_⟩
  clear hGx Gx
  refine sv 7 (.tuple #[.agg #[.bool lo.neg, .slice p8 (dig B32 lo.m).length c8, .int .i64 lo.e, .bool up.neg, .slice q8 (dig B32 up.m).length d8, .int .i64 up.e], .int .i64 0]) ?_
  refine sv 9 (.agg #[.bool lo.neg, .slice p8 (dig B32 lo.m).length c8, .int .i64 lo.e, .bool up.neg, .slice q8 (dig B32 up.m).length d8, .int .i64 up.e]) ?_
  refine sv 10 (.int .i64 0) ?_
  refine sn 1 #[.bool false, .slice none 0 0, .int .i64 0, .bool false, .slice none 0 0, .int .i64 0] 27 (fun V2 hbV2 hzV2 b1 => ?_)
  refine ss none b1 hT27 0 #[.bool lo.neg, .slice p8 (dig B32 lo.m).length c8, .int .i64 lo.e, .bool up.neg, .slice q8 (dig B32 up.m).length d8, .int .i64 up.e] #[.bool lo.neg, .slice p8 (dig B32 lo.m).length c8, .int .i64 lo.e, .bool up.neg, .slice q8 (dig B32 up.m).length d8, .int .i64 up.e] ?_
  have boV3 := b1
  clear b1
  intro V3 hOV3 b1
  have hzV3 := hOV3.size
  refine sv 2 (.int .i64 0) ?_
  refine sx_nil ?_
  refine sx_then ?_
  refine wp_seq ?_
  refine sx_region ?_
  obtain ⟨gb1, gb2, e1, e2, f1, f2, k1, k2⟩ := hp1
  replace hT := (hT.past ((bthru hbV1 hbV2).trans (hOV3.below (by omega))))
  refine se 12 15 #[.int .i64 20] (fun Gx hGx => ?_)
  ((with_reducible refine ((H2 _ hT).out).mono ?_))
  rintro eV4 V4 ⟨lu, lv, hp2, p12, c12, q12, d12, rfl, ho12, hq12, hbV4⟩
  have hzV4 := hbV4.size
  refine ⟨.tuple #[.agg #[.bool lu.neg, .slice p12 (dig B32 lu.m).length c12, .int .i64 lu.e, .bool lv.neg, .slice q12 (dig B32 lv.m).length d12, .int .i64 lv.e], .int .i64 0], rfl, hGx _ _ ?_⟩
  clear hGx Gx
  refine sv 11 (.tuple #[.agg #[.bool lu.neg, .slice p12 (dig B32 lu.m).length c12, .int .i64 lu.e, .bool lv.neg, .slice q12 (dig B32 lv.m).length d12, .int .i64 lv.e], .int .i64 0]) ?_
  refine sv 13 (.agg #[.bool lu.neg, .slice p12 (dig B32 lu.m).length c12, .int .i64 lu.e, .bool lv.neg, .slice q12 (dig B32 lv.m).length d12, .int .i64 lv.e]) ?_
  refine sv 14 (.int .i64 0) ?_
  refine sn 3 #[.bool false, .slice none 0 0, .int .i64 0, .bool false, .slice none 0 0, .int .i64 0] 27 (fun V5 hbV5 hzV5 b3 => ?_)
  refine ss none b3 hT27 0 #[.bool lu.neg, .slice p12 (dig B32 lu.m).length c12, .int .i64 lu.e, .bool lv.neg, .slice q12 (dig B32 lv.m).length d12, .int .i64 lv.e] #[.bool lu.neg, .slice p12 (dig B32 lu.m).length c12, .int .i64 lu.e, .bool lv.neg, .slice q12 (dig B32 lv.m).length d12, .int .i64 lv.e] ?_
  have boV6 := b3
  clear b3
  intro V6 hOV6 b3
  have hzV6 := hOV6.size
  refine sv 4 (.int .i64 0) ?_
  refine sx_nil ?_
  refine sx_then ?_
  refine wp_seq ?_
  refine sx_region ?_
  obtain ⟨gb3, e3, f3, k3⟩ := hp2
  refine snv 15 (.slice (some ⟨V6.heap.size, 0, none⟩) 1 1) #[.int .i64 3] 3 (fun V7 hbV7 hzV7 b15 => ?_)
  refine sv 16 (.agg #[.bool false, .slice (some ⟨V6.heap.size, 0, none⟩) 1 1, .int .i64 0]) ?_
  refine snv 17 (.slice (some ⟨V7.heap.size, 0, none⟩) 1 1) #[.int .i64 4] 3 (fun V8 hbV8 hzV8 b17 => ?_)
  refine sv 18 (.agg #[.bool false, .slice (some ⟨V7.heap.size, 0, none⟩) 1 1, .int .i64 0]) ?_
  refine sn 5 #[.bool false, .slice none 0 0, .int .i64 0] 36 (fun V9 hbV9 hzV9 b5 => ?_)
  refine sn 6 #[.bool false, .slice none 0 0, .int .i64 0] 36 (fun V10 hbV10 hzV10 b6 => ?_)
  replace b5 := (b5.past hbV10)
  refine ss none b5 hT36 0 #[.bool false, .slice (some ⟨V6.heap.size, 0, none⟩) 1 1, .int .i64 0] #[.bool false, .slice (some ⟨V6.heap.size, 0, none⟩) 1 1, .int .i64 0] ?_
  have boV11 := b5
  clear b5
  intro V11 hOV11 b5
  have hzV11 := hOV11.size
  replace b6 := (b6.only hOV11 (by omega))
  refine ss none b6 hT36 0 #[.bool false, .slice (some ⟨V7.heap.size, 0, none⟩) 1 1, .int .i64 0] #[.bool false, .slice (some ⟨V7.heap.size, 0, none⟩) 1 1, .int .i64 0] ?_
  have boV12 := b6
  clear b6
  intro V12 hOV12 b6
  have hzV12 := hOV12.size
  refine sx_nil ?_
  refine sx_then ?_
  refine wp_seq ?_
  replace b5 := (b5.only hOV12 (by omega))
  replace b1 := (b1.past (((bthru (bthru (bthru (bthru ((bthru hbV4 hbV5).trans (hOV6.below (by omega))) hbV7) hbV8) hbV9) hbV10).trans (hOV11.below (by omega))).trans (hOV12.below (by omega))))
  replace b3 := (b3.past (((bthru (bthru (bthru hbV7 hbV8) hbV9) hbV10).trans (hOV11.below (by omega))).trans (hOV12.below (by omega))))
  obtain ⟨V13, hVV13⟩ : ∃ V, V = (V12).drew := ⟨_, rfl⟩
  have hbV13 : Below (V12).heap.size (V12) V13 := by rw [hVV13]; exact (Below.refl _ _).drew
  have hzV13 : V13.heap.size = (V12).heap.size := by rw [hVV13]; rfl
  replace b5 := (b5.past hbV13)
  replace b1 := (b1.past hbV13)
  replace b6 := (b6.past hbV13)
  replace b3 := (b3.past hbV13)
  refine sxd _ (fun w' => Bt w' V8.heap.size 36 #[.bool false, .slice (some ⟨V6.heap.size, 0, none⟩) 1 1, .int .i64 0] ∧ Bt w' V1.heap.size 27 #[.bool lo.neg, .slice p8 (dig B32 lo.m).length c8, .int .i64 lo.e, .bool up.neg, .slice q8 (dig B32 up.m).length d8, .int .i64 up.e] ∧ Bt w' V9.heap.size 36 #[.bool false, .slice (some ⟨V7.heap.size, 0, none⟩) 1 1, .int .i64 0] ∧ Bt w' V4.heap.size 27 #[.bool lu.neg, .slice p12 (dig B32 lu.m).length c12, .int .i64 lu.e, .bool lv.neg, .slice q12 (dig B32 lv.m).length d12, .int .i64 lv.e]) hVV13 ⟨b5, b1, b6, b3⟩ ?_
  clear hVV13
  refine tk 0 19 (.int .i64 0) ⟨b5, b1, b6, b3⟩ ?_
  refine tk 1 20 (.bool true) ⟨b5, b1, b6, b3⟩ ?_
  refine tk 2 21 (.bool true) ⟨b5, b1, b6, b3⟩ ?_
  refine tk 3 22 (.int .i64 0) ⟨b5, b1, b6, b3⟩ ?_
  refine tk 4 23 (.bool true) ⟨b5, b1, b6, b3⟩ ?_
  refine tk 5 24 (.bool true) ⟨b5, b1, b6, b3⟩ ?_
  refine tk 6 25 (.bool true) ⟨b5, b1, b6, b3⟩ ?_
  refine tk 7 26 (.agg #[.bool false, .slice (some ⟨V6.heap.size, 0, none⟩) 1 1, .int .i64 0]) ⟨b5, b1, b6, b3⟩ ?_ (hy := fun w' hS => (exec_ld (by kernel_rfl) (run_ld hS.1 hT36 0 [.bool false, .slice (some ⟨V6.heap.size, 0, none⟩) 1 1, .int .i64 0] (by kernel_rfl) (by kernel_rfl))))
  refine tk 8 27 (.pointer (some ⟨V1.heap.size, 0, none⟩)) ⟨b5, b1, b6, b3⟩ ?_
  refine tk 9 28 (.agg #[.bool lo.neg, .slice p8 (dig B32 lo.m).length c8, .int .i64 lo.e]) ⟨b5, b1, b6, b3⟩ ?_ (hy := fun w' hS => (exec_ld (by kernel_rfl) (run_ld hS.2.1 hT25 0 [.bool lo.neg, .slice p8 (dig B32 lo.m).length c8, .int .i64 lo.e] (by kernel_rfl) (by kernel_rfl))))
  refine sxr [10] ?_
  refine rd1 (fun Kx hKx => ?_)
  replace ho8 := (ho8.past (bthru (((bthru (bthru (bthru (bthru ((bthru (bthru (hbV2.trans (hOV3.below (by omega))) hbV4) hbV5).trans (hOV6.below (by omega))) hbV7) hbV8) hbV9) hbV10).trans (hOV11.below (by omega))).trans (hOV12.below (by omega))) hbV13))
  refine sek 29 36 #[.agg #[.bool lo.neg, .slice p8 (dig B32 lo.m).length c8, .int .i64 lo.e]] ?_
  ((with_reducible refine (rofdyad lo p8 c8 _ _ ho8 gb1 e1).mono ?_))
  rintro eV14 V14 ⟨p29, c29, rfl, x29, hbV14⟩
  have hzV14 := hbV14.size
  have lx29 := fun h => x29.lt h
  refine ⟨.agg #[.bool lo.neg, .slice p29 (dig B16 lo.m).length c29, .int .i64 lo.e], rfl, ?_⟩
  replace b5 := (b5.past hbV14)
  replace b1 := (b1.past hbV14)
  replace b6 := (b6.past hbV14)
  replace b3 := (b3.past hbV14)
  refine hKx.out _ _ ⟨b5, b1, b6, b3⟩ ?_
  clear hKx Kx
  refine sxr [11] ?_
  refine rd1 (fun Kx hKx => ?_)
  replace b15 := (b15.past (bthru (bthru (((bthru (bthru hbV8 hbV9) hbV10).trans (hOV11.below (by omega))).trans (hOV12.below (by omega))) hbV13) hbV14))
  refine sek 30 26 #[.agg #[.bool false, .slice (some ⟨V6.heap.size, 0, none⟩) 1 1, .int .i64 0], .agg #[.bool lo.neg, .slice p29 (dig B16 lo.m).length c29, .int .i64 lo.e]] ?_
  ((with_reducible refine (rdcmpOneL lo false 0 _ p29 1 c29 3 _ (rone (k := 3) b15 (by omega) (by omega)) (by omega) (by omega) x29.rd x29.cap f1 (by omega)).mono ?_))
  rintro eV15 V15 ⟨rfl, hbV15⟩
  have hzV15 := hbV15.size
  refine ⟨.int .i64 (rCmp ⟨false, 3, 0⟩ lo), rfl, ?_⟩
  replace b5 := (b5.past hbV15)
  replace b1 := (b1.past hbV15)
  replace b6 := (b6.past hbV15)
  replace b3 := (b3.past hbV15)
  refine hKx.out _ _ ⟨b5, b1, b6, b3⟩ ?_
  clear hKx Kx
  refine tk 12 31 (.bool true) ⟨b5, b1, b6, b3⟩ ?_ (hy := fun w' _ => ((show _ = Result.ok (Next.value (.bool (decide ((rCmp ⟨false, 3, 0⟩ lo) ≤ 0)))) _ from (by kernel_rfl)).trans (congrArg (fun z => Result.ok (Next.value (.bool z)) _) (show (decide ((rCmp ⟨false, 3, 0⟩ lo) ≤ 0)) = true from decide_eq_true k1))))
  refine tk 13 32 (.bool true) ⟨b5, b1, b6, b3⟩ ?_
  refine tk 14 33 (.bool true) ⟨b5, b1, b6, b3⟩ ?_
  refine tk 15 34 (.pointer (some ⟨V1.heap.size, 3, none⟩)) ⟨b5, b1, b6, b3⟩ ?_
  refine tk 16 35 (.agg #[.bool up.neg, .slice q8 (dig B32 up.m).length d8, .int .i64 up.e]) ⟨b5, b1, b6, b3⟩ ?_ (hy := fun w' hS => (exec_ld (by kernel_rfl) (run_ld hS.2.1 hT25 3 [.bool up.neg, .slice q8 (dig B32 up.m).length d8, .int .i64 up.e] (by kernel_rfl) (by kernel_rfl))))
  refine tk 18 37 (.agg #[.bool false, .slice (some ⟨V7.heap.size, 0, none⟩) 1 1, .int .i64 0]) ⟨b5, b1, b6, b3⟩ ?_ (hy := fun w' hS => (exec_ld (by kernel_rfl) (run_ld hS.2.2.1 hT36 0 [.bool false, .slice (some ⟨V7.heap.size, 0, none⟩) 1 1, .int .i64 0] (by kernel_rfl) (by kernel_rfl))))
  refine sxr [17] ?_
  refine rd1 (fun Kx hKx => ?_)
  replace hq8 := (hq8.past (bthru (bthru (bthru (((bthru (bthru (bthru (bthru ((bthru (bthru (hbV2.trans (hOV3.below (by omega))) hbV4) hbV5).trans (hOV6.below (by omega))) hbV7) hbV8) hbV9) hbV10).trans (hOV11.below (by omega))).trans (hOV12.below (by omega))) hbV13) hbV14) hbV15))
  refine sek 36 36 #[.agg #[.bool up.neg, .slice q8 (dig B32 up.m).length d8, .int .i64 up.e]] ?_
  ((with_reducible refine (rofdyad up q8 d8 _ _ hq8 gb2 e2).mono ?_))
  rintro eV16 V16 ⟨p36, c36, rfl, x36, hbV16⟩
  have hzV16 := hbV16.size
  have lx36 := fun h => x36.lt h
  refine ⟨.agg #[.bool up.neg, .slice p36 (dig B16 up.m).length c36, .int .i64 up.e], rfl, ?_⟩
  replace b5 := (b5.past hbV16)
  replace b1 := (b1.past hbV16)
  replace b6 := (b6.past hbV16)
  replace b3 := (b3.past hbV16)
  refine hKx.out _ _ ⟨b5, b1, b6, b3⟩ ?_
  clear hKx Kx
  refine sxr [19] ?_
  refine rd1 (fun Kx hKx => ?_)
  replace b17 := (b17.past (bthru (bthru (bthru (bthru (((bthru hbV9 hbV10).trans (hOV11.below (by omega))).trans (hOV12.below (by omega))) hbV13) hbV14) hbV15) hbV16))
  refine sek 38 26 #[.agg #[.bool up.neg, .slice p36 (dig B16 up.m).length c36, .int .i64 up.e], .agg #[.bool false, .slice (some ⟨V7.heap.size, 0, none⟩) 1 1, .int .i64 0]] ?_
  ((with_reducible refine (rdcmpOne up false 0 p36 _ c36 1 4 _ x36.rd (rone (k := 4) b17 (by omega) (by omega)) (by omega) (by omega) (by omega) f2 (by omega)).mono ?_))
  rintro eV17 V17 ⟨rfl, hbV17⟩
  have hzV17 := hbV17.size
  refine ⟨.int .i64 (rCmp up ⟨false, 4, 0⟩), rfl, ?_⟩
  replace b5 := (b5.past hbV17)
  replace b1 := (b1.past hbV17)
  replace b6 := (b6.past hbV17)
  replace b3 := (b3.past hbV17)
  refine hKx.out _ _ ⟨b5, b1, b6, b3⟩ ?_
  clear hKx Kx
  refine tk 20 39 (.bool true) ⟨b5, b1, b6, b3⟩ ?_ (hy := fun w' _ => ((show _ = Result.ok (Next.value (.bool (decide ((rCmp up ⟨false, 4, 0⟩) < 0)))) _ from (by kernel_rfl)).trans (congrArg (fun z => Result.ok (Next.value (.bool z)) _) (show (decide ((rCmp up ⟨false, 4, 0⟩) < 0)) = true from decide_eq_true k2))))
  refine tk 21 40 (.bool true) ⟨b5, b1, b6, b3⟩ ?_
  refine tk 22 41 (.bool true) ⟨b5, b1, b6, b3⟩ ?_
  refine tk 23 42 (.pointer (some ⟨V4.heap.size, 0, none⟩)) ⟨b5, b1, b6, b3⟩ ?_
  refine tk 24 43 (.agg #[.bool lu.neg, .slice p12 (dig B32 lu.m).length c12, .int .i64 lu.e]) ⟨b5, b1, b6, b3⟩ ?_ (hy := fun w' hS => (exec_ld (by kernel_rfl) (run_ld hS.2.2.2 hT25 0 [.bool lu.neg, .slice p12 (dig B32 lu.m).length c12, .int .i64 lu.e] (by kernel_rfl) (by kernel_rfl))))
  refine sxr [25] ?_
  refine rd1 (fun Kx hKx => ?_)
  replace ho12 := (ho12.past (bthru (bthru (bthru (bthru (bthru (((bthru (bthru (bthru (bthru (hbV5.trans (hOV6.below (by omega))) hbV7) hbV8) hbV9) hbV10).trans (hOV11.below (by omega))).trans (hOV12.below (by omega))) hbV13) hbV14) hbV15) hbV16) hbV17))
  refine sek 44 36 #[.agg #[.bool lu.neg, .slice p12 (dig B32 lu.m).length c12, .int .i64 lu.e]] ?_
  ((with_reducible refine (rofdyad lu p12 c12 _ _ ho12 gb3 e3).mono ?_))
  rintro eV18 V18 ⟨p44, c44, rfl, x44, hbV18⟩
  have hzV18 := hbV18.size
  have lx44 := fun h => x44.lt h
  refine ⟨.agg #[.bool lu.neg, .slice p44 (dig B16 lu.m).length c44, .int .i64 lu.e], rfl, ?_⟩
  replace b5 := (b5.past hbV18)
  replace b1 := (b1.past hbV18)
  replace b6 := (b6.past hbV18)
  replace b3 := (b3.past hbV18)
  refine hKx.out _ _ ⟨b5, b1, b6, b3⟩ ?_
  clear hKx Kx
  refine sxr [26] ?_
  refine rd1 (fun Kx hKx => ?_)
  refine sek 45 28 #[.agg #[.bool lu.neg, .slice p44 (dig B16 lu.m).length c44, .int .i64 lu.e]] ?_
  ((with_reducible refine (rdsign lu p44 c44 _ _ x44 f3).mono ?_))
  rintro eV19 V19 ⟨rfl, hbV19⟩
  have hzV19 := hbV19.size
  refine ⟨.int .i64 (dSign lu), rfl, ?_⟩
  replace b5 := (b5.past hbV19)
  replace b1 := (b1.past hbV19)
  replace b6 := (b6.past hbV19)
  replace b3 := (b3.past hbV19)
  refine hKx.out _ _ ⟨b5, b1, b6, b3⟩ ?_
  clear hKx Kx
  refine tk 27 46 (.bool true) ⟨b5, b1, b6, b3⟩ ?_ (hy := fun w' _ => ((show _ = Result.ok (Next.value (.bool (decide ((dSign lu) > 0)))) _ from (by kernel_rfl)).trans (congrArg (fun z => Result.ok (Next.value (.bool z)) _) (show (decide ((dSign lu) > 0)) = true from decide_eq_true k3))))
  refine tk 28 47 (.bool true) ⟨b5, b1, b6, b3⟩ ?_
  refine tk 29 0 (.bool true) ⟨b5, b1, b6, b3⟩ ?_
  refine sx_done (by kernel_rfl) ?_
  refine sx_then ?_
  refine wp_ret ?_
  repeat (first | with_reducible refine sx_thenret ?_ | with_reducible refine sx_blockret ?_)
  refine bodyPost_ret (v := .bool true) (by simp [results, Tryd.results10, go_sem]) rfl ?_
  exact ⟨rfl, (bthru (bthru (bthru (bthru (bthru (bthru (bthru (((bthru (bthru (bthru (bthru ((bthru (bthru ((bthru hbV1 hbV2).trans (hOV3.below (by omega))) hbV4) hbV5).trans (hOV6.below (by omega))) hbV7) hbV8) hbV9) hbV10).trans (hOV11.below (by omega))).trans (hOV12.below (by omega))) hbV13) hbV14) hbV15) hbV16) hbV17) hbV18) hbV19)⟩

end Go.Proofs.YtehodhanojgkgaaDoor

namespace Go.Proofs.YtehodhanojgkgaaDoor
open Go.RowKit Go.Slip

/-- What a call of a series leaves where nothing is wrong; where something is. -/
def GivesNo (w : World) (en : Ending) (w' : World) : Prop := en = .returned (.tuple #[.agg #[.bool false, .slice none 0 0, .int .i64 0, .bool false, .slice none 0 0, .int .i64 0], .int .i64 3]) ∧ Below w.heap.size w w'

set_option maxHeartbeats 2000000 in
set_option maxRecDepth 100000 in
theorem sums_ok (n b : Nat) (t : Bool) (w : World) (hn : 2 ≤ n) (hn2 : n ≤ 1000) (hb1 : 10 ≤ b) (hb2 : b ≤ 1000) (hT : TabW w) :
    Calls Tryd.prog 48 #[.int .i64 ((n : Nat) : Int), .int .i64 ((b : Nat) : Int), .bool t] w (GivesXE w (An t n) (b + 20)) := by
  have hT27 : SxAgg Tryd.prog 27 6 := sxAgg_of (by kernel_rfl) (by kernel_rfl)
  refine calls_of_wp Tryd.func48 rfl ?_
  refine sx_frame (a' := ⟨((.int .i64 ((n : Nat) : Int)) :: (.int .i64 ((b : Nat) : Int)) :: (.bool t) :: undef :: undef :: undef :: undef :: undef :: undef :: undef :: undef :: undef :: undef :: undef :: undef :: undef :: undef :: undef :: undef :: undef :: undef :: undef :: undef :: undef :: undef :: []).toArray, []⟩) (by kernel_rfl) ?_
  refine wp_seq ?_
  refine sx_region ?_
  refine sn 6 #[.bool false, .slice none 0 0, .int .i64 0, .bool false, .slice none 0 0, .int .i64 0] 27 (fun V1 hbV1 hzV1 b6 => ?_)
  refine sv 7 (.int .i64 0) ?_
  refine sx_nil ?_
  refine sx_then ?_
  refine wp_seq ?_
  refine wp_seq ?_
  refine sx_region ?_
  refine sv 8 (.int .i64 ((b : Nat) : Int)) ?_
  refine se 9 33 #[.int .i64 ((b : Nat) : Int), .int .i64 10, .int .i64 1000] (fun Gx hGx => ?_)
  ((with_reducible refine (within_any _ 10 1000 _).mono ?_))
  rintro eV2 V2 ⟨rfl, hbV2⟩
  have hzV2 := hbV2.size
  rw [show (decide ((10 : Int) ≤ ((b : Nat) : Int) ∧ ((b : Nat) : Int) ≤ 1000)) = true from decide_eq_true (by omega)]
  refine ⟨.bool true, rfl, hGx _ _ ?_⟩
  clear hGx Gx
  refine sv 10 (.bool false) ?_
  refine sv 11 (.bool false) ?_
  refine sv 12 (.int .i64 ((n : Nat) : Int)) ?_
  refine se 13 33 #[.int .i64 ((n : Nat) : Int), .int .i64 2, .int .i64 1000] (fun Gx hGx => ?_)
  ((with_reducible refine (within_any _ 2 1000 _).mono ?_))
  rintro eV3 V3 ⟨rfl, hbV3⟩
  have hzV3 := hbV3.size
  rw [show (decide ((2 : Int) ≤ ((n : Nat) : Int) ∧ ((n : Nat) : Int) ≤ 1000)) = true from decide_eq_true (by omega)]
  refine ⟨.bool true, rfl, hGx _ _ ?_⟩
  clear hGx Gx
  refine sv 14 (.bool false) ?_
  refine sv 15 (.bool false) ?_
  refine sx_nil ?_
  refine sx_then ?_
  refine wp_cond_false (by kernel_rfl) ?_
  refine wp_skip ?_
  refine sx_then ?_
  refine wp_seq ?_
  refine sx_region ?_
  refine sv 17 (.int .i64 ((n : Nat) : Int)) ?_
  refine sv 18 (.int .i64 ((b : Nat) : Int)) ?_
  refine sv 19 (.int .i64 ((b + 20 : Nat) : Int)) ?_ (hr := ((show _ = Result.ok (Next.value (.int .i64 (IntKind.wrap .i64 (((b : Nat) : Int) + 20)))) _ by kernel_rfl).trans (congrArg (fun z => Result.ok (Next.value (.int .i64 z)) _) ((by rw [show ((b : Nat) : Int) + 20 = ((b + 20 : Nat) : Int) by omega]; exact IntWalk.i64_in _ (by omega))))))
  refine sv 20 (.bool t) ?_
  replace hT := (hT.past (bthru (bthru hbV1 hbV2) hbV3))
  refine se 21 60 #[.int .i64 ((n : Nat) : Int), .int .i64 ((b + 20 : Nat) : Int), .bool t] (fun Gx hGx => ?_)
  ((with_reducible refine (oddO_any _ _ n (b + 20) t _ rfl rfl (by omega) (by omega) (by omega) hT).mono ?_))
  rintro eV4 V4 ⟨J, hk, p21, c21, q21, d21, rfl, ho21, hq21, hbV4⟩
  have hzV4 := hbV4.size
  refine ⟨.agg #[.bool ((norm (sI t n (b + 20) J - oddO J) (-((b + 20 : Nat) : Int))).neg), .slice p21 (dig B32 (norm (sI t n (b + 20) J - oddO J) (-((b + 20 : Nat) : Int))).m).length c21, .int .i64 ((norm (sI t n (b + 20) J - oddO J) (-((b + 20 : Nat) : Int))).e), .bool ((norm (sI t n (b + 20) J + oddO J) (-((b + 20 : Nat) : Int))).neg), .slice q21 (dig B32 (norm (sI t n (b + 20) J + oddO J) (-((b + 20 : Nat) : Int))).m).length d21, .int .i64 ((norm (sI t n (b + 20) J + oddO J) (-((b + 20 : Nat) : Int))).e)], rfl, hGx _ _ ?_⟩
  clear hGx Gx
  refine se 22 35 #[.agg #[.bool ((norm (sI t n (b + 20) J - oddO J) (-((b + 20 : Nat) : Int))).neg), .slice p21 (dig B32 (norm (sI t n (b + 20) J - oddO J) (-((b + 20 : Nat) : Int))).m).length c21, .int .i64 ((norm (sI t n (b + 20) J - oddO J) (-((b + 20 : Nat) : Int))).e), .bool ((norm (sI t n (b + 20) J + oddO J) (-((b + 20 : Nat) : Int))).neg), .slice q21 (dig B32 (norm (sI t n (b + 20) J + oddO J) (-((b + 20 : Nat) : Int))).m).length d21, .int .i64 ((norm (sI t n (b + 20) J + oddO J) (-((b + 20 : Nat) : Int))).e)]] (fun Gx hGx => ?_)
  ((with_reducible refine (sdone _ _ (b + 20) w.heap.size p21 q21 c21 d21 _ (by omega) (ho21.mono (by omega)) (hq21.mono (by omega)) (odd_small t (by omega) (by omega) (by omega) hk).1 (odd_small t (by omega) (by omega) (by omega) hk).2).mono ?_))
  rintro eV5 V5 ⟨p22, c22, q22, d22, rfl, ho22, hq22, hbV5⟩
  have hzV5 := hbV5.size
  refine ⟨.tuple #[.agg #[.bool ((norm (sI t n (b + 20) J - oddO J) (-((b + 20 : Nat) : Int))).neg), .slice p22 (dig B32 (norm (sI t n (b + 20) J - oddO J) (-((b + 20 : Nat) : Int))).m).length c22, .int .i64 ((norm (sI t n (b + 20) J - oddO J) (-((b + 20 : Nat) : Int))).e), .bool ((norm (sI t n (b + 20) J + oddO J) (-((b + 20 : Nat) : Int))).neg), .slice q22 (dig B32 (norm (sI t n (b + 20) J + oddO J) (-((b + 20 : Nat) : Int))).m).length d22, .int .i64 ((norm (sI t n (b + 20) J + oddO J) (-((b + 20 : Nat) : Int))).e)], .int .i64 0], rfl, hGx _ _ ?_⟩
  clear hGx Gx
  refine sv 23 (.agg #[.bool ((norm (sI t n (b + 20) J - oddO J) (-((b + 20 : Nat) : Int))).neg), .slice p22 (dig B32 (norm (sI t n (b + 20) J - oddO J) (-((b + 20 : Nat) : Int))).m).length c22, .int .i64 ((norm (sI t n (b + 20) J - oddO J) (-((b + 20 : Nat) : Int))).e), .bool ((norm (sI t n (b + 20) J + oddO J) (-((b + 20 : Nat) : Int))).neg), .slice q22 (dig B32 (norm (sI t n (b + 20) J + oddO J) (-((b + 20 : Nat) : Int))).m).length d22, .int .i64 ((norm (sI t n (b + 20) J + oddO J) (-((b + 20 : Nat) : Int))).e)]) ?_
  refine sv 24 (.int .i64 0) ?_
  replace b6 := (b6.past (bthru (bthru (bthru hbV2 hbV3) hbV4) hbV5))
  refine ss none b6 hT27 0 #[.bool ((norm (sI t n (b + 20) J - oddO J) (-((b + 20 : Nat) : Int))).neg), .slice p22 (dig B32 (norm (sI t n (b + 20) J - oddO J) (-((b + 20 : Nat) : Int))).m).length c22, .int .i64 ((norm (sI t n (b + 20) J - oddO J) (-((b + 20 : Nat) : Int))).e), .bool ((norm (sI t n (b + 20) J + oddO J) (-((b + 20 : Nat) : Int))).neg), .slice q22 (dig B32 (norm (sI t n (b + 20) J + oddO J) (-((b + 20 : Nat) : Int))).m).length d22, .int .i64 ((norm (sI t n (b + 20) J + oddO J) (-((b + 20 : Nat) : Int))).e)] #[.bool ((norm (sI t n (b + 20) J - oddO J) (-((b + 20 : Nat) : Int))).neg), .slice p22 (dig B32 (norm (sI t n (b + 20) J - oddO J) (-((b + 20 : Nat) : Int))).m).length c22, .int .i64 ((norm (sI t n (b + 20) J - oddO J) (-((b + 20 : Nat) : Int))).e), .bool ((norm (sI t n (b + 20) J + oddO J) (-((b + 20 : Nat) : Int))).neg), .slice q22 (dig B32 (norm (sI t n (b + 20) J + oddO J) (-((b + 20 : Nat) : Int))).m).length d22, .int .i64 ((norm (sI t n (b + 20) J + oddO J) (-((b + 20 : Nat) : Int))).e)] ?_
  have boV6 := b6
  clear b6
  intro V6 hOV6 b6
  have hzV6 := hOV6.size
  refine sv 7 (.int .i64 0) ?_
  refine sx_nil ?_
  refine sx_then ?_
  refine wp_ret ?_
  have ⟨b6_0, b6_1, b6_2, b6_3, b6_4, b6_5⟩ := b6.bx.e6
  repeat (first | with_reducible refine sx_thenret ?_ | with_reducible refine sx_blockret ?_)
  refine bodyPost_ret (v := .tuple #[.agg #[.bool ((norm (sI t n (b + 20) J - oddO J) (-((b + 20 : Nat) : Int))).neg), .slice p22 (dig B32 (norm (sI t n (b + 20) J - oddO J) (-((b + 20 : Nat) : Int))).m).length c22, .int .i64 ((norm (sI t n (b + 20) J - oddO J) (-((b + 20 : Nat) : Int))).e), .bool ((norm (sI t n (b + 20) J + oddO J) (-((b + 20 : Nat) : Int))).neg), .slice q22 (dig B32 (norm (sI t n (b + 20) J + oddO J) (-((b + 20 : Nat) : Int))).m).length d22, .int .i64 ((norm (sI t n (b + 20) J + oddO J) (-((b + 20 : Nat) : Int))).e)], .int .i64 0]) (by simp [results, Tryd.results48, go_sem, b6_0, b6_1, b6_2, b6_3, b6_4, b6_5]) rfl ?_
  replace ho22 := (ho22.put boV6 hOV6 (by kernel_rfl))
  replace hq22 := (hq22.put boV6 hOV6 (by kernel_rfl))
  exact ⟨_, _, odd_ball t (by omega) (by omega) (by omega) hk, p22, c22, q22, d22, rfl, ho22, hq22, ((bthru (bthru (bthru (bthru hbV1 hbV2) hbV3) hbV4) hbV5).trans (hOV6.below (by omega)))⟩

set_option maxHeartbeats 2000000 in
set_option maxRecDepth 100000 in
theorem sums_no (n b : Int) (t : Bool) (w : World) (h : ¬ (10 ≤ b ∧ b ≤ 1000) ∨ ¬ (2 ≤ n ∧ n ≤ 1000)) :
    Calls Tryd.prog 48 #[.int .i64 n, .int .i64 b, .bool t] w (GivesNo w) := by
  by_cases h1 : 10 ≤ b ∧ b ≤ 1000
  · have h2 := h.resolve_left (fun k => k h1)
    have hT27 : SxAgg Tryd.prog 27 6 := sxAgg_of (by kernel_rfl) (by kernel_rfl)
    refine calls_of_wp Tryd.func48 rfl ?_
    refine sx_frame (a' := ⟨((.int .i64 n) :: (.int .i64 b) :: (.bool t) :: undef :: undef :: undef :: undef :: undef :: undef :: undef :: undef :: undef :: undef :: undef :: undef :: undef :: undef :: undef :: undef :: undef :: undef :: undef :: undef :: undef :: undef :: []).toArray, []⟩) (by kernel_rfl) ?_
    refine wp_seq ?_
    refine sx_region ?_
    refine sn 6 #[.bool false, .slice none 0 0, .int .i64 0, .bool false, .slice none 0 0, .int .i64 0] 27 (fun V1 hbV1 hzV1 b6 => ?_)
    refine sv 7 (.int .i64 0) ?_
    refine sx_nil ?_
    refine sx_then ?_
    refine wp_seq ?_
    refine wp_seq ?_
    refine sx_region ?_
    refine sv 8 (.int .i64 b) ?_
    refine se 9 33 #[.int .i64 b, .int .i64 10, .int .i64 1000] (fun Gx hGx => ?_)
    ((with_reducible refine (within_any _ 10 1000 _).mono ?_))
    rintro eV2 V2 ⟨rfl, hbV2⟩
    have hzV2 := hbV2.size
    rw [show (decide ((10 : Int) ≤ b ∧ b ≤ 1000)) = true from decide_eq_true h1]
    refine ⟨.bool true, rfl, hGx _ _ ?_⟩
    clear hGx Gx
    refine sv 10 (.bool false) ?_
    refine sv 11 (.bool false) ?_
    refine sv 12 (.int .i64 n) ?_
    refine se 13 33 #[.int .i64 n, .int .i64 2, .int .i64 1000] (fun Gx hGx => ?_)
    ((with_reducible refine (within_any _ 2 1000 _).mono ?_))
    rintro eV3 V3 ⟨rfl, hbV3⟩
    have hzV3 := hbV3.size
    rw [show (decide ((2 : Int) ≤ n ∧ n ≤ 1000)) = false from decide_eq_false h2]
    refine ⟨.bool false, rfl, hGx _ _ ?_⟩
    clear hGx Gx
    refine sv 14 (.bool true) ?_
    refine sv 15 (.bool true) ?_
    refine sx_nil ?_
    refine sx_then ?_
    refine wp_cond_true (by kernel_rfl) ?_
    refine wp_seq ?_
    refine sx_region ?_
    refine sv 16 (.agg #[.bool false, .slice none 0 0, .int .i64 0, .bool false, .slice none 0 0, .int .i64 0]) ?_
    replace b6 := (b6.past (bthru hbV2 hbV3))
    refine ss none b6 hT27 0 #[.bool false, .slice none 0 0, .int .i64 0, .bool false, .slice none 0 0, .int .i64 0] #[.bool false, .slice none 0 0, .int .i64 0, .bool false, .slice none 0 0, .int .i64 0] ?_
    have boV4 := b6
    clear b6
    intro V4 hOV4 b6
    have hzV4 := hOV4.size
    refine sv 7 (.int .i64 3) ?_
    refine sx_nil ?_
    refine sx_then ?_
    refine wp_ret ?_
    have ⟨b6_0, b6_1, b6_2, b6_3, b6_4, b6_5⟩ := b6.bx.e6
    repeat (first | with_reducible refine sx_thenret ?_ | with_reducible refine sx_blockret ?_)
    refine bodyPost_ret (v := .tuple #[.agg #[.bool false, .slice none 0 0, .int .i64 0, .bool false, .slice none 0 0, .int .i64 0], .int .i64 3]) (by simp [results, Tryd.results48, go_sem, b6_0, b6_1, b6_2, b6_3, b6_4, b6_5]) rfl ?_
    exact ⟨rfl, ((bthru (bthru hbV1 hbV2) hbV3).trans (hOV4.below (by omega)))⟩
  · skip
    have hT27 : SxAgg Tryd.prog 27 6 := sxAgg_of (by kernel_rfl) (by kernel_rfl)
    refine calls_of_wp Tryd.func48 rfl ?_
    refine sx_frame (a' := ⟨((.int .i64 n) :: (.int .i64 b) :: (.bool t) :: undef :: undef :: undef :: undef :: undef :: undef :: undef :: undef :: undef :: undef :: undef :: undef :: undef :: undef :: undef :: undef :: undef :: undef :: undef :: undef :: undef :: undef :: []).toArray, []⟩) (by kernel_rfl) ?_
    refine wp_seq ?_
    refine sx_region ?_
    refine sn 6 #[.bool false, .slice none 0 0, .int .i64 0, .bool false, .slice none 0 0, .int .i64 0] 27 (fun V1 hbV1 hzV1 b6 => ?_)
    refine sv 7 (.int .i64 0) ?_
    refine sx_nil ?_
    refine sx_then ?_
    refine wp_seq ?_
    refine wp_seq ?_
    refine sx_region ?_
    refine sv 8 (.int .i64 b) ?_
    refine se 9 33 #[.int .i64 b, .int .i64 10, .int .i64 1000] (fun Gx hGx => ?_)
    ((with_reducible refine (within_any _ 10 1000 _).mono ?_))
    rintro eV2 V2 ⟨rfl, hbV2⟩
    have hzV2 := hbV2.size
    rw [show (decide ((10 : Int) ≤ b ∧ b ≤ 1000)) = false from decide_eq_false h1]
    refine ⟨.bool false, rfl, hGx _ _ ?_⟩
    clear hGx Gx
    refine sv 10 (.bool true) ?_
    refine sv 11 (.bool true) ?_
    refine so (some 12) ?_
    refine so (some 13) ?_
    refine so (some 14) ?_
    refine sv 15 (.bool true) ?_
    refine sx_nil ?_
    refine sx_then ?_
    refine wp_cond_true (by kernel_rfl) ?_
    refine wp_seq ?_
    refine sx_region ?_
    refine sv 16 (.agg #[.bool false, .slice none 0 0, .int .i64 0, .bool false, .slice none 0 0, .int .i64 0]) ?_
    replace b6 := (b6.past hbV2)
    refine ss none b6 hT27 0 #[.bool false, .slice none 0 0, .int .i64 0, .bool false, .slice none 0 0, .int .i64 0] #[.bool false, .slice none 0 0, .int .i64 0, .bool false, .slice none 0 0, .int .i64 0] ?_
    have boV3 := b6
    clear b6
    intro V3 hOV3 b6
    have hzV3 := hOV3.size
    refine sv 7 (.int .i64 3) ?_
    refine sx_nil ?_
    refine sx_then ?_
    refine wp_ret ?_
    have ⟨b6_0, b6_1, b6_2, b6_3, b6_4, b6_5⟩ := b6.bx.e6
    repeat (first | with_reducible refine sx_thenret ?_ | with_reducible refine sx_blockret ?_)
    refine bodyPost_ret (v := .tuple #[.agg #[.bool false, .slice none 0 0, .int .i64 0, .bool false, .slice none 0 0, .int .i64 0], .int .i64 3]) (by simp [results, Tryd.results48, go_sem, b6_0, b6_1, b6_2, b6_3, b6_4, b6_5]) rfl ?_
    exact ⟨rfl, ((bthru hbV1 hbV2).trans (hOV3.below (by omega)))⟩


set_option maxHeartbeats 2000000 in
set_option maxRecDepth 100000 in
theorem atanh_ok (N B : Int) (n b : Nat) (w : World) (hN : N = n) (hB : B = b) (hn : 2 ≤ n) (hn2 : n ≤ 1000) (hb1 : 10 ≤ b) (hb2 : b ≤ 1000) (hT : TabW w) :
    Calls Tryd.prog 19 #[.int .i64 N, .int .i64 B] w (GivesXE w (An false n) (b + 20)) := by
  subst hN hB
  have hT27 : SxAgg Tryd.prog 27 6 := sxAgg_of (by kernel_rfl) (by kernel_rfl)
  refine calls_of_wp Tryd.func19 rfl ?_
  refine sx_frame (a' := ⟨((.int .i64 ((n : Nat) : Int)) :: (.int .i64 ((b : Nat) : Int)) :: undef :: undef :: undef :: undef :: undef :: undef :: undef :: undef :: undef :: []).toArray, []⟩) (by kernel_rfl) ?_
  refine wp_seq ?_
  refine sx_region ?_
  refine sn 4 #[.bool false, .slice none 0 0, .int .i64 0, .bool false, .slice none 0 0, .int .i64 0] 27 (fun V1 hbV1 hzV1 b4 => ?_)
  refine sv 5 (.int .i64 0) ?_
  refine sx_nil ?_
  refine sx_then ?_
  refine wp_seq ?_
  refine sx_region ?_
  refine sv 6 (.int .i64 ((n : Nat) : Int)) ?_
  refine sv 7 (.int .i64 ((b : Nat) : Int)) ?_
  replace hT := (hT.past hbV1)
  refine se 8 48 #[.int .i64 ((n : Nat) : Int), .int .i64 ((b : Nat) : Int), .bool false] (fun Gx hGx => ?_)
  ((with_reducible refine (sums_ok n b false _ hn hn2 hb1 hb2 hT).mono ?_))
  rintro eV2 V2 ⟨L, H, hB, p8, c8, q8, d8, rfl, ho8, hq8, hbV2⟩
  have hzV2 := hbV2.size
  refine ⟨.tuple #[.agg #[.bool ((norm (L) (-((b + 20 : Nat) : Int))).neg), .slice p8 (dig B32 (norm (L) (-((b + 20 : Nat) : Int))).m).length c8, .int .i64 ((norm (L) (-((b + 20 : Nat) : Int))).e), .bool ((norm (H) (-((b + 20 : Nat) : Int))).neg), .slice q8 (dig B32 (norm (H) (-((b + 20 : Nat) : Int))).m).length d8, .int .i64 ((norm (H) (-((b + 20 : Nat) : Int))).e)], .int .i64 0], rfl, hGx _ _ ?_⟩
  clear hGx Gx
  refine sv 9 (.agg #[.bool ((norm (L) (-((b + 20 : Nat) : Int))).neg), .slice p8 (dig B32 (norm (L) (-((b + 20 : Nat) : Int))).m).length c8, .int .i64 ((norm (L) (-((b + 20 : Nat) : Int))).e), .bool ((norm (H) (-((b + 20 : Nat) : Int))).neg), .slice q8 (dig B32 (norm (H) (-((b + 20 : Nat) : Int))).m).length d8, .int .i64 ((norm (H) (-((b + 20 : Nat) : Int))).e)]) ?_
  refine sv 10 (.int .i64 0) ?_
  replace b4 := (b4.past hbV2)
  refine ss none b4 hT27 0 #[.bool ((norm (L) (-((b + 20 : Nat) : Int))).neg), .slice p8 (dig B32 (norm (L) (-((b + 20 : Nat) : Int))).m).length c8, .int .i64 ((norm (L) (-((b + 20 : Nat) : Int))).e), .bool ((norm (H) (-((b + 20 : Nat) : Int))).neg), .slice q8 (dig B32 (norm (H) (-((b + 20 : Nat) : Int))).m).length d8, .int .i64 ((norm (H) (-((b + 20 : Nat) : Int))).e)] #[.bool ((norm (L) (-((b + 20 : Nat) : Int))).neg), .slice p8 (dig B32 (norm (L) (-((b + 20 : Nat) : Int))).m).length c8, .int .i64 ((norm (L) (-((b + 20 : Nat) : Int))).e), .bool ((norm (H) (-((b + 20 : Nat) : Int))).neg), .slice q8 (dig B32 (norm (H) (-((b + 20 : Nat) : Int))).m).length d8, .int .i64 ((norm (H) (-((b + 20 : Nat) : Int))).e)] ?_
  have boV3 := b4
  clear b4
  intro V3 hOV3 b4
  have hzV3 := hOV3.size
  refine sv 5 (.int .i64 0) ?_
  refine sx_nil ?_
  refine sx_then ?_
  refine wp_ret ?_
  have ⟨b4_0, b4_1, b4_2, b4_3, b4_4, b4_5⟩ := b4.bx.e6
  repeat (first | with_reducible refine sx_thenret ?_ | with_reducible refine sx_blockret ?_)
  refine bodyPost_ret (v := .tuple #[.agg #[.bool ((norm (L) (-((b + 20 : Nat) : Int))).neg), .slice p8 (dig B32 (norm (L) (-((b + 20 : Nat) : Int))).m).length c8, .int .i64 ((norm (L) (-((b + 20 : Nat) : Int))).e), .bool ((norm (H) (-((b + 20 : Nat) : Int))).neg), .slice q8 (dig B32 (norm (H) (-((b + 20 : Nat) : Int))).m).length d8, .int .i64 ((norm (H) (-((b + 20 : Nat) : Int))).e)], .int .i64 0]) (by simp [results, Tryd.results19, go_sem, b4_0, b4_1, b4_2, b4_3, b4_4, b4_5]) rfl ?_
  replace ho8 := (ho8.put boV3 hOV3 (by kernel_rfl))
  replace hq8 := (hq8.put boV3 hOV3 (by kernel_rfl))
  exact ⟨_, _, hB, p8, c8, q8, d8, rfl, ho8.mono (by omega), hq8.mono (by omega), ((bthru hbV1 hbV2).trans (hOV3.below (by omega)))⟩

set_option maxHeartbeats 2000000 in
set_option maxRecDepth 100000 in
theorem atanh_no (n b : Int) (w : World) (h : ¬ (10 ≤ b ∧ b ≤ 1000) ∨ ¬ (2 ≤ n ∧ n ≤ 1000)) :
    Calls Tryd.prog 19 #[.int .i64 n, .int .i64 b] w (GivesNo w) := by
  have hT27 : SxAgg Tryd.prog 27 6 := sxAgg_of (by kernel_rfl) (by kernel_rfl)
  refine calls_of_wp Tryd.func19 rfl ?_
  refine sx_frame (a' := ⟨((.int .i64 n) :: (.int .i64 b) :: undef :: undef :: undef :: undef :: undef :: undef :: undef :: undef :: undef :: []).toArray, []⟩) (by kernel_rfl) ?_
  refine wp_seq ?_
  refine sx_region ?_
  refine sn 4 #[.bool false, .slice none 0 0, .int .i64 0, .bool false, .slice none 0 0, .int .i64 0] 27 (fun V1 hbV1 hzV1 b4 => ?_)
  refine sv 5 (.int .i64 0) ?_
  refine sx_nil ?_
  refine sx_then ?_
  refine wp_seq ?_
  refine sx_region ?_
  refine sv 6 (.int .i64 n) ?_
  refine sv 7 (.int .i64 b) ?_
  refine se 8 48 #[.int .i64 n, .int .i64 b, .bool false] (fun Gx hGx => ?_)
  ((with_reducible refine (sums_no n b false _ h).mono ?_))
  rintro eV2 V2 ⟨rfl, hbV2⟩
  have hzV2 := hbV2.size
  refine ⟨.tuple #[.agg #[.bool false, .slice none 0 0, .int .i64 0, .bool false, .slice none 0 0, .int .i64 0], .int .i64 3], rfl, hGx _ _ ?_⟩
  clear hGx Gx
  refine sv 9 (.agg #[.bool false, .slice none 0 0, .int .i64 0, .bool false, .slice none 0 0, .int .i64 0]) ?_
  refine sv 10 (.int .i64 3) ?_
  replace b4 := (b4.past hbV2)
  refine ss none b4 hT27 0 #[.bool false, .slice none 0 0, .int .i64 0, .bool false, .slice none 0 0, .int .i64 0] #[.bool false, .slice none 0 0, .int .i64 0, .bool false, .slice none 0 0, .int .i64 0] ?_
  have boV3 := b4
  clear b4
  intro V3 hOV3 b4
  have hzV3 := hOV3.size
  refine sv 5 (.int .i64 3) ?_
  refine sx_nil ?_
  refine sx_then ?_
  refine wp_ret ?_
  have ⟨b4_0, b4_1, b4_2, b4_3, b4_4, b4_5⟩ := b4.bx.e6
  repeat (first | with_reducible refine sx_thenret ?_ | with_reducible refine sx_blockret ?_)
  refine bodyPost_ret (v := .tuple #[.agg #[.bool false, .slice none 0 0, .int .i64 0, .bool false, .slice none 0 0, .int .i64 0], .int .i64 3]) (by simp [results, Tryd.results19, go_sem, b4_0, b4_1, b4_2, b4_3, b4_4, b4_5]) rfl ?_
  exact ⟨rfl, ((bthru hbV1 hbV2).trans (hOV3.below (by omega)))⟩

set_option maxHeartbeats 2000000 in
set_option maxRecDepth 100000 in
theorem atan_ok (N B : Int) (n b : Nat) (w : World) (hN : N = n) (hB : B = b) (hn : 2 ≤ n) (hn2 : n ≤ 1000) (hb1 : 10 ≤ b) (hb2 : b ≤ 1000) (hT : TabW w) :
    Calls Tryd.prog 17 #[.int .i64 N, .int .i64 B] w (GivesXE w (An true n) (b + 20)) := by
  subst hN hB
  have hT27 : SxAgg Tryd.prog 27 6 := sxAgg_of (by kernel_rfl) (by kernel_rfl)
  refine calls_of_wp Tryd.func17 rfl ?_
  refine sx_frame (a' := ⟨((.int .i64 ((n : Nat) : Int)) :: (.int .i64 ((b : Nat) : Int)) :: undef :: undef :: undef :: undef :: undef :: undef :: undef :: undef :: undef :: []).toArray, []⟩) (by kernel_rfl) ?_
  refine wp_seq ?_
  refine sx_region ?_
  refine sn 4 #[.bool false, .slice none 0 0, .int .i64 0, .bool false, .slice none 0 0, .int .i64 0] 27 (fun V1 hbV1 hzV1 b4 => ?_)
  refine sv 5 (.int .i64 0) ?_
  refine sx_nil ?_
  refine sx_then ?_
  refine wp_seq ?_
  refine sx_region ?_
  refine sv 6 (.int .i64 ((n : Nat) : Int)) ?_
  refine sv 7 (.int .i64 ((b : Nat) : Int)) ?_
  replace hT := (hT.past hbV1)
  refine se 8 48 #[.int .i64 ((n : Nat) : Int), .int .i64 ((b : Nat) : Int), .bool true] (fun Gx hGx => ?_)
  ((with_reducible refine (sums_ok n b true _ hn hn2 hb1 hb2 hT).mono ?_))
  rintro eV2 V2 ⟨L, H, hB, p8, c8, q8, d8, rfl, ho8, hq8, hbV2⟩
  have hzV2 := hbV2.size
  refine ⟨.tuple #[.agg #[.bool ((norm (L) (-((b + 20 : Nat) : Int))).neg), .slice p8 (dig B32 (norm (L) (-((b + 20 : Nat) : Int))).m).length c8, .int .i64 ((norm (L) (-((b + 20 : Nat) : Int))).e), .bool ((norm (H) (-((b + 20 : Nat) : Int))).neg), .slice q8 (dig B32 (norm (H) (-((b + 20 : Nat) : Int))).m).length d8, .int .i64 ((norm (H) (-((b + 20 : Nat) : Int))).e)], .int .i64 0], rfl, hGx _ _ ?_⟩
  clear hGx Gx
  refine sv 9 (.agg #[.bool ((norm (L) (-((b + 20 : Nat) : Int))).neg), .slice p8 (dig B32 (norm (L) (-((b + 20 : Nat) : Int))).m).length c8, .int .i64 ((norm (L) (-((b + 20 : Nat) : Int))).e), .bool ((norm (H) (-((b + 20 : Nat) : Int))).neg), .slice q8 (dig B32 (norm (H) (-((b + 20 : Nat) : Int))).m).length d8, .int .i64 ((norm (H) (-((b + 20 : Nat) : Int))).e)]) ?_
  refine sv 10 (.int .i64 0) ?_
  replace b4 := (b4.past hbV2)
  refine ss none b4 hT27 0 #[.bool ((norm (L) (-((b + 20 : Nat) : Int))).neg), .slice p8 (dig B32 (norm (L) (-((b + 20 : Nat) : Int))).m).length c8, .int .i64 ((norm (L) (-((b + 20 : Nat) : Int))).e), .bool ((norm (H) (-((b + 20 : Nat) : Int))).neg), .slice q8 (dig B32 (norm (H) (-((b + 20 : Nat) : Int))).m).length d8, .int .i64 ((norm (H) (-((b + 20 : Nat) : Int))).e)] #[.bool ((norm (L) (-((b + 20 : Nat) : Int))).neg), .slice p8 (dig B32 (norm (L) (-((b + 20 : Nat) : Int))).m).length c8, .int .i64 ((norm (L) (-((b + 20 : Nat) : Int))).e), .bool ((norm (H) (-((b + 20 : Nat) : Int))).neg), .slice q8 (dig B32 (norm (H) (-((b + 20 : Nat) : Int))).m).length d8, .int .i64 ((norm (H) (-((b + 20 : Nat) : Int))).e)] ?_
  have boV3 := b4
  clear b4
  intro V3 hOV3 b4
  have hzV3 := hOV3.size
  refine sv 5 (.int .i64 0) ?_
  refine sx_nil ?_
  refine sx_then ?_
  refine wp_ret ?_
  have ⟨b4_0, b4_1, b4_2, b4_3, b4_4, b4_5⟩ := b4.bx.e6
  repeat (first | with_reducible refine sx_thenret ?_ | with_reducible refine sx_blockret ?_)
  refine bodyPost_ret (v := .tuple #[.agg #[.bool ((norm (L) (-((b + 20 : Nat) : Int))).neg), .slice p8 (dig B32 (norm (L) (-((b + 20 : Nat) : Int))).m).length c8, .int .i64 ((norm (L) (-((b + 20 : Nat) : Int))).e), .bool ((norm (H) (-((b + 20 : Nat) : Int))).neg), .slice q8 (dig B32 (norm (H) (-((b + 20 : Nat) : Int))).m).length d8, .int .i64 ((norm (H) (-((b + 20 : Nat) : Int))).e)], .int .i64 0]) (by simp [results, Tryd.results17, go_sem, b4_0, b4_1, b4_2, b4_3, b4_4, b4_5]) rfl ?_
  replace ho8 := (ho8.put boV3 hOV3 (by kernel_rfl))
  replace hq8 := (hq8.put boV3 hOV3 (by kernel_rfl))
  exact ⟨_, _, hB, p8, c8, q8, d8, rfl, ho8.mono (by omega), hq8.mono (by omega), ((bthru hbV1 hbV2).trans (hOV3.below (by omega)))⟩

set_option maxHeartbeats 2000000 in
set_option maxRecDepth 100000 in
theorem atan_no (n b : Int) (w : World) (h : ¬ (10 ≤ b ∧ b ≤ 1000) ∨ ¬ (2 ≤ n ∧ n ≤ 1000)) :
    Calls Tryd.prog 17 #[.int .i64 n, .int .i64 b] w (GivesNo w) := by
  have hT27 : SxAgg Tryd.prog 27 6 := sxAgg_of (by kernel_rfl) (by kernel_rfl)
  refine calls_of_wp Tryd.func17 rfl ?_
  refine sx_frame (a' := ⟨((.int .i64 n) :: (.int .i64 b) :: undef :: undef :: undef :: undef :: undef :: undef :: undef :: undef :: undef :: []).toArray, []⟩) (by kernel_rfl) ?_
  refine wp_seq ?_
  refine sx_region ?_
  refine sn 4 #[.bool false, .slice none 0 0, .int .i64 0, .bool false, .slice none 0 0, .int .i64 0] 27 (fun V1 hbV1 hzV1 b4 => ?_)
  refine sv 5 (.int .i64 0) ?_
  refine sx_nil ?_
  refine sx_then ?_
  refine wp_seq ?_
  refine sx_region ?_
  refine sv 6 (.int .i64 n) ?_
  refine sv 7 (.int .i64 b) ?_
  refine se 8 48 #[.int .i64 n, .int .i64 b, .bool true] (fun Gx hGx => ?_)
  ((with_reducible refine (sums_no n b true _ h).mono ?_))
  rintro eV2 V2 ⟨rfl, hbV2⟩
  have hzV2 := hbV2.size
  refine ⟨.tuple #[.agg #[.bool false, .slice none 0 0, .int .i64 0, .bool false, .slice none 0 0, .int .i64 0], .int .i64 3], rfl, hGx _ _ ?_⟩
  clear hGx Gx
  refine sv 9 (.agg #[.bool false, .slice none 0 0, .int .i64 0, .bool false, .slice none 0 0, .int .i64 0]) ?_
  refine sv 10 (.int .i64 3) ?_
  replace b4 := (b4.past hbV2)
  refine ss none b4 hT27 0 #[.bool false, .slice none 0 0, .int .i64 0, .bool false, .slice none 0 0, .int .i64 0] #[.bool false, .slice none 0 0, .int .i64 0, .bool false, .slice none 0 0, .int .i64 0] ?_
  have boV3 := b4
  clear b4
  intro V3 hOV3 b4
  have hzV3 := hOV3.size
  refine sv 5 (.int .i64 3) ?_
  refine sx_nil ?_
  refine sx_then ?_
  refine wp_ret ?_
  have ⟨b4_0, b4_1, b4_2, b4_3, b4_4, b4_5⟩ := b4.bx.e6
  repeat (first | with_reducible refine sx_thenret ?_ | with_reducible refine sx_blockret ?_)
  refine bodyPost_ret (v := .tuple #[.agg #[.bool false, .slice none 0 0, .int .i64 0, .bool false, .slice none 0 0, .int .i64 0], .int .i64 3]) (by simp [results, Tryd.results17, go_sem, b4_0, b4_1, b4_2, b4_3, b4_4, b4_5]) rfl ?_
  exact ⟨rfl, ((bthru hbV1 hbV2).trans (hOV3.below (by omega)))⟩

end Go.Proofs.YtehodhanojgkgaaDoor
