/- references: StepOf. -/
import Derived.Test.YtlegnbigddhmlaaDoorZSx3
import Derived.Test.YtlegnbigddhmlaaDoorZRGd5
import Derived.Test.YtlegnbigddhmlaaDoorZA
import Derived.Test.YtlegnbigddhmlaaDoorZU
namespace Go.Slip
theorem sum_lo {a : Dv} (ha : Bare a) (h0 : a.m ≠ 0) {E : Int} (hl : (dig B32 a.m).length ≤ 1200) (he : -40000 ≤ a.e ∧ a.e ≤ 60000) (hE : E ≤ a.e ∧ a.e ≤ E + 1000) : -41000 ≤ (rPlus a (oneD E)).e := by
  have hb1 : Bare (oneD E) := .inl (by unfold oneD; rfl)
  have hp := pPlus_eq ha hb1
  have h1 : (dig B32 1).length ≤ 1 := by rw [dig_len_le B32_two]; unfold B32; omega
  rw [← hp]
  unfold pPlus
  rw [if_neg h0, if_neg (by unfold oneD; simp)]
  simp only [oneD]
  have hj := joinD_m_le a.neg false (a.m * 2 ^ (a.e - min a.e E).toNat) (1 * 2 ^ (E - min a.e E).toNat) (min a.e E)
  have s1 := len_shl a.m (a.e - min a.e E).toNat
  have s2 := len_shl 1 (E - min a.e E).toNat
  have s3 := dig_len_add B32_two (a.m * 2 ^ (a.e - min a.e E).toNat) (1 * 2 ^ (E - min a.e E).toNat)
  have s4 := dig_len_mono B32_two hj.1
  generalize joinD a.neg false (a.m * 2 ^ (a.e - min a.e E).toNat) (1 * 2 ^ (E - min a.e E).toNat) (min a.e E) = d at *
  have hd : (dig B32 d.m).length ≤ 8000 := by omega
  exact (bare_e d hd (lo := -41000) (hi := 60000) (by omega) (by omega) (by omega) (by omega)).1
end Go.Slip
namespace Go.Proofs.YtlegnbigddhmlaaDoor
open Go.RowKit Go.Slip

/-- A number of the reference's, and whether. -/
def GivesFB2 (w : World) (d : Dv) (b : Bool) (en : Ending) (w' : World) : Prop :=
  ∃ p c, en = .returned (.tuple #[.agg #[.bool d.neg, .slice p (dig B16 d.m).length c, .int .i64 d.e], .bool b]) ∧ Rf w' w.heap.size p c (dig B16 d.m) ∧ Below w.heap.size w w'

theorem dig16_one : dig B16 1 = [1] := by rw [dig_pos B16_two (by omega), show 1 / B16 = 0 by unfold B16; omega, dig_zero, show 1 % B16 = 1 by unfold B16; omega]
theorem max_is (x y : Int) : (if y > x then y else x) = max x y := by split <;> omega

theorem rf_one {w : World} {b : Nat} {t : TypeId} (h : Bt w b t #[.int .i64 1]) : Rf w b (some ⟨b, 0, none⟩) 1 (dig B16 1) := by rw [dig16_one]; exact rf_lit (k := 1) h
theorem len16_one : 1 = (dig B16 1).length := by rw [dig16_one]; rfl
theorem stay {P : Program} {f : FuncId} {args : Array Value} {w : World} {E : Ending} (h : Calls P f args w fun e w' => e = E ∧ w = w') : Calls P f args w fun e w' => e = E ∧ Below w.heap.size w w' :=
  h.mono fun e w' ⟨h1, h2⟩ => ⟨h1, by subst h2; exact Below.refl _ _⟩


set_option maxHeartbeats 4000000 in
set_option maxRecDepth 100000 in
theorem refStepOf_any (s : Bool) (p : Option Addr) (c : Nat) (e : Int) (m : Nat) (g : Gd) (w : World) (hp0 : Rd w .i64 p (dig B16 m)) (hB : Bare ⟨s, m, e⟩) (hl : (dig B32 m).length ≤ 1200) (he : -60000 ≤ e ∧ e ≤ 60000) (hg : errG g = 0)
    (hin : inGridD ⟨s, m, e⟩ g = true) (hc : (dig B16 m).length ≤ c) :
    Calls Tryd.prog 23 #[.agg #[.bool s, .slice p (dig B16 m).length c, .int .i64 e], .agg #[.int .i64 g.rad, .int .i64 g.digs, .int .i64 g.lo, .int .i64 g.hi, .bool g.grad]] w (GivesFB2 w (rStep ⟨s, m, e⟩ g).1 (rStep ⟨s, m, e⟩ g).2) := by
  have hp : Rf w 0 p c (dig B16 m) := ⟨hp0, hc, fun _ => Nat.zero_le _⟩
  have G := goodG_of hg
  have HWD := fun W => Lib.hid (refWidth_any g W)
  have wp := wid_pos g
  have wt := Lib.hid (wid_two g)
  have gd1 := G.d1
  have gd2 := G.d2
  have gl1 := G.l1
  have gh2 := G.h2
  have gle := G.le
  have l16 := B16_len32 m
  have hlo := mul_bd (k := g.lo) wp.2 (B := 17000) ⟨by omega, by omega⟩
  have hlo2 := mul_bd (k := g.lo + g.digs - 1) wp.2 (B := 17200) ⟨by omega, by omega⟩
  have hz := dig_len_zero B16_two m
  by_cases h0 : m = 0
  · have hk : rStep ⟨s, m, e⟩ g = (leastD g, true) := by unfold rStep; rw [if_pos h0]
    rw [hk]
    unfold leastD
    have t35 : (((dig B16 m).length : Int) == 0) = true := by rw [hz.2 h0]; rfl
    generalize wid g = wd at *
    clear hk hin hB h0
    by_cases hgr : g.grad = true
    · rw [if_pos hgr, Int.add_zero]
      have hT3 : SxOne Tryd.prog 3 := sxOne_of (by kernel_rfl) (by kernel_rfl)
      have hT4 : SxOne Tryd.prog 4 := sxOne_of (by kernel_rfl) (by kernel_rfl)
      have hT27 : SxAgg Tryd.prog 27 5 := sxAgg_of (by kernel_rfl) (by kernel_rfl)
      have hT33 : SxOne Tryd.prog 33 := sxOne_of (by kernel_rfl) (by kernel_rfl)
      have hT35 : SxAgg Tryd.prog 35 3 := sxAgg_of (by kernel_rfl) (by kernel_rfl)
      refine calls_of_wp Tryd.func23 rfl ?_
      refine sx_frame (a' := ⟨((.agg #[.bool s, .slice p (dig B16 m).length c, .int .i64 e]) :: (.agg #[.int .i64 g.rad, .int .i64 g.digs, .int .i64 g.lo, .int .i64 g.hi, .bool g.grad]) :: undef :: undef :: undef :: undef :: undef :: undef :: undef :: undef :: undef :: undef :: undef :: undef :: undef :: undef :: undef :: undef :: undef :: undef :: undef :: undef :: undef :: undef :: undef :: undef :: undef :: undef :: undef :: undef :: undef :: undef :: undef :: undef :: undef :: undef :: undef :: undef :: undef :: undef :: undef :: undef :: undef :: undef :: undef :: undef :: undef :: undef :: undef :: undef :: undef :: undef :: undef :: undef :: undef :: undef :: undef :: undef :: undef :: undef :: undef :: undef :: undef :: undef :: undef :: undef :: undef :: undef :: undef :: undef :: undef :: undef :: undef :: undef :: undef :: undef :: undef :: undef :: undef :: undef :: undef :: undef :: undef :: undef :: undef :: undef :: undef :: undef :: undef :: undef :: undef :: undef :: undef :: undef :: undef :: undef :: undef :: undef :: undef :: undef :: undef :: undef :: []).toArray, []⟩) (by kernel_rfl) ?_
      refine wp_seq ?_
      refine sx_region ?_
      refine sn 2 #[.bool s, .slice p (dig B16 m).length c, .int .i64 e] 35 (fun V1 hbV1 hzV1 b2 => ?_)
      refine sn 3 #[.int .i64 g.rad, .int .i64 g.digs, .int .i64 g.lo, .int .i64 g.hi, .bool g.grad] 27 (fun V2 hbV2 hzV2 b3 => ?_)
      refine sn 4 #[.bool false, .slice none 0 0, .int .i64 0] 35 (fun V3 hbV3 hzV3 b4 => ?_)
      refine sv 5 (.bool false) ?_
      refine sx_nil ?_
      refine sx_then ?_
      refine wp_seq ?_
      refine sx_region ?_
      replace b3 := (b3.past hbV3)
      refine sv 12 (.agg #[.int .i64 g.rad, .int .i64 g.digs, .int .i64 g.lo, .int .i64 g.hi, .bool g.grad]) ?_ (hr := (exec_ld (by kernel_rfl) (run_ld b3 hT27 0 [.int .i64 g.rad, .int .i64 g.digs, .int .i64 g.lo, .int .i64 g.hi, .bool g.grad] (by kernel_rfl) (by kernel_rfl))))
      refine se 13 42 #[.agg #[.int .i64 g.rad, .int .i64 g.digs, .int .i64 g.lo, .int .i64 g.hi, .bool g.grad]] (fun Gx hGx => ?_)
      ((with_reducible refine ((HWD _).out).mono ?_))
      rintro eV4 V4 ⟨rfl, hbV4⟩
      have hzV4 := hbV4.size
      refine ⟨.int .i64 ((wd : Nat) : Int), rfl, hGx _ _ ?_⟩
      clear hGx Gx
      refine sv 6 (.int .i64 ((wd : Nat) : Int)) ?_
      refine sx_nil ?_
      refine sx_then ?_
      refine wp_seq ?_
      refine sx_region ?_
      refine snv 14 (.slice (some ⟨V4.heap.size, 0, none⟩) 1 1) #[.int .i64 1] 3 (fun V5 hbV5 hzV5 b14 => ?_)
      have x14 := rf_one b14
      refine sv 15 (.int .i64 ((wd : Nat) : Int)) ?_
      refine sv 16 (.pointer (some ⟨V1.heap.size, 2, none⟩)) ?_
      replace b3 := (b3.past (bthru hbV4 hbV5))
      refine sv 17 (.int .i64 g.lo) ?_ (hr := (exec_ld (by kernel_rfl) (run_ld1 b3 hT3 2 (.int .i64 g.lo) (by kernel_rfl))))
      refine sv 18 (.int .i64 (((wd : Nat) : Int) * g.lo)) ?_ (hr := ((show _ = Result.ok (Next.value (.int .i64 (IntKind.wrap .i64 (((wd : Nat) : Int) * g.lo)))) _ by kernel_rfl).trans (congrArg (fun z => Result.ok (Next.value (.int .i64 z)) _) (IntWalk.i64_in _ (by omega)))))
      refine sv 19 (.agg #[.bool false, .slice (some ⟨V4.heap.size, 0, none⟩) 1 1, .int .i64 (((wd : Nat) : Int) * g.lo)]) ?_
      refine sn 7 #[.bool false, .slice none 0 0, .int .i64 0] 35 (fun V6 hbV6 hzV6 b7 => ?_)
      refine ss none b7 hT35 0 #[.bool false, .slice (some ⟨V4.heap.size, 0, none⟩) 1 1, .int .i64 (((wd : Nat) : Int) * g.lo)] #[.bool false, .slice (some ⟨V4.heap.size, 0, none⟩) 1 1, .int .i64 (((wd : Nat) : Int) * g.lo)] ?_
      have boV7 := b7
      clear b7
      intro V7 hOV7 b7
      have hzV7 := hOV7.size
      refine sx_nil ?_
      refine sx_then ?_
      refine wp_seq ?_
      refine wp_seq ?_
      refine sx_region ?_
      refine sv 20 (.pointer (some ⟨V1.heap.size, 4, none⟩)) ?_
      replace b3 := (b3.past (hbV6.trans (hOV7.below (by omega))))
      refine sv 21 (.bool g.grad) ?_ (hr := (exec_ld (by kernel_rfl) (run_ld1 b3 hT4 4 (.bool g.grad) (by kernel_rfl))))
      refine sv 22 (.bool false) ?_ (hr := ((show _ = Result.ok (Next.value (.bool (!g.grad))) _ from (by kernel_rfl)).trans (congrArg (fun z => Result.ok (Next.value (.bool z)) _) (show (!g.grad) = false from by rw [hgr]; rfl))))
      refine sx_nil ?_
      refine sx_then ?_
      refine wp_cond_false (by kernel_rfl) ?_
      refine wp_skip ?_
      refine sx_then ?_
      refine wp_seq ?_
      refine wp_seq ?_
      refine sx_region ?_
      refine sv 32 (.pointer (some ⟨w.heap.size, 1, none⟩)) ?_
      replace b2 := (b2.past ((bthru (bthru (bthru (bthru hbV2 hbV3) hbV4) hbV5) hbV6).trans (hOV7.below (by omega))))
      refine sv 33 (.slice p (dig B16 m).length c) ?_ (hr := (exec_ld (by kernel_rfl) (run_ld1 b2 hT33 1 (.slice p (dig B16 m).length c) (by kernel_rfl))))
      refine sv 34 (.int .i64 (((dig B16 m).length : Nat) : Int)) ?_
      refine sv 35 (.bool true) ?_ (hr := ((show _ = Result.ok (Next.value (.bool ((((dig B16 m).length : Nat) : Int) == 0))) _ from (by kernel_rfl)).trans (congrArg (fun z => Result.ok (Next.value (.bool z)) _) (show ((((dig B16 m).length : Nat) : Int) == 0) = true from t35))))
      refine sx_nil ?_
      refine sx_then ?_
      refine wp_cond_true (by kernel_rfl) ?_
      refine wp_seq ?_
      refine sx_region ?_
      refine sv 36 (.agg #[.bool false, .slice (some ⟨V4.heap.size, 0, none⟩) 1 1, .int .i64 (((wd : Nat) : Int) * g.lo)]) ?_ (hr := (exec_ld (by kernel_rfl) (run_ld b7 hT35 0 [.bool false, .slice (some ⟨V4.heap.size, 0, none⟩) 1 1, .int .i64 (((wd : Nat) : Int) * g.lo)] (by kernel_rfl) (by kernel_rfl))))
      replace b4 := (b4.past ((bthru (bthru hbV4 hbV5) hbV6).trans (hOV7.below (by omega))))
      refine ss none b4 hT35 0 #[.bool false, .slice (some ⟨V4.heap.size, 0, none⟩) 1 1, .int .i64 (((wd : Nat) : Int) * g.lo)] #[.bool false, .slice (some ⟨V4.heap.size, 0, none⟩) 1 1, .int .i64 (((wd : Nat) : Int) * g.lo)] ?_
      have boV8 := b4
      clear b4
      intro V8 hOV8 b4
      have hzV8 := hOV8.size
      refine sv 5 (.bool true) ?_
      refine sx_nil ?_
      refine sx_then ?_
      refine wp_ret ?_
      have ⟨b4_0, b4_1, b4_2⟩ := b4.bx.e3
      repeat (first | with_reducible refine sx_thenret ?_ | with_reducible refine sx_blockret ?_)
      refine bodyPost_ret (v := .tuple #[.agg #[.bool false, .slice (some ⟨V4.heap.size, 0, none⟩) 1 1, .int .i64 (((wd : Nat) : Int) * g.lo)], .bool true]) (by simp [results, Tryd.results23, go_sem, b4_0, b4_1, b4_2]) rfl ?_
      replace b14 := ((b14.past (hbV6.trans (hOV7.below (by omega)))).only hOV8 (by omega))
      have y := rf_one b14
      exact ⟨_, _, by rw [← len16_one], y.mono (by omega), (((bthru (bthru (bthru (bthru (bthru hbV1 hbV2) hbV3) hbV4) hbV5) hbV6).trans (hOV7.below (by omega))).trans (hOV8.below (by omega)))⟩
    · replace hgr : g.grad = false := by simpa using hgr
      rw [if_neg (by rw [hgr]; simp), show g.lo + (g.digs - 1) = g.lo + g.digs - 1 by omega]
      have hT3 : SxOne Tryd.prog 3 := sxOne_of (by kernel_rfl) (by kernel_rfl)
      have hT4 : SxOne Tryd.prog 4 := sxOne_of (by kernel_rfl) (by kernel_rfl)
      have hT27 : SxAgg Tryd.prog 27 5 := sxAgg_of (by kernel_rfl) (by kernel_rfl)
      have hT33 : SxOne Tryd.prog 33 := sxOne_of (by kernel_rfl) (by kernel_rfl)
      have hT35 : SxAgg Tryd.prog 35 3 := sxAgg_of (by kernel_rfl) (by kernel_rfl)
      refine calls_of_wp Tryd.func23 rfl ?_
      refine sx_frame (a' := ⟨((.agg #[.bool s, .slice p (dig B16 m).length c, .int .i64 e]) :: (.agg #[.int .i64 g.rad, .int .i64 g.digs, .int .i64 g.lo, .int .i64 g.hi, .bool g.grad]) :: undef :: undef :: undef :: undef :: undef :: undef :: undef :: undef :: undef :: undef :: undef :: undef :: undef :: undef :: undef :: undef :: undef :: undef :: undef :: undef :: undef :: undef :: undef :: undef :: undef :: undef :: undef :: undef :: undef :: undef :: undef :: undef :: undef :: undef :: undef :: undef :: undef :: undef :: undef :: undef :: undef :: undef :: undef :: undef :: undef :: undef :: undef :: undef :: undef :: undef :: undef :: undef :: undef :: undef :: undef :: undef :: undef :: undef :: undef :: undef :: undef :: undef :: undef :: undef :: undef :: undef :: undef :: undef :: undef :: undef :: undef :: undef :: undef :: undef :: undef :: undef :: undef :: undef :: undef :: undef :: undef :: undef :: undef :: undef :: undef :: undef :: undef :: undef :: undef :: undef :: undef :: undef :: undef :: undef :: undef :: undef :: undef :: undef :: undef :: undef :: []).toArray, []⟩) (by kernel_rfl) ?_
      refine wp_seq ?_
      refine sx_region ?_
      refine sn 2 #[.bool s, .slice p (dig B16 m).length c, .int .i64 e] 35 (fun V1 hbV1 hzV1 b2 => ?_)
      refine sn 3 #[.int .i64 g.rad, .int .i64 g.digs, .int .i64 g.lo, .int .i64 g.hi, .bool g.grad] 27 (fun V2 hbV2 hzV2 b3 => ?_)
      refine sn 4 #[.bool false, .slice none 0 0, .int .i64 0] 35 (fun V3 hbV3 hzV3 b4 => ?_)
      refine sv 5 (.bool false) ?_
      refine sx_nil ?_
      refine sx_then ?_
      refine wp_seq ?_
      refine sx_region ?_
      replace b3 := (b3.past hbV3)
      refine sv 12 (.agg #[.int .i64 g.rad, .int .i64 g.digs, .int .i64 g.lo, .int .i64 g.hi, .bool g.grad]) ?_ (hr := (exec_ld (by kernel_rfl) (run_ld b3 hT27 0 [.int .i64 g.rad, .int .i64 g.digs, .int .i64 g.lo, .int .i64 g.hi, .bool g.grad] (by kernel_rfl) (by kernel_rfl))))
      refine se 13 42 #[.agg #[.int .i64 g.rad, .int .i64 g.digs, .int .i64 g.lo, .int .i64 g.hi, .bool g.grad]] (fun Gx hGx => ?_)
      ((with_reducible refine ((HWD _).out).mono ?_))
      rintro eV4 V4 ⟨rfl, hbV4⟩
      have hzV4 := hbV4.size
      refine ⟨.int .i64 ((wd : Nat) : Int), rfl, hGx _ _ ?_⟩
      clear hGx Gx
      refine sv 6 (.int .i64 ((wd : Nat) : Int)) ?_
      refine sx_nil ?_
      refine sx_then ?_
      refine wp_seq ?_
      refine sx_region ?_
      refine snv 14 (.slice (some ⟨V4.heap.size, 0, none⟩) 1 1) #[.int .i64 1] 3 (fun V5 hbV5 hzV5 b14 => ?_)
      have x14 := rf_one b14
      refine sv 15 (.int .i64 ((wd : Nat) : Int)) ?_
      refine sv 16 (.pointer (some ⟨V1.heap.size, 2, none⟩)) ?_
      replace b3 := (b3.past (bthru hbV4 hbV5))
      refine sv 17 (.int .i64 g.lo) ?_ (hr := (exec_ld (by kernel_rfl) (run_ld1 b3 hT3 2 (.int .i64 g.lo) (by kernel_rfl))))
      refine sv 18 (.int .i64 (((wd : Nat) : Int) * g.lo)) ?_ (hr := ((show _ = Result.ok (Next.value (.int .i64 (IntKind.wrap .i64 (((wd : Nat) : Int) * g.lo)))) _ by kernel_rfl).trans (congrArg (fun z => Result.ok (Next.value (.int .i64 z)) _) (IntWalk.i64_in _ (by omega)))))
      refine sv 19 (.agg #[.bool false, .slice (some ⟨V4.heap.size, 0, none⟩) 1 1, .int .i64 (((wd : Nat) : Int) * g.lo)]) ?_
      refine sn 7 #[.bool false, .slice none 0 0, .int .i64 0] 35 (fun V6 hbV6 hzV6 b7 => ?_)
      refine ss none b7 hT35 0 #[.bool false, .slice (some ⟨V4.heap.size, 0, none⟩) 1 1, .int .i64 (((wd : Nat) : Int) * g.lo)] #[.bool false, .slice (some ⟨V4.heap.size, 0, none⟩) 1 1, .int .i64 (((wd : Nat) : Int) * g.lo)] ?_
      have boV7 := b7
      clear b7
      intro V7 hOV7 b7
      have hzV7 := hOV7.size
      refine sx_nil ?_
      refine sx_then ?_
      refine wp_seq ?_
      refine wp_seq ?_
      refine sx_region ?_
      refine sv 20 (.pointer (some ⟨V1.heap.size, 4, none⟩)) ?_
      replace b3 := (b3.past (hbV6.trans (hOV7.below (by omega))))
      refine sv 21 (.bool g.grad) ?_ (hr := (exec_ld (by kernel_rfl) (run_ld1 b3 hT4 4 (.bool g.grad) (by kernel_rfl))))
      refine sv 22 (.bool true) ?_ (hr := ((show _ = Result.ok (Next.value (.bool (!g.grad))) _ from (by kernel_rfl)).trans (congrArg (fun z => Result.ok (Next.value (.bool z)) _) (show (!g.grad) = true from by rw [hgr]; rfl))))
      refine sx_nil ?_
      refine sx_then ?_
      refine wp_cond_true (by kernel_rfl) ?_
      refine sx_region ?_
      refine sv 23 (.int .i64 ((wd : Nat) : Int)) ?_
      refine sv 24 (.pointer (some ⟨V1.heap.size, 2, none⟩)) ?_
      refine sv 25 (.int .i64 g.lo) ?_ (hr := (exec_ld (by kernel_rfl) (run_ld1 b3 hT3 2 (.int .i64 g.lo) (by kernel_rfl))))
      refine sv 26 (.pointer (some ⟨V1.heap.size, 1, none⟩)) ?_
      refine sv 27 (.int .i64 g.digs) ?_ (hr := (exec_ld (by kernel_rfl) (run_ld1 b3 hT3 1 (.int .i64 g.digs) (by kernel_rfl))))
      refine sv 28 (.int .i64 (g.lo + g.digs)) ?_ (hr := ((show _ = Result.ok (Next.value (.int .i64 (IntKind.wrap .i64 (g.lo + g.digs)))) _ by kernel_rfl).trans (congrArg (fun z => Result.ok (Next.value (.int .i64 z)) _) (IntWalk.i64_in _ (by omega)))))
      refine sv 29 (.int .i64 ((g.lo + g.digs) - 1)) ?_ (hr := ((show _ = Result.ok (Next.value (.int .i64 (IntKind.wrap .i64 ((g.lo + g.digs) - 1)))) _ by kernel_rfl).trans (congrArg (fun z => Result.ok (Next.value (.int .i64 z)) _) (IntWalk.i64_in _ (by omega)))))
      refine sv 30 (.int .i64 ((wd : Int) * (g.lo + g.digs - 1))) ?_ (hr := ((show _ = Result.ok (Next.value (.int .i64 (IntKind.wrap .i64 (((wd : Nat) : Int) * ((g.lo + g.digs) - 1))))) _ by kernel_rfl).trans (congrArg (fun z => Result.ok (Next.value (.int .i64 z)) _) (IntWalk.i64_in _ (by omega)))))
      refine sv 31 (.pointer (some ⟨V5.heap.size, 2, none⟩)) ?_
      refine ss1 none b7 hT3 2 (.int .i64 ((wd : Int) * (g.lo + g.digs - 1))) #[.bool false, .slice (some ⟨V4.heap.size, 0, none⟩) 1 1, .int .i64 ((wd : Int) * (g.lo + g.digs - 1))] ?_
      have boV8 := b7
      clear b7
      intro V8 hOV8 b7
      have hzV8 := hOV8.size
      refine sx_nil ?_
      refine sx_then ?_
      refine wp_seq ?_
      refine wp_seq ?_
      refine sx_region ?_
      refine sv 32 (.pointer (some ⟨w.heap.size, 1, none⟩)) ?_
      replace b2 := (b2.past (((bthru (bthru (bthru (bthru hbV2 hbV3) hbV4) hbV5) hbV6).trans (hOV7.below (by omega))).trans (hOV8.below (by omega))))
      refine sv 33 (.slice p (dig B16 m).length c) ?_ (hr := (exec_ld (by kernel_rfl) (run_ld1 b2 hT33 1 (.slice p (dig B16 m).length c) (by kernel_rfl))))
      refine sv 34 (.int .i64 (((dig B16 m).length : Nat) : Int)) ?_
      refine sv 35 (.bool true) ?_ (hr := ((show _ = Result.ok (Next.value (.bool ((((dig B16 m).length : Nat) : Int) == 0))) _ from (by kernel_rfl)).trans (congrArg (fun z => Result.ok (Next.value (.bool z)) _) (show ((((dig B16 m).length : Nat) : Int) == 0) = true from t35))))
      refine sx_nil ?_
      refine sx_then ?_
      refine wp_cond_true (by kernel_rfl) ?_
      refine wp_seq ?_
      refine sx_region ?_
      refine sv 36 (.agg #[.bool false, .slice (some ⟨V4.heap.size, 0, none⟩) 1 1, .int .i64 ((wd : Int) * (g.lo + g.digs - 1))]) ?_ (hr := (exec_ld (by kernel_rfl) (run_ld b7 hT35 0 [.bool false, .slice (some ⟨V4.heap.size, 0, none⟩) 1 1, .int .i64 ((wd : Int) * (g.lo + g.digs - 1))] (by kernel_rfl) (by kernel_rfl))))
      replace b4 := (b4.past (((bthru (bthru hbV4 hbV5) hbV6).trans (hOV7.below (by omega))).trans (hOV8.below (by omega))))
      refine ss none b4 hT35 0 #[.bool false, .slice (some ⟨V4.heap.size, 0, none⟩) 1 1, .int .i64 ((wd : Int) * (g.lo + g.digs - 1))] #[.bool false, .slice (some ⟨V4.heap.size, 0, none⟩) 1 1, .int .i64 ((wd : Int) * (g.lo + g.digs - 1))] ?_
      have boV9 := b4
      clear b4
      intro V9 hOV9 b4
      have hzV9 := hOV9.size
      refine sv 5 (.bool true) ?_
      refine sx_nil ?_
      refine sx_then ?_
      refine wp_ret ?_
      have ⟨b4_0, b4_1, b4_2⟩ := b4.bx.e3
      repeat (first | with_reducible refine sx_thenret ?_ | with_reducible refine sx_blockret ?_)
      refine bodyPost_ret (v := .tuple #[.agg #[.bool false, .slice (some ⟨V4.heap.size, 0, none⟩) 1 1, .int .i64 ((wd : Int) * (g.lo + g.digs - 1))], .bool true]) (by simp [results, Tryd.results23, go_sem, b4_0, b4_1, b4_2]) rfl ?_
      replace b14 := ((b14.past ((hbV6.trans (hOV7.below (by omega))).trans (hOV8.below (by omega)))).only hOV9 (by omega))
      have y := rf_one b14
      exact ⟨_, _, by rw [← len16_one], y.mono (by omega), ((((bthru (bthru (bthru (bthru (bthru hbV1 hbV2) hbV3) hbV4) hbV5) hbV6).trans (hOV7.below (by omega))).trans (hOV8.below (by omega))).trans (hOV9.below (by omega)))⟩
  · have t35 : (((dig B16 m).length : Int) == 0) = false := beq_eq_false_iff_ne.2 (by omega)
    obtain ⟨hb1, hb2, hb3, hb4⟩ := step_bd G hin h0
    simp only at hb1 hb2
    have bm := blen_len16 m
    have b0 := (blen_pos m).2 (by omega)
    have hK0 : stepK ⟨s, m, e⟩ g = max g.lo ((e + blen m - 1) / wid g - g.digs + 1) := by
      show max g.lo ((e + blen m - 1) / wid g - (g.digs.toNat : Int) + 1) = _
      rw [show (g.digs.toNat : Int) = g.digs by omega]
    have s1 := sum_bd hB h0 (E := wid g * stepK ⟨s, m, e⟩ g) hl he ⟨hb1, by simp only; omega⟩
    have s2 := sum_bd hB h0 (E := wid g * (stepK ⟨s, m, e⟩ g - 1)) hl he ⟨by rw [Int.mul_sub]; simp only; omega, by rw [Int.mul_sub]; simp only; omega⟩
    obtain ⟨he1, he2⟩ := inGrid_e hg hB hin
    simp only at he1 he2
    have q6 := sum_lo hB h0 (E := wid g * stepK ⟨s, m, e⟩ g) hl ⟨by simp only; omega, by simp only; omega⟩ ⟨hb1, by simp only; omega⟩
    have u6 := sum_lo hB h0 (E := wid g * (stepK ⟨s, m, e⟩ g - 1)) hl ⟨by simp only; omega, by simp only; omega⟩ ⟨by rw [Int.mul_sub]; simp only; omega, by rw [Int.mul_sub]; simp only; omega⟩
    have l161 : (dig B16 1).length ≤ 1 := by rw [← len16_one]; exact Nat.le_refl _
    have hmk := mul_bd (k := stepK ⟨s, m, e⟩ g) wp.2 (B := 17000) ⟨by omega, by omega⟩
    have hmk1 := mul_bd (k := stepK ⟨s, m, e⟩ g - 1) wp.2 (B := 17001) ⟨by omega, by omega⟩
    obtain ⟨q1, q2, q3, q4, q5⟩ := s1
    obtain ⟨u1, u2, u3, u4, u5⟩ := s2
    have lq := B16_len32 (rPlus ⟨s, m, e⟩ (oneD (wid g * stepK ⟨s, m, e⟩ g))).m
    have lu := B16_len32 (rPlus ⟨s, m, e⟩ (oneD (wid g * (stepK ⟨s, m, e⟩ g - 1)))).m
    have hxb : -80000 ≤ e + (blen m : Int) - 1 ∧ e + (blen m : Int) - 1 ≤ 3000000 := by omega
    obtain ⟨f1, f2, f3⟩ := far_div8 wt.out hxb.1
    have v1 := ediv_abs (wd := wid g) (x := e + (blen m : Int) - 1 + 80000) (B := 4000000) wp.1 (by omega)
    have v2 := ediv_abs (wd := wid g) (x := 80000) (B := 80000) wp.1 (by omega)
    have v3 := ediv_abs (wd := wid g) (x := e + (blen m : Int) - 1) (B := 4000000) wp.1 (by omega)
    have hL := blen_len16 m
    have hrs : rStep ⟨s, m, e⟩ g = if s = false then (rPlus ⟨s, m, e⟩ (oneD (wid g * stepK ⟨s, m, e⟩ g)), inGridD (rPlus ⟨s, m, e⟩ (oneD (wid g * stepK ⟨s, m, e⟩ g))) g) else
        if inGridD (rPlus ⟨s, m, e⟩ (oneD (wid g * (stepK ⟨s, m, e⟩ g - 1)))) g = true ∧ rCmp ⟨s, m, e⟩ (rPlus ⟨s, m, e⟩ (oneD (wid g * (stepK ⟨s, m, e⟩ g - 1)))) < 0 then (rPlus ⟨s, m, e⟩ (oneD (wid g * (stepK ⟨s, m, e⟩ g - 1))), true) else
        if inGridD (rPlus ⟨s, m, e⟩ (oneD (wid g * stepK ⟨s, m, e⟩ g))) g = true then (rPlus ⟨s, m, e⟩ (oneD (wid g * stepK ⟨s, m, e⟩ g)), true) else (⟨false, 0, 0⟩, true) := by
      show (if m = 0 then _ else _) = _
      rw [if_neg h0]
    rw [hrs]
    clear hrs hz q1 q2 u1 u2
    generalize stepK ⟨s, m, e⟩ g = K at *
    generalize wid g = wd at *
    have HRL : ∀ W (h : Rd W .i64 p (dig B16 m)), Hid (Calls Tryd.prog 43 #[.slice p (dig B16 m).length c] W fun e w' => e = .returned (.int .i64 (blen m : Nat)) ∧ Below W.heap.size W w') :=
      fun W h => Lib.hid (stay (refLen_any p _ c m W h rfl (by omega)))
    generalize blen m = L at *
    obtain ⟨K0, hk0⟩ : ∃ K0, (e + (L : Int) - 1) / (wd : Int) - g.digs + 1 = K0 := ⟨_, rfl⟩
    rw [hk0] at hK0
    have Y2 := Lib.hid (show IntKind.i64.wrap ((e + (L : Int) - 1 + 80000).tdiv (wd : Int)) = (e + (L : Int) - 1 + 80000) / (wd : Int) by rw [f1, IntWalk.i64_in _ (by omega)])
    have Y3 := Lib.hid (show IntKind.i64.wrap ((80000 : Int).tdiv (wd : Int)) = 80000 / (wd : Int) by rw [f2, IntWalk.i64_in _ (by omega)])
    have Y4 := Lib.hid (show IntKind.i64.wrap ((e + (L : Int) - 1 + 80000) / (wd : Int) - 80000 / (wd : Int)) = (e + (L : Int) - 1) / (wd : Int) by rw [f3, IntWalk.i64_in _ (by omega)])
    have Y6 := Lib.hid (show IntKind.i64.wrap ((e + (L : Int) - 1) / (wd : Int) - g.digs + 1) = K0 by rw [IntWalk.i64_in _ (by omega), hk0])
    have Y7 := Lib.hid (show (if K0 > g.lo then K0 else g.lo) = K by rw [max_is, hK0])
    clear f1 f2 f3 hk0 hK0 h0
    have HPL := fun W p79 c79 (h1 : Rd W .i64 p (dig B16 m)) (h2 : Rd W .i64 p79 (dig B16 1)) => Lib.hid (refDPlus_any s false p p79 _ c 1 c79 e (wd * K) m 1 W h1 h2 rfl len16_one (by omega) (by omega) (by omega) (by omega))
    have HPL1 := fun W p79 c79 (h1 : Rd W .i64 p (dig B16 m)) (h2 : Rd W .i64 p79 (dig B16 1)) => Lib.hid (refDPlus_any s false p p79 _ c 1 c79 e (wd * (K - 1)) m 1 W h1 h2 rfl len16_one (by omega) (by omega) (by omega) (by omega))
    rw [show rPlus ⟨s, m, e⟩ ⟨false, 1, wd * K⟩ = rPlus ⟨s, m, e⟩ (oneD (wd * K)) from rfl] at HPL
    rw [show rPlus ⟨s, m, e⟩ ⟨false, 1, wd * (K - 1)⟩ = rPlus ⟨s, m, e⟩ (oneD (wd * (K - 1))) from rfl] at HPL1
    generalize rPlus ⟨s, m, e⟩ (oneD (wd * K)) = r2 at *
    generalize rPlus ⟨s, m, e⟩ (oneD (wd * (K - 1))) = r1 at *
    have HI2 := fun W p c (h : Rd W .i64 p (dig B16 r2.m)) => Lib.hid (refInGrid_any r2.neg p _ c r2.e r2.m g W h rfl (by omega) (by omega) G)
    have HI1 := fun W p c (h : Rd W .i64 p (dig B16 r1.m)) => Lib.hid (refInGrid_any r1.neg p _ c r1.e r1.m g W h rfl (by omega) (by omega) G)
    have HCM := fun W q d (h1 : Rd W .i64 p (dig B16 m)) (h2 : Rd W .i64 q (dig B16 r1.m)) h3 => Lib.hid (refDCmp_any s r1.neg p q _ c _ d e r1.e m r1.m W h1 h2 rfl rfl h3 (by omega) (by omega) (by omega) (by omega))
    rw [show (⟨r2.neg, r2.m, r2.e⟩ : Dv) = r2 from rfl] at HI2
    rw [show (⟨r1.neg, r1.m, r1.e⟩ : Dv) = r1 from rfl] at HI1 HCM
    generalize inGridD r2 g = i2 at *
    generalize inGridD r1 g = i1 at *
    generalize rCmp ⟨s, m, e⟩ r1 = cm at *
    have cg : g.grad = true ∨ g.grad = false := by cases g.grad <;> simp
    cases s with
    | false =>
      rw [if_pos rfl]
      rcases cg with hgr | hgr
      · skip
        have hT3 : SxOne Tryd.prog 3 := sxOne_of (by kernel_rfl) (by kernel_rfl)
        have hT4 : SxOne Tryd.prog 4 := sxOne_of (by kernel_rfl) (by kernel_rfl)
        have hT27 : SxAgg Tryd.prog 27 5 := sxAgg_of (by kernel_rfl) (by kernel_rfl)
        have hT33 : SxOne Tryd.prog 33 := sxOne_of (by kernel_rfl) (by kernel_rfl)
        have hT35 : SxAgg Tryd.prog 35 3 := sxAgg_of (by kernel_rfl) (by kernel_rfl)
        refine calls_of_wp Tryd.func23 rfl ?_
        refine sx_frame (a' := ⟨((.agg #[.bool false, .slice p (dig B16 m).length c, .int .i64 e]) :: (.agg #[.int .i64 g.rad, .int .i64 g.digs, .int .i64 g.lo, .int .i64 g.hi, .bool g.grad]) :: undef :: undef :: undef :: undef :: undef :: undef :: undef :: undef :: undef :: undef :: undef :: undef :: undef :: undef :: undef :: undef :: undef :: undef :: undef :: undef :: undef :: undef :: undef :: undef :: undef :: undef :: undef :: undef :: undef :: undef :: undef :: undef :: undef :: undef :: undef :: undef :: undef :: undef :: undef :: undef :: undef :: undef :: undef :: undef :: undef :: undef :: undef :: undef :: undef :: undef :: undef :: undef :: undef :: undef :: undef :: undef :: undef :: undef :: undef :: undef :: undef :: undef :: undef :: undef :: undef :: undef :: undef :: undef :: undef :: undef :: undef :: undef :: undef :: undef :: undef :: undef :: undef :: undef :: undef :: undef :: undef :: undef :: undef :: undef :: undef :: undef :: undef :: undef :: undef :: undef :: undef :: undef :: undef :: undef :: undef :: undef :: undef :: undef :: undef :: undef :: []).toArray, []⟩) (by kernel_rfl) ?_
        refine wp_seq ?_
        refine sx_region ?_
        refine sn 2 #[.bool false, .slice p (dig B16 m).length c, .int .i64 e] 35 (fun V1 hbV1 hzV1 b2 => ?_)
        refine sn 3 #[.int .i64 g.rad, .int .i64 g.digs, .int .i64 g.lo, .int .i64 g.hi, .bool g.grad] 27 (fun V2 hbV2 hzV2 b3 => ?_)
        refine sn 4 #[.bool false, .slice none 0 0, .int .i64 0] 35 (fun V3 hbV3 hzV3 b4 => ?_)
        refine sv 5 (.bool false) ?_
        refine sx_nil ?_
        refine sx_then ?_
        refine wp_seq ?_
        refine sx_region ?_
        replace b3 := (b3.past hbV3)
        refine sv 12 (.agg #[.int .i64 g.rad, .int .i64 g.digs, .int .i64 g.lo, .int .i64 g.hi, .bool g.grad]) ?_ (hr := (exec_ld (by kernel_rfl) (run_ld b3 hT27 0 [.int .i64 g.rad, .int .i64 g.digs, .int .i64 g.lo, .int .i64 g.hi, .bool g.grad] (by kernel_rfl) (by kernel_rfl))))
        refine se 13 42 #[.agg #[.int .i64 g.rad, .int .i64 g.digs, .int .i64 g.lo, .int .i64 g.hi, .bool g.grad]] (fun Gx hGx => ?_)
        ((with_reducible refine ((HWD _).out).mono ?_))
        rintro eV4 V4 ⟨rfl, hbV4⟩
        have hzV4 := hbV4.size
        refine ⟨.int .i64 ((wd : Nat) : Int), rfl, hGx _ _ ?_⟩
        clear hGx Gx
        refine sv 6 (.int .i64 ((wd : Nat) : Int)) ?_
        refine sx_nil ?_
        refine sx_then ?_
        refine wp_seq ?_
        refine sx_region ?_
        refine snv 14 (.slice (some ⟨V4.heap.size, 0, none⟩) 1 1) #[.int .i64 1] 3 (fun V5 hbV5 hzV5 b14 => ?_)
        have x14 := rf_one b14
        refine sv 15 (.int .i64 ((wd : Nat) : Int)) ?_
        refine sv 16 (.pointer (some ⟨V1.heap.size, 2, none⟩)) ?_
        replace b3 := (b3.past (bthru hbV4 hbV5))
        refine sv 17 (.int .i64 g.lo) ?_ (hr := (exec_ld (by kernel_rfl) (run_ld1 b3 hT3 2 (.int .i64 g.lo) (by kernel_rfl))))
        refine sv 18 (.int .i64 (((wd : Nat) : Int) * g.lo)) ?_ (hr := ((show _ = Result.ok (Next.value (.int .i64 (IntKind.wrap .i64 (((wd : Nat) : Int) * g.lo)))) _ by kernel_rfl).trans (congrArg (fun z => Result.ok (Next.value (.int .i64 z)) _) (IntWalk.i64_in _ (by omega)))))
        refine sv 19 (.agg #[.bool false, .slice (some ⟨V4.heap.size, 0, none⟩) 1 1, .int .i64 (((wd : Nat) : Int) * g.lo)]) ?_
        refine sn 7 #[.bool false, .slice none 0 0, .int .i64 0] 35 (fun V6 hbV6 hzV6 b7 => ?_)
        refine ss none b7 hT35 0 #[.bool false, .slice (some ⟨V4.heap.size, 0, none⟩) 1 1, .int .i64 (((wd : Nat) : Int) * g.lo)] #[.bool false, .slice (some ⟨V4.heap.size, 0, none⟩) 1 1, .int .i64 (((wd : Nat) : Int) * g.lo)] ?_
        have boV7 := b7
        clear b7
        intro V7 hOV7 b7
        have hzV7 := hOV7.size
        refine sx_nil ?_
        refine sx_then ?_
        refine wp_seq ?_
        refine wp_seq ?_
        refine sx_region ?_
        refine sv 20 (.pointer (some ⟨V1.heap.size, 4, none⟩)) ?_
        replace b3 := (b3.past (hbV6.trans (hOV7.below (by omega))))
        refine sv 21 (.bool g.grad) ?_ (hr := (exec_ld (by kernel_rfl) (run_ld1 b3 hT4 4 (.bool g.grad) (by kernel_rfl))))
        refine sv 22 (.bool false) ?_ (hr := ((show _ = Result.ok (Next.value (.bool (!g.grad))) _ from (by kernel_rfl)).trans (congrArg (fun z => Result.ok (Next.value (.bool z)) _) (show (!g.grad) = false from by rw [hgr]; rfl))))
        refine sx_nil ?_
        refine sx_then ?_
        refine wp_cond_false (by kernel_rfl) ?_
        refine wp_skip ?_
        refine sx_then ?_
        refine wp_seq ?_
        refine wp_seq ?_
        refine sx_region ?_
        refine sv 32 (.pointer (some ⟨w.heap.size, 1, none⟩)) ?_
        replace b2 := (b2.past ((bthru (bthru (bthru (bthru hbV2 hbV3) hbV4) hbV5) hbV6).trans (hOV7.below (by omega))))
        refine sv 33 (.slice p (dig B16 m).length c) ?_ (hr := (exec_ld (by kernel_rfl) (run_ld1 b2 hT33 1 (.slice p (dig B16 m).length c) (by kernel_rfl))))
        refine sv 34 (.int .i64 (((dig B16 m).length : Nat) : Int)) ?_
        refine sv 35 (.bool false) ?_ (hr := ((show _ = Result.ok (Next.value (.bool ((((dig B16 m).length : Nat) : Int) == 0))) _ from (by kernel_rfl)).trans (congrArg (fun z => Result.ok (Next.value (.bool z)) _) (show ((((dig B16 m).length : Nat) : Int) == 0) = false from t35))))
        refine sx_nil ?_
        refine sx_then ?_
        refine wp_cond_false (by kernel_rfl) ?_
        refine wp_skip ?_
        refine sx_then ?_
        refine wp_seq ?_
        obtain ⟨V8, hVV8⟩ : ∃ V, V = (V7).drew := ⟨_, rfl⟩
        have hbV8 : Below (V7).heap.size (V7) V8 := by rw [hVV8]; exact (Below.refl _ _).drew
        have hzV8 : V8.heap.size = (V7).heap.size := by rw [hVV8]; rfl
        replace b2 := (b2.past hbV8)
        refine sxd _ (fun w' => Bt w' w.heap.size 35 #[.bool false, .slice p (dig B16 m).length c, .int .i64 e]) hVV8 b2 ?_
        clear hVV8
        refine tk 0 37 (.pointer (some ⟨w.heap.size, 2, none⟩)) b2 ?_
        refine tk 1 38 (.int .i64 e) b2 ?_ (hy := fun w' hS => (exec_ld (by kernel_rfl) (run_ld1 hS hT3 2 (.int .i64 e) (by kernel_rfl))))
        refine tk 2 39 (.pointer (some ⟨w.heap.size, 1, none⟩)) b2 ?_
        refine tk 3 40 (.slice p (dig B16 m).length c) b2 ?_ (hy := fun w' hS => (exec_ld (by kernel_rfl) (run_ld1 hS hT33 1 (.slice p (dig B16 m).length c) (by kernel_rfl))))
        refine sxr [4] ?_
        refine rd1 (fun Kx hKx => ?_)
        replace hp := (hp.past (bthru ((bthru (bthru (bthru (bthru (bthru hbV1 hbV2) hbV3) hbV4) hbV5) hbV6).trans (hOV7.below (by omega))) hbV8))
        refine sek 41 43 #[.slice p (dig B16 m).length c] ?_
        ((with_reducible refine ((HRL _ hp.rd).out).mono ?_))
        rintro eV9 V9 ⟨rfl, hbV9⟩
        have hzV9 := hbV9.size
        refine ⟨.int .i64 ((L : Nat) : Int), rfl, ?_⟩
        replace b2 := (b2.past hbV9)
        refine hKx.out _ _ b2 ?_
        clear hKx Kx
        refine tk 5 42 (.int .i64 (e + (L : Int))) b2 ?_ (hy := fun w' _ => ((show _ = Result.ok (Next.value (.int .i64 (IntKind.wrap .i64 (e + ((L : Nat) : Int))))) _ by kernel_rfl).trans (congrArg (fun z => Result.ok (Next.value (.int .i64 z)) _) (IntWalk.i64_in _ (by omega)))))
        refine tk 6 8 (.int .i64 (e + (L : Int))) b2 ?_
        refine sx_done (by kernel_rfl) ?_
        refine sx_then ?_
        refine wp_seq ?_
        replace b3 := (b3.past (bthru hbV8 hbV9))
        obtain ⟨V10, hVV10⟩ : ∃ V, V = (V9).drew := ⟨_, rfl⟩
        have hbV10 : Below (V9).heap.size (V9) V10 := by rw [hVV10]; exact (Below.refl _ _).drew
        have hzV10 : V10.heap.size = (V9).heap.size := by rw [hVV10]; rfl
        replace b3 := (b3.past hbV10)
        refine sxd _ (fun w' => Bt w' V1.heap.size 27 #[.int .i64 g.rad, .int .i64 g.digs, .int .i64 g.lo, .int .i64 g.hi, .bool g.grad]) hVV10 b3 ?_
        clear hVV10
        refine tk 0 43 (.pointer (some ⟨V1.heap.size, 2, none⟩)) b3 ?_
        refine tk 1 44 (.int .i64 g.lo) b3 ?_ (hy := fun w' hS => (exec_ld (by kernel_rfl) (run_ld1 hS hT3 2 (.int .i64 g.lo) (by kernel_rfl))))
        refine tk 2 45 (.int .i64 (e + (L : Int))) b3 ?_
        refine tk 3 46 (.int .i64 (e + (L : Int) - 1)) b3 ?_ (hy := fun w' _ => ((show _ = Result.ok (Next.value (.int .i64 (IntKind.wrap .i64 ((e + (L : Int)) - 1)))) _ by kernel_rfl).trans (congrArg (fun z => Result.ok (Next.value (.int .i64 z)) _) (IntWalk.i64_in _ (by omega)))))
        refine tk 4 47 (.int .i64 (e + (L : Int) - 1 + 80000)) b3 ?_ (hy := fun w' _ => ((show _ = Result.ok (Next.value (.int .i64 (IntKind.wrap .i64 ((e + (L : Int) - 1) + 80000)))) _ by kernel_rfl).trans (congrArg (fun z => Result.ok (Next.value (.int .i64 z)) _) (IntWalk.i64_in _ (by omega)))))
        refine tk 5 48 (.int .i64 ((wd : Nat) : Int)) b3 ?_
        refine tk 6 49 (.int .i64 ((e + (L : Int) - 1 + 80000) / (wd : Int))) b3 ?_ (hy := fun w' _ => (exec_quo ((e + (L : Int) - 1 + 80000) / (wd : Int)) (by kernel_rfl) (by kernel_rfl) (by omega) (Y2.out)))
        refine tk 7 50 (.int .i64 ((wd : Nat) : Int)) b3 ?_
        refine tk 8 51 (.int .i64 (80000 / (wd : Int))) b3 ?_ (hy := fun w' _ => (exec_quo (80000 / (wd : Int)) (by kernel_rfl) (by kernel_rfl) (by omega) (Y3.out)))
        refine tk 9 52 (.int .i64 ((e + (L : Int) - 1) / (wd : Int))) b3 ?_ (hy := fun w' _ => ((show _ = Result.ok (Next.value (.int .i64 (IntKind.wrap .i64 (((e + (L : Int) - 1 + 80000) / (wd : Int)) - (80000 / (wd : Int)))))) _ by kernel_rfl).trans (congrArg (fun z => Result.ok (Next.value (.int .i64 z)) _) (Y4.out))))
        refine tk 10 53 (.pointer (some ⟨V1.heap.size, 1, none⟩)) b3 ?_
        refine tk 11 54 (.int .i64 g.digs) b3 ?_ (hy := fun w' hS => (exec_ld (by kernel_rfl) (run_ld1 hS hT3 1 (.int .i64 g.digs) (by kernel_rfl))))
        refine tk 12 55 (.int .i64 ((e + (L : Int) - 1) / (wd : Int) - g.digs)) b3 ?_ (hy := fun w' _ => ((show _ = Result.ok (Next.value (.int .i64 (IntKind.wrap .i64 (((e + (L : Int) - 1) / (wd : Int)) - g.digs)))) _ by kernel_rfl).trans (congrArg (fun z => Result.ok (Next.value (.int .i64 z)) _) (IntWalk.i64_in _ (by omega)))))
        refine tk 13 56 (.int .i64 K0) b3 ?_ (hy := fun w' _ => ((show _ = Result.ok (Next.value (.int .i64 (IntKind.wrap .i64 (((e + (L : Int) - 1) / (wd : Int) - g.digs) + 1)))) _ by kernel_rfl).trans (congrArg (fun z => Result.ok (Next.value (.int .i64 z)) _) (Y6.out))))
        refine tk 14 57 (.int .i64 K) b3 ?_ (hy := fun w' _ => ((show _ = Result.ok (Next.value (.int .i64 (if ((K0) : Int) > (g.lo) then K0 else g.lo))) _ by kernel_rfl).trans (congrArg (fun z => Result.ok (Next.value (.int .i64 z)) _) (Y7.out))))
        refine tk 15 9 (.int .i64 K) b3 ?_
        refine sx_done (by kernel_rfl) ?_
        refine sx_then ?_
        refine wp_seq ?_
        refine wp_seq ?_
        refine sx_region ?_
        refine sv 58 (.pointer (some ⟨w.heap.size, 0, none⟩)) ?_
        replace b2 := (b2.past hbV10)
        refine sv 59 (.bool false) ?_ (hr := (exec_ld (by kernel_rfl) (run_ld1 b2 hT4 0 (.bool false) (by kernel_rfl))))
        refine sv 60 (.bool true) ?_
        refine sx_nil ?_
        refine sx_then ?_
        refine wp_cond_true (by kernel_rfl) ?_
        refine wp_seq ?_
        refine sx_region ?_
        refine sv 61 (.agg #[.bool false, .slice p (dig B16 m).length c, .int .i64 e]) ?_ (hr := (exec_ld (by kernel_rfl) (run_ld b2 hT35 0 [.bool false, .slice p (dig B16 m).length c, .int .i64 e] (by kernel_rfl) (by kernel_rfl))))
        refine snv 62 (.slice (some ⟨V10.heap.size, 0, none⟩) 1 1) #[.int .i64 1] 3 (fun V11 hbV11 hzV11 b62 => ?_)
        have x62 := rf_one b62
        refine sv 63 (.int .i64 ((wd : Nat) : Int)) ?_
        refine sv 64 (.int .i64 K) ?_
        refine sv 65 (.int .i64 (((wd : Nat) : Int) * K)) ?_ (hr := ((show _ = Result.ok (Next.value (.int .i64 (IntKind.wrap .i64 (((wd : Nat) : Int) * K)))) _ by kernel_rfl).trans (congrArg (fun z => Result.ok (Next.value (.int .i64 z)) _) (IntWalk.i64_in _ (by omega)))))
        refine sv 66 (.agg #[.bool false, .slice (some ⟨V10.heap.size, 0, none⟩) 1 1, .int .i64 (((wd : Nat) : Int) * K)]) ?_
        replace hp := (hp.past (bthru (bthru hbV9 hbV10) hbV11))
        refine se 67 34 #[.agg #[.bool false, .slice p (dig B16 m).length c, .int .i64 e], .agg #[.bool false, .slice (some ⟨V10.heap.size, 0, none⟩) 1 1, .int .i64 (((wd : Nat) : Int) * K)]] (fun Gx hGx => ?_)
        ((with_reducible refine ((HPL _ _ 1 hp.rd x62.rd).out).mono ?_))
        rintro eV12 V12 ⟨p67, c67, rfl, hr_x67, hc_x67, hf_x67, hbV12⟩
        have hzV12 := hbV12.size
        have x67 := rf_of hr_x67 hc_x67 hf_x67
        clear hr_x67 hc_x67 hf_x67
        have lx67 := fun h => x67.lt h
        refine ⟨.agg #[.bool r2.neg, .slice p67 (dig B16 r2.m).length c67, .int .i64 r2.e], rfl, hGx _ _ ?_⟩
        clear hGx Gx
        refine sn 10 #[.bool false, .slice none 0 0, .int .i64 0] 35 (fun V13 hbV13 hzV13 b10 => ?_)
        refine ss none b10 hT35 0 #[.bool r2.neg, .slice p67 (dig B16 r2.m).length c67, .int .i64 r2.e] #[.bool r2.neg, .slice p67 (dig B16 r2.m).length c67, .int .i64 r2.e] ?_
        have boV14 := b10
        clear b10
        intro V14 hOV14 b10
        have hzV14 := hOV14.size
        refine sx_nil ?_
        refine sx_then ?_
        refine wp_seq ?_
        replace b3 := (b3.past ((bthru (bthru hbV11 hbV12) hbV13).trans (hOV14.below (by omega))))
        obtain ⟨V15, hVV15⟩ : ∃ V, V = (V14).drew := ⟨_, rfl⟩
        have hbV15 : Below (V14).heap.size (V14) V15 := by rw [hVV15]; exact (Below.refl _ _).drew
        have hzV15 : V15.heap.size = (V14).heap.size := by rw [hVV15]; rfl
        replace b10 := (b10.past hbV15)
        replace b3 := (b3.past hbV15)
        refine sxd _ (fun w' => Bt w' V12.heap.size 35 #[.bool r2.neg, .slice p67 (dig B16 r2.m).length c67, .int .i64 r2.e] ∧ Bt w' V1.heap.size 27 #[.int .i64 g.rad, .int .i64 g.digs, .int .i64 g.lo, .int .i64 g.hi, .bool g.grad]) hVV15 ⟨b10, b3⟩ ?_
        clear hVV15
        refine tk 0 68 (.agg #[.bool r2.neg, .slice p67 (dig B16 r2.m).length c67, .int .i64 r2.e]) ⟨b10, b3⟩ ?_ (hy := fun w' hS => (exec_ld (by kernel_rfl) (run_ld hS.1 hT35 0 [.bool r2.neg, .slice p67 (dig B16 r2.m).length c67, .int .i64 r2.e] (by kernel_rfl) (by kernel_rfl))))
        refine tk 1 69 (.agg #[.bool r2.neg, .slice p67 (dig B16 r2.m).length c67, .int .i64 r2.e]) ⟨b10, b3⟩ ?_ (hy := fun w' hS => (exec_ld (by kernel_rfl) (run_ld hS.1 hT35 0 [.bool r2.neg, .slice p67 (dig B16 r2.m).length c67, .int .i64 r2.e] (by kernel_rfl) (by kernel_rfl))))
        refine tk 2 70 (.agg #[.int .i64 g.rad, .int .i64 g.digs, .int .i64 g.lo, .int .i64 g.hi, .bool g.grad]) ⟨b10, b3⟩ ?_ (hy := fun w' hS => (exec_ld (by kernel_rfl) (run_ld hS.2 hT27 0 [.int .i64 g.rad, .int .i64 g.digs, .int .i64 g.lo, .int .i64 g.hi, .bool g.grad] (by kernel_rfl) (by kernel_rfl))))
        refine sxr [3] ?_
        refine rd1 (fun Kx hKx => ?_)
        replace x67 := (x67.past (bthru (hbV13.trans (hOV14.below (by omega))) hbV15))
        refine sek 71 21 #[.agg #[.bool r2.neg, .slice p67 (dig B16 r2.m).length c67, .int .i64 r2.e], .agg #[.int .i64 g.rad, .int .i64 g.digs, .int .i64 g.lo, .int .i64 g.hi, .bool g.grad]] ?_
        ((with_reducible refine ((HI2 _ p67 c67 x67.rd).out).mono ?_))
        rintro eV16 V16 ⟨rfl, hbV16⟩
        have hzV16 := hbV16.size
        refine ⟨.bool i2, rfl, ?_⟩
        replace b10 := (b10.past hbV16)
        replace b3 := (b3.past hbV16)
        refine hKx.out _ _ ⟨b10, b3⟩ ?_
        clear hKx Kx
        refine sxr [4] ?_
        refine rd1 (fun Kx hKx => ?_)
        replace b4 := (b4.past (bthru (bthru ((bthru (bthru (bthru (bthru (bthru (bthru ((bthru (bthru hbV4 hbV5) hbV6).trans (hOV7.below (by omega))) hbV8) hbV9) hbV10) hbV11) hbV12) hbV13).trans (hOV14.below (by omega))) hbV15) hbV16))
        refine ssk none b4 hT35 0 #[.bool r2.neg, .slice p67 (dig B16 r2.m).length c67, .int .i64 r2.e] #[.bool r2.neg, .slice p67 (dig B16 r2.m).length c67, .int .i64 r2.e] ?_
        have boV17 := b4
        clear b4
        intro V17 hOV17 b4
        have hzV17 := hOV17.size
        replace b10 := (b10.only hOV17 (by omega))
        replace b3 := (b3.only hOV17 (by omega))
        refine hKx.out _ _ ⟨b10, b3⟩ ?_
        clear hKx Kx
        refine tk 5 5 (.bool i2) ⟨b10, b3⟩ ?_
        refine sx_done (by kernel_rfl) ?_
        refine sx_then ?_
        refine wp_ret ?_
        have ⟨b4_0, b4_1, b4_2⟩ := b4.bx.e3
        repeat (first | with_reducible refine sx_thenret ?_ | with_reducible refine sx_blockret ?_)
        refine bodyPost_ret (v := .tuple #[.agg #[.bool r2.neg, .slice p67 (dig B16 r2.m).length c67, .int .i64 r2.e], .bool i2]) (by simp [results, Tryd.results23, go_sem, b4_0, b4_1, b4_2]) rfl ?_
        replace x67 := ((x67.past hbV16).only hOV17 (fun h => by have := lx67 h; omega))
        exact ⟨_, _, rfl, x67.mono (by omega), ((bthru (bthru ((bthru (bthru (bthru (bthru (bthru (bthru ((bthru (bthru (bthru (bthru (bthru hbV1 hbV2) hbV3) hbV4) hbV5) hbV6).trans (hOV7.below (by omega))) hbV8) hbV9) hbV10) hbV11) hbV12) hbV13).trans (hOV14.below (by omega))) hbV15) hbV16).trans (hOV17.below (by omega)))⟩
      · skip
        have hT3 : SxOne Tryd.prog 3 := sxOne_of (by kernel_rfl) (by kernel_rfl)
        have hT4 : SxOne Tryd.prog 4 := sxOne_of (by kernel_rfl) (by kernel_rfl)
        have hT27 : SxAgg Tryd.prog 27 5 := sxAgg_of (by kernel_rfl) (by kernel_rfl)
        have hT33 : SxOne Tryd.prog 33 := sxOne_of (by kernel_rfl) (by kernel_rfl)
        have hT35 : SxAgg Tryd.prog 35 3 := sxAgg_of (by kernel_rfl) (by kernel_rfl)
        refine calls_of_wp Tryd.func23 rfl ?_
        refine sx_frame (a' := ⟨((.agg #[.bool false, .slice p (dig B16 m).length c, .int .i64 e]) :: (.agg #[.int .i64 g.rad, .int .i64 g.digs, .int .i64 g.lo, .int .i64 g.hi, .bool g.grad]) :: undef :: undef :: undef :: undef :: undef :: undef :: undef :: undef :: undef :: undef :: undef :: undef :: undef :: undef :: undef :: undef :: undef :: undef :: undef :: undef :: undef :: undef :: undef :: undef :: undef :: undef :: undef :: undef :: undef :: undef :: undef :: undef :: undef :: undef :: undef :: undef :: undef :: undef :: undef :: undef :: undef :: undef :: undef :: undef :: undef :: undef :: undef :: undef :: undef :: undef :: undef :: undef :: undef :: undef :: undef :: undef :: undef :: undef :: undef :: undef :: undef :: undef :: undef :: undef :: undef :: undef :: undef :: undef :: undef :: undef :: undef :: undef :: undef :: undef :: undef :: undef :: undef :: undef :: undef :: undef :: undef :: undef :: undef :: undef :: undef :: undef :: undef :: undef :: undef :: undef :: undef :: undef :: undef :: undef :: undef :: undef :: undef :: undef :: undef :: undef :: []).toArray, []⟩) (by kernel_rfl) ?_
        refine wp_seq ?_
        refine sx_region ?_
        refine sn 2 #[.bool false, .slice p (dig B16 m).length c, .int .i64 e] 35 (fun V1 hbV1 hzV1 b2 => ?_)
        refine sn 3 #[.int .i64 g.rad, .int .i64 g.digs, .int .i64 g.lo, .int .i64 g.hi, .bool g.grad] 27 (fun V2 hbV2 hzV2 b3 => ?_)
        refine sn 4 #[.bool false, .slice none 0 0, .int .i64 0] 35 (fun V3 hbV3 hzV3 b4 => ?_)
        refine sv 5 (.bool false) ?_
        refine sx_nil ?_
        refine sx_then ?_
        refine wp_seq ?_
        refine sx_region ?_
        replace b3 := (b3.past hbV3)
        refine sv 12 (.agg #[.int .i64 g.rad, .int .i64 g.digs, .int .i64 g.lo, .int .i64 g.hi, .bool g.grad]) ?_ (hr := (exec_ld (by kernel_rfl) (run_ld b3 hT27 0 [.int .i64 g.rad, .int .i64 g.digs, .int .i64 g.lo, .int .i64 g.hi, .bool g.grad] (by kernel_rfl) (by kernel_rfl))))
        refine se 13 42 #[.agg #[.int .i64 g.rad, .int .i64 g.digs, .int .i64 g.lo, .int .i64 g.hi, .bool g.grad]] (fun Gx hGx => ?_)
        ((with_reducible refine ((HWD _).out).mono ?_))
        rintro eV4 V4 ⟨rfl, hbV4⟩
        have hzV4 := hbV4.size
        refine ⟨.int .i64 ((wd : Nat) : Int), rfl, hGx _ _ ?_⟩
        clear hGx Gx
        refine sv 6 (.int .i64 ((wd : Nat) : Int)) ?_
        refine sx_nil ?_
        refine sx_then ?_
        refine wp_seq ?_
        refine sx_region ?_
        refine snv 14 (.slice (some ⟨V4.heap.size, 0, none⟩) 1 1) #[.int .i64 1] 3 (fun V5 hbV5 hzV5 b14 => ?_)
        have x14 := rf_one b14
        refine sv 15 (.int .i64 ((wd : Nat) : Int)) ?_
        refine sv 16 (.pointer (some ⟨V1.heap.size, 2, none⟩)) ?_
        replace b3 := (b3.past (bthru hbV4 hbV5))
        refine sv 17 (.int .i64 g.lo) ?_ (hr := (exec_ld (by kernel_rfl) (run_ld1 b3 hT3 2 (.int .i64 g.lo) (by kernel_rfl))))
        refine sv 18 (.int .i64 (((wd : Nat) : Int) * g.lo)) ?_ (hr := ((show _ = Result.ok (Next.value (.int .i64 (IntKind.wrap .i64 (((wd : Nat) : Int) * g.lo)))) _ by kernel_rfl).trans (congrArg (fun z => Result.ok (Next.value (.int .i64 z)) _) (IntWalk.i64_in _ (by omega)))))
        refine sv 19 (.agg #[.bool false, .slice (some ⟨V4.heap.size, 0, none⟩) 1 1, .int .i64 (((wd : Nat) : Int) * g.lo)]) ?_
        refine sn 7 #[.bool false, .slice none 0 0, .int .i64 0] 35 (fun V6 hbV6 hzV6 b7 => ?_)
        refine ss none b7 hT35 0 #[.bool false, .slice (some ⟨V4.heap.size, 0, none⟩) 1 1, .int .i64 (((wd : Nat) : Int) * g.lo)] #[.bool false, .slice (some ⟨V4.heap.size, 0, none⟩) 1 1, .int .i64 (((wd : Nat) : Int) * g.lo)] ?_
        have boV7 := b7
        clear b7
        intro V7 hOV7 b7
        have hzV7 := hOV7.size
        refine sx_nil ?_
        refine sx_then ?_
        refine wp_seq ?_
        refine wp_seq ?_
        refine sx_region ?_
        refine sv 20 (.pointer (some ⟨V1.heap.size, 4, none⟩)) ?_
        replace b3 := (b3.past (hbV6.trans (hOV7.below (by omega))))
        refine sv 21 (.bool g.grad) ?_ (hr := (exec_ld (by kernel_rfl) (run_ld1 b3 hT4 4 (.bool g.grad) (by kernel_rfl))))
        refine sv 22 (.bool true) ?_ (hr := ((show _ = Result.ok (Next.value (.bool (!g.grad))) _ from (by kernel_rfl)).trans (congrArg (fun z => Result.ok (Next.value (.bool z)) _) (show (!g.grad) = true from by rw [hgr]; rfl))))
        refine sx_nil ?_
        refine sx_then ?_
        refine wp_cond_true (by kernel_rfl) ?_
        refine sx_region ?_
        refine sv 23 (.int .i64 ((wd : Nat) : Int)) ?_
        refine sv 24 (.pointer (some ⟨V1.heap.size, 2, none⟩)) ?_
        refine sv 25 (.int .i64 g.lo) ?_ (hr := (exec_ld (by kernel_rfl) (run_ld1 b3 hT3 2 (.int .i64 g.lo) (by kernel_rfl))))
        refine sv 26 (.pointer (some ⟨V1.heap.size, 1, none⟩)) ?_
        refine sv 27 (.int .i64 g.digs) ?_ (hr := (exec_ld (by kernel_rfl) (run_ld1 b3 hT3 1 (.int .i64 g.digs) (by kernel_rfl))))
        refine sv 28 (.int .i64 (g.lo + g.digs)) ?_ (hr := ((show _ = Result.ok (Next.value (.int .i64 (IntKind.wrap .i64 (g.lo + g.digs)))) _ by kernel_rfl).trans (congrArg (fun z => Result.ok (Next.value (.int .i64 z)) _) (IntWalk.i64_in _ (by omega)))))
        refine sv 29 (.int .i64 ((g.lo + g.digs) - 1)) ?_ (hr := ((show _ = Result.ok (Next.value (.int .i64 (IntKind.wrap .i64 ((g.lo + g.digs) - 1)))) _ by kernel_rfl).trans (congrArg (fun z => Result.ok (Next.value (.int .i64 z)) _) (IntWalk.i64_in _ (by omega)))))
        refine sv 30 (.int .i64 ((wd : Int) * (g.lo + g.digs - 1))) ?_ (hr := ((show _ = Result.ok (Next.value (.int .i64 (IntKind.wrap .i64 (((wd : Nat) : Int) * ((g.lo + g.digs) - 1))))) _ by kernel_rfl).trans (congrArg (fun z => Result.ok (Next.value (.int .i64 z)) _) (IntWalk.i64_in _ (by omega)))))
        refine sv 31 (.pointer (some ⟨V5.heap.size, 2, none⟩)) ?_
        refine ss1 none b7 hT3 2 (.int .i64 ((wd : Int) * (g.lo + g.digs - 1))) #[.bool false, .slice (some ⟨V4.heap.size, 0, none⟩) 1 1, .int .i64 ((wd : Int) * (g.lo + g.digs - 1))] ?_
        have boV8 := b7
        clear b7
        intro V8 hOV8 b7
        have hzV8 := hOV8.size
        refine sx_nil ?_
        refine sx_then ?_
        refine wp_seq ?_
        refine wp_seq ?_
        refine sx_region ?_
        refine sv 32 (.pointer (some ⟨w.heap.size, 1, none⟩)) ?_
        replace b2 := (b2.past (((bthru (bthru (bthru (bthru hbV2 hbV3) hbV4) hbV5) hbV6).trans (hOV7.below (by omega))).trans (hOV8.below (by omega))))
        refine sv 33 (.slice p (dig B16 m).length c) ?_ (hr := (exec_ld (by kernel_rfl) (run_ld1 b2 hT33 1 (.slice p (dig B16 m).length c) (by kernel_rfl))))
        refine sv 34 (.int .i64 (((dig B16 m).length : Nat) : Int)) ?_
        refine sv 35 (.bool false) ?_ (hr := ((show _ = Result.ok (Next.value (.bool ((((dig B16 m).length : Nat) : Int) == 0))) _ from (by kernel_rfl)).trans (congrArg (fun z => Result.ok (Next.value (.bool z)) _) (show ((((dig B16 m).length : Nat) : Int) == 0) = false from t35))))
        refine sx_nil ?_
        refine sx_then ?_
        refine wp_cond_false (by kernel_rfl) ?_
        refine wp_skip ?_
        refine sx_then ?_
        refine wp_seq ?_
        obtain ⟨V9, hVV9⟩ : ∃ V, V = (V8).drew := ⟨_, rfl⟩
        have hbV9 : Below (V8).heap.size (V8) V9 := by rw [hVV9]; exact (Below.refl _ _).drew
        have hzV9 : V9.heap.size = (V8).heap.size := by rw [hVV9]; rfl
        replace b2 := (b2.past hbV9)
        refine sxd _ (fun w' => Bt w' w.heap.size 35 #[.bool false, .slice p (dig B16 m).length c, .int .i64 e]) hVV9 b2 ?_
        clear hVV9
        refine tk 0 37 (.pointer (some ⟨w.heap.size, 2, none⟩)) b2 ?_
        refine tk 1 38 (.int .i64 e) b2 ?_ (hy := fun w' hS => (exec_ld (by kernel_rfl) (run_ld1 hS hT3 2 (.int .i64 e) (by kernel_rfl))))
        refine tk 2 39 (.pointer (some ⟨w.heap.size, 1, none⟩)) b2 ?_
        refine tk 3 40 (.slice p (dig B16 m).length c) b2 ?_ (hy := fun w' hS => (exec_ld (by kernel_rfl) (run_ld1 hS hT33 1 (.slice p (dig B16 m).length c) (by kernel_rfl))))
        refine sxr [4] ?_
        refine rd1 (fun Kx hKx => ?_)
        replace hp := (hp.past (bthru (((bthru (bthru (bthru (bthru (bthru hbV1 hbV2) hbV3) hbV4) hbV5) hbV6).trans (hOV7.below (by omega))).trans (hOV8.below (by omega))) hbV9))
        refine sek 41 43 #[.slice p (dig B16 m).length c] ?_
        ((with_reducible refine ((HRL _ hp.rd).out).mono ?_))
        rintro eV10 V10 ⟨rfl, hbV10⟩
        have hzV10 := hbV10.size
        refine ⟨.int .i64 ((L : Nat) : Int), rfl, ?_⟩
        replace b2 := (b2.past hbV10)
        refine hKx.out _ _ b2 ?_
        clear hKx Kx
        refine tk 5 42 (.int .i64 (e + (L : Int))) b2 ?_ (hy := fun w' _ => ((show _ = Result.ok (Next.value (.int .i64 (IntKind.wrap .i64 (e + ((L : Nat) : Int))))) _ by kernel_rfl).trans (congrArg (fun z => Result.ok (Next.value (.int .i64 z)) _) (IntWalk.i64_in _ (by omega)))))
        refine tk 6 8 (.int .i64 (e + (L : Int))) b2 ?_
        refine sx_done (by kernel_rfl) ?_
        refine sx_then ?_
        refine wp_seq ?_
        replace b3 := ((b3.only hOV8 (by omega)).past (bthru hbV9 hbV10))
        obtain ⟨V11, hVV11⟩ : ∃ V, V = (V10).drew := ⟨_, rfl⟩
        have hbV11 : Below (V10).heap.size (V10) V11 := by rw [hVV11]; exact (Below.refl _ _).drew
        have hzV11 : V11.heap.size = (V10).heap.size := by rw [hVV11]; rfl
        replace b3 := (b3.past hbV11)
        refine sxd _ (fun w' => Bt w' V1.heap.size 27 #[.int .i64 g.rad, .int .i64 g.digs, .int .i64 g.lo, .int .i64 g.hi, .bool g.grad]) hVV11 b3 ?_
        clear hVV11
        refine tk 0 43 (.pointer (some ⟨V1.heap.size, 2, none⟩)) b3 ?_
        refine tk 1 44 (.int .i64 g.lo) b3 ?_ (hy := fun w' hS => (exec_ld (by kernel_rfl) (run_ld1 hS hT3 2 (.int .i64 g.lo) (by kernel_rfl))))
        refine tk 2 45 (.int .i64 (e + (L : Int))) b3 ?_
        refine tk 3 46 (.int .i64 (e + (L : Int) - 1)) b3 ?_ (hy := fun w' _ => ((show _ = Result.ok (Next.value (.int .i64 (IntKind.wrap .i64 ((e + (L : Int)) - 1)))) _ by kernel_rfl).trans (congrArg (fun z => Result.ok (Next.value (.int .i64 z)) _) (IntWalk.i64_in _ (by omega)))))
        refine tk 4 47 (.int .i64 (e + (L : Int) - 1 + 80000)) b3 ?_ (hy := fun w' _ => ((show _ = Result.ok (Next.value (.int .i64 (IntKind.wrap .i64 ((e + (L : Int) - 1) + 80000)))) _ by kernel_rfl).trans (congrArg (fun z => Result.ok (Next.value (.int .i64 z)) _) (IntWalk.i64_in _ (by omega)))))
        refine tk 5 48 (.int .i64 ((wd : Nat) : Int)) b3 ?_
        refine tk 6 49 (.int .i64 ((e + (L : Int) - 1 + 80000) / (wd : Int))) b3 ?_ (hy := fun w' _ => (exec_quo ((e + (L : Int) - 1 + 80000) / (wd : Int)) (by kernel_rfl) (by kernel_rfl) (by omega) (Y2.out)))
        refine tk 7 50 (.int .i64 ((wd : Nat) : Int)) b3 ?_
        refine tk 8 51 (.int .i64 (80000 / (wd : Int))) b3 ?_ (hy := fun w' _ => (exec_quo (80000 / (wd : Int)) (by kernel_rfl) (by kernel_rfl) (by omega) (Y3.out)))
        refine tk 9 52 (.int .i64 ((e + (L : Int) - 1) / (wd : Int))) b3 ?_ (hy := fun w' _ => ((show _ = Result.ok (Next.value (.int .i64 (IntKind.wrap .i64 (((e + (L : Int) - 1 + 80000) / (wd : Int)) - (80000 / (wd : Int)))))) _ by kernel_rfl).trans (congrArg (fun z => Result.ok (Next.value (.int .i64 z)) _) (Y4.out))))
        refine tk 10 53 (.pointer (some ⟨V1.heap.size, 1, none⟩)) b3 ?_
        refine tk 11 54 (.int .i64 g.digs) b3 ?_ (hy := fun w' hS => (exec_ld (by kernel_rfl) (run_ld1 hS hT3 1 (.int .i64 g.digs) (by kernel_rfl))))
        refine tk 12 55 (.int .i64 ((e + (L : Int) - 1) / (wd : Int) - g.digs)) b3 ?_ (hy := fun w' _ => ((show _ = Result.ok (Next.value (.int .i64 (IntKind.wrap .i64 (((e + (L : Int) - 1) / (wd : Int)) - g.digs)))) _ by kernel_rfl).trans (congrArg (fun z => Result.ok (Next.value (.int .i64 z)) _) (IntWalk.i64_in _ (by omega)))))
        refine tk 13 56 (.int .i64 K0) b3 ?_ (hy := fun w' _ => ((show _ = Result.ok (Next.value (.int .i64 (IntKind.wrap .i64 (((e + (L : Int) - 1) / (wd : Int) - g.digs) + 1)))) _ by kernel_rfl).trans (congrArg (fun z => Result.ok (Next.value (.int .i64 z)) _) (Y6.out))))
        refine tk 14 57 (.int .i64 K) b3 ?_ (hy := fun w' _ => ((show _ = Result.ok (Next.value (.int .i64 (if ((K0) : Int) > (g.lo) then K0 else g.lo))) _ by kernel_rfl).trans (congrArg (fun z => Result.ok (Next.value (.int .i64 z)) _) (Y7.out))))
        refine tk 15 9 (.int .i64 K) b3 ?_
        refine sx_done (by kernel_rfl) ?_
        refine sx_then ?_
        refine wp_seq ?_
        refine wp_seq ?_
        refine sx_region ?_
        refine sv 58 (.pointer (some ⟨w.heap.size, 0, none⟩)) ?_
        replace b2 := (b2.past hbV11)
        refine sv 59 (.bool false) ?_ (hr := (exec_ld (by kernel_rfl) (run_ld1 b2 hT4 0 (.bool false) (by kernel_rfl))))
        refine sv 60 (.bool true) ?_
        refine sx_nil ?_
        refine sx_then ?_
        refine wp_cond_true (by kernel_rfl) ?_
        refine wp_seq ?_
        refine sx_region ?_
        refine sv 61 (.agg #[.bool false, .slice p (dig B16 m).length c, .int .i64 e]) ?_ (hr := (exec_ld (by kernel_rfl) (run_ld b2 hT35 0 [.bool false, .slice p (dig B16 m).length c, .int .i64 e] (by kernel_rfl) (by kernel_rfl))))
        refine snv 62 (.slice (some ⟨V11.heap.size, 0, none⟩) 1 1) #[.int .i64 1] 3 (fun V12 hbV12 hzV12 b62 => ?_)
        have x62 := rf_one b62
        refine sv 63 (.int .i64 ((wd : Nat) : Int)) ?_
        refine sv 64 (.int .i64 K) ?_
        refine sv 65 (.int .i64 (((wd : Nat) : Int) * K)) ?_ (hr := ((show _ = Result.ok (Next.value (.int .i64 (IntKind.wrap .i64 (((wd : Nat) : Int) * K)))) _ by kernel_rfl).trans (congrArg (fun z => Result.ok (Next.value (.int .i64 z)) _) (IntWalk.i64_in _ (by omega)))))
        refine sv 66 (.agg #[.bool false, .slice (some ⟨V11.heap.size, 0, none⟩) 1 1, .int .i64 (((wd : Nat) : Int) * K)]) ?_
        replace hp := (hp.past (bthru (bthru hbV10 hbV11) hbV12))
        refine se 67 34 #[.agg #[.bool false, .slice p (dig B16 m).length c, .int .i64 e], .agg #[.bool false, .slice (some ⟨V11.heap.size, 0, none⟩) 1 1, .int .i64 (((wd : Nat) : Int) * K)]] (fun Gx hGx => ?_)
        ((with_reducible refine ((HPL _ _ 1 hp.rd x62.rd).out).mono ?_))
        rintro eV13 V13 ⟨p67, c67, rfl, hr_x67, hc_x67, hf_x67, hbV13⟩
        have hzV13 := hbV13.size
        have x67 := rf_of hr_x67 hc_x67 hf_x67
        clear hr_x67 hc_x67 hf_x67
        have lx67 := fun h => x67.lt h
        refine ⟨.agg #[.bool r2.neg, .slice p67 (dig B16 r2.m).length c67, .int .i64 r2.e], rfl, hGx _ _ ?_⟩
        clear hGx Gx
        refine sn 10 #[.bool false, .slice none 0 0, .int .i64 0] 35 (fun V14 hbV14 hzV14 b10 => ?_)
        refine ss none b10 hT35 0 #[.bool r2.neg, .slice p67 (dig B16 r2.m).length c67, .int .i64 r2.e] #[.bool r2.neg, .slice p67 (dig B16 r2.m).length c67, .int .i64 r2.e] ?_
        have boV15 := b10
        clear b10
        intro V15 hOV15 b10
        have hzV15 := hOV15.size
        refine sx_nil ?_
        refine sx_then ?_
        refine wp_seq ?_
        replace b3 := (b3.past ((bthru (bthru hbV12 hbV13) hbV14).trans (hOV15.below (by omega))))
        obtain ⟨V16, hVV16⟩ : ∃ V, V = (V15).drew := ⟨_, rfl⟩
        have hbV16 : Below (V15).heap.size (V15) V16 := by rw [hVV16]; exact (Below.refl _ _).drew
        have hzV16 : V16.heap.size = (V15).heap.size := by rw [hVV16]; rfl
        replace b10 := (b10.past hbV16)
        replace b3 := (b3.past hbV16)
        refine sxd _ (fun w' => Bt w' V13.heap.size 35 #[.bool r2.neg, .slice p67 (dig B16 r2.m).length c67, .int .i64 r2.e] ∧ Bt w' V1.heap.size 27 #[.int .i64 g.rad, .int .i64 g.digs, .int .i64 g.lo, .int .i64 g.hi, .bool g.grad]) hVV16 ⟨b10, b3⟩ ?_
        clear hVV16
        refine tk 0 68 (.agg #[.bool r2.neg, .slice p67 (dig B16 r2.m).length c67, .int .i64 r2.e]) ⟨b10, b3⟩ ?_ (hy := fun w' hS => (exec_ld (by kernel_rfl) (run_ld hS.1 hT35 0 [.bool r2.neg, .slice p67 (dig B16 r2.m).length c67, .int .i64 r2.e] (by kernel_rfl) (by kernel_rfl))))
        refine tk 1 69 (.agg #[.bool r2.neg, .slice p67 (dig B16 r2.m).length c67, .int .i64 r2.e]) ⟨b10, b3⟩ ?_ (hy := fun w' hS => (exec_ld (by kernel_rfl) (run_ld hS.1 hT35 0 [.bool r2.neg, .slice p67 (dig B16 r2.m).length c67, .int .i64 r2.e] (by kernel_rfl) (by kernel_rfl))))
        refine tk 2 70 (.agg #[.int .i64 g.rad, .int .i64 g.digs, .int .i64 g.lo, .int .i64 g.hi, .bool g.grad]) ⟨b10, b3⟩ ?_ (hy := fun w' hS => (exec_ld (by kernel_rfl) (run_ld hS.2 hT27 0 [.int .i64 g.rad, .int .i64 g.digs, .int .i64 g.lo, .int .i64 g.hi, .bool g.grad] (by kernel_rfl) (by kernel_rfl))))
        refine sxr [3] ?_
        refine rd1 (fun Kx hKx => ?_)
        replace x67 := (x67.past (bthru (hbV14.trans (hOV15.below (by omega))) hbV16))
        refine sek 71 21 #[.agg #[.bool r2.neg, .slice p67 (dig B16 r2.m).length c67, .int .i64 r2.e], .agg #[.int .i64 g.rad, .int .i64 g.digs, .int .i64 g.lo, .int .i64 g.hi, .bool g.grad]] ?_
        ((with_reducible refine ((HI2 _ p67 c67 x67.rd).out).mono ?_))
        rintro eV17 V17 ⟨rfl, hbV17⟩
        have hzV17 := hbV17.size
        refine ⟨.bool i2, rfl, ?_⟩
        replace b10 := (b10.past hbV17)
        replace b3 := (b3.past hbV17)
        refine hKx.out _ _ ⟨b10, b3⟩ ?_
        clear hKx Kx
        refine sxr [4] ?_
        refine rd1 (fun Kx hKx => ?_)
        replace b4 := (b4.past (bthru (bthru ((bthru (bthru (bthru (bthru (bthru (bthru (((bthru (bthru hbV4 hbV5) hbV6).trans (hOV7.below (by omega))).trans (hOV8.below (by omega))) hbV9) hbV10) hbV11) hbV12) hbV13) hbV14).trans (hOV15.below (by omega))) hbV16) hbV17))
        refine ssk none b4 hT35 0 #[.bool r2.neg, .slice p67 (dig B16 r2.m).length c67, .int .i64 r2.e] #[.bool r2.neg, .slice p67 (dig B16 r2.m).length c67, .int .i64 r2.e] ?_
        have boV18 := b4
        clear b4
        intro V18 hOV18 b4
        have hzV18 := hOV18.size
        replace b10 := (b10.only hOV18 (by omega))
        replace b3 := (b3.only hOV18 (by omega))
        refine hKx.out _ _ ⟨b10, b3⟩ ?_
        clear hKx Kx
        refine tk 5 5 (.bool i2) ⟨b10, b3⟩ ?_
        refine sx_done (by kernel_rfl) ?_
        refine sx_then ?_
        refine wp_ret ?_
        have ⟨b4_0, b4_1, b4_2⟩ := b4.bx.e3
        repeat (first | with_reducible refine sx_thenret ?_ | with_reducible refine sx_blockret ?_)
        refine bodyPost_ret (v := .tuple #[.agg #[.bool r2.neg, .slice p67 (dig B16 r2.m).length c67, .int .i64 r2.e], .bool i2]) (by simp [results, Tryd.results23, go_sem, b4_0, b4_1, b4_2]) rfl ?_
        replace x67 := ((x67.past hbV17).only hOV18 (fun h => by have := lx67 h; omega))
        exact ⟨_, _, rfl, x67.mono (by omega), ((bthru (bthru ((bthru (bthru (bthru (bthru (bthru (bthru (((bthru (bthru (bthru (bthru (bthru hbV1 hbV2) hbV3) hbV4) hbV5) hbV6).trans (hOV7.below (by omega))).trans (hOV8.below (by omega))) hbV9) hbV10) hbV11) hbV12) hbV13) hbV14).trans (hOV15.below (by omega))) hbV16) hbV17).trans (hOV18.below (by omega)))⟩
    | true =>
      rw [if_neg (by simp)]
      rcases cg with hgr | hgr
      · skip
        by_cases c1 : i1 = true
        · subst c1
          by_cases c2 : cm < 0
          · rw [if_pos ⟨rfl, c2⟩]
            have hT3 : SxOne Tryd.prog 3 := sxOne_of (by kernel_rfl) (by kernel_rfl)
            have hT4 : SxOne Tryd.prog 4 := sxOne_of (by kernel_rfl) (by kernel_rfl)
            have hT27 : SxAgg Tryd.prog 27 5 := sxAgg_of (by kernel_rfl) (by kernel_rfl)
            have hT33 : SxOne Tryd.prog 33 := sxOne_of (by kernel_rfl) (by kernel_rfl)
            have hT35 : SxAgg Tryd.prog 35 3 := sxAgg_of (by kernel_rfl) (by kernel_rfl)
            refine calls_of_wp Tryd.func23 rfl ?_
            refine sx_frame (a' := ⟨((.agg #[.bool true, .slice p (dig B16 m).length c, .int .i64 e]) :: (.agg #[.int .i64 g.rad, .int .i64 g.digs, .int .i64 g.lo, .int .i64 g.hi, .bool g.grad]) :: undef :: undef :: undef :: undef :: undef :: undef :: undef :: undef :: undef :: undef :: undef :: undef :: undef :: undef :: undef :: undef :: undef :: undef :: undef :: undef :: undef :: undef :: undef :: undef :: undef :: undef :: undef :: undef :: undef :: undef :: undef :: undef :: undef :: undef :: undef :: undef :: undef :: undef :: undef :: undef :: undef :: undef :: undef :: undef :: undef :: undef :: undef :: undef :: undef :: undef :: undef :: undef :: undef :: undef :: undef :: undef :: undef :: undef :: undef :: undef :: undef :: undef :: undef :: undef :: undef :: undef :: undef :: undef :: undef :: undef :: undef :: undef :: undef :: undef :: undef :: undef :: undef :: undef :: undef :: undef :: undef :: undef :: undef :: undef :: undef :: undef :: undef :: undef :: undef :: undef :: undef :: undef :: undef :: undef :: undef :: undef :: undef :: undef :: undef :: undef :: []).toArray, []⟩) (by kernel_rfl) ?_
            refine wp_seq ?_
            refine sx_region ?_
            refine sn 2 #[.bool true, .slice p (dig B16 m).length c, .int .i64 e] 35 (fun V1 hbV1 hzV1 b2 => ?_)
            refine sn 3 #[.int .i64 g.rad, .int .i64 g.digs, .int .i64 g.lo, .int .i64 g.hi, .bool g.grad] 27 (fun V2 hbV2 hzV2 b3 => ?_)
            refine sn 4 #[.bool false, .slice none 0 0, .int .i64 0] 35 (fun V3 hbV3 hzV3 b4 => ?_)
            refine sv 5 (.bool false) ?_
            refine sx_nil ?_
            refine sx_then ?_
            refine wp_seq ?_
            refine sx_region ?_
            replace b3 := (b3.past hbV3)
            refine sv 12 (.agg #[.int .i64 g.rad, .int .i64 g.digs, .int .i64 g.lo, .int .i64 g.hi, .bool g.grad]) ?_ (hr := (exec_ld (by kernel_rfl) (run_ld b3 hT27 0 [.int .i64 g.rad, .int .i64 g.digs, .int .i64 g.lo, .int .i64 g.hi, .bool g.grad] (by kernel_rfl) (by kernel_rfl))))
            refine se 13 42 #[.agg #[.int .i64 g.rad, .int .i64 g.digs, .int .i64 g.lo, .int .i64 g.hi, .bool g.grad]] (fun Gx hGx => ?_)
            ((with_reducible refine ((HWD _).out).mono ?_))
            rintro eV4 V4 ⟨rfl, hbV4⟩
            have hzV4 := hbV4.size
            refine ⟨.int .i64 ((wd : Nat) : Int), rfl, hGx _ _ ?_⟩
            clear hGx Gx
            refine sv 6 (.int .i64 ((wd : Nat) : Int)) ?_
            refine sx_nil ?_
            refine sx_then ?_
            refine wp_seq ?_
            refine sx_region ?_
            refine snv 14 (.slice (some ⟨V4.heap.size, 0, none⟩) 1 1) #[.int .i64 1] 3 (fun V5 hbV5 hzV5 b14 => ?_)
            have x14 := rf_one b14
            refine sv 15 (.int .i64 ((wd : Nat) : Int)) ?_
            refine sv 16 (.pointer (some ⟨V1.heap.size, 2, none⟩)) ?_
            replace b3 := (b3.past (bthru hbV4 hbV5))
            refine sv 17 (.int .i64 g.lo) ?_ (hr := (exec_ld (by kernel_rfl) (run_ld1 b3 hT3 2 (.int .i64 g.lo) (by kernel_rfl))))
            refine sv 18 (.int .i64 (((wd : Nat) : Int) * g.lo)) ?_ (hr := ((show _ = Result.ok (Next.value (.int .i64 (IntKind.wrap .i64 (((wd : Nat) : Int) * g.lo)))) _ by kernel_rfl).trans (congrArg (fun z => Result.ok (Next.value (.int .i64 z)) _) (IntWalk.i64_in _ (by omega)))))
            refine sv 19 (.agg #[.bool false, .slice (some ⟨V4.heap.size, 0, none⟩) 1 1, .int .i64 (((wd : Nat) : Int) * g.lo)]) ?_
            refine sn 7 #[.bool false, .slice none 0 0, .int .i64 0] 35 (fun V6 hbV6 hzV6 b7 => ?_)
            refine ss none b7 hT35 0 #[.bool false, .slice (some ⟨V4.heap.size, 0, none⟩) 1 1, .int .i64 (((wd : Nat) : Int) * g.lo)] #[.bool false, .slice (some ⟨V4.heap.size, 0, none⟩) 1 1, .int .i64 (((wd : Nat) : Int) * g.lo)] ?_
            have boV7 := b7
            clear b7
            intro V7 hOV7 b7
            have hzV7 := hOV7.size
            refine sx_nil ?_
            refine sx_then ?_
            refine wp_seq ?_
            refine wp_seq ?_
            refine sx_region ?_
            refine sv 20 (.pointer (some ⟨V1.heap.size, 4, none⟩)) ?_
            replace b3 := (b3.past (hbV6.trans (hOV7.below (by omega))))
            refine sv 21 (.bool g.grad) ?_ (hr := (exec_ld (by kernel_rfl) (run_ld1 b3 hT4 4 (.bool g.grad) (by kernel_rfl))))
            refine sv 22 (.bool false) ?_ (hr := ((show _ = Result.ok (Next.value (.bool (!g.grad))) _ from (by kernel_rfl)).trans (congrArg (fun z => Result.ok (Next.value (.bool z)) _) (show (!g.grad) = false from by rw [hgr]; rfl))))
            refine sx_nil ?_
            refine sx_then ?_
            refine wp_cond_false (by kernel_rfl) ?_
            refine wp_skip ?_
            refine sx_then ?_
            refine wp_seq ?_
            refine wp_seq ?_
            refine sx_region ?_
            refine sv 32 (.pointer (some ⟨w.heap.size, 1, none⟩)) ?_
            replace b2 := (b2.past ((bthru (bthru (bthru (bthru hbV2 hbV3) hbV4) hbV5) hbV6).trans (hOV7.below (by omega))))
            refine sv 33 (.slice p (dig B16 m).length c) ?_ (hr := (exec_ld (by kernel_rfl) (run_ld1 b2 hT33 1 (.slice p (dig B16 m).length c) (by kernel_rfl))))
            refine sv 34 (.int .i64 (((dig B16 m).length : Nat) : Int)) ?_
            refine sv 35 (.bool false) ?_ (hr := ((show _ = Result.ok (Next.value (.bool ((((dig B16 m).length : Nat) : Int) == 0))) _ from (by kernel_rfl)).trans (congrArg (fun z => Result.ok (Next.value (.bool z)) _) (show ((((dig B16 m).length : Nat) : Int) == 0) = false from t35))))
            refine sx_nil ?_
            refine sx_then ?_
            refine wp_cond_false (by kernel_rfl) ?_
            refine wp_skip ?_
            refine sx_then ?_
            refine wp_seq ?_
            obtain ⟨V8, hVV8⟩ : ∃ V, V = (V7).drew := ⟨_, rfl⟩
            have hbV8 : Below (V7).heap.size (V7) V8 := by rw [hVV8]; exact (Below.refl _ _).drew
            have hzV8 : V8.heap.size = (V7).heap.size := by rw [hVV8]; rfl
            replace b2 := (b2.past hbV8)
            refine sxd _ (fun w' => Bt w' w.heap.size 35 #[.bool true, .slice p (dig B16 m).length c, .int .i64 e]) hVV8 b2 ?_
            clear hVV8
            refine tk 0 37 (.pointer (some ⟨w.heap.size, 2, none⟩)) b2 ?_
            refine tk 1 38 (.int .i64 e) b2 ?_ (hy := fun w' hS => (exec_ld (by kernel_rfl) (run_ld1 hS hT3 2 (.int .i64 e) (by kernel_rfl))))
            refine tk 2 39 (.pointer (some ⟨w.heap.size, 1, none⟩)) b2 ?_
            refine tk 3 40 (.slice p (dig B16 m).length c) b2 ?_ (hy := fun w' hS => (exec_ld (by kernel_rfl) (run_ld1 hS hT33 1 (.slice p (dig B16 m).length c) (by kernel_rfl))))
            refine sxr [4] ?_
            refine rd1 (fun Kx hKx => ?_)
            replace hp := (hp.past (bthru ((bthru (bthru (bthru (bthru (bthru hbV1 hbV2) hbV3) hbV4) hbV5) hbV6).trans (hOV7.below (by omega))) hbV8))
            refine sek 41 43 #[.slice p (dig B16 m).length c] ?_
            ((with_reducible refine ((HRL _ hp.rd).out).mono ?_))
            rintro eV9 V9 ⟨rfl, hbV9⟩
            have hzV9 := hbV9.size
            refine ⟨.int .i64 ((L : Nat) : Int), rfl, ?_⟩
            replace b2 := (b2.past hbV9)
            refine hKx.out _ _ b2 ?_
            clear hKx Kx
            refine tk 5 42 (.int .i64 (e + (L : Int))) b2 ?_ (hy := fun w' _ => ((show _ = Result.ok (Next.value (.int .i64 (IntKind.wrap .i64 (e + ((L : Nat) : Int))))) _ by kernel_rfl).trans (congrArg (fun z => Result.ok (Next.value (.int .i64 z)) _) (IntWalk.i64_in _ (by omega)))))
            refine tk 6 8 (.int .i64 (e + (L : Int))) b2 ?_
            refine sx_done (by kernel_rfl) ?_
            refine sx_then ?_
            refine wp_seq ?_
            replace b3 := (b3.past (bthru hbV8 hbV9))
            obtain ⟨V10, hVV10⟩ : ∃ V, V = (V9).drew := ⟨_, rfl⟩
            have hbV10 : Below (V9).heap.size (V9) V10 := by rw [hVV10]; exact (Below.refl _ _).drew
            have hzV10 : V10.heap.size = (V9).heap.size := by rw [hVV10]; rfl
            replace b3 := (b3.past hbV10)
            refine sxd _ (fun w' => Bt w' V1.heap.size 27 #[.int .i64 g.rad, .int .i64 g.digs, .int .i64 g.lo, .int .i64 g.hi, .bool g.grad]) hVV10 b3 ?_
            clear hVV10
            refine tk 0 43 (.pointer (some ⟨V1.heap.size, 2, none⟩)) b3 ?_
            refine tk 1 44 (.int .i64 g.lo) b3 ?_ (hy := fun w' hS => (exec_ld (by kernel_rfl) (run_ld1 hS hT3 2 (.int .i64 g.lo) (by kernel_rfl))))
            refine tk 2 45 (.int .i64 (e + (L : Int))) b3 ?_
            refine tk 3 46 (.int .i64 (e + (L : Int) - 1)) b3 ?_ (hy := fun w' _ => ((show _ = Result.ok (Next.value (.int .i64 (IntKind.wrap .i64 ((e + (L : Int)) - 1)))) _ by kernel_rfl).trans (congrArg (fun z => Result.ok (Next.value (.int .i64 z)) _) (IntWalk.i64_in _ (by omega)))))
            refine tk 4 47 (.int .i64 (e + (L : Int) - 1 + 80000)) b3 ?_ (hy := fun w' _ => ((show _ = Result.ok (Next.value (.int .i64 (IntKind.wrap .i64 ((e + (L : Int) - 1) + 80000)))) _ by kernel_rfl).trans (congrArg (fun z => Result.ok (Next.value (.int .i64 z)) _) (IntWalk.i64_in _ (by omega)))))
            refine tk 5 48 (.int .i64 ((wd : Nat) : Int)) b3 ?_
            refine tk 6 49 (.int .i64 ((e + (L : Int) - 1 + 80000) / (wd : Int))) b3 ?_ (hy := fun w' _ => (exec_quo ((e + (L : Int) - 1 + 80000) / (wd : Int)) (by kernel_rfl) (by kernel_rfl) (by omega) (Y2.out)))
            refine tk 7 50 (.int .i64 ((wd : Nat) : Int)) b3 ?_
            refine tk 8 51 (.int .i64 (80000 / (wd : Int))) b3 ?_ (hy := fun w' _ => (exec_quo (80000 / (wd : Int)) (by kernel_rfl) (by kernel_rfl) (by omega) (Y3.out)))
            refine tk 9 52 (.int .i64 ((e + (L : Int) - 1) / (wd : Int))) b3 ?_ (hy := fun w' _ => ((show _ = Result.ok (Next.value (.int .i64 (IntKind.wrap .i64 (((e + (L : Int) - 1 + 80000) / (wd : Int)) - (80000 / (wd : Int)))))) _ by kernel_rfl).trans (congrArg (fun z => Result.ok (Next.value (.int .i64 z)) _) (Y4.out))))
            refine tk 10 53 (.pointer (some ⟨V1.heap.size, 1, none⟩)) b3 ?_
            refine tk 11 54 (.int .i64 g.digs) b3 ?_ (hy := fun w' hS => (exec_ld (by kernel_rfl) (run_ld1 hS hT3 1 (.int .i64 g.digs) (by kernel_rfl))))
            refine tk 12 55 (.int .i64 ((e + (L : Int) - 1) / (wd : Int) - g.digs)) b3 ?_ (hy := fun w' _ => ((show _ = Result.ok (Next.value (.int .i64 (IntKind.wrap .i64 (((e + (L : Int) - 1) / (wd : Int)) - g.digs)))) _ by kernel_rfl).trans (congrArg (fun z => Result.ok (Next.value (.int .i64 z)) _) (IntWalk.i64_in _ (by omega)))))
            refine tk 13 56 (.int .i64 K0) b3 ?_ (hy := fun w' _ => ((show _ = Result.ok (Next.value (.int .i64 (IntKind.wrap .i64 (((e + (L : Int) - 1) / (wd : Int) - g.digs) + 1)))) _ by kernel_rfl).trans (congrArg (fun z => Result.ok (Next.value (.int .i64 z)) _) (Y6.out))))
            refine tk 14 57 (.int .i64 K) b3 ?_ (hy := fun w' _ => ((show _ = Result.ok (Next.value (.int .i64 (if ((K0) : Int) > (g.lo) then K0 else g.lo))) _ by kernel_rfl).trans (congrArg (fun z => Result.ok (Next.value (.int .i64 z)) _) (Y7.out))))
            refine tk 15 9 (.int .i64 K) b3 ?_
            refine sx_done (by kernel_rfl) ?_
            refine sx_then ?_
            refine wp_seq ?_
            refine wp_seq ?_
            refine sx_region ?_
            refine sv 58 (.pointer (some ⟨w.heap.size, 0, none⟩)) ?_
            replace b2 := (b2.past hbV10)
            refine sv 59 (.bool true) ?_ (hr := (exec_ld (by kernel_rfl) (run_ld1 b2 hT4 0 (.bool true) (by kernel_rfl))))
            refine sv 60 (.bool false) ?_
            refine sx_nil ?_
            refine sx_then ?_
            refine wp_cond_false (by kernel_rfl) ?_
            refine wp_skip ?_
            refine sx_then ?_
            refine wp_seq ?_
            refine sx_region ?_
            refine sv 72 (.agg #[.bool true, .slice p (dig B16 m).length c, .int .i64 e]) ?_ (hr := (exec_ld (by kernel_rfl) (run_ld b2 hT35 0 [.bool true, .slice p (dig B16 m).length c, .int .i64 e] (by kernel_rfl) (by kernel_rfl))))
            refine snv 73 (.slice (some ⟨V10.heap.size, 0, none⟩) 1 1) #[.int .i64 1] 3 (fun V11 hbV11 hzV11 b73 => ?_)
            have x73 := rf_one b73
            refine sv 74 (.int .i64 ((wd : Nat) : Int)) ?_
            refine sv 75 (.int .i64 K) ?_
            refine sv 76 (.int .i64 (K - 1)) ?_ (hr := ((show _ = Result.ok (Next.value (.int .i64 (IntKind.wrap .i64 (K - 1)))) _ by kernel_rfl).trans (congrArg (fun z => Result.ok (Next.value (.int .i64 z)) _) (IntWalk.i64_in _ (by omega)))))
            refine sv 77 (.int .i64 (((wd : Nat) : Int) * (K - 1))) ?_ (hr := ((show _ = Result.ok (Next.value (.int .i64 (IntKind.wrap .i64 (((wd : Nat) : Int) * (K - 1))))) _ by kernel_rfl).trans (congrArg (fun z => Result.ok (Next.value (.int .i64 z)) _) (IntWalk.i64_in _ (by omega)))))
            refine sv 78 (.agg #[.bool false, .slice (some ⟨V10.heap.size, 0, none⟩) 1 1, .int .i64 (((wd : Nat) : Int) * (K - 1))]) ?_
            replace hp := (hp.past (bthru (bthru hbV9 hbV10) hbV11))
            refine se 79 34 #[.agg #[.bool true, .slice p (dig B16 m).length c, .int .i64 e], .agg #[.bool false, .slice (some ⟨V10.heap.size, 0, none⟩) 1 1, .int .i64 (((wd : Nat) : Int) * (K - 1))]] (fun Gx hGx => ?_)
            ((with_reducible refine ((HPL1 _ _ 1 hp.rd x73.rd).out).mono ?_))
            rintro eV12 V12 ⟨p79, c79, rfl, hr_x79, hc_x79, hf_x79, hbV12⟩
            have hzV12 := hbV12.size
            have x79 := rf_of hr_x79 hc_x79 hf_x79
            clear hr_x79 hc_x79 hf_x79
            have lx79 := fun h => x79.lt h
            refine ⟨.agg #[.bool r1.neg, .slice p79 (dig B16 r1.m).length c79, .int .i64 r1.e], rfl, hGx _ _ ?_⟩
            clear hGx Gx
            refine sn 11 #[.bool false, .slice none 0 0, .int .i64 0] 35 (fun V13 hbV13 hzV13 b11 => ?_)
            refine ss none b11 hT35 0 #[.bool r1.neg, .slice p79 (dig B16 r1.m).length c79, .int .i64 r1.e] #[.bool r1.neg, .slice p79 (dig B16 r1.m).length c79, .int .i64 r1.e] ?_
            have boV14 := b11
            clear b11
            intro V14 hOV14 b11
            have hzV14 := hOV14.size
            refine sx_nil ?_
            refine sx_then ?_
            refine wp_seq ?_
            refine wp_seq ?_
            refine sx_region ?_
            refine sv 80 (.agg #[.bool r1.neg, .slice p79 (dig B16 r1.m).length c79, .int .i64 r1.e]) ?_ (hr := (exec_ld (by kernel_rfl) (run_ld b11 hT35 0 [.bool r1.neg, .slice p79 (dig B16 r1.m).length c79, .int .i64 r1.e] (by kernel_rfl) (by kernel_rfl))))
            replace b3 := (b3.past ((bthru (bthru hbV11 hbV12) hbV13).trans (hOV14.below (by omega))))
            refine sv 81 (.agg #[.int .i64 g.rad, .int .i64 g.digs, .int .i64 g.lo, .int .i64 g.hi, .bool g.grad]) ?_ (hr := (exec_ld (by kernel_rfl) (run_ld b3 hT27 0 [.int .i64 g.rad, .int .i64 g.digs, .int .i64 g.lo, .int .i64 g.hi, .bool g.grad] (by kernel_rfl) (by kernel_rfl))))
            replace x79 := (x79.past (hbV13.trans (hOV14.below (by omega))))
            refine se 82 21 #[.agg #[.bool r1.neg, .slice p79 (dig B16 r1.m).length c79, .int .i64 r1.e], .agg #[.int .i64 g.rad, .int .i64 g.digs, .int .i64 g.lo, .int .i64 g.hi, .bool g.grad]] (fun Gx hGx => ?_)
            ((with_reducible refine ((HI1 _ p79 c79 x79.rd).out).mono ?_))
            rintro eV15 V15 ⟨rfl, hbV15⟩
            have hzV15 := hbV15.size
            refine ⟨.bool true, rfl, hGx _ _ ?_⟩
            clear hGx Gx
            refine sv 83 (.bool true) ?_
            replace b2 := (b2.past (bthru ((bthru (bthru hbV11 hbV12) hbV13).trans (hOV14.below (by omega))) hbV15))
            refine sv 84 (.agg #[.bool true, .slice p (dig B16 m).length c, .int .i64 e]) ?_ (hr := (exec_ld (by kernel_rfl) (run_ld b2 hT35 0 [.bool true, .slice p (dig B16 m).length c, .int .i64 e] (by kernel_rfl) (by kernel_rfl))))
            replace b11 := (b11.past hbV15)
            refine sv 85 (.agg #[.bool r1.neg, .slice p79 (dig B16 r1.m).length c79, .int .i64 r1.e]) ?_ (hr := (exec_ld (by kernel_rfl) (run_ld b11 hT35 0 [.bool r1.neg, .slice p79 (dig B16 r1.m).length c79, .int .i64 r1.e] (by kernel_rfl) (by kernel_rfl))))
            replace hp := (hp.past (bthru ((bthru hbV12 hbV13).trans (hOV14.below (by omega))) hbV15))
            replace x79 := (x79.past hbV15)
            refine se 86 13 #[.agg #[.bool true, .slice p (dig B16 m).length c, .int .i64 e], .agg #[.bool r1.neg, .slice p79 (dig B16 r1.m).length c79, .int .i64 r1.e]] (fun Gx hGx => ?_)
            ((with_reducible refine ((HCM _ p79 c79 hp.rd x79.rd x79.cap).out).mono ?_))
            rintro eV16 V16 ⟨rfl, hbV16⟩
            have hzV16 := hbV16.size
            refine ⟨.int .i64 cm, rfl, hGx _ _ ?_⟩
            clear hGx Gx
            refine sv 87 (.bool true) ?_ (hr := ((show _ = Result.ok (Next.value (.bool (decide (cm < 0)))) _ from (by kernel_rfl)).trans (congrArg (fun z => Result.ok (Next.value (.bool z)) _) (show (decide (cm < 0)) = true from decide_eq_true c2))))
            refine sv 88 (.bool true) ?_
            refine sx_nil ?_
            refine sx_then ?_
            refine wp_cond_true (by kernel_rfl) ?_
            refine wp_seq ?_
            refine sx_region ?_
            replace b11 := (b11.past hbV16)
            refine sv 89 (.agg #[.bool r1.neg, .slice p79 (dig B16 r1.m).length c79, .int .i64 r1.e]) ?_ (hr := (exec_ld (by kernel_rfl) (run_ld b11 hT35 0 [.bool r1.neg, .slice p79 (dig B16 r1.m).length c79, .int .i64 r1.e] (by kernel_rfl) (by kernel_rfl))))
            replace b4 := (b4.past (bthru (bthru ((bthru (bthru (bthru (bthru (bthru (bthru ((bthru (bthru hbV4 hbV5) hbV6).trans (hOV7.below (by omega))) hbV8) hbV9) hbV10) hbV11) hbV12) hbV13).trans (hOV14.below (by omega))) hbV15) hbV16))
            refine ss none b4 hT35 0 #[.bool r1.neg, .slice p79 (dig B16 r1.m).length c79, .int .i64 r1.e] #[.bool r1.neg, .slice p79 (dig B16 r1.m).length c79, .int .i64 r1.e] ?_
            have boV17 := b4
            clear b4
            intro V17 hOV17 b4
            have hzV17 := hOV17.size
            refine sv 5 (.bool true) ?_
            refine sx_nil ?_
            refine sx_then ?_
            refine wp_ret ?_
            have ⟨b4_0, b4_1, b4_2⟩ := b4.bx.e3
            repeat (first | with_reducible refine sx_thenret ?_ | with_reducible refine sx_blockret ?_)
            refine bodyPost_ret (v := .tuple #[.agg #[.bool r1.neg, .slice p79 (dig B16 r1.m).length c79, .int .i64 r1.e], .bool true]) (by simp [results, Tryd.results23, go_sem, b4_0, b4_1, b4_2]) rfl ?_
            replace x79 := ((x79.past hbV16).only hOV17 (fun h => by have := lx79 h; omega))
            exact ⟨_, _, rfl, x79.mono (by omega), ((bthru (bthru ((bthru (bthru (bthru (bthru (bthru (bthru ((bthru (bthru (bthru (bthru (bthru hbV1 hbV2) hbV3) hbV4) hbV5) hbV6).trans (hOV7.below (by omega))) hbV8) hbV9) hbV10) hbV11) hbV12) hbV13).trans (hOV14.below (by omega))) hbV15) hbV16).trans (hOV17.below (by omega)))⟩
          · rw [if_neg (fun h => c2 h.2)]
            by_cases c3 : i2 = true
            · subst c3
              rw [if_pos rfl]
              have hT3 : SxOne Tryd.prog 3 := sxOne_of (by kernel_rfl) (by kernel_rfl)
              have hT4 : SxOne Tryd.prog 4 := sxOne_of (by kernel_rfl) (by kernel_rfl)
              have hT27 : SxAgg Tryd.prog 27 5 := sxAgg_of (by kernel_rfl) (by kernel_rfl)
              have hT33 : SxOne Tryd.prog 33 := sxOne_of (by kernel_rfl) (by kernel_rfl)
              have hT35 : SxAgg Tryd.prog 35 3 := sxAgg_of (by kernel_rfl) (by kernel_rfl)
              refine calls_of_wp Tryd.func23 rfl ?_
              refine sx_frame (a' := ⟨((.agg #[.bool true, .slice p (dig B16 m).length c, .int .i64 e]) :: (.agg #[.int .i64 g.rad, .int .i64 g.digs, .int .i64 g.lo, .int .i64 g.hi, .bool g.grad]) :: undef :: undef :: undef :: undef :: undef :: undef :: undef :: undef :: undef :: undef :: undef :: undef :: undef :: undef :: undef :: undef :: undef :: undef :: undef :: undef :: undef :: undef :: undef :: undef :: undef :: undef :: undef :: undef :: undef :: undef :: undef :: undef :: undef :: undef :: undef :: undef :: undef :: undef :: undef :: undef :: undef :: undef :: undef :: undef :: undef :: undef :: undef :: undef :: undef :: undef :: undef :: undef :: undef :: undef :: undef :: undef :: undef :: undef :: undef :: undef :: undef :: undef :: undef :: undef :: undef :: undef :: undef :: undef :: undef :: undef :: undef :: undef :: undef :: undef :: undef :: undef :: undef :: undef :: undef :: undef :: undef :: undef :: undef :: undef :: undef :: undef :: undef :: undef :: undef :: undef :: undef :: undef :: undef :: undef :: undef :: undef :: undef :: undef :: undef :: undef :: []).toArray, []⟩) (by kernel_rfl) ?_
              refine wp_seq ?_
              refine sx_region ?_
              refine sn 2 #[.bool true, .slice p (dig B16 m).length c, .int .i64 e] 35 (fun V1 hbV1 hzV1 b2 => ?_)
              refine sn 3 #[.int .i64 g.rad, .int .i64 g.digs, .int .i64 g.lo, .int .i64 g.hi, .bool g.grad] 27 (fun V2 hbV2 hzV2 b3 => ?_)
              refine sn 4 #[.bool false, .slice none 0 0, .int .i64 0] 35 (fun V3 hbV3 hzV3 b4 => ?_)
              refine sv 5 (.bool false) ?_
              refine sx_nil ?_
              refine sx_then ?_
              refine wp_seq ?_
              refine sx_region ?_
              replace b3 := (b3.past hbV3)
              refine sv 12 (.agg #[.int .i64 g.rad, .int .i64 g.digs, .int .i64 g.lo, .int .i64 g.hi, .bool g.grad]) ?_ (hr := (exec_ld (by kernel_rfl) (run_ld b3 hT27 0 [.int .i64 g.rad, .int .i64 g.digs, .int .i64 g.lo, .int .i64 g.hi, .bool g.grad] (by kernel_rfl) (by kernel_rfl))))
              refine se 13 42 #[.agg #[.int .i64 g.rad, .int .i64 g.digs, .int .i64 g.lo, .int .i64 g.hi, .bool g.grad]] (fun Gx hGx => ?_)
              ((with_reducible refine ((HWD _).out).mono ?_))
              rintro eV4 V4 ⟨rfl, hbV4⟩
              have hzV4 := hbV4.size
              refine ⟨.int .i64 ((wd : Nat) : Int), rfl, hGx _ _ ?_⟩
              clear hGx Gx
              refine sv 6 (.int .i64 ((wd : Nat) : Int)) ?_
              refine sx_nil ?_
              refine sx_then ?_
              refine wp_seq ?_
              refine sx_region ?_
              refine snv 14 (.slice (some ⟨V4.heap.size, 0, none⟩) 1 1) #[.int .i64 1] 3 (fun V5 hbV5 hzV5 b14 => ?_)
              have x14 := rf_one b14
              refine sv 15 (.int .i64 ((wd : Nat) : Int)) ?_
              refine sv 16 (.pointer (some ⟨V1.heap.size, 2, none⟩)) ?_
              replace b3 := (b3.past (bthru hbV4 hbV5))
              refine sv 17 (.int .i64 g.lo) ?_ (hr := (exec_ld (by kernel_rfl) (run_ld1 b3 hT3 2 (.int .i64 g.lo) (by kernel_rfl))))
              refine sv 18 (.int .i64 (((wd : Nat) : Int) * g.lo)) ?_ (hr := ((show _ = Result.ok (Next.value (.int .i64 (IntKind.wrap .i64 (((wd : Nat) : Int) * g.lo)))) _ by kernel_rfl).trans (congrArg (fun z => Result.ok (Next.value (.int .i64 z)) _) (IntWalk.i64_in _ (by omega)))))
              refine sv 19 (.agg #[.bool false, .slice (some ⟨V4.heap.size, 0, none⟩) 1 1, .int .i64 (((wd : Nat) : Int) * g.lo)]) ?_
              refine sn 7 #[.bool false, .slice none 0 0, .int .i64 0] 35 (fun V6 hbV6 hzV6 b7 => ?_)
              refine ss none b7 hT35 0 #[.bool false, .slice (some ⟨V4.heap.size, 0, none⟩) 1 1, .int .i64 (((wd : Nat) : Int) * g.lo)] #[.bool false, .slice (some ⟨V4.heap.size, 0, none⟩) 1 1, .int .i64 (((wd : Nat) : Int) * g.lo)] ?_
              have boV7 := b7
              clear b7
              intro V7 hOV7 b7
              have hzV7 := hOV7.size
              refine sx_nil ?_
              refine sx_then ?_
              refine wp_seq ?_
              refine wp_seq ?_
              refine sx_region ?_
              refine sv 20 (.pointer (some ⟨V1.heap.size, 4, none⟩)) ?_
              replace b3 := (b3.past (hbV6.trans (hOV7.below (by omega))))
              refine sv 21 (.bool g.grad) ?_ (hr := (exec_ld (by kernel_rfl) (run_ld1 b3 hT4 4 (.bool g.grad) (by kernel_rfl))))
              refine sv 22 (.bool false) ?_ (hr := ((show _ = Result.ok (Next.value (.bool (!g.grad))) _ from (by kernel_rfl)).trans (congrArg (fun z => Result.ok (Next.value (.bool z)) _) (show (!g.grad) = false from by rw [hgr]; rfl))))
              refine sx_nil ?_
              refine sx_then ?_
              refine wp_cond_false (by kernel_rfl) ?_
              refine wp_skip ?_
              refine sx_then ?_
              refine wp_seq ?_
              refine wp_seq ?_
              refine sx_region ?_
              refine sv 32 (.pointer (some ⟨w.heap.size, 1, none⟩)) ?_
              replace b2 := (b2.past ((bthru (bthru (bthru (bthru hbV2 hbV3) hbV4) hbV5) hbV6).trans (hOV7.below (by omega))))
              refine sv 33 (.slice p (dig B16 m).length c) ?_ (hr := (exec_ld (by kernel_rfl) (run_ld1 b2 hT33 1 (.slice p (dig B16 m).length c) (by kernel_rfl))))
              refine sv 34 (.int .i64 (((dig B16 m).length : Nat) : Int)) ?_
              refine sv 35 (.bool false) ?_ (hr := ((show _ = Result.ok (Next.value (.bool ((((dig B16 m).length : Nat) : Int) == 0))) _ from (by kernel_rfl)).trans (congrArg (fun z => Result.ok (Next.value (.bool z)) _) (show ((((dig B16 m).length : Nat) : Int) == 0) = false from t35))))
              refine sx_nil ?_
              refine sx_then ?_
              refine wp_cond_false (by kernel_rfl) ?_
              refine wp_skip ?_
              refine sx_then ?_
              refine wp_seq ?_
              obtain ⟨V8, hVV8⟩ : ∃ V, V = (V7).drew := ⟨_, rfl⟩
              have hbV8 : Below (V7).heap.size (V7) V8 := by rw [hVV8]; exact (Below.refl _ _).drew
              have hzV8 : V8.heap.size = (V7).heap.size := by rw [hVV8]; rfl
              replace b2 := (b2.past hbV8)
              refine sxd _ (fun w' => Bt w' w.heap.size 35 #[.bool true, .slice p (dig B16 m).length c, .int .i64 e]) hVV8 b2 ?_
              clear hVV8
              refine tk 0 37 (.pointer (some ⟨w.heap.size, 2, none⟩)) b2 ?_
              refine tk 1 38 (.int .i64 e) b2 ?_ (hy := fun w' hS => (exec_ld (by kernel_rfl) (run_ld1 hS hT3 2 (.int .i64 e) (by kernel_rfl))))
              refine tk 2 39 (.pointer (some ⟨w.heap.size, 1, none⟩)) b2 ?_
              refine tk 3 40 (.slice p (dig B16 m).length c) b2 ?_ (hy := fun w' hS => (exec_ld (by kernel_rfl) (run_ld1 hS hT33 1 (.slice p (dig B16 m).length c) (by kernel_rfl))))
              refine sxr [4] ?_
              refine rd1 (fun Kx hKx => ?_)
              replace hp := (hp.past (bthru ((bthru (bthru (bthru (bthru (bthru hbV1 hbV2) hbV3) hbV4) hbV5) hbV6).trans (hOV7.below (by omega))) hbV8))
              refine sek 41 43 #[.slice p (dig B16 m).length c] ?_
              ((with_reducible refine ((HRL _ hp.rd).out).mono ?_))
              rintro eV9 V9 ⟨rfl, hbV9⟩
              have hzV9 := hbV9.size
              refine ⟨.int .i64 ((L : Nat) : Int), rfl, ?_⟩
              replace b2 := (b2.past hbV9)
              refine hKx.out _ _ b2 ?_
              clear hKx Kx
              refine tk 5 42 (.int .i64 (e + (L : Int))) b2 ?_ (hy := fun w' _ => ((show _ = Result.ok (Next.value (.int .i64 (IntKind.wrap .i64 (e + ((L : Nat) : Int))))) _ by kernel_rfl).trans (congrArg (fun z => Result.ok (Next.value (.int .i64 z)) _) (IntWalk.i64_in _ (by omega)))))
              refine tk 6 8 (.int .i64 (e + (L : Int))) b2 ?_
              refine sx_done (by kernel_rfl) ?_
              refine sx_then ?_
              refine wp_seq ?_
              replace b3 := (b3.past (bthru hbV8 hbV9))
              obtain ⟨V10, hVV10⟩ : ∃ V, V = (V9).drew := ⟨_, rfl⟩
              have hbV10 : Below (V9).heap.size (V9) V10 := by rw [hVV10]; exact (Below.refl _ _).drew
              have hzV10 : V10.heap.size = (V9).heap.size := by rw [hVV10]; rfl
              replace b3 := (b3.past hbV10)
              refine sxd _ (fun w' => Bt w' V1.heap.size 27 #[.int .i64 g.rad, .int .i64 g.digs, .int .i64 g.lo, .int .i64 g.hi, .bool g.grad]) hVV10 b3 ?_
              clear hVV10
              refine tk 0 43 (.pointer (some ⟨V1.heap.size, 2, none⟩)) b3 ?_
              refine tk 1 44 (.int .i64 g.lo) b3 ?_ (hy := fun w' hS => (exec_ld (by kernel_rfl) (run_ld1 hS hT3 2 (.int .i64 g.lo) (by kernel_rfl))))
              refine tk 2 45 (.int .i64 (e + (L : Int))) b3 ?_
              refine tk 3 46 (.int .i64 (e + (L : Int) - 1)) b3 ?_ (hy := fun w' _ => ((show _ = Result.ok (Next.value (.int .i64 (IntKind.wrap .i64 ((e + (L : Int)) - 1)))) _ by kernel_rfl).trans (congrArg (fun z => Result.ok (Next.value (.int .i64 z)) _) (IntWalk.i64_in _ (by omega)))))
              refine tk 4 47 (.int .i64 (e + (L : Int) - 1 + 80000)) b3 ?_ (hy := fun w' _ => ((show _ = Result.ok (Next.value (.int .i64 (IntKind.wrap .i64 ((e + (L : Int) - 1) + 80000)))) _ by kernel_rfl).trans (congrArg (fun z => Result.ok (Next.value (.int .i64 z)) _) (IntWalk.i64_in _ (by omega)))))
              refine tk 5 48 (.int .i64 ((wd : Nat) : Int)) b3 ?_
              refine tk 6 49 (.int .i64 ((e + (L : Int) - 1 + 80000) / (wd : Int))) b3 ?_ (hy := fun w' _ => (exec_quo ((e + (L : Int) - 1 + 80000) / (wd : Int)) (by kernel_rfl) (by kernel_rfl) (by omega) (Y2.out)))
              refine tk 7 50 (.int .i64 ((wd : Nat) : Int)) b3 ?_
              refine tk 8 51 (.int .i64 (80000 / (wd : Int))) b3 ?_ (hy := fun w' _ => (exec_quo (80000 / (wd : Int)) (by kernel_rfl) (by kernel_rfl) (by omega) (Y3.out)))
              refine tk 9 52 (.int .i64 ((e + (L : Int) - 1) / (wd : Int))) b3 ?_ (hy := fun w' _ => ((show _ = Result.ok (Next.value (.int .i64 (IntKind.wrap .i64 (((e + (L : Int) - 1 + 80000) / (wd : Int)) - (80000 / (wd : Int)))))) _ by kernel_rfl).trans (congrArg (fun z => Result.ok (Next.value (.int .i64 z)) _) (Y4.out))))
              refine tk 10 53 (.pointer (some ⟨V1.heap.size, 1, none⟩)) b3 ?_
              refine tk 11 54 (.int .i64 g.digs) b3 ?_ (hy := fun w' hS => (exec_ld (by kernel_rfl) (run_ld1 hS hT3 1 (.int .i64 g.digs) (by kernel_rfl))))
              refine tk 12 55 (.int .i64 ((e + (L : Int) - 1) / (wd : Int) - g.digs)) b3 ?_ (hy := fun w' _ => ((show _ = Result.ok (Next.value (.int .i64 (IntKind.wrap .i64 (((e + (L : Int) - 1) / (wd : Int)) - g.digs)))) _ by kernel_rfl).trans (congrArg (fun z => Result.ok (Next.value (.int .i64 z)) _) (IntWalk.i64_in _ (by omega)))))
              refine tk 13 56 (.int .i64 K0) b3 ?_ (hy := fun w' _ => ((show _ = Result.ok (Next.value (.int .i64 (IntKind.wrap .i64 (((e + (L : Int) - 1) / (wd : Int) - g.digs) + 1)))) _ by kernel_rfl).trans (congrArg (fun z => Result.ok (Next.value (.int .i64 z)) _) (Y6.out))))
              refine tk 14 57 (.int .i64 K) b3 ?_ (hy := fun w' _ => ((show _ = Result.ok (Next.value (.int .i64 (if ((K0) : Int) > (g.lo) then K0 else g.lo))) _ by kernel_rfl).trans (congrArg (fun z => Result.ok (Next.value (.int .i64 z)) _) (Y7.out))))
              refine tk 15 9 (.int .i64 K) b3 ?_
              refine sx_done (by kernel_rfl) ?_
              refine sx_then ?_
              refine wp_seq ?_
              refine wp_seq ?_
              refine sx_region ?_
              refine sv 58 (.pointer (some ⟨w.heap.size, 0, none⟩)) ?_
              replace b2 := (b2.past hbV10)
              refine sv 59 (.bool true) ?_ (hr := (exec_ld (by kernel_rfl) (run_ld1 b2 hT4 0 (.bool true) (by kernel_rfl))))
              refine sv 60 (.bool false) ?_
              refine sx_nil ?_
              refine sx_then ?_
              refine wp_cond_false (by kernel_rfl) ?_
              refine wp_skip ?_
              refine sx_then ?_
              refine wp_seq ?_
              refine sx_region ?_
              refine sv 72 (.agg #[.bool true, .slice p (dig B16 m).length c, .int .i64 e]) ?_ (hr := (exec_ld (by kernel_rfl) (run_ld b2 hT35 0 [.bool true, .slice p (dig B16 m).length c, .int .i64 e] (by kernel_rfl) (by kernel_rfl))))
              refine snv 73 (.slice (some ⟨V10.heap.size, 0, none⟩) 1 1) #[.int .i64 1] 3 (fun V11 hbV11 hzV11 b73 => ?_)
              have x73 := rf_one b73
              refine sv 74 (.int .i64 ((wd : Nat) : Int)) ?_
              refine sv 75 (.int .i64 K) ?_
              refine sv 76 (.int .i64 (K - 1)) ?_ (hr := ((show _ = Result.ok (Next.value (.int .i64 (IntKind.wrap .i64 (K - 1)))) _ by kernel_rfl).trans (congrArg (fun z => Result.ok (Next.value (.int .i64 z)) _) (IntWalk.i64_in _ (by omega)))))
              refine sv 77 (.int .i64 (((wd : Nat) : Int) * (K - 1))) ?_ (hr := ((show _ = Result.ok (Next.value (.int .i64 (IntKind.wrap .i64 (((wd : Nat) : Int) * (K - 1))))) _ by kernel_rfl).trans (congrArg (fun z => Result.ok (Next.value (.int .i64 z)) _) (IntWalk.i64_in _ (by omega)))))
              refine sv 78 (.agg #[.bool false, .slice (some ⟨V10.heap.size, 0, none⟩) 1 1, .int .i64 (((wd : Nat) : Int) * (K - 1))]) ?_
              replace hp := (hp.past (bthru (bthru hbV9 hbV10) hbV11))
              refine se 79 34 #[.agg #[.bool true, .slice p (dig B16 m).length c, .int .i64 e], .agg #[.bool false, .slice (some ⟨V10.heap.size, 0, none⟩) 1 1, .int .i64 (((wd : Nat) : Int) * (K - 1))]] (fun Gx hGx => ?_)
              ((with_reducible refine ((HPL1 _ _ 1 hp.rd x73.rd).out).mono ?_))
              rintro eV12 V12 ⟨p79, c79, rfl, hr_x79, hc_x79, hf_x79, hbV12⟩
              have hzV12 := hbV12.size
              have x79 := rf_of hr_x79 hc_x79 hf_x79
              clear hr_x79 hc_x79 hf_x79
              have lx79 := fun h => x79.lt h
              refine ⟨.agg #[.bool r1.neg, .slice p79 (dig B16 r1.m).length c79, .int .i64 r1.e], rfl, hGx _ _ ?_⟩
              clear hGx Gx
              refine sn 11 #[.bool false, .slice none 0 0, .int .i64 0] 35 (fun V13 hbV13 hzV13 b11 => ?_)
              refine ss none b11 hT35 0 #[.bool r1.neg, .slice p79 (dig B16 r1.m).length c79, .int .i64 r1.e] #[.bool r1.neg, .slice p79 (dig B16 r1.m).length c79, .int .i64 r1.e] ?_
              have boV14 := b11
              clear b11
              intro V14 hOV14 b11
              have hzV14 := hOV14.size
              refine sx_nil ?_
              refine sx_then ?_
              refine wp_seq ?_
              refine wp_seq ?_
              refine sx_region ?_
              refine sv 80 (.agg #[.bool r1.neg, .slice p79 (dig B16 r1.m).length c79, .int .i64 r1.e]) ?_ (hr := (exec_ld (by kernel_rfl) (run_ld b11 hT35 0 [.bool r1.neg, .slice p79 (dig B16 r1.m).length c79, .int .i64 r1.e] (by kernel_rfl) (by kernel_rfl))))
              replace b3 := (b3.past ((bthru (bthru hbV11 hbV12) hbV13).trans (hOV14.below (by omega))))
              refine sv 81 (.agg #[.int .i64 g.rad, .int .i64 g.digs, .int .i64 g.lo, .int .i64 g.hi, .bool g.grad]) ?_ (hr := (exec_ld (by kernel_rfl) (run_ld b3 hT27 0 [.int .i64 g.rad, .int .i64 g.digs, .int .i64 g.lo, .int .i64 g.hi, .bool g.grad] (by kernel_rfl) (by kernel_rfl))))
              replace x79 := (x79.past (hbV13.trans (hOV14.below (by omega))))
              refine se 82 21 #[.agg #[.bool r1.neg, .slice p79 (dig B16 r1.m).length c79, .int .i64 r1.e], .agg #[.int .i64 g.rad, .int .i64 g.digs, .int .i64 g.lo, .int .i64 g.hi, .bool g.grad]] (fun Gx hGx => ?_)
              ((with_reducible refine ((HI1 _ p79 c79 x79.rd).out).mono ?_))
              rintro eV15 V15 ⟨rfl, hbV15⟩
              have hzV15 := hbV15.size
              refine ⟨.bool true, rfl, hGx _ _ ?_⟩
              clear hGx Gx
              refine sv 83 (.bool true) ?_
              replace b2 := (b2.past (bthru ((bthru (bthru hbV11 hbV12) hbV13).trans (hOV14.below (by omega))) hbV15))
              refine sv 84 (.agg #[.bool true, .slice p (dig B16 m).length c, .int .i64 e]) ?_ (hr := (exec_ld (by kernel_rfl) (run_ld b2 hT35 0 [.bool true, .slice p (dig B16 m).length c, .int .i64 e] (by kernel_rfl) (by kernel_rfl))))
              replace b11 := (b11.past hbV15)
              refine sv 85 (.agg #[.bool r1.neg, .slice p79 (dig B16 r1.m).length c79, .int .i64 r1.e]) ?_ (hr := (exec_ld (by kernel_rfl) (run_ld b11 hT35 0 [.bool r1.neg, .slice p79 (dig B16 r1.m).length c79, .int .i64 r1.e] (by kernel_rfl) (by kernel_rfl))))
              replace hp := (hp.past (bthru ((bthru hbV12 hbV13).trans (hOV14.below (by omega))) hbV15))
              replace x79 := (x79.past hbV15)
              refine se 86 13 #[.agg #[.bool true, .slice p (dig B16 m).length c, .int .i64 e], .agg #[.bool r1.neg, .slice p79 (dig B16 r1.m).length c79, .int .i64 r1.e]] (fun Gx hGx => ?_)
              ((with_reducible refine ((HCM _ p79 c79 hp.rd x79.rd x79.cap).out).mono ?_))
              rintro eV16 V16 ⟨rfl, hbV16⟩
              have hzV16 := hbV16.size
              refine ⟨.int .i64 cm, rfl, hGx _ _ ?_⟩
              clear hGx Gx
              refine sv 87 (.bool false) ?_ (hr := ((show _ = Result.ok (Next.value (.bool (decide (cm < 0)))) _ from (by kernel_rfl)).trans (congrArg (fun z => Result.ok (Next.value (.bool z)) _) (show (decide (cm < 0)) = false from decide_eq_false c2))))
              refine sv 88 (.bool false) ?_
              refine sx_nil ?_
              refine sx_then ?_
              refine wp_cond_false (by kernel_rfl) ?_
              refine wp_skip ?_
              refine sx_then ?_
              refine wp_seq ?_
              refine sx_region ?_
              replace b2 := (b2.past hbV16)
              refine sv 90 (.agg #[.bool true, .slice p (dig B16 m).length c, .int .i64 e]) ?_ (hr := (exec_ld (by kernel_rfl) (run_ld b2 hT35 0 [.bool true, .slice p (dig B16 m).length c, .int .i64 e] (by kernel_rfl) (by kernel_rfl))))
              refine snv 91 (.slice (some ⟨V16.heap.size, 0, none⟩) 1 1) #[.int .i64 1] 3 (fun V17 hbV17 hzV17 b91 => ?_)
              have x91 := rf_one b91
              refine sv 92 (.int .i64 ((wd : Nat) : Int)) ?_
              refine sv 93 (.int .i64 K) ?_
              refine sv 94 (.int .i64 (((wd : Nat) : Int) * K)) ?_ (hr := ((show _ = Result.ok (Next.value (.int .i64 (IntKind.wrap .i64 (((wd : Nat) : Int) * K)))) _ by kernel_rfl).trans (congrArg (fun z => Result.ok (Next.value (.int .i64 z)) _) (IntWalk.i64_in _ (by omega)))))
              refine sv 95 (.agg #[.bool false, .slice (some ⟨V16.heap.size, 0, none⟩) 1 1, .int .i64 (((wd : Nat) : Int) * K)]) ?_
              replace hp := (hp.past (bthru hbV16 hbV17))
              refine se 96 34 #[.agg #[.bool true, .slice p (dig B16 m).length c, .int .i64 e], .agg #[.bool false, .slice (some ⟨V16.heap.size, 0, none⟩) 1 1, .int .i64 (((wd : Nat) : Int) * K)]] (fun Gx hGx => ?_)
              ((with_reducible refine ((HPL _ _ 1 hp.rd x91.rd).out).mono ?_))
              rintro eV18 V18 ⟨p96, c96, rfl, hr_x96, hc_x96, hf_x96, hbV18⟩
              have hzV18 := hbV18.size
              have x96 := rf_of hr_x96 hc_x96 hf_x96
              clear hr_x96 hc_x96 hf_x96
              have lx96 := fun h => x96.lt h
              refine ⟨.agg #[.bool r2.neg, .slice p96 (dig B16 r2.m).length c96, .int .i64 r2.e], rfl, hGx _ _ ?_⟩
              clear hGx Gx
              replace b11 := (b11.past (bthru (bthru hbV16 hbV17) hbV18))
              refine ss none b11 hT35 0 #[.bool r2.neg, .slice p96 (dig B16 r2.m).length c96, .int .i64 r2.e] #[.bool r2.neg, .slice p96 (dig B16 r2.m).length c96, .int .i64 r2.e] ?_
              have boV19 := b11
              clear b11
              intro V19 hOV19 b11
              have hzV19 := hOV19.size
              refine sx_nil ?_
              refine sx_then ?_
              refine wp_seq ?_
              refine wp_seq ?_
              refine sx_region ?_
              refine sv 97 (.agg #[.bool r2.neg, .slice p96 (dig B16 r2.m).length c96, .int .i64 r2.e]) ?_ (hr := (exec_ld (by kernel_rfl) (run_ld b11 hT35 0 [.bool r2.neg, .slice p96 (dig B16 r2.m).length c96, .int .i64 r2.e] (by kernel_rfl) (by kernel_rfl))))
              replace b3 := ((b3.past (bthru (bthru (bthru hbV15 hbV16) hbV17) hbV18)).only hOV19 (by omega))
              refine sv 98 (.agg #[.int .i64 g.rad, .int .i64 g.digs, .int .i64 g.lo, .int .i64 g.hi, .bool g.grad]) ?_ (hr := (exec_ld (by kernel_rfl) (run_ld b3 hT27 0 [.int .i64 g.rad, .int .i64 g.digs, .int .i64 g.lo, .int .i64 g.hi, .bool g.grad] (by kernel_rfl) (by kernel_rfl))))
              replace x96 := (x96.only hOV19 (fun h => by have := lx96 h; omega))
              refine se 99 21 #[.agg #[.bool r2.neg, .slice p96 (dig B16 r2.m).length c96, .int .i64 r2.e], .agg #[.int .i64 g.rad, .int .i64 g.digs, .int .i64 g.lo, .int .i64 g.hi, .bool g.grad]] (fun Gx hGx => ?_)
              ((with_reducible refine ((HI2 _ p96 c96 x96.rd).out).mono ?_))
              rintro eV20 V20 ⟨rfl, hbV20⟩
              have hzV20 := hbV20.size
              refine ⟨.bool true, rfl, hGx _ _ ?_⟩
              clear hGx Gx
              refine sx_nil ?_
              refine sx_then ?_
              refine wp_cond_true (by kernel_rfl) ?_
              refine wp_seq ?_
              refine sx_region ?_
              replace b11 := (b11.past hbV20)
              refine sv 100 (.agg #[.bool r2.neg, .slice p96 (dig B16 r2.m).length c96, .int .i64 r2.e]) ?_ (hr := (exec_ld (by kernel_rfl) (run_ld b11 hT35 0 [.bool r2.neg, .slice p96 (dig B16 r2.m).length c96, .int .i64 r2.e] (by kernel_rfl) (by kernel_rfl))))
              replace b4 := (b4.past (bthru ((bthru (bthru (bthru (bthru ((bthru (bthru (bthru (bthru (bthru (bthru ((bthru (bthru hbV4 hbV5) hbV6).trans (hOV7.below (by omega))) hbV8) hbV9) hbV10) hbV11) hbV12) hbV13).trans (hOV14.below (by omega))) hbV15) hbV16) hbV17) hbV18).trans (hOV19.below (by omega))) hbV20))
              refine ss none b4 hT35 0 #[.bool r2.neg, .slice p96 (dig B16 r2.m).length c96, .int .i64 r2.e] #[.bool r2.neg, .slice p96 (dig B16 r2.m).length c96, .int .i64 r2.e] ?_
              have boV21 := b4
              clear b4
              intro V21 hOV21 b4
              have hzV21 := hOV21.size
              refine sv 5 (.bool true) ?_
              refine sx_nil ?_
              refine sx_then ?_
              refine wp_ret ?_
              have ⟨b4_0, b4_1, b4_2⟩ := b4.bx.e3
              repeat (first | with_reducible refine sx_thenret ?_ | with_reducible refine sx_blockret ?_)
              refine bodyPost_ret (v := .tuple #[.agg #[.bool r2.neg, .slice p96 (dig B16 r2.m).length c96, .int .i64 r2.e], .bool true]) (by simp [results, Tryd.results23, go_sem, b4_0, b4_1, b4_2]) rfl ?_
              replace x96 := ((x96.past hbV20).only hOV21 (fun h => by have := lx96 h; omega))
              exact ⟨_, _, rfl, x96.mono (by omega), ((bthru ((bthru (bthru (bthru (bthru ((bthru (bthru (bthru (bthru (bthru (bthru ((bthru (bthru (bthru (bthru (bthru hbV1 hbV2) hbV3) hbV4) hbV5) hbV6).trans (hOV7.below (by omega))) hbV8) hbV9) hbV10) hbV11) hbV12) hbV13).trans (hOV14.below (by omega))) hbV15) hbV16) hbV17) hbV18).trans (hOV19.below (by omega))) hbV20).trans (hOV21.below (by omega)))⟩
            · replace c3 : i2 = false := by simpa using c3
              subst c3
              rw [if_neg (by simp)]
              have hT3 : SxOne Tryd.prog 3 := sxOne_of (by kernel_rfl) (by kernel_rfl)
              have hT4 : SxOne Tryd.prog 4 := sxOne_of (by kernel_rfl) (by kernel_rfl)
              have hT27 : SxAgg Tryd.prog 27 5 := sxAgg_of (by kernel_rfl) (by kernel_rfl)
              have hT33 : SxOne Tryd.prog 33 := sxOne_of (by kernel_rfl) (by kernel_rfl)
              have hT35 : SxAgg Tryd.prog 35 3 := sxAgg_of (by kernel_rfl) (by kernel_rfl)
              refine calls_of_wp Tryd.func23 rfl ?_
              refine sx_frame (a' := ⟨((.agg #[.bool true, .slice p (dig B16 m).length c, .int .i64 e]) :: (.agg #[.int .i64 g.rad, .int .i64 g.digs, .int .i64 g.lo, .int .i64 g.hi, .bool g.grad]) :: undef :: undef :: undef :: undef :: undef :: undef :: undef :: undef :: undef :: undef :: undef :: undef :: undef :: undef :: undef :: undef :: undef :: undef :: undef :: undef :: undef :: undef :: undef :: undef :: undef :: undef :: undef :: undef :: undef :: undef :: undef :: undef :: undef :: undef :: undef :: undef :: undef :: undef :: undef :: undef :: undef :: undef :: undef :: undef :: undef :: undef :: undef :: undef :: undef :: undef :: undef :: undef :: undef :: undef :: undef :: undef :: undef :: undef :: undef :: undef :: undef :: undef :: undef :: undef :: undef :: undef :: undef :: undef :: undef :: undef :: undef :: undef :: undef :: undef :: undef :: undef :: undef :: undef :: undef :: undef :: undef :: undef :: undef :: undef :: undef :: undef :: undef :: undef :: undef :: undef :: undef :: undef :: undef :: undef :: undef :: undef :: undef :: undef :: undef :: undef :: []).toArray, []⟩) (by kernel_rfl) ?_
              refine wp_seq ?_
              refine sx_region ?_
              refine sn 2 #[.bool true, .slice p (dig B16 m).length c, .int .i64 e] 35 (fun V1 hbV1 hzV1 b2 => ?_)
              refine sn 3 #[.int .i64 g.rad, .int .i64 g.digs, .int .i64 g.lo, .int .i64 g.hi, .bool g.grad] 27 (fun V2 hbV2 hzV2 b3 => ?_)
              refine sn 4 #[.bool false, .slice none 0 0, .int .i64 0] 35 (fun V3 hbV3 hzV3 b4 => ?_)
              refine sv 5 (.bool false) ?_
              refine sx_nil ?_
              refine sx_then ?_
              refine wp_seq ?_
              refine sx_region ?_
              replace b3 := (b3.past hbV3)
              refine sv 12 (.agg #[.int .i64 g.rad, .int .i64 g.digs, .int .i64 g.lo, .int .i64 g.hi, .bool g.grad]) ?_ (hr := (exec_ld (by kernel_rfl) (run_ld b3 hT27 0 [.int .i64 g.rad, .int .i64 g.digs, .int .i64 g.lo, .int .i64 g.hi, .bool g.grad] (by kernel_rfl) (by kernel_rfl))))
              refine se 13 42 #[.agg #[.int .i64 g.rad, .int .i64 g.digs, .int .i64 g.lo, .int .i64 g.hi, .bool g.grad]] (fun Gx hGx => ?_)
              ((with_reducible refine ((HWD _).out).mono ?_))
              rintro eV4 V4 ⟨rfl, hbV4⟩
              have hzV4 := hbV4.size
              refine ⟨.int .i64 ((wd : Nat) : Int), rfl, hGx _ _ ?_⟩
              clear hGx Gx
              refine sv 6 (.int .i64 ((wd : Nat) : Int)) ?_
              refine sx_nil ?_
              refine sx_then ?_
              refine wp_seq ?_
              refine sx_region ?_
              refine snv 14 (.slice (some ⟨V4.heap.size, 0, none⟩) 1 1) #[.int .i64 1] 3 (fun V5 hbV5 hzV5 b14 => ?_)
              have x14 := rf_one b14
              refine sv 15 (.int .i64 ((wd : Nat) : Int)) ?_
              refine sv 16 (.pointer (some ⟨V1.heap.size, 2, none⟩)) ?_
              replace b3 := (b3.past (bthru hbV4 hbV5))
              refine sv 17 (.int .i64 g.lo) ?_ (hr := (exec_ld (by kernel_rfl) (run_ld1 b3 hT3 2 (.int .i64 g.lo) (by kernel_rfl))))
              refine sv 18 (.int .i64 (((wd : Nat) : Int) * g.lo)) ?_ (hr := ((show _ = Result.ok (Next.value (.int .i64 (IntKind.wrap .i64 (((wd : Nat) : Int) * g.lo)))) _ by kernel_rfl).trans (congrArg (fun z => Result.ok (Next.value (.int .i64 z)) _) (IntWalk.i64_in _ (by omega)))))
              refine sv 19 (.agg #[.bool false, .slice (some ⟨V4.heap.size, 0, none⟩) 1 1, .int .i64 (((wd : Nat) : Int) * g.lo)]) ?_
              refine sn 7 #[.bool false, .slice none 0 0, .int .i64 0] 35 (fun V6 hbV6 hzV6 b7 => ?_)
              refine ss none b7 hT35 0 #[.bool false, .slice (some ⟨V4.heap.size, 0, none⟩) 1 1, .int .i64 (((wd : Nat) : Int) * g.lo)] #[.bool false, .slice (some ⟨V4.heap.size, 0, none⟩) 1 1, .int .i64 (((wd : Nat) : Int) * g.lo)] ?_
              have boV7 := b7
              clear b7
              intro V7 hOV7 b7
              have hzV7 := hOV7.size
              refine sx_nil ?_
              refine sx_then ?_
              refine wp_seq ?_
              refine wp_seq ?_
              refine sx_region ?_
              refine sv 20 (.pointer (some ⟨V1.heap.size, 4, none⟩)) ?_
              replace b3 := (b3.past (hbV6.trans (hOV7.below (by omega))))
              refine sv 21 (.bool g.grad) ?_ (hr := (exec_ld (by kernel_rfl) (run_ld1 b3 hT4 4 (.bool g.grad) (by kernel_rfl))))
              refine sv 22 (.bool false) ?_ (hr := ((show _ = Result.ok (Next.value (.bool (!g.grad))) _ from (by kernel_rfl)).trans (congrArg (fun z => Result.ok (Next.value (.bool z)) _) (show (!g.grad) = false from by rw [hgr]; rfl))))
              refine sx_nil ?_
              refine sx_then ?_
              refine wp_cond_false (by kernel_rfl) ?_
              refine wp_skip ?_
              refine sx_then ?_
              refine wp_seq ?_
              refine wp_seq ?_
              refine sx_region ?_
              refine sv 32 (.pointer (some ⟨w.heap.size, 1, none⟩)) ?_
              replace b2 := (b2.past ((bthru (bthru (bthru (bthru hbV2 hbV3) hbV4) hbV5) hbV6).trans (hOV7.below (by omega))))
              refine sv 33 (.slice p (dig B16 m).length c) ?_ (hr := (exec_ld (by kernel_rfl) (run_ld1 b2 hT33 1 (.slice p (dig B16 m).length c) (by kernel_rfl))))
              refine sv 34 (.int .i64 (((dig B16 m).length : Nat) : Int)) ?_
              refine sv 35 (.bool false) ?_ (hr := ((show _ = Result.ok (Next.value (.bool ((((dig B16 m).length : Nat) : Int) == 0))) _ from (by kernel_rfl)).trans (congrArg (fun z => Result.ok (Next.value (.bool z)) _) (show ((((dig B16 m).length : Nat) : Int) == 0) = false from t35))))
              refine sx_nil ?_
              refine sx_then ?_
              refine wp_cond_false (by kernel_rfl) ?_
              refine wp_skip ?_
              refine sx_then ?_
              refine wp_seq ?_
              obtain ⟨V8, hVV8⟩ : ∃ V, V = (V7).drew := ⟨_, rfl⟩
              have hbV8 : Below (V7).heap.size (V7) V8 := by rw [hVV8]; exact (Below.refl _ _).drew
              have hzV8 : V8.heap.size = (V7).heap.size := by rw [hVV8]; rfl
              replace b2 := (b2.past hbV8)
              refine sxd _ (fun w' => Bt w' w.heap.size 35 #[.bool true, .slice p (dig B16 m).length c, .int .i64 e]) hVV8 b2 ?_
              clear hVV8
              refine tk 0 37 (.pointer (some ⟨w.heap.size, 2, none⟩)) b2 ?_
              refine tk 1 38 (.int .i64 e) b2 ?_ (hy := fun w' hS => (exec_ld (by kernel_rfl) (run_ld1 hS hT3 2 (.int .i64 e) (by kernel_rfl))))
              refine tk 2 39 (.pointer (some ⟨w.heap.size, 1, none⟩)) b2 ?_
              refine tk 3 40 (.slice p (dig B16 m).length c) b2 ?_ (hy := fun w' hS => (exec_ld (by kernel_rfl) (run_ld1 hS hT33 1 (.slice p (dig B16 m).length c) (by kernel_rfl))))
              refine sxr [4] ?_
              refine rd1 (fun Kx hKx => ?_)
              replace hp := (hp.past (bthru ((bthru (bthru (bthru (bthru (bthru hbV1 hbV2) hbV3) hbV4) hbV5) hbV6).trans (hOV7.below (by omega))) hbV8))
              refine sek 41 43 #[.slice p (dig B16 m).length c] ?_
              ((with_reducible refine ((HRL _ hp.rd).out).mono ?_))
              rintro eV9 V9 ⟨rfl, hbV9⟩
              have hzV9 := hbV9.size
              refine ⟨.int .i64 ((L : Nat) : Int), rfl, ?_⟩
              replace b2 := (b2.past hbV9)
              refine hKx.out _ _ b2 ?_
              clear hKx Kx
              refine tk 5 42 (.int .i64 (e + (L : Int))) b2 ?_ (hy := fun w' _ => ((show _ = Result.ok (Next.value (.int .i64 (IntKind.wrap .i64 (e + ((L : Nat) : Int))))) _ by kernel_rfl).trans (congrArg (fun z => Result.ok (Next.value (.int .i64 z)) _) (IntWalk.i64_in _ (by omega)))))
              refine tk 6 8 (.int .i64 (e + (L : Int))) b2 ?_
              refine sx_done (by kernel_rfl) ?_
              refine sx_then ?_
              refine wp_seq ?_
              replace b3 := (b3.past (bthru hbV8 hbV9))
              obtain ⟨V10, hVV10⟩ : ∃ V, V = (V9).drew := ⟨_, rfl⟩
              have hbV10 : Below (V9).heap.size (V9) V10 := by rw [hVV10]; exact (Below.refl _ _).drew
              have hzV10 : V10.heap.size = (V9).heap.size := by rw [hVV10]; rfl
              replace b3 := (b3.past hbV10)
              refine sxd _ (fun w' => Bt w' V1.heap.size 27 #[.int .i64 g.rad, .int .i64 g.digs, .int .i64 g.lo, .int .i64 g.hi, .bool g.grad]) hVV10 b3 ?_
              clear hVV10
              refine tk 0 43 (.pointer (some ⟨V1.heap.size, 2, none⟩)) b3 ?_
              refine tk 1 44 (.int .i64 g.lo) b3 ?_ (hy := fun w' hS => (exec_ld (by kernel_rfl) (run_ld1 hS hT3 2 (.int .i64 g.lo) (by kernel_rfl))))
              refine tk 2 45 (.int .i64 (e + (L : Int))) b3 ?_
              refine tk 3 46 (.int .i64 (e + (L : Int) - 1)) b3 ?_ (hy := fun w' _ => ((show _ = Result.ok (Next.value (.int .i64 (IntKind.wrap .i64 ((e + (L : Int)) - 1)))) _ by kernel_rfl).trans (congrArg (fun z => Result.ok (Next.value (.int .i64 z)) _) (IntWalk.i64_in _ (by omega)))))
              refine tk 4 47 (.int .i64 (e + (L : Int) - 1 + 80000)) b3 ?_ (hy := fun w' _ => ((show _ = Result.ok (Next.value (.int .i64 (IntKind.wrap .i64 ((e + (L : Int) - 1) + 80000)))) _ by kernel_rfl).trans (congrArg (fun z => Result.ok (Next.value (.int .i64 z)) _) (IntWalk.i64_in _ (by omega)))))
              refine tk 5 48 (.int .i64 ((wd : Nat) : Int)) b3 ?_
              refine tk 6 49 (.int .i64 ((e + (L : Int) - 1 + 80000) / (wd : Int))) b3 ?_ (hy := fun w' _ => (exec_quo ((e + (L : Int) - 1 + 80000) / (wd : Int)) (by kernel_rfl) (by kernel_rfl) (by omega) (Y2.out)))
              refine tk 7 50 (.int .i64 ((wd : Nat) : Int)) b3 ?_
              refine tk 8 51 (.int .i64 (80000 / (wd : Int))) b3 ?_ (hy := fun w' _ => (exec_quo (80000 / (wd : Int)) (by kernel_rfl) (by kernel_rfl) (by omega) (Y3.out)))
              refine tk 9 52 (.int .i64 ((e + (L : Int) - 1) / (wd : Int))) b3 ?_ (hy := fun w' _ => ((show _ = Result.ok (Next.value (.int .i64 (IntKind.wrap .i64 (((e + (L : Int) - 1 + 80000) / (wd : Int)) - (80000 / (wd : Int)))))) _ by kernel_rfl).trans (congrArg (fun z => Result.ok (Next.value (.int .i64 z)) _) (Y4.out))))
              refine tk 10 53 (.pointer (some ⟨V1.heap.size, 1, none⟩)) b3 ?_
              refine tk 11 54 (.int .i64 g.digs) b3 ?_ (hy := fun w' hS => (exec_ld (by kernel_rfl) (run_ld1 hS hT3 1 (.int .i64 g.digs) (by kernel_rfl))))
              refine tk 12 55 (.int .i64 ((e + (L : Int) - 1) / (wd : Int) - g.digs)) b3 ?_ (hy := fun w' _ => ((show _ = Result.ok (Next.value (.int .i64 (IntKind.wrap .i64 (((e + (L : Int) - 1) / (wd : Int)) - g.digs)))) _ by kernel_rfl).trans (congrArg (fun z => Result.ok (Next.value (.int .i64 z)) _) (IntWalk.i64_in _ (by omega)))))
              refine tk 13 56 (.int .i64 K0) b3 ?_ (hy := fun w' _ => ((show _ = Result.ok (Next.value (.int .i64 (IntKind.wrap .i64 (((e + (L : Int) - 1) / (wd : Int) - g.digs) + 1)))) _ by kernel_rfl).trans (congrArg (fun z => Result.ok (Next.value (.int .i64 z)) _) (Y6.out))))
              refine tk 14 57 (.int .i64 K) b3 ?_ (hy := fun w' _ => ((show _ = Result.ok (Next.value (.int .i64 (if ((K0) : Int) > (g.lo) then K0 else g.lo))) _ by kernel_rfl).trans (congrArg (fun z => Result.ok (Next.value (.int .i64 z)) _) (Y7.out))))
              refine tk 15 9 (.int .i64 K) b3 ?_
              refine sx_done (by kernel_rfl) ?_
              refine sx_then ?_
              refine wp_seq ?_
              refine wp_seq ?_
              refine sx_region ?_
              refine sv 58 (.pointer (some ⟨w.heap.size, 0, none⟩)) ?_
              replace b2 := (b2.past hbV10)
              refine sv 59 (.bool true) ?_ (hr := (exec_ld (by kernel_rfl) (run_ld1 b2 hT4 0 (.bool true) (by kernel_rfl))))
              refine sv 60 (.bool false) ?_
              refine sx_nil ?_
              refine sx_then ?_
              refine wp_cond_false (by kernel_rfl) ?_
              refine wp_skip ?_
              refine sx_then ?_
              refine wp_seq ?_
              refine sx_region ?_
              refine sv 72 (.agg #[.bool true, .slice p (dig B16 m).length c, .int .i64 e]) ?_ (hr := (exec_ld (by kernel_rfl) (run_ld b2 hT35 0 [.bool true, .slice p (dig B16 m).length c, .int .i64 e] (by kernel_rfl) (by kernel_rfl))))
              refine snv 73 (.slice (some ⟨V10.heap.size, 0, none⟩) 1 1) #[.int .i64 1] 3 (fun V11 hbV11 hzV11 b73 => ?_)
              have x73 := rf_one b73
              refine sv 74 (.int .i64 ((wd : Nat) : Int)) ?_
              refine sv 75 (.int .i64 K) ?_
              refine sv 76 (.int .i64 (K - 1)) ?_ (hr := ((show _ = Result.ok (Next.value (.int .i64 (IntKind.wrap .i64 (K - 1)))) _ by kernel_rfl).trans (congrArg (fun z => Result.ok (Next.value (.int .i64 z)) _) (IntWalk.i64_in _ (by omega)))))
              refine sv 77 (.int .i64 (((wd : Nat) : Int) * (K - 1))) ?_ (hr := ((show _ = Result.ok (Next.value (.int .i64 (IntKind.wrap .i64 (((wd : Nat) : Int) * (K - 1))))) _ by kernel_rfl).trans (congrArg (fun z => Result.ok (Next.value (.int .i64 z)) _) (IntWalk.i64_in _ (by omega)))))
              refine sv 78 (.agg #[.bool false, .slice (some ⟨V10.heap.size, 0, none⟩) 1 1, .int .i64 (((wd : Nat) : Int) * (K - 1))]) ?_
              replace hp := (hp.past (bthru (bthru hbV9 hbV10) hbV11))
              refine se 79 34 #[.agg #[.bool true, .slice p (dig B16 m).length c, .int .i64 e], .agg #[.bool false, .slice (some ⟨V10.heap.size, 0, none⟩) 1 1, .int .i64 (((wd : Nat) : Int) * (K - 1))]] (fun Gx hGx => ?_)
              ((with_reducible refine ((HPL1 _ _ 1 hp.rd x73.rd).out).mono ?_))
              rintro eV12 V12 ⟨p79, c79, rfl, hr_x79, hc_x79, hf_x79, hbV12⟩
              have hzV12 := hbV12.size
              have x79 := rf_of hr_x79 hc_x79 hf_x79
              clear hr_x79 hc_x79 hf_x79
              have lx79 := fun h => x79.lt h
              refine ⟨.agg #[.bool r1.neg, .slice p79 (dig B16 r1.m).length c79, .int .i64 r1.e], rfl, hGx _ _ ?_⟩
              clear hGx Gx
              refine sn 11 #[.bool false, .slice none 0 0, .int .i64 0] 35 (fun V13 hbV13 hzV13 b11 => ?_)
              refine ss none b11 hT35 0 #[.bool r1.neg, .slice p79 (dig B16 r1.m).length c79, .int .i64 r1.e] #[.bool r1.neg, .slice p79 (dig B16 r1.m).length c79, .int .i64 r1.e] ?_
              have boV14 := b11
              clear b11
              intro V14 hOV14 b11
              have hzV14 := hOV14.size
              refine sx_nil ?_
              refine sx_then ?_
              refine wp_seq ?_
              refine wp_seq ?_
              refine sx_region ?_
              refine sv 80 (.agg #[.bool r1.neg, .slice p79 (dig B16 r1.m).length c79, .int .i64 r1.e]) ?_ (hr := (exec_ld (by kernel_rfl) (run_ld b11 hT35 0 [.bool r1.neg, .slice p79 (dig B16 r1.m).length c79, .int .i64 r1.e] (by kernel_rfl) (by kernel_rfl))))
              replace b3 := (b3.past ((bthru (bthru hbV11 hbV12) hbV13).trans (hOV14.below (by omega))))
              refine sv 81 (.agg #[.int .i64 g.rad, .int .i64 g.digs, .int .i64 g.lo, .int .i64 g.hi, .bool g.grad]) ?_ (hr := (exec_ld (by kernel_rfl) (run_ld b3 hT27 0 [.int .i64 g.rad, .int .i64 g.digs, .int .i64 g.lo, .int .i64 g.hi, .bool g.grad] (by kernel_rfl) (by kernel_rfl))))
              replace x79 := (x79.past (hbV13.trans (hOV14.below (by omega))))
              refine se 82 21 #[.agg #[.bool r1.neg, .slice p79 (dig B16 r1.m).length c79, .int .i64 r1.e], .agg #[.int .i64 g.rad, .int .i64 g.digs, .int .i64 g.lo, .int .i64 g.hi, .bool g.grad]] (fun Gx hGx => ?_)
              ((with_reducible refine ((HI1 _ p79 c79 x79.rd).out).mono ?_))
              rintro eV15 V15 ⟨rfl, hbV15⟩
              have hzV15 := hbV15.size
              refine ⟨.bool true, rfl, hGx _ _ ?_⟩
              clear hGx Gx
              refine sv 83 (.bool true) ?_
              replace b2 := (b2.past (bthru ((bthru (bthru hbV11 hbV12) hbV13).trans (hOV14.below (by omega))) hbV15))
              refine sv 84 (.agg #[.bool true, .slice p (dig B16 m).length c, .int .i64 e]) ?_ (hr := (exec_ld (by kernel_rfl) (run_ld b2 hT35 0 [.bool true, .slice p (dig B16 m).length c, .int .i64 e] (by kernel_rfl) (by kernel_rfl))))
              replace b11 := (b11.past hbV15)
              refine sv 85 (.agg #[.bool r1.neg, .slice p79 (dig B16 r1.m).length c79, .int .i64 r1.e]) ?_ (hr := (exec_ld (by kernel_rfl) (run_ld b11 hT35 0 [.bool r1.neg, .slice p79 (dig B16 r1.m).length c79, .int .i64 r1.e] (by kernel_rfl) (by kernel_rfl))))
              replace hp := (hp.past (bthru ((bthru hbV12 hbV13).trans (hOV14.below (by omega))) hbV15))
              replace x79 := (x79.past hbV15)
              refine se 86 13 #[.agg #[.bool true, .slice p (dig B16 m).length c, .int .i64 e], .agg #[.bool r1.neg, .slice p79 (dig B16 r1.m).length c79, .int .i64 r1.e]] (fun Gx hGx => ?_)
              ((with_reducible refine ((HCM _ p79 c79 hp.rd x79.rd x79.cap).out).mono ?_))
              rintro eV16 V16 ⟨rfl, hbV16⟩
              have hzV16 := hbV16.size
              refine ⟨.int .i64 cm, rfl, hGx _ _ ?_⟩
              clear hGx Gx
              refine sv 87 (.bool false) ?_ (hr := ((show _ = Result.ok (Next.value (.bool (decide (cm < 0)))) _ from (by kernel_rfl)).trans (congrArg (fun z => Result.ok (Next.value (.bool z)) _) (show (decide (cm < 0)) = false from decide_eq_false c2))))
              refine sv 88 (.bool false) ?_
              refine sx_nil ?_
              refine sx_then ?_
              refine wp_cond_false (by kernel_rfl) ?_
              refine wp_skip ?_
              refine sx_then ?_
              refine wp_seq ?_
              refine sx_region ?_
              replace b2 := (b2.past hbV16)
              refine sv 90 (.agg #[.bool true, .slice p (dig B16 m).length c, .int .i64 e]) ?_ (hr := (exec_ld (by kernel_rfl) (run_ld b2 hT35 0 [.bool true, .slice p (dig B16 m).length c, .int .i64 e] (by kernel_rfl) (by kernel_rfl))))
              refine snv 91 (.slice (some ⟨V16.heap.size, 0, none⟩) 1 1) #[.int .i64 1] 3 (fun V17 hbV17 hzV17 b91 => ?_)
              have x91 := rf_one b91
              refine sv 92 (.int .i64 ((wd : Nat) : Int)) ?_
              refine sv 93 (.int .i64 K) ?_
              refine sv 94 (.int .i64 (((wd : Nat) : Int) * K)) ?_ (hr := ((show _ = Result.ok (Next.value (.int .i64 (IntKind.wrap .i64 (((wd : Nat) : Int) * K)))) _ by kernel_rfl).trans (congrArg (fun z => Result.ok (Next.value (.int .i64 z)) _) (IntWalk.i64_in _ (by omega)))))
              refine sv 95 (.agg #[.bool false, .slice (some ⟨V16.heap.size, 0, none⟩) 1 1, .int .i64 (((wd : Nat) : Int) * K)]) ?_
              replace hp := (hp.past (bthru hbV16 hbV17))
              refine se 96 34 #[.agg #[.bool true, .slice p (dig B16 m).length c, .int .i64 e], .agg #[.bool false, .slice (some ⟨V16.heap.size, 0, none⟩) 1 1, .int .i64 (((wd : Nat) : Int) * K)]] (fun Gx hGx => ?_)
              ((with_reducible refine ((HPL _ _ 1 hp.rd x91.rd).out).mono ?_))
              rintro eV18 V18 ⟨p96, c96, rfl, hr_x96, hc_x96, hf_x96, hbV18⟩
              have hzV18 := hbV18.size
              have x96 := rf_of hr_x96 hc_x96 hf_x96
              clear hr_x96 hc_x96 hf_x96
              have lx96 := fun h => x96.lt h
              refine ⟨.agg #[.bool r2.neg, .slice p96 (dig B16 r2.m).length c96, .int .i64 r2.e], rfl, hGx _ _ ?_⟩
              clear hGx Gx
              replace b11 := (b11.past (bthru (bthru hbV16 hbV17) hbV18))
              refine ss none b11 hT35 0 #[.bool r2.neg, .slice p96 (dig B16 r2.m).length c96, .int .i64 r2.e] #[.bool r2.neg, .slice p96 (dig B16 r2.m).length c96, .int .i64 r2.e] ?_
              have boV19 := b11
              clear b11
              intro V19 hOV19 b11
              have hzV19 := hOV19.size
              refine sx_nil ?_
              refine sx_then ?_
              refine wp_seq ?_
              refine wp_seq ?_
              refine sx_region ?_
              refine sv 97 (.agg #[.bool r2.neg, .slice p96 (dig B16 r2.m).length c96, .int .i64 r2.e]) ?_ (hr := (exec_ld (by kernel_rfl) (run_ld b11 hT35 0 [.bool r2.neg, .slice p96 (dig B16 r2.m).length c96, .int .i64 r2.e] (by kernel_rfl) (by kernel_rfl))))
              replace b3 := ((b3.past (bthru (bthru (bthru hbV15 hbV16) hbV17) hbV18)).only hOV19 (by omega))
              refine sv 98 (.agg #[.int .i64 g.rad, .int .i64 g.digs, .int .i64 g.lo, .int .i64 g.hi, .bool g.grad]) ?_ (hr := (exec_ld (by kernel_rfl) (run_ld b3 hT27 0 [.int .i64 g.rad, .int .i64 g.digs, .int .i64 g.lo, .int .i64 g.hi, .bool g.grad] (by kernel_rfl) (by kernel_rfl))))
              replace x96 := (x96.only hOV19 (fun h => by have := lx96 h; omega))
              refine se 99 21 #[.agg #[.bool r2.neg, .slice p96 (dig B16 r2.m).length c96, .int .i64 r2.e], .agg #[.int .i64 g.rad, .int .i64 g.digs, .int .i64 g.lo, .int .i64 g.hi, .bool g.grad]] (fun Gx hGx => ?_)
              ((with_reducible refine ((HI2 _ p96 c96 x96.rd).out).mono ?_))
              rintro eV20 V20 ⟨rfl, hbV20⟩
              have hzV20 := hbV20.size
              refine ⟨.bool false, rfl, hGx _ _ ?_⟩
              clear hGx Gx
              refine sx_nil ?_
              refine sx_then ?_
              refine wp_cond_false (by kernel_rfl) ?_
              refine wp_skip ?_
              refine sx_then ?_
              refine wp_seq ?_
              refine sx_region ?_
              refine sv 101 (.agg #[.bool false, .slice none 0 0, .int .i64 0]) ?_
              replace b4 := (b4.past (bthru ((bthru (bthru (bthru (bthru ((bthru (bthru (bthru (bthru (bthru (bthru ((bthru (bthru hbV4 hbV5) hbV6).trans (hOV7.below (by omega))) hbV8) hbV9) hbV10) hbV11) hbV12) hbV13).trans (hOV14.below (by omega))) hbV15) hbV16) hbV17) hbV18).trans (hOV19.below (by omega))) hbV20))
              refine ss none b4 hT35 0 #[.bool false, .slice none 0 0, .int .i64 0] #[.bool false, .slice none 0 0, .int .i64 0] ?_
              have boV21 := b4
              clear b4
              intro V21 hOV21 b4
              have hzV21 := hOV21.size
              refine sv 5 (.bool true) ?_
              refine sx_nil ?_
              refine sx_then ?_
              refine wp_ret ?_
              have ⟨b4_0, b4_1, b4_2⟩ := b4.bx.e3
              repeat (first | with_reducible refine sx_thenret ?_ | with_reducible refine sx_blockret ?_)
              refine bodyPost_ret (v := .tuple #[.agg #[.bool false, .slice none 0 0, .int .i64 0], .bool true]) (by simp [results, Tryd.results23, go_sem, b4_0, b4_1, b4_2]) rfl ?_
              exact ⟨none, 0, by simp only [dig_zero]; rfl, by simp only [dig_zero]; exact rf_nil _ _ _, ((bthru ((bthru (bthru (bthru (bthru ((bthru (bthru (bthru (bthru (bthru (bthru ((bthru (bthru (bthru (bthru (bthru hbV1 hbV2) hbV3) hbV4) hbV5) hbV6).trans (hOV7.below (by omega))) hbV8) hbV9) hbV10) hbV11) hbV12) hbV13).trans (hOV14.below (by omega))) hbV15) hbV16) hbV17) hbV18).trans (hOV19.below (by omega))) hbV20).trans (hOV21.below (by omega)))⟩
        · replace c1 : i1 = false := by simpa using c1
          subst c1
          rw [if_neg (fun h => by cases h.1)]
          by_cases c3 : i2 = true
          · subst c3
            rw [if_pos rfl]
            have hT3 : SxOne Tryd.prog 3 := sxOne_of (by kernel_rfl) (by kernel_rfl)
            have hT4 : SxOne Tryd.prog 4 := sxOne_of (by kernel_rfl) (by kernel_rfl)
            have hT27 : SxAgg Tryd.prog 27 5 := sxAgg_of (by kernel_rfl) (by kernel_rfl)
            have hT33 : SxOne Tryd.prog 33 := sxOne_of (by kernel_rfl) (by kernel_rfl)
            have hT35 : SxAgg Tryd.prog 35 3 := sxAgg_of (by kernel_rfl) (by kernel_rfl)
            refine calls_of_wp Tryd.func23 rfl ?_
            refine sx_frame (a' := ⟨((.agg #[.bool true, .slice p (dig B16 m).length c, .int .i64 e]) :: (.agg #[.int .i64 g.rad, .int .i64 g.digs, .int .i64 g.lo, .int .i64 g.hi, .bool g.grad]) :: undef :: undef :: undef :: undef :: undef :: undef :: undef :: undef :: undef :: undef :: undef :: undef :: undef :: undef :: undef :: undef :: undef :: undef :: undef :: undef :: undef :: undef :: undef :: undef :: undef :: undef :: undef :: undef :: undef :: undef :: undef :: undef :: undef :: undef :: undef :: undef :: undef :: undef :: undef :: undef :: undef :: undef :: undef :: undef :: undef :: undef :: undef :: undef :: undef :: undef :: undef :: undef :: undef :: undef :: undef :: undef :: undef :: undef :: undef :: undef :: undef :: undef :: undef :: undef :: undef :: undef :: undef :: undef :: undef :: undef :: undef :: undef :: undef :: undef :: undef :: undef :: undef :: undef :: undef :: undef :: undef :: undef :: undef :: undef :: undef :: undef :: undef :: undef :: undef :: undef :: undef :: undef :: undef :: undef :: undef :: undef :: undef :: undef :: undef :: undef :: []).toArray, []⟩) (by kernel_rfl) ?_
            refine wp_seq ?_
            refine sx_region ?_
            refine sn 2 #[.bool true, .slice p (dig B16 m).length c, .int .i64 e] 35 (fun V1 hbV1 hzV1 b2 => ?_)
            refine sn 3 #[.int .i64 g.rad, .int .i64 g.digs, .int .i64 g.lo, .int .i64 g.hi, .bool g.grad] 27 (fun V2 hbV2 hzV2 b3 => ?_)
            refine sn 4 #[.bool false, .slice none 0 0, .int .i64 0] 35 (fun V3 hbV3 hzV3 b4 => ?_)
            refine sv 5 (.bool false) ?_
            refine sx_nil ?_
            refine sx_then ?_
            refine wp_seq ?_
            refine sx_region ?_
            replace b3 := (b3.past hbV3)
            refine sv 12 (.agg #[.int .i64 g.rad, .int .i64 g.digs, .int .i64 g.lo, .int .i64 g.hi, .bool g.grad]) ?_ (hr := (exec_ld (by kernel_rfl) (run_ld b3 hT27 0 [.int .i64 g.rad, .int .i64 g.digs, .int .i64 g.lo, .int .i64 g.hi, .bool g.grad] (by kernel_rfl) (by kernel_rfl))))
            refine se 13 42 #[.agg #[.int .i64 g.rad, .int .i64 g.digs, .int .i64 g.lo, .int .i64 g.hi, .bool g.grad]] (fun Gx hGx => ?_)
            ((with_reducible refine ((HWD _).out).mono ?_))
            rintro eV4 V4 ⟨rfl, hbV4⟩
            have hzV4 := hbV4.size
            refine ⟨.int .i64 ((wd : Nat) : Int), rfl, hGx _ _ ?_⟩
            clear hGx Gx
            refine sv 6 (.int .i64 ((wd : Nat) : Int)) ?_
            refine sx_nil ?_
            refine sx_then ?_
            refine wp_seq ?_
            refine sx_region ?_
            refine snv 14 (.slice (some ⟨V4.heap.size, 0, none⟩) 1 1) #[.int .i64 1] 3 (fun V5 hbV5 hzV5 b14 => ?_)
            have x14 := rf_one b14
            refine sv 15 (.int .i64 ((wd : Nat) : Int)) ?_
            refine sv 16 (.pointer (some ⟨V1.heap.size, 2, none⟩)) ?_
            replace b3 := (b3.past (bthru hbV4 hbV5))
            refine sv 17 (.int .i64 g.lo) ?_ (hr := (exec_ld (by kernel_rfl) (run_ld1 b3 hT3 2 (.int .i64 g.lo) (by kernel_rfl))))
            refine sv 18 (.int .i64 (((wd : Nat) : Int) * g.lo)) ?_ (hr := ((show _ = Result.ok (Next.value (.int .i64 (IntKind.wrap .i64 (((wd : Nat) : Int) * g.lo)))) _ by kernel_rfl).trans (congrArg (fun z => Result.ok (Next.value (.int .i64 z)) _) (IntWalk.i64_in _ (by omega)))))
            refine sv 19 (.agg #[.bool false, .slice (some ⟨V4.heap.size, 0, none⟩) 1 1, .int .i64 (((wd : Nat) : Int) * g.lo)]) ?_
            refine sn 7 #[.bool false, .slice none 0 0, .int .i64 0] 35 (fun V6 hbV6 hzV6 b7 => ?_)
            refine ss none b7 hT35 0 #[.bool false, .slice (some ⟨V4.heap.size, 0, none⟩) 1 1, .int .i64 (((wd : Nat) : Int) * g.lo)] #[.bool false, .slice (some ⟨V4.heap.size, 0, none⟩) 1 1, .int .i64 (((wd : Nat) : Int) * g.lo)] ?_
            have boV7 := b7
            clear b7
            intro V7 hOV7 b7
            have hzV7 := hOV7.size
            refine sx_nil ?_
            refine sx_then ?_
            refine wp_seq ?_
            refine wp_seq ?_
            refine sx_region ?_
            refine sv 20 (.pointer (some ⟨V1.heap.size, 4, none⟩)) ?_
            replace b3 := (b3.past (hbV6.trans (hOV7.below (by omega))))
            refine sv 21 (.bool g.grad) ?_ (hr := (exec_ld (by kernel_rfl) (run_ld1 b3 hT4 4 (.bool g.grad) (by kernel_rfl))))
            refine sv 22 (.bool false) ?_ (hr := ((show _ = Result.ok (Next.value (.bool (!g.grad))) _ from (by kernel_rfl)).trans (congrArg (fun z => Result.ok (Next.value (.bool z)) _) (show (!g.grad) = false from by rw [hgr]; rfl))))
            refine sx_nil ?_
            refine sx_then ?_
            refine wp_cond_false (by kernel_rfl) ?_
            refine wp_skip ?_
            refine sx_then ?_
            refine wp_seq ?_
            refine wp_seq ?_
            refine sx_region ?_
            refine sv 32 (.pointer (some ⟨w.heap.size, 1, none⟩)) ?_
            replace b2 := (b2.past ((bthru (bthru (bthru (bthru hbV2 hbV3) hbV4) hbV5) hbV6).trans (hOV7.below (by omega))))
            refine sv 33 (.slice p (dig B16 m).length c) ?_ (hr := (exec_ld (by kernel_rfl) (run_ld1 b2 hT33 1 (.slice p (dig B16 m).length c) (by kernel_rfl))))
            refine sv 34 (.int .i64 (((dig B16 m).length : Nat) : Int)) ?_
            refine sv 35 (.bool false) ?_ (hr := ((show _ = Result.ok (Next.value (.bool ((((dig B16 m).length : Nat) : Int) == 0))) _ from (by kernel_rfl)).trans (congrArg (fun z => Result.ok (Next.value (.bool z)) _) (show ((((dig B16 m).length : Nat) : Int) == 0) = false from t35))))
            refine sx_nil ?_
            refine sx_then ?_
            refine wp_cond_false (by kernel_rfl) ?_
            refine wp_skip ?_
            refine sx_then ?_
            refine wp_seq ?_
            obtain ⟨V8, hVV8⟩ : ∃ V, V = (V7).drew := ⟨_, rfl⟩
            have hbV8 : Below (V7).heap.size (V7) V8 := by rw [hVV8]; exact (Below.refl _ _).drew
            have hzV8 : V8.heap.size = (V7).heap.size := by rw [hVV8]; rfl
            replace b2 := (b2.past hbV8)
            refine sxd _ (fun w' => Bt w' w.heap.size 35 #[.bool true, .slice p (dig B16 m).length c, .int .i64 e]) hVV8 b2 ?_
            clear hVV8
            refine tk 0 37 (.pointer (some ⟨w.heap.size, 2, none⟩)) b2 ?_
            refine tk 1 38 (.int .i64 e) b2 ?_ (hy := fun w' hS => (exec_ld (by kernel_rfl) (run_ld1 hS hT3 2 (.int .i64 e) (by kernel_rfl))))
            refine tk 2 39 (.pointer (some ⟨w.heap.size, 1, none⟩)) b2 ?_
            refine tk 3 40 (.slice p (dig B16 m).length c) b2 ?_ (hy := fun w' hS => (exec_ld (by kernel_rfl) (run_ld1 hS hT33 1 (.slice p (dig B16 m).length c) (by kernel_rfl))))
            refine sxr [4] ?_
            refine rd1 (fun Kx hKx => ?_)
            replace hp := (hp.past (bthru ((bthru (bthru (bthru (bthru (bthru hbV1 hbV2) hbV3) hbV4) hbV5) hbV6).trans (hOV7.below (by omega))) hbV8))
            refine sek 41 43 #[.slice p (dig B16 m).length c] ?_
            ((with_reducible refine ((HRL _ hp.rd).out).mono ?_))
            rintro eV9 V9 ⟨rfl, hbV9⟩
            have hzV9 := hbV9.size
            refine ⟨.int .i64 ((L : Nat) : Int), rfl, ?_⟩
            replace b2 := (b2.past hbV9)
            refine hKx.out _ _ b2 ?_
            clear hKx Kx
            refine tk 5 42 (.int .i64 (e + (L : Int))) b2 ?_ (hy := fun w' _ => ((show _ = Result.ok (Next.value (.int .i64 (IntKind.wrap .i64 (e + ((L : Nat) : Int))))) _ by kernel_rfl).trans (congrArg (fun z => Result.ok (Next.value (.int .i64 z)) _) (IntWalk.i64_in _ (by omega)))))
            refine tk 6 8 (.int .i64 (e + (L : Int))) b2 ?_
            refine sx_done (by kernel_rfl) ?_
            refine sx_then ?_
            refine wp_seq ?_
            replace b3 := (b3.past (bthru hbV8 hbV9))
            obtain ⟨V10, hVV10⟩ : ∃ V, V = (V9).drew := ⟨_, rfl⟩
            have hbV10 : Below (V9).heap.size (V9) V10 := by rw [hVV10]; exact (Below.refl _ _).drew
            have hzV10 : V10.heap.size = (V9).heap.size := by rw [hVV10]; rfl
            replace b3 := (b3.past hbV10)
            refine sxd _ (fun w' => Bt w' V1.heap.size 27 #[.int .i64 g.rad, .int .i64 g.digs, .int .i64 g.lo, .int .i64 g.hi, .bool g.grad]) hVV10 b3 ?_
            clear hVV10
            refine tk 0 43 (.pointer (some ⟨V1.heap.size, 2, none⟩)) b3 ?_
            refine tk 1 44 (.int .i64 g.lo) b3 ?_ (hy := fun w' hS => (exec_ld (by kernel_rfl) (run_ld1 hS hT3 2 (.int .i64 g.lo) (by kernel_rfl))))
            refine tk 2 45 (.int .i64 (e + (L : Int))) b3 ?_
            refine tk 3 46 (.int .i64 (e + (L : Int) - 1)) b3 ?_ (hy := fun w' _ => ((show _ = Result.ok (Next.value (.int .i64 (IntKind.wrap .i64 ((e + (L : Int)) - 1)))) _ by kernel_rfl).trans (congrArg (fun z => Result.ok (Next.value (.int .i64 z)) _) (IntWalk.i64_in _ (by omega)))))
            refine tk 4 47 (.int .i64 (e + (L : Int) - 1 + 80000)) b3 ?_ (hy := fun w' _ => ((show _ = Result.ok (Next.value (.int .i64 (IntKind.wrap .i64 ((e + (L : Int) - 1) + 80000)))) _ by kernel_rfl).trans (congrArg (fun z => Result.ok (Next.value (.int .i64 z)) _) (IntWalk.i64_in _ (by omega)))))
            refine tk 5 48 (.int .i64 ((wd : Nat) : Int)) b3 ?_
            refine tk 6 49 (.int .i64 ((e + (L : Int) - 1 + 80000) / (wd : Int))) b3 ?_ (hy := fun w' _ => (exec_quo ((e + (L : Int) - 1 + 80000) / (wd : Int)) (by kernel_rfl) (by kernel_rfl) (by omega) (Y2.out)))
            refine tk 7 50 (.int .i64 ((wd : Nat) : Int)) b3 ?_
            refine tk 8 51 (.int .i64 (80000 / (wd : Int))) b3 ?_ (hy := fun w' _ => (exec_quo (80000 / (wd : Int)) (by kernel_rfl) (by kernel_rfl) (by omega) (Y3.out)))
            refine tk 9 52 (.int .i64 ((e + (L : Int) - 1) / (wd : Int))) b3 ?_ (hy := fun w' _ => ((show _ = Result.ok (Next.value (.int .i64 (IntKind.wrap .i64 (((e + (L : Int) - 1 + 80000) / (wd : Int)) - (80000 / (wd : Int)))))) _ by kernel_rfl).trans (congrArg (fun z => Result.ok (Next.value (.int .i64 z)) _) (Y4.out))))
            refine tk 10 53 (.pointer (some ⟨V1.heap.size, 1, none⟩)) b3 ?_
            refine tk 11 54 (.int .i64 g.digs) b3 ?_ (hy := fun w' hS => (exec_ld (by kernel_rfl) (run_ld1 hS hT3 1 (.int .i64 g.digs) (by kernel_rfl))))
            refine tk 12 55 (.int .i64 ((e + (L : Int) - 1) / (wd : Int) - g.digs)) b3 ?_ (hy := fun w' _ => ((show _ = Result.ok (Next.value (.int .i64 (IntKind.wrap .i64 (((e + (L : Int) - 1) / (wd : Int)) - g.digs)))) _ by kernel_rfl).trans (congrArg (fun z => Result.ok (Next.value (.int .i64 z)) _) (IntWalk.i64_in _ (by omega)))))
            refine tk 13 56 (.int .i64 K0) b3 ?_ (hy := fun w' _ => ((show _ = Result.ok (Next.value (.int .i64 (IntKind.wrap .i64 (((e + (L : Int) - 1) / (wd : Int) - g.digs) + 1)))) _ by kernel_rfl).trans (congrArg (fun z => Result.ok (Next.value (.int .i64 z)) _) (Y6.out))))
            refine tk 14 57 (.int .i64 K) b3 ?_ (hy := fun w' _ => ((show _ = Result.ok (Next.value (.int .i64 (if ((K0) : Int) > (g.lo) then K0 else g.lo))) _ by kernel_rfl).trans (congrArg (fun z => Result.ok (Next.value (.int .i64 z)) _) (Y7.out))))
            refine tk 15 9 (.int .i64 K) b3 ?_
            refine sx_done (by kernel_rfl) ?_
            refine sx_then ?_
            refine wp_seq ?_
            refine wp_seq ?_
            refine sx_region ?_
            refine sv 58 (.pointer (some ⟨w.heap.size, 0, none⟩)) ?_
            replace b2 := (b2.past hbV10)
            refine sv 59 (.bool true) ?_ (hr := (exec_ld (by kernel_rfl) (run_ld1 b2 hT4 0 (.bool true) (by kernel_rfl))))
            refine sv 60 (.bool false) ?_
            refine sx_nil ?_
            refine sx_then ?_
            refine wp_cond_false (by kernel_rfl) ?_
            refine wp_skip ?_
            refine sx_then ?_
            refine wp_seq ?_
            refine sx_region ?_
            refine sv 72 (.agg #[.bool true, .slice p (dig B16 m).length c, .int .i64 e]) ?_ (hr := (exec_ld (by kernel_rfl) (run_ld b2 hT35 0 [.bool true, .slice p (dig B16 m).length c, .int .i64 e] (by kernel_rfl) (by kernel_rfl))))
            refine snv 73 (.slice (some ⟨V10.heap.size, 0, none⟩) 1 1) #[.int .i64 1] 3 (fun V11 hbV11 hzV11 b73 => ?_)
            have x73 := rf_one b73
            refine sv 74 (.int .i64 ((wd : Nat) : Int)) ?_
            refine sv 75 (.int .i64 K) ?_
            refine sv 76 (.int .i64 (K - 1)) ?_ (hr := ((show _ = Result.ok (Next.value (.int .i64 (IntKind.wrap .i64 (K - 1)))) _ by kernel_rfl).trans (congrArg (fun z => Result.ok (Next.value (.int .i64 z)) _) (IntWalk.i64_in _ (by omega)))))
            refine sv 77 (.int .i64 (((wd : Nat) : Int) * (K - 1))) ?_ (hr := ((show _ = Result.ok (Next.value (.int .i64 (IntKind.wrap .i64 (((wd : Nat) : Int) * (K - 1))))) _ by kernel_rfl).trans (congrArg (fun z => Result.ok (Next.value (.int .i64 z)) _) (IntWalk.i64_in _ (by omega)))))
            refine sv 78 (.agg #[.bool false, .slice (some ⟨V10.heap.size, 0, none⟩) 1 1, .int .i64 (((wd : Nat) : Int) * (K - 1))]) ?_
            replace hp := (hp.past (bthru (bthru hbV9 hbV10) hbV11))
            refine se 79 34 #[.agg #[.bool true, .slice p (dig B16 m).length c, .int .i64 e], .agg #[.bool false, .slice (some ⟨V10.heap.size, 0, none⟩) 1 1, .int .i64 (((wd : Nat) : Int) * (K - 1))]] (fun Gx hGx => ?_)
            ((with_reducible refine ((HPL1 _ _ 1 hp.rd x73.rd).out).mono ?_))
            rintro eV12 V12 ⟨p79, c79, rfl, hr_x79, hc_x79, hf_x79, hbV12⟩
            have hzV12 := hbV12.size
            have x79 := rf_of hr_x79 hc_x79 hf_x79
            clear hr_x79 hc_x79 hf_x79
            have lx79 := fun h => x79.lt h
            refine ⟨.agg #[.bool r1.neg, .slice p79 (dig B16 r1.m).length c79, .int .i64 r1.e], rfl, hGx _ _ ?_⟩
            clear hGx Gx
            refine sn 11 #[.bool false, .slice none 0 0, .int .i64 0] 35 (fun V13 hbV13 hzV13 b11 => ?_)
            refine ss none b11 hT35 0 #[.bool r1.neg, .slice p79 (dig B16 r1.m).length c79, .int .i64 r1.e] #[.bool r1.neg, .slice p79 (dig B16 r1.m).length c79, .int .i64 r1.e] ?_
            have boV14 := b11
            clear b11
            intro V14 hOV14 b11
            have hzV14 := hOV14.size
            refine sx_nil ?_
            refine sx_then ?_
            refine wp_seq ?_
            refine wp_seq ?_
            refine sx_region ?_
            refine sv 80 (.agg #[.bool r1.neg, .slice p79 (dig B16 r1.m).length c79, .int .i64 r1.e]) ?_ (hr := (exec_ld (by kernel_rfl) (run_ld b11 hT35 0 [.bool r1.neg, .slice p79 (dig B16 r1.m).length c79, .int .i64 r1.e] (by kernel_rfl) (by kernel_rfl))))
            replace b3 := (b3.past ((bthru (bthru hbV11 hbV12) hbV13).trans (hOV14.below (by omega))))
            refine sv 81 (.agg #[.int .i64 g.rad, .int .i64 g.digs, .int .i64 g.lo, .int .i64 g.hi, .bool g.grad]) ?_ (hr := (exec_ld (by kernel_rfl) (run_ld b3 hT27 0 [.int .i64 g.rad, .int .i64 g.digs, .int .i64 g.lo, .int .i64 g.hi, .bool g.grad] (by kernel_rfl) (by kernel_rfl))))
            replace x79 := (x79.past (hbV13.trans (hOV14.below (by omega))))
            refine se 82 21 #[.agg #[.bool r1.neg, .slice p79 (dig B16 r1.m).length c79, .int .i64 r1.e], .agg #[.int .i64 g.rad, .int .i64 g.digs, .int .i64 g.lo, .int .i64 g.hi, .bool g.grad]] (fun Gx hGx => ?_)
            ((with_reducible refine ((HI1 _ p79 c79 x79.rd).out).mono ?_))
            rintro eV15 V15 ⟨rfl, hbV15⟩
            have hzV15 := hbV15.size
            refine ⟨.bool false, rfl, hGx _ _ ?_⟩
            clear hGx Gx
            refine sv 83 (.bool false) ?_
            refine so (some 84) ?_
            refine so (some 85) ?_
            refine so (some 86) ?_
            refine so (some 87) ?_
            refine sv 88 (.bool false) ?_
            refine sx_nil ?_
            refine sx_then ?_
            refine wp_cond_false (by kernel_rfl) ?_
            refine wp_skip ?_
            refine sx_then ?_
            refine wp_seq ?_
            refine sx_region ?_
            replace b2 := (b2.past (bthru ((bthru (bthru hbV11 hbV12) hbV13).trans (hOV14.below (by omega))) hbV15))
            refine sv 90 (.agg #[.bool true, .slice p (dig B16 m).length c, .int .i64 e]) ?_ (hr := (exec_ld (by kernel_rfl) (run_ld b2 hT35 0 [.bool true, .slice p (dig B16 m).length c, .int .i64 e] (by kernel_rfl) (by kernel_rfl))))
            refine snv 91 (.slice (some ⟨V15.heap.size, 0, none⟩) 1 1) #[.int .i64 1] 3 (fun V16 hbV16 hzV16 b91 => ?_)
            have x91 := rf_one b91
            refine sv 92 (.int .i64 ((wd : Nat) : Int)) ?_
            refine sv 93 (.int .i64 K) ?_
            refine sv 94 (.int .i64 (((wd : Nat) : Int) * K)) ?_ (hr := ((show _ = Result.ok (Next.value (.int .i64 (IntKind.wrap .i64 (((wd : Nat) : Int) * K)))) _ by kernel_rfl).trans (congrArg (fun z => Result.ok (Next.value (.int .i64 z)) _) (IntWalk.i64_in _ (by omega)))))
            refine sv 95 (.agg #[.bool false, .slice (some ⟨V15.heap.size, 0, none⟩) 1 1, .int .i64 (((wd : Nat) : Int) * K)]) ?_
            replace hp := (hp.past (bthru (bthru ((bthru hbV12 hbV13).trans (hOV14.below (by omega))) hbV15) hbV16))
            refine se 96 34 #[.agg #[.bool true, .slice p (dig B16 m).length c, .int .i64 e], .agg #[.bool false, .slice (some ⟨V15.heap.size, 0, none⟩) 1 1, .int .i64 (((wd : Nat) : Int) * K)]] (fun Gx hGx => ?_)
            ((with_reducible refine ((HPL _ _ 1 hp.rd x91.rd).out).mono ?_))
            rintro eV17 V17 ⟨p96, c96, rfl, hr_x96, hc_x96, hf_x96, hbV17⟩
            have hzV17 := hbV17.size
            have x96 := rf_of hr_x96 hc_x96 hf_x96
            clear hr_x96 hc_x96 hf_x96
            have lx96 := fun h => x96.lt h
            refine ⟨.agg #[.bool r2.neg, .slice p96 (dig B16 r2.m).length c96, .int .i64 r2.e], rfl, hGx _ _ ?_⟩
            clear hGx Gx
            replace b11 := (b11.past (bthru (bthru hbV15 hbV16) hbV17))
            refine ss none b11 hT35 0 #[.bool r2.neg, .slice p96 (dig B16 r2.m).length c96, .int .i64 r2.e] #[.bool r2.neg, .slice p96 (dig B16 r2.m).length c96, .int .i64 r2.e] ?_
            have boV18 := b11
            clear b11
            intro V18 hOV18 b11
            have hzV18 := hOV18.size
            refine sx_nil ?_
            refine sx_then ?_
            refine wp_seq ?_
            refine wp_seq ?_
            refine sx_region ?_
            refine sv 97 (.agg #[.bool r2.neg, .slice p96 (dig B16 r2.m).length c96, .int .i64 r2.e]) ?_ (hr := (exec_ld (by kernel_rfl) (run_ld b11 hT35 0 [.bool r2.neg, .slice p96 (dig B16 r2.m).length c96, .int .i64 r2.e] (by kernel_rfl) (by kernel_rfl))))
            replace b3 := ((b3.past (bthru (bthru hbV15 hbV16) hbV17)).only hOV18 (by omega))
            refine sv 98 (.agg #[.int .i64 g.rad, .int .i64 g.digs, .int .i64 g.lo, .int .i64 g.hi, .bool g.grad]) ?_ (hr := (exec_ld (by kernel_rfl) (run_ld b3 hT27 0 [.int .i64 g.rad, .int .i64 g.digs, .int .i64 g.lo, .int .i64 g.hi, .bool g.grad] (by kernel_rfl) (by kernel_rfl))))
            replace x96 := (x96.only hOV18 (fun h => by have := lx96 h; omega))
            refine se 99 21 #[.agg #[.bool r2.neg, .slice p96 (dig B16 r2.m).length c96, .int .i64 r2.e], .agg #[.int .i64 g.rad, .int .i64 g.digs, .int .i64 g.lo, .int .i64 g.hi, .bool g.grad]] (fun Gx hGx => ?_)
            ((with_reducible refine ((HI2 _ p96 c96 x96.rd).out).mono ?_))
            rintro eV19 V19 ⟨rfl, hbV19⟩
            have hzV19 := hbV19.size
            refine ⟨.bool true, rfl, hGx _ _ ?_⟩
            clear hGx Gx
            refine sx_nil ?_
            refine sx_then ?_
            refine wp_cond_true (by kernel_rfl) ?_
            refine wp_seq ?_
            refine sx_region ?_
            replace b11 := (b11.past hbV19)
            refine sv 100 (.agg #[.bool r2.neg, .slice p96 (dig B16 r2.m).length c96, .int .i64 r2.e]) ?_ (hr := (exec_ld (by kernel_rfl) (run_ld b11 hT35 0 [.bool r2.neg, .slice p96 (dig B16 r2.m).length c96, .int .i64 r2.e] (by kernel_rfl) (by kernel_rfl))))
            replace b4 := (b4.past (bthru ((bthru (bthru (bthru ((bthru (bthru (bthru (bthru (bthru (bthru ((bthru (bthru hbV4 hbV5) hbV6).trans (hOV7.below (by omega))) hbV8) hbV9) hbV10) hbV11) hbV12) hbV13).trans (hOV14.below (by omega))) hbV15) hbV16) hbV17).trans (hOV18.below (by omega))) hbV19))
            refine ss none b4 hT35 0 #[.bool r2.neg, .slice p96 (dig B16 r2.m).length c96, .int .i64 r2.e] #[.bool r2.neg, .slice p96 (dig B16 r2.m).length c96, .int .i64 r2.e] ?_
            have boV20 := b4
            clear b4
            intro V20 hOV20 b4
            have hzV20 := hOV20.size
            refine sv 5 (.bool true) ?_
            refine sx_nil ?_
            refine sx_then ?_
            refine wp_ret ?_
            have ⟨b4_0, b4_1, b4_2⟩ := b4.bx.e3
            repeat (first | with_reducible refine sx_thenret ?_ | with_reducible refine sx_blockret ?_)
            refine bodyPost_ret (v := .tuple #[.agg #[.bool r2.neg, .slice p96 (dig B16 r2.m).length c96, .int .i64 r2.e], .bool true]) (by simp [results, Tryd.results23, go_sem, b4_0, b4_1, b4_2]) rfl ?_
            replace x96 := ((x96.past hbV19).only hOV20 (fun h => by have := lx96 h; omega))
            exact ⟨_, _, rfl, x96.mono (by omega), ((bthru ((bthru (bthru (bthru ((bthru (bthru (bthru (bthru (bthru (bthru ((bthru (bthru (bthru (bthru (bthru hbV1 hbV2) hbV3) hbV4) hbV5) hbV6).trans (hOV7.below (by omega))) hbV8) hbV9) hbV10) hbV11) hbV12) hbV13).trans (hOV14.below (by omega))) hbV15) hbV16) hbV17).trans (hOV18.below (by omega))) hbV19).trans (hOV20.below (by omega)))⟩
          · replace c3 : i2 = false := by simpa using c3
            subst c3
            rw [if_neg (by simp)]
            have hT3 : SxOne Tryd.prog 3 := sxOne_of (by kernel_rfl) (by kernel_rfl)
            have hT4 : SxOne Tryd.prog 4 := sxOne_of (by kernel_rfl) (by kernel_rfl)
            have hT27 : SxAgg Tryd.prog 27 5 := sxAgg_of (by kernel_rfl) (by kernel_rfl)
            have hT33 : SxOne Tryd.prog 33 := sxOne_of (by kernel_rfl) (by kernel_rfl)
            have hT35 : SxAgg Tryd.prog 35 3 := sxAgg_of (by kernel_rfl) (by kernel_rfl)
            refine calls_of_wp Tryd.func23 rfl ?_
            refine sx_frame (a' := ⟨((.agg #[.bool true, .slice p (dig B16 m).length c, .int .i64 e]) :: (.agg #[.int .i64 g.rad, .int .i64 g.digs, .int .i64 g.lo, .int .i64 g.hi, .bool g.grad]) :: undef :: undef :: undef :: undef :: undef :: undef :: undef :: undef :: undef :: undef :: undef :: undef :: undef :: undef :: undef :: undef :: undef :: undef :: undef :: undef :: undef :: undef :: undef :: undef :: undef :: undef :: undef :: undef :: undef :: undef :: undef :: undef :: undef :: undef :: undef :: undef :: undef :: undef :: undef :: undef :: undef :: undef :: undef :: undef :: undef :: undef :: undef :: undef :: undef :: undef :: undef :: undef :: undef :: undef :: undef :: undef :: undef :: undef :: undef :: undef :: undef :: undef :: undef :: undef :: undef :: undef :: undef :: undef :: undef :: undef :: undef :: undef :: undef :: undef :: undef :: undef :: undef :: undef :: undef :: undef :: undef :: undef :: undef :: undef :: undef :: undef :: undef :: undef :: undef :: undef :: undef :: undef :: undef :: undef :: undef :: undef :: undef :: undef :: undef :: undef :: []).toArray, []⟩) (by kernel_rfl) ?_
            refine wp_seq ?_
            refine sx_region ?_
            refine sn 2 #[.bool true, .slice p (dig B16 m).length c, .int .i64 e] 35 (fun V1 hbV1 hzV1 b2 => ?_)
            refine sn 3 #[.int .i64 g.rad, .int .i64 g.digs, .int .i64 g.lo, .int .i64 g.hi, .bool g.grad] 27 (fun V2 hbV2 hzV2 b3 => ?_)
            refine sn 4 #[.bool false, .slice none 0 0, .int .i64 0] 35 (fun V3 hbV3 hzV3 b4 => ?_)
            refine sv 5 (.bool false) ?_
            refine sx_nil ?_
            refine sx_then ?_
            refine wp_seq ?_
            refine sx_region ?_
            replace b3 := (b3.past hbV3)
            refine sv 12 (.agg #[.int .i64 g.rad, .int .i64 g.digs, .int .i64 g.lo, .int .i64 g.hi, .bool g.grad]) ?_ (hr := (exec_ld (by kernel_rfl) (run_ld b3 hT27 0 [.int .i64 g.rad, .int .i64 g.digs, .int .i64 g.lo, .int .i64 g.hi, .bool g.grad] (by kernel_rfl) (by kernel_rfl))))
            refine se 13 42 #[.agg #[.int .i64 g.rad, .int .i64 g.digs, .int .i64 g.lo, .int .i64 g.hi, .bool g.grad]] (fun Gx hGx => ?_)
            ((with_reducible refine ((HWD _).out).mono ?_))
            rintro eV4 V4 ⟨rfl, hbV4⟩
            have hzV4 := hbV4.size
            refine ⟨.int .i64 ((wd : Nat) : Int), rfl, hGx _ _ ?_⟩
            clear hGx Gx
            refine sv 6 (.int .i64 ((wd : Nat) : Int)) ?_
            refine sx_nil ?_
            refine sx_then ?_
            refine wp_seq ?_
            refine sx_region ?_
            refine snv 14 (.slice (some ⟨V4.heap.size, 0, none⟩) 1 1) #[.int .i64 1] 3 (fun V5 hbV5 hzV5 b14 => ?_)
            have x14 := rf_one b14
            refine sv 15 (.int .i64 ((wd : Nat) : Int)) ?_
            refine sv 16 (.pointer (some ⟨V1.heap.size, 2, none⟩)) ?_
            replace b3 := (b3.past (bthru hbV4 hbV5))
            refine sv 17 (.int .i64 g.lo) ?_ (hr := (exec_ld (by kernel_rfl) (run_ld1 b3 hT3 2 (.int .i64 g.lo) (by kernel_rfl))))
            refine sv 18 (.int .i64 (((wd : Nat) : Int) * g.lo)) ?_ (hr := ((show _ = Result.ok (Next.value (.int .i64 (IntKind.wrap .i64 (((wd : Nat) : Int) * g.lo)))) _ by kernel_rfl).trans (congrArg (fun z => Result.ok (Next.value (.int .i64 z)) _) (IntWalk.i64_in _ (by omega)))))
            refine sv 19 (.agg #[.bool false, .slice (some ⟨V4.heap.size, 0, none⟩) 1 1, .int .i64 (((wd : Nat) : Int) * g.lo)]) ?_
            refine sn 7 #[.bool false, .slice none 0 0, .int .i64 0] 35 (fun V6 hbV6 hzV6 b7 => ?_)
            refine ss none b7 hT35 0 #[.bool false, .slice (some ⟨V4.heap.size, 0, none⟩) 1 1, .int .i64 (((wd : Nat) : Int) * g.lo)] #[.bool false, .slice (some ⟨V4.heap.size, 0, none⟩) 1 1, .int .i64 (((wd : Nat) : Int) * g.lo)] ?_
            have boV7 := b7
            clear b7
            intro V7 hOV7 b7
            have hzV7 := hOV7.size
            refine sx_nil ?_
            refine sx_then ?_
            refine wp_seq ?_
            refine wp_seq ?_
            refine sx_region ?_
            refine sv 20 (.pointer (some ⟨V1.heap.size, 4, none⟩)) ?_
            replace b3 := (b3.past (hbV6.trans (hOV7.below (by omega))))
            refine sv 21 (.bool g.grad) ?_ (hr := (exec_ld (by kernel_rfl) (run_ld1 b3 hT4 4 (.bool g.grad) (by kernel_rfl))))
            refine sv 22 (.bool false) ?_ (hr := ((show _ = Result.ok (Next.value (.bool (!g.grad))) _ from (by kernel_rfl)).trans (congrArg (fun z => Result.ok (Next.value (.bool z)) _) (show (!g.grad) = false from by rw [hgr]; rfl))))
            refine sx_nil ?_
            refine sx_then ?_
            refine wp_cond_false (by kernel_rfl) ?_
            refine wp_skip ?_
            refine sx_then ?_
            refine wp_seq ?_
            refine wp_seq ?_
            refine sx_region ?_
            refine sv 32 (.pointer (some ⟨w.heap.size, 1, none⟩)) ?_
            replace b2 := (b2.past ((bthru (bthru (bthru (bthru hbV2 hbV3) hbV4) hbV5) hbV6).trans (hOV7.below (by omega))))
            refine sv 33 (.slice p (dig B16 m).length c) ?_ (hr := (exec_ld (by kernel_rfl) (run_ld1 b2 hT33 1 (.slice p (dig B16 m).length c) (by kernel_rfl))))
            refine sv 34 (.int .i64 (((dig B16 m).length : Nat) : Int)) ?_
            refine sv 35 (.bool false) ?_ (hr := ((show _ = Result.ok (Next.value (.bool ((((dig B16 m).length : Nat) : Int) == 0))) _ from (by kernel_rfl)).trans (congrArg (fun z => Result.ok (Next.value (.bool z)) _) (show ((((dig B16 m).length : Nat) : Int) == 0) = false from t35))))
            refine sx_nil ?_
            refine sx_then ?_
            refine wp_cond_false (by kernel_rfl) ?_
            refine wp_skip ?_
            refine sx_then ?_
            refine wp_seq ?_
            obtain ⟨V8, hVV8⟩ : ∃ V, V = (V7).drew := ⟨_, rfl⟩
            have hbV8 : Below (V7).heap.size (V7) V8 := by rw [hVV8]; exact (Below.refl _ _).drew
            have hzV8 : V8.heap.size = (V7).heap.size := by rw [hVV8]; rfl
            replace b2 := (b2.past hbV8)
            refine sxd _ (fun w' => Bt w' w.heap.size 35 #[.bool true, .slice p (dig B16 m).length c, .int .i64 e]) hVV8 b2 ?_
            clear hVV8
            refine tk 0 37 (.pointer (some ⟨w.heap.size, 2, none⟩)) b2 ?_
            refine tk 1 38 (.int .i64 e) b2 ?_ (hy := fun w' hS => (exec_ld (by kernel_rfl) (run_ld1 hS hT3 2 (.int .i64 e) (by kernel_rfl))))
            refine tk 2 39 (.pointer (some ⟨w.heap.size, 1, none⟩)) b2 ?_
            refine tk 3 40 (.slice p (dig B16 m).length c) b2 ?_ (hy := fun w' hS => (exec_ld (by kernel_rfl) (run_ld1 hS hT33 1 (.slice p (dig B16 m).length c) (by kernel_rfl))))
            refine sxr [4] ?_
            refine rd1 (fun Kx hKx => ?_)
            replace hp := (hp.past (bthru ((bthru (bthru (bthru (bthru (bthru hbV1 hbV2) hbV3) hbV4) hbV5) hbV6).trans (hOV7.below (by omega))) hbV8))
            refine sek 41 43 #[.slice p (dig B16 m).length c] ?_
            ((with_reducible refine ((HRL _ hp.rd).out).mono ?_))
            rintro eV9 V9 ⟨rfl, hbV9⟩
            have hzV9 := hbV9.size
            refine ⟨.int .i64 ((L : Nat) : Int), rfl, ?_⟩
            replace b2 := (b2.past hbV9)
            refine hKx.out _ _ b2 ?_
            clear hKx Kx
            refine tk 5 42 (.int .i64 (e + (L : Int))) b2 ?_ (hy := fun w' _ => ((show _ = Result.ok (Next.value (.int .i64 (IntKind.wrap .i64 (e + ((L : Nat) : Int))))) _ by kernel_rfl).trans (congrArg (fun z => Result.ok (Next.value (.int .i64 z)) _) (IntWalk.i64_in _ (by omega)))))
            refine tk 6 8 (.int .i64 (e + (L : Int))) b2 ?_
            refine sx_done (by kernel_rfl) ?_
            refine sx_then ?_
            refine wp_seq ?_
            replace b3 := (b3.past (bthru hbV8 hbV9))
            obtain ⟨V10, hVV10⟩ : ∃ V, V = (V9).drew := ⟨_, rfl⟩
            have hbV10 : Below (V9).heap.size (V9) V10 := by rw [hVV10]; exact (Below.refl _ _).drew
            have hzV10 : V10.heap.size = (V9).heap.size := by rw [hVV10]; rfl
            replace b3 := (b3.past hbV10)
            refine sxd _ (fun w' => Bt w' V1.heap.size 27 #[.int .i64 g.rad, .int .i64 g.digs, .int .i64 g.lo, .int .i64 g.hi, .bool g.grad]) hVV10 b3 ?_
            clear hVV10
            refine tk 0 43 (.pointer (some ⟨V1.heap.size, 2, none⟩)) b3 ?_
            refine tk 1 44 (.int .i64 g.lo) b3 ?_ (hy := fun w' hS => (exec_ld (by kernel_rfl) (run_ld1 hS hT3 2 (.int .i64 g.lo) (by kernel_rfl))))
            refine tk 2 45 (.int .i64 (e + (L : Int))) b3 ?_
            refine tk 3 46 (.int .i64 (e + (L : Int) - 1)) b3 ?_ (hy := fun w' _ => ((show _ = Result.ok (Next.value (.int .i64 (IntKind.wrap .i64 ((e + (L : Int)) - 1)))) _ by kernel_rfl).trans (congrArg (fun z => Result.ok (Next.value (.int .i64 z)) _) (IntWalk.i64_in _ (by omega)))))
            refine tk 4 47 (.int .i64 (e + (L : Int) - 1 + 80000)) b3 ?_ (hy := fun w' _ => ((show _ = Result.ok (Next.value (.int .i64 (IntKind.wrap .i64 ((e + (L : Int) - 1) + 80000)))) _ by kernel_rfl).trans (congrArg (fun z => Result.ok (Next.value (.int .i64 z)) _) (IntWalk.i64_in _ (by omega)))))
            refine tk 5 48 (.int .i64 ((wd : Nat) : Int)) b3 ?_
            refine tk 6 49 (.int .i64 ((e + (L : Int) - 1 + 80000) / (wd : Int))) b3 ?_ (hy := fun w' _ => (exec_quo ((e + (L : Int) - 1 + 80000) / (wd : Int)) (by kernel_rfl) (by kernel_rfl) (by omega) (Y2.out)))
            refine tk 7 50 (.int .i64 ((wd : Nat) : Int)) b3 ?_
            refine tk 8 51 (.int .i64 (80000 / (wd : Int))) b3 ?_ (hy := fun w' _ => (exec_quo (80000 / (wd : Int)) (by kernel_rfl) (by kernel_rfl) (by omega) (Y3.out)))
            refine tk 9 52 (.int .i64 ((e + (L : Int) - 1) / (wd : Int))) b3 ?_ (hy := fun w' _ => ((show _ = Result.ok (Next.value (.int .i64 (IntKind.wrap .i64 (((e + (L : Int) - 1 + 80000) / (wd : Int)) - (80000 / (wd : Int)))))) _ by kernel_rfl).trans (congrArg (fun z => Result.ok (Next.value (.int .i64 z)) _) (Y4.out))))
            refine tk 10 53 (.pointer (some ⟨V1.heap.size, 1, none⟩)) b3 ?_
            refine tk 11 54 (.int .i64 g.digs) b3 ?_ (hy := fun w' hS => (exec_ld (by kernel_rfl) (run_ld1 hS hT3 1 (.int .i64 g.digs) (by kernel_rfl))))
            refine tk 12 55 (.int .i64 ((e + (L : Int) - 1) / (wd : Int) - g.digs)) b3 ?_ (hy := fun w' _ => ((show _ = Result.ok (Next.value (.int .i64 (IntKind.wrap .i64 (((e + (L : Int) - 1) / (wd : Int)) - g.digs)))) _ by kernel_rfl).trans (congrArg (fun z => Result.ok (Next.value (.int .i64 z)) _) (IntWalk.i64_in _ (by omega)))))
            refine tk 13 56 (.int .i64 K0) b3 ?_ (hy := fun w' _ => ((show _ = Result.ok (Next.value (.int .i64 (IntKind.wrap .i64 (((e + (L : Int) - 1) / (wd : Int) - g.digs) + 1)))) _ by kernel_rfl).trans (congrArg (fun z => Result.ok (Next.value (.int .i64 z)) _) (Y6.out))))
            refine tk 14 57 (.int .i64 K) b3 ?_ (hy := fun w' _ => ((show _ = Result.ok (Next.value (.int .i64 (if ((K0) : Int) > (g.lo) then K0 else g.lo))) _ by kernel_rfl).trans (congrArg (fun z => Result.ok (Next.value (.int .i64 z)) _) (Y7.out))))
            refine tk 15 9 (.int .i64 K) b3 ?_
            refine sx_done (by kernel_rfl) ?_
            refine sx_then ?_
            refine wp_seq ?_
            refine wp_seq ?_
            refine sx_region ?_
            refine sv 58 (.pointer (some ⟨w.heap.size, 0, none⟩)) ?_
            replace b2 := (b2.past hbV10)
            refine sv 59 (.bool true) ?_ (hr := (exec_ld (by kernel_rfl) (run_ld1 b2 hT4 0 (.bool true) (by kernel_rfl))))
            refine sv 60 (.bool false) ?_
            refine sx_nil ?_
            refine sx_then ?_
            refine wp_cond_false (by kernel_rfl) ?_
            refine wp_skip ?_
            refine sx_then ?_
            refine wp_seq ?_
            refine sx_region ?_
            refine sv 72 (.agg #[.bool true, .slice p (dig B16 m).length c, .int .i64 e]) ?_ (hr := (exec_ld (by kernel_rfl) (run_ld b2 hT35 0 [.bool true, .slice p (dig B16 m).length c, .int .i64 e] (by kernel_rfl) (by kernel_rfl))))
            refine snv 73 (.slice (some ⟨V10.heap.size, 0, none⟩) 1 1) #[.int .i64 1] 3 (fun V11 hbV11 hzV11 b73 => ?_)
            have x73 := rf_one b73
            refine sv 74 (.int .i64 ((wd : Nat) : Int)) ?_
            refine sv 75 (.int .i64 K) ?_
            refine sv 76 (.int .i64 (K - 1)) ?_ (hr := ((show _ = Result.ok (Next.value (.int .i64 (IntKind.wrap .i64 (K - 1)))) _ by kernel_rfl).trans (congrArg (fun z => Result.ok (Next.value (.int .i64 z)) _) (IntWalk.i64_in _ (by omega)))))
            refine sv 77 (.int .i64 (((wd : Nat) : Int) * (K - 1))) ?_ (hr := ((show _ = Result.ok (Next.value (.int .i64 (IntKind.wrap .i64 (((wd : Nat) : Int) * (K - 1))))) _ by kernel_rfl).trans (congrArg (fun z => Result.ok (Next.value (.int .i64 z)) _) (IntWalk.i64_in _ (by omega)))))
            refine sv 78 (.agg #[.bool false, .slice (some ⟨V10.heap.size, 0, none⟩) 1 1, .int .i64 (((wd : Nat) : Int) * (K - 1))]) ?_
            replace hp := (hp.past (bthru (bthru hbV9 hbV10) hbV11))
            refine se 79 34 #[.agg #[.bool true, .slice p (dig B16 m).length c, .int .i64 e], .agg #[.bool false, .slice (some ⟨V10.heap.size, 0, none⟩) 1 1, .int .i64 (((wd : Nat) : Int) * (K - 1))]] (fun Gx hGx => ?_)
            ((with_reducible refine ((HPL1 _ _ 1 hp.rd x73.rd).out).mono ?_))
            rintro eV12 V12 ⟨p79, c79, rfl, hr_x79, hc_x79, hf_x79, hbV12⟩
            have hzV12 := hbV12.size
            have x79 := rf_of hr_x79 hc_x79 hf_x79
            clear hr_x79 hc_x79 hf_x79
            have lx79 := fun h => x79.lt h
            refine ⟨.agg #[.bool r1.neg, .slice p79 (dig B16 r1.m).length c79, .int .i64 r1.e], rfl, hGx _ _ ?_⟩
            clear hGx Gx
            refine sn 11 #[.bool false, .slice none 0 0, .int .i64 0] 35 (fun V13 hbV13 hzV13 b11 => ?_)
            refine ss none b11 hT35 0 #[.bool r1.neg, .slice p79 (dig B16 r1.m).length c79, .int .i64 r1.e] #[.bool r1.neg, .slice p79 (dig B16 r1.m).length c79, .int .i64 r1.e] ?_
            have boV14 := b11
            clear b11
            intro V14 hOV14 b11
            have hzV14 := hOV14.size
            refine sx_nil ?_
            refine sx_then ?_
            refine wp_seq ?_
            refine wp_seq ?_
            refine sx_region ?_
            refine sv 80 (.agg #[.bool r1.neg, .slice p79 (dig B16 r1.m).length c79, .int .i64 r1.e]) ?_ (hr := (exec_ld (by kernel_rfl) (run_ld b11 hT35 0 [.bool r1.neg, .slice p79 (dig B16 r1.m).length c79, .int .i64 r1.e] (by kernel_rfl) (by kernel_rfl))))
            replace b3 := (b3.past ((bthru (bthru hbV11 hbV12) hbV13).trans (hOV14.below (by omega))))
            refine sv 81 (.agg #[.int .i64 g.rad, .int .i64 g.digs, .int .i64 g.lo, .int .i64 g.hi, .bool g.grad]) ?_ (hr := (exec_ld (by kernel_rfl) (run_ld b3 hT27 0 [.int .i64 g.rad, .int .i64 g.digs, .int .i64 g.lo, .int .i64 g.hi, .bool g.grad] (by kernel_rfl) (by kernel_rfl))))
            replace x79 := (x79.past (hbV13.trans (hOV14.below (by omega))))
            refine se 82 21 #[.agg #[.bool r1.neg, .slice p79 (dig B16 r1.m).length c79, .int .i64 r1.e], .agg #[.int .i64 g.rad, .int .i64 g.digs, .int .i64 g.lo, .int .i64 g.hi, .bool g.grad]] (fun Gx hGx => ?_)
            ((with_reducible refine ((HI1 _ p79 c79 x79.rd).out).mono ?_))
            rintro eV15 V15 ⟨rfl, hbV15⟩
            have hzV15 := hbV15.size
            refine ⟨.bool false, rfl, hGx _ _ ?_⟩
            clear hGx Gx
            refine sv 83 (.bool false) ?_
            refine so (some 84) ?_
            refine so (some 85) ?_
            refine so (some 86) ?_
            refine so (some 87) ?_
            refine sv 88 (.bool false) ?_
            refine sx_nil ?_
            refine sx_then ?_
            refine wp_cond_false (by kernel_rfl) ?_
            refine wp_skip ?_
            refine sx_then ?_
            refine wp_seq ?_
            refine sx_region ?_
            replace b2 := (b2.past (bthru ((bthru (bthru hbV11 hbV12) hbV13).trans (hOV14.below (by omega))) hbV15))
            refine sv 90 (.agg #[.bool true, .slice p (dig B16 m).length c, .int .i64 e]) ?_ (hr := (exec_ld (by kernel_rfl) (run_ld b2 hT35 0 [.bool true, .slice p (dig B16 m).length c, .int .i64 e] (by kernel_rfl) (by kernel_rfl))))
            refine snv 91 (.slice (some ⟨V15.heap.size, 0, none⟩) 1 1) #[.int .i64 1] 3 (fun V16 hbV16 hzV16 b91 => ?_)
            have x91 := rf_one b91
            refine sv 92 (.int .i64 ((wd : Nat) : Int)) ?_
            refine sv 93 (.int .i64 K) ?_
            refine sv 94 (.int .i64 (((wd : Nat) : Int) * K)) ?_ (hr := ((show _ = Result.ok (Next.value (.int .i64 (IntKind.wrap .i64 (((wd : Nat) : Int) * K)))) _ by kernel_rfl).trans (congrArg (fun z => Result.ok (Next.value (.int .i64 z)) _) (IntWalk.i64_in _ (by omega)))))
            refine sv 95 (.agg #[.bool false, .slice (some ⟨V15.heap.size, 0, none⟩) 1 1, .int .i64 (((wd : Nat) : Int) * K)]) ?_
            replace hp := (hp.past (bthru (bthru ((bthru hbV12 hbV13).trans (hOV14.below (by omega))) hbV15) hbV16))
            refine se 96 34 #[.agg #[.bool true, .slice p (dig B16 m).length c, .int .i64 e], .agg #[.bool false, .slice (some ⟨V15.heap.size, 0, none⟩) 1 1, .int .i64 (((wd : Nat) : Int) * K)]] (fun Gx hGx => ?_)
            ((with_reducible refine ((HPL _ _ 1 hp.rd x91.rd).out).mono ?_))
            rintro eV17 V17 ⟨p96, c96, rfl, hr_x96, hc_x96, hf_x96, hbV17⟩
            have hzV17 := hbV17.size
            have x96 := rf_of hr_x96 hc_x96 hf_x96
            clear hr_x96 hc_x96 hf_x96
            have lx96 := fun h => x96.lt h
            refine ⟨.agg #[.bool r2.neg, .slice p96 (dig B16 r2.m).length c96, .int .i64 r2.e], rfl, hGx _ _ ?_⟩
            clear hGx Gx
            replace b11 := (b11.past (bthru (bthru hbV15 hbV16) hbV17))
            refine ss none b11 hT35 0 #[.bool r2.neg, .slice p96 (dig B16 r2.m).length c96, .int .i64 r2.e] #[.bool r2.neg, .slice p96 (dig B16 r2.m).length c96, .int .i64 r2.e] ?_
            have boV18 := b11
            clear b11
            intro V18 hOV18 b11
            have hzV18 := hOV18.size
            refine sx_nil ?_
            refine sx_then ?_
            refine wp_seq ?_
            refine wp_seq ?_
            refine sx_region ?_
            refine sv 97 (.agg #[.bool r2.neg, .slice p96 (dig B16 r2.m).length c96, .int .i64 r2.e]) ?_ (hr := (exec_ld (by kernel_rfl) (run_ld b11 hT35 0 [.bool r2.neg, .slice p96 (dig B16 r2.m).length c96, .int .i64 r2.e] (by kernel_rfl) (by kernel_rfl))))
            replace b3 := ((b3.past (bthru (bthru hbV15 hbV16) hbV17)).only hOV18 (by omega))
            refine sv 98 (.agg #[.int .i64 g.rad, .int .i64 g.digs, .int .i64 g.lo, .int .i64 g.hi, .bool g.grad]) ?_ (hr := (exec_ld (by kernel_rfl) (run_ld b3 hT27 0 [.int .i64 g.rad, .int .i64 g.digs, .int .i64 g.lo, .int .i64 g.hi, .bool g.grad] (by kernel_rfl) (by kernel_rfl))))
            replace x96 := (x96.only hOV18 (fun h => by have := lx96 h; omega))
            refine se 99 21 #[.agg #[.bool r2.neg, .slice p96 (dig B16 r2.m).length c96, .int .i64 r2.e], .agg #[.int .i64 g.rad, .int .i64 g.digs, .int .i64 g.lo, .int .i64 g.hi, .bool g.grad]] (fun Gx hGx => ?_)
            ((with_reducible refine ((HI2 _ p96 c96 x96.rd).out).mono ?_))
            rintro eV19 V19 ⟨rfl, hbV19⟩
            have hzV19 := hbV19.size
            refine ⟨.bool false, rfl, hGx _ _ ?_⟩
            clear hGx Gx
            refine sx_nil ?_
            refine sx_then ?_
            refine wp_cond_false (by kernel_rfl) ?_
            refine wp_skip ?_
            refine sx_then ?_
            refine wp_seq ?_
            refine sx_region ?_
            refine sv 101 (.agg #[.bool false, .slice none 0 0, .int .i64 0]) ?_
            replace b4 := (b4.past (bthru ((bthru (bthru (bthru ((bthru (bthru (bthru (bthru (bthru (bthru ((bthru (bthru hbV4 hbV5) hbV6).trans (hOV7.below (by omega))) hbV8) hbV9) hbV10) hbV11) hbV12) hbV13).trans (hOV14.below (by omega))) hbV15) hbV16) hbV17).trans (hOV18.below (by omega))) hbV19))
            refine ss none b4 hT35 0 #[.bool false, .slice none 0 0, .int .i64 0] #[.bool false, .slice none 0 0, .int .i64 0] ?_
            have boV20 := b4
            clear b4
            intro V20 hOV20 b4
            have hzV20 := hOV20.size
            refine sv 5 (.bool true) ?_
            refine sx_nil ?_
            refine sx_then ?_
            refine wp_ret ?_
            have ⟨b4_0, b4_1, b4_2⟩ := b4.bx.e3
            repeat (first | with_reducible refine sx_thenret ?_ | with_reducible refine sx_blockret ?_)
            refine bodyPost_ret (v := .tuple #[.agg #[.bool false, .slice none 0 0, .int .i64 0], .bool true]) (by simp [results, Tryd.results23, go_sem, b4_0, b4_1, b4_2]) rfl ?_
            exact ⟨none, 0, by simp only [dig_zero]; rfl, by simp only [dig_zero]; exact rf_nil _ _ _, ((bthru ((bthru (bthru (bthru ((bthru (bthru (bthru (bthru (bthru (bthru ((bthru (bthru (bthru (bthru (bthru hbV1 hbV2) hbV3) hbV4) hbV5) hbV6).trans (hOV7.below (by omega))) hbV8) hbV9) hbV10) hbV11) hbV12) hbV13).trans (hOV14.below (by omega))) hbV15) hbV16) hbV17).trans (hOV18.below (by omega))) hbV19).trans (hOV20.below (by omega)))⟩
      · skip
        by_cases c1 : i1 = true
        · subst c1
          by_cases c2 : cm < 0
          · rw [if_pos ⟨rfl, c2⟩]
            have hT3 : SxOne Tryd.prog 3 := sxOne_of (by kernel_rfl) (by kernel_rfl)
            have hT4 : SxOne Tryd.prog 4 := sxOne_of (by kernel_rfl) (by kernel_rfl)
            have hT27 : SxAgg Tryd.prog 27 5 := sxAgg_of (by kernel_rfl) (by kernel_rfl)
            have hT33 : SxOne Tryd.prog 33 := sxOne_of (by kernel_rfl) (by kernel_rfl)
            have hT35 : SxAgg Tryd.prog 35 3 := sxAgg_of (by kernel_rfl) (by kernel_rfl)
            refine calls_of_wp Tryd.func23 rfl ?_
            refine sx_frame (a' := ⟨((.agg #[.bool true, .slice p (dig B16 m).length c, .int .i64 e]) :: (.agg #[.int .i64 g.rad, .int .i64 g.digs, .int .i64 g.lo, .int .i64 g.hi, .bool g.grad]) :: undef :: undef :: undef :: undef :: undef :: undef :: undef :: undef :: undef :: undef :: undef :: undef :: undef :: undef :: undef :: undef :: undef :: undef :: undef :: undef :: undef :: undef :: undef :: undef :: undef :: undef :: undef :: undef :: undef :: undef :: undef :: undef :: undef :: undef :: undef :: undef :: undef :: undef :: undef :: undef :: undef :: undef :: undef :: undef :: undef :: undef :: undef :: undef :: undef :: undef :: undef :: undef :: undef :: undef :: undef :: undef :: undef :: undef :: undef :: undef :: undef :: undef :: undef :: undef :: undef :: undef :: undef :: undef :: undef :: undef :: undef :: undef :: undef :: undef :: undef :: undef :: undef :: undef :: undef :: undef :: undef :: undef :: undef :: undef :: undef :: undef :: undef :: undef :: undef :: undef :: undef :: undef :: undef :: undef :: undef :: undef :: undef :: undef :: undef :: undef :: []).toArray, []⟩) (by kernel_rfl) ?_
            refine wp_seq ?_
            refine sx_region ?_
            refine sn 2 #[.bool true, .slice p (dig B16 m).length c, .int .i64 e] 35 (fun V1 hbV1 hzV1 b2 => ?_)
            refine sn 3 #[.int .i64 g.rad, .int .i64 g.digs, .int .i64 g.lo, .int .i64 g.hi, .bool g.grad] 27 (fun V2 hbV2 hzV2 b3 => ?_)
            refine sn 4 #[.bool false, .slice none 0 0, .int .i64 0] 35 (fun V3 hbV3 hzV3 b4 => ?_)
            refine sv 5 (.bool false) ?_
            refine sx_nil ?_
            refine sx_then ?_
            refine wp_seq ?_
            refine sx_region ?_
            replace b3 := (b3.past hbV3)
            refine sv 12 (.agg #[.int .i64 g.rad, .int .i64 g.digs, .int .i64 g.lo, .int .i64 g.hi, .bool g.grad]) ?_ (hr := (exec_ld (by kernel_rfl) (run_ld b3 hT27 0 [.int .i64 g.rad, .int .i64 g.digs, .int .i64 g.lo, .int .i64 g.hi, .bool g.grad] (by kernel_rfl) (by kernel_rfl))))
            refine se 13 42 #[.agg #[.int .i64 g.rad, .int .i64 g.digs, .int .i64 g.lo, .int .i64 g.hi, .bool g.grad]] (fun Gx hGx => ?_)
            ((with_reducible refine ((HWD _).out).mono ?_))
            rintro eV4 V4 ⟨rfl, hbV4⟩
            have hzV4 := hbV4.size
            refine ⟨.int .i64 ((wd : Nat) : Int), rfl, hGx _ _ ?_⟩
            clear hGx Gx
            refine sv 6 (.int .i64 ((wd : Nat) : Int)) ?_
            refine sx_nil ?_
            refine sx_then ?_
            refine wp_seq ?_
            refine sx_region ?_
            refine snv 14 (.slice (some ⟨V4.heap.size, 0, none⟩) 1 1) #[.int .i64 1] 3 (fun V5 hbV5 hzV5 b14 => ?_)
            have x14 := rf_one b14
            refine sv 15 (.int .i64 ((wd : Nat) : Int)) ?_
            refine sv 16 (.pointer (some ⟨V1.heap.size, 2, none⟩)) ?_
            replace b3 := (b3.past (bthru hbV4 hbV5))
            refine sv 17 (.int .i64 g.lo) ?_ (hr := (exec_ld (by kernel_rfl) (run_ld1 b3 hT3 2 (.int .i64 g.lo) (by kernel_rfl))))
            refine sv 18 (.int .i64 (((wd : Nat) : Int) * g.lo)) ?_ (hr := ((show _ = Result.ok (Next.value (.int .i64 (IntKind.wrap .i64 (((wd : Nat) : Int) * g.lo)))) _ by kernel_rfl).trans (congrArg (fun z => Result.ok (Next.value (.int .i64 z)) _) (IntWalk.i64_in _ (by omega)))))
            refine sv 19 (.agg #[.bool false, .slice (some ⟨V4.heap.size, 0, none⟩) 1 1, .int .i64 (((wd : Nat) : Int) * g.lo)]) ?_
            refine sn 7 #[.bool false, .slice none 0 0, .int .i64 0] 35 (fun V6 hbV6 hzV6 b7 => ?_)
            refine ss none b7 hT35 0 #[.bool false, .slice (some ⟨V4.heap.size, 0, none⟩) 1 1, .int .i64 (((wd : Nat) : Int) * g.lo)] #[.bool false, .slice (some ⟨V4.heap.size, 0, none⟩) 1 1, .int .i64 (((wd : Nat) : Int) * g.lo)] ?_
            have boV7 := b7
            clear b7
            intro V7 hOV7 b7
            have hzV7 := hOV7.size
            refine sx_nil ?_
            refine sx_then ?_
            refine wp_seq ?_
            refine wp_seq ?_
            refine sx_region ?_
            refine sv 20 (.pointer (some ⟨V1.heap.size, 4, none⟩)) ?_
            replace b3 := (b3.past (hbV6.trans (hOV7.below (by omega))))
            refine sv 21 (.bool g.grad) ?_ (hr := (exec_ld (by kernel_rfl) (run_ld1 b3 hT4 4 (.bool g.grad) (by kernel_rfl))))
            refine sv 22 (.bool true) ?_ (hr := ((show _ = Result.ok (Next.value (.bool (!g.grad))) _ from (by kernel_rfl)).trans (congrArg (fun z => Result.ok (Next.value (.bool z)) _) (show (!g.grad) = true from by rw [hgr]; rfl))))
            refine sx_nil ?_
            refine sx_then ?_
            refine wp_cond_true (by kernel_rfl) ?_
            refine sx_region ?_
            refine sv 23 (.int .i64 ((wd : Nat) : Int)) ?_
            refine sv 24 (.pointer (some ⟨V1.heap.size, 2, none⟩)) ?_
            refine sv 25 (.int .i64 g.lo) ?_ (hr := (exec_ld (by kernel_rfl) (run_ld1 b3 hT3 2 (.int .i64 g.lo) (by kernel_rfl))))
            refine sv 26 (.pointer (some ⟨V1.heap.size, 1, none⟩)) ?_
            refine sv 27 (.int .i64 g.digs) ?_ (hr := (exec_ld (by kernel_rfl) (run_ld1 b3 hT3 1 (.int .i64 g.digs) (by kernel_rfl))))
            refine sv 28 (.int .i64 (g.lo + g.digs)) ?_ (hr := ((show _ = Result.ok (Next.value (.int .i64 (IntKind.wrap .i64 (g.lo + g.digs)))) _ by kernel_rfl).trans (congrArg (fun z => Result.ok (Next.value (.int .i64 z)) _) (IntWalk.i64_in _ (by omega)))))
            refine sv 29 (.int .i64 ((g.lo + g.digs) - 1)) ?_ (hr := ((show _ = Result.ok (Next.value (.int .i64 (IntKind.wrap .i64 ((g.lo + g.digs) - 1)))) _ by kernel_rfl).trans (congrArg (fun z => Result.ok (Next.value (.int .i64 z)) _) (IntWalk.i64_in _ (by omega)))))
            refine sv 30 (.int .i64 ((wd : Int) * (g.lo + g.digs - 1))) ?_ (hr := ((show _ = Result.ok (Next.value (.int .i64 (IntKind.wrap .i64 (((wd : Nat) : Int) * ((g.lo + g.digs) - 1))))) _ by kernel_rfl).trans (congrArg (fun z => Result.ok (Next.value (.int .i64 z)) _) (IntWalk.i64_in _ (by omega)))))
            refine sv 31 (.pointer (some ⟨V5.heap.size, 2, none⟩)) ?_
            refine ss1 none b7 hT3 2 (.int .i64 ((wd : Int) * (g.lo + g.digs - 1))) #[.bool false, .slice (some ⟨V4.heap.size, 0, none⟩) 1 1, .int .i64 ((wd : Int) * (g.lo + g.digs - 1))] ?_
            have boV8 := b7
            clear b7
            intro V8 hOV8 b7
            have hzV8 := hOV8.size
            refine sx_nil ?_
            refine sx_then ?_
            refine wp_seq ?_
            refine wp_seq ?_
            refine sx_region ?_
            refine sv 32 (.pointer (some ⟨w.heap.size, 1, none⟩)) ?_
            replace b2 := (b2.past (((bthru (bthru (bthru (bthru hbV2 hbV3) hbV4) hbV5) hbV6).trans (hOV7.below (by omega))).trans (hOV8.below (by omega))))
            refine sv 33 (.slice p (dig B16 m).length c) ?_ (hr := (exec_ld (by kernel_rfl) (run_ld1 b2 hT33 1 (.slice p (dig B16 m).length c) (by kernel_rfl))))
            refine sv 34 (.int .i64 (((dig B16 m).length : Nat) : Int)) ?_
            refine sv 35 (.bool false) ?_ (hr := ((show _ = Result.ok (Next.value (.bool ((((dig B16 m).length : Nat) : Int) == 0))) _ from (by kernel_rfl)).trans (congrArg (fun z => Result.ok (Next.value (.bool z)) _) (show ((((dig B16 m).length : Nat) : Int) == 0) = false from t35))))
            refine sx_nil ?_
            refine sx_then ?_
            refine wp_cond_false (by kernel_rfl) ?_
            refine wp_skip ?_
            refine sx_then ?_
            refine wp_seq ?_
            obtain ⟨V9, hVV9⟩ : ∃ V, V = (V8).drew := ⟨_, rfl⟩
            have hbV9 : Below (V8).heap.size (V8) V9 := by rw [hVV9]; exact (Below.refl _ _).drew
            have hzV9 : V9.heap.size = (V8).heap.size := by rw [hVV9]; rfl
            replace b2 := (b2.past hbV9)
            refine sxd _ (fun w' => Bt w' w.heap.size 35 #[.bool true, .slice p (dig B16 m).length c, .int .i64 e]) hVV9 b2 ?_
            clear hVV9
            refine tk 0 37 (.pointer (some ⟨w.heap.size, 2, none⟩)) b2 ?_
            refine tk 1 38 (.int .i64 e) b2 ?_ (hy := fun w' hS => (exec_ld (by kernel_rfl) (run_ld1 hS hT3 2 (.int .i64 e) (by kernel_rfl))))
            refine tk 2 39 (.pointer (some ⟨w.heap.size, 1, none⟩)) b2 ?_
            refine tk 3 40 (.slice p (dig B16 m).length c) b2 ?_ (hy := fun w' hS => (exec_ld (by kernel_rfl) (run_ld1 hS hT33 1 (.slice p (dig B16 m).length c) (by kernel_rfl))))
            refine sxr [4] ?_
            refine rd1 (fun Kx hKx => ?_)
            replace hp := (hp.past (bthru (((bthru (bthru (bthru (bthru (bthru hbV1 hbV2) hbV3) hbV4) hbV5) hbV6).trans (hOV7.below (by omega))).trans (hOV8.below (by omega))) hbV9))
            refine sek 41 43 #[.slice p (dig B16 m).length c] ?_
            ((with_reducible refine ((HRL _ hp.rd).out).mono ?_))
            rintro eV10 V10 ⟨rfl, hbV10⟩
            have hzV10 := hbV10.size
            refine ⟨.int .i64 ((L : Nat) : Int), rfl, ?_⟩
            replace b2 := (b2.past hbV10)
            refine hKx.out _ _ b2 ?_
            clear hKx Kx
            refine tk 5 42 (.int .i64 (e + (L : Int))) b2 ?_ (hy := fun w' _ => ((show _ = Result.ok (Next.value (.int .i64 (IntKind.wrap .i64 (e + ((L : Nat) : Int))))) _ by kernel_rfl).trans (congrArg (fun z => Result.ok (Next.value (.int .i64 z)) _) (IntWalk.i64_in _ (by omega)))))
            refine tk 6 8 (.int .i64 (e + (L : Int))) b2 ?_
            refine sx_done (by kernel_rfl) ?_
            refine sx_then ?_
            refine wp_seq ?_
            replace b3 := ((b3.only hOV8 (by omega)).past (bthru hbV9 hbV10))
            obtain ⟨V11, hVV11⟩ : ∃ V, V = (V10).drew := ⟨_, rfl⟩
            have hbV11 : Below (V10).heap.size (V10) V11 := by rw [hVV11]; exact (Below.refl _ _).drew
            have hzV11 : V11.heap.size = (V10).heap.size := by rw [hVV11]; rfl
            replace b3 := (b3.past hbV11)
            refine sxd _ (fun w' => Bt w' V1.heap.size 27 #[.int .i64 g.rad, .int .i64 g.digs, .int .i64 g.lo, .int .i64 g.hi, .bool g.grad]) hVV11 b3 ?_
            clear hVV11
            refine tk 0 43 (.pointer (some ⟨V1.heap.size, 2, none⟩)) b3 ?_
            refine tk 1 44 (.int .i64 g.lo) b3 ?_ (hy := fun w' hS => (exec_ld (by kernel_rfl) (run_ld1 hS hT3 2 (.int .i64 g.lo) (by kernel_rfl))))
            refine tk 2 45 (.int .i64 (e + (L : Int))) b3 ?_
            refine tk 3 46 (.int .i64 (e + (L : Int) - 1)) b3 ?_ (hy := fun w' _ => ((show _ = Result.ok (Next.value (.int .i64 (IntKind.wrap .i64 ((e + (L : Int)) - 1)))) _ by kernel_rfl).trans (congrArg (fun z => Result.ok (Next.value (.int .i64 z)) _) (IntWalk.i64_in _ (by omega)))))
            refine tk 4 47 (.int .i64 (e + (L : Int) - 1 + 80000)) b3 ?_ (hy := fun w' _ => ((show _ = Result.ok (Next.value (.int .i64 (IntKind.wrap .i64 ((e + (L : Int) - 1) + 80000)))) _ by kernel_rfl).trans (congrArg (fun z => Result.ok (Next.value (.int .i64 z)) _) (IntWalk.i64_in _ (by omega)))))
            refine tk 5 48 (.int .i64 ((wd : Nat) : Int)) b3 ?_
            refine tk 6 49 (.int .i64 ((e + (L : Int) - 1 + 80000) / (wd : Int))) b3 ?_ (hy := fun w' _ => (exec_quo ((e + (L : Int) - 1 + 80000) / (wd : Int)) (by kernel_rfl) (by kernel_rfl) (by omega) (Y2.out)))
            refine tk 7 50 (.int .i64 ((wd : Nat) : Int)) b3 ?_
            refine tk 8 51 (.int .i64 (80000 / (wd : Int))) b3 ?_ (hy := fun w' _ => (exec_quo (80000 / (wd : Int)) (by kernel_rfl) (by kernel_rfl) (by omega) (Y3.out)))
            refine tk 9 52 (.int .i64 ((e + (L : Int) - 1) / (wd : Int))) b3 ?_ (hy := fun w' _ => ((show _ = Result.ok (Next.value (.int .i64 (IntKind.wrap .i64 (((e + (L : Int) - 1 + 80000) / (wd : Int)) - (80000 / (wd : Int)))))) _ by kernel_rfl).trans (congrArg (fun z => Result.ok (Next.value (.int .i64 z)) _) (Y4.out))))
            refine tk 10 53 (.pointer (some ⟨V1.heap.size, 1, none⟩)) b3 ?_
            refine tk 11 54 (.int .i64 g.digs) b3 ?_ (hy := fun w' hS => (exec_ld (by kernel_rfl) (run_ld1 hS hT3 1 (.int .i64 g.digs) (by kernel_rfl))))
            refine tk 12 55 (.int .i64 ((e + (L : Int) - 1) / (wd : Int) - g.digs)) b3 ?_ (hy := fun w' _ => ((show _ = Result.ok (Next.value (.int .i64 (IntKind.wrap .i64 (((e + (L : Int) - 1) / (wd : Int)) - g.digs)))) _ by kernel_rfl).trans (congrArg (fun z => Result.ok (Next.value (.int .i64 z)) _) (IntWalk.i64_in _ (by omega)))))
            refine tk 13 56 (.int .i64 K0) b3 ?_ (hy := fun w' _ => ((show _ = Result.ok (Next.value (.int .i64 (IntKind.wrap .i64 (((e + (L : Int) - 1) / (wd : Int) - g.digs) + 1)))) _ by kernel_rfl).trans (congrArg (fun z => Result.ok (Next.value (.int .i64 z)) _) (Y6.out))))
            refine tk 14 57 (.int .i64 K) b3 ?_ (hy := fun w' _ => ((show _ = Result.ok (Next.value (.int .i64 (if ((K0) : Int) > (g.lo) then K0 else g.lo))) _ by kernel_rfl).trans (congrArg (fun z => Result.ok (Next.value (.int .i64 z)) _) (Y7.out))))
            refine tk 15 9 (.int .i64 K) b3 ?_
            refine sx_done (by kernel_rfl) ?_
            refine sx_then ?_
            refine wp_seq ?_
            refine wp_seq ?_
            refine sx_region ?_
            refine sv 58 (.pointer (some ⟨w.heap.size, 0, none⟩)) ?_
            replace b2 := (b2.past hbV11)
            refine sv 59 (.bool true) ?_ (hr := (exec_ld (by kernel_rfl) (run_ld1 b2 hT4 0 (.bool true) (by kernel_rfl))))
            refine sv 60 (.bool false) ?_
            refine sx_nil ?_
            refine sx_then ?_
            refine wp_cond_false (by kernel_rfl) ?_
            refine wp_skip ?_
            refine sx_then ?_
            refine wp_seq ?_
            refine sx_region ?_
            refine sv 72 (.agg #[.bool true, .slice p (dig B16 m).length c, .int .i64 e]) ?_ (hr := (exec_ld (by kernel_rfl) (run_ld b2 hT35 0 [.bool true, .slice p (dig B16 m).length c, .int .i64 e] (by kernel_rfl) (by kernel_rfl))))
            refine snv 73 (.slice (some ⟨V11.heap.size, 0, none⟩) 1 1) #[.int .i64 1] 3 (fun V12 hbV12 hzV12 b73 => ?_)
            have x73 := rf_one b73
            refine sv 74 (.int .i64 ((wd : Nat) : Int)) ?_
            refine sv 75 (.int .i64 K) ?_
            refine sv 76 (.int .i64 (K - 1)) ?_ (hr := ((show _ = Result.ok (Next.value (.int .i64 (IntKind.wrap .i64 (K - 1)))) _ by kernel_rfl).trans (congrArg (fun z => Result.ok (Next.value (.int .i64 z)) _) (IntWalk.i64_in _ (by omega)))))
            refine sv 77 (.int .i64 (((wd : Nat) : Int) * (K - 1))) ?_ (hr := ((show _ = Result.ok (Next.value (.int .i64 (IntKind.wrap .i64 (((wd : Nat) : Int) * (K - 1))))) _ by kernel_rfl).trans (congrArg (fun z => Result.ok (Next.value (.int .i64 z)) _) (IntWalk.i64_in _ (by omega)))))
            refine sv 78 (.agg #[.bool false, .slice (some ⟨V11.heap.size, 0, none⟩) 1 1, .int .i64 (((wd : Nat) : Int) * (K - 1))]) ?_
            replace hp := (hp.past (bthru (bthru hbV10 hbV11) hbV12))
            refine se 79 34 #[.agg #[.bool true, .slice p (dig B16 m).length c, .int .i64 e], .agg #[.bool false, .slice (some ⟨V11.heap.size, 0, none⟩) 1 1, .int .i64 (((wd : Nat) : Int) * (K - 1))]] (fun Gx hGx => ?_)
            ((with_reducible refine ((HPL1 _ _ 1 hp.rd x73.rd).out).mono ?_))
            rintro eV13 V13 ⟨p79, c79, rfl, hr_x79, hc_x79, hf_x79, hbV13⟩
            have hzV13 := hbV13.size
            have x79 := rf_of hr_x79 hc_x79 hf_x79
            clear hr_x79 hc_x79 hf_x79
            have lx79 := fun h => x79.lt h
            refine ⟨.agg #[.bool r1.neg, .slice p79 (dig B16 r1.m).length c79, .int .i64 r1.e], rfl, hGx _ _ ?_⟩
            clear hGx Gx
            refine sn 11 #[.bool false, .slice none 0 0, .int .i64 0] 35 (fun V14 hbV14 hzV14 b11 => ?_)
            refine ss none b11 hT35 0 #[.bool r1.neg, .slice p79 (dig B16 r1.m).length c79, .int .i64 r1.e] #[.bool r1.neg, .slice p79 (dig B16 r1.m).length c79, .int .i64 r1.e] ?_
            have boV15 := b11
            clear b11
            intro V15 hOV15 b11
            have hzV15 := hOV15.size
            refine sx_nil ?_
            refine sx_then ?_
            refine wp_seq ?_
            refine wp_seq ?_
            refine sx_region ?_
            refine sv 80 (.agg #[.bool r1.neg, .slice p79 (dig B16 r1.m).length c79, .int .i64 r1.e]) ?_ (hr := (exec_ld (by kernel_rfl) (run_ld b11 hT35 0 [.bool r1.neg, .slice p79 (dig B16 r1.m).length c79, .int .i64 r1.e] (by kernel_rfl) (by kernel_rfl))))
            replace b3 := (b3.past ((bthru (bthru hbV12 hbV13) hbV14).trans (hOV15.below (by omega))))
            refine sv 81 (.agg #[.int .i64 g.rad, .int .i64 g.digs, .int .i64 g.lo, .int .i64 g.hi, .bool g.grad]) ?_ (hr := (exec_ld (by kernel_rfl) (run_ld b3 hT27 0 [.int .i64 g.rad, .int .i64 g.digs, .int .i64 g.lo, .int .i64 g.hi, .bool g.grad] (by kernel_rfl) (by kernel_rfl))))
            replace x79 := (x79.past (hbV14.trans (hOV15.below (by omega))))
            refine se 82 21 #[.agg #[.bool r1.neg, .slice p79 (dig B16 r1.m).length c79, .int .i64 r1.e], .agg #[.int .i64 g.rad, .int .i64 g.digs, .int .i64 g.lo, .int .i64 g.hi, .bool g.grad]] (fun Gx hGx => ?_)
            ((with_reducible refine ((HI1 _ p79 c79 x79.rd).out).mono ?_))
            rintro eV16 V16 ⟨rfl, hbV16⟩
            have hzV16 := hbV16.size
            refine ⟨.bool true, rfl, hGx _ _ ?_⟩
            clear hGx Gx
            refine sv 83 (.bool true) ?_
            replace b2 := (b2.past (bthru ((bthru (bthru hbV12 hbV13) hbV14).trans (hOV15.below (by omega))) hbV16))
            refine sv 84 (.agg #[.bool true, .slice p (dig B16 m).length c, .int .i64 e]) ?_ (hr := (exec_ld (by kernel_rfl) (run_ld b2 hT35 0 [.bool true, .slice p (dig B16 m).length c, .int .i64 e] (by kernel_rfl) (by kernel_rfl))))
            replace b11 := (b11.past hbV16)
            refine sv 85 (.agg #[.bool r1.neg, .slice p79 (dig B16 r1.m).length c79, .int .i64 r1.e]) ?_ (hr := (exec_ld (by kernel_rfl) (run_ld b11 hT35 0 [.bool r1.neg, .slice p79 (dig B16 r1.m).length c79, .int .i64 r1.e] (by kernel_rfl) (by kernel_rfl))))
            replace hp := (hp.past (bthru ((bthru hbV13 hbV14).trans (hOV15.below (by omega))) hbV16))
            replace x79 := (x79.past hbV16)
            refine se 86 13 #[.agg #[.bool true, .slice p (dig B16 m).length c, .int .i64 e], .agg #[.bool r1.neg, .slice p79 (dig B16 r1.m).length c79, .int .i64 r1.e]] (fun Gx hGx => ?_)
            ((with_reducible refine ((HCM _ p79 c79 hp.rd x79.rd x79.cap).out).mono ?_))
            rintro eV17 V17 ⟨rfl, hbV17⟩
            have hzV17 := hbV17.size
            refine ⟨.int .i64 cm, rfl, hGx _ _ ?_⟩
            clear hGx Gx
            refine sv 87 (.bool true) ?_ (hr := ((show _ = Result.ok (Next.value (.bool (decide (cm < 0)))) _ from (by kernel_rfl)).trans (congrArg (fun z => Result.ok (Next.value (.bool z)) _) (show (decide (cm < 0)) = true from decide_eq_true c2))))
            refine sv 88 (.bool true) ?_
            refine sx_nil ?_
            refine sx_then ?_
            refine wp_cond_true (by kernel_rfl) ?_
            refine wp_seq ?_
            refine sx_region ?_
            replace b11 := (b11.past hbV17)
            refine sv 89 (.agg #[.bool r1.neg, .slice p79 (dig B16 r1.m).length c79, .int .i64 r1.e]) ?_ (hr := (exec_ld (by kernel_rfl) (run_ld b11 hT35 0 [.bool r1.neg, .slice p79 (dig B16 r1.m).length c79, .int .i64 r1.e] (by kernel_rfl) (by kernel_rfl))))
            replace b4 := (b4.past (bthru (bthru ((bthru (bthru (bthru (bthru (bthru (bthru (((bthru (bthru hbV4 hbV5) hbV6).trans (hOV7.below (by omega))).trans (hOV8.below (by omega))) hbV9) hbV10) hbV11) hbV12) hbV13) hbV14).trans (hOV15.below (by omega))) hbV16) hbV17))
            refine ss none b4 hT35 0 #[.bool r1.neg, .slice p79 (dig B16 r1.m).length c79, .int .i64 r1.e] #[.bool r1.neg, .slice p79 (dig B16 r1.m).length c79, .int .i64 r1.e] ?_
            have boV18 := b4
            clear b4
            intro V18 hOV18 b4
            have hzV18 := hOV18.size
            refine sv 5 (.bool true) ?_
            refine sx_nil ?_
            refine sx_then ?_
            refine wp_ret ?_
            have ⟨b4_0, b4_1, b4_2⟩ := b4.bx.e3
            repeat (first | with_reducible refine sx_thenret ?_ | with_reducible refine sx_blockret ?_)
            refine bodyPost_ret (v := .tuple #[.agg #[.bool r1.neg, .slice p79 (dig B16 r1.m).length c79, .int .i64 r1.e], .bool true]) (by simp [results, Tryd.results23, go_sem, b4_0, b4_1, b4_2]) rfl ?_
            replace x79 := ((x79.past hbV17).only hOV18 (fun h => by have := lx79 h; omega))
            exact ⟨_, _, rfl, x79.mono (by omega), ((bthru (bthru ((bthru (bthru (bthru (bthru (bthru (bthru (((bthru (bthru (bthru (bthru (bthru hbV1 hbV2) hbV3) hbV4) hbV5) hbV6).trans (hOV7.below (by omega))).trans (hOV8.below (by omega))) hbV9) hbV10) hbV11) hbV12) hbV13) hbV14).trans (hOV15.below (by omega))) hbV16) hbV17).trans (hOV18.below (by omega)))⟩
          · rw [if_neg (fun h => c2 h.2)]
            by_cases c3 : i2 = true
            · subst c3
              rw [if_pos rfl]
              have hT3 : SxOne Tryd.prog 3 := sxOne_of (by kernel_rfl) (by kernel_rfl)
              have hT4 : SxOne Tryd.prog 4 := sxOne_of (by kernel_rfl) (by kernel_rfl)
              have hT27 : SxAgg Tryd.prog 27 5 := sxAgg_of (by kernel_rfl) (by kernel_rfl)
              have hT33 : SxOne Tryd.prog 33 := sxOne_of (by kernel_rfl) (by kernel_rfl)
              have hT35 : SxAgg Tryd.prog 35 3 := sxAgg_of (by kernel_rfl) (by kernel_rfl)
              refine calls_of_wp Tryd.func23 rfl ?_
              refine sx_frame (a' := ⟨((.agg #[.bool true, .slice p (dig B16 m).length c, .int .i64 e]) :: (.agg #[.int .i64 g.rad, .int .i64 g.digs, .int .i64 g.lo, .int .i64 g.hi, .bool g.grad]) :: undef :: undef :: undef :: undef :: undef :: undef :: undef :: undef :: undef :: undef :: undef :: undef :: undef :: undef :: undef :: undef :: undef :: undef :: undef :: undef :: undef :: undef :: undef :: undef :: undef :: undef :: undef :: undef :: undef :: undef :: undef :: undef :: undef :: undef :: undef :: undef :: undef :: undef :: undef :: undef :: undef :: undef :: undef :: undef :: undef :: undef :: undef :: undef :: undef :: undef :: undef :: undef :: undef :: undef :: undef :: undef :: undef :: undef :: undef :: undef :: undef :: undef :: undef :: undef :: undef :: undef :: undef :: undef :: undef :: undef :: undef :: undef :: undef :: undef :: undef :: undef :: undef :: undef :: undef :: undef :: undef :: undef :: undef :: undef :: undef :: undef :: undef :: undef :: undef :: undef :: undef :: undef :: undef :: undef :: undef :: undef :: undef :: undef :: undef :: undef :: []).toArray, []⟩) (by kernel_rfl) ?_
              refine wp_seq ?_
              refine sx_region ?_
              refine sn 2 #[.bool true, .slice p (dig B16 m).length c, .int .i64 e] 35 (fun V1 hbV1 hzV1 b2 => ?_)
              refine sn 3 #[.int .i64 g.rad, .int .i64 g.digs, .int .i64 g.lo, .int .i64 g.hi, .bool g.grad] 27 (fun V2 hbV2 hzV2 b3 => ?_)
              refine sn 4 #[.bool false, .slice none 0 0, .int .i64 0] 35 (fun V3 hbV3 hzV3 b4 => ?_)
              refine sv 5 (.bool false) ?_
              refine sx_nil ?_
              refine sx_then ?_
              refine wp_seq ?_
              refine sx_region ?_
              replace b3 := (b3.past hbV3)
              refine sv 12 (.agg #[.int .i64 g.rad, .int .i64 g.digs, .int .i64 g.lo, .int .i64 g.hi, .bool g.grad]) ?_ (hr := (exec_ld (by kernel_rfl) (run_ld b3 hT27 0 [.int .i64 g.rad, .int .i64 g.digs, .int .i64 g.lo, .int .i64 g.hi, .bool g.grad] (by kernel_rfl) (by kernel_rfl))))
              refine se 13 42 #[.agg #[.int .i64 g.rad, .int .i64 g.digs, .int .i64 g.lo, .int .i64 g.hi, .bool g.grad]] (fun Gx hGx => ?_)
              ((with_reducible refine ((HWD _).out).mono ?_))
              rintro eV4 V4 ⟨rfl, hbV4⟩
              have hzV4 := hbV4.size
              refine ⟨.int .i64 ((wd : Nat) : Int), rfl, hGx _ _ ?_⟩
              clear hGx Gx
              refine sv 6 (.int .i64 ((wd : Nat) : Int)) ?_
              refine sx_nil ?_
              refine sx_then ?_
              refine wp_seq ?_
              refine sx_region ?_
              refine snv 14 (.slice (some ⟨V4.heap.size, 0, none⟩) 1 1) #[.int .i64 1] 3 (fun V5 hbV5 hzV5 b14 => ?_)
              have x14 := rf_one b14
              refine sv 15 (.int .i64 ((wd : Nat) : Int)) ?_
              refine sv 16 (.pointer (some ⟨V1.heap.size, 2, none⟩)) ?_
              replace b3 := (b3.past (bthru hbV4 hbV5))
              refine sv 17 (.int .i64 g.lo) ?_ (hr := (exec_ld (by kernel_rfl) (run_ld1 b3 hT3 2 (.int .i64 g.lo) (by kernel_rfl))))
              refine sv 18 (.int .i64 (((wd : Nat) : Int) * g.lo)) ?_ (hr := ((show _ = Result.ok (Next.value (.int .i64 (IntKind.wrap .i64 (((wd : Nat) : Int) * g.lo)))) _ by kernel_rfl).trans (congrArg (fun z => Result.ok (Next.value (.int .i64 z)) _) (IntWalk.i64_in _ (by omega)))))
              refine sv 19 (.agg #[.bool false, .slice (some ⟨V4.heap.size, 0, none⟩) 1 1, .int .i64 (((wd : Nat) : Int) * g.lo)]) ?_
              refine sn 7 #[.bool false, .slice none 0 0, .int .i64 0] 35 (fun V6 hbV6 hzV6 b7 => ?_)
              refine ss none b7 hT35 0 #[.bool false, .slice (some ⟨V4.heap.size, 0, none⟩) 1 1, .int .i64 (((wd : Nat) : Int) * g.lo)] #[.bool false, .slice (some ⟨V4.heap.size, 0, none⟩) 1 1, .int .i64 (((wd : Nat) : Int) * g.lo)] ?_
              have boV7 := b7
              clear b7
              intro V7 hOV7 b7
              have hzV7 := hOV7.size
              refine sx_nil ?_
              refine sx_then ?_
              refine wp_seq ?_
              refine wp_seq ?_
              refine sx_region ?_
              refine sv 20 (.pointer (some ⟨V1.heap.size, 4, none⟩)) ?_
              replace b3 := (b3.past (hbV6.trans (hOV7.below (by omega))))
              refine sv 21 (.bool g.grad) ?_ (hr := (exec_ld (by kernel_rfl) (run_ld1 b3 hT4 4 (.bool g.grad) (by kernel_rfl))))
              refine sv 22 (.bool true) ?_ (hr := ((show _ = Result.ok (Next.value (.bool (!g.grad))) _ from (by kernel_rfl)).trans (congrArg (fun z => Result.ok (Next.value (.bool z)) _) (show (!g.grad) = true from by rw [hgr]; rfl))))
              refine sx_nil ?_
              refine sx_then ?_
              refine wp_cond_true (by kernel_rfl) ?_
              refine sx_region ?_
              refine sv 23 (.int .i64 ((wd : Nat) : Int)) ?_
              refine sv 24 (.pointer (some ⟨V1.heap.size, 2, none⟩)) ?_
              refine sv 25 (.int .i64 g.lo) ?_ (hr := (exec_ld (by kernel_rfl) (run_ld1 b3 hT3 2 (.int .i64 g.lo) (by kernel_rfl))))
              refine sv 26 (.pointer (some ⟨V1.heap.size, 1, none⟩)) ?_
              refine sv 27 (.int .i64 g.digs) ?_ (hr := (exec_ld (by kernel_rfl) (run_ld1 b3 hT3 1 (.int .i64 g.digs) (by kernel_rfl))))
              refine sv 28 (.int .i64 (g.lo + g.digs)) ?_ (hr := ((show _ = Result.ok (Next.value (.int .i64 (IntKind.wrap .i64 (g.lo + g.digs)))) _ by kernel_rfl).trans (congrArg (fun z => Result.ok (Next.value (.int .i64 z)) _) (IntWalk.i64_in _ (by omega)))))
              refine sv 29 (.int .i64 ((g.lo + g.digs) - 1)) ?_ (hr := ((show _ = Result.ok (Next.value (.int .i64 (IntKind.wrap .i64 ((g.lo + g.digs) - 1)))) _ by kernel_rfl).trans (congrArg (fun z => Result.ok (Next.value (.int .i64 z)) _) (IntWalk.i64_in _ (by omega)))))
              refine sv 30 (.int .i64 ((wd : Int) * (g.lo + g.digs - 1))) ?_ (hr := ((show _ = Result.ok (Next.value (.int .i64 (IntKind.wrap .i64 (((wd : Nat) : Int) * ((g.lo + g.digs) - 1))))) _ by kernel_rfl).trans (congrArg (fun z => Result.ok (Next.value (.int .i64 z)) _) (IntWalk.i64_in _ (by omega)))))
              refine sv 31 (.pointer (some ⟨V5.heap.size, 2, none⟩)) ?_
              refine ss1 none b7 hT3 2 (.int .i64 ((wd : Int) * (g.lo + g.digs - 1))) #[.bool false, .slice (some ⟨V4.heap.size, 0, none⟩) 1 1, .int .i64 ((wd : Int) * (g.lo + g.digs - 1))] ?_
              have boV8 := b7
              clear b7
              intro V8 hOV8 b7
              have hzV8 := hOV8.size
              refine sx_nil ?_
              refine sx_then ?_
              refine wp_seq ?_
              refine wp_seq ?_
              refine sx_region ?_
              refine sv 32 (.pointer (some ⟨w.heap.size, 1, none⟩)) ?_
              replace b2 := (b2.past (((bthru (bthru (bthru (bthru hbV2 hbV3) hbV4) hbV5) hbV6).trans (hOV7.below (by omega))).trans (hOV8.below (by omega))))
              refine sv 33 (.slice p (dig B16 m).length c) ?_ (hr := (exec_ld (by kernel_rfl) (run_ld1 b2 hT33 1 (.slice p (dig B16 m).length c) (by kernel_rfl))))
              refine sv 34 (.int .i64 (((dig B16 m).length : Nat) : Int)) ?_
              refine sv 35 (.bool false) ?_ (hr := ((show _ = Result.ok (Next.value (.bool ((((dig B16 m).length : Nat) : Int) == 0))) _ from (by kernel_rfl)).trans (congrArg (fun z => Result.ok (Next.value (.bool z)) _) (show ((((dig B16 m).length : Nat) : Int) == 0) = false from t35))))
              refine sx_nil ?_
              refine sx_then ?_
              refine wp_cond_false (by kernel_rfl) ?_
              refine wp_skip ?_
              refine sx_then ?_
              refine wp_seq ?_
              obtain ⟨V9, hVV9⟩ : ∃ V, V = (V8).drew := ⟨_, rfl⟩
              have hbV9 : Below (V8).heap.size (V8) V9 := by rw [hVV9]; exact (Below.refl _ _).drew
              have hzV9 : V9.heap.size = (V8).heap.size := by rw [hVV9]; rfl
              replace b2 := (b2.past hbV9)
              refine sxd _ (fun w' => Bt w' w.heap.size 35 #[.bool true, .slice p (dig B16 m).length c, .int .i64 e]) hVV9 b2 ?_
              clear hVV9
              refine tk 0 37 (.pointer (some ⟨w.heap.size, 2, none⟩)) b2 ?_
              refine tk 1 38 (.int .i64 e) b2 ?_ (hy := fun w' hS => (exec_ld (by kernel_rfl) (run_ld1 hS hT3 2 (.int .i64 e) (by kernel_rfl))))
              refine tk 2 39 (.pointer (some ⟨w.heap.size, 1, none⟩)) b2 ?_
              refine tk 3 40 (.slice p (dig B16 m).length c) b2 ?_ (hy := fun w' hS => (exec_ld (by kernel_rfl) (run_ld1 hS hT33 1 (.slice p (dig B16 m).length c) (by kernel_rfl))))
              refine sxr [4] ?_
              refine rd1 (fun Kx hKx => ?_)
              replace hp := (hp.past (bthru (((bthru (bthru (bthru (bthru (bthru hbV1 hbV2) hbV3) hbV4) hbV5) hbV6).trans (hOV7.below (by omega))).trans (hOV8.below (by omega))) hbV9))
              refine sek 41 43 #[.slice p (dig B16 m).length c] ?_
              ((with_reducible refine ((HRL _ hp.rd).out).mono ?_))
              rintro eV10 V10 ⟨rfl, hbV10⟩
              have hzV10 := hbV10.size
              refine ⟨.int .i64 ((L : Nat) : Int), rfl, ?_⟩
              replace b2 := (b2.past hbV10)
              refine hKx.out _ _ b2 ?_
              clear hKx Kx
              refine tk 5 42 (.int .i64 (e + (L : Int))) b2 ?_ (hy := fun w' _ => ((show _ = Result.ok (Next.value (.int .i64 (IntKind.wrap .i64 (e + ((L : Nat) : Int))))) _ by kernel_rfl).trans (congrArg (fun z => Result.ok (Next.value (.int .i64 z)) _) (IntWalk.i64_in _ (by omega)))))
              refine tk 6 8 (.int .i64 (e + (L : Int))) b2 ?_
              refine sx_done (by kernel_rfl) ?_
              refine sx_then ?_
              refine wp_seq ?_
              replace b3 := ((b3.only hOV8 (by omega)).past (bthru hbV9 hbV10))
              obtain ⟨V11, hVV11⟩ : ∃ V, V = (V10).drew := ⟨_, rfl⟩
              have hbV11 : Below (V10).heap.size (V10) V11 := by rw [hVV11]; exact (Below.refl _ _).drew
              have hzV11 : V11.heap.size = (V10).heap.size := by rw [hVV11]; rfl
              replace b3 := (b3.past hbV11)
              refine sxd _ (fun w' => Bt w' V1.heap.size 27 #[.int .i64 g.rad, .int .i64 g.digs, .int .i64 g.lo, .int .i64 g.hi, .bool g.grad]) hVV11 b3 ?_
              clear hVV11
              refine tk 0 43 (.pointer (some ⟨V1.heap.size, 2, none⟩)) b3 ?_
              refine tk 1 44 (.int .i64 g.lo) b3 ?_ (hy := fun w' hS => (exec_ld (by kernel_rfl) (run_ld1 hS hT3 2 (.int .i64 g.lo) (by kernel_rfl))))
              refine tk 2 45 (.int .i64 (e + (L : Int))) b3 ?_
              refine tk 3 46 (.int .i64 (e + (L : Int) - 1)) b3 ?_ (hy := fun w' _ => ((show _ = Result.ok (Next.value (.int .i64 (IntKind.wrap .i64 ((e + (L : Int)) - 1)))) _ by kernel_rfl).trans (congrArg (fun z => Result.ok (Next.value (.int .i64 z)) _) (IntWalk.i64_in _ (by omega)))))
              refine tk 4 47 (.int .i64 (e + (L : Int) - 1 + 80000)) b3 ?_ (hy := fun w' _ => ((show _ = Result.ok (Next.value (.int .i64 (IntKind.wrap .i64 ((e + (L : Int) - 1) + 80000)))) _ by kernel_rfl).trans (congrArg (fun z => Result.ok (Next.value (.int .i64 z)) _) (IntWalk.i64_in _ (by omega)))))
              refine tk 5 48 (.int .i64 ((wd : Nat) : Int)) b3 ?_
              refine tk 6 49 (.int .i64 ((e + (L : Int) - 1 + 80000) / (wd : Int))) b3 ?_ (hy := fun w' _ => (exec_quo ((e + (L : Int) - 1 + 80000) / (wd : Int)) (by kernel_rfl) (by kernel_rfl) (by omega) (Y2.out)))
              refine tk 7 50 (.int .i64 ((wd : Nat) : Int)) b3 ?_
              refine tk 8 51 (.int .i64 (80000 / (wd : Int))) b3 ?_ (hy := fun w' _ => (exec_quo (80000 / (wd : Int)) (by kernel_rfl) (by kernel_rfl) (by omega) (Y3.out)))
              refine tk 9 52 (.int .i64 ((e + (L : Int) - 1) / (wd : Int))) b3 ?_ (hy := fun w' _ => ((show _ = Result.ok (Next.value (.int .i64 (IntKind.wrap .i64 (((e + (L : Int) - 1 + 80000) / (wd : Int)) - (80000 / (wd : Int)))))) _ by kernel_rfl).trans (congrArg (fun z => Result.ok (Next.value (.int .i64 z)) _) (Y4.out))))
              refine tk 10 53 (.pointer (some ⟨V1.heap.size, 1, none⟩)) b3 ?_
              refine tk 11 54 (.int .i64 g.digs) b3 ?_ (hy := fun w' hS => (exec_ld (by kernel_rfl) (run_ld1 hS hT3 1 (.int .i64 g.digs) (by kernel_rfl))))
              refine tk 12 55 (.int .i64 ((e + (L : Int) - 1) / (wd : Int) - g.digs)) b3 ?_ (hy := fun w' _ => ((show _ = Result.ok (Next.value (.int .i64 (IntKind.wrap .i64 (((e + (L : Int) - 1) / (wd : Int)) - g.digs)))) _ by kernel_rfl).trans (congrArg (fun z => Result.ok (Next.value (.int .i64 z)) _) (IntWalk.i64_in _ (by omega)))))
              refine tk 13 56 (.int .i64 K0) b3 ?_ (hy := fun w' _ => ((show _ = Result.ok (Next.value (.int .i64 (IntKind.wrap .i64 (((e + (L : Int) - 1) / (wd : Int) - g.digs) + 1)))) _ by kernel_rfl).trans (congrArg (fun z => Result.ok (Next.value (.int .i64 z)) _) (Y6.out))))
              refine tk 14 57 (.int .i64 K) b3 ?_ (hy := fun w' _ => ((show _ = Result.ok (Next.value (.int .i64 (if ((K0) : Int) > (g.lo) then K0 else g.lo))) _ by kernel_rfl).trans (congrArg (fun z => Result.ok (Next.value (.int .i64 z)) _) (Y7.out))))
              refine tk 15 9 (.int .i64 K) b3 ?_
              refine sx_done (by kernel_rfl) ?_
              refine sx_then ?_
              refine wp_seq ?_
              refine wp_seq ?_
              refine sx_region ?_
              refine sv 58 (.pointer (some ⟨w.heap.size, 0, none⟩)) ?_
              replace b2 := (b2.past hbV11)
              refine sv 59 (.bool true) ?_ (hr := (exec_ld (by kernel_rfl) (run_ld1 b2 hT4 0 (.bool true) (by kernel_rfl))))
              refine sv 60 (.bool false) ?_
              refine sx_nil ?_
              refine sx_then ?_
              refine wp_cond_false (by kernel_rfl) ?_
              refine wp_skip ?_
              refine sx_then ?_
              refine wp_seq ?_
              refine sx_region ?_
              refine sv 72 (.agg #[.bool true, .slice p (dig B16 m).length c, .int .i64 e]) ?_ (hr := (exec_ld (by kernel_rfl) (run_ld b2 hT35 0 [.bool true, .slice p (dig B16 m).length c, .int .i64 e] (by kernel_rfl) (by kernel_rfl))))
              refine snv 73 (.slice (some ⟨V11.heap.size, 0, none⟩) 1 1) #[.int .i64 1] 3 (fun V12 hbV12 hzV12 b73 => ?_)
              have x73 := rf_one b73
              refine sv 74 (.int .i64 ((wd : Nat) : Int)) ?_
              refine sv 75 (.int .i64 K) ?_
              refine sv 76 (.int .i64 (K - 1)) ?_ (hr := ((show _ = Result.ok (Next.value (.int .i64 (IntKind.wrap .i64 (K - 1)))) _ by kernel_rfl).trans (congrArg (fun z => Result.ok (Next.value (.int .i64 z)) _) (IntWalk.i64_in _ (by omega)))))
              refine sv 77 (.int .i64 (((wd : Nat) : Int) * (K - 1))) ?_ (hr := ((show _ = Result.ok (Next.value (.int .i64 (IntKind.wrap .i64 (((wd : Nat) : Int) * (K - 1))))) _ by kernel_rfl).trans (congrArg (fun z => Result.ok (Next.value (.int .i64 z)) _) (IntWalk.i64_in _ (by omega)))))
              refine sv 78 (.agg #[.bool false, .slice (some ⟨V11.heap.size, 0, none⟩) 1 1, .int .i64 (((wd : Nat) : Int) * (K - 1))]) ?_
              replace hp := (hp.past (bthru (bthru hbV10 hbV11) hbV12))
              refine se 79 34 #[.agg #[.bool true, .slice p (dig B16 m).length c, .int .i64 e], .agg #[.bool false, .slice (some ⟨V11.heap.size, 0, none⟩) 1 1, .int .i64 (((wd : Nat) : Int) * (K - 1))]] (fun Gx hGx => ?_)
              ((with_reducible refine ((HPL1 _ _ 1 hp.rd x73.rd).out).mono ?_))
              rintro eV13 V13 ⟨p79, c79, rfl, hr_x79, hc_x79, hf_x79, hbV13⟩
              have hzV13 := hbV13.size
              have x79 := rf_of hr_x79 hc_x79 hf_x79
              clear hr_x79 hc_x79 hf_x79
              have lx79 := fun h => x79.lt h
              refine ⟨.agg #[.bool r1.neg, .slice p79 (dig B16 r1.m).length c79, .int .i64 r1.e], rfl, hGx _ _ ?_⟩
              clear hGx Gx
              refine sn 11 #[.bool false, .slice none 0 0, .int .i64 0] 35 (fun V14 hbV14 hzV14 b11 => ?_)
              refine ss none b11 hT35 0 #[.bool r1.neg, .slice p79 (dig B16 r1.m).length c79, .int .i64 r1.e] #[.bool r1.neg, .slice p79 (dig B16 r1.m).length c79, .int .i64 r1.e] ?_
              have boV15 := b11
              clear b11
              intro V15 hOV15 b11
              have hzV15 := hOV15.size
              refine sx_nil ?_
              refine sx_then ?_
              refine wp_seq ?_
              refine wp_seq ?_
              refine sx_region ?_
              refine sv 80 (.agg #[.bool r1.neg, .slice p79 (dig B16 r1.m).length c79, .int .i64 r1.e]) ?_ (hr := (exec_ld (by kernel_rfl) (run_ld b11 hT35 0 [.bool r1.neg, .slice p79 (dig B16 r1.m).length c79, .int .i64 r1.e] (by kernel_rfl) (by kernel_rfl))))
              replace b3 := (b3.past ((bthru (bthru hbV12 hbV13) hbV14).trans (hOV15.below (by omega))))
              refine sv 81 (.agg #[.int .i64 g.rad, .int .i64 g.digs, .int .i64 g.lo, .int .i64 g.hi, .bool g.grad]) ?_ (hr := (exec_ld (by kernel_rfl) (run_ld b3 hT27 0 [.int .i64 g.rad, .int .i64 g.digs, .int .i64 g.lo, .int .i64 g.hi, .bool g.grad] (by kernel_rfl) (by kernel_rfl))))
              replace x79 := (x79.past (hbV14.trans (hOV15.below (by omega))))
              refine se 82 21 #[.agg #[.bool r1.neg, .slice p79 (dig B16 r1.m).length c79, .int .i64 r1.e], .agg #[.int .i64 g.rad, .int .i64 g.digs, .int .i64 g.lo, .int .i64 g.hi, .bool g.grad]] (fun Gx hGx => ?_)
              ((with_reducible refine ((HI1 _ p79 c79 x79.rd).out).mono ?_))
              rintro eV16 V16 ⟨rfl, hbV16⟩
              have hzV16 := hbV16.size
              refine ⟨.bool true, rfl, hGx _ _ ?_⟩
              clear hGx Gx
              refine sv 83 (.bool true) ?_
              replace b2 := (b2.past (bthru ((bthru (bthru hbV12 hbV13) hbV14).trans (hOV15.below (by omega))) hbV16))
              refine sv 84 (.agg #[.bool true, .slice p (dig B16 m).length c, .int .i64 e]) ?_ (hr := (exec_ld (by kernel_rfl) (run_ld b2 hT35 0 [.bool true, .slice p (dig B16 m).length c, .int .i64 e] (by kernel_rfl) (by kernel_rfl))))
              replace b11 := (b11.past hbV16)
              refine sv 85 (.agg #[.bool r1.neg, .slice p79 (dig B16 r1.m).length c79, .int .i64 r1.e]) ?_ (hr := (exec_ld (by kernel_rfl) (run_ld b11 hT35 0 [.bool r1.neg, .slice p79 (dig B16 r1.m).length c79, .int .i64 r1.e] (by kernel_rfl) (by kernel_rfl))))
              replace hp := (hp.past (bthru ((bthru hbV13 hbV14).trans (hOV15.below (by omega))) hbV16))
              replace x79 := (x79.past hbV16)
              refine se 86 13 #[.agg #[.bool true, .slice p (dig B16 m).length c, .int .i64 e], .agg #[.bool r1.neg, .slice p79 (dig B16 r1.m).length c79, .int .i64 r1.e]] (fun Gx hGx => ?_)
              ((with_reducible refine ((HCM _ p79 c79 hp.rd x79.rd x79.cap).out).mono ?_))
              rintro eV17 V17 ⟨rfl, hbV17⟩
              have hzV17 := hbV17.size
              refine ⟨.int .i64 cm, rfl, hGx _ _ ?_⟩
              clear hGx Gx
              refine sv 87 (.bool false) ?_ (hr := ((show _ = Result.ok (Next.value (.bool (decide (cm < 0)))) _ from (by kernel_rfl)).trans (congrArg (fun z => Result.ok (Next.value (.bool z)) _) (show (decide (cm < 0)) = false from decide_eq_false c2))))
              refine sv 88 (.bool false) ?_
              refine sx_nil ?_
              refine sx_then ?_
              refine wp_cond_false (by kernel_rfl) ?_
              refine wp_skip ?_
              refine sx_then ?_
              refine wp_seq ?_
              refine sx_region ?_
              replace b2 := (b2.past hbV17)
              refine sv 90 (.agg #[.bool true, .slice p (dig B16 m).length c, .int .i64 e]) ?_ (hr := (exec_ld (by kernel_rfl) (run_ld b2 hT35 0 [.bool true, .slice p (dig B16 m).length c, .int .i64 e] (by kernel_rfl) (by kernel_rfl))))
              refine snv 91 (.slice (some ⟨V17.heap.size, 0, none⟩) 1 1) #[.int .i64 1] 3 (fun V18 hbV18 hzV18 b91 => ?_)
              have x91 := rf_one b91
              refine sv 92 (.int .i64 ((wd : Nat) : Int)) ?_
              refine sv 93 (.int .i64 K) ?_
              refine sv 94 (.int .i64 (((wd : Nat) : Int) * K)) ?_ (hr := ((show _ = Result.ok (Next.value (.int .i64 (IntKind.wrap .i64 (((wd : Nat) : Int) * K)))) _ by kernel_rfl).trans (congrArg (fun z => Result.ok (Next.value (.int .i64 z)) _) (IntWalk.i64_in _ (by omega)))))
              refine sv 95 (.agg #[.bool false, .slice (some ⟨V17.heap.size, 0, none⟩) 1 1, .int .i64 (((wd : Nat) : Int) * K)]) ?_
              replace hp := (hp.past (bthru hbV17 hbV18))
              refine se 96 34 #[.agg #[.bool true, .slice p (dig B16 m).length c, .int .i64 e], .agg #[.bool false, .slice (some ⟨V17.heap.size, 0, none⟩) 1 1, .int .i64 (((wd : Nat) : Int) * K)]] (fun Gx hGx => ?_)
              ((with_reducible refine ((HPL _ _ 1 hp.rd x91.rd).out).mono ?_))
              rintro eV19 V19 ⟨p96, c96, rfl, hr_x96, hc_x96, hf_x96, hbV19⟩
              have hzV19 := hbV19.size
              have x96 := rf_of hr_x96 hc_x96 hf_x96
              clear hr_x96 hc_x96 hf_x96
              have lx96 := fun h => x96.lt h
              refine ⟨.agg #[.bool r2.neg, .slice p96 (dig B16 r2.m).length c96, .int .i64 r2.e], rfl, hGx _ _ ?_⟩
              clear hGx Gx
              replace b11 := (b11.past (bthru (bthru hbV17 hbV18) hbV19))
              refine ss none b11 hT35 0 #[.bool r2.neg, .slice p96 (dig B16 r2.m).length c96, .int .i64 r2.e] #[.bool r2.neg, .slice p96 (dig B16 r2.m).length c96, .int .i64 r2.e] ?_
              have boV20 := b11
              clear b11
              intro V20 hOV20 b11
              have hzV20 := hOV20.size
              refine sx_nil ?_
              refine sx_then ?_
              refine wp_seq ?_
              refine wp_seq ?_
              refine sx_region ?_
              refine sv 97 (.agg #[.bool r2.neg, .slice p96 (dig B16 r2.m).length c96, .int .i64 r2.e]) ?_ (hr := (exec_ld (by kernel_rfl) (run_ld b11 hT35 0 [.bool r2.neg, .slice p96 (dig B16 r2.m).length c96, .int .i64 r2.e] (by kernel_rfl) (by kernel_rfl))))
              replace b3 := ((b3.past (bthru (bthru (bthru hbV16 hbV17) hbV18) hbV19)).only hOV20 (by omega))
              refine sv 98 (.agg #[.int .i64 g.rad, .int .i64 g.digs, .int .i64 g.lo, .int .i64 g.hi, .bool g.grad]) ?_ (hr := (exec_ld (by kernel_rfl) (run_ld b3 hT27 0 [.int .i64 g.rad, .int .i64 g.digs, .int .i64 g.lo, .int .i64 g.hi, .bool g.grad] (by kernel_rfl) (by kernel_rfl))))
              replace x96 := (x96.only hOV20 (fun h => by have := lx96 h; omega))
              refine se 99 21 #[.agg #[.bool r2.neg, .slice p96 (dig B16 r2.m).length c96, .int .i64 r2.e], .agg #[.int .i64 g.rad, .int .i64 g.digs, .int .i64 g.lo, .int .i64 g.hi, .bool g.grad]] (fun Gx hGx => ?_)
              ((with_reducible refine ((HI2 _ p96 c96 x96.rd).out).mono ?_))
              rintro eV21 V21 ⟨rfl, hbV21⟩
              have hzV21 := hbV21.size
              refine ⟨.bool true, rfl, hGx _ _ ?_⟩
              clear hGx Gx
              refine sx_nil ?_
              refine sx_then ?_
              refine wp_cond_true (by kernel_rfl) ?_
              refine wp_seq ?_
              refine sx_region ?_
              replace b11 := (b11.past hbV21)
              refine sv 100 (.agg #[.bool r2.neg, .slice p96 (dig B16 r2.m).length c96, .int .i64 r2.e]) ?_ (hr := (exec_ld (by kernel_rfl) (run_ld b11 hT35 0 [.bool r2.neg, .slice p96 (dig B16 r2.m).length c96, .int .i64 r2.e] (by kernel_rfl) (by kernel_rfl))))
              replace b4 := (b4.past (bthru ((bthru (bthru (bthru (bthru ((bthru (bthru (bthru (bthru (bthru (bthru (((bthru (bthru hbV4 hbV5) hbV6).trans (hOV7.below (by omega))).trans (hOV8.below (by omega))) hbV9) hbV10) hbV11) hbV12) hbV13) hbV14).trans (hOV15.below (by omega))) hbV16) hbV17) hbV18) hbV19).trans (hOV20.below (by omega))) hbV21))
              refine ss none b4 hT35 0 #[.bool r2.neg, .slice p96 (dig B16 r2.m).length c96, .int .i64 r2.e] #[.bool r2.neg, .slice p96 (dig B16 r2.m).length c96, .int .i64 r2.e] ?_
              have boV22 := b4
              clear b4
              intro V22 hOV22 b4
              have hzV22 := hOV22.size
              refine sv 5 (.bool true) ?_
              refine sx_nil ?_
              refine sx_then ?_
              refine wp_ret ?_
              have ⟨b4_0, b4_1, b4_2⟩ := b4.bx.e3
              repeat (first | with_reducible refine sx_thenret ?_ | with_reducible refine sx_blockret ?_)
              refine bodyPost_ret (v := .tuple #[.agg #[.bool r2.neg, .slice p96 (dig B16 r2.m).length c96, .int .i64 r2.e], .bool true]) (by simp [results, Tryd.results23, go_sem, b4_0, b4_1, b4_2]) rfl ?_
              replace x96 := ((x96.past hbV21).only hOV22 (fun h => by have := lx96 h; omega))
              exact ⟨_, _, rfl, x96.mono (by omega), ((bthru ((bthru (bthru (bthru (bthru ((bthru (bthru (bthru (bthru (bthru (bthru (((bthru (bthru (bthru (bthru (bthru hbV1 hbV2) hbV3) hbV4) hbV5) hbV6).trans (hOV7.below (by omega))).trans (hOV8.below (by omega))) hbV9) hbV10) hbV11) hbV12) hbV13) hbV14).trans (hOV15.below (by omega))) hbV16) hbV17) hbV18) hbV19).trans (hOV20.below (by omega))) hbV21).trans (hOV22.below (by omega)))⟩
            · replace c3 : i2 = false := by simpa using c3
              subst c3
              rw [if_neg (by simp)]
              have hT3 : SxOne Tryd.prog 3 := sxOne_of (by kernel_rfl) (by kernel_rfl)
              have hT4 : SxOne Tryd.prog 4 := sxOne_of (by kernel_rfl) (by kernel_rfl)
              have hT27 : SxAgg Tryd.prog 27 5 := sxAgg_of (by kernel_rfl) (by kernel_rfl)
              have hT33 : SxOne Tryd.prog 33 := sxOne_of (by kernel_rfl) (by kernel_rfl)
              have hT35 : SxAgg Tryd.prog 35 3 := sxAgg_of (by kernel_rfl) (by kernel_rfl)
              refine calls_of_wp Tryd.func23 rfl ?_
              refine sx_frame (a' := ⟨((.agg #[.bool true, .slice p (dig B16 m).length c, .int .i64 e]) :: (.agg #[.int .i64 g.rad, .int .i64 g.digs, .int .i64 g.lo, .int .i64 g.hi, .bool g.grad]) :: undef :: undef :: undef :: undef :: undef :: undef :: undef :: undef :: undef :: undef :: undef :: undef :: undef :: undef :: undef :: undef :: undef :: undef :: undef :: undef :: undef :: undef :: undef :: undef :: undef :: undef :: undef :: undef :: undef :: undef :: undef :: undef :: undef :: undef :: undef :: undef :: undef :: undef :: undef :: undef :: undef :: undef :: undef :: undef :: undef :: undef :: undef :: undef :: undef :: undef :: undef :: undef :: undef :: undef :: undef :: undef :: undef :: undef :: undef :: undef :: undef :: undef :: undef :: undef :: undef :: undef :: undef :: undef :: undef :: undef :: undef :: undef :: undef :: undef :: undef :: undef :: undef :: undef :: undef :: undef :: undef :: undef :: undef :: undef :: undef :: undef :: undef :: undef :: undef :: undef :: undef :: undef :: undef :: undef :: undef :: undef :: undef :: undef :: undef :: undef :: []).toArray, []⟩) (by kernel_rfl) ?_
              refine wp_seq ?_
              refine sx_region ?_
              refine sn 2 #[.bool true, .slice p (dig B16 m).length c, .int .i64 e] 35 (fun V1 hbV1 hzV1 b2 => ?_)
              refine sn 3 #[.int .i64 g.rad, .int .i64 g.digs, .int .i64 g.lo, .int .i64 g.hi, .bool g.grad] 27 (fun V2 hbV2 hzV2 b3 => ?_)
              refine sn 4 #[.bool false, .slice none 0 0, .int .i64 0] 35 (fun V3 hbV3 hzV3 b4 => ?_)
              refine sv 5 (.bool false) ?_
              refine sx_nil ?_
              refine sx_then ?_
              refine wp_seq ?_
              refine sx_region ?_
              replace b3 := (b3.past hbV3)
              refine sv 12 (.agg #[.int .i64 g.rad, .int .i64 g.digs, .int .i64 g.lo, .int .i64 g.hi, .bool g.grad]) ?_ (hr := (exec_ld (by kernel_rfl) (run_ld b3 hT27 0 [.int .i64 g.rad, .int .i64 g.digs, .int .i64 g.lo, .int .i64 g.hi, .bool g.grad] (by kernel_rfl) (by kernel_rfl))))
              refine se 13 42 #[.agg #[.int .i64 g.rad, .int .i64 g.digs, .int .i64 g.lo, .int .i64 g.hi, .bool g.grad]] (fun Gx hGx => ?_)
              ((with_reducible refine ((HWD _).out).mono ?_))
              rintro eV4 V4 ⟨rfl, hbV4⟩
              have hzV4 := hbV4.size
              refine ⟨.int .i64 ((wd : Nat) : Int), rfl, hGx _ _ ?_⟩
              clear hGx Gx
              refine sv 6 (.int .i64 ((wd : Nat) : Int)) ?_
              refine sx_nil ?_
              refine sx_then ?_
              refine wp_seq ?_
              refine sx_region ?_
              refine snv 14 (.slice (some ⟨V4.heap.size, 0, none⟩) 1 1) #[.int .i64 1] 3 (fun V5 hbV5 hzV5 b14 => ?_)
              have x14 := rf_one b14
              refine sv 15 (.int .i64 ((wd : Nat) : Int)) ?_
              refine sv 16 (.pointer (some ⟨V1.heap.size, 2, none⟩)) ?_
              replace b3 := (b3.past (bthru hbV4 hbV5))
              refine sv 17 (.int .i64 g.lo) ?_ (hr := (exec_ld (by kernel_rfl) (run_ld1 b3 hT3 2 (.int .i64 g.lo) (by kernel_rfl))))
              refine sv 18 (.int .i64 (((wd : Nat) : Int) * g.lo)) ?_ (hr := ((show _ = Result.ok (Next.value (.int .i64 (IntKind.wrap .i64 (((wd : Nat) : Int) * g.lo)))) _ by kernel_rfl).trans (congrArg (fun z => Result.ok (Next.value (.int .i64 z)) _) (IntWalk.i64_in _ (by omega)))))
              refine sv 19 (.agg #[.bool false, .slice (some ⟨V4.heap.size, 0, none⟩) 1 1, .int .i64 (((wd : Nat) : Int) * g.lo)]) ?_
              refine sn 7 #[.bool false, .slice none 0 0, .int .i64 0] 35 (fun V6 hbV6 hzV6 b7 => ?_)
              refine ss none b7 hT35 0 #[.bool false, .slice (some ⟨V4.heap.size, 0, none⟩) 1 1, .int .i64 (((wd : Nat) : Int) * g.lo)] #[.bool false, .slice (some ⟨V4.heap.size, 0, none⟩) 1 1, .int .i64 (((wd : Nat) : Int) * g.lo)] ?_
              have boV7 := b7
              clear b7
              intro V7 hOV7 b7
              have hzV7 := hOV7.size
              refine sx_nil ?_
              refine sx_then ?_
              refine wp_seq ?_
              refine wp_seq ?_
              refine sx_region ?_
              refine sv 20 (.pointer (some ⟨V1.heap.size, 4, none⟩)) ?_
              replace b3 := (b3.past (hbV6.trans (hOV7.below (by omega))))
              refine sv 21 (.bool g.grad) ?_ (hr := (exec_ld (by kernel_rfl) (run_ld1 b3 hT4 4 (.bool g.grad) (by kernel_rfl))))
              refine sv 22 (.bool true) ?_ (hr := ((show _ = Result.ok (Next.value (.bool (!g.grad))) _ from (by kernel_rfl)).trans (congrArg (fun z => Result.ok (Next.value (.bool z)) _) (show (!g.grad) = true from by rw [hgr]; rfl))))
              refine sx_nil ?_
              refine sx_then ?_
              refine wp_cond_true (by kernel_rfl) ?_
              refine sx_region ?_
              refine sv 23 (.int .i64 ((wd : Nat) : Int)) ?_
              refine sv 24 (.pointer (some ⟨V1.heap.size, 2, none⟩)) ?_
              refine sv 25 (.int .i64 g.lo) ?_ (hr := (exec_ld (by kernel_rfl) (run_ld1 b3 hT3 2 (.int .i64 g.lo) (by kernel_rfl))))
              refine sv 26 (.pointer (some ⟨V1.heap.size, 1, none⟩)) ?_
              refine sv 27 (.int .i64 g.digs) ?_ (hr := (exec_ld (by kernel_rfl) (run_ld1 b3 hT3 1 (.int .i64 g.digs) (by kernel_rfl))))
              refine sv 28 (.int .i64 (g.lo + g.digs)) ?_ (hr := ((show _ = Result.ok (Next.value (.int .i64 (IntKind.wrap .i64 (g.lo + g.digs)))) _ by kernel_rfl).trans (congrArg (fun z => Result.ok (Next.value (.int .i64 z)) _) (IntWalk.i64_in _ (by omega)))))
              refine sv 29 (.int .i64 ((g.lo + g.digs) - 1)) ?_ (hr := ((show _ = Result.ok (Next.value (.int .i64 (IntKind.wrap .i64 ((g.lo + g.digs) - 1)))) _ by kernel_rfl).trans (congrArg (fun z => Result.ok (Next.value (.int .i64 z)) _) (IntWalk.i64_in _ (by omega)))))
              refine sv 30 (.int .i64 ((wd : Int) * (g.lo + g.digs - 1))) ?_ (hr := ((show _ = Result.ok (Next.value (.int .i64 (IntKind.wrap .i64 (((wd : Nat) : Int) * ((g.lo + g.digs) - 1))))) _ by kernel_rfl).trans (congrArg (fun z => Result.ok (Next.value (.int .i64 z)) _) (IntWalk.i64_in _ (by omega)))))
              refine sv 31 (.pointer (some ⟨V5.heap.size, 2, none⟩)) ?_
              refine ss1 none b7 hT3 2 (.int .i64 ((wd : Int) * (g.lo + g.digs - 1))) #[.bool false, .slice (some ⟨V4.heap.size, 0, none⟩) 1 1, .int .i64 ((wd : Int) * (g.lo + g.digs - 1))] ?_
              have boV8 := b7
              clear b7
              intro V8 hOV8 b7
              have hzV8 := hOV8.size
              refine sx_nil ?_
              refine sx_then ?_
              refine wp_seq ?_
              refine wp_seq ?_
              refine sx_region ?_
              refine sv 32 (.pointer (some ⟨w.heap.size, 1, none⟩)) ?_
              replace b2 := (b2.past (((bthru (bthru (bthru (bthru hbV2 hbV3) hbV4) hbV5) hbV6).trans (hOV7.below (by omega))).trans (hOV8.below (by omega))))
              refine sv 33 (.slice p (dig B16 m).length c) ?_ (hr := (exec_ld (by kernel_rfl) (run_ld1 b2 hT33 1 (.slice p (dig B16 m).length c) (by kernel_rfl))))
              refine sv 34 (.int .i64 (((dig B16 m).length : Nat) : Int)) ?_
              refine sv 35 (.bool false) ?_ (hr := ((show _ = Result.ok (Next.value (.bool ((((dig B16 m).length : Nat) : Int) == 0))) _ from (by kernel_rfl)).trans (congrArg (fun z => Result.ok (Next.value (.bool z)) _) (show ((((dig B16 m).length : Nat) : Int) == 0) = false from t35))))
              refine sx_nil ?_
              refine sx_then ?_
              refine wp_cond_false (by kernel_rfl) ?_
              refine wp_skip ?_
              refine sx_then ?_
              refine wp_seq ?_
              obtain ⟨V9, hVV9⟩ : ∃ V, V = (V8).drew := ⟨_, rfl⟩
              have hbV9 : Below (V8).heap.size (V8) V9 := by rw [hVV9]; exact (Below.refl _ _).drew
              have hzV9 : V9.heap.size = (V8).heap.size := by rw [hVV9]; rfl
              replace b2 := (b2.past hbV9)
              refine sxd _ (fun w' => Bt w' w.heap.size 35 #[.bool true, .slice p (dig B16 m).length c, .int .i64 e]) hVV9 b2 ?_
              clear hVV9
              refine tk 0 37 (.pointer (some ⟨w.heap.size, 2, none⟩)) b2 ?_
              refine tk 1 38 (.int .i64 e) b2 ?_ (hy := fun w' hS => (exec_ld (by kernel_rfl) (run_ld1 hS hT3 2 (.int .i64 e) (by kernel_rfl))))
              refine tk 2 39 (.pointer (some ⟨w.heap.size, 1, none⟩)) b2 ?_
              refine tk 3 40 (.slice p (dig B16 m).length c) b2 ?_ (hy := fun w' hS => (exec_ld (by kernel_rfl) (run_ld1 hS hT33 1 (.slice p (dig B16 m).length c) (by kernel_rfl))))
              refine sxr [4] ?_
              refine rd1 (fun Kx hKx => ?_)
              replace hp := (hp.past (bthru (((bthru (bthru (bthru (bthru (bthru hbV1 hbV2) hbV3) hbV4) hbV5) hbV6).trans (hOV7.below (by omega))).trans (hOV8.below (by omega))) hbV9))
              refine sek 41 43 #[.slice p (dig B16 m).length c] ?_
              ((with_reducible refine ((HRL _ hp.rd).out).mono ?_))
              rintro eV10 V10 ⟨rfl, hbV10⟩
              have hzV10 := hbV10.size
              refine ⟨.int .i64 ((L : Nat) : Int), rfl, ?_⟩
              replace b2 := (b2.past hbV10)
              refine hKx.out _ _ b2 ?_
              clear hKx Kx
              refine tk 5 42 (.int .i64 (e + (L : Int))) b2 ?_ (hy := fun w' _ => ((show _ = Result.ok (Next.value (.int .i64 (IntKind.wrap .i64 (e + ((L : Nat) : Int))))) _ by kernel_rfl).trans (congrArg (fun z => Result.ok (Next.value (.int .i64 z)) _) (IntWalk.i64_in _ (by omega)))))
              refine tk 6 8 (.int .i64 (e + (L : Int))) b2 ?_
              refine sx_done (by kernel_rfl) ?_
              refine sx_then ?_
              refine wp_seq ?_
              replace b3 := ((b3.only hOV8 (by omega)).past (bthru hbV9 hbV10))
              obtain ⟨V11, hVV11⟩ : ∃ V, V = (V10).drew := ⟨_, rfl⟩
              have hbV11 : Below (V10).heap.size (V10) V11 := by rw [hVV11]; exact (Below.refl _ _).drew
              have hzV11 : V11.heap.size = (V10).heap.size := by rw [hVV11]; rfl
              replace b3 := (b3.past hbV11)
              refine sxd _ (fun w' => Bt w' V1.heap.size 27 #[.int .i64 g.rad, .int .i64 g.digs, .int .i64 g.lo, .int .i64 g.hi, .bool g.grad]) hVV11 b3 ?_
              clear hVV11
              refine tk 0 43 (.pointer (some ⟨V1.heap.size, 2, none⟩)) b3 ?_
              refine tk 1 44 (.int .i64 g.lo) b3 ?_ (hy := fun w' hS => (exec_ld (by kernel_rfl) (run_ld1 hS hT3 2 (.int .i64 g.lo) (by kernel_rfl))))
              refine tk 2 45 (.int .i64 (e + (L : Int))) b3 ?_
              refine tk 3 46 (.int .i64 (e + (L : Int) - 1)) b3 ?_ (hy := fun w' _ => ((show _ = Result.ok (Next.value (.int .i64 (IntKind.wrap .i64 ((e + (L : Int)) - 1)))) _ by kernel_rfl).trans (congrArg (fun z => Result.ok (Next.value (.int .i64 z)) _) (IntWalk.i64_in _ (by omega)))))
              refine tk 4 47 (.int .i64 (e + (L : Int) - 1 + 80000)) b3 ?_ (hy := fun w' _ => ((show _ = Result.ok (Next.value (.int .i64 (IntKind.wrap .i64 ((e + (L : Int) - 1) + 80000)))) _ by kernel_rfl).trans (congrArg (fun z => Result.ok (Next.value (.int .i64 z)) _) (IntWalk.i64_in _ (by omega)))))
              refine tk 5 48 (.int .i64 ((wd : Nat) : Int)) b3 ?_
              refine tk 6 49 (.int .i64 ((e + (L : Int) - 1 + 80000) / (wd : Int))) b3 ?_ (hy := fun w' _ => (exec_quo ((e + (L : Int) - 1 + 80000) / (wd : Int)) (by kernel_rfl) (by kernel_rfl) (by omega) (Y2.out)))
              refine tk 7 50 (.int .i64 ((wd : Nat) : Int)) b3 ?_
              refine tk 8 51 (.int .i64 (80000 / (wd : Int))) b3 ?_ (hy := fun w' _ => (exec_quo (80000 / (wd : Int)) (by kernel_rfl) (by kernel_rfl) (by omega) (Y3.out)))
              refine tk 9 52 (.int .i64 ((e + (L : Int) - 1) / (wd : Int))) b3 ?_ (hy := fun w' _ => ((show _ = Result.ok (Next.value (.int .i64 (IntKind.wrap .i64 (((e + (L : Int) - 1 + 80000) / (wd : Int)) - (80000 / (wd : Int)))))) _ by kernel_rfl).trans (congrArg (fun z => Result.ok (Next.value (.int .i64 z)) _) (Y4.out))))
              refine tk 10 53 (.pointer (some ⟨V1.heap.size, 1, none⟩)) b3 ?_
              refine tk 11 54 (.int .i64 g.digs) b3 ?_ (hy := fun w' hS => (exec_ld (by kernel_rfl) (run_ld1 hS hT3 1 (.int .i64 g.digs) (by kernel_rfl))))
              refine tk 12 55 (.int .i64 ((e + (L : Int) - 1) / (wd : Int) - g.digs)) b3 ?_ (hy := fun w' _ => ((show _ = Result.ok (Next.value (.int .i64 (IntKind.wrap .i64 (((e + (L : Int) - 1) / (wd : Int)) - g.digs)))) _ by kernel_rfl).trans (congrArg (fun z => Result.ok (Next.value (.int .i64 z)) _) (IntWalk.i64_in _ (by omega)))))
              refine tk 13 56 (.int .i64 K0) b3 ?_ (hy := fun w' _ => ((show _ = Result.ok (Next.value (.int .i64 (IntKind.wrap .i64 (((e + (L : Int) - 1) / (wd : Int) - g.digs) + 1)))) _ by kernel_rfl).trans (congrArg (fun z => Result.ok (Next.value (.int .i64 z)) _) (Y6.out))))
              refine tk 14 57 (.int .i64 K) b3 ?_ (hy := fun w' _ => ((show _ = Result.ok (Next.value (.int .i64 (if ((K0) : Int) > (g.lo) then K0 else g.lo))) _ by kernel_rfl).trans (congrArg (fun z => Result.ok (Next.value (.int .i64 z)) _) (Y7.out))))
              refine tk 15 9 (.int .i64 K) b3 ?_
              refine sx_done (by kernel_rfl) ?_
              refine sx_then ?_
              refine wp_seq ?_
              refine wp_seq ?_
              refine sx_region ?_
              refine sv 58 (.pointer (some ⟨w.heap.size, 0, none⟩)) ?_
              replace b2 := (b2.past hbV11)
              refine sv 59 (.bool true) ?_ (hr := (exec_ld (by kernel_rfl) (run_ld1 b2 hT4 0 (.bool true) (by kernel_rfl))))
              refine sv 60 (.bool false) ?_
              refine sx_nil ?_
              refine sx_then ?_
              refine wp_cond_false (by kernel_rfl) ?_
              refine wp_skip ?_
              refine sx_then ?_
              refine wp_seq ?_
              refine sx_region ?_
              refine sv 72 (.agg #[.bool true, .slice p (dig B16 m).length c, .int .i64 e]) ?_ (hr := (exec_ld (by kernel_rfl) (run_ld b2 hT35 0 [.bool true, .slice p (dig B16 m).length c, .int .i64 e] (by kernel_rfl) (by kernel_rfl))))
              refine snv 73 (.slice (some ⟨V11.heap.size, 0, none⟩) 1 1) #[.int .i64 1] 3 (fun V12 hbV12 hzV12 b73 => ?_)
              have x73 := rf_one b73
              refine sv 74 (.int .i64 ((wd : Nat) : Int)) ?_
              refine sv 75 (.int .i64 K) ?_
              refine sv 76 (.int .i64 (K - 1)) ?_ (hr := ((show _ = Result.ok (Next.value (.int .i64 (IntKind.wrap .i64 (K - 1)))) _ by kernel_rfl).trans (congrArg (fun z => Result.ok (Next.value (.int .i64 z)) _) (IntWalk.i64_in _ (by omega)))))
              refine sv 77 (.int .i64 (((wd : Nat) : Int) * (K - 1))) ?_ (hr := ((show _ = Result.ok (Next.value (.int .i64 (IntKind.wrap .i64 (((wd : Nat) : Int) * (K - 1))))) _ by kernel_rfl).trans (congrArg (fun z => Result.ok (Next.value (.int .i64 z)) _) (IntWalk.i64_in _ (by omega)))))
              refine sv 78 (.agg #[.bool false, .slice (some ⟨V11.heap.size, 0, none⟩) 1 1, .int .i64 (((wd : Nat) : Int) * (K - 1))]) ?_
              replace hp := (hp.past (bthru (bthru hbV10 hbV11) hbV12))
              refine se 79 34 #[.agg #[.bool true, .slice p (dig B16 m).length c, .int .i64 e], .agg #[.bool false, .slice (some ⟨V11.heap.size, 0, none⟩) 1 1, .int .i64 (((wd : Nat) : Int) * (K - 1))]] (fun Gx hGx => ?_)
              ((with_reducible refine ((HPL1 _ _ 1 hp.rd x73.rd).out).mono ?_))
              rintro eV13 V13 ⟨p79, c79, rfl, hr_x79, hc_x79, hf_x79, hbV13⟩
              have hzV13 := hbV13.size
              have x79 := rf_of hr_x79 hc_x79 hf_x79
              clear hr_x79 hc_x79 hf_x79
              have lx79 := fun h => x79.lt h
              refine ⟨.agg #[.bool r1.neg, .slice p79 (dig B16 r1.m).length c79, .int .i64 r1.e], rfl, hGx _ _ ?_⟩
              clear hGx Gx
              refine sn 11 #[.bool false, .slice none 0 0, .int .i64 0] 35 (fun V14 hbV14 hzV14 b11 => ?_)
              refine ss none b11 hT35 0 #[.bool r1.neg, .slice p79 (dig B16 r1.m).length c79, .int .i64 r1.e] #[.bool r1.neg, .slice p79 (dig B16 r1.m).length c79, .int .i64 r1.e] ?_
              have boV15 := b11
              clear b11
              intro V15 hOV15 b11
              have hzV15 := hOV15.size
              refine sx_nil ?_
              refine sx_then ?_
              refine wp_seq ?_
              refine wp_seq ?_
              refine sx_region ?_
              refine sv 80 (.agg #[.bool r1.neg, .slice p79 (dig B16 r1.m).length c79, .int .i64 r1.e]) ?_ (hr := (exec_ld (by kernel_rfl) (run_ld b11 hT35 0 [.bool r1.neg, .slice p79 (dig B16 r1.m).length c79, .int .i64 r1.e] (by kernel_rfl) (by kernel_rfl))))
              replace b3 := (b3.past ((bthru (bthru hbV12 hbV13) hbV14).trans (hOV15.below (by omega))))
              refine sv 81 (.agg #[.int .i64 g.rad, .int .i64 g.digs, .int .i64 g.lo, .int .i64 g.hi, .bool g.grad]) ?_ (hr := (exec_ld (by kernel_rfl) (run_ld b3 hT27 0 [.int .i64 g.rad, .int .i64 g.digs, .int .i64 g.lo, .int .i64 g.hi, .bool g.grad] (by kernel_rfl) (by kernel_rfl))))
              replace x79 := (x79.past (hbV14.trans (hOV15.below (by omega))))
              refine se 82 21 #[.agg #[.bool r1.neg, .slice p79 (dig B16 r1.m).length c79, .int .i64 r1.e], .agg #[.int .i64 g.rad, .int .i64 g.digs, .int .i64 g.lo, .int .i64 g.hi, .bool g.grad]] (fun Gx hGx => ?_)
              ((with_reducible refine ((HI1 _ p79 c79 x79.rd).out).mono ?_))
              rintro eV16 V16 ⟨rfl, hbV16⟩
              have hzV16 := hbV16.size
              refine ⟨.bool true, rfl, hGx _ _ ?_⟩
              clear hGx Gx
              refine sv 83 (.bool true) ?_
              replace b2 := (b2.past (bthru ((bthru (bthru hbV12 hbV13) hbV14).trans (hOV15.below (by omega))) hbV16))
              refine sv 84 (.agg #[.bool true, .slice p (dig B16 m).length c, .int .i64 e]) ?_ (hr := (exec_ld (by kernel_rfl) (run_ld b2 hT35 0 [.bool true, .slice p (dig B16 m).length c, .int .i64 e] (by kernel_rfl) (by kernel_rfl))))
              replace b11 := (b11.past hbV16)
              refine sv 85 (.agg #[.bool r1.neg, .slice p79 (dig B16 r1.m).length c79, .int .i64 r1.e]) ?_ (hr := (exec_ld (by kernel_rfl) (run_ld b11 hT35 0 [.bool r1.neg, .slice p79 (dig B16 r1.m).length c79, .int .i64 r1.e] (by kernel_rfl) (by kernel_rfl))))
              replace hp := (hp.past (bthru ((bthru hbV13 hbV14).trans (hOV15.below (by omega))) hbV16))
              replace x79 := (x79.past hbV16)
              refine se 86 13 #[.agg #[.bool true, .slice p (dig B16 m).length c, .int .i64 e], .agg #[.bool r1.neg, .slice p79 (dig B16 r1.m).length c79, .int .i64 r1.e]] (fun Gx hGx => ?_)
              ((with_reducible refine ((HCM _ p79 c79 hp.rd x79.rd x79.cap).out).mono ?_))
              rintro eV17 V17 ⟨rfl, hbV17⟩
              have hzV17 := hbV17.size
              refine ⟨.int .i64 cm, rfl, hGx _ _ ?_⟩
              clear hGx Gx
              refine sv 87 (.bool false) ?_ (hr := ((show _ = Result.ok (Next.value (.bool (decide (cm < 0)))) _ from (by kernel_rfl)).trans (congrArg (fun z => Result.ok (Next.value (.bool z)) _) (show (decide (cm < 0)) = false from decide_eq_false c2))))
              refine sv 88 (.bool false) ?_
              refine sx_nil ?_
              refine sx_then ?_
              refine wp_cond_false (by kernel_rfl) ?_
              refine wp_skip ?_
              refine sx_then ?_
              refine wp_seq ?_
              refine sx_region ?_
              replace b2 := (b2.past hbV17)
              refine sv 90 (.agg #[.bool true, .slice p (dig B16 m).length c, .int .i64 e]) ?_ (hr := (exec_ld (by kernel_rfl) (run_ld b2 hT35 0 [.bool true, .slice p (dig B16 m).length c, .int .i64 e] (by kernel_rfl) (by kernel_rfl))))
              refine snv 91 (.slice (some ⟨V17.heap.size, 0, none⟩) 1 1) #[.int .i64 1] 3 (fun V18 hbV18 hzV18 b91 => ?_)
              have x91 := rf_one b91
              refine sv 92 (.int .i64 ((wd : Nat) : Int)) ?_
              refine sv 93 (.int .i64 K) ?_
              refine sv 94 (.int .i64 (((wd : Nat) : Int) * K)) ?_ (hr := ((show _ = Result.ok (Next.value (.int .i64 (IntKind.wrap .i64 (((wd : Nat) : Int) * K)))) _ by kernel_rfl).trans (congrArg (fun z => Result.ok (Next.value (.int .i64 z)) _) (IntWalk.i64_in _ (by omega)))))
              refine sv 95 (.agg #[.bool false, .slice (some ⟨V17.heap.size, 0, none⟩) 1 1, .int .i64 (((wd : Nat) : Int) * K)]) ?_
              replace hp := (hp.past (bthru hbV17 hbV18))
              refine se 96 34 #[.agg #[.bool true, .slice p (dig B16 m).length c, .int .i64 e], .agg #[.bool false, .slice (some ⟨V17.heap.size, 0, none⟩) 1 1, .int .i64 (((wd : Nat) : Int) * K)]] (fun Gx hGx => ?_)
              ((with_reducible refine ((HPL _ _ 1 hp.rd x91.rd).out).mono ?_))
              rintro eV19 V19 ⟨p96, c96, rfl, hr_x96, hc_x96, hf_x96, hbV19⟩
              have hzV19 := hbV19.size
              have x96 := rf_of hr_x96 hc_x96 hf_x96
              clear hr_x96 hc_x96 hf_x96
              have lx96 := fun h => x96.lt h
              refine ⟨.agg #[.bool r2.neg, .slice p96 (dig B16 r2.m).length c96, .int .i64 r2.e], rfl, hGx _ _ ?_⟩
              clear hGx Gx
              replace b11 := (b11.past (bthru (bthru hbV17 hbV18) hbV19))
              refine ss none b11 hT35 0 #[.bool r2.neg, .slice p96 (dig B16 r2.m).length c96, .int .i64 r2.e] #[.bool r2.neg, .slice p96 (dig B16 r2.m).length c96, .int .i64 r2.e] ?_
              have boV20 := b11
              clear b11
              intro V20 hOV20 b11
              have hzV20 := hOV20.size
              refine sx_nil ?_
              refine sx_then ?_
              refine wp_seq ?_
              refine wp_seq ?_
              refine sx_region ?_
              refine sv 97 (.agg #[.bool r2.neg, .slice p96 (dig B16 r2.m).length c96, .int .i64 r2.e]) ?_ (hr := (exec_ld (by kernel_rfl) (run_ld b11 hT35 0 [.bool r2.neg, .slice p96 (dig B16 r2.m).length c96, .int .i64 r2.e] (by kernel_rfl) (by kernel_rfl))))
              replace b3 := ((b3.past (bthru (bthru (bthru hbV16 hbV17) hbV18) hbV19)).only hOV20 (by omega))
              refine sv 98 (.agg #[.int .i64 g.rad, .int .i64 g.digs, .int .i64 g.lo, .int .i64 g.hi, .bool g.grad]) ?_ (hr := (exec_ld (by kernel_rfl) (run_ld b3 hT27 0 [.int .i64 g.rad, .int .i64 g.digs, .int .i64 g.lo, .int .i64 g.hi, .bool g.grad] (by kernel_rfl) (by kernel_rfl))))
              replace x96 := (x96.only hOV20 (fun h => by have := lx96 h; omega))
              refine se 99 21 #[.agg #[.bool r2.neg, .slice p96 (dig B16 r2.m).length c96, .int .i64 r2.e], .agg #[.int .i64 g.rad, .int .i64 g.digs, .int .i64 g.lo, .int .i64 g.hi, .bool g.grad]] (fun Gx hGx => ?_)
              ((with_reducible refine ((HI2 _ p96 c96 x96.rd).out).mono ?_))
              rintro eV21 V21 ⟨rfl, hbV21⟩
              have hzV21 := hbV21.size
              refine ⟨.bool false, rfl, hGx _ _ ?_⟩
              clear hGx Gx
              refine sx_nil ?_
              refine sx_then ?_
              refine wp_cond_false (by kernel_rfl) ?_
              refine wp_skip ?_
              refine sx_then ?_
              refine wp_seq ?_
              refine sx_region ?_
              refine sv 101 (.agg #[.bool false, .slice none 0 0, .int .i64 0]) ?_
              replace b4 := (b4.past (bthru ((bthru (bthru (bthru (bthru ((bthru (bthru (bthru (bthru (bthru (bthru (((bthru (bthru hbV4 hbV5) hbV6).trans (hOV7.below (by omega))).trans (hOV8.below (by omega))) hbV9) hbV10) hbV11) hbV12) hbV13) hbV14).trans (hOV15.below (by omega))) hbV16) hbV17) hbV18) hbV19).trans (hOV20.below (by omega))) hbV21))
              refine ss none b4 hT35 0 #[.bool false, .slice none 0 0, .int .i64 0] #[.bool false, .slice none 0 0, .int .i64 0] ?_
              have boV22 := b4
              clear b4
              intro V22 hOV22 b4
              have hzV22 := hOV22.size
              refine sv 5 (.bool true) ?_
              refine sx_nil ?_
              refine sx_then ?_
              refine wp_ret ?_
              have ⟨b4_0, b4_1, b4_2⟩ := b4.bx.e3
              repeat (first | with_reducible refine sx_thenret ?_ | with_reducible refine sx_blockret ?_)
              refine bodyPost_ret (v := .tuple #[.agg #[.bool false, .slice none 0 0, .int .i64 0], .bool true]) (by simp [results, Tryd.results23, go_sem, b4_0, b4_1, b4_2]) rfl ?_
              exact ⟨none, 0, by simp only [dig_zero]; rfl, by simp only [dig_zero]; exact rf_nil _ _ _, ((bthru ((bthru (bthru (bthru (bthru ((bthru (bthru (bthru (bthru (bthru (bthru (((bthru (bthru (bthru (bthru (bthru hbV1 hbV2) hbV3) hbV4) hbV5) hbV6).trans (hOV7.below (by omega))).trans (hOV8.below (by omega))) hbV9) hbV10) hbV11) hbV12) hbV13) hbV14).trans (hOV15.below (by omega))) hbV16) hbV17) hbV18) hbV19).trans (hOV20.below (by omega))) hbV21).trans (hOV22.below (by omega)))⟩
        · replace c1 : i1 = false := by simpa using c1
          subst c1
          rw [if_neg (fun h => by cases h.1)]
          by_cases c3 : i2 = true
          · subst c3
            rw [if_pos rfl]
            have hT3 : SxOne Tryd.prog 3 := sxOne_of (by kernel_rfl) (by kernel_rfl)
            have hT4 : SxOne Tryd.prog 4 := sxOne_of (by kernel_rfl) (by kernel_rfl)
            have hT27 : SxAgg Tryd.prog 27 5 := sxAgg_of (by kernel_rfl) (by kernel_rfl)
            have hT33 : SxOne Tryd.prog 33 := sxOne_of (by kernel_rfl) (by kernel_rfl)
            have hT35 : SxAgg Tryd.prog 35 3 := sxAgg_of (by kernel_rfl) (by kernel_rfl)
            refine calls_of_wp Tryd.func23 rfl ?_
            refine sx_frame (a' := ⟨((.agg #[.bool true, .slice p (dig B16 m).length c, .int .i64 e]) :: (.agg #[.int .i64 g.rad, .int .i64 g.digs, .int .i64 g.lo, .int .i64 g.hi, .bool g.grad]) :: undef :: undef :: undef :: undef :: undef :: undef :: undef :: undef :: undef :: undef :: undef :: undef :: undef :: undef :: undef :: undef :: undef :: undef :: undef :: undef :: undef :: undef :: undef :: undef :: undef :: undef :: undef :: undef :: undef :: undef :: undef :: undef :: undef :: undef :: undef :: undef :: undef :: undef :: undef :: undef :: undef :: undef :: undef :: undef :: undef :: undef :: undef :: undef :: undef :: undef :: undef :: undef :: undef :: undef :: undef :: undef :: undef :: undef :: undef :: undef :: undef :: undef :: undef :: undef :: undef :: undef :: undef :: undef :: undef :: undef :: undef :: undef :: undef :: undef :: undef :: undef :: undef :: undef :: undef :: undef :: undef :: undef :: undef :: undef :: undef :: undef :: undef :: undef :: undef :: undef :: undef :: undef :: undef :: undef :: undef :: undef :: undef :: undef :: undef :: undef :: []).toArray, []⟩) (by kernel_rfl) ?_
            refine wp_seq ?_
            refine sx_region ?_
            refine sn 2 #[.bool true, .slice p (dig B16 m).length c, .int .i64 e] 35 (fun V1 hbV1 hzV1 b2 => ?_)
            refine sn 3 #[.int .i64 g.rad, .int .i64 g.digs, .int .i64 g.lo, .int .i64 g.hi, .bool g.grad] 27 (fun V2 hbV2 hzV2 b3 => ?_)
            refine sn 4 #[.bool false, .slice none 0 0, .int .i64 0] 35 (fun V3 hbV3 hzV3 b4 => ?_)
            refine sv 5 (.bool false) ?_
            refine sx_nil ?_
            refine sx_then ?_
            refine wp_seq ?_
            refine sx_region ?_
            replace b3 := (b3.past hbV3)
            refine sv 12 (.agg #[.int .i64 g.rad, .int .i64 g.digs, .int .i64 g.lo, .int .i64 g.hi, .bool g.grad]) ?_ (hr := (exec_ld (by kernel_rfl) (run_ld b3 hT27 0 [.int .i64 g.rad, .int .i64 g.digs, .int .i64 g.lo, .int .i64 g.hi, .bool g.grad] (by kernel_rfl) (by kernel_rfl))))
            refine se 13 42 #[.agg #[.int .i64 g.rad, .int .i64 g.digs, .int .i64 g.lo, .int .i64 g.hi, .bool g.grad]] (fun Gx hGx => ?_)
            ((with_reducible refine ((HWD _).out).mono ?_))
            rintro eV4 V4 ⟨rfl, hbV4⟩
            have hzV4 := hbV4.size
            refine ⟨.int .i64 ((wd : Nat) : Int), rfl, hGx _ _ ?_⟩
            clear hGx Gx
            refine sv 6 (.int .i64 ((wd : Nat) : Int)) ?_
            refine sx_nil ?_
            refine sx_then ?_
            refine wp_seq ?_
            refine sx_region ?_
            refine snv 14 (.slice (some ⟨V4.heap.size, 0, none⟩) 1 1) #[.int .i64 1] 3 (fun V5 hbV5 hzV5 b14 => ?_)
            have x14 := rf_one b14
            refine sv 15 (.int .i64 ((wd : Nat) : Int)) ?_
            refine sv 16 (.pointer (some ⟨V1.heap.size, 2, none⟩)) ?_
            replace b3 := (b3.past (bthru hbV4 hbV5))
            refine sv 17 (.int .i64 g.lo) ?_ (hr := (exec_ld (by kernel_rfl) (run_ld1 b3 hT3 2 (.int .i64 g.lo) (by kernel_rfl))))
            refine sv 18 (.int .i64 (((wd : Nat) : Int) * g.lo)) ?_ (hr := ((show _ = Result.ok (Next.value (.int .i64 (IntKind.wrap .i64 (((wd : Nat) : Int) * g.lo)))) _ by kernel_rfl).trans (congrArg (fun z => Result.ok (Next.value (.int .i64 z)) _) (IntWalk.i64_in _ (by omega)))))
            refine sv 19 (.agg #[.bool false, .slice (some ⟨V4.heap.size, 0, none⟩) 1 1, .int .i64 (((wd : Nat) : Int) * g.lo)]) ?_
            refine sn 7 #[.bool false, .slice none 0 0, .int .i64 0] 35 (fun V6 hbV6 hzV6 b7 => ?_)
            refine ss none b7 hT35 0 #[.bool false, .slice (some ⟨V4.heap.size, 0, none⟩) 1 1, .int .i64 (((wd : Nat) : Int) * g.lo)] #[.bool false, .slice (some ⟨V4.heap.size, 0, none⟩) 1 1, .int .i64 (((wd : Nat) : Int) * g.lo)] ?_
            have boV7 := b7
            clear b7
            intro V7 hOV7 b7
            have hzV7 := hOV7.size
            refine sx_nil ?_
            refine sx_then ?_
            refine wp_seq ?_
            refine wp_seq ?_
            refine sx_region ?_
            refine sv 20 (.pointer (some ⟨V1.heap.size, 4, none⟩)) ?_
            replace b3 := (b3.past (hbV6.trans (hOV7.below (by omega))))
            refine sv 21 (.bool g.grad) ?_ (hr := (exec_ld (by kernel_rfl) (run_ld1 b3 hT4 4 (.bool g.grad) (by kernel_rfl))))
            refine sv 22 (.bool true) ?_ (hr := ((show _ = Result.ok (Next.value (.bool (!g.grad))) _ from (by kernel_rfl)).trans (congrArg (fun z => Result.ok (Next.value (.bool z)) _) (show (!g.grad) = true from by rw [hgr]; rfl))))
            refine sx_nil ?_
            refine sx_then ?_
            refine wp_cond_true (by kernel_rfl) ?_
            refine sx_region ?_
            refine sv 23 (.int .i64 ((wd : Nat) : Int)) ?_
            refine sv 24 (.pointer (some ⟨V1.heap.size, 2, none⟩)) ?_
            refine sv 25 (.int .i64 g.lo) ?_ (hr := (exec_ld (by kernel_rfl) (run_ld1 b3 hT3 2 (.int .i64 g.lo) (by kernel_rfl))))
            refine sv 26 (.pointer (some ⟨V1.heap.size, 1, none⟩)) ?_
            refine sv 27 (.int .i64 g.digs) ?_ (hr := (exec_ld (by kernel_rfl) (run_ld1 b3 hT3 1 (.int .i64 g.digs) (by kernel_rfl))))
            refine sv 28 (.int .i64 (g.lo + g.digs)) ?_ (hr := ((show _ = Result.ok (Next.value (.int .i64 (IntKind.wrap .i64 (g.lo + g.digs)))) _ by kernel_rfl).trans (congrArg (fun z => Result.ok (Next.value (.int .i64 z)) _) (IntWalk.i64_in _ (by omega)))))
            refine sv 29 (.int .i64 ((g.lo + g.digs) - 1)) ?_ (hr := ((show _ = Result.ok (Next.value (.int .i64 (IntKind.wrap .i64 ((g.lo + g.digs) - 1)))) _ by kernel_rfl).trans (congrArg (fun z => Result.ok (Next.value (.int .i64 z)) _) (IntWalk.i64_in _ (by omega)))))
            refine sv 30 (.int .i64 ((wd : Int) * (g.lo + g.digs - 1))) ?_ (hr := ((show _ = Result.ok (Next.value (.int .i64 (IntKind.wrap .i64 (((wd : Nat) : Int) * ((g.lo + g.digs) - 1))))) _ by kernel_rfl).trans (congrArg (fun z => Result.ok (Next.value (.int .i64 z)) _) (IntWalk.i64_in _ (by omega)))))
            refine sv 31 (.pointer (some ⟨V5.heap.size, 2, none⟩)) ?_
            refine ss1 none b7 hT3 2 (.int .i64 ((wd : Int) * (g.lo + g.digs - 1))) #[.bool false, .slice (some ⟨V4.heap.size, 0, none⟩) 1 1, .int .i64 ((wd : Int) * (g.lo + g.digs - 1))] ?_
            have boV8 := b7
            clear b7
            intro V8 hOV8 b7
            have hzV8 := hOV8.size
            refine sx_nil ?_
            refine sx_then ?_
            refine wp_seq ?_
            refine wp_seq ?_
            refine sx_region ?_
            refine sv 32 (.pointer (some ⟨w.heap.size, 1, none⟩)) ?_
            replace b2 := (b2.past (((bthru (bthru (bthru (bthru hbV2 hbV3) hbV4) hbV5) hbV6).trans (hOV7.below (by omega))).trans (hOV8.below (by omega))))
            refine sv 33 (.slice p (dig B16 m).length c) ?_ (hr := (exec_ld (by kernel_rfl) (run_ld1 b2 hT33 1 (.slice p (dig B16 m).length c) (by kernel_rfl))))
            refine sv 34 (.int .i64 (((dig B16 m).length : Nat) : Int)) ?_
            refine sv 35 (.bool false) ?_ (hr := ((show _ = Result.ok (Next.value (.bool ((((dig B16 m).length : Nat) : Int) == 0))) _ from (by kernel_rfl)).trans (congrArg (fun z => Result.ok (Next.value (.bool z)) _) (show ((((dig B16 m).length : Nat) : Int) == 0) = false from t35))))
            refine sx_nil ?_
            refine sx_then ?_
            refine wp_cond_false (by kernel_rfl) ?_
            refine wp_skip ?_
            refine sx_then ?_
            refine wp_seq ?_
            obtain ⟨V9, hVV9⟩ : ∃ V, V = (V8).drew := ⟨_, rfl⟩
            have hbV9 : Below (V8).heap.size (V8) V9 := by rw [hVV9]; exact (Below.refl _ _).drew
            have hzV9 : V9.heap.size = (V8).heap.size := by rw [hVV9]; rfl
            replace b2 := (b2.past hbV9)
            refine sxd _ (fun w' => Bt w' w.heap.size 35 #[.bool true, .slice p (dig B16 m).length c, .int .i64 e]) hVV9 b2 ?_
            clear hVV9
            refine tk 0 37 (.pointer (some ⟨w.heap.size, 2, none⟩)) b2 ?_
            refine tk 1 38 (.int .i64 e) b2 ?_ (hy := fun w' hS => (exec_ld (by kernel_rfl) (run_ld1 hS hT3 2 (.int .i64 e) (by kernel_rfl))))
            refine tk 2 39 (.pointer (some ⟨w.heap.size, 1, none⟩)) b2 ?_
            refine tk 3 40 (.slice p (dig B16 m).length c) b2 ?_ (hy := fun w' hS => (exec_ld (by kernel_rfl) (run_ld1 hS hT33 1 (.slice p (dig B16 m).length c) (by kernel_rfl))))
            refine sxr [4] ?_
            refine rd1 (fun Kx hKx => ?_)
            replace hp := (hp.past (bthru (((bthru (bthru (bthru (bthru (bthru hbV1 hbV2) hbV3) hbV4) hbV5) hbV6).trans (hOV7.below (by omega))).trans (hOV8.below (by omega))) hbV9))
            refine sek 41 43 #[.slice p (dig B16 m).length c] ?_
            ((with_reducible refine ((HRL _ hp.rd).out).mono ?_))
            rintro eV10 V10 ⟨rfl, hbV10⟩
            have hzV10 := hbV10.size
            refine ⟨.int .i64 ((L : Nat) : Int), rfl, ?_⟩
            replace b2 := (b2.past hbV10)
            refine hKx.out _ _ b2 ?_
            clear hKx Kx
            refine tk 5 42 (.int .i64 (e + (L : Int))) b2 ?_ (hy := fun w' _ => ((show _ = Result.ok (Next.value (.int .i64 (IntKind.wrap .i64 (e + ((L : Nat) : Int))))) _ by kernel_rfl).trans (congrArg (fun z => Result.ok (Next.value (.int .i64 z)) _) (IntWalk.i64_in _ (by omega)))))
            refine tk 6 8 (.int .i64 (e + (L : Int))) b2 ?_
            refine sx_done (by kernel_rfl) ?_
            refine sx_then ?_
            refine wp_seq ?_
            replace b3 := ((b3.only hOV8 (by omega)).past (bthru hbV9 hbV10))
            obtain ⟨V11, hVV11⟩ : ∃ V, V = (V10).drew := ⟨_, rfl⟩
            have hbV11 : Below (V10).heap.size (V10) V11 := by rw [hVV11]; exact (Below.refl _ _).drew
            have hzV11 : V11.heap.size = (V10).heap.size := by rw [hVV11]; rfl
            replace b3 := (b3.past hbV11)
            refine sxd _ (fun w' => Bt w' V1.heap.size 27 #[.int .i64 g.rad, .int .i64 g.digs, .int .i64 g.lo, .int .i64 g.hi, .bool g.grad]) hVV11 b3 ?_
            clear hVV11
            refine tk 0 43 (.pointer (some ⟨V1.heap.size, 2, none⟩)) b3 ?_
            refine tk 1 44 (.int .i64 g.lo) b3 ?_ (hy := fun w' hS => (exec_ld (by kernel_rfl) (run_ld1 hS hT3 2 (.int .i64 g.lo) (by kernel_rfl))))
            refine tk 2 45 (.int .i64 (e + (L : Int))) b3 ?_
            refine tk 3 46 (.int .i64 (e + (L : Int) - 1)) b3 ?_ (hy := fun w' _ => ((show _ = Result.ok (Next.value (.int .i64 (IntKind.wrap .i64 ((e + (L : Int)) - 1)))) _ by kernel_rfl).trans (congrArg (fun z => Result.ok (Next.value (.int .i64 z)) _) (IntWalk.i64_in _ (by omega)))))
            refine tk 4 47 (.int .i64 (e + (L : Int) - 1 + 80000)) b3 ?_ (hy := fun w' _ => ((show _ = Result.ok (Next.value (.int .i64 (IntKind.wrap .i64 ((e + (L : Int) - 1) + 80000)))) _ by kernel_rfl).trans (congrArg (fun z => Result.ok (Next.value (.int .i64 z)) _) (IntWalk.i64_in _ (by omega)))))
            refine tk 5 48 (.int .i64 ((wd : Nat) : Int)) b3 ?_
            refine tk 6 49 (.int .i64 ((e + (L : Int) - 1 + 80000) / (wd : Int))) b3 ?_ (hy := fun w' _ => (exec_quo ((e + (L : Int) - 1 + 80000) / (wd : Int)) (by kernel_rfl) (by kernel_rfl) (by omega) (Y2.out)))
            refine tk 7 50 (.int .i64 ((wd : Nat) : Int)) b3 ?_
            refine tk 8 51 (.int .i64 (80000 / (wd : Int))) b3 ?_ (hy := fun w' _ => (exec_quo (80000 / (wd : Int)) (by kernel_rfl) (by kernel_rfl) (by omega) (Y3.out)))
            refine tk 9 52 (.int .i64 ((e + (L : Int) - 1) / (wd : Int))) b3 ?_ (hy := fun w' _ => ((show _ = Result.ok (Next.value (.int .i64 (IntKind.wrap .i64 (((e + (L : Int) - 1 + 80000) / (wd : Int)) - (80000 / (wd : Int)))))) _ by kernel_rfl).trans (congrArg (fun z => Result.ok (Next.value (.int .i64 z)) _) (Y4.out))))
            refine tk 10 53 (.pointer (some ⟨V1.heap.size, 1, none⟩)) b3 ?_
            refine tk 11 54 (.int .i64 g.digs) b3 ?_ (hy := fun w' hS => (exec_ld (by kernel_rfl) (run_ld1 hS hT3 1 (.int .i64 g.digs) (by kernel_rfl))))
            refine tk 12 55 (.int .i64 ((e + (L : Int) - 1) / (wd : Int) - g.digs)) b3 ?_ (hy := fun w' _ => ((show _ = Result.ok (Next.value (.int .i64 (IntKind.wrap .i64 (((e + (L : Int) - 1) / (wd : Int)) - g.digs)))) _ by kernel_rfl).trans (congrArg (fun z => Result.ok (Next.value (.int .i64 z)) _) (IntWalk.i64_in _ (by omega)))))
            refine tk 13 56 (.int .i64 K0) b3 ?_ (hy := fun w' _ => ((show _ = Result.ok (Next.value (.int .i64 (IntKind.wrap .i64 (((e + (L : Int) - 1) / (wd : Int) - g.digs) + 1)))) _ by kernel_rfl).trans (congrArg (fun z => Result.ok (Next.value (.int .i64 z)) _) (Y6.out))))
            refine tk 14 57 (.int .i64 K) b3 ?_ (hy := fun w' _ => ((show _ = Result.ok (Next.value (.int .i64 (if ((K0) : Int) > (g.lo) then K0 else g.lo))) _ by kernel_rfl).trans (congrArg (fun z => Result.ok (Next.value (.int .i64 z)) _) (Y7.out))))
            refine tk 15 9 (.int .i64 K) b3 ?_
            refine sx_done (by kernel_rfl) ?_
            refine sx_then ?_
            refine wp_seq ?_
            refine wp_seq ?_
            refine sx_region ?_
            refine sv 58 (.pointer (some ⟨w.heap.size, 0, none⟩)) ?_
            replace b2 := (b2.past hbV11)
            refine sv 59 (.bool true) ?_ (hr := (exec_ld (by kernel_rfl) (run_ld1 b2 hT4 0 (.bool true) (by kernel_rfl))))
            refine sv 60 (.bool false) ?_
            refine sx_nil ?_
            refine sx_then ?_
            refine wp_cond_false (by kernel_rfl) ?_
            refine wp_skip ?_
            refine sx_then ?_
            refine wp_seq ?_
            refine sx_region ?_
            refine sv 72 (.agg #[.bool true, .slice p (dig B16 m).length c, .int .i64 e]) ?_ (hr := (exec_ld (by kernel_rfl) (run_ld b2 hT35 0 [.bool true, .slice p (dig B16 m).length c, .int .i64 e] (by kernel_rfl) (by kernel_rfl))))
            refine snv 73 (.slice (some ⟨V11.heap.size, 0, none⟩) 1 1) #[.int .i64 1] 3 (fun V12 hbV12 hzV12 b73 => ?_)
            have x73 := rf_one b73
            refine sv 74 (.int .i64 ((wd : Nat) : Int)) ?_
            refine sv 75 (.int .i64 K) ?_
            refine sv 76 (.int .i64 (K - 1)) ?_ (hr := ((show _ = Result.ok (Next.value (.int .i64 (IntKind.wrap .i64 (K - 1)))) _ by kernel_rfl).trans (congrArg (fun z => Result.ok (Next.value (.int .i64 z)) _) (IntWalk.i64_in _ (by omega)))))
            refine sv 77 (.int .i64 (((wd : Nat) : Int) * (K - 1))) ?_ (hr := ((show _ = Result.ok (Next.value (.int .i64 (IntKind.wrap .i64 (((wd : Nat) : Int) * (K - 1))))) _ by kernel_rfl).trans (congrArg (fun z => Result.ok (Next.value (.int .i64 z)) _) (IntWalk.i64_in _ (by omega)))))
            refine sv 78 (.agg #[.bool false, .slice (some ⟨V11.heap.size, 0, none⟩) 1 1, .int .i64 (((wd : Nat) : Int) * (K - 1))]) ?_
            replace hp := (hp.past (bthru (bthru hbV10 hbV11) hbV12))
            refine se 79 34 #[.agg #[.bool true, .slice p (dig B16 m).length c, .int .i64 e], .agg #[.bool false, .slice (some ⟨V11.heap.size, 0, none⟩) 1 1, .int .i64 (((wd : Nat) : Int) * (K - 1))]] (fun Gx hGx => ?_)
            ((with_reducible refine ((HPL1 _ _ 1 hp.rd x73.rd).out).mono ?_))
            rintro eV13 V13 ⟨p79, c79, rfl, hr_x79, hc_x79, hf_x79, hbV13⟩
            have hzV13 := hbV13.size
            have x79 := rf_of hr_x79 hc_x79 hf_x79
            clear hr_x79 hc_x79 hf_x79
            have lx79 := fun h => x79.lt h
            refine ⟨.agg #[.bool r1.neg, .slice p79 (dig B16 r1.m).length c79, .int .i64 r1.e], rfl, hGx _ _ ?_⟩
            clear hGx Gx
            refine sn 11 #[.bool false, .slice none 0 0, .int .i64 0] 35 (fun V14 hbV14 hzV14 b11 => ?_)
            refine ss none b11 hT35 0 #[.bool r1.neg, .slice p79 (dig B16 r1.m).length c79, .int .i64 r1.e] #[.bool r1.neg, .slice p79 (dig B16 r1.m).length c79, .int .i64 r1.e] ?_
            have boV15 := b11
            clear b11
            intro V15 hOV15 b11
            have hzV15 := hOV15.size
            refine sx_nil ?_
            refine sx_then ?_
            refine wp_seq ?_
            refine wp_seq ?_
            refine sx_region ?_
            refine sv 80 (.agg #[.bool r1.neg, .slice p79 (dig B16 r1.m).length c79, .int .i64 r1.e]) ?_ (hr := (exec_ld (by kernel_rfl) (run_ld b11 hT35 0 [.bool r1.neg, .slice p79 (dig B16 r1.m).length c79, .int .i64 r1.e] (by kernel_rfl) (by kernel_rfl))))
            replace b3 := (b3.past ((bthru (bthru hbV12 hbV13) hbV14).trans (hOV15.below (by omega))))
            refine sv 81 (.agg #[.int .i64 g.rad, .int .i64 g.digs, .int .i64 g.lo, .int .i64 g.hi, .bool g.grad]) ?_ (hr := (exec_ld (by kernel_rfl) (run_ld b3 hT27 0 [.int .i64 g.rad, .int .i64 g.digs, .int .i64 g.lo, .int .i64 g.hi, .bool g.grad] (by kernel_rfl) (by kernel_rfl))))
            replace x79 := (x79.past (hbV14.trans (hOV15.below (by omega))))
            refine se 82 21 #[.agg #[.bool r1.neg, .slice p79 (dig B16 r1.m).length c79, .int .i64 r1.e], .agg #[.int .i64 g.rad, .int .i64 g.digs, .int .i64 g.lo, .int .i64 g.hi, .bool g.grad]] (fun Gx hGx => ?_)
            ((with_reducible refine ((HI1 _ p79 c79 x79.rd).out).mono ?_))
            rintro eV16 V16 ⟨rfl, hbV16⟩
            have hzV16 := hbV16.size
            refine ⟨.bool false, rfl, hGx _ _ ?_⟩
            clear hGx Gx
            refine sv 83 (.bool false) ?_
            refine so (some 84) ?_
            refine so (some 85) ?_
            refine so (some 86) ?_
            refine so (some 87) ?_
            refine sv 88 (.bool false) ?_
            refine sx_nil ?_
            refine sx_then ?_
            refine wp_cond_false (by kernel_rfl) ?_
            refine wp_skip ?_
            refine sx_then ?_
            refine wp_seq ?_
            refine sx_region ?_
            replace b2 := (b2.past (bthru ((bthru (bthru hbV12 hbV13) hbV14).trans (hOV15.below (by omega))) hbV16))
            refine sv 90 (.agg #[.bool true, .slice p (dig B16 m).length c, .int .i64 e]) ?_ (hr := (exec_ld (by kernel_rfl) (run_ld b2 hT35 0 [.bool true, .slice p (dig B16 m).length c, .int .i64 e] (by kernel_rfl) (by kernel_rfl))))
            refine snv 91 (.slice (some ⟨V16.heap.size, 0, none⟩) 1 1) #[.int .i64 1] 3 (fun V17 hbV17 hzV17 b91 => ?_)
            have x91 := rf_one b91
            refine sv 92 (.int .i64 ((wd : Nat) : Int)) ?_
            refine sv 93 (.int .i64 K) ?_
            refine sv 94 (.int .i64 (((wd : Nat) : Int) * K)) ?_ (hr := ((show _ = Result.ok (Next.value (.int .i64 (IntKind.wrap .i64 (((wd : Nat) : Int) * K)))) _ by kernel_rfl).trans (congrArg (fun z => Result.ok (Next.value (.int .i64 z)) _) (IntWalk.i64_in _ (by omega)))))
            refine sv 95 (.agg #[.bool false, .slice (some ⟨V16.heap.size, 0, none⟩) 1 1, .int .i64 (((wd : Nat) : Int) * K)]) ?_
            replace hp := (hp.past (bthru (bthru ((bthru hbV13 hbV14).trans (hOV15.below (by omega))) hbV16) hbV17))
            refine se 96 34 #[.agg #[.bool true, .slice p (dig B16 m).length c, .int .i64 e], .agg #[.bool false, .slice (some ⟨V16.heap.size, 0, none⟩) 1 1, .int .i64 (((wd : Nat) : Int) * K)]] (fun Gx hGx => ?_)
            ((with_reducible refine ((HPL _ _ 1 hp.rd x91.rd).out).mono ?_))
            rintro eV18 V18 ⟨p96, c96, rfl, hr_x96, hc_x96, hf_x96, hbV18⟩
            have hzV18 := hbV18.size
            have x96 := rf_of hr_x96 hc_x96 hf_x96
            clear hr_x96 hc_x96 hf_x96
            have lx96 := fun h => x96.lt h
            refine ⟨.agg #[.bool r2.neg, .slice p96 (dig B16 r2.m).length c96, .int .i64 r2.e], rfl, hGx _ _ ?_⟩
            clear hGx Gx
            replace b11 := (b11.past (bthru (bthru hbV16 hbV17) hbV18))
            refine ss none b11 hT35 0 #[.bool r2.neg, .slice p96 (dig B16 r2.m).length c96, .int .i64 r2.e] #[.bool r2.neg, .slice p96 (dig B16 r2.m).length c96, .int .i64 r2.e] ?_
            have boV19 := b11
            clear b11
            intro V19 hOV19 b11
            have hzV19 := hOV19.size
            refine sx_nil ?_
            refine sx_then ?_
            refine wp_seq ?_
            refine wp_seq ?_
            refine sx_region ?_
            refine sv 97 (.agg #[.bool r2.neg, .slice p96 (dig B16 r2.m).length c96, .int .i64 r2.e]) ?_ (hr := (exec_ld (by kernel_rfl) (run_ld b11 hT35 0 [.bool r2.neg, .slice p96 (dig B16 r2.m).length c96, .int .i64 r2.e] (by kernel_rfl) (by kernel_rfl))))
            replace b3 := ((b3.past (bthru (bthru hbV16 hbV17) hbV18)).only hOV19 (by omega))
            refine sv 98 (.agg #[.int .i64 g.rad, .int .i64 g.digs, .int .i64 g.lo, .int .i64 g.hi, .bool g.grad]) ?_ (hr := (exec_ld (by kernel_rfl) (run_ld b3 hT27 0 [.int .i64 g.rad, .int .i64 g.digs, .int .i64 g.lo, .int .i64 g.hi, .bool g.grad] (by kernel_rfl) (by kernel_rfl))))
            replace x96 := (x96.only hOV19 (fun h => by have := lx96 h; omega))
            refine se 99 21 #[.agg #[.bool r2.neg, .slice p96 (dig B16 r2.m).length c96, .int .i64 r2.e], .agg #[.int .i64 g.rad, .int .i64 g.digs, .int .i64 g.lo, .int .i64 g.hi, .bool g.grad]] (fun Gx hGx => ?_)
            ((with_reducible refine ((HI2 _ p96 c96 x96.rd).out).mono ?_))
            rintro eV20 V20 ⟨rfl, hbV20⟩
            have hzV20 := hbV20.size
            refine ⟨.bool true, rfl, hGx _ _ ?_⟩
            clear hGx Gx
            refine sx_nil ?_
            refine sx_then ?_
            refine wp_cond_true (by kernel_rfl) ?_
            refine wp_seq ?_
            refine sx_region ?_
            replace b11 := (b11.past hbV20)
            refine sv 100 (.agg #[.bool r2.neg, .slice p96 (dig B16 r2.m).length c96, .int .i64 r2.e]) ?_ (hr := (exec_ld (by kernel_rfl) (run_ld b11 hT35 0 [.bool r2.neg, .slice p96 (dig B16 r2.m).length c96, .int .i64 r2.e] (by kernel_rfl) (by kernel_rfl))))
            replace b4 := (b4.past (bthru ((bthru (bthru (bthru ((bthru (bthru (bthru (bthru (bthru (bthru (((bthru (bthru hbV4 hbV5) hbV6).trans (hOV7.below (by omega))).trans (hOV8.below (by omega))) hbV9) hbV10) hbV11) hbV12) hbV13) hbV14).trans (hOV15.below (by omega))) hbV16) hbV17) hbV18).trans (hOV19.below (by omega))) hbV20))
            refine ss none b4 hT35 0 #[.bool r2.neg, .slice p96 (dig B16 r2.m).length c96, .int .i64 r2.e] #[.bool r2.neg, .slice p96 (dig B16 r2.m).length c96, .int .i64 r2.e] ?_
            have boV21 := b4
            clear b4
            intro V21 hOV21 b4
            have hzV21 := hOV21.size
            refine sv 5 (.bool true) ?_
            refine sx_nil ?_
            refine sx_then ?_
            refine wp_ret ?_
            have ⟨b4_0, b4_1, b4_2⟩ := b4.bx.e3
            repeat (first | with_reducible refine sx_thenret ?_ | with_reducible refine sx_blockret ?_)
            refine bodyPost_ret (v := .tuple #[.agg #[.bool r2.neg, .slice p96 (dig B16 r2.m).length c96, .int .i64 r2.e], .bool true]) (by simp [results, Tryd.results23, go_sem, b4_0, b4_1, b4_2]) rfl ?_
            replace x96 := ((x96.past hbV20).only hOV21 (fun h => by have := lx96 h; omega))
            exact ⟨_, _, rfl, x96.mono (by omega), ((bthru ((bthru (bthru (bthru ((bthru (bthru (bthru (bthru (bthru (bthru (((bthru (bthru (bthru (bthru (bthru hbV1 hbV2) hbV3) hbV4) hbV5) hbV6).trans (hOV7.below (by omega))).trans (hOV8.below (by omega))) hbV9) hbV10) hbV11) hbV12) hbV13) hbV14).trans (hOV15.below (by omega))) hbV16) hbV17) hbV18).trans (hOV19.below (by omega))) hbV20).trans (hOV21.below (by omega)))⟩
          · replace c3 : i2 = false := by simpa using c3
            subst c3
            rw [if_neg (by simp)]
            have hT3 : SxOne Tryd.prog 3 := sxOne_of (by kernel_rfl) (by kernel_rfl)
            have hT4 : SxOne Tryd.prog 4 := sxOne_of (by kernel_rfl) (by kernel_rfl)
            have hT27 : SxAgg Tryd.prog 27 5 := sxAgg_of (by kernel_rfl) (by kernel_rfl)
            have hT33 : SxOne Tryd.prog 33 := sxOne_of (by kernel_rfl) (by kernel_rfl)
            have hT35 : SxAgg Tryd.prog 35 3 := sxAgg_of (by kernel_rfl) (by kernel_rfl)
            refine calls_of_wp Tryd.func23 rfl ?_
            refine sx_frame (a' := ⟨((.agg #[.bool true, .slice p (dig B16 m).length c, .int .i64 e]) :: (.agg #[.int .i64 g.rad, .int .i64 g.digs, .int .i64 g.lo, .int .i64 g.hi, .bool g.grad]) :: undef :: undef :: undef :: undef :: undef :: undef :: undef :: undef :: undef :: undef :: undef :: undef :: undef :: undef :: undef :: undef :: undef :: undef :: undef :: undef :: undef :: undef :: undef :: undef :: undef :: undef :: undef :: undef :: undef :: undef :: undef :: undef :: undef :: undef :: undef :: undef :: undef :: undef :: undef :: undef :: undef :: undef :: undef :: undef :: undef :: undef :: undef :: undef :: undef :: undef :: undef :: undef :: undef :: undef :: undef :: undef :: undef :: undef :: undef :: undef :: undef :: undef :: undef :: undef :: undef :: undef :: undef :: undef :: undef :: undef :: undef :: undef :: undef :: undef :: undef :: undef :: undef :: undef :: undef :: undef :: undef :: undef :: undef :: undef :: undef :: undef :: undef :: undef :: undef :: undef :: undef :: undef :: undef :: undef :: undef :: undef :: undef :: undef :: undef :: undef :: []).toArray, []⟩) (by kernel_rfl) ?_
            refine wp_seq ?_
            refine sx_region ?_
            refine sn 2 #[.bool true, .slice p (dig B16 m).length c, .int .i64 e] 35 (fun V1 hbV1 hzV1 b2 => ?_)
            refine sn 3 #[.int .i64 g.rad, .int .i64 g.digs, .int .i64 g.lo, .int .i64 g.hi, .bool g.grad] 27 (fun V2 hbV2 hzV2 b3 => ?_)
            refine sn 4 #[.bool false, .slice none 0 0, .int .i64 0] 35 (fun V3 hbV3 hzV3 b4 => ?_)
            refine sv 5 (.bool false) ?_
            refine sx_nil ?_
            refine sx_then ?_
            refine wp_seq ?_
            refine sx_region ?_
            replace b3 := (b3.past hbV3)
            refine sv 12 (.agg #[.int .i64 g.rad, .int .i64 g.digs, .int .i64 g.lo, .int .i64 g.hi, .bool g.grad]) ?_ (hr := (exec_ld (by kernel_rfl) (run_ld b3 hT27 0 [.int .i64 g.rad, .int .i64 g.digs, .int .i64 g.lo, .int .i64 g.hi, .bool g.grad] (by kernel_rfl) (by kernel_rfl))))
            refine se 13 42 #[.agg #[.int .i64 g.rad, .int .i64 g.digs, .int .i64 g.lo, .int .i64 g.hi, .bool g.grad]] (fun Gx hGx => ?_)
            ((with_reducible refine ((HWD _).out).mono ?_))
            rintro eV4 V4 ⟨rfl, hbV4⟩
            have hzV4 := hbV4.size
            refine ⟨.int .i64 ((wd : Nat) : Int), rfl, hGx _ _ ?_⟩
            clear hGx Gx
            refine sv 6 (.int .i64 ((wd : Nat) : Int)) ?_
            refine sx_nil ?_
            refine sx_then ?_
            refine wp_seq ?_
            refine sx_region ?_
            refine snv 14 (.slice (some ⟨V4.heap.size, 0, none⟩) 1 1) #[.int .i64 1] 3 (fun V5 hbV5 hzV5 b14 => ?_)
            have x14 := rf_one b14
            refine sv 15 (.int .i64 ((wd : Nat) : Int)) ?_
            refine sv 16 (.pointer (some ⟨V1.heap.size, 2, none⟩)) ?_
            replace b3 := (b3.past (bthru hbV4 hbV5))
            refine sv 17 (.int .i64 g.lo) ?_ (hr := (exec_ld (by kernel_rfl) (run_ld1 b3 hT3 2 (.int .i64 g.lo) (by kernel_rfl))))
            refine sv 18 (.int .i64 (((wd : Nat) : Int) * g.lo)) ?_ (hr := ((show _ = Result.ok (Next.value (.int .i64 (IntKind.wrap .i64 (((wd : Nat) : Int) * g.lo)))) _ by kernel_rfl).trans (congrArg (fun z => Result.ok (Next.value (.int .i64 z)) _) (IntWalk.i64_in _ (by omega)))))
            refine sv 19 (.agg #[.bool false, .slice (some ⟨V4.heap.size, 0, none⟩) 1 1, .int .i64 (((wd : Nat) : Int) * g.lo)]) ?_
            refine sn 7 #[.bool false, .slice none 0 0, .int .i64 0] 35 (fun V6 hbV6 hzV6 b7 => ?_)
            refine ss none b7 hT35 0 #[.bool false, .slice (some ⟨V4.heap.size, 0, none⟩) 1 1, .int .i64 (((wd : Nat) : Int) * g.lo)] #[.bool false, .slice (some ⟨V4.heap.size, 0, none⟩) 1 1, .int .i64 (((wd : Nat) : Int) * g.lo)] ?_
            have boV7 := b7
            clear b7
            intro V7 hOV7 b7
            have hzV7 := hOV7.size
            refine sx_nil ?_
            refine sx_then ?_
            refine wp_seq ?_
            refine wp_seq ?_
            refine sx_region ?_
            refine sv 20 (.pointer (some ⟨V1.heap.size, 4, none⟩)) ?_
            replace b3 := (b3.past (hbV6.trans (hOV7.below (by omega))))
            refine sv 21 (.bool g.grad) ?_ (hr := (exec_ld (by kernel_rfl) (run_ld1 b3 hT4 4 (.bool g.grad) (by kernel_rfl))))
            refine sv 22 (.bool true) ?_ (hr := ((show _ = Result.ok (Next.value (.bool (!g.grad))) _ from (by kernel_rfl)).trans (congrArg (fun z => Result.ok (Next.value (.bool z)) _) (show (!g.grad) = true from by rw [hgr]; rfl))))
            refine sx_nil ?_
            refine sx_then ?_
            refine wp_cond_true (by kernel_rfl) ?_
            refine sx_region ?_
            refine sv 23 (.int .i64 ((wd : Nat) : Int)) ?_
            refine sv 24 (.pointer (some ⟨V1.heap.size, 2, none⟩)) ?_
            refine sv 25 (.int .i64 g.lo) ?_ (hr := (exec_ld (by kernel_rfl) (run_ld1 b3 hT3 2 (.int .i64 g.lo) (by kernel_rfl))))
            refine sv 26 (.pointer (some ⟨V1.heap.size, 1, none⟩)) ?_
            refine sv 27 (.int .i64 g.digs) ?_ (hr := (exec_ld (by kernel_rfl) (run_ld1 b3 hT3 1 (.int .i64 g.digs) (by kernel_rfl))))
            refine sv 28 (.int .i64 (g.lo + g.digs)) ?_ (hr := ((show _ = Result.ok (Next.value (.int .i64 (IntKind.wrap .i64 (g.lo + g.digs)))) _ by kernel_rfl).trans (congrArg (fun z => Result.ok (Next.value (.int .i64 z)) _) (IntWalk.i64_in _ (by omega)))))
            refine sv 29 (.int .i64 ((g.lo + g.digs) - 1)) ?_ (hr := ((show _ = Result.ok (Next.value (.int .i64 (IntKind.wrap .i64 ((g.lo + g.digs) - 1)))) _ by kernel_rfl).trans (congrArg (fun z => Result.ok (Next.value (.int .i64 z)) _) (IntWalk.i64_in _ (by omega)))))
            refine sv 30 (.int .i64 ((wd : Int) * (g.lo + g.digs - 1))) ?_ (hr := ((show _ = Result.ok (Next.value (.int .i64 (IntKind.wrap .i64 (((wd : Nat) : Int) * ((g.lo + g.digs) - 1))))) _ by kernel_rfl).trans (congrArg (fun z => Result.ok (Next.value (.int .i64 z)) _) (IntWalk.i64_in _ (by omega)))))
            refine sv 31 (.pointer (some ⟨V5.heap.size, 2, none⟩)) ?_
            refine ss1 none b7 hT3 2 (.int .i64 ((wd : Int) * (g.lo + g.digs - 1))) #[.bool false, .slice (some ⟨V4.heap.size, 0, none⟩) 1 1, .int .i64 ((wd : Int) * (g.lo + g.digs - 1))] ?_
            have boV8 := b7
            clear b7
            intro V8 hOV8 b7
            have hzV8 := hOV8.size
            refine sx_nil ?_
            refine sx_then ?_
            refine wp_seq ?_
            refine wp_seq ?_
            refine sx_region ?_
            refine sv 32 (.pointer (some ⟨w.heap.size, 1, none⟩)) ?_
            replace b2 := (b2.past (((bthru (bthru (bthru (bthru hbV2 hbV3) hbV4) hbV5) hbV6).trans (hOV7.below (by omega))).trans (hOV8.below (by omega))))
            refine sv 33 (.slice p (dig B16 m).length c) ?_ (hr := (exec_ld (by kernel_rfl) (run_ld1 b2 hT33 1 (.slice p (dig B16 m).length c) (by kernel_rfl))))
            refine sv 34 (.int .i64 (((dig B16 m).length : Nat) : Int)) ?_
            refine sv 35 (.bool false) ?_ (hr := ((show _ = Result.ok (Next.value (.bool ((((dig B16 m).length : Nat) : Int) == 0))) _ from (by kernel_rfl)).trans (congrArg (fun z => Result.ok (Next.value (.bool z)) _) (show ((((dig B16 m).length : Nat) : Int) == 0) = false from t35))))
            refine sx_nil ?_
            refine sx_then ?_
            refine wp_cond_false (by kernel_rfl) ?_
            refine wp_skip ?_
            refine sx_then ?_
            refine wp_seq ?_
            obtain ⟨V9, hVV9⟩ : ∃ V, V = (V8).drew := ⟨_, rfl⟩
            have hbV9 : Below (V8).heap.size (V8) V9 := by rw [hVV9]; exact (Below.refl _ _).drew
            have hzV9 : V9.heap.size = (V8).heap.size := by rw [hVV9]; rfl
            replace b2 := (b2.past hbV9)
            refine sxd _ (fun w' => Bt w' w.heap.size 35 #[.bool true, .slice p (dig B16 m).length c, .int .i64 e]) hVV9 b2 ?_
            clear hVV9
            refine tk 0 37 (.pointer (some ⟨w.heap.size, 2, none⟩)) b2 ?_
            refine tk 1 38 (.int .i64 e) b2 ?_ (hy := fun w' hS => (exec_ld (by kernel_rfl) (run_ld1 hS hT3 2 (.int .i64 e) (by kernel_rfl))))
            refine tk 2 39 (.pointer (some ⟨w.heap.size, 1, none⟩)) b2 ?_
            refine tk 3 40 (.slice p (dig B16 m).length c) b2 ?_ (hy := fun w' hS => (exec_ld (by kernel_rfl) (run_ld1 hS hT33 1 (.slice p (dig B16 m).length c) (by kernel_rfl))))
            refine sxr [4] ?_
            refine rd1 (fun Kx hKx => ?_)
            replace hp := (hp.past (bthru (((bthru (bthru (bthru (bthru (bthru hbV1 hbV2) hbV3) hbV4) hbV5) hbV6).trans (hOV7.below (by omega))).trans (hOV8.below (by omega))) hbV9))
            refine sek 41 43 #[.slice p (dig B16 m).length c] ?_
            ((with_reducible refine ((HRL _ hp.rd).out).mono ?_))
            rintro eV10 V10 ⟨rfl, hbV10⟩
            have hzV10 := hbV10.size
            refine ⟨.int .i64 ((L : Nat) : Int), rfl, ?_⟩
            replace b2 := (b2.past hbV10)
            refine hKx.out _ _ b2 ?_
            clear hKx Kx
            refine tk 5 42 (.int .i64 (e + (L : Int))) b2 ?_ (hy := fun w' _ => ((show _ = Result.ok (Next.value (.int .i64 (IntKind.wrap .i64 (e + ((L : Nat) : Int))))) _ by kernel_rfl).trans (congrArg (fun z => Result.ok (Next.value (.int .i64 z)) _) (IntWalk.i64_in _ (by omega)))))
            refine tk 6 8 (.int .i64 (e + (L : Int))) b2 ?_
            refine sx_done (by kernel_rfl) ?_
            refine sx_then ?_
            refine wp_seq ?_
            replace b3 := ((b3.only hOV8 (by omega)).past (bthru hbV9 hbV10))
            obtain ⟨V11, hVV11⟩ : ∃ V, V = (V10).drew := ⟨_, rfl⟩
            have hbV11 : Below (V10).heap.size (V10) V11 := by rw [hVV11]; exact (Below.refl _ _).drew
            have hzV11 : V11.heap.size = (V10).heap.size := by rw [hVV11]; rfl
            replace b3 := (b3.past hbV11)
            refine sxd _ (fun w' => Bt w' V1.heap.size 27 #[.int .i64 g.rad, .int .i64 g.digs, .int .i64 g.lo, .int .i64 g.hi, .bool g.grad]) hVV11 b3 ?_
            clear hVV11
            refine tk 0 43 (.pointer (some ⟨V1.heap.size, 2, none⟩)) b3 ?_
            refine tk 1 44 (.int .i64 g.lo) b3 ?_ (hy := fun w' hS => (exec_ld (by kernel_rfl) (run_ld1 hS hT3 2 (.int .i64 g.lo) (by kernel_rfl))))
            refine tk 2 45 (.int .i64 (e + (L : Int))) b3 ?_
            refine tk 3 46 (.int .i64 (e + (L : Int) - 1)) b3 ?_ (hy := fun w' _ => ((show _ = Result.ok (Next.value (.int .i64 (IntKind.wrap .i64 ((e + (L : Int)) - 1)))) _ by kernel_rfl).trans (congrArg (fun z => Result.ok (Next.value (.int .i64 z)) _) (IntWalk.i64_in _ (by omega)))))
            refine tk 4 47 (.int .i64 (e + (L : Int) - 1 + 80000)) b3 ?_ (hy := fun w' _ => ((show _ = Result.ok (Next.value (.int .i64 (IntKind.wrap .i64 ((e + (L : Int) - 1) + 80000)))) _ by kernel_rfl).trans (congrArg (fun z => Result.ok (Next.value (.int .i64 z)) _) (IntWalk.i64_in _ (by omega)))))
            refine tk 5 48 (.int .i64 ((wd : Nat) : Int)) b3 ?_
            refine tk 6 49 (.int .i64 ((e + (L : Int) - 1 + 80000) / (wd : Int))) b3 ?_ (hy := fun w' _ => (exec_quo ((e + (L : Int) - 1 + 80000) / (wd : Int)) (by kernel_rfl) (by kernel_rfl) (by omega) (Y2.out)))
            refine tk 7 50 (.int .i64 ((wd : Nat) : Int)) b3 ?_
            refine tk 8 51 (.int .i64 (80000 / (wd : Int))) b3 ?_ (hy := fun w' _ => (exec_quo (80000 / (wd : Int)) (by kernel_rfl) (by kernel_rfl) (by omega) (Y3.out)))
            refine tk 9 52 (.int .i64 ((e + (L : Int) - 1) / (wd : Int))) b3 ?_ (hy := fun w' _ => ((show _ = Result.ok (Next.value (.int .i64 (IntKind.wrap .i64 (((e + (L : Int) - 1 + 80000) / (wd : Int)) - (80000 / (wd : Int)))))) _ by kernel_rfl).trans (congrArg (fun z => Result.ok (Next.value (.int .i64 z)) _) (Y4.out))))
            refine tk 10 53 (.pointer (some ⟨V1.heap.size, 1, none⟩)) b3 ?_
            refine tk 11 54 (.int .i64 g.digs) b3 ?_ (hy := fun w' hS => (exec_ld (by kernel_rfl) (run_ld1 hS hT3 1 (.int .i64 g.digs) (by kernel_rfl))))
            refine tk 12 55 (.int .i64 ((e + (L : Int) - 1) / (wd : Int) - g.digs)) b3 ?_ (hy := fun w' _ => ((show _ = Result.ok (Next.value (.int .i64 (IntKind.wrap .i64 (((e + (L : Int) - 1) / (wd : Int)) - g.digs)))) _ by kernel_rfl).trans (congrArg (fun z => Result.ok (Next.value (.int .i64 z)) _) (IntWalk.i64_in _ (by omega)))))
            refine tk 13 56 (.int .i64 K0) b3 ?_ (hy := fun w' _ => ((show _ = Result.ok (Next.value (.int .i64 (IntKind.wrap .i64 (((e + (L : Int) - 1) / (wd : Int) - g.digs) + 1)))) _ by kernel_rfl).trans (congrArg (fun z => Result.ok (Next.value (.int .i64 z)) _) (Y6.out))))
            refine tk 14 57 (.int .i64 K) b3 ?_ (hy := fun w' _ => ((show _ = Result.ok (Next.value (.int .i64 (if ((K0) : Int) > (g.lo) then K0 else g.lo))) _ by kernel_rfl).trans (congrArg (fun z => Result.ok (Next.value (.int .i64 z)) _) (Y7.out))))
            refine tk 15 9 (.int .i64 K) b3 ?_
            refine sx_done (by kernel_rfl) ?_
            refine sx_then ?_
            refine wp_seq ?_
            refine wp_seq ?_
            refine sx_region ?_
            refine sv 58 (.pointer (some ⟨w.heap.size, 0, none⟩)) ?_
            replace b2 := (b2.past hbV11)
            refine sv 59 (.bool true) ?_ (hr := (exec_ld (by kernel_rfl) (run_ld1 b2 hT4 0 (.bool true) (by kernel_rfl))))
            refine sv 60 (.bool false) ?_
            refine sx_nil ?_
            refine sx_then ?_
            refine wp_cond_false (by kernel_rfl) ?_
            refine wp_skip ?_
            refine sx_then ?_
            refine wp_seq ?_
            refine sx_region ?_
            refine sv 72 (.agg #[.bool true, .slice p (dig B16 m).length c, .int .i64 e]) ?_ (hr := (exec_ld (by kernel_rfl) (run_ld b2 hT35 0 [.bool true, .slice p (dig B16 m).length c, .int .i64 e] (by kernel_rfl) (by kernel_rfl))))
            refine snv 73 (.slice (some ⟨V11.heap.size, 0, none⟩) 1 1) #[.int .i64 1] 3 (fun V12 hbV12 hzV12 b73 => ?_)
            have x73 := rf_one b73
            refine sv 74 (.int .i64 ((wd : Nat) : Int)) ?_
            refine sv 75 (.int .i64 K) ?_
            refine sv 76 (.int .i64 (K - 1)) ?_ (hr := ((show _ = Result.ok (Next.value (.int .i64 (IntKind.wrap .i64 (K - 1)))) _ by kernel_rfl).trans (congrArg (fun z => Result.ok (Next.value (.int .i64 z)) _) (IntWalk.i64_in _ (by omega)))))
            refine sv 77 (.int .i64 (((wd : Nat) : Int) * (K - 1))) ?_ (hr := ((show _ = Result.ok (Next.value (.int .i64 (IntKind.wrap .i64 (((wd : Nat) : Int) * (K - 1))))) _ by kernel_rfl).trans (congrArg (fun z => Result.ok (Next.value (.int .i64 z)) _) (IntWalk.i64_in _ (by omega)))))
            refine sv 78 (.agg #[.bool false, .slice (some ⟨V11.heap.size, 0, none⟩) 1 1, .int .i64 (((wd : Nat) : Int) * (K - 1))]) ?_
            replace hp := (hp.past (bthru (bthru hbV10 hbV11) hbV12))
            refine se 79 34 #[.agg #[.bool true, .slice p (dig B16 m).length c, .int .i64 e], .agg #[.bool false, .slice (some ⟨V11.heap.size, 0, none⟩) 1 1, .int .i64 (((wd : Nat) : Int) * (K - 1))]] (fun Gx hGx => ?_)
            ((with_reducible refine ((HPL1 _ _ 1 hp.rd x73.rd).out).mono ?_))
            rintro eV13 V13 ⟨p79, c79, rfl, hr_x79, hc_x79, hf_x79, hbV13⟩
            have hzV13 := hbV13.size
            have x79 := rf_of hr_x79 hc_x79 hf_x79
            clear hr_x79 hc_x79 hf_x79
            have lx79 := fun h => x79.lt h
            refine ⟨.agg #[.bool r1.neg, .slice p79 (dig B16 r1.m).length c79, .int .i64 r1.e], rfl, hGx _ _ ?_⟩
            clear hGx Gx
            refine sn 11 #[.bool false, .slice none 0 0, .int .i64 0] 35 (fun V14 hbV14 hzV14 b11 => ?_)
            refine ss none b11 hT35 0 #[.bool r1.neg, .slice p79 (dig B16 r1.m).length c79, .int .i64 r1.e] #[.bool r1.neg, .slice p79 (dig B16 r1.m).length c79, .int .i64 r1.e] ?_
            have boV15 := b11
            clear b11
            intro V15 hOV15 b11
            have hzV15 := hOV15.size
            refine sx_nil ?_
            refine sx_then ?_
            refine wp_seq ?_
            refine wp_seq ?_
            refine sx_region ?_
            refine sv 80 (.agg #[.bool r1.neg, .slice p79 (dig B16 r1.m).length c79, .int .i64 r1.e]) ?_ (hr := (exec_ld (by kernel_rfl) (run_ld b11 hT35 0 [.bool r1.neg, .slice p79 (dig B16 r1.m).length c79, .int .i64 r1.e] (by kernel_rfl) (by kernel_rfl))))
            replace b3 := (b3.past ((bthru (bthru hbV12 hbV13) hbV14).trans (hOV15.below (by omega))))
            refine sv 81 (.agg #[.int .i64 g.rad, .int .i64 g.digs, .int .i64 g.lo, .int .i64 g.hi, .bool g.grad]) ?_ (hr := (exec_ld (by kernel_rfl) (run_ld b3 hT27 0 [.int .i64 g.rad, .int .i64 g.digs, .int .i64 g.lo, .int .i64 g.hi, .bool g.grad] (by kernel_rfl) (by kernel_rfl))))
            replace x79 := (x79.past (hbV14.trans (hOV15.below (by omega))))
            refine se 82 21 #[.agg #[.bool r1.neg, .slice p79 (dig B16 r1.m).length c79, .int .i64 r1.e], .agg #[.int .i64 g.rad, .int .i64 g.digs, .int .i64 g.lo, .int .i64 g.hi, .bool g.grad]] (fun Gx hGx => ?_)
            ((with_reducible refine ((HI1 _ p79 c79 x79.rd).out).mono ?_))
            rintro eV16 V16 ⟨rfl, hbV16⟩
            have hzV16 := hbV16.size
            refine ⟨.bool false, rfl, hGx _ _ ?_⟩
            clear hGx Gx
            refine sv 83 (.bool false) ?_
            refine so (some 84) ?_
            refine so (some 85) ?_
            refine so (some 86) ?_
            refine so (some 87) ?_
            refine sv 88 (.bool false) ?_
            refine sx_nil ?_
            refine sx_then ?_
            refine wp_cond_false (by kernel_rfl) ?_
            refine wp_skip ?_
            refine sx_then ?_
            refine wp_seq ?_
            refine sx_region ?_
            replace b2 := (b2.past (bthru ((bthru (bthru hbV12 hbV13) hbV14).trans (hOV15.below (by omega))) hbV16))
            refine sv 90 (.agg #[.bool true, .slice p (dig B16 m).length c, .int .i64 e]) ?_ (hr := (exec_ld (by kernel_rfl) (run_ld b2 hT35 0 [.bool true, .slice p (dig B16 m).length c, .int .i64 e] (by kernel_rfl) (by kernel_rfl))))
            refine snv 91 (.slice (some ⟨V16.heap.size, 0, none⟩) 1 1) #[.int .i64 1] 3 (fun V17 hbV17 hzV17 b91 => ?_)
            have x91 := rf_one b91
            refine sv 92 (.int .i64 ((wd : Nat) : Int)) ?_
            refine sv 93 (.int .i64 K) ?_
            refine sv 94 (.int .i64 (((wd : Nat) : Int) * K)) ?_ (hr := ((show _ = Result.ok (Next.value (.int .i64 (IntKind.wrap .i64 (((wd : Nat) : Int) * K)))) _ by kernel_rfl).trans (congrArg (fun z => Result.ok (Next.value (.int .i64 z)) _) (IntWalk.i64_in _ (by omega)))))
            refine sv 95 (.agg #[.bool false, .slice (some ⟨V16.heap.size, 0, none⟩) 1 1, .int .i64 (((wd : Nat) : Int) * K)]) ?_
            replace hp := (hp.past (bthru (bthru ((bthru hbV13 hbV14).trans (hOV15.below (by omega))) hbV16) hbV17))
            refine se 96 34 #[.agg #[.bool true, .slice p (dig B16 m).length c, .int .i64 e], .agg #[.bool false, .slice (some ⟨V16.heap.size, 0, none⟩) 1 1, .int .i64 (((wd : Nat) : Int) * K)]] (fun Gx hGx => ?_)
            ((with_reducible refine ((HPL _ _ 1 hp.rd x91.rd).out).mono ?_))
            rintro eV18 V18 ⟨p96, c96, rfl, hr_x96, hc_x96, hf_x96, hbV18⟩
            have hzV18 := hbV18.size
            have x96 := rf_of hr_x96 hc_x96 hf_x96
            clear hr_x96 hc_x96 hf_x96
            have lx96 := fun h => x96.lt h
            refine ⟨.agg #[.bool r2.neg, .slice p96 (dig B16 r2.m).length c96, .int .i64 r2.e], rfl, hGx _ _ ?_⟩
            clear hGx Gx
            replace b11 := (b11.past (bthru (bthru hbV16 hbV17) hbV18))
            refine ss none b11 hT35 0 #[.bool r2.neg, .slice p96 (dig B16 r2.m).length c96, .int .i64 r2.e] #[.bool r2.neg, .slice p96 (dig B16 r2.m).length c96, .int .i64 r2.e] ?_
            have boV19 := b11
            clear b11
            intro V19 hOV19 b11
            have hzV19 := hOV19.size
            refine sx_nil ?_
            refine sx_then ?_
            refine wp_seq ?_
            refine wp_seq ?_
            refine sx_region ?_
            refine sv 97 (.agg #[.bool r2.neg, .slice p96 (dig B16 r2.m).length c96, .int .i64 r2.e]) ?_ (hr := (exec_ld (by kernel_rfl) (run_ld b11 hT35 0 [.bool r2.neg, .slice p96 (dig B16 r2.m).length c96, .int .i64 r2.e] (by kernel_rfl) (by kernel_rfl))))
            replace b3 := ((b3.past (bthru (bthru hbV16 hbV17) hbV18)).only hOV19 (by omega))
            refine sv 98 (.agg #[.int .i64 g.rad, .int .i64 g.digs, .int .i64 g.lo, .int .i64 g.hi, .bool g.grad]) ?_ (hr := (exec_ld (by kernel_rfl) (run_ld b3 hT27 0 [.int .i64 g.rad, .int .i64 g.digs, .int .i64 g.lo, .int .i64 g.hi, .bool g.grad] (by kernel_rfl) (by kernel_rfl))))
            replace x96 := (x96.only hOV19 (fun h => by have := lx96 h; omega))
            refine se 99 21 #[.agg #[.bool r2.neg, .slice p96 (dig B16 r2.m).length c96, .int .i64 r2.e], .agg #[.int .i64 g.rad, .int .i64 g.digs, .int .i64 g.lo, .int .i64 g.hi, .bool g.grad]] (fun Gx hGx => ?_)
            ((with_reducible refine ((HI2 _ p96 c96 x96.rd).out).mono ?_))
            rintro eV20 V20 ⟨rfl, hbV20⟩
            have hzV20 := hbV20.size
            refine ⟨.bool false, rfl, hGx _ _ ?_⟩
            clear hGx Gx
            refine sx_nil ?_
            refine sx_then ?_
            refine wp_cond_false (by kernel_rfl) ?_
            refine wp_skip ?_
            refine sx_then ?_
            refine wp_seq ?_
            refine sx_region ?_
            refine sv 101 (.agg #[.bool false, .slice none 0 0, .int .i64 0]) ?_
            replace b4 := (b4.past (bthru ((bthru (bthru (bthru ((bthru (bthru (bthru (bthru (bthru (bthru (((bthru (bthru hbV4 hbV5) hbV6).trans (hOV7.below (by omega))).trans (hOV8.below (by omega))) hbV9) hbV10) hbV11) hbV12) hbV13) hbV14).trans (hOV15.below (by omega))) hbV16) hbV17) hbV18).trans (hOV19.below (by omega))) hbV20))
            refine ss none b4 hT35 0 #[.bool false, .slice none 0 0, .int .i64 0] #[.bool false, .slice none 0 0, .int .i64 0] ?_
            have boV21 := b4
            clear b4
            intro V21 hOV21 b4
            have hzV21 := hOV21.size
            refine sv 5 (.bool true) ?_
            refine sx_nil ?_
            refine sx_then ?_
            refine wp_ret ?_
            have ⟨b4_0, b4_1, b4_2⟩ := b4.bx.e3
            repeat (first | with_reducible refine sx_thenret ?_ | with_reducible refine sx_blockret ?_)
            refine bodyPost_ret (v := .tuple #[.agg #[.bool false, .slice none 0 0, .int .i64 0], .bool true]) (by simp [results, Tryd.results23, go_sem, b4_0, b4_1, b4_2]) rfl ?_
            exact ⟨none, 0, by simp only [dig_zero]; rfl, by simp only [dig_zero]; exact rf_nil _ _ _, ((bthru ((bthru (bthru (bthru ((bthru (bthru (bthru (bthru (bthru (bthru (((bthru (bthru (bthru (bthru (bthru hbV1 hbV2) hbV3) hbV4) hbV5) hbV6).trans (hOV7.below (by omega))).trans (hOV8.below (by omega))) hbV9) hbV10) hbV11) hbV12) hbV13) hbV14).trans (hOV15.below (by omega))) hbV16) hbV17) hbV18).trans (hOV19.below (by omega))) hbV20).trans (hOV21.below (by omega)))⟩

end Go.Proofs.YtlegnbigddhmlaaDoor
