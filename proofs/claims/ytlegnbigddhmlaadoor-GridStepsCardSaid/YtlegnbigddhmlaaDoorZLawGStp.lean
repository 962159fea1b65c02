/- The law GridSteps: its walk. -/
import Derived.Test.YtlegnbigddhmlaaDoorZS
import Derived.Test.YtlegnbigddhmlaaDoorZRGd6
import Derived.Test.YtlegnbigddhmlaaDoorZLawG0
import Derived.Test.YtlegnbigddhmlaaDoorZLawD0
import Derived.Test.YtlegnbigddhmlaaDoorZU
namespace Go.Proofs.YtlegnbigddhmlaaDoor
open Go.RowKit Go.Slip

theorem rd_zero (w : World) (p : Option Addr) : Rd w .i64 p (dig B16 0) := by rw [dig_zero]; exact Rd.nil _ _ _
theorem len_zero : (0 : Nat) = (dig B16 0).length := by rw [dig_zero]; rfl


set_option maxHeartbeats 4000000 in
set_option maxRecDepth 100000 in
theorem lawGStp_row (a : Din) (g : Gd) (up : Bool) (w : World) (ha : InD w a) (hT : TabW w) :
    Calls Tryd.prog 5 #[.agg #[.bool a.g, .slice a.p a.xs.length a.c, .int .i64 a.e], .agg #[.int .i64 g.rad, .int .i64 g.digs, .int .i64 g.lo, .int .i64 g.hi, .bool g.grad], .bool up] w fun e w' => e = .returned (.bool true) ∧ Below w.heap.size w w' := by
  have HS := fun W h1 h2 => Lib.hid (step_any a g up W h1 h2)
  have HG := fun W h => Lib.hid (onGrid_any a g W h)
  have lz : (dig B16 0).length ≤ 100000000 := by rw [dig_zero]; simp
  obtain ⟨ec, hec⟩ : ∃ ec, errOn a g = ec := ⟨_, rfl⟩
  by_cases h0 : errOn a g = 0
  · obtain ⟨hd0, hg0⟩ := errOn_ok h0
    obtain ⟨hla, hea, hea2⟩ := dyV_bd ha hd0
    have lv16 := B16_len32 (dyV a).m
    have HO := fun W h => Lib.hid (refOfDyad_any a W h hd0)
    have G := goodG_of hg0
    have hB := dyV_bare a
    have hki := keeps_eq hB G
    have HI := fun W p c (h : Rd W .i64 p (dig B16 (dyV a).m)) => Lib.hid (refInGrid_any (dyV a).neg p _ c (dyV a).e (dyV a).m g W h rfl (by omega) (by omega) G)
    rw [show (⟨(dyV a).neg, (dyV a).m, (dyV a).e⟩ : Dv) = dyV a from rfl] at HI
    have hst : errStep a g up = if inGridD (dyV a) g = true then (if (pStep (fromD a up) g).2 = true then 0 else 5) else 4 := by unfold errStep; rw [if_pos h0, hki]
    rw [hst] at HS
    rw [hec] at HG
    have tec : (ec == 0) = true := by rw [← hec, h0]; rfl
    by_cases hin : inGridD (dyV a) g = true
    · rw [if_pos hin] at HS
      rw [hin] at HI
      obtain ⟨ib, hib⟩ : ∃ ib, ib = true := ⟨_, rfl⟩
      rw [← hib] at HI
      have tib : (!ib) = false := by rw [hib]; rfl
      have tec0 : ec = 0 := by rw [← hec, h0]
      have hB2 := dMinus_bare hB
      have hfr : fromD a up = if up = true then dyV a else dMinus (dyV a) := rfl
      unfold stepV at HS
      obtain ⟨he1, he2⟩ := inGrid_e hg0 hB hin
      cases up with
      | true =>
        simp only [if_true] at hfr HS
        have hlen := pStep_len hB G hin hla (by omega)
        rw [hfr] at HS
        have HT := fun W p c (h : Rd W .i64 p (dig B16 (dyV a).m)) hc => Lib.hid (refStepOf_any (dyV a).neg p c (dyV a).e (dyV a).m g W h hB hla (by omega) hg0 hin hc)
        rw [show (⟨(dyV a).neg, (dyV a).m, (dyV a).e⟩ : Dv) = dyV a from rfl, ← step_eq hB G hin] at HT
        obtain ⟨rb, hrb⟩ : ∃ rb, pStep (dyV a) g = rb := ⟨_, rfl⟩
        rw [hrb] at HS HT hlen
        obtain ⟨r, b⟩ := rb
        have lr := B16_len32 r.m
        simp only at HS HT hlen
        clear hrb hfr hst hki
        generalize dyV a = va at *
        cases b with
        | true =>
          simp only [if_true, doneOne, errOne] at HS
          have hT27 : SxAgg Tryd.prog 27 5 := sxAgg_of (by kernel_rfl) (by kernel_rfl)
          have hT30 : SxAgg Tryd.prog 30 3 := sxAgg_of (by kernel_rfl) (by kernel_rfl)
          have hT35 : SxAgg Tryd.prog 35 3 := sxAgg_of (by kernel_rfl) (by kernel_rfl)
          refine calls_of_wp Tryd.func5 rfl ?_
          refine sx_frame (a' := ⟨((.agg #[.bool a.g, .slice a.p a.xs.length a.c, .int .i64 a.e]) :: (.agg #[.int .i64 g.rad, .int .i64 g.digs, .int .i64 g.lo, .int .i64 g.hi, .bool g.grad]) :: (.bool true) :: undef :: undef :: undef :: undef :: undef :: undef :: undef :: undef :: undef :: undef :: undef :: undef :: undef :: undef :: undef :: undef :: undef :: undef :: undef :: undef :: undef :: undef :: undef :: undef :: undef :: undef :: undef :: undef :: undef :: undef :: undef :: undef :: undef :: undef :: undef :: undef :: undef :: undef :: undef :: undef :: undef :: undef :: undef :: undef :: undef :: undef :: undef :: undef :: undef :: undef :: undef :: undef :: undef :: undef :: undef :: undef :: undef :: []).toArray, []⟩) (by kernel_rfl) ?_
          refine wp_seq ?_
          refine sx_region ?_
          refine sn 3 #[.bool a.g, .slice a.p a.xs.length a.c, .int .i64 a.e] 30 (fun V1 hbV1 hzV1 b3 => ?_)
          refine sn 4 #[.int .i64 g.rad, .int .i64 g.digs, .int .i64 g.lo, .int .i64 g.hi, .bool g.grad] 27 (fun V2 hbV2 hzV2 b4 => ?_)
          refine sv 6 (.bool false) ?_
          refine sx_nil ?_
          refine sx_then ?_
          refine wp_seq ?_
          refine sx_region ?_
          replace b3 := (b3.past hbV2)
          refine sv 15 (.agg #[.bool a.g, .slice a.p a.xs.length a.c, .int .i64 a.e]) ?_ (hr := (exec_ld (by kernel_rfl) (run_ld b3 hT30 0 [.bool a.g, .slice a.p a.xs.length a.c, .int .i64 a.e] (by kernel_rfl) (by kernel_rfl))))
          refine sv 16 (.agg #[.int .i64 g.rad, .int .i64 g.digs, .int .i64 g.lo, .int .i64 g.hi, .bool g.grad]) ?_ (hr := (exec_ld (by kernel_rfl) (run_ld b4 hT27 0 [.int .i64 g.rad, .int .i64 g.digs, .int .i64 g.lo, .int .i64 g.hi, .bool g.grad] (by kernel_rfl) (by kernel_rfl))))
          refine sv 17 (.bool true) ?_
          replace ha := (ha.past (bthru hbV1 hbV2))
          replace hT := (hT.past (bthru hbV1 hbV2))
          refine se 18 18 #[.agg #[.bool a.g, .slice a.p a.xs.length a.c, .int .i64 a.e], .agg #[.int .i64 g.rad, .int .i64 g.digs, .int .i64 g.lo, .int .i64 g.hi, .bool g.grad], .bool true] (fun Gx hGx => ?_)
          ((with_reducible refine ((HS _ ha hT).out).mono ?_))
          rintro eV3 V3 ⟨p18, c18, rfl, ho18, hbV3⟩
          have hzV3 := hbV3.size
          refine ⟨.tuple #[.agg #[.bool ((doneD r).neg), .slice p18 (dig B32 (doneD r).m).length c18, .int .i64 ((doneD r).e)], .int .i64 (errD r)], rfl, hGx _ _ ?_⟩
          clear hGx Gx
          refine sv 14 (.tuple #[.agg #[.bool ((doneD r).neg), .slice p18 (dig B32 (doneD r).m).length c18, .int .i64 ((doneD r).e)], .int .i64 (errD r)]) ?_
          refine sv 19 (.agg #[.bool ((doneD r).neg), .slice p18 (dig B32 (doneD r).m).length c18, .int .i64 ((doneD r).e)]) ?_
          refine sv 20 (.int .i64 (errD r)) ?_
          refine sn 7 #[.bool false, .slice none 0 0, .int .i64 0] 30 (fun V4 hbV4 hzV4 b7 => ?_)
          refine ss none b7 hT30 0 #[.bool ((doneD r).neg), .slice p18 (dig B32 (doneD r).m).length c18, .int .i64 ((doneD r).e)] #[.bool ((doneD r).neg), .slice p18 (dig B32 (doneD r).m).length c18, .int .i64 ((doneD r).e)] ?_
          have boV5 := b7
          clear b7
          intro V5 hOV5 b7
          have hzV5 := hOV5.size
          refine sv 8 (.int .i64 (errD r)) ?_
          refine sx_nil ?_
          refine sx_then ?_
          refine wp_seq ?_
          refine sx_region ?_
          replace b3 := (b3.past ((bthru hbV3 hbV4).trans (hOV5.below (by omega))))
          refine sv 21 (.agg #[.bool a.g, .slice a.p a.xs.length a.c, .int .i64 a.e]) ?_ (hr := (exec_ld (by kernel_rfl) (run_ld b3 hT30 0 [.bool a.g, .slice a.p a.xs.length a.c, .int .i64 a.e] (by kernel_rfl) (by kernel_rfl))))
          replace b4 := (b4.past ((bthru hbV3 hbV4).trans (hOV5.below (by omega))))
          refine sv 22 (.agg #[.int .i64 g.rad, .int .i64 g.digs, .int .i64 g.lo, .int .i64 g.hi, .bool g.grad]) ?_ (hr := (exec_ld (by kernel_rfl) (run_ld b4 hT27 0 [.int .i64 g.rad, .int .i64 g.digs, .int .i64 g.lo, .int .i64 g.hi, .bool g.grad] (by kernel_rfl) (by kernel_rfl))))
          replace ha := (ha.past ((bthru hbV3 hbV4).trans (hOV5.below (by omega))))
          refine se 23 19 #[.agg #[.bool a.g, .slice a.p a.xs.length a.c, .int .i64 a.e], .agg #[.int .i64 g.rad, .int .i64 g.digs, .int .i64 g.lo, .int .i64 g.hi, .bool g.grad]] (fun Gx hGx => ?_)
          ((with_reducible refine ((HG _ ha).out).mono ?_))
          rintro eV6 V6 ⟨rfl, hbV6⟩
          have hzV6 := hbV6.size
          refine ⟨.int .i64 ec, rfl, hGx _ _ ?_⟩
          clear hGx Gx
          refine sv 9 (.int .i64 ec) ?_
          refine sx_nil ?_
          refine sx_then ?_
          refine wp_seq ?_
          refine sx_region ?_
          refine sv 24 (.agg #[.bool false, .slice none 0 0, .int .i64 0]) ?_
          refine sn 10 #[.bool false, .slice none 0 0, .int .i64 0] 35 (fun V7 hbV7 hzV7 b10 => ?_)
          refine ss none b10 hT35 0 #[.bool false, .slice none 0 0, .int .i64 0] #[.bool false, .slice none 0 0, .int .i64 0] ?_
          have boV8 := b10
          clear b10
          intro V8 hOV8 b10
          have hzV8 := hOV8.size
          refine sx_nil ?_
          refine sx_then ?_
          refine wp_seq ?_
          refine wp_seq ?_
          refine sx_region ?_
          refine sv 25 (.int .i64 ec) ?_
          refine sv 26 (.bool true) ?_ (hr := ((show _ = Result.ok (Next.value (.bool (ec == 0))) _ from (by kernel_rfl)).trans (congrArg (fun z => Result.ok (Next.value (.bool z)) _) (show (ec == 0) = true from tec))))
          refine sx_nil ?_
          refine sx_then ?_
          refine wp_cond_true (by kernel_rfl) ?_
          refine wp_seq ?_
          refine sx_region ?_
          replace b3 := (b3.past ((bthru hbV6 hbV7).trans (hOV8.below (by omega))))
          refine sv 27 (.agg #[.bool a.g, .slice a.p a.xs.length a.c, .int .i64 a.e]) ?_ (hr := (exec_ld (by kernel_rfl) (run_ld b3 hT30 0 [.bool a.g, .slice a.p a.xs.length a.c, .int .i64 a.e] (by kernel_rfl) (by kernel_rfl))))
          replace ha := (ha.past ((bthru hbV6 hbV7).trans (hOV8.below (by omega))))
          refine se 28 20 #[.agg #[.bool a.g, .slice a.p a.xs.length a.c, .int .i64 a.e]] (fun Gx hGx => ?_)
          ((with_reducible refine ((HO _ ha).out).mono ?_))
          rintro eV9 V9 ⟨p28, c28, rfl, hr_x28, hc_x28, hf_x28, hbV9⟩
          have hzV9 := hbV9.size
          have x28 := rf_of hr_x28 hc_x28 hf_x28
          clear hr_x28 hc_x28 hf_x28
          have lx28 := fun h => x28.lt h
          refine ⟨.agg #[.bool va.neg, .slice p28 (dig B16 va.m).length c28, .int .i64 va.e], rfl, hGx _ _ ?_⟩
          clear hGx Gx
          replace b10 := (b10.past hbV9)
          refine ss none b10 hT35 0 #[.bool va.neg, .slice p28 (dig B16 va.m).length c28, .int .i64 va.e] #[.bool va.neg, .slice p28 (dig B16 va.m).length c28, .int .i64 va.e] ?_
          have boV10 := b10
          clear b10
          intro V10 hOV10 b10
          have hzV10 := hOV10.size
          refine sx_nil ?_
          refine sx_then ?_
          refine wp_seq ?_
          refine sx_region ?_
          refine sv 29 (.agg #[.bool va.neg, .slice p28 (dig B16 va.m).length c28, .int .i64 va.e]) ?_ (hr := (exec_ld (by kernel_rfl) (run_ld b10 hT35 0 [.bool va.neg, .slice p28 (dig B16 va.m).length c28, .int .i64 va.e] (by kernel_rfl) (by kernel_rfl))))
          replace b4 := (b4.past ((bthru ((bthru hbV6 hbV7).trans (hOV8.below (by omega))) hbV9).trans (hOV10.below (by omega))))
          refine sv 30 (.agg #[.int .i64 g.rad, .int .i64 g.digs, .int .i64 g.lo, .int .i64 g.hi, .bool g.grad]) ?_ (hr := (exec_ld (by kernel_rfl) (run_ld b4 hT27 0 [.int .i64 g.rad, .int .i64 g.digs, .int .i64 g.lo, .int .i64 g.hi, .bool g.grad] (by kernel_rfl) (by kernel_rfl))))
          replace x28 := (x28.only hOV10 (fun h => by have := lx28 h; omega))
          refine se 31 21 #[.agg #[.bool va.neg, .slice p28 (dig B16 va.m).length c28, .int .i64 va.e], .agg #[.int .i64 g.rad, .int .i64 g.digs, .int .i64 g.lo, .int .i64 g.hi, .bool g.grad]] (fun Gx hGx => ?_)
          ((with_reducible refine ((HI _ p28 c28 x28.rd).out).mono ?_))
          rintro eV11 V11 ⟨rfl, hbV11⟩
          have hzV11 := hbV11.size
          refine ⟨.bool ib, rfl, hGx _ _ ?_⟩
          clear hGx Gx
          refine sv 32 (.bool false) ?_ (hr := ((show _ = Result.ok (Next.value (.bool (!ib))) _ from (by kernel_rfl)).trans (congrArg (fun z => Result.ok (Next.value (.bool z)) _) (show (!ib) = false from tib))))
          refine sx_nil ?_
          refine sx_then ?_
          refine wp_cond_false (by kernel_rfl) ?_
          refine wp_skip ?_
          refine sx_then ?_
          refine wp_seq ?_
          refine sx_region ?_
          refine sn 11 #[.bool false, .slice none 0 0, .int .i64 0] 35 (fun V12 hbV12 hzV12 b11 => ?_)
          refine sx_nil ?_
          refine sx_then ?_
          refine wp_seq ?_
          refine wp_seq ?_
          refine sx_region ?_
          refine sv 33 (.int .i64 ec) ?_
          refine sv 34 (.bool true) ?_ (hr := ((show _ = Result.ok (Next.value (.bool (ec == 0))) _ from (by kernel_rfl)).trans (congrArg (fun z => Result.ok (Next.value (.bool z)) _) (show (ec == 0) = true from tec))))
          refine sx_nil ?_
          refine sx_then ?_
          refine wp_cond_true (by kernel_rfl) ?_
          refine wp_seq ?_
          refine wp_seq ?_
          refine sx_region ?_
          refine sv 35 (.bool true) ?_
          refine sv 36 (.bool false) ?_
          refine sx_nil ?_
          refine sx_then ?_
          refine wp_cond_false (by kernel_rfl) ?_
          refine wp_skip ?_
          refine sx_then ?_
          refine wp_seq ?_
          refine sx_region ?_
          replace b10 := (b10.past (bthru hbV11 hbV12))
          refine sv 40 (.agg #[.bool va.neg, .slice p28 (dig B16 va.m).length c28, .int .i64 va.e]) ?_ (hr := (exec_ld (by kernel_rfl) (run_ld b10 hT35 0 [.bool va.neg, .slice p28 (dig B16 va.m).length c28, .int .i64 va.e] (by kernel_rfl) (by kernel_rfl))))
          replace b4 := (b4.past (bthru hbV11 hbV12))
          refine sv 41 (.agg #[.int .i64 g.rad, .int .i64 g.digs, .int .i64 g.lo, .int .i64 g.hi, .bool g.grad]) ?_ (hr := (exec_ld (by kernel_rfl) (run_ld b4 hT27 0 [.int .i64 g.rad, .int .i64 g.digs, .int .i64 g.lo, .int .i64 g.hi, .bool g.grad] (by kernel_rfl) (by kernel_rfl))))
          replace x28 := (x28.past (bthru hbV11 hbV12))
          refine se 42 23 #[.agg #[.bool va.neg, .slice p28 (dig B16 va.m).length c28, .int .i64 va.e], .agg #[.int .i64 g.rad, .int .i64 g.digs, .int .i64 g.lo, .int .i64 g.hi, .bool g.grad]] (fun Gx hGx => ?_)
          ((with_reducible refine ((HT _ p28 c28 x28.rd x28.cap).out).mono ?_))
          rintro eV13 V13 ⟨p42, c42, rfl, x42, hbV13⟩
          have hzV13 := hbV13.size
          have lx42 := fun h => x42.lt h
          refine ⟨.tuple #[.agg #[.bool r.neg, .slice p42 (dig B16 r.m).length c42, .int .i64 r.e], .bool true], rfl, hGx _ _ ?_⟩
          clear hGx Gx
          refine sv 39 (.tuple #[.agg #[.bool r.neg, .slice p42 (dig B16 r.m).length c42, .int .i64 r.e], .bool true]) ?_
          refine sv 43 (.agg #[.bool r.neg, .slice p42 (dig B16 r.m).length c42, .int .i64 r.e]) ?_
          refine sv 44 (.bool true) ?_
          refine sn 12 #[.bool false, .slice none 0 0, .int .i64 0] 35 (fun V14 hbV14 hzV14 b12 => ?_)
          refine ss none b12 hT35 0 #[.bool r.neg, .slice p42 (dig B16 r.m).length c42, .int .i64 r.e] #[.bool r.neg, .slice p42 (dig B16 r.m).length c42, .int .i64 r.e] ?_
          have boV15 := b12
          clear b12
          intro V15 hOV15 b12
          have hzV15 := hOV15.size
          refine sv 13 (.bool true) ?_
          refine sx_nil ?_
          refine sx_then ?_
          refine wp_seq ?_
          refine sx_region ?_
          refine sv 45 (.agg #[.bool r.neg, .slice p42 (dig B16 r.m).length c42, .int .i64 r.e]) ?_ (hr := (exec_ld (by kernel_rfl) (run_ld b12 hT35 0 [.bool r.neg, .slice p42 (dig B16 r.m).length c42, .int .i64 r.e] (by kernel_rfl) (by kernel_rfl))))
          replace b11 := (b11.past ((bthru hbV13 hbV14).trans (hOV15.below (by omega))))
          refine ss none b11 hT35 0 #[.bool r.neg, .slice p42 (dig B16 r.m).length c42, .int .i64 r.e] #[.bool r.neg, .slice p42 (dig B16 r.m).length c42, .int .i64 r.e] ?_
          have boV16 := b11
          clear b11
          intro V16 hOV16 b11
          have hzV16 := hOV16.size
          refine sx_nil ?_
          refine sx_then ?_
          refine wp_seq ?_
          refine wp_seq ?_
          refine sx_region ?_
          refine sv 46 (.bool true) ?_
          refine sv 47 (.bool false) ?_
          refine sx_nil ?_
          refine sx_then ?_
          refine wp_cond_false (by kernel_rfl) ?_
          refine wp_skip ?_
          refine sx_then ?_
          refine wp_seq ?_
          refine sx_region ?_
          refine sv 50 (.bool true) ?_
          refine sv 51 (.bool false) ?_
          refine sx_nil ?_
          refine sx_then ?_
          refine wp_cond_false (by kernel_rfl) ?_
          refine wp_skip ?_
          refine sx_then ?_
          refine wp_seq ?_
          refine sx_region ?_
          refine se 52 7 #[] (fun Gx hGx => ?_)
          ((with_reducible refine (gridBegun_any _).mono ?_))
          rintro eV17 V17 ⟨rfl, hbV17⟩
          have hzV17 := hbV17.size
          refine ⟨.bool true, rfl, hGx _ _ ?_⟩
          clear hGx Gx
          refine sv 53 (.bool true) ?_
          replace b7 := (b7.past (bthru (((bthru (bthru (bthru (bthru ((bthru ((bthru hbV6 hbV7).trans (hOV8.below (by omega))) hbV9).trans (hOV10.below (by omega))) hbV11) hbV12) hbV13) hbV14).trans (hOV15.below (by omega))).trans (hOV16.below (by omega))) hbV17))
          refine sv 54 (.agg #[.bool ((doneD r).neg), .slice p18 (dig B32 (doneD r).m).length c18, .int .i64 ((doneD r).e)]) ?_ (hr := (exec_ld (by kernel_rfl) (run_ld b7 hT30 0 [.bool ((doneD r).neg), .slice p18 (dig B32 (doneD r).m).length c18, .int .i64 ((doneD r).e)] (by kernel_rfl) (by kernel_rfl))))
          refine sv 55 (.int .i64 (errD r)) ?_
          refine sv 56 (.int .i64 ec) ?_
          replace b11 := (b11.past hbV17)
          refine sv 57 (.agg #[.bool r.neg, .slice p42 (dig B16 r.m).length c42, .int .i64 r.e]) ?_ (hr := (exec_ld (by kernel_rfl) (run_ld b11 hT35 0 [.bool r.neg, .slice p42 (dig B16 r.m).length c42, .int .i64 r.e] (by kernel_rfl) (by kernel_rfl))))
          replace ho18 := (ho18.past (bthru (((bthru (bthru (bthru (bthru ((bthru ((bthru (bthru (hbV4.trans (hOV5.below (by omega))) hbV6) hbV7).trans (hOV8.below (by omega))) hbV9).trans (hOV10.below (by omega))) hbV11) hbV12) hbV13) hbV14).trans (hOV15.below (by omega))).trans (hOV16.below (by omega))) hbV17))
          have hrd := ho18.rd
          have hz := tec0
          replace x42 := (((x42.past (hbV14.trans (hOV15.below (by omega)))).only hOV16 (fun h => by have := lx42 h; omega)).past hbV17)
          refine se 58 24 #[.agg #[.bool ((doneD r).neg), .slice p18 (dig B32 (doneD r).m).length c18, .int .i64 ((doneD r).e)], .int .i64 (errD r), .int .i64 ec, .agg #[.bool r.neg, .slice p42 (dig B16 r.m).length c42, .int .i64 r.e]] (fun Gx hGx => ?_)
          ((with_reducible refine ((show Calls _ _ #[_, _, .int .i64 ec, _] _ _ from by rw [hz]; exact dyadIs_ok r p18 p42 _ c18 _ c42 _ hrd x42.rd rfl rfl (by omega))).mono ?_))
          rintro eV18 V18 ⟨rfl, hbV18⟩
          have hzV18 := hbV18.size
          refine ⟨.bool true, rfl, hGx _ _ ?_⟩
          clear hGx Gx
          refine sv 59 (.bool true) ?_
          refine sv 6 (.bool true) ?_
          refine sx_nil ?_
          refine sx_then ?_
          refine wp_ret ?_
          repeat (first | with_reducible refine sx_thenret ?_ | with_reducible refine sx_blockret ?_)
          refine bodyPost_ret (v := .bool true) (by simp [results, Tryd.results5, go_sem]) rfl ?_
          exact ⟨rfl, (bthru (bthru (((bthru (bthru (bthru (bthru ((bthru ((bthru (bthru ((bthru (bthru (bthru hbV1 hbV2) hbV3) hbV4).trans (hOV5.below (by omega))) hbV6) hbV7).trans (hOV8.below (by omega))) hbV9).trans (hOV10.below (by omega))) hbV11) hbV12) hbV13) hbV14).trans (hOV15.below (by omega))).trans (hOV16.below (by omega))) hbV17) hbV18)⟩
        | false =>
          simp only [Bool.false_eq_true, if_false, doneOne, errOne, show ¬ ((5 : Int) = 0) by omega] at HS
          have hT27 : SxAgg Tryd.prog 27 5 := sxAgg_of (by kernel_rfl) (by kernel_rfl)
          have hT30 : SxAgg Tryd.prog 30 3 := sxAgg_of (by kernel_rfl) (by kernel_rfl)
          have hT35 : SxAgg Tryd.prog 35 3 := sxAgg_of (by kernel_rfl) (by kernel_rfl)
          refine calls_of_wp Tryd.func5 rfl ?_
          refine sx_frame (a' := ⟨((.agg #[.bool a.g, .slice a.p a.xs.length a.c, .int .i64 a.e]) :: (.agg #[.int .i64 g.rad, .int .i64 g.digs, .int .i64 g.lo, .int .i64 g.hi, .bool g.grad]) :: (.bool true) :: undef :: undef :: undef :: undef :: undef :: undef :: undef :: undef :: undef :: undef :: undef :: undef :: undef :: undef :: undef :: undef :: undef :: undef :: undef :: undef :: undef :: undef :: undef :: undef :: undef :: undef :: undef :: undef :: undef :: undef :: undef :: undef :: undef :: undef :: undef :: undef :: undef :: undef :: undef :: undef :: undef :: undef :: undef :: undef :: undef :: undef :: undef :: undef :: undef :: undef :: undef :: undef :: undef :: undef :: undef :: undef :: undef :: []).toArray, []⟩) (by kernel_rfl) ?_
          refine wp_seq ?_
          refine sx_region ?_
          refine sn 3 #[.bool a.g, .slice a.p a.xs.length a.c, .int .i64 a.e] 30 (fun V1 hbV1 hzV1 b3 => ?_)
          refine sn 4 #[.int .i64 g.rad, .int .i64 g.digs, .int .i64 g.lo, .int .i64 g.hi, .bool g.grad] 27 (fun V2 hbV2 hzV2 b4 => ?_)
          refine sv 6 (.bool false) ?_
          refine sx_nil ?_
          refine sx_then ?_
          refine wp_seq ?_
          refine sx_region ?_
          replace b3 := (b3.past hbV2)
          refine sv 15 (.agg #[.bool a.g, .slice a.p a.xs.length a.c, .int .i64 a.e]) ?_ (hr := (exec_ld (by kernel_rfl) (run_ld b3 hT30 0 [.bool a.g, .slice a.p a.xs.length a.c, .int .i64 a.e] (by kernel_rfl) (by kernel_rfl))))
          refine sv 16 (.agg #[.int .i64 g.rad, .int .i64 g.digs, .int .i64 g.lo, .int .i64 g.hi, .bool g.grad]) ?_ (hr := (exec_ld (by kernel_rfl) (run_ld b4 hT27 0 [.int .i64 g.rad, .int .i64 g.digs, .int .i64 g.lo, .int .i64 g.hi, .bool g.grad] (by kernel_rfl) (by kernel_rfl))))
          refine sv 17 (.bool true) ?_
          replace ha := (ha.past (bthru hbV1 hbV2))
          replace hT := (hT.past (bthru hbV1 hbV2))
          refine se 18 18 #[.agg #[.bool a.g, .slice a.p a.xs.length a.c, .int .i64 a.e], .agg #[.int .i64 g.rad, .int .i64 g.digs, .int .i64 g.lo, .int .i64 g.hi, .bool g.grad], .bool true] (fun Gx hGx => ?_)
          ((with_reducible refine ((HS _ ha hT).out).mono ?_))
          rintro eV3 V3 ⟨p18, c18, rfl, ho18, hbV3⟩
          have hzV3 := hbV3.size
          refine ⟨.tuple #[.agg #[.bool (((⟨false, 0, 0⟩ : Dv)).neg), .slice p18 (dig B32 ((⟨false, 0, 0⟩ : Dv)).m).length c18, .int .i64 (((⟨false, 0, 0⟩ : Dv)).e)], .int .i64 5], rfl, hGx _ _ ?_⟩
          clear hGx Gx
          refine sv 14 (.tuple #[.agg #[.bool (((⟨false, 0, 0⟩ : Dv)).neg), .slice p18 (dig B32 ((⟨false, 0, 0⟩ : Dv)).m).length c18, .int .i64 (((⟨false, 0, 0⟩ : Dv)).e)], .int .i64 5]) ?_
          refine sv 19 (.agg #[.bool (((⟨false, 0, 0⟩ : Dv)).neg), .slice p18 (dig B32 ((⟨false, 0, 0⟩ : Dv)).m).length c18, .int .i64 (((⟨false, 0, 0⟩ : Dv)).e)]) ?_
          refine sv 20 (.int .i64 5) ?_
          refine sn 7 #[.bool false, .slice none 0 0, .int .i64 0] 30 (fun V4 hbV4 hzV4 b7 => ?_)
          refine ss none b7 hT30 0 #[.bool (((⟨false, 0, 0⟩ : Dv)).neg), .slice p18 (dig B32 ((⟨false, 0, 0⟩ : Dv)).m).length c18, .int .i64 (((⟨false, 0, 0⟩ : Dv)).e)] #[.bool (((⟨false, 0, 0⟩ : Dv)).neg), .slice p18 (dig B32 ((⟨false, 0, 0⟩ : Dv)).m).length c18, .int .i64 (((⟨false, 0, 0⟩ : Dv)).e)] ?_
          have boV5 := b7
          clear b7
          intro V5 hOV5 b7
          have hzV5 := hOV5.size
          refine sv 8 (.int .i64 5) ?_
          refine sx_nil ?_
          refine sx_then ?_
          refine wp_seq ?_
          refine sx_region ?_
          replace b3 := (b3.past ((bthru hbV3 hbV4).trans (hOV5.below (by omega))))
          refine sv 21 (.agg #[.bool a.g, .slice a.p a.xs.length a.c, .int .i64 a.e]) ?_ (hr := (exec_ld (by kernel_rfl) (run_ld b3 hT30 0 [.bool a.g, .slice a.p a.xs.length a.c, .int .i64 a.e] (by kernel_rfl) (by kernel_rfl))))
          replace b4 := (b4.past ((bthru hbV3 hbV4).trans (hOV5.below (by omega))))
          refine sv 22 (.agg #[.int .i64 g.rad, .int .i64 g.digs, .int .i64 g.lo, .int .i64 g.hi, .bool g.grad]) ?_ (hr := (exec_ld (by kernel_rfl) (run_ld b4 hT27 0 [.int .i64 g.rad, .int .i64 g.digs, .int .i64 g.lo, .int .i64 g.hi, .bool g.grad] (by kernel_rfl) (by kernel_rfl))))
          replace ha := (ha.past ((bthru hbV3 hbV4).trans (hOV5.below (by omega))))
          refine se 23 19 #[.agg #[.bool a.g, .slice a.p a.xs.length a.c, .int .i64 a.e], .agg #[.int .i64 g.rad, .int .i64 g.digs, .int .i64 g.lo, .int .i64 g.hi, .bool g.grad]] (fun Gx hGx => ?_)
          ((with_reducible refine ((HG _ ha).out).mono ?_))
          rintro eV6 V6 ⟨rfl, hbV6⟩
          have hzV6 := hbV6.size
          refine ⟨.int .i64 ec, rfl, hGx _ _ ?_⟩
          clear hGx Gx
          refine sv 9 (.int .i64 ec) ?_
          refine sx_nil ?_
          refine sx_then ?_
          refine wp_seq ?_
          refine sx_region ?_
          refine sv 24 (.agg #[.bool false, .slice none 0 0, .int .i64 0]) ?_
          refine sn 10 #[.bool false, .slice none 0 0, .int .i64 0] 35 (fun V7 hbV7 hzV7 b10 => ?_)
          refine ss none b10 hT35 0 #[.bool false, .slice none 0 0, .int .i64 0] #[.bool false, .slice none 0 0, .int .i64 0] ?_
          have boV8 := b10
          clear b10
          intro V8 hOV8 b10
          have hzV8 := hOV8.size
          refine sx_nil ?_
          refine sx_then ?_
          refine wp_seq ?_
          refine wp_seq ?_
          refine sx_region ?_
          refine sv 25 (.int .i64 ec) ?_
          refine sv 26 (.bool true) ?_ (hr := ((show _ = Result.ok (Next.value (.bool (ec == 0))) _ from (by kernel_rfl)).trans (congrArg (fun z => Result.ok (Next.value (.bool z)) _) (show (ec == 0) = true from tec))))
          refine sx_nil ?_
          refine sx_then ?_
          refine wp_cond_true (by kernel_rfl) ?_
          refine wp_seq ?_
          refine sx_region ?_
          replace b3 := (b3.past ((bthru hbV6 hbV7).trans (hOV8.below (by omega))))
          refine sv 27 (.agg #[.bool a.g, .slice a.p a.xs.length a.c, .int .i64 a.e]) ?_ (hr := (exec_ld (by kernel_rfl) (run_ld b3 hT30 0 [.bool a.g, .slice a.p a.xs.length a.c, .int .i64 a.e] (by kernel_rfl) (by kernel_rfl))))
          replace ha := (ha.past ((bthru hbV6 hbV7).trans (hOV8.below (by omega))))
          refine se 28 20 #[.agg #[.bool a.g, .slice a.p a.xs.length a.c, .int .i64 a.e]] (fun Gx hGx => ?_)
          ((with_reducible refine ((HO _ ha).out).mono ?_))
          rintro eV9 V9 ⟨p28, c28, rfl, hr_x28, hc_x28, hf_x28, hbV9⟩
          have hzV9 := hbV9.size
          have x28 := rf_of hr_x28 hc_x28 hf_x28
          clear hr_x28 hc_x28 hf_x28
          have lx28 := fun h => x28.lt h
          refine ⟨.agg #[.bool va.neg, .slice p28 (dig B16 va.m).length c28, .int .i64 va.e], rfl, hGx _ _ ?_⟩
          clear hGx Gx
          replace b10 := (b10.past hbV9)
          refine ss none b10 hT35 0 #[.bool va.neg, .slice p28 (dig B16 va.m).length c28, .int .i64 va.e] #[.bool va.neg, .slice p28 (dig B16 va.m).length c28, .int .i64 va.e] ?_
          have boV10 := b10
          clear b10
          intro V10 hOV10 b10
          have hzV10 := hOV10.size
          refine sx_nil ?_
          refine sx_then ?_
          refine wp_seq ?_
          refine sx_region ?_
          refine sv 29 (.agg #[.bool va.neg, .slice p28 (dig B16 va.m).length c28, .int .i64 va.e]) ?_ (hr := (exec_ld (by kernel_rfl) (run_ld b10 hT35 0 [.bool va.neg, .slice p28 (dig B16 va.m).length c28, .int .i64 va.e] (by kernel_rfl) (by kernel_rfl))))
          replace b4 := (b4.past ((bthru ((bthru hbV6 hbV7).trans (hOV8.below (by omega))) hbV9).trans (hOV10.below (by omega))))
          refine sv 30 (.agg #[.int .i64 g.rad, .int .i64 g.digs, .int .i64 g.lo, .int .i64 g.hi, .bool g.grad]) ?_ (hr := (exec_ld (by kernel_rfl) (run_ld b4 hT27 0 [.int .i64 g.rad, .int .i64 g.digs, .int .i64 g.lo, .int .i64 g.hi, .bool g.grad] (by kernel_rfl) (by kernel_rfl))))
          replace x28 := (x28.only hOV10 (fun h => by have := lx28 h; omega))
          refine se 31 21 #[.agg #[.bool va.neg, .slice p28 (dig B16 va.m).length c28, .int .i64 va.e], .agg #[.int .i64 g.rad, .int .i64 g.digs, .int .i64 g.lo, .int .i64 g.hi, .bool g.grad]] (fun Gx hGx => ?_)
          ((with_reducible refine ((HI _ p28 c28 x28.rd).out).mono ?_))
          rintro eV11 V11 ⟨rfl, hbV11⟩
          have hzV11 := hbV11.size
          refine ⟨.bool ib, rfl, hGx _ _ ?_⟩
          clear hGx Gx
          refine sv 32 (.bool false) ?_ (hr := ((show _ = Result.ok (Next.value (.bool (!ib))) _ from (by kernel_rfl)).trans (congrArg (fun z => Result.ok (Next.value (.bool z)) _) (show (!ib) = false from tib))))
          refine sx_nil ?_
          refine sx_then ?_
          refine wp_cond_false (by kernel_rfl) ?_
          refine wp_skip ?_
          refine sx_then ?_
          refine wp_seq ?_
          refine sx_region ?_
          refine sn 11 #[.bool false, .slice none 0 0, .int .i64 0] 35 (fun V12 hbV12 hzV12 b11 => ?_)
          refine sx_nil ?_
          refine sx_then ?_
          refine wp_seq ?_
          refine wp_seq ?_
          refine sx_region ?_
          refine sv 33 (.int .i64 ec) ?_
          refine sv 34 (.bool true) ?_ (hr := ((show _ = Result.ok (Next.value (.bool (ec == 0))) _ from (by kernel_rfl)).trans (congrArg (fun z => Result.ok (Next.value (.bool z)) _) (show (ec == 0) = true from tec))))
          refine sx_nil ?_
          refine sx_then ?_
          refine wp_cond_true (by kernel_rfl) ?_
          refine wp_seq ?_
          refine wp_seq ?_
          refine sx_region ?_
          refine sv 35 (.bool true) ?_
          refine sv 36 (.bool false) ?_
          refine sx_nil ?_
          refine sx_then ?_
          refine wp_cond_false (by kernel_rfl) ?_
          refine wp_skip ?_
          refine sx_then ?_
          refine wp_seq ?_
          refine sx_region ?_
          replace b10 := (b10.past (bthru hbV11 hbV12))
          refine sv 40 (.agg #[.bool va.neg, .slice p28 (dig B16 va.m).length c28, .int .i64 va.e]) ?_ (hr := (exec_ld (by kernel_rfl) (run_ld b10 hT35 0 [.bool va.neg, .slice p28 (dig B16 va.m).length c28, .int .i64 va.e] (by kernel_rfl) (by kernel_rfl))))
          replace b4 := (b4.past (bthru hbV11 hbV12))
          refine sv 41 (.agg #[.int .i64 g.rad, .int .i64 g.digs, .int .i64 g.lo, .int .i64 g.hi, .bool g.grad]) ?_ (hr := (exec_ld (by kernel_rfl) (run_ld b4 hT27 0 [.int .i64 g.rad, .int .i64 g.digs, .int .i64 g.lo, .int .i64 g.hi, .bool g.grad] (by kernel_rfl) (by kernel_rfl))))
          replace x28 := (x28.past (bthru hbV11 hbV12))
          refine se 42 23 #[.agg #[.bool va.neg, .slice p28 (dig B16 va.m).length c28, .int .i64 va.e], .agg #[.int .i64 g.rad, .int .i64 g.digs, .int .i64 g.lo, .int .i64 g.hi, .bool g.grad]] (fun Gx hGx => ?_)
          ((with_reducible refine ((HT _ p28 c28 x28.rd x28.cap).out).mono ?_))
          rintro eV13 V13 ⟨p42, c42, rfl, x42, hbV13⟩
          have hzV13 := hbV13.size
          have lx42 := fun h => x42.lt h
          refine ⟨.tuple #[.agg #[.bool r.neg, .slice p42 (dig B16 r.m).length c42, .int .i64 r.e], .bool false], rfl, hGx _ _ ?_⟩
          clear hGx Gx
          refine sv 39 (.tuple #[.agg #[.bool r.neg, .slice p42 (dig B16 r.m).length c42, .int .i64 r.e], .bool false]) ?_
          refine sv 43 (.agg #[.bool r.neg, .slice p42 (dig B16 r.m).length c42, .int .i64 r.e]) ?_
          refine sv 44 (.bool false) ?_
          refine sn 12 #[.bool false, .slice none 0 0, .int .i64 0] 35 (fun V14 hbV14 hzV14 b12 => ?_)
          refine ss none b12 hT35 0 #[.bool r.neg, .slice p42 (dig B16 r.m).length c42, .int .i64 r.e] #[.bool r.neg, .slice p42 (dig B16 r.m).length c42, .int .i64 r.e] ?_
          have boV15 := b12
          clear b12
          intro V15 hOV15 b12
          have hzV15 := hOV15.size
          refine sv 13 (.bool false) ?_
          refine sx_nil ?_
          refine sx_then ?_
          refine wp_seq ?_
          refine sx_region ?_
          refine sv 45 (.agg #[.bool r.neg, .slice p42 (dig B16 r.m).length c42, .int .i64 r.e]) ?_ (hr := (exec_ld (by kernel_rfl) (run_ld b12 hT35 0 [.bool r.neg, .slice p42 (dig B16 r.m).length c42, .int .i64 r.e] (by kernel_rfl) (by kernel_rfl))))
          replace b11 := (b11.past ((bthru hbV13 hbV14).trans (hOV15.below (by omega))))
          refine ss none b11 hT35 0 #[.bool r.neg, .slice p42 (dig B16 r.m).length c42, .int .i64 r.e] #[.bool r.neg, .slice p42 (dig B16 r.m).length c42, .int .i64 r.e] ?_
          have boV16 := b11
          clear b11
          intro V16 hOV16 b11
          have hzV16 := hOV16.size
          refine sx_nil ?_
          refine sx_then ?_
          refine wp_seq ?_
          refine wp_seq ?_
          refine sx_region ?_
          refine sv 46 (.bool true) ?_
          refine sv 47 (.bool false) ?_
          refine sx_nil ?_
          refine sx_then ?_
          refine wp_cond_false (by kernel_rfl) ?_
          refine wp_skip ?_
          refine sx_then ?_
          refine wp_seq ?_
          refine sx_region ?_
          refine sv 50 (.bool false) ?_
          refine sv 51 (.bool true) ?_
          refine sx_nil ?_
          refine sx_then ?_
          refine wp_cond_true (by kernel_rfl) ?_
          refine sx_region ?_
          refine sv 9 (.int .i64 5) ?_
          refine sx_nil ?_
          refine sx_then ?_
          refine wp_seq ?_
          refine sx_region ?_
          refine se 52 7 #[] (fun Gx hGx => ?_)
          ((with_reducible refine (gridBegun_any _).mono ?_))
          rintro eV17 V17 ⟨rfl, hbV17⟩
          have hzV17 := hbV17.size
          refine ⟨.bool true, rfl, hGx _ _ ?_⟩
          clear hGx Gx
          refine sv 53 (.bool true) ?_
          replace b7 := (b7.past (bthru (((bthru (bthru (bthru (bthru ((bthru ((bthru hbV6 hbV7).trans (hOV8.below (by omega))) hbV9).trans (hOV10.below (by omega))) hbV11) hbV12) hbV13) hbV14).trans (hOV15.below (by omega))).trans (hOV16.below (by omega))) hbV17))
          refine sv 54 (.agg #[.bool (((⟨false, 0, 0⟩ : Dv)).neg), .slice p18 (dig B32 ((⟨false, 0, 0⟩ : Dv)).m).length c18, .int .i64 (((⟨false, 0, 0⟩ : Dv)).e)]) ?_ (hr := (exec_ld (by kernel_rfl) (run_ld b7 hT30 0 [.bool (((⟨false, 0, 0⟩ : Dv)).neg), .slice p18 (dig B32 ((⟨false, 0, 0⟩ : Dv)).m).length c18, .int .i64 (((⟨false, 0, 0⟩ : Dv)).e)] (by kernel_rfl) (by kernel_rfl))))
          refine sv 55 (.int .i64 5) ?_
          refine sv 56 (.int .i64 5) ?_
          replace b11 := (b11.past hbV17)
          refine sv 57 (.agg #[.bool r.neg, .slice p42 (dig B16 r.m).length c42, .int .i64 r.e]) ?_ (hr := (exec_ld (by kernel_rfl) (run_ld b11 hT35 0 [.bool r.neg, .slice p42 (dig B16 r.m).length c42, .int .i64 r.e] (by kernel_rfl) (by kernel_rfl))))
          replace x42 := (((x42.past (hbV14.trans (hOV15.below (by omega)))).only hOV16 (fun h => by have := lx42 h; omega)).past hbV17)
          refine se 58 24 #[.agg #[.bool (((⟨false, 0, 0⟩ : Dv)).neg), .slice p18 (dig B32 ((⟨false, 0, 0⟩ : Dv)).m).length c18, .int .i64 (((⟨false, 0, 0⟩ : Dv)).e)], .int .i64 5, .int .i64 5, .agg #[.bool r.neg, .slice p42 (dig B16 r.m).length c42, .int .i64 r.e]] (fun Gx hGx => ?_)
          ((with_reducible refine (dyadIs_err 5 r p18 p42 _ c18 _ c42 _ (by omega) (by simp [dig_zero]) x42.rd rfl (by omega)).mono ?_))
          rintro eV18 V18 ⟨rfl, hbV18⟩
          have hzV18 := hbV18.size
          refine ⟨.bool true, rfl, hGx _ _ ?_⟩
          clear hGx Gx
          refine sv 59 (.bool true) ?_
          refine sv 6 (.bool true) ?_
          refine sx_nil ?_
          refine sx_then ?_
          refine wp_ret ?_
          repeat (first | with_reducible refine sx_thenret ?_ | with_reducible refine sx_blockret ?_)
          refine bodyPost_ret (v := .bool true) (by simp [results, Tryd.results5, go_sem]) rfl ?_
          exact ⟨rfl, (bthru (bthru (((bthru (bthru (bthru (bthru ((bthru ((bthru (bthru ((bthru (bthru (bthru hbV1 hbV2) hbV3) hbV4).trans (hOV5.below (by omega))) hbV6) hbV7).trans (hOV8.below (by omega))) hbV9).trans (hOV10.below (by omega))) hbV11) hbV12) hbV13) hbV14).trans (hOV15.below (by omega))).trans (hOV16.below (by omega))) hbV17) hbV18)⟩
      | false =>
        simp only [Bool.false_eq_true, if_false] at hfr HS
        have hin2 : inGridD (dMinus (dyV a)) g = true := hin
        have hla2 : (dig B32 (dMinus (dyV a)).m).length ≤ 1200 := hla
        have hlen := pStep_len hB2 G hin2 hla ⟨by simp only [dMinus]; omega, by simp only [dMinus]; omega⟩
        rw [hfr] at HS
        have HT := fun W p c (h : Rd W .i64 p (dig B16 (dyV a).m)) hc => Lib.hid (refStepOf_any (dMinus (dyV a)).neg p c (dyV a).e (dyV a).m g W h hB2 hla (by omega) hg0 hin2 hc)
        rw [show (⟨(dMinus (dyV a)).neg, (dyV a).m, (dyV a).e⟩ : Dv) = dMinus (dyV a) from rfl, ← step_eq hB2 G hin2] at HT
        obtain ⟨rb, hrb⟩ : ∃ rb, pStep (dMinus (dyV a)) g = rb := ⟨_, rfl⟩
        rw [hrb] at HS HT hlen
        obtain ⟨r, b⟩ := rb
        have lr := B16_len32 r.m
        simp only at HS HT hlen
        have lr2 : (dig B16 (dMinus r).m).length ≤ 100000000 := Nat.le_trans (show (dig B16 (dMinus r).m).length ≤ 2 * (dig B32 r.m).length from lr) (by omega)
        have HM := fun W p c B (h : Rf W B p c (dig B16 (dyV a).m)) => Lib.hid (refMinus_any (fun k => B ≤ k) (dyV a).neg p _ c (dyV a).e (dyV a).m W h.rd rfl h.cap h.at_)
        have HM2 := fun W p c B (h : Rf W B p c (dig B16 r.m)) => Lib.hid (refMinus_any (fun k => B ≤ k) r.neg p _ c r.e r.m W h.rd rfl h.cap h.at_)
        rw [show dMinus ⟨(dyV a).neg, (dyV a).m, (dyV a).e⟩ = dMinus (dyV a) from rfl] at HM
        rw [show dMinus ⟨r.neg, r.m, r.e⟩ = dMinus r from rfl] at HM2
        clear hrb hfr hst hki
        generalize dyV a = va at *
        cases b with
        | true =>
          simp only [if_true, doneOne, errOne] at HS
          have hT27 : SxAgg Tryd.prog 27 5 := sxAgg_of (by kernel_rfl) (by kernel_rfl)
          have hT30 : SxAgg Tryd.prog 30 3 := sxAgg_of (by kernel_rfl) (by kernel_rfl)
          have hT35 : SxAgg Tryd.prog 35 3 := sxAgg_of (by kernel_rfl) (by kernel_rfl)
          refine calls_of_wp Tryd.func5 rfl ?_
          refine sx_frame (a' := ⟨((.agg #[.bool a.g, .slice a.p a.xs.length a.c, .int .i64 a.e]) :: (.agg #[.int .i64 g.rad, .int .i64 g.digs, .int .i64 g.lo, .int .i64 g.hi, .bool g.grad]) :: (.bool false) :: undef :: undef :: undef :: undef :: undef :: undef :: undef :: undef :: undef :: undef :: undef :: undef :: undef :: undef :: undef :: undef :: undef :: undef :: undef :: undef :: undef :: undef :: undef :: undef :: undef :: undef :: undef :: undef :: undef :: undef :: undef :: undef :: undef :: undef :: undef :: undef :: undef :: undef :: undef :: undef :: undef :: undef :: undef :: undef :: undef :: undef :: undef :: undef :: undef :: undef :: undef :: undef :: undef :: undef :: undef :: undef :: undef :: []).toArray, []⟩) (by kernel_rfl) ?_
          refine wp_seq ?_
          refine sx_region ?_
          refine sn 3 #[.bool a.g, .slice a.p a.xs.length a.c, .int .i64 a.e] 30 (fun V1 hbV1 hzV1 b3 => ?_)
          refine sn 4 #[.int .i64 g.rad, .int .i64 g.digs, .int .i64 g.lo, .int .i64 g.hi, .bool g.grad] 27 (fun V2 hbV2 hzV2 b4 => ?_)
          refine sv 6 (.bool false) ?_
          refine sx_nil ?_
          refine sx_then ?_
          refine wp_seq ?_
          refine sx_region ?_
          replace b3 := (b3.past hbV2)
          refine sv 15 (.agg #[.bool a.g, .slice a.p a.xs.length a.c, .int .i64 a.e]) ?_ (hr := (exec_ld (by kernel_rfl) (run_ld b3 hT30 0 [.bool a.g, .slice a.p a.xs.length a.c, .int .i64 a.e] (by kernel_rfl) (by kernel_rfl))))
          refine sv 16 (.agg #[.int .i64 g.rad, .int .i64 g.digs, .int .i64 g.lo, .int .i64 g.hi, .bool g.grad]) ?_ (hr := (exec_ld (by kernel_rfl) (run_ld b4 hT27 0 [.int .i64 g.rad, .int .i64 g.digs, .int .i64 g.lo, .int .i64 g.hi, .bool g.grad] (by kernel_rfl) (by kernel_rfl))))
          refine sv 17 (.bool false) ?_
          replace ha := (ha.past (bthru hbV1 hbV2))
          replace hT := (hT.past (bthru hbV1 hbV2))
          refine se 18 18 #[.agg #[.bool a.g, .slice a.p a.xs.length a.c, .int .i64 a.e], .agg #[.int .i64 g.rad, .int .i64 g.digs, .int .i64 g.lo, .int .i64 g.hi, .bool g.grad], .bool false] (fun Gx hGx => ?_)
          ((with_reducible refine ((HS _ ha hT).out).mono ?_))
          rintro eV3 V3 ⟨p18, c18, rfl, ho18, hbV3⟩
          have hzV3 := hbV3.size
          refine ⟨.tuple #[.agg #[.bool ((doneD (dMinus r)).neg), .slice p18 (dig B32 (doneD (dMinus r)).m).length c18, .int .i64 ((doneD (dMinus r)).e)], .int .i64 (errD (dMinus r))], rfl, hGx _ _ ?_⟩
          clear hGx Gx
          refine sv 14 (.tuple #[.agg #[.bool ((doneD (dMinus r)).neg), .slice p18 (dig B32 (doneD (dMinus r)).m).length c18, .int .i64 ((doneD (dMinus r)).e)], .int .i64 (errD (dMinus r))]) ?_
          refine sv 19 (.agg #[.bool ((doneD (dMinus r)).neg), .slice p18 (dig B32 (doneD (dMinus r)).m).length c18, .int .i64 ((doneD (dMinus r)).e)]) ?_
          refine sv 20 (.int .i64 (errD (dMinus r))) ?_
          refine sn 7 #[.bool false, .slice none 0 0, .int .i64 0] 30 (fun V4 hbV4 hzV4 b7 => ?_)
          refine ss none b7 hT30 0 #[.bool ((doneD (dMinus r)).neg), .slice p18 (dig B32 (doneD (dMinus r)).m).length c18, .int .i64 ((doneD (dMinus r)).e)] #[.bool ((doneD (dMinus r)).neg), .slice p18 (dig B32 (doneD (dMinus r)).m).length c18, .int .i64 ((doneD (dMinus r)).e)] ?_
          have boV5 := b7
          clear b7
          intro V5 hOV5 b7
          have hzV5 := hOV5.size
          refine sv 8 (.int .i64 (errD (dMinus r))) ?_
          refine sx_nil ?_
          refine sx_then ?_
          refine wp_seq ?_
          refine sx_region ?_
          replace b3 := (b3.past ((bthru hbV3 hbV4).trans (hOV5.below (by omega))))
          refine sv 21 (.agg #[.bool a.g, .slice a.p a.xs.length a.c, .int .i64 a.e]) ?_ (hr := (exec_ld (by kernel_rfl) (run_ld b3 hT30 0 [.bool a.g, .slice a.p a.xs.length a.c, .int .i64 a.e] (by kernel_rfl) (by kernel_rfl))))
          replace b4 := (b4.past ((bthru hbV3 hbV4).trans (hOV5.below (by omega))))
          refine sv 22 (.agg #[.int .i64 g.rad, .int .i64 g.digs, .int .i64 g.lo, .int .i64 g.hi, .bool g.grad]) ?_ (hr := (exec_ld (by kernel_rfl) (run_ld b4 hT27 0 [.int .i64 g.rad, .int .i64 g.digs, .int .i64 g.lo, .int .i64 g.hi, .bool g.grad] (by kernel_rfl) (by kernel_rfl))))
          replace ha := (ha.past ((bthru hbV3 hbV4).trans (hOV5.below (by omega))))
          refine se 23 19 #[.agg #[.bool a.g, .slice a.p a.xs.length a.c, .int .i64 a.e], .agg #[.int .i64 g.rad, .int .i64 g.digs, .int .i64 g.lo, .int .i64 g.hi, .bool g.grad]] (fun Gx hGx => ?_)
          ((with_reducible refine ((HG _ ha).out).mono ?_))
          rintro eV6 V6 ⟨rfl, hbV6⟩
          have hzV6 := hbV6.size
          refine ⟨.int .i64 ec, rfl, hGx _ _ ?_⟩
          clear hGx Gx
          refine sv 9 (.int .i64 ec) ?_
          refine sx_nil ?_
          refine sx_then ?_
          refine wp_seq ?_
          refine sx_region ?_
          refine sv 24 (.agg #[.bool false, .slice none 0 0, .int .i64 0]) ?_
          refine sn 10 #[.bool false, .slice none 0 0, .int .i64 0] 35 (fun V7 hbV7 hzV7 b10 => ?_)
          refine ss none b10 hT35 0 #[.bool false, .slice none 0 0, .int .i64 0] #[.bool false, .slice none 0 0, .int .i64 0] ?_
          have boV8 := b10
          clear b10
          intro V8 hOV8 b10
          have hzV8 := hOV8.size
          refine sx_nil ?_
          refine sx_then ?_
          refine wp_seq ?_
          refine wp_seq ?_
          refine sx_region ?_
          refine sv 25 (.int .i64 ec) ?_
          refine sv 26 (.bool true) ?_ (hr := ((show _ = Result.ok (Next.value (.bool (ec == 0))) _ from (by kernel_rfl)).trans (congrArg (fun z => Result.ok (Next.value (.bool z)) _) (show (ec == 0) = true from tec))))
          refine sx_nil ?_
          refine sx_then ?_
          refine wp_cond_true (by kernel_rfl) ?_
          refine wp_seq ?_
          refine sx_region ?_
          replace b3 := (b3.past ((bthru hbV6 hbV7).trans (hOV8.below (by omega))))
          refine sv 27 (.agg #[.bool a.g, .slice a.p a.xs.length a.c, .int .i64 a.e]) ?_ (hr := (exec_ld (by kernel_rfl) (run_ld b3 hT30 0 [.bool a.g, .slice a.p a.xs.length a.c, .int .i64 a.e] (by kernel_rfl) (by kernel_rfl))))
          replace ha := (ha.past ((bthru hbV6 hbV7).trans (hOV8.below (by omega))))
          refine se 28 20 #[.agg #[.bool a.g, .slice a.p a.xs.length a.c, .int .i64 a.e]] (fun Gx hGx => ?_)
          ((with_reducible refine ((HO _ ha).out).mono ?_))
          rintro eV9 V9 ⟨p28, c28, rfl, hr_x28, hc_x28, hf_x28, hbV9⟩
          have hzV9 := hbV9.size
          have x28 := rf_of hr_x28 hc_x28 hf_x28
          clear hr_x28 hc_x28 hf_x28
          have lx28 := fun h => x28.lt h
          refine ⟨.agg #[.bool va.neg, .slice p28 (dig B16 va.m).length c28, .int .i64 va.e], rfl, hGx _ _ ?_⟩
          clear hGx Gx
          replace b10 := (b10.past hbV9)
          refine ss none b10 hT35 0 #[.bool va.neg, .slice p28 (dig B16 va.m).length c28, .int .i64 va.e] #[.bool va.neg, .slice p28 (dig B16 va.m).length c28, .int .i64 va.e] ?_
          have boV10 := b10
          clear b10
          intro V10 hOV10 b10
          have hzV10 := hOV10.size
          refine sx_nil ?_
          refine sx_then ?_
          refine wp_seq ?_
          refine sx_region ?_
          refine sv 29 (.agg #[.bool va.neg, .slice p28 (dig B16 va.m).length c28, .int .i64 va.e]) ?_ (hr := (exec_ld (by kernel_rfl) (run_ld b10 hT35 0 [.bool va.neg, .slice p28 (dig B16 va.m).length c28, .int .i64 va.e] (by kernel_rfl) (by kernel_rfl))))
          replace b4 := (b4.past ((bthru ((bthru hbV6 hbV7).trans (hOV8.below (by omega))) hbV9).trans (hOV10.below (by omega))))
          refine sv 30 (.agg #[.int .i64 g.rad, .int .i64 g.digs, .int .i64 g.lo, .int .i64 g.hi, .bool g.grad]) ?_ (hr := (exec_ld (by kernel_rfl) (run_ld b4 hT27 0 [.int .i64 g.rad, .int .i64 g.digs, .int .i64 g.lo, .int .i64 g.hi, .bool g.grad] (by kernel_rfl) (by kernel_rfl))))
          replace x28 := (x28.only hOV10 (fun h => by have := lx28 h; omega))
          refine se 31 21 #[.agg #[.bool va.neg, .slice p28 (dig B16 va.m).length c28, .int .i64 va.e], .agg #[.int .i64 g.rad, .int .i64 g.digs, .int .i64 g.lo, .int .i64 g.hi, .bool g.grad]] (fun Gx hGx => ?_)
          ((with_reducible refine ((HI _ p28 c28 x28.rd).out).mono ?_))
          rintro eV11 V11 ⟨rfl, hbV11⟩
          have hzV11 := hbV11.size
          refine ⟨.bool ib, rfl, hGx _ _ ?_⟩
          clear hGx Gx
          refine sv 32 (.bool false) ?_ (hr := ((show _ = Result.ok (Next.value (.bool (!ib))) _ from (by kernel_rfl)).trans (congrArg (fun z => Result.ok (Next.value (.bool z)) _) (show (!ib) = false from tib))))
          refine sx_nil ?_
          refine sx_then ?_
          refine wp_cond_false (by kernel_rfl) ?_
          refine wp_skip ?_
          refine sx_then ?_
          refine wp_seq ?_
          refine sx_region ?_
          refine sn 11 #[.bool false, .slice none 0 0, .int .i64 0] 35 (fun V12 hbV12 hzV12 b11 => ?_)
          refine sx_nil ?_
          refine sx_then ?_
          refine wp_seq ?_
          refine wp_seq ?_
          refine sx_region ?_
          refine sv 33 (.int .i64 ec) ?_
          refine sv 34 (.bool true) ?_ (hr := ((show _ = Result.ok (Next.value (.bool (ec == 0))) _ from (by kernel_rfl)).trans (congrArg (fun z => Result.ok (Next.value (.bool z)) _) (show (ec == 0) = true from tec))))
          refine sx_nil ?_
          refine sx_then ?_
          refine wp_cond_true (by kernel_rfl) ?_
          refine wp_seq ?_
          refine wp_seq ?_
          refine sx_region ?_
          refine sv 35 (.bool false) ?_
          refine sv 36 (.bool true) ?_
          refine sx_nil ?_
          refine sx_then ?_
          refine wp_cond_true (by kernel_rfl) ?_
          refine sx_region ?_
          replace b10 := (b10.past (bthru hbV11 hbV12))
          refine sv 37 (.agg #[.bool va.neg, .slice p28 (dig B16 va.m).length c28, .int .i64 va.e]) ?_ (hr := (exec_ld (by kernel_rfl) (run_ld b10 hT35 0 [.bool va.neg, .slice p28 (dig B16 va.m).length c28, .int .i64 va.e] (by kernel_rfl) (by kernel_rfl))))
          replace x28 := (x28.past (bthru hbV11 hbV12))
          refine se 38 22 #[.agg #[.bool va.neg, .slice p28 (dig B16 va.m).length c28, .int .i64 va.e]] (fun Gx hGx => ?_)
          ((with_reducible refine ((HM _ p28 c28 _ x28).out).mono ?_))
          rintro eV13 V13 ⟨p38, c38, rfl, hr38, hc38, hf38, hbV13⟩
          have hzV13 := hbV13.size
          have x38 : Rf _ _ p38 c38 (dig B16 va.m) := rf_ofP hr38 hc38 hf38 (by omega)
          clear hr38 hc38 hf38
          have lx38 := fun h => x38.lt h
          refine ⟨.agg #[.bool ((dMinus va).neg), .slice p38 (dig B16 va.m).length c38, .int .i64 va.e], rfl, hGx _ _ ?_⟩
          clear hGx Gx
          replace b10 := (b10.past hbV13)
          refine ss none b10 hT35 0 #[.bool ((dMinus va).neg), .slice p38 (dig B16 va.m).length c38, .int .i64 va.e] #[.bool ((dMinus va).neg), .slice p38 (dig B16 va.m).length c38, .int .i64 va.e] ?_
          have boV14 := b10
          clear b10
          intro V14 hOV14 b10
          have hzV14 := hOV14.size
          refine sx_nil ?_
          refine sx_then ?_
          refine wp_seq ?_
          refine sx_region ?_
          refine sv 40 (.agg #[.bool ((dMinus va).neg), .slice p38 (dig B16 va.m).length c38, .int .i64 va.e]) ?_ (hr := (exec_ld (by kernel_rfl) (run_ld b10 hT35 0 [.bool ((dMinus va).neg), .slice p38 (dig B16 va.m).length c38, .int .i64 va.e] (by kernel_rfl) (by kernel_rfl))))
          replace b4 := ((b4.past (bthru (bthru hbV11 hbV12) hbV13)).only hOV14 (by omega))
          refine sv 41 (.agg #[.int .i64 g.rad, .int .i64 g.digs, .int .i64 g.lo, .int .i64 g.hi, .bool g.grad]) ?_ (hr := (exec_ld (by kernel_rfl) (run_ld b4 hT27 0 [.int .i64 g.rad, .int .i64 g.digs, .int .i64 g.lo, .int .i64 g.hi, .bool g.grad] (by kernel_rfl) (by kernel_rfl))))
          replace x38 := (x38.only hOV14 (fun h => by have := lx38 h; omega))
          refine se 42 23 #[.agg #[.bool ((dMinus va).neg), .slice p38 (dig B16 va.m).length c38, .int .i64 va.e], .agg #[.int .i64 g.rad, .int .i64 g.digs, .int .i64 g.lo, .int .i64 g.hi, .bool g.grad]] (fun Gx hGx => ?_)
          ((with_reducible refine ((HT _ p38 c38 x38.rd x38.cap).out).mono ?_))
          rintro eV15 V15 ⟨p42, c42, rfl, x42, hbV15⟩
          have hzV15 := hbV15.size
          have lx42 := fun h => x42.lt h
          refine ⟨.tuple #[.agg #[.bool r.neg, .slice p42 (dig B16 r.m).length c42, .int .i64 r.e], .bool true], rfl, hGx _ _ ?_⟩
          clear hGx Gx
          refine sv 39 (.tuple #[.agg #[.bool r.neg, .slice p42 (dig B16 r.m).length c42, .int .i64 r.e], .bool true]) ?_
          refine sv 43 (.agg #[.bool r.neg, .slice p42 (dig B16 r.m).length c42, .int .i64 r.e]) ?_
          refine sv 44 (.bool true) ?_
          refine sn 12 #[.bool false, .slice none 0 0, .int .i64 0] 35 (fun V16 hbV16 hzV16 b12 => ?_)
          refine ss none b12 hT35 0 #[.bool r.neg, .slice p42 (dig B16 r.m).length c42, .int .i64 r.e] #[.bool r.neg, .slice p42 (dig B16 r.m).length c42, .int .i64 r.e] ?_
          have boV17 := b12
          clear b12
          intro V17 hOV17 b12
          have hzV17 := hOV17.size
          refine sv 13 (.bool true) ?_
          refine sx_nil ?_
          refine sx_then ?_
          refine wp_seq ?_
          refine sx_region ?_
          refine sv 45 (.agg #[.bool r.neg, .slice p42 (dig B16 r.m).length c42, .int .i64 r.e]) ?_ (hr := (exec_ld (by kernel_rfl) (run_ld b12 hT35 0 [.bool r.neg, .slice p42 (dig B16 r.m).length c42, .int .i64 r.e] (by kernel_rfl) (by kernel_rfl))))
          replace b11 := (((b11.past hbV13).only hOV14 (by omega)).past ((bthru hbV15 hbV16).trans (hOV17.below (by omega))))
          refine ss none b11 hT35 0 #[.bool r.neg, .slice p42 (dig B16 r.m).length c42, .int .i64 r.e] #[.bool r.neg, .slice p42 (dig B16 r.m).length c42, .int .i64 r.e] ?_
          have boV18 := b11
          clear b11
          intro V18 hOV18 b11
          have hzV18 := hOV18.size
          refine sx_nil ?_
          refine sx_then ?_
          refine wp_seq ?_
          refine wp_seq ?_
          refine sx_region ?_
          refine sv 46 (.bool false) ?_
          refine sv 47 (.bool true) ?_
          refine sx_nil ?_
          refine sx_then ?_
          refine wp_cond_true (by kernel_rfl) ?_
          refine sx_region ?_
          replace b12 := (b12.only hOV18 (by omega))
          refine sv 48 (.agg #[.bool r.neg, .slice p42 (dig B16 r.m).length c42, .int .i64 r.e]) ?_ (hr := (exec_ld (by kernel_rfl) (run_ld b12 hT35 0 [.bool r.neg, .slice p42 (dig B16 r.m).length c42, .int .i64 r.e] (by kernel_rfl) (by kernel_rfl))))
          replace x42 := ((x42.past (hbV16.trans (hOV17.below (by omega)))).only hOV18 (fun h => by have := lx42 h; omega))
          refine se 49 22 #[.agg #[.bool r.neg, .slice p42 (dig B16 r.m).length c42, .int .i64 r.e]] (fun Gx hGx => ?_)
          ((with_reducible refine ((HM2 _ p42 c42 _ x42).out).mono ?_))
          rintro eV19 V19 ⟨p49, c49, rfl, hr49, hc49, hf49, hbV19⟩
          have hzV19 := hbV19.size
          have x49 := rf_ofP hr49 hc49 hf49 (by omega)
          clear hr49 hc49 hf49
          have lx49 := fun h => x49.lt h
          refine ⟨.agg #[.bool ((dMinus r).neg), .slice p49 (dig B16 (dMinus r).m).length c49, .int .i64 ((dMinus r).e)], rfl, hGx _ _ ?_⟩
          clear hGx Gx
          replace b11 := (b11.past hbV19)
          refine ss none b11 hT35 0 #[.bool ((dMinus r).neg), .slice p49 (dig B16 (dMinus r).m).length c49, .int .i64 ((dMinus r).e)] #[.bool ((dMinus r).neg), .slice p49 (dig B16 (dMinus r).m).length c49, .int .i64 ((dMinus r).e)] ?_
          have boV20 := b11
          clear b11
          intro V20 hOV20 b11
          have hzV20 := hOV20.size
          refine sx_nil ?_
          refine sx_then ?_
          refine wp_seq ?_
          refine sx_region ?_
          refine sv 50 (.bool true) ?_
          refine sv 51 (.bool false) ?_
          refine sx_nil ?_
          refine sx_then ?_
          refine wp_cond_false (by kernel_rfl) ?_
          refine wp_skip ?_
          refine sx_then ?_
          refine wp_seq ?_
          refine sx_region ?_
          refine se 52 7 #[] (fun Gx hGx => ?_)
          ((with_reducible refine (gridBegun_any _).mono ?_))
          rintro eV21 V21 ⟨rfl, hbV21⟩
          have hzV21 := hbV21.size
          refine ⟨.bool true, rfl, hGx _ _ ?_⟩
          clear hGx Gx
          refine sv 53 (.bool true) ?_
          replace b7 := (b7.past (bthru ((bthru (((bthru (bthru ((bthru (bthru (bthru ((bthru ((bthru hbV6 hbV7).trans (hOV8.below (by omega))) hbV9).trans (hOV10.below (by omega))) hbV11) hbV12) hbV13).trans (hOV14.below (by omega))) hbV15) hbV16).trans (hOV17.below (by omega))).trans (hOV18.below (by omega))) hbV19).trans (hOV20.below (by omega))) hbV21))
          refine sv 54 (.agg #[.bool ((doneD (dMinus r)).neg), .slice p18 (dig B32 (doneD (dMinus r)).m).length c18, .int .i64 ((doneD (dMinus r)).e)]) ?_ (hr := (exec_ld (by kernel_rfl) (run_ld b7 hT30 0 [.bool ((doneD (dMinus r)).neg), .slice p18 (dig B32 (doneD (dMinus r)).m).length c18, .int .i64 ((doneD (dMinus r)).e)] (by kernel_rfl) (by kernel_rfl))))
          refine sv 55 (.int .i64 (errD (dMinus r))) ?_
          refine sv 56 (.int .i64 ec) ?_
          replace b11 := (b11.past hbV21)
          refine sv 57 (.agg #[.bool ((dMinus r).neg), .slice p49 (dig B16 (dMinus r).m).length c49, .int .i64 ((dMinus r).e)]) ?_ (hr := (exec_ld (by kernel_rfl) (run_ld b11 hT35 0 [.bool ((dMinus r).neg), .slice p49 (dig B16 (dMinus r).m).length c49, .int .i64 ((dMinus r).e)] (by kernel_rfl) (by kernel_rfl))))
          replace ho18 := (ho18.past (bthru ((bthru (((bthru (bthru ((bthru (bthru (bthru ((bthru ((bthru (bthru (hbV4.trans (hOV5.below (by omega))) hbV6) hbV7).trans (hOV8.below (by omega))) hbV9).trans (hOV10.below (by omega))) hbV11) hbV12) hbV13).trans (hOV14.below (by omega))) hbV15) hbV16).trans (hOV17.below (by omega))).trans (hOV18.below (by omega))) hbV19).trans (hOV20.below (by omega))) hbV21))
          have hrd := ho18.rd
          have hz := tec0
          replace x49 := ((x49.only hOV20 (fun h => by have := lx49 h; omega)).past hbV21)
          refine se 58 24 #[.agg #[.bool ((doneD (dMinus r)).neg), .slice p18 (dig B32 (doneD (dMinus r)).m).length c18, .int .i64 ((doneD (dMinus r)).e)], .int .i64 (errD (dMinus r)), .int .i64 ec, .agg #[.bool ((dMinus r).neg), .slice p49 (dig B16 (dMinus r).m).length c49, .int .i64 ((dMinus r).e)]] (fun Gx hGx => ?_)
          ((with_reducible refine ((show Calls _ _ #[_, _, .int .i64 ec, _] _ _ from by rw [hz]; exact dyadIs_ok (dMinus r) p18 p49 _ c18 _ c49 _ hrd x49.rd rfl rfl lr2)).mono ?_))
          rintro eV22 V22 ⟨rfl, hbV22⟩
          have hzV22 := hbV22.size
          refine ⟨.bool true, rfl, hGx _ _ ?_⟩
          clear hGx Gx
          refine sv 59 (.bool true) ?_
          refine sv 6 (.bool true) ?_
          refine sx_nil ?_
          refine sx_then ?_
          refine wp_ret ?_
          repeat (first | with_reducible refine sx_thenret ?_ | with_reducible refine sx_blockret ?_)
          refine bodyPost_ret (v := .bool true) (by simp [results, Tryd.results5, go_sem]) rfl ?_
          exact ⟨rfl, (bthru (bthru ((bthru (((bthru (bthru ((bthru (bthru (bthru ((bthru ((bthru (bthru ((bthru (bthru (bthru hbV1 hbV2) hbV3) hbV4).trans (hOV5.below (by omega))) hbV6) hbV7).trans (hOV8.below (by omega))) hbV9).trans (hOV10.below (by omega))) hbV11) hbV12) hbV13).trans (hOV14.below (by omega))) hbV15) hbV16).trans (hOV17.below (by omega))).trans (hOV18.below (by omega))) hbV19).trans (hOV20.below (by omega))) hbV21) hbV22)⟩
        | false =>
          simp only [Bool.false_eq_true, if_false, doneOne, errOne, show ¬ ((5 : Int) = 0) by omega] at HS
          have hT27 : SxAgg Tryd.prog 27 5 := sxAgg_of (by kernel_rfl) (by kernel_rfl)
          have hT30 : SxAgg Tryd.prog 30 3 := sxAgg_of (by kernel_rfl) (by kernel_rfl)
          have hT35 : SxAgg Tryd.prog 35 3 := sxAgg_of (by kernel_rfl) (by kernel_rfl)
          refine calls_of_wp Tryd.func5 rfl ?_
          refine sx_frame (a' := ⟨((.agg #[.bool a.g, .slice a.p a.xs.length a.c, .int .i64 a.e]) :: (.agg #[.int .i64 g.rad, .int .i64 g.digs, .int .i64 g.lo, .int .i64 g.hi, .bool g.grad]) :: (.bool false) :: undef :: undef :: undef :: undef :: undef :: undef :: undef :: undef :: undef :: undef :: undef :: undef :: undef :: undef :: undef :: undef :: undef :: undef :: undef :: undef :: undef :: undef :: undef :: undef :: undef :: undef :: undef :: undef :: undef :: undef :: undef :: undef :: undef :: undef :: undef :: undef :: undef :: undef :: undef :: undef :: undef :: undef :: undef :: undef :: undef :: undef :: undef :: undef :: undef :: undef :: undef :: undef :: undef :: undef :: undef :: undef :: undef :: []).toArray, []⟩) (by kernel_rfl) ?_
          refine wp_seq ?_
          refine sx_region ?_
          refine sn 3 #[.bool a.g, .slice a.p a.xs.length a.c, .int .i64 a.e] 30 (fun V1 hbV1 hzV1 b3 => ?_)
          refine sn 4 #[.int .i64 g.rad, .int .i64 g.digs, .int .i64 g.lo, .int .i64 g.hi, .bool g.grad] 27 (fun V2 hbV2 hzV2 b4 => ?_)
          refine sv 6 (.bool false) ?_
          refine sx_nil ?_
          refine sx_then ?_
          refine wp_seq ?_
          refine sx_region ?_
          replace b3 := (b3.past hbV2)
          refine sv 15 (.agg #[.bool a.g, .slice a.p a.xs.length a.c, .int .i64 a.e]) ?_ (hr := (exec_ld (by kernel_rfl) (run_ld b3 hT30 0 [.bool a.g, .slice a.p a.xs.length a.c, .int .i64 a.e] (by kernel_rfl) (by kernel_rfl))))
          refine sv 16 (.agg #[.int .i64 g.rad, .int .i64 g.digs, .int .i64 g.lo, .int .i64 g.hi, .bool g.grad]) ?_ (hr := (exec_ld (by kernel_rfl) (run_ld b4 hT27 0 [.int .i64 g.rad, .int .i64 g.digs, .int .i64 g.lo, .int .i64 g.hi, .bool g.grad] (by kernel_rfl) (by kernel_rfl))))
          refine sv 17 (.bool false) ?_
          replace ha := (ha.past (bthru hbV1 hbV2))
          replace hT := (hT.past (bthru hbV1 hbV2))
          refine se 18 18 #[.agg #[.bool a.g, .slice a.p a.xs.length a.c, .int .i64 a.e], .agg #[.int .i64 g.rad, .int .i64 g.digs, .int .i64 g.lo, .int .i64 g.hi, .bool g.grad], .bool false] (fun Gx hGx => ?_)
          ((with_reducible refine ((HS _ ha hT).out).mono ?_))
          rintro eV3 V3 ⟨p18, c18, rfl, ho18, hbV3⟩
          have hzV3 := hbV3.size
          refine ⟨.tuple #[.agg #[.bool (((⟨false, 0, 0⟩ : Dv)).neg), .slice p18 (dig B32 ((⟨false, 0, 0⟩ : Dv)).m).length c18, .int .i64 (((⟨false, 0, 0⟩ : Dv)).e)], .int .i64 5], rfl, hGx _ _ ?_⟩
          clear hGx Gx
          refine sv 14 (.tuple #[.agg #[.bool (((⟨false, 0, 0⟩ : Dv)).neg), .slice p18 (dig B32 ((⟨false, 0, 0⟩ : Dv)).m).length c18, .int .i64 (((⟨false, 0, 0⟩ : Dv)).e)], .int .i64 5]) ?_
          refine sv 19 (.agg #[.bool (((⟨false, 0, 0⟩ : Dv)).neg), .slice p18 (dig B32 ((⟨false, 0, 0⟩ : Dv)).m).length c18, .int .i64 (((⟨false, 0, 0⟩ : Dv)).e)]) ?_
          refine sv 20 (.int .i64 5) ?_
          refine sn 7 #[.bool false, .slice none 0 0, .int .i64 0] 30 (fun V4 hbV4 hzV4 b7 => ?_)
          refine ss none b7 hT30 0 #[.bool (((⟨false, 0, 0⟩ : Dv)).neg), .slice p18 (dig B32 ((⟨false, 0, 0⟩ : Dv)).m).length c18, .int .i64 (((⟨false, 0, 0⟩ : Dv)).e)] #[.bool (((⟨false, 0, 0⟩ : Dv)).neg), .slice p18 (dig B32 ((⟨false, 0, 0⟩ : Dv)).m).length c18, .int .i64 (((⟨false, 0, 0⟩ : Dv)).e)] ?_
          have boV5 := b7
          clear b7
          intro V5 hOV5 b7
          have hzV5 := hOV5.size
          refine sv 8 (.int .i64 5) ?_
          refine sx_nil ?_
          refine sx_then ?_
          refine wp_seq ?_
          refine sx_region ?_
          replace b3 := (b3.past ((bthru hbV3 hbV4).trans (hOV5.below (by omega))))
          refine sv 21 (.agg #[.bool a.g, .slice a.p a.xs.length a.c, .int .i64 a.e]) ?_ (hr := (exec_ld (by kernel_rfl) (run_ld b3 hT30 0 [.bool a.g, .slice a.p a.xs.length a.c, .int .i64 a.e] (by kernel_rfl) (by kernel_rfl))))
          replace b4 := (b4.past ((bthru hbV3 hbV4).trans (hOV5.below (by omega))))
          refine sv 22 (.agg #[.int .i64 g.rad, .int .i64 g.digs, .int .i64 g.lo, .int .i64 g.hi, .bool g.grad]) ?_ (hr := (exec_ld (by kernel_rfl) (run_ld b4 hT27 0 [.int .i64 g.rad, .int .i64 g.digs, .int .i64 g.lo, .int .i64 g.hi, .bool g.grad] (by kernel_rfl) (by kernel_rfl))))
          replace ha := (ha.past ((bthru hbV3 hbV4).trans (hOV5.below (by omega))))
          refine se 23 19 #[.agg #[.bool a.g, .slice a.p a.xs.length a.c, .int .i64 a.e], .agg #[.int .i64 g.rad, .int .i64 g.digs, .int .i64 g.lo, .int .i64 g.hi, .bool g.grad]] (fun Gx hGx => ?_)
          ((with_reducible refine ((HG _ ha).out).mono ?_))
          rintro eV6 V6 ⟨rfl, hbV6⟩
          have hzV6 := hbV6.size
          refine ⟨.int .i64 ec, rfl, hGx _ _ ?_⟩
          clear hGx Gx
          refine sv 9 (.int .i64 ec) ?_
          refine sx_nil ?_
          refine sx_then ?_
          refine wp_seq ?_
          refine sx_region ?_
          refine sv 24 (.agg #[.bool false, .slice none 0 0, .int .i64 0]) ?_
          refine sn 10 #[.bool false, .slice none 0 0, .int .i64 0] 35 (fun V7 hbV7 hzV7 b10 => ?_)
          refine ss none b10 hT35 0 #[.bool false, .slice none 0 0, .int .i64 0] #[.bool false, .slice none 0 0, .int .i64 0] ?_
          have boV8 := b10
          clear b10
          intro V8 hOV8 b10
          have hzV8 := hOV8.size
          refine sx_nil ?_
          refine sx_then ?_
          refine wp_seq ?_
          refine wp_seq ?_
          refine sx_region ?_
          refine sv 25 (.int .i64 ec) ?_
          refine sv 26 (.bool true) ?_ (hr := ((show _ = Result.ok (Next.value (.bool (ec == 0))) _ from (by kernel_rfl)).trans (congrArg (fun z => Result.ok (Next.value (.bool z)) _) (show (ec == 0) = true from tec))))
          refine sx_nil ?_
          refine sx_then ?_
          refine wp_cond_true (by kernel_rfl) ?_
          refine wp_seq ?_
          refine sx_region ?_
          replace b3 := (b3.past ((bthru hbV6 hbV7).trans (hOV8.below (by omega))))
          refine sv 27 (.agg #[.bool a.g, .slice a.p a.xs.length a.c, .int .i64 a.e]) ?_ (hr := (exec_ld (by kernel_rfl) (run_ld b3 hT30 0 [.bool a.g, .slice a.p a.xs.length a.c, .int .i64 a.e] (by kernel_rfl) (by kernel_rfl))))
          replace ha := (ha.past ((bthru hbV6 hbV7).trans (hOV8.below (by omega))))
          refine se 28 20 #[.agg #[.bool a.g, .slice a.p a.xs.length a.c, .int .i64 a.e]] (fun Gx hGx => ?_)
          ((with_reducible refine ((HO _ ha).out).mono ?_))
          rintro eV9 V9 ⟨p28, c28, rfl, hr_x28, hc_x28, hf_x28, hbV9⟩
          have hzV9 := hbV9.size
          have x28 := rf_of hr_x28 hc_x28 hf_x28
          clear hr_x28 hc_x28 hf_x28
          have lx28 := fun h => x28.lt h
          refine ⟨.agg #[.bool va.neg, .slice p28 (dig B16 va.m).length c28, .int .i64 va.e], rfl, hGx _ _ ?_⟩
          clear hGx Gx
          replace b10 := (b10.past hbV9)
          refine ss none b10 hT35 0 #[.bool va.neg, .slice p28 (dig B16 va.m).length c28, .int .i64 va.e] #[.bool va.neg, .slice p28 (dig B16 va.m).length c28, .int .i64 va.e] ?_
          have boV10 := b10
          clear b10
          intro V10 hOV10 b10
          have hzV10 := hOV10.size
          refine sx_nil ?_
          refine sx_then ?_
          refine wp_seq ?_
          refine sx_region ?_
          refine sv 29 (.agg #[.bool va.neg, .slice p28 (dig B16 va.m).length c28, .int .i64 va.e]) ?_ (hr := (exec_ld (by kernel_rfl) (run_ld b10 hT35 0 [.bool va.neg, .slice p28 (dig B16 va.m).length c28, .int .i64 va.e] (by kernel_rfl) (by kernel_rfl))))
          replace b4 := (b4.past ((bthru ((bthru hbV6 hbV7).trans (hOV8.below (by omega))) hbV9).trans (hOV10.below (by omega))))
          refine sv 30 (.agg #[.int .i64 g.rad, .int .i64 g.digs, .int .i64 g.lo, .int .i64 g.hi, .bool g.grad]) ?_ (hr := (exec_ld (by kernel_rfl) (run_ld b4 hT27 0 [.int .i64 g.rad, .int .i64 g.digs, .int .i64 g.lo, .int .i64 g.hi, .bool g.grad] (by kernel_rfl) (by kernel_rfl))))
          replace x28 := (x28.only hOV10 (fun h => by have := lx28 h; omega))
          refine se 31 21 #[.agg #[.bool va.neg, .slice p28 (dig B16 va.m).length c28, .int .i64 va.e], .agg #[.int .i64 g.rad, .int .i64 g.digs, .int .i64 g.lo, .int .i64 g.hi, .bool g.grad]] (fun Gx hGx => ?_)
          ((with_reducible refine ((HI _ p28 c28 x28.rd).out).mono ?_))
          rintro eV11 V11 ⟨rfl, hbV11⟩
          have hzV11 := hbV11.size
          refine ⟨.bool ib, rfl, hGx _ _ ?_⟩
          clear hGx Gx
          refine sv 32 (.bool false) ?_ (hr := ((show _ = Result.ok (Next.value (.bool (!ib))) _ from (by kernel_rfl)).trans (congrArg (fun z => Result.ok (Next.value (.bool z)) _) (show (!ib) = false from tib))))
          refine sx_nil ?_
          refine sx_then ?_
          refine wp_cond_false (by kernel_rfl) ?_
          refine wp_skip ?_
          refine sx_then ?_
          refine wp_seq ?_
          refine sx_region ?_
          refine sn 11 #[.bool false, .slice none 0 0, .int .i64 0] 35 (fun V12 hbV12 hzV12 b11 => ?_)
          refine sx_nil ?_
          refine sx_then ?_
          refine wp_seq ?_
          refine wp_seq ?_
          refine sx_region ?_
          refine sv 33 (.int .i64 ec) ?_
          refine sv 34 (.bool true) ?_ (hr := ((show _ = Result.ok (Next.value (.bool (ec == 0))) _ from (by kernel_rfl)).trans (congrArg (fun z => Result.ok (Next.value (.bool z)) _) (show (ec == 0) = true from tec))))
          refine sx_nil ?_
          refine sx_then ?_
          refine wp_cond_true (by kernel_rfl) ?_
          refine wp_seq ?_
          refine wp_seq ?_
          refine sx_region ?_
          refine sv 35 (.bool false) ?_
          refine sv 36 (.bool true) ?_
          refine sx_nil ?_
          refine sx_then ?_
          refine wp_cond_true (by kernel_rfl) ?_
          refine sx_region ?_
          replace b10 := (b10.past (bthru hbV11 hbV12))
          refine sv 37 (.agg #[.bool va.neg, .slice p28 (dig B16 va.m).length c28, .int .i64 va.e]) ?_ (hr := (exec_ld (by kernel_rfl) (run_ld b10 hT35 0 [.bool va.neg, .slice p28 (dig B16 va.m).length c28, .int .i64 va.e] (by kernel_rfl) (by kernel_rfl))))
          replace x28 := (x28.past (bthru hbV11 hbV12))
          refine se 38 22 #[.agg #[.bool va.neg, .slice p28 (dig B16 va.m).length c28, .int .i64 va.e]] (fun Gx hGx => ?_)
          ((with_reducible refine ((HM _ p28 c28 _ x28).out).mono ?_))
          rintro eV13 V13 ⟨p38, c38, rfl, hr38, hc38, hf38, hbV13⟩
          have hzV13 := hbV13.size
          have x38 : Rf _ _ p38 c38 (dig B16 va.m) := rf_ofP hr38 hc38 hf38 (by omega)
          clear hr38 hc38 hf38
          have lx38 := fun h => x38.lt h
          refine ⟨.agg #[.bool ((dMinus va).neg), .slice p38 (dig B16 va.m).length c38, .int .i64 va.e], rfl, hGx _ _ ?_⟩
          clear hGx Gx
          replace b10 := (b10.past hbV13)
          refine ss none b10 hT35 0 #[.bool ((dMinus va).neg), .slice p38 (dig B16 va.m).length c38, .int .i64 va.e] #[.bool ((dMinus va).neg), .slice p38 (dig B16 va.m).length c38, .int .i64 va.e] ?_
          have boV14 := b10
          clear b10
          intro V14 hOV14 b10
          have hzV14 := hOV14.size
          refine sx_nil ?_
          refine sx_then ?_
          refine wp_seq ?_
          refine sx_region ?_
          refine sv 40 (.agg #[.bool ((dMinus va).neg), .slice p38 (dig B16 va.m).length c38, .int .i64 va.e]) ?_ (hr := (exec_ld (by kernel_rfl) (run_ld b10 hT35 0 [.bool ((dMinus va).neg), .slice p38 (dig B16 va.m).length c38, .int .i64 va.e] (by kernel_rfl) (by kernel_rfl))))
          replace b4 := ((b4.past (bthru (bthru hbV11 hbV12) hbV13)).only hOV14 (by omega))
          refine sv 41 (.agg #[.int .i64 g.rad, .int .i64 g.digs, .int .i64 g.lo, .int .i64 g.hi, .bool g.grad]) ?_ (hr := (exec_ld (by kernel_rfl) (run_ld b4 hT27 0 [.int .i64 g.rad, .int .i64 g.digs, .int .i64 g.lo, .int .i64 g.hi, .bool g.grad] (by kernel_rfl) (by kernel_rfl))))
          replace x38 := (x38.only hOV14 (fun h => by have := lx38 h; omega))
          refine se 42 23 #[.agg #[.bool ((dMinus va).neg), .slice p38 (dig B16 va.m).length c38, .int .i64 va.e], .agg #[.int .i64 g.rad, .int .i64 g.digs, .int .i64 g.lo, .int .i64 g.hi, .bool g.grad]] (fun Gx hGx => ?_)
          ((with_reducible refine ((HT _ p38 c38 x38.rd x38.cap).out).mono ?_))
          rintro eV15 V15 ⟨p42, c42, rfl, x42, hbV15⟩
          have hzV15 := hbV15.size
          have lx42 := fun h => x42.lt h
          refine ⟨.tuple #[.agg #[.bool r.neg, .slice p42 (dig B16 r.m).length c42, .int .i64 r.e], .bool false], rfl, hGx _ _ ?_⟩
          clear hGx Gx
          refine sv 39 (.tuple #[.agg #[.bool r.neg, .slice p42 (dig B16 r.m).length c42, .int .i64 r.e], .bool false]) ?_
          refine sv 43 (.agg #[.bool r.neg, .slice p42 (dig B16 r.m).length c42, .int .i64 r.e]) ?_
          refine sv 44 (.bool false) ?_
          refine sn 12 #[.bool false, .slice none 0 0, .int .i64 0] 35 (fun V16 hbV16 hzV16 b12 => ?_)
          refine ss none b12 hT35 0 #[.bool r.neg, .slice p42 (dig B16 r.m).length c42, .int .i64 r.e] #[.bool r.neg, .slice p42 (dig B16 r.m).length c42, .int .i64 r.e] ?_
          have boV17 := b12
          clear b12
          intro V17 hOV17 b12
          have hzV17 := hOV17.size
          refine sv 13 (.bool false) ?_
          refine sx_nil ?_
          refine sx_then ?_
          refine wp_seq ?_
          refine sx_region ?_
          refine sv 45 (.agg #[.bool r.neg, .slice p42 (dig B16 r.m).length c42, .int .i64 r.e]) ?_ (hr := (exec_ld (by kernel_rfl) (run_ld b12 hT35 0 [.bool r.neg, .slice p42 (dig B16 r.m).length c42, .int .i64 r.e] (by kernel_rfl) (by kernel_rfl))))
          replace b11 := (((b11.past hbV13).only hOV14 (by omega)).past ((bthru hbV15 hbV16).trans (hOV17.below (by omega))))
          refine ss none b11 hT35 0 #[.bool r.neg, .slice p42 (dig B16 r.m).length c42, .int .i64 r.e] #[.bool r.neg, .slice p42 (dig B16 r.m).length c42, .int .i64 r.e] ?_
          have boV18 := b11
          clear b11
          intro V18 hOV18 b11
          have hzV18 := hOV18.size
          refine sx_nil ?_
          refine sx_then ?_
          refine wp_seq ?_
          refine wp_seq ?_
          refine sx_region ?_
          refine sv 46 (.bool false) ?_
          refine sv 47 (.bool true) ?_
          refine sx_nil ?_
          refine sx_then ?_
          refine wp_cond_true (by kernel_rfl) ?_
          refine sx_region ?_
          replace b12 := (b12.only hOV18 (by omega))
          refine sv 48 (.agg #[.bool r.neg, .slice p42 (dig B16 r.m).length c42, .int .i64 r.e]) ?_ (hr := (exec_ld (by kernel_rfl) (run_ld b12 hT35 0 [.bool r.neg, .slice p42 (dig B16 r.m).length c42, .int .i64 r.e] (by kernel_rfl) (by kernel_rfl))))
          replace x42 := ((x42.past (hbV16.trans (hOV17.below (by omega)))).only hOV18 (fun h => by have := lx42 h; omega))
          refine se 49 22 #[.agg #[.bool r.neg, .slice p42 (dig B16 r.m).length c42, .int .i64 r.e]] (fun Gx hGx => ?_)
          ((with_reducible refine ((HM2 _ p42 c42 _ x42).out).mono ?_))
          rintro eV19 V19 ⟨p49, c49, rfl, hr49, hc49, hf49, hbV19⟩
          have hzV19 := hbV19.size
          have x49 := rf_ofP hr49 hc49 hf49 (by omega)
          clear hr49 hc49 hf49
          have lx49 := fun h => x49.lt h
          refine ⟨.agg #[.bool ((dMinus r).neg), .slice p49 (dig B16 (dMinus r).m).length c49, .int .i64 ((dMinus r).e)], rfl, hGx _ _ ?_⟩
          clear hGx Gx
          replace b11 := (b11.past hbV19)
          refine ss none b11 hT35 0 #[.bool ((dMinus r).neg), .slice p49 (dig B16 (dMinus r).m).length c49, .int .i64 ((dMinus r).e)] #[.bool ((dMinus r).neg), .slice p49 (dig B16 (dMinus r).m).length c49, .int .i64 ((dMinus r).e)] ?_
          have boV20 := b11
          clear b11
          intro V20 hOV20 b11
          have hzV20 := hOV20.size
          refine sx_nil ?_
          refine sx_then ?_
          refine wp_seq ?_
          refine sx_region ?_
          refine sv 50 (.bool false) ?_
          refine sv 51 (.bool true) ?_
          refine sx_nil ?_
          refine sx_then ?_
          refine wp_cond_true (by kernel_rfl) ?_
          refine sx_region ?_
          refine sv 9 (.int .i64 5) ?_
          refine sx_nil ?_
          refine sx_then ?_
          refine wp_seq ?_
          refine sx_region ?_
          refine se 52 7 #[] (fun Gx hGx => ?_)
          ((with_reducible refine (gridBegun_any _).mono ?_))
          rintro eV21 V21 ⟨rfl, hbV21⟩
          have hzV21 := hbV21.size
          refine ⟨.bool true, rfl, hGx _ _ ?_⟩
          clear hGx Gx
          refine sv 53 (.bool true) ?_
          replace b7 := (b7.past (bthru ((bthru (((bthru (bthru ((bthru (bthru (bthru ((bthru ((bthru hbV6 hbV7).trans (hOV8.below (by omega))) hbV9).trans (hOV10.below (by omega))) hbV11) hbV12) hbV13).trans (hOV14.below (by omega))) hbV15) hbV16).trans (hOV17.below (by omega))).trans (hOV18.below (by omega))) hbV19).trans (hOV20.below (by omega))) hbV21))
          refine sv 54 (.agg #[.bool (((⟨false, 0, 0⟩ : Dv)).neg), .slice p18 (dig B32 ((⟨false, 0, 0⟩ : Dv)).m).length c18, .int .i64 (((⟨false, 0, 0⟩ : Dv)).e)]) ?_ (hr := (exec_ld (by kernel_rfl) (run_ld b7 hT30 0 [.bool (((⟨false, 0, 0⟩ : Dv)).neg), .slice p18 (dig B32 ((⟨false, 0, 0⟩ : Dv)).m).length c18, .int .i64 (((⟨false, 0, 0⟩ : Dv)).e)] (by kernel_rfl) (by kernel_rfl))))
          refine sv 55 (.int .i64 5) ?_
          refine sv 56 (.int .i64 5) ?_
          replace b11 := (b11.past hbV21)
          refine sv 57 (.agg #[.bool ((dMinus r).neg), .slice p49 (dig B16 (dMinus r).m).length c49, .int .i64 ((dMinus r).e)]) ?_ (hr := (exec_ld (by kernel_rfl) (run_ld b11 hT35 0 [.bool ((dMinus r).neg), .slice p49 (dig B16 (dMinus r).m).length c49, .int .i64 ((dMinus r).e)] (by kernel_rfl) (by kernel_rfl))))
          replace x49 := ((x49.only hOV20 (fun h => by have := lx49 h; omega)).past hbV21)
          refine se 58 24 #[.agg #[.bool (((⟨false, 0, 0⟩ : Dv)).neg), .slice p18 (dig B32 ((⟨false, 0, 0⟩ : Dv)).m).length c18, .int .i64 (((⟨false, 0, 0⟩ : Dv)).e)], .int .i64 5, .int .i64 5, .agg #[.bool ((dMinus r).neg), .slice p49 (dig B16 (dMinus r).m).length c49, .int .i64 ((dMinus r).e)]] (fun Gx hGx => ?_)
          ((with_reducible refine (dyadIs_err 5 (dMinus r) p18 p49 _ c18 _ c49 _ (by omega) (by simp [dig_zero]) x49.rd rfl lr2).mono ?_))
          rintro eV22 V22 ⟨rfl, hbV22⟩
          have hzV22 := hbV22.size
          refine ⟨.bool true, rfl, hGx _ _ ?_⟩
          clear hGx Gx
          refine sv 59 (.bool true) ?_
          refine sv 6 (.bool true) ?_
          refine sx_nil ?_
          refine sx_then ?_
          refine wp_ret ?_
          repeat (first | with_reducible refine sx_thenret ?_ | with_reducible refine sx_blockret ?_)
          refine bodyPost_ret (v := .bool true) (by simp [results, Tryd.results5, go_sem]) rfl ?_
          exact ⟨rfl, (bthru (bthru ((bthru (((bthru (bthru ((bthru (bthru (bthru ((bthru ((bthru (bthru ((bthru (bthru (bthru hbV1 hbV2) hbV3) hbV4).trans (hOV5.below (by omega))) hbV6) hbV7).trans (hOV8.below (by omega))) hbV9).trans (hOV10.below (by omega))) hbV11) hbV12) hbV13).trans (hOV14.below (by omega))) hbV15) hbV16).trans (hOV17.below (by omega))).trans (hOV18.below (by omega))) hbV19).trans (hOV20.below (by omega))) hbV21) hbV22)⟩
    · rw [if_neg hin] at HS
      simp only [doneOne, errOne, show ¬ ((4 : Int) = 0) by omega, if_false] at HS
      have hif : inGridD (dyV a) g = false := by simpa using hin
      rw [hif] at HI
      generalize dyV a = va at *
      obtain ⟨ib, hib⟩ : ∃ ib, ib = false := ⟨_, rfl⟩
      rw [← hib] at HI
      have tib : (!ib) = true := by rw [hib]; rfl
      have hT27 : SxAgg Tryd.prog 27 5 := sxAgg_of (by kernel_rfl) (by kernel_rfl)
      have hT30 : SxAgg Tryd.prog 30 3 := sxAgg_of (by kernel_rfl) (by kernel_rfl)
      have hT35 : SxAgg Tryd.prog 35 3 := sxAgg_of (by kernel_rfl) (by kernel_rfl)
      refine calls_of_wp Tryd.func5 rfl ?_
      refine sx_frame (a' := ⟨((.agg #[.bool a.g, .slice a.p a.xs.length a.c, .int .i64 a.e]) :: (.agg #[.int .i64 g.rad, .int .i64 g.digs, .int .i64 g.lo, .int .i64 g.hi, .bool g.grad]) :: (.bool up) :: undef :: undef :: undef :: undef :: undef :: undef :: undef :: undef :: undef :: undef :: undef :: undef :: undef :: undef :: undef :: undef :: undef :: undef :: undef :: undef :: undef :: undef :: undef :: undef :: undef :: undef :: undef :: undef :: undef :: undef :: undef :: undef :: undef :: undef :: undef :: undef :: undef :: undef :: undef :: undef :: undef :: undef :: undef :: undef :: undef :: undef :: undef :: undef :: undef :: undef :: undef :: undef :: undef :: undef :: undef :: undef :: undef :: []).toArray, []⟩) (by kernel_rfl) ?_
      refine wp_seq ?_
      refine sx_region ?_
      refine sn 3 #[.bool a.g, .slice a.p a.xs.length a.c, .int .i64 a.e] 30 (fun V1 hbV1 hzV1 b3 => ?_)
      refine sn 4 #[.int .i64 g.rad, .int .i64 g.digs, .int .i64 g.lo, .int .i64 g.hi, .bool g.grad] 27 (fun V2 hbV2 hzV2 b4 => ?_)
      refine sv 6 (.bool false) ?_
      refine sx_nil ?_
      refine sx_then ?_
      refine wp_seq ?_
      refine sx_region ?_
      replace b3 := (b3.past hbV2)
      refine sv 15 (.agg #[.bool a.g, .slice a.p a.xs.length a.c, .int .i64 a.e]) ?_ (hr := (exec_ld (by kernel_rfl) (run_ld b3 hT30 0 [.bool a.g, .slice a.p a.xs.length a.c, .int .i64 a.e] (by kernel_rfl) (by kernel_rfl))))
      refine sv 16 (.agg #[.int .i64 g.rad, .int .i64 g.digs, .int .i64 g.lo, .int .i64 g.hi, .bool g.grad]) ?_ (hr := (exec_ld (by kernel_rfl) (run_ld b4 hT27 0 [.int .i64 g.rad, .int .i64 g.digs, .int .i64 g.lo, .int .i64 g.hi, .bool g.grad] (by kernel_rfl) (by kernel_rfl))))
      refine sv 17 (.bool up) ?_
      replace ha := (ha.past (bthru hbV1 hbV2))
      replace hT := (hT.past (bthru hbV1 hbV2))
      refine se 18 18 #[.agg #[.bool a.g, .slice a.p a.xs.length a.c, .int .i64 a.e], .agg #[.int .i64 g.rad, .int .i64 g.digs, .int .i64 g.lo, .int .i64 g.hi, .bool g.grad], .bool up] (fun Gx hGx => ?_)
      ((with_reducible refine ((HS _ ha hT).out).mono ?_))
      rintro eV3 V3 ⟨p18, c18, rfl, ho18, hbV3⟩
      have hzV3 := hbV3.size
      refine ⟨.tuple #[.agg #[.bool (((⟨false, 0, 0⟩ : Dv)).neg), .slice p18 (dig B32 ((⟨false, 0, 0⟩ : Dv)).m).length c18, .int .i64 (((⟨false, 0, 0⟩ : Dv)).e)], .int .i64 4], rfl, hGx _ _ ?_⟩
      clear hGx Gx
      refine sv 14 (.tuple #[.agg #[.bool (((⟨false, 0, 0⟩ : Dv)).neg), .slice p18 (dig B32 ((⟨false, 0, 0⟩ : Dv)).m).length c18, .int .i64 (((⟨false, 0, 0⟩ : Dv)).e)], .int .i64 4]) ?_
      refine sv 19 (.agg #[.bool (((⟨false, 0, 0⟩ : Dv)).neg), .slice p18 (dig B32 ((⟨false, 0, 0⟩ : Dv)).m).length c18, .int .i64 (((⟨false, 0, 0⟩ : Dv)).e)]) ?_
      refine sv 20 (.int .i64 4) ?_
      refine sn 7 #[.bool false, .slice none 0 0, .int .i64 0] 30 (fun V4 hbV4 hzV4 b7 => ?_)
      refine ss none b7 hT30 0 #[.bool (((⟨false, 0, 0⟩ : Dv)).neg), .slice p18 (dig B32 ((⟨false, 0, 0⟩ : Dv)).m).length c18, .int .i64 (((⟨false, 0, 0⟩ : Dv)).e)] #[.bool (((⟨false, 0, 0⟩ : Dv)).neg), .slice p18 (dig B32 ((⟨false, 0, 0⟩ : Dv)).m).length c18, .int .i64 (((⟨false, 0, 0⟩ : Dv)).e)] ?_
      have boV5 := b7
      clear b7
      intro V5 hOV5 b7
      have hzV5 := hOV5.size
      refine sv 8 (.int .i64 4) ?_
      refine sx_nil ?_
      refine sx_then ?_
      refine wp_seq ?_
      refine sx_region ?_
      replace b3 := (b3.past ((bthru hbV3 hbV4).trans (hOV5.below (by omega))))
      refine sv 21 (.agg #[.bool a.g, .slice a.p a.xs.length a.c, .int .i64 a.e]) ?_ (hr := (exec_ld (by kernel_rfl) (run_ld b3 hT30 0 [.bool a.g, .slice a.p a.xs.length a.c, .int .i64 a.e] (by kernel_rfl) (by kernel_rfl))))
      replace b4 := (b4.past ((bthru hbV3 hbV4).trans (hOV5.below (by omega))))
      refine sv 22 (.agg #[.int .i64 g.rad, .int .i64 g.digs, .int .i64 g.lo, .int .i64 g.hi, .bool g.grad]) ?_ (hr := (exec_ld (by kernel_rfl) (run_ld b4 hT27 0 [.int .i64 g.rad, .int .i64 g.digs, .int .i64 g.lo, .int .i64 g.hi, .bool g.grad] (by kernel_rfl) (by kernel_rfl))))
      replace ha := (ha.past ((bthru hbV3 hbV4).trans (hOV5.below (by omega))))
      refine se 23 19 #[.agg #[.bool a.g, .slice a.p a.xs.length a.c, .int .i64 a.e], .agg #[.int .i64 g.rad, .int .i64 g.digs, .int .i64 g.lo, .int .i64 g.hi, .bool g.grad]] (fun Gx hGx => ?_)
      ((with_reducible refine ((HG _ ha).out).mono ?_))
      rintro eV6 V6 ⟨rfl, hbV6⟩
      have hzV6 := hbV6.size
      refine ⟨.int .i64 ec, rfl, hGx _ _ ?_⟩
      clear hGx Gx
      refine sv 9 (.int .i64 ec) ?_
      refine sx_nil ?_
      refine sx_then ?_
      refine wp_seq ?_
      refine sx_region ?_
      refine sv 24 (.agg #[.bool false, .slice none 0 0, .int .i64 0]) ?_
      refine sn 10 #[.bool false, .slice none 0 0, .int .i64 0] 35 (fun V7 hbV7 hzV7 b10 => ?_)
      refine ss none b10 hT35 0 #[.bool false, .slice none 0 0, .int .i64 0] #[.bool false, .slice none 0 0, .int .i64 0] ?_
      have boV8 := b10
      clear b10
      intro V8 hOV8 b10
      have hzV8 := hOV8.size
      refine sx_nil ?_
      refine sx_then ?_
      refine wp_seq ?_
      refine wp_seq ?_
      refine sx_region ?_
      refine sv 25 (.int .i64 ec) ?_
      refine sv 26 (.bool true) ?_ (hr := ((show _ = Result.ok (Next.value (.bool (ec == 0))) _ from (by kernel_rfl)).trans (congrArg (fun z => Result.ok (Next.value (.bool z)) _) (show (ec == 0) = true from tec))))
      refine sx_nil ?_
      refine sx_then ?_
      refine wp_cond_true (by kernel_rfl) ?_
      refine wp_seq ?_
      refine sx_region ?_
      replace b3 := (b3.past ((bthru hbV6 hbV7).trans (hOV8.below (by omega))))
      refine sv 27 (.agg #[.bool a.g, .slice a.p a.xs.length a.c, .int .i64 a.e]) ?_ (hr := (exec_ld (by kernel_rfl) (run_ld b3 hT30 0 [.bool a.g, .slice a.p a.xs.length a.c, .int .i64 a.e] (by kernel_rfl) (by kernel_rfl))))
      replace ha := (ha.past ((bthru hbV6 hbV7).trans (hOV8.below (by omega))))
      refine se 28 20 #[.agg #[.bool a.g, .slice a.p a.xs.length a.c, .int .i64 a.e]] (fun Gx hGx => ?_)
      ((with_reducible refine ((HO _ ha).out).mono ?_))
      rintro eV9 V9 ⟨p28, c28, rfl, hr_x28, hc_x28, hf_x28, hbV9⟩
      have hzV9 := hbV9.size
      have x28 := rf_of hr_x28 hc_x28 hf_x28
      clear hr_x28 hc_x28 hf_x28
      have lx28 := fun h => x28.lt h
      refine ⟨.agg #[.bool va.neg, .slice p28 (dig B16 va.m).length c28, .int .i64 va.e], rfl, hGx _ _ ?_⟩
      clear hGx Gx
      replace b10 := (b10.past hbV9)
      refine ss none b10 hT35 0 #[.bool va.neg, .slice p28 (dig B16 va.m).length c28, .int .i64 va.e] #[.bool va.neg, .slice p28 (dig B16 va.m).length c28, .int .i64 va.e] ?_
      have boV10 := b10
      clear b10
      intro V10 hOV10 b10
      have hzV10 := hOV10.size
      refine sx_nil ?_
      refine sx_then ?_
      refine wp_seq ?_
      refine sx_region ?_
      refine sv 29 (.agg #[.bool va.neg, .slice p28 (dig B16 va.m).length c28, .int .i64 va.e]) ?_ (hr := (exec_ld (by kernel_rfl) (run_ld b10 hT35 0 [.bool va.neg, .slice p28 (dig B16 va.m).length c28, .int .i64 va.e] (by kernel_rfl) (by kernel_rfl))))
      replace b4 := (b4.past ((bthru ((bthru hbV6 hbV7).trans (hOV8.below (by omega))) hbV9).trans (hOV10.below (by omega))))
      refine sv 30 (.agg #[.int .i64 g.rad, .int .i64 g.digs, .int .i64 g.lo, .int .i64 g.hi, .bool g.grad]) ?_ (hr := (exec_ld (by kernel_rfl) (run_ld b4 hT27 0 [.int .i64 g.rad, .int .i64 g.digs, .int .i64 g.lo, .int .i64 g.hi, .bool g.grad] (by kernel_rfl) (by kernel_rfl))))
      replace x28 := (x28.only hOV10 (fun h => by have := lx28 h; omega))
      refine se 31 21 #[.agg #[.bool va.neg, .slice p28 (dig B16 va.m).length c28, .int .i64 va.e], .agg #[.int .i64 g.rad, .int .i64 g.digs, .int .i64 g.lo, .int .i64 g.hi, .bool g.grad]] (fun Gx hGx => ?_)
      ((with_reducible refine ((HI _ p28 c28 x28.rd).out).mono ?_))
      rintro eV11 V11 ⟨rfl, hbV11⟩
      have hzV11 := hbV11.size
      refine ⟨.bool ib, rfl, hGx _ _ ?_⟩
      clear hGx Gx
      refine sv 32 (.bool true) ?_ (hr := ((show _ = Result.ok (Next.value (.bool (!ib))) _ from (by kernel_rfl)).trans (congrArg (fun z => Result.ok (Next.value (.bool z)) _) (show (!ib) = true from tib))))
      refine sx_nil ?_
      refine sx_then ?_
      refine wp_cond_true (by kernel_rfl) ?_
      refine sx_region ?_
      refine sv 9 (.int .i64 4) ?_
      refine sx_nil ?_
      refine sx_then ?_
      refine wp_seq ?_
      refine sx_region ?_
      refine sn 11 #[.bool false, .slice none 0 0, .int .i64 0] 35 (fun V12 hbV12 hzV12 b11 => ?_)
      refine sx_nil ?_
      refine sx_then ?_
      refine wp_seq ?_
      refine wp_seq ?_
      refine sx_region ?_
      refine sv 33 (.int .i64 4) ?_
      refine sv 34 (.bool false) ?_
      refine sx_nil ?_
      refine sx_then ?_
      refine wp_cond_false (by kernel_rfl) ?_
      refine wp_skip ?_
      refine sx_then ?_
      refine wp_seq ?_
      refine sx_region ?_
      refine se 52 7 #[] (fun Gx hGx => ?_)
      ((with_reducible refine (gridBegun_any _).mono ?_))
      rintro eV13 V13 ⟨rfl, hbV13⟩
      have hzV13 := hbV13.size
      refine ⟨.bool true, rfl, hGx _ _ ?_⟩
      clear hGx Gx
      refine sv 53 (.bool true) ?_
      replace b7 := (b7.past (bthru (bthru (bthru ((bthru ((bthru hbV6 hbV7).trans (hOV8.below (by omega))) hbV9).trans (hOV10.below (by omega))) hbV11) hbV12) hbV13))
      refine sv 54 (.agg #[.bool (((⟨false, 0, 0⟩ : Dv)).neg), .slice p18 (dig B32 ((⟨false, 0, 0⟩ : Dv)).m).length c18, .int .i64 (((⟨false, 0, 0⟩ : Dv)).e)]) ?_ (hr := (exec_ld (by kernel_rfl) (run_ld b7 hT30 0 [.bool (((⟨false, 0, 0⟩ : Dv)).neg), .slice p18 (dig B32 ((⟨false, 0, 0⟩ : Dv)).m).length c18, .int .i64 (((⟨false, 0, 0⟩ : Dv)).e)] (by kernel_rfl) (by kernel_rfl))))
      refine sv 55 (.int .i64 4) ?_
      refine sv 56 (.int .i64 4) ?_
      replace b11 := (b11.past hbV13)
      refine sv 57 (.agg #[.bool false, .slice none 0 0, .int .i64 0]) ?_ (hr := (exec_ld (by kernel_rfl) (run_ld b11 hT35 0 [.bool false, .slice none 0 0, .int .i64 0] (by kernel_rfl) (by kernel_rfl))))
      refine se 58 24 #[.agg #[.bool (((⟨false, 0, 0⟩ : Dv)).neg), .slice p18 (dig B32 ((⟨false, 0, 0⟩ : Dv)).m).length c18, .int .i64 (((⟨false, 0, 0⟩ : Dv)).e)], .int .i64 4, .int .i64 4, .agg #[.bool false, .slice none 0 0, .int .i64 0]] (fun Gx hGx => ?_)
      ((with_reducible refine (dyadIs_err 4 ⟨false, 0, 0⟩ p18 none _ c18 0 0 _ (by omega) (by simp [dig_zero]) (rd_zero _ _) len_zero lz).mono ?_))
      rintro eV14 V14 ⟨rfl, hbV14⟩
      have hzV14 := hbV14.size
      refine ⟨.bool true, rfl, hGx _ _ ?_⟩
      clear hGx Gx
      refine sv 59 (.bool true) ?_
      refine sv 6 (.bool true) ?_
      refine sx_nil ?_
      refine sx_then ?_
      refine wp_ret ?_
      repeat (first | with_reducible refine sx_thenret ?_ | with_reducible refine sx_blockret ?_)
      refine bodyPost_ret (v := .bool true) (by simp [results, Tryd.results5, go_sem]) rfl ?_
      exact ⟨rfl, (bthru (bthru (bthru (bthru ((bthru ((bthru (bthru ((bthru (bthru (bthru hbV1 hbV2) hbV3) hbV4).trans (hOV5.below (by omega))) hbV6) hbV7).trans (hOV8.below (by omega))) hbV9).trans (hOV10.below (by omega))) hbV11) hbV12) hbV13) hbV14)⟩
  · have hst : errStep a g up = ec := by unfold errStep; rw [if_neg h0, hec]
    rw [hec] at HG
    have hn : ec ≠ 0 := by rw [← hec]; exact h0
    have tec : (ec == 0) = false := beq_eq_false_iff_ne.2 hn
    rw [hst] at HS
    simp only [doneOne, errOne, hn, if_false] at HS
    have hT27 : SxAgg Tryd.prog 27 5 := sxAgg_of (by kernel_rfl) (by kernel_rfl)
    have hT30 : SxAgg Tryd.prog 30 3 := sxAgg_of (by kernel_rfl) (by kernel_rfl)
    have hT35 : SxAgg Tryd.prog 35 3 := sxAgg_of (by kernel_rfl) (by kernel_rfl)
    refine calls_of_wp Tryd.func5 rfl ?_
    refine sx_frame (a' := ⟨((.agg #[.bool a.g, .slice a.p a.xs.length a.c, .int .i64 a.e]) :: (.agg #[.int .i64 g.rad, .int .i64 g.digs, .int .i64 g.lo, .int .i64 g.hi, .bool g.grad]) :: (.bool up) :: undef :: undef :: undef :: undef :: undef :: undef :: undef :: undef :: undef :: undef :: undef :: undef :: undef :: undef :: undef :: undef :: undef :: undef :: undef :: undef :: undef :: undef :: undef :: undef :: undef :: undef :: undef :: undef :: undef :: undef :: undef :: undef :: undef :: undef :: undef :: undef :: undef :: undef :: undef :: undef :: undef :: undef :: undef :: undef :: undef :: undef :: undef :: undef :: undef :: undef :: undef :: undef :: undef :: undef :: undef :: undef :: undef :: []).toArray, []⟩) (by kernel_rfl) ?_
    refine wp_seq ?_
    refine sx_region ?_
    refine sn 3 #[.bool a.g, .slice a.p a.xs.length a.c, .int .i64 a.e] 30 (fun V1 hbV1 hzV1 b3 => ?_)
    refine sn 4 #[.int .i64 g.rad, .int .i64 g.digs, .int .i64 g.lo, .int .i64 g.hi, .bool g.grad] 27 (fun V2 hbV2 hzV2 b4 => ?_)
    refine sv 6 (.bool false) ?_
    refine sx_nil ?_
    refine sx_then ?_
    refine wp_seq ?_
    refine sx_region ?_
    replace b3 := (b3.past hbV2)
    refine sv 15 (.agg #[.bool a.g, .slice a.p a.xs.length a.c, .int .i64 a.e]) ?_ (hr := (exec_ld (by kernel_rfl) (run_ld b3 hT30 0 [.bool a.g, .slice a.p a.xs.length a.c, .int .i64 a.e] (by kernel_rfl) (by kernel_rfl))))
    refine sv 16 (.agg #[.int .i64 g.rad, .int .i64 g.digs, .int .i64 g.lo, .int .i64 g.hi, .bool g.grad]) ?_ (hr := (exec_ld (by kernel_rfl) (run_ld b4 hT27 0 [.int .i64 g.rad, .int .i64 g.digs, .int .i64 g.lo, .int .i64 g.hi, .bool g.grad] (by kernel_rfl) (by kernel_rfl))))
    refine sv 17 (.bool up) ?_
    replace ha := (ha.past (bthru hbV1 hbV2))
    replace hT := (hT.past (bthru hbV1 hbV2))
    refine se 18 18 #[.agg #[.bool a.g, .slice a.p a.xs.length a.c, .int .i64 a.e], .agg #[.int .i64 g.rad, .int .i64 g.digs, .int .i64 g.lo, .int .i64 g.hi, .bool g.grad], .bool up] (fun Gx hGx => ?_)
    ((with_reducible refine ((HS _ ha hT).out).mono ?_))
    rintro eV3 V3 ⟨p18, c18, rfl, ho18, hbV3⟩
    have hzV3 := hbV3.size
    refine ⟨.tuple #[.agg #[.bool (((⟨false, 0, 0⟩ : Dv)).neg), .slice p18 (dig B32 ((⟨false, 0, 0⟩ : Dv)).m).length c18, .int .i64 (((⟨false, 0, 0⟩ : Dv)).e)], .int .i64 ec], rfl, hGx _ _ ?_⟩
    clear hGx Gx
    refine sv 14 (.tuple #[.agg #[.bool (((⟨false, 0, 0⟩ : Dv)).neg), .slice p18 (dig B32 ((⟨false, 0, 0⟩ : Dv)).m).length c18, .int .i64 (((⟨false, 0, 0⟩ : Dv)).e)], .int .i64 ec]) ?_
    refine sv 19 (.agg #[.bool (((⟨false, 0, 0⟩ : Dv)).neg), .slice p18 (dig B32 ((⟨false, 0, 0⟩ : Dv)).m).length c18, .int .i64 (((⟨false, 0, 0⟩ : Dv)).e)]) ?_
    refine sv 20 (.int .i64 ec) ?_
    refine sn 7 #[.bool false, .slice none 0 0, .int .i64 0] 30 (fun V4 hbV4 hzV4 b7 => ?_)
    refine ss none b7 hT30 0 #[.bool (((⟨false, 0, 0⟩ : Dv)).neg), .slice p18 (dig B32 ((⟨false, 0, 0⟩ : Dv)).m).length c18, .int .i64 (((⟨false, 0, 0⟩ : Dv)).e)] #[.bool (((⟨false, 0, 0⟩ : Dv)).neg), .slice p18 (dig B32 ((⟨false, 0, 0⟩ : Dv)).m).length c18, .int .i64 (((⟨false, 0, 0⟩ : Dv)).e)] ?_
    have boV5 := b7
    clear b7
    intro V5 hOV5 b7
    have hzV5 := hOV5.size
    refine sv 8 (.int .i64 ec) ?_
    refine sx_nil ?_
    refine sx_then ?_
    refine wp_seq ?_
    refine sx_region ?_
    replace b3 := (b3.past ((bthru hbV3 hbV4).trans (hOV5.below (by omega))))
    refine sv 21 (.agg #[.bool a.g, .slice a.p a.xs.length a.c, .int .i64 a.e]) ?_ (hr := (exec_ld (by kernel_rfl) (run_ld b3 hT30 0 [.bool a.g, .slice a.p a.xs.length a.c, .int .i64 a.e] (by kernel_rfl) (by kernel_rfl))))
    replace b4 := (b4.past ((bthru hbV3 hbV4).trans (hOV5.below (by omega))))
    refine sv 22 (.agg #[.int .i64 g.rad, .int .i64 g.digs, .int .i64 g.lo, .int .i64 g.hi, .bool g.grad]) ?_ (hr := (exec_ld (by kernel_rfl) (run_ld b4 hT27 0 [.int .i64 g.rad, .int .i64 g.digs, .int .i64 g.lo, .int .i64 g.hi, .bool g.grad] (by kernel_rfl) (by kernel_rfl))))
    replace ha := (ha.past ((bthru hbV3 hbV4).trans (hOV5.below (by omega))))
    refine se 23 19 #[.agg #[.bool a.g, .slice a.p a.xs.length a.c, .int .i64 a.e], .agg #[.int .i64 g.rad, .int .i64 g.digs, .int .i64 g.lo, .int .i64 g.hi, .bool g.grad]] (fun Gx hGx => ?_)
    ((with_reducible refine ((HG _ ha).out).mono ?_))
    rintro eV6 V6 ⟨rfl, hbV6⟩
    have hzV6 := hbV6.size
    refine ⟨.int .i64 ec, rfl, hGx _ _ ?_⟩
    clear hGx Gx
    refine sv 9 (.int .i64 ec) ?_
    refine sx_nil ?_
    refine sx_then ?_
    refine wp_seq ?_
    refine sx_region ?_
    refine sv 24 (.agg #[.bool false, .slice none 0 0, .int .i64 0]) ?_
    refine sn 10 #[.bool false, .slice none 0 0, .int .i64 0] 35 (fun V7 hbV7 hzV7 b10 => ?_)
    refine ss none b10 hT35 0 #[.bool false, .slice none 0 0, .int .i64 0] #[.bool false, .slice none 0 0, .int .i64 0] ?_
    have boV8 := b10
    clear b10
    intro V8 hOV8 b10
    have hzV8 := hOV8.size
    refine sx_nil ?_
    refine sx_then ?_
    refine wp_seq ?_
    refine wp_seq ?_
    refine sx_region ?_
    refine sv 25 (.int .i64 ec) ?_
    refine sv 26 (.bool false) ?_ (hr := ((show _ = Result.ok (Next.value (.bool (ec == 0))) _ from (by kernel_rfl)).trans (congrArg (fun z => Result.ok (Next.value (.bool z)) _) (show (ec == 0) = false from tec))))
    refine sx_nil ?_
    refine sx_then ?_
    refine wp_cond_false (by kernel_rfl) ?_
    refine wp_skip ?_
    refine sx_then ?_
    refine wp_seq ?_
    refine sx_region ?_
    refine sn 11 #[.bool false, .slice none 0 0, .int .i64 0] 35 (fun V9 hbV9 hzV9 b11 => ?_)
    refine sx_nil ?_
    refine sx_then ?_
    refine wp_seq ?_
    refine wp_seq ?_
    refine sx_region ?_
    refine sv 33 (.int .i64 ec) ?_
    refine sv 34 (.bool false) ?_ (hr := ((show _ = Result.ok (Next.value (.bool (ec == 0))) _ from (by kernel_rfl)).trans (congrArg (fun z => Result.ok (Next.value (.bool z)) _) (show (ec == 0) = false from tec))))
    refine sx_nil ?_
    refine sx_then ?_
    refine wp_cond_false (by kernel_rfl) ?_
    refine wp_skip ?_
    refine sx_then ?_
    refine wp_seq ?_
    refine sx_region ?_
    refine se 52 7 #[] (fun Gx hGx => ?_)
    ((with_reducible refine (gridBegun_any _).mono ?_))
    rintro eV10 V10 ⟨rfl, hbV10⟩
    have hzV10 := hbV10.size
    refine ⟨.bool true, rfl, hGx _ _ ?_⟩
    clear hGx Gx
    refine sv 53 (.bool true) ?_
    replace b7 := (b7.past (bthru (bthru ((bthru hbV6 hbV7).trans (hOV8.below (by omega))) hbV9) hbV10))
    refine sv 54 (.agg #[.bool (((⟨false, 0, 0⟩ : Dv)).neg), .slice p18 (dig B32 ((⟨false, 0, 0⟩ : Dv)).m).length c18, .int .i64 (((⟨false, 0, 0⟩ : Dv)).e)]) ?_ (hr := (exec_ld (by kernel_rfl) (run_ld b7 hT30 0 [.bool (((⟨false, 0, 0⟩ : Dv)).neg), .slice p18 (dig B32 ((⟨false, 0, 0⟩ : Dv)).m).length c18, .int .i64 (((⟨false, 0, 0⟩ : Dv)).e)] (by kernel_rfl) (by kernel_rfl))))
    refine sv 55 (.int .i64 ec) ?_
    refine sv 56 (.int .i64 ec) ?_
    replace b11 := (b11.past hbV10)
    refine sv 57 (.agg #[.bool false, .slice none 0 0, .int .i64 0]) ?_ (hr := (exec_ld (by kernel_rfl) (run_ld b11 hT35 0 [.bool false, .slice none 0 0, .int .i64 0] (by kernel_rfl) (by kernel_rfl))))
    refine se 58 24 #[.agg #[.bool (((⟨false, 0, 0⟩ : Dv)).neg), .slice p18 (dig B32 ((⟨false, 0, 0⟩ : Dv)).m).length c18, .int .i64 (((⟨false, 0, 0⟩ : Dv)).e)], .int .i64 ec, .int .i64 ec, .agg #[.bool false, .slice none 0 0, .int .i64 0]] (fun Gx hGx => ?_)
    ((with_reducible refine (dyadIs_err ec ⟨false, 0, 0⟩ p18 none _ c18 0 0 _ hn (by simp [dig_zero]) (rd_zero _ _) len_zero lz).mono ?_))
    rintro eV11 V11 ⟨rfl, hbV11⟩
    have hzV11 := hbV11.size
    refine ⟨.bool true, rfl, hGx _ _ ?_⟩
    clear hGx Gx
    refine sv 59 (.bool true) ?_
    refine sv 6 (.bool true) ?_
    refine sx_nil ?_
    refine sx_then ?_
    refine wp_ret ?_
    repeat (first | with_reducible refine sx_thenret ?_ | with_reducible refine sx_blockret ?_)
    refine bodyPost_ret (v := .bool true) (by simp [results, Tryd.results5, go_sem]) rfl ?_
    exact ⟨rfl, (bthru (bthru (bthru ((bthru (bthru ((bthru (bthru (bthru hbV1 hbV2) hbV3) hbV4).trans (hOV5.below (by omega))) hbV6) hbV7).trans (hOV8.below (by omega))) hbV9) hbV10) hbV11)⟩

end Go.Proofs.YtlegnbigddhmlaaDoor
