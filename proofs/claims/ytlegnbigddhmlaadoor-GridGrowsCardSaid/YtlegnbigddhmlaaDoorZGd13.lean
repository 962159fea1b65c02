/- The laws' rounded. -/
import Derived.Test.YtlegnbigddhmlaaDoorZGDb
import Derived.Test.YtlegnbigddhmlaaDoorZS
import Derived.Test.YtlegnbigddhmlaaDoorZDyOut
import Derived.Test.YtlegnbigddhmlaaDoorZWhl
import Derived.Test.YtlegnbigddhmlaaDoorZSx3
import Derived.Test.YtlegnbigddhmlaaDoorZGd7
import Derived.Test.YtlegnbigddhmlaaDoorZA
namespace Go.Proofs.YtlegnbigddhmlaaDoor
open Go.RowKit Go.Slip

/-- Is there something told? And what. -/
def rokB (a : Rin) (g : Gd) (way : Int) : Bool := decide (errRound a g way = 0) && okP (roundOf a g way) g
def rvalV (a : Rin) (g : Gd) (way : Int) : Dv := if rokB a g way = true then rv a.g (val B32 a.xs) (val B32 a.ys) a.e g way else ⟨false, 0, 0⟩

theorem errRound_ok {a : Rin} {g : Gd} {way : Int} {w : World} (ha : InR w a) (h : errRound a g way = 0) : 0 < val B32 a.ys ∧ errG g = 0 ∧ 1 ≤ way ∧ way ≤ 5 ∧ errNat a.xs = 0 ∧ errNat a.ys = 0 ∧ -20000 ≤ a.e ∧ a.e ≤ 20000 := by
  unfold errRound at h
  by_cases h1 : errRat a = 0
  · rw [if_neg (by simp [h1])] at h
    by_cases h2 : errG g = 0
    · rw [if_neg (by simp [h2])] at h
      have h3 : 1 ≤ way ∧ way ≤ 5 := by
        by_cases h3 : way < 1 ∨ 5 < way
        · rw [if_pos h3] at h; simp at h
        · omega
      unfold errRat at h1
      have h4 : errNat a.xs = 0 := by
        by_cases k : errNat a.xs = 0
        · exact k
        · rw [if_pos k] at h1; exact absurd h1 k
      rw [if_neg (by simp [h4])] at h1
      have h5 : errNat a.ys = 0 := by
        by_cases k : errNat a.ys = 0
        · exact k
        · rw [if_pos k] at h1; exact absurd h1 k
      rw [if_neg (by simp [h5])] at h1
      have h6 : ¬ (a.ys.length = 0 ∨ a.e < -20000 ∨ 20000 < a.e) := by
        intro k; rw [if_pos k] at h1; simp at h1
      obtain ⟨k1, k2⟩ := errNat_ok ha.b2 h5
      have k3 := dig_len_zero B32_two (val B32 a.ys)
      refine ⟨?_, h2, h3.1, h3.2, h4, h5, by omega, by omega⟩
      rcases Nat.eq_zero_or_pos (val B32 a.ys) with hz | hz
      · exfalso; apply h6; left; rw [k1]; exact k3.2 hz
      · exact hz
    · rw [if_pos h2] at h; exact absurd h h2
  · rw [if_pos h1] at h; exact absurd h h1


set_option maxHeartbeats 4000000 in
set_option maxRecDepth 100000 in
theorem rounded_any (a : Rin) (g : Gd) (way : Int) (w : World) (ha : InR w a) (hT : TabW w) :
    Calls Tryd.prog 8 #[.agg #[.bool a.g, .slice a.p a.xs.length a.c, .slice a.q a.ys.length a.d, .int .i64 a.e], .agg #[.int .i64 g.rad, .int .i64 g.digs, .int .i64 g.lo, .int .i64 g.hi, .bool g.grad], .int .i64 way] w (GivesDB w w.heap.size (rvalV a g way) (rokB a g way)) := by
  have HR := fun W h => Lib.hid (round_any a g way W h)
  obtain ⟨er, her⟩ : ∃ er, errRound a g way = er := ⟨_, rfl⟩
  obtain ⟨P, hP⟩ : ∃ P, roundOf a g way = P := ⟨_, rfl⟩
  by_cases h0 : errRound a g way = 0
  · have ter : (er != 0) = false := by rw [← her, h0]; rfl
    obtain ⟨hd, hg, hw1, hw2, _, _, _, _⟩ := errRound_ok ha h0
    have G := goodG_of hg
    have hPr : roundP a.g (val B32 a.xs) (val B32 a.ys) a.e g way = P := by rw [← hP]; unfold roundOf; rw [if_pos h0]
    have hok : rokB a g way = okP P g := by unfold rokB; rw [decide_eq_true h0, Bool.true_and, hP]
    have hlen := rnd_len (neg := a.g) (num := val B32 a.xs) (e := a.e) (way := way) hd G
    have hpw := ok_pow (neg := a.g) (num := val B32 a.xs) (e := a.e) (way := way) hd G
    have hed := rv_errD (neg := a.g) (num := val B32 a.xs) (e := a.e) (way := way) hd hg
    have hrv : rv a.g (val B32 a.xs) (val B32 a.ys) a.e g way = bare ⟨P.neg, P.d, wid g * P.pow⟩ := by unfold rv; rw [hPr]
    unfold rvalV
    rw [hok, hrv]
    rw [hPr] at hlen hpw hed
    rw [hrv] at hed
    rw [her, hP] at HR
    clear hok hrv hPr hP her h0
    obtain ⟨pn, pd, pp, pe, po, pu⟩ := P
    simp only at hlen HR
    cases po with
    | true =>
      rw [show okP ⟨pn, pd, pp, pe, true, pu⟩ g = false from rfl, if_neg (by simp)]
      have hT4 : SxOne Tryd.prog 4 := sxOne_of (by kernel_rfl) (by kernel_rfl)
      have hT25 : SxAgg Tryd.prog 25 4 := sxAgg_of (by kernel_rfl) (by kernel_rfl)
      have hT27 : SxAgg Tryd.prog 27 5 := sxAgg_of (by kernel_rfl) (by kernel_rfl)
      have hT30 : SxAgg Tryd.prog 30 3 := sxAgg_of (by kernel_rfl) (by kernel_rfl)
      have hT61 : SxAgg Tryd.prog 61 6 := sxAgg_of (by kernel_rfl) (by kernel_rfl)
      refine calls_of_wp Tryd.func8 rfl ?_
      refine sx_frame (a' := ⟨((.agg #[.bool a.g, .slice a.p a.xs.length a.c, .slice a.q a.ys.length a.d, .int .i64 a.e]) :: (.agg #[.int .i64 g.rad, .int .i64 g.digs, .int .i64 g.lo, .int .i64 g.hi, .bool g.grad]) :: (.int .i64 way) :: undef :: undef :: undef :: undef :: undef :: undef :: undef :: undef :: undef :: undef :: undef :: undef :: undef :: undef :: undef :: undef :: undef :: undef :: undef :: undef :: undef :: undef :: undef :: undef :: undef :: undef :: undef :: undef :: undef :: undef :: undef :: undef :: undef :: undef :: undef :: undef :: undef :: undef :: undef :: undef :: []).toArray, []⟩) (by kernel_rfl) ?_
      refine wp_seq ?_
      refine sx_region ?_
      refine sn 3 #[.bool a.g, .slice a.p a.xs.length a.c, .slice a.q a.ys.length a.d, .int .i64 a.e] 25 (fun V1 hbV1 hzV1 b3 => ?_)
      refine sn 4 #[.int .i64 g.rad, .int .i64 g.digs, .int .i64 g.lo, .int .i64 g.hi, .bool g.grad] 27 (fun V2 hbV2 hzV2 b4 => ?_)
      refine sn 6 #[.bool false, .slice none 0 0, .int .i64 0] 30 (fun V3 hbV3 hzV3 b6 => ?_)
      refine sv 7 (.bool false) ?_
      refine sx_nil ?_
      refine sx_then ?_
      refine wp_seq ?_
      refine sx_region ?_
      replace b3 := (b3.past (bthru hbV2 hbV3))
      refine sv 12 (.agg #[.bool a.g, .slice a.p a.xs.length a.c, .slice a.q a.ys.length a.d, .int .i64 a.e]) ?_ (hr := (exec_ld (by kernel_rfl) (run_ld b3 hT25 0 [.bool a.g, .slice a.p a.xs.length a.c, .slice a.q a.ys.length a.d, .int .i64 a.e] (by kernel_rfl) (by kernel_rfl))))
      replace b4 := (b4.past hbV3)
      refine sv 13 (.agg #[.int .i64 g.rad, .int .i64 g.digs, .int .i64 g.lo, .int .i64 g.hi, .bool g.grad]) ?_ (hr := (exec_ld (by kernel_rfl) (run_ld b4 hT27 0 [.int .i64 g.rad, .int .i64 g.digs, .int .i64 g.lo, .int .i64 g.hi, .bool g.grad] (by kernel_rfl) (by kernel_rfl))))
      refine sv 14 (.int .i64 way) ?_
      replace ha := (ha.past (bthru (bthru hbV1 hbV2) hbV3))
      refine se 15 25 #[.agg #[.bool a.g, .slice a.p a.xs.length a.c, .slice a.q a.ys.length a.d, .int .i64 a.e], .agg #[.int .i64 g.rad, .int .i64 g.digs, .int .i64 g.lo, .int .i64 g.hi, .bool g.grad], .int .i64 way] (fun Gx hGx => ?_)
      ((with_reducible refine ((HR _ ha).out).mono ?_))
      rintro eV4 V4 ⟨p15, c15, rfl, ho15, hbV4⟩
      have hzV4 := hbV4.size
      refine ⟨.tuple #[.agg #[.bool pn, .slice p15 (dig B32 pd).length c15, .int .i64 pp, .bool pe, .bool true, .bool pu], .int .i64 er], rfl, hGx _ _ ?_⟩
      clear hGx Gx
      refine sv 11 (.tuple #[.agg #[.bool pn, .slice p15 (dig B32 pd).length c15, .int .i64 pp, .bool pe, .bool true, .bool pu], .int .i64 er]) ?_
      refine sv 16 (.agg #[.bool pn, .slice p15 (dig B32 pd).length c15, .int .i64 pp, .bool pe, .bool true, .bool pu]) ?_
      refine sv 17 (.int .i64 er) ?_
      refine sn 8 #[.bool false, .slice none 0 0, .int .i64 0, .bool false, .bool false, .bool false] 61 (fun V5 hbV5 hzV5 b8 => ?_)
      refine ss none b8 hT61 0 #[.bool pn, .slice p15 (dig B32 pd).length c15, .int .i64 pp, .bool pe, .bool true, .bool pu] #[.bool pn, .slice p15 (dig B32 pd).length c15, .int .i64 pp, .bool pe, .bool true, .bool pu] ?_
      have boV6 := b8
      clear b8
      intro V6 hOV6 b8
      have hzV6 := hOV6.size
      refine sv 9 (.int .i64 er) ?_
      refine sx_nil ?_
      refine sx_then ?_
      refine wp_seq ?_
      refine wp_seq ?_
      refine sx_region ?_
      refine sv 18 (.int .i64 er) ?_
      refine sv 19 (.bool false) ?_ (hr := ((show _ = Result.ok (Next.value (.bool (er != 0))) _ from (by kernel_rfl)).trans (congrArg (fun z => Result.ok (Next.value (.bool z)) _) (show (er != 0) = false from ter))))
      refine sv 20 (.bool false) ?_
      refine sv 21 (.pointer (some ⟨V4.heap.size, 4, none⟩)) ?_
      refine sv 22 (.bool true) ?_ (hr := (exec_ld (by kernel_rfl) (run_ld1 b8 hT4 4 (.bool true) (by kernel_rfl))))
      refine sv 23 (.bool true) ?_
      refine sv 24 (.bool true) ?_
      refine so (some 25) ?_
      refine so (some 26) ?_
      refine so (some 27) ?_
      refine so (some 28) ?_
      refine so (some 29) ?_
      refine so (some 30) ?_
      refine so (some 31) ?_
      refine sv 32 (.bool true) ?_
      refine sx_nil ?_
      refine sx_then ?_
      refine wp_cond_true (by kernel_rfl) ?_
      refine wp_seq ?_
      refine sx_region ?_
      refine sv 33 (.agg #[.bool false, .slice none 0 0, .int .i64 0]) ?_
      replace b6 := (b6.past ((bthru hbV4 hbV5).trans (hOV6.below (by omega))))
      refine ss none b6 hT30 0 #[.bool false, .slice none 0 0, .int .i64 0] #[.bool false, .slice none 0 0, .int .i64 0] ?_
      have boV7 := b6
      clear b6
      intro V7 hOV7 b6
      have hzV7 := hOV7.size
      refine sv 7 (.bool false) ?_
      refine sx_nil ?_
      refine sx_then ?_
      refine wp_ret ?_
      have ⟨b6_0, b6_1, b6_2⟩ := b6.bx.e3
      repeat (first | with_reducible refine sx_thenret ?_ | with_reducible refine sx_blockret ?_)
      refine bodyPost_ret (v := .tuple #[.agg #[.bool false, .slice none 0 0, .int .i64 0], .bool false]) (by simp [results, Tryd.results8, go_sem, b6_0, b6_1, b6_2]) rfl ?_
      exact ⟨none, 0, by simp [dig_zero], by rw [dig_zero]; exact Own.nil _ _ _ _, (((bthru (bthru (bthru (bthru hbV1 hbV2) hbV3) hbV4) hbV5).trans (hOV6.below (by omega))).trans (hOV7.below (by omega)))⟩
    | false =>
      cases pu with
      | false =>
        rw [show okP ⟨pn, pd, pp, pe, false, false⟩ g = true from rfl] at hpw hed ⊢
        rw [if_pos rfl]
        replace hpw := hpw rfl
        replace hed := hed rfl
        have HN := fun W p c (h : Own W w.heap.size .u32 46 p c (dig B32 pd)) hT => Lib.hid (number_any ⟨pn, p, c, dig B32 pd, pp, pe, false, false⟩ g W ⟨h.rd, h.le_cap, by simp only; omega, dig_lt B32_two pd⟩ hT)
        simp only at hpw hed
        have en0 : ∀ p c, errNum ⟨pn, p, c, dig B32 pd, pp, pe, false, false⟩ g = 0 := fun p c => by
          unfold errNum
          simp only
          rw [if_neg (by rw [errNat_dig, if_neg (by omega)]; simp), if_neg (by simp [hg]), if_neg (by omega)]
        have nv0 : ∀ p c, numV ⟨pn, p, c, dig B32 pd, pp, pe, false, false⟩ g = bare ⟨pn, pd, wid g * pp⟩ := fun p c => by
          unfold numV
          simp only
          rw [val_dig B32_two]
        simp only [en0, nv0, doneOne, errOne, if_true, doneD, hed] at HN
        generalize bare ⟨pn, pd, wid g * pp⟩ = r at *
        clear en0 nv0 hed hpw
        have hT4 : SxOne Tryd.prog 4 := sxOne_of (by kernel_rfl) (by kernel_rfl)
        have hT25 : SxAgg Tryd.prog 25 4 := sxAgg_of (by kernel_rfl) (by kernel_rfl)
        have hT27 : SxAgg Tryd.prog 27 5 := sxAgg_of (by kernel_rfl) (by kernel_rfl)
        have hT30 : SxAgg Tryd.prog 30 3 := sxAgg_of (by kernel_rfl) (by kernel_rfl)
        have hT61 : SxAgg Tryd.prog 61 6 := sxAgg_of (by kernel_rfl) (by kernel_rfl)
        refine calls_of_wp Tryd.func8 rfl ?_
        refine sx_frame (a' := ⟨((.agg #[.bool a.g, .slice a.p a.xs.length a.c, .slice a.q a.ys.length a.d, .int .i64 a.e]) :: (.agg #[.int .i64 g.rad, .int .i64 g.digs, .int .i64 g.lo, .int .i64 g.hi, .bool g.grad]) :: (.int .i64 way) :: undef :: undef :: undef :: undef :: undef :: undef :: undef :: undef :: undef :: undef :: undef :: undef :: undef :: undef :: undef :: undef :: undef :: undef :: undef :: undef :: undef :: undef :: undef :: undef :: undef :: undef :: undef :: undef :: undef :: undef :: undef :: undef :: undef :: undef :: undef :: undef :: undef :: undef :: undef :: undef :: []).toArray, []⟩) (by kernel_rfl) ?_
        refine wp_seq ?_
        refine sx_region ?_
        refine sn 3 #[.bool a.g, .slice a.p a.xs.length a.c, .slice a.q a.ys.length a.d, .int .i64 a.e] 25 (fun V1 hbV1 hzV1 b3 => ?_)
        refine sn 4 #[.int .i64 g.rad, .int .i64 g.digs, .int .i64 g.lo, .int .i64 g.hi, .bool g.grad] 27 (fun V2 hbV2 hzV2 b4 => ?_)
        refine sn 6 #[.bool false, .slice none 0 0, .int .i64 0] 30 (fun V3 hbV3 hzV3 b6 => ?_)
        refine sv 7 (.bool false) ?_
        refine sx_nil ?_
        refine sx_then ?_
        refine wp_seq ?_
        refine sx_region ?_
        replace b3 := (b3.past (bthru hbV2 hbV3))
        refine sv 12 (.agg #[.bool a.g, .slice a.p a.xs.length a.c, .slice a.q a.ys.length a.d, .int .i64 a.e]) ?_ (hr := (exec_ld (by kernel_rfl) (run_ld b3 hT25 0 [.bool a.g, .slice a.p a.xs.length a.c, .slice a.q a.ys.length a.d, .int .i64 a.e] (by kernel_rfl) (by kernel_rfl))))
        replace b4 := (b4.past hbV3)
        refine sv 13 (.agg #[.int .i64 g.rad, .int .i64 g.digs, .int .i64 g.lo, .int .i64 g.hi, .bool g.grad]) ?_ (hr := (exec_ld (by kernel_rfl) (run_ld b4 hT27 0 [.int .i64 g.rad, .int .i64 g.digs, .int .i64 g.lo, .int .i64 g.hi, .bool g.grad] (by kernel_rfl) (by kernel_rfl))))
        refine sv 14 (.int .i64 way) ?_
        replace ha := (ha.past (bthru (bthru hbV1 hbV2) hbV3))
        refine se 15 25 #[.agg #[.bool a.g, .slice a.p a.xs.length a.c, .slice a.q a.ys.length a.d, .int .i64 a.e], .agg #[.int .i64 g.rad, .int .i64 g.digs, .int .i64 g.lo, .int .i64 g.hi, .bool g.grad], .int .i64 way] (fun Gx hGx => ?_)
        ((with_reducible refine ((HR _ ha).out).mono ?_))
        rintro eV4 V4 ⟨p15, c15, rfl, ho15, hbV4⟩
        have hzV4 := hbV4.size
        refine ⟨.tuple #[.agg #[.bool pn, .slice p15 (dig B32 pd).length c15, .int .i64 pp, .bool pe, .bool false, .bool false], .int .i64 er], rfl, hGx _ _ ?_⟩
        clear hGx Gx
        refine sv 11 (.tuple #[.agg #[.bool pn, .slice p15 (dig B32 pd).length c15, .int .i64 pp, .bool pe, .bool false, .bool false], .int .i64 er]) ?_
        refine sv 16 (.agg #[.bool pn, .slice p15 (dig B32 pd).length c15, .int .i64 pp, .bool pe, .bool false, .bool false]) ?_
        refine sv 17 (.int .i64 er) ?_
        refine sn 8 #[.bool false, .slice none 0 0, .int .i64 0, .bool false, .bool false, .bool false] 61 (fun V5 hbV5 hzV5 b8 => ?_)
        refine ss none b8 hT61 0 #[.bool pn, .slice p15 (dig B32 pd).length c15, .int .i64 pp, .bool pe, .bool false, .bool false] #[.bool pn, .slice p15 (dig B32 pd).length c15, .int .i64 pp, .bool pe, .bool false, .bool false] ?_
        have boV6 := b8
        clear b8
        intro V6 hOV6 b8
        have hzV6 := hOV6.size
        refine sv 9 (.int .i64 er) ?_
        refine sx_nil ?_
        refine sx_then ?_
        refine wp_seq ?_
        refine wp_seq ?_
        refine sx_region ?_
        refine sv 18 (.int .i64 er) ?_
        refine sv 19 (.bool false) ?_ (hr := ((show _ = Result.ok (Next.value (.bool (er != 0))) _ from (by kernel_rfl)).trans (congrArg (fun z => Result.ok (Next.value (.bool z)) _) (show (er != 0) = false from ter))))
        refine sv 20 (.bool false) ?_
        refine sv 21 (.pointer (some ⟨V4.heap.size, 4, none⟩)) ?_
        refine sv 22 (.bool false) ?_ (hr := (exec_ld (by kernel_rfl) (run_ld1 b8 hT4 4 (.bool false) (by kernel_rfl))))
        refine sv 23 (.bool false) ?_
        refine sv 24 (.bool false) ?_
        refine sv 25 (.pointer (some ⟨V4.heap.size, 5, none⟩)) ?_
        refine sv 26 (.bool false) ?_ (hr := (exec_ld (by kernel_rfl) (run_ld1 b8 hT4 5 (.bool false) (by kernel_rfl))))
        refine sv 27 (.bool false) ?_
        refine so (some 28) ?_
        refine so (some 29) ?_
        refine so (some 30) ?_
        refine sv 31 (.bool false) ?_
        refine sv 32 (.bool false) ?_
        refine sx_nil ?_
        refine sx_then ?_
        refine wp_cond_false (by kernel_rfl) ?_
        refine wp_skip ?_
        refine sx_then ?_
        refine wp_seq ?_
        refine sx_region ?_
        refine sv 35 (.agg #[.bool pn, .slice p15 (dig B32 pd).length c15, .int .i64 pp, .bool pe, .bool false, .bool false]) ?_ (hr := (exec_ld (by kernel_rfl) (run_ld b8 hT61 0 [.bool pn, .slice p15 (dig B32 pd).length c15, .int .i64 pp, .bool pe, .bool false, .bool false] (by kernel_rfl) (by kernel_rfl))))
        replace b4 := (b4.past ((bthru hbV4 hbV5).trans (hOV6.below (by omega))))
        refine sv 36 (.agg #[.int .i64 g.rad, .int .i64 g.digs, .int .i64 g.lo, .int .i64 g.hi, .bool g.grad]) ?_ (hr := (exec_ld (by kernel_rfl) (run_ld b4 hT27 0 [.int .i64 g.rad, .int .i64 g.digs, .int .i64 g.lo, .int .i64 g.hi, .bool g.grad] (by kernel_rfl) (by kernel_rfl))))
        replace ho15 := (ho15.past (hbV5.trans (hOV6.below (by omega))))
        replace hT := (hT.past ((bthru (bthru (bthru (bthru hbV1 hbV2) hbV3) hbV4) hbV5).trans (hOV6.below (by omega))))
        refine se 37 27 #[.agg #[.bool pn, .slice p15 (dig B32 pd).length c15, .int .i64 pp, .bool pe, .bool false, .bool false], .agg #[.int .i64 g.rad, .int .i64 g.digs, .int .i64 g.lo, .int .i64 g.hi, .bool g.grad]] (fun Gx hGx => ?_)
        ((with_reducible refine ((HN _ p15 c15 (ho15.mono (by omega)) hT).out).mono ?_))
        rintro eV7 V7 ⟨p37, c37, rfl, ho37, hbV7⟩
        have hzV7 := hbV7.size
        refine ⟨.tuple #[.agg #[.bool r.neg, .slice p37 (dig B32 r.m).length c37, .int .i64 r.e], .int .i64 0], rfl, hGx _ _ ?_⟩
        clear hGx Gx
        refine sv 34 (.tuple #[.agg #[.bool r.neg, .slice p37 (dig B32 r.m).length c37, .int .i64 r.e], .int .i64 0]) ?_
        refine sv 38 (.agg #[.bool r.neg, .slice p37 (dig B32 r.m).length c37, .int .i64 r.e]) ?_
        refine sv 39 (.int .i64 0) ?_
        refine sn 10 #[.bool false, .slice none 0 0, .int .i64 0] 30 (fun V8 hbV8 hzV8 b10 => ?_)
        refine ss none b10 hT30 0 #[.bool r.neg, .slice p37 (dig B32 r.m).length c37, .int .i64 r.e] #[.bool r.neg, .slice p37 (dig B32 r.m).length c37, .int .i64 r.e] ?_
        have boV9 := b10
        clear b10
        intro V9 hOV9 b10
        have hzV9 := hOV9.size
        refine sv 9 (.int .i64 0) ?_
        refine sx_nil ?_
        refine sx_then ?_
        refine wp_seq ?_
        refine sx_region ?_
        refine sv 40 (.agg #[.bool r.neg, .slice p37 (dig B32 r.m).length c37, .int .i64 r.e]) ?_ (hr := (exec_ld (by kernel_rfl) (run_ld b10 hT30 0 [.bool r.neg, .slice p37 (dig B32 r.m).length c37, .int .i64 r.e] (by kernel_rfl) (by kernel_rfl))))
        refine sv 41 (.int .i64 0) ?_
        refine sv 42 (.bool true) ?_
        replace b6 := (b6.past ((bthru (bthru ((bthru hbV4 hbV5).trans (hOV6.below (by omega))) hbV7) hbV8).trans (hOV9.below (by omega))))
        refine ss none b6 hT30 0 #[.bool r.neg, .slice p37 (dig B32 r.m).length c37, .int .i64 r.e] #[.bool r.neg, .slice p37 (dig B32 r.m).length c37, .int .i64 r.e] ?_
        have boV10 := b6
        clear b6
        intro V10 hOV10 b6
        have hzV10 := hOV10.size
        refine sv 7 (.bool true) ?_
        refine sx_nil ?_
        refine sx_then ?_
        refine wp_ret ?_
        have ⟨b6_0, b6_1, b6_2⟩ := b6.bx.e3
        repeat (first | with_reducible refine sx_thenret ?_ | with_reducible refine sx_blockret ?_)
        refine bodyPost_ret (v := .tuple #[.agg #[.bool r.neg, .slice p37 (dig B32 r.m).length c37, .int .i64 r.e], .bool true]) (by simp [results, Tryd.results8, go_sem, b6_0, b6_1, b6_2]) rfl ?_
        replace ho37 := ((ho37.past (hbV8.trans (hOV9.below (by omega)))).put boV10 hOV10 (by kernel_rfl))
        exact ⟨p37, c37, rfl, ho37.mono (by omega), (((bthru (bthru ((bthru (bthru (bthru (bthru hbV1 hbV2) hbV3) hbV4) hbV5).trans (hOV6.below (by omega))) hbV7) hbV8).trans (hOV9.below (by omega))).trans (hOV10.below (by omega)))⟩
      | true =>
        by_cases hgr : g.grad = true
        · rw [show okP ⟨pn, pd, pp, pe, false, true⟩ g = true by unfold okP; simp [hgr]] at hpw hed ⊢
          rw [if_pos rfl]
          replace hpw := hpw rfl
          replace hed := hed rfl
          have HN := fun W p c (h : Own W w.heap.size .u32 46 p c (dig B32 pd)) hT => Lib.hid (number_any ⟨pn, p, c, dig B32 pd, pp, pe, false, true⟩ g W ⟨h.rd, h.le_cap, by simp only; omega, dig_lt B32_two pd⟩ hT)
          simp only at hpw hed
          have en0 : ∀ p c, errNum ⟨pn, p, c, dig B32 pd, pp, pe, false, true⟩ g = 0 := fun p c => by
            unfold errNum
            simp only
            rw [if_neg (by rw [errNat_dig, if_neg (by omega)]; simp), if_neg (by simp [hg]), if_neg (by omega)]
          have nv0 : ∀ p c, numV ⟨pn, p, c, dig B32 pd, pp, pe, false, true⟩ g = bare ⟨pn, pd, wid g * pp⟩ := fun p c => by
            unfold numV
            simp only
            rw [val_dig B32_two]
          simp only [en0, nv0, doneOne, errOne, if_true, doneD, hed] at HN
          generalize bare ⟨pn, pd, wid g * pp⟩ = r at *
          clear en0 nv0 hed hpw
          have hT4 : SxOne Tryd.prog 4 := sxOne_of (by kernel_rfl) (by kernel_rfl)
          have hT25 : SxAgg Tryd.prog 25 4 := sxAgg_of (by kernel_rfl) (by kernel_rfl)
          have hT27 : SxAgg Tryd.prog 27 5 := sxAgg_of (by kernel_rfl) (by kernel_rfl)
          have hT30 : SxAgg Tryd.prog 30 3 := sxAgg_of (by kernel_rfl) (by kernel_rfl)
          have hT61 : SxAgg Tryd.prog 61 6 := sxAgg_of (by kernel_rfl) (by kernel_rfl)
          refine calls_of_wp Tryd.func8 rfl ?_
          refine sx_frame (a' := ⟨((.agg #[.bool a.g, .slice a.p a.xs.length a.c, .slice a.q a.ys.length a.d, .int .i64 a.e]) :: (.agg #[.int .i64 g.rad, .int .i64 g.digs, .int .i64 g.lo, .int .i64 g.hi, .bool g.grad]) :: (.int .i64 way) :: undef :: undef :: undef :: undef :: undef :: undef :: undef :: undef :: undef :: undef :: undef :: undef :: undef :: undef :: undef :: undef :: undef :: undef :: undef :: undef :: undef :: undef :: undef :: undef :: undef :: undef :: undef :: undef :: undef :: undef :: undef :: undef :: undef :: undef :: undef :: undef :: undef :: undef :: undef :: undef :: []).toArray, []⟩) (by kernel_rfl) ?_
          refine wp_seq ?_
          refine sx_region ?_
          refine sn 3 #[.bool a.g, .slice a.p a.xs.length a.c, .slice a.q a.ys.length a.d, .int .i64 a.e] 25 (fun V1 hbV1 hzV1 b3 => ?_)
          refine sn 4 #[.int .i64 g.rad, .int .i64 g.digs, .int .i64 g.lo, .int .i64 g.hi, .bool g.grad] 27 (fun V2 hbV2 hzV2 b4 => ?_)
          refine sn 6 #[.bool false, .slice none 0 0, .int .i64 0] 30 (fun V3 hbV3 hzV3 b6 => ?_)
          refine sv 7 (.bool false) ?_
          refine sx_nil ?_
          refine sx_then ?_
          refine wp_seq ?_
          refine sx_region ?_
          replace b3 := (b3.past (bthru hbV2 hbV3))
          refine sv 12 (.agg #[.bool a.g, .slice a.p a.xs.length a.c, .slice a.q a.ys.length a.d, .int .i64 a.e]) ?_ (hr := (exec_ld (by kernel_rfl) (run_ld b3 hT25 0 [.bool a.g, .slice a.p a.xs.length a.c, .slice a.q a.ys.length a.d, .int .i64 a.e] (by kernel_rfl) (by kernel_rfl))))
          replace b4 := (b4.past hbV3)
          refine sv 13 (.agg #[.int .i64 g.rad, .int .i64 g.digs, .int .i64 g.lo, .int .i64 g.hi, .bool g.grad]) ?_ (hr := (exec_ld (by kernel_rfl) (run_ld b4 hT27 0 [.int .i64 g.rad, .int .i64 g.digs, .int .i64 g.lo, .int .i64 g.hi, .bool g.grad] (by kernel_rfl) (by kernel_rfl))))
          refine sv 14 (.int .i64 way) ?_
          replace ha := (ha.past (bthru (bthru hbV1 hbV2) hbV3))
          refine se 15 25 #[.agg #[.bool a.g, .slice a.p a.xs.length a.c, .slice a.q a.ys.length a.d, .int .i64 a.e], .agg #[.int .i64 g.rad, .int .i64 g.digs, .int .i64 g.lo, .int .i64 g.hi, .bool g.grad], .int .i64 way] (fun Gx hGx => ?_)
          ((with_reducible refine ((HR _ ha).out).mono ?_))
          rintro eV4 V4 ⟨p15, c15, rfl, ho15, hbV4⟩
          have hzV4 := hbV4.size
          refine ⟨.tuple #[.agg #[.bool pn, .slice p15 (dig B32 pd).length c15, .int .i64 pp, .bool pe, .bool false, .bool true], .int .i64 er], rfl, hGx _ _ ?_⟩
          clear hGx Gx
          refine sv 11 (.tuple #[.agg #[.bool pn, .slice p15 (dig B32 pd).length c15, .int .i64 pp, .bool pe, .bool false, .bool true], .int .i64 er]) ?_
          refine sv 16 (.agg #[.bool pn, .slice p15 (dig B32 pd).length c15, .int .i64 pp, .bool pe, .bool false, .bool true]) ?_
          refine sv 17 (.int .i64 er) ?_
          refine sn 8 #[.bool false, .slice none 0 0, .int .i64 0, .bool false, .bool false, .bool false] 61 (fun V5 hbV5 hzV5 b8 => ?_)
          refine ss none b8 hT61 0 #[.bool pn, .slice p15 (dig B32 pd).length c15, .int .i64 pp, .bool pe, .bool false, .bool true] #[.bool pn, .slice p15 (dig B32 pd).length c15, .int .i64 pp, .bool pe, .bool false, .bool true] ?_
          have boV6 := b8
          clear b8
          intro V6 hOV6 b8
          have hzV6 := hOV6.size
          refine sv 9 (.int .i64 er) ?_
          refine sx_nil ?_
          refine sx_then ?_
          refine wp_seq ?_
          refine wp_seq ?_
          refine sx_region ?_
          refine sv 18 (.int .i64 er) ?_
          refine sv 19 (.bool false) ?_ (hr := ((show _ = Result.ok (Next.value (.bool (er != 0))) _ from (by kernel_rfl)).trans (congrArg (fun z => Result.ok (Next.value (.bool z)) _) (show (er != 0) = false from ter))))
          refine sv 20 (.bool false) ?_
          refine sv 21 (.pointer (some ⟨V4.heap.size, 4, none⟩)) ?_
          refine sv 22 (.bool false) ?_ (hr := (exec_ld (by kernel_rfl) (run_ld1 b8 hT4 4 (.bool false) (by kernel_rfl))))
          refine sv 23 (.bool false) ?_
          refine sv 24 (.bool false) ?_
          refine sv 25 (.pointer (some ⟨V4.heap.size, 5, none⟩)) ?_
          refine sv 26 (.bool true) ?_ (hr := (exec_ld (by kernel_rfl) (run_ld1 b8 hT4 5 (.bool true) (by kernel_rfl))))
          refine sv 27 (.bool true) ?_
          refine sv 28 (.pointer (some ⟨V1.heap.size, 4, none⟩)) ?_
          replace b4 := (b4.past ((bthru hbV4 hbV5).trans (hOV6.below (by omega))))
          refine sv 29 (.bool g.grad) ?_ (hr := (exec_ld (by kernel_rfl) (run_ld1 b4 hT4 4 (.bool g.grad) (by kernel_rfl))))
          refine sv 30 (.bool false) ?_ (hr := ((show _ = Result.ok (Next.value (.bool (!g.grad))) _ from (by kernel_rfl)).trans (congrArg (fun z => Result.ok (Next.value (.bool z)) _) (show (!g.grad) = false from by rw [hgr]; rfl))))
          refine sv 31 (.bool false) ?_
          refine sv 32 (.bool false) ?_
          refine sx_nil ?_
          refine sx_then ?_
          refine wp_cond_false (by kernel_rfl) ?_
          refine wp_skip ?_
          refine sx_then ?_
          refine wp_seq ?_
          refine sx_region ?_
          refine sv 35 (.agg #[.bool pn, .slice p15 (dig B32 pd).length c15, .int .i64 pp, .bool pe, .bool false, .bool true]) ?_ (hr := (exec_ld (by kernel_rfl) (run_ld b8 hT61 0 [.bool pn, .slice p15 (dig B32 pd).length c15, .int .i64 pp, .bool pe, .bool false, .bool true] (by kernel_rfl) (by kernel_rfl))))
          refine sv 36 (.agg #[.int .i64 g.rad, .int .i64 g.digs, .int .i64 g.lo, .int .i64 g.hi, .bool g.grad]) ?_ (hr := (exec_ld (by kernel_rfl) (run_ld b4 hT27 0 [.int .i64 g.rad, .int .i64 g.digs, .int .i64 g.lo, .int .i64 g.hi, .bool g.grad] (by kernel_rfl) (by kernel_rfl))))
          replace ho15 := (ho15.past (hbV5.trans (hOV6.below (by omega))))
          replace hT := (hT.past ((bthru (bthru (bthru (bthru hbV1 hbV2) hbV3) hbV4) hbV5).trans (hOV6.below (by omega))))
          refine se 37 27 #[.agg #[.bool pn, .slice p15 (dig B32 pd).length c15, .int .i64 pp, .bool pe, .bool false, .bool true], .agg #[.int .i64 g.rad, .int .i64 g.digs, .int .i64 g.lo, .int .i64 g.hi, .bool g.grad]] (fun Gx hGx => ?_)
          ((with_reducible refine ((HN _ p15 c15 (ho15.mono (by omega)) hT).out).mono ?_))
          rintro eV7 V7 ⟨p37, c37, rfl, ho37, hbV7⟩
          have hzV7 := hbV7.size
          refine ⟨.tuple #[.agg #[.bool r.neg, .slice p37 (dig B32 r.m).length c37, .int .i64 r.e], .int .i64 0], rfl, hGx _ _ ?_⟩
          clear hGx Gx
          refine sv 34 (.tuple #[.agg #[.bool r.neg, .slice p37 (dig B32 r.m).length c37, .int .i64 r.e], .int .i64 0]) ?_
          refine sv 38 (.agg #[.bool r.neg, .slice p37 (dig B32 r.m).length c37, .int .i64 r.e]) ?_
          refine sv 39 (.int .i64 0) ?_
          refine sn 10 #[.bool false, .slice none 0 0, .int .i64 0] 30 (fun V8 hbV8 hzV8 b10 => ?_)
          refine ss none b10 hT30 0 #[.bool r.neg, .slice p37 (dig B32 r.m).length c37, .int .i64 r.e] #[.bool r.neg, .slice p37 (dig B32 r.m).length c37, .int .i64 r.e] ?_
          have boV9 := b10
          clear b10
          intro V9 hOV9 b10
          have hzV9 := hOV9.size
          refine sv 9 (.int .i64 0) ?_
          refine sx_nil ?_
          refine sx_then ?_
          refine wp_seq ?_
          refine sx_region ?_
          refine sv 40 (.agg #[.bool r.neg, .slice p37 (dig B32 r.m).length c37, .int .i64 r.e]) ?_ (hr := (exec_ld (by kernel_rfl) (run_ld b10 hT30 0 [.bool r.neg, .slice p37 (dig B32 r.m).length c37, .int .i64 r.e] (by kernel_rfl) (by kernel_rfl))))
          refine sv 41 (.int .i64 0) ?_
          refine sv 42 (.bool true) ?_
          replace b6 := (b6.past ((bthru (bthru ((bthru hbV4 hbV5).trans (hOV6.below (by omega))) hbV7) hbV8).trans (hOV9.below (by omega))))
          refine ss none b6 hT30 0 #[.bool r.neg, .slice p37 (dig B32 r.m).length c37, .int .i64 r.e] #[.bool r.neg, .slice p37 (dig B32 r.m).length c37, .int .i64 r.e] ?_
          have boV10 := b6
          clear b6
          intro V10 hOV10 b6
          have hzV10 := hOV10.size
          refine sv 7 (.bool true) ?_
          refine sx_nil ?_
          refine sx_then ?_
          refine wp_ret ?_
          have ⟨b6_0, b6_1, b6_2⟩ := b6.bx.e3
          repeat (first | with_reducible refine sx_thenret ?_ | with_reducible refine sx_blockret ?_)
          refine bodyPost_ret (v := .tuple #[.agg #[.bool r.neg, .slice p37 (dig B32 r.m).length c37, .int .i64 r.e], .bool true]) (by simp [results, Tryd.results8, go_sem, b6_0, b6_1, b6_2]) rfl ?_
          replace ho37 := ((ho37.past (hbV8.trans (hOV9.below (by omega)))).put boV10 hOV10 (by kernel_rfl))
          exact ⟨p37, c37, rfl, ho37.mono (by omega), (((bthru (bthru ((bthru (bthru (bthru (bthru hbV1 hbV2) hbV3) hbV4) hbV5).trans (hOV6.below (by omega))) hbV7) hbV8).trans (hOV9.below (by omega))).trans (hOV10.below (by omega)))⟩
        · replace hgr : g.grad = false := by simpa using hgr
          rw [show okP ⟨pn, pd, pp, pe, false, true⟩ g = false by unfold okP; simp [hgr], if_neg (by simp)]
          have hT4 : SxOne Tryd.prog 4 := sxOne_of (by kernel_rfl) (by kernel_rfl)
          have hT25 : SxAgg Tryd.prog 25 4 := sxAgg_of (by kernel_rfl) (by kernel_rfl)
          have hT27 : SxAgg Tryd.prog 27 5 := sxAgg_of (by kernel_rfl) (by kernel_rfl)
          have hT30 : SxAgg Tryd.prog 30 3 := sxAgg_of (by kernel_rfl) (by kernel_rfl)
          have hT61 : SxAgg Tryd.prog 61 6 := sxAgg_of (by kernel_rfl) (by kernel_rfl)
          refine calls_of_wp Tryd.func8 rfl ?_
          refine sx_frame (a' := ⟨((.agg #[.bool a.g, .slice a.p a.xs.length a.c, .slice a.q a.ys.length a.d, .int .i64 a.e]) :: (.agg #[.int .i64 g.rad, .int .i64 g.digs, .int .i64 g.lo, .int .i64 g.hi, .bool g.grad]) :: (.int .i64 way) :: undef :: undef :: undef :: undef :: undef :: undef :: undef :: undef :: undef :: undef :: undef :: undef :: undef :: undef :: undef :: undef :: undef :: undef :: undef :: undef :: undef :: undef :: undef :: undef :: undef :: undef :: undef :: undef :: undef :: undef :: undef :: undef :: undef :: undef :: undef :: undef :: undef :: undef :: undef :: undef :: []).toArray, []⟩) (by kernel_rfl) ?_
          refine wp_seq ?_
          refine sx_region ?_
          refine sn 3 #[.bool a.g, .slice a.p a.xs.length a.c, .slice a.q a.ys.length a.d, .int .i64 a.e] 25 (fun V1 hbV1 hzV1 b3 => ?_)
          refine sn 4 #[.int .i64 g.rad, .int .i64 g.digs, .int .i64 g.lo, .int .i64 g.hi, .bool g.grad] 27 (fun V2 hbV2 hzV2 b4 => ?_)
          refine sn 6 #[.bool false, .slice none 0 0, .int .i64 0] 30 (fun V3 hbV3 hzV3 b6 => ?_)
          refine sv 7 (.bool false) ?_
          refine sx_nil ?_
          refine sx_then ?_
          refine wp_seq ?_
          refine sx_region ?_
          replace b3 := (b3.past (bthru hbV2 hbV3))
          refine sv 12 (.agg #[.bool a.g, .slice a.p a.xs.length a.c, .slice a.q a.ys.length a.d, .int .i64 a.e]) ?_ (hr := (exec_ld (by kernel_rfl) (run_ld b3 hT25 0 [.bool a.g, .slice a.p a.xs.length a.c, .slice a.q a.ys.length a.d, .int .i64 a.e] (by kernel_rfl) (by kernel_rfl))))
          replace b4 := (b4.past hbV3)
          refine sv 13 (.agg #[.int .i64 g.rad, .int .i64 g.digs, .int .i64 g.lo, .int .i64 g.hi, .bool g.grad]) ?_ (hr := (exec_ld (by kernel_rfl) (run_ld b4 hT27 0 [.int .i64 g.rad, .int .i64 g.digs, .int .i64 g.lo, .int .i64 g.hi, .bool g.grad] (by kernel_rfl) (by kernel_rfl))))
          refine sv 14 (.int .i64 way) ?_
          replace ha := (ha.past (bthru (bthru hbV1 hbV2) hbV3))
          refine se 15 25 #[.agg #[.bool a.g, .slice a.p a.xs.length a.c, .slice a.q a.ys.length a.d, .int .i64 a.e], .agg #[.int .i64 g.rad, .int .i64 g.digs, .int .i64 g.lo, .int .i64 g.hi, .bool g.grad], .int .i64 way] (fun Gx hGx => ?_)
          ((with_reducible refine ((HR _ ha).out).mono ?_))
          rintro eV4 V4 ⟨p15, c15, rfl, ho15, hbV4⟩
          have hzV4 := hbV4.size
          refine ⟨.tuple #[.agg #[.bool pn, .slice p15 (dig B32 pd).length c15, .int .i64 pp, .bool pe, .bool false, .bool true], .int .i64 er], rfl, hGx _ _ ?_⟩
          clear hGx Gx
          refine sv 11 (.tuple #[.agg #[.bool pn, .slice p15 (dig B32 pd).length c15, .int .i64 pp, .bool pe, .bool false, .bool true], .int .i64 er]) ?_
          refine sv 16 (.agg #[.bool pn, .slice p15 (dig B32 pd).length c15, .int .i64 pp, .bool pe, .bool false, .bool true]) ?_
          refine sv 17 (.int .i64 er) ?_
          refine sn 8 #[.bool false, .slice none 0 0, .int .i64 0, .bool false, .bool false, .bool false] 61 (fun V5 hbV5 hzV5 b8 => ?_)
          refine ss none b8 hT61 0 #[.bool pn, .slice p15 (dig B32 pd).length c15, .int .i64 pp, .bool pe, .bool false, .bool true] #[.bool pn, .slice p15 (dig B32 pd).length c15, .int .i64 pp, .bool pe, .bool false, .bool true] ?_
          have boV6 := b8
          clear b8
          intro V6 hOV6 b8
          have hzV6 := hOV6.size
          refine sv 9 (.int .i64 er) ?_
          refine sx_nil ?_
          refine sx_then ?_
          refine wp_seq ?_
          refine wp_seq ?_
          refine sx_region ?_
          refine sv 18 (.int .i64 er) ?_
          refine sv 19 (.bool false) ?_ (hr := ((show _ = Result.ok (Next.value (.bool (er != 0))) _ from (by kernel_rfl)).trans (congrArg (fun z => Result.ok (Next.value (.bool z)) _) (show (er != 0) = false from ter))))
          refine sv 20 (.bool false) ?_
          refine sv 21 (.pointer (some ⟨V4.heap.size, 4, none⟩)) ?_
          refine sv 22 (.bool false) ?_ (hr := (exec_ld (by kernel_rfl) (run_ld1 b8 hT4 4 (.bool false) (by kernel_rfl))))
          refine sv 23 (.bool false) ?_
          refine sv 24 (.bool false) ?_
          refine sv 25 (.pointer (some ⟨V4.heap.size, 5, none⟩)) ?_
          refine sv 26 (.bool true) ?_ (hr := (exec_ld (by kernel_rfl) (run_ld1 b8 hT4 5 (.bool true) (by kernel_rfl))))
          refine sv 27 (.bool true) ?_
          refine sv 28 (.pointer (some ⟨V1.heap.size, 4, none⟩)) ?_
          replace b4 := (b4.past ((bthru hbV4 hbV5).trans (hOV6.below (by omega))))
          refine sv 29 (.bool g.grad) ?_ (hr := (exec_ld (by kernel_rfl) (run_ld1 b4 hT4 4 (.bool g.grad) (by kernel_rfl))))
          refine sv 30 (.bool true) ?_ (hr := ((show _ = Result.ok (Next.value (.bool (!g.grad))) _ from (by kernel_rfl)).trans (congrArg (fun z => Result.ok (Next.value (.bool z)) _) (show (!g.grad) = true from by rw [hgr]; rfl))))
          refine sv 31 (.bool true) ?_
          refine sv 32 (.bool true) ?_
          refine sx_nil ?_
          refine sx_then ?_
          refine wp_cond_true (by kernel_rfl) ?_
          refine wp_seq ?_
          refine sx_region ?_
          refine sv 33 (.agg #[.bool false, .slice none 0 0, .int .i64 0]) ?_
          replace b6 := (b6.past ((bthru hbV4 hbV5).trans (hOV6.below (by omega))))
          refine ss none b6 hT30 0 #[.bool false, .slice none 0 0, .int .i64 0] #[.bool false, .slice none 0 0, .int .i64 0] ?_
          have boV7 := b6
          clear b6
          intro V7 hOV7 b6
          have hzV7 := hOV7.size
          refine sv 7 (.bool false) ?_
          refine sx_nil ?_
          refine sx_then ?_
          refine wp_ret ?_
          have ⟨b6_0, b6_1, b6_2⟩ := b6.bx.e3
          repeat (first | with_reducible refine sx_thenret ?_ | with_reducible refine sx_blockret ?_)
          refine bodyPost_ret (v := .tuple #[.agg #[.bool false, .slice none 0 0, .int .i64 0], .bool false]) (by simp [results, Tryd.results8, go_sem, b6_0, b6_1, b6_2]) rfl ?_
          exact ⟨none, 0, by simp [dig_zero], by rw [dig_zero]; exact Own.nil _ _ _ _, (((bthru (bthru (bthru (bthru hbV1 hbV2) hbV3) hbV4) hbV5).trans (hOV6.below (by omega))).trans (hOV7.below (by omega)))⟩
  · have ter : (er != 0) = true := by rw [← her]; simpa using h0
    have hP0 : P = zeroP := by rw [← hP]; unfold roundOf; rw [if_neg h0]
    have hok : rokB a g way = false := by unfold rokB; rw [decide_eq_false h0, Bool.false_and]
    unfold rvalV
    rw [hok, if_neg (by simp)]
    rw [her, hP, hP0] at HR
    unfold zeroP at HR
    obtain ⟨pn, hpn⟩ : ∃ pn, pn = false := ⟨_, rfl⟩
    obtain ⟨pe, hpe⟩ : ∃ pe, pe = false := ⟨_, rfl⟩
    obtain ⟨pd, hpd⟩ : ∃ pd : Nat, pd = 0 := ⟨_, rfl⟩
    obtain ⟨pp, hpp⟩ : ∃ pp : Int, pp = 0 := ⟨_, rfl⟩
    subst hpn hpe hpd hpp
    have hT25 : SxAgg Tryd.prog 25 4 := sxAgg_of (by kernel_rfl) (by kernel_rfl)
    have hT27 : SxAgg Tryd.prog 27 5 := sxAgg_of (by kernel_rfl) (by kernel_rfl)
    have hT30 : SxAgg Tryd.prog 30 3 := sxAgg_of (by kernel_rfl) (by kernel_rfl)
    have hT61 : SxAgg Tryd.prog 61 6 := sxAgg_of (by kernel_rfl) (by kernel_rfl)
    refine calls_of_wp Tryd.func8 rfl ?_
    refine sx_frame (a' := ⟨((.agg #[.bool a.g, .slice a.p a.xs.length a.c, .slice a.q a.ys.length a.d, .int .i64 a.e]) :: (.agg #[.int .i64 g.rad, .int .i64 g.digs, .int .i64 g.lo, .int .i64 g.hi, .bool g.grad]) :: (.int .i64 way) :: undef :: undef :: undef :: undef :: undef :: undef :: undef :: undef :: undef :: undef :: undef :: undef :: undef :: undef :: undef :: undef :: undef :: undef :: undef :: undef :: undef :: undef :: undef :: undef :: undef :: undef :: undef :: undef :: undef :: undef :: undef :: undef :: undef :: undef :: undef :: undef :: undef :: undef :: undef :: undef :: []).toArray, []⟩) (by kernel_rfl) ?_
    refine wp_seq ?_
    refine sx_region ?_
    refine sn 3 #[.bool a.g, .slice a.p a.xs.length a.c, .slice a.q a.ys.length a.d, .int .i64 a.e] 25 (fun V1 hbV1 hzV1 b3 => ?_)
    refine sn 4 #[.int .i64 g.rad, .int .i64 g.digs, .int .i64 g.lo, .int .i64 g.hi, .bool g.grad] 27 (fun V2 hbV2 hzV2 b4 => ?_)
    refine sn 6 #[.bool false, .slice none 0 0, .int .i64 0] 30 (fun V3 hbV3 hzV3 b6 => ?_)
    refine sv 7 (.bool false) ?_
    refine sx_nil ?_
    refine sx_then ?_
    refine wp_seq ?_
    refine sx_region ?_
    replace b3 := (b3.past (bthru hbV2 hbV3))
    refine sv 12 (.agg #[.bool a.g, .slice a.p a.xs.length a.c, .slice a.q a.ys.length a.d, .int .i64 a.e]) ?_ (hr := (exec_ld (by kernel_rfl) (run_ld b3 hT25 0 [.bool a.g, .slice a.p a.xs.length a.c, .slice a.q a.ys.length a.d, .int .i64 a.e] (by kernel_rfl) (by kernel_rfl))))
    replace b4 := (b4.past hbV3)
    refine sv 13 (.agg #[.int .i64 g.rad, .int .i64 g.digs, .int .i64 g.lo, .int .i64 g.hi, .bool g.grad]) ?_ (hr := (exec_ld (by kernel_rfl) (run_ld b4 hT27 0 [.int .i64 g.rad, .int .i64 g.digs, .int .i64 g.lo, .int .i64 g.hi, .bool g.grad] (by kernel_rfl) (by kernel_rfl))))
    refine sv 14 (.int .i64 way) ?_
    replace ha := (ha.past (bthru (bthru hbV1 hbV2) hbV3))
    refine se 15 25 #[.agg #[.bool a.g, .slice a.p a.xs.length a.c, .slice a.q a.ys.length a.d, .int .i64 a.e], .agg #[.int .i64 g.rad, .int .i64 g.digs, .int .i64 g.lo, .int .i64 g.hi, .bool g.grad], .int .i64 way] (fun Gx hGx => ?_)
    ((with_reducible refine ((HR _ ha).out).mono ?_))
    rintro eV4 V4 ⟨p15, c15, rfl, ho15, hbV4⟩
    have hzV4 := hbV4.size
    refine ⟨.tuple #[.agg #[.bool false, .slice p15 (dig B32 0).length c15, .int .i64 0, .bool false, .bool false, .bool false], .int .i64 er], rfl, hGx _ _ ?_⟩
    clear hGx Gx
    refine sv 11 (.tuple #[.agg #[.bool false, .slice p15 (dig B32 0).length c15, .int .i64 0, .bool false, .bool false, .bool false], .int .i64 er]) ?_
    refine sv 16 (.agg #[.bool false, .slice p15 (dig B32 0).length c15, .int .i64 0, .bool false, .bool false, .bool false]) ?_
    refine sv 17 (.int .i64 er) ?_
    refine sn 8 #[.bool false, .slice none 0 0, .int .i64 0, .bool false, .bool false, .bool false] 61 (fun V5 hbV5 hzV5 b8 => ?_)
    refine ss none b8 hT61 0 #[.bool false, .slice p15 (dig B32 0).length c15, .int .i64 0, .bool false, .bool false, .bool false] #[.bool false, .slice p15 (dig B32 0).length c15, .int .i64 0, .bool false, .bool false, .bool false] ?_
    have boV6 := b8
    clear b8
    intro V6 hOV6 b8
    have hzV6 := hOV6.size
    refine sv 9 (.int .i64 er) ?_
    refine sx_nil ?_
    refine sx_then ?_
    refine wp_seq ?_
    refine wp_seq ?_
    refine sx_region ?_
    refine sv 18 (.int .i64 er) ?_
    refine sv 19 (.bool true) ?_ (hr := ((show _ = Result.ok (Next.value (.bool (er != 0))) _ from (by kernel_rfl)).trans (congrArg (fun z => Result.ok (Next.value (.bool z)) _) (show (er != 0) = true from ter))))
    refine sv 20 (.bool true) ?_
    refine so (some 21) ?_
    refine so (some 22) ?_
    refine sv 23 (.bool true) ?_
    refine sv 24 (.bool true) ?_
    refine so (some 25) ?_
    refine so (some 26) ?_
    refine so (some 27) ?_
    refine so (some 28) ?_
    refine so (some 29) ?_
    refine so (some 30) ?_
    refine so (some 31) ?_
    refine sv 32 (.bool true) ?_
    refine sx_nil ?_
    refine sx_then ?_
    refine wp_cond_true (by kernel_rfl) ?_
    refine wp_seq ?_
    refine sx_region ?_
    refine sv 33 (.agg #[.bool false, .slice none 0 0, .int .i64 0]) ?_
    replace b6 := (b6.past ((bthru hbV4 hbV5).trans (hOV6.below (by omega))))
    refine ss none b6 hT30 0 #[.bool false, .slice none 0 0, .int .i64 0] #[.bool false, .slice none 0 0, .int .i64 0] ?_
    have boV7 := b6
    clear b6
    intro V7 hOV7 b6
    have hzV7 := hOV7.size
    refine sv 7 (.bool false) ?_
    refine sx_nil ?_
    refine sx_then ?_
    refine wp_ret ?_
    have ⟨b6_0, b6_1, b6_2⟩ := b6.bx.e3
    repeat (first | with_reducible refine sx_thenret ?_ | with_reducible refine sx_blockret ?_)
    refine bodyPost_ret (v := .tuple #[.agg #[.bool false, .slice none 0 0, .int .i64 0], .bool false]) (by simp [results, Tryd.results8, go_sem, b6_0, b6_1, b6_2]) rfl ?_
    exact ⟨none, 0, by simp [dig_zero], by rw [dig_zero]; exact Own.nil _ _ _ _, (((bthru (bthru (bthru (bthru hbV1 hbV2) hbV3) hbV4) hbV5).trans (hOV6.below (by omega))).trans (hOV7.below (by omega)))⟩

end Go.Proofs.YtlegnbigddhmlaaDoor
