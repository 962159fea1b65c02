/- series: Bracket. -/
import Derived.Test.YtehodhanojgkgaaDoorZV
import Derived.Test.YtehodhanojgkgaaDoorZSe8
namespace Go.Proofs.YtehodhanojgkgaaDoor
open Go.RowKit Go.Slip

/-- Bounds. -/
structure FitB (d : Dv) : Prop where
  bare : Bare d
  len : (dig B32 d.m).length ≤ 1200
  lo : -100000 ≤ d.e
  hi : d.e ≤ 100000
theorem dyV_fitB {w : World} {a : Din} (h : InD w a) (he : errDy a = 0) : FitB (dyV a) := by
  obtain ⟨h1, h2, h3⟩ := dyV_bd h he
  exact ⟨dyV_bare a, h1, by omega, by omega⟩
theorem trD_fit {d : Dv} (f : FitB d) {k : Nat} (h0 : 0 < d.m) (hk : 1 ≤ k) : (dig B32 (trD d k).m).length ≤ 1202 ∧ -100000 ≤ (trD d k).e ∧ (trD d k).e ≤ 200000 := by
  have hc := cut_len d k d.neg f.len
  rw [pCut_eq f.bare] at hc
  have h1 := rCut_e (a := d) d.neg (show 0 < k by omega)
  have h2 := (trD_top h0 hk).1
  have h3 := (trD_top h0 hk).2.2
  have h4 := blen_len32 d.m
  have h5 := (blen_pos (trD d k).m).2 h3
  have h1' : d.e ≤ (trD d k).e := h1
  have hc' : (dig B32 (trD d k).m).length ≤ 1200 + 2 := hc
  unfold topD at h2
  have := f.len
  have := f.lo
  have := f.hi
  refine ⟨hc', by omega, by omega⟩

set_option maxHeartbeats 2000000 in
set_option maxRecDepth 100000 in
theorem cutC_any (x : Dv) (p : Option Addr) (c base k : Nat) (K : Int) (w : World) (hK : K = k) (hk : k ≤ 100000) (f : FitB x) (ho : Own w base .u32 58 p c (dig B32 x.m)) (hT : TabW w) (hbase : base ≤ w.heap.size) :
    Calls Tryd.prog 52 #[.agg #[.bool x.neg, .slice p (dig B32 x.m).length c, .int .i64 x.e], .int .i64 K] w (GivesD w base (trD x k)) := by
  subst hK
  have HC : ∀ W, Own W base .u32 58 p c (dig B32 x.m) → TabW W → base ≤ W.heap.size → Hid (Calls Tryd.prog 53 #[.agg #[.bool x.neg, .slice p (dig B32 x.m).length c, .int .i64 x.e], .int .i64 ((k : Nat) : Int), .bool x.neg] W (GivesD W base (trD x k))) := fun W h1 h2 h3 => by
    have := cutD_any x.neg p _ c base x.e x.m k x.neg W h1 rfl (by have := f.len; omega) ⟨by have := f.lo; omega, by have := f.hi; omega⟩ (by omega) h2 h3
    rw [show pCut ⟨x.neg, x.m, x.e⟩ k x.neg = trD x k from pCut_eq f.bare k x.neg] at this
    exact Lib.hid this
  have hT4 : SxOne Tryd.prog 4 := sxOne_of (by kernel_rfl) (by kernel_rfl)
  have hT62 : SxAgg Tryd.prog 62 3 := sxAgg_of (by kernel_rfl) (by kernel_rfl)
  refine calls_of_wp Tryd.func52 rfl ?_
  refine sx_frame (a' := ⟨((.agg #[.bool x.neg, .slice p (dig B32 x.m).length c, .int .i64 x.e]) :: (.int .i64 ((k : Nat) : Int)) :: undef :: undef :: undef :: undef :: undef :: undef :: undef :: undef :: undef :: []).toArray, []⟩) (by kernel_rfl) ?_
  refine wp_seq ?_
  refine sx_region ?_
  refine sn 2 #[.bool x.neg, .slice p (dig B32 x.m).length c, .int .i64 x.e] 62 (fun V1 hbV1 hzV1 b2 => ?_)
  refine sn 4 #[.bool false, .slice none 0 0, .int .i64 0] 62 (fun V2 hbV2 hzV2 b4 => ?_)
  refine sx_nil ?_
  refine sx_then ?_
  refine wp_seq ?_
  refine sx_region ?_
  replace b2 := (b2.past hbV2)
  refine sv 5 (.agg #[.bool x.neg, .slice p (dig B32 x.m).length c, .int .i64 x.e]) ?_ (hr := (exec_ld (by kernel_rfl) (run_ld b2 hT62 0 [.bool x.neg, .slice p (dig B32 x.m).length c, .int .i64 x.e] (by kernel_rfl) (by kernel_rfl))))
  refine sv 6 (.int .i64 ((k : Nat) : Int)) ?_
  refine sv 7 (.pointer (some ⟨w.heap.size, 0, none⟩)) ?_
  refine sv 8 (.pointer (some ⟨w.heap.size, 0, none⟩)) ?_
  refine sv 9 (.bool x.neg) ?_ (hr := (exec_ld (by kernel_rfl) (run_ld1 b2 hT4 0 (.bool x.neg) (by kernel_rfl))))
  replace ho := (ho.past (bthru hbV1 hbV2))
  replace hT := (hT.past (bthru hbV1 hbV2))
  refine se 10 53 #[.agg #[.bool x.neg, .slice p (dig B32 x.m).length c, .int .i64 x.e], .int .i64 ((k : Nat) : Int), .bool x.neg] (fun Gx hGx => ?_)
  ((with_reducible refine ((HC _ ho hT (by omega)).out).mono ?_))
  rintro eV3 V3 ⟨p10, c10, rfl, ho10, hbV3⟩
  have hzV3 := hbV3.size
  refine ⟨.agg #[.bool ((trD x k).neg), .slice p10 (dig B32 (trD x k).m).length c10, .int .i64 ((trD x k).e)], rfl, hGx _ _ ?_⟩
  clear hGx Gx
  replace b4 := (b4.past hbV3)
  refine ss none b4 hT62 0 #[.bool ((trD x k).neg), .slice p10 (dig B32 (trD x k).m).length c10, .int .i64 ((trD x k).e)] #[.bool ((trD x k).neg), .slice p10 (dig B32 (trD x k).m).length c10, .int .i64 ((trD x k).e)] ?_
  have boV4 := b4
  clear b4
  intro V4 hOV4 b4
  have hzV4 := hOV4.size
  refine sx_nil ?_
  refine sx_then ?_
  refine wp_ret ?_
  have ⟨b4_0, b4_1, b4_2⟩ := b4.bx.e3
  repeat (first | with_reducible refine sx_thenret ?_ | with_reducible refine sx_blockret ?_)
  refine bodyPost_ret (v := .agg #[.bool ((trD x k).neg), .slice p10 (dig B32 (trD x k).m).length c10, .int .i64 ((trD x k).e)]) (by simp [results, Tryd.results52, go_sem, b4_0, b4_1, b4_2]) rfl ?_
  replace ho10 := (ho10.put boV4 hOV4 (by kernel_rfl))
  exact ⟨p10, c10, rfl, ho10, ((bthru (bthru hbV1 hbV2) hbV3).trans (hOV4.below (by omega)))⟩

/-- Where something is wrong, or the signs tell nothing. -/
def GivesN0 (w : World) (e : Int) (en : Ending) (w' : World) : Prop := en = .returned (.tuple #[.int .i64 0, .bool false, .int .i64 e]) ∧ Below w.heap.size w w'

set_option maxHeartbeats 2000000 in
set_option maxRecDepth 100000 in
theorem bracket_err (a b : Din) (n : Int) (w : World) (ia : InD w a) (ib : InD w b) (hT : TabW w) (he : errBall a b ≠ 0) :
    Calls Tryd.prog 21 #[.agg #[.bool a.g, .slice a.p a.xs.length a.c, .int .i64 a.e, .bool b.g, .slice b.p b.xs.length b.c, .int .i64 b.e], .int .i64 n] w (GivesN0 w (errBall a b)) := by
  have hT27 : SxAgg Tryd.prog 27 6 := sxAgg_of (by kernel_rfl) (by kernel_rfl)
  refine calls_of_wp Tryd.func21 rfl ?_
  refine sx_frame (a' := ⟨((.agg #[.bool a.g, .slice a.p a.xs.length a.c, .int .i64 a.e, .bool b.g, .slice b.p b.xs.length b.c, .int .i64 b.e]) :: (.int .i64 n) :: undef :: undef :: undef :: undef :: undef :: undef :: undef :: undef :: undef :: undef :: undef :: undef :: undef :: undef :: undef :: undef :: undef :: undef :: undef :: undef :: undef :: undef :: undef :: undef :: undef :: undef :: undef :: undef :: undef :: undef :: undef :: undef :: undef :: undef :: undef :: undef :: undef :: undef :: undef :: undef :: undef :: undef :: undef :: undef :: undef :: undef :: undef :: undef :: undef :: undef :: undef :: undef :: undef :: undef :: undef :: undef :: undef :: undef :: undef :: undef :: undef :: undef :: []).toArray, []⟩) (by kernel_rfl) ?_
  refine wp_seq ?_
  refine sx_region ?_
  refine sn 2 #[.bool a.g, .slice a.p a.xs.length a.c, .int .i64 a.e, .bool b.g, .slice b.p b.xs.length b.c, .int .i64 b.e] 27 (fun V1 hbV1 hzV1 b2 => ?_)
  refine sv 4 (.int .i64 0) ?_
  refine sv 5 (.bool false) ?_
  refine sv 6 (.int .i64 0) ?_
  refine sx_nil ?_
  refine sx_then ?_
  refine wp_seq ?_
  refine wp_seq ?_
  refine sx_region ?_
  refine sv 13 (.agg #[.bool a.g, .slice a.p a.xs.length a.c, .int .i64 a.e, .bool b.g, .slice b.p b.xs.length b.c, .int .i64 b.e]) ?_ (hr := (exec_ld (by kernel_rfl) (run_ld b2 hT27 0 [.bool a.g, .slice a.p a.xs.length a.c, .int .i64 a.e, .bool b.g, .slice b.p b.xs.length b.c, .int .i64 b.e] (by kernel_rfl) (by kernel_rfl))))
  replace ia := (ia.past hbV1)
  replace ib := (ib.past hbV1)
  replace hT := (hT.past hbV1)
  refine se 14 49 #[.agg #[.bool a.g, .slice a.p a.xs.length a.c, .int .i64 a.e, .bool b.g, .slice b.p b.xs.length b.c, .int .i64 b.e]] (fun Gx hGx => ?_)
  ((with_reducible refine (ballCheck_any a b _ ia ib hT).mono ?_))
  rintro eV2 V2 ⟨rfl, hbV2⟩
  have hzV2 := hbV2.size
  refine ⟨.int .i64 (errBall a b), rfl, hGx _ _ ?_⟩
  clear hGx Gx
  refine sv 7 (.int .i64 (errBall a b)) ?_
  refine sx_nil ?_
  refine sx_then ?_
  refine wp_seq ?_
  refine sx_region ?_
  refine sv 15 (.int .i64 (errBall a b)) ?_
  refine sv 16 (.bool true) ?_ (hr := ((show _ = Result.ok (Next.value (.bool ((errBall a b) != 0))) _ from (by kernel_rfl)).trans (congrArg (fun z => Result.ok (Next.value (.bool z)) _) (show ((errBall a b) != 0) = true from bne_iff_ne.2 he))))
  refine sx_nil ?_
  refine sx_then ?_
  refine wp_cond_true (by kernel_rfl) ?_
  refine wp_seq ?_
  refine sx_region ?_
  refine sv 17 (.int .i64 (errBall a b)) ?_
  refine sv 4 (.int .i64 0) ?_
  refine sv 5 (.bool false) ?_
  refine sv 6 (.int .i64 (errBall a b)) ?_
  refine sx_nil ?_
  refine sx_then ?_
  refine wp_ret ?_
  repeat (first | with_reducible refine sx_thenret ?_ | with_reducible refine sx_blockret ?_)
  refine bodyPost_ret (v := .tuple #[.int .i64 0, .bool false, .int .i64 (errBall a b)]) (by simp [results, Tryd.results21, go_sem]) rfl ?_
  exact ⟨rfl, (bthru hbV1 hbV2)⟩

set_option maxHeartbeats 2000000 in
set_option maxRecDepth 100000 in
theorem bracket_range (a b : Din) (n : Int) (w : World) (ia : InD w a) (ib : InD w b) (hT : TabW w) (he : errBall a b = 0) (hn : ¬ (1 ≤ n ∧ n ≤ 4096)) :
    Calls Tryd.prog 21 #[.agg #[.bool a.g, .slice a.p a.xs.length a.c, .int .i64 a.e, .bool b.g, .slice b.p b.xs.length b.c, .int .i64 b.e], .int .i64 n] w (GivesN0 w 3) := by
  have hT27 : SxAgg Tryd.prog 27 6 := sxAgg_of (by kernel_rfl) (by kernel_rfl)
  refine calls_of_wp Tryd.func21 rfl ?_
  refine sx_frame (a' := ⟨((.agg #[.bool a.g, .slice a.p a.xs.length a.c, .int .i64 a.e, .bool b.g, .slice b.p b.xs.length b.c, .int .i64 b.e]) :: (.int .i64 n) :: undef :: undef :: undef :: undef :: undef :: undef :: undef :: undef :: undef :: undef :: undef :: undef :: undef :: undef :: undef :: undef :: undef :: undef :: undef :: undef :: undef :: undef :: undef :: undef :: undef :: undef :: undef :: undef :: undef :: undef :: undef :: undef :: undef :: undef :: undef :: undef :: undef :: undef :: undef :: undef :: undef :: undef :: undef :: undef :: undef :: undef :: undef :: undef :: undef :: undef :: undef :: undef :: undef :: undef :: undef :: undef :: undef :: undef :: undef :: undef :: undef :: undef :: []).toArray, []⟩) (by kernel_rfl) ?_
  refine wp_seq ?_
  refine sx_region ?_
  refine sn 2 #[.bool a.g, .slice a.p a.xs.length a.c, .int .i64 a.e, .bool b.g, .slice b.p b.xs.length b.c, .int .i64 b.e] 27 (fun V1 hbV1 hzV1 b2 => ?_)
  refine sv 4 (.int .i64 0) ?_
  refine sv 5 (.bool false) ?_
  refine sv 6 (.int .i64 0) ?_
  refine sx_nil ?_
  refine sx_then ?_
  refine wp_seq ?_
  refine wp_seq ?_
  refine sx_region ?_
  refine sv 13 (.agg #[.bool a.g, .slice a.p a.xs.length a.c, .int .i64 a.e, .bool b.g, .slice b.p b.xs.length b.c, .int .i64 b.e]) ?_ (hr := (exec_ld (by kernel_rfl) (run_ld b2 hT27 0 [.bool a.g, .slice a.p a.xs.length a.c, .int .i64 a.e, .bool b.g, .slice b.p b.xs.length b.c, .int .i64 b.e] (by kernel_rfl) (by kernel_rfl))))
  replace ia := (ia.past hbV1)
  replace ib := (ib.past hbV1)
  replace hT := (hT.past hbV1)
  refine se 14 49 #[.agg #[.bool a.g, .slice a.p a.xs.length a.c, .int .i64 a.e, .bool b.g, .slice b.p b.xs.length b.c, .int .i64 b.e]] (fun Gx hGx => ?_)
  ((with_reducible refine (ballCheck_any a b _ ia ib hT).mono ?_))
  rintro eV2 V2 ⟨rfl, hbV2⟩
  have hzV2 := hbV2.size
  refine ⟨.int .i64 (errBall a b), rfl, hGx _ _ ?_⟩
  clear hGx Gx
  refine sv 7 (.int .i64 (errBall a b)) ?_
  refine sx_nil ?_
  refine sx_then ?_
  refine wp_seq ?_
  refine sx_region ?_
  refine sv 15 (.int .i64 (errBall a b)) ?_
  refine sv 16 (.bool false) ?_ (hr := ((show _ = Result.ok (Next.value (.bool ((errBall a b) != 0))) _ from (by kernel_rfl)).trans (congrArg (fun z => Result.ok (Next.value (.bool z)) _) (show ((errBall a b) != 0) = false from bne_eq_false_iff_eq.2 he))))
  refine sx_nil ?_
  refine sx_then ?_
  refine wp_cond_false (by kernel_rfl) ?_
  refine wp_skip ?_
  refine sx_then ?_
  refine wp_seq ?_
  refine wp_seq ?_
  refine sx_region ?_
  refine sv 18 (.int .i64 n) ?_
  refine se 19 33 #[.int .i64 n, .int .i64 1, .int .i64 4096] (fun Gx hGx => ?_)
  ((with_reducible refine (within_any _ 1 4096 _).mono ?_))
  rintro eV3 V3 ⟨rfl, hbV3⟩
  have hzV3 := hbV3.size
  rw [show (decide ((1 : Int) ≤ n ∧ n ≤ 4096)) = false from decide_eq_false hn]
  refine ⟨.bool false, rfl, hGx _ _ ?_⟩
  clear hGx Gx
  refine sv 20 (.bool true) ?_
  refine sx_nil ?_
  refine sx_then ?_
  refine wp_cond_true (by kernel_rfl) ?_
  refine wp_seq ?_
  refine sx_region ?_
  refine sv 4 (.int .i64 0) ?_
  refine sv 5 (.bool false) ?_
  refine sv 6 (.int .i64 3) ?_
  refine sx_nil ?_
  refine sx_then ?_
  refine wp_ret ?_
  repeat (first | with_reducible refine sx_thenret ?_ | with_reducible refine sx_blockret ?_)
  refine bodyPost_ret (v := .tuple #[.int .i64 0, .bool false, .int .i64 3]) (by simp [results, Tryd.results21, go_sem]) rfl ?_
  exact ⟨rfl, (bthru (bthru hbV1 hbV2) hbV3)⟩

set_option maxHeartbeats 4000000 in
set_option maxRecDepth 100000 in
theorem bracket_sign (a b : Din) (n : Int) (w : World) (ia : InD w a) (ib : InD w b) (hT : TabW w) (he : errBall a b = 0) (hn : 1 ≤ n ∧ n ≤ 4096) (hs : dSign (dyV a) = 0 ∨ dSign (dyV a) ≠ dSign (dyV b)) :
    Calls Tryd.prog 21 #[.agg #[.bool a.g, .slice a.p a.xs.length a.c, .int .i64 a.e, .bool b.g, .slice b.p b.xs.length b.c, .int .i64 b.e], .int .i64 n] w (GivesN0 w 0) := by
  obtain ⟨e1, e2, -⟩ := errBall_ok he
  have HO := fun W h1 h2 h3 => Lib.hid (ballOf_any a b W h1 h2 e1 e2 h3)
  generalize dyV a = l at *
  generalize dyV b = h at *
  by_cases h0 : dSign l = 0
  · skip
    have hT27 : SxAgg Tryd.prog 27 6 := sxAgg_of (by kernel_rfl) (by kernel_rfl)
    have hT62 : SxAgg Tryd.prog 62 3 := sxAgg_of (by kernel_rfl) (by kernel_rfl)
    have hT64 : SxAgg Tryd.prog 64 6 := sxAgg_of (by kernel_rfl) (by kernel_rfl)
    refine calls_of_wp Tryd.func21 rfl ?_
    refine sx_frame (a' := ⟨((.agg #[.bool a.g, .slice a.p a.xs.length a.c, .int .i64 a.e, .bool b.g, .slice b.p b.xs.length b.c, .int .i64 b.e]) :: (.int .i64 n) :: undef :: undef :: undef :: undef :: undef :: undef :: undef :: undef :: undef :: undef :: undef :: undef :: undef :: undef :: undef :: undef :: undef :: undef :: undef :: undef :: undef :: undef :: undef :: undef :: undef :: undef :: undef :: undef :: undef :: undef :: undef :: undef :: undef :: undef :: undef :: undef :: undef :: undef :: undef :: undef :: undef :: undef :: undef :: undef :: undef :: undef :: undef :: undef :: undef :: undef :: undef :: undef :: undef :: undef :: undef :: undef :: undef :: undef :: undef :: undef :: undef :: undef :: []).toArray, []⟩) (by kernel_rfl) ?_
    refine wp_seq ?_
    refine sx_region ?_
    refine sn 2 #[.bool a.g, .slice a.p a.xs.length a.c, .int .i64 a.e, .bool b.g, .slice b.p b.xs.length b.c, .int .i64 b.e] 27 (fun V1 hbV1 hzV1 b2 => ?_)
    refine sv 4 (.int .i64 0) ?_
    refine sv 5 (.bool false) ?_
    refine sv 6 (.int .i64 0) ?_
    refine sx_nil ?_
    refine sx_then ?_
    refine wp_seq ?_
    refine wp_seq ?_
    refine sx_region ?_
    refine sv 13 (.agg #[.bool a.g, .slice a.p a.xs.length a.c, .int .i64 a.e, .bool b.g, .slice b.p b.xs.length b.c, .int .i64 b.e]) ?_ (hr := (exec_ld (by kernel_rfl) (run_ld b2 hT27 0 [.bool a.g, .slice a.p a.xs.length a.c, .int .i64 a.e, .bool b.g, .slice b.p b.xs.length b.c, .int .i64 b.e] (by kernel_rfl) (by kernel_rfl))))
    replace ia := (ia.past hbV1)
    replace ib := (ib.past hbV1)
    replace hT := (hT.past hbV1)
    refine se 14 49 #[.agg #[.bool a.g, .slice a.p a.xs.length a.c, .int .i64 a.e, .bool b.g, .slice b.p b.xs.length b.c, .int .i64 b.e]] (fun Gx hGx => ?_)
    ((with_reducible refine (ballCheck_any a b _ ia ib hT).mono ?_))
    rintro eV2 V2 ⟨rfl, hbV2⟩
    have hzV2 := hbV2.size
    refine ⟨.int .i64 (errBall a b), rfl, hGx _ _ ?_⟩
    clear hGx Gx
    refine sv 7 (.int .i64 (errBall a b)) ?_
    refine sx_nil ?_
    refine sx_then ?_
    refine wp_seq ?_
    refine sx_region ?_
    refine sv 15 (.int .i64 (errBall a b)) ?_
    refine sv 16 (.bool false) ?_ (hr := ((show _ = Result.ok (Next.value (.bool ((errBall a b) != 0))) _ from (by kernel_rfl)).trans (congrArg (fun z => Result.ok (Next.value (.bool z)) _) (show ((errBall a b) != 0) = false from bne_eq_false_iff_eq.2 he))))
    refine sx_nil ?_
    refine sx_then ?_
    refine wp_cond_false (by kernel_rfl) ?_
    refine wp_skip ?_
    refine sx_then ?_
    refine wp_seq ?_
    refine wp_seq ?_
    refine sx_region ?_
    refine sv 18 (.int .i64 n) ?_
    refine se 19 33 #[.int .i64 n, .int .i64 1, .int .i64 4096] (fun Gx hGx => ?_)
    ((with_reducible refine (within_any _ 1 4096 _).mono ?_))
    rintro eV3 V3 ⟨rfl, hbV3⟩
    have hzV3 := hbV3.size
    rw [show (decide ((1 : Int) ≤ n ∧ n ≤ 4096)) = true from decide_eq_true hn]
    refine ⟨.bool true, rfl, hGx _ _ ?_⟩
    clear hGx Gx
    refine sv 20 (.bool false) ?_
    refine sx_nil ?_
    refine sx_then ?_
    refine wp_cond_false (by kernel_rfl) ?_
    refine wp_skip ?_
    refine sx_then ?_
    refine wp_seq ?_
    refine sx_region ?_
    replace b2 := (b2.past (bthru hbV2 hbV3))
    refine sv 21 (.agg #[.bool a.g, .slice a.p a.xs.length a.c, .int .i64 a.e, .bool b.g, .slice b.p b.xs.length b.c, .int .i64 b.e]) ?_ (hr := (exec_ld (by kernel_rfl) (run_ld b2 hT27 0 [.bool a.g, .slice a.p a.xs.length a.c, .int .i64 a.e, .bool b.g, .slice b.p b.xs.length b.c, .int .i64 b.e] (by kernel_rfl) (by kernel_rfl))))
    replace ia := (ia.past (bthru hbV2 hbV3))
    replace ib := (ib.past (bthru hbV2 hbV3))
    replace hT := (hT.past (bthru hbV2 hbV3))
    refine se 22 50 #[.agg #[.bool a.g, .slice a.p a.xs.length a.c, .int .i64 a.e, .bool b.g, .slice b.p b.xs.length b.c, .int .i64 b.e]] (fun Gx hGx => ?_)
    ((with_reducible refine ((HO _ ia ib hT).out).mono ?_))
    rintro eV4 V4 ⟨p22, c22, q22, d22, rfl, ho22, hq22, hbV4⟩
    have hzV4 := hbV4.size
    refine ⟨.agg #[.bool l.neg, .slice p22 (dig B32 l.m).length c22, .int .i64 l.e, .bool h.neg, .slice q22 (dig B32 h.m).length d22, .int .i64 h.e], rfl, hGx _ _ ?_⟩
    clear hGx Gx
    refine sn 8 #[.bool false, .slice none 0 0, .int .i64 0, .bool false, .slice none 0 0, .int .i64 0] 64 (fun V5 hbV5 hzV5 b8 => ?_)
    refine ss none b8 hT64 0 #[.bool l.neg, .slice p22 (dig B32 l.m).length c22, .int .i64 l.e, .bool h.neg, .slice q22 (dig B32 h.m).length d22, .int .i64 h.e] #[.bool l.neg, .slice p22 (dig B32 l.m).length c22, .int .i64 l.e, .bool h.neg, .slice q22 (dig B32 h.m).length d22, .int .i64 h.e] ?_
    have boV6 := b8
    clear b8
    intro V6 hOV6 b8
    have hzV6 := hOV6.size
    refine sx_nil ?_
    refine sx_then ?_
    refine wp_seq ?_
    refine wp_seq ?_
    obtain ⟨V7, hVV7⟩ : ∃ V, V = (V6).drew := ⟨_, rfl⟩
    have hbV7 : Below (V6).heap.size (V6) V7 := by rw [hVV7]; exact (Below.refl _ _).drew
    have hzV7 : V7.heap.size = (V6).heap.size := by rw [hVV7]; rfl
    replace b8 := (b8.past hbV7)
    refine sxd _ (fun w' => Bt w' V4.heap.size 64 #[.bool l.neg, .slice p22 (dig B32 l.m).length c22, .int .i64 l.e, .bool h.neg, .slice q22 (dig B32 h.m).length d22, .int .i64 h.e]) hVV7 b8 ?_
    clear hVV7
    refine tk 0 23 (.pointer (some ⟨V4.heap.size, 0, none⟩)) b8 ?_
    refine tk 1 24 (.agg #[.bool l.neg, .slice p22 (dig B32 l.m).length c22, .int .i64 l.e]) b8 ?_ (hy := fun w' hS => (exec_ld (by kernel_rfl) (run_ld hS hT62 0 [.bool l.neg, .slice p22 (dig B32 l.m).length c22, .int .i64 l.e] (by kernel_rfl) (by kernel_rfl))))
    refine sxr [2] ?_
    refine rd1 (fun Kx hKx => ?_)
    refine sek 25 51 #[.agg #[.bool l.neg, .slice p22 (dig B32 l.m).length c22, .int .i64 l.e]] ?_
    ((with_reducible refine (signD_any l.neg p22 _ c22 l.e l.m _ rfl).mono ?_))
    rintro eV8 V8 ⟨rfl, hbV8⟩
    have hzV8 := hbV8.size
    refine ⟨.int .i64 (dSign l), rfl, ?_⟩
    replace b8 := (b8.past hbV8)
    refine hKx.out _ _ b8 ?_
    clear hKx Kx
    refine tk 3 26 (.bool true) b8 ?_ (hy := fun w' _ => ((show _ = Result.ok (Next.value (.bool ((dSign l) == 0))) _ from (by kernel_rfl)).trans (congrArg (fun z => Result.ok (Next.value (.bool z)) _) (show ((dSign l) == 0) = true from beq_iff_eq.2 h0))))
    refine tk 4 27 (.bool true) b8 ?_
    refine tko 5 28 b8 ?_
    refine tko 6 29 b8 ?_
    refine tko 7 30 b8 ?_
    refine tko 8 31 b8 ?_
    refine tko 9 32 b8 ?_
    refine tko 10 33 b8 ?_
    refine tko 11 34 b8 ?_
    refine tk 12 35 (.bool true) b8 ?_
    refine sx_done (by kernel_rfl) ?_
    refine sx_then ?_
    refine wp_cond_true (by kernel_rfl) ?_
    refine wp_seq ?_
    refine sx_region ?_
    refine sv 4 (.int .i64 0) ?_
    refine sv 5 (.bool false) ?_
    refine sv 6 (.int .i64 0) ?_
    refine sx_nil ?_
    refine sx_then ?_
    refine wp_ret ?_
    repeat (first | with_reducible refine sx_thenret ?_ | with_reducible refine sx_blockret ?_)
    refine bodyPost_ret (v := .tuple #[.int .i64 0, .bool false, .int .i64 0]) (by simp [results, Tryd.results21, go_sem]) rfl ?_
    exact ⟨rfl, (bthru (bthru ((bthru (bthru (bthru (bthru hbV1 hbV2) hbV3) hbV4) hbV5).trans (hOV6.below (by omega))) hbV7) hbV8)⟩
  · have h1 := hs.resolve_left h0
    have hT27 : SxAgg Tryd.prog 27 6 := sxAgg_of (by kernel_rfl) (by kernel_rfl)
    have hT62 : SxAgg Tryd.prog 62 3 := sxAgg_of (by kernel_rfl) (by kernel_rfl)
    have hT64 : SxAgg Tryd.prog 64 6 := sxAgg_of (by kernel_rfl) (by kernel_rfl)
    refine calls_of_wp Tryd.func21 rfl ?_
    refine sx_frame (a' := ⟨((.agg #[.bool a.g, .slice a.p a.xs.length a.c, .int .i64 a.e, .bool b.g, .slice b.p b.xs.length b.c, .int .i64 b.e]) :: (.int .i64 n) :: undef :: undef :: undef :: undef :: undef :: undef :: undef :: undef :: undef :: undef :: undef :: undef :: undef :: undef :: undef :: undef :: undef :: undef :: undef :: undef :: undef :: undef :: undef :: undef :: undef :: undef :: undef :: undef :: undef :: undef :: undef :: undef :: undef :: undef :: undef :: undef :: undef :: undef :: undef :: undef :: undef :: undef :: undef :: undef :: undef :: undef :: undef :: undef :: undef :: undef :: undef :: undef :: undef :: undef :: undef :: undef :: undef :: undef :: undef :: undef :: undef :: undef :: []).toArray, []⟩) (by kernel_rfl) ?_
    refine wp_seq ?_
    refine sx_region ?_
    refine sn 2 #[.bool a.g, .slice a.p a.xs.length a.c, .int .i64 a.e, .bool b.g, .slice b.p b.xs.length b.c, .int .i64 b.e] 27 (fun V1 hbV1 hzV1 b2 => ?_)
    refine sv 4 (.int .i64 0) ?_
    refine sv 5 (.bool false) ?_
    refine sv 6 (.int .i64 0) ?_
    refine sx_nil ?_
    refine sx_then ?_
    refine wp_seq ?_
    refine wp_seq ?_
    refine sx_region ?_
    refine sv 13 (.agg #[.bool a.g, .slice a.p a.xs.length a.c, .int .i64 a.e, .bool b.g, .slice b.p b.xs.length b.c, .int .i64 b.e]) ?_ (hr := (exec_ld (by kernel_rfl) (run_ld b2 hT27 0 [.bool a.g, .slice a.p a.xs.length a.c, .int .i64 a.e, .bool b.g, .slice b.p b.xs.length b.c, .int .i64 b.e] (by kernel_rfl) (by kernel_rfl))))
    replace ia := (ia.past hbV1)
    replace ib := (ib.past hbV1)
    replace hT := (hT.past hbV1)
    refine se 14 49 #[.agg #[.bool a.g, .slice a.p a.xs.length a.c, .int .i64 a.e, .bool b.g, .slice b.p b.xs.length b.c, .int .i64 b.e]] (fun Gx hGx => ?_)
    ((with_reducible refine (ballCheck_any a b _ ia ib hT).mono ?_))
    rintro eV2 V2 ⟨rfl, hbV2⟩
    have hzV2 := hbV2.size
    refine ⟨.int .i64 (errBall a b), rfl, hGx _ _ ?_⟩
    clear hGx Gx
    refine sv 7 (.int .i64 (errBall a b)) ?_
    refine sx_nil ?_
    refine sx_then ?_
    refine wp_seq ?_
    refine sx_region ?_
    refine sv 15 (.int .i64 (errBall a b)) ?_
    refine sv 16 (.bool false) ?_ (hr := ((show _ = Result.ok (Next.value (.bool ((errBall a b) != 0))) _ from (by kernel_rfl)).trans (congrArg (fun z => Result.ok (Next.value (.bool z)) _) (show ((errBall a b) != 0) = false from bne_eq_false_iff_eq.2 he))))
    refine sx_nil ?_
    refine sx_then ?_
    refine wp_cond_false (by kernel_rfl) ?_
    refine wp_skip ?_
    refine sx_then ?_
    refine wp_seq ?_
    refine wp_seq ?_
    refine sx_region ?_
    refine sv 18 (.int .i64 n) ?_
    refine se 19 33 #[.int .i64 n, .int .i64 1, .int .i64 4096] (fun Gx hGx => ?_)
    ((with_reducible refine (within_any _ 1 4096 _).mono ?_))
    rintro eV3 V3 ⟨rfl, hbV3⟩
    have hzV3 := hbV3.size
    rw [show (decide ((1 : Int) ≤ n ∧ n ≤ 4096)) = true from decide_eq_true hn]
    refine ⟨.bool true, rfl, hGx _ _ ?_⟩
    clear hGx Gx
    refine sv 20 (.bool false) ?_
    refine sx_nil ?_
    refine sx_then ?_
    refine wp_cond_false (by kernel_rfl) ?_
    refine wp_skip ?_
    refine sx_then ?_
    refine wp_seq ?_
    refine sx_region ?_
    replace b2 := (b2.past (bthru hbV2 hbV3))
    refine sv 21 (.agg #[.bool a.g, .slice a.p a.xs.length a.c, .int .i64 a.e, .bool b.g, .slice b.p b.xs.length b.c, .int .i64 b.e]) ?_ (hr := (exec_ld (by kernel_rfl) (run_ld b2 hT27 0 [.bool a.g, .slice a.p a.xs.length a.c, .int .i64 a.e, .bool b.g, .slice b.p b.xs.length b.c, .int .i64 b.e] (by kernel_rfl) (by kernel_rfl))))
    replace ia := (ia.past (bthru hbV2 hbV3))
    replace ib := (ib.past (bthru hbV2 hbV3))
    replace hT := (hT.past (bthru hbV2 hbV3))
    refine se 22 50 #[.agg #[.bool a.g, .slice a.p a.xs.length a.c, .int .i64 a.e, .bool b.g, .slice b.p b.xs.length b.c, .int .i64 b.e]] (fun Gx hGx => ?_)
    ((with_reducible refine ((HO _ ia ib hT).out).mono ?_))
    rintro eV4 V4 ⟨p22, c22, q22, d22, rfl, ho22, hq22, hbV4⟩
    have hzV4 := hbV4.size
    refine ⟨.agg #[.bool l.neg, .slice p22 (dig B32 l.m).length c22, .int .i64 l.e, .bool h.neg, .slice q22 (dig B32 h.m).length d22, .int .i64 h.e], rfl, hGx _ _ ?_⟩
    clear hGx Gx
    refine sn 8 #[.bool false, .slice none 0 0, .int .i64 0, .bool false, .slice none 0 0, .int .i64 0] 64 (fun V5 hbV5 hzV5 b8 => ?_)
    refine ss none b8 hT64 0 #[.bool l.neg, .slice p22 (dig B32 l.m).length c22, .int .i64 l.e, .bool h.neg, .slice q22 (dig B32 h.m).length d22, .int .i64 h.e] #[.bool l.neg, .slice p22 (dig B32 l.m).length c22, .int .i64 l.e, .bool h.neg, .slice q22 (dig B32 h.m).length d22, .int .i64 h.e] ?_
    have boV6 := b8
    clear b8
    intro V6 hOV6 b8
    have hzV6 := hOV6.size
    refine sx_nil ?_
    refine sx_then ?_
    refine wp_seq ?_
    refine wp_seq ?_
    obtain ⟨V7, hVV7⟩ : ∃ V, V = (V6).drew := ⟨_, rfl⟩
    have hbV7 : Below (V6).heap.size (V6) V7 := by rw [hVV7]; exact (Below.refl _ _).drew
    have hzV7 : V7.heap.size = (V6).heap.size := by rw [hVV7]; rfl
    replace b8 := (b8.past hbV7)
    refine sxd _ (fun w' => Bt w' V4.heap.size 64 #[.bool l.neg, .slice p22 (dig B32 l.m).length c22, .int .i64 l.e, .bool h.neg, .slice q22 (dig B32 h.m).length d22, .int .i64 h.e]) hVV7 b8 ?_
    clear hVV7
    refine tk 0 23 (.pointer (some ⟨V4.heap.size, 0, none⟩)) b8 ?_
    refine tk 1 24 (.agg #[.bool l.neg, .slice p22 (dig B32 l.m).length c22, .int .i64 l.e]) b8 ?_ (hy := fun w' hS => (exec_ld (by kernel_rfl) (run_ld hS hT62 0 [.bool l.neg, .slice p22 (dig B32 l.m).length c22, .int .i64 l.e] (by kernel_rfl) (by kernel_rfl))))
    refine sxr [2] ?_
    refine rd1 (fun Kx hKx => ?_)
    refine sek 25 51 #[.agg #[.bool l.neg, .slice p22 (dig B32 l.m).length c22, .int .i64 l.e]] ?_
    ((with_reducible refine (signD_any l.neg p22 _ c22 l.e l.m _ rfl).mono ?_))
    rintro eV8 V8 ⟨rfl, hbV8⟩
    have hzV8 := hbV8.size
    refine ⟨.int .i64 (dSign l), rfl, ?_⟩
    replace b8 := (b8.past hbV8)
    refine hKx.out _ _ b8 ?_
    clear hKx Kx
    refine tk 3 26 (.bool false) b8 ?_ (hy := fun w' _ => ((show _ = Result.ok (Next.value (.bool ((dSign l) == 0))) _ from (by kernel_rfl)).trans (congrArg (fun z => Result.ok (Next.value (.bool z)) _) (show ((dSign l) == 0) = false from beq_eq_false_iff_ne.2 h0))))
    refine tk 4 27 (.bool false) b8 ?_
    refine tk 5 28 (.pointer (some ⟨V4.heap.size, 0, none⟩)) b8 ?_
    refine tk 6 29 (.agg #[.bool l.neg, .slice p22 (dig B32 l.m).length c22, .int .i64 l.e]) b8 ?_ (hy := fun w' hS => (exec_ld (by kernel_rfl) (run_ld hS hT62 0 [.bool l.neg, .slice p22 (dig B32 l.m).length c22, .int .i64 l.e] (by kernel_rfl) (by kernel_rfl))))
    refine tk 8 31 (.pointer (some ⟨V4.heap.size, 3, none⟩)) b8 ?_
    refine tk 9 32 (.agg #[.bool h.neg, .slice q22 (dig B32 h.m).length d22, .int .i64 h.e]) b8 ?_ (hy := fun w' hS => (exec_ld (by kernel_rfl) (run_ld hS hT62 3 [.bool h.neg, .slice q22 (dig B32 h.m).length d22, .int .i64 h.e] (by kernel_rfl) (by kernel_rfl))))
    refine sxr [7] ?_
    refine rd1 (fun Kx hKx => ?_)
    refine sek 30 51 #[.agg #[.bool l.neg, .slice p22 (dig B32 l.m).length c22, .int .i64 l.e]] ?_
    ((with_reducible refine (signD_any l.neg p22 _ c22 l.e l.m _ rfl).mono ?_))
    rintro eV9 V9 ⟨rfl, hbV9⟩
    have hzV9 := hbV9.size
    refine ⟨.int .i64 (dSign l), rfl, ?_⟩
    replace b8 := (b8.past hbV9)
    refine hKx.out _ _ b8 ?_
    clear hKx Kx
    refine sxr [10] ?_
    refine rd1 (fun Kx hKx => ?_)
    refine sek 33 51 #[.agg #[.bool h.neg, .slice q22 (dig B32 h.m).length d22, .int .i64 h.e]] ?_
    ((with_reducible refine (signD_any h.neg q22 _ d22 h.e h.m _ rfl).mono ?_))
    rintro eV10 V10 ⟨rfl, hbV10⟩
    have hzV10 := hbV10.size
    refine ⟨.int .i64 (dSign h), rfl, ?_⟩
    replace b8 := (b8.past hbV10)
    refine hKx.out _ _ b8 ?_
    clear hKx Kx
    refine tk 11 34 (.bool true) b8 ?_ (hy := fun w' _ => ((show _ = Result.ok (Next.value (.bool ((dSign l) != (dSign h)))) _ from (by kernel_rfl)).trans (congrArg (fun z => Result.ok (Next.value (.bool z)) _) (show ((dSign l) != (dSign h)) = true from bne_iff_ne.2 h1))))
    refine tk 12 35 (.bool true) b8 ?_
    refine sx_done (by kernel_rfl) ?_
    refine sx_then ?_
    refine wp_cond_true (by kernel_rfl) ?_
    refine wp_seq ?_
    refine sx_region ?_
    refine sv 4 (.int .i64 0) ?_
    refine sv 5 (.bool false) ?_
    refine sv 6 (.int .i64 0) ?_
    refine sx_nil ?_
    refine sx_then ?_
    refine wp_ret ?_
    repeat (first | with_reducible refine sx_thenret ?_ | with_reducible refine sx_blockret ?_)
    refine bodyPost_ret (v := .tuple #[.int .i64 0, .bool false, .int .i64 0]) (by simp [results, Tryd.results21, go_sem]) rfl ?_
    exact ⟨rfl, (bthru (bthru (bthru (bthru ((bthru (bthru (bthru (bthru hbV1 hbV2) hbV3) hbV4) hbV5).trans (hOV6.below (by omega))) hbV7) hbV8) hbV9) hbV10)⟩

/-- What the search tells. -/
def GivesFn (w : World) (l h : Dv) (B : Nat) (en : Ending) (w' : World) : Prop :=
  ∃ k : Nat, FoundD l h B k ∧ k ≤ 20000 ∧ en = .returned (.tuple #[.int .i64 ((k : Nat) : Int), .bool (decide (((k : Nat) : Int) > 0)), .int .i64 0]) ∧ Below w.heap.size w w'

set_option maxHeartbeats 8000000 in
set_option maxRecDepth 100000 in
theorem bracket_ok' (a b : Din) (B : Nat) (w : World) (ia : InD w a) (ib : InD w b) (hT : TabW w) (he : errBall a b = 0) (hn : (1 : Int) ≤ ((B : Nat) : Int) ∧ ((B : Nat) : Int) ≤ 4096) (h0 : dSign (dyV a) ≠ 0) (h1 : dSign (dyV a) = dSign (dyV b)) :
    Calls Tryd.prog 21 #[.agg #[.bool a.g, .slice a.p a.xs.length a.c, .int .i64 a.e, .bool b.g, .slice b.p b.xs.length b.c, .int .i64 b.e], .int .i64 ((B : Nat) : Int)] w (GivesFn w (dyV a) (dyV b) B) := by
  obtain ⟨e1, e2, -⟩ := errBall_ok he
  have HO := fun W h1 h2 h3 => Lib.hid (ballOf_any a b W h1 h2 e1 e2 h3)
  have fl := dyV_fitB ia e1
  have fh := dyV_fitB ib e2
  generalize dyV a = l at *
  generalize dyV b = h at *
  have l0 : 0 < l.m := by unfold dSign at h0; split at h0 <;> omega
  have hh0 : 0 < h.m := by rw [h1] at h0; unfold dSign at h0; split at h0 <;> omega
  have HK : ∀ (k : Nat) W p c q d b1 b2, 1 ≤ k → Own W b1 .u32 58 p c (dig B32 (trD l k).m) → Own W b2 .u32 58 q d (dig B32 (trD h k).m) → Hid (Calls Tryd.prog 54 #[.agg #[.bool (trD l k).neg, .slice p (dig B32 (trD l k).m).length c, .int .i64 (trD l k).e], .agg #[.bool (trD h k).neg, .slice q (dig B32 (trD h k).m).length d, .int .i64 (trD h k).e]] W fun en w' => en = .returned (.int .i64 (rCmp (trD l k) (trD h k))) ∧ Below W.heap.size W w') := fun k W p c q d b1 b2 hk o1 o2 => by
    obtain ⟨t1, t2, t3⟩ := trD_fit fl l0 hk
    obtain ⟨t4, t5, t6⟩ := trD_fit fh hh0 hk
    have := cmpW_any ⟨(trD l k).neg, p, c, (trD l k).m, (trD l k).e⟩ ⟨(trD h k).neg, q, d, (trD h k).m, (trD h k).e⟩ _ _ W ⟨o1, by show (dig B32 (trD l k).m).length ≤ _; omega, by show -1000000 ≤ (trD l k).e; omega, by show (trD l k).e ≤ 1000000; omega⟩ ⟨o2, by show (dig B32 (trD h k).m).length ≤ _; omega, by show -1000000 ≤ (trD h k).e; omega, by show (trD h k).e ≤ 1000000; omega⟩
    rw [rCmp_eq (show Bare (⟨(trD l k).neg, p, c, (trD l k).m, (trD l k).e⟩ : Rw).v from trD_bare fl.bare k) (show Bare (⟨(trD h k).neg, q, d, (trD h k).m, (trD h k).e⟩ : Rw).v from trD_bare fh.bare k)] at this
    exact Lib.hid this
  obtain ⟨n, hnB⟩ : ∃ n : Int, n = ((B : Nat) : Int) := ⟨_, rfl⟩
  rw [← hnB] at hn ⊢
  have hT27 : SxAgg Tryd.prog 27 6 := sxAgg_of (by kernel_rfl) (by kernel_rfl)
  have hT62 : SxAgg Tryd.prog 62 3 := sxAgg_of (by kernel_rfl) (by kernel_rfl)
  have hT64 : SxAgg Tryd.prog 64 6 := sxAgg_of (by kernel_rfl) (by kernel_rfl)
  refine calls_of_wp Tryd.func21 rfl ?_
  refine sx_frame (a' := ⟨((.agg #[.bool a.g, .slice a.p a.xs.length a.c, .int .i64 a.e, .bool b.g, .slice b.p b.xs.length b.c, .int .i64 b.e]) :: (.int .i64 n) :: undef :: undef :: undef :: undef :: undef :: undef :: undef :: undef :: undef :: undef :: undef :: undef :: undef :: undef :: undef :: undef :: undef :: undef :: undef :: undef :: undef :: undef :: undef :: undef :: undef :: undef :: undef :: undef :: undef :: undef :: undef :: undef :: undef :: undef :: undef :: undef :: undef :: undef :: undef :: undef :: undef :: undef :: undef :: undef :: undef :: undef :: undef :: undef :: undef :: undef :: undef :: undef :: undef :: undef :: undef :: undef :: undef :: undef :: undef :: undef :: undef :: undef :: []).toArray, []⟩) (by kernel_rfl) ?_
  refine wp_seq ?_
  refine sx_region ?_
  refine sn 2 #[.bool a.g, .slice a.p a.xs.length a.c, .int .i64 a.e, .bool b.g, .slice b.p b.xs.length b.c, .int .i64 b.e] 27 (fun V1 hbV1 hzV1 b2 => ?_)
  refine sv 4 (.int .i64 0) ?_
  refine sv 5 (.bool false) ?_
  refine sv 6 (.int .i64 0) ?_
  refine sx_nil ?_
  refine sx_then ?_
  refine wp_seq ?_
  refine wp_seq ?_
  refine sx_region ?_
  refine sv 13 (.agg #[.bool a.g, .slice a.p a.xs.length a.c, .int .i64 a.e, .bool b.g, .slice b.p b.xs.length b.c, .int .i64 b.e]) ?_ (hr := (exec_ld (by kernel_rfl) (run_ld b2 hT27 0 [.bool a.g, .slice a.p a.xs.length a.c, .int .i64 a.e, .bool b.g, .slice b.p b.xs.length b.c, .int .i64 b.e] (by kernel_rfl) (by kernel_rfl))))
  replace ia := (ia.past hbV1)
  replace ib := (ib.past hbV1)
  replace hT := (hT.past hbV1)
  refine se 14 49 #[.agg #[.bool a.g, .slice a.p a.xs.length a.c, .int .i64 a.e, .bool b.g, .slice b.p b.xs.length b.c, .int .i64 b.e]] (fun Gx hGx => ?_)
  ((with_reducible refine (ballCheck_any a b _ ia ib hT).mono ?_))
  rintro eV2 V2 ⟨rfl, hbV2⟩
  have hzV2 := hbV2.size
  refine ⟨.int .i64 (errBall a b), rfl, hGx _ _ ?_⟩
  clear hGx Gx
  refine sv 7 (.int .i64 (errBall a b)) ?_
  refine sx_nil ?_
  refine sx_then ?_
  refine wp_seq ?_
  refine sx_region ?_
  refine sv 15 (.int .i64 (errBall a b)) ?_
  refine sv 16 (.bool false) ?_ (hr := ((show _ = Result.ok (Next.value (.bool ((errBall a b) != 0))) _ from (by kernel_rfl)).trans (congrArg (fun z => Result.ok (Next.value (.bool z)) _) (show ((errBall a b) != 0) = false from bne_eq_false_iff_eq.2 he))))
  refine sx_nil ?_
  refine sx_then ?_
  refine wp_cond_false (by kernel_rfl) ?_
  refine wp_skip ?_
  refine sx_then ?_
  refine wp_seq ?_
  refine wp_seq ?_
  refine sx_region ?_
  refine sv 18 (.int .i64 n) ?_
  refine se 19 33 #[.int .i64 n, .int .i64 1, .int .i64 4096] (fun Gx hGx => ?_)
  ((with_reducible refine (within_any _ 1 4096 _).mono ?_))
  rintro eV3 V3 ⟨rfl, hbV3⟩
  have hzV3 := hbV3.size
  rw [show (decide ((1 : Int) ≤ n ∧ n ≤ 4096)) = true from decide_eq_true hn]
  refine ⟨.bool true, rfl, hGx _ _ ?_⟩
  clear hGx Gx
  refine sv 20 (.bool false) ?_
  refine sx_nil ?_
  refine sx_then ?_
  refine wp_cond_false (by kernel_rfl) ?_
  refine wp_skip ?_
  refine sx_then ?_
  refine wp_seq ?_
  refine sx_region ?_
  replace b2 := (b2.past (bthru hbV2 hbV3))
  refine sv 21 (.agg #[.bool a.g, .slice a.p a.xs.length a.c, .int .i64 a.e, .bool b.g, .slice b.p b.xs.length b.c, .int .i64 b.e]) ?_ (hr := (exec_ld (by kernel_rfl) (run_ld b2 hT27 0 [.bool a.g, .slice a.p a.xs.length a.c, .int .i64 a.e, .bool b.g, .slice b.p b.xs.length b.c, .int .i64 b.e] (by kernel_rfl) (by kernel_rfl))))
  replace ia := (ia.past (bthru hbV2 hbV3))
  replace ib := (ib.past (bthru hbV2 hbV3))
  replace hT := (hT.past (bthru hbV2 hbV3))
  refine se 22 50 #[.agg #[.bool a.g, .slice a.p a.xs.length a.c, .int .i64 a.e, .bool b.g, .slice b.p b.xs.length b.c, .int .i64 b.e]] (fun Gx hGx => ?_)
  ((with_reducible refine ((HO _ ia ib hT).out).mono ?_))
  rintro eV4 V4 ⟨p22, c22, q22, d22, rfl, ho22, hq22, hbV4⟩
  have hzV4 := hbV4.size
  refine ⟨.agg #[.bool l.neg, .slice p22 (dig B32 l.m).length c22, .int .i64 l.e, .bool h.neg, .slice q22 (dig B32 h.m).length d22, .int .i64 h.e], rfl, hGx _ _ ?_⟩
  clear hGx Gx
  refine sn 8 #[.bool false, .slice none 0 0, .int .i64 0, .bool false, .slice none 0 0, .int .i64 0] 64 (fun V5 hbV5 hzV5 b8 => ?_)
  refine ss none b8 hT64 0 #[.bool l.neg, .slice p22 (dig B32 l.m).length c22, .int .i64 l.e, .bool h.neg, .slice q22 (dig B32 h.m).length d22, .int .i64 h.e] #[.bool l.neg, .slice p22 (dig B32 l.m).length c22, .int .i64 l.e, .bool h.neg, .slice q22 (dig B32 h.m).length d22, .int .i64 h.e] ?_
  have boV6 := b8
  clear b8
  intro V6 hOV6 b8
  have hzV6 := hOV6.size
  refine sx_nil ?_
  refine sx_then ?_
  refine wp_seq ?_
  refine wp_seq ?_
  obtain ⟨V7, hVV7⟩ : ∃ V, V = (V6).drew := ⟨_, rfl⟩
  have hbV7 : Below (V6).heap.size (V6) V7 := by rw [hVV7]; exact (Below.refl _ _).drew
  have hzV7 : V7.heap.size = (V6).heap.size := by rw [hVV7]; rfl
  replace b8 := (b8.past hbV7)
  refine sxd _ (fun w' => Bt w' V4.heap.size 64 #[.bool l.neg, .slice p22 (dig B32 l.m).length c22, .int .i64 l.e, .bool h.neg, .slice q22 (dig B32 h.m).length d22, .int .i64 h.e]) hVV7 b8 ?_
  clear hVV7
  refine tk 0 23 (.pointer (some ⟨V4.heap.size, 0, none⟩)) b8 ?_
  refine tk 1 24 (.agg #[.bool l.neg, .slice p22 (dig B32 l.m).length c22, .int .i64 l.e]) b8 ?_ (hy := fun w' hS => (exec_ld (by kernel_rfl) (run_ld hS hT62 0 [.bool l.neg, .slice p22 (dig B32 l.m).length c22, .int .i64 l.e] (by kernel_rfl) (by kernel_rfl))))
  refine sxr [2] ?_
  refine rd1 (fun Kx hKx => ?_)
  refine sek 25 51 #[.agg #[.bool l.neg, .slice p22 (dig B32 l.m).length c22, .int .i64 l.e]] ?_
  ((with_reducible refine (signD_any l.neg p22 _ c22 l.e l.m _ rfl).mono ?_))
  rintro eV8 V8 ⟨rfl, hbV8⟩
  have hzV8 := hbV8.size
  refine ⟨.int .i64 (dSign l), rfl, ?_⟩
  replace b8 := (b8.past hbV8)
  refine hKx.out _ _ b8 ?_
  clear hKx Kx
  refine tk 3 26 (.bool false) b8 ?_ (hy := fun w' _ => ((show _ = Result.ok (Next.value (.bool ((dSign l) == 0))) _ from (by kernel_rfl)).trans (congrArg (fun z => Result.ok (Next.value (.bool z)) _) (show ((dSign l) == 0) = false from beq_eq_false_iff_ne.2 h0))))
  refine tk 4 27 (.bool false) b8 ?_
  refine tk 5 28 (.pointer (some ⟨V4.heap.size, 0, none⟩)) b8 ?_
  refine tk 6 29 (.agg #[.bool l.neg, .slice p22 (dig B32 l.m).length c22, .int .i64 l.e]) b8 ?_ (hy := fun w' hS => (exec_ld (by kernel_rfl) (run_ld hS hT62 0 [.bool l.neg, .slice p22 (dig B32 l.m).length c22, .int .i64 l.e] (by kernel_rfl) (by kernel_rfl))))
  refine tk 8 31 (.pointer (some ⟨V4.heap.size, 3, none⟩)) b8 ?_
  refine tk 9 32 (.agg #[.bool h.neg, .slice q22 (dig B32 h.m).length d22, .int .i64 h.e]) b8 ?_ (hy := fun w' hS => (exec_ld (by kernel_rfl) (run_ld hS hT62 3 [.bool h.neg, .slice q22 (dig B32 h.m).length d22, .int .i64 h.e] (by kernel_rfl) (by kernel_rfl))))
  refine sxr [7] ?_
  refine rd1 (fun Kx hKx => ?_)
  refine sek 30 51 #[.agg #[.bool l.neg, .slice p22 (dig B32 l.m).length c22, .int .i64 l.e]] ?_
  ((with_reducible refine (signD_any l.neg p22 _ c22 l.e l.m _ rfl).mono ?_))
  rintro eV9 V9 ⟨rfl, hbV9⟩
  have hzV9 := hbV9.size
  refine ⟨.int .i64 (dSign l), rfl, ?_⟩
  replace b8 := (b8.past hbV9)
  refine hKx.out _ _ b8 ?_
  clear hKx Kx
  refine sxr [10] ?_
  refine rd1 (fun Kx hKx => ?_)
  refine sek 33 51 #[.agg #[.bool h.neg, .slice q22 (dig B32 h.m).length d22, .int .i64 h.e]] ?_
  ((with_reducible refine (signD_any h.neg q22 _ d22 h.e h.m _ rfl).mono ?_))
  rintro eV10 V10 ⟨rfl, hbV10⟩
  have hzV10 := hbV10.size
  refine ⟨.int .i64 (dSign h), rfl, ?_⟩
  replace b8 := (b8.past hbV10)
  refine hKx.out _ _ b8 ?_
  clear hKx Kx
  refine tk 11 34 (.bool false) b8 ?_ (hy := fun w' _ => ((show _ = Result.ok (Next.value (.bool ((dSign l) != (dSign h)))) _ from (by kernel_rfl)).trans (congrArg (fun z => Result.ok (Next.value (.bool z)) _) (show ((dSign l) != (dSign h)) = false from bne_eq_false_iff_eq.2 h1))))
  refine tk 12 35 (.bool false) b8 ?_
  refine sx_done (by kernel_rfl) ?_
  refine sx_then ?_
  refine wp_cond_false (by kernel_rfl) ?_
  refine wp_skip ?_
  refine sx_then ?_
  refine wp_seq ?_
  refine sx_region ?_
  refine sv 9 (.func (.func 52) #[] #[]) ?_
  refine sx_nil ?_
  refine sx_then ?_
  refine wp_seq ?_
  refine sx_region ?_
  refine sv 10 (.int .i64 0) ?_
  refine sx_nil ?_
  refine sx_then ?_
  refine wp_seq ?_
  refine wp_seq ?_
  refine sx_region ?_
  refine sv 11 (.int .i64 4096) ?_
  refine sx_nil ?_
  refine sx_then ?_
  refine wp_block ?_
  refine sx_frame (a' := ⟨((.agg #[.bool a.g, .slice a.p a.xs.length a.c, .int .i64 a.e, .bool b.g, .slice b.p b.xs.length b.c, .int .i64 b.e]) :: (.int .i64 n) :: (.pointer (some ⟨w.heap.size, 0, none⟩)) :: undef :: (.int .i64 0) :: (.bool false) :: (.int .i64 0) :: (.int .i64 (errBall a b)) :: (.pointer (some ⟨V4.heap.size, 0, none⟩)) :: (.func (.func 52) #[] #[]) :: (.int .i64 0) :: (.int .i64 4096) :: undef :: (.agg #[.bool a.g, .slice a.p a.xs.length a.c, .int .i64 a.e, .bool b.g, .slice b.p b.xs.length b.c, .int .i64 b.e]) :: (.int .i64 (errBall a b)) :: (.int .i64 (errBall a b)) :: (.bool false) :: undef :: (.int .i64 n) :: (.bool true) :: (.bool false) :: (.agg #[.bool a.g, .slice a.p a.xs.length a.c, .int .i64 a.e, .bool b.g, .slice b.p b.xs.length b.c, .int .i64 b.e]) :: (.agg #[.bool l.neg, .slice p22 (dig B32 l.m).length c22, .int .i64 l.e, .bool h.neg, .slice q22 (dig B32 h.m).length d22, .int .i64 h.e]) :: (.pointer (some ⟨V4.heap.size, 0, none⟩)) :: (.agg #[.bool l.neg, .slice p22 (dig B32 l.m).length c22, .int .i64 l.e]) :: (.int .i64 (dSign l)) :: (.bool false) :: (.bool false) :: (.pointer (some ⟨V4.heap.size, 0, none⟩)) :: (.agg #[.bool l.neg, .slice p22 (dig B32 l.m).length c22, .int .i64 l.e]) :: (.int .i64 (dSign l)) :: (.pointer (some ⟨V4.heap.size, 3, none⟩)) :: (.agg #[.bool h.neg, .slice q22 (dig B32 h.m).length d22, .int .i64 h.e]) :: (.int .i64 (dSign h)) :: (.bool false) :: (.bool false) :: undef :: undef :: undef :: undef :: undef :: undef :: undef :: undef :: undef :: undef :: undef :: undef :: undef :: undef :: undef :: undef :: undef :: undef :: undef :: undef :: undef :: undef :: undef :: undef :: undef :: undef :: undef :: undef :: []).toArray, []⟩) (by kernel_rfl) ?_
  refine sx_loop2 (fun (gk : Nat) U0 a' w' => ∃ (gg : Nat) (k : Nat) (s : Nat), a' = ⟨((.agg #[.bool a.g, .slice a.p a.xs.length a.c, .int .i64 a.e, .bool b.g, .slice b.p b.xs.length b.c, .int .i64 b.e]) :: (.int .i64 n) :: (.pointer (some ⟨w.heap.size, 0, none⟩)) :: undef :: (.int .i64 0) :: (.bool false) :: (.int .i64 0) :: (.int .i64 (errBall a b)) :: (.pointer (some ⟨V4.heap.size, 0, none⟩)) :: (.func (.func 52) #[] #[]) :: (.int .i64 ((k : Nat) : Int)) :: (.int .i64 ((s : Nat) : Int)) :: (U0 12) :: (.agg #[.bool a.g, .slice a.p a.xs.length a.c, .int .i64 a.e, .bool b.g, .slice b.p b.xs.length b.c, .int .i64 b.e]) :: (.int .i64 (errBall a b)) :: (.int .i64 (errBall a b)) :: (.bool false) :: undef :: (.int .i64 n) :: (.bool true) :: (.bool false) :: (.agg #[.bool a.g, .slice a.p a.xs.length a.c, .int .i64 a.e, .bool b.g, .slice b.p b.xs.length b.c, .int .i64 b.e]) :: (.agg #[.bool l.neg, .slice p22 (dig B32 l.m).length c22, .int .i64 l.e, .bool h.neg, .slice q22 (dig B32 h.m).length d22, .int .i64 h.e]) :: (.pointer (some ⟨V4.heap.size, 0, none⟩)) :: (.agg #[.bool l.neg, .slice p22 (dig B32 l.m).length c22, .int .i64 l.e]) :: (.int .i64 (dSign l)) :: (.bool false) :: (.bool false) :: (.pointer (some ⟨V4.heap.size, 0, none⟩)) :: (.agg #[.bool l.neg, .slice p22 (dig B32 l.m).length c22, .int .i64 l.e]) :: (.int .i64 (dSign l)) :: (.pointer (some ⟨V4.heap.size, 3, none⟩)) :: (.agg #[.bool h.neg, .slice q22 (dig B32 h.m).length d22, .int .i64 h.e]) :: (.int .i64 (dSign h)) :: (.bool false) :: (.bool false) :: (U0 36) :: (U0 37) :: (U0 38) :: (U0 39) :: (U0 40) :: (U0 41) :: (U0 42) :: (U0 43) :: (U0 44) :: (U0 45) :: (U0 46) :: (U0 47) :: (U0 48) :: (U0 49) :: (U0 50) :: (U0 51) :: (U0 52) :: (U0 53) :: (U0 54) :: (U0 55) :: (U0 56) :: (U0 57) :: (U0 58) :: (U0 59) :: (U0 60) :: undef :: undef :: undef :: []).toArray, []⟩ ∧ Below V10.heap.size V10 w' ∧ (gk = gg) ∧ (gg ≤ 13) ∧ (s = 2 ^ gg / 2) ∧ (k = 0 ∨ SameTo l h B k) ∧ (¬ SameTo l h B (k + 2 ^ gg)) ∧ (k ≤ 8192)) 13 ?_ (fun Gx hGx => ?_)
  · skip
    exact ⟨13, 0, 4096, by kernel_rfl, Below.refl _ _, rfl, (by omega), rfl, .inl rfl, (fun hh => by have := hh.1; omega), (by omega)⟩
  rintro gk0 U0 _ V11 ⟨gg, k, s, rfl, hbV11, hgk, hg13, hs, hk, hnk, hkb⟩
  refine hGx _ _ _ ?_
  clear hGx Gx
  have hzV11 := hbV11.size
  have hst : s ≤ 4096 := by have : 2 ^ gg ≤ 2 ^ 13 := Nat.pow_le_pow_right (by omega) hg13; omega
  refine wp_seq ?_
  refine wp_seq ?_
  refine sx_region ?_
  refine sv 36 (.int .i64 ((s : Nat) : Int)) ?_
  rcases Bool.eq_false_or_eq_true (decide (((s : Nat) : Int) > 0)) with f37 | f37
  · skip
    refine sv 37 (.bool true) ?_ (hr := ((show _ = Result.ok (Next.value (.bool (decide (((s : Nat) : Int) > 0)))) _ from (by kernel_rfl)).trans (congrArg (fun z => Result.ok (Next.value (.bool z)) _) (show (decide (((s : Nat) : Int) > 0)) = true from f37))))
    refine sx_nil ?_
    refine sx_then ?_
    refine wp_cond_true (by kernel_rfl) ?_
    refine wp_skip ?_
    refine sx_then ?_
    refine wp_seq ?_
    refine wp_block ?_
    refine wp_seq ?_
    refine sx_region ?_
    have hsp := of_decide_eq_true f37
    have hgg : 1 ≤ gg := by rcases Nat.eq_zero_or_pos gg with hz | hz; (exfalso; rw [hz] at hs; simp at hs; omega); exact hz
    have e3 : 2 ^ gg = 2 ^ (gg - 1) * 2 := by rw [← Nat.pow_succ]; congr 1; omega
    have e2 : s = 2 ^ (gg - 1) := by omega
    refine sv 40 (.int .i64 ((k : Nat) : Int)) ?_
    refine sv 41 (.int .i64 ((s : Nat) : Int)) ?_
    refine sv 42 (.int .i64 ((k + s : Nat) : Int)) ?_ (hr := ((show _ = Result.ok (Next.value (.int .i64 (IntKind.wrap .i64 (((k : Nat) : Int) + ((s : Nat) : Int))))) _ by kernel_rfl).trans (congrArg (fun z => Result.ok (Next.value (.int .i64 z)) _) ((by rw [← Int.natCast_add]; exact IntWalk.i64_in _ (by omega))))))
    refine sv 12 (.int .i64 ((k + s : Nat) : Int)) ?_
    refine sx_nil ?_
    refine sx_then ?_
    refine wp_seq ?_
    by_cases fB : k + s ≤ B
    · skip
      by_cases fS : trD l (k + s) = trD h (k + s)
      · skip
        replace b8 := (b8.past hbV11)
        obtain ⟨V12, hVV12⟩ : ∃ V, V = (V11).drew := ⟨_, rfl⟩
        have hbV12 : Below (V11).heap.size (V11) V12 := by rw [hVV12]; exact (Below.refl _ _).drew
        have hzV12 : V12.heap.size = (V11).heap.size := by rw [hVV12]; rfl
        replace b8 := (b8.past hbV12)
        refine sxd _ (fun w' => Bt w' V4.heap.size 64 #[.bool l.neg, .slice p22 (dig B32 l.m).length c22, .int .i64 l.e, .bool h.neg, .slice q22 (dig B32 h.m).length d22, .int .i64 h.e]) hVV12 b8 ?_
        clear hVV12
        refine tk 0 43 (.int .i64 ((k + s : Nat) : Int)) b8 ?_
        refine tk 1 44 (.int .i64 n) b8 ?_
        refine tk 2 45 (.bool true) b8 ?_ (hy := fun w' _ => ((show _ = Result.ok (Next.value (.bool (decide (((k + s : Nat) : Int) ≤ n)))) _ from (by kernel_rfl)).trans (congrArg (fun z => Result.ok (Next.value (.bool z)) _) (show (decide (((k + s : Nat) : Int) ≤ n)) = true from decide_eq_true (by omega)))))
        refine tk 3 46 (.bool true) b8 ?_
        refine tk 4 47 (.func (.func 52) #[] #[]) b8 ?_
        refine tk 5 48 (.pointer (some ⟨V4.heap.size, 0, none⟩)) b8 ?_
        refine tk 6 49 (.agg #[.bool l.neg, .slice p22 (dig B32 l.m).length c22, .int .i64 l.e]) b8 ?_ (hy := fun w' hS => (exec_ld (by kernel_rfl) (run_ld hS hT62 0 [.bool l.neg, .slice p22 (dig B32 l.m).length c22, .int .i64 l.e] (by kernel_rfl) (by kernel_rfl))))
        refine tk 7 50 (.int .i64 ((k + s : Nat) : Int)) b8 ?_
        refine tk 9 52 (.func (.func 52) #[] #[]) b8 ?_
        refine tk 10 53 (.pointer (some ⟨V4.heap.size, 3, none⟩)) b8 ?_
        refine tk 11 54 (.agg #[.bool h.neg, .slice q22 (dig B32 h.m).length d22, .int .i64 h.e]) b8 ?_ (hy := fun w' hS => (exec_ld (by kernel_rfl) (run_ld hS hT62 3 [.bool h.neg, .slice q22 (dig B32 h.m).length d22, .int .i64 h.e] (by kernel_rfl) (by kernel_rfl))))
        refine tk 12 55 (.int .i64 ((k + s : Nat) : Int)) b8 ?_
        refine sxr [8] ?_
        refine rd1 (fun Kx hKx => ?_)
        replace ho22 := (ho22.past (bthru (bthru (bthru (bthru (bthru (bthru (hbV5.trans (hOV6.below (by omega))) hbV7) hbV8) hbV9) hbV10) hbV11) hbV12))
        replace hT := (hT.past (bthru (bthru (bthru (bthru (bthru (bthru ((bthru hbV4 hbV5).trans (hOV6.below (by omega))) hbV7) hbV8) hbV9) hbV10) hbV11) hbV12))
        refine sek 51 52 #[.agg #[.bool l.neg, .slice p22 (dig B32 l.m).length c22, .int .i64 l.e], .int .i64 ((k + s : Nat) : Int)] ?_
        ((with_reducible refine (cutC_any l p22 c22 _ (k + s) _ _ rfl (by omega) fl ho22 hT (by omega)).mono ?_))
        rintro eV13 V13 ⟨p51, c51, rfl, ho51, hbV13⟩
        have hzV13 := hbV13.size
        refine ⟨.agg #[.bool ((trD l (k + s)).neg), .slice p51 (dig B32 (trD l (k + s)).m).length c51, .int .i64 ((trD l (k + s)).e)], rfl, ?_⟩
        replace b8 := (b8.past hbV13)
        refine hKx.out _ _ b8 ?_
        clear hKx Kx
        refine sxr [13] ?_
        refine rd1 (fun Kx hKx => ?_)
        replace hq22 := (hq22.past (bthru (bthru (bthru (bthru (bthru (bthru (bthru (hbV5.trans (hOV6.below (by omega))) hbV7) hbV8) hbV9) hbV10) hbV11) hbV12) hbV13))
        replace hT := (hT.past hbV13)
        refine sek 56 52 #[.agg #[.bool h.neg, .slice q22 (dig B32 h.m).length d22, .int .i64 h.e], .int .i64 ((k + s : Nat) : Int)] ?_
        ((with_reducible refine (cutC_any h q22 d22 _ (k + s) _ _ rfl (by omega) fh hq22 hT (by omega)).mono ?_))
        rintro eV14 V14 ⟨p56, c56, rfl, ho56, hbV14⟩
        have hzV14 := hbV14.size
        refine ⟨.agg #[.bool ((trD h (k + s)).neg), .slice p56 (dig B32 (trD h (k + s)).m).length c56, .int .i64 ((trD h (k + s)).e)], rfl, ?_⟩
        replace b8 := (b8.past hbV14)
        refine hKx.out _ _ b8 ?_
        clear hKx Kx
        refine sxr [14] ?_
        refine rd1 (fun Kx hKx => ?_)
        replace ho51 := (ho51.past hbV14)
        refine sek 57 54 #[.agg #[.bool ((trD l (k + s)).neg), .slice p51 (dig B32 (trD l (k + s)).m).length c51, .int .i64 ((trD l (k + s)).e)], .agg #[.bool ((trD h (k + s)).neg), .slice p56 (dig B32 (trD h (k + s)).m).length c56, .int .i64 ((trD h (k + s)).e)]] ?_
        ((with_reducible refine ((HK (k + s) _ p51 c51 p56 c56 _ _ (by omega) ho51 ho56).out).mono ?_))
        rintro eV15 V15 ⟨rfl, hbV15⟩
        have hzV15 := hbV15.size
        refine ⟨.int .i64 (rCmp (trD l (k + s)) (trD h (k + s))), rfl, ?_⟩
        replace b8 := (b8.past hbV15)
        refine hKx.out _ _ b8 ?_
        clear hKx Kx
        refine tk 15 58 (.bool true) b8 ?_ (hy := fun w' _ => ((show _ = Result.ok (Next.value (.bool ((rCmp (trD l (k + s)) (trD h (k + s))) == 0))) _ from (by kernel_rfl)).trans (congrArg (fun z => Result.ok (Next.value (.bool z)) _) (show ((rCmp (trD l (k + s)) (trD h (k + s))) == 0) = true from beq_iff_eq.2 ((rCmp_eq0 (trD_bare fl.bare _) (trD_bare fh.bare _)).2 fS)))))
        refine tk 16 59 (.bool true) b8 ?_
        refine sx_done (by kernel_rfl) ?_
        refine sx_then ?_
        refine wp_cond_true (by kernel_rfl) ?_
        refine sx_region ?_
        refine sv 60 (.int .i64 ((k + s : Nat) : Int)) ?_
        refine sv 10 (.int .i64 ((k + s : Nat) : Int)) ?_
        refine sx_nil ?_
        refine sx_inblock ?_
        refine sx_then ?_
        refine sx_region ?_
        refine sv 38 (.int .i64 ((s : Nat) : Int)) ?_
        refine sv 39 (.int .i64 ((s / 2 : Nat) : Int)) ?_ (hr := (exec_quo ((s / 2 : Nat) : Int) (by kernel_rfl) (by kernel_rfl) ((show (2 : Int) ≠ 0 by omega)) ((by rw [show ((s : Nat) : Int).tdiv 2 = ((s / 2 : Nat) : Int) from (Int.ofNat_tdiv s 2).symm]; exact IntWalk.i64_in _ (by omega)))))
        refine sv 11 (.int .i64 ((s / 2 : Nat) : Int)) ?_
        refine sx_nil ?_
        refine sx_then ?_
        refine ⟨gg - 1, (by omega), ?_⟩
        exact ⟨gg - 1, k + s, s / 2, by kernel_rfl, (bthru (bthru (bthru (bthru hbV11 hbV12) hbV13) hbV14) hbV15), rfl, (by omega), (by rw [e2]), (.inr ⟨fB, fS⟩), (by rw [show k + s + 2 ^ (gg - 1) = k + 2 ^ gg by omega]; exact hnk), (by omega)⟩
      replace b8 := (b8.past hbV11)
      obtain ⟨V12, hVV12⟩ : ∃ V, V = (V11).drew := ⟨_, rfl⟩
      have hbV12 : Below (V11).heap.size (V11) V12 := by rw [hVV12]; exact (Below.refl _ _).drew
      have hzV12 : V12.heap.size = (V11).heap.size := by rw [hVV12]; rfl
      replace b8 := (b8.past hbV12)
      refine sxd _ (fun w' => Bt w' V4.heap.size 64 #[.bool l.neg, .slice p22 (dig B32 l.m).length c22, .int .i64 l.e, .bool h.neg, .slice q22 (dig B32 h.m).length d22, .int .i64 h.e]) hVV12 b8 ?_
      clear hVV12
      refine tk 0 43 (.int .i64 ((k + s : Nat) : Int)) b8 ?_
      refine tk 1 44 (.int .i64 n) b8 ?_
      refine tk 2 45 (.bool true) b8 ?_ (hy := fun w' _ => ((show _ = Result.ok (Next.value (.bool (decide (((k + s : Nat) : Int) ≤ n)))) _ from (by kernel_rfl)).trans (congrArg (fun z => Result.ok (Next.value (.bool z)) _) (show (decide (((k + s : Nat) : Int) ≤ n)) = true from decide_eq_true (by omega)))))
      refine tk 3 46 (.bool true) b8 ?_
      refine tk 4 47 (.func (.func 52) #[] #[]) b8 ?_
      refine tk 5 48 (.pointer (some ⟨V4.heap.size, 0, none⟩)) b8 ?_
      refine tk 6 49 (.agg #[.bool l.neg, .slice p22 (dig B32 l.m).length c22, .int .i64 l.e]) b8 ?_ (hy := fun w' hS => (exec_ld (by kernel_rfl) (run_ld hS hT62 0 [.bool l.neg, .slice p22 (dig B32 l.m).length c22, .int .i64 l.e] (by kernel_rfl) (by kernel_rfl))))
      refine tk 7 50 (.int .i64 ((k + s : Nat) : Int)) b8 ?_
      refine tk 9 52 (.func (.func 52) #[] #[]) b8 ?_
      refine tk 10 53 (.pointer (some ⟨V4.heap.size, 3, none⟩)) b8 ?_
      refine tk 11 54 (.agg #[.bool h.neg, .slice q22 (dig B32 h.m).length d22, .int .i64 h.e]) b8 ?_ (hy := fun w' hS => (exec_ld (by kernel_rfl) (run_ld hS hT62 3 [.bool h.neg, .slice q22 (dig B32 h.m).length d22, .int .i64 h.e] (by kernel_rfl) (by kernel_rfl))))
      refine tk 12 55 (.int .i64 ((k + s : Nat) : Int)) b8 ?_
      refine sxr [8] ?_
      refine rd1 (fun Kx hKx => ?_)
      replace ho22 := (ho22.past (bthru (bthru (bthru (bthru (bthru (bthru (hbV5.trans (hOV6.below (by omega))) hbV7) hbV8) hbV9) hbV10) hbV11) hbV12))
      replace hT := (hT.past (bthru (bthru (bthru (bthru (bthru (bthru ((bthru hbV4 hbV5).trans (hOV6.below (by omega))) hbV7) hbV8) hbV9) hbV10) hbV11) hbV12))
      refine sek 51 52 #[.agg #[.bool l.neg, .slice p22 (dig B32 l.m).length c22, .int .i64 l.e], .int .i64 ((k + s : Nat) : Int)] ?_
      ((with_reducible refine (cutC_any l p22 c22 _ (k + s) _ _ rfl (by omega) fl ho22 hT (by omega)).mono ?_))
      rintro eV13 V13 ⟨p51, c51, rfl, ho51, hbV13⟩
      have hzV13 := hbV13.size
      refine ⟨.agg #[.bool ((trD l (k + s)).neg), .slice p51 (dig B32 (trD l (k + s)).m).length c51, .int .i64 ((trD l (k + s)).e)], rfl, ?_⟩
      replace b8 := (b8.past hbV13)
      refine hKx.out _ _ b8 ?_
      clear hKx Kx
      refine sxr [13] ?_
      refine rd1 (fun Kx hKx => ?_)
      replace hq22 := (hq22.past (bthru (bthru (bthru (bthru (bthru (bthru (bthru (hbV5.trans (hOV6.below (by omega))) hbV7) hbV8) hbV9) hbV10) hbV11) hbV12) hbV13))
      replace hT := (hT.past hbV13)
      refine sek 56 52 #[.agg #[.bool h.neg, .slice q22 (dig B32 h.m).length d22, .int .i64 h.e], .int .i64 ((k + s : Nat) : Int)] ?_
      ((with_reducible refine (cutC_any h q22 d22 _ (k + s) _ _ rfl (by omega) fh hq22 hT (by omega)).mono ?_))
      rintro eV14 V14 ⟨p56, c56, rfl, ho56, hbV14⟩
      have hzV14 := hbV14.size
      refine ⟨.agg #[.bool ((trD h (k + s)).neg), .slice p56 (dig B32 (trD h (k + s)).m).length c56, .int .i64 ((trD h (k + s)).e)], rfl, ?_⟩
      replace b8 := (b8.past hbV14)
      refine hKx.out _ _ b8 ?_
      clear hKx Kx
      refine sxr [14] ?_
      refine rd1 (fun Kx hKx => ?_)
      replace ho51 := (ho51.past hbV14)
      refine sek 57 54 #[.agg #[.bool ((trD l (k + s)).neg), .slice p51 (dig B32 (trD l (k + s)).m).length c51, .int .i64 ((trD l (k + s)).e)], .agg #[.bool ((trD h (k + s)).neg), .slice p56 (dig B32 (trD h (k + s)).m).length c56, .int .i64 ((trD h (k + s)).e)]] ?_
      ((with_reducible refine ((HK (k + s) _ p51 c51 p56 c56 _ _ (by omega) ho51 ho56).out).mono ?_))
      rintro eV15 V15 ⟨rfl, hbV15⟩
      have hzV15 := hbV15.size
      refine ⟨.int .i64 (rCmp (trD l (k + s)) (trD h (k + s))), rfl, ?_⟩
      replace b8 := (b8.past hbV15)
      refine hKx.out _ _ b8 ?_
      clear hKx Kx
      refine tk 15 58 (.bool false) b8 ?_ (hy := fun w' _ => ((show _ = Result.ok (Next.value (.bool ((rCmp (trD l (k + s)) (trD h (k + s))) == 0))) _ from (by kernel_rfl)).trans (congrArg (fun z => Result.ok (Next.value (.bool z)) _) (show ((rCmp (trD l (k + s)) (trD h (k + s))) == 0) = false from beq_eq_false_iff_ne.2 (fun hh => fS ((rCmp_eq0 (trD_bare fl.bare _) (trD_bare fh.bare _)).1 hh))))))
      refine tk 16 59 (.bool false) b8 ?_
      refine sx_done (by kernel_rfl) ?_
      refine sx_then ?_
      refine wp_cond_false (by kernel_rfl) ?_
      refine wp_skip ?_
      refine sx_inblock ?_
      refine sx_then ?_
      refine sx_region ?_
      refine sv 38 (.int .i64 ((s : Nat) : Int)) ?_
      refine sv 39 (.int .i64 ((s / 2 : Nat) : Int)) ?_ (hr := (exec_quo ((s / 2 : Nat) : Int) (by kernel_rfl) (by kernel_rfl) ((show (2 : Int) ≠ 0 by omega)) ((by rw [show ((s : Nat) : Int).tdiv 2 = ((s / 2 : Nat) : Int) from (Int.ofNat_tdiv s 2).symm]; exact IntWalk.i64_in _ (by omega)))))
      refine sv 11 (.int .i64 ((s / 2 : Nat) : Int)) ?_
      refine sx_nil ?_
      refine sx_then ?_
      refine ⟨gg - 1, (by omega), ?_⟩
      exact ⟨gg - 1, k, s / 2, by kernel_rfl, (bthru (bthru (bthru (bthru hbV11 hbV12) hbV13) hbV14) hbV15), rfl, (by omega), (by rw [e2]), hk, (fun hh => fS (by have h2 := hh.2; rwa [show k + 2 ^ (gg - 1) = k + s by omega] at h2)), (by omega)⟩
    by_cases fS : trD l (k + s) = trD h (k + s)
    · skip
      replace b8 := (b8.past hbV11)
      obtain ⟨V12, hVV12⟩ : ∃ V, V = (V11).drew := ⟨_, rfl⟩
      have hbV12 : Below (V11).heap.size (V11) V12 := by rw [hVV12]; exact (Below.refl _ _).drew
      have hzV12 : V12.heap.size = (V11).heap.size := by rw [hVV12]; rfl
      replace b8 := (b8.past hbV12)
      refine sxd _ (fun w' => Bt w' V4.heap.size 64 #[.bool l.neg, .slice p22 (dig B32 l.m).length c22, .int .i64 l.e, .bool h.neg, .slice q22 (dig B32 h.m).length d22, .int .i64 h.e]) hVV12 b8 ?_
      clear hVV12
      refine tk 0 43 (.int .i64 ((k + s : Nat) : Int)) b8 ?_
      refine tk 1 44 (.int .i64 n) b8 ?_
      refine tk 2 45 (.bool false) b8 ?_ (hy := fun w' _ => ((show _ = Result.ok (Next.value (.bool (decide (((k + s : Nat) : Int) ≤ n)))) _ from (by kernel_rfl)).trans (congrArg (fun z => Result.ok (Next.value (.bool z)) _) (show (decide (((k + s : Nat) : Int) ≤ n)) = false from decide_eq_false (by omega)))))
      refine tk 3 46 (.bool false) b8 ?_
      refine tko 4 47 b8 ?_
      refine tko 5 48 b8 ?_
      refine tko 6 49 b8 ?_
      refine tko 7 50 b8 ?_
      refine tko 8 51 b8 ?_
      refine tko 9 52 b8 ?_
      refine tko 10 53 b8 ?_
      refine tko 11 54 b8 ?_
      refine tko 12 55 b8 ?_
      refine tko 13 56 b8 ?_
      refine tko 14 57 b8 ?_
      refine tko 15 58 b8 ?_
      refine tk 16 59 (.bool false) b8 ?_
      refine sx_done (by kernel_rfl) ?_
      refine sx_then ?_
      refine wp_cond_false (by kernel_rfl) ?_
      refine wp_skip ?_
      refine sx_inblock ?_
      refine sx_then ?_
      refine sx_region ?_
      refine sv 38 (.int .i64 ((s : Nat) : Int)) ?_
      refine sv 39 (.int .i64 ((s / 2 : Nat) : Int)) ?_ (hr := (exec_quo ((s / 2 : Nat) : Int) (by kernel_rfl) (by kernel_rfl) ((show (2 : Int) ≠ 0 by omega)) ((by rw [show ((s : Nat) : Int).tdiv 2 = ((s / 2 : Nat) : Int) from (Int.ofNat_tdiv s 2).symm]; exact IntWalk.i64_in _ (by omega)))))
      refine sv 11 (.int .i64 ((s / 2 : Nat) : Int)) ?_
      refine sx_nil ?_
      refine sx_then ?_
      refine ⟨gg - 1, (by omega), ?_⟩
      exact ⟨gg - 1, k, s / 2, by kernel_rfl, (bthru hbV11 hbV12), rfl, (by omega), (by rw [e2]), hk, (fun hh => fB (by have h2 := hh.1; omega)), (by omega)⟩
    replace b8 := (b8.past hbV11)
    obtain ⟨V12, hVV12⟩ : ∃ V, V = (V11).drew := ⟨_, rfl⟩
    have hbV12 : Below (V11).heap.size (V11) V12 := by rw [hVV12]; exact (Below.refl _ _).drew
    have hzV12 : V12.heap.size = (V11).heap.size := by rw [hVV12]; rfl
    replace b8 := (b8.past hbV12)
    refine sxd _ (fun w' => Bt w' V4.heap.size 64 #[.bool l.neg, .slice p22 (dig B32 l.m).length c22, .int .i64 l.e, .bool h.neg, .slice q22 (dig B32 h.m).length d22, .int .i64 h.e]) hVV12 b8 ?_
    clear hVV12
    refine tk 0 43 (.int .i64 ((k + s : Nat) : Int)) b8 ?_
    refine tk 1 44 (.int .i64 n) b8 ?_
    refine tk 2 45 (.bool false) b8 ?_ (hy := fun w' _ => ((show _ = Result.ok (Next.value (.bool (decide (((k + s : Nat) : Int) ≤ n)))) _ from (by kernel_rfl)).trans (congrArg (fun z => Result.ok (Next.value (.bool z)) _) (show (decide (((k + s : Nat) : Int) ≤ n)) = false from decide_eq_false (by omega)))))
    refine tk 3 46 (.bool false) b8 ?_
    refine tko 4 47 b8 ?_
    refine tko 5 48 b8 ?_
    refine tko 6 49 b8 ?_
    refine tko 7 50 b8 ?_
    refine tko 8 51 b8 ?_
    refine tko 9 52 b8 ?_
    refine tko 10 53 b8 ?_
    refine tko 11 54 b8 ?_
    refine tko 12 55 b8 ?_
    refine tko 13 56 b8 ?_
    refine tko 14 57 b8 ?_
    refine tko 15 58 b8 ?_
    refine tk 16 59 (.bool false) b8 ?_
    refine sx_done (by kernel_rfl) ?_
    refine sx_then ?_
    refine wp_cond_false (by kernel_rfl) ?_
    refine wp_skip ?_
    refine sx_inblock ?_
    refine sx_then ?_
    refine sx_region ?_
    refine sv 38 (.int .i64 ((s : Nat) : Int)) ?_
    refine sv 39 (.int .i64 ((s / 2 : Nat) : Int)) ?_ (hr := (exec_quo ((s / 2 : Nat) : Int) (by kernel_rfl) (by kernel_rfl) ((show (2 : Int) ≠ 0 by omega)) ((by rw [show ((s : Nat) : Int).tdiv 2 = ((s / 2 : Nat) : Int) from (Int.ofNat_tdiv s 2).symm]; exact IntWalk.i64_in _ (by omega)))))
    refine sv 11 (.int .i64 ((s / 2 : Nat) : Int)) ?_
    refine sx_nil ?_
    refine sx_then ?_
    refine ⟨gg - 1, (by omega), ?_⟩
    exact ⟨gg - 1, k, s / 2, by kernel_rfl, (bthru hbV11 hbV12), rfl, (by omega), (by rw [e2]), hk, (fun hh => fB (by have h2 := hh.1; omega)), (by omega)⟩
  refine sv 37 (.bool false) ?_ (hr := ((show _ = Result.ok (Next.value (.bool (decide (((s : Nat) : Int) > 0)))) _ from (by kernel_rfl)).trans (congrArg (fun z => Result.ok (Next.value (.bool z)) _) (show (decide (((s : Nat) : Int) > 0)) = false from f37))))
  refine sx_nil ?_
  refine sx_then ?_
  refine wp_cond_false (by kernel_rfl) ?_
  refine wp_exit ?_
  repeat (with_reducible refine sx_thenexit ?_)
  refine sx_exit (id := 0) ?_
  refine sx_then ?_
  refine wp_seq ?_
  refine sx_region ?_
  refine sv 61 (.int .i64 ((k : Nat) : Int)) ?_
  refine sv 62 (.int .i64 ((k : Nat) : Int)) ?_
  refine sv 63 (.bool (decide (((k : Nat) : Int) > 0))) ?_
  refine sv 4 (.int .i64 ((k : Nat) : Int)) ?_
  refine sv 5 (.bool (decide (((k : Nat) : Int) > 0))) ?_
  refine sv 6 (.int .i64 0) ?_
  refine sx_nil ?_
  refine sx_then ?_
  refine wp_ret ?_
  repeat (first | with_reducible refine sx_thenret ?_ | with_reducible refine sx_blockret ?_)
  refine bodyPost_ret (v := .tuple #[.int .i64 ((k : Nat) : Int), .bool (decide (((k : Nat) : Int) > 0)), .int .i64 0]) (by simp [results, Tryd.results21, go_sem]) rfl ?_
  have hz : gg = 0 := by rcases Nat.eq_zero_or_pos gg with hz | hz; exact hz; (exfalso; have h1 := of_decide_eq_false f37; have h2 : 2 ^ gg = 2 ^ (gg - 1) * 2 := (by rw [← Nat.pow_succ]; congr 1; omega); have h3 : 0 < 2 ^ (gg - 1) := Nat.pow_pos (by omega); omega)
  rw [hz] at hnk
  exact ⟨k, ⟨hk, hnk⟩, by omega, rfl, (bthru (bthru (bthru (bthru (bthru ((bthru (bthru (bthru (bthru hbV1 hbV2) hbV3) hbV4) hbV5).trans (hOV6.below (by omega))) hbV7) hbV8) hbV9) hbV10) hbV11)⟩

end Go.Proofs.YtehodhanojgkgaaDoor
