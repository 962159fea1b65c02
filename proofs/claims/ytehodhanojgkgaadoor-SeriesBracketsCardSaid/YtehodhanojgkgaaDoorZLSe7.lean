/- The law SeriesBrackets: its walk. -/
import Derived.Test.YtehodhanojgkgaaDoorZLSe6
namespace Go.Slip

theorem dMinus_pos {x : Dv} (h0 : 0 < x.m) : dMinus x = ⟨!x.neg, x.m, x.e⟩ := by unfold dMinus; simp [h0]
theorem dMinus_inj {x y : Dv} (h0 : 0 < x.m) (h1 : 0 < y.m) : dMinus x = dMinus y ↔ x = y := by
  rw [dMinus_pos h0, dMinus_pos h1]
  constructor
  · intro h
    obtain ⟨a, b, c⟩ := x
    obtain ⟨a', b', c'⟩ := y
    simp at h
    simp [h]
  · rintro rfl; rfl
/-- Whether both are the same, as the law asks, and as the search asks. -/
def AskS (lo hi l h : Dv) : Prop := ∀ k, 1 ≤ k → (rCmp (rCut lo k false) (rCut hi k false) = 0 ↔ trD l k = trD h k)
theorem ask_pos {l h : Dv} (bl : Bare l) (bh : Bare h) (hl : l.neg = false) (hh : h.neg = false) : AskS l h l h := by
  intro k hk
  have e1 : rCut l k false = trD l k := by unfold trD; rw [hl]
  have e2 : rCut h k false = trD h k := by unfold trD; rw [hh]
  rw [e1, e2]
  exact rCmp_eq0 (trD_bare bl k) (trD_bare bh k)
theorem ask_neg {l h : Dv} (bl : Bare l) (bh : Bare h) (l0 : 0 < l.m) (h0 : 0 < h.m) (hl : l.neg = true) (hh : h.neg = true) : AskS (dMinus h) (dMinus l) l h := by
  intro k hk
  have n1 : (dMinus h).neg = false := by rw [dMinus_pos h0, hh]; rfl
  have n2 : (dMinus l).neg = false := by rw [dMinus_pos l0, hl]; rfl
  have e1 := (trD_minus h0 k).resolve_right (by omega)
  have e2 := (trD_minus l0 k).resolve_right (by omega)
  rw [n1] at e1
  rw [n2] at e2
  rw [e1, e2, rCmp_eq0 (dMinus_bare (trD_bare bh k)) (dMinus_bare (trD_bare bl k)), dMinus_inj (trD_top h0 hk).2.2 (trD_top l0 hk).2.2]
  exact eq_comm

end Go.Slip
namespace Go.Proofs.YtehodhanojgkgaaDoor
open Go.RowKit Go.Slip

theorem rdcut (a : Dv) (k : Nat) (K : Int) (p : Option Addr) (c base : Nat) (w : World) (hK : K = k) (hp : Rf w base p c (dig B16 a.m)) (f : FitR a) (hk : k ≤ 100000) (hb : base ≤ w.heap.size) :
    Calls Tryd.prog 27 #[.agg #[.bool a.neg, .slice p (dig B16 a.m).length c, .int .i64 a.e], .int .i64 K, .bool false] w (GNf w base (rCut a k false)) := by
  subst hK
  refine (refDCut_any (fun k => base ≤ k) a.neg p _ c a.e a.m k false w hp.rd rfl hp.cap hp.at_ f.len ⟨f.lo, f.hi⟩ (by omega)).mono fun en w' hh => ?_
  obtain ⟨p, c, h1, h2, h3, h4, h5⟩ := hh
  exact ⟨p, c, h1, rf_ofP h2 h3 h4 hb, h5⟩
theorem rminusNe (a : Dv) (p : Option Addr) (c u v : Nat) (w : World) (hp : Rd w .i64 p (dig B16 a.m)) (hc : (dig B16 a.m).length ≤ c) (hne : 0 < (dig B16 a.m).length → blk p ≠ u ∧ blk p ≠ v) (hu : u < w.heap.size) (hv : v < w.heap.size) :
    Calls Tryd.prog 24 #[.agg #[.bool a.neg, .slice p (dig B16 a.m).length c, .int .i64 a.e]] w fun en w' => ∃ p c, en = .returned (.agg #[.bool (dMinus a).neg, .slice p (dig B16 (dMinus a).m).length c, .int .i64 (dMinus a).e]) ∧ Rf w' 0 p c (dig B16 (dMinus a).m) ∧ (0 < (dig B16 (dMinus a).m).length → blk p ≠ u ∧ blk p ≠ v) ∧ Below w.heap.size w w' := by
  refine (refMinus_any (fun k => k ≠ u ∧ k ≠ v) a.neg p _ c a.e a.m w hp rfl hc hne).mono fun en w' hh => ?_
  obtain ⟨p, c, h1, h2, h3, h4, h5⟩ := hh
  refine ⟨p, c, h1, ⟨h2, h3, fun _ => Nat.zero_le _⟩, fun h => ?_, h5⟩
  rcases h4 h with h6 | h6
  · exact h6
  · omega

/-- Bounds that a cut keeps. -/
theorem fit_cut {d : Dv} (bd : Bare d) (hl : (dig B32 d.m).length ≤ 1200) (hlo : -100000 ≤ d.e) (hhi : d.e ≤ 100000) {k : Nat} (hk : 1 ≤ k) : FitR (rCut d k false) := by
  have hc := cut_len d k false hl
  rw [pCut_eq bd] at hc
  have h16 := B16_len32 (rCut d k false).m
  have h1 := rCut_e (a := d) false (show 0 < k by omega)
  have h2 : (rCut d k false).e ≤ 300000 := by
    unfold rCut
    split
    · omega
    · rename_i hb
      have h4 := blen_len32 d.m
      have h5 := bare_e ⟨d.neg, d.m / 2 ^ (blen d.m - k) + (if d.m % 2 ^ (blen d.m - k) ≠ 0 ∧ false ≠ d.neg then 1 else 0), d.e + ((blen d.m - k : Nat) : Int)⟩ (n := 1202) (by
        have := hc
        unfold rCut at this
        rw [if_neg hb] at this
        have h7 := dig_len_add B32_two (d.m / 2 ^ (blen d.m - k)) (if d.m % 2 ^ (blen d.m - k) ≠ 0 ∧ false ≠ d.neg then 1 else 0)
        have h8 := dig_len_mono B32_two (Nat.div_le_self d.m (2 ^ (blen d.m - k)))
        have h9 : (dig B32 (if d.m % 2 ^ (blen d.m - k) ≠ 0 ∧ false ≠ d.neg then 1 else 0)).length ≤ 1 := by rw [dig_len_le B32_two]; unfold B32; split <;> omega
        show (dig B32 (d.m / 2 ^ (blen d.m - k) + (if d.m % 2 ^ (blen d.m - k) ≠ 0 ∧ false ≠ d.neg then 1 else 0))).length ≤ 1202
        omega) (lo := -100000) (hi := 138400) (by simp only; omega) (by simp only; omega) (by omega) (by omega)
      omega
  exact ⟨by omega, by omega, by omega⟩

set_option maxHeartbeats 4000000 in
set_option maxRecDepth 100000 in
theorem same_any (l h : Dv) (k : Nat) (K : Int) (k1 k2 : Nat) (pl ph : Option Addr) (cl ch b1 b2 : Nat) (w : World) (hK : K = k) (hk : 1 ≤ k) (hk2 : k ≤ 50000) (B1 : Bt w k1 36 #[.bool l.neg, .slice pl (dig B16 l.m).length cl, .int .i64 l.e]) (B2 : Bt w k2 36 #[.bool h.neg, .slice ph (dig B16 h.m).length ch, .int .i64 h.e])
    (xl : Rf w b1 pl cl (dig B16 l.m)) (xh : Rf w b2 ph ch (dig B16 h.m)) (hb1 : b1 ≤ w.heap.size) (hb2 : b2 ≤ w.heap.size) (fl : FitR l) (fh : FitR h) (gl : FitR (rCut l k false)) (gh : FitR (rCut h k false)) :
    Calls Tryd.prog 25 #[.int .i64 K, .pointer (some ⟨k1, 0, none⟩), .pointer (some ⟨k2, 0, none⟩)] w fun en w' => en = .returned (.bool (rCmp (rCut l k false) (rCut h k false) == 0)) ∧ Below w.heap.size w w' := by
  subst hK
  have lxl := fun h => xl.lt h
  have lxh := fun h => xh.lt h
  have hT36 : SxAgg Tryd.prog 36 3 := sxAgg_of (by kernel_rfl) (by kernel_rfl)
  refine calls_of_wp Tryd.func25 rfl ?_
  refine sx_frame (a' := ⟨((.int .i64 ((k : Nat) : Int)) :: (.pointer (some ⟨k1, 0, none⟩)) :: (.pointer (some ⟨k2, 0, none⟩)) :: undef :: undef :: undef :: undef :: undef :: undef :: undef :: undef :: undef :: undef :: []).toArray, []⟩) (by kernel_rfl) ?_
  refine wp_seq ?_
  refine sx_region ?_
  refine sv 4 (.bool false) ?_
  refine sx_nil ?_
  refine sx_then ?_
  refine wp_seq ?_
  obtain ⟨V1, hVV1⟩ : ∃ V, V = (w).drew := ⟨_, rfl⟩
  have hbV1 : Below (w).heap.size (w) V1 := by rw [hVV1]; exact (Below.refl _ _).drew
  have hzV1 : V1.heap.size = (w).heap.size := by rw [hVV1]; rfl
  replace B1 := (B1.past hbV1)
  replace B2 := (B2.past hbV1)
  refine sxd _ (fun w' => Bt w' k1 36 #[.bool l.neg, .slice pl (dig B16 l.m).length cl, .int .i64 l.e] ∧ Bt w' k2 36 #[.bool h.neg, .slice ph (dig B16 h.m).length ch, .int .i64 h.e]) hVV1 ⟨B1, B2⟩ ?_
  clear hVV1
  refine tk 0 5 (.agg #[.bool l.neg, .slice pl (dig B16 l.m).length cl, .int .i64 l.e]) ⟨B1, B2⟩ ?_ (hy := fun w' hS => (exec_ld (by kernel_rfl) (run_ld hS.1 hT36 0 [.bool l.neg, .slice pl (dig B16 l.m).length cl, .int .i64 l.e] (by kernel_rfl) (by kernel_rfl))))
  refine tk 1 6 (.int .i64 ((k : Nat) : Int)) ⟨B1, B2⟩ ?_
  refine tk 3 8 (.agg #[.bool h.neg, .slice ph (dig B16 h.m).length ch, .int .i64 h.e]) ⟨B1, B2⟩ ?_ (hy := fun w' hS => (exec_ld (by kernel_rfl) (run_ld hS.2 hT36 0 [.bool h.neg, .slice ph (dig B16 h.m).length ch, .int .i64 h.e] (by kernel_rfl) (by kernel_rfl))))
  refine tk 4 9 (.int .i64 ((k : Nat) : Int)) ⟨B1, B2⟩ ?_
  refine sxr [2] ?_
  refine rd1 (fun Kx hKx => ?_)
  replace xl := (xl.past hbV1)
  refine sek 7 27 #[.agg #[.bool l.neg, .slice pl (dig B16 l.m).length cl, .int .i64 l.e], .int .i64 ((k : Nat) : Int), .bool false] ?_
  ((with_reducible refine (rdcut l k _ pl cl _ _ rfl xl fl (by omega) (by omega)).mono ?_))
  rintro eV2 V2 ⟨p7, c7, rfl, x7, hbV2⟩
  have hzV2 := hbV2.size
  have lx7 := fun h => x7.lt h
  refine ⟨.agg #[.bool ((rCut l k false).neg), .slice p7 (dig B16 (rCut l k false).m).length c7, .int .i64 ((rCut l k false).e)], rfl, ?_⟩
  replace B1 := (B1.past hbV2)
  replace B2 := (B2.past hbV2)
  refine hKx.out _ _ ⟨B1, B2⟩ ?_
  clear hKx Kx
  refine sxr [5] ?_
  refine rd1 (fun Kx hKx => ?_)
  replace xh := (xh.past (bthru hbV1 hbV2))
  refine sek 10 27 #[.agg #[.bool h.neg, .slice ph (dig B16 h.m).length ch, .int .i64 h.e], .int .i64 ((k : Nat) : Int), .bool false] ?_
  ((with_reducible refine (rdcut h k _ ph ch _ _ rfl xh fh (by omega) (by omega)).mono ?_))
  rintro eV3 V3 ⟨p10, c10, rfl, x10, hbV3⟩
  have hzV3 := hbV3.size
  have lx10 := fun h => x10.lt h
  refine ⟨.agg #[.bool ((rCut h k false).neg), .slice p10 (dig B16 (rCut h k false).m).length c10, .int .i64 ((rCut h k false).e)], rfl, ?_⟩
  replace B1 := (B1.past hbV3)
  replace B2 := (B2.past hbV3)
  refine hKx.out _ _ ⟨B1, B2⟩ ?_
  clear hKx Kx
  refine sxr [6] ?_
  refine rd1 (fun Kx hKx => ?_)
  replace x7 := (x7.past hbV3)
  refine sek 11 26 #[.agg #[.bool ((rCut l k false).neg), .slice p7 (dig B16 (rCut l k false).m).length c7, .int .i64 ((rCut l k false).e)], .agg #[.bool ((rCut h k false).neg), .slice p10 (dig B16 (rCut h k false).m).length c10, .int .i64 ((rCut h k false).e)]] ?_
  ((with_reducible refine (rdcmp (rCut l k false) (rCut h k false) p7 p10 c7 c10 _ x7.rd x10.rd x10.cap gl gh).mono ?_))
  rintro eV4 V4 ⟨rfl, hbV4⟩
  have hzV4 := hbV4.size
  refine ⟨.int .i64 (rCmp (rCut l k false) (rCut h k false)), rfl, ?_⟩
  replace B1 := (B1.past hbV4)
  replace B2 := (B2.past hbV4)
  refine hKx.out _ _ ⟨B1, B2⟩ ?_
  clear hKx Kx
  refine tk 7 12 (.bool ((rCmp (rCut l k false) (rCut h k false)) == 0)) ⟨B1, B2⟩ ?_
  refine tk 8 4 (.bool ((rCmp (rCut l k false) (rCut h k false)) == 0)) ⟨B1, B2⟩ ?_
  refine sx_done (by kernel_rfl) ?_
  refine sx_then ?_
  refine wp_ret ?_
  repeat (first | with_reducible refine sx_thenret ?_ | with_reducible refine sx_blockret ?_)
  refine bodyPost_ret (v := .bool ((rCmp (rCut l k false) (rCut h k false)) == 0)) (by simp [results, Tryd.results25, go_sem]) rfl ?_
  exact ⟨rfl, (bthru (bthru (bthru hbV1 hbV2) hbV3) hbV4)⟩

/-- A ball handed in. -/
theorem rofballD (a b : Din) (w : World) (ia : InD w a) (ib : InD w b) (e1 : errDy a = 0) (e2 : errDy b = 0) :
    Calls Tryd.prog 23 #[.agg #[.bool a.g, .slice a.p a.xs.length a.c, .int .i64 a.e, .bool b.g, .slice b.p b.xs.length b.c, .int .i64 b.e]] w
      fun en w' => ∃ p c q d, en = .returned (.agg #[.bool (dyV a).neg, .slice p (dig B16 (dyV a).m).length c, .int .i64 (dyV a).e, .bool (dyV b).neg, .slice q (dig B16 (dyV b).m).length d, .int .i64 (dyV b).e]) ∧ Rf w' w.heap.size p c (dig B16 (dyV a).m) ∧ Rf w' w.heap.size q d (dig B16 (dyV b).m) ∧ Below w.heap.size w w' := by
  refine (refOfBall_any a b w ia ib e1 e2).mono fun en w' hh => ?_
  obtain ⟨⟨g, p, c, m, e⟩, ⟨g', p', c', m', e'⟩, r1, r2, r3, r4, r5, r6⟩ := hh
  rw [← r1, ← r2]
  exact ⟨p, c, p', c', r3, rf_ofR r4.rd r4.cap r4.at_, rf_ofR r5.rd r5.cap r5.at_, r6⟩

set_option maxHeartbeats 4000000 in
set_option maxRecDepth 100000 in
theorem lawBr_err (a b : Din) (n : Int) (w : World) (ia : InD w a) (ib : InD w b) (hT : TabW w) (he : errBall a b ≠ 0) :
    Calls Tryd.prog 7 #[.agg #[.bool a.g, .slice a.p a.xs.length a.c, .int .i64 a.e, .bool b.g, .slice b.p b.xs.length b.c, .int .i64 b.e], .int .i64 n] w fun en w' => en = .returned (.bool true) ∧ Below w.heap.size w w' := by
  have HB := fun W h1 h2 h3 => Lib.hid (bracket_err a b n W h1 h2 h3 he)
  have HC := fun W h1 h2 => Lib.hid (refCheckBall_any a b W h1 h2)
  generalize errBall a b = E at *
  have hT27 : SxAgg Tryd.prog 27 6 := sxAgg_of (by kernel_rfl) (by kernel_rfl)
  refine calls_of_wp Tryd.func7 rfl ?_
  refine sx_frame (a' := ⟨((.agg #[.bool a.g, .slice a.p a.xs.length a.c, .int .i64 a.e, .bool b.g, .slice b.p b.xs.length b.c, .int .i64 b.e]) :: (.int .i64 n) :: undef :: undef :: undef :: undef :: undef :: undef :: undef :: undef :: undef :: undef :: undef :: undef :: undef :: undef :: undef :: undef :: undef :: undef :: undef :: undef :: undef :: undef :: undef :: undef :: undef :: undef :: undef :: undef :: undef :: undef :: undef :: undef :: undef :: undef :: undef :: undef :: undef :: undef :: undef :: undef :: undef :: undef :: undef :: undef :: undef :: undef :: undef :: undef :: undef :: undef :: undef :: undef :: undef :: undef :: undef :: undef :: undef :: undef :: undef :: undef :: undef :: undef :: undef :: undef :: undef :: undef :: undef :: undef :: undef :: undef :: undef :: undef :: undef :: undef :: undef :: undef :: undef :: undef :: undef :: undef :: undef :: undef :: undef :: undef :: undef :: undef :: undef :: undef :: undef :: undef :: undef :: undef :: undef :: undef :: undef :: undef :: undef :: undef :: undef :: undef :: undef :: undef :: undef :: undef :: undef :: undef :: undef :: undef :: undef :: []).toArray, []⟩) (by kernel_rfl) ?_
  refine wp_seq ?_
  refine sx_region ?_
  refine sn 2 #[.bool a.g, .slice a.p a.xs.length a.c, .int .i64 a.e, .bool b.g, .slice b.p b.xs.length b.c, .int .i64 b.e] 27 (fun V1 hbV1 hzV1 b2 => ?_)
  refine sv 4 (.bool false) ?_
  refine sx_nil ?_
  refine sx_then ?_
  refine wp_seq ?_
  refine sx_region ?_
  refine sv 14 (.agg #[.bool a.g, .slice a.p a.xs.length a.c, .int .i64 a.e, .bool b.g, .slice b.p b.xs.length b.c, .int .i64 b.e]) ?_ (hr := (exec_ld (by kernel_rfl) (run_ld b2 hT27 0 [.bool a.g, .slice a.p a.xs.length a.c, .int .i64 a.e, .bool b.g, .slice b.p b.xs.length b.c, .int .i64 b.e] (by kernel_rfl) (by kernel_rfl))))
  refine sv 15 (.int .i64 n) ?_
  replace ia := (ia.past hbV1)
  replace ib := (ib.past hbV1)
  replace hT := (hT.past hbV1)
  refine se 16 21 #[.agg #[.bool a.g, .slice a.p a.xs.length a.c, .int .i64 a.e, .bool b.g, .slice b.p b.xs.length b.c, .int .i64 b.e], .int .i64 n] (fun Gx hGx => ?_)
  ((with_reducible refine ((HB _ ia ib hT).out).mono ?_))
  rintro eV2 V2 ⟨rfl, hbV2⟩
  have hzV2 := hbV2.size
  refine ⟨.tuple #[.int .i64 0, .bool false, .int .i64 E], rfl, hGx _ _ ?_⟩
  clear hGx Gx
  refine sv 13 (.tuple #[.int .i64 0, .bool false, .int .i64 E]) ?_
  refine sv 17 (.int .i64 0) ?_
  refine sv 18 (.bool false) ?_
  refine sv 19 (.int .i64 E) ?_
  refine sv 5 (.int .i64 0) ?_
  refine sv 6 (.bool false) ?_
  refine sv 7 (.int .i64 E) ?_
  refine sx_nil ?_
  refine sx_then ?_
  refine wp_seq ?_
  refine sx_region ?_
  replace b2 := (b2.past hbV2)
  refine sv 20 (.agg #[.bool a.g, .slice a.p a.xs.length a.c, .int .i64 a.e, .bool b.g, .slice b.p b.xs.length b.c, .int .i64 b.e]) ?_ (hr := (exec_ld (by kernel_rfl) (run_ld b2 hT27 0 [.bool a.g, .slice a.p a.xs.length a.c, .int .i64 a.e, .bool b.g, .slice b.p b.xs.length b.c, .int .i64 b.e] (by kernel_rfl) (by kernel_rfl))))
  replace ia := (ia.past hbV2)
  replace ib := (ib.past hbV2)
  refine se 21 22 #[.agg #[.bool a.g, .slice a.p a.xs.length a.c, .int .i64 a.e, .bool b.g, .slice b.p b.xs.length b.c, .int .i64 b.e]] (fun Gx hGx => ?_)
  ((with_reducible refine ((HC _ ia ib).out).mono ?_))
  rintro eV3 V3 ⟨rfl, hbV3⟩
  have hzV3 := hbV3.size
  refine ⟨.int .i64 E, rfl, hGx _ _ ?_⟩
  clear hGx Gx
  refine sv 8 (.int .i64 E) ?_
  refine sx_nil ?_
  refine sx_then ?_
  refine wp_seq ?_
  refine wp_seq ?_
  refine sx_region ?_
  refine sv 22 (.int .i64 E) ?_
  refine sv 23 (.bool false) ?_ (hr := ((show _ = Result.ok (Next.value (.bool (E == 0))) _ from (by kernel_rfl)).trans (congrArg (fun z => Result.ok (Next.value (.bool z)) _) (show (E == 0) = false from beq_eq_false_iff_ne.2 he))))
  refine sv 24 (.bool false) ?_
  refine so (some 25) ?_
  refine so (some 26) ?_
  refine so (some 27) ?_
  refine so (some 28) ?_
  refine so (some 29) ?_
  refine so (some 30) ?_
  refine sv 31 (.bool false) ?_
  refine sx_nil ?_
  refine sx_then ?_
  refine wp_cond_false (by kernel_rfl) ?_
  refine wp_skip ?_
  refine sx_then ?_
  refine wp_seq ?_
  refine wp_seq ?_
  refine sx_region ?_
  replace hT := (hT.past (bthru hbV2 hbV3))
  refine se 32 10 #[] (fun Gx hGx => ?_)
  ((with_reducible refine (seriesBegun_any _ hT).mono ?_))
  rintro eV4 V4 ⟨rfl, hbV4⟩
  have hzV4 := hbV4.size
  refine ⟨.bool true, rfl, hGx _ _ ?_⟩
  clear hGx Gx
  refine sv 33 (.bool false) ?_
  refine sv 34 (.bool false) ?_
  refine sv 35 (.int .i64 E) ?_
  refine sv 36 (.int .i64 E) ?_
  refine sv 37 (.bool false) ?_ (hr := ((show _ = Result.ok (Next.value (.bool (E != E))) _ from (by kernel_rfl)).trans (congrArg (fun z => Result.ok (Next.value (.bool z)) _) (show (E != E) = false from by simp))))
  refine sv 38 (.bool false) ?_
  refine sv 39 (.bool false) ?_
  refine sv 40 (.int .i64 E) ?_
  refine sv 41 (.bool true) ?_ (hr := ((show _ = Result.ok (Next.value (.bool (E != 0))) _ from (by kernel_rfl)).trans (congrArg (fun z => Result.ok (Next.value (.bool z)) _) (show (E != 0) = true from bne_iff_ne.2 he))))
  refine sv 42 (.bool true) ?_
  refine sx_nil ?_
  refine sx_then ?_
  refine wp_cond_true (by kernel_rfl) ?_
  refine wp_seq ?_
  refine sx_region ?_
  replace hT := (hT.past hbV4)
  refine se 43 10 #[] (fun Gx hGx => ?_)
  ((with_reducible refine (seriesBegun_any _ hT).mono ?_))
  rintro eV5 V5 ⟨rfl, hbV5⟩
  have hzV5 := hbV5.size
  refine ⟨.bool true, rfl, hGx _ _ ?_⟩
  clear hGx Gx
  refine sv 44 (.bool true) ?_
  refine sv 45 (.int .i64 E) ?_
  refine sv 46 (.int .i64 E) ?_
  refine sv 47 (.bool true) ?_ (hr := ((show _ = Result.ok (Next.value (.bool (E == E))) _ from (by kernel_rfl)).trans (congrArg (fun z => Result.ok (Next.value (.bool z)) _) (show (E == E) = true from by simp))))
  refine sv 48 (.bool true) ?_
  refine sv 49 (.bool true) ?_
  refine sv 50 (.int .i64 0) ?_
  refine sv 51 (.bool true) ?_
  refine sv 52 (.bool true) ?_
  refine sv 53 (.bool true) ?_
  refine sv 54 (.bool false) ?_
  refine sv 55 (.bool true) ?_
  refine sv 56 (.bool true) ?_
  refine sv 4 (.bool true) ?_
  refine sx_nil ?_
  refine sx_then ?_
  refine wp_ret ?_
  repeat (first | with_reducible refine sx_thenret ?_ | with_reducible refine sx_blockret ?_)
  refine bodyPost_ret (v := .bool true) (by simp [results, Tryd.results7, go_sem]) rfl ?_
  exact ⟨rfl, (bthru (bthru (bthru (bthru hbV1 hbV2) hbV3) hbV4) hbV5)⟩

set_option maxHeartbeats 4000000 in
set_option maxRecDepth 100000 in
theorem lawBr_range (a b : Din) (n : Int) (w : World) (ia : InD w a) (ib : InD w b) (hT : TabW w) (he : errBall a b = 0) (hn : ¬ (1 ≤ n ∧ n ≤ 4096)) :
    Calls Tryd.prog 7 #[.agg #[.bool a.g, .slice a.p a.xs.length a.c, .int .i64 a.e, .bool b.g, .slice b.p b.xs.length b.c, .int .i64 b.e], .int .i64 n] w fun en w' => en = .returned (.bool true) ∧ Below w.heap.size w w' := by
  have HB := fun W h1 h2 h3 => Lib.hid (bracket_range a b n W h1 h2 h3 he hn)
  have HC := fun W h1 h2 => Lib.hid (refCheckBall_any a b W h1 h2)
  rw [he] at HC
  by_cases h1 : n < 1
  · skip
    have hT27 : SxAgg Tryd.prog 27 6 := sxAgg_of (by kernel_rfl) (by kernel_rfl)
    refine calls_of_wp Tryd.func7 rfl ?_
    refine sx_frame (a' := ⟨((.agg #[.bool a.g, .slice a.p a.xs.length a.c, .int .i64 a.e, .bool b.g, .slice b.p b.xs.length b.c, .int .i64 b.e]) :: (.int .i64 n) :: undef :: undef :: undef :: undef :: undef :: undef :: undef :: undef :: undef :: undef :: undef :: undef :: undef :: undef :: undef :: undef :: undef :: undef :: undef :: undef :: undef :: undef :: undef :: undef :: undef :: undef :: undef :: undef :: undef :: undef :: undef :: undef :: undef :: undef :: undef :: undef :: undef :: undef :: undef :: undef :: undef :: undef :: undef :: undef :: undef :: undef :: undef :: undef :: undef :: undef :: undef :: undef :: undef :: undef :: undef :: undef :: undef :: undef :: undef :: undef :: undef :: undef :: undef :: undef :: undef :: undef :: undef :: undef :: undef :: undef :: undef :: undef :: undef :: undef :: undef :: undef :: undef :: undef :: undef :: undef :: undef :: undef :: undef :: undef :: undef :: undef :: undef :: undef :: undef :: undef :: undef :: undef :: undef :: undef :: undef :: undef :: undef :: undef :: undef :: undef :: undef :: undef :: undef :: undef :: undef :: undef :: undef :: undef :: undef :: []).toArray, []⟩) (by kernel_rfl) ?_
    refine wp_seq ?_
    refine sx_region ?_
    refine sn 2 #[.bool a.g, .slice a.p a.xs.length a.c, .int .i64 a.e, .bool b.g, .slice b.p b.xs.length b.c, .int .i64 b.e] 27 (fun V1 hbV1 hzV1 b2 => ?_)
    refine sv 4 (.bool false) ?_
    refine sx_nil ?_
    refine sx_then ?_
    refine wp_seq ?_
    refine sx_region ?_
    refine sv 14 (.agg #[.bool a.g, .slice a.p a.xs.length a.c, .int .i64 a.e, .bool b.g, .slice b.p b.xs.length b.c, .int .i64 b.e]) ?_ (hr := (exec_ld (by kernel_rfl) (run_ld b2 hT27 0 [.bool a.g, .slice a.p a.xs.length a.c, .int .i64 a.e, .bool b.g, .slice b.p b.xs.length b.c, .int .i64 b.e] (by kernel_rfl) (by kernel_rfl))))
    refine sv 15 (.int .i64 n) ?_
    replace ia := (ia.past hbV1)
    replace ib := (ib.past hbV1)
    replace hT := (hT.past hbV1)
    refine se 16 21 #[.agg #[.bool a.g, .slice a.p a.xs.length a.c, .int .i64 a.e, .bool b.g, .slice b.p b.xs.length b.c, .int .i64 b.e], .int .i64 n] (fun Gx hGx => ?_)
    ((with_reducible refine ((HB _ ia ib hT).out).mono ?_))
    rintro eV2 V2 ⟨rfl, hbV2⟩
    have hzV2 := hbV2.size
    refine ⟨.tuple #[.int .i64 0, .bool false, .int .i64 3], rfl, hGx _ _ ?_⟩
    clear hGx Gx
    refine sv 13 (.tuple #[.int .i64 0, .bool false, .int .i64 3]) ?_
    refine sv 17 (.int .i64 0) ?_
    refine sv 18 (.bool false) ?_
    refine sv 19 (.int .i64 3) ?_
    refine sv 5 (.int .i64 0) ?_
    refine sv 6 (.bool false) ?_
    refine sv 7 (.int .i64 3) ?_
    refine sx_nil ?_
    refine sx_then ?_
    refine wp_seq ?_
    refine sx_region ?_
    replace b2 := (b2.past hbV2)
    refine sv 20 (.agg #[.bool a.g, .slice a.p a.xs.length a.c, .int .i64 a.e, .bool b.g, .slice b.p b.xs.length b.c, .int .i64 b.e]) ?_ (hr := (exec_ld (by kernel_rfl) (run_ld b2 hT27 0 [.bool a.g, .slice a.p a.xs.length a.c, .int .i64 a.e, .bool b.g, .slice b.p b.xs.length b.c, .int .i64 b.e] (by kernel_rfl) (by kernel_rfl))))
    replace ia := (ia.past hbV2)
    replace ib := (ib.past hbV2)
    refine se 21 22 #[.agg #[.bool a.g, .slice a.p a.xs.length a.c, .int .i64 a.e, .bool b.g, .slice b.p b.xs.length b.c, .int .i64 b.e]] (fun Gx hGx => ?_)
    ((with_reducible refine ((HC _ ia ib).out).mono ?_))
    rintro eV3 V3 ⟨rfl, hbV3⟩
    have hzV3 := hbV3.size
    refine ⟨.int .i64 0, rfl, hGx _ _ ?_⟩
    clear hGx Gx
    refine sv 8 (.int .i64 0) ?_
    refine sx_nil ?_
    refine sx_then ?_
    refine wp_seq ?_
    refine wp_seq ?_
    refine sx_region ?_
    refine sv 22 (.int .i64 0) ?_
    refine sv 23 (.bool true) ?_
    refine sv 24 (.bool true) ?_
    refine sv 25 (.int .i64 n) ?_
    refine sv 26 (.bool true) ?_ (hr := ((show _ = Result.ok (Next.value (.bool (decide (n < 1)))) _ from (by kernel_rfl)).trans (congrArg (fun z => Result.ok (Next.value (.bool z)) _) (show (decide (n < 1)) = true from decide_eq_true h1))))
    refine sv 27 (.bool true) ?_
    refine so (some 28) ?_
    refine so (some 29) ?_
    refine sv 30 (.bool true) ?_
    refine sv 31 (.bool true) ?_
    refine sx_nil ?_
    refine sx_then ?_
    refine wp_cond_true (by kernel_rfl) ?_
    refine sx_region ?_
    refine sv 8 (.int .i64 3) ?_
    refine sx_nil ?_
    refine sx_then ?_
    refine wp_seq ?_
    refine wp_seq ?_
    refine sx_region ?_
    replace hT := (hT.past (bthru hbV2 hbV3))
    refine se 32 10 #[] (fun Gx hGx => ?_)
    ((with_reducible refine (seriesBegun_any _ hT).mono ?_))
    rintro eV4 V4 ⟨rfl, hbV4⟩
    have hzV4 := hbV4.size
    refine ⟨.bool true, rfl, hGx _ _ ?_⟩
    clear hGx Gx
    refine sv 33 (.bool false) ?_
    refine sv 34 (.bool false) ?_
    refine sv 35 (.int .i64 3) ?_
    refine sv 36 (.int .i64 3) ?_
    refine sv 37 (.bool false) ?_
    refine sv 38 (.bool false) ?_
    refine sv 39 (.bool false) ?_
    refine sv 40 (.int .i64 3) ?_
    refine sv 41 (.bool true) ?_
    refine sv 42 (.bool true) ?_
    refine sx_nil ?_
    refine sx_then ?_
    refine wp_cond_true (by kernel_rfl) ?_
    refine wp_seq ?_
    refine sx_region ?_
    replace hT := (hT.past hbV4)
    refine se 43 10 #[] (fun Gx hGx => ?_)
    ((with_reducible refine (seriesBegun_any _ hT).mono ?_))
    rintro eV5 V5 ⟨rfl, hbV5⟩
    have hzV5 := hbV5.size
    refine ⟨.bool true, rfl, hGx _ _ ?_⟩
    clear hGx Gx
    refine sv 44 (.bool true) ?_
    refine sv 45 (.int .i64 3) ?_
    refine sv 46 (.int .i64 3) ?_
    refine sv 47 (.bool true) ?_
    refine sv 48 (.bool true) ?_
    refine sv 49 (.bool true) ?_
    refine sv 50 (.int .i64 0) ?_
    refine sv 51 (.bool true) ?_
    refine sv 52 (.bool true) ?_
    refine sv 53 (.bool true) ?_
    refine sv 54 (.bool false) ?_
    refine sv 55 (.bool true) ?_
    refine sv 56 (.bool true) ?_
    refine sv 4 (.bool true) ?_
    refine sx_nil ?_
    refine sx_then ?_
    refine wp_ret ?_
    repeat (first | with_reducible refine sx_thenret ?_ | with_reducible refine sx_blockret ?_)
    refine bodyPost_ret (v := .bool true) (by simp [results, Tryd.results7, go_sem]) rfl ?_
    exact ⟨rfl, (bthru (bthru (bthru (bthru hbV1 hbV2) hbV3) hbV4) hbV5)⟩
  · skip
    have hT27 : SxAgg Tryd.prog 27 6 := sxAgg_of (by kernel_rfl) (by kernel_rfl)
    refine calls_of_wp Tryd.func7 rfl ?_
    refine sx_frame (a' := ⟨((.agg #[.bool a.g, .slice a.p a.xs.length a.c, .int .i64 a.e, .bool b.g, .slice b.p b.xs.length b.c, .int .i64 b.e]) :: (.int .i64 n) :: undef :: undef :: undef :: undef :: undef :: undef :: undef :: undef :: undef :: undef :: undef :: undef :: undef :: undef :: undef :: undef :: undef :: undef :: undef :: undef :: undef :: undef :: undef :: undef :: undef :: undef :: undef :: undef :: undef :: undef :: undef :: undef :: undef :: undef :: undef :: undef :: undef :: undef :: undef :: undef :: undef :: undef :: undef :: undef :: undef :: undef :: undef :: undef :: undef :: undef :: undef :: undef :: undef :: undef :: undef :: undef :: undef :: undef :: undef :: undef :: undef :: undef :: undef :: undef :: undef :: undef :: undef :: undef :: undef :: undef :: undef :: undef :: undef :: undef :: undef :: undef :: undef :: undef :: undef :: undef :: undef :: undef :: undef :: undef :: undef :: undef :: undef :: undef :: undef :: undef :: undef :: undef :: undef :: undef :: undef :: undef :: undef :: undef :: undef :: undef :: undef :: undef :: undef :: undef :: undef :: undef :: undef :: undef :: undef :: []).toArray, []⟩) (by kernel_rfl) ?_
    refine wp_seq ?_
    refine sx_region ?_
    refine sn 2 #[.bool a.g, .slice a.p a.xs.length a.c, .int .i64 a.e, .bool b.g, .slice b.p b.xs.length b.c, .int .i64 b.e] 27 (fun V1 hbV1 hzV1 b2 => ?_)
    refine sv 4 (.bool false) ?_
    refine sx_nil ?_
    refine sx_then ?_
    refine wp_seq ?_
    refine sx_region ?_
    refine sv 14 (.agg #[.bool a.g, .slice a.p a.xs.length a.c, .int .i64 a.e, .bool b.g, .slice b.p b.xs.length b.c, .int .i64 b.e]) ?_ (hr := (exec_ld (by kernel_rfl) (run_ld b2 hT27 0 [.bool a.g, .slice a.p a.xs.length a.c, .int .i64 a.e, .bool b.g, .slice b.p b.xs.length b.c, .int .i64 b.e] (by kernel_rfl) (by kernel_rfl))))
    refine sv 15 (.int .i64 n) ?_
    replace ia := (ia.past hbV1)
    replace ib := (ib.past hbV1)
    replace hT := (hT.past hbV1)
    refine se 16 21 #[.agg #[.bool a.g, .slice a.p a.xs.length a.c, .int .i64 a.e, .bool b.g, .slice b.p b.xs.length b.c, .int .i64 b.e], .int .i64 n] (fun Gx hGx => ?_)
    ((with_reducible refine ((HB _ ia ib hT).out).mono ?_))
    rintro eV2 V2 ⟨rfl, hbV2⟩
    have hzV2 := hbV2.size
    refine ⟨.tuple #[.int .i64 0, .bool false, .int .i64 3], rfl, hGx _ _ ?_⟩
    clear hGx Gx
    refine sv 13 (.tuple #[.int .i64 0, .bool false, .int .i64 3]) ?_
    refine sv 17 (.int .i64 0) ?_
    refine sv 18 (.bool false) ?_
    refine sv 19 (.int .i64 3) ?_
    refine sv 5 (.int .i64 0) ?_
    refine sv 6 (.bool false) ?_
    refine sv 7 (.int .i64 3) ?_
    refine sx_nil ?_
    refine sx_then ?_
    refine wp_seq ?_
    refine sx_region ?_
    replace b2 := (b2.past hbV2)
    refine sv 20 (.agg #[.bool a.g, .slice a.p a.xs.length a.c, .int .i64 a.e, .bool b.g, .slice b.p b.xs.length b.c, .int .i64 b.e]) ?_ (hr := (exec_ld (by kernel_rfl) (run_ld b2 hT27 0 [.bool a.g, .slice a.p a.xs.length a.c, .int .i64 a.e, .bool b.g, .slice b.p b.xs.length b.c, .int .i64 b.e] (by kernel_rfl) (by kernel_rfl))))
    replace ia := (ia.past hbV2)
    replace ib := (ib.past hbV2)
    refine se 21 22 #[.agg #[.bool a.g, .slice a.p a.xs.length a.c, .int .i64 a.e, .bool b.g, .slice b.p b.xs.length b.c, .int .i64 b.e]] (fun Gx hGx => ?_)
    ((with_reducible refine ((HC _ ia ib).out).mono ?_))
    rintro eV3 V3 ⟨rfl, hbV3⟩
    have hzV3 := hbV3.size
    refine ⟨.int .i64 0, rfl, hGx _ _ ?_⟩
    clear hGx Gx
    refine sv 8 (.int .i64 0) ?_
    refine sx_nil ?_
    refine sx_then ?_
    refine wp_seq ?_
    refine wp_seq ?_
    refine sx_region ?_
    refine sv 22 (.int .i64 0) ?_
    refine sv 23 (.bool true) ?_
    refine sv 24 (.bool true) ?_
    refine sv 25 (.int .i64 n) ?_
    refine sv 26 (.bool false) ?_ (hr := ((show _ = Result.ok (Next.value (.bool (decide (n < 1)))) _ from (by kernel_rfl)).trans (congrArg (fun z => Result.ok (Next.value (.bool z)) _) (show (decide (n < 1)) = false from decide_eq_false h1))))
    refine sv 27 (.bool false) ?_
    refine sv 28 (.int .i64 n) ?_
    refine sv 29 (.bool true) ?_ (hr := ((show _ = Result.ok (Next.value (.bool (decide (n > 4096)))) _ from (by kernel_rfl)).trans (congrArg (fun z => Result.ok (Next.value (.bool z)) _) (show (decide (n > 4096)) = true from decide_eq_true (by omega)))))
    refine sv 30 (.bool true) ?_
    refine sv 31 (.bool true) ?_
    refine sx_nil ?_
    refine sx_then ?_
    refine wp_cond_true (by kernel_rfl) ?_
    refine sx_region ?_
    refine sv 8 (.int .i64 3) ?_
    refine sx_nil ?_
    refine sx_then ?_
    refine wp_seq ?_
    refine wp_seq ?_
    refine sx_region ?_
    replace hT := (hT.past (bthru hbV2 hbV3))
    refine se 32 10 #[] (fun Gx hGx => ?_)
    ((with_reducible refine (seriesBegun_any _ hT).mono ?_))
    rintro eV4 V4 ⟨rfl, hbV4⟩
    have hzV4 := hbV4.size
    refine ⟨.bool true, rfl, hGx _ _ ?_⟩
    clear hGx Gx
    refine sv 33 (.bool false) ?_
    refine sv 34 (.bool false) ?_
    refine sv 35 (.int .i64 3) ?_
    refine sv 36 (.int .i64 3) ?_
    refine sv 37 (.bool false) ?_
    refine sv 38 (.bool false) ?_
    refine sv 39 (.bool false) ?_
    refine sv 40 (.int .i64 3) ?_
    refine sv 41 (.bool true) ?_
    refine sv 42 (.bool true) ?_
    refine sx_nil ?_
    refine sx_then ?_
    refine wp_cond_true (by kernel_rfl) ?_
    refine wp_seq ?_
    refine sx_region ?_
    replace hT := (hT.past hbV4)
    refine se 43 10 #[] (fun Gx hGx => ?_)
    ((with_reducible refine (seriesBegun_any _ hT).mono ?_))
    rintro eV5 V5 ⟨rfl, hbV5⟩
    have hzV5 := hbV5.size
    refine ⟨.bool true, rfl, hGx _ _ ?_⟩
    clear hGx Gx
    refine sv 44 (.bool true) ?_
    refine sv 45 (.int .i64 3) ?_
    refine sv 46 (.int .i64 3) ?_
    refine sv 47 (.bool true) ?_
    refine sv 48 (.bool true) ?_
    refine sv 49 (.bool true) ?_
    refine sv 50 (.int .i64 0) ?_
    refine sv 51 (.bool true) ?_
    refine sv 52 (.bool true) ?_
    refine sv 53 (.bool true) ?_
    refine sv 54 (.bool false) ?_
    refine sv 55 (.bool true) ?_
    refine sv 56 (.bool true) ?_
    refine sv 4 (.bool true) ?_
    refine sx_nil ?_
    refine sx_then ?_
    refine wp_ret ?_
    repeat (first | with_reducible refine sx_thenret ?_ | with_reducible refine sx_blockret ?_)
    refine bodyPost_ret (v := .bool true) (by simp [results, Tryd.results7, go_sem]) rfl ?_
    exact ⟨rfl, (bthru (bthru (bthru (bthru hbV1 hbV2) hbV3) hbV4) hbV5)⟩

end Go.Proofs.YtehodhanojgkgaaDoor
