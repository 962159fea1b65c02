/- The law SeriesBrackets: its walk, where nothing is wrong. -/
import Derived.Test.YtehodhanojgkgaaDoorZLSe7
namespace Go.Slip
theorem dSign_cases (x : Dv) : dSign x = 0 ∨ dSign x = 1 ∨ dSign x = -1 := by unfold dSign; split; exact .inl rfl; split; exact .inr (.inr rfl); exact .inr (.inl rfl)
theorem dSgN {x : Dv} (bx : Bare x) (h : x.neg = true) : dSign x = -1 := by
  unfold dSign
  rcases bx with h1 | rfl
  · rw [if_neg (by omega), h]; rfl
  · simp at h
theorem dSgP {x : Dv} (h : x.neg = false) : dSign x = 0 ∨ dSign x = 1 := by unfold dSign; rw [h]; split; exact .inl rfl; exact .inr rfl
theorem sign_le {l h : Dv} (bl : Bare l) (bh : Bare h) (hle : pCmp l h ≤ 0) : dSign l ≤ dSign h := by
  have k := dSign_cases l
  have k2 := dSign_cases h
  unfold pCmp at hle
  by_cases hc : dSign l ≠ dSign h ∨ dSign l = 0
  · rw [if_pos hc] at hle
    unfold clip at hle
    omega
  · omega
end Go.Slip
namespace Go.Proofs.YtehodhanojgkgaaDoor
open Go.RowKit Go.Slip

set_option maxHeartbeats 4000000 in
set_option maxRecDepth 100000 in
theorem lawBr_sign (a b : Din) (n : Int) (w : World) (ia : InD w a) (ib : InD w b) (hT : TabW w) (he : errBall a b = 0) (hn : 1 ≤ n ∧ n ≤ 4096) (hs : dSign (dyV a) = 0 ∨ dSign (dyV a) ≠ dSign (dyV b)) :
    Calls Tryd.prog 7 #[.agg #[.bool a.g, .slice a.p a.xs.length a.c, .int .i64 a.e, .bool b.g, .slice b.p b.xs.length b.c, .int .i64 b.e], .int .i64 n] w fun en w' => en = .returned (.bool true) ∧ Below w.heap.size w w' := by
  obtain ⟨e1, e2, hle⟩ := errBall_ok he
  have HB := fun W h1 h2 h3 => Lib.hid (bracket_sign a b n W h1 h2 h3 he hn hs)
  have HC := fun W h1 h2 => Lib.hid (refCheckBall_any a b W h1 h2)
  rw [he] at HC
  have HO := fun W h1 h2 => Lib.hid (rofballD a b W h1 h2 e1 e2)
  have fl := dyV_fitF ia e1
  have fh := dyV_fitF ib e2
  have bl := dyV_bare a
  have bh := dyV_bare b
  generalize dyV a = l at *
  generalize dyV b = h at *
  have gl : FitR l := ⟨fl.len, fl.lo, fl.hi⟩
  have gh : FitR h := ⟨fh.len, fh.lo, fh.hi⟩
  have hsg := sign_le bl bh hle
  by_cases hneg : l.neg = true
  · have hk : dSign (dMinus h) ≤ 0 := by
      rw [dSign_minus]
      have := dSgN bl hneg
      have := dSign_cases h
      omega
    have hT4 : SxOne Tryd.prog 4 := sxOne_of (by kernel_rfl) (by kernel_rfl)
    have hT27 : SxAgg Tryd.prog 27 6 := sxAgg_of (by kernel_rfl) (by kernel_rfl)
    have hT36 : SxAgg Tryd.prog 36 3 := sxAgg_of (by kernel_rfl) (by kernel_rfl)
    have hT38 : SxAgg Tryd.prog 38 6 := sxAgg_of (by kernel_rfl) (by kernel_rfl)
    refine calls_of_wp Tryd.func7 rfl ?_
    refine sx_frame (a' := ⟨((.agg #[.bool a.g, .slice a.p a.xs.length a.c, .int .i64 a.e, .bool b.g, .slice b.p b.xs.length b.c, .int .i64 b.e]) :: (.int .i64 n) :: undef :: undef :: undef :: undef :: undef :: undef :: undef :: undef :: undef :: undef :: undef :: undef :: undef :: undef :: undef :: undef :: undef :: undef :: undef :: undef :: undef :: undef :: undef :: undef :: undef :: undef :: undef :: undef :: undef :: undef :: undef :: undef :: undef :: undef :: undef :: undef :: undef :: undef :: undef :: undef :: undef :: undef :: undef :: undef :: undef :: undef :: undef :: undef :: undef :: undef :: undef :: undef :: undef :: undef :: undef :: undef :: undef :: undef :: undef :: undef :: undef :: undef :: undef :: undef :: undef :: undef :: undef :: undef :: undef :: undef :: undef :: undef :: undef :: undef :: undef :: undef :: undef :: undef :: undef :: undef :: undef :: undef :: undef :: undef :: undef :: undef :: undef :: undef :: undef :: undef :: undef :: undef :: undef :: undef :: undef :: undef :: undef :: undef :: undef :: undef :: undef :: undef :: undef :: undef :: undef :: undef :: undef :: undef :: undef :: []).toArray, []⟩) (by kernel_rfl) ?_
    refine wp_seq ?_
    refine sx_region ?_
    refine sn 2 #[.bool a.g, .slice a.p a.xs.length a.c, .int .i64 a.e, .bool b.g, .slice b.p b.xs.length b.c, .int .i64 b.e] 27 (fun V1 hbV1 hzV1 b2 => ?_)
    refine sv 4 (.bool false) ?_
    refine sx_nil ?_
    refine sx_then ?_
    refine wp_seq ?_
    refine sx_region ?_
    refine sv 14 (.agg #[.bool a.g, .slice a.p a.xs.length a.c, .int .i64 a.e, .bool b.g, .slice b.p b.xs.length b.c, .int .i64 b.e]) ?_ (hr := (exec_ld (by kernel_rfl) (run_ld b2 hT27 0 [.bool a.g, .slice a.p a.xs.length a.c, .int .i64 a.e, .bool b.g, .slice b.p b.xs.length b.c, .int .i64 b.e] (by kernel_rfl) (by kernel_rfl))))
    refine sv 15 (.int .i64 n) ?_
    replace ia := (ia.past hbV1)
    replace ib := (ib.past hbV1)
    replace hT := (hT.past hbV1)
    refine se 16 21 #[.agg #[.bool a.g, .slice a.p a.xs.length a.c, .int .i64 a.e, .bool b.g, .slice b.p b.xs.length b.c, .int .i64 b.e], .int .i64 n] (fun Gx hGx => ?_)
    ((with_reducible refine ((HB _ ia ib hT).out).mono ?_))
    rintro eV2 V2 ⟨rfl, hbV2⟩
    have hzV2 := hbV2.size
    refine ⟨.tuple #[.int .i64 0, .bool false, .int .i64 0], rfl, hGx _ _ ?_⟩
    clear hGx Gx
    refine sv 13 (.tuple #[.int .i64 0, .bool false, .int .i64 0]) ?_
    refine sv 17 (.int .i64 0) ?_
    refine sv 18 (.bool false) ?_
    refine sv 19 (.int .i64 0) ?_
    refine sv 5 (.int .i64 0) ?_
    refine sv 6 (.bool false) ?_
    refine sv 7 (.int .i64 0) ?_
    refine sx_nil ?_
    refine sx_then ?_
    refine wp_seq ?_
    refine sx_region ?_
    replace b2 := (b2.past hbV2)
    refine sv 20 (.agg #[.bool a.g, .slice a.p a.xs.length a.c, .int .i64 a.e, .bool b.g, .slice b.p b.xs.length b.c, .int .i64 b.e]) ?_ (hr := (exec_ld (by kernel_rfl) (run_ld b2 hT27 0 [.bool a.g, .slice a.p a.xs.length a.c, .int .i64 a.e, .bool b.g, .slice b.p b.xs.length b.c, .int .i64 b.e] (by kernel_rfl) (by kernel_rfl))))
    replace ia := (ia.past hbV2)
    replace ib := (ib.past hbV2)
    refine se 21 22 #[.agg #[.bool a.g, .slice a.p a.xs.length a.c, .int .i64 a.e, .bool b.g, .slice b.p b.xs.length b.c, .int .i64 b.e]] (fun Gx hGx => ?_)
    ((with_reducible refine ((HC _ ia ib).out).mono ?_))
    rintro eV3 V3 ⟨rfl, hbV3⟩
    have hzV3 := hbV3.size
    refine ⟨.int .i64 0, rfl, hGx _ _ ?_⟩
    clear hGx Gx
    refine sv 8 (.int .i64 0) ?_
    refine sx_nil ?_
    refine sx_then ?_
    refine wp_seq ?_
    refine wp_seq ?_
    refine sx_region ?_
    refine sv 22 (.int .i64 0) ?_
    refine sv 23 (.bool true) ?_
    refine sv 24 (.bool true) ?_
    refine sv 25 (.int .i64 n) ?_
    refine sv 26 (.bool false) ?_ (hr := ((show _ = Result.ok (Next.value (.bool (decide (n < 1)))) _ from (by kernel_rfl)).trans (congrArg (fun z => Result.ok (Next.value (.bool z)) _) (show (decide (n < 1)) = false from decide_eq_false (by omega)))))
    refine sv 27 (.bool false) ?_
    refine sv 28 (.int .i64 n) ?_
    refine sv 29 (.bool false) ?_ (hr := ((show _ = Result.ok (Next.value (.bool (decide (n > 4096)))) _ from (by kernel_rfl)).trans (congrArg (fun z => Result.ok (Next.value (.bool z)) _) (show (decide (n > 4096)) = false from decide_eq_false (by omega)))))
    refine sv 30 (.bool false) ?_
    refine sv 31 (.bool false) ?_
    refine sx_nil ?_
    refine sx_then ?_
    refine wp_cond_false (by kernel_rfl) ?_
    refine wp_skip ?_
    refine sx_then ?_
    refine wp_seq ?_
    refine wp_seq ?_
    refine sx_region ?_
    replace hT := (hT.past (bthru hbV2 hbV3))
    refine se 32 10 #[] (fun Gx hGx => ?_)
    ((with_reducible refine (seriesBegun_any _ hT).mono ?_))
    rintro eV4 V4 ⟨rfl, hbV4⟩
    have hzV4 := hbV4.size
    refine ⟨.bool true, rfl, hGx _ _ ?_⟩
    clear hGx Gx
    refine sv 33 (.bool false) ?_
    refine sv 34 (.bool false) ?_
    refine sv 35 (.int .i64 0) ?_
    refine sv 36 (.int .i64 0) ?_
    refine sv 37 (.bool false) ?_
    refine sv 38 (.bool false) ?_
    refine sv 39 (.bool false) ?_
    refine sv 40 (.int .i64 0) ?_
    refine sv 41 (.bool false) ?_
    refine sv 42 (.bool false) ?_
    refine sx_nil ?_
    refine sx_then ?_
    refine wp_cond_false (by kernel_rfl) ?_
    refine wp_skip ?_
    refine sx_then ?_
    refine wp_seq ?_
    refine sx_region ?_
    replace b2 := (b2.past (bthru hbV3 hbV4))
    refine sv 57 (.agg #[.bool a.g, .slice a.p a.xs.length a.c, .int .i64 a.e, .bool b.g, .slice b.p b.xs.length b.c, .int .i64 b.e]) ?_ (hr := (exec_ld (by kernel_rfl) (run_ld b2 hT27 0 [.bool a.g, .slice a.p a.xs.length a.c, .int .i64 a.e, .bool b.g, .slice b.p b.xs.length b.c, .int .i64 b.e] (by kernel_rfl) (by kernel_rfl))))
    replace ia := (ia.past (bthru hbV3 hbV4))
    replace ib := (ib.past (bthru hbV3 hbV4))
    refine se 58 23 #[.agg #[.bool a.g, .slice a.p a.xs.length a.c, .int .i64 a.e, .bool b.g, .slice b.p b.xs.length b.c, .int .i64 b.e]] (fun Gx hGx => ?_)
    ((with_reducible refine ((HO _ ia ib).out).mono ?_))
    rintro eV5 V5 ⟨p58, c58, q58, d58, rfl, x58, y58, hbV5⟩
    have hzV5 := hbV5.size
    have lx58 := fun h => x58.lt h
    have ly58 := fun h => y58.lt h
    refine ⟨.agg #[.bool l.neg, .slice p58 (dig B16 l.m).length c58, .int .i64 l.e, .bool h.neg, .slice q58 (dig B16 h.m).length d58, .int .i64 h.e], rfl, hGx _ _ ?_⟩
    clear hGx Gx
    refine sn 9 #[.bool false, .slice none 0 0, .int .i64 0, .bool false, .slice none 0 0, .int .i64 0] 38 (fun V6 hbV6 hzV6 b9 => ?_)
    refine ss none b9 hT38 0 #[.bool l.neg, .slice p58 (dig B16 l.m).length c58, .int .i64 l.e, .bool h.neg, .slice q58 (dig B16 h.m).length d58, .int .i64 h.e] #[.bool l.neg, .slice p58 (dig B16 l.m).length c58, .int .i64 l.e, .bool h.neg, .slice q58 (dig B16 h.m).length d58, .int .i64 h.e] ?_
    have boV7 := b9
    clear b9
    intro V7 hOV7 b9
    have hzV7 := hOV7.size
    refine sx_nil ?_
    refine sx_then ?_
    refine wp_seq ?_
    refine sx_cutg (R := fun a' w' => ∃ (kb10 : Nat) (kb11 : Nat), a' = ⟨((.agg #[.bool a.g, .slice a.p a.xs.length a.c, .int .i64 a.e, .bool b.g, .slice b.p b.xs.length b.c, .int .i64 b.e]) :: (.int .i64 n) :: (.pointer (some ⟨w.heap.size, 0, none⟩)) :: undef :: (.bool false) :: (.int .i64 0) :: (.bool false) :: (.int .i64 0) :: (.int .i64 0) :: (.pointer (some ⟨V5.heap.size, 0, none⟩)) :: (.pointer (some ⟨kb10, 0, none⟩)) :: (.pointer (some ⟨kb11, 0, none⟩)) :: undef :: (.tuple #[.int .i64 0, .bool false, .int .i64 0]) :: (.agg #[.bool a.g, .slice a.p a.xs.length a.c, .int .i64 a.e, .bool b.g, .slice b.p b.xs.length b.c, .int .i64 b.e]) :: (.int .i64 n) :: (.tuple #[.int .i64 0, .bool false, .int .i64 0]) :: (.int .i64 0) :: (.bool false) :: (.int .i64 0) :: (.agg #[.bool a.g, .slice a.p a.xs.length a.c, .int .i64 a.e, .bool b.g, .slice b.p b.xs.length b.c, .int .i64 b.e]) :: (.int .i64 0) :: (.int .i64 0) :: (.bool true) :: (.bool true) :: (.int .i64 n) :: (.bool false) :: (.bool false) :: (.int .i64 n) :: (.bool false) :: (.bool false) :: (.bool false) :: (.bool true) :: (.bool false) :: (.bool false) :: (.int .i64 0) :: (.int .i64 0) :: (.bool false) :: (.bool false) :: (.bool false) :: (.int .i64 0) :: (.bool false) :: (.bool false) :: undef :: undef :: undef :: undef :: undef :: undef :: undef :: undef :: undef :: undef :: undef :: undef :: undef :: undef :: (.agg #[.bool a.g, .slice a.p a.xs.length a.c, .int .i64 a.e, .bool b.g, .slice b.p b.xs.length b.c, .int .i64 b.e]) :: (.agg #[.bool l.neg, .slice p58 (dig B16 l.m).length c58, .int .i64 l.e, .bool h.neg, .slice q58 (dig B16 h.m).length d58, .int .i64 h.e]) :: (.pointer (some ⟨V5.heap.size, 0, none⟩)) :: (.agg #[.bool l.neg, .slice p58 (dig B16 l.m).length c58, .int .i64 l.e]) :: (.pointer (some ⟨V5.heap.size, 3, none⟩)) :: (.agg #[.bool h.neg, .slice q58 (dig B16 h.m).length d58, .int .i64 h.e]) :: undef :: undef :: undef :: undef :: undef :: undef :: undef :: undef :: undef :: undef :: undef :: undef :: undef :: undef :: undef :: undef :: undef :: undef :: undef :: undef :: undef :: undef :: undef :: undef :: undef :: undef :: undef :: undef :: undef :: undef :: undef :: undef :: undef :: undef :: undef :: undef :: undef :: undef :: undef :: undef :: undef :: undef :: undef :: undef :: undef :: undef :: undef :: undef :: []).toArray, []⟩ ∧ Bt w' kb10 36 #[.bool l.neg, .slice p58 (dig B16 l.m).length c58, .int .i64 l.e] ∧ Bt w' kb11 36 #[.bool h.neg, .slice q58 (dig B16 h.m).length d58, .int .i64 h.e] ∧ Below V7.heap.size V7 w' ∧ V7.heap.size ≤ kb10 ∧ V7.heap.size ≤ kb11 ∧ kb11 ≠ kb10) ?_ (fun Gx hGx => ?_)
    · skip
      obtain ⟨V8, hVV8⟩ : ∃ V, V = (V7).drew := ⟨_, rfl⟩
      have hbV8 : Below (V7).heap.size (V7) V8 := by rw [hVV8]; exact (Below.refl _ _).drew
      have hzV8 : V8.heap.size = (V7).heap.size := by rw [hVV8]; rfl
      replace b9 := (b9.past hbV8)
      refine sxd _ (fun w' => Bt w' V5.heap.size 38 #[.bool l.neg, .slice p58 (dig B16 l.m).length c58, .int .i64 l.e, .bool h.neg, .slice q58 (dig B16 h.m).length d58, .int .i64 h.e]) hVV8 b9 ?_
      clear hVV8
      refine tk 0 59 (.pointer (some ⟨V5.heap.size, 0, none⟩)) b9 ?_
      refine tk 1 60 (.agg #[.bool l.neg, .slice p58 (dig B16 l.m).length c58, .int .i64 l.e]) b9 ?_ (hy := fun w' hS => (exec_ld (by kernel_rfl) (run_ld hS hT36 0 [.bool l.neg, .slice p58 (dig B16 l.m).length c58, .int .i64 l.e] (by kernel_rfl) (by kernel_rfl))))
      refine tk 2 61 (.pointer (some ⟨V5.heap.size, 3, none⟩)) b9 ?_
      refine tk 3 62 (.agg #[.bool h.neg, .slice q58 (dig B16 h.m).length d58, .int .i64 h.e]) b9 ?_ (hy := fun w' hS => (exec_ld (by kernel_rfl) (run_ld hS hT36 3 [.bool h.neg, .slice q58 (dig B16 h.m).length d58, .int .i64 h.e] (by kernel_rfl) (by kernel_rfl))))
      refine sxr [4, 5] ?_
      refine rd2 (fun Kx hKx => ?_) ?_
      · skip
        refine snk 10 #[.bool false, .slice none 0 0, .int .i64 0] 36 (fun V9 hbV9 hzV9 b10 => ?_)
        replace b9 := (b9.past hbV9)
        refine hKx.out _ _ b9 ?_
        clear hKx Kx
        refine sxr [5] ?_
        refine rd1 (fun Kx hKx => ?_)
        refine snk 11 #[.bool false, .slice none 0 0, .int .i64 0] 36 (fun V10 hbV10 hzV10 b11 => ?_)
        replace b9 := (b9.past hbV10)
        refine hKx.out _ _ b9 ?_
        clear hKx Kx
        refine sxr [6] ?_
        refine rd1 (fun Kx hKx => ?_)
        replace b10 := (b10.past hbV10)
        refine ssk none b10 hT36 0 #[.bool l.neg, .slice p58 (dig B16 l.m).length c58, .int .i64 l.e] #[.bool l.neg, .slice p58 (dig B16 l.m).length c58, .int .i64 l.e] ?_
        have boV11 := b10
        clear b10
        intro V11 hOV11 b10
        have hzV11 := hOV11.size
        replace b9 := (b9.only hOV11 (by omega))
        refine hKx.out _ _ b9 ?_
        clear hKx Kx
        refine sxr [7] ?_
        refine rd1 (fun Kx hKx => ?_)
        replace b11 := (b11.only hOV11 (by omega))
        refine ssk none b11 hT36 0 #[.bool h.neg, .slice q58 (dig B16 h.m).length d58, .int .i64 h.e] #[.bool h.neg, .slice q58 (dig B16 h.m).length d58, .int .i64 h.e] ?_
        have boV12 := b11
        clear b11
        intro V12 hOV12 b11
        have hzV12 := hOV12.size
        replace b9 := (b9.only hOV12 (by omega))
        refine hKx.out _ _ b9 ?_
        clear hKx Kx
        refine sx_done (by kernel_rfl) ?_
        replace b10 := (b10.only hOV12 (by omega))
        exact ⟨rfl, V8.heap.size, V9.heap.size, by kernel_rfl, b10, b11, (((bthru (bthru hbV8 hbV9) hbV10).trans (hOV11.below (by omega))).trans (hOV12.below (by omega))), by omega, by omega, by omega⟩
      refine rd1 (fun Kx hKx => ?_)
      refine snk 11 #[.bool false, .slice none 0 0, .int .i64 0] 36 (fun V9 hbV9 hzV9 b11 => ?_)
      replace b9 := (b9.past hbV9)
      refine hKx.out _ _ b9 ?_
      clear hKx Kx
      refine sxr [4] ?_
      refine rd1 (fun Kx hKx => ?_)
      refine snk 10 #[.bool false, .slice none 0 0, .int .i64 0] 36 (fun V10 hbV10 hzV10 b10 => ?_)
      replace b9 := (b9.past hbV10)
      refine hKx.out _ _ b9 ?_
      clear hKx Kx
      refine sxr [6] ?_
      refine rd1 (fun Kx hKx => ?_)
      refine ssk none b10 hT36 0 #[.bool l.neg, .slice p58 (dig B16 l.m).length c58, .int .i64 l.e] #[.bool l.neg, .slice p58 (dig B16 l.m).length c58, .int .i64 l.e] ?_
      have boV11 := b10
      clear b10
      intro V11 hOV11 b10
      have hzV11 := hOV11.size
      replace b9 := (b9.only hOV11 (by omega))
      refine hKx.out _ _ b9 ?_
      clear hKx Kx
      refine sxr [7] ?_
      refine rd1 (fun Kx hKx => ?_)
      replace b11 := (b11.past (hbV10.trans (hOV11.below (by omega))))
      refine ssk none b11 hT36 0 #[.bool h.neg, .slice q58 (dig B16 h.m).length d58, .int .i64 h.e] #[.bool h.neg, .slice q58 (dig B16 h.m).length d58, .int .i64 h.e] ?_
      have boV12 := b11
      clear b11
      intro V12 hOV12 b11
      have hzV12 := hOV12.size
      replace b9 := (b9.only hOV12 (by omega))
      refine hKx.out _ _ b9 ?_
      clear hKx Kx
      refine sx_done (by kernel_rfl) ?_
      replace b10 := (b10.only hOV12 (by omega))
      exact ⟨rfl, V9.heap.size, V8.heap.size, by kernel_rfl, b10, b11, (((bthru (bthru hbV8 hbV9) hbV10).trans (hOV11.below (by omega))).trans (hOV12.below (by omega))), by omega, by omega, by omega⟩
    rintro _ V8 ⟨kb10, kb11, rfl, b10, b11, hbV8, hkb10, hkb11, hd_b11_b10⟩
    refine hGx _ _ ?_
    clear hGx Gx
    have hzV8 := hbV8.size
    have hlb10 := b10.lt
    have hlb11 := b11.lt
    refine sx_then ?_
    refine wp_seq ?_
    refine wp_seq ?_
    refine sx_region ?_
    refine sv 63 (.pointer (some ⟨kb10, 0, none⟩)) ?_
    refine sv 64 (.bool true) ?_ (hr := ((show _ = Result.ok (Next.value (.bool (l.neg))) _ from (exec_ld (by kernel_rfl) (run_ld1 b10 hT4 0 (.bool l.neg) (by kernel_rfl)))).trans (congrArg (fun z => Result.ok (Next.value (.bool z)) _) (show (l.neg) = true from hneg))))
    refine sx_nil ?_
    refine sx_then ?_
    refine wp_cond_true (by kernel_rfl) ?_
    obtain ⟨V9, hVV9⟩ : ∃ V, V = (V8).drew := ⟨_, rfl⟩
    have hbV9 : Below (V8).heap.size (V8) V9 := by rw [hVV9]; exact (Below.refl _ _).drew
    have hzV9 : V9.heap.size = (V8).heap.size := by rw [hVV9]; rfl
    refine sxd _ (fun w' => True) hVV9 True.intro ?_
    clear hVV9
    refine sxr [0, 2] ?_
    refine rd2 (fun Kx hKx => ?_) ?_
    · skip
      replace b11 := (b11.past hbV9)
      refine sk 65 (.agg #[.bool h.neg, .slice q58 (dig B16 h.m).length d58, .int .i64 h.e]) ?_ (hr := (exec_ld (by kernel_rfl) (run_ld b11 hT36 0 [.bool h.neg, .slice q58 (dig B16 h.m).length d58, .int .i64 h.e] (by kernel_rfl) (by kernel_rfl))))
      refine hKx.out _ _ True.intro ?_
      clear hKx Kx
      refine sxr [1, 2] ?_
      refine rd2 (fun Kx hKx => ?_) ?_
      · skip
        replace y58 := (y58.past (bthru (bthru (hbV6.trans (hOV7.below (by omega))) hbV8) hbV9))
        replace b10 := (b10.past hbV9)
        refine sek 66 24 #[.agg #[.bool h.neg, .slice q58 (dig B16 h.m).length d58, .int .i64 h.e]] ?_
        ((with_reducible refine (rminusNe h q58 d58 kb10 kb11 _ y58.rd y58.cap (fun hh => by have := ly58 hh; omega) (by have := b10.lt; omega) (by have := b11.lt; omega)).mono ?_))
        rintro eV10 V10 ⟨p66, c66, rfl, x66, hne66, hbV10⟩
        have hzV10 := hbV10.size
        have lx66 := fun h => x66.lt h
        have lx66 := fun hh => hne66 hh
        refine ⟨.agg #[.bool ((dMinus h).neg), .slice p66 (dig B16 (dMinus h).m).length c66, .int .i64 ((dMinus h).e)], rfl, ?_⟩
        refine hKx.out _ _ True.intro ?_
        clear hKx Kx
        refine sxr [2] ?_
        refine rd1 (fun Kx hKx => ?_)
        replace b10 := (b10.past hbV10)
        refine sk 67 (.agg #[.bool l.neg, .slice p58 (dig B16 l.m).length c58, .int .i64 l.e]) ?_ (hr := (exec_ld (by kernel_rfl) (run_ld b10 hT36 0 [.bool l.neg, .slice p58 (dig B16 l.m).length c58, .int .i64 l.e] (by kernel_rfl) (by kernel_rfl))))
        refine hKx.out _ _ True.intro ?_
        clear hKx Kx
        refine sxr [3] ?_
        refine rd1 (fun Kx hKx => ?_)
        replace x58 := (x58.past (bthru (bthru (bthru (hbV6.trans (hOV7.below (by omega))) hbV8) hbV9) hbV10))
        replace b11 := (b11.past hbV10)
        refine sek 68 24 #[.agg #[.bool l.neg, .slice p58 (dig B16 l.m).length c58, .int .i64 l.e]] ?_
        ((with_reducible refine (rminusNe l p58 c58 kb10 kb11 _ x58.rd x58.cap (fun hh => by have := lx58 hh; omega) (by have := b10.lt; omega) (by have := b11.lt; omega)).mono ?_))
        rintro eV11 V11 ⟨p68, c68, rfl, x68, hne68, hbV11⟩
        have hzV11 := hbV11.size
        have lx68 := fun h => x68.lt h
        have lx68 := fun hh => hne68 hh
        refine ⟨.agg #[.bool ((dMinus l).neg), .slice p68 (dig B16 (dMinus l).m).length c68, .int .i64 ((dMinus l).e)], rfl, ?_⟩
        refine hKx.out _ _ True.intro ?_
        clear hKx Kx
        refine sxr [4] ?_
        refine rd1 (fun Kx hKx => ?_)
        replace b10 := (b10.past hbV11)
        refine ssk none b10 hT36 0 #[.bool ((dMinus h).neg), .slice p66 (dig B16 (dMinus h).m).length c66, .int .i64 ((dMinus h).e)] #[.bool ((dMinus h).neg), .slice p66 (dig B16 (dMinus h).m).length c66, .int .i64 ((dMinus h).e)] ?_
        have boV12 := b10
        clear b10
        intro V12 hOV12 b10
        have hzV12 := hOV12.size
        refine hKx.out _ _ True.intro ?_
        clear hKx Kx
        refine sxr [5] ?_
        refine rd1 (fun Kx hKx => ?_)
        replace b11 := ((b11.past hbV11).only hOV12 (by omega))
        refine ssk none b11 hT36 0 #[.bool ((dMinus l).neg), .slice p68 (dig B16 (dMinus l).m).length c68, .int .i64 ((dMinus l).e)] #[.bool ((dMinus l).neg), .slice p68 (dig B16 (dMinus l).m).length c68, .int .i64 ((dMinus l).e)] ?_
        have boV13 := b11
        clear b11
        intro V13 hOV13 b11
        have hzV13 := hOV13.size
        refine hKx.out _ _ True.intro ?_
        clear hKx Kx
        refine sx_done (by kernel_rfl) ?_
        refine sx_then ?_
        refine wp_seq ?_
        refine sx_region ?_
        refine sv 69 (.func (.func 25) #[] #[.pointer (some ⟨kb10, 0, none⟩), .pointer (some ⟨kb11, 0, none⟩)]) ?_
        refine sv 12 (.func (.func 25) #[] #[.pointer (some ⟨kb10, 0, none⟩), .pointer (some ⟨kb11, 0, none⟩)]) ?_
        refine sx_nil ?_
        refine sx_then ?_
        refine wp_seq ?_
        refine wp_seq ?_
        refine sx_region ?_
        replace b10 := (b10.only hOV13 (by omega))
        refine sv 70 (.agg #[.bool ((dMinus h).neg), .slice p66 (dig B16 (dMinus h).m).length c66, .int .i64 ((dMinus h).e)]) ?_ (hr := (exec_ld (by kernel_rfl) (run_ld b10 hT36 0 [.bool ((dMinus h).neg), .slice p66 (dig B16 (dMinus h).m).length c66, .int .i64 ((dMinus h).e)] (by kernel_rfl) (by kernel_rfl))))
        replace x66 := (((x66.past hbV11).only hOV12 (fun h => by have := lx66 h; omega)).only hOV13 (fun h => by have := lx66 h; omega))
        refine se 71 28 #[.agg #[.bool ((dMinus h).neg), .slice p66 (dig B16 (dMinus h).m).length c66, .int .i64 ((dMinus h).e)]] (fun Gx hGx => ?_)
        ((with_reducible refine (rdsign (dMinus h) p66 c66 _ _ x66 gh.minus).mono ?_))
        rintro eV14 V14 ⟨rfl, hbV14⟩
        have hzV14 := hbV14.size
        refine ⟨.int .i64 (dSign (dMinus h)), rfl, hGx _ _ ?_⟩
        clear hGx Gx
        refine sv 72 (.bool true) ?_ (hr := ((show _ = Result.ok (Next.value (.bool (decide ((dSign (dMinus h)) ≤ 0)))) _ from (by kernel_rfl)).trans (congrArg (fun z => Result.ok (Next.value (.bool z)) _) (show (decide ((dSign (dMinus h)) ≤ 0)) = true from decide_eq_true hk))))
        refine sv 73 (.bool true) ?_
        refine so (some 74) ?_
        refine so (some 75) ?_
        refine so (some 76) ?_
        refine sv 77 (.bool true) ?_
        refine sx_nil ?_
        refine sx_then ?_
        refine wp_cond_true (by kernel_rfl) ?_
        refine wp_seq ?_
        refine sx_region ?_
        refine sv 78 (.int .i64 0) ?_
        refine sv 79 (.bool true) ?_
        refine sv 80 (.bool true) ?_
        refine sv 81 (.bool false) ?_
        refine sv 82 (.bool true) ?_
        refine sv 83 (.bool true) ?_
        refine sv 4 (.bool true) ?_
        refine sx_nil ?_
        refine sx_then ?_
        refine wp_ret ?_
        repeat (first | with_reducible refine sx_thenret ?_ | with_reducible refine sx_blockret ?_)
        refine bodyPost_ret (v := .bool true) (by simp [results, Tryd.results7, go_sem]) rfl ?_
        exact ⟨rfl, (bthru (((bthru (bthru (bthru (bthru ((bthru (bthru (bthru (bthru (bthru hbV1 hbV2) hbV3) hbV4) hbV5) hbV6).trans (hOV7.below (by omega))) hbV8) hbV9) hbV10) hbV11).trans (hOV12.below (by omega))).trans (hOV13.below (by omega))) hbV14)⟩
      refine rd1 (fun Kx hKx => ?_)
      replace b10 := (b10.past hbV9)
      refine sk 67 (.agg #[.bool l.neg, .slice p58 (dig B16 l.m).length c58, .int .i64 l.e]) ?_ (hr := (exec_ld (by kernel_rfl) (run_ld b10 hT36 0 [.bool l.neg, .slice p58 (dig B16 l.m).length c58, .int .i64 l.e] (by kernel_rfl) (by kernel_rfl))))
      refine hKx.out _ _ True.intro ?_
      clear hKx Kx
      refine sxr [1] ?_
      refine rd1 (fun Kx hKx => ?_)
      replace y58 := (y58.past (bthru (bthru (hbV6.trans (hOV7.below (by omega))) hbV8) hbV9))
      refine sek 66 24 #[.agg #[.bool h.neg, .slice q58 (dig B16 h.m).length d58, .int .i64 h.e]] ?_
      ((with_reducible refine (rminusNe h q58 d58 kb10 kb11 _ y58.rd y58.cap (fun hh => by have := ly58 hh; omega) (by have := b10.lt; omega) (by have := b11.lt; omega)).mono ?_))
      rintro eV10 V10 ⟨p66, c66, rfl, x66, hne66, hbV10⟩
      have hzV10 := hbV10.size
      have lx66 := fun h => x66.lt h
      have lx66 := fun hh => hne66 hh
      refine ⟨.agg #[.bool ((dMinus h).neg), .slice p66 (dig B16 (dMinus h).m).length c66, .int .i64 ((dMinus h).e)], rfl, ?_⟩
      refine hKx.out _ _ True.intro ?_
      clear hKx Kx
      refine sxr [3] ?_
      refine rd1 (fun Kx hKx => ?_)
      replace x58 := (x58.past (bthru (bthru (bthru (hbV6.trans (hOV7.below (by omega))) hbV8) hbV9) hbV10))
      replace b10 := (b10.past hbV10)
      replace b11 := (b11.past hbV10)
      refine sek 68 24 #[.agg #[.bool l.neg, .slice p58 (dig B16 l.m).length c58, .int .i64 l.e]] ?_
      ((with_reducible refine (rminusNe l p58 c58 kb10 kb11 _ x58.rd x58.cap (fun hh => by have := lx58 hh; omega) (by have := b10.lt; omega) (by have := b11.lt; omega)).mono ?_))
      rintro eV11 V11 ⟨p68, c68, rfl, x68, hne68, hbV11⟩
      have hzV11 := hbV11.size
      have lx68 := fun h => x68.lt h
      have lx68 := fun hh => hne68 hh
      refine ⟨.agg #[.bool ((dMinus l).neg), .slice p68 (dig B16 (dMinus l).m).length c68, .int .i64 ((dMinus l).e)], rfl, ?_⟩
      refine hKx.out _ _ True.intro ?_
      clear hKx Kx
      refine sxr [4] ?_
      refine rd1 (fun Kx hKx => ?_)
      replace b10 := (b10.past hbV11)
      refine ssk none b10 hT36 0 #[.bool ((dMinus h).neg), .slice p66 (dig B16 (dMinus h).m).length c66, .int .i64 ((dMinus h).e)] #[.bool ((dMinus h).neg), .slice p66 (dig B16 (dMinus h).m).length c66, .int .i64 ((dMinus h).e)] ?_
      have boV12 := b10
      clear b10
      intro V12 hOV12 b10
      have hzV12 := hOV12.size
      refine hKx.out _ _ True.intro ?_
      clear hKx Kx
      refine sxr [5] ?_
      refine rd1 (fun Kx hKx => ?_)
      replace b11 := ((b11.past hbV11).only hOV12 (by omega))
      refine ssk none b11 hT36 0 #[.bool ((dMinus l).neg), .slice p68 (dig B16 (dMinus l).m).length c68, .int .i64 ((dMinus l).e)] #[.bool ((dMinus l).neg), .slice p68 (dig B16 (dMinus l).m).length c68, .int .i64 ((dMinus l).e)] ?_
      have boV13 := b11
      clear b11
      intro V13 hOV13 b11
      have hzV13 := hOV13.size
      refine hKx.out _ _ True.intro ?_
      clear hKx Kx
      refine sx_done (by kernel_rfl) ?_
      refine sx_then ?_
      refine wp_seq ?_
      refine sx_region ?_
      refine sv 69 (.func (.func 25) #[] #[.pointer (some ⟨kb10, 0, none⟩), .pointer (some ⟨kb11, 0, none⟩)]) ?_
      refine sv 12 (.func (.func 25) #[] #[.pointer (some ⟨kb10, 0, none⟩), .pointer (some ⟨kb11, 0, none⟩)]) ?_
      refine sx_nil ?_
      refine sx_then ?_
      refine wp_seq ?_
      refine wp_seq ?_
      refine sx_region ?_
      replace b10 := (b10.only hOV13 (by omega))
      refine sv 70 (.agg #[.bool ((dMinus h).neg), .slice p66 (dig B16 (dMinus h).m).length c66, .int .i64 ((dMinus h).e)]) ?_ (hr := (exec_ld (by kernel_rfl) (run_ld b10 hT36 0 [.bool ((dMinus h).neg), .slice p66 (dig B16 (dMinus h).m).length c66, .int .i64 ((dMinus h).e)] (by kernel_rfl) (by kernel_rfl))))
      replace x66 := (((x66.past hbV11).only hOV12 (fun h => by have := lx66 h; omega)).only hOV13 (fun h => by have := lx66 h; omega))
      refine se 71 28 #[.agg #[.bool ((dMinus h).neg), .slice p66 (dig B16 (dMinus h).m).length c66, .int .i64 ((dMinus h).e)]] (fun Gx hGx => ?_)
      ((with_reducible refine (rdsign (dMinus h) p66 c66 _ _ x66 gh.minus).mono ?_))
      rintro eV14 V14 ⟨rfl, hbV14⟩
      have hzV14 := hbV14.size
      refine ⟨.int .i64 (dSign (dMinus h)), rfl, hGx _ _ ?_⟩
      clear hGx Gx
      refine sv 72 (.bool true) ?_ (hr := ((show _ = Result.ok (Next.value (.bool (decide ((dSign (dMinus h)) ≤ 0)))) _ from (by kernel_rfl)).trans (congrArg (fun z => Result.ok (Next.value (.bool z)) _) (show (decide ((dSign (dMinus h)) ≤ 0)) = true from decide_eq_true hk))))
      refine sv 73 (.bool true) ?_
      refine so (some 74) ?_
      refine so (some 75) ?_
      refine so (some 76) ?_
      refine sv 77 (.bool true) ?_
      refine sx_nil ?_
      refine sx_then ?_
      refine wp_cond_true (by kernel_rfl) ?_
      refine wp_seq ?_
      refine sx_region ?_
      refine sv 78 (.int .i64 0) ?_
      refine sv 79 (.bool true) ?_
      refine sv 80 (.bool true) ?_
      refine sv 81 (.bool false) ?_
      refine sv 82 (.bool true) ?_
      refine sv 83 (.bool true) ?_
      refine sv 4 (.bool true) ?_
      refine sx_nil ?_
      refine sx_then ?_
      refine wp_ret ?_
      repeat (first | with_reducible refine sx_thenret ?_ | with_reducible refine sx_blockret ?_)
      refine bodyPost_ret (v := .bool true) (by simp [results, Tryd.results7, go_sem]) rfl ?_
      exact ⟨rfl, (bthru (((bthru (bthru (bthru (bthru ((bthru (bthru (bthru (bthru (bthru hbV1 hbV2) hbV3) hbV4) hbV5) hbV6).trans (hOV7.below (by omega))) hbV8) hbV9) hbV10) hbV11).trans (hOV12.below (by omega))).trans (hOV13.below (by omega))) hbV14)⟩
    refine rd1 (fun Kx hKx => ?_)
    replace b10 := (b10.past hbV9)
    refine sk 67 (.agg #[.bool l.neg, .slice p58 (dig B16 l.m).length c58, .int .i64 l.e]) ?_ (hr := (exec_ld (by kernel_rfl) (run_ld b10 hT36 0 [.bool l.neg, .slice p58 (dig B16 l.m).length c58, .int .i64 l.e] (by kernel_rfl) (by kernel_rfl))))
    refine hKx.out _ _ True.intro ?_
    clear hKx Kx
    refine sxr [0] ?_
    refine rd1 (fun Kx hKx => ?_)
    replace b11 := (b11.past hbV9)
    refine sk 65 (.agg #[.bool h.neg, .slice q58 (dig B16 h.m).length d58, .int .i64 h.e]) ?_ (hr := (exec_ld (by kernel_rfl) (run_ld b11 hT36 0 [.bool h.neg, .slice q58 (dig B16 h.m).length d58, .int .i64 h.e] (by kernel_rfl) (by kernel_rfl))))
    refine hKx.out _ _ True.intro ?_
    clear hKx Kx
    refine sxr [1] ?_
    refine rd1 (fun Kx hKx => ?_)
    replace y58 := (y58.past (bthru (bthru (hbV6.trans (hOV7.below (by omega))) hbV8) hbV9))
    refine sek 66 24 #[.agg #[.bool h.neg, .slice q58 (dig B16 h.m).length d58, .int .i64 h.e]] ?_
    ((with_reducible refine (rminusNe h q58 d58 kb10 kb11 _ y58.rd y58.cap (fun hh => by have := ly58 hh; omega) (by have := b10.lt; omega) (by have := b11.lt; omega)).mono ?_))
    rintro eV10 V10 ⟨p66, c66, rfl, x66, hne66, hbV10⟩
    have hzV10 := hbV10.size
    have lx66 := fun h => x66.lt h
    have lx66 := fun hh => hne66 hh
    refine ⟨.agg #[.bool ((dMinus h).neg), .slice p66 (dig B16 (dMinus h).m).length c66, .int .i64 ((dMinus h).e)], rfl, ?_⟩
    refine hKx.out _ _ True.intro ?_
    clear hKx Kx
    refine sxr [3] ?_
    refine rd1 (fun Kx hKx => ?_)
    replace x58 := (x58.past (bthru (bthru (bthru (hbV6.trans (hOV7.below (by omega))) hbV8) hbV9) hbV10))
    replace b10 := (b10.past hbV10)
    replace b11 := (b11.past hbV10)
    refine sek 68 24 #[.agg #[.bool l.neg, .slice p58 (dig B16 l.m).length c58, .int .i64 l.e]] ?_
    ((with_reducible refine (rminusNe l p58 c58 kb10 kb11 _ x58.rd x58.cap (fun hh => by have := lx58 hh; omega) (by have := b10.lt; omega) (by have := b11.lt; omega)).mono ?_))
    rintro eV11 V11 ⟨p68, c68, rfl, x68, hne68, hbV11⟩
    have hzV11 := hbV11.size
    have lx68 := fun h => x68.lt h
    have lx68 := fun hh => hne68 hh
    refine ⟨.agg #[.bool ((dMinus l).neg), .slice p68 (dig B16 (dMinus l).m).length c68, .int .i64 ((dMinus l).e)], rfl, ?_⟩
    refine hKx.out _ _ True.intro ?_
    clear hKx Kx
    refine sxr [4] ?_
    refine rd1 (fun Kx hKx => ?_)
    replace b10 := (b10.past hbV11)
    refine ssk none b10 hT36 0 #[.bool ((dMinus h).neg), .slice p66 (dig B16 (dMinus h).m).length c66, .int .i64 ((dMinus h).e)] #[.bool ((dMinus h).neg), .slice p66 (dig B16 (dMinus h).m).length c66, .int .i64 ((dMinus h).e)] ?_
    have boV12 := b10
    clear b10
    intro V12 hOV12 b10
    have hzV12 := hOV12.size
    refine hKx.out _ _ True.intro ?_
    clear hKx Kx
    refine sxr [5] ?_
    refine rd1 (fun Kx hKx => ?_)
    replace b11 := ((b11.past hbV11).only hOV12 (by omega))
    refine ssk none b11 hT36 0 #[.bool ((dMinus l).neg), .slice p68 (dig B16 (dMinus l).m).length c68, .int .i64 ((dMinus l).e)] #[.bool ((dMinus l).neg), .slice p68 (dig B16 (dMinus l).m).length c68, .int .i64 ((dMinus l).e)] ?_
    have boV13 := b11
    clear b11
    intro V13 hOV13 b11
    have hzV13 := hOV13.size
    refine hKx.out _ _ True.intro ?_
    clear hKx Kx
    refine sx_done (by kernel_rfl) ?_
    refine sx_then ?_
    refine wp_seq ?_
    refine sx_region ?_
    refine sv 69 (.func (.func 25) #[] #[.pointer (some ⟨kb10, 0, none⟩), .pointer (some ⟨kb11, 0, none⟩)]) ?_
    refine sv 12 (.func (.func 25) #[] #[.pointer (some ⟨kb10, 0, none⟩), .pointer (some ⟨kb11, 0, none⟩)]) ?_
    refine sx_nil ?_
    refine sx_then ?_
    refine wp_seq ?_
    refine wp_seq ?_
    refine sx_region ?_
    replace b10 := (b10.only hOV13 (by omega))
    refine sv 70 (.agg #[.bool ((dMinus h).neg), .slice p66 (dig B16 (dMinus h).m).length c66, .int .i64 ((dMinus h).e)]) ?_ (hr := (exec_ld (by kernel_rfl) (run_ld b10 hT36 0 [.bool ((dMinus h).neg), .slice p66 (dig B16 (dMinus h).m).length c66, .int .i64 ((dMinus h).e)] (by kernel_rfl) (by kernel_rfl))))
    replace x66 := (((x66.past hbV11).only hOV12 (fun h => by have := lx66 h; omega)).only hOV13 (fun h => by have := lx66 h; omega))
    refine se 71 28 #[.agg #[.bool ((dMinus h).neg), .slice p66 (dig B16 (dMinus h).m).length c66, .int .i64 ((dMinus h).e)]] (fun Gx hGx => ?_)
    ((with_reducible refine (rdsign (dMinus h) p66 c66 _ _ x66 gh.minus).mono ?_))
    rintro eV14 V14 ⟨rfl, hbV14⟩
    have hzV14 := hbV14.size
    refine ⟨.int .i64 (dSign (dMinus h)), rfl, hGx _ _ ?_⟩
    clear hGx Gx
    refine sv 72 (.bool true) ?_ (hr := ((show _ = Result.ok (Next.value (.bool (decide ((dSign (dMinus h)) ≤ 0)))) _ from (by kernel_rfl)).trans (congrArg (fun z => Result.ok (Next.value (.bool z)) _) (show (decide ((dSign (dMinus h)) ≤ 0)) = true from decide_eq_true hk))))
    refine sv 73 (.bool true) ?_
    refine so (some 74) ?_
    refine so (some 75) ?_
    refine so (some 76) ?_
    refine sv 77 (.bool true) ?_
    refine sx_nil ?_
    refine sx_then ?_
    refine wp_cond_true (by kernel_rfl) ?_
    refine wp_seq ?_
    refine sx_region ?_
    refine sv 78 (.int .i64 0) ?_
    refine sv 79 (.bool true) ?_
    refine sv 80 (.bool true) ?_
    refine sv 81 (.bool false) ?_
    refine sv 82 (.bool true) ?_
    refine sv 83 (.bool true) ?_
    refine sv 4 (.bool true) ?_
    refine sx_nil ?_
    refine sx_then ?_
    refine wp_ret ?_
    repeat (first | with_reducible refine sx_thenret ?_ | with_reducible refine sx_blockret ?_)
    refine bodyPost_ret (v := .bool true) (by simp [results, Tryd.results7, go_sem]) rfl ?_
    exact ⟨rfl, (bthru (((bthru (bthru (bthru (bthru ((bthru (bthru (bthru (bthru (bthru hbV1 hbV2) hbV3) hbV4) hbV5) hbV6).trans (hOV7.below (by omega))) hbV8) hbV9) hbV10) hbV11).trans (hOV12.below (by omega))).trans (hOV13.below (by omega))) hbV14)⟩
  · replace hneg : l.neg = false := by simpa using hneg
    have hk : dSign l ≤ 0 := by
      have := dSgP hneg
      have := dSign_cases h
      omega
    have hT4 : SxOne Tryd.prog 4 := sxOne_of (by kernel_rfl) (by kernel_rfl)
    have hT27 : SxAgg Tryd.prog 27 6 := sxAgg_of (by kernel_rfl) (by kernel_rfl)
    have hT36 : SxAgg Tryd.prog 36 3 := sxAgg_of (by kernel_rfl) (by kernel_rfl)
    have hT38 : SxAgg Tryd.prog 38 6 := sxAgg_of (by kernel_rfl) (by kernel_rfl)
    refine calls_of_wp Tryd.func7 rfl ?_
    refine sx_frame (a' := ⟨((.agg #[.bool a.g, .slice a.p a.xs.length a.c, .int .i64 a.e, .bool b.g, .slice b.p b.xs.length b.c, .int .i64 b.e]) :: (.int .i64 n) :: undef :: undef :: undef :: undef :: undef :: undef :: undef :: undef :: undef :: undef :: undef :: undef :: undef :: undef :: undef :: undef :: undef :: undef :: undef :: undef :: undef :: undef :: undef :: undef :: undef :: undef :: undef :: undef :: undef :: undef :: undef :: undef :: undef :: undef :: undef :: undef :: undef :: undef :: undef :: undef :: undef :: undef :: undef :: undef :: undef :: undef :: undef :: undef :: undef :: undef :: undef :: undef :: undef :: undef :: undef :: undef :: undef :: undef :: undef :: undef :: undef :: undef :: undef :: undef :: undef :: undef :: undef :: undef :: undef :: undef :: undef :: undef :: undef :: undef :: undef :: undef :: undef :: undef :: undef :: undef :: undef :: undef :: undef :: undef :: undef :: undef :: undef :: undef :: undef :: undef :: undef :: undef :: undef :: undef :: undef :: undef :: undef :: undef :: undef :: undef :: undef :: undef :: undef :: undef :: undef :: undef :: undef :: undef :: undef :: []).toArray, []⟩) (by kernel_rfl) ?_
    refine wp_seq ?_
    refine sx_region ?_
    refine sn 2 #[.bool a.g, .slice a.p a.xs.length a.c, .int .i64 a.e, .bool b.g, .slice b.p b.xs.length b.c, .int .i64 b.e] 27 (fun V1 hbV1 hzV1 b2 => ?_)
    refine sv 4 (.bool false) ?_
    refine sx_nil ?_
    refine sx_then ?_
    refine wp_seq ?_
    refine sx_region ?_
    refine sv 14 (.agg #[.bool a.g, .slice a.p a.xs.length a.c, .int .i64 a.e, .bool b.g, .slice b.p b.xs.length b.c, .int .i64 b.e]) ?_ (hr := (exec_ld (by kernel_rfl) (run_ld b2 hT27 0 [.bool a.g, .slice a.p a.xs.length a.c, .int .i64 a.e, .bool b.g, .slice b.p b.xs.length b.c, .int .i64 b.e] (by kernel_rfl) (by kernel_rfl))))
    refine sv 15 (.int .i64 n) ?_
    replace ia := (ia.past hbV1)
    replace ib := (ib.past hbV1)
    replace hT := (hT.past hbV1)
    refine se 16 21 #[.agg #[.bool a.g, .slice a.p a.xs.length a.c, .int .i64 a.e, .bool b.g, .slice b.p b.xs.length b.c, .int .i64 b.e], .int .i64 n] (fun Gx hGx => ?_)
    ((with_reducible refine ((HB _ ia ib hT).out).mono ?_))
    rintro eV2 V2 ⟨rfl, hbV2⟩
    have hzV2 := hbV2.size
    refine ⟨.tuple #[.int .i64 0, .bool false, .int .i64 0], rfl, hGx _ _ ?_⟩
    clear hGx Gx
    refine sv 13 (.tuple #[.int .i64 0, .bool false, .int .i64 0]) ?_
    refine sv 17 (.int .i64 0) ?_
    refine sv 18 (.bool false) ?_
    refine sv 19 (.int .i64 0) ?_
    refine sv 5 (.int .i64 0) ?_
    refine sv 6 (.bool false) ?_
    refine sv 7 (.int .i64 0) ?_
    refine sx_nil ?_
    refine sx_then ?_
    refine wp_seq ?_
    refine sx_region ?_
    replace b2 := (b2.past hbV2)
    refine sv 20 (.agg #[.bool a.g, .slice a.p a.xs.length a.c, .int .i64 a.e, .bool b.g, .slice b.p b.xs.length b.c, .int .i64 b.e]) ?_ (hr := (exec_ld (by kernel_rfl) (run_ld b2 hT27 0 [.bool a.g, .slice a.p a.xs.length a.c, .int .i64 a.e, .bool b.g, .slice b.p b.xs.length b.c, .int .i64 b.e] (by kernel_rfl) (by kernel_rfl))))
    replace ia := (ia.past hbV2)
    replace ib := (ib.past hbV2)
    refine se 21 22 #[.agg #[.bool a.g, .slice a.p a.xs.length a.c, .int .i64 a.e, .bool b.g, .slice b.p b.xs.length b.c, .int .i64 b.e]] (fun Gx hGx => ?_)
    ((with_reducible refine ((HC _ ia ib).out).mono ?_))
    rintro eV3 V3 ⟨rfl, hbV3⟩
    have hzV3 := hbV3.size
    refine ⟨.int .i64 0, rfl, hGx _ _ ?_⟩
    clear hGx Gx
    refine sv 8 (.int .i64 0) ?_
    refine sx_nil ?_
    refine sx_then ?_
    refine wp_seq ?_
    refine wp_seq ?_
    refine sx_region ?_
    refine sv 22 (.int .i64 0) ?_
    refine sv 23 (.bool true) ?_
    refine sv 24 (.bool true) ?_
    refine sv 25 (.int .i64 n) ?_
    refine sv 26 (.bool false) ?_ (hr := ((show _ = Result.ok (Next.value (.bool (decide (n < 1)))) _ from (by kernel_rfl)).trans (congrArg (fun z => Result.ok (Next.value (.bool z)) _) (show (decide (n < 1)) = false from decide_eq_false (by omega)))))
    refine sv 27 (.bool false) ?_
    refine sv 28 (.int .i64 n) ?_
    refine sv 29 (.bool false) ?_ (hr := ((show _ = Result.ok (Next.value (.bool (decide (n > 4096)))) _ from (by kernel_rfl)).trans (congrArg (fun z => Result.ok (Next.value (.bool z)) _) (show (decide (n > 4096)) = false from decide_eq_false (by omega)))))
    refine sv 30 (.bool false) ?_
    refine sv 31 (.bool false) ?_
    refine sx_nil ?_
    refine sx_then ?_
    refine wp_cond_false (by kernel_rfl) ?_
    refine wp_skip ?_
    refine sx_then ?_
    refine wp_seq ?_
    refine wp_seq ?_
    refine sx_region ?_
    replace hT := (hT.past (bthru hbV2 hbV3))
    refine se 32 10 #[] (fun Gx hGx => ?_)
    ((with_reducible refine (seriesBegun_any _ hT).mono ?_))
    rintro eV4 V4 ⟨rfl, hbV4⟩
    have hzV4 := hbV4.size
    refine ⟨.bool true, rfl, hGx _ _ ?_⟩
    clear hGx Gx
    refine sv 33 (.bool false) ?_
    refine sv 34 (.bool false) ?_
    refine sv 35 (.int .i64 0) ?_
    refine sv 36 (.int .i64 0) ?_
    refine sv 37 (.bool false) ?_
    refine sv 38 (.bool false) ?_
    refine sv 39 (.bool false) ?_
    refine sv 40 (.int .i64 0) ?_
    refine sv 41 (.bool false) ?_
    refine sv 42 (.bool false) ?_
    refine sx_nil ?_
    refine sx_then ?_
    refine wp_cond_false (by kernel_rfl) ?_
    refine wp_skip ?_
    refine sx_then ?_
    refine wp_seq ?_
    refine sx_region ?_
    replace b2 := (b2.past (bthru hbV3 hbV4))
    refine sv 57 (.agg #[.bool a.g, .slice a.p a.xs.length a.c, .int .i64 a.e, .bool b.g, .slice b.p b.xs.length b.c, .int .i64 b.e]) ?_ (hr := (exec_ld (by kernel_rfl) (run_ld b2 hT27 0 [.bool a.g, .slice a.p a.xs.length a.c, .int .i64 a.e, .bool b.g, .slice b.p b.xs.length b.c, .int .i64 b.e] (by kernel_rfl) (by kernel_rfl))))
    replace ia := (ia.past (bthru hbV3 hbV4))
    replace ib := (ib.past (bthru hbV3 hbV4))
    refine se 58 23 #[.agg #[.bool a.g, .slice a.p a.xs.length a.c, .int .i64 a.e, .bool b.g, .slice b.p b.xs.length b.c, .int .i64 b.e]] (fun Gx hGx => ?_)
    ((with_reducible refine ((HO _ ia ib).out).mono ?_))
    rintro eV5 V5 ⟨p58, c58, q58, d58, rfl, x58, y58, hbV5⟩
    have hzV5 := hbV5.size
    have lx58 := fun h => x58.lt h
    have ly58 := fun h => y58.lt h
    refine ⟨.agg #[.bool l.neg, .slice p58 (dig B16 l.m).length c58, .int .i64 l.e, .bool h.neg, .slice q58 (dig B16 h.m).length d58, .int .i64 h.e], rfl, hGx _ _ ?_⟩
    clear hGx Gx
    refine sn 9 #[.bool false, .slice none 0 0, .int .i64 0, .bool false, .slice none 0 0, .int .i64 0] 38 (fun V6 hbV6 hzV6 b9 => ?_)
    refine ss none b9 hT38 0 #[.bool l.neg, .slice p58 (dig B16 l.m).length c58, .int .i64 l.e, .bool h.neg, .slice q58 (dig B16 h.m).length d58, .int .i64 h.e] #[.bool l.neg, .slice p58 (dig B16 l.m).length c58, .int .i64 l.e, .bool h.neg, .slice q58 (dig B16 h.m).length d58, .int .i64 h.e] ?_
    have boV7 := b9
    clear b9
    intro V7 hOV7 b9
    have hzV7 := hOV7.size
    refine sx_nil ?_
    refine sx_then ?_
    refine wp_seq ?_
    refine sx_cutg (R := fun a' w' => ∃ (kb10 : Nat) (kb11 : Nat), a' = ⟨((.agg #[.bool a.g, .slice a.p a.xs.length a.c, .int .i64 a.e, .bool b.g, .slice b.p b.xs.length b.c, .int .i64 b.e]) :: (.int .i64 n) :: (.pointer (some ⟨w.heap.size, 0, none⟩)) :: undef :: (.bool false) :: (.int .i64 0) :: (.bool false) :: (.int .i64 0) :: (.int .i64 0) :: (.pointer (some ⟨V5.heap.size, 0, none⟩)) :: (.pointer (some ⟨kb10, 0, none⟩)) :: (.pointer (some ⟨kb11, 0, none⟩)) :: undef :: (.tuple #[.int .i64 0, .bool false, .int .i64 0]) :: (.agg #[.bool a.g, .slice a.p a.xs.length a.c, .int .i64 a.e, .bool b.g, .slice b.p b.xs.length b.c, .int .i64 b.e]) :: (.int .i64 n) :: (.tuple #[.int .i64 0, .bool false, .int .i64 0]) :: (.int .i64 0) :: (.bool false) :: (.int .i64 0) :: (.agg #[.bool a.g, .slice a.p a.xs.length a.c, .int .i64 a.e, .bool b.g, .slice b.p b.xs.length b.c, .int .i64 b.e]) :: (.int .i64 0) :: (.int .i64 0) :: (.bool true) :: (.bool true) :: (.int .i64 n) :: (.bool false) :: (.bool false) :: (.int .i64 n) :: (.bool false) :: (.bool false) :: (.bool false) :: (.bool true) :: (.bool false) :: (.bool false) :: (.int .i64 0) :: (.int .i64 0) :: (.bool false) :: (.bool false) :: (.bool false) :: (.int .i64 0) :: (.bool false) :: (.bool false) :: undef :: undef :: undef :: undef :: undef :: undef :: undef :: undef :: undef :: undef :: undef :: undef :: undef :: undef :: (.agg #[.bool a.g, .slice a.p a.xs.length a.c, .int .i64 a.e, .bool b.g, .slice b.p b.xs.length b.c, .int .i64 b.e]) :: (.agg #[.bool l.neg, .slice p58 (dig B16 l.m).length c58, .int .i64 l.e, .bool h.neg, .slice q58 (dig B16 h.m).length d58, .int .i64 h.e]) :: (.pointer (some ⟨V5.heap.size, 0, none⟩)) :: (.agg #[.bool l.neg, .slice p58 (dig B16 l.m).length c58, .int .i64 l.e]) :: (.pointer (some ⟨V5.heap.size, 3, none⟩)) :: (.agg #[.bool h.neg, .slice q58 (dig B16 h.m).length d58, .int .i64 h.e]) :: undef :: undef :: undef :: undef :: undef :: undef :: undef :: undef :: undef :: undef :: undef :: undef :: undef :: undef :: undef :: undef :: undef :: undef :: undef :: undef :: undef :: undef :: undef :: undef :: undef :: undef :: undef :: undef :: undef :: undef :: undef :: undef :: undef :: undef :: undef :: undef :: undef :: undef :: undef :: undef :: undef :: undef :: undef :: undef :: undef :: undef :: undef :: undef :: []).toArray, []⟩ ∧ Bt w' kb10 36 #[.bool l.neg, .slice p58 (dig B16 l.m).length c58, .int .i64 l.e] ∧ Bt w' kb11 36 #[.bool h.neg, .slice q58 (dig B16 h.m).length d58, .int .i64 h.e] ∧ Below V7.heap.size V7 w' ∧ V7.heap.size ≤ kb10 ∧ V7.heap.size ≤ kb11 ∧ kb11 ≠ kb10) ?_ (fun Gx hGx => ?_)
    · skip
      obtain ⟨V8, hVV8⟩ : ∃ V, V = (V7).drew := ⟨_, rfl⟩
      have hbV8 : Below (V7).heap.size (V7) V8 := by rw [hVV8]; exact (Below.refl _ _).drew
      have hzV8 : V8.heap.size = (V7).heap.size := by rw [hVV8]; rfl
      replace b9 := (b9.past hbV8)
      refine sxd _ (fun w' => Bt w' V5.heap.size 38 #[.bool l.neg, .slice p58 (dig B16 l.m).length c58, .int .i64 l.e, .bool h.neg, .slice q58 (dig B16 h.m).length d58, .int .i64 h.e]) hVV8 b9 ?_
      clear hVV8
      refine tk 0 59 (.pointer (some ⟨V5.heap.size, 0, none⟩)) b9 ?_
      refine tk 1 60 (.agg #[.bool l.neg, .slice p58 (dig B16 l.m).length c58, .int .i64 l.e]) b9 ?_ (hy := fun w' hS => (exec_ld (by kernel_rfl) (run_ld hS hT36 0 [.bool l.neg, .slice p58 (dig B16 l.m).length c58, .int .i64 l.e] (by kernel_rfl) (by kernel_rfl))))
      refine tk 2 61 (.pointer (some ⟨V5.heap.size, 3, none⟩)) b9 ?_
      refine tk 3 62 (.agg #[.bool h.neg, .slice q58 (dig B16 h.m).length d58, .int .i64 h.e]) b9 ?_ (hy := fun w' hS => (exec_ld (by kernel_rfl) (run_ld hS hT36 3 [.bool h.neg, .slice q58 (dig B16 h.m).length d58, .int .i64 h.e] (by kernel_rfl) (by kernel_rfl))))
      refine sxr [4, 5] ?_
      refine rd2 (fun Kx hKx => ?_) ?_
      · skip
        refine snk 10 #[.bool false, .slice none 0 0, .int .i64 0] 36 (fun V9 hbV9 hzV9 b10 => ?_)
        replace b9 := (b9.past hbV9)
        refine hKx.out _ _ b9 ?_
        clear hKx Kx
        refine sxr [5] ?_
        refine rd1 (fun Kx hKx => ?_)
        refine snk 11 #[.bool false, .slice none 0 0, .int .i64 0] 36 (fun V10 hbV10 hzV10 b11 => ?_)
        replace b9 := (b9.past hbV10)
        refine hKx.out _ _ b9 ?_
        clear hKx Kx
        refine sxr [6] ?_
        refine rd1 (fun Kx hKx => ?_)
        replace b10 := (b10.past hbV10)
        refine ssk none b10 hT36 0 #[.bool l.neg, .slice p58 (dig B16 l.m).length c58, .int .i64 l.e] #[.bool l.neg, .slice p58 (dig B16 l.m).length c58, .int .i64 l.e] ?_
        have boV11 := b10
        clear b10
        intro V11 hOV11 b10
        have hzV11 := hOV11.size
        replace b9 := (b9.only hOV11 (by omega))
        refine hKx.out _ _ b9 ?_
        clear hKx Kx
        refine sxr [7] ?_
        refine rd1 (fun Kx hKx => ?_)
        replace b11 := (b11.only hOV11 (by omega))
        refine ssk none b11 hT36 0 #[.bool h.neg, .slice q58 (dig B16 h.m).length d58, .int .i64 h.e] #[.bool h.neg, .slice q58 (dig B16 h.m).length d58, .int .i64 h.e] ?_
        have boV12 := b11
        clear b11
        intro V12 hOV12 b11
        have hzV12 := hOV12.size
        replace b9 := (b9.only hOV12 (by omega))
        refine hKx.out _ _ b9 ?_
        clear hKx Kx
        refine sx_done (by kernel_rfl) ?_
        replace b10 := (b10.only hOV12 (by omega))
        exact ⟨rfl, V8.heap.size, V9.heap.size, by kernel_rfl, b10, b11, (((bthru (bthru hbV8 hbV9) hbV10).trans (hOV11.below (by omega))).trans (hOV12.below (by omega))), by omega, by omega, by omega⟩
      refine rd1 (fun Kx hKx => ?_)
      refine snk 11 #[.bool false, .slice none 0 0, .int .i64 0] 36 (fun V9 hbV9 hzV9 b11 => ?_)
      replace b9 := (b9.past hbV9)
      refine hKx.out _ _ b9 ?_
      clear hKx Kx
      refine sxr [4] ?_
      refine rd1 (fun Kx hKx => ?_)
      refine snk 10 #[.bool false, .slice none 0 0, .int .i64 0] 36 (fun V10 hbV10 hzV10 b10 => ?_)
      replace b9 := (b9.past hbV10)
      refine hKx.out _ _ b9 ?_
      clear hKx Kx
      refine sxr [6] ?_
      refine rd1 (fun Kx hKx => ?_)
      refine ssk none b10 hT36 0 #[.bool l.neg, .slice p58 (dig B16 l.m).length c58, .int .i64 l.e] #[.bool l.neg, .slice p58 (dig B16 l.m).length c58, .int .i64 l.e] ?_
      have boV11 := b10
      clear b10
      intro V11 hOV11 b10
      have hzV11 := hOV11.size
      replace b9 := (b9.only hOV11 (by omega))
      refine hKx.out _ _ b9 ?_
      clear hKx Kx
      refine sxr [7] ?_
      refine rd1 (fun Kx hKx => ?_)
      replace b11 := (b11.past (hbV10.trans (hOV11.below (by omega))))
      refine ssk none b11 hT36 0 #[.bool h.neg, .slice q58 (dig B16 h.m).length d58, .int .i64 h.e] #[.bool h.neg, .slice q58 (dig B16 h.m).length d58, .int .i64 h.e] ?_
      have boV12 := b11
      clear b11
      intro V12 hOV12 b11
      have hzV12 := hOV12.size
      replace b9 := (b9.only hOV12 (by omega))
      refine hKx.out _ _ b9 ?_
      clear hKx Kx
      refine sx_done (by kernel_rfl) ?_
      replace b10 := (b10.only hOV12 (by omega))
      exact ⟨rfl, V9.heap.size, V8.heap.size, by kernel_rfl, b10, b11, (((bthru (bthru hbV8 hbV9) hbV10).trans (hOV11.below (by omega))).trans (hOV12.below (by omega))), by omega, by omega, by omega⟩
    rintro _ V8 ⟨kb10, kb11, rfl, b10, b11, hbV8, hkb10, hkb11, hd_b11_b10⟩
    refine hGx _ _ ?_
    clear hGx Gx
    have hzV8 := hbV8.size
    have hlb10 := b10.lt
    have hlb11 := b11.lt
    refine sx_then ?_
    refine wp_seq ?_
    refine wp_seq ?_
    refine sx_region ?_
    refine sv 63 (.pointer (some ⟨kb10, 0, none⟩)) ?_
    refine sv 64 (.bool false) ?_ (hr := ((show _ = Result.ok (Next.value (.bool (l.neg))) _ from (exec_ld (by kernel_rfl) (run_ld1 b10 hT4 0 (.bool l.neg) (by kernel_rfl)))).trans (congrArg (fun z => Result.ok (Next.value (.bool z)) _) (show (l.neg) = false from hneg))))
    refine sx_nil ?_
    refine sx_then ?_
    refine wp_cond_false (by kernel_rfl) ?_
    refine wp_skip ?_
    refine sx_then ?_
    refine wp_seq ?_
    refine sx_region ?_
    refine sv 69 (.func (.func 25) #[] #[.pointer (some ⟨kb10, 0, none⟩), .pointer (some ⟨kb11, 0, none⟩)]) ?_
    refine sv 12 (.func (.func 25) #[] #[.pointer (some ⟨kb10, 0, none⟩), .pointer (some ⟨kb11, 0, none⟩)]) ?_
    refine sx_nil ?_
    refine sx_then ?_
    refine wp_seq ?_
    refine wp_seq ?_
    refine sx_region ?_
    refine sv 70 (.agg #[.bool l.neg, .slice p58 (dig B16 l.m).length c58, .int .i64 l.e]) ?_ (hr := (exec_ld (by kernel_rfl) (run_ld b10 hT36 0 [.bool l.neg, .slice p58 (dig B16 l.m).length c58, .int .i64 l.e] (by kernel_rfl) (by kernel_rfl))))
    replace x58 := (x58.past (bthru (hbV6.trans (hOV7.below (by omega))) hbV8))
    refine se 71 28 #[.agg #[.bool l.neg, .slice p58 (dig B16 l.m).length c58, .int .i64 l.e]] (fun Gx hGx => ?_)
    ((with_reducible refine (rdsign l p58 c58 _ _ x58 gl).mono ?_))
    rintro eV9 V9 ⟨rfl, hbV9⟩
    have hzV9 := hbV9.size
    refine ⟨.int .i64 (dSign l), rfl, hGx _ _ ?_⟩
    clear hGx Gx
    refine sv 72 (.bool true) ?_ (hr := ((show _ = Result.ok (Next.value (.bool (decide ((dSign l) ≤ 0)))) _ from (by kernel_rfl)).trans (congrArg (fun z => Result.ok (Next.value (.bool z)) _) (show (decide ((dSign l) ≤ 0)) = true from decide_eq_true hk))))
    refine sv 73 (.bool true) ?_
    refine so (some 74) ?_
    refine so (some 75) ?_
    refine so (some 76) ?_
    refine sv 77 (.bool true) ?_
    refine sx_nil ?_
    refine sx_then ?_
    refine wp_cond_true (by kernel_rfl) ?_
    refine wp_seq ?_
    refine sx_region ?_
    refine sv 78 (.int .i64 0) ?_
    refine sv 79 (.bool true) ?_
    refine sv 80 (.bool true) ?_
    refine sv 81 (.bool false) ?_
    refine sv 82 (.bool true) ?_
    refine sv 83 (.bool true) ?_
    refine sv 4 (.bool true) ?_
    refine sx_nil ?_
    refine sx_then ?_
    refine wp_ret ?_
    repeat (first | with_reducible refine sx_thenret ?_ | with_reducible refine sx_blockret ?_)
    refine bodyPost_ret (v := .bool true) (by simp [results, Tryd.results7, go_sem]) rfl ?_
    exact ⟨rfl, (bthru (bthru ((bthru (bthru (bthru (bthru (bthru hbV1 hbV2) hbV3) hbV4) hbV5) hbV6).trans (hOV7.below (by omega))) hbV8) hbV9)⟩

set_option maxHeartbeats 8000000 in
set_option maxRecDepth 100000 in
theorem lawBr_ok (a b : Din) (B : Nat) (w : World) (ia : InD w a) (ib : InD w b) (hT : TabW w) (he : errBall a b = 0) (hn0 : (1 : Int) ≤ ((B : Nat) : Int) ∧ ((B : Nat) : Int) ≤ 4096) (h00 : dSign (dyV a) ≠ 0) (h1 : dSign (dyV a) = dSign (dyV b)) :
    Calls Tryd.prog 7 #[.agg #[.bool a.g, .slice a.p a.xs.length a.c, .int .i64 a.e, .bool b.g, .slice b.p b.xs.length b.c, .int .i64 b.e], .int .i64 ((B : Nat) : Int)] w fun en w' => en = .returned (.bool true) ∧ Below w.heap.size w w' := by
  obtain ⟨e1, e2, hle⟩ := errBall_ok he
  have HB := fun W k1 k2 k3 => Lib.hid (bracket_ok' a b B W k1 k2 k3 he hn0 h00 h1)
  have HC := fun W h1 h2 => Lib.hid (refCheckBall_any a b W h1 h2)
  rw [he] at HC
  have HO := fun W h1 h2 => Lib.hid (rofballD a b W h1 h2 e1 e2)
  have fl := dyV_fitB ia e1
  have fh := dyV_fitB ib e2
  generalize dyV a = l at *
  generalize dyV b = h at *
  have bl := fl.bare
  have bh := fh.bare
  have l0 : 0 < l.m := by unfold dSign at h00; split at h00 <;> omega
  have h0 : 0 < h.m := by rw [h1] at h00; unfold dSign at h00; split at h00 <;> omega
  have gl : FitR l := ⟨by have := B16_len32 l.m; have := fl.len; omega, by have := fl.lo; omega, by have := fl.hi; omega⟩
  have gh : FitR h := ⟨by have := B16_len32 h.m; have := fh.len; omega, by have := fh.lo; omega, by have := fh.hi; omega⟩
  have hng : h.neg = l.neg := by
    cases hl : l.neg <;> cases hh : h.neg
    · rfl
    · have := dSgP hl; have := dSgN bh hh; omega
    · have := dSgN bl hl; have := dSgP hh; omega
    · rfl
  obtain ⟨n, hnB⟩ : ∃ n : Int, n = ((B : Nat) : Int) := ⟨_, rfl⟩
  have hn : 1 ≤ n ∧ n ≤ 4096 := by omega
  rw [← hnB] at HB ⊢
  by_cases hneg : l.neg = true
  · have hask := ask_neg bl bh l0 h0 hneg (by rw [hng]; exact hneg)
    have hpos : ¬ dSign (dMinus h) ≤ 0 := by
      rw [dSign_minus]
      have := dSgN bh (by rw [hng]; exact hneg)
      omega
    have hLO := gh.minus
    have HS := fun k K W k1 k2 p q c d b1 b2 (e : K = ((k : Nat) : Int)) hk hk2 B1 B2 x1 x2 hb1 hb2 => Lib.hid (same_any (dMinus h) (dMinus l) k K k1 k2 p q c d b1 b2 W e hk hk2 B1 B2 x1 x2 hb1 hb2 gh.minus gl.minus (fit_cut (dMinus_bare bh) fh.len fh.lo fh.hi hk) (fit_cut (dMinus_bare bl) fl.len fl.lo fl.hi hk))
    have hT4 : SxOne Tryd.prog 4 := sxOne_of (by kernel_rfl) (by kernel_rfl)
    have hT27 : SxAgg Tryd.prog 27 6 := sxAgg_of (by kernel_rfl) (by kernel_rfl)
    have hT36 : SxAgg Tryd.prog 36 3 := sxAgg_of (by kernel_rfl) (by kernel_rfl)
    have hT38 : SxAgg Tryd.prog 38 6 := sxAgg_of (by kernel_rfl) (by kernel_rfl)
    refine calls_of_wp Tryd.func7 rfl ?_
    refine sx_frame (a' := ⟨((.agg #[.bool a.g, .slice a.p a.xs.length a.c, .int .i64 a.e, .bool b.g, .slice b.p b.xs.length b.c, .int .i64 b.e]) :: (.int .i64 n) :: undef :: undef :: undef :: undef :: undef :: undef :: undef :: undef :: undef :: undef :: undef :: undef :: undef :: undef :: undef :: undef :: undef :: undef :: undef :: undef :: undef :: undef :: undef :: undef :: undef :: undef :: undef :: undef :: undef :: undef :: undef :: undef :: undef :: undef :: undef :: undef :: undef :: undef :: undef :: undef :: undef :: undef :: undef :: undef :: undef :: undef :: undef :: undef :: undef :: undef :: undef :: undef :: undef :: undef :: undef :: undef :: undef :: undef :: undef :: undef :: undef :: undef :: undef :: undef :: undef :: undef :: undef :: undef :: undef :: undef :: undef :: undef :: undef :: undef :: undef :: undef :: undef :: undef :: undef :: undef :: undef :: undef :: undef :: undef :: undef :: undef :: undef :: undef :: undef :: undef :: undef :: undef :: undef :: undef :: undef :: undef :: undef :: undef :: undef :: undef :: undef :: undef :: undef :: undef :: undef :: undef :: undef :: undef :: undef :: []).toArray, []⟩) (by kernel_rfl) ?_
    refine wp_seq ?_
    refine sx_region ?_
    refine sn 2 #[.bool a.g, .slice a.p a.xs.length a.c, .int .i64 a.e, .bool b.g, .slice b.p b.xs.length b.c, .int .i64 b.e] 27 (fun V1 hbV1 hzV1 b2 => ?_)
    refine sv 4 (.bool false) ?_
    refine sx_nil ?_
    refine sx_then ?_
    refine wp_seq ?_
    refine sx_region ?_
    refine sv 14 (.agg #[.bool a.g, .slice a.p a.xs.length a.c, .int .i64 a.e, .bool b.g, .slice b.p b.xs.length b.c, .int .i64 b.e]) ?_ (hr := (exec_ld (by kernel_rfl) (run_ld b2 hT27 0 [.bool a.g, .slice a.p a.xs.length a.c, .int .i64 a.e, .bool b.g, .slice b.p b.xs.length b.c, .int .i64 b.e] (by kernel_rfl) (by kernel_rfl))))
    refine sv 15 (.int .i64 n) ?_
    replace ia := (ia.past hbV1)
    replace ib := (ib.past hbV1)
    replace hT := (hT.past hbV1)
    refine se 16 21 #[.agg #[.bool a.g, .slice a.p a.xs.length a.c, .int .i64 a.e, .bool b.g, .slice b.p b.xs.length b.c, .int .i64 b.e], .int .i64 n] (fun Gx hGx => ?_)
    ((with_reducible refine ((HB _ ia ib hT).out).mono ?_))
    rintro eV2 V2 ⟨k, hF, hkb, rfl, hbV2⟩
    have hzV2 := hbV2.size
    refine ⟨.tuple #[.int .i64 ((k : Nat) : Int), .bool (decide (((k : Nat) : Int) > 0)), .int .i64 0], rfl, hGx _ _ ?_⟩
    clear hGx Gx
    refine sv 13 (.tuple #[.int .i64 ((k : Nat) : Int), .bool (decide (((k : Nat) : Int) > 0)), .int .i64 0]) ?_
    refine sv 17 (.int .i64 ((k : Nat) : Int)) ?_
    refine sv 18 (.bool (decide (((k : Nat) : Int) > 0))) ?_
    refine sv 19 (.int .i64 0) ?_
    refine sv 5 (.int .i64 ((k : Nat) : Int)) ?_
    refine sv 6 (.bool (decide (((k : Nat) : Int) > 0))) ?_
    refine sv 7 (.int .i64 0) ?_
    refine sx_nil ?_
    refine sx_then ?_
    refine wp_seq ?_
    refine sx_region ?_
    replace b2 := (b2.past hbV2)
    refine sv 20 (.agg #[.bool a.g, .slice a.p a.xs.length a.c, .int .i64 a.e, .bool b.g, .slice b.p b.xs.length b.c, .int .i64 b.e]) ?_ (hr := (exec_ld (by kernel_rfl) (run_ld b2 hT27 0 [.bool a.g, .slice a.p a.xs.length a.c, .int .i64 a.e, .bool b.g, .slice b.p b.xs.length b.c, .int .i64 b.e] (by kernel_rfl) (by kernel_rfl))))
    replace ia := (ia.past hbV2)
    replace ib := (ib.past hbV2)
    refine se 21 22 #[.agg #[.bool a.g, .slice a.p a.xs.length a.c, .int .i64 a.e, .bool b.g, .slice b.p b.xs.length b.c, .int .i64 b.e]] (fun Gx hGx => ?_)
    ((with_reducible refine ((HC _ ia ib).out).mono ?_))
    rintro eV3 V3 ⟨rfl, hbV3⟩
    have hzV3 := hbV3.size
    refine ⟨.int .i64 0, rfl, hGx _ _ ?_⟩
    clear hGx Gx
    refine sv 8 (.int .i64 0) ?_
    refine sx_nil ?_
    refine sx_then ?_
    refine wp_seq ?_
    refine wp_seq ?_
    refine sx_region ?_
    refine sv 22 (.int .i64 0) ?_
    refine sv 23 (.bool true) ?_
    refine sv 24 (.bool true) ?_
    refine sv 25 (.int .i64 n) ?_
    refine sv 26 (.bool false) ?_ (hr := ((show _ = Result.ok (Next.value (.bool (decide (n < 1)))) _ from (by kernel_rfl)).trans (congrArg (fun z => Result.ok (Next.value (.bool z)) _) (show (decide (n < 1)) = false from decide_eq_false (by omega)))))
    refine sv 27 (.bool false) ?_
    refine sv 28 (.int .i64 n) ?_
    refine sv 29 (.bool false) ?_ (hr := ((show _ = Result.ok (Next.value (.bool (decide (n > 4096)))) _ from (by kernel_rfl)).trans (congrArg (fun z => Result.ok (Next.value (.bool z)) _) (show (decide (n > 4096)) = false from decide_eq_false (by omega)))))
    refine sv 30 (.bool false) ?_
    refine sv 31 (.bool false) ?_
    refine sx_nil ?_
    refine sx_then ?_
    refine wp_cond_false (by kernel_rfl) ?_
    refine wp_skip ?_
    refine sx_then ?_
    refine wp_seq ?_
    refine wp_seq ?_
    refine sx_region ?_
    replace hT := (hT.past (bthru hbV2 hbV3))
    refine se 32 10 #[] (fun Gx hGx => ?_)
    ((with_reducible refine (seriesBegun_any _ hT).mono ?_))
    rintro eV4 V4 ⟨rfl, hbV4⟩
    have hzV4 := hbV4.size
    refine ⟨.bool true, rfl, hGx _ _ ?_⟩
    clear hGx Gx
    refine sv 33 (.bool false) ?_
    refine sv 34 (.bool false) ?_
    refine sv 35 (.int .i64 0) ?_
    refine sv 36 (.int .i64 0) ?_
    refine sv 37 (.bool false) ?_
    refine sv 38 (.bool false) ?_
    refine sv 39 (.bool false) ?_
    refine sv 40 (.int .i64 0) ?_
    refine sv 41 (.bool false) ?_
    refine sv 42 (.bool false) ?_
    refine sx_nil ?_
    refine sx_then ?_
    refine wp_cond_false (by kernel_rfl) ?_
    refine wp_skip ?_
    refine sx_then ?_
    refine wp_seq ?_
    refine sx_region ?_
    replace b2 := (b2.past (bthru hbV3 hbV4))
    refine sv 57 (.agg #[.bool a.g, .slice a.p a.xs.length a.c, .int .i64 a.e, .bool b.g, .slice b.p b.xs.length b.c, .int .i64 b.e]) ?_ (hr := (exec_ld (by kernel_rfl) (run_ld b2 hT27 0 [.bool a.g, .slice a.p a.xs.length a.c, .int .i64 a.e, .bool b.g, .slice b.p b.xs.length b.c, .int .i64 b.e] (by kernel_rfl) (by kernel_rfl))))
    replace ia := (ia.past (bthru hbV3 hbV4))
    replace ib := (ib.past (bthru hbV3 hbV4))
    refine se 58 23 #[.agg #[.bool a.g, .slice a.p a.xs.length a.c, .int .i64 a.e, .bool b.g, .slice b.p b.xs.length b.c, .int .i64 b.e]] (fun Gx hGx => ?_)
    ((with_reducible refine ((HO _ ia ib).out).mono ?_))
    rintro eV5 V5 ⟨p58, c58, q58, d58, rfl, x58, y58, hbV5⟩
    have hzV5 := hbV5.size
    have lx58 := fun h => x58.lt h
    have ly58 := fun h => y58.lt h
    refine ⟨.agg #[.bool l.neg, .slice p58 (dig B16 l.m).length c58, .int .i64 l.e, .bool h.neg, .slice q58 (dig B16 h.m).length d58, .int .i64 h.e], rfl, hGx _ _ ?_⟩
    clear hGx Gx
    refine sn 9 #[.bool false, .slice none 0 0, .int .i64 0, .bool false, .slice none 0 0, .int .i64 0] 38 (fun V6 hbV6 hzV6 b9 => ?_)
    refine ss none b9 hT38 0 #[.bool l.neg, .slice p58 (dig B16 l.m).length c58, .int .i64 l.e, .bool h.neg, .slice q58 (dig B16 h.m).length d58, .int .i64 h.e] #[.bool l.neg, .slice p58 (dig B16 l.m).length c58, .int .i64 l.e, .bool h.neg, .slice q58 (dig B16 h.m).length d58, .int .i64 h.e] ?_
    have boV7 := b9
    clear b9
    intro V7 hOV7 b9
    have hzV7 := hOV7.size
    refine sx_nil ?_
    refine sx_then ?_
    refine wp_seq ?_
    refine sx_cutg (R := fun a' w' => ∃ (kb10 : Nat) (kb11 : Nat), a' = ⟨((.agg #[.bool a.g, .slice a.p a.xs.length a.c, .int .i64 a.e, .bool b.g, .slice b.p b.xs.length b.c, .int .i64 b.e]) :: (.int .i64 n) :: (.pointer (some ⟨w.heap.size, 0, none⟩)) :: undef :: (.bool false) :: (.int .i64 ((k : Nat) : Int)) :: (.bool (decide (((k : Nat) : Int) > 0))) :: (.int .i64 0) :: (.int .i64 0) :: (.pointer (some ⟨V5.heap.size, 0, none⟩)) :: (.pointer (some ⟨kb10, 0, none⟩)) :: (.pointer (some ⟨kb11, 0, none⟩)) :: undef :: (.tuple #[.int .i64 ((k : Nat) : Int), .bool (decide (((k : Nat) : Int) > 0)), .int .i64 0]) :: (.agg #[.bool a.g, .slice a.p a.xs.length a.c, .int .i64 a.e, .bool b.g, .slice b.p b.xs.length b.c, .int .i64 b.e]) :: (.int .i64 n) :: (.tuple #[.int .i64 ((k : Nat) : Int), .bool (decide (((k : Nat) : Int) > 0)), .int .i64 0]) :: (.int .i64 ((k : Nat) : Int)) :: (.bool (decide (((k : Nat) : Int) > 0))) :: (.int .i64 0) :: (.agg #[.bool a.g, .slice a.p a.xs.length a.c, .int .i64 a.e, .bool b.g, .slice b.p b.xs.length b.c, .int .i64 b.e]) :: (.int .i64 0) :: (.int .i64 0) :: (.bool true) :: (.bool true) :: (.int .i64 n) :: (.bool false) :: (.bool false) :: (.int .i64 n) :: (.bool false) :: (.bool false) :: (.bool false) :: (.bool true) :: (.bool false) :: (.bool false) :: (.int .i64 0) :: (.int .i64 0) :: (.bool false) :: (.bool false) :: (.bool false) :: (.int .i64 0) :: (.bool false) :: (.bool false) :: undef :: undef :: undef :: undef :: undef :: undef :: undef :: undef :: undef :: undef :: undef :: undef :: undef :: undef :: (.agg #[.bool a.g, .slice a.p a.xs.length a.c, .int .i64 a.e, .bool b.g, .slice b.p b.xs.length b.c, .int .i64 b.e]) :: (.agg #[.bool l.neg, .slice p58 (dig B16 l.m).length c58, .int .i64 l.e, .bool h.neg, .slice q58 (dig B16 h.m).length d58, .int .i64 h.e]) :: (.pointer (some ⟨V5.heap.size, 0, none⟩)) :: (.agg #[.bool l.neg, .slice p58 (dig B16 l.m).length c58, .int .i64 l.e]) :: (.pointer (some ⟨V5.heap.size, 3, none⟩)) :: (.agg #[.bool h.neg, .slice q58 (dig B16 h.m).length d58, .int .i64 h.e]) :: undef :: undef :: undef :: undef :: undef :: undef :: undef :: undef :: undef :: undef :: undef :: undef :: undef :: undef :: undef :: undef :: undef :: undef :: undef :: undef :: undef :: undef :: undef :: undef :: undef :: undef :: undef :: undef :: undef :: undef :: undef :: undef :: undef :: undef :: undef :: undef :: undef :: undef :: undef :: undef :: undef :: undef :: undef :: undef :: undef :: undef :: undef :: undef :: []).toArray, []⟩ ∧ Bt w' kb10 36 #[.bool l.neg, .slice p58 (dig B16 l.m).length c58, .int .i64 l.e] ∧ Bt w' kb11 36 #[.bool h.neg, .slice q58 (dig B16 h.m).length d58, .int .i64 h.e] ∧ Below V7.heap.size V7 w' ∧ V7.heap.size ≤ kb10 ∧ V7.heap.size ≤ kb11 ∧ kb11 ≠ kb10) ?_ (fun Gx hGx => ?_)
    · skip
      obtain ⟨V8, hVV8⟩ : ∃ V, V = (V7).drew := ⟨_, rfl⟩
      have hbV8 : Below (V7).heap.size (V7) V8 := by rw [hVV8]; exact (Below.refl _ _).drew
      have hzV8 : V8.heap.size = (V7).heap.size := by rw [hVV8]; rfl
      replace b9 := (b9.past hbV8)
      refine sxd _ (fun w' => Bt w' V5.heap.size 38 #[.bool l.neg, .slice p58 (dig B16 l.m).length c58, .int .i64 l.e, .bool h.neg, .slice q58 (dig B16 h.m).length d58, .int .i64 h.e]) hVV8 b9 ?_
      clear hVV8
      refine tk 0 59 (.pointer (some ⟨V5.heap.size, 0, none⟩)) b9 ?_
      refine tk 1 60 (.agg #[.bool l.neg, .slice p58 (dig B16 l.m).length c58, .int .i64 l.e]) b9 ?_ (hy := fun w' hS => (exec_ld (by kernel_rfl) (run_ld hS hT36 0 [.bool l.neg, .slice p58 (dig B16 l.m).length c58, .int .i64 l.e] (by kernel_rfl) (by kernel_rfl))))
      refine tk 2 61 (.pointer (some ⟨V5.heap.size, 3, none⟩)) b9 ?_
      refine tk 3 62 (.agg #[.bool h.neg, .slice q58 (dig B16 h.m).length d58, .int .i64 h.e]) b9 ?_ (hy := fun w' hS => (exec_ld (by kernel_rfl) (run_ld hS hT36 3 [.bool h.neg, .slice q58 (dig B16 h.m).length d58, .int .i64 h.e] (by kernel_rfl) (by kernel_rfl))))
      refine sxr [4, 5] ?_
      refine rd2 (fun Kx hKx => ?_) ?_
      · skip
        refine snk 10 #[.bool false, .slice none 0 0, .int .i64 0] 36 (fun V9 hbV9 hzV9 b10 => ?_)
        replace b9 := (b9.past hbV9)
        refine hKx.out _ _ b9 ?_
        clear hKx Kx
        refine sxr [5] ?_
        refine rd1 (fun Kx hKx => ?_)
        refine snk 11 #[.bool false, .slice none 0 0, .int .i64 0] 36 (fun V10 hbV10 hzV10 b11 => ?_)
        replace b9 := (b9.past hbV10)
        refine hKx.out _ _ b9 ?_
        clear hKx Kx
        refine sxr [6] ?_
        refine rd1 (fun Kx hKx => ?_)
        replace b10 := (b10.past hbV10)
        refine ssk none b10 hT36 0 #[.bool l.neg, .slice p58 (dig B16 l.m).length c58, .int .i64 l.e] #[.bool l.neg, .slice p58 (dig B16 l.m).length c58, .int .i64 l.e] ?_
        have boV11 := b10
        clear b10
        intro V11 hOV11 b10
        have hzV11 := hOV11.size
        replace b9 := (b9.only hOV11 (by omega))
        refine hKx.out _ _ b9 ?_
        clear hKx Kx
        refine sxr [7] ?_
        refine rd1 (fun Kx hKx => ?_)
        replace b11 := (b11.only hOV11 (by omega))
        refine ssk none b11 hT36 0 #[.bool h.neg, .slice q58 (dig B16 h.m).length d58, .int .i64 h.e] #[.bool h.neg, .slice q58 (dig B16 h.m).length d58, .int .i64 h.e] ?_
        have boV12 := b11
        clear b11
        intro V12 hOV12 b11
        have hzV12 := hOV12.size
        replace b9 := (b9.only hOV12 (by omega))
        refine hKx.out _ _ b9 ?_
        clear hKx Kx
        refine sx_done (by kernel_rfl) ?_
        replace b10 := (b10.only hOV12 (by omega))
        exact ⟨rfl, V8.heap.size, V9.heap.size, by kernel_rfl, b10, b11, (((bthru (bthru hbV8 hbV9) hbV10).trans (hOV11.below (by omega))).trans (hOV12.below (by omega))), by omega, by omega, by omega⟩
      refine rd1 (fun Kx hKx => ?_)
      refine snk 11 #[.bool false, .slice none 0 0, .int .i64 0] 36 (fun V9 hbV9 hzV9 b11 => ?_)
      replace b9 := (b9.past hbV9)
      refine hKx.out _ _ b9 ?_
      clear hKx Kx
      refine sxr [4] ?_
      refine rd1 (fun Kx hKx => ?_)
      refine snk 10 #[.bool false, .slice none 0 0, .int .i64 0] 36 (fun V10 hbV10 hzV10 b10 => ?_)
      replace b9 := (b9.past hbV10)
      refine hKx.out _ _ b9 ?_
      clear hKx Kx
      refine sxr [6] ?_
      refine rd1 (fun Kx hKx => ?_)
      refine ssk none b10 hT36 0 #[.bool l.neg, .slice p58 (dig B16 l.m).length c58, .int .i64 l.e] #[.bool l.neg, .slice p58 (dig B16 l.m).length c58, .int .i64 l.e] ?_
      have boV11 := b10
      clear b10
      intro V11 hOV11 b10
      have hzV11 := hOV11.size
      replace b9 := (b9.only hOV11 (by omega))
      refine hKx.out _ _ b9 ?_
      clear hKx Kx
      refine sxr [7] ?_
      refine rd1 (fun Kx hKx => ?_)
      replace b11 := (b11.past (hbV10.trans (hOV11.below (by omega))))
      refine ssk none b11 hT36 0 #[.bool h.neg, .slice q58 (dig B16 h.m).length d58, .int .i64 h.e] #[.bool h.neg, .slice q58 (dig B16 h.m).length d58, .int .i64 h.e] ?_
      have boV12 := b11
      clear b11
      intro V12 hOV12 b11
      have hzV12 := hOV12.size
      replace b9 := (b9.only hOV12 (by omega))
      refine hKx.out _ _ b9 ?_
      clear hKx Kx
      refine sx_done (by kernel_rfl) ?_
      replace b10 := (b10.only hOV12 (by omega))
      exact ⟨rfl, V9.heap.size, V8.heap.size, by kernel_rfl, b10, b11, (((bthru (bthru hbV8 hbV9) hbV10).trans (hOV11.below (by omega))).trans (hOV12.below (by omega))), by omega, by omega, by omega⟩
    rintro _ V8 ⟨kb10, kb11, rfl, b10, b11, hbV8, hkb10, hkb11, hd_b11_b10⟩
    refine hGx _ _ ?_
    clear hGx Gx
    have hzV8 := hbV8.size
    have hlb10 := b10.lt
    have hlb11 := b11.lt
    refine sx_then ?_
    refine wp_seq ?_
    refine wp_seq ?_
    refine sx_region ?_
    refine sv 63 (.pointer (some ⟨kb10, 0, none⟩)) ?_
    refine sv 64 (.bool true) ?_ (hr := ((show _ = Result.ok (Next.value (.bool (l.neg))) _ from (exec_ld (by kernel_rfl) (run_ld1 b10 hT4 0 (.bool l.neg) (by kernel_rfl)))).trans (congrArg (fun z => Result.ok (Next.value (.bool z)) _) (show (l.neg) = true from hneg))))
    refine sx_nil ?_
    refine sx_then ?_
    refine wp_cond_true (by kernel_rfl) ?_
    obtain ⟨V9, hVV9⟩ : ∃ V, V = (V8).drew := ⟨_, rfl⟩
    have hbV9 : Below (V8).heap.size (V8) V9 := by rw [hVV9]; exact (Below.refl _ _).drew
    have hzV9 : V9.heap.size = (V8).heap.size := by rw [hVV9]; rfl
    refine sxd _ (fun w' => True) hVV9 True.intro ?_
    clear hVV9
    refine sxr [0, 2] ?_
    refine rd2 (fun Kx hKx => ?_) ?_
    · skip
      replace b11 := (b11.past hbV9)
      refine sk 65 (.agg #[.bool h.neg, .slice q58 (dig B16 h.m).length d58, .int .i64 h.e]) ?_ (hr := (exec_ld (by kernel_rfl) (run_ld b11 hT36 0 [.bool h.neg, .slice q58 (dig B16 h.m).length d58, .int .i64 h.e] (by kernel_rfl) (by kernel_rfl))))
      refine hKx.out _ _ True.intro ?_
      clear hKx Kx
      refine sxr [1, 2] ?_
      refine rd2 (fun Kx hKx => ?_) ?_
      · skip
        replace y58 := (y58.past (bthru (bthru (hbV6.trans (hOV7.below (by omega))) hbV8) hbV9))
        replace b10 := (b10.past hbV9)
        refine sek 66 24 #[.agg #[.bool h.neg, .slice q58 (dig B16 h.m).length d58, .int .i64 h.e]] ?_
        ((with_reducible refine (rminusNe h q58 d58 kb10 kb11 _ y58.rd y58.cap (fun hh => by have := ly58 hh; omega) (by have := b10.lt; omega) (by have := b11.lt; omega)).mono ?_))
        rintro eV10 V10 ⟨p66, c66, rfl, x66, hne66, hbV10⟩
        have hzV10 := hbV10.size
        have lx66 := fun h => x66.lt h
        have lx66 := fun hh => hne66 hh
        refine ⟨.agg #[.bool ((dMinus h).neg), .slice p66 (dig B16 (dMinus h).m).length c66, .int .i64 ((dMinus h).e)], rfl, ?_⟩
        refine hKx.out _ _ True.intro ?_
        clear hKx Kx
        refine sxr [2] ?_
        refine rd1 (fun Kx hKx => ?_)
        replace b10 := (b10.past hbV10)
        refine sk 67 (.agg #[.bool l.neg, .slice p58 (dig B16 l.m).length c58, .int .i64 l.e]) ?_ (hr := (exec_ld (by kernel_rfl) (run_ld b10 hT36 0 [.bool l.neg, .slice p58 (dig B16 l.m).length c58, .int .i64 l.e] (by kernel_rfl) (by kernel_rfl))))
        refine hKx.out _ _ True.intro ?_
        clear hKx Kx
        refine sxr [3] ?_
        refine rd1 (fun Kx hKx => ?_)
        replace x58 := (x58.past (bthru (bthru (bthru (hbV6.trans (hOV7.below (by omega))) hbV8) hbV9) hbV10))
        replace b11 := (b11.past hbV10)
        refine sek 68 24 #[.agg #[.bool l.neg, .slice p58 (dig B16 l.m).length c58, .int .i64 l.e]] ?_
        ((with_reducible refine (rminusNe l p58 c58 kb10 kb11 _ x58.rd x58.cap (fun hh => by have := lx58 hh; omega) (by have := b10.lt; omega) (by have := b11.lt; omega)).mono ?_))
        rintro eV11 V11 ⟨p68, c68, rfl, x68, hne68, hbV11⟩
        have hzV11 := hbV11.size
        have lx68 := fun h => x68.lt h
        have lx68 := fun hh => hne68 hh
        refine ⟨.agg #[.bool ((dMinus l).neg), .slice p68 (dig B16 (dMinus l).m).length c68, .int .i64 ((dMinus l).e)], rfl, ?_⟩
        refine hKx.out _ _ True.intro ?_
        clear hKx Kx
        refine sxr [4] ?_
        refine rd1 (fun Kx hKx => ?_)
        replace b10 := (b10.past hbV11)
        refine ssk none b10 hT36 0 #[.bool ((dMinus h).neg), .slice p66 (dig B16 (dMinus h).m).length c66, .int .i64 ((dMinus h).e)] #[.bool ((dMinus h).neg), .slice p66 (dig B16 (dMinus h).m).length c66, .int .i64 ((dMinus h).e)] ?_
        have boV12 := b10
        clear b10
        intro V12 hOV12 b10
        have hzV12 := hOV12.size
        refine hKx.out _ _ True.intro ?_
        clear hKx Kx
        refine sxr [5] ?_
        refine rd1 (fun Kx hKx => ?_)
        replace b11 := ((b11.past hbV11).only hOV12 (by omega))
        refine ssk none b11 hT36 0 #[.bool ((dMinus l).neg), .slice p68 (dig B16 (dMinus l).m).length c68, .int .i64 ((dMinus l).e)] #[.bool ((dMinus l).neg), .slice p68 (dig B16 (dMinus l).m).length c68, .int .i64 ((dMinus l).e)] ?_
        have boV13 := b11
        clear b11
        intro V13 hOV13 b11
        have hzV13 := hOV13.size
        refine hKx.out _ _ True.intro ?_
        clear hKx Kx
        refine sx_done (by kernel_rfl) ?_
        refine sx_then ?_
        refine wp_seq ?_
        refine sx_region ?_
        refine sv 69 (.func (.func 25) #[] #[.pointer (some ⟨kb10, 0, none⟩), .pointer (some ⟨kb11, 0, none⟩)]) ?_
        refine sv 12 (.func (.func 25) #[] #[.pointer (some ⟨kb10, 0, none⟩), .pointer (some ⟨kb11, 0, none⟩)]) ?_
        refine sx_nil ?_
        refine sx_then ?_
        refine wp_seq ?_
        refine wp_seq ?_
        by_cases fk : k = 0
        · skip
          refine sx_region ?_
          replace b10 := (b10.only hOV13 (by omega))
          refine sv 70 (.agg #[.bool ((dMinus h).neg), .slice p66 (dig B16 (dMinus h).m).length c66, .int .i64 ((dMinus h).e)]) ?_ (hr := (exec_ld (by kernel_rfl) (run_ld b10 hT36 0 [.bool ((dMinus h).neg), .slice p66 (dig B16 (dMinus h).m).length c66, .int .i64 ((dMinus h).e)] (by kernel_rfl) (by kernel_rfl))))
          replace x66 := (((x66.past hbV11).only hOV12 (fun h => by have := lx66 h; omega)).only hOV13 (fun h => by have := lx66 h; omega))
          refine se 71 28 #[.agg #[.bool ((dMinus h).neg), .slice p66 (dig B16 (dMinus h).m).length c66, .int .i64 ((dMinus h).e)]] (fun Gx hGx => ?_)
          ((with_reducible refine (rdsign (dMinus h) p66 c66 _ _ x66 hLO).mono ?_))
          rintro eV14 V14 ⟨rfl, hbV14⟩
          have hzV14 := hbV14.size
          refine ⟨.int .i64 (dSign (dMinus h)), rfl, hGx _ _ ?_⟩
          clear hGx Gx
          refine sv 72 (.bool false) ?_ (hr := ((show _ = Result.ok (Next.value (.bool (decide ((dSign (dMinus h)) ≤ 0)))) _ from (by kernel_rfl)).trans (congrArg (fun z => Result.ok (Next.value (.bool z)) _) (show (decide ((dSign (dMinus h)) ≤ 0)) = false from decide_eq_false hpos))))
          refine sv 73 (.bool false) ?_
          refine sv 74 (.func (.func 25) #[] #[.pointer (some ⟨kb10, 0, none⟩), .pointer (some ⟨kb11, 0, none⟩)]) ?_
          replace b10 := (b10.past hbV14)
          replace b11 := (b11.past hbV14)
          replace x66 := (x66.past hbV14)
          replace x68 := (((x68.only hOV12 (fun h => by have := lx68 h; omega)).only hOV13 (fun h => by have := lx68 h; omega)).past hbV14)
          refine se 75 25 #[.int .i64 1, .pointer (some ⟨kb10, 0, none⟩), .pointer (some ⟨kb11, 0, none⟩)] (fun Gx hGx => ?_)
          ((with_reducible refine ((HS 1 1 _ _ _ p66 p68 c66 c68 _ _ rfl (by omega) (by omega) b10 b11 x66 x68 (by omega) (by omega)).out).mono ?_))
          rintro eV15 V15 ⟨rfl, hbV15⟩
          have hzV15 := hbV15.size
          rw [show (rCmp (rCut (dMinus h) 1 false) (rCut (dMinus l) 1 false) == 0) = false from beq_eq_false_iff_ne.2 (fun hh => hF.2 (by rw [fk]; exact ⟨by omega, (hask 1 (by omega)).1 hh⟩))]
          refine ⟨.bool false, rfl, hGx _ _ ?_⟩
          clear hGx Gx
          refine sv 76 (.bool true) ?_
          refine sv 77 (.bool true) ?_
          refine sx_nil ?_
          refine sx_then ?_
          refine wp_cond_true (by kernel_rfl) ?_
          refine wp_seq ?_
          refine sx_region ?_
          refine sv 78 (.int .i64 ((k : Nat) : Int)) ?_
          refine sv 79 (.bool true) ?_ (hr := ((show _ = Result.ok (Next.value (.bool (((k : Nat) : Int) == 0))) _ from (by kernel_rfl)).trans (congrArg (fun z => Result.ok (Next.value (.bool z)) _) (show (((k : Nat) : Int) == 0) = true from beq_iff_eq.2 (by omega)))))
          refine sv 80 (.bool true) ?_
          refine sv 81 (.bool (decide (((k : Nat) : Int) > 0))) ?_
          refine sv 82 (.bool true) ?_ (hr := ((show _ = Result.ok (Next.value (.bool (!(decide (((k : Nat) : Int) > 0))))) _ from (by kernel_rfl)).trans (congrArg (fun z => Result.ok (Next.value (.bool z)) _) (show (!(decide (((k : Nat) : Int) > 0))) = true from by rw [decide_eq_false (show ¬ ((k : Nat) : Int) > 0 by omega)]; rfl))))
          refine sv 83 (.bool true) ?_
          refine sv 4 (.bool true) ?_
          refine sx_nil ?_
          refine sx_then ?_
          refine wp_ret ?_
          repeat (first | with_reducible refine sx_thenret ?_ | with_reducible refine sx_blockret ?_)
          refine bodyPost_ret (v := .bool true) (by simp [results, Tryd.results7, go_sem]) rfl ?_
          exact ⟨rfl, (bthru (bthru (((bthru (bthru (bthru (bthru ((bthru (bthru (bthru (bthru (bthru hbV1 hbV2) hbV3) hbV4) hbV5) hbV6).trans (hOV7.below (by omega))) hbV8) hbV9) hbV10) hbV11).trans (hOV12.below (by omega))).trans (hOV13.below (by omega))) hbV14) hbV15)⟩
        refine sx_region ?_
        replace b10 := (b10.only hOV13 (by omega))
        refine sv 70 (.agg #[.bool ((dMinus h).neg), .slice p66 (dig B16 (dMinus h).m).length c66, .int .i64 ((dMinus h).e)]) ?_ (hr := (exec_ld (by kernel_rfl) (run_ld b10 hT36 0 [.bool ((dMinus h).neg), .slice p66 (dig B16 (dMinus h).m).length c66, .int .i64 ((dMinus h).e)] (by kernel_rfl) (by kernel_rfl))))
        replace x66 := (((x66.past hbV11).only hOV12 (fun h => by have := lx66 h; omega)).only hOV13 (fun h => by have := lx66 h; omega))
        refine se 71 28 #[.agg #[.bool ((dMinus h).neg), .slice p66 (dig B16 (dMinus h).m).length c66, .int .i64 ((dMinus h).e)]] (fun Gx hGx => ?_)
        ((with_reducible refine (rdsign (dMinus h) p66 c66 _ _ x66 hLO).mono ?_))
        rintro eV14 V14 ⟨rfl, hbV14⟩
        have hzV14 := hbV14.size
        refine ⟨.int .i64 (dSign (dMinus h)), rfl, hGx _ _ ?_⟩
        clear hGx Gx
        refine sv 72 (.bool false) ?_ (hr := ((show _ = Result.ok (Next.value (.bool (decide ((dSign (dMinus h)) ≤ 0)))) _ from (by kernel_rfl)).trans (congrArg (fun z => Result.ok (Next.value (.bool z)) _) (show (decide ((dSign (dMinus h)) ≤ 0)) = false from decide_eq_false hpos))))
        refine sv 73 (.bool false) ?_
        refine sv 74 (.func (.func 25) #[] #[.pointer (some ⟨kb10, 0, none⟩), .pointer (some ⟨kb11, 0, none⟩)]) ?_
        replace b10 := (b10.past hbV14)
        replace b11 := (b11.past hbV14)
        replace x66 := (x66.past hbV14)
        replace x68 := (((x68.only hOV12 (fun h => by have := lx68 h; omega)).only hOV13 (fun h => by have := lx68 h; omega)).past hbV14)
        refine se 75 25 #[.int .i64 1, .pointer (some ⟨kb10, 0, none⟩), .pointer (some ⟨kb11, 0, none⟩)] (fun Gx hGx => ?_)
        ((with_reducible refine ((HS 1 1 _ _ _ p66 p68 c66 c68 _ _ rfl (by omega) (by omega) b10 b11 x66 x68 (by omega) (by omega)).out).mono ?_))
        rintro eV15 V15 ⟨rfl, hbV15⟩
        have hzV15 := hbV15.size
        rw [show (rCmp (rCut (dMinus h) 1 false) (rCut (dMinus l) 1 false) == 0) = true from beq_iff_eq.2 ((hask 1 (by omega)).2 (trD_mono bl bh l0 h0 (show 1 ≤ k by omega) (hF.1.resolve_left fk).2))]
        refine ⟨.bool true, rfl, hGx _ _ ?_⟩
        clear hGx Gx
        refine sv 76 (.bool false) ?_
        refine sv 77 (.bool false) ?_
        refine sx_nil ?_
        refine sx_then ?_
        refine wp_cond_false (by kernel_rfl) ?_
        refine wp_skip ?_
        refine sx_then ?_
        refine wp_seq ?_
        by_cases fe : k = B
        · skip
          refine sx_region ?_
          refine sv 84 (.bool true) ?_ (hr := ((show _ = Result.ok (Next.value (.bool (decide (((k : Nat) : Int) > 0)))) _ from (by kernel_rfl)).trans (congrArg (fun z => Result.ok (Next.value (.bool z)) _) (show (decide (((k : Nat) : Int) > 0)) = true from decide_eq_true (by omega)))))
          refine sv 85 (.bool true) ?_
          refine sv 86 (.int .i64 ((k : Nat) : Int)) ?_
          refine sv 87 (.bool true) ?_ (hr := ((show _ = Result.ok (Next.value (.bool (decide (((k : Nat) : Int) ≥ 1)))) _ from (by kernel_rfl)).trans (congrArg (fun z => Result.ok (Next.value (.bool z)) _) (show (decide (((k : Nat) : Int) ≥ 1)) = true from decide_eq_true (by omega)))))
          refine sv 88 (.bool true) ?_
          refine sv 89 (.bool true) ?_
          refine sv 90 (.int .i64 ((k : Nat) : Int)) ?_
          refine sv 91 (.int .i64 n) ?_
          refine sv 92 (.bool true) ?_ (hr := ((show _ = Result.ok (Next.value (.bool (decide (((k : Nat) : Int) ≤ n)))) _ from (by kernel_rfl)).trans (congrArg (fun z => Result.ok (Next.value (.bool z)) _) (show (decide (((k : Nat) : Int) ≤ n)) = true from decide_eq_true (by have := (hF.1.resolve_left fk).1; omega)))))
          refine sv 93 (.bool true) ?_
          refine sv 94 (.bool true) ?_
          refine sv 95 (.func (.func 25) #[] #[.pointer (some ⟨kb10, 0, none⟩), .pointer (some ⟨kb11, 0, none⟩)]) ?_
          refine sv 96 (.int .i64 ((k : Nat) : Int)) ?_
          replace b10 := (b10.past hbV15)
          replace b11 := (b11.past hbV15)
          replace x66 := (x66.past hbV15)
          replace x68 := (x68.past hbV15)
          refine se 97 25 #[.int .i64 ((k : Nat) : Int), .pointer (some ⟨kb10, 0, none⟩), .pointer (some ⟨kb11, 0, none⟩)] (fun Gx hGx => ?_)
          ((with_reducible refine ((HS k _ _ _ _ p66 p68 c66 c68 _ _ rfl (by omega) (by omega) b10 b11 x66 x68 (by omega) (by omega)).out).mono ?_))
          rintro eV16 V16 ⟨rfl, hbV16⟩
          have hzV16 := hbV16.size
          rw [show (rCmp (rCut (dMinus h) k false) (rCut (dMinus l) k false) == 0) = true from beq_iff_eq.2 ((hask k (by omega)).2 (hF.1.resolve_left fk).2)]
          refine ⟨.bool true, rfl, hGx _ _ ?_⟩
          clear hGx Gx
          refine sv 98 (.bool true) ?_
          refine sv 99 (.bool true) ?_
          refine sv 100 (.int .i64 ((k : Nat) : Int)) ?_
          refine sv 101 (.int .i64 n) ?_
          refine sv 102 (.bool true) ?_ (hr := ((show _ = Result.ok (Next.value (.bool (((k : Nat) : Int) == n))) _ from (by kernel_rfl)).trans (congrArg (fun z => Result.ok (Next.value (.bool z)) _) (show (((k : Nat) : Int) == n) = true from beq_iff_eq.2 (by omega)))))
          refine sv 103 (.bool true) ?_
          refine so (some 104) ?_
          refine so (some 105) ?_
          refine so (some 106) ?_
          refine so (some 107) ?_
          refine so (some 108) ?_
          refine sv 109 (.bool true) ?_
          refine sv 110 (.bool true) ?_
          refine sv 4 (.bool true) ?_
          refine sx_nil ?_
          refine sx_then ?_
          refine wp_ret ?_
          repeat (first | with_reducible refine sx_thenret ?_ | with_reducible refine sx_blockret ?_)
          refine bodyPost_ret (v := .bool true) (by simp [results, Tryd.results7, go_sem]) rfl ?_
          exact ⟨rfl, (bthru (bthru (bthru (((bthru (bthru (bthru (bthru ((bthru (bthru (bthru (bthru (bthru hbV1 hbV2) hbV3) hbV4) hbV5) hbV6).trans (hOV7.below (by omega))) hbV8) hbV9) hbV10) hbV11).trans (hOV12.below (by omega))).trans (hOV13.below (by omega))) hbV14) hbV15) hbV16)⟩
        refine sx_region ?_
        refine sv 84 (.bool true) ?_ (hr := ((show _ = Result.ok (Next.value (.bool (decide (((k : Nat) : Int) > 0)))) _ from (by kernel_rfl)).trans (congrArg (fun z => Result.ok (Next.value (.bool z)) _) (show (decide (((k : Nat) : Int) > 0)) = true from decide_eq_true (by omega)))))
        refine sv 85 (.bool true) ?_
        refine sv 86 (.int .i64 ((k : Nat) : Int)) ?_
        refine sv 87 (.bool true) ?_ (hr := ((show _ = Result.ok (Next.value (.bool (decide (((k : Nat) : Int) ≥ 1)))) _ from (by kernel_rfl)).trans (congrArg (fun z => Result.ok (Next.value (.bool z)) _) (show (decide (((k : Nat) : Int) ≥ 1)) = true from decide_eq_true (by omega)))))
        refine sv 88 (.bool true) ?_
        refine sv 89 (.bool true) ?_
        refine sv 90 (.int .i64 ((k : Nat) : Int)) ?_
        refine sv 91 (.int .i64 n) ?_
        refine sv 92 (.bool true) ?_ (hr := ((show _ = Result.ok (Next.value (.bool (decide (((k : Nat) : Int) ≤ n)))) _ from (by kernel_rfl)).trans (congrArg (fun z => Result.ok (Next.value (.bool z)) _) (show (decide (((k : Nat) : Int) ≤ n)) = true from decide_eq_true (by have := (hF.1.resolve_left fk).1; omega)))))
        refine sv 93 (.bool true) ?_
        refine sv 94 (.bool true) ?_
        refine sv 95 (.func (.func 25) #[] #[.pointer (some ⟨kb10, 0, none⟩), .pointer (some ⟨kb11, 0, none⟩)]) ?_
        refine sv 96 (.int .i64 ((k : Nat) : Int)) ?_
        replace b10 := (b10.past hbV15)
        replace b11 := (b11.past hbV15)
        replace x66 := (x66.past hbV15)
        replace x68 := (x68.past hbV15)
        refine se 97 25 #[.int .i64 ((k : Nat) : Int), .pointer (some ⟨kb10, 0, none⟩), .pointer (some ⟨kb11, 0, none⟩)] (fun Gx hGx => ?_)
        ((with_reducible refine ((HS k _ _ _ _ p66 p68 c66 c68 _ _ rfl (by omega) (by omega) b10 b11 x66 x68 (by omega) (by omega)).out).mono ?_))
        rintro eV16 V16 ⟨rfl, hbV16⟩
        have hzV16 := hbV16.size
        rw [show (rCmp (rCut (dMinus h) k false) (rCut (dMinus l) k false) == 0) = true from beq_iff_eq.2 ((hask k (by omega)).2 (hF.1.resolve_left fk).2)]
        refine ⟨.bool true, rfl, hGx _ _ ?_⟩
        clear hGx Gx
        refine sv 98 (.bool true) ?_
        refine sv 99 (.bool true) ?_
        refine sv 100 (.int .i64 ((k : Nat) : Int)) ?_
        refine sv 101 (.int .i64 n) ?_
        refine sv 102 (.bool false) ?_ (hr := ((show _ = Result.ok (Next.value (.bool (((k : Nat) : Int) == n))) _ from (by kernel_rfl)).trans (congrArg (fun z => Result.ok (Next.value (.bool z)) _) (show (((k : Nat) : Int) == n) = false from beq_eq_false_iff_ne.2 (by omega)))))
        refine sv 103 (.bool false) ?_
        refine sv 104 (.func (.func 25) #[] #[.pointer (some ⟨kb10, 0, none⟩), .pointer (some ⟨kb11, 0, none⟩)]) ?_
        refine sv 105 (.int .i64 ((k : Nat) : Int)) ?_
        refine sv 106 (.int .i64 ((k + 1 : Nat) : Int)) ?_ (hr := ((show _ = Result.ok (Next.value (.int .i64 (IntKind.wrap .i64 (((k : Nat) : Int) + 1)))) _ by kernel_rfl).trans (congrArg (fun z => Result.ok (Next.value (.int .i64 z)) _) ((by rw [show ((k : Nat) : Int) + 1 = ((k + 1 : Nat) : Int) by omega]; exact IntWalk.i64_in _ (by omega))))))
        replace b10 := (b10.past hbV16)
        replace b11 := (b11.past hbV16)
        replace x66 := (x66.past hbV16)
        replace x68 := (x68.past hbV16)
        refine se 107 25 #[.int .i64 ((k + 1 : Nat) : Int), .pointer (some ⟨kb10, 0, none⟩), .pointer (some ⟨kb11, 0, none⟩)] (fun Gx hGx => ?_)
        ((with_reducible refine ((HS (k + 1) _ _ _ _ p66 p68 c66 c68 _ _ rfl (by omega) (by omega) b10 b11 x66 x68 (by omega) (by omega)).out).mono ?_))
        rintro eV17 V17 ⟨rfl, hbV17⟩
        have hzV17 := hbV17.size
        rw [show (rCmp (rCut (dMinus h) (k + 1) false) (rCut (dMinus l) (k + 1) false) == 0) = false from beq_eq_false_iff_ne.2 (fun hh => hF.2 ⟨by have := (hF.1.resolve_left fk).1; omega, (hask (k + 1) (by omega)).1 hh⟩)]
        refine ⟨.bool false, rfl, hGx _ _ ?_⟩
        clear hGx Gx
        refine sv 108 (.bool true) ?_
        refine sv 109 (.bool true) ?_
        refine sv 110 (.bool true) ?_
        refine sv 4 (.bool true) ?_
        refine sx_nil ?_
        refine sx_then ?_
        refine wp_ret ?_
        repeat (first | with_reducible refine sx_thenret ?_ | with_reducible refine sx_blockret ?_)
        refine bodyPost_ret (v := .bool true) (by simp [results, Tryd.results7, go_sem]) rfl ?_
        exact ⟨rfl, (bthru (bthru (bthru (bthru (((bthru (bthru (bthru (bthru ((bthru (bthru (bthru (bthru (bthru hbV1 hbV2) hbV3) hbV4) hbV5) hbV6).trans (hOV7.below (by omega))) hbV8) hbV9) hbV10) hbV11).trans (hOV12.below (by omega))).trans (hOV13.below (by omega))) hbV14) hbV15) hbV16) hbV17)⟩
      refine rd1 (fun Kx hKx => ?_)
      replace b10 := (b10.past hbV9)
      refine sk 67 (.agg #[.bool l.neg, .slice p58 (dig B16 l.m).length c58, .int .i64 l.e]) ?_ (hr := (exec_ld (by kernel_rfl) (run_ld b10 hT36 0 [.bool l.neg, .slice p58 (dig B16 l.m).length c58, .int .i64 l.e] (by kernel_rfl) (by kernel_rfl))))
      refine hKx.out _ _ True.intro ?_
      clear hKx Kx
      refine sxr [1] ?_
      refine rd1 (fun Kx hKx => ?_)
      replace y58 := (y58.past (bthru (bthru (hbV6.trans (hOV7.below (by omega))) hbV8) hbV9))
      refine sek 66 24 #[.agg #[.bool h.neg, .slice q58 (dig B16 h.m).length d58, .int .i64 h.e]] ?_
      ((with_reducible refine (rminusNe h q58 d58 kb10 kb11 _ y58.rd y58.cap (fun hh => by have := ly58 hh; omega) (by have := b10.lt; omega) (by have := b11.lt; omega)).mono ?_))
      rintro eV10 V10 ⟨p66, c66, rfl, x66, hne66, hbV10⟩
      have hzV10 := hbV10.size
      have lx66 := fun h => x66.lt h
      have lx66 := fun hh => hne66 hh
      refine ⟨.agg #[.bool ((dMinus h).neg), .slice p66 (dig B16 (dMinus h).m).length c66, .int .i64 ((dMinus h).e)], rfl, ?_⟩
      refine hKx.out _ _ True.intro ?_
      clear hKx Kx
      refine sxr [3] ?_
      refine rd1 (fun Kx hKx => ?_)
      replace x58 := (x58.past (bthru (bthru (bthru (hbV6.trans (hOV7.below (by omega))) hbV8) hbV9) hbV10))
      replace b10 := (b10.past hbV10)
      replace b11 := (b11.past hbV10)
      refine sek 68 24 #[.agg #[.bool l.neg, .slice p58 (dig B16 l.m).length c58, .int .i64 l.e]] ?_
      ((with_reducible refine (rminusNe l p58 c58 kb10 kb11 _ x58.rd x58.cap (fun hh => by have := lx58 hh; omega) (by have := b10.lt; omega) (by have := b11.lt; omega)).mono ?_))
      rintro eV11 V11 ⟨p68, c68, rfl, x68, hne68, hbV11⟩
      have hzV11 := hbV11.size
      have lx68 := fun h => x68.lt h
      have lx68 := fun hh => hne68 hh
      refine ⟨.agg #[.bool ((dMinus l).neg), .slice p68 (dig B16 (dMinus l).m).length c68, .int .i64 ((dMinus l).e)], rfl, ?_⟩
      refine hKx.out _ _ True.intro ?_
      clear hKx Kx
      refine sxr [4] ?_
      refine rd1 (fun Kx hKx => ?_)
      replace b10 := (b10.past hbV11)
      refine ssk none b10 hT36 0 #[.bool ((dMinus h).neg), .slice p66 (dig B16 (dMinus h).m).length c66, .int .i64 ((dMinus h).e)] #[.bool ((dMinus h).neg), .slice p66 (dig B16 (dMinus h).m).length c66, .int .i64 ((dMinus h).e)] ?_
      have boV12 := b10
      clear b10
      intro V12 hOV12 b10
      have hzV12 := hOV12.size
      refine hKx.out _ _ True.intro ?_
      clear hKx Kx
      refine sxr [5] ?_
      refine rd1 (fun Kx hKx => ?_)
      replace b11 := ((b11.past hbV11).only hOV12 (by omega))
      refine ssk none b11 hT36 0 #[.bool ((dMinus l).neg), .slice p68 (dig B16 (dMinus l).m).length c68, .int .i64 ((dMinus l).e)] #[.bool ((dMinus l).neg), .slice p68 (dig B16 (dMinus l).m).length c68, .int .i64 ((dMinus l).e)] ?_
      have boV13 := b11
      clear b11
      intro V13 hOV13 b11
      have hzV13 := hOV13.size
      refine hKx.out _ _ True.intro ?_
      clear hKx Kx
      refine sx_done (by kernel_rfl) ?_
      refine sx_then ?_
      refine wp_seq ?_
      refine sx_region ?_
      refine sv 69 (.func (.func 25) #[] #[.pointer (some ⟨kb10, 0, none⟩), .pointer (some ⟨kb11, 0, none⟩)]) ?_
      refine sv 12 (.func (.func 25) #[] #[.pointer (some ⟨kb10, 0, none⟩), .pointer (some ⟨kb11, 0, none⟩)]) ?_
      refine sx_nil ?_
      refine sx_then ?_
      refine wp_seq ?_
      refine wp_seq ?_
      by_cases fk : k = 0
      · skip
        refine sx_region ?_
        replace b10 := (b10.only hOV13 (by omega))
        refine sv 70 (.agg #[.bool ((dMinus h).neg), .slice p66 (dig B16 (dMinus h).m).length c66, .int .i64 ((dMinus h).e)]) ?_ (hr := (exec_ld (by kernel_rfl) (run_ld b10 hT36 0 [.bool ((dMinus h).neg), .slice p66 (dig B16 (dMinus h).m).length c66, .int .i64 ((dMinus h).e)] (by kernel_rfl) (by kernel_rfl))))
        replace x66 := (((x66.past hbV11).only hOV12 (fun h => by have := lx66 h; omega)).only hOV13 (fun h => by have := lx66 h; omega))
        refine se 71 28 #[.agg #[.bool ((dMinus h).neg), .slice p66 (dig B16 (dMinus h).m).length c66, .int .i64 ((dMinus h).e)]] (fun Gx hGx => ?_)
        ((with_reducible refine (rdsign (dMinus h) p66 c66 _ _ x66 hLO).mono ?_))
        rintro eV14 V14 ⟨rfl, hbV14⟩
        have hzV14 := hbV14.size
        refine ⟨.int .i64 (dSign (dMinus h)), rfl, hGx _ _ ?_⟩
        clear hGx Gx
        refine sv 72 (.bool false) ?_ (hr := ((show _ = Result.ok (Next.value (.bool (decide ((dSign (dMinus h)) ≤ 0)))) _ from (by kernel_rfl)).trans (congrArg (fun z => Result.ok (Next.value (.bool z)) _) (show (decide ((dSign (dMinus h)) ≤ 0)) = false from decide_eq_false hpos))))
        refine sv 73 (.bool false) ?_
        refine sv 74 (.func (.func 25) #[] #[.pointer (some ⟨kb10, 0, none⟩), .pointer (some ⟨kb11, 0, none⟩)]) ?_
        replace b10 := (b10.past hbV14)
        replace b11 := (b11.past hbV14)
        replace x66 := (x66.past hbV14)
        replace x68 := (((x68.only hOV12 (fun h => by have := lx68 h; omega)).only hOV13 (fun h => by have := lx68 h; omega)).past hbV14)
        refine se 75 25 #[.int .i64 1, .pointer (some ⟨kb10, 0, none⟩), .pointer (some ⟨kb11, 0, none⟩)] (fun Gx hGx => ?_)
        ((with_reducible refine ((HS 1 1 _ _ _ p66 p68 c66 c68 _ _ rfl (by omega) (by omega) b10 b11 x66 x68 (by omega) (by omega)).out).mono ?_))
        rintro eV15 V15 ⟨rfl, hbV15⟩
        have hzV15 := hbV15.size
        rw [show (rCmp (rCut (dMinus h) 1 false) (rCut (dMinus l) 1 false) == 0) = false from beq_eq_false_iff_ne.2 (fun hh => hF.2 (by rw [fk]; exact ⟨by omega, (hask 1 (by omega)).1 hh⟩))]
        refine ⟨.bool false, rfl, hGx _ _ ?_⟩
        clear hGx Gx
        refine sv 76 (.bool true) ?_
        refine sv 77 (.bool true) ?_
        refine sx_nil ?_
        refine sx_then ?_
        refine wp_cond_true (by kernel_rfl) ?_
        refine wp_seq ?_
        refine sx_region ?_
        refine sv 78 (.int .i64 ((k : Nat) : Int)) ?_
        refine sv 79 (.bool true) ?_ (hr := ((show _ = Result.ok (Next.value (.bool (((k : Nat) : Int) == 0))) _ from (by kernel_rfl)).trans (congrArg (fun z => Result.ok (Next.value (.bool z)) _) (show (((k : Nat) : Int) == 0) = true from beq_iff_eq.2 (by omega)))))
        refine sv 80 (.bool true) ?_
        refine sv 81 (.bool (decide (((k : Nat) : Int) > 0))) ?_
        refine sv 82 (.bool true) ?_ (hr := ((show _ = Result.ok (Next.value (.bool (!(decide (((k : Nat) : Int) > 0))))) _ from (by kernel_rfl)).trans (congrArg (fun z => Result.ok (Next.value (.bool z)) _) (show (!(decide (((k : Nat) : Int) > 0))) = true from by rw [decide_eq_false (show ¬ ((k : Nat) : Int) > 0 by omega)]; rfl))))
        refine sv 83 (.bool true) ?_
        refine sv 4 (.bool true) ?_
        refine sx_nil ?_
        refine sx_then ?_
        refine wp_ret ?_
        repeat (first | with_reducible refine sx_thenret ?_ | with_reducible refine sx_blockret ?_)
        refine bodyPost_ret (v := .bool true) (by simp [results, Tryd.results7, go_sem]) rfl ?_
        exact ⟨rfl, (bthru (bthru (((bthru (bthru (bthru (bthru ((bthru (bthru (bthru (bthru (bthru hbV1 hbV2) hbV3) hbV4) hbV5) hbV6).trans (hOV7.below (by omega))) hbV8) hbV9) hbV10) hbV11).trans (hOV12.below (by omega))).trans (hOV13.below (by omega))) hbV14) hbV15)⟩
      refine sx_region ?_
      replace b10 := (b10.only hOV13 (by omega))
      refine sv 70 (.agg #[.bool ((dMinus h).neg), .slice p66 (dig B16 (dMinus h).m).length c66, .int .i64 ((dMinus h).e)]) ?_ (hr := (exec_ld (by kernel_rfl) (run_ld b10 hT36 0 [.bool ((dMinus h).neg), .slice p66 (dig B16 (dMinus h).m).length c66, .int .i64 ((dMinus h).e)] (by kernel_rfl) (by kernel_rfl))))
      replace x66 := (((x66.past hbV11).only hOV12 (fun h => by have := lx66 h; omega)).only hOV13 (fun h => by have := lx66 h; omega))
      refine se 71 28 #[.agg #[.bool ((dMinus h).neg), .slice p66 (dig B16 (dMinus h).m).length c66, .int .i64 ((dMinus h).e)]] (fun Gx hGx => ?_)
      ((with_reducible refine (rdsign (dMinus h) p66 c66 _ _ x66 hLO).mono ?_))
      rintro eV14 V14 ⟨rfl, hbV14⟩
      have hzV14 := hbV14.size
      refine ⟨.int .i64 (dSign (dMinus h)), rfl, hGx _ _ ?_⟩
      clear hGx Gx
      refine sv 72 (.bool false) ?_ (hr := ((show _ = Result.ok (Next.value (.bool (decide ((dSign (dMinus h)) ≤ 0)))) _ from (by kernel_rfl)).trans (congrArg (fun z => Result.ok (Next.value (.bool z)) _) (show (decide ((dSign (dMinus h)) ≤ 0)) = false from decide_eq_false hpos))))
      refine sv 73 (.bool false) ?_
      refine sv 74 (.func (.func 25) #[] #[.pointer (some ⟨kb10, 0, none⟩), .pointer (some ⟨kb11, 0, none⟩)]) ?_
      replace b10 := (b10.past hbV14)
      replace b11 := (b11.past hbV14)
      replace x66 := (x66.past hbV14)
      replace x68 := (((x68.only hOV12 (fun h => by have := lx68 h; omega)).only hOV13 (fun h => by have := lx68 h; omega)).past hbV14)
      refine se 75 25 #[.int .i64 1, .pointer (some ⟨kb10, 0, none⟩), .pointer (some ⟨kb11, 0, none⟩)] (fun Gx hGx => ?_)
      ((with_reducible refine ((HS 1 1 _ _ _ p66 p68 c66 c68 _ _ rfl (by omega) (by omega) b10 b11 x66 x68 (by omega) (by omega)).out).mono ?_))
      rintro eV15 V15 ⟨rfl, hbV15⟩
      have hzV15 := hbV15.size
      rw [show (rCmp (rCut (dMinus h) 1 false) (rCut (dMinus l) 1 false) == 0) = true from beq_iff_eq.2 ((hask 1 (by omega)).2 (trD_mono bl bh l0 h0 (show 1 ≤ k by omega) (hF.1.resolve_left fk).2))]
      refine ⟨.bool true, rfl, hGx _ _ ?_⟩
      clear hGx Gx
      refine sv 76 (.bool false) ?_
      refine sv 77 (.bool false) ?_
      refine sx_nil ?_
      refine sx_then ?_
      refine wp_cond_false (by kernel_rfl) ?_
      refine wp_skip ?_
      refine sx_then ?_
      refine wp_seq ?_
      by_cases fe : k = B
      · skip
        refine sx_region ?_
        refine sv 84 (.bool true) ?_ (hr := ((show _ = Result.ok (Next.value (.bool (decide (((k : Nat) : Int) > 0)))) _ from (by kernel_rfl)).trans (congrArg (fun z => Result.ok (Next.value (.bool z)) _) (show (decide (((k : Nat) : Int) > 0)) = true from decide_eq_true (by omega)))))
        refine sv 85 (.bool true) ?_
        refine sv 86 (.int .i64 ((k : Nat) : Int)) ?_
        refine sv 87 (.bool true) ?_ (hr := ((show _ = Result.ok (Next.value (.bool (decide (((k : Nat) : Int) ≥ 1)))) _ from (by kernel_rfl)).trans (congrArg (fun z => Result.ok (Next.value (.bool z)) _) (show (decide (((k : Nat) : Int) ≥ 1)) = true from decide_eq_true (by omega)))))
        refine sv 88 (.bool true) ?_
        refine sv 89 (.bool true) ?_
        refine sv 90 (.int .i64 ((k : Nat) : Int)) ?_
        refine sv 91 (.int .i64 n) ?_
        refine sv 92 (.bool true) ?_ (hr := ((show _ = Result.ok (Next.value (.bool (decide (((k : Nat) : Int) ≤ n)))) _ from (by kernel_rfl)).trans (congrArg (fun z => Result.ok (Next.value (.bool z)) _) (show (decide (((k : Nat) : Int) ≤ n)) = true from decide_eq_true (by have := (hF.1.resolve_left fk).1; omega)))))
        refine sv 93 (.bool true) ?_
        refine sv 94 (.bool true) ?_
        refine sv 95 (.func (.func 25) #[] #[.pointer (some ⟨kb10, 0, none⟩), .pointer (some ⟨kb11, 0, none⟩)]) ?_
        refine sv 96 (.int .i64 ((k : Nat) : Int)) ?_
        replace b10 := (b10.past hbV15)
        replace b11 := (b11.past hbV15)
        replace x66 := (x66.past hbV15)
        replace x68 := (x68.past hbV15)
        refine se 97 25 #[.int .i64 ((k : Nat) : Int), .pointer (some ⟨kb10, 0, none⟩), .pointer (some ⟨kb11, 0, none⟩)] (fun Gx hGx => ?_)
        ((with_reducible refine ((HS k _ _ _ _ p66 p68 c66 c68 _ _ rfl (by omega) (by omega) b10 b11 x66 x68 (by omega) (by omega)).out).mono ?_))
        rintro eV16 V16 ⟨rfl, hbV16⟩
        have hzV16 := hbV16.size
        rw [show (rCmp (rCut (dMinus h) k false) (rCut (dMinus l) k false) == 0) = true from beq_iff_eq.2 ((hask k (by omega)).2 (hF.1.resolve_left fk).2)]
        refine ⟨.bool true, rfl, hGx _ _ ?_⟩
        clear hGx Gx
        refine sv 98 (.bool true) ?_
        refine sv 99 (.bool true) ?_
        refine sv 100 (.int .i64 ((k : Nat) : Int)) ?_
        refine sv 101 (.int .i64 n) ?_
        refine sv 102 (.bool true) ?_ (hr := ((show _ = Result.ok (Next.value (.bool (((k : Nat) : Int) == n))) _ from (by kernel_rfl)).trans (congrArg (fun z => Result.ok (Next.value (.bool z)) _) (show (((k : Nat) : Int) == n) = true from beq_iff_eq.2 (by omega)))))
        refine sv 103 (.bool true) ?_
        refine so (some 104) ?_
        refine so (some 105) ?_
        refine so (some 106) ?_
        refine so (some 107) ?_
        refine so (some 108) ?_
        refine sv 109 (.bool true) ?_
        refine sv 110 (.bool true) ?_
        refine sv 4 (.bool true) ?_
        refine sx_nil ?_
        refine sx_then ?_
        refine wp_ret ?_
        repeat (first | with_reducible refine sx_thenret ?_ | with_reducible refine sx_blockret ?_)
        refine bodyPost_ret (v := .bool true) (by simp [results, Tryd.results7, go_sem]) rfl ?_
        exact ⟨rfl, (bthru (bthru (bthru (((bthru (bthru (bthru (bthru ((bthru (bthru (bthru (bthru (bthru hbV1 hbV2) hbV3) hbV4) hbV5) hbV6).trans (hOV7.below (by omega))) hbV8) hbV9) hbV10) hbV11).trans (hOV12.below (by omega))).trans (hOV13.below (by omega))) hbV14) hbV15) hbV16)⟩
      refine sx_region ?_
      refine sv 84 (.bool true) ?_ (hr := ((show _ = Result.ok (Next.value (.bool (decide (((k : Nat) : Int) > 0)))) _ from (by kernel_rfl)).trans (congrArg (fun z => Result.ok (Next.value (.bool z)) _) (show (decide (((k : Nat) : Int) > 0)) = true from decide_eq_true (by omega)))))
      refine sv 85 (.bool true) ?_
      refine sv 86 (.int .i64 ((k : Nat) : Int)) ?_
      refine sv 87 (.bool true) ?_ (hr := ((show _ = Result.ok (Next.value (.bool (decide (((k : Nat) : Int) ≥ 1)))) _ from (by kernel_rfl)).trans (congrArg (fun z => Result.ok (Next.value (.bool z)) _) (show (decide (((k : Nat) : Int) ≥ 1)) = true from decide_eq_true (by omega)))))
      refine sv 88 (.bool true) ?_
      refine sv 89 (.bool true) ?_
      refine sv 90 (.int .i64 ((k : Nat) : Int)) ?_
      refine sv 91 (.int .i64 n) ?_
      refine sv 92 (.bool true) ?_ (hr := ((show _ = Result.ok (Next.value (.bool (decide (((k : Nat) : Int) ≤ n)))) _ from (by kernel_rfl)).trans (congrArg (fun z => Result.ok (Next.value (.bool z)) _) (show (decide (((k : Nat) : Int) ≤ n)) = true from decide_eq_true (by have := (hF.1.resolve_left fk).1; omega)))))
      refine sv 93 (.bool true) ?_
      refine sv 94 (.bool true) ?_
      refine sv 95 (.func (.func 25) #[] #[.pointer (some ⟨kb10, 0, none⟩), .pointer (some ⟨kb11, 0, none⟩)]) ?_
      refine sv 96 (.int .i64 ((k : Nat) : Int)) ?_
      replace b10 := (b10.past hbV15)
      replace b11 := (b11.past hbV15)
      replace x66 := (x66.past hbV15)
      replace x68 := (x68.past hbV15)
      refine se 97 25 #[.int .i64 ((k : Nat) : Int), .pointer (some ⟨kb10, 0, none⟩), .pointer (some ⟨kb11, 0, none⟩)] (fun Gx hGx => ?_)
      ((with_reducible refine ((HS k _ _ _ _ p66 p68 c66 c68 _ _ rfl (by omega) (by omega) b10 b11 x66 x68 (by omega) (by omega)).out).mono ?_))
      rintro eV16 V16 ⟨rfl, hbV16⟩
      have hzV16 := hbV16.size
      rw [show (rCmp (rCut (dMinus h) k false) (rCut (dMinus l) k false) == 0) = true from beq_iff_eq.2 ((hask k (by omega)).2 (hF.1.resolve_left fk).2)]
      refine ⟨.bool true, rfl, hGx _ _ ?_⟩
      clear hGx Gx
      refine sv 98 (.bool true) ?_
      refine sv 99 (.bool true) ?_
      refine sv 100 (.int .i64 ((k : Nat) : Int)) ?_
      refine sv 101 (.int .i64 n) ?_
      refine sv 102 (.bool false) ?_ (hr := ((show _ = Result.ok (Next.value (.bool (((k : Nat) : Int) == n))) _ from (by kernel_rfl)).trans (congrArg (fun z => Result.ok (Next.value (.bool z)) _) (show (((k : Nat) : Int) == n) = false from beq_eq_false_iff_ne.2 (by omega)))))
      refine sv 103 (.bool false) ?_
      refine sv 104 (.func (.func 25) #[] #[.pointer (some ⟨kb10, 0, none⟩), .pointer (some ⟨kb11, 0, none⟩)]) ?_
      refine sv 105 (.int .i64 ((k : Nat) : Int)) ?_
      refine sv 106 (.int .i64 ((k + 1 : Nat) : Int)) ?_ (hr := ((show _ = Result.ok (Next.value (.int .i64 (IntKind.wrap .i64 (((k : Nat) : Int) + 1)))) _ by kernel_rfl).trans (congrArg (fun z => Result.ok (Next.value (.int .i64 z)) _) ((by rw [show ((k : Nat) : Int) + 1 = ((k + 1 : Nat) : Int) by omega]; exact IntWalk.i64_in _ (by omega))))))
      replace b10 := (b10.past hbV16)
      replace b11 := (b11.past hbV16)
      replace x66 := (x66.past hbV16)
      replace x68 := (x68.past hbV16)
      refine se 107 25 #[.int .i64 ((k + 1 : Nat) : Int), .pointer (some ⟨kb10, 0, none⟩), .pointer (some ⟨kb11, 0, none⟩)] (fun Gx hGx => ?_)
      ((with_reducible refine ((HS (k + 1) _ _ _ _ p66 p68 c66 c68 _ _ rfl (by omega) (by omega) b10 b11 x66 x68 (by omega) (by omega)).out).mono ?_))
      rintro eV17 V17 ⟨rfl, hbV17⟩
      have hzV17 := hbV17.size
      rw [show (rCmp (rCut (dMinus h) (k + 1) false) (rCut (dMinus l) (k + 1) false) == 0) = false from beq_eq_false_iff_ne.2 (fun hh => hF.2 ⟨by have := (hF.1.resolve_left fk).1; omega, (hask (k + 1) (by omega)).1 hh⟩)]
      refine ⟨.bool false, rfl, hGx _ _ ?_⟩
      clear hGx Gx
      refine sv 108 (.bool true) ?_
      refine sv 109 (.bool true) ?_
      refine sv 110 (.bool true) ?_
      refine sv 4 (.bool true) ?_
      refine sx_nil ?_
      refine sx_then ?_
      refine wp_ret ?_
      repeat (first | with_reducible refine sx_thenret ?_ | with_reducible refine sx_blockret ?_)
      refine bodyPost_ret (v := .bool true) (by simp [results, Tryd.results7, go_sem]) rfl ?_
      exact ⟨rfl, (bthru (bthru (bthru (bthru (((bthru (bthru (bthru (bthru ((bthru (bthru (bthru (bthru (bthru hbV1 hbV2) hbV3) hbV4) hbV5) hbV6).trans (hOV7.below (by omega))) hbV8) hbV9) hbV10) hbV11).trans (hOV12.below (by omega))).trans (hOV13.below (by omega))) hbV14) hbV15) hbV16) hbV17)⟩
    refine rd1 (fun Kx hKx => ?_)
    replace b10 := (b10.past hbV9)
    refine sk 67 (.agg #[.bool l.neg, .slice p58 (dig B16 l.m).length c58, .int .i64 l.e]) ?_ (hr := (exec_ld (by kernel_rfl) (run_ld b10 hT36 0 [.bool l.neg, .slice p58 (dig B16 l.m).length c58, .int .i64 l.e] (by kernel_rfl) (by kernel_rfl))))
    refine hKx.out _ _ True.intro ?_
    clear hKx Kx
    refine sxr [0] ?_
    refine rd1 (fun Kx hKx => ?_)
    replace b11 := (b11.past hbV9)
    refine sk 65 (.agg #[.bool h.neg, .slice q58 (dig B16 h.m).length d58, .int .i64 h.e]) ?_ (hr := (exec_ld (by kernel_rfl) (run_ld b11 hT36 0 [.bool h.neg, .slice q58 (dig B16 h.m).length d58, .int .i64 h.e] (by kernel_rfl) (by kernel_rfl))))
    refine hKx.out _ _ True.intro ?_
    clear hKx Kx
    refine sxr [1] ?_
    refine rd1 (fun Kx hKx => ?_)
    replace y58 := (y58.past (bthru (bthru (hbV6.trans (hOV7.below (by omega))) hbV8) hbV9))
    refine sek 66 24 #[.agg #[.bool h.neg, .slice q58 (dig B16 h.m).length d58, .int .i64 h.e]] ?_
    ((with_reducible refine (rminusNe h q58 d58 kb10 kb11 _ y58.rd y58.cap (fun hh => by have := ly58 hh; omega) (by have := b10.lt; omega) (by have := b11.lt; omega)).mono ?_))
    rintro eV10 V10 ⟨p66, c66, rfl, x66, hne66, hbV10⟩
    have hzV10 := hbV10.size
    have lx66 := fun h => x66.lt h
    have lx66 := fun hh => hne66 hh
    refine ⟨.agg #[.bool ((dMinus h).neg), .slice p66 (dig B16 (dMinus h).m).length c66, .int .i64 ((dMinus h).e)], rfl, ?_⟩
    refine hKx.out _ _ True.intro ?_
    clear hKx Kx
    refine sxr [3] ?_
    refine rd1 (fun Kx hKx => ?_)
    replace x58 := (x58.past (bthru (bthru (bthru (hbV6.trans (hOV7.below (by omega))) hbV8) hbV9) hbV10))
    replace b10 := (b10.past hbV10)
    replace b11 := (b11.past hbV10)
    refine sek 68 24 #[.agg #[.bool l.neg, .slice p58 (dig B16 l.m).length c58, .int .i64 l.e]] ?_
    ((with_reducible refine (rminusNe l p58 c58 kb10 kb11 _ x58.rd x58.cap (fun hh => by have := lx58 hh; omega) (by have := b10.lt; omega) (by have := b11.lt; omega)).mono ?_))
    rintro eV11 V11 ⟨p68, c68, rfl, x68, hne68, hbV11⟩
    have hzV11 := hbV11.size
    have lx68 := fun h => x68.lt h
    have lx68 := fun hh => hne68 hh
    refine ⟨.agg #[.bool ((dMinus l).neg), .slice p68 (dig B16 (dMinus l).m).length c68, .int .i64 ((dMinus l).e)], rfl, ?_⟩
    refine hKx.out _ _ True.intro ?_
    clear hKx Kx
    refine sxr [4] ?_
    refine rd1 (fun Kx hKx => ?_)
    replace b10 := (b10.past hbV11)
    refine ssk none b10 hT36 0 #[.bool ((dMinus h).neg), .slice p66 (dig B16 (dMinus h).m).length c66, .int .i64 ((dMinus h).e)] #[.bool ((dMinus h).neg), .slice p66 (dig B16 (dMinus h).m).length c66, .int .i64 ((dMinus h).e)] ?_
    have boV12 := b10
    clear b10
    intro V12 hOV12 b10
    have hzV12 := hOV12.size
    refine hKx.out _ _ True.intro ?_
    clear hKx Kx
    refine sxr [5] ?_
    refine rd1 (fun Kx hKx => ?_)
    replace b11 := ((b11.past hbV11).only hOV12 (by omega))
    refine ssk none b11 hT36 0 #[.bool ((dMinus l).neg), .slice p68 (dig B16 (dMinus l).m).length c68, .int .i64 ((dMinus l).e)] #[.bool ((dMinus l).neg), .slice p68 (dig B16 (dMinus l).m).length c68, .int .i64 ((dMinus l).e)] ?_
    have boV13 := b11
    clear b11
    intro V13 hOV13 b11
    have hzV13 := hOV13.size
    refine hKx.out _ _ True.intro ?_
    clear hKx Kx
    refine sx_done (by kernel_rfl) ?_
    refine sx_then ?_
    refine wp_seq ?_
    refine sx_region ?_
    refine sv 69 (.func (.func 25) #[] #[.pointer (some ⟨kb10, 0, none⟩), .pointer (some ⟨kb11, 0, none⟩)]) ?_
    refine sv 12 (.func (.func 25) #[] #[.pointer (some ⟨kb10, 0, none⟩), .pointer (some ⟨kb11, 0, none⟩)]) ?_
    refine sx_nil ?_
    refine sx_then ?_
    refine wp_seq ?_
    refine wp_seq ?_
    by_cases fk : k = 0
    · skip
      refine sx_region ?_
      replace b10 := (b10.only hOV13 (by omega))
      refine sv 70 (.agg #[.bool ((dMinus h).neg), .slice p66 (dig B16 (dMinus h).m).length c66, .int .i64 ((dMinus h).e)]) ?_ (hr := (exec_ld (by kernel_rfl) (run_ld b10 hT36 0 [.bool ((dMinus h).neg), .slice p66 (dig B16 (dMinus h).m).length c66, .int .i64 ((dMinus h).e)] (by kernel_rfl) (by kernel_rfl))))
      replace x66 := (((x66.past hbV11).only hOV12 (fun h => by have := lx66 h; omega)).only hOV13 (fun h => by have := lx66 h; omega))
      refine se 71 28 #[.agg #[.bool ((dMinus h).neg), .slice p66 (dig B16 (dMinus h).m).length c66, .int .i64 ((dMinus h).e)]] (fun Gx hGx => ?_)
      ((with_reducible refine (rdsign (dMinus h) p66 c66 _ _ x66 hLO).mono ?_))
      rintro eV14 V14 ⟨rfl, hbV14⟩
      have hzV14 := hbV14.size
      refine ⟨.int .i64 (dSign (dMinus h)), rfl, hGx _ _ ?_⟩
      clear hGx Gx
      refine sv 72 (.bool false) ?_ (hr := ((show _ = Result.ok (Next.value (.bool (decide ((dSign (dMinus h)) ≤ 0)))) _ from (by kernel_rfl)).trans (congrArg (fun z => Result.ok (Next.value (.bool z)) _) (show (decide ((dSign (dMinus h)) ≤ 0)) = false from decide_eq_false hpos))))
      refine sv 73 (.bool false) ?_
      refine sv 74 (.func (.func 25) #[] #[.pointer (some ⟨kb10, 0, none⟩), .pointer (some ⟨kb11, 0, none⟩)]) ?_
      replace b10 := (b10.past hbV14)
      replace b11 := (b11.past hbV14)
      replace x66 := (x66.past hbV14)
      replace x68 := (((x68.only hOV12 (fun h => by have := lx68 h; omega)).only hOV13 (fun h => by have := lx68 h; omega)).past hbV14)
      refine se 75 25 #[.int .i64 1, .pointer (some ⟨kb10, 0, none⟩), .pointer (some ⟨kb11, 0, none⟩)] (fun Gx hGx => ?_)
      ((with_reducible refine ((HS 1 1 _ _ _ p66 p68 c66 c68 _ _ rfl (by omega) (by omega) b10 b11 x66 x68 (by omega) (by omega)).out).mono ?_))
      rintro eV15 V15 ⟨rfl, hbV15⟩
      have hzV15 := hbV15.size
      rw [show (rCmp (rCut (dMinus h) 1 false) (rCut (dMinus l) 1 false) == 0) = false from beq_eq_false_iff_ne.2 (fun hh => hF.2 (by rw [fk]; exact ⟨by omega, (hask 1 (by omega)).1 hh⟩))]
      refine ⟨.bool false, rfl, hGx _ _ ?_⟩
      clear hGx Gx
      refine sv 76 (.bool true) ?_
      refine sv 77 (.bool true) ?_
      refine sx_nil ?_
      refine sx_then ?_
      refine wp_cond_true (by kernel_rfl) ?_
      refine wp_seq ?_
      refine sx_region ?_
      refine sv 78 (.int .i64 ((k : Nat) : Int)) ?_
      refine sv 79 (.bool true) ?_ (hr := ((show _ = Result.ok (Next.value (.bool (((k : Nat) : Int) == 0))) _ from (by kernel_rfl)).trans (congrArg (fun z => Result.ok (Next.value (.bool z)) _) (show (((k : Nat) : Int) == 0) = true from beq_iff_eq.2 (by omega)))))
      refine sv 80 (.bool true) ?_
      refine sv 81 (.bool (decide (((k : Nat) : Int) > 0))) ?_
      refine sv 82 (.bool true) ?_ (hr := ((show _ = Result.ok (Next.value (.bool (!(decide (((k : Nat) : Int) > 0))))) _ from (by kernel_rfl)).trans (congrArg (fun z => Result.ok (Next.value (.bool z)) _) (show (!(decide (((k : Nat) : Int) > 0))) = true from by rw [decide_eq_false (show ¬ ((k : Nat) : Int) > 0 by omega)]; rfl))))
      refine sv 83 (.bool true) ?_
      refine sv 4 (.bool true) ?_
      refine sx_nil ?_
      refine sx_then ?_
      refine wp_ret ?_
      repeat (first | with_reducible refine sx_thenret ?_ | with_reducible refine sx_blockret ?_)
      refine bodyPost_ret (v := .bool true) (by simp [results, Tryd.results7, go_sem]) rfl ?_
      exact ⟨rfl, (bthru (bthru (((bthru (bthru (bthru (bthru ((bthru (bthru (bthru (bthru (bthru hbV1 hbV2) hbV3) hbV4) hbV5) hbV6).trans (hOV7.below (by omega))) hbV8) hbV9) hbV10) hbV11).trans (hOV12.below (by omega))).trans (hOV13.below (by omega))) hbV14) hbV15)⟩
    refine sx_region ?_
    replace b10 := (b10.only hOV13 (by omega))
    refine sv 70 (.agg #[.bool ((dMinus h).neg), .slice p66 (dig B16 (dMinus h).m).length c66, .int .i64 ((dMinus h).e)]) ?_ (hr := (exec_ld (by kernel_rfl) (run_ld b10 hT36 0 [.bool ((dMinus h).neg), .slice p66 (dig B16 (dMinus h).m).length c66, .int .i64 ((dMinus h).e)] (by kernel_rfl) (by kernel_rfl))))
    replace x66 := (((x66.past hbV11).only hOV12 (fun h => by have := lx66 h; omega)).only hOV13 (fun h => by have := lx66 h; omega))
    refine se 71 28 #[.agg #[.bool ((dMinus h).neg), .slice p66 (dig B16 (dMinus h).m).length c66, .int .i64 ((dMinus h).e)]] (fun Gx hGx => ?_)
    ((with_reducible refine (rdsign (dMinus h) p66 c66 _ _ x66 hLO).mono ?_))
    rintro eV14 V14 ⟨rfl, hbV14⟩
    have hzV14 := hbV14.size
    refine ⟨.int .i64 (dSign (dMinus h)), rfl, hGx _ _ ?_⟩
    clear hGx Gx
    refine sv 72 (.bool false) ?_ (hr := ((show _ = Result.ok (Next.value (.bool (decide ((dSign (dMinus h)) ≤ 0)))) _ from (by kernel_rfl)).trans (congrArg (fun z => Result.ok (Next.value (.bool z)) _) (show (decide ((dSign (dMinus h)) ≤ 0)) = false from decide_eq_false hpos))))
    refine sv 73 (.bool false) ?_
    refine sv 74 (.func (.func 25) #[] #[.pointer (some ⟨kb10, 0, none⟩), .pointer (some ⟨kb11, 0, none⟩)]) ?_
    replace b10 := (b10.past hbV14)
    replace b11 := (b11.past hbV14)
    replace x66 := (x66.past hbV14)
    replace x68 := (((x68.only hOV12 (fun h => by have := lx68 h; omega)).only hOV13 (fun h => by have := lx68 h; omega)).past hbV14)
    refine se 75 25 #[.int .i64 1, .pointer (some ⟨kb10, 0, none⟩), .pointer (some ⟨kb11, 0, none⟩)] (fun Gx hGx => ?_)
    ((with_reducible refine ((HS 1 1 _ _ _ p66 p68 c66 c68 _ _ rfl (by omega) (by omega) b10 b11 x66 x68 (by omega) (by omega)).out).mono ?_))
    rintro eV15 V15 ⟨rfl, hbV15⟩
    have hzV15 := hbV15.size
    rw [show (rCmp (rCut (dMinus h) 1 false) (rCut (dMinus l) 1 false) == 0) = true from beq_iff_eq.2 ((hask 1 (by omega)).2 (trD_mono bl bh l0 h0 (show 1 ≤ k by omega) (hF.1.resolve_left fk).2))]
    refine ⟨.bool true, rfl, hGx _ _ ?_⟩
    clear hGx Gx
    refine sv 76 (.bool false) ?_
    refine sv 77 (.bool false) ?_
    refine sx_nil ?_
    refine sx_then ?_
    refine wp_cond_false (by kernel_rfl) ?_
    refine wp_skip ?_
    refine sx_then ?_
    refine wp_seq ?_
    by_cases fe : k = B
    · skip
      refine sx_region ?_
      refine sv 84 (.bool true) ?_ (hr := ((show _ = Result.ok (Next.value (.bool (decide (((k : Nat) : Int) > 0)))) _ from (by kernel_rfl)).trans (congrArg (fun z => Result.ok (Next.value (.bool z)) _) (show (decide (((k : Nat) : Int) > 0)) = true from decide_eq_true (by omega)))))
      refine sv 85 (.bool true) ?_
      refine sv 86 (.int .i64 ((k : Nat) : Int)) ?_
      refine sv 87 (.bool true) ?_ (hr := ((show _ = Result.ok (Next.value (.bool (decide (((k : Nat) : Int) ≥ 1)))) _ from (by kernel_rfl)).trans (congrArg (fun z => Result.ok (Next.value (.bool z)) _) (show (decide (((k : Nat) : Int) ≥ 1)) = true from decide_eq_true (by omega)))))
      refine sv 88 (.bool true) ?_
      refine sv 89 (.bool true) ?_
      refine sv 90 (.int .i64 ((k : Nat) : Int)) ?_
      refine sv 91 (.int .i64 n) ?_
      refine sv 92 (.bool true) ?_ (hr := ((show _ = Result.ok (Next.value (.bool (decide (((k : Nat) : Int) ≤ n)))) _ from (by kernel_rfl)).trans (congrArg (fun z => Result.ok (Next.value (.bool z)) _) (show (decide (((k : Nat) : Int) ≤ n)) = true from decide_eq_true (by have := (hF.1.resolve_left fk).1; omega)))))
      refine sv 93 (.bool true) ?_
      refine sv 94 (.bool true) ?_
      refine sv 95 (.func (.func 25) #[] #[.pointer (some ⟨kb10, 0, none⟩), .pointer (some ⟨kb11, 0, none⟩)]) ?_
      refine sv 96 (.int .i64 ((k : Nat) : Int)) ?_
      replace b10 := (b10.past hbV15)
      replace b11 := (b11.past hbV15)
      replace x66 := (x66.past hbV15)
      replace x68 := (x68.past hbV15)
      refine se 97 25 #[.int .i64 ((k : Nat) : Int), .pointer (some ⟨kb10, 0, none⟩), .pointer (some ⟨kb11, 0, none⟩)] (fun Gx hGx => ?_)
      ((with_reducible refine ((HS k _ _ _ _ p66 p68 c66 c68 _ _ rfl (by omega) (by omega) b10 b11 x66 x68 (by omega) (by omega)).out).mono ?_))
      rintro eV16 V16 ⟨rfl, hbV16⟩
      have hzV16 := hbV16.size
      rw [show (rCmp (rCut (dMinus h) k false) (rCut (dMinus l) k false) == 0) = true from beq_iff_eq.2 ((hask k (by omega)).2 (hF.1.resolve_left fk).2)]
      refine ⟨.bool true, rfl, hGx _ _ ?_⟩
      clear hGx Gx
      refine sv 98 (.bool true) ?_
      refine sv 99 (.bool true) ?_
      refine sv 100 (.int .i64 ((k : Nat) : Int)) ?_
      refine sv 101 (.int .i64 n) ?_
      refine sv 102 (.bool true) ?_ (hr := ((show _ = Result.ok (Next.value (.bool (((k : Nat) : Int) == n))) _ from (by kernel_rfl)).trans (congrArg (fun z => Result.ok (Next.value (.bool z)) _) (show (((k : Nat) : Int) == n) = true from beq_iff_eq.2 (by omega)))))
      refine sv 103 (.bool true) ?_
      refine so (some 104) ?_
      refine so (some 105) ?_
      refine so (some 106) ?_
      refine so (some 107) ?_
      refine so (some 108) ?_
      refine sv 109 (.bool true) ?_
      refine sv 110 (.bool true) ?_
      refine sv 4 (.bool true) ?_
      refine sx_nil ?_
      refine sx_then ?_
      refine wp_ret ?_
      repeat (first | with_reducible refine sx_thenret ?_ | with_reducible refine sx_blockret ?_)
      refine bodyPost_ret (v := .bool true) (by simp [results, Tryd.results7, go_sem]) rfl ?_
      exact ⟨rfl, (bthru (bthru (bthru (((bthru (bthru (bthru (bthru ((bthru (bthru (bthru (bthru (bthru hbV1 hbV2) hbV3) hbV4) hbV5) hbV6).trans (hOV7.below (by omega))) hbV8) hbV9) hbV10) hbV11).trans (hOV12.below (by omega))).trans (hOV13.below (by omega))) hbV14) hbV15) hbV16)⟩
    refine sx_region ?_
    refine sv 84 (.bool true) ?_ (hr := ((show _ = Result.ok (Next.value (.bool (decide (((k : Nat) : Int) > 0)))) _ from (by kernel_rfl)).trans (congrArg (fun z => Result.ok (Next.value (.bool z)) _) (show (decide (((k : Nat) : Int) > 0)) = true from decide_eq_true (by omega)))))
    refine sv 85 (.bool true) ?_
    refine sv 86 (.int .i64 ((k : Nat) : Int)) ?_
    refine sv 87 (.bool true) ?_ (hr := ((show _ = Result.ok (Next.value (.bool (decide (((k : Nat) : Int) ≥ 1)))) _ from (by kernel_rfl)).trans (congrArg (fun z => Result.ok (Next.value (.bool z)) _) (show (decide (((k : Nat) : Int) ≥ 1)) = true from decide_eq_true (by omega)))))
    refine sv 88 (.bool true) ?_
    refine sv 89 (.bool true) ?_
    refine sv 90 (.int .i64 ((k : Nat) : Int)) ?_
    refine sv 91 (.int .i64 n) ?_
    refine sv 92 (.bool true) ?_ (hr := ((show _ = Result.ok (Next.value (.bool (decide (((k : Nat) : Int) ≤ n)))) _ from (by kernel_rfl)).trans (congrArg (fun z => Result.ok (Next.value (.bool z)) _) (show (decide (((k : Nat) : Int) ≤ n)) = true from decide_eq_true (by have := (hF.1.resolve_left fk).1; omega)))))
    refine sv 93 (.bool true) ?_
    refine sv 94 (.bool true) ?_
    refine sv 95 (.func (.func 25) #[] #[.pointer (some ⟨kb10, 0, none⟩), .pointer (some ⟨kb11, 0, none⟩)]) ?_
    refine sv 96 (.int .i64 ((k : Nat) : Int)) ?_
    replace b10 := (b10.past hbV15)
    replace b11 := (b11.past hbV15)
    replace x66 := (x66.past hbV15)
    replace x68 := (x68.past hbV15)
    refine se 97 25 #[.int .i64 ((k : Nat) : Int), .pointer (some ⟨kb10, 0, none⟩), .pointer (some ⟨kb11, 0, none⟩)] (fun Gx hGx => ?_)
    ((with_reducible refine ((HS k _ _ _ _ p66 p68 c66 c68 _ _ rfl (by omega) (by omega) b10 b11 x66 x68 (by omega) (by omega)).out).mono ?_))
    rintro eV16 V16 ⟨rfl, hbV16⟩
    have hzV16 := hbV16.size
    rw [show (rCmp (rCut (dMinus h) k false) (rCut (dMinus l) k false) == 0) = true from beq_iff_eq.2 ((hask k (by omega)).2 (hF.1.resolve_left fk).2)]
    refine ⟨.bool true, rfl, hGx _ _ ?_⟩
    clear hGx Gx
    refine sv 98 (.bool true) ?_
    refine sv 99 (.bool true) ?_
    refine sv 100 (.int .i64 ((k : Nat) : Int)) ?_
    refine sv 101 (.int .i64 n) ?_
    refine sv 102 (.bool false) ?_ (hr := ((show _ = Result.ok (Next.value (.bool (((k : Nat) : Int) == n))) _ from (by kernel_rfl)).trans (congrArg (fun z => Result.ok (Next.value (.bool z)) _) (show (((k : Nat) : Int) == n) = false from beq_eq_false_iff_ne.2 (by omega)))))
    refine sv 103 (.bool false) ?_
    refine sv 104 (.func (.func 25) #[] #[.pointer (some ⟨kb10, 0, none⟩), .pointer (some ⟨kb11, 0, none⟩)]) ?_
    refine sv 105 (.int .i64 ((k : Nat) : Int)) ?_
    refine sv 106 (.int .i64 ((k + 1 : Nat) : Int)) ?_ (hr := ((show _ = Result.ok (Next.value (.int .i64 (IntKind.wrap .i64 (((k : Nat) : Int) + 1)))) _ by kernel_rfl).trans (congrArg (fun z => Result.ok (Next.value (.int .i64 z)) _) ((by rw [show ((k : Nat) : Int) + 1 = ((k + 1 : Nat) : Int) by omega]; exact IntWalk.i64_in _ (by omega))))))
    replace b10 := (b10.past hbV16)
    replace b11 := (b11.past hbV16)
    replace x66 := (x66.past hbV16)
    replace x68 := (x68.past hbV16)
    refine se 107 25 #[.int .i64 ((k + 1 : Nat) : Int), .pointer (some ⟨kb10, 0, none⟩), .pointer (some ⟨kb11, 0, none⟩)] (fun Gx hGx => ?_)
    ((with_reducible refine ((HS (k + 1) _ _ _ _ p66 p68 c66 c68 _ _ rfl (by omega) (by omega) b10 b11 x66 x68 (by omega) (by omega)).out).mono ?_))
    rintro eV17 V17 ⟨rfl, hbV17⟩
    have hzV17 := hbV17.size
    rw [show (rCmp (rCut (dMinus h) (k + 1) false) (rCut (dMinus l) (k + 1) false) == 0) = false from beq_eq_false_iff_ne.2 (fun hh => hF.2 ⟨by have := (hF.1.resolve_left fk).1; omega, (hask (k + 1) (by omega)).1 hh⟩)]
    refine ⟨.bool false, rfl, hGx _ _ ?_⟩
    clear hGx Gx
    refine sv 108 (.bool true) ?_
    refine sv 109 (.bool true) ?_
    refine sv 110 (.bool true) ?_
    refine sv 4 (.bool true) ?_
    refine sx_nil ?_
    refine sx_then ?_
    refine wp_ret ?_
    repeat (first | with_reducible refine sx_thenret ?_ | with_reducible refine sx_blockret ?_)
    refine bodyPost_ret (v := .bool true) (by simp [results, Tryd.results7, go_sem]) rfl ?_
    exact ⟨rfl, (bthru (bthru (bthru (bthru (((bthru (bthru (bthru (bthru ((bthru (bthru (bthru (bthru (bthru hbV1 hbV2) hbV3) hbV4) hbV5) hbV6).trans (hOV7.below (by omega))) hbV8) hbV9) hbV10) hbV11).trans (hOV12.below (by omega))).trans (hOV13.below (by omega))) hbV14) hbV15) hbV16) hbV17)⟩
  · replace hneg : l.neg = false := by simpa using hneg
    have hask := ask_pos bl bh hneg (by rw [hng]; exact hneg)
    have hpos : ¬ dSign l ≤ 0 := by
      have := dSgP hneg
      omega
    have hLO := gl
    have HS := fun k K W k1 k2 p q c d b1 b2 (e : K = ((k : Nat) : Int)) hk hk2 B1 B2 x1 x2 hb1 hb2 => Lib.hid (same_any l h k K k1 k2 p q c d b1 b2 W e hk hk2 B1 B2 x1 x2 hb1 hb2 gl gh (fit_cut bl fl.len fl.lo fl.hi hk) (fit_cut bh fh.len fh.lo fh.hi hk))
    have hT4 : SxOne Tryd.prog 4 := sxOne_of (by kernel_rfl) (by kernel_rfl)
    have hT27 : SxAgg Tryd.prog 27 6 := sxAgg_of (by kernel_rfl) (by kernel_rfl)
    have hT36 : SxAgg Tryd.prog 36 3 := sxAgg_of (by kernel_rfl) (by kernel_rfl)
    have hT38 : SxAgg Tryd.prog 38 6 := sxAgg_of (by kernel_rfl) (by kernel_rfl)
    refine calls_of_wp Tryd.func7 rfl ?_
    refine sx_frame (a' := ⟨((.agg #[.bool a.g, .slice a.p a.xs.length a.c, .int .i64 a.e, .bool b.g, .slice b.p b.xs.length b.c, .int .i64 b.e]) :: (.int .i64 n) :: undef :: undef :: undef :: undef :: undef :: undef :: undef :: undef :: undef :: undef :: undef :: undef :: undef :: undef :: undef :: undef :: undef :: undef :: undef :: undef :: undef :: undef :: undef :: undef :: undef :: undef :: undef :: undef :: undef :: undef :: undef :: undef :: undef :: undef :: undef :: undef :: undef :: undef :: undef :: undef :: undef :: undef :: undef :: undef :: undef :: undef :: undef :: undef :: undef :: undef :: undef :: undef :: undef :: undef :: undef :: undef :: undef :: undef :: undef :: undef :: undef :: undef :: undef :: undef :: undef :: undef :: undef :: undef :: undef :: undef :: undef :: undef :: undef :: undef :: undef :: undef :: undef :: undef :: undef :: undef :: undef :: undef :: undef :: undef :: undef :: undef :: undef :: undef :: undef :: undef :: undef :: undef :: undef :: undef :: undef :: undef :: undef :: undef :: undef :: undef :: undef :: undef :: undef :: undef :: undef :: undef :: undef :: undef :: undef :: []).toArray, []⟩) (by kernel_rfl) ?_
    refine wp_seq ?_
    refine sx_region ?_
    refine sn 2 #[.bool a.g, .slice a.p a.xs.length a.c, .int .i64 a.e, .bool b.g, .slice b.p b.xs.length b.c, .int .i64 b.e] 27 (fun V1 hbV1 hzV1 b2 => ?_)
    refine sv 4 (.bool false) ?_
    refine sx_nil ?_
    refine sx_then ?_
    refine wp_seq ?_
    refine sx_region ?_
    refine sv 14 (.agg #[.bool a.g, .slice a.p a.xs.length a.c, .int .i64 a.e, .bool b.g, .slice b.p b.xs.length b.c, .int .i64 b.e]) ?_ (hr := (exec_ld (by kernel_rfl) (run_ld b2 hT27 0 [.bool a.g, .slice a.p a.xs.length a.c, .int .i64 a.e, .bool b.g, .slice b.p b.xs.length b.c, .int .i64 b.e] (by kernel_rfl) (by kernel_rfl))))
    refine sv 15 (.int .i64 n) ?_
    replace ia := (ia.past hbV1)
    replace ib := (ib.past hbV1)
    replace hT := (hT.past hbV1)
    refine se 16 21 #[.agg #[.bool a.g, .slice a.p a.xs.length a.c, .int .i64 a.e, .bool b.g, .slice b.p b.xs.length b.c, .int .i64 b.e], .int .i64 n] (fun Gx hGx => ?_)
    ((with_reducible refine ((HB _ ia ib hT).out).mono ?_))
    rintro eV2 V2 ⟨k, hF, hkb, rfl, hbV2⟩
    have hzV2 := hbV2.size
    refine ⟨.tuple #[.int .i64 ((k : Nat) : Int), .bool (decide (((k : Nat) : Int) > 0)), .int .i64 0], rfl, hGx _ _ ?_⟩
    clear hGx Gx
    refine sv 13 (.tuple #[.int .i64 ((k : Nat) : Int), .bool (decide (((k : Nat) : Int) > 0)), .int .i64 0]) ?_
    refine sv 17 (.int .i64 ((k : Nat) : Int)) ?_
    refine sv 18 (.bool (decide (((k : Nat) : Int) > 0))) ?_
    refine sv 19 (.int .i64 0) ?_
    refine sv 5 (.int .i64 ((k : Nat) : Int)) ?_
    refine sv 6 (.bool (decide (((k : Nat) : Int) > 0))) ?_
    refine sv 7 (.int .i64 0) ?_
    refine sx_nil ?_
    refine sx_then ?_
    refine wp_seq ?_
    refine sx_region ?_
    replace b2 := (b2.past hbV2)
    refine sv 20 (.agg #[.bool a.g, .slice a.p a.xs.length a.c, .int .i64 a.e, .bool b.g, .slice b.p b.xs.length b.c, .int .i64 b.e]) ?_ (hr := (exec_ld (by kernel_rfl) (run_ld b2 hT27 0 [.bool a.g, .slice a.p a.xs.length a.c, .int .i64 a.e, .bool b.g, .slice b.p b.xs.length b.c, .int .i64 b.e] (by kernel_rfl) (by kernel_rfl))))
    replace ia := (ia.past hbV2)
    replace ib := (ib.past hbV2)
    refine se 21 22 #[.agg #[.bool a.g, .slice a.p a.xs.length a.c, .int .i64 a.e, .bool b.g, .slice b.p b.xs.length b.c, .int .i64 b.e]] (fun Gx hGx => ?_)
    ((with_reducible refine ((HC _ ia ib).out).mono ?_))
    rintro eV3 V3 ⟨rfl, hbV3⟩
    have hzV3 := hbV3.size
    refine ⟨.int .i64 0, rfl, hGx _ _ ?_⟩
    clear hGx Gx
    refine sv 8 (.int .i64 0) ?_
    refine sx_nil ?_
    refine sx_then ?_
    refine wp_seq ?_
    refine wp_seq ?_
    refine sx_region ?_
    refine sv 22 (.int .i64 0) ?_
    refine sv 23 (.bool true) ?_
    refine sv 24 (.bool true) ?_
    refine sv 25 (.int .i64 n) ?_
    refine sv 26 (.bool false) ?_ (hr := ((show _ = Result.ok (Next.value (.bool (decide (n < 1)))) _ from (by kernel_rfl)).trans (congrArg (fun z => Result.ok (Next.value (.bool z)) _) (show (decide (n < 1)) = false from decide_eq_false (by omega)))))
    refine sv 27 (.bool false) ?_
    refine sv 28 (.int .i64 n) ?_
    refine sv 29 (.bool false) ?_ (hr := ((show _ = Result.ok (Next.value (.bool (decide (n > 4096)))) _ from (by kernel_rfl)).trans (congrArg (fun z => Result.ok (Next.value (.bool z)) _) (show (decide (n > 4096)) = false from decide_eq_false (by omega)))))
    refine sv 30 (.bool false) ?_
    refine sv 31 (.bool false) ?_
    refine sx_nil ?_
    refine sx_then ?_
    refine wp_cond_false (by kernel_rfl) ?_
    refine wp_skip ?_
    refine sx_then ?_
    refine wp_seq ?_
    refine wp_seq ?_
    refine sx_region ?_
    replace hT := (hT.past (bthru hbV2 hbV3))
    refine se 32 10 #[] (fun Gx hGx => ?_)
    ((with_reducible refine (seriesBegun_any _ hT).mono ?_))
    rintro eV4 V4 ⟨rfl, hbV4⟩
    have hzV4 := hbV4.size
    refine ⟨.bool true, rfl, hGx _ _ ?_⟩
    clear hGx Gx
    refine sv 33 (.bool false) ?_
    refine sv 34 (.bool false) ?_
    refine sv 35 (.int .i64 0) ?_
    refine sv 36 (.int .i64 0) ?_
    refine sv 37 (.bool false) ?_
    refine sv 38 (.bool false) ?_
    refine sv 39 (.bool false) ?_
    refine sv 40 (.int .i64 0) ?_
    refine sv 41 (.bool false) ?_
    refine sv 42 (.bool false) ?_
    refine sx_nil ?_
    refine sx_then ?_
    refine wp_cond_false (by kernel_rfl) ?_
    refine wp_skip ?_
    refine sx_then ?_
    refine wp_seq ?_
    refine sx_region ?_
    replace b2 := (b2.past (bthru hbV3 hbV4))
    refine sv 57 (.agg #[.bool a.g, .slice a.p a.xs.length a.c, .int .i64 a.e, .bool b.g, .slice b.p b.xs.length b.c, .int .i64 b.e]) ?_ (hr := (exec_ld (by kernel_rfl) (run_ld b2 hT27 0 [.bool a.g, .slice a.p a.xs.length a.c, .int .i64 a.e, .bool b.g, .slice b.p b.xs.length b.c, .int .i64 b.e] (by kernel_rfl) (by kernel_rfl))))
    replace ia := (ia.past (bthru hbV3 hbV4))
    replace ib := (ib.past (bthru hbV3 hbV4))
    refine se 58 23 #[.agg #[.bool a.g, .slice a.p a.xs.length a.c, .int .i64 a.e, .bool b.g, .slice b.p b.xs.length b.c, .int .i64 b.e]] (fun Gx hGx => ?_)
    ((with_reducible refine ((HO _ ia ib).out).mono ?_))
    rintro eV5 V5 ⟨p58, c58, q58, d58, rfl, x58, y58, hbV5⟩
    have hzV5 := hbV5.size
    have lx58 := fun h => x58.lt h
    have ly58 := fun h => y58.lt h
    refine ⟨.agg #[.bool l.neg, .slice p58 (dig B16 l.m).length c58, .int .i64 l.e, .bool h.neg, .slice q58 (dig B16 h.m).length d58, .int .i64 h.e], rfl, hGx _ _ ?_⟩
    clear hGx Gx
    refine sn 9 #[.bool false, .slice none 0 0, .int .i64 0, .bool false, .slice none 0 0, .int .i64 0] 38 (fun V6 hbV6 hzV6 b9 => ?_)
    refine ss none b9 hT38 0 #[.bool l.neg, .slice p58 (dig B16 l.m).length c58, .int .i64 l.e, .bool h.neg, .slice q58 (dig B16 h.m).length d58, .int .i64 h.e] #[.bool l.neg, .slice p58 (dig B16 l.m).length c58, .int .i64 l.e, .bool h.neg, .slice q58 (dig B16 h.m).length d58, .int .i64 h.e] ?_
    have boV7 := b9
    clear b9
    intro V7 hOV7 b9
    have hzV7 := hOV7.size
    refine sx_nil ?_
    refine sx_then ?_
    refine wp_seq ?_
    refine sx_cutg (R := fun a' w' => ∃ (kb10 : Nat) (kb11 : Nat), a' = ⟨((.agg #[.bool a.g, .slice a.p a.xs.length a.c, .int .i64 a.e, .bool b.g, .slice b.p b.xs.length b.c, .int .i64 b.e]) :: (.int .i64 n) :: (.pointer (some ⟨w.heap.size, 0, none⟩)) :: undef :: (.bool false) :: (.int .i64 ((k : Nat) : Int)) :: (.bool (decide (((k : Nat) : Int) > 0))) :: (.int .i64 0) :: (.int .i64 0) :: (.pointer (some ⟨V5.heap.size, 0, none⟩)) :: (.pointer (some ⟨kb10, 0, none⟩)) :: (.pointer (some ⟨kb11, 0, none⟩)) :: undef :: (.tuple #[.int .i64 ((k : Nat) : Int), .bool (decide (((k : Nat) : Int) > 0)), .int .i64 0]) :: (.agg #[.bool a.g, .slice a.p a.xs.length a.c, .int .i64 a.e, .bool b.g, .slice b.p b.xs.length b.c, .int .i64 b.e]) :: (.int .i64 n) :: (.tuple #[.int .i64 ((k : Nat) : Int), .bool (decide (((k : Nat) : Int) > 0)), .int .i64 0]) :: (.int .i64 ((k : Nat) : Int)) :: (.bool (decide (((k : Nat) : Int) > 0))) :: (.int .i64 0) :: (.agg #[.bool a.g, .slice a.p a.xs.length a.c, .int .i64 a.e, .bool b.g, .slice b.p b.xs.length b.c, .int .i64 b.e]) :: (.int .i64 0) :: (.int .i64 0) :: (.bool true) :: (.bool true) :: (.int .i64 n) :: (.bool false) :: (.bool false) :: (.int .i64 n) :: (.bool false) :: (.bool false) :: (.bool false) :: (.bool true) :: (.bool false) :: (.bool false) :: (.int .i64 0) :: (.int .i64 0) :: (.bool false) :: (.bool false) :: (.bool false) :: (.int .i64 0) :: (.bool false) :: (.bool false) :: undef :: undef :: undef :: undef :: undef :: undef :: undef :: undef :: undef :: undef :: undef :: undef :: undef :: undef :: (.agg #[.bool a.g, .slice a.p a.xs.length a.c, .int .i64 a.e, .bool b.g, .slice b.p b.xs.length b.c, .int .i64 b.e]) :: (.agg #[.bool l.neg, .slice p58 (dig B16 l.m).length c58, .int .i64 l.e, .bool h.neg, .slice q58 (dig B16 h.m).length d58, .int .i64 h.e]) :: (.pointer (some ⟨V5.heap.size, 0, none⟩)) :: (.agg #[.bool l.neg, .slice p58 (dig B16 l.m).length c58, .int .i64 l.e]) :: (.pointer (some ⟨V5.heap.size, 3, none⟩)) :: (.agg #[.bool h.neg, .slice q58 (dig B16 h.m).length d58, .int .i64 h.e]) :: undef :: undef :: undef :: undef :: undef :: undef :: undef :: undef :: undef :: undef :: undef :: undef :: undef :: undef :: undef :: undef :: undef :: undef :: undef :: undef :: undef :: undef :: undef :: undef :: undef :: undef :: undef :: undef :: undef :: undef :: undef :: undef :: undef :: undef :: undef :: undef :: undef :: undef :: undef :: undef :: undef :: undef :: undef :: undef :: undef :: undef :: undef :: undef :: []).toArray, []⟩ ∧ Bt w' kb10 36 #[.bool l.neg, .slice p58 (dig B16 l.m).length c58, .int .i64 l.e] ∧ Bt w' kb11 36 #[.bool h.neg, .slice q58 (dig B16 h.m).length d58, .int .i64 h.e] ∧ Below V7.heap.size V7 w' ∧ V7.heap.size ≤ kb10 ∧ V7.heap.size ≤ kb11 ∧ kb11 ≠ kb10) ?_ (fun Gx hGx => ?_)
    · skip
      obtain ⟨V8, hVV8⟩ : ∃ V, V = (V7).drew := ⟨_, rfl⟩
      have hbV8 : Below (V7).heap.size (V7) V8 := by rw [hVV8]; exact (Below.refl _ _).drew
      have hzV8 : V8.heap.size = (V7).heap.size := by rw [hVV8]; rfl
      replace b9 := (b9.past hbV8)
      refine sxd _ (fun w' => Bt w' V5.heap.size 38 #[.bool l.neg, .slice p58 (dig B16 l.m).length c58, .int .i64 l.e, .bool h.neg, .slice q58 (dig B16 h.m).length d58, .int .i64 h.e]) hVV8 b9 ?_
      clear hVV8
      refine tk 0 59 (.pointer (some ⟨V5.heap.size, 0, none⟩)) b9 ?_
      refine tk 1 60 (.agg #[.bool l.neg, .slice p58 (dig B16 l.m).length c58, .int .i64 l.e]) b9 ?_ (hy := fun w' hS => (exec_ld (by kernel_rfl) (run_ld hS hT36 0 [.bool l.neg, .slice p58 (dig B16 l.m).length c58, .int .i64 l.e] (by kernel_rfl) (by kernel_rfl))))
      refine tk 2 61 (.pointer (some ⟨V5.heap.size, 3, none⟩)) b9 ?_
      refine tk 3 62 (.agg #[.bool h.neg, .slice q58 (dig B16 h.m).length d58, .int .i64 h.e]) b9 ?_ (hy := fun w' hS => (exec_ld (by kernel_rfl) (run_ld hS hT36 3 [.bool h.neg, .slice q58 (dig B16 h.m).length d58, .int .i64 h.e] (by kernel_rfl) (by kernel_rfl))))
      refine sxr [4, 5] ?_
      refine rd2 (fun Kx hKx => ?_) ?_
      · skip
        refine snk 10 #[.bool false, .slice none 0 0, .int .i64 0] 36 (fun V9 hbV9 hzV9 b10 => ?_)
        replace b9 := (b9.past hbV9)
        refine hKx.out _ _ b9 ?_
        clear hKx Kx
        refine sxr [5] ?_
        refine rd1 (fun Kx hKx => ?_)
        refine snk 11 #[.bool false, .slice none 0 0, .int .i64 0] 36 (fun V10 hbV10 hzV10 b11 => ?_)
        replace b9 := (b9.past hbV10)
        refine hKx.out _ _ b9 ?_
        clear hKx Kx
        refine sxr [6] ?_
        refine rd1 (fun Kx hKx => ?_)
        replace b10 := (b10.past hbV10)
        refine ssk none b10 hT36 0 #[.bool l.neg, .slice p58 (dig B16 l.m).length c58, .int .i64 l.e] #[.bool l.neg, .slice p58 (dig B16 l.m).length c58, .int .i64 l.e] ?_
        have boV11 := b10
        clear b10
        intro V11 hOV11 b10
        have hzV11 := hOV11.size
        replace b9 := (b9.only hOV11 (by omega))
        refine hKx.out _ _ b9 ?_
        clear hKx Kx
        refine sxr [7] ?_
        refine rd1 (fun Kx hKx => ?_)
        replace b11 := (b11.only hOV11 (by omega))
        refine ssk none b11 hT36 0 #[.bool h.neg, .slice q58 (dig B16 h.m).length d58, .int .i64 h.e] #[.bool h.neg, .slice q58 (dig B16 h.m).length d58, .int .i64 h.e] ?_
        have boV12 := b11
        clear b11
        intro V12 hOV12 b11
        have hzV12 := hOV12.size
        replace b9 := (b9.only hOV12 (by omega))
        refine hKx.out _ _ b9 ?_
        clear hKx Kx
        refine sx_done (by kernel_rfl) ?_
        replace b10 := (b10.only hOV12 (by omega))
        exact ⟨rfl, V8.heap.size, V9.heap.size, by kernel_rfl, b10, b11, (((bthru (bthru hbV8 hbV9) hbV10).trans (hOV11.below (by omega))).trans (hOV12.below (by omega))), by omega, by omega, by omega⟩
      refine rd1 (fun Kx hKx => ?_)
      refine snk 11 #[.bool false, .slice none 0 0, .int .i64 0] 36 (fun V9 hbV9 hzV9 b11 => ?_)
      replace b9 := (b9.past hbV9)
      refine hKx.out _ _ b9 ?_
      clear hKx Kx
      refine sxr [4] ?_
      refine rd1 (fun Kx hKx => ?_)
      refine snk 10 #[.bool false, .slice none 0 0, .int .i64 0] 36 (fun V10 hbV10 hzV10 b10 => ?_)
      replace b9 := (b9.past hbV10)
      refine hKx.out _ _ b9 ?_
      clear hKx Kx
      refine sxr [6] ?_
      refine rd1 (fun Kx hKx => ?_)
      refine ssk none b10 hT36 0 #[.bool l.neg, .slice p58 (dig B16 l.m).length c58, .int .i64 l.e] #[.bool l.neg, .slice p58 (dig B16 l.m).length c58, .int .i64 l.e] ?_
      have boV11 := b10
      clear b10
      intro V11 hOV11 b10
      have hzV11 := hOV11.size
      replace b9 := (b9.only hOV11 (by omega))
      refine hKx.out _ _ b9 ?_
      clear hKx Kx
      refine sxr [7] ?_
      refine rd1 (fun Kx hKx => ?_)
      replace b11 := (b11.past (hbV10.trans (hOV11.below (by omega))))
      refine ssk none b11 hT36 0 #[.bool h.neg, .slice q58 (dig B16 h.m).length d58, .int .i64 h.e] #[.bool h.neg, .slice q58 (dig B16 h.m).length d58, .int .i64 h.e] ?_
      have boV12 := b11
      clear b11
      intro V12 hOV12 b11
      have hzV12 := hOV12.size
      replace b9 := (b9.only hOV12 (by omega))
      refine hKx.out _ _ b9 ?_
      clear hKx Kx
      refine sx_done (by kernel_rfl) ?_
      replace b10 := (b10.only hOV12 (by omega))
      exact ⟨rfl, V9.heap.size, V8.heap.size, by kernel_rfl, b10, b11, (((bthru (bthru hbV8 hbV9) hbV10).trans (hOV11.below (by omega))).trans (hOV12.below (by omega))), by omega, by omega, by omega⟩
    rintro _ V8 ⟨kb10, kb11, rfl, b10, b11, hbV8, hkb10, hkb11, hd_b11_b10⟩
    refine hGx _ _ ?_
    clear hGx Gx
    have hzV8 := hbV8.size
    have hlb10 := b10.lt
    have hlb11 := b11.lt
    refine sx_then ?_
    refine wp_seq ?_
    refine wp_seq ?_
    refine sx_region ?_
    refine sv 63 (.pointer (some ⟨kb10, 0, none⟩)) ?_
    refine sv 64 (.bool false) ?_ (hr := ((show _ = Result.ok (Next.value (.bool (l.neg))) _ from (exec_ld (by kernel_rfl) (run_ld1 b10 hT4 0 (.bool l.neg) (by kernel_rfl)))).trans (congrArg (fun z => Result.ok (Next.value (.bool z)) _) (show (l.neg) = false from hneg))))
    refine sx_nil ?_
    refine sx_then ?_
    refine wp_cond_false (by kernel_rfl) ?_
    refine wp_skip ?_
    refine sx_then ?_
    refine wp_seq ?_
    refine sx_region ?_
    refine sv 69 (.func (.func 25) #[] #[.pointer (some ⟨kb10, 0, none⟩), .pointer (some ⟨kb11, 0, none⟩)]) ?_
    refine sv 12 (.func (.func 25) #[] #[.pointer (some ⟨kb10, 0, none⟩), .pointer (some ⟨kb11, 0, none⟩)]) ?_
    refine sx_nil ?_
    refine sx_then ?_
    refine wp_seq ?_
    refine wp_seq ?_
    by_cases fk : k = 0
    · skip
      refine sx_region ?_
      refine sv 70 (.agg #[.bool l.neg, .slice p58 (dig B16 l.m).length c58, .int .i64 l.e]) ?_ (hr := (exec_ld (by kernel_rfl) (run_ld b10 hT36 0 [.bool l.neg, .slice p58 (dig B16 l.m).length c58, .int .i64 l.e] (by kernel_rfl) (by kernel_rfl))))
      replace x58 := (x58.past (bthru (hbV6.trans (hOV7.below (by omega))) hbV8))
      refine se 71 28 #[.agg #[.bool l.neg, .slice p58 (dig B16 l.m).length c58, .int .i64 l.e]] (fun Gx hGx => ?_)
      ((with_reducible refine (rdsign l p58 c58 _ _ x58 hLO).mono ?_))
      rintro eV9 V9 ⟨rfl, hbV9⟩
      have hzV9 := hbV9.size
      refine ⟨.int .i64 (dSign l), rfl, hGx _ _ ?_⟩
      clear hGx Gx
      refine sv 72 (.bool false) ?_ (hr := ((show _ = Result.ok (Next.value (.bool (decide ((dSign l) ≤ 0)))) _ from (by kernel_rfl)).trans (congrArg (fun z => Result.ok (Next.value (.bool z)) _) (show (decide ((dSign l) ≤ 0)) = false from decide_eq_false hpos))))
      refine sv 73 (.bool false) ?_
      refine sv 74 (.func (.func 25) #[] #[.pointer (some ⟨kb10, 0, none⟩), .pointer (some ⟨kb11, 0, none⟩)]) ?_
      replace b10 := (b10.past hbV9)
      replace b11 := (b11.past hbV9)
      replace x58 := (x58.past hbV9)
      replace y58 := (y58.past (bthru (bthru (hbV6.trans (hOV7.below (by omega))) hbV8) hbV9))
      refine se 75 25 #[.int .i64 1, .pointer (some ⟨kb10, 0, none⟩), .pointer (some ⟨kb11, 0, none⟩)] (fun Gx hGx => ?_)
      ((with_reducible refine ((HS 1 1 _ _ _ p58 q58 c58 d58 _ _ rfl (by omega) (by omega) b10 b11 x58 y58 (by omega) (by omega)).out).mono ?_))
      rintro eV10 V10 ⟨rfl, hbV10⟩
      have hzV10 := hbV10.size
      rw [show (rCmp (rCut l 1 false) (rCut h 1 false) == 0) = false from beq_eq_false_iff_ne.2 (fun hh => hF.2 (by rw [fk]; exact ⟨by omega, (hask 1 (by omega)).1 hh⟩))]
      refine ⟨.bool false, rfl, hGx _ _ ?_⟩
      clear hGx Gx
      refine sv 76 (.bool true) ?_
      refine sv 77 (.bool true) ?_
      refine sx_nil ?_
      refine sx_then ?_
      refine wp_cond_true (by kernel_rfl) ?_
      refine wp_seq ?_
      refine sx_region ?_
      refine sv 78 (.int .i64 ((k : Nat) : Int)) ?_
      refine sv 79 (.bool true) ?_ (hr := ((show _ = Result.ok (Next.value (.bool (((k : Nat) : Int) == 0))) _ from (by kernel_rfl)).trans (congrArg (fun z => Result.ok (Next.value (.bool z)) _) (show (((k : Nat) : Int) == 0) = true from beq_iff_eq.2 (by omega)))))
      refine sv 80 (.bool true) ?_
      refine sv 81 (.bool (decide (((k : Nat) : Int) > 0))) ?_
      refine sv 82 (.bool true) ?_ (hr := ((show _ = Result.ok (Next.value (.bool (!(decide (((k : Nat) : Int) > 0))))) _ from (by kernel_rfl)).trans (congrArg (fun z => Result.ok (Next.value (.bool z)) _) (show (!(decide (((k : Nat) : Int) > 0))) = true from by rw [decide_eq_false (show ¬ ((k : Nat) : Int) > 0 by omega)]; rfl))))
      refine sv 83 (.bool true) ?_
      refine sv 4 (.bool true) ?_
      refine sx_nil ?_
      refine sx_then ?_
      refine wp_ret ?_
      repeat (first | with_reducible refine sx_thenret ?_ | with_reducible refine sx_blockret ?_)
      refine bodyPost_ret (v := .bool true) (by simp [results, Tryd.results7, go_sem]) rfl ?_
      exact ⟨rfl, (bthru (bthru (bthru ((bthru (bthru (bthru (bthru (bthru hbV1 hbV2) hbV3) hbV4) hbV5) hbV6).trans (hOV7.below (by omega))) hbV8) hbV9) hbV10)⟩
    refine sx_region ?_
    refine sv 70 (.agg #[.bool l.neg, .slice p58 (dig B16 l.m).length c58, .int .i64 l.e]) ?_ (hr := (exec_ld (by kernel_rfl) (run_ld b10 hT36 0 [.bool l.neg, .slice p58 (dig B16 l.m).length c58, .int .i64 l.e] (by kernel_rfl) (by kernel_rfl))))
    replace x58 := (x58.past (bthru (hbV6.trans (hOV7.below (by omega))) hbV8))
    refine se 71 28 #[.agg #[.bool l.neg, .slice p58 (dig B16 l.m).length c58, .int .i64 l.e]] (fun Gx hGx => ?_)
    ((with_reducible refine (rdsign l p58 c58 _ _ x58 hLO).mono ?_))
    rintro eV9 V9 ⟨rfl, hbV9⟩
    have hzV9 := hbV9.size
    refine ⟨.int .i64 (dSign l), rfl, hGx _ _ ?_⟩
    clear hGx Gx
    refine sv 72 (.bool false) ?_ (hr := ((show _ = Result.ok (Next.value (.bool (decide ((dSign l) ≤ 0)))) _ from (by kernel_rfl)).trans (congrArg (fun z => Result.ok (Next.value (.bool z)) _) (show (decide ((dSign l) ≤ 0)) = false from decide_eq_false hpos))))
    refine sv 73 (.bool false) ?_
    refine sv 74 (.func (.func 25) #[] #[.pointer (some ⟨kb10, 0, none⟩), .pointer (some ⟨kb11, 0, none⟩)]) ?_
    replace b10 := (b10.past hbV9)
    replace b11 := (b11.past hbV9)
    replace x58 := (x58.past hbV9)
    replace y58 := (y58.past (bthru (bthru (hbV6.trans (hOV7.below (by omega))) hbV8) hbV9))
    refine se 75 25 #[.int .i64 1, .pointer (some ⟨kb10, 0, none⟩), .pointer (some ⟨kb11, 0, none⟩)] (fun Gx hGx => ?_)
    ((with_reducible refine ((HS 1 1 _ _ _ p58 q58 c58 d58 _ _ rfl (by omega) (by omega) b10 b11 x58 y58 (by omega) (by omega)).out).mono ?_))
    rintro eV10 V10 ⟨rfl, hbV10⟩
    have hzV10 := hbV10.size
    rw [show (rCmp (rCut l 1 false) (rCut h 1 false) == 0) = true from beq_iff_eq.2 ((hask 1 (by omega)).2 (trD_mono bl bh l0 h0 (show 1 ≤ k by omega) (hF.1.resolve_left fk).2))]
    refine ⟨.bool true, rfl, hGx _ _ ?_⟩
    clear hGx Gx
    refine sv 76 (.bool false) ?_
    refine sv 77 (.bool false) ?_
    refine sx_nil ?_
    refine sx_then ?_
    refine wp_cond_false (by kernel_rfl) ?_
    refine wp_skip ?_
    refine sx_then ?_
    refine wp_seq ?_
    by_cases fe : k = B
    · skip
      refine sx_region ?_
      refine sv 84 (.bool true) ?_ (hr := ((show _ = Result.ok (Next.value (.bool (decide (((k : Nat) : Int) > 0)))) _ from (by kernel_rfl)).trans (congrArg (fun z => Result.ok (Next.value (.bool z)) _) (show (decide (((k : Nat) : Int) > 0)) = true from decide_eq_true (by omega)))))
      refine sv 85 (.bool true) ?_
      refine sv 86 (.int .i64 ((k : Nat) : Int)) ?_
      refine sv 87 (.bool true) ?_ (hr := ((show _ = Result.ok (Next.value (.bool (decide (((k : Nat) : Int) ≥ 1)))) _ from (by kernel_rfl)).trans (congrArg (fun z => Result.ok (Next.value (.bool z)) _) (show (decide (((k : Nat) : Int) ≥ 1)) = true from decide_eq_true (by omega)))))
      refine sv 88 (.bool true) ?_
      refine sv 89 (.bool true) ?_
      refine sv 90 (.int .i64 ((k : Nat) : Int)) ?_
      refine sv 91 (.int .i64 n) ?_
      refine sv 92 (.bool true) ?_ (hr := ((show _ = Result.ok (Next.value (.bool (decide (((k : Nat) : Int) ≤ n)))) _ from (by kernel_rfl)).trans (congrArg (fun z => Result.ok (Next.value (.bool z)) _) (show (decide (((k : Nat) : Int) ≤ n)) = true from decide_eq_true (by have := (hF.1.resolve_left fk).1; omega)))))
      refine sv 93 (.bool true) ?_
      refine sv 94 (.bool true) ?_
      refine sv 95 (.func (.func 25) #[] #[.pointer (some ⟨kb10, 0, none⟩), .pointer (some ⟨kb11, 0, none⟩)]) ?_
      refine sv 96 (.int .i64 ((k : Nat) : Int)) ?_
      replace b10 := (b10.past hbV10)
      replace b11 := (b11.past hbV10)
      replace x58 := (x58.past hbV10)
      replace y58 := (y58.past hbV10)
      refine se 97 25 #[.int .i64 ((k : Nat) : Int), .pointer (some ⟨kb10, 0, none⟩), .pointer (some ⟨kb11, 0, none⟩)] (fun Gx hGx => ?_)
      ((with_reducible refine ((HS k _ _ _ _ p58 q58 c58 d58 _ _ rfl (by omega) (by omega) b10 b11 x58 y58 (by omega) (by omega)).out).mono ?_))
      rintro eV11 V11 ⟨rfl, hbV11⟩
      have hzV11 := hbV11.size
      rw [show (rCmp (rCut l k false) (rCut h k false) == 0) = true from beq_iff_eq.2 ((hask k (by omega)).2 (hF.1.resolve_left fk).2)]
      refine ⟨.bool true, rfl, hGx _ _ ?_⟩
      clear hGx Gx
      refine sv 98 (.bool true) ?_
      refine sv 99 (.bool true) ?_
      refine sv 100 (.int .i64 ((k : Nat) : Int)) ?_
      refine sv 101 (.int .i64 n) ?_
      refine sv 102 (.bool true) ?_ (hr := ((show _ = Result.ok (Next.value (.bool (((k : Nat) : Int) == n))) _ from (by kernel_rfl)).trans (congrArg (fun z => Result.ok (Next.value (.bool z)) _) (show (((k : Nat) : Int) == n) = true from beq_iff_eq.2 (by omega)))))
      refine sv 103 (.bool true) ?_
      refine so (some 104) ?_
      refine so (some 105) ?_
      refine so (some 106) ?_
      refine so (some 107) ?_
      refine so (some 108) ?_
      refine sv 109 (.bool true) ?_
      refine sv 110 (.bool true) ?_
      refine sv 4 (.bool true) ?_
      refine sx_nil ?_
      refine sx_then ?_
      refine wp_ret ?_
      repeat (first | with_reducible refine sx_thenret ?_ | with_reducible refine sx_blockret ?_)
      refine bodyPost_ret (v := .bool true) (by simp [results, Tryd.results7, go_sem]) rfl ?_
      exact ⟨rfl, (bthru (bthru (bthru (bthru ((bthru (bthru (bthru (bthru (bthru hbV1 hbV2) hbV3) hbV4) hbV5) hbV6).trans (hOV7.below (by omega))) hbV8) hbV9) hbV10) hbV11)⟩
    refine sx_region ?_
    refine sv 84 (.bool true) ?_ (hr := ((show _ = Result.ok (Next.value (.bool (decide (((k : Nat) : Int) > 0)))) _ from (by kernel_rfl)).trans (congrArg (fun z => Result.ok (Next.value (.bool z)) _) (show (decide (((k : Nat) : Int) > 0)) = true from decide_eq_true (by omega)))))
    refine sv 85 (.bool true) ?_
    refine sv 86 (.int .i64 ((k : Nat) : Int)) ?_
    refine sv 87 (.bool true) ?_ (hr := ((show _ = Result.ok (Next.value (.bool (decide (((k : Nat) : Int) ≥ 1)))) _ from (by kernel_rfl)).trans (congrArg (fun z => Result.ok (Next.value (.bool z)) _) (show (decide (((k : Nat) : Int) ≥ 1)) = true from decide_eq_true (by omega)))))
    refine sv 88 (.bool true) ?_
    refine sv 89 (.bool true) ?_
    refine sv 90 (.int .i64 ((k : Nat) : Int)) ?_
    refine sv 91 (.int .i64 n) ?_
    refine sv 92 (.bool true) ?_ (hr := ((show _ = Result.ok (Next.value (.bool (decide (((k : Nat) : Int) ≤ n)))) _ from (by kernel_rfl)).trans (congrArg (fun z => Result.ok (Next.value (.bool z)) _) (show (decide (((k : Nat) : Int) ≤ n)) = true from decide_eq_true (by have := (hF.1.resolve_left fk).1; omega)))))
    refine sv 93 (.bool true) ?_
    refine sv 94 (.bool true) ?_
    refine sv 95 (.func (.func 25) #[] #[.pointer (some ⟨kb10, 0, none⟩), .pointer (some ⟨kb11, 0, none⟩)]) ?_
    refine sv 96 (.int .i64 ((k : Nat) : Int)) ?_
    replace b10 := (b10.past hbV10)
    replace b11 := (b11.past hbV10)
    replace x58 := (x58.past hbV10)
    replace y58 := (y58.past hbV10)
    refine se 97 25 #[.int .i64 ((k : Nat) : Int), .pointer (some ⟨kb10, 0, none⟩), .pointer (some ⟨kb11, 0, none⟩)] (fun Gx hGx => ?_)
    ((with_reducible refine ((HS k _ _ _ _ p58 q58 c58 d58 _ _ rfl (by omega) (by omega) b10 b11 x58 y58 (by omega) (by omega)).out).mono ?_))
    rintro eV11 V11 ⟨rfl, hbV11⟩
    have hzV11 := hbV11.size
    rw [show (rCmp (rCut l k false) (rCut h k false) == 0) = true from beq_iff_eq.2 ((hask k (by omega)).2 (hF.1.resolve_left fk).2)]
    refine ⟨.bool true, rfl, hGx _ _ ?_⟩
    clear hGx Gx
    refine sv 98 (.bool true) ?_
    refine sv 99 (.bool true) ?_
    refine sv 100 (.int .i64 ((k : Nat) : Int)) ?_
    refine sv 101 (.int .i64 n) ?_
    refine sv 102 (.bool false) ?_ (hr := ((show _ = Result.ok (Next.value (.bool (((k : Nat) : Int) == n))) _ from (by kernel_rfl)).trans (congrArg (fun z => Result.ok (Next.value (.bool z)) _) (show (((k : Nat) : Int) == n) = false from beq_eq_false_iff_ne.2 (by omega)))))
    refine sv 103 (.bool false) ?_
    refine sv 104 (.func (.func 25) #[] #[.pointer (some ⟨kb10, 0, none⟩), .pointer (some ⟨kb11, 0, none⟩)]) ?_
    refine sv 105 (.int .i64 ((k : Nat) : Int)) ?_
    refine sv 106 (.int .i64 ((k + 1 : Nat) : Int)) ?_ (hr := ((show _ = Result.ok (Next.value (.int .i64 (IntKind.wrap .i64 (((k : Nat) : Int) + 1)))) _ by kernel_rfl).trans (congrArg (fun z => Result.ok (Next.value (.int .i64 z)) _) ((by rw [show ((k : Nat) : Int) + 1 = ((k + 1 : Nat) : Int) by omega]; exact IntWalk.i64_in _ (by omega))))))
    replace b10 := (b10.past hbV11)
    replace b11 := (b11.past hbV11)
    replace x58 := (x58.past hbV11)
    replace y58 := (y58.past hbV11)
    refine se 107 25 #[.int .i64 ((k + 1 : Nat) : Int), .pointer (some ⟨kb10, 0, none⟩), .pointer (some ⟨kb11, 0, none⟩)] (fun Gx hGx => ?_)
    ((with_reducible refine ((HS (k + 1) _ _ _ _ p58 q58 c58 d58 _ _ rfl (by omega) (by omega) b10 b11 x58 y58 (by omega) (by omega)).out).mono ?_))
    rintro eV12 V12 ⟨rfl, hbV12⟩
    have hzV12 := hbV12.size
    rw [show (rCmp (rCut l (k + 1) false) (rCut h (k + 1) false) == 0) = false from beq_eq_false_iff_ne.2 (fun hh => hF.2 ⟨by have := (hF.1.resolve_left fk).1; omega, (hask (k + 1) (by omega)).1 hh⟩)]
    refine ⟨.bool false, rfl, hGx _ _ ?_⟩
    clear hGx Gx
    refine sv 108 (.bool true) ?_
    refine sv 109 (.bool true) ?_
    refine sv 110 (.bool true) ?_
    refine sv 4 (.bool true) ?_
    refine sx_nil ?_
    refine sx_then ?_
    refine wp_ret ?_
    repeat (first | with_reducible refine sx_thenret ?_ | with_reducible refine sx_blockret ?_)
    refine bodyPost_ret (v := .bool true) (by simp [results, Tryd.results7, go_sem]) rfl ?_
    exact ⟨rfl, (bthru (bthru (bthru (bthru (bthru ((bthru (bthru (bthru (bthru (bthru hbV1 hbV2) hbV3) hbV4) hbV5) hbV6).trans (hOV7.below (by omega))) hbV8) hbV9) hbV10) hbV11) hbV12)⟩

theorem lawSeBr_row (a b : Din) (n : Int) (w : World) (ia : InD w a) (ib : InD w b) (hT : TabW w) :
    Calls Tryd.prog 7 #[.agg #[.bool a.g, .slice a.p a.xs.length a.c, .int .i64 a.e, .bool b.g, .slice b.p b.xs.length b.c, .int .i64 b.e], .int .i64 n] w fun en w' => en = .returned (.bool true) ∧ Below w.heap.size w w' := by
  by_cases he : errBall a b = 0
  · by_cases hn : 1 ≤ n ∧ n ≤ 4096
    · by_cases hs : dSign (dyV a) = 0 ∨ dSign (dyV a) ≠ dSign (dyV b)
      · exact lawBr_sign a b n w ia ib hT he hn hs
      · obtain ⟨B, rfl⟩ : ∃ B : Nat, n = B := ⟨n.toNat, by omega⟩
        exact lawBr_ok a b B w ia ib hT he hn (fun h => hs (.inl h)) (Decidable.not_not.1 fun h => hs (.inr h))
    · exact lawBr_range a b n w ia ib hT he hn
  · exact lawBr_err a b n w ia ib hT he

end Go.Proofs.YtehodhanojgkgaaDoor
