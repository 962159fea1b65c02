/- The law GridBetween: its walk. -/
import Derived.Test.YtlegnbigddhmlaaDoorZGKh
import Derived.Test.YtlegnbigddhmlaaDoorZSx3
namespace Go.Proofs.YtlegnbigddhmlaaDoor
open Go.RowKit Go.Slip

theorem same_dec (a b : Dv) (p q : Option Addr) (c d : Nat) (w : World) (hp : Rd w .u32 p (dig B32 a.m)) (hq : Rd w .u32 q (dig B32 b.m)) (hl : (dig B32 a.m).length ≤ 1000000000) (hl2 : (dig B32 b.m).length ≤ 1000000000) :
    Calls Tryd.prog 17 #[.agg #[.bool a.neg, .slice p (dig B32 a.m).length c, .int .i64 a.e], .agg #[.bool b.neg, .slice q (dig B32 b.m).length d, .int .i64 b.e]] w fun en w' => en = .returned (.bool (decide (a = b))) ∧ Below w.heap.size w w' :=
  refSameDyad_dec a.neg b.neg p q _ c _ d a.e b.e a.m b.m w hp hq rfl rfl hl hl2

/-- What is rounded any way is one of both. -/
theorem btw_way {q : Rin} {g : Gd} {w : World} (hq : InR w q) (h5 : rokB q g 5 = true) (h4 : rokB q g 4 = true) (k : Int) (hk : 1 ≤ k) (hk2 : k ≤ 5) : rokB q g k = true ∧ (rvalV q g k = rvalV q g 5 ∨ rvalV q g k = rvalV q g 4) := by
  obtain ⟨d1, hg, _, _, _, v5, lx, ly, _, _, _, _, _, _, k5⟩ := rok_of hq h5
  obtain ⟨_, _, _, _, _, v4, _, _, _, _, _, _, _, _, k4⟩ := rok_of hq h4
  have e5 : errRound q g 5 = 0 := by
    unfold rokB at h5
    simp only [Bool.and_eq_true, decide_eq_true_eq] at h5
    exact h5.1
  have ek : errRound q g k = 0 := by
    unfold errRound at e5 ⊢
    by_cases h1 : errRat q = 0
    · rw [if_neg (by simp [h1])] at e5 ⊢
      by_cases h2 : errG g = 0
      · rw [if_neg (by simp [h2]), if_neg (by omega)]
      · rw [if_pos h2] at e5; exact absurd e5 h2
    · rw [if_pos h1] at e5; exact absurd e5 h1
  have hb := between_way q.g (val B32 q.xs) (val B32 q.ys) q.e g k
  have hr : rokB q g k = true := by
    unfold rokB roundOf
    rw [if_pos ek, decide_eq_true ek, Bool.true_and]
    rcases hb with h | h <;> rw [h] <;> assumption
  refine ⟨hr, ?_⟩
  have vk : rvalV q g k = rv q.g (val B32 q.xs) (val B32 q.ys) q.e g k := by unfold rvalV; rw [if_pos hr]
  rw [vk, v5, v4]
  unfold rv
  rcases hb with h | h
  · left; rw [h]
  · right; rw [h]


set_option maxHeartbeats 8000000 in
set_option maxRecDepth 100000 in
theorem lawGBtw_row (q : Rin) (g : Gd) (w : World) (hq : InR w q) (hT : TabW w) :
    Calls Tryd.prog 6 #[.agg #[.bool q.g, .slice q.p q.xs.length q.c, .slice q.q q.ys.length q.d, .int .i64 q.e], .agg #[.int .i64 g.rad, .int .i64 g.digs, .int .i64 g.lo, .int .i64 g.hi, .bool g.grad]] w fun e w' => e = .returned (.bool true) ∧ Below w.heap.size w w' := by
  have H5 := fun W h1 h2 => Lib.hid (rounded_any q g 5 W h1 h2)
  have H4 := fun W h1 h2 => Lib.hid (rounded_any q g 4 W h1 h2)
  by_cases a5 : rokB q g 5 = true
  · by_cases a4 : rokB q g 4 = true
    · obtain ⟨d1, hg, e5, b5, l5, v5, lx, ly, _, _, _, _, _, _, k5⟩ := rok_of hq a5
      obtain ⟨_, _, e4, b4, l4, v4, _, _, _, _, _, _, _, _, k4⟩ := rok_of hq a4
      have G := goodG_of hg
      have HX : ∀ k, 1 ≤ k → k ≤ 3 → ∃ z, (z = rvalV q g 5 ∨ z = rvalV q g 4) ∧ ∀ W, InR W q → TabW W → Hid (Calls Tryd.prog 8 #[.agg #[.bool q.g, .slice q.p q.xs.length q.c, .slice q.q q.ys.length q.d, .int .i64 q.e], .agg #[.int .i64 g.rad, .int .i64 g.digs, .int .i64 g.lo, .int .i64 g.hi, .bool g.grad], .int .i64 k] W (GivesDB W W.heap.size z true)) := fun k h1 h2 => by
        obtain ⟨h3, h4⟩ := btw_way hq a5 a4 k h1 (by omega)
        refine ⟨rvalV q g k, h4, fun W h5 h6 => ?_⟩
        have := rounded_any q g k W h5 h6
        rw [h3] at this
        exact Lib.hid this
      by_cases hs : rvalV q g 5 = rvalV q g 4
      · have hex : ∀ W, InR W q → Hid (Calls Tryd.prog 25 #[.agg #[.bool q.g, .slice q.p q.xs.length q.c, .slice q.q q.ys.length q.d, .int .i64 q.e], .agg #[.int .i64 g.rad, .int .i64 g.digs, .int .i64 g.lo, .int .i64 g.hi, .bool g.grad], .int .i64 1] W fun en w' => ∃ pn pd pp po pu p c, en = .returned (.tuple #[.agg #[.bool pn, .slice p (dig B32 pd).length c, .int .i64 pp, .bool true, .bool po, .bool pu], .int .i64 0]) ∧ Own w' W.heap.size .u32 46 p c (dig B32 pd) ∧ Below W.heap.size W w') := fun W h => by
          have h1 := round_any q g 1 W h
          have ho := (btw_way hq a5 a4 1 (by omega) (by omega)).1
          have e1 : errRound q g 1 = 0 := by
            unfold rokB at ho
            simp only [Bool.and_eq_true, decide_eq_true_eq] at ho
            exact ho.1
          have hx := between_same (neg := q.g) (num := val B32 q.xs) (e := q.e) d1 G (by rw [← v5, ← v4]; exact hs) 1
          have hR : roundOf q g 1 = roundP q.g (val B32 q.xs) (val B32 q.ys) q.e g 1 := by unfold roundOf; rw [if_pos e1]
          rw [e1, hR] at h1
          generalize roundP q.g (val B32 q.xs) (val B32 q.ys) q.e g 1 = P at *
          refine Lib.hid (h1.mono fun en w' h => ?_)
          obtain ⟨p, c, h1, h2, h3⟩ := h
          rw [hx] at h1
          exact ⟨_, _, _, _, _, p, c, h1, h2, h3⟩
        rw [a5] at H5
        rw [a4] at H4
        clear k4 k5 v4 v5 e4 e5 b4 b5 a4 a5 d1 hg G lx ly
        generalize rvalV q g 5 = lo at *
        generalize rvalV q g 4 = hi at *
        have hT4 : SxOne Tryd.prog 4 := sxOne_of (by kernel_rfl) (by kernel_rfl)
        have hT25 : SxAgg Tryd.prog 25 4 := sxAgg_of (by kernel_rfl) (by kernel_rfl)
        have hT27 : SxAgg Tryd.prog 27 5 := sxAgg_of (by kernel_rfl) (by kernel_rfl)
        have hT30 : SxAgg Tryd.prog 30 3 := sxAgg_of (by kernel_rfl) (by kernel_rfl)
        have hT61 : SxAgg Tryd.prog 61 6 := sxAgg_of (by kernel_rfl) (by kernel_rfl)
        refine calls_of_wp Tryd.func6 rfl ?_
        refine sx_frame (a' := ⟨((.agg #[.bool q.g, .slice q.p q.xs.length q.c, .slice q.q q.ys.length q.d, .int .i64 q.e]) :: (.agg #[.int .i64 g.rad, .int .i64 g.digs, .int .i64 g.lo, .int .i64 g.hi, .bool g.grad]) :: undef :: undef :: undef :: undef :: undef :: undef :: undef :: undef :: undef :: undef :: undef :: undef :: undef :: undef :: undef :: undef :: undef :: undef :: undef :: undef :: undef :: undef :: undef :: undef :: undef :: undef :: undef :: undef :: undef :: undef :: undef :: undef :: undef :: undef :: undef :: undef :: undef :: undef :: undef :: undef :: undef :: undef :: undef :: undef :: undef :: undef :: undef :: undef :: undef :: undef :: undef :: undef :: undef :: undef :: undef :: undef :: undef :: undef :: undef :: undef :: undef :: undef :: undef :: undef :: undef :: undef :: undef :: undef :: undef :: undef :: undef :: undef :: undef :: undef :: undef :: undef :: undef :: undef :: undef :: undef :: undef :: undef :: undef :: undef :: undef :: undef :: undef :: []).toArray, []⟩) (by kernel_rfl) ?_
        refine wp_seq ?_
        refine sx_region ?_
        refine sn 2 #[.bool q.g, .slice q.p q.xs.length q.c, .slice q.q q.ys.length q.d, .int .i64 q.e] 25 (fun V1 hbV1 hzV1 b2 => ?_)
        refine sn 3 #[.int .i64 g.rad, .int .i64 g.digs, .int .i64 g.lo, .int .i64 g.hi, .bool g.grad] 27 (fun V2 hbV2 hzV2 b3 => ?_)
        refine sv 4 (.bool false) ?_
        refine sx_nil ?_
        refine sx_then ?_
        refine wp_seq ?_
        refine wp_seq ?_
        refine sx_region ?_
        refine se 16 7 #[] (fun Gx hGx => ?_)
        ((with_reducible refine (gridBegun_any _).mono ?_))
        rintro eV3 V3 ⟨rfl, hbV3⟩
        have hzV3 := hbV3.size
        refine ⟨.bool true, rfl, hGx _ _ ?_⟩
        clear hGx Gx
        refine sv 17 (.bool false) ?_
        refine sx_nil ?_
        refine sx_then ?_
        refine wp_cond_false (by kernel_rfl) ?_
        refine wp_skip ?_
        refine sx_then ?_
        refine wp_seq ?_
        refine sx_region ?_
        replace b2 := (b2.past (bthru hbV2 hbV3))
        refine sv 19 (.agg #[.bool q.g, .slice q.p q.xs.length q.c, .slice q.q q.ys.length q.d, .int .i64 q.e]) ?_ (hr := (exec_ld (by kernel_rfl) (run_ld b2 hT25 0 [.bool q.g, .slice q.p q.xs.length q.c, .slice q.q q.ys.length q.d, .int .i64 q.e] (by kernel_rfl) (by kernel_rfl))))
        replace b3 := (b3.past hbV3)
        refine sv 20 (.agg #[.int .i64 g.rad, .int .i64 g.digs, .int .i64 g.lo, .int .i64 g.hi, .bool g.grad]) ?_ (hr := (exec_ld (by kernel_rfl) (run_ld b3 hT27 0 [.int .i64 g.rad, .int .i64 g.digs, .int .i64 g.lo, .int .i64 g.hi, .bool g.grad] (by kernel_rfl) (by kernel_rfl))))
        replace hq := (hq.past (bthru (bthru hbV1 hbV2) hbV3))
        replace hT := (hT.past (bthru (bthru hbV1 hbV2) hbV3))
        refine se 21 8 #[.agg #[.bool q.g, .slice q.p q.xs.length q.c, .slice q.q q.ys.length q.d, .int .i64 q.e], .agg #[.int .i64 g.rad, .int .i64 g.digs, .int .i64 g.lo, .int .i64 g.hi, .bool g.grad], .int .i64 5] (fun Gx hGx => ?_)
        ((with_reducible refine ((H5 _ hq hT).out).mono ?_))
        rintro eV4 V4 ⟨p21, c21, rfl, ho21, hbV4⟩
        have hzV4 := hbV4.size
        refine ⟨.tuple #[.agg #[.bool lo.neg, .slice p21 (dig B32 lo.m).length c21, .int .i64 lo.e], .bool true], rfl, hGx _ _ ?_⟩
        clear hGx Gx
        refine sv 18 (.tuple #[.agg #[.bool lo.neg, .slice p21 (dig B32 lo.m).length c21, .int .i64 lo.e], .bool true]) ?_
        refine sv 22 (.agg #[.bool lo.neg, .slice p21 (dig B32 lo.m).length c21, .int .i64 lo.e]) ?_
        refine sv 23 (.bool true) ?_
        refine sn 5 #[.bool false, .slice none 0 0, .int .i64 0] 30 (fun V5 hbV5 hzV5 b5 => ?_)
        refine ss none b5 hT30 0 #[.bool lo.neg, .slice p21 (dig B32 lo.m).length c21, .int .i64 lo.e] #[.bool lo.neg, .slice p21 (dig B32 lo.m).length c21, .int .i64 lo.e] ?_
        have boV6 := b5
        clear b5
        intro V6 hOV6 b5
        have hzV6 := hOV6.size
        refine sv 6 (.bool true) ?_
        refine sx_nil ?_
        refine sx_then ?_
        refine wp_seq ?_
        refine sx_region ?_
        replace b2 := (b2.past ((bthru hbV4 hbV5).trans (hOV6.below (by omega))))
        refine sv 25 (.agg #[.bool q.g, .slice q.p q.xs.length q.c, .slice q.q q.ys.length q.d, .int .i64 q.e]) ?_ (hr := (exec_ld (by kernel_rfl) (run_ld b2 hT25 0 [.bool q.g, .slice q.p q.xs.length q.c, .slice q.q q.ys.length q.d, .int .i64 q.e] (by kernel_rfl) (by kernel_rfl))))
        replace b3 := (b3.past ((bthru hbV4 hbV5).trans (hOV6.below (by omega))))
        refine sv 26 (.agg #[.int .i64 g.rad, .int .i64 g.digs, .int .i64 g.lo, .int .i64 g.hi, .bool g.grad]) ?_ (hr := (exec_ld (by kernel_rfl) (run_ld b3 hT27 0 [.int .i64 g.rad, .int .i64 g.digs, .int .i64 g.lo, .int .i64 g.hi, .bool g.grad] (by kernel_rfl) (by kernel_rfl))))
        replace hq := (hq.past ((bthru hbV4 hbV5).trans (hOV6.below (by omega))))
        replace hT := (hT.past ((bthru hbV4 hbV5).trans (hOV6.below (by omega))))
        refine se 27 8 #[.agg #[.bool q.g, .slice q.p q.xs.length q.c, .slice q.q q.ys.length q.d, .int .i64 q.e], .agg #[.int .i64 g.rad, .int .i64 g.digs, .int .i64 g.lo, .int .i64 g.hi, .bool g.grad], .int .i64 4] (fun Gx hGx => ?_)
        ((with_reducible refine ((H4 _ hq hT).out).mono ?_))
        rintro eV7 V7 ⟨p27, c27, rfl, ho27, hbV7⟩
        have hzV7 := hbV7.size
        refine ⟨.tuple #[.agg #[.bool hi.neg, .slice p27 (dig B32 hi.m).length c27, .int .i64 hi.e], .bool true], rfl, hGx _ _ ?_⟩
        clear hGx Gx
        refine sv 24 (.tuple #[.agg #[.bool hi.neg, .slice p27 (dig B32 hi.m).length c27, .int .i64 hi.e], .bool true]) ?_
        refine sv 28 (.agg #[.bool hi.neg, .slice p27 (dig B32 hi.m).length c27, .int .i64 hi.e]) ?_
        refine sv 29 (.bool true) ?_
        refine sn 7 #[.bool false, .slice none 0 0, .int .i64 0] 30 (fun V8 hbV8 hzV8 b7 => ?_)
        refine ss none b7 hT30 0 #[.bool hi.neg, .slice p27 (dig B32 hi.m).length c27, .int .i64 hi.e] #[.bool hi.neg, .slice p27 (dig B32 hi.m).length c27, .int .i64 hi.e] ?_
        have boV9 := b7
        clear b7
        intro V9 hOV9 b7
        have hzV9 := hOV9.size
        refine sv 8 (.bool true) ?_
        refine sx_nil ?_
        refine sx_then ?_
        refine wp_seq ?_
        refine wp_seq ?_
        refine sx_region ?_
        refine sv 30 (.bool true) ?_
        refine sv 31 (.bool false) ?_
        refine sv 32 (.bool false) ?_
        refine sv 33 (.bool true) ?_
        refine sv 34 (.bool false) ?_
        refine sv 35 (.bool false) ?_
        refine sx_nil ?_
        refine sx_then ?_
        refine wp_cond_false (by kernel_rfl) ?_
        refine wp_skip ?_
        refine sx_then ?_
        refine wp_seq ?_
        refine wp_seq ?_
        refine sx_region ?_
        refine sv 9 (.int .i64 1) ?_
        refine sx_nil ?_
        refine sx_then ?_
        refine wp_block ?_
        refine sx_frame (a' := ⟨((.agg #[.bool q.g, .slice q.p q.xs.length q.c, .slice q.q q.ys.length q.d, .int .i64 q.e]) :: (.agg #[.int .i64 g.rad, .int .i64 g.digs, .int .i64 g.lo, .int .i64 g.hi, .bool g.grad]) :: (.pointer (some ⟨w.heap.size, 0, none⟩)) :: (.pointer (some ⟨V1.heap.size, 0, none⟩)) :: (.bool false) :: (.pointer (some ⟨V4.heap.size, 0, none⟩)) :: (.bool true) :: (.pointer (some ⟨V7.heap.size, 0, none⟩)) :: (.bool true) :: (.int .i64 1) :: undef :: undef :: undef :: undef :: undef :: undef :: (.bool true) :: (.bool false) :: (.tuple #[.agg #[.bool lo.neg, .slice p21 (dig B32 lo.m).length c21, .int .i64 lo.e], .bool true]) :: (.agg #[.bool q.g, .slice q.p q.xs.length q.c, .slice q.q q.ys.length q.d, .int .i64 q.e]) :: (.agg #[.int .i64 g.rad, .int .i64 g.digs, .int .i64 g.lo, .int .i64 g.hi, .bool g.grad]) :: (.tuple #[.agg #[.bool lo.neg, .slice p21 (dig B32 lo.m).length c21, .int .i64 lo.e], .bool true]) :: (.agg #[.bool lo.neg, .slice p21 (dig B32 lo.m).length c21, .int .i64 lo.e]) :: (.bool true) :: (.tuple #[.agg #[.bool hi.neg, .slice p27 (dig B32 hi.m).length c27, .int .i64 hi.e], .bool true]) :: (.agg #[.bool q.g, .slice q.p q.xs.length q.c, .slice q.q q.ys.length q.d, .int .i64 q.e]) :: (.agg #[.int .i64 g.rad, .int .i64 g.digs, .int .i64 g.lo, .int .i64 g.hi, .bool g.grad]) :: (.tuple #[.agg #[.bool hi.neg, .slice p27 (dig B32 hi.m).length c27, .int .i64 hi.e], .bool true]) :: (.agg #[.bool hi.neg, .slice p27 (dig B32 hi.m).length c27, .int .i64 hi.e]) :: (.bool true) :: (.bool true) :: (.bool false) :: (.bool false) :: (.bool true) :: (.bool false) :: (.bool false) :: undef :: undef :: undef :: undef :: undef :: undef :: undef :: undef :: undef :: undef :: undef :: undef :: undef :: undef :: undef :: undef :: undef :: undef :: undef :: undef :: undef :: undef :: undef :: undef :: undef :: undef :: undef :: undef :: undef :: undef :: undef :: undef :: undef :: undef :: undef :: undef :: undef :: undef :: undef :: undef :: undef :: undef :: undef :: undef :: undef :: undef :: undef :: undef :: undef :: undef :: undef :: undef :: undef :: []).toArray, []⟩) (by kernel_rfl) ?_
        refine sx_loop (fun (gk : Nat) a' w' => ∃ (u4 : Value) (u10 : Value) (u11 : Value) (u36 : Value) (u37 : Value) (u38 : Value) (u39 : Value) (u40 : Value) (u41 : Value) (u42 : Value) (u43 : Value) (u44 : Value) (u45 : Value) (u46 : Value) (u47 : Value) (u48 : Value) (u49 : Value) (u50 : Value) (u51 : Value) (u52 : Value) (u53 : Value) (u54 : Value) (u55 : Value) (u56 : Value) (u57 : Value) (u58 : Value) (u59 : Value) (u60 : Value) (k9 : Int), a' = ⟨((.agg #[.bool q.g, .slice q.p q.xs.length q.c, .slice q.q q.ys.length q.d, .int .i64 q.e]) :: (.agg #[.int .i64 g.rad, .int .i64 g.digs, .int .i64 g.lo, .int .i64 g.hi, .bool g.grad]) :: (.pointer (some ⟨w.heap.size, 0, none⟩)) :: (.pointer (some ⟨V1.heap.size, 0, none⟩)) :: (u4) :: (.pointer (some ⟨V4.heap.size, 0, none⟩)) :: (.bool true) :: (.pointer (some ⟨V7.heap.size, 0, none⟩)) :: (.bool true) :: (.int .i64 k9) :: (u10) :: (u11) :: undef :: undef :: undef :: undef :: (.bool true) :: (.bool false) :: (.tuple #[.agg #[.bool lo.neg, .slice p21 (dig B32 lo.m).length c21, .int .i64 lo.e], .bool true]) :: (.agg #[.bool q.g, .slice q.p q.xs.length q.c, .slice q.q q.ys.length q.d, .int .i64 q.e]) :: (.agg #[.int .i64 g.rad, .int .i64 g.digs, .int .i64 g.lo, .int .i64 g.hi, .bool g.grad]) :: (.tuple #[.agg #[.bool lo.neg, .slice p21 (dig B32 lo.m).length c21, .int .i64 lo.e], .bool true]) :: (.agg #[.bool lo.neg, .slice p21 (dig B32 lo.m).length c21, .int .i64 lo.e]) :: (.bool true) :: (.tuple #[.agg #[.bool hi.neg, .slice p27 (dig B32 hi.m).length c27, .int .i64 hi.e], .bool true]) :: (.agg #[.bool q.g, .slice q.p q.xs.length q.c, .slice q.q q.ys.length q.d, .int .i64 q.e]) :: (.agg #[.int .i64 g.rad, .int .i64 g.digs, .int .i64 g.lo, .int .i64 g.hi, .bool g.grad]) :: (.tuple #[.agg #[.bool hi.neg, .slice p27 (dig B32 hi.m).length c27, .int .i64 hi.e], .bool true]) :: (.agg #[.bool hi.neg, .slice p27 (dig B32 hi.m).length c27, .int .i64 hi.e]) :: (.bool true) :: (.bool true) :: (.bool false) :: (.bool false) :: (.bool true) :: (.bool false) :: (.bool false) :: (u36) :: (u37) :: (u38) :: (u39) :: (u40) :: (u41) :: (u42) :: (u43) :: (u44) :: (u45) :: (u46) :: (u47) :: (u48) :: (u49) :: (u50) :: (u51) :: (u52) :: (u53) :: (u54) :: (u55) :: (u56) :: (u57) :: (u58) :: (u59) :: (u60) :: undef :: undef :: undef :: undef :: undef :: undef :: undef :: undef :: undef :: undef :: undef :: undef :: undef :: undef :: undef :: undef :: undef :: undef :: undef :: undef :: undef :: undef :: undef :: undef :: undef :: undef :: undef :: undef :: []).toArray, []⟩ ∧ Below V9.heap.size V9 w' ∧ ((gk : Int) = 4 - k9) ∧ (1 ≤ k9)) 3 ?_ (fun Gx hGx => ?_)
        · skip
          exact ⟨(.bool false), (undef), (undef), (undef), (undef), (undef), (undef), (undef), (undef), (undef), (undef), (undef), (undef), (undef), (undef), (undef), (undef), (undef), (undef), (undef), (undef), (undef), (undef), (undef), (undef), (undef), (undef), (undef), 1, by kernel_rfl, Below.refl _ _, by omega, by omega⟩
        · skip
          rintro gk0 _ V10 ⟨u4, u10, u11, u36, u37, u38, u39, u40, u41, u42, u43, u44, u45, u46, u47, u48, u49, u50, u51, u52, u53, u54, u55, u56, u57, u58, u59, u60, k9, rfl, hbV10, hk9, hk1⟩
          refine hGx _ _ _ ?_
          clear hGx Gx
          have hzV10 := hbV10.size
          refine wp_seq ?_
          refine wp_seq ?_
          refine sx_region ?_
          refine sv 36 (.int .i64 k9) ?_
          rcases Bool.eq_false_or_eq_true (decide (k9 ≤ 3)) with f37 | f37
          · skip
            refine sv 37 (.bool true) ?_ (hr := ((show _ = Result.ok (Next.value (.bool (decide (k9 ≤ 3)))) _ from (by kernel_rfl)).trans (congrArg (fun z => Result.ok (Next.value (.bool z)) _) (show (decide (k9 ≤ 3)) = true from f37))))
            refine sx_nil ?_
            refine sx_then ?_
            refine wp_cond_true (by kernel_rfl) ?_
            refine wp_skip ?_
            refine sx_then ?_
            refine wp_seq ?_
            refine wp_block ?_
            refine wp_seq ?_
            refine sx_region ?_
            obtain ⟨z, hz, HW⟩ := HX k9 hk1 (by have := of_decide_eq_true f37; omega)
            replace b2 := (b2.past (bthru ((bthru hbV7 hbV8).trans (hOV9.below (by omega))) hbV10))
            refine sv 41 (.agg #[.bool q.g, .slice q.p q.xs.length q.c, .slice q.q q.ys.length q.d, .int .i64 q.e]) ?_ (hr := (exec_ld (by kernel_rfl) (run_ld b2 hT25 0 [.bool q.g, .slice q.p q.xs.length q.c, .slice q.q q.ys.length q.d, .int .i64 q.e] (by kernel_rfl) (by kernel_rfl))))
            replace b3 := (b3.past (bthru ((bthru hbV7 hbV8).trans (hOV9.below (by omega))) hbV10))
            refine sv 42 (.agg #[.int .i64 g.rad, .int .i64 g.digs, .int .i64 g.lo, .int .i64 g.hi, .bool g.grad]) ?_ (hr := (exec_ld (by kernel_rfl) (run_ld b3 hT27 0 [.int .i64 g.rad, .int .i64 g.digs, .int .i64 g.lo, .int .i64 g.hi, .bool g.grad] (by kernel_rfl) (by kernel_rfl))))
            refine sv 43 (.int .i64 k9) ?_
            replace hq := (hq.past (bthru ((bthru hbV7 hbV8).trans (hOV9.below (by omega))) hbV10))
            replace hT := (hT.past (bthru ((bthru hbV7 hbV8).trans (hOV9.below (by omega))) hbV10))
            refine se 44 8 #[.agg #[.bool q.g, .slice q.p q.xs.length q.c, .slice q.q q.ys.length q.d, .int .i64 q.e], .agg #[.int .i64 g.rad, .int .i64 g.digs, .int .i64 g.lo, .int .i64 g.hi, .bool g.grad], .int .i64 k9] (fun Gx hGx => ?_)
            ((with_reducible refine ((HW _ hq hT).out).mono ?_))
            rintro eV11 V11 ⟨p44, c44, rfl, ho44, hbV11⟩
            have hzV11 := hbV11.size
            refine ⟨.tuple #[.agg #[.bool z.neg, .slice p44 (dig B32 z.m).length c44, .int .i64 z.e], .bool true], rfl, hGx _ _ ?_⟩
            clear hGx Gx
            refine sv 40 (.tuple #[.agg #[.bool z.neg, .slice p44 (dig B32 z.m).length c44, .int .i64 z.e], .bool true]) ?_
            refine sv 45 (.agg #[.bool z.neg, .slice p44 (dig B32 z.m).length c44, .int .i64 z.e]) ?_
            refine sv 46 (.bool true) ?_
            refine sn 10 #[.bool false, .slice none 0 0, .int .i64 0] 30 (fun V12 hbV12 hzV12 b10 => ?_)
            refine ss none b10 hT30 0 #[.bool z.neg, .slice p44 (dig B32 z.m).length c44, .int .i64 z.e] #[.bool z.neg, .slice p44 (dig B32 z.m).length c44, .int .i64 z.e] ?_
            have boV13 := b10
            clear b10
            intro V13 hOV13 b10
            have hzV13 := hOV13.size
            refine sv 11 (.bool true) ?_
            refine sx_nil ?_
            refine sx_then ?_
            refine wp_seq ?_
            refine sx_region ?_
            refine sv 47 (.bool true) ?_
            refine sv 48 (.bool false) ?_
            refine sv 49 (.bool false) ?_
            refine sv 50 (.agg #[.bool z.neg, .slice p44 (dig B32 z.m).length c44, .int .i64 z.e]) ?_ (hr := (exec_ld (by kernel_rfl) (run_ld b10 hT30 0 [.bool z.neg, .slice p44 (dig B32 z.m).length c44, .int .i64 z.e] (by kernel_rfl) (by kernel_rfl))))
            replace b5 := (b5.past ((bthru (bthru (bthru ((bthru hbV7 hbV8).trans (hOV9.below (by omega))) hbV10) hbV11) hbV12).trans (hOV13.below (by omega))))
            refine sv 51 (.agg #[.bool lo.neg, .slice p21 (dig B32 lo.m).length c21, .int .i64 lo.e]) ?_ (hr := (exec_ld (by kernel_rfl) (run_ld b5 hT30 0 [.bool lo.neg, .slice p21 (dig B32 lo.m).length c21, .int .i64 lo.e] (by kernel_rfl) (by kernel_rfl))))
            have lz : (dig B32 z.m).length ≤ 1000000000 := by rcases hz with h | h <;> rw [h] <;> omega
            replace ho44 := (ho44.past (hbV12.trans (hOV13.below (by omega))))
            replace ho21 := (ho21.past ((bthru (bthru (bthru ((bthru (bthru (hbV5.trans (hOV6.below (by omega))) hbV7) hbV8).trans (hOV9.below (by omega))) hbV10) hbV11) hbV12).trans (hOV13.below (by omega))))
            refine se 52 17 #[.agg #[.bool z.neg, .slice p44 (dig B32 z.m).length c44, .int .i64 z.e], .agg #[.bool lo.neg, .slice p21 (dig B32 lo.m).length c21, .int .i64 lo.e]] (fun Gx hGx => ?_)
            ((with_reducible refine (same_dec z lo p44 p21 c44 c21 _ ho44.rd ho21.rd lz (by omega)).mono ?_))
            rintro eV14 V14 ⟨rfl, hbV14⟩
            have hzV14 := hbV14.size
            refine ⟨.bool (decide (z = lo)), rfl, hGx _ _ ?_⟩
            clear hGx Gx
            rcases Bool.eq_false_or_eq_true (!(decide (z = lo))) with f53 | f53
            · skip
              refine sv 53 (.bool true) ?_ (hr := ((show _ = Result.ok (Next.value (.bool (!(decide (z = lo))))) _ from (by kernel_rfl)).trans (congrArg (fun z => Result.ok (Next.value (.bool z)) _) (show (!(decide (z = lo))) = true from f53))))
              refine sv 54 (.bool true) ?_
              replace b10 := (b10.past hbV14)
              refine sv 55 (.agg #[.bool z.neg, .slice p44 (dig B32 z.m).length c44, .int .i64 z.e]) ?_ (hr := (exec_ld (by kernel_rfl) (run_ld b10 hT30 0 [.bool z.neg, .slice p44 (dig B32 z.m).length c44, .int .i64 z.e] (by kernel_rfl) (by kernel_rfl))))
              replace b7 := (b7.past (bthru ((bthru (bthru hbV10 hbV11) hbV12).trans (hOV13.below (by omega))) hbV14))
              refine sv 56 (.agg #[.bool hi.neg, .slice p27 (dig B32 hi.m).length c27, .int .i64 hi.e]) ?_ (hr := (exec_ld (by kernel_rfl) (run_ld b7 hT30 0 [.bool hi.neg, .slice p27 (dig B32 hi.m).length c27, .int .i64 hi.e] (by kernel_rfl) (by kernel_rfl))))
              replace ho44 := (ho44.past hbV14)
              replace ho27 := (ho27.past (bthru ((bthru (bthru (bthru (hbV8.trans (hOV9.below (by omega))) hbV10) hbV11) hbV12).trans (hOV13.below (by omega))) hbV14))
              refine se 57 17 #[.agg #[.bool z.neg, .slice p44 (dig B32 z.m).length c44, .int .i64 z.e], .agg #[.bool hi.neg, .slice p27 (dig B32 hi.m).length c27, .int .i64 hi.e]] (fun Gx hGx => ?_)
              ((with_reducible refine (same_dec z hi p44 p27 c44 c27 _ ho44.rd ho27.rd lz (by omega)).mono ?_))
              rintro eV15 V15 ⟨rfl, hbV15⟩
              have hzV15 := hbV15.size
              rw [show (decide (z = hi)) = true from decide_eq_true (hz.resolve_left (by simpa using f53))]
              refine ⟨.bool true, rfl, hGx _ _ ?_⟩
              clear hGx Gx
              refine sv 58 (.bool false) ?_
              refine sv 59 (.bool false) ?_
              refine sv 60 (.bool false) ?_
              refine sx_nil ?_
              refine sx_then ?_
              refine wp_cond_false (by kernel_rfl) ?_
              refine wp_skip ?_
              refine sx_inblock ?_
              refine sx_then ?_
              refine sx_region ?_
              refine sv 38 (.int .i64 k9) ?_
              refine sv 39 (.int .i64 (k9 + 1)) ?_ (hr := ((show _ = Result.ok (Next.value (.int .i64 (IntKind.wrap .i64 (k9 + 1)))) _ by kernel_rfl).trans (congrArg (fun z => Result.ok (Next.value (.int .i64 z)) _) ((by have := of_decide_eq_true f37; exact IntWalk.i64_in _ (by omega))))))
              refine sv 9 (.int .i64 (k9 + 1)) ?_
              refine sx_nil ?_
              refine sx_then ?_
              refine ⟨gk0 - 1, by have := of_decide_eq_true f37; omega, ?_⟩
              exact ⟨(u4), (.pointer (some ⟨V11.heap.size, 0, none⟩)), (.bool true), (.int .i64 k9), (.bool true), (.int .i64 k9), (.int .i64 (k9 + 1)), (.tuple #[.agg #[.bool z.neg, .slice p44 (dig B32 z.m).length c44, .int .i64 z.e], .bool true]), (.agg #[.bool q.g, .slice q.p q.xs.length q.c, .slice q.q q.ys.length q.d, .int .i64 q.e]), (.agg #[.int .i64 g.rad, .int .i64 g.digs, .int .i64 g.lo, .int .i64 g.hi, .bool g.grad]), (.int .i64 k9), (.tuple #[.agg #[.bool z.neg, .slice p44 (dig B32 z.m).length c44, .int .i64 z.e], .bool true]), (.agg #[.bool z.neg, .slice p44 (dig B32 z.m).length c44, .int .i64 z.e]), (.bool true), (.bool true), (.bool false), (.bool false), (.agg #[.bool z.neg, .slice p44 (dig B32 z.m).length c44, .int .i64 z.e]), (.agg #[.bool lo.neg, .slice p21 (dig B32 lo.m).length c21, .int .i64 lo.e]), (.bool (decide (z = lo))), (.bool true), (.bool true), (.agg #[.bool z.neg, .slice p44 (dig B32 z.m).length c44, .int .i64 z.e]), (.agg #[.bool hi.neg, .slice p27 (dig B32 hi.m).length c27, .int .i64 hi.e]), (.bool true), (.bool false), (.bool false), (.bool false), k9 + 1, by kernel_rfl, (bthru (bthru ((bthru (bthru hbV10 hbV11) hbV12).trans (hOV13.below (by omega))) hbV14) hbV15), by have := of_decide_eq_true f37; omega, by omega⟩
            · skip
              refine sv 53 (.bool false) ?_ (hr := ((show _ = Result.ok (Next.value (.bool (!(decide (z = lo))))) _ from (by kernel_rfl)).trans (congrArg (fun z => Result.ok (Next.value (.bool z)) _) (show (!(decide (z = lo))) = false from f53))))
              refine sv 54 (.bool false) ?_
              refine so (some 55) ?_
              refine so (some 56) ?_
              refine so (some 57) ?_
              refine so (some 58) ?_
              refine sv 59 (.bool false) ?_
              refine sv 60 (.bool false) ?_
              refine sx_nil ?_
              refine sx_then ?_
              refine wp_cond_false (by kernel_rfl) ?_
              refine wp_skip ?_
              refine sx_inblock ?_
              refine sx_then ?_
              refine sx_region ?_
              refine sv 38 (.int .i64 k9) ?_
              refine sv 39 (.int .i64 (k9 + 1)) ?_ (hr := ((show _ = Result.ok (Next.value (.int .i64 (IntKind.wrap .i64 (k9 + 1)))) _ by kernel_rfl).trans (congrArg (fun z => Result.ok (Next.value (.int .i64 z)) _) ((by have := of_decide_eq_true f37; exact IntWalk.i64_in _ (by omega))))))
              refine sv 9 (.int .i64 (k9 + 1)) ?_
              refine sx_nil ?_
              refine sx_then ?_
              refine ⟨gk0 - 1, by have := of_decide_eq_true f37; omega, ?_⟩
              exact ⟨(u4), (.pointer (some ⟨V11.heap.size, 0, none⟩)), (.bool true), (.int .i64 k9), (.bool true), (.int .i64 k9), (.int .i64 (k9 + 1)), (.tuple #[.agg #[.bool z.neg, .slice p44 (dig B32 z.m).length c44, .int .i64 z.e], .bool true]), (.agg #[.bool q.g, .slice q.p q.xs.length q.c, .slice q.q q.ys.length q.d, .int .i64 q.e]), (.agg #[.int .i64 g.rad, .int .i64 g.digs, .int .i64 g.lo, .int .i64 g.hi, .bool g.grad]), (.int .i64 k9), (.tuple #[.agg #[.bool z.neg, .slice p44 (dig B32 z.m).length c44, .int .i64 z.e], .bool true]), (.agg #[.bool z.neg, .slice p44 (dig B32 z.m).length c44, .int .i64 z.e]), (.bool true), (.bool true), (.bool false), (.bool false), (.agg #[.bool z.neg, .slice p44 (dig B32 z.m).length c44, .int .i64 z.e]), (.agg #[.bool lo.neg, .slice p21 (dig B32 lo.m).length c21, .int .i64 lo.e]), (.bool (decide (z = lo))), (.bool false), (.bool false), (undef), (undef), (undef), (undef), (.bool false), (.bool false), k9 + 1, by kernel_rfl, (bthru ((bthru (bthru hbV10 hbV11) hbV12).trans (hOV13.below (by omega))) hbV14), by have := of_decide_eq_true f37; omega, by omega⟩
          · skip
            refine sv 37 (.bool false) ?_ (hr := ((show _ = Result.ok (Next.value (.bool (decide (k9 ≤ 3)))) _ from (by kernel_rfl)).trans (congrArg (fun z => Result.ok (Next.value (.bool z)) _) (show (decide (k9 ≤ 3)) = false from f37))))
            refine sx_nil ?_
            refine sx_then ?_
            refine wp_cond_false (by kernel_rfl) ?_
            refine wp_exit ?_
            repeat (with_reducible refine sx_thenexit ?_)
            refine sx_exit (id := 0) ?_
            refine sx_then ?_
            refine wp_seq ?_
            refine wp_seq ?_
            refine sx_region ?_
            replace b5 := (b5.past (bthru ((bthru hbV7 hbV8).trans (hOV9.below (by omega))) hbV10))
            refine sv 61 (.agg #[.bool lo.neg, .slice p21 (dig B32 lo.m).length c21, .int .i64 lo.e]) ?_ (hr := (exec_ld (by kernel_rfl) (run_ld b5 hT30 0 [.bool lo.neg, .slice p21 (dig B32 lo.m).length c21, .int .i64 lo.e] (by kernel_rfl) (by kernel_rfl))))
            replace b7 := (b7.past hbV10)
            refine sv 62 (.agg #[.bool hi.neg, .slice p27 (dig B32 hi.m).length c27, .int .i64 hi.e]) ?_ (hr := (exec_ld (by kernel_rfl) (run_ld b7 hT30 0 [.bool hi.neg, .slice p27 (dig B32 hi.m).length c27, .int .i64 hi.e] (by kernel_rfl) (by kernel_rfl))))
            replace ho21 := (ho21.past (bthru ((bthru (bthru (hbV5.trans (hOV6.below (by omega))) hbV7) hbV8).trans (hOV9.below (by omega))) hbV10))
            replace ho27 := (ho27.past (bthru (hbV8.trans (hOV9.below (by omega))) hbV10))
            refine se 63 17 #[.agg #[.bool lo.neg, .slice p21 (dig B32 lo.m).length c21, .int .i64 lo.e], .agg #[.bool hi.neg, .slice p27 (dig B32 hi.m).length c27, .int .i64 hi.e]] (fun Gx hGx => ?_)
            ((with_reducible refine (same_dec lo hi p21 p27 c21 c27 _ ho21.rd ho27.rd (by omega) (by omega)).mono ?_))
            rintro eV11 V11 ⟨rfl, hbV11⟩
            have hzV11 := hbV11.size
            rw [show (decide (lo = hi)) = true from decide_eq_true hs]
            refine ⟨.bool true, rfl, hGx _ _ ?_⟩
            clear hGx Gx
            refine sx_nil ?_
            refine sx_then ?_
            refine wp_cond_true (by kernel_rfl) ?_
            refine wp_seq ?_
            refine sx_region ?_
            replace b2 := (b2.past (bthru (bthru ((bthru hbV7 hbV8).trans (hOV9.below (by omega))) hbV10) hbV11))
            refine sv 65 (.agg #[.bool q.g, .slice q.p q.xs.length q.c, .slice q.q q.ys.length q.d, .int .i64 q.e]) ?_ (hr := (exec_ld (by kernel_rfl) (run_ld b2 hT25 0 [.bool q.g, .slice q.p q.xs.length q.c, .slice q.q q.ys.length q.d, .int .i64 q.e] (by kernel_rfl) (by kernel_rfl))))
            replace b3 := (b3.past (bthru (bthru ((bthru hbV7 hbV8).trans (hOV9.below (by omega))) hbV10) hbV11))
            refine sv 66 (.agg #[.int .i64 g.rad, .int .i64 g.digs, .int .i64 g.lo, .int .i64 g.hi, .bool g.grad]) ?_ (hr := (exec_ld (by kernel_rfl) (run_ld b3 hT27 0 [.int .i64 g.rad, .int .i64 g.digs, .int .i64 g.lo, .int .i64 g.hi, .bool g.grad] (by kernel_rfl) (by kernel_rfl))))
            replace hq := (hq.past (bthru (bthru ((bthru hbV7 hbV8).trans (hOV9.below (by omega))) hbV10) hbV11))
            refine se 67 25 #[.agg #[.bool q.g, .slice q.p q.xs.length q.c, .slice q.q q.ys.length q.d, .int .i64 q.e], .agg #[.int .i64 g.rad, .int .i64 g.digs, .int .i64 g.lo, .int .i64 g.hi, .bool g.grad], .int .i64 1] (fun Gx hGx => ?_)
            ((with_reducible refine ((hex _ hq).out).mono ?_))
            rintro eV12 V12 ⟨pn, pd, pp, po, pu, p67, c67, rfl, ho67, hbV12⟩
            have hzV12 := hbV12.size
            refine ⟨.tuple #[.agg #[.bool pn, .slice p67 (dig B32 pd).length c67, .int .i64 pp, .bool true, .bool po, .bool pu], .int .i64 0], rfl, hGx _ _ ?_⟩
            clear hGx Gx
            refine sv 64 (.tuple #[.agg #[.bool pn, .slice p67 (dig B32 pd).length c67, .int .i64 pp, .bool true, .bool po, .bool pu], .int .i64 0]) ?_
            refine sv 68 (.agg #[.bool pn, .slice p67 (dig B32 pd).length c67, .int .i64 pp, .bool true, .bool po, .bool pu]) ?_
            refine sv 69 (.int .i64 0) ?_
            refine sn 12 #[.bool false, .slice none 0 0, .int .i64 0, .bool false, .bool false, .bool false] 61 (fun V13 hbV13 hzV13 b12 => ?_)
            refine ss none b12 hT61 0 #[.bool pn, .slice p67 (dig B32 pd).length c67, .int .i64 pp, .bool true, .bool po, .bool pu] #[.bool pn, .slice p67 (dig B32 pd).length c67, .int .i64 pp, .bool true, .bool po, .bool pu] ?_
            have boV14 := b12
            clear b12
            intro V14 hOV14 b12
            have hzV14 := hOV14.size
            refine sv 13 (.int .i64 0) ?_
            refine sx_nil ?_
            refine sx_then ?_
            refine wp_seq ?_
            refine sx_region ?_
            refine sv 70 (.int .i64 0) ?_
            refine sv 71 (.bool true) ?_
            refine sv 72 (.bool true) ?_
            refine sv 73 (.pointer (some ⟨V12.heap.size, 3, none⟩)) ?_
            refine sv 74 (.bool true) ?_ (hr := (exec_ld (by kernel_rfl) (run_ld1 b12 hT4 3 (.bool true) (by kernel_rfl))))
            refine sv 75 (.bool true) ?_
            refine sv 4 (.bool true) ?_
            refine sx_nil ?_
            refine sx_then ?_
            refine wp_ret ?_
            repeat (first | with_reducible refine sx_thenret ?_ | with_reducible refine sx_blockret ?_)
            refine bodyPost_ret (v := .bool true) (by simp [results, Tryd.results6, go_sem]) rfl ?_
            exact ⟨rfl, ((bthru (bthru (bthru (bthru ((bthru (bthru ((bthru (bthru (bthru (bthru hbV1 hbV2) hbV3) hbV4) hbV5).trans (hOV6.below (by omega))) hbV7) hbV8).trans (hOV9.below (by omega))) hbV10) hbV11) hbV12) hbV13).trans (hOV14.below (by omega)))⟩
      · have HST : ∀ W base p c (h : Own W base .u32 46 p c (dig B32 (rvalV q g 5).m)) (hT : TabW W), Hid (Calls Tryd.prog 18 #[.agg #[.bool (rvalV q g 5).neg, .slice p (dig B32 (rvalV q g 5).m).length c, .int .i64 (rvalV q g 5).e], .agg #[.int .i64 g.rad, .int .i64 g.digs, .int .i64 g.lo, .int .i64 g.hi, .bool g.grad], .bool true] W (GivesDE W W.heap.size (rvalV q g 4) 0)) := fun W base p c h hT => by
          have h1 := step_any (dinOf (rvalV q g 5) p c) g true W (dinOf_in h (by omega)) hT
          obtain ⟨z1, z2, z3⟩ := keep_two hq a5 p c
          obtain ⟨g1, g2⟩ := dinOf_good (rvalV q g 5) p c b5 e5
          have hst := between_step (neg := q.g) (num := val B32 q.xs) (e := q.e) d1 G k5 k4 (by rw [← v5, ← v4]; exact hs)
          rw [← v5, ← v4] at hst
          have hin := rv_in (neg := q.g) (num := val B32 q.xs) (e := q.e) (way := 5) d1 G k5
          rw [← v5] at hin
          have hf : fromD (dinOf (rvalV q g 5) p c) true = rvalV q g 5 := by unfold fromD; rw [if_pos rfl, g2]
          have hps : pStep (rvalV q g 5) g = (rvalV q g 4, true) := by rw [step_eq b5 G hin, hst]
          have er : errStep (dinOf (rvalV q g 5) p c) g true = 0 := by
            unfold errStep
            rw [if_pos z1, g2, keeps_eq b5 G, if_pos hin, hf, hps, if_pos rfl]
          have sv : stepV (dinOf (rvalV q g 5) p c) g true = rvalV q g 4 := by unfold stepV; rw [if_pos rfl, hf, hps]
          rw [er, sv] at h1
          simp only [doneOne, errOne, if_true, doneD, e4] at h1
          exact Lib.hid h1
        rw [a5] at H5
        rw [a4] at H4
        clear k4 k5 v4 v5 e4 e5 b4 b5 a4 a5 d1 hg G lx ly
        generalize rvalV q g 5 = lo at *
        generalize rvalV q g 4 = hi at *
        have hT25 : SxAgg Tryd.prog 25 4 := sxAgg_of (by kernel_rfl) (by kernel_rfl)
        have hT27 : SxAgg Tryd.prog 27 5 := sxAgg_of (by kernel_rfl) (by kernel_rfl)
        have hT30 : SxAgg Tryd.prog 30 3 := sxAgg_of (by kernel_rfl) (by kernel_rfl)
        refine calls_of_wp Tryd.func6 rfl ?_
        refine sx_frame (a' := ⟨((.agg #[.bool q.g, .slice q.p q.xs.length q.c, .slice q.q q.ys.length q.d, .int .i64 q.e]) :: (.agg #[.int .i64 g.rad, .int .i64 g.digs, .int .i64 g.lo, .int .i64 g.hi, .bool g.grad]) :: undef :: undef :: undef :: undef :: undef :: undef :: undef :: undef :: undef :: undef :: undef :: undef :: undef :: undef :: undef :: undef :: undef :: undef :: undef :: undef :: undef :: undef :: undef :: undef :: undef :: undef :: undef :: undef :: undef :: undef :: undef :: undef :: undef :: undef :: undef :: undef :: undef :: undef :: undef :: undef :: undef :: undef :: undef :: undef :: undef :: undef :: undef :: undef :: undef :: undef :: undef :: undef :: undef :: undef :: undef :: undef :: undef :: undef :: undef :: undef :: undef :: undef :: undef :: undef :: undef :: undef :: undef :: undef :: undef :: undef :: undef :: undef :: undef :: undef :: undef :: undef :: undef :: undef :: undef :: undef :: undef :: undef :: undef :: undef :: undef :: undef :: undef :: []).toArray, []⟩) (by kernel_rfl) ?_
        refine wp_seq ?_
        refine sx_region ?_
        refine sn 2 #[.bool q.g, .slice q.p q.xs.length q.c, .slice q.q q.ys.length q.d, .int .i64 q.e] 25 (fun V1 hbV1 hzV1 b2 => ?_)
        refine sn 3 #[.int .i64 g.rad, .int .i64 g.digs, .int .i64 g.lo, .int .i64 g.hi, .bool g.grad] 27 (fun V2 hbV2 hzV2 b3 => ?_)
        refine sv 4 (.bool false) ?_
        refine sx_nil ?_
        refine sx_then ?_
        refine wp_seq ?_
        refine wp_seq ?_
        refine sx_region ?_
        refine se 16 7 #[] (fun Gx hGx => ?_)
        ((with_reducible refine (gridBegun_any _).mono ?_))
        rintro eV3 V3 ⟨rfl, hbV3⟩
        have hzV3 := hbV3.size
        refine ⟨.bool true, rfl, hGx _ _ ?_⟩
        clear hGx Gx
        refine sv 17 (.bool false) ?_
        refine sx_nil ?_
        refine sx_then ?_
        refine wp_cond_false (by kernel_rfl) ?_
        refine wp_skip ?_
        refine sx_then ?_
        refine wp_seq ?_
        refine sx_region ?_
        replace b2 := (b2.past (bthru hbV2 hbV3))
        refine sv 19 (.agg #[.bool q.g, .slice q.p q.xs.length q.c, .slice q.q q.ys.length q.d, .int .i64 q.e]) ?_ (hr := (exec_ld (by kernel_rfl) (run_ld b2 hT25 0 [.bool q.g, .slice q.p q.xs.length q.c, .slice q.q q.ys.length q.d, .int .i64 q.e] (by kernel_rfl) (by kernel_rfl))))
        replace b3 := (b3.past hbV3)
        refine sv 20 (.agg #[.int .i64 g.rad, .int .i64 g.digs, .int .i64 g.lo, .int .i64 g.hi, .bool g.grad]) ?_ (hr := (exec_ld (by kernel_rfl) (run_ld b3 hT27 0 [.int .i64 g.rad, .int .i64 g.digs, .int .i64 g.lo, .int .i64 g.hi, .bool g.grad] (by kernel_rfl) (by kernel_rfl))))
        replace hq := (hq.past (bthru (bthru hbV1 hbV2) hbV3))
        replace hT := (hT.past (bthru (bthru hbV1 hbV2) hbV3))
        refine se 21 8 #[.agg #[.bool q.g, .slice q.p q.xs.length q.c, .slice q.q q.ys.length q.d, .int .i64 q.e], .agg #[.int .i64 g.rad, .int .i64 g.digs, .int .i64 g.lo, .int .i64 g.hi, .bool g.grad], .int .i64 5] (fun Gx hGx => ?_)
        ((with_reducible refine ((H5 _ hq hT).out).mono ?_))
        rintro eV4 V4 ⟨p21, c21, rfl, ho21, hbV4⟩
        have hzV4 := hbV4.size
        refine ⟨.tuple #[.agg #[.bool lo.neg, .slice p21 (dig B32 lo.m).length c21, .int .i64 lo.e], .bool true], rfl, hGx _ _ ?_⟩
        clear hGx Gx
        refine sv 18 (.tuple #[.agg #[.bool lo.neg, .slice p21 (dig B32 lo.m).length c21, .int .i64 lo.e], .bool true]) ?_
        refine sv 22 (.agg #[.bool lo.neg, .slice p21 (dig B32 lo.m).length c21, .int .i64 lo.e]) ?_
        refine sv 23 (.bool true) ?_
        refine sn 5 #[.bool false, .slice none 0 0, .int .i64 0] 30 (fun V5 hbV5 hzV5 b5 => ?_)
        refine ss none b5 hT30 0 #[.bool lo.neg, .slice p21 (dig B32 lo.m).length c21, .int .i64 lo.e] #[.bool lo.neg, .slice p21 (dig B32 lo.m).length c21, .int .i64 lo.e] ?_
        have boV6 := b5
        clear b5
        intro V6 hOV6 b5
        have hzV6 := hOV6.size
        refine sv 6 (.bool true) ?_
        refine sx_nil ?_
        refine sx_then ?_
        refine wp_seq ?_
        refine sx_region ?_
        replace b2 := (b2.past ((bthru hbV4 hbV5).trans (hOV6.below (by omega))))
        refine sv 25 (.agg #[.bool q.g, .slice q.p q.xs.length q.c, .slice q.q q.ys.length q.d, .int .i64 q.e]) ?_ (hr := (exec_ld (by kernel_rfl) (run_ld b2 hT25 0 [.bool q.g, .slice q.p q.xs.length q.c, .slice q.q q.ys.length q.d, .int .i64 q.e] (by kernel_rfl) (by kernel_rfl))))
        replace b3 := (b3.past ((bthru hbV4 hbV5).trans (hOV6.below (by omega))))
        refine sv 26 (.agg #[.int .i64 g.rad, .int .i64 g.digs, .int .i64 g.lo, .int .i64 g.hi, .bool g.grad]) ?_ (hr := (exec_ld (by kernel_rfl) (run_ld b3 hT27 0 [.int .i64 g.rad, .int .i64 g.digs, .int .i64 g.lo, .int .i64 g.hi, .bool g.grad] (by kernel_rfl) (by kernel_rfl))))
        replace hq := (hq.past ((bthru hbV4 hbV5).trans (hOV6.below (by omega))))
        replace hT := (hT.past ((bthru hbV4 hbV5).trans (hOV6.below (by omega))))
        refine se 27 8 #[.agg #[.bool q.g, .slice q.p q.xs.length q.c, .slice q.q q.ys.length q.d, .int .i64 q.e], .agg #[.int .i64 g.rad, .int .i64 g.digs, .int .i64 g.lo, .int .i64 g.hi, .bool g.grad], .int .i64 4] (fun Gx hGx => ?_)
        ((with_reducible refine ((H4 _ hq hT).out).mono ?_))
        rintro eV7 V7 ⟨p27, c27, rfl, ho27, hbV7⟩
        have hzV7 := hbV7.size
        refine ⟨.tuple #[.agg #[.bool hi.neg, .slice p27 (dig B32 hi.m).length c27, .int .i64 hi.e], .bool true], rfl, hGx _ _ ?_⟩
        clear hGx Gx
        refine sv 24 (.tuple #[.agg #[.bool hi.neg, .slice p27 (dig B32 hi.m).length c27, .int .i64 hi.e], .bool true]) ?_
        refine sv 28 (.agg #[.bool hi.neg, .slice p27 (dig B32 hi.m).length c27, .int .i64 hi.e]) ?_
        refine sv 29 (.bool true) ?_
        refine sn 7 #[.bool false, .slice none 0 0, .int .i64 0] 30 (fun V8 hbV8 hzV8 b7 => ?_)
        refine ss none b7 hT30 0 #[.bool hi.neg, .slice p27 (dig B32 hi.m).length c27, .int .i64 hi.e] #[.bool hi.neg, .slice p27 (dig B32 hi.m).length c27, .int .i64 hi.e] ?_
        have boV9 := b7
        clear b7
        intro V9 hOV9 b7
        have hzV9 := hOV9.size
        refine sv 8 (.bool true) ?_
        refine sx_nil ?_
        refine sx_then ?_
        refine wp_seq ?_
        refine wp_seq ?_
        refine sx_region ?_
        refine sv 30 (.bool true) ?_
        refine sv 31 (.bool false) ?_
        refine sv 32 (.bool false) ?_
        refine sv 33 (.bool true) ?_
        refine sv 34 (.bool false) ?_
        refine sv 35 (.bool false) ?_
        refine sx_nil ?_
        refine sx_then ?_
        refine wp_cond_false (by kernel_rfl) ?_
        refine wp_skip ?_
        refine sx_then ?_
        refine wp_seq ?_
        refine wp_seq ?_
        refine sx_region ?_
        refine sv 9 (.int .i64 1) ?_
        refine sx_nil ?_
        refine sx_then ?_
        refine wp_block ?_
        refine sx_frame (a' := ⟨((.agg #[.bool q.g, .slice q.p q.xs.length q.c, .slice q.q q.ys.length q.d, .int .i64 q.e]) :: (.agg #[.int .i64 g.rad, .int .i64 g.digs, .int .i64 g.lo, .int .i64 g.hi, .bool g.grad]) :: (.pointer (some ⟨w.heap.size, 0, none⟩)) :: (.pointer (some ⟨V1.heap.size, 0, none⟩)) :: (.bool false) :: (.pointer (some ⟨V4.heap.size, 0, none⟩)) :: (.bool true) :: (.pointer (some ⟨V7.heap.size, 0, none⟩)) :: (.bool true) :: (.int .i64 1) :: undef :: undef :: undef :: undef :: undef :: undef :: (.bool true) :: (.bool false) :: (.tuple #[.agg #[.bool lo.neg, .slice p21 (dig B32 lo.m).length c21, .int .i64 lo.e], .bool true]) :: (.agg #[.bool q.g, .slice q.p q.xs.length q.c, .slice q.q q.ys.length q.d, .int .i64 q.e]) :: (.agg #[.int .i64 g.rad, .int .i64 g.digs, .int .i64 g.lo, .int .i64 g.hi, .bool g.grad]) :: (.tuple #[.agg #[.bool lo.neg, .slice p21 (dig B32 lo.m).length c21, .int .i64 lo.e], .bool true]) :: (.agg #[.bool lo.neg, .slice p21 (dig B32 lo.m).length c21, .int .i64 lo.e]) :: (.bool true) :: (.tuple #[.agg #[.bool hi.neg, .slice p27 (dig B32 hi.m).length c27, .int .i64 hi.e], .bool true]) :: (.agg #[.bool q.g, .slice q.p q.xs.length q.c, .slice q.q q.ys.length q.d, .int .i64 q.e]) :: (.agg #[.int .i64 g.rad, .int .i64 g.digs, .int .i64 g.lo, .int .i64 g.hi, .bool g.grad]) :: (.tuple #[.agg #[.bool hi.neg, .slice p27 (dig B32 hi.m).length c27, .int .i64 hi.e], .bool true]) :: (.agg #[.bool hi.neg, .slice p27 (dig B32 hi.m).length c27, .int .i64 hi.e]) :: (.bool true) :: (.bool true) :: (.bool false) :: (.bool false) :: (.bool true) :: (.bool false) :: (.bool false) :: undef :: undef :: undef :: undef :: undef :: undef :: undef :: undef :: undef :: undef :: undef :: undef :: undef :: undef :: undef :: undef :: undef :: undef :: undef :: undef :: undef :: undef :: undef :: undef :: undef :: undef :: undef :: undef :: undef :: undef :: undef :: undef :: undef :: undef :: undef :: undef :: undef :: undef :: undef :: undef :: undef :: undef :: undef :: undef :: undef :: undef :: undef :: undef :: undef :: undef :: undef :: undef :: undef :: []).toArray, []⟩) (by kernel_rfl) ?_
        refine sx_loop (fun (gk : Nat) a' w' => ∃ (u4 : Value) (u10 : Value) (u11 : Value) (u36 : Value) (u37 : Value) (u38 : Value) (u39 : Value) (u40 : Value) (u41 : Value) (u42 : Value) (u43 : Value) (u44 : Value) (u45 : Value) (u46 : Value) (u47 : Value) (u48 : Value) (u49 : Value) (u50 : Value) (u51 : Value) (u52 : Value) (u53 : Value) (u54 : Value) (u55 : Value) (u56 : Value) (u57 : Value) (u58 : Value) (u59 : Value) (u60 : Value) (k9 : Int), a' = ⟨((.agg #[.bool q.g, .slice q.p q.xs.length q.c, .slice q.q q.ys.length q.d, .int .i64 q.e]) :: (.agg #[.int .i64 g.rad, .int .i64 g.digs, .int .i64 g.lo, .int .i64 g.hi, .bool g.grad]) :: (.pointer (some ⟨w.heap.size, 0, none⟩)) :: (.pointer (some ⟨V1.heap.size, 0, none⟩)) :: (u4) :: (.pointer (some ⟨V4.heap.size, 0, none⟩)) :: (.bool true) :: (.pointer (some ⟨V7.heap.size, 0, none⟩)) :: (.bool true) :: (.int .i64 k9) :: (u10) :: (u11) :: undef :: undef :: undef :: undef :: (.bool true) :: (.bool false) :: (.tuple #[.agg #[.bool lo.neg, .slice p21 (dig B32 lo.m).length c21, .int .i64 lo.e], .bool true]) :: (.agg #[.bool q.g, .slice q.p q.xs.length q.c, .slice q.q q.ys.length q.d, .int .i64 q.e]) :: (.agg #[.int .i64 g.rad, .int .i64 g.digs, .int .i64 g.lo, .int .i64 g.hi, .bool g.grad]) :: (.tuple #[.agg #[.bool lo.neg, .slice p21 (dig B32 lo.m).length c21, .int .i64 lo.e], .bool true]) :: (.agg #[.bool lo.neg, .slice p21 (dig B32 lo.m).length c21, .int .i64 lo.e]) :: (.bool true) :: (.tuple #[.agg #[.bool hi.neg, .slice p27 (dig B32 hi.m).length c27, .int .i64 hi.e], .bool true]) :: (.agg #[.bool q.g, .slice q.p q.xs.length q.c, .slice q.q q.ys.length q.d, .int .i64 q.e]) :: (.agg #[.int .i64 g.rad, .int .i64 g.digs, .int .i64 g.lo, .int .i64 g.hi, .bool g.grad]) :: (.tuple #[.agg #[.bool hi.neg, .slice p27 (dig B32 hi.m).length c27, .int .i64 hi.e], .bool true]) :: (.agg #[.bool hi.neg, .slice p27 (dig B32 hi.m).length c27, .int .i64 hi.e]) :: (.bool true) :: (.bool true) :: (.bool false) :: (.bool false) :: (.bool true) :: (.bool false) :: (.bool false) :: (u36) :: (u37) :: (u38) :: (u39) :: (u40) :: (u41) :: (u42) :: (u43) :: (u44) :: (u45) :: (u46) :: (u47) :: (u48) :: (u49) :: (u50) :: (u51) :: (u52) :: (u53) :: (u54) :: (u55) :: (u56) :: (u57) :: (u58) :: (u59) :: (u60) :: undef :: undef :: undef :: undef :: undef :: undef :: undef :: undef :: undef :: undef :: undef :: undef :: undef :: undef :: undef :: undef :: undef :: undef :: undef :: undef :: undef :: undef :: undef :: undef :: undef :: undef :: undef :: undef :: []).toArray, []⟩ ∧ Below V9.heap.size V9 w' ∧ ((gk : Int) = 4 - k9) ∧ (1 ≤ k9)) 3 ?_ (fun Gx hGx => ?_)
        · skip
          exact ⟨(.bool false), (undef), (undef), (undef), (undef), (undef), (undef), (undef), (undef), (undef), (undef), (undef), (undef), (undef), (undef), (undef), (undef), (undef), (undef), (undef), (undef), (undef), (undef), (undef), (undef), (undef), (undef), (undef), 1, by kernel_rfl, Below.refl _ _, by omega, by omega⟩
        · skip
          rintro gk0 _ V10 ⟨u4, u10, u11, u36, u37, u38, u39, u40, u41, u42, u43, u44, u45, u46, u47, u48, u49, u50, u51, u52, u53, u54, u55, u56, u57, u58, u59, u60, k9, rfl, hbV10, hk9, hk1⟩
          refine hGx _ _ _ ?_
          clear hGx Gx
          have hzV10 := hbV10.size
          refine wp_seq ?_
          refine wp_seq ?_
          refine sx_region ?_
          refine sv 36 (.int .i64 k9) ?_
          rcases Bool.eq_false_or_eq_true (decide (k9 ≤ 3)) with f37 | f37
          · skip
            refine sv 37 (.bool true) ?_ (hr := ((show _ = Result.ok (Next.value (.bool (decide (k9 ≤ 3)))) _ from (by kernel_rfl)).trans (congrArg (fun z => Result.ok (Next.value (.bool z)) _) (show (decide (k9 ≤ 3)) = true from f37))))
            refine sx_nil ?_
            refine sx_then ?_
            refine wp_cond_true (by kernel_rfl) ?_
            refine wp_skip ?_
            refine sx_then ?_
            refine wp_seq ?_
            refine wp_block ?_
            refine wp_seq ?_
            refine sx_region ?_
            obtain ⟨z, hz, HW⟩ := HX k9 hk1 (by have := of_decide_eq_true f37; omega)
            replace b2 := (b2.past (bthru ((bthru hbV7 hbV8).trans (hOV9.below (by omega))) hbV10))
            refine sv 41 (.agg #[.bool q.g, .slice q.p q.xs.length q.c, .slice q.q q.ys.length q.d, .int .i64 q.e]) ?_ (hr := (exec_ld (by kernel_rfl) (run_ld b2 hT25 0 [.bool q.g, .slice q.p q.xs.length q.c, .slice q.q q.ys.length q.d, .int .i64 q.e] (by kernel_rfl) (by kernel_rfl))))
            replace b3 := (b3.past (bthru ((bthru hbV7 hbV8).trans (hOV9.below (by omega))) hbV10))
            refine sv 42 (.agg #[.int .i64 g.rad, .int .i64 g.digs, .int .i64 g.lo, .int .i64 g.hi, .bool g.grad]) ?_ (hr := (exec_ld (by kernel_rfl) (run_ld b3 hT27 0 [.int .i64 g.rad, .int .i64 g.digs, .int .i64 g.lo, .int .i64 g.hi, .bool g.grad] (by kernel_rfl) (by kernel_rfl))))
            refine sv 43 (.int .i64 k9) ?_
            replace hq := (hq.past (bthru ((bthru hbV7 hbV8).trans (hOV9.below (by omega))) hbV10))
            replace hT := (hT.past (bthru ((bthru hbV7 hbV8).trans (hOV9.below (by omega))) hbV10))
            refine se 44 8 #[.agg #[.bool q.g, .slice q.p q.xs.length q.c, .slice q.q q.ys.length q.d, .int .i64 q.e], .agg #[.int .i64 g.rad, .int .i64 g.digs, .int .i64 g.lo, .int .i64 g.hi, .bool g.grad], .int .i64 k9] (fun Gx hGx => ?_)
            ((with_reducible refine ((HW _ hq hT).out).mono ?_))
            rintro eV11 V11 ⟨p44, c44, rfl, ho44, hbV11⟩
            have hzV11 := hbV11.size
            refine ⟨.tuple #[.agg #[.bool z.neg, .slice p44 (dig B32 z.m).length c44, .int .i64 z.e], .bool true], rfl, hGx _ _ ?_⟩
            clear hGx Gx
            refine sv 40 (.tuple #[.agg #[.bool z.neg, .slice p44 (dig B32 z.m).length c44, .int .i64 z.e], .bool true]) ?_
            refine sv 45 (.agg #[.bool z.neg, .slice p44 (dig B32 z.m).length c44, .int .i64 z.e]) ?_
            refine sv 46 (.bool true) ?_
            refine sn 10 #[.bool false, .slice none 0 0, .int .i64 0] 30 (fun V12 hbV12 hzV12 b10 => ?_)
            refine ss none b10 hT30 0 #[.bool z.neg, .slice p44 (dig B32 z.m).length c44, .int .i64 z.e] #[.bool z.neg, .slice p44 (dig B32 z.m).length c44, .int .i64 z.e] ?_
            have boV13 := b10
            clear b10
            intro V13 hOV13 b10
            have hzV13 := hOV13.size
            refine sv 11 (.bool true) ?_
            refine sx_nil ?_
            refine sx_then ?_
            refine wp_seq ?_
            refine sx_region ?_
            refine sv 47 (.bool true) ?_
            refine sv 48 (.bool false) ?_
            refine sv 49 (.bool false) ?_
            refine sv 50 (.agg #[.bool z.neg, .slice p44 (dig B32 z.m).length c44, .int .i64 z.e]) ?_ (hr := (exec_ld (by kernel_rfl) (run_ld b10 hT30 0 [.bool z.neg, .slice p44 (dig B32 z.m).length c44, .int .i64 z.e] (by kernel_rfl) (by kernel_rfl))))
            replace b5 := (b5.past ((bthru (bthru (bthru ((bthru hbV7 hbV8).trans (hOV9.below (by omega))) hbV10) hbV11) hbV12).trans (hOV13.below (by omega))))
            refine sv 51 (.agg #[.bool lo.neg, .slice p21 (dig B32 lo.m).length c21, .int .i64 lo.e]) ?_ (hr := (exec_ld (by kernel_rfl) (run_ld b5 hT30 0 [.bool lo.neg, .slice p21 (dig B32 lo.m).length c21, .int .i64 lo.e] (by kernel_rfl) (by kernel_rfl))))
            have lz : (dig B32 z.m).length ≤ 1000000000 := by rcases hz with h | h <;> rw [h] <;> omega
            replace ho44 := (ho44.past (hbV12.trans (hOV13.below (by omega))))
            replace ho21 := (ho21.past ((bthru (bthru (bthru ((bthru (bthru (hbV5.trans (hOV6.below (by omega))) hbV7) hbV8).trans (hOV9.below (by omega))) hbV10) hbV11) hbV12).trans (hOV13.below (by omega))))
            refine se 52 17 #[.agg #[.bool z.neg, .slice p44 (dig B32 z.m).length c44, .int .i64 z.e], .agg #[.bool lo.neg, .slice p21 (dig B32 lo.m).length c21, .int .i64 lo.e]] (fun Gx hGx => ?_)
            ((with_reducible refine (same_dec z lo p44 p21 c44 c21 _ ho44.rd ho21.rd lz (by omega)).mono ?_))
            rintro eV14 V14 ⟨rfl, hbV14⟩
            have hzV14 := hbV14.size
            refine ⟨.bool (decide (z = lo)), rfl, hGx _ _ ?_⟩
            clear hGx Gx
            rcases Bool.eq_false_or_eq_true (!(decide (z = lo))) with f53 | f53
            · skip
              refine sv 53 (.bool true) ?_ (hr := ((show _ = Result.ok (Next.value (.bool (!(decide (z = lo))))) _ from (by kernel_rfl)).trans (congrArg (fun z => Result.ok (Next.value (.bool z)) _) (show (!(decide (z = lo))) = true from f53))))
              refine sv 54 (.bool true) ?_
              replace b10 := (b10.past hbV14)
              refine sv 55 (.agg #[.bool z.neg, .slice p44 (dig B32 z.m).length c44, .int .i64 z.e]) ?_ (hr := (exec_ld (by kernel_rfl) (run_ld b10 hT30 0 [.bool z.neg, .slice p44 (dig B32 z.m).length c44, .int .i64 z.e] (by kernel_rfl) (by kernel_rfl))))
              replace b7 := (b7.past (bthru ((bthru (bthru hbV10 hbV11) hbV12).trans (hOV13.below (by omega))) hbV14))
              refine sv 56 (.agg #[.bool hi.neg, .slice p27 (dig B32 hi.m).length c27, .int .i64 hi.e]) ?_ (hr := (exec_ld (by kernel_rfl) (run_ld b7 hT30 0 [.bool hi.neg, .slice p27 (dig B32 hi.m).length c27, .int .i64 hi.e] (by kernel_rfl) (by kernel_rfl))))
              replace ho44 := (ho44.past hbV14)
              replace ho27 := (ho27.past (bthru ((bthru (bthru (bthru (hbV8.trans (hOV9.below (by omega))) hbV10) hbV11) hbV12).trans (hOV13.below (by omega))) hbV14))
              refine se 57 17 #[.agg #[.bool z.neg, .slice p44 (dig B32 z.m).length c44, .int .i64 z.e], .agg #[.bool hi.neg, .slice p27 (dig B32 hi.m).length c27, .int .i64 hi.e]] (fun Gx hGx => ?_)
              ((with_reducible refine (same_dec z hi p44 p27 c44 c27 _ ho44.rd ho27.rd lz (by omega)).mono ?_))
              rintro eV15 V15 ⟨rfl, hbV15⟩
              have hzV15 := hbV15.size
              rw [show (decide (z = hi)) = true from decide_eq_true (hz.resolve_left (by simpa using f53))]
              refine ⟨.bool true, rfl, hGx _ _ ?_⟩
              clear hGx Gx
              refine sv 58 (.bool false) ?_
              refine sv 59 (.bool false) ?_
              refine sv 60 (.bool false) ?_
              refine sx_nil ?_
              refine sx_then ?_
              refine wp_cond_false (by kernel_rfl) ?_
              refine wp_skip ?_
              refine sx_inblock ?_
              refine sx_then ?_
              refine sx_region ?_
              refine sv 38 (.int .i64 k9) ?_
              refine sv 39 (.int .i64 (k9 + 1)) ?_ (hr := ((show _ = Result.ok (Next.value (.int .i64 (IntKind.wrap .i64 (k9 + 1)))) _ by kernel_rfl).trans (congrArg (fun z => Result.ok (Next.value (.int .i64 z)) _) ((by have := of_decide_eq_true f37; exact IntWalk.i64_in _ (by omega))))))
              refine sv 9 (.int .i64 (k9 + 1)) ?_
              refine sx_nil ?_
              refine sx_then ?_
              refine ⟨gk0 - 1, by have := of_decide_eq_true f37; omega, ?_⟩
              exact ⟨(u4), (.pointer (some ⟨V11.heap.size, 0, none⟩)), (.bool true), (.int .i64 k9), (.bool true), (.int .i64 k9), (.int .i64 (k9 + 1)), (.tuple #[.agg #[.bool z.neg, .slice p44 (dig B32 z.m).length c44, .int .i64 z.e], .bool true]), (.agg #[.bool q.g, .slice q.p q.xs.length q.c, .slice q.q q.ys.length q.d, .int .i64 q.e]), (.agg #[.int .i64 g.rad, .int .i64 g.digs, .int .i64 g.lo, .int .i64 g.hi, .bool g.grad]), (.int .i64 k9), (.tuple #[.agg #[.bool z.neg, .slice p44 (dig B32 z.m).length c44, .int .i64 z.e], .bool true]), (.agg #[.bool z.neg, .slice p44 (dig B32 z.m).length c44, .int .i64 z.e]), (.bool true), (.bool true), (.bool false), (.bool false), (.agg #[.bool z.neg, .slice p44 (dig B32 z.m).length c44, .int .i64 z.e]), (.agg #[.bool lo.neg, .slice p21 (dig B32 lo.m).length c21, .int .i64 lo.e]), (.bool (decide (z = lo))), (.bool true), (.bool true), (.agg #[.bool z.neg, .slice p44 (dig B32 z.m).length c44, .int .i64 z.e]), (.agg #[.bool hi.neg, .slice p27 (dig B32 hi.m).length c27, .int .i64 hi.e]), (.bool true), (.bool false), (.bool false), (.bool false), k9 + 1, by kernel_rfl, (bthru (bthru ((bthru (bthru hbV10 hbV11) hbV12).trans (hOV13.below (by omega))) hbV14) hbV15), by have := of_decide_eq_true f37; omega, by omega⟩
            · skip
              refine sv 53 (.bool false) ?_ (hr := ((show _ = Result.ok (Next.value (.bool (!(decide (z = lo))))) _ from (by kernel_rfl)).trans (congrArg (fun z => Result.ok (Next.value (.bool z)) _) (show (!(decide (z = lo))) = false from f53))))
              refine sv 54 (.bool false) ?_
              refine so (some 55) ?_
              refine so (some 56) ?_
              refine so (some 57) ?_
              refine so (some 58) ?_
              refine sv 59 (.bool false) ?_
              refine sv 60 (.bool false) ?_
              refine sx_nil ?_
              refine sx_then ?_
              refine wp_cond_false (by kernel_rfl) ?_
              refine wp_skip ?_
              refine sx_inblock ?_
              refine sx_then ?_
              refine sx_region ?_
              refine sv 38 (.int .i64 k9) ?_
              refine sv 39 (.int .i64 (k9 + 1)) ?_ (hr := ((show _ = Result.ok (Next.value (.int .i64 (IntKind.wrap .i64 (k9 + 1)))) _ by kernel_rfl).trans (congrArg (fun z => Result.ok (Next.value (.int .i64 z)) _) ((by have := of_decide_eq_true f37; exact IntWalk.i64_in _ (by omega))))))
              refine sv 9 (.int .i64 (k9 + 1)) ?_
              refine sx_nil ?_
              refine sx_then ?_
              refine ⟨gk0 - 1, by have := of_decide_eq_true f37; omega, ?_⟩
              exact ⟨(u4), (.pointer (some ⟨V11.heap.size, 0, none⟩)), (.bool true), (.int .i64 k9), (.bool true), (.int .i64 k9), (.int .i64 (k9 + 1)), (.tuple #[.agg #[.bool z.neg, .slice p44 (dig B32 z.m).length c44, .int .i64 z.e], .bool true]), (.agg #[.bool q.g, .slice q.p q.xs.length q.c, .slice q.q q.ys.length q.d, .int .i64 q.e]), (.agg #[.int .i64 g.rad, .int .i64 g.digs, .int .i64 g.lo, .int .i64 g.hi, .bool g.grad]), (.int .i64 k9), (.tuple #[.agg #[.bool z.neg, .slice p44 (dig B32 z.m).length c44, .int .i64 z.e], .bool true]), (.agg #[.bool z.neg, .slice p44 (dig B32 z.m).length c44, .int .i64 z.e]), (.bool true), (.bool true), (.bool false), (.bool false), (.agg #[.bool z.neg, .slice p44 (dig B32 z.m).length c44, .int .i64 z.e]), (.agg #[.bool lo.neg, .slice p21 (dig B32 lo.m).length c21, .int .i64 lo.e]), (.bool (decide (z = lo))), (.bool false), (.bool false), (undef), (undef), (undef), (undef), (.bool false), (.bool false), k9 + 1, by kernel_rfl, (bthru ((bthru (bthru hbV10 hbV11) hbV12).trans (hOV13.below (by omega))) hbV14), by have := of_decide_eq_true f37; omega, by omega⟩
          · skip
            refine sv 37 (.bool false) ?_ (hr := ((show _ = Result.ok (Next.value (.bool (decide (k9 ≤ 3)))) _ from (by kernel_rfl)).trans (congrArg (fun z => Result.ok (Next.value (.bool z)) _) (show (decide (k9 ≤ 3)) = false from f37))))
            refine sx_nil ?_
            refine sx_then ?_
            refine wp_cond_false (by kernel_rfl) ?_
            refine wp_exit ?_
            repeat (with_reducible refine sx_thenexit ?_)
            refine sx_exit (id := 0) ?_
            refine sx_then ?_
            refine wp_seq ?_
            refine wp_seq ?_
            refine sx_region ?_
            replace b5 := (b5.past (bthru ((bthru hbV7 hbV8).trans (hOV9.below (by omega))) hbV10))
            refine sv 61 (.agg #[.bool lo.neg, .slice p21 (dig B32 lo.m).length c21, .int .i64 lo.e]) ?_ (hr := (exec_ld (by kernel_rfl) (run_ld b5 hT30 0 [.bool lo.neg, .slice p21 (dig B32 lo.m).length c21, .int .i64 lo.e] (by kernel_rfl) (by kernel_rfl))))
            replace b7 := (b7.past hbV10)
            refine sv 62 (.agg #[.bool hi.neg, .slice p27 (dig B32 hi.m).length c27, .int .i64 hi.e]) ?_ (hr := (exec_ld (by kernel_rfl) (run_ld b7 hT30 0 [.bool hi.neg, .slice p27 (dig B32 hi.m).length c27, .int .i64 hi.e] (by kernel_rfl) (by kernel_rfl))))
            replace ho21 := (ho21.past (bthru ((bthru (bthru (hbV5.trans (hOV6.below (by omega))) hbV7) hbV8).trans (hOV9.below (by omega))) hbV10))
            replace ho27 := (ho27.past (bthru (hbV8.trans (hOV9.below (by omega))) hbV10))
            refine se 63 17 #[.agg #[.bool lo.neg, .slice p21 (dig B32 lo.m).length c21, .int .i64 lo.e], .agg #[.bool hi.neg, .slice p27 (dig B32 hi.m).length c27, .int .i64 hi.e]] (fun Gx hGx => ?_)
            ((with_reducible refine (same_dec lo hi p21 p27 c21 c27 _ ho21.rd ho27.rd (by omega) (by omega)).mono ?_))
            rintro eV11 V11 ⟨rfl, hbV11⟩
            have hzV11 := hbV11.size
            rw [show (decide (lo = hi)) = false from decide_eq_false hs]
            refine ⟨.bool false, rfl, hGx _ _ ?_⟩
            clear hGx Gx
            refine sx_nil ?_
            refine sx_then ?_
            refine wp_cond_false (by kernel_rfl) ?_
            refine wp_skip ?_
            refine sx_then ?_
            refine wp_seq ?_
            refine sx_region ?_
            replace b5 := (b5.past hbV11)
            refine sv 77 (.agg #[.bool lo.neg, .slice p21 (dig B32 lo.m).length c21, .int .i64 lo.e]) ?_ (hr := (exec_ld (by kernel_rfl) (run_ld b5 hT30 0 [.bool lo.neg, .slice p21 (dig B32 lo.m).length c21, .int .i64 lo.e] (by kernel_rfl) (by kernel_rfl))))
            replace b3 := (b3.past (bthru (bthru ((bthru hbV7 hbV8).trans (hOV9.below (by omega))) hbV10) hbV11))
            refine sv 78 (.agg #[.int .i64 g.rad, .int .i64 g.digs, .int .i64 g.lo, .int .i64 g.hi, .bool g.grad]) ?_ (hr := (exec_ld (by kernel_rfl) (run_ld b3 hT27 0 [.int .i64 g.rad, .int .i64 g.digs, .int .i64 g.lo, .int .i64 g.hi, .bool g.grad] (by kernel_rfl) (by kernel_rfl))))
            replace ho21 := (ho21.past hbV11)
            replace hT := (hT.past (bthru (bthru ((bthru hbV7 hbV8).trans (hOV9.below (by omega))) hbV10) hbV11))
            refine se 79 18 #[.agg #[.bool lo.neg, .slice p21 (dig B32 lo.m).length c21, .int .i64 lo.e], .agg #[.int .i64 g.rad, .int .i64 g.digs, .int .i64 g.lo, .int .i64 g.hi, .bool g.grad], .bool true] (fun Gx hGx => ?_)
            ((with_reducible refine ((HST _ _ p21 c21 ho21 hT).out).mono ?_))
            rintro eV12 V12 ⟨p79, c79, rfl, ho79, hbV12⟩
            have hzV12 := hbV12.size
            refine ⟨.tuple #[.agg #[.bool hi.neg, .slice p79 (dig B32 hi.m).length c79, .int .i64 hi.e], .int .i64 0], rfl, hGx _ _ ?_⟩
            clear hGx Gx
            refine sv 76 (.tuple #[.agg #[.bool hi.neg, .slice p79 (dig B32 hi.m).length c79, .int .i64 hi.e], .int .i64 0]) ?_
            refine sv 80 (.agg #[.bool hi.neg, .slice p79 (dig B32 hi.m).length c79, .int .i64 hi.e]) ?_
            refine sv 81 (.int .i64 0) ?_
            refine sn 14 #[.bool false, .slice none 0 0, .int .i64 0] 30 (fun V13 hbV13 hzV13 b14 => ?_)
            refine ss none b14 hT30 0 #[.bool hi.neg, .slice p79 (dig B32 hi.m).length c79, .int .i64 hi.e] #[.bool hi.neg, .slice p79 (dig B32 hi.m).length c79, .int .i64 hi.e] ?_
            have boV14 := b14
            clear b14
            intro V14 hOV14 b14
            have hzV14 := hOV14.size
            refine sv 15 (.int .i64 0) ?_
            refine sx_nil ?_
            refine sx_then ?_
            refine wp_seq ?_
            refine sx_region ?_
            refine sv 82 (.int .i64 0) ?_
            refine sv 83 (.bool true) ?_
            refine sv 84 (.bool true) ?_
            refine sv 85 (.agg #[.bool hi.neg, .slice p79 (dig B32 hi.m).length c79, .int .i64 hi.e]) ?_ (hr := (exec_ld (by kernel_rfl) (run_ld b14 hT30 0 [.bool hi.neg, .slice p79 (dig B32 hi.m).length c79, .int .i64 hi.e] (by kernel_rfl) (by kernel_rfl))))
            replace b7 := (b7.past ((bthru (bthru hbV11 hbV12) hbV13).trans (hOV14.below (by omega))))
            refine sv 86 (.agg #[.bool hi.neg, .slice p27 (dig B32 hi.m).length c27, .int .i64 hi.e]) ?_ (hr := (exec_ld (by kernel_rfl) (run_ld b7 hT30 0 [.bool hi.neg, .slice p27 (dig B32 hi.m).length c27, .int .i64 hi.e] (by kernel_rfl) (by kernel_rfl))))
            replace ho79 := (ho79.past (hbV13.trans (hOV14.below (by omega))))
            replace ho27 := (ho27.past ((bthru (bthru hbV11 hbV12) hbV13).trans (hOV14.below (by omega))))
            refine se 87 17 #[.agg #[.bool hi.neg, .slice p79 (dig B32 hi.m).length c79, .int .i64 hi.e], .agg #[.bool hi.neg, .slice p27 (dig B32 hi.m).length c27, .int .i64 hi.e]] (fun Gx hGx => ?_)
            ((with_reducible refine (same_dec hi hi p79 p27 c79 c27 _ ho79.rd ho27.rd (by omega) (by omega)).mono ?_))
            rintro eV15 V15 ⟨rfl, hbV15⟩
            have hzV15 := hbV15.size
            rw [show (decide (hi = hi)) = true from decide_eq_true rfl]
            refine ⟨.bool true, rfl, hGx _ _ ?_⟩
            clear hGx Gx
            refine sv 88 (.bool true) ?_
            refine sv 4 (.bool true) ?_
            refine sx_nil ?_
            refine sx_then ?_
            refine wp_ret ?_
            repeat (first | with_reducible refine sx_thenret ?_ | with_reducible refine sx_blockret ?_)
            refine bodyPost_ret (v := .bool true) (by simp [results, Tryd.results6, go_sem]) rfl ?_
            exact ⟨rfl, (bthru ((bthru (bthru (bthru (bthru ((bthru (bthru ((bthru (bthru (bthru (bthru hbV1 hbV2) hbV3) hbV4) hbV5).trans (hOV6.below (by omega))) hbV7) hbV8).trans (hOV9.below (by omega))) hbV10) hbV11) hbV12) hbV13).trans (hOV14.below (by omega))) hbV15)⟩
    · have a4' : rokB q g 4 = false := by simpa using a4
      rw [a4'] at H4
      rw [a5] at H5
      generalize rvalV q g 5 = lo at *
      generalize rvalV q g 4 = hi at *
      have hT25 : SxAgg Tryd.prog 25 4 := sxAgg_of (by kernel_rfl) (by kernel_rfl)
      have hT27 : SxAgg Tryd.prog 27 5 := sxAgg_of (by kernel_rfl) (by kernel_rfl)
      have hT30 : SxAgg Tryd.prog 30 3 := sxAgg_of (by kernel_rfl) (by kernel_rfl)
      refine calls_of_wp Tryd.func6 rfl ?_
      refine sx_frame (a' := ⟨((.agg #[.bool q.g, .slice q.p q.xs.length q.c, .slice q.q q.ys.length q.d, .int .i64 q.e]) :: (.agg #[.int .i64 g.rad, .int .i64 g.digs, .int .i64 g.lo, .int .i64 g.hi, .bool g.grad]) :: undef :: undef :: undef :: undef :: undef :: undef :: undef :: undef :: undef :: undef :: undef :: undef :: undef :: undef :: undef :: undef :: undef :: undef :: undef :: undef :: undef :: undef :: undef :: undef :: undef :: undef :: undef :: undef :: undef :: undef :: undef :: undef :: undef :: undef :: undef :: undef :: undef :: undef :: undef :: undef :: undef :: undef :: undef :: undef :: undef :: undef :: undef :: undef :: undef :: undef :: undef :: undef :: undef :: undef :: undef :: undef :: undef :: undef :: undef :: undef :: undef :: undef :: undef :: undef :: undef :: undef :: undef :: undef :: undef :: undef :: undef :: undef :: undef :: undef :: undef :: undef :: undef :: undef :: undef :: undef :: undef :: undef :: undef :: undef :: undef :: undef :: undef :: []).toArray, []⟩) (by kernel_rfl) ?_
      refine wp_seq ?_
      refine sx_region ?_
      refine sn 2 #[.bool q.g, .slice q.p q.xs.length q.c, .slice q.q q.ys.length q.d, .int .i64 q.e] 25 (fun V1 hbV1 hzV1 b2 => ?_)
      refine sn 3 #[.int .i64 g.rad, .int .i64 g.digs, .int .i64 g.lo, .int .i64 g.hi, .bool g.grad] 27 (fun V2 hbV2 hzV2 b3 => ?_)
      refine sv 4 (.bool false) ?_
      refine sx_nil ?_
      refine sx_then ?_
      refine wp_seq ?_
      refine wp_seq ?_
      refine sx_region ?_
      refine se 16 7 #[] (fun Gx hGx => ?_)
      ((with_reducible refine (gridBegun_any _).mono ?_))
      rintro eV3 V3 ⟨rfl, hbV3⟩
      have hzV3 := hbV3.size
      refine ⟨.bool true, rfl, hGx _ _ ?_⟩
      clear hGx Gx
      refine sv 17 (.bool false) ?_
      refine sx_nil ?_
      refine sx_then ?_
      refine wp_cond_false (by kernel_rfl) ?_
      refine wp_skip ?_
      refine sx_then ?_
      refine wp_seq ?_
      refine sx_region ?_
      replace b2 := (b2.past (bthru hbV2 hbV3))
      refine sv 19 (.agg #[.bool q.g, .slice q.p q.xs.length q.c, .slice q.q q.ys.length q.d, .int .i64 q.e]) ?_ (hr := (exec_ld (by kernel_rfl) (run_ld b2 hT25 0 [.bool q.g, .slice q.p q.xs.length q.c, .slice q.q q.ys.length q.d, .int .i64 q.e] (by kernel_rfl) (by kernel_rfl))))
      replace b3 := (b3.past hbV3)
      refine sv 20 (.agg #[.int .i64 g.rad, .int .i64 g.digs, .int .i64 g.lo, .int .i64 g.hi, .bool g.grad]) ?_ (hr := (exec_ld (by kernel_rfl) (run_ld b3 hT27 0 [.int .i64 g.rad, .int .i64 g.digs, .int .i64 g.lo, .int .i64 g.hi, .bool g.grad] (by kernel_rfl) (by kernel_rfl))))
      replace hq := (hq.past (bthru (bthru hbV1 hbV2) hbV3))
      replace hT := (hT.past (bthru (bthru hbV1 hbV2) hbV3))
      refine se 21 8 #[.agg #[.bool q.g, .slice q.p q.xs.length q.c, .slice q.q q.ys.length q.d, .int .i64 q.e], .agg #[.int .i64 g.rad, .int .i64 g.digs, .int .i64 g.lo, .int .i64 g.hi, .bool g.grad], .int .i64 5] (fun Gx hGx => ?_)
      ((with_reducible refine ((H5 _ hq hT).out).mono ?_))
      rintro eV4 V4 ⟨p21, c21, rfl, ho21, hbV4⟩
      have hzV4 := hbV4.size
      refine ⟨.tuple #[.agg #[.bool lo.neg, .slice p21 (dig B32 lo.m).length c21, .int .i64 lo.e], .bool true], rfl, hGx _ _ ?_⟩
      clear hGx Gx
      refine sv 18 (.tuple #[.agg #[.bool lo.neg, .slice p21 (dig B32 lo.m).length c21, .int .i64 lo.e], .bool true]) ?_
      refine sv 22 (.agg #[.bool lo.neg, .slice p21 (dig B32 lo.m).length c21, .int .i64 lo.e]) ?_
      refine sv 23 (.bool true) ?_
      refine sn 5 #[.bool false, .slice none 0 0, .int .i64 0] 30 (fun V5 hbV5 hzV5 b5 => ?_)
      refine ss none b5 hT30 0 #[.bool lo.neg, .slice p21 (dig B32 lo.m).length c21, .int .i64 lo.e] #[.bool lo.neg, .slice p21 (dig B32 lo.m).length c21, .int .i64 lo.e] ?_
      have boV6 := b5
      clear b5
      intro V6 hOV6 b5
      have hzV6 := hOV6.size
      refine sv 6 (.bool true) ?_
      refine sx_nil ?_
      refine sx_then ?_
      refine wp_seq ?_
      refine sx_region ?_
      replace b2 := (b2.past ((bthru hbV4 hbV5).trans (hOV6.below (by omega))))
      refine sv 25 (.agg #[.bool q.g, .slice q.p q.xs.length q.c, .slice q.q q.ys.length q.d, .int .i64 q.e]) ?_ (hr := (exec_ld (by kernel_rfl) (run_ld b2 hT25 0 [.bool q.g, .slice q.p q.xs.length q.c, .slice q.q q.ys.length q.d, .int .i64 q.e] (by kernel_rfl) (by kernel_rfl))))
      replace b3 := (b3.past ((bthru hbV4 hbV5).trans (hOV6.below (by omega))))
      refine sv 26 (.agg #[.int .i64 g.rad, .int .i64 g.digs, .int .i64 g.lo, .int .i64 g.hi, .bool g.grad]) ?_ (hr := (exec_ld (by kernel_rfl) (run_ld b3 hT27 0 [.int .i64 g.rad, .int .i64 g.digs, .int .i64 g.lo, .int .i64 g.hi, .bool g.grad] (by kernel_rfl) (by kernel_rfl))))
      replace hq := (hq.past ((bthru hbV4 hbV5).trans (hOV6.below (by omega))))
      replace hT := (hT.past ((bthru hbV4 hbV5).trans (hOV6.below (by omega))))
      refine se 27 8 #[.agg #[.bool q.g, .slice q.p q.xs.length q.c, .slice q.q q.ys.length q.d, .int .i64 q.e], .agg #[.int .i64 g.rad, .int .i64 g.digs, .int .i64 g.lo, .int .i64 g.hi, .bool g.grad], .int .i64 4] (fun Gx hGx => ?_)
      ((with_reducible refine ((H4 _ hq hT).out).mono ?_))
      rintro eV7 V7 ⟨p27, c27, rfl, ho27, hbV7⟩
      have hzV7 := hbV7.size
      refine ⟨.tuple #[.agg #[.bool hi.neg, .slice p27 (dig B32 hi.m).length c27, .int .i64 hi.e], .bool false], rfl, hGx _ _ ?_⟩
      clear hGx Gx
      refine sv 24 (.tuple #[.agg #[.bool hi.neg, .slice p27 (dig B32 hi.m).length c27, .int .i64 hi.e], .bool false]) ?_
      refine sv 28 (.agg #[.bool hi.neg, .slice p27 (dig B32 hi.m).length c27, .int .i64 hi.e]) ?_
      refine sv 29 (.bool false) ?_
      refine sn 7 #[.bool false, .slice none 0 0, .int .i64 0] 30 (fun V8 hbV8 hzV8 b7 => ?_)
      refine ss none b7 hT30 0 #[.bool hi.neg, .slice p27 (dig B32 hi.m).length c27, .int .i64 hi.e] #[.bool hi.neg, .slice p27 (dig B32 hi.m).length c27, .int .i64 hi.e] ?_
      have boV9 := b7
      clear b7
      intro V9 hOV9 b7
      have hzV9 := hOV9.size
      refine sv 8 (.bool false) ?_
      refine sx_nil ?_
      refine sx_then ?_
      refine wp_seq ?_
      refine wp_seq ?_
      refine sx_region ?_
      refine sv 30 (.bool true) ?_
      refine sv 31 (.bool false) ?_
      refine sv 32 (.bool false) ?_
      refine sv 33 (.bool false) ?_
      refine sv 34 (.bool true) ?_
      refine sv 35 (.bool true) ?_
      refine sx_nil ?_
      refine sx_then ?_
      refine wp_cond_true (by kernel_rfl) ?_
      refine wp_seq ?_
      refine sx_region ?_
      refine sv 4 (.bool true) ?_
      refine sx_nil ?_
      refine sx_then ?_
      refine wp_ret ?_
      repeat (first | with_reducible refine sx_thenret ?_ | with_reducible refine sx_blockret ?_)
      refine bodyPost_ret (v := .bool true) (by simp [results, Tryd.results6, go_sem]) rfl ?_
      exact ⟨rfl, ((bthru (bthru ((bthru (bthru (bthru (bthru hbV1 hbV2) hbV3) hbV4) hbV5).trans (hOV6.below (by omega))) hbV7) hbV8).trans (hOV9.below (by omega)))⟩
  · have a5' : rokB q g 5 = false := by simpa using a5
    rw [a5'] at H5
    generalize rokB q g 4 = b at *
    generalize rvalV q g 5 = lo at *
    generalize rvalV q g 4 = hi at *
    have hT25 : SxAgg Tryd.prog 25 4 := sxAgg_of (by kernel_rfl) (by kernel_rfl)
    have hT27 : SxAgg Tryd.prog 27 5 := sxAgg_of (by kernel_rfl) (by kernel_rfl)
    have hT30 : SxAgg Tryd.prog 30 3 := sxAgg_of (by kernel_rfl) (by kernel_rfl)
    refine calls_of_wp Tryd.func6 rfl ?_
    refine sx_frame (a' := ⟨((.agg #[.bool q.g, .slice q.p q.xs.length q.c, .slice q.q q.ys.length q.d, .int .i64 q.e]) :: (.agg #[.int .i64 g.rad, .int .i64 g.digs, .int .i64 g.lo, .int .i64 g.hi, .bool g.grad]) :: undef :: undef :: undef :: undef :: undef :: undef :: undef :: undef :: undef :: undef :: undef :: undef :: undef :: undef :: undef :: undef :: undef :: undef :: undef :: undef :: undef :: undef :: undef :: undef :: undef :: undef :: undef :: undef :: undef :: undef :: undef :: undef :: undef :: undef :: undef :: undef :: undef :: undef :: undef :: undef :: undef :: undef :: undef :: undef :: undef :: undef :: undef :: undef :: undef :: undef :: undef :: undef :: undef :: undef :: undef :: undef :: undef :: undef :: undef :: undef :: undef :: undef :: undef :: undef :: undef :: undef :: undef :: undef :: undef :: undef :: undef :: undef :: undef :: undef :: undef :: undef :: undef :: undef :: undef :: undef :: undef :: undef :: undef :: undef :: undef :: undef :: undef :: []).toArray, []⟩) (by kernel_rfl) ?_
    refine wp_seq ?_
    refine sx_region ?_
    refine sn 2 #[.bool q.g, .slice q.p q.xs.length q.c, .slice q.q q.ys.length q.d, .int .i64 q.e] 25 (fun V1 hbV1 hzV1 b2 => ?_)
    refine sn 3 #[.int .i64 g.rad, .int .i64 g.digs, .int .i64 g.lo, .int .i64 g.hi, .bool g.grad] 27 (fun V2 hbV2 hzV2 b3 => ?_)
    refine sv 4 (.bool false) ?_
    refine sx_nil ?_
    refine sx_then ?_
    refine wp_seq ?_
    refine wp_seq ?_
    refine sx_region ?_
    refine se 16 7 #[] (fun Gx hGx => ?_)
    ((with_reducible refine (gridBegun_any _).mono ?_))
    rintro eV3 V3 ⟨rfl, hbV3⟩
    have hzV3 := hbV3.size
    refine ⟨.bool true, rfl, hGx _ _ ?_⟩
    clear hGx Gx
    refine sv 17 (.bool false) ?_
    refine sx_nil ?_
    refine sx_then ?_
    refine wp_cond_false (by kernel_rfl) ?_
    refine wp_skip ?_
    refine sx_then ?_
    refine wp_seq ?_
    refine sx_region ?_
    replace b2 := (b2.past (bthru hbV2 hbV3))
    refine sv 19 (.agg #[.bool q.g, .slice q.p q.xs.length q.c, .slice q.q q.ys.length q.d, .int .i64 q.e]) ?_ (hr := (exec_ld (by kernel_rfl) (run_ld b2 hT25 0 [.bool q.g, .slice q.p q.xs.length q.c, .slice q.q q.ys.length q.d, .int .i64 q.e] (by kernel_rfl) (by kernel_rfl))))
    replace b3 := (b3.past hbV3)
    refine sv 20 (.agg #[.int .i64 g.rad, .int .i64 g.digs, .int .i64 g.lo, .int .i64 g.hi, .bool g.grad]) ?_ (hr := (exec_ld (by kernel_rfl) (run_ld b3 hT27 0 [.int .i64 g.rad, .int .i64 g.digs, .int .i64 g.lo, .int .i64 g.hi, .bool g.grad] (by kernel_rfl) (by kernel_rfl))))
    replace hq := (hq.past (bthru (bthru hbV1 hbV2) hbV3))
    replace hT := (hT.past (bthru (bthru hbV1 hbV2) hbV3))
    refine se 21 8 #[.agg #[.bool q.g, .slice q.p q.xs.length q.c, .slice q.q q.ys.length q.d, .int .i64 q.e], .agg #[.int .i64 g.rad, .int .i64 g.digs, .int .i64 g.lo, .int .i64 g.hi, .bool g.grad], .int .i64 5] (fun Gx hGx => ?_)
    ((with_reducible refine ((H5 _ hq hT).out).mono ?_))
    rintro eV4 V4 ⟨p21, c21, rfl, ho21, hbV4⟩
    have hzV4 := hbV4.size
    refine ⟨.tuple #[.agg #[.bool lo.neg, .slice p21 (dig B32 lo.m).length c21, .int .i64 lo.e], .bool false], rfl, hGx _ _ ?_⟩
    clear hGx Gx
    refine sv 18 (.tuple #[.agg #[.bool lo.neg, .slice p21 (dig B32 lo.m).length c21, .int .i64 lo.e], .bool false]) ?_
    refine sv 22 (.agg #[.bool lo.neg, .slice p21 (dig B32 lo.m).length c21, .int .i64 lo.e]) ?_
    refine sv 23 (.bool false) ?_
    refine sn 5 #[.bool false, .slice none 0 0, .int .i64 0] 30 (fun V5 hbV5 hzV5 b5 => ?_)
    refine ss none b5 hT30 0 #[.bool lo.neg, .slice p21 (dig B32 lo.m).length c21, .int .i64 lo.e] #[.bool lo.neg, .slice p21 (dig B32 lo.m).length c21, .int .i64 lo.e] ?_
    have boV6 := b5
    clear b5
    intro V6 hOV6 b5
    have hzV6 := hOV6.size
    refine sv 6 (.bool false) ?_
    refine sx_nil ?_
    refine sx_then ?_
    refine wp_seq ?_
    refine sx_region ?_
    replace b2 := (b2.past ((bthru hbV4 hbV5).trans (hOV6.below (by omega))))
    refine sv 25 (.agg #[.bool q.g, .slice q.p q.xs.length q.c, .slice q.q q.ys.length q.d, .int .i64 q.e]) ?_ (hr := (exec_ld (by kernel_rfl) (run_ld b2 hT25 0 [.bool q.g, .slice q.p q.xs.length q.c, .slice q.q q.ys.length q.d, .int .i64 q.e] (by kernel_rfl) (by kernel_rfl))))
    replace b3 := (b3.past ((bthru hbV4 hbV5).trans (hOV6.below (by omega))))
    refine sv 26 (.agg #[.int .i64 g.rad, .int .i64 g.digs, .int .i64 g.lo, .int .i64 g.hi, .bool g.grad]) ?_ (hr := (exec_ld (by kernel_rfl) (run_ld b3 hT27 0 [.int .i64 g.rad, .int .i64 g.digs, .int .i64 g.lo, .int .i64 g.hi, .bool g.grad] (by kernel_rfl) (by kernel_rfl))))
    replace hq := (hq.past ((bthru hbV4 hbV5).trans (hOV6.below (by omega))))
    replace hT := (hT.past ((bthru hbV4 hbV5).trans (hOV6.below (by omega))))
    refine se 27 8 #[.agg #[.bool q.g, .slice q.p q.xs.length q.c, .slice q.q q.ys.length q.d, .int .i64 q.e], .agg #[.int .i64 g.rad, .int .i64 g.digs, .int .i64 g.lo, .int .i64 g.hi, .bool g.grad], .int .i64 4] (fun Gx hGx => ?_)
    ((with_reducible refine ((H4 _ hq hT).out).mono ?_))
    rintro eV7 V7 ⟨p27, c27, rfl, ho27, hbV7⟩
    have hzV7 := hbV7.size
    refine ⟨.tuple #[.agg #[.bool hi.neg, .slice p27 (dig B32 hi.m).length c27, .int .i64 hi.e], .bool b], rfl, hGx _ _ ?_⟩
    clear hGx Gx
    refine sv 24 (.tuple #[.agg #[.bool hi.neg, .slice p27 (dig B32 hi.m).length c27, .int .i64 hi.e], .bool b]) ?_
    refine sv 28 (.agg #[.bool hi.neg, .slice p27 (dig B32 hi.m).length c27, .int .i64 hi.e]) ?_
    refine sv 29 (.bool b) ?_
    refine sn 7 #[.bool false, .slice none 0 0, .int .i64 0] 30 (fun V8 hbV8 hzV8 b7 => ?_)
    refine ss none b7 hT30 0 #[.bool hi.neg, .slice p27 (dig B32 hi.m).length c27, .int .i64 hi.e] #[.bool hi.neg, .slice p27 (dig B32 hi.m).length c27, .int .i64 hi.e] ?_
    have boV9 := b7
    clear b7
    intro V9 hOV9 b7
    have hzV9 := hOV9.size
    refine sv 8 (.bool b) ?_
    refine sx_nil ?_
    refine sx_then ?_
    refine wp_seq ?_
    refine wp_seq ?_
    refine sx_region ?_
    refine sv 30 (.bool false) ?_
    refine sv 31 (.bool true) ?_
    refine sv 32 (.bool true) ?_
    refine so (some 33) ?_
    refine so (some 34) ?_
    refine sv 35 (.bool true) ?_
    refine sx_nil ?_
    refine sx_then ?_
    refine wp_cond_true (by kernel_rfl) ?_
    refine wp_seq ?_
    refine sx_region ?_
    refine sv 4 (.bool true) ?_
    refine sx_nil ?_
    refine sx_then ?_
    refine wp_ret ?_
    repeat (first | with_reducible refine sx_thenret ?_ | with_reducible refine sx_blockret ?_)
    refine bodyPost_ret (v := .bool true) (by simp [results, Tryd.results6, go_sem]) rfl ?_
    exact ⟨rfl, ((bthru (bthru ((bthru (bthru (bthru (bthru hbV1 hbV2) hbV3) hbV4) hbV5).trans (hOV6.below (by omega))) hbV7) hbV8).trans (hOV9.below (by omega)))⟩

end Go.Proofs.YtlegnbigddhmlaaDoor
