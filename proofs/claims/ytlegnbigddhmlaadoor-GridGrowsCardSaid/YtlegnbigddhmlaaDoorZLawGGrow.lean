/- The law GridGrows: its walk. -/
import Derived.Test.YtlegnbigddhmlaaDoorZGKh
import Derived.Test.YtlegnbigddhmlaaDoorZDyad14
import Derived.Test.YtlegnbigddhmlaaDoorZU
import Derived.Test.YtlegnbigddhmlaaDoorZV
namespace Go.Proofs.YtlegnbigddhmlaaDoor
open Go.RowKit Go.Slip


set_option maxHeartbeats 16000000 in
set_option maxRecDepth 100000 in
theorem lawGGrow_row (q r : Rin) (g : Gd) (way : Int) (w : World) (hq : InR w q) (hr : InR w r) (hT : TabW w) :
    Calls Tryd.prog 3 #[.agg #[.bool q.g, .slice q.p q.xs.length q.c, .slice q.q q.ys.length q.d, .int .i64 q.e], .agg #[.bool r.g, .slice r.p r.xs.length r.c, .slice r.q r.ys.length r.d, .int .i64 r.e], .agg #[.int .i64 g.rad, .int .i64 g.digs, .int .i64 g.lo, .int .i64 g.hi, .bool g.grad], .int .i64 way] w fun e w' => e = .returned (.bool true) ∧ Below w.heap.size w w' := by
  have HQ := fun W h1 h2 => Lib.hid (rounded_any q g way W h1 h2)
  have HR := fun W h1 h2 => Lib.hid (rounded_any r g way W h1 h2)
  by_cases a1 : rokB q g way = true
  · by_cases a2 : rokB r g way = true
    · obtain ⟨d1, hg, ex, bx, lx, vx, lqx, lqy, lnq, ldq, e1, e2, w1, w2, k1⟩ := rok_of hq a1
      obtain ⟨d2, _, ey, by', ly, vy, lrx, lry, lnr, ldr, e3, e4, _, _, k2⟩ := rok_of hr a2
      have G := goodG_of hg
      have HG1 := fun h => grows (s1 := q.g) (s2 := r.g) (n1 := val B32 q.xs) (n2 := val B32 r.xs) (e1 := q.e) (e2 := r.e) (way := way) d1 d2 G h
      have HG2 := fun h => grows (s1 := r.g) (s2 := q.g) (n1 := val B32 r.xs) (n2 := val B32 q.xs) (e1 := r.e) (e2 := q.e) (way := way) d2 d1 G h
      rw [← vx, ← vy] at HG1 HG2
      have HN1 := fun W (h : InR W q) => Lib.hid ((refOf_any q.p _ q.c q.xs W h.r1 rfl h.b1 (by omega)).mono fun _ _ => GivesR.rf)
      have HN2 := fun W (h : InR W r) => Lib.hid ((refOf_any r.q _ r.d r.ys W h.r2 rfl h.b2 (by omega)).mono fun _ _ => GivesR.rf)
      have HN3 := fun W (h : InR W r) => Lib.hid ((refOf_any r.p _ r.c r.xs W h.r1 rfl h.b1 (by omega)).mono fun _ _ => GivesR.rf)
      have HN4 := fun W (h : InR W q) => Lib.hid ((refOf_any q.q _ q.d q.ys W h.r2 rfl h.b2 (by omega)).mono fun _ _ => GivesR.rf)
      have HCC : ∀ W b b' p c p' c' (h1 : Own W b .u32 46 p c (dig B32 (rvalV q g way).m)) (h2 : Own W b' .u32 46 p' c' (dig B32 (rvalV r g way).m)) (h : TabW W), Hid (Calls Tryd.prog 12 #[.agg #[.bool (rvalV q g way).neg, .slice p (dig B32 (rvalV q g way).m).length c, .int .i64 (rvalV q g way).e], .agg #[.bool (rvalV r g way).neg, .slice p' (dig B32 (rvalV r g way).m).length c', .int .i64 (rvalV r g way).e]] W
          fun en w' => en = .returned (.tuple #[.int .i64 (pCmp (rvalV q g way) (rvalV r g way)), .int .i64 0]) ∧ Below W.heap.size W w') := fun W b b' p c p' c' h1 h2 h => by
        have hC := dyCompare_any (dinOf (rvalV q g way) p c) (dinOf (rvalV r g way) p' c') W (dinOf_in h1 (by omega)) (dinOf_in h2 (by omega)) h
        obtain ⟨g1, g2⟩ := dinOf_good _ p c bx ex
        obtain ⟨g3, g4⟩ := dinOf_good _ p' c' by' ey
        have ez : errDy2 (dinOf (rvalV q g way) p c) (dinOf (rvalV r g way) p' c') = 0 := by unfold errDy2; rw [if_pos g1, g3]
        unfold cmpTwo at hC
        rw [if_pos ez, ez, g2, g4] at hC
        exact Lib.hid hC
      rw [a1] at HQ
      rw [a2] at HR
      clear k1 k2 vx vy d1 d2 hg G lqx lqy lrx lry ex ey lx ly a1 a2 w1 w2
      have e5 := times_bare q.g false (val B32 q.xs) (val B32 r.ys) q.e 0
      have e6 := times_bare r.g false (val B32 r.xs) (val B32 q.ys) r.e 0
      rw [Bool.xor_false, Int.add_zero] at e5 e6
      rw [← e5, ← e6] at HG1 HG2
      have hm := grows_more bx by' HG1 HG2
      clear HG1 HG2 e5 e6 bx by'
      have HA := fun W p c h => Lib.hid (refBared_any q.g p _ c q.e (val B32 q.xs) W h rfl (by have := B16_len32 (val B32 q.xs); omega) (by omega))
      have HB := fun W p c h => Lib.hid (refBared_any false p _ c 0 (val B32 r.ys) W h rfl (by have := B16_len32 (val B32 r.ys); omega) (by omega))
      have HC := fun W p c h => Lib.hid (refBared_any r.g p _ c r.e (val B32 r.xs) W h rfl (by have := B16_len32 (val B32 r.xs); omega) (by omega))
      have HD := fun W p c h => Lib.hid (refBared_any false p _ c 0 (val B32 q.ys) W h rfl (by have := B16_len32 (val B32 q.ys); omega) (by omega))
      have lA := bare_len B32_two ⟨q.g, val B32 q.xs, q.e⟩
      have lB := bare_len B32_two ⟨false, val B32 r.ys, 0⟩
      have lC := bare_len B32_two ⟨r.g, val B32 r.xs, r.e⟩
      have lD := bare_len B32_two ⟨false, val B32 q.ys, 0⟩
      have bA := bare_e ⟨q.g, val B32 q.xs, q.e⟩ lnq (lo := -20000) (hi := 20000) e1 e2 (by omega) (by omega)
      have bB := bare_e ⟨false, val B32 r.ys, 0⟩ ldr (lo := -20000) (hi := 20000) (by simp) (by simp) (by omega) (by omega)
      have bC := bare_e ⟨r.g, val B32 r.xs, r.e⟩ lnr (lo := -20000) (hi := 20000) e3 e4 (by omega) (by omega)
      have bD := bare_e ⟨false, val B32 q.ys, 0⟩ ldq (lo := -20000) (hi := 20000) (by simp) (by simp) (by omega) (by omega)
      simp only at lA lB lC lD
      generalize bare ⟨q.g, val B32 q.xs, q.e⟩ = A at *
      generalize bare ⟨false, val B32 r.ys, 0⟩ = B at *
      generalize bare ⟨r.g, val B32 r.xs, r.e⟩ = C at *
      generalize bare ⟨false, val B32 q.ys, 0⟩ = D at *
      generalize rvalV q g way = x at *
      generalize rvalV r g way = y at *
      generalize val B32 q.xs = nq at *
      generalize val B32 r.xs = nr at *
      generalize val B32 q.ys = dq at *
      generalize val B32 r.ys = dr at *
      have sA := B16_len32 A.m
      have sB := B16_len32 B.m
      have sC := B16_len32 C.m
      have sD := B16_len32 D.m
      have HP := fun W p c p' c' h1 h2 => Lib.hid (refDTimes_any A.neg B.neg p p' _ c _ c' A.e B.e A.m B.m W h1 h2 rfl rfl (by omega) (by omega) (by omega) (by omega))
      have HS := fun W p c p' c' h1 h2 => Lib.hid (refDTimes_any C.neg D.neg p p' _ c _ c' C.e D.e C.m D.m W h1 h2 rfl rfl (by omega) (by omega) (by omega) (by omega))
      rw [show (⟨A.neg, A.m, A.e⟩ : Dv) = A from rfl, show (⟨B.neg, B.m, B.e⟩ : Dv) = B from rfl] at HP
      rw [show (⟨C.neg, C.m, C.e⟩ : Dv) = C from rfl, show (⟨D.neg, D.m, D.e⟩ : Dv) = D from rfl] at HS
      obtain ⟨lP, bP, bP2⟩ := times_bd2 (a := A) (b := B) (by omega) (by omega) (by omega) (by omega) (by omega) (by omega)
      obtain ⟨lS, bS, bS2⟩ := times_bd2 (a := C) (b := D) (by omega) (by omega) (by omega) (by omega) (by omega) (by omega)
      generalize dTimes A B = P at *
      generalize dTimes C D = S at *
      have sP := B16_len32 P.m
      have sS := B16_len32 S.m
      have HM := fun W p c p' c' h1 h2 h3 => Lib.hid (refDCmp_any P.neg S.neg p p' _ c _ c' P.e S.e P.m S.m W h1 h2 rfl rfl h3 (by omega) (by omega) (by omega) (by omega))
      rw [show (⟨P.neg, P.m, P.e⟩ : Dv) = P from rfl, show (⟨S.neg, S.m, S.e⟩ : Dv) = S from rfl] at HM
      generalize rCmp P S = mv at *
      generalize pCmp x y = cv at *
      by_cases m1 : mv < 0
      · have c1 := hm.1 m1
        have hT3 : SxOne Tryd.prog 3 := sxOne_of (by kernel_rfl) (by kernel_rfl)
        have hT4 : SxOne Tryd.prog 4 := sxOne_of (by kernel_rfl) (by kernel_rfl)
        have hT23 : SxOne Tryd.prog 23 := sxOne_of (by kernel_rfl) (by kernel_rfl)
        have hT25 : SxAgg Tryd.prog 25 4 := sxAgg_of (by kernel_rfl) (by kernel_rfl)
        have hT27 : SxAgg Tryd.prog 27 5 := sxAgg_of (by kernel_rfl) (by kernel_rfl)
        have hT30 : SxAgg Tryd.prog 30 3 := sxAgg_of (by kernel_rfl) (by kernel_rfl)
        have hT35 : SxAgg Tryd.prog 35 3 := sxAgg_of (by kernel_rfl) (by kernel_rfl)
        refine calls_of_wp Tryd.func3 rfl ?_
        refine sx_frame (a' := ⟨((.agg #[.bool q.g, .slice q.p q.xs.length q.c, .slice q.q q.ys.length q.d, .int .i64 q.e]) :: (.agg #[.bool r.g, .slice r.p r.xs.length r.c, .slice r.q r.ys.length r.d, .int .i64 r.e]) :: (.agg #[.int .i64 g.rad, .int .i64 g.digs, .int .i64 g.lo, .int .i64 g.hi, .bool g.grad]) :: (.int .i64 way) :: undef :: undef :: undef :: undef :: undef :: undef :: undef :: undef :: undef :: undef :: undef :: undef :: undef :: undef :: undef :: undef :: undef :: undef :: undef :: undef :: undef :: undef :: undef :: undef :: undef :: undef :: undef :: undef :: undef :: undef :: undef :: undef :: undef :: undef :: undef :: undef :: undef :: undef :: undef :: undef :: undef :: undef :: undef :: undef :: undef :: undef :: undef :: undef :: undef :: undef :: undef :: undef :: undef :: undef :: undef :: undef :: undef :: undef :: undef :: undef :: undef :: undef :: undef :: undef :: undef :: undef :: undef :: undef :: undef :: undef :: undef :: undef :: undef :: undef :: undef :: undef :: undef :: undef :: undef :: undef :: undef :: undef :: undef :: undef :: undef :: undef :: undef :: undef :: undef :: undef :: undef :: undef :: undef :: undef :: undef :: undef :: undef :: undef :: undef :: undef :: undef :: []).toArray, []⟩) (by kernel_rfl) ?_
        refine wp_seq ?_
        refine sx_region ?_
        refine sn 4 #[.bool q.g, .slice q.p q.xs.length q.c, .slice q.q q.ys.length q.d, .int .i64 q.e] 25 (fun V1 hbV1 hzV1 b4 => ?_)
        refine sn 5 #[.bool r.g, .slice r.p r.xs.length r.c, .slice r.q r.ys.length r.d, .int .i64 r.e] 25 (fun V2 hbV2 hzV2 b5 => ?_)
        refine sn 6 #[.int .i64 g.rad, .int .i64 g.digs, .int .i64 g.lo, .int .i64 g.hi, .bool g.grad] 27 (fun V3 hbV3 hzV3 b6 => ?_)
        refine sv 8 (.bool false) ?_
        refine sx_nil ?_
        refine sx_then ?_
        refine wp_seq ?_
        refine wp_seq ?_
        refine sx_region ?_
        refine se 18 7 #[] (fun Gx hGx => ?_)
        ((with_reducible refine (gridBegun_any _).mono ?_))
        rintro eV4 V4 ⟨rfl, hbV4⟩
        have hzV4 := hbV4.size
        refine ⟨.bool true, rfl, hGx _ _ ?_⟩
        clear hGx Gx
        refine sv 19 (.bool false) ?_
        refine sx_nil ?_
        refine sx_then ?_
        refine wp_cond_false (by kernel_rfl) ?_
        refine wp_skip ?_
        refine sx_then ?_
        refine wp_seq ?_
        refine sx_region ?_
        replace b4 := (b4.past (bthru (bthru hbV2 hbV3) hbV4))
        refine sv 21 (.agg #[.bool q.g, .slice q.p q.xs.length q.c, .slice q.q q.ys.length q.d, .int .i64 q.e]) ?_ (hr := (exec_ld (by kernel_rfl) (run_ld b4 hT25 0 [.bool q.g, .slice q.p q.xs.length q.c, .slice q.q q.ys.length q.d, .int .i64 q.e] (by kernel_rfl) (by kernel_rfl))))
        replace b6 := (b6.past hbV4)
        refine sv 22 (.agg #[.int .i64 g.rad, .int .i64 g.digs, .int .i64 g.lo, .int .i64 g.hi, .bool g.grad]) ?_ (hr := (exec_ld (by kernel_rfl) (run_ld b6 hT27 0 [.int .i64 g.rad, .int .i64 g.digs, .int .i64 g.lo, .int .i64 g.hi, .bool g.grad] (by kernel_rfl) (by kernel_rfl))))
        refine sv 23 (.int .i64 way) ?_
        replace hq := (hq.past (bthru (bthru (bthru hbV1 hbV2) hbV3) hbV4))
        replace hT := (hT.past (bthru (bthru (bthru hbV1 hbV2) hbV3) hbV4))
        refine se 24 8 #[.agg #[.bool q.g, .slice q.p q.xs.length q.c, .slice q.q q.ys.length q.d, .int .i64 q.e], .agg #[.int .i64 g.rad, .int .i64 g.digs, .int .i64 g.lo, .int .i64 g.hi, .bool g.grad], .int .i64 way] (fun Gx hGx => ?_)
        ((with_reducible refine ((HQ _ hq hT).out).mono ?_))
        rintro eV5 V5 ⟨p24, c24, rfl, ho24, hbV5⟩
        have hzV5 := hbV5.size
        refine ⟨.tuple #[.agg #[.bool x.neg, .slice p24 (dig B32 x.m).length c24, .int .i64 x.e], .bool true], rfl, hGx _ _ ?_⟩
        clear hGx Gx
        refine sv 20 (.tuple #[.agg #[.bool x.neg, .slice p24 (dig B32 x.m).length c24, .int .i64 x.e], .bool true]) ?_
        refine sv 25 (.agg #[.bool x.neg, .slice p24 (dig B32 x.m).length c24, .int .i64 x.e]) ?_
        refine sv 26 (.bool true) ?_
        refine sn 9 #[.bool false, .slice none 0 0, .int .i64 0] 30 (fun V6 hbV6 hzV6 b9 => ?_)
        refine ss none b9 hT30 0 #[.bool x.neg, .slice p24 (dig B32 x.m).length c24, .int .i64 x.e] #[.bool x.neg, .slice p24 (dig B32 x.m).length c24, .int .i64 x.e] ?_
        have boV7 := b9
        clear b9
        intro V7 hOV7 b9
        have hzV7 := hOV7.size
        refine sv 10 (.bool true) ?_
        refine sx_nil ?_
        refine sx_then ?_
        refine wp_seq ?_
        refine sx_region ?_
        replace b5 := (b5.past ((bthru (bthru (bthru hbV3 hbV4) hbV5) hbV6).trans (hOV7.below (by omega))))
        refine sv 28 (.agg #[.bool r.g, .slice r.p r.xs.length r.c, .slice r.q r.ys.length r.d, .int .i64 r.e]) ?_ (hr := (exec_ld (by kernel_rfl) (run_ld b5 hT25 0 [.bool r.g, .slice r.p r.xs.length r.c, .slice r.q r.ys.length r.d, .int .i64 r.e] (by kernel_rfl) (by kernel_rfl))))
        replace b6 := (b6.past ((bthru hbV5 hbV6).trans (hOV7.below (by omega))))
        refine sv 29 (.agg #[.int .i64 g.rad, .int .i64 g.digs, .int .i64 g.lo, .int .i64 g.hi, .bool g.grad]) ?_ (hr := (exec_ld (by kernel_rfl) (run_ld b6 hT27 0 [.int .i64 g.rad, .int .i64 g.digs, .int .i64 g.lo, .int .i64 g.hi, .bool g.grad] (by kernel_rfl) (by kernel_rfl))))
        refine sv 30 (.int .i64 way) ?_
        replace hr := (hr.past ((bthru (bthru (bthru (bthru (bthru hbV1 hbV2) hbV3) hbV4) hbV5) hbV6).trans (hOV7.below (by omega))))
        replace hT := (hT.past ((bthru hbV5 hbV6).trans (hOV7.below (by omega))))
        refine se 31 8 #[.agg #[.bool r.g, .slice r.p r.xs.length r.c, .slice r.q r.ys.length r.d, .int .i64 r.e], .agg #[.int .i64 g.rad, .int .i64 g.digs, .int .i64 g.lo, .int .i64 g.hi, .bool g.grad], .int .i64 way] (fun Gx hGx => ?_)
        ((with_reducible refine ((HR _ hr hT).out).mono ?_))
        rintro eV8 V8 ⟨p31, c31, rfl, ho31, hbV8⟩
        have hzV8 := hbV8.size
        refine ⟨.tuple #[.agg #[.bool y.neg, .slice p31 (dig B32 y.m).length c31, .int .i64 y.e], .bool true], rfl, hGx _ _ ?_⟩
        clear hGx Gx
        refine sv 27 (.tuple #[.agg #[.bool y.neg, .slice p31 (dig B32 y.m).length c31, .int .i64 y.e], .bool true]) ?_
        refine sv 32 (.agg #[.bool y.neg, .slice p31 (dig B32 y.m).length c31, .int .i64 y.e]) ?_
        refine sv 33 (.bool true) ?_
        refine sn 11 #[.bool false, .slice none 0 0, .int .i64 0] 30 (fun V9 hbV9 hzV9 b11 => ?_)
        refine ss none b11 hT30 0 #[.bool y.neg, .slice p31 (dig B32 y.m).length c31, .int .i64 y.e] #[.bool y.neg, .slice p31 (dig B32 y.m).length c31, .int .i64 y.e] ?_
        have boV10 := b11
        clear b11
        intro V10 hOV10 b11
        have hzV10 := hOV10.size
        refine sv 12 (.bool true) ?_
        refine sx_nil ?_
        refine sx_then ?_
        refine wp_seq ?_
        refine wp_seq ?_
        refine sx_region ?_
        refine sv 34 (.bool true) ?_
        refine sv 35 (.bool false) ?_
        refine sv 36 (.bool false) ?_
        refine sv 37 (.bool true) ?_
        refine sv 38 (.bool false) ?_
        refine sv 39 (.bool false) ?_
        refine sx_nil ?_
        refine sx_then ?_
        refine wp_cond_false (by kernel_rfl) ?_
        refine wp_skip ?_
        refine sx_then ?_
        refine wp_seq ?_
        refine sx_cutg (R := fun a' w' => ∃ (kb13 : Nat) (p44 : Option Addr) (c44 : Nat) (p48 : Option Addr) (c48 : Nat) (p51 : Option Addr) (c51 : Nat) (p53 : Option Addr) (c53 : Nat) (p54 : Option Addr) (c54 : Nat), a' = ⟨((.agg #[.bool q.g, .slice q.p q.xs.length q.c, .slice q.q q.ys.length q.d, .int .i64 q.e]) :: (.agg #[.bool r.g, .slice r.p r.xs.length r.c, .slice r.q r.ys.length r.d, .int .i64 r.e]) :: (.agg #[.int .i64 g.rad, .int .i64 g.digs, .int .i64 g.lo, .int .i64 g.hi, .bool g.grad]) :: (.int .i64 way) :: (.pointer (some ⟨w.heap.size, 0, none⟩)) :: (.pointer (some ⟨V1.heap.size, 0, none⟩)) :: (.pointer (some ⟨V2.heap.size, 0, none⟩)) :: undef :: (.bool false) :: (.pointer (some ⟨V5.heap.size, 0, none⟩)) :: (.bool true) :: (.pointer (some ⟨V8.heap.size, 0, none⟩)) :: (.bool true) :: (.pointer (some ⟨kb13, 0, none⟩)) :: undef :: undef :: undef :: undef :: (.bool true) :: (.bool false) :: (.tuple #[.agg #[.bool x.neg, .slice p24 (dig B32 x.m).length c24, .int .i64 x.e], .bool true]) :: (.agg #[.bool q.g, .slice q.p q.xs.length q.c, .slice q.q q.ys.length q.d, .int .i64 q.e]) :: (.agg #[.int .i64 g.rad, .int .i64 g.digs, .int .i64 g.lo, .int .i64 g.hi, .bool g.grad]) :: (.int .i64 way) :: (.tuple #[.agg #[.bool x.neg, .slice p24 (dig B32 x.m).length c24, .int .i64 x.e], .bool true]) :: (.agg #[.bool x.neg, .slice p24 (dig B32 x.m).length c24, .int .i64 x.e]) :: (.bool true) :: (.tuple #[.agg #[.bool y.neg, .slice p31 (dig B32 y.m).length c31, .int .i64 y.e], .bool true]) :: (.agg #[.bool r.g, .slice r.p r.xs.length r.c, .slice r.q r.ys.length r.d, .int .i64 r.e]) :: (.agg #[.int .i64 g.rad, .int .i64 g.digs, .int .i64 g.lo, .int .i64 g.hi, .bool g.grad]) :: (.int .i64 way) :: (.tuple #[.agg #[.bool y.neg, .slice p31 (dig B32 y.m).length c31, .int .i64 y.e], .bool true]) :: (.agg #[.bool y.neg, .slice p31 (dig B32 y.m).length c31, .int .i64 y.e]) :: (.bool true) :: (.bool true) :: (.bool false) :: (.bool false) :: (.bool true) :: (.bool false) :: (.bool false) :: (.pointer (some ⟨w.heap.size, 0, none⟩)) :: (.bool q.g) :: (.pointer (some ⟨w.heap.size, 1, none⟩)) :: (.slice q.p q.xs.length q.c) :: (.slice p44 (dig B16 nq).length c44) :: (.pointer (some ⟨w.heap.size, 3, none⟩)) :: (.int .i64 q.e) :: (.agg #[.bool q.g, .slice p44 (dig B16 nq).length c44, .int .i64 q.e]) :: (.agg #[.bool A.neg, .slice p48 (dig B16 A.m).length c48, .int .i64 A.e]) :: (.pointer (some ⟨V1.heap.size, 2, none⟩)) :: (.slice r.q r.ys.length r.d) :: (.slice p51 (dig B16 dr).length c51) :: (.agg #[.bool false, .slice p51 (dig B16 dr).length c51, .int .i64 0]) :: (.agg #[.bool B.neg, .slice p53 (dig B16 B.m).length c53, .int .i64 B.e]) :: (.agg #[.bool P.neg, .slice p54 (dig B16 P.m).length c54, .int .i64 P.e]) :: undef :: undef :: undef :: undef :: undef :: undef :: undef :: undef :: undef :: undef :: undef :: undef :: undef :: undef :: undef :: undef :: undef :: undef :: undef :: undef :: undef :: undef :: undef :: undef :: undef :: undef :: undef :: undef :: undef :: undef :: undef :: undef :: undef :: undef :: undef :: undef :: undef :: undef :: undef :: undef :: undef :: undef :: undef :: undef :: undef :: undef :: undef :: undef :: undef :: undef :: []).toArray, []⟩ ∧ Bt w' kb13 35 #[.bool P.neg, .slice p54 (dig B16 P.m).length c54, .int .i64 P.e] ∧ Rf w' V10.heap.size p44 c44 (dig B16 nq) ∧ Rf w' V10.heap.size p48 c48 (dig B16 A.m) ∧ Rf w' V10.heap.size p51 c51 (dig B16 dr) ∧ Rf w' V10.heap.size p53 c53 (dig B16 B.m) ∧ Rf w' V10.heap.size p54 c54 (dig B16 P.m) ∧ Below V10.heap.size V10 w' ∧ V10.heap.size ≤ kb13) ?_ (fun Gx hGx => ?_)
        · skip
          replace b4 := (b4.past ((bthru (bthru ((bthru hbV5 hbV6).trans (hOV7.below (by omega))) hbV8) hbV9).trans (hOV10.below (by omega))))
          replace b5 := (b5.past ((bthru hbV8 hbV9).trans (hOV10.below (by omega))))
          obtain ⟨V11, hVV11⟩ : ∃ V, V = (V10).drew := ⟨_, rfl⟩
          have hbV11 : Below (V10).heap.size (V10) V11 := by rw [hVV11]; exact (Below.refl _ _).drew
          have hzV11 : V11.heap.size = (V10).heap.size := by rw [hVV11]; rfl
          replace b4 := (b4.past hbV11)
          replace b5 := (b5.past hbV11)
          refine sxd _ (fun w' => Bt w' w.heap.size 25 #[.bool q.g, .slice q.p q.xs.length q.c, .slice q.q q.ys.length q.d, .int .i64 q.e] ∧ Bt w' V1.heap.size 25 #[.bool r.g, .slice r.p r.xs.length r.c, .slice r.q r.ys.length r.d, .int .i64 r.e]) hVV11 ⟨b4, b5⟩ ?_
          clear hVV11
          refine tk 0 40 (.pointer (some ⟨w.heap.size, 0, none⟩)) ⟨b4, b5⟩ ?_
          refine tk 1 41 (.bool q.g) ⟨b4, b5⟩ ?_ (hy := fun w' hS => (exec_ld (by kernel_rfl) (run_ld1 hS.1 hT4 0 (.bool q.g) (by kernel_rfl))))
          refine tk 2 42 (.pointer (some ⟨w.heap.size, 1, none⟩)) ⟨b4, b5⟩ ?_
          refine tk 3 43 (.slice q.p q.xs.length q.c) ⟨b4, b5⟩ ?_ (hy := fun w' hS => (exec_ld (by kernel_rfl) (run_ld1 hS.1 hT23 1 (.slice q.p q.xs.length q.c) (by kernel_rfl))))
          refine tk 5 45 (.pointer (some ⟨w.heap.size, 3, none⟩)) ⟨b4, b5⟩ ?_
          refine tk 6 46 (.int .i64 q.e) ⟨b4, b5⟩ ?_ (hy := fun w' hS => (exec_ld (by kernel_rfl) (run_ld1 hS.1 hT3 3 (.int .i64 q.e) (by kernel_rfl))))
          refine tk 9 49 (.pointer (some ⟨V1.heap.size, 2, none⟩)) ⟨b4, b5⟩ ?_
          refine tk 10 50 (.slice r.q r.ys.length r.d) ⟨b4, b5⟩ ?_ (hy := fun w' hS => (exec_ld (by kernel_rfl) (run_ld1 hS.2 hT23 2 (.slice r.q r.ys.length r.d) (by kernel_rfl))))
          refine sxr [4, 15] ?_
          refine rd2 (fun Kx hKx => ?_) ?_
          · skip
            replace hq := (hq.past (bthru ((bthru (bthru ((bthru hbV5 hbV6).trans (hOV7.below (by omega))) hbV8) hbV9).trans (hOV10.below (by omega))) hbV11))
            refine sek 44 11 #[.slice q.p q.xs.length q.c] ?_
            ((with_reducible refine ((HN1 _ hq).out).mono ?_))
            rintro eV12 V12 ⟨p44, c44, rfl, x44, hbV12⟩
            have hzV12 := hbV12.size
            have lx44 := fun h => x44.lt h
            refine ⟨.slice p44 (dig B16 nq).length c44, rfl, ?_⟩
            replace b4 := (b4.past hbV12)
            replace b5 := (b5.past hbV12)
            refine hKx.out _ _ ⟨b4, b5⟩ ?_
            clear hKx Kx
            refine tk 7 47 (.agg #[.bool q.g, .slice p44 (dig B16 nq).length c44, .int .i64 q.e]) ⟨b4, b5⟩ ?_
            refine sxr [8, 15] ?_
            refine rd2 (fun Kx hKx => ?_) ?_
            · skip
              refine sek 48 10 #[.agg #[.bool q.g, .slice p44 (dig B16 nq).length c44, .int .i64 q.e]] ?_
              ((with_reducible refine ((HA _ p44 c44 x44.rd).out).mono ?_))
              rintro eV13 V13 ⟨p48, c48, rfl, hr_x48, hc_x48, hf_x48, hbV13⟩
              have hzV13 := hbV13.size
              have x48 := rf_of hr_x48 hc_x48 hf_x48
              clear hr_x48 hc_x48 hf_x48
              have lx48 := fun h => x48.lt h
              refine ⟨.agg #[.bool A.neg, .slice p48 (dig B16 A.m).length c48, .int .i64 A.e], rfl, ?_⟩
              replace b4 := (b4.past hbV13)
              replace b5 := (b5.past hbV13)
              refine hKx.out _ _ ⟨b4, b5⟩ ?_
              clear hKx Kx
              refine sxr [11, 15] ?_
              refine rd2 (fun Kx hKx => ?_) ?_
              · skip
                replace hr := (hr.past (bthru (bthru (bthru ((bthru hbV8 hbV9).trans (hOV10.below (by omega))) hbV11) hbV12) hbV13))
                refine sek 51 11 #[.slice r.q r.ys.length r.d] ?_
                ((with_reducible refine ((HN2 _ hr).out).mono ?_))
                rintro eV14 V14 ⟨p51, c51, rfl, x51, hbV14⟩
                have hzV14 := hbV14.size
                have lx51 := fun h => x51.lt h
                refine ⟨.slice p51 (dig B16 dr).length c51, rfl, ?_⟩
                replace b4 := (b4.past hbV14)
                replace b5 := (b5.past hbV14)
                refine hKx.out _ _ ⟨b4, b5⟩ ?_
                clear hKx Kx
                refine tk 12 52 (.agg #[.bool false, .slice p51 (dig B16 dr).length c51, .int .i64 0]) ⟨b4, b5⟩ ?_
                refine sxr [13, 15] ?_
                refine rd2 (fun Kx hKx => ?_) ?_
                · skip
                  refine sek 53 10 #[.agg #[.bool false, .slice p51 (dig B16 dr).length c51, .int .i64 0]] ?_
                  ((with_reducible refine ((HB _ p51 c51 x51.rd).out).mono ?_))
                  rintro eV15 V15 ⟨p53, c53, rfl, hr_x53, hc_x53, hf_x53, hbV15⟩
                  have hzV15 := hbV15.size
                  have x53 := rf_of hr_x53 hc_x53 hf_x53
                  clear hr_x53 hc_x53 hf_x53
                  have lx53 := fun h => x53.lt h
                  refine ⟨.agg #[.bool B.neg, .slice p53 (dig B16 B.m).length c53, .int .i64 B.e], rfl, ?_⟩
                  replace b4 := (b4.past hbV15)
                  replace b5 := (b5.past hbV15)
                  refine hKx.out _ _ ⟨b4, b5⟩ ?_
                  clear hKx Kx
                  refine sxr [14, 15] ?_
                  refine rd2 (fun Kx hKx => ?_) ?_
                  · skip
                    replace x48 := (x48.past (bthru hbV14 hbV15))
                    refine sek 54 9 #[.agg #[.bool A.neg, .slice p48 (dig B16 A.m).length c48, .int .i64 A.e], .agg #[.bool B.neg, .slice p53 (dig B16 B.m).length c53, .int .i64 B.e]] ?_
                    ((with_reducible refine ((HP _ p48 c48 p53 c53 x48.rd x53.rd).out).mono ?_))
                    rintro eV16 V16 ⟨p54, c54, rfl, hr_x54, hc_x54, hf_x54, hbV16⟩
                    have hzV16 := hbV16.size
                    have x54 := rf_of hr_x54 hc_x54 hf_x54
                    clear hr_x54 hc_x54 hf_x54
                    have lx54 := fun h => x54.lt h
                    refine ⟨.agg #[.bool P.neg, .slice p54 (dig B16 P.m).length c54, .int .i64 P.e], rfl, ?_⟩
                    replace b4 := (b4.past hbV16)
                    replace b5 := (b5.past hbV16)
                    refine hKx.out _ _ ⟨b4, b5⟩ ?_
                    clear hKx Kx
                    refine sxr [15] ?_
                    refine rd1 (fun Kx hKx => ?_)
                    refine snk 13 #[.bool false, .slice none 0 0, .int .i64 0] 35 (fun V17 hbV17 hzV17 b13 => ?_)
                    replace b4 := (b4.past hbV17)
                    replace b5 := (b5.past hbV17)
                    refine hKx.out _ _ ⟨b4, b5⟩ ?_
                    clear hKx Kx
                    refine sxr [16] ?_
                    refine rd1 (fun Kx hKx => ?_)
                    refine ssk none b13 hT35 0 #[.bool P.neg, .slice p54 (dig B16 P.m).length c54, .int .i64 P.e] #[.bool P.neg, .slice p54 (dig B16 P.m).length c54, .int .i64 P.e] ?_
                    have boV18 := b13
                    clear b13
                    intro V18 hOV18 b13
                    have hzV18 := hOV18.size
                    replace b4 := (b4.only hOV18 (by omega))
                    replace b5 := (b5.only hOV18 (by omega))
                    refine hKx.out _ _ ⟨b4, b5⟩ ?_
                    clear hKx Kx
                    refine sx_done (by kernel_rfl) ?_
                    replace x44 := (x44.past ((bthru (bthru (bthru (bthru hbV13 hbV14) hbV15) hbV16) hbV17).trans (hOV18.below (by omega))))
                    replace x48 := (x48.past ((bthru hbV16 hbV17).trans (hOV18.below (by omega))))
                    replace x51 := (x51.past ((bthru (bthru hbV15 hbV16) hbV17).trans (hOV18.below (by omega))))
                    replace x53 := (x53.past ((bthru hbV16 hbV17).trans (hOV18.below (by omega))))
                    replace x54 := (x54.past (hbV17.trans (hOV18.below (by omega))))
                    exact ⟨rfl, V16.heap.size, p44, c44, p48, c48, p51, c51, p53, c53, p54, c54, by kernel_rfl, b13, (x44.mono (by omega)), (x48.mono (by omega)), (x51.mono (by omega)), (x53.mono (by omega)), (x54.mono (by omega)), ((bthru (bthru (bthru (bthru (bthru (bthru hbV11 hbV12) hbV13) hbV14) hbV15) hbV16) hbV17).trans (hOV18.below (by omega))), by omega⟩
                  refine rd1 (fun Kx hKx => ?_)
                  refine snk 13 #[.bool false, .slice none 0 0, .int .i64 0] 35 (fun V16 hbV16 hzV16 b13 => ?_)
                  replace b4 := (b4.past hbV16)
                  replace b5 := (b5.past hbV16)
                  refine hKx.out _ _ ⟨b4, b5⟩ ?_
                  clear hKx Kx
                  refine sxr [14] ?_
                  refine rd1 (fun Kx hKx => ?_)
                  replace x48 := (x48.past (bthru (bthru hbV14 hbV15) hbV16))
                  replace x53 := (x53.past hbV16)
                  refine sek 54 9 #[.agg #[.bool A.neg, .slice p48 (dig B16 A.m).length c48, .int .i64 A.e], .agg #[.bool B.neg, .slice p53 (dig B16 B.m).length c53, .int .i64 B.e]] ?_
                  ((with_reducible refine ((HP _ p48 c48 p53 c53 x48.rd x53.rd).out).mono ?_))
                  rintro eV17 V17 ⟨p54, c54, rfl, hr_x54, hc_x54, hf_x54, hbV17⟩
                  have hzV17 := hbV17.size
                  have x54 := rf_of hr_x54 hc_x54 hf_x54
                  clear hr_x54 hc_x54 hf_x54
                  have lx54 := fun h => x54.lt h
                  refine ⟨.agg #[.bool P.neg, .slice p54 (dig B16 P.m).length c54, .int .i64 P.e], rfl, ?_⟩
                  replace b4 := (b4.past hbV17)
                  replace b5 := (b5.past hbV17)
                  refine hKx.out _ _ ⟨b4, b5⟩ ?_
                  clear hKx Kx
                  refine sxr [16] ?_
                  refine rd1 (fun Kx hKx => ?_)
                  replace b13 := (b13.past hbV17)
                  refine ssk none b13 hT35 0 #[.bool P.neg, .slice p54 (dig B16 P.m).length c54, .int .i64 P.e] #[.bool P.neg, .slice p54 (dig B16 P.m).length c54, .int .i64 P.e] ?_
                  have boV18 := b13
                  clear b13
                  intro V18 hOV18 b13
                  have hzV18 := hOV18.size
                  replace b4 := (b4.only hOV18 (by omega))
                  replace b5 := (b5.only hOV18 (by omega))
                  refine hKx.out _ _ ⟨b4, b5⟩ ?_
                  clear hKx Kx
                  refine sx_done (by kernel_rfl) ?_
                  replace x44 := (x44.past ((bthru (bthru (bthru (bthru hbV13 hbV14) hbV15) hbV16) hbV17).trans (hOV18.below (by omega))))
                  replace x48 := ((x48.past hbV17).only hOV18 (fun h => by have := lx48 h; omega))
                  replace x51 := (x51.past ((bthru (bthru hbV15 hbV16) hbV17).trans (hOV18.below (by omega))))
                  replace x53 := ((x53.past hbV17).only hOV18 (fun h => by have := lx53 h; omega))
                  replace x54 := (x54.only hOV18 (fun h => by have := lx54 h; omega))
                  exact ⟨rfl, V15.heap.size, p44, c44, p48, c48, p51, c51, p53, c53, p54, c54, by kernel_rfl, b13, (x44.mono (by omega)), (x48.mono (by omega)), (x51.mono (by omega)), (x53.mono (by omega)), (x54.mono (by omega)), ((bthru (bthru (bthru (bthru (bthru (bthru hbV11 hbV12) hbV13) hbV14) hbV15) hbV16) hbV17).trans (hOV18.below (by omega))), by omega⟩
                refine rd1 (fun Kx hKx => ?_)
                refine snk 13 #[.bool false, .slice none 0 0, .int .i64 0] 35 (fun V15 hbV15 hzV15 b13 => ?_)
                replace b4 := (b4.past hbV15)
                replace b5 := (b5.past hbV15)
                refine hKx.out _ _ ⟨b4, b5⟩ ?_
                clear hKx Kx
                refine sxr [13] ?_
                refine rd1 (fun Kx hKx => ?_)
                replace x51 := (x51.past hbV15)
                refine sek 53 10 #[.agg #[.bool false, .slice p51 (dig B16 dr).length c51, .int .i64 0]] ?_
                ((with_reducible refine ((HB _ p51 c51 x51.rd).out).mono ?_))
                rintro eV16 V16 ⟨p53, c53, rfl, hr_x53, hc_x53, hf_x53, hbV16⟩
                have hzV16 := hbV16.size
                have x53 := rf_of hr_x53 hc_x53 hf_x53
                clear hr_x53 hc_x53 hf_x53
                have lx53 := fun h => x53.lt h
                refine ⟨.agg #[.bool B.neg, .slice p53 (dig B16 B.m).length c53, .int .i64 B.e], rfl, ?_⟩
                replace b4 := (b4.past hbV16)
                replace b5 := (b5.past hbV16)
                refine hKx.out _ _ ⟨b4, b5⟩ ?_
                clear hKx Kx
                refine sxr [14] ?_
                refine rd1 (fun Kx hKx => ?_)
                replace x48 := (x48.past (bthru (bthru hbV14 hbV15) hbV16))
                refine sek 54 9 #[.agg #[.bool A.neg, .slice p48 (dig B16 A.m).length c48, .int .i64 A.e], .agg #[.bool B.neg, .slice p53 (dig B16 B.m).length c53, .int .i64 B.e]] ?_
                ((with_reducible refine ((HP _ p48 c48 p53 c53 x48.rd x53.rd).out).mono ?_))
                rintro eV17 V17 ⟨p54, c54, rfl, hr_x54, hc_x54, hf_x54, hbV17⟩
                have hzV17 := hbV17.size
                have x54 := rf_of hr_x54 hc_x54 hf_x54
                clear hr_x54 hc_x54 hf_x54
                have lx54 := fun h => x54.lt h
                refine ⟨.agg #[.bool P.neg, .slice p54 (dig B16 P.m).length c54, .int .i64 P.e], rfl, ?_⟩
                replace b4 := (b4.past hbV17)
                replace b5 := (b5.past hbV17)
                refine hKx.out _ _ ⟨b4, b5⟩ ?_
                clear hKx Kx
                refine sxr [16] ?_
                refine rd1 (fun Kx hKx => ?_)
                replace b13 := (b13.past (bthru hbV16 hbV17))
                refine ssk none b13 hT35 0 #[.bool P.neg, .slice p54 (dig B16 P.m).length c54, .int .i64 P.e] #[.bool P.neg, .slice p54 (dig B16 P.m).length c54, .int .i64 P.e] ?_
                have boV18 := b13
                clear b13
                intro V18 hOV18 b13
                have hzV18 := hOV18.size
                replace b4 := (b4.only hOV18 (by omega))
                replace b5 := (b5.only hOV18 (by omega))
                refine hKx.out _ _ ⟨b4, b5⟩ ?_
                clear hKx Kx
                refine sx_done (by kernel_rfl) ?_
                replace x44 := (x44.past ((bthru (bthru (bthru (bthru hbV13 hbV14) hbV15) hbV16) hbV17).trans (hOV18.below (by omega))))
                replace x48 := ((x48.past hbV17).only hOV18 (fun h => by have := lx48 h; omega))
                replace x51 := ((x51.past (bthru hbV16 hbV17)).only hOV18 (fun h => by have := lx51 h; omega))
                replace x53 := ((x53.past hbV17).only hOV18 (fun h => by have := lx53 h; omega))
                replace x54 := (x54.only hOV18 (fun h => by have := lx54 h; omega))
                exact ⟨rfl, V14.heap.size, p44, c44, p48, c48, p51, c51, p53, c53, p54, c54, by kernel_rfl, b13, (x44.mono (by omega)), (x48.mono (by omega)), (x51.mono (by omega)), (x53.mono (by omega)), (x54.mono (by omega)), ((bthru (bthru (bthru (bthru (bthru (bthru hbV11 hbV12) hbV13) hbV14) hbV15) hbV16) hbV17).trans (hOV18.below (by omega))), by omega⟩
              refine rd1 (fun Kx hKx => ?_)
              refine snk 13 #[.bool false, .slice none 0 0, .int .i64 0] 35 (fun V14 hbV14 hzV14 b13 => ?_)
              replace b4 := (b4.past hbV14)
              replace b5 := (b5.past hbV14)
              refine hKx.out _ _ ⟨b4, b5⟩ ?_
              clear hKx Kx
              refine sxr [11] ?_
              refine rd1 (fun Kx hKx => ?_)
              replace hr := (hr.past (bthru (bthru (bthru (bthru ((bthru hbV8 hbV9).trans (hOV10.below (by omega))) hbV11) hbV12) hbV13) hbV14))
              refine sek 51 11 #[.slice r.q r.ys.length r.d] ?_
              ((with_reducible refine ((HN2 _ hr).out).mono ?_))
              rintro eV15 V15 ⟨p51, c51, rfl, x51, hbV15⟩
              have hzV15 := hbV15.size
              have lx51 := fun h => x51.lt h
              refine ⟨.slice p51 (dig B16 dr).length c51, rfl, ?_⟩
              replace b4 := (b4.past hbV15)
              replace b5 := (b5.past hbV15)
              refine hKx.out _ _ ⟨b4, b5⟩ ?_
              clear hKx Kx
              refine tk 12 52 (.agg #[.bool false, .slice p51 (dig B16 dr).length c51, .int .i64 0]) ⟨b4, b5⟩ ?_
              refine sxr [13] ?_
              refine rd1 (fun Kx hKx => ?_)
              refine sek 53 10 #[.agg #[.bool false, .slice p51 (dig B16 dr).length c51, .int .i64 0]] ?_
              ((with_reducible refine ((HB _ p51 c51 x51.rd).out).mono ?_))
              rintro eV16 V16 ⟨p53, c53, rfl, hr_x53, hc_x53, hf_x53, hbV16⟩
              have hzV16 := hbV16.size
              have x53 := rf_of hr_x53 hc_x53 hf_x53
              clear hr_x53 hc_x53 hf_x53
              have lx53 := fun h => x53.lt h
              refine ⟨.agg #[.bool B.neg, .slice p53 (dig B16 B.m).length c53, .int .i64 B.e], rfl, ?_⟩
              replace b4 := (b4.past hbV16)
              replace b5 := (b5.past hbV16)
              refine hKx.out _ _ ⟨b4, b5⟩ ?_
              clear hKx Kx
              refine sxr [14] ?_
              refine rd1 (fun Kx hKx => ?_)
              replace x48 := (x48.past (bthru (bthru hbV14 hbV15) hbV16))
              refine sek 54 9 #[.agg #[.bool A.neg, .slice p48 (dig B16 A.m).length c48, .int .i64 A.e], .agg #[.bool B.neg, .slice p53 (dig B16 B.m).length c53, .int .i64 B.e]] ?_
              ((with_reducible refine ((HP _ p48 c48 p53 c53 x48.rd x53.rd).out).mono ?_))
              rintro eV17 V17 ⟨p54, c54, rfl, hr_x54, hc_x54, hf_x54, hbV17⟩
              have hzV17 := hbV17.size
              have x54 := rf_of hr_x54 hc_x54 hf_x54
              clear hr_x54 hc_x54 hf_x54
              have lx54 := fun h => x54.lt h
              refine ⟨.agg #[.bool P.neg, .slice p54 (dig B16 P.m).length c54, .int .i64 P.e], rfl, ?_⟩
              replace b4 := (b4.past hbV17)
              replace b5 := (b5.past hbV17)
              refine hKx.out _ _ ⟨b4, b5⟩ ?_
              clear hKx Kx
              refine sxr [16] ?_
              refine rd1 (fun Kx hKx => ?_)
              replace b13 := (b13.past (bthru (bthru hbV15 hbV16) hbV17))
              refine ssk none b13 hT35 0 #[.bool P.neg, .slice p54 (dig B16 P.m).length c54, .int .i64 P.e] #[.bool P.neg, .slice p54 (dig B16 P.m).length c54, .int .i64 P.e] ?_
              have boV18 := b13
              clear b13
              intro V18 hOV18 b13
              have hzV18 := hOV18.size
              replace b4 := (b4.only hOV18 (by omega))
              replace b5 := (b5.only hOV18 (by omega))
              refine hKx.out _ _ ⟨b4, b5⟩ ?_
              clear hKx Kx
              refine sx_done (by kernel_rfl) ?_
              replace x44 := (x44.past ((bthru (bthru (bthru (bthru hbV13 hbV14) hbV15) hbV16) hbV17).trans (hOV18.below (by omega))))
              replace x48 := ((x48.past hbV17).only hOV18 (fun h => by have := lx48 h; omega))
              replace x51 := ((x51.past (bthru hbV16 hbV17)).only hOV18 (fun h => by have := lx51 h; omega))
              replace x53 := ((x53.past hbV17).only hOV18 (fun h => by have := lx53 h; omega))
              replace x54 := (x54.only hOV18 (fun h => by have := lx54 h; omega))
              exact ⟨rfl, V13.heap.size, p44, c44, p48, c48, p51, c51, p53, c53, p54, c54, by kernel_rfl, b13, (x44.mono (by omega)), (x48.mono (by omega)), (x51.mono (by omega)), (x53.mono (by omega)), (x54.mono (by omega)), ((bthru (bthru (bthru (bthru (bthru (bthru hbV11 hbV12) hbV13) hbV14) hbV15) hbV16) hbV17).trans (hOV18.below (by omega))), by omega⟩
            refine rd1 (fun Kx hKx => ?_)
            refine snk 13 #[.bool false, .slice none 0 0, .int .i64 0] 35 (fun V13 hbV13 hzV13 b13 => ?_)
            replace b4 := (b4.past hbV13)
            replace b5 := (b5.past hbV13)
            refine hKx.out _ _ ⟨b4, b5⟩ ?_
            clear hKx Kx
            refine sxr [8] ?_
            refine rd1 (fun Kx hKx => ?_)
            replace x44 := (x44.past hbV13)
            refine sek 48 10 #[.agg #[.bool q.g, .slice p44 (dig B16 nq).length c44, .int .i64 q.e]] ?_
            ((with_reducible refine ((HA _ p44 c44 x44.rd).out).mono ?_))
            rintro eV14 V14 ⟨p48, c48, rfl, hr_x48, hc_x48, hf_x48, hbV14⟩
            have hzV14 := hbV14.size
            have x48 := rf_of hr_x48 hc_x48 hf_x48
            clear hr_x48 hc_x48 hf_x48
            have lx48 := fun h => x48.lt h
            refine ⟨.agg #[.bool A.neg, .slice p48 (dig B16 A.m).length c48, .int .i64 A.e], rfl, ?_⟩
            replace b4 := (b4.past hbV14)
            replace b5 := (b5.past hbV14)
            refine hKx.out _ _ ⟨b4, b5⟩ ?_
            clear hKx Kx
            refine sxr [11] ?_
            refine rd1 (fun Kx hKx => ?_)
            replace hr := (hr.past (bthru (bthru (bthru (bthru ((bthru hbV8 hbV9).trans (hOV10.below (by omega))) hbV11) hbV12) hbV13) hbV14))
            refine sek 51 11 #[.slice r.q r.ys.length r.d] ?_
            ((with_reducible refine ((HN2 _ hr).out).mono ?_))
            rintro eV15 V15 ⟨p51, c51, rfl, x51, hbV15⟩
            have hzV15 := hbV15.size
            have lx51 := fun h => x51.lt h
            refine ⟨.slice p51 (dig B16 dr).length c51, rfl, ?_⟩
            replace b4 := (b4.past hbV15)
            replace b5 := (b5.past hbV15)
            refine hKx.out _ _ ⟨b4, b5⟩ ?_
            clear hKx Kx
            refine tk 12 52 (.agg #[.bool false, .slice p51 (dig B16 dr).length c51, .int .i64 0]) ⟨b4, b5⟩ ?_
            refine sxr [13] ?_
            refine rd1 (fun Kx hKx => ?_)
            refine sek 53 10 #[.agg #[.bool false, .slice p51 (dig B16 dr).length c51, .int .i64 0]] ?_
            ((with_reducible refine ((HB _ p51 c51 x51.rd).out).mono ?_))
            rintro eV16 V16 ⟨p53, c53, rfl, hr_x53, hc_x53, hf_x53, hbV16⟩
            have hzV16 := hbV16.size
            have x53 := rf_of hr_x53 hc_x53 hf_x53
            clear hr_x53 hc_x53 hf_x53
            have lx53 := fun h => x53.lt h
            refine ⟨.agg #[.bool B.neg, .slice p53 (dig B16 B.m).length c53, .int .i64 B.e], rfl, ?_⟩
            replace b4 := (b4.past hbV16)
            replace b5 := (b5.past hbV16)
            refine hKx.out _ _ ⟨b4, b5⟩ ?_
            clear hKx Kx
            refine sxr [14] ?_
            refine rd1 (fun Kx hKx => ?_)
            replace x48 := (x48.past (bthru hbV15 hbV16))
            refine sek 54 9 #[.agg #[.bool A.neg, .slice p48 (dig B16 A.m).length c48, .int .i64 A.e], .agg #[.bool B.neg, .slice p53 (dig B16 B.m).length c53, .int .i64 B.e]] ?_
            ((with_reducible refine ((HP _ p48 c48 p53 c53 x48.rd x53.rd).out).mono ?_))
            rintro eV17 V17 ⟨p54, c54, rfl, hr_x54, hc_x54, hf_x54, hbV17⟩
            have hzV17 := hbV17.size
            have x54 := rf_of hr_x54 hc_x54 hf_x54
            clear hr_x54 hc_x54 hf_x54
            have lx54 := fun h => x54.lt h
            refine ⟨.agg #[.bool P.neg, .slice p54 (dig B16 P.m).length c54, .int .i64 P.e], rfl, ?_⟩
            replace b4 := (b4.past hbV17)
            replace b5 := (b5.past hbV17)
            refine hKx.out _ _ ⟨b4, b5⟩ ?_
            clear hKx Kx
            refine sxr [16] ?_
            refine rd1 (fun Kx hKx => ?_)
            replace b13 := (b13.past (bthru (bthru (bthru hbV14 hbV15) hbV16) hbV17))
            refine ssk none b13 hT35 0 #[.bool P.neg, .slice p54 (dig B16 P.m).length c54, .int .i64 P.e] #[.bool P.neg, .slice p54 (dig B16 P.m).length c54, .int .i64 P.e] ?_
            have boV18 := b13
            clear b13
            intro V18 hOV18 b13
            have hzV18 := hOV18.size
            replace b4 := (b4.only hOV18 (by omega))
            replace b5 := (b5.only hOV18 (by omega))
            refine hKx.out _ _ ⟨b4, b5⟩ ?_
            clear hKx Kx
            refine sx_done (by kernel_rfl) ?_
            replace x44 := ((x44.past (bthru (bthru (bthru hbV14 hbV15) hbV16) hbV17)).only hOV18 (fun h => by have := lx44 h; omega))
            replace x48 := ((x48.past hbV17).only hOV18 (fun h => by have := lx48 h; omega))
            replace x51 := ((x51.past (bthru hbV16 hbV17)).only hOV18 (fun h => by have := lx51 h; omega))
            replace x53 := ((x53.past hbV17).only hOV18 (fun h => by have := lx53 h; omega))
            replace x54 := (x54.only hOV18 (fun h => by have := lx54 h; omega))
            exact ⟨rfl, V12.heap.size, p44, c44, p48, c48, p51, c51, p53, c53, p54, c54, by kernel_rfl, b13, (x44.mono (by omega)), (x48.mono (by omega)), (x51.mono (by omega)), (x53.mono (by omega)), (x54.mono (by omega)), ((bthru (bthru (bthru (bthru (bthru (bthru hbV11 hbV12) hbV13) hbV14) hbV15) hbV16) hbV17).trans (hOV18.below (by omega))), by omega⟩
          refine rd1 (fun Kx hKx => ?_)
          refine snk 13 #[.bool false, .slice none 0 0, .int .i64 0] 35 (fun V12 hbV12 hzV12 b13 => ?_)
          replace b4 := (b4.past hbV12)
          replace b5 := (b5.past hbV12)
          refine hKx.out _ _ ⟨b4, b5⟩ ?_
          clear hKx Kx
          refine sxr [4] ?_
          refine rd1 (fun Kx hKx => ?_)
          replace hq := (hq.past (bthru (bthru ((bthru (bthru ((bthru hbV5 hbV6).trans (hOV7.below (by omega))) hbV8) hbV9).trans (hOV10.below (by omega))) hbV11) hbV12))
          refine sek 44 11 #[.slice q.p q.xs.length q.c] ?_
          ((with_reducible refine ((HN1 _ hq).out).mono ?_))
          rintro eV13 V13 ⟨p44, c44, rfl, x44, hbV13⟩
          have hzV13 := hbV13.size
          have lx44 := fun h => x44.lt h
          refine ⟨.slice p44 (dig B16 nq).length c44, rfl, ?_⟩
          replace b4 := (b4.past hbV13)
          replace b5 := (b5.past hbV13)
          refine hKx.out _ _ ⟨b4, b5⟩ ?_
          clear hKx Kx
          refine tk 7 47 (.agg #[.bool q.g, .slice p44 (dig B16 nq).length c44, .int .i64 q.e]) ⟨b4, b5⟩ ?_
          refine sxr [8] ?_
          refine rd1 (fun Kx hKx => ?_)
          refine sek 48 10 #[.agg #[.bool q.g, .slice p44 (dig B16 nq).length c44, .int .i64 q.e]] ?_
          ((with_reducible refine ((HA _ p44 c44 x44.rd).out).mono ?_))
          rintro eV14 V14 ⟨p48, c48, rfl, hr_x48, hc_x48, hf_x48, hbV14⟩
          have hzV14 := hbV14.size
          have x48 := rf_of hr_x48 hc_x48 hf_x48
          clear hr_x48 hc_x48 hf_x48
          have lx48 := fun h => x48.lt h
          refine ⟨.agg #[.bool A.neg, .slice p48 (dig B16 A.m).length c48, .int .i64 A.e], rfl, ?_⟩
          replace b4 := (b4.past hbV14)
          replace b5 := (b5.past hbV14)
          refine hKx.out _ _ ⟨b4, b5⟩ ?_
          clear hKx Kx
          refine sxr [11] ?_
          refine rd1 (fun Kx hKx => ?_)
          replace hr := (hr.past (bthru (bthru (bthru (bthru ((bthru hbV8 hbV9).trans (hOV10.below (by omega))) hbV11) hbV12) hbV13) hbV14))
          refine sek 51 11 #[.slice r.q r.ys.length r.d] ?_
          ((with_reducible refine ((HN2 _ hr).out).mono ?_))
          rintro eV15 V15 ⟨p51, c51, rfl, x51, hbV15⟩
          have hzV15 := hbV15.size
          have lx51 := fun h => x51.lt h
          refine ⟨.slice p51 (dig B16 dr).length c51, rfl, ?_⟩
          replace b4 := (b4.past hbV15)
          replace b5 := (b5.past hbV15)
          refine hKx.out _ _ ⟨b4, b5⟩ ?_
          clear hKx Kx
          refine tk 12 52 (.agg #[.bool false, .slice p51 (dig B16 dr).length c51, .int .i64 0]) ⟨b4, b5⟩ ?_
          refine sxr [13] ?_
          refine rd1 (fun Kx hKx => ?_)
          refine sek 53 10 #[.agg #[.bool false, .slice p51 (dig B16 dr).length c51, .int .i64 0]] ?_
          ((with_reducible refine ((HB _ p51 c51 x51.rd).out).mono ?_))
          rintro eV16 V16 ⟨p53, c53, rfl, hr_x53, hc_x53, hf_x53, hbV16⟩
          have hzV16 := hbV16.size
          have x53 := rf_of hr_x53 hc_x53 hf_x53
          clear hr_x53 hc_x53 hf_x53
          have lx53 := fun h => x53.lt h
          refine ⟨.agg #[.bool B.neg, .slice p53 (dig B16 B.m).length c53, .int .i64 B.e], rfl, ?_⟩
          replace b4 := (b4.past hbV16)
          replace b5 := (b5.past hbV16)
          refine hKx.out _ _ ⟨b4, b5⟩ ?_
          clear hKx Kx
          refine sxr [14] ?_
          refine rd1 (fun Kx hKx => ?_)
          replace x48 := (x48.past (bthru hbV15 hbV16))
          refine sek 54 9 #[.agg #[.bool A.neg, .slice p48 (dig B16 A.m).length c48, .int .i64 A.e], .agg #[.bool B.neg, .slice p53 (dig B16 B.m).length c53, .int .i64 B.e]] ?_
          ((with_reducible refine ((HP _ p48 c48 p53 c53 x48.rd x53.rd).out).mono ?_))
          rintro eV17 V17 ⟨p54, c54, rfl, hr_x54, hc_x54, hf_x54, hbV17⟩
          have hzV17 := hbV17.size
          have x54 := rf_of hr_x54 hc_x54 hf_x54
          clear hr_x54 hc_x54 hf_x54
          have lx54 := fun h => x54.lt h
          refine ⟨.agg #[.bool P.neg, .slice p54 (dig B16 P.m).length c54, .int .i64 P.e], rfl, ?_⟩
          replace b4 := (b4.past hbV17)
          replace b5 := (b5.past hbV17)
          refine hKx.out _ _ ⟨b4, b5⟩ ?_
          clear hKx Kx
          refine sxr [16] ?_
          refine rd1 (fun Kx hKx => ?_)
          replace b13 := (b13.past (bthru (bthru (bthru (bthru hbV13 hbV14) hbV15) hbV16) hbV17))
          refine ssk none b13 hT35 0 #[.bool P.neg, .slice p54 (dig B16 P.m).length c54, .int .i64 P.e] #[.bool P.neg, .slice p54 (dig B16 P.m).length c54, .int .i64 P.e] ?_
          have boV18 := b13
          clear b13
          intro V18 hOV18 b13
          have hzV18 := hOV18.size
          replace b4 := (b4.only hOV18 (by omega))
          replace b5 := (b5.only hOV18 (by omega))
          refine hKx.out _ _ ⟨b4, b5⟩ ?_
          clear hKx Kx
          refine sx_done (by kernel_rfl) ?_
          replace x44 := ((x44.past (bthru (bthru (bthru hbV14 hbV15) hbV16) hbV17)).only hOV18 (fun h => by have := lx44 h; omega))
          replace x48 := ((x48.past hbV17).only hOV18 (fun h => by have := lx48 h; omega))
          replace x51 := ((x51.past (bthru hbV16 hbV17)).only hOV18 (fun h => by have := lx51 h; omega))
          replace x53 := ((x53.past hbV17).only hOV18 (fun h => by have := lx53 h; omega))
          replace x54 := (x54.only hOV18 (fun h => by have := lx54 h; omega))
          exact ⟨rfl, V11.heap.size, p44, c44, p48, c48, p51, c51, p53, c53, p54, c54, by kernel_rfl, b13, (x44.mono (by omega)), (x48.mono (by omega)), (x51.mono (by omega)), (x53.mono (by omega)), (x54.mono (by omega)), ((bthru (bthru (bthru (bthru (bthru (bthru hbV11 hbV12) hbV13) hbV14) hbV15) hbV16) hbV17).trans (hOV18.below (by omega))), by omega⟩
        rintro _ V11 ⟨kb13, p44, c44, p48, c48, p51, c51, p53, c53, p54, c54, rfl, b13, x44, x48, x51, x53, x54, hbV11, hkb13⟩
        refine hGx _ _ ?_
        clear hGx Gx
        have hzV11 := hbV11.size
        have hlb13 := b13.lt
        have lx44 := fun h => x44.lt h
        have lx48 := fun h => x48.lt h
        have lx51 := fun h => x51.lt h
        have lx53 := fun h => x53.lt h
        have lx54 := fun h => x54.lt h
        refine sx_then ?_
        refine wp_seq ?_
        refine sx_cutg (R := fun a' w' => ∃ (kb14 : Nat) (p59 : Option Addr) (c59 : Nat) (p63 : Option Addr) (c63 : Nat) (p66 : Option Addr) (c66 : Nat) (p68 : Option Addr) (c68 : Nat) (p69 : Option Addr) (c69 : Nat), a' = ⟨((.agg #[.bool q.g, .slice q.p q.xs.length q.c, .slice q.q q.ys.length q.d, .int .i64 q.e]) :: (.agg #[.bool r.g, .slice r.p r.xs.length r.c, .slice r.q r.ys.length r.d, .int .i64 r.e]) :: (.agg #[.int .i64 g.rad, .int .i64 g.digs, .int .i64 g.lo, .int .i64 g.hi, .bool g.grad]) :: (.int .i64 way) :: (.pointer (some ⟨w.heap.size, 0, none⟩)) :: (.pointer (some ⟨V1.heap.size, 0, none⟩)) :: (.pointer (some ⟨V2.heap.size, 0, none⟩)) :: undef :: (.bool false) :: (.pointer (some ⟨V5.heap.size, 0, none⟩)) :: (.bool true) :: (.pointer (some ⟨V8.heap.size, 0, none⟩)) :: (.bool true) :: (.pointer (some ⟨kb13, 0, none⟩)) :: (.pointer (some ⟨kb14, 0, none⟩)) :: undef :: undef :: undef :: (.bool true) :: (.bool false) :: (.tuple #[.agg #[.bool x.neg, .slice p24 (dig B32 x.m).length c24, .int .i64 x.e], .bool true]) :: (.agg #[.bool q.g, .slice q.p q.xs.length q.c, .slice q.q q.ys.length q.d, .int .i64 q.e]) :: (.agg #[.int .i64 g.rad, .int .i64 g.digs, .int .i64 g.lo, .int .i64 g.hi, .bool g.grad]) :: (.int .i64 way) :: (.tuple #[.agg #[.bool x.neg, .slice p24 (dig B32 x.m).length c24, .int .i64 x.e], .bool true]) :: (.agg #[.bool x.neg, .slice p24 (dig B32 x.m).length c24, .int .i64 x.e]) :: (.bool true) :: (.tuple #[.agg #[.bool y.neg, .slice p31 (dig B32 y.m).length c31, .int .i64 y.e], .bool true]) :: (.agg #[.bool r.g, .slice r.p r.xs.length r.c, .slice r.q r.ys.length r.d, .int .i64 r.e]) :: (.agg #[.int .i64 g.rad, .int .i64 g.digs, .int .i64 g.lo, .int .i64 g.hi, .bool g.grad]) :: (.int .i64 way) :: (.tuple #[.agg #[.bool y.neg, .slice p31 (dig B32 y.m).length c31, .int .i64 y.e], .bool true]) :: (.agg #[.bool y.neg, .slice p31 (dig B32 y.m).length c31, .int .i64 y.e]) :: (.bool true) :: (.bool true) :: (.bool false) :: (.bool false) :: (.bool true) :: (.bool false) :: (.bool false) :: (.pointer (some ⟨w.heap.size, 0, none⟩)) :: (.bool q.g) :: (.pointer (some ⟨w.heap.size, 1, none⟩)) :: (.slice q.p q.xs.length q.c) :: (.slice p44 (dig B16 nq).length c44) :: (.pointer (some ⟨w.heap.size, 3, none⟩)) :: (.int .i64 q.e) :: (.agg #[.bool q.g, .slice p44 (dig B16 nq).length c44, .int .i64 q.e]) :: (.agg #[.bool A.neg, .slice p48 (dig B16 A.m).length c48, .int .i64 A.e]) :: (.pointer (some ⟨V1.heap.size, 2, none⟩)) :: (.slice r.q r.ys.length r.d) :: (.slice p51 (dig B16 dr).length c51) :: (.agg #[.bool false, .slice p51 (dig B16 dr).length c51, .int .i64 0]) :: (.agg #[.bool B.neg, .slice p53 (dig B16 B.m).length c53, .int .i64 B.e]) :: (.agg #[.bool P.neg, .slice p54 (dig B16 P.m).length c54, .int .i64 P.e]) :: (.pointer (some ⟨V1.heap.size, 0, none⟩)) :: (.bool r.g) :: (.pointer (some ⟨V1.heap.size, 1, none⟩)) :: (.slice r.p r.xs.length r.c) :: (.slice p59 (dig B16 nr).length c59) :: (.pointer (some ⟨V1.heap.size, 3, none⟩)) :: (.int .i64 r.e) :: (.agg #[.bool r.g, .slice p59 (dig B16 nr).length c59, .int .i64 r.e]) :: (.agg #[.bool C.neg, .slice p63 (dig B16 C.m).length c63, .int .i64 C.e]) :: (.pointer (some ⟨w.heap.size, 2, none⟩)) :: (.slice q.q q.ys.length q.d) :: (.slice p66 (dig B16 dq).length c66) :: (.agg #[.bool false, .slice p66 (dig B16 dq).length c66, .int .i64 0]) :: (.agg #[.bool D.neg, .slice p68 (dig B16 D.m).length c68, .int .i64 D.e]) :: (.agg #[.bool S.neg, .slice p69 (dig B16 S.m).length c69, .int .i64 S.e]) :: undef :: undef :: undef :: undef :: undef :: undef :: undef :: undef :: undef :: undef :: undef :: undef :: undef :: undef :: undef :: undef :: undef :: undef :: undef :: undef :: undef :: undef :: undef :: undef :: undef :: undef :: undef :: undef :: undef :: undef :: undef :: undef :: undef :: undef :: undef :: []).toArray, []⟩ ∧ Bt w' kb14 35 #[.bool S.neg, .slice p69 (dig B16 S.m).length c69, .int .i64 S.e] ∧ Rf w' V11.heap.size p59 c59 (dig B16 nr) ∧ Rf w' V11.heap.size p63 c63 (dig B16 C.m) ∧ Rf w' V11.heap.size p66 c66 (dig B16 dq) ∧ Rf w' V11.heap.size p68 c68 (dig B16 D.m) ∧ Rf w' V11.heap.size p69 c69 (dig B16 S.m) ∧ Below V11.heap.size V11 w' ∧ V11.heap.size ≤ kb14) ?_ (fun Gx hGx => ?_)
        · skip
          replace b5 := (b5.past (bthru ((bthru hbV8 hbV9).trans (hOV10.below (by omega))) hbV11))
          replace b4 := (b4.past (bthru ((bthru (bthru ((bthru hbV5 hbV6).trans (hOV7.below (by omega))) hbV8) hbV9).trans (hOV10.below (by omega))) hbV11))
          obtain ⟨V12, hVV12⟩ : ∃ V, V = (V11).drew := ⟨_, rfl⟩
          have hbV12 : Below (V11).heap.size (V11) V12 := by rw [hVV12]; exact (Below.refl _ _).drew
          have hzV12 : V12.heap.size = (V11).heap.size := by rw [hVV12]; rfl
          replace b5 := (b5.past hbV12)
          replace b4 := (b4.past hbV12)
          refine sxd _ (fun w' => Bt w' V1.heap.size 25 #[.bool r.g, .slice r.p r.xs.length r.c, .slice r.q r.ys.length r.d, .int .i64 r.e] ∧ Bt w' w.heap.size 25 #[.bool q.g, .slice q.p q.xs.length q.c, .slice q.q q.ys.length q.d, .int .i64 q.e]) hVV12 ⟨b5, b4⟩ ?_
          clear hVV12
          refine tk 0 55 (.pointer (some ⟨V1.heap.size, 0, none⟩)) ⟨b5, b4⟩ ?_
          refine tk 1 56 (.bool r.g) ⟨b5, b4⟩ ?_ (hy := fun w' hS => (exec_ld (by kernel_rfl) (run_ld1 hS.1 hT4 0 (.bool r.g) (by kernel_rfl))))
          refine tk 2 57 (.pointer (some ⟨V1.heap.size, 1, none⟩)) ⟨b5, b4⟩ ?_
          refine tk 3 58 (.slice r.p r.xs.length r.c) ⟨b5, b4⟩ ?_ (hy := fun w' hS => (exec_ld (by kernel_rfl) (run_ld1 hS.1 hT23 1 (.slice r.p r.xs.length r.c) (by kernel_rfl))))
          refine tk 5 60 (.pointer (some ⟨V1.heap.size, 3, none⟩)) ⟨b5, b4⟩ ?_
          refine tk 6 61 (.int .i64 r.e) ⟨b5, b4⟩ ?_ (hy := fun w' hS => (exec_ld (by kernel_rfl) (run_ld1 hS.1 hT3 3 (.int .i64 r.e) (by kernel_rfl))))
          refine tk 9 64 (.pointer (some ⟨w.heap.size, 2, none⟩)) ⟨b5, b4⟩ ?_
          refine tk 10 65 (.slice q.q q.ys.length q.d) ⟨b5, b4⟩ ?_ (hy := fun w' hS => (exec_ld (by kernel_rfl) (run_ld1 hS.2 hT23 2 (.slice q.q q.ys.length q.d) (by kernel_rfl))))
          refine sxr [4, 15] ?_
          refine rd2 (fun Kx hKx => ?_) ?_
          · skip
            replace hr := (hr.past (bthru (bthru ((bthru hbV8 hbV9).trans (hOV10.below (by omega))) hbV11) hbV12))
            refine sek 59 11 #[.slice r.p r.xs.length r.c] ?_
            ((with_reducible refine ((HN3 _ hr).out).mono ?_))
            rintro eV13 V13 ⟨p59, c59, rfl, x59, hbV13⟩
            have hzV13 := hbV13.size
            have lx59 := fun h => x59.lt h
            refine ⟨.slice p59 (dig B16 nr).length c59, rfl, ?_⟩
            replace b5 := (b5.past hbV13)
            replace b4 := (b4.past hbV13)
            refine hKx.out _ _ ⟨b5, b4⟩ ?_
            clear hKx Kx
            refine tk 7 62 (.agg #[.bool r.g, .slice p59 (dig B16 nr).length c59, .int .i64 r.e]) ⟨b5, b4⟩ ?_
            refine sxr [8, 15] ?_
            refine rd2 (fun Kx hKx => ?_) ?_
            · skip
              refine sek 63 10 #[.agg #[.bool r.g, .slice p59 (dig B16 nr).length c59, .int .i64 r.e]] ?_
              ((with_reducible refine ((HC _ p59 c59 x59.rd).out).mono ?_))
              rintro eV14 V14 ⟨p63, c63, rfl, hr_x63, hc_x63, hf_x63, hbV14⟩
              have hzV14 := hbV14.size
              have x63 := rf_of hr_x63 hc_x63 hf_x63
              clear hr_x63 hc_x63 hf_x63
              have lx63 := fun h => x63.lt h
              refine ⟨.agg #[.bool C.neg, .slice p63 (dig B16 C.m).length c63, .int .i64 C.e], rfl, ?_⟩
              replace b5 := (b5.past hbV14)
              replace b4 := (b4.past hbV14)
              refine hKx.out _ _ ⟨b5, b4⟩ ?_
              clear hKx Kx
              refine sxr [11, 15] ?_
              refine rd2 (fun Kx hKx => ?_) ?_
              · skip
                replace hq := (hq.past (bthru (bthru (bthru (bthru ((bthru (bthru ((bthru hbV5 hbV6).trans (hOV7.below (by omega))) hbV8) hbV9).trans (hOV10.below (by omega))) hbV11) hbV12) hbV13) hbV14))
                refine sek 66 11 #[.slice q.q q.ys.length q.d] ?_
                ((with_reducible refine ((HN4 _ hq).out).mono ?_))
                rintro eV15 V15 ⟨p66, c66, rfl, x66, hbV15⟩
                have hzV15 := hbV15.size
                have lx66 := fun h => x66.lt h
                refine ⟨.slice p66 (dig B16 dq).length c66, rfl, ?_⟩
                replace b5 := (b5.past hbV15)
                replace b4 := (b4.past hbV15)
                refine hKx.out _ _ ⟨b5, b4⟩ ?_
                clear hKx Kx
                refine tk 12 67 (.agg #[.bool false, .slice p66 (dig B16 dq).length c66, .int .i64 0]) ⟨b5, b4⟩ ?_
                refine sxr [13, 15] ?_
                refine rd2 (fun Kx hKx => ?_) ?_
                · skip
                  refine sek 68 10 #[.agg #[.bool false, .slice p66 (dig B16 dq).length c66, .int .i64 0]] ?_
                  ((with_reducible refine ((HD _ p66 c66 x66.rd).out).mono ?_))
                  rintro eV16 V16 ⟨p68, c68, rfl, hr_x68, hc_x68, hf_x68, hbV16⟩
                  have hzV16 := hbV16.size
                  have x68 := rf_of hr_x68 hc_x68 hf_x68
                  clear hr_x68 hc_x68 hf_x68
                  have lx68 := fun h => x68.lt h
                  refine ⟨.agg #[.bool D.neg, .slice p68 (dig B16 D.m).length c68, .int .i64 D.e], rfl, ?_⟩
                  replace b5 := (b5.past hbV16)
                  replace b4 := (b4.past hbV16)
                  refine hKx.out _ _ ⟨b5, b4⟩ ?_
                  clear hKx Kx
                  refine sxr [14, 15] ?_
                  refine rd2 (fun Kx hKx => ?_) ?_
                  · skip
                    replace x63 := (x63.past (bthru hbV15 hbV16))
                    refine sek 69 9 #[.agg #[.bool C.neg, .slice p63 (dig B16 C.m).length c63, .int .i64 C.e], .agg #[.bool D.neg, .slice p68 (dig B16 D.m).length c68, .int .i64 D.e]] ?_
                    ((with_reducible refine ((HS _ p63 c63 p68 c68 x63.rd x68.rd).out).mono ?_))
                    rintro eV17 V17 ⟨p69, c69, rfl, hr_x69, hc_x69, hf_x69, hbV17⟩
                    have hzV17 := hbV17.size
                    have x69 := rf_of hr_x69 hc_x69 hf_x69
                    clear hr_x69 hc_x69 hf_x69
                    have lx69 := fun h => x69.lt h
                    refine ⟨.agg #[.bool S.neg, .slice p69 (dig B16 S.m).length c69, .int .i64 S.e], rfl, ?_⟩
                    replace b5 := (b5.past hbV17)
                    replace b4 := (b4.past hbV17)
                    refine hKx.out _ _ ⟨b5, b4⟩ ?_
                    clear hKx Kx
                    refine sxr [15] ?_
                    refine rd1 (fun Kx hKx => ?_)
                    refine snk 14 #[.bool false, .slice none 0 0, .int .i64 0] 35 (fun V18 hbV18 hzV18 b14 => ?_)
                    replace b5 := (b5.past hbV18)
                    replace b4 := (b4.past hbV18)
                    refine hKx.out _ _ ⟨b5, b4⟩ ?_
                    clear hKx Kx
                    refine sxr [16] ?_
                    refine rd1 (fun Kx hKx => ?_)
                    refine ssk none b14 hT35 0 #[.bool S.neg, .slice p69 (dig B16 S.m).length c69, .int .i64 S.e] #[.bool S.neg, .slice p69 (dig B16 S.m).length c69, .int .i64 S.e] ?_
                    have boV19 := b14
                    clear b14
                    intro V19 hOV19 b14
                    have hzV19 := hOV19.size
                    replace b5 := (b5.only hOV19 (by omega))
                    replace b4 := (b4.only hOV19 (by omega))
                    refine hKx.out _ _ ⟨b5, b4⟩ ?_
                    clear hKx Kx
                    refine sx_done (by kernel_rfl) ?_
                    replace x59 := (x59.past ((bthru (bthru (bthru (bthru hbV14 hbV15) hbV16) hbV17) hbV18).trans (hOV19.below (by omega))))
                    replace x63 := (x63.past ((bthru hbV17 hbV18).trans (hOV19.below (by omega))))
                    replace x66 := (x66.past ((bthru (bthru hbV16 hbV17) hbV18).trans (hOV19.below (by omega))))
                    replace x68 := (x68.past ((bthru hbV17 hbV18).trans (hOV19.below (by omega))))
                    replace x69 := (x69.past (hbV18.trans (hOV19.below (by omega))))
                    exact ⟨rfl, V17.heap.size, p59, c59, p63, c63, p66, c66, p68, c68, p69, c69, by kernel_rfl, b14, (x59.mono (by omega)), (x63.mono (by omega)), (x66.mono (by omega)), (x68.mono (by omega)), (x69.mono (by omega)), ((bthru (bthru (bthru (bthru (bthru (bthru hbV12 hbV13) hbV14) hbV15) hbV16) hbV17) hbV18).trans (hOV19.below (by omega))), by omega⟩
                  refine rd1 (fun Kx hKx => ?_)
                  refine snk 14 #[.bool false, .slice none 0 0, .int .i64 0] 35 (fun V17 hbV17 hzV17 b14 => ?_)
                  replace b5 := (b5.past hbV17)
                  replace b4 := (b4.past hbV17)
                  refine hKx.out _ _ ⟨b5, b4⟩ ?_
                  clear hKx Kx
                  refine sxr [14] ?_
                  refine rd1 (fun Kx hKx => ?_)
                  replace x63 := (x63.past (bthru (bthru hbV15 hbV16) hbV17))
                  replace x68 := (x68.past hbV17)
                  refine sek 69 9 #[.agg #[.bool C.neg, .slice p63 (dig B16 C.m).length c63, .int .i64 C.e], .agg #[.bool D.neg, .slice p68 (dig B16 D.m).length c68, .int .i64 D.e]] ?_
                  ((with_reducible refine ((HS _ p63 c63 p68 c68 x63.rd x68.rd).out).mono ?_))
                  rintro eV18 V18 ⟨p69, c69, rfl, hr_x69, hc_x69, hf_x69, hbV18⟩
                  have hzV18 := hbV18.size
                  have x69 := rf_of hr_x69 hc_x69 hf_x69
                  clear hr_x69 hc_x69 hf_x69
                  have lx69 := fun h => x69.lt h
                  refine ⟨.agg #[.bool S.neg, .slice p69 (dig B16 S.m).length c69, .int .i64 S.e], rfl, ?_⟩
                  replace b5 := (b5.past hbV18)
                  replace b4 := (b4.past hbV18)
                  refine hKx.out _ _ ⟨b5, b4⟩ ?_
                  clear hKx Kx
                  refine sxr [16] ?_
                  refine rd1 (fun Kx hKx => ?_)
                  replace b14 := (b14.past hbV18)
                  refine ssk none b14 hT35 0 #[.bool S.neg, .slice p69 (dig B16 S.m).length c69, .int .i64 S.e] #[.bool S.neg, .slice p69 (dig B16 S.m).length c69, .int .i64 S.e] ?_
                  have boV19 := b14
                  clear b14
                  intro V19 hOV19 b14
                  have hzV19 := hOV19.size
                  replace b5 := (b5.only hOV19 (by omega))
                  replace b4 := (b4.only hOV19 (by omega))
                  refine hKx.out _ _ ⟨b5, b4⟩ ?_
                  clear hKx Kx
                  refine sx_done (by kernel_rfl) ?_
                  replace x59 := (x59.past ((bthru (bthru (bthru (bthru hbV14 hbV15) hbV16) hbV17) hbV18).trans (hOV19.below (by omega))))
                  replace x63 := ((x63.past hbV18).only hOV19 (fun h => by have := lx63 h; omega))
                  replace x66 := (x66.past ((bthru (bthru hbV16 hbV17) hbV18).trans (hOV19.below (by omega))))
                  replace x68 := ((x68.past hbV18).only hOV19 (fun h => by have := lx68 h; omega))
                  replace x69 := (x69.only hOV19 (fun h => by have := lx69 h; omega))
                  exact ⟨rfl, V16.heap.size, p59, c59, p63, c63, p66, c66, p68, c68, p69, c69, by kernel_rfl, b14, (x59.mono (by omega)), (x63.mono (by omega)), (x66.mono (by omega)), (x68.mono (by omega)), (x69.mono (by omega)), ((bthru (bthru (bthru (bthru (bthru (bthru hbV12 hbV13) hbV14) hbV15) hbV16) hbV17) hbV18).trans (hOV19.below (by omega))), by omega⟩
                refine rd1 (fun Kx hKx => ?_)
                refine snk 14 #[.bool false, .slice none 0 0, .int .i64 0] 35 (fun V16 hbV16 hzV16 b14 => ?_)
                replace b5 := (b5.past hbV16)
                replace b4 := (b4.past hbV16)
                refine hKx.out _ _ ⟨b5, b4⟩ ?_
                clear hKx Kx
                refine sxr [13] ?_
                refine rd1 (fun Kx hKx => ?_)
                replace x66 := (x66.past hbV16)
                refine sek 68 10 #[.agg #[.bool false, .slice p66 (dig B16 dq).length c66, .int .i64 0]] ?_
                ((with_reducible refine ((HD _ p66 c66 x66.rd).out).mono ?_))
                rintro eV17 V17 ⟨p68, c68, rfl, hr_x68, hc_x68, hf_x68, hbV17⟩
                have hzV17 := hbV17.size
                have x68 := rf_of hr_x68 hc_x68 hf_x68
                clear hr_x68 hc_x68 hf_x68
                have lx68 := fun h => x68.lt h
                refine ⟨.agg #[.bool D.neg, .slice p68 (dig B16 D.m).length c68, .int .i64 D.e], rfl, ?_⟩
                replace b5 := (b5.past hbV17)
                replace b4 := (b4.past hbV17)
                refine hKx.out _ _ ⟨b5, b4⟩ ?_
                clear hKx Kx
                refine sxr [14] ?_
                refine rd1 (fun Kx hKx => ?_)
                replace x63 := (x63.past (bthru (bthru hbV15 hbV16) hbV17))
                refine sek 69 9 #[.agg #[.bool C.neg, .slice p63 (dig B16 C.m).length c63, .int .i64 C.e], .agg #[.bool D.neg, .slice p68 (dig B16 D.m).length c68, .int .i64 D.e]] ?_
                ((with_reducible refine ((HS _ p63 c63 p68 c68 x63.rd x68.rd).out).mono ?_))
                rintro eV18 V18 ⟨p69, c69, rfl, hr_x69, hc_x69, hf_x69, hbV18⟩
                have hzV18 := hbV18.size
                have x69 := rf_of hr_x69 hc_x69 hf_x69
                clear hr_x69 hc_x69 hf_x69
                have lx69 := fun h => x69.lt h
                refine ⟨.agg #[.bool S.neg, .slice p69 (dig B16 S.m).length c69, .int .i64 S.e], rfl, ?_⟩
                replace b5 := (b5.past hbV18)
                replace b4 := (b4.past hbV18)
                refine hKx.out _ _ ⟨b5, b4⟩ ?_
                clear hKx Kx
                refine sxr [16] ?_
                refine rd1 (fun Kx hKx => ?_)
                replace b14 := (b14.past (bthru hbV17 hbV18))
                refine ssk none b14 hT35 0 #[.bool S.neg, .slice p69 (dig B16 S.m).length c69, .int .i64 S.e] #[.bool S.neg, .slice p69 (dig B16 S.m).length c69, .int .i64 S.e] ?_
                have boV19 := b14
                clear b14
                intro V19 hOV19 b14
                have hzV19 := hOV19.size
                replace b5 := (b5.only hOV19 (by omega))
                replace b4 := (b4.only hOV19 (by omega))
                refine hKx.out _ _ ⟨b5, b4⟩ ?_
                clear hKx Kx
                refine sx_done (by kernel_rfl) ?_
                replace x59 := (x59.past ((bthru (bthru (bthru (bthru hbV14 hbV15) hbV16) hbV17) hbV18).trans (hOV19.below (by omega))))
                replace x63 := ((x63.past hbV18).only hOV19 (fun h => by have := lx63 h; omega))
                replace x66 := ((x66.past (bthru hbV17 hbV18)).only hOV19 (fun h => by have := lx66 h; omega))
                replace x68 := ((x68.past hbV18).only hOV19 (fun h => by have := lx68 h; omega))
                replace x69 := (x69.only hOV19 (fun h => by have := lx69 h; omega))
                exact ⟨rfl, V15.heap.size, p59, c59, p63, c63, p66, c66, p68, c68, p69, c69, by kernel_rfl, b14, (x59.mono (by omega)), (x63.mono (by omega)), (x66.mono (by omega)), (x68.mono (by omega)), (x69.mono (by omega)), ((bthru (bthru (bthru (bthru (bthru (bthru hbV12 hbV13) hbV14) hbV15) hbV16) hbV17) hbV18).trans (hOV19.below (by omega))), by omega⟩
              refine rd1 (fun Kx hKx => ?_)
              refine snk 14 #[.bool false, .slice none 0 0, .int .i64 0] 35 (fun V15 hbV15 hzV15 b14 => ?_)
              replace b5 := (b5.past hbV15)
              replace b4 := (b4.past hbV15)
              refine hKx.out _ _ ⟨b5, b4⟩ ?_
              clear hKx Kx
              refine sxr [11] ?_
              refine rd1 (fun Kx hKx => ?_)
              replace hq := (hq.past (bthru (bthru (bthru (bthru (bthru ((bthru (bthru ((bthru hbV5 hbV6).trans (hOV7.below (by omega))) hbV8) hbV9).trans (hOV10.below (by omega))) hbV11) hbV12) hbV13) hbV14) hbV15))
              refine sek 66 11 #[.slice q.q q.ys.length q.d] ?_
              ((with_reducible refine ((HN4 _ hq).out).mono ?_))
              rintro eV16 V16 ⟨p66, c66, rfl, x66, hbV16⟩
              have hzV16 := hbV16.size
              have lx66 := fun h => x66.lt h
              refine ⟨.slice p66 (dig B16 dq).length c66, rfl, ?_⟩
              replace b5 := (b5.past hbV16)
              replace b4 := (b4.past hbV16)
              refine hKx.out _ _ ⟨b5, b4⟩ ?_
              clear hKx Kx
              refine tk 12 67 (.agg #[.bool false, .slice p66 (dig B16 dq).length c66, .int .i64 0]) ⟨b5, b4⟩ ?_
              refine sxr [13] ?_
              refine rd1 (fun Kx hKx => ?_)
              refine sek 68 10 #[.agg #[.bool false, .slice p66 (dig B16 dq).length c66, .int .i64 0]] ?_
              ((with_reducible refine ((HD _ p66 c66 x66.rd).out).mono ?_))
              rintro eV17 V17 ⟨p68, c68, rfl, hr_x68, hc_x68, hf_x68, hbV17⟩
              have hzV17 := hbV17.size
              have x68 := rf_of hr_x68 hc_x68 hf_x68
              clear hr_x68 hc_x68 hf_x68
              have lx68 := fun h => x68.lt h
              refine ⟨.agg #[.bool D.neg, .slice p68 (dig B16 D.m).length c68, .int .i64 D.e], rfl, ?_⟩
              replace b5 := (b5.past hbV17)
              replace b4 := (b4.past hbV17)
              refine hKx.out _ _ ⟨b5, b4⟩ ?_
              clear hKx Kx
              refine sxr [14] ?_
              refine rd1 (fun Kx hKx => ?_)
              replace x63 := (x63.past (bthru (bthru hbV15 hbV16) hbV17))
              refine sek 69 9 #[.agg #[.bool C.neg, .slice p63 (dig B16 C.m).length c63, .int .i64 C.e], .agg #[.bool D.neg, .slice p68 (dig B16 D.m).length c68, .int .i64 D.e]] ?_
              ((with_reducible refine ((HS _ p63 c63 p68 c68 x63.rd x68.rd).out).mono ?_))
              rintro eV18 V18 ⟨p69, c69, rfl, hr_x69, hc_x69, hf_x69, hbV18⟩
              have hzV18 := hbV18.size
              have x69 := rf_of hr_x69 hc_x69 hf_x69
              clear hr_x69 hc_x69 hf_x69
              have lx69 := fun h => x69.lt h
              refine ⟨.agg #[.bool S.neg, .slice p69 (dig B16 S.m).length c69, .int .i64 S.e], rfl, ?_⟩
              replace b5 := (b5.past hbV18)
              replace b4 := (b4.past hbV18)
              refine hKx.out _ _ ⟨b5, b4⟩ ?_
              clear hKx Kx
              refine sxr [16] ?_
              refine rd1 (fun Kx hKx => ?_)
              replace b14 := (b14.past (bthru (bthru hbV16 hbV17) hbV18))
              refine ssk none b14 hT35 0 #[.bool S.neg, .slice p69 (dig B16 S.m).length c69, .int .i64 S.e] #[.bool S.neg, .slice p69 (dig B16 S.m).length c69, .int .i64 S.e] ?_
              have boV19 := b14
              clear b14
              intro V19 hOV19 b14
              have hzV19 := hOV19.size
              replace b5 := (b5.only hOV19 (by omega))
              replace b4 := (b4.only hOV19 (by omega))
              refine hKx.out _ _ ⟨b5, b4⟩ ?_
              clear hKx Kx
              refine sx_done (by kernel_rfl) ?_
              replace x59 := (x59.past ((bthru (bthru (bthru (bthru hbV14 hbV15) hbV16) hbV17) hbV18).trans (hOV19.below (by omega))))
              replace x63 := ((x63.past hbV18).only hOV19 (fun h => by have := lx63 h; omega))
              replace x66 := ((x66.past (bthru hbV17 hbV18)).only hOV19 (fun h => by have := lx66 h; omega))
              replace x68 := ((x68.past hbV18).only hOV19 (fun h => by have := lx68 h; omega))
              replace x69 := (x69.only hOV19 (fun h => by have := lx69 h; omega))
              exact ⟨rfl, V14.heap.size, p59, c59, p63, c63, p66, c66, p68, c68, p69, c69, by kernel_rfl, b14, (x59.mono (by omega)), (x63.mono (by omega)), (x66.mono (by omega)), (x68.mono (by omega)), (x69.mono (by omega)), ((bthru (bthru (bthru (bthru (bthru (bthru hbV12 hbV13) hbV14) hbV15) hbV16) hbV17) hbV18).trans (hOV19.below (by omega))), by omega⟩
            refine rd1 (fun Kx hKx => ?_)
            refine snk 14 #[.bool false, .slice none 0 0, .int .i64 0] 35 (fun V14 hbV14 hzV14 b14 => ?_)
            replace b5 := (b5.past hbV14)
            replace b4 := (b4.past hbV14)
            refine hKx.out _ _ ⟨b5, b4⟩ ?_
            clear hKx Kx
            refine sxr [8] ?_
            refine rd1 (fun Kx hKx => ?_)
            replace x59 := (x59.past hbV14)
            refine sek 63 10 #[.agg #[.bool r.g, .slice p59 (dig B16 nr).length c59, .int .i64 r.e]] ?_
            ((with_reducible refine ((HC _ p59 c59 x59.rd).out).mono ?_))
            rintro eV15 V15 ⟨p63, c63, rfl, hr_x63, hc_x63, hf_x63, hbV15⟩
            have hzV15 := hbV15.size
            have x63 := rf_of hr_x63 hc_x63 hf_x63
            clear hr_x63 hc_x63 hf_x63
            have lx63 := fun h => x63.lt h
            refine ⟨.agg #[.bool C.neg, .slice p63 (dig B16 C.m).length c63, .int .i64 C.e], rfl, ?_⟩
            replace b5 := (b5.past hbV15)
            replace b4 := (b4.past hbV15)
            refine hKx.out _ _ ⟨b5, b4⟩ ?_
            clear hKx Kx
            refine sxr [11] ?_
            refine rd1 (fun Kx hKx => ?_)
            replace hq := (hq.past (bthru (bthru (bthru (bthru (bthru ((bthru (bthru ((bthru hbV5 hbV6).trans (hOV7.below (by omega))) hbV8) hbV9).trans (hOV10.below (by omega))) hbV11) hbV12) hbV13) hbV14) hbV15))
            refine sek 66 11 #[.slice q.q q.ys.length q.d] ?_
            ((with_reducible refine ((HN4 _ hq).out).mono ?_))
            rintro eV16 V16 ⟨p66, c66, rfl, x66, hbV16⟩
            have hzV16 := hbV16.size
            have lx66 := fun h => x66.lt h
            refine ⟨.slice p66 (dig B16 dq).length c66, rfl, ?_⟩
            replace b5 := (b5.past hbV16)
            replace b4 := (b4.past hbV16)
            refine hKx.out _ _ ⟨b5, b4⟩ ?_
            clear hKx Kx
            refine tk 12 67 (.agg #[.bool false, .slice p66 (dig B16 dq).length c66, .int .i64 0]) ⟨b5, b4⟩ ?_
            refine sxr [13] ?_
            refine rd1 (fun Kx hKx => ?_)
            refine sek 68 10 #[.agg #[.bool false, .slice p66 (dig B16 dq).length c66, .int .i64 0]] ?_
            ((with_reducible refine ((HD _ p66 c66 x66.rd).out).mono ?_))
            rintro eV17 V17 ⟨p68, c68, rfl, hr_x68, hc_x68, hf_x68, hbV17⟩
            have hzV17 := hbV17.size
            have x68 := rf_of hr_x68 hc_x68 hf_x68
            clear hr_x68 hc_x68 hf_x68
            have lx68 := fun h => x68.lt h
            refine ⟨.agg #[.bool D.neg, .slice p68 (dig B16 D.m).length c68, .int .i64 D.e], rfl, ?_⟩
            replace b5 := (b5.past hbV17)
            replace b4 := (b4.past hbV17)
            refine hKx.out _ _ ⟨b5, b4⟩ ?_
            clear hKx Kx
            refine sxr [14] ?_
            refine rd1 (fun Kx hKx => ?_)
            replace x63 := (x63.past (bthru hbV16 hbV17))
            refine sek 69 9 #[.agg #[.bool C.neg, .slice p63 (dig B16 C.m).length c63, .int .i64 C.e], .agg #[.bool D.neg, .slice p68 (dig B16 D.m).length c68, .int .i64 D.e]] ?_
            ((with_reducible refine ((HS _ p63 c63 p68 c68 x63.rd x68.rd).out).mono ?_))
            rintro eV18 V18 ⟨p69, c69, rfl, hr_x69, hc_x69, hf_x69, hbV18⟩
            have hzV18 := hbV18.size
            have x69 := rf_of hr_x69 hc_x69 hf_x69
            clear hr_x69 hc_x69 hf_x69
            have lx69 := fun h => x69.lt h
            refine ⟨.agg #[.bool S.neg, .slice p69 (dig B16 S.m).length c69, .int .i64 S.e], rfl, ?_⟩
            replace b5 := (b5.past hbV18)
            replace b4 := (b4.past hbV18)
            refine hKx.out _ _ ⟨b5, b4⟩ ?_
            clear hKx Kx
            refine sxr [16] ?_
            refine rd1 (fun Kx hKx => ?_)
            replace b14 := (b14.past (bthru (bthru (bthru hbV15 hbV16) hbV17) hbV18))
            refine ssk none b14 hT35 0 #[.bool S.neg, .slice p69 (dig B16 S.m).length c69, .int .i64 S.e] #[.bool S.neg, .slice p69 (dig B16 S.m).length c69, .int .i64 S.e] ?_
            have boV19 := b14
            clear b14
            intro V19 hOV19 b14
            have hzV19 := hOV19.size
            replace b5 := (b5.only hOV19 (by omega))
            replace b4 := (b4.only hOV19 (by omega))
            refine hKx.out _ _ ⟨b5, b4⟩ ?_
            clear hKx Kx
            refine sx_done (by kernel_rfl) ?_
            replace x59 := ((x59.past (bthru (bthru (bthru hbV15 hbV16) hbV17) hbV18)).only hOV19 (fun h => by have := lx59 h; omega))
            replace x63 := ((x63.past hbV18).only hOV19 (fun h => by have := lx63 h; omega))
            replace x66 := ((x66.past (bthru hbV17 hbV18)).only hOV19 (fun h => by have := lx66 h; omega))
            replace x68 := ((x68.past hbV18).only hOV19 (fun h => by have := lx68 h; omega))
            replace x69 := (x69.only hOV19 (fun h => by have := lx69 h; omega))
            exact ⟨rfl, V13.heap.size, p59, c59, p63, c63, p66, c66, p68, c68, p69, c69, by kernel_rfl, b14, (x59.mono (by omega)), (x63.mono (by omega)), (x66.mono (by omega)), (x68.mono (by omega)), (x69.mono (by omega)), ((bthru (bthru (bthru (bthru (bthru (bthru hbV12 hbV13) hbV14) hbV15) hbV16) hbV17) hbV18).trans (hOV19.below (by omega))), by omega⟩
          refine rd1 (fun Kx hKx => ?_)
          refine snk 14 #[.bool false, .slice none 0 0, .int .i64 0] 35 (fun V13 hbV13 hzV13 b14 => ?_)
          replace b5 := (b5.past hbV13)
          replace b4 := (b4.past hbV13)
          refine hKx.out _ _ ⟨b5, b4⟩ ?_
          clear hKx Kx
          refine sxr [4] ?_
          refine rd1 (fun Kx hKx => ?_)
          replace hr := (hr.past (bthru (bthru (bthru ((bthru hbV8 hbV9).trans (hOV10.below (by omega))) hbV11) hbV12) hbV13))
          refine sek 59 11 #[.slice r.p r.xs.length r.c] ?_
          ((with_reducible refine ((HN3 _ hr).out).mono ?_))
          rintro eV14 V14 ⟨p59, c59, rfl, x59, hbV14⟩
          have hzV14 := hbV14.size
          have lx59 := fun h => x59.lt h
          refine ⟨.slice p59 (dig B16 nr).length c59, rfl, ?_⟩
          replace b5 := (b5.past hbV14)
          replace b4 := (b4.past hbV14)
          refine hKx.out _ _ ⟨b5, b4⟩ ?_
          clear hKx Kx
          refine tk 7 62 (.agg #[.bool r.g, .slice p59 (dig B16 nr).length c59, .int .i64 r.e]) ⟨b5, b4⟩ ?_
          refine sxr [8] ?_
          refine rd1 (fun Kx hKx => ?_)
          refine sek 63 10 #[.agg #[.bool r.g, .slice p59 (dig B16 nr).length c59, .int .i64 r.e]] ?_
          ((with_reducible refine ((HC _ p59 c59 x59.rd).out).mono ?_))
          rintro eV15 V15 ⟨p63, c63, rfl, hr_x63, hc_x63, hf_x63, hbV15⟩
          have hzV15 := hbV15.size
          have x63 := rf_of hr_x63 hc_x63 hf_x63
          clear hr_x63 hc_x63 hf_x63
          have lx63 := fun h => x63.lt h
          refine ⟨.agg #[.bool C.neg, .slice p63 (dig B16 C.m).length c63, .int .i64 C.e], rfl, ?_⟩
          replace b5 := (b5.past hbV15)
          replace b4 := (b4.past hbV15)
          refine hKx.out _ _ ⟨b5, b4⟩ ?_
          clear hKx Kx
          refine sxr [11] ?_
          refine rd1 (fun Kx hKx => ?_)
          replace hq := (hq.past (bthru (bthru (bthru (bthru (bthru ((bthru (bthru ((bthru hbV5 hbV6).trans (hOV7.below (by omega))) hbV8) hbV9).trans (hOV10.below (by omega))) hbV11) hbV12) hbV13) hbV14) hbV15))
          refine sek 66 11 #[.slice q.q q.ys.length q.d] ?_
          ((with_reducible refine ((HN4 _ hq).out).mono ?_))
          rintro eV16 V16 ⟨p66, c66, rfl, x66, hbV16⟩
          have hzV16 := hbV16.size
          have lx66 := fun h => x66.lt h
          refine ⟨.slice p66 (dig B16 dq).length c66, rfl, ?_⟩
          replace b5 := (b5.past hbV16)
          replace b4 := (b4.past hbV16)
          refine hKx.out _ _ ⟨b5, b4⟩ ?_
          clear hKx Kx
          refine tk 12 67 (.agg #[.bool false, .slice p66 (dig B16 dq).length c66, .int .i64 0]) ⟨b5, b4⟩ ?_
          refine sxr [13] ?_
          refine rd1 (fun Kx hKx => ?_)
          refine sek 68 10 #[.agg #[.bool false, .slice p66 (dig B16 dq).length c66, .int .i64 0]] ?_
          ((with_reducible refine ((HD _ p66 c66 x66.rd).out).mono ?_))
          rintro eV17 V17 ⟨p68, c68, rfl, hr_x68, hc_x68, hf_x68, hbV17⟩
          have hzV17 := hbV17.size
          have x68 := rf_of hr_x68 hc_x68 hf_x68
          clear hr_x68 hc_x68 hf_x68
          have lx68 := fun h => x68.lt h
          refine ⟨.agg #[.bool D.neg, .slice p68 (dig B16 D.m).length c68, .int .i64 D.e], rfl, ?_⟩
          replace b5 := (b5.past hbV17)
          replace b4 := (b4.past hbV17)
          refine hKx.out _ _ ⟨b5, b4⟩ ?_
          clear hKx Kx
          refine sxr [14] ?_
          refine rd1 (fun Kx hKx => ?_)
          replace x63 := (x63.past (bthru hbV16 hbV17))
          refine sek 69 9 #[.agg #[.bool C.neg, .slice p63 (dig B16 C.m).length c63, .int .i64 C.e], .agg #[.bool D.neg, .slice p68 (dig B16 D.m).length c68, .int .i64 D.e]] ?_
          ((with_reducible refine ((HS _ p63 c63 p68 c68 x63.rd x68.rd).out).mono ?_))
          rintro eV18 V18 ⟨p69, c69, rfl, hr_x69, hc_x69, hf_x69, hbV18⟩
          have hzV18 := hbV18.size
          have x69 := rf_of hr_x69 hc_x69 hf_x69
          clear hr_x69 hc_x69 hf_x69
          have lx69 := fun h => x69.lt h
          refine ⟨.agg #[.bool S.neg, .slice p69 (dig B16 S.m).length c69, .int .i64 S.e], rfl, ?_⟩
          replace b5 := (b5.past hbV18)
          replace b4 := (b4.past hbV18)
          refine hKx.out _ _ ⟨b5, b4⟩ ?_
          clear hKx Kx
          refine sxr [16] ?_
          refine rd1 (fun Kx hKx => ?_)
          replace b14 := (b14.past (bthru (bthru (bthru (bthru hbV14 hbV15) hbV16) hbV17) hbV18))
          refine ssk none b14 hT35 0 #[.bool S.neg, .slice p69 (dig B16 S.m).length c69, .int .i64 S.e] #[.bool S.neg, .slice p69 (dig B16 S.m).length c69, .int .i64 S.e] ?_
          have boV19 := b14
          clear b14
          intro V19 hOV19 b14
          have hzV19 := hOV19.size
          replace b5 := (b5.only hOV19 (by omega))
          replace b4 := (b4.only hOV19 (by omega))
          refine hKx.out _ _ ⟨b5, b4⟩ ?_
          clear hKx Kx
          refine sx_done (by kernel_rfl) ?_
          replace x59 := ((x59.past (bthru (bthru (bthru hbV15 hbV16) hbV17) hbV18)).only hOV19 (fun h => by have := lx59 h; omega))
          replace x63 := ((x63.past hbV18).only hOV19 (fun h => by have := lx63 h; omega))
          replace x66 := ((x66.past (bthru hbV17 hbV18)).only hOV19 (fun h => by have := lx66 h; omega))
          replace x68 := ((x68.past hbV18).only hOV19 (fun h => by have := lx68 h; omega))
          replace x69 := (x69.only hOV19 (fun h => by have := lx69 h; omega))
          exact ⟨rfl, V12.heap.size, p59, c59, p63, c63, p66, c66, p68, c68, p69, c69, by kernel_rfl, b14, (x59.mono (by omega)), (x63.mono (by omega)), (x66.mono (by omega)), (x68.mono (by omega)), (x69.mono (by omega)), ((bthru (bthru (bthru (bthru (bthru (bthru hbV12 hbV13) hbV14) hbV15) hbV16) hbV17) hbV18).trans (hOV19.below (by omega))), by omega⟩
        rintro _ V12 ⟨kb14, p59, c59, p63, c63, p66, c66, p68, c68, p69, c69, rfl, b14, x59, x63, x66, x68, x69, hbV12, hkb14⟩
        refine hGx _ _ ?_
        clear hGx Gx
        have hzV12 := hbV12.size
        have hlb14 := b14.lt
        have lx59 := fun h => x59.lt h
        have lx63 := fun h => x63.lt h
        have lx66 := fun h => x66.lt h
        have lx68 := fun h => x68.lt h
        have lx69 := fun h => x69.lt h
        refine sx_then ?_
        refine wp_seq ?_
        refine sx_region ?_
        replace b9 := (b9.past (bthru (bthru ((bthru hbV8 hbV9).trans (hOV10.below (by omega))) hbV11) hbV12))
        refine sv 71 (.agg #[.bool x.neg, .slice p24 (dig B32 x.m).length c24, .int .i64 x.e]) ?_ (hr := (exec_ld (by kernel_rfl) (run_ld b9 hT30 0 [.bool x.neg, .slice p24 (dig B32 x.m).length c24, .int .i64 x.e] (by kernel_rfl) (by kernel_rfl))))
        replace b11 := (b11.past (bthru hbV11 hbV12))
        refine sv 72 (.agg #[.bool y.neg, .slice p31 (dig B32 y.m).length c31, .int .i64 y.e]) ?_ (hr := (exec_ld (by kernel_rfl) (run_ld b11 hT30 0 [.bool y.neg, .slice p31 (dig B32 y.m).length c31, .int .i64 y.e] (by kernel_rfl) (by kernel_rfl))))
        replace ho24 := (ho24.past (bthru (bthru ((bthru (bthru (hbV6.trans (hOV7.below (by omega))) hbV8) hbV9).trans (hOV10.below (by omega))) hbV11) hbV12))
        replace ho31 := (ho31.past (bthru (bthru (hbV9.trans (hOV10.below (by omega))) hbV11) hbV12))
        replace hT := (hT.past (bthru (bthru ((bthru hbV8 hbV9).trans (hOV10.below (by omega))) hbV11) hbV12))
        refine se 73 12 #[.agg #[.bool x.neg, .slice p24 (dig B32 x.m).length c24, .int .i64 x.e], .agg #[.bool y.neg, .slice p31 (dig B32 y.m).length c31, .int .i64 y.e]] (fun Gx hGx => ?_)
        ((with_reducible refine ((HCC _ _ _ p24 c24 p31 c31 ho24 ho31 hT).out).mono ?_))
        rintro eV13 V13 ⟨rfl, hbV13⟩
        have hzV13 := hbV13.size
        refine ⟨.tuple #[.int .i64 cv, .int .i64 0], rfl, hGx _ _ ?_⟩
        clear hGx Gx
        refine sv 70 (.tuple #[.int .i64 cv, .int .i64 0]) ?_
        refine sv 74 (.int .i64 cv) ?_
        refine sv 75 (.int .i64 0) ?_
        refine sv 15 (.int .i64 cv) ?_
        refine sv 16 (.int .i64 0) ?_
        refine sx_nil ?_
        refine sx_then ?_
        refine wp_seq ?_
        refine sx_region ?_
        replace b13 := (b13.past (bthru hbV12 hbV13))
        refine sv 76 (.agg #[.bool P.neg, .slice p54 (dig B16 P.m).length c54, .int .i64 P.e]) ?_ (hr := (exec_ld (by kernel_rfl) (run_ld b13 hT35 0 [.bool P.neg, .slice p54 (dig B16 P.m).length c54, .int .i64 P.e] (by kernel_rfl) (by kernel_rfl))))
        replace b14 := (b14.past hbV13)
        refine sv 77 (.agg #[.bool S.neg, .slice p69 (dig B16 S.m).length c69, .int .i64 S.e]) ?_ (hr := (exec_ld (by kernel_rfl) (run_ld b14 hT35 0 [.bool S.neg, .slice p69 (dig B16 S.m).length c69, .int .i64 S.e] (by kernel_rfl) (by kernel_rfl))))
        replace x54 := (x54.past (bthru hbV12 hbV13))
        replace x69 := (x69.past hbV13)
        refine se 78 13 #[.agg #[.bool P.neg, .slice p54 (dig B16 P.m).length c54, .int .i64 P.e], .agg #[.bool S.neg, .slice p69 (dig B16 S.m).length c69, .int .i64 S.e]] (fun Gx hGx => ?_)
        ((with_reducible refine ((HM _ p54 c54 p69 c69 x54.rd x69.rd x69.cap).out).mono ?_))
        rintro eV14 V14 ⟨rfl, hbV14⟩
        have hzV14 := hbV14.size
        refine ⟨.int .i64 mv, rfl, hGx _ _ ?_⟩
        clear hGx Gx
        refine sv 17 (.int .i64 mv) ?_
        refine sx_nil ?_
        refine sx_then ?_
        refine wp_seq ?_
        refine sx_region ?_
        refine sv 79 (.int .i64 0) ?_
        refine sv 80 (.bool true) ?_
        refine sv 81 (.bool true) ?_
        refine sv 82 (.int .i64 mv) ?_
        refine sv 83 (.bool true) ?_ (hr := ((show _ = Result.ok (Next.value (.bool (decide (mv < 0)))) _ from (by kernel_rfl)).trans (congrArg (fun z => Result.ok (Next.value (.bool z)) _) (show (decide (mv < 0)) = true from decide_eq_true m1))))
        refine sv 84 (.bool true) ?_
        refine sv 85 (.int .i64 cv) ?_
        refine sv 86 (.bool true) ?_ (hr := ((show _ = Result.ok (Next.value (.bool (decide (cv ≤ 0)))) _ from (by kernel_rfl)).trans (congrArg (fun z => Result.ok (Next.value (.bool z)) _) (show (decide (cv ≤ 0)) = true from decide_eq_true c1))))
        refine sv 87 (.bool true) ?_
        refine sv 88 (.bool true) ?_
        refine so (some 89) ?_
        refine so (some 90) ?_
        refine so (some 91) ?_
        refine so (some 92) ?_
        refine so (some 93) ?_
        refine so (some 94) ?_
        refine sv 95 (.bool true) ?_
        refine sv 96 (.bool true) ?_
        refine so (some 97) ?_
        refine so (some 98) ?_
        refine so (some 99) ?_
        refine so (some 100) ?_
        refine so (some 101) ?_
        refine so (some 102) ?_
        refine sv 103 (.bool true) ?_
        refine sv 104 (.bool true) ?_
        refine sv 8 (.bool true) ?_
        refine sx_nil ?_
        refine sx_then ?_
        refine wp_ret ?_
        repeat (first | with_reducible refine sx_thenret ?_ | with_reducible refine sx_blockret ?_)
        refine bodyPost_ret (v := .bool true) (by simp [results, Tryd.results3, go_sem]) rfl ?_
        exact ⟨rfl, (bthru (bthru (bthru (bthru ((bthru (bthru ((bthru (bthru (bthru (bthru (bthru hbV1 hbV2) hbV3) hbV4) hbV5) hbV6).trans (hOV7.below (by omega))) hbV8) hbV9).trans (hOV10.below (by omega))) hbV11) hbV12) hbV13) hbV14)⟩
      · by_cases m2 : 0 < mv
        · have c1 := hm.2.1 m2
          have hT3 : SxOne Tryd.prog 3 := sxOne_of (by kernel_rfl) (by kernel_rfl)
          have hT4 : SxOne Tryd.prog 4 := sxOne_of (by kernel_rfl) (by kernel_rfl)
          have hT23 : SxOne Tryd.prog 23 := sxOne_of (by kernel_rfl) (by kernel_rfl)
          have hT25 : SxAgg Tryd.prog 25 4 := sxAgg_of (by kernel_rfl) (by kernel_rfl)
          have hT27 : SxAgg Tryd.prog 27 5 := sxAgg_of (by kernel_rfl) (by kernel_rfl)
          have hT30 : SxAgg Tryd.prog 30 3 := sxAgg_of (by kernel_rfl) (by kernel_rfl)
          have hT35 : SxAgg Tryd.prog 35 3 := sxAgg_of (by kernel_rfl) (by kernel_rfl)
          refine calls_of_wp Tryd.func3 rfl ?_
          refine sx_frame (a' := ⟨((.agg #[.bool q.g, .slice q.p q.xs.length q.c, .slice q.q q.ys.length q.d, .int .i64 q.e]) :: (.agg #[.bool r.g, .slice r.p r.xs.length r.c, .slice r.q r.ys.length r.d, .int .i64 r.e]) :: (.agg #[.int .i64 g.rad, .int .i64 g.digs, .int .i64 g.lo, .int .i64 g.hi, .bool g.grad]) :: (.int .i64 way) :: undef :: undef :: undef :: undef :: undef :: undef :: undef :: undef :: undef :: undef :: undef :: undef :: undef :: undef :: undef :: undef :: undef :: undef :: undef :: undef :: undef :: undef :: undef :: undef :: undef :: undef :: undef :: undef :: undef :: undef :: undef :: undef :: undef :: undef :: undef :: undef :: undef :: undef :: undef :: undef :: undef :: undef :: undef :: undef :: undef :: undef :: undef :: undef :: undef :: undef :: undef :: undef :: undef :: undef :: undef :: undef :: undef :: undef :: undef :: undef :: undef :: undef :: undef :: undef :: undef :: undef :: undef :: undef :: undef :: undef :: undef :: undef :: undef :: undef :: undef :: undef :: undef :: undef :: undef :: undef :: undef :: undef :: undef :: undef :: undef :: undef :: undef :: undef :: undef :: undef :: undef :: undef :: undef :: undef :: undef :: undef :: undef :: undef :: undef :: undef :: undef :: []).toArray, []⟩) (by kernel_rfl) ?_
          refine wp_seq ?_
          refine sx_region ?_
          refine sn 4 #[.bool q.g, .slice q.p q.xs.length q.c, .slice q.q q.ys.length q.d, .int .i64 q.e] 25 (fun V1 hbV1 hzV1 b4 => ?_)
          refine sn 5 #[.bool r.g, .slice r.p r.xs.length r.c, .slice r.q r.ys.length r.d, .int .i64 r.e] 25 (fun V2 hbV2 hzV2 b5 => ?_)
          refine sn 6 #[.int .i64 g.rad, .int .i64 g.digs, .int .i64 g.lo, .int .i64 g.hi, .bool g.grad] 27 (fun V3 hbV3 hzV3 b6 => ?_)
          refine sv 8 (.bool false) ?_
          refine sx_nil ?_
          refine sx_then ?_
          refine wp_seq ?_
          refine wp_seq ?_
          refine sx_region ?_
          refine se 18 7 #[] (fun Gx hGx => ?_)
          ((with_reducible refine (gridBegun_any _).mono ?_))
          rintro eV4 V4 ⟨rfl, hbV4⟩
          have hzV4 := hbV4.size
          refine ⟨.bool true, rfl, hGx _ _ ?_⟩
          clear hGx Gx
          refine sv 19 (.bool false) ?_
          refine sx_nil ?_
          refine sx_then ?_
          refine wp_cond_false (by kernel_rfl) ?_
          refine wp_skip ?_
          refine sx_then ?_
          refine wp_seq ?_
          refine sx_region ?_
          replace b4 := (b4.past (bthru (bthru hbV2 hbV3) hbV4))
          refine sv 21 (.agg #[.bool q.g, .slice q.p q.xs.length q.c, .slice q.q q.ys.length q.d, .int .i64 q.e]) ?_ (hr := (exec_ld (by kernel_rfl) (run_ld b4 hT25 0 [.bool q.g, .slice q.p q.xs.length q.c, .slice q.q q.ys.length q.d, .int .i64 q.e] (by kernel_rfl) (by kernel_rfl))))
          replace b6 := (b6.past hbV4)
          refine sv 22 (.agg #[.int .i64 g.rad, .int .i64 g.digs, .int .i64 g.lo, .int .i64 g.hi, .bool g.grad]) ?_ (hr := (exec_ld (by kernel_rfl) (run_ld b6 hT27 0 [.int .i64 g.rad, .int .i64 g.digs, .int .i64 g.lo, .int .i64 g.hi, .bool g.grad] (by kernel_rfl) (by kernel_rfl))))
          refine sv 23 (.int .i64 way) ?_
          replace hq := (hq.past (bthru (bthru (bthru hbV1 hbV2) hbV3) hbV4))
          replace hT := (hT.past (bthru (bthru (bthru hbV1 hbV2) hbV3) hbV4))
          refine se 24 8 #[.agg #[.bool q.g, .slice q.p q.xs.length q.c, .slice q.q q.ys.length q.d, .int .i64 q.e], .agg #[.int .i64 g.rad, .int .i64 g.digs, .int .i64 g.lo, .int .i64 g.hi, .bool g.grad], .int .i64 way] (fun Gx hGx => ?_)
          ((with_reducible refine ((HQ _ hq hT).out).mono ?_))
          rintro eV5 V5 ⟨p24, c24, rfl, ho24, hbV5⟩
          have hzV5 := hbV5.size
          refine ⟨.tuple #[.agg #[.bool x.neg, .slice p24 (dig B32 x.m).length c24, .int .i64 x.e], .bool true], rfl, hGx _ _ ?_⟩
          clear hGx Gx
          refine sv 20 (.tuple #[.agg #[.bool x.neg, .slice p24 (dig B32 x.m).length c24, .int .i64 x.e], .bool true]) ?_
          refine sv 25 (.agg #[.bool x.neg, .slice p24 (dig B32 x.m).length c24, .int .i64 x.e]) ?_
          refine sv 26 (.bool true) ?_
          refine sn 9 #[.bool false, .slice none 0 0, .int .i64 0] 30 (fun V6 hbV6 hzV6 b9 => ?_)
          refine ss none b9 hT30 0 #[.bool x.neg, .slice p24 (dig B32 x.m).length c24, .int .i64 x.e] #[.bool x.neg, .slice p24 (dig B32 x.m).length c24, .int .i64 x.e] ?_
          have boV7 := b9
          clear b9
          intro V7 hOV7 b9
          have hzV7 := hOV7.size
          refine sv 10 (.bool true) ?_
          refine sx_nil ?_
          refine sx_then ?_
          refine wp_seq ?_
          refine sx_region ?_
          replace b5 := (b5.past ((bthru (bthru (bthru hbV3 hbV4) hbV5) hbV6).trans (hOV7.below (by omega))))
          refine sv 28 (.agg #[.bool r.g, .slice r.p r.xs.length r.c, .slice r.q r.ys.length r.d, .int .i64 r.e]) ?_ (hr := (exec_ld (by kernel_rfl) (run_ld b5 hT25 0 [.bool r.g, .slice r.p r.xs.length r.c, .slice r.q r.ys.length r.d, .int .i64 r.e] (by kernel_rfl) (by kernel_rfl))))
          replace b6 := (b6.past ((bthru hbV5 hbV6).trans (hOV7.below (by omega))))
          refine sv 29 (.agg #[.int .i64 g.rad, .int .i64 g.digs, .int .i64 g.lo, .int .i64 g.hi, .bool g.grad]) ?_ (hr := (exec_ld (by kernel_rfl) (run_ld b6 hT27 0 [.int .i64 g.rad, .int .i64 g.digs, .int .i64 g.lo, .int .i64 g.hi, .bool g.grad] (by kernel_rfl) (by kernel_rfl))))
          refine sv 30 (.int .i64 way) ?_
          replace hr := (hr.past ((bthru (bthru (bthru (bthru (bthru hbV1 hbV2) hbV3) hbV4) hbV5) hbV6).trans (hOV7.below (by omega))))
          replace hT := (hT.past ((bthru hbV5 hbV6).trans (hOV7.below (by omega))))
          refine se 31 8 #[.agg #[.bool r.g, .slice r.p r.xs.length r.c, .slice r.q r.ys.length r.d, .int .i64 r.e], .agg #[.int .i64 g.rad, .int .i64 g.digs, .int .i64 g.lo, .int .i64 g.hi, .bool g.grad], .int .i64 way] (fun Gx hGx => ?_)
          ((with_reducible refine ((HR _ hr hT).out).mono ?_))
          rintro eV8 V8 ⟨p31, c31, rfl, ho31, hbV8⟩
          have hzV8 := hbV8.size
          refine ⟨.tuple #[.agg #[.bool y.neg, .slice p31 (dig B32 y.m).length c31, .int .i64 y.e], .bool true], rfl, hGx _ _ ?_⟩
          clear hGx Gx
          refine sv 27 (.tuple #[.agg #[.bool y.neg, .slice p31 (dig B32 y.m).length c31, .int .i64 y.e], .bool true]) ?_
          refine sv 32 (.agg #[.bool y.neg, .slice p31 (dig B32 y.m).length c31, .int .i64 y.e]) ?_
          refine sv 33 (.bool true) ?_
          refine sn 11 #[.bool false, .slice none 0 0, .int .i64 0] 30 (fun V9 hbV9 hzV9 b11 => ?_)
          refine ss none b11 hT30 0 #[.bool y.neg, .slice p31 (dig B32 y.m).length c31, .int .i64 y.e] #[.bool y.neg, .slice p31 (dig B32 y.m).length c31, .int .i64 y.e] ?_
          have boV10 := b11
          clear b11
          intro V10 hOV10 b11
          have hzV10 := hOV10.size
          refine sv 12 (.bool true) ?_
          refine sx_nil ?_
          refine sx_then ?_
          refine wp_seq ?_
          refine wp_seq ?_
          refine sx_region ?_
          refine sv 34 (.bool true) ?_
          refine sv 35 (.bool false) ?_
          refine sv 36 (.bool false) ?_
          refine sv 37 (.bool true) ?_
          refine sv 38 (.bool false) ?_
          refine sv 39 (.bool false) ?_
          refine sx_nil ?_
          refine sx_then ?_
          refine wp_cond_false (by kernel_rfl) ?_
          refine wp_skip ?_
          refine sx_then ?_
          refine wp_seq ?_
          refine sx_cutg (R := fun a' w' => ∃ (kb13 : Nat) (p44 : Option Addr) (c44 : Nat) (p48 : Option Addr) (c48 : Nat) (p51 : Option Addr) (c51 : Nat) (p53 : Option Addr) (c53 : Nat) (p54 : Option Addr) (c54 : Nat), a' = ⟨((.agg #[.bool q.g, .slice q.p q.xs.length q.c, .slice q.q q.ys.length q.d, .int .i64 q.e]) :: (.agg #[.bool r.g, .slice r.p r.xs.length r.c, .slice r.q r.ys.length r.d, .int .i64 r.e]) :: (.agg #[.int .i64 g.rad, .int .i64 g.digs, .int .i64 g.lo, .int .i64 g.hi, .bool g.grad]) :: (.int .i64 way) :: (.pointer (some ⟨w.heap.size, 0, none⟩)) :: (.pointer (some ⟨V1.heap.size, 0, none⟩)) :: (.pointer (some ⟨V2.heap.size, 0, none⟩)) :: undef :: (.bool false) :: (.pointer (some ⟨V5.heap.size, 0, none⟩)) :: (.bool true) :: (.pointer (some ⟨V8.heap.size, 0, none⟩)) :: (.bool true) :: (.pointer (some ⟨kb13, 0, none⟩)) :: undef :: undef :: undef :: undef :: (.bool true) :: (.bool false) :: (.tuple #[.agg #[.bool x.neg, .slice p24 (dig B32 x.m).length c24, .int .i64 x.e], .bool true]) :: (.agg #[.bool q.g, .slice q.p q.xs.length q.c, .slice q.q q.ys.length q.d, .int .i64 q.e]) :: (.agg #[.int .i64 g.rad, .int .i64 g.digs, .int .i64 g.lo, .int .i64 g.hi, .bool g.grad]) :: (.int .i64 way) :: (.tuple #[.agg #[.bool x.neg, .slice p24 (dig B32 x.m).length c24, .int .i64 x.e], .bool true]) :: (.agg #[.bool x.neg, .slice p24 (dig B32 x.m).length c24, .int .i64 x.e]) :: (.bool true) :: (.tuple #[.agg #[.bool y.neg, .slice p31 (dig B32 y.m).length c31, .int .i64 y.e], .bool true]) :: (.agg #[.bool r.g, .slice r.p r.xs.length r.c, .slice r.q r.ys.length r.d, .int .i64 r.e]) :: (.agg #[.int .i64 g.rad, .int .i64 g.digs, .int .i64 g.lo, .int .i64 g.hi, .bool g.grad]) :: (.int .i64 way) :: (.tuple #[.agg #[.bool y.neg, .slice p31 (dig B32 y.m).length c31, .int .i64 y.e], .bool true]) :: (.agg #[.bool y.neg, .slice p31 (dig B32 y.m).length c31, .int .i64 y.e]) :: (.bool true) :: (.bool true) :: (.bool false) :: (.bool false) :: (.bool true) :: (.bool false) :: (.bool false) :: (.pointer (some ⟨w.heap.size, 0, none⟩)) :: (.bool q.g) :: (.pointer (some ⟨w.heap.size, 1, none⟩)) :: (.slice q.p q.xs.length q.c) :: (.slice p44 (dig B16 nq).length c44) :: (.pointer (some ⟨w.heap.size, 3, none⟩)) :: (.int .i64 q.e) :: (.agg #[.bool q.g, .slice p44 (dig B16 nq).length c44, .int .i64 q.e]) :: (.agg #[.bool A.neg, .slice p48 (dig B16 A.m).length c48, .int .i64 A.e]) :: (.pointer (some ⟨V1.heap.size, 2, none⟩)) :: (.slice r.q r.ys.length r.d) :: (.slice p51 (dig B16 dr).length c51) :: (.agg #[.bool false, .slice p51 (dig B16 dr).length c51, .int .i64 0]) :: (.agg #[.bool B.neg, .slice p53 (dig B16 B.m).length c53, .int .i64 B.e]) :: (.agg #[.bool P.neg, .slice p54 (dig B16 P.m).length c54, .int .i64 P.e]) :: undef :: undef :: undef :: undef :: undef :: undef :: undef :: undef :: undef :: undef :: undef :: undef :: undef :: undef :: undef :: undef :: undef :: undef :: undef :: undef :: undef :: undef :: undef :: undef :: undef :: undef :: undef :: undef :: undef :: undef :: undef :: undef :: undef :: undef :: undef :: undef :: undef :: undef :: undef :: undef :: undef :: undef :: undef :: undef :: undef :: undef :: undef :: undef :: undef :: undef :: []).toArray, []⟩ ∧ Bt w' kb13 35 #[.bool P.neg, .slice p54 (dig B16 P.m).length c54, .int .i64 P.e] ∧ Rf w' V10.heap.size p44 c44 (dig B16 nq) ∧ Rf w' V10.heap.size p48 c48 (dig B16 A.m) ∧ Rf w' V10.heap.size p51 c51 (dig B16 dr) ∧ Rf w' V10.heap.size p53 c53 (dig B16 B.m) ∧ Rf w' V10.heap.size p54 c54 (dig B16 P.m) ∧ Below V10.heap.size V10 w' ∧ V10.heap.size ≤ kb13) ?_ (fun Gx hGx => ?_)
          · skip
            replace b4 := (b4.past ((bthru (bthru ((bthru hbV5 hbV6).trans (hOV7.below (by omega))) hbV8) hbV9).trans (hOV10.below (by omega))))
            replace b5 := (b5.past ((bthru hbV8 hbV9).trans (hOV10.below (by omega))))
            obtain ⟨V11, hVV11⟩ : ∃ V, V = (V10).drew := ⟨_, rfl⟩
            have hbV11 : Below (V10).heap.size (V10) V11 := by rw [hVV11]; exact (Below.refl _ _).drew
            have hzV11 : V11.heap.size = (V10).heap.size := by rw [hVV11]; rfl
            replace b4 := (b4.past hbV11)
            replace b5 := (b5.past hbV11)
            refine sxd _ (fun w' => Bt w' w.heap.size 25 #[.bool q.g, .slice q.p q.xs.length q.c, .slice q.q q.ys.length q.d, .int .i64 q.e] ∧ Bt w' V1.heap.size 25 #[.bool r.g, .slice r.p r.xs.length r.c, .slice r.q r.ys.length r.d, .int .i64 r.e]) hVV11 ⟨b4, b5⟩ ?_
            clear hVV11
            refine tk 0 40 (.pointer (some ⟨w.heap.size, 0, none⟩)) ⟨b4, b5⟩ ?_
            refine tk 1 41 (.bool q.g) ⟨b4, b5⟩ ?_ (hy := fun w' hS => (exec_ld (by kernel_rfl) (run_ld1 hS.1 hT4 0 (.bool q.g) (by kernel_rfl))))
            refine tk 2 42 (.pointer (some ⟨w.heap.size, 1, none⟩)) ⟨b4, b5⟩ ?_
            refine tk 3 43 (.slice q.p q.xs.length q.c) ⟨b4, b5⟩ ?_ (hy := fun w' hS => (exec_ld (by kernel_rfl) (run_ld1 hS.1 hT23 1 (.slice q.p q.xs.length q.c) (by kernel_rfl))))
            refine tk 5 45 (.pointer (some ⟨w.heap.size, 3, none⟩)) ⟨b4, b5⟩ ?_
            refine tk 6 46 (.int .i64 q.e) ⟨b4, b5⟩ ?_ (hy := fun w' hS => (exec_ld (by kernel_rfl) (run_ld1 hS.1 hT3 3 (.int .i64 q.e) (by kernel_rfl))))
            refine tk 9 49 (.pointer (some ⟨V1.heap.size, 2, none⟩)) ⟨b4, b5⟩ ?_
            refine tk 10 50 (.slice r.q r.ys.length r.d) ⟨b4, b5⟩ ?_ (hy := fun w' hS => (exec_ld (by kernel_rfl) (run_ld1 hS.2 hT23 2 (.slice r.q r.ys.length r.d) (by kernel_rfl))))
            refine sxr [4, 15] ?_
            refine rd2 (fun Kx hKx => ?_) ?_
            · skip
              replace hq := (hq.past (bthru ((bthru (bthru ((bthru hbV5 hbV6).trans (hOV7.below (by omega))) hbV8) hbV9).trans (hOV10.below (by omega))) hbV11))
              refine sek 44 11 #[.slice q.p q.xs.length q.c] ?_
              ((with_reducible refine ((HN1 _ hq).out).mono ?_))
              rintro eV12 V12 ⟨p44, c44, rfl, x44, hbV12⟩
              have hzV12 := hbV12.size
              have lx44 := fun h => x44.lt h
              refine ⟨.slice p44 (dig B16 nq).length c44, rfl, ?_⟩
              replace b4 := (b4.past hbV12)
              replace b5 := (b5.past hbV12)
              refine hKx.out _ _ ⟨b4, b5⟩ ?_
              clear hKx Kx
              refine tk 7 47 (.agg #[.bool q.g, .slice p44 (dig B16 nq).length c44, .int .i64 q.e]) ⟨b4, b5⟩ ?_
              refine sxr [8, 15] ?_
              refine rd2 (fun Kx hKx => ?_) ?_
              · skip
                refine sek 48 10 #[.agg #[.bool q.g, .slice p44 (dig B16 nq).length c44, .int .i64 q.e]] ?_
                ((with_reducible refine ((HA _ p44 c44 x44.rd).out).mono ?_))
                rintro eV13 V13 ⟨p48, c48, rfl, hr_x48, hc_x48, hf_x48, hbV13⟩
                have hzV13 := hbV13.size
                have x48 := rf_of hr_x48 hc_x48 hf_x48
                clear hr_x48 hc_x48 hf_x48
                have lx48 := fun h => x48.lt h
                refine ⟨.agg #[.bool A.neg, .slice p48 (dig B16 A.m).length c48, .int .i64 A.e], rfl, ?_⟩
                replace b4 := (b4.past hbV13)
                replace b5 := (b5.past hbV13)
                refine hKx.out _ _ ⟨b4, b5⟩ ?_
                clear hKx Kx
                refine sxr [11, 15] ?_
                refine rd2 (fun Kx hKx => ?_) ?_
                · skip
                  replace hr := (hr.past (bthru (bthru (bthru ((bthru hbV8 hbV9).trans (hOV10.below (by omega))) hbV11) hbV12) hbV13))
                  refine sek 51 11 #[.slice r.q r.ys.length r.d] ?_
                  ((with_reducible refine ((HN2 _ hr).out).mono ?_))
                  rintro eV14 V14 ⟨p51, c51, rfl, x51, hbV14⟩
                  have hzV14 := hbV14.size
                  have lx51 := fun h => x51.lt h
                  refine ⟨.slice p51 (dig B16 dr).length c51, rfl, ?_⟩
                  replace b4 := (b4.past hbV14)
                  replace b5 := (b5.past hbV14)
                  refine hKx.out _ _ ⟨b4, b5⟩ ?_
                  clear hKx Kx
                  refine tk 12 52 (.agg #[.bool false, .slice p51 (dig B16 dr).length c51, .int .i64 0]) ⟨b4, b5⟩ ?_
                  refine sxr [13, 15] ?_
                  refine rd2 (fun Kx hKx => ?_) ?_
                  · skip
                    refine sek 53 10 #[.agg #[.bool false, .slice p51 (dig B16 dr).length c51, .int .i64 0]] ?_
                    ((with_reducible refine ((HB _ p51 c51 x51.rd).out).mono ?_))
                    rintro eV15 V15 ⟨p53, c53, rfl, hr_x53, hc_x53, hf_x53, hbV15⟩
                    have hzV15 := hbV15.size
                    have x53 := rf_of hr_x53 hc_x53 hf_x53
                    clear hr_x53 hc_x53 hf_x53
                    have lx53 := fun h => x53.lt h
                    refine ⟨.agg #[.bool B.neg, .slice p53 (dig B16 B.m).length c53, .int .i64 B.e], rfl, ?_⟩
                    replace b4 := (b4.past hbV15)
                    replace b5 := (b5.past hbV15)
                    refine hKx.out _ _ ⟨b4, b5⟩ ?_
                    clear hKx Kx
                    refine sxr [14, 15] ?_
                    refine rd2 (fun Kx hKx => ?_) ?_
                    · skip
                      replace x48 := (x48.past (bthru hbV14 hbV15))
                      refine sek 54 9 #[.agg #[.bool A.neg, .slice p48 (dig B16 A.m).length c48, .int .i64 A.e], .agg #[.bool B.neg, .slice p53 (dig B16 B.m).length c53, .int .i64 B.e]] ?_
                      ((with_reducible refine ((HP _ p48 c48 p53 c53 x48.rd x53.rd).out).mono ?_))
                      rintro eV16 V16 ⟨p54, c54, rfl, hr_x54, hc_x54, hf_x54, hbV16⟩
                      have hzV16 := hbV16.size
                      have x54 := rf_of hr_x54 hc_x54 hf_x54
                      clear hr_x54 hc_x54 hf_x54
                      have lx54 := fun h => x54.lt h
                      refine ⟨.agg #[.bool P.neg, .slice p54 (dig B16 P.m).length c54, .int .i64 P.e], rfl, ?_⟩
                      replace b4 := (b4.past hbV16)
                      replace b5 := (b5.past hbV16)
                      refine hKx.out _ _ ⟨b4, b5⟩ ?_
                      clear hKx Kx
                      refine sxr [15] ?_
                      refine rd1 (fun Kx hKx => ?_)
                      refine snk 13 #[.bool false, .slice none 0 0, .int .i64 0] 35 (fun V17 hbV17 hzV17 b13 => ?_)
                      replace b4 := (b4.past hbV17)
                      replace b5 := (b5.past hbV17)
                      refine hKx.out _ _ ⟨b4, b5⟩ ?_
                      clear hKx Kx
                      refine sxr [16] ?_
                      refine rd1 (fun Kx hKx => ?_)
                      refine ssk none b13 hT35 0 #[.bool P.neg, .slice p54 (dig B16 P.m).length c54, .int .i64 P.e] #[.bool P.neg, .slice p54 (dig B16 P.m).length c54, .int .i64 P.e] ?_
                      have boV18 := b13
                      clear b13
                      intro V18 hOV18 b13
                      have hzV18 := hOV18.size
                      replace b4 := (b4.only hOV18 (by omega))
                      replace b5 := (b5.only hOV18 (by omega))
                      refine hKx.out _ _ ⟨b4, b5⟩ ?_
                      clear hKx Kx
                      refine sx_done (by kernel_rfl) ?_
                      replace x44 := (x44.past ((bthru (bthru (bthru (bthru hbV13 hbV14) hbV15) hbV16) hbV17).trans (hOV18.below (by omega))))
                      replace x48 := (x48.past ((bthru hbV16 hbV17).trans (hOV18.below (by omega))))
                      replace x51 := (x51.past ((bthru (bthru hbV15 hbV16) hbV17).trans (hOV18.below (by omega))))
                      replace x53 := (x53.past ((bthru hbV16 hbV17).trans (hOV18.below (by omega))))
                      replace x54 := (x54.past (hbV17.trans (hOV18.below (by omega))))
                      exact ⟨rfl, V16.heap.size, p44, c44, p48, c48, p51, c51, p53, c53, p54, c54, by kernel_rfl, b13, (x44.mono (by omega)), (x48.mono (by omega)), (x51.mono (by omega)), (x53.mono (by omega)), (x54.mono (by omega)), ((bthru (bthru (bthru (bthru (bthru (bthru hbV11 hbV12) hbV13) hbV14) hbV15) hbV16) hbV17).trans (hOV18.below (by omega))), by omega⟩
                    refine rd1 (fun Kx hKx => ?_)
                    refine snk 13 #[.bool false, .slice none 0 0, .int .i64 0] 35 (fun V16 hbV16 hzV16 b13 => ?_)
                    replace b4 := (b4.past hbV16)
                    replace b5 := (b5.past hbV16)
                    refine hKx.out _ _ ⟨b4, b5⟩ ?_
                    clear hKx Kx
                    refine sxr [14] ?_
                    refine rd1 (fun Kx hKx => ?_)
                    replace x48 := (x48.past (bthru (bthru hbV14 hbV15) hbV16))
                    replace x53 := (x53.past hbV16)
                    refine sek 54 9 #[.agg #[.bool A.neg, .slice p48 (dig B16 A.m).length c48, .int .i64 A.e], .agg #[.bool B.neg, .slice p53 (dig B16 B.m).length c53, .int .i64 B.e]] ?_
                    ((with_reducible refine ((HP _ p48 c48 p53 c53 x48.rd x53.rd).out).mono ?_))
                    rintro eV17 V17 ⟨p54, c54, rfl, hr_x54, hc_x54, hf_x54, hbV17⟩
                    have hzV17 := hbV17.size
                    have x54 := rf_of hr_x54 hc_x54 hf_x54
                    clear hr_x54 hc_x54 hf_x54
                    have lx54 := fun h => x54.lt h
                    refine ⟨.agg #[.bool P.neg, .slice p54 (dig B16 P.m).length c54, .int .i64 P.e], rfl, ?_⟩
                    replace b4 := (b4.past hbV17)
                    replace b5 := (b5.past hbV17)
                    refine hKx.out _ _ ⟨b4, b5⟩ ?_
                    clear hKx Kx
                    refine sxr [16] ?_
                    refine rd1 (fun Kx hKx => ?_)
                    replace b13 := (b13.past hbV17)
                    refine ssk none b13 hT35 0 #[.bool P.neg, .slice p54 (dig B16 P.m).length c54, .int .i64 P.e] #[.bool P.neg, .slice p54 (dig B16 P.m).length c54, .int .i64 P.e] ?_
                    have boV18 := b13
                    clear b13
                    intro V18 hOV18 b13
                    have hzV18 := hOV18.size
                    replace b4 := (b4.only hOV18 (by omega))
                    replace b5 := (b5.only hOV18 (by omega))
                    refine hKx.out _ _ ⟨b4, b5⟩ ?_
                    clear hKx Kx
                    refine sx_done (by kernel_rfl) ?_
                    replace x44 := (x44.past ((bthru (bthru (bthru (bthru hbV13 hbV14) hbV15) hbV16) hbV17).trans (hOV18.below (by omega))))
                    replace x48 := ((x48.past hbV17).only hOV18 (fun h => by have := lx48 h; omega))
                    replace x51 := (x51.past ((bthru (bthru hbV15 hbV16) hbV17).trans (hOV18.below (by omega))))
                    replace x53 := ((x53.past hbV17).only hOV18 (fun h => by have := lx53 h; omega))
                    replace x54 := (x54.only hOV18 (fun h => by have := lx54 h; omega))
                    exact ⟨rfl, V15.heap.size, p44, c44, p48, c48, p51, c51, p53, c53, p54, c54, by kernel_rfl, b13, (x44.mono (by omega)), (x48.mono (by omega)), (x51.mono (by omega)), (x53.mono (by omega)), (x54.mono (by omega)), ((bthru (bthru (bthru (bthru (bthru (bthru hbV11 hbV12) hbV13) hbV14) hbV15) hbV16) hbV17).trans (hOV18.below (by omega))), by omega⟩
                  refine rd1 (fun Kx hKx => ?_)
                  refine snk 13 #[.bool false, .slice none 0 0, .int .i64 0] 35 (fun V15 hbV15 hzV15 b13 => ?_)
                  replace b4 := (b4.past hbV15)
                  replace b5 := (b5.past hbV15)
                  refine hKx.out _ _ ⟨b4, b5⟩ ?_
                  clear hKx Kx
                  refine sxr [13] ?_
                  refine rd1 (fun Kx hKx => ?_)
                  replace x51 := (x51.past hbV15)
                  refine sek 53 10 #[.agg #[.bool false, .slice p51 (dig B16 dr).length c51, .int .i64 0]] ?_
                  ((with_reducible refine ((HB _ p51 c51 x51.rd).out).mono ?_))
                  rintro eV16 V16 ⟨p53, c53, rfl, hr_x53, hc_x53, hf_x53, hbV16⟩
                  have hzV16 := hbV16.size
                  have x53 := rf_of hr_x53 hc_x53 hf_x53
                  clear hr_x53 hc_x53 hf_x53
                  have lx53 := fun h => x53.lt h
                  refine ⟨.agg #[.bool B.neg, .slice p53 (dig B16 B.m).length c53, .int .i64 B.e], rfl, ?_⟩
                  replace b4 := (b4.past hbV16)
                  replace b5 := (b5.past hbV16)
                  refine hKx.out _ _ ⟨b4, b5⟩ ?_
                  clear hKx Kx
                  refine sxr [14] ?_
                  refine rd1 (fun Kx hKx => ?_)
                  replace x48 := (x48.past (bthru (bthru hbV14 hbV15) hbV16))
                  refine sek 54 9 #[.agg #[.bool A.neg, .slice p48 (dig B16 A.m).length c48, .int .i64 A.e], .agg #[.bool B.neg, .slice p53 (dig B16 B.m).length c53, .int .i64 B.e]] ?_
                  ((with_reducible refine ((HP _ p48 c48 p53 c53 x48.rd x53.rd).out).mono ?_))
                  rintro eV17 V17 ⟨p54, c54, rfl, hr_x54, hc_x54, hf_x54, hbV17⟩
                  have hzV17 := hbV17.size
                  have x54 := rf_of hr_x54 hc_x54 hf_x54
                  clear hr_x54 hc_x54 hf_x54
                  have lx54 := fun h => x54.lt h
                  refine ⟨.agg #[.bool P.neg, .slice p54 (dig B16 P.m).length c54, .int .i64 P.e], rfl, ?_⟩
                  replace b4 := (b4.past hbV17)
                  replace b5 := (b5.past hbV17)
                  refine hKx.out _ _ ⟨b4, b5⟩ ?_
                  clear hKx Kx
                  refine sxr [16] ?_
                  refine rd1 (fun Kx hKx => ?_)
                  replace b13 := (b13.past (bthru hbV16 hbV17))
                  refine ssk none b13 hT35 0 #[.bool P.neg, .slice p54 (dig B16 P.m).length c54, .int .i64 P.e] #[.bool P.neg, .slice p54 (dig B16 P.m).length c54, .int .i64 P.e] ?_
                  have boV18 := b13
                  clear b13
                  intro V18 hOV18 b13
                  have hzV18 := hOV18.size
                  replace b4 := (b4.only hOV18 (by omega))
                  replace b5 := (b5.only hOV18 (by omega))
                  refine hKx.out _ _ ⟨b4, b5⟩ ?_
                  clear hKx Kx
                  refine sx_done (by kernel_rfl) ?_
                  replace x44 := (x44.past ((bthru (bthru (bthru (bthru hbV13 hbV14) hbV15) hbV16) hbV17).trans (hOV18.below (by omega))))
                  replace x48 := ((x48.past hbV17).only hOV18 (fun h => by have := lx48 h; omega))
                  replace x51 := ((x51.past (bthru hbV16 hbV17)).only hOV18 (fun h => by have := lx51 h; omega))
                  replace x53 := ((x53.past hbV17).only hOV18 (fun h => by have := lx53 h; omega))
                  replace x54 := (x54.only hOV18 (fun h => by have := lx54 h; omega))
                  exact ⟨rfl, V14.heap.size, p44, c44, p48, c48, p51, c51, p53, c53, p54, c54, by kernel_rfl, b13, (x44.mono (by omega)), (x48.mono (by omega)), (x51.mono (by omega)), (x53.mono (by omega)), (x54.mono (by omega)), ((bthru (bthru (bthru (bthru (bthru (bthru hbV11 hbV12) hbV13) hbV14) hbV15) hbV16) hbV17).trans (hOV18.below (by omega))), by omega⟩
                refine rd1 (fun Kx hKx => ?_)
                refine snk 13 #[.bool false, .slice none 0 0, .int .i64 0] 35 (fun V14 hbV14 hzV14 b13 => ?_)
                replace b4 := (b4.past hbV14)
                replace b5 := (b5.past hbV14)
                refine hKx.out _ _ ⟨b4, b5⟩ ?_
                clear hKx Kx
                refine sxr [11] ?_
                refine rd1 (fun Kx hKx => ?_)
                replace hr := (hr.past (bthru (bthru (bthru (bthru ((bthru hbV8 hbV9).trans (hOV10.below (by omega))) hbV11) hbV12) hbV13) hbV14))
                refine sek 51 11 #[.slice r.q r.ys.length r.d] ?_
                ((with_reducible refine ((HN2 _ hr).out).mono ?_))
                rintro eV15 V15 ⟨p51, c51, rfl, x51, hbV15⟩
                have hzV15 := hbV15.size
                have lx51 := fun h => x51.lt h
                refine ⟨.slice p51 (dig B16 dr).length c51, rfl, ?_⟩
                replace b4 := (b4.past hbV15)
                replace b5 := (b5.past hbV15)
                refine hKx.out _ _ ⟨b4, b5⟩ ?_
                clear hKx Kx
                refine tk 12 52 (.agg #[.bool false, .slice p51 (dig B16 dr).length c51, .int .i64 0]) ⟨b4, b5⟩ ?_
                refine sxr [13] ?_
                refine rd1 (fun Kx hKx => ?_)
                refine sek 53 10 #[.agg #[.bool false, .slice p51 (dig B16 dr).length c51, .int .i64 0]] ?_
                ((with_reducible refine ((HB _ p51 c51 x51.rd).out).mono ?_))
                rintro eV16 V16 ⟨p53, c53, rfl, hr_x53, hc_x53, hf_x53, hbV16⟩
                have hzV16 := hbV16.size
                have x53 := rf_of hr_x53 hc_x53 hf_x53
                clear hr_x53 hc_x53 hf_x53
                have lx53 := fun h => x53.lt h
                refine ⟨.agg #[.bool B.neg, .slice p53 (dig B16 B.m).length c53, .int .i64 B.e], rfl, ?_⟩
                replace b4 := (b4.past hbV16)
                replace b5 := (b5.past hbV16)
                refine hKx.out _ _ ⟨b4, b5⟩ ?_
                clear hKx Kx
                refine sxr [14] ?_
                refine rd1 (fun Kx hKx => ?_)
                replace x48 := (x48.past (bthru (bthru hbV14 hbV15) hbV16))
                refine sek 54 9 #[.agg #[.bool A.neg, .slice p48 (dig B16 A.m).length c48, .int .i64 A.e], .agg #[.bool B.neg, .slice p53 (dig B16 B.m).length c53, .int .i64 B.e]] ?_
                ((with_reducible refine ((HP _ p48 c48 p53 c53 x48.rd x53.rd).out).mono ?_))
                rintro eV17 V17 ⟨p54, c54, rfl, hr_x54, hc_x54, hf_x54, hbV17⟩
                have hzV17 := hbV17.size
                have x54 := rf_of hr_x54 hc_x54 hf_x54
                clear hr_x54 hc_x54 hf_x54
                have lx54 := fun h => x54.lt h
                refine ⟨.agg #[.bool P.neg, .slice p54 (dig B16 P.m).length c54, .int .i64 P.e], rfl, ?_⟩
                replace b4 := (b4.past hbV17)
                replace b5 := (b5.past hbV17)
                refine hKx.out _ _ ⟨b4, b5⟩ ?_
                clear hKx Kx
                refine sxr [16] ?_
                refine rd1 (fun Kx hKx => ?_)
                replace b13 := (b13.past (bthru (bthru hbV15 hbV16) hbV17))
                refine ssk none b13 hT35 0 #[.bool P.neg, .slice p54 (dig B16 P.m).length c54, .int .i64 P.e] #[.bool P.neg, .slice p54 (dig B16 P.m).length c54, .int .i64 P.e] ?_
                have boV18 := b13
                clear b13
                intro V18 hOV18 b13
                have hzV18 := hOV18.size
                replace b4 := (b4.only hOV18 (by omega))
                replace b5 := (b5.only hOV18 (by omega))
                refine hKx.out _ _ ⟨b4, b5⟩ ?_
                clear hKx Kx
                refine sx_done (by kernel_rfl) ?_
                replace x44 := (x44.past ((bthru (bthru (bthru (bthru hbV13 hbV14) hbV15) hbV16) hbV17).trans (hOV18.below (by omega))))
                replace x48 := ((x48.past hbV17).only hOV18 (fun h => by have := lx48 h; omega))
                replace x51 := ((x51.past (bthru hbV16 hbV17)).only hOV18 (fun h => by have := lx51 h; omega))
                replace x53 := ((x53.past hbV17).only hOV18 (fun h => by have := lx53 h; omega))
                replace x54 := (x54.only hOV18 (fun h => by have := lx54 h; omega))
                exact ⟨rfl, V13.heap.size, p44, c44, p48, c48, p51, c51, p53, c53, p54, c54, by kernel_rfl, b13, (x44.mono (by omega)), (x48.mono (by omega)), (x51.mono (by omega)), (x53.mono (by omega)), (x54.mono (by omega)), ((bthru (bthru (bthru (bthru (bthru (bthru hbV11 hbV12) hbV13) hbV14) hbV15) hbV16) hbV17).trans (hOV18.below (by omega))), by omega⟩
              refine rd1 (fun Kx hKx => ?_)
              refine snk 13 #[.bool false, .slice none 0 0, .int .i64 0] 35 (fun V13 hbV13 hzV13 b13 => ?_)
              replace b4 := (b4.past hbV13)
              replace b5 := (b5.past hbV13)
              refine hKx.out _ _ ⟨b4, b5⟩ ?_
              clear hKx Kx
              refine sxr [8] ?_
              refine rd1 (fun Kx hKx => ?_)
              replace x44 := (x44.past hbV13)
              refine sek 48 10 #[.agg #[.bool q.g, .slice p44 (dig B16 nq).length c44, .int .i64 q.e]] ?_
              ((with_reducible refine ((HA _ p44 c44 x44.rd).out).mono ?_))
              rintro eV14 V14 ⟨p48, c48, rfl, hr_x48, hc_x48, hf_x48, hbV14⟩
              have hzV14 := hbV14.size
              have x48 := rf_of hr_x48 hc_x48 hf_x48
              clear hr_x48 hc_x48 hf_x48
              have lx48 := fun h => x48.lt h
              refine ⟨.agg #[.bool A.neg, .slice p48 (dig B16 A.m).length c48, .int .i64 A.e], rfl, ?_⟩
              replace b4 := (b4.past hbV14)
              replace b5 := (b5.past hbV14)
              refine hKx.out _ _ ⟨b4, b5⟩ ?_
              clear hKx Kx
              refine sxr [11] ?_
              refine rd1 (fun Kx hKx => ?_)
              replace hr := (hr.past (bthru (bthru (bthru (bthru ((bthru hbV8 hbV9).trans (hOV10.below (by omega))) hbV11) hbV12) hbV13) hbV14))
              refine sek 51 11 #[.slice r.q r.ys.length r.d] ?_
              ((with_reducible refine ((HN2 _ hr).out).mono ?_))
              rintro eV15 V15 ⟨p51, c51, rfl, x51, hbV15⟩
              have hzV15 := hbV15.size
              have lx51 := fun h => x51.lt h
              refine ⟨.slice p51 (dig B16 dr).length c51, rfl, ?_⟩
              replace b4 := (b4.past hbV15)
              replace b5 := (b5.past hbV15)
              refine hKx.out _ _ ⟨b4, b5⟩ ?_
              clear hKx Kx
              refine tk 12 52 (.agg #[.bool false, .slice p51 (dig B16 dr).length c51, .int .i64 0]) ⟨b4, b5⟩ ?_
              refine sxr [13] ?_
              refine rd1 (fun Kx hKx => ?_)
              refine sek 53 10 #[.agg #[.bool false, .slice p51 (dig B16 dr).length c51, .int .i64 0]] ?_
              ((with_reducible refine ((HB _ p51 c51 x51.rd).out).mono ?_))
              rintro eV16 V16 ⟨p53, c53, rfl, hr_x53, hc_x53, hf_x53, hbV16⟩
              have hzV16 := hbV16.size
              have x53 := rf_of hr_x53 hc_x53 hf_x53
              clear hr_x53 hc_x53 hf_x53
              have lx53 := fun h => x53.lt h
              refine ⟨.agg #[.bool B.neg, .slice p53 (dig B16 B.m).length c53, .int .i64 B.e], rfl, ?_⟩
              replace b4 := (b4.past hbV16)
              replace b5 := (b5.past hbV16)
              refine hKx.out _ _ ⟨b4, b5⟩ ?_
              clear hKx Kx
              refine sxr [14] ?_
              refine rd1 (fun Kx hKx => ?_)
              replace x48 := (x48.past (bthru hbV15 hbV16))
              refine sek 54 9 #[.agg #[.bool A.neg, .slice p48 (dig B16 A.m).length c48, .int .i64 A.e], .agg #[.bool B.neg, .slice p53 (dig B16 B.m).length c53, .int .i64 B.e]] ?_
              ((with_reducible refine ((HP _ p48 c48 p53 c53 x48.rd x53.rd).out).mono ?_))
              rintro eV17 V17 ⟨p54, c54, rfl, hr_x54, hc_x54, hf_x54, hbV17⟩
              have hzV17 := hbV17.size
              have x54 := rf_of hr_x54 hc_x54 hf_x54
              clear hr_x54 hc_x54 hf_x54
              have lx54 := fun h => x54.lt h
              refine ⟨.agg #[.bool P.neg, .slice p54 (dig B16 P.m).length c54, .int .i64 P.e], rfl, ?_⟩
              replace b4 := (b4.past hbV17)
              replace b5 := (b5.past hbV17)
              refine hKx.out _ _ ⟨b4, b5⟩ ?_
              clear hKx Kx
              refine sxr [16] ?_
              refine rd1 (fun Kx hKx => ?_)
              replace b13 := (b13.past (bthru (bthru (bthru hbV14 hbV15) hbV16) hbV17))
              refine ssk none b13 hT35 0 #[.bool P.neg, .slice p54 (dig B16 P.m).length c54, .int .i64 P.e] #[.bool P.neg, .slice p54 (dig B16 P.m).length c54, .int .i64 P.e] ?_
              have boV18 := b13
              clear b13
              intro V18 hOV18 b13
              have hzV18 := hOV18.size
              replace b4 := (b4.only hOV18 (by omega))
              replace b5 := (b5.only hOV18 (by omega))
              refine hKx.out _ _ ⟨b4, b5⟩ ?_
              clear hKx Kx
              refine sx_done (by kernel_rfl) ?_
              replace x44 := ((x44.past (bthru (bthru (bthru hbV14 hbV15) hbV16) hbV17)).only hOV18 (fun h => by have := lx44 h; omega))
              replace x48 := ((x48.past hbV17).only hOV18 (fun h => by have := lx48 h; omega))
              replace x51 := ((x51.past (bthru hbV16 hbV17)).only hOV18 (fun h => by have := lx51 h; omega))
              replace x53 := ((x53.past hbV17).only hOV18 (fun h => by have := lx53 h; omega))
              replace x54 := (x54.only hOV18 (fun h => by have := lx54 h; omega))
              exact ⟨rfl, V12.heap.size, p44, c44, p48, c48, p51, c51, p53, c53, p54, c54, by kernel_rfl, b13, (x44.mono (by omega)), (x48.mono (by omega)), (x51.mono (by omega)), (x53.mono (by omega)), (x54.mono (by omega)), ((bthru (bthru (bthru (bthru (bthru (bthru hbV11 hbV12) hbV13) hbV14) hbV15) hbV16) hbV17).trans (hOV18.below (by omega))), by omega⟩
            refine rd1 (fun Kx hKx => ?_)
            refine snk 13 #[.bool false, .slice none 0 0, .int .i64 0] 35 (fun V12 hbV12 hzV12 b13 => ?_)
            replace b4 := (b4.past hbV12)
            replace b5 := (b5.past hbV12)
            refine hKx.out _ _ ⟨b4, b5⟩ ?_
            clear hKx Kx
            refine sxr [4] ?_
            refine rd1 (fun Kx hKx => ?_)
            replace hq := (hq.past (bthru (bthru ((bthru (bthru ((bthru hbV5 hbV6).trans (hOV7.below (by omega))) hbV8) hbV9).trans (hOV10.below (by omega))) hbV11) hbV12))
            refine sek 44 11 #[.slice q.p q.xs.length q.c] ?_
            ((with_reducible refine ((HN1 _ hq).out).mono ?_))
            rintro eV13 V13 ⟨p44, c44, rfl, x44, hbV13⟩
            have hzV13 := hbV13.size
            have lx44 := fun h => x44.lt h
            refine ⟨.slice p44 (dig B16 nq).length c44, rfl, ?_⟩
            replace b4 := (b4.past hbV13)
            replace b5 := (b5.past hbV13)
            refine hKx.out _ _ ⟨b4, b5⟩ ?_
            clear hKx Kx
            refine tk 7 47 (.agg #[.bool q.g, .slice p44 (dig B16 nq).length c44, .int .i64 q.e]) ⟨b4, b5⟩ ?_
            refine sxr [8] ?_
            refine rd1 (fun Kx hKx => ?_)
            refine sek 48 10 #[.agg #[.bool q.g, .slice p44 (dig B16 nq).length c44, .int .i64 q.e]] ?_
            ((with_reducible refine ((HA _ p44 c44 x44.rd).out).mono ?_))
            rintro eV14 V14 ⟨p48, c48, rfl, hr_x48, hc_x48, hf_x48, hbV14⟩
            have hzV14 := hbV14.size
            have x48 := rf_of hr_x48 hc_x48 hf_x48
            clear hr_x48 hc_x48 hf_x48
            have lx48 := fun h => x48.lt h
            refine ⟨.agg #[.bool A.neg, .slice p48 (dig B16 A.m).length c48, .int .i64 A.e], rfl, ?_⟩
            replace b4 := (b4.past hbV14)
            replace b5 := (b5.past hbV14)
            refine hKx.out _ _ ⟨b4, b5⟩ ?_
            clear hKx Kx
            refine sxr [11] ?_
            refine rd1 (fun Kx hKx => ?_)
            replace hr := (hr.past (bthru (bthru (bthru (bthru ((bthru hbV8 hbV9).trans (hOV10.below (by omega))) hbV11) hbV12) hbV13) hbV14))
            refine sek 51 11 #[.slice r.q r.ys.length r.d] ?_
            ((with_reducible refine ((HN2 _ hr).out).mono ?_))
            rintro eV15 V15 ⟨p51, c51, rfl, x51, hbV15⟩
            have hzV15 := hbV15.size
            have lx51 := fun h => x51.lt h
            refine ⟨.slice p51 (dig B16 dr).length c51, rfl, ?_⟩
            replace b4 := (b4.past hbV15)
            replace b5 := (b5.past hbV15)
            refine hKx.out _ _ ⟨b4, b5⟩ ?_
            clear hKx Kx
            refine tk 12 52 (.agg #[.bool false, .slice p51 (dig B16 dr).length c51, .int .i64 0]) ⟨b4, b5⟩ ?_
            refine sxr [13] ?_
            refine rd1 (fun Kx hKx => ?_)
            refine sek 53 10 #[.agg #[.bool false, .slice p51 (dig B16 dr).length c51, .int .i64 0]] ?_
            ((with_reducible refine ((HB _ p51 c51 x51.rd).out).mono ?_))
            rintro eV16 V16 ⟨p53, c53, rfl, hr_x53, hc_x53, hf_x53, hbV16⟩
            have hzV16 := hbV16.size
            have x53 := rf_of hr_x53 hc_x53 hf_x53
            clear hr_x53 hc_x53 hf_x53
            have lx53 := fun h => x53.lt h
            refine ⟨.agg #[.bool B.neg, .slice p53 (dig B16 B.m).length c53, .int .i64 B.e], rfl, ?_⟩
            replace b4 := (b4.past hbV16)
            replace b5 := (b5.past hbV16)
            refine hKx.out _ _ ⟨b4, b5⟩ ?_
            clear hKx Kx
            refine sxr [14] ?_
            refine rd1 (fun Kx hKx => ?_)
            replace x48 := (x48.past (bthru hbV15 hbV16))
            refine sek 54 9 #[.agg #[.bool A.neg, .slice p48 (dig B16 A.m).length c48, .int .i64 A.e], .agg #[.bool B.neg, .slice p53 (dig B16 B.m).length c53, .int .i64 B.e]] ?_
            ((with_reducible refine ((HP _ p48 c48 p53 c53 x48.rd x53.rd).out).mono ?_))
            rintro eV17 V17 ⟨p54, c54, rfl, hr_x54, hc_x54, hf_x54, hbV17⟩
            have hzV17 := hbV17.size
            have x54 := rf_of hr_x54 hc_x54 hf_x54
            clear hr_x54 hc_x54 hf_x54
            have lx54 := fun h => x54.lt h
            refine ⟨.agg #[.bool P.neg, .slice p54 (dig B16 P.m).length c54, .int .i64 P.e], rfl, ?_⟩
            replace b4 := (b4.past hbV17)
            replace b5 := (b5.past hbV17)
            refine hKx.out _ _ ⟨b4, b5⟩ ?_
            clear hKx Kx
            refine sxr [16] ?_
            refine rd1 (fun Kx hKx => ?_)
            replace b13 := (b13.past (bthru (bthru (bthru (bthru hbV13 hbV14) hbV15) hbV16) hbV17))
            refine ssk none b13 hT35 0 #[.bool P.neg, .slice p54 (dig B16 P.m).length c54, .int .i64 P.e] #[.bool P.neg, .slice p54 (dig B16 P.m).length c54, .int .i64 P.e] ?_
            have boV18 := b13
            clear b13
            intro V18 hOV18 b13
            have hzV18 := hOV18.size
            replace b4 := (b4.only hOV18 (by omega))
            replace b5 := (b5.only hOV18 (by omega))
            refine hKx.out _ _ ⟨b4, b5⟩ ?_
            clear hKx Kx
            refine sx_done (by kernel_rfl) ?_
            replace x44 := ((x44.past (bthru (bthru (bthru hbV14 hbV15) hbV16) hbV17)).only hOV18 (fun h => by have := lx44 h; omega))
            replace x48 := ((x48.past hbV17).only hOV18 (fun h => by have := lx48 h; omega))
            replace x51 := ((x51.past (bthru hbV16 hbV17)).only hOV18 (fun h => by have := lx51 h; omega))
            replace x53 := ((x53.past hbV17).only hOV18 (fun h => by have := lx53 h; omega))
            replace x54 := (x54.only hOV18 (fun h => by have := lx54 h; omega))
            exact ⟨rfl, V11.heap.size, p44, c44, p48, c48, p51, c51, p53, c53, p54, c54, by kernel_rfl, b13, (x44.mono (by omega)), (x48.mono (by omega)), (x51.mono (by omega)), (x53.mono (by omega)), (x54.mono (by omega)), ((bthru (bthru (bthru (bthru (bthru (bthru hbV11 hbV12) hbV13) hbV14) hbV15) hbV16) hbV17).trans (hOV18.below (by omega))), by omega⟩
          rintro _ V11 ⟨kb13, p44, c44, p48, c48, p51, c51, p53, c53, p54, c54, rfl, b13, x44, x48, x51, x53, x54, hbV11, hkb13⟩
          refine hGx _ _ ?_
          clear hGx Gx
          have hzV11 := hbV11.size
          have hlb13 := b13.lt
          have lx44 := fun h => x44.lt h
          have lx48 := fun h => x48.lt h
          have lx51 := fun h => x51.lt h
          have lx53 := fun h => x53.lt h
          have lx54 := fun h => x54.lt h
          refine sx_then ?_
          refine wp_seq ?_
          refine sx_cutg (R := fun a' w' => ∃ (kb14 : Nat) (p59 : Option Addr) (c59 : Nat) (p63 : Option Addr) (c63 : Nat) (p66 : Option Addr) (c66 : Nat) (p68 : Option Addr) (c68 : Nat) (p69 : Option Addr) (c69 : Nat), a' = ⟨((.agg #[.bool q.g, .slice q.p q.xs.length q.c, .slice q.q q.ys.length q.d, .int .i64 q.e]) :: (.agg #[.bool r.g, .slice r.p r.xs.length r.c, .slice r.q r.ys.length r.d, .int .i64 r.e]) :: (.agg #[.int .i64 g.rad, .int .i64 g.digs, .int .i64 g.lo, .int .i64 g.hi, .bool g.grad]) :: (.int .i64 way) :: (.pointer (some ⟨w.heap.size, 0, none⟩)) :: (.pointer (some ⟨V1.heap.size, 0, none⟩)) :: (.pointer (some ⟨V2.heap.size, 0, none⟩)) :: undef :: (.bool false) :: (.pointer (some ⟨V5.heap.size, 0, none⟩)) :: (.bool true) :: (.pointer (some ⟨V8.heap.size, 0, none⟩)) :: (.bool true) :: (.pointer (some ⟨kb13, 0, none⟩)) :: (.pointer (some ⟨kb14, 0, none⟩)) :: undef :: undef :: undef :: (.bool true) :: (.bool false) :: (.tuple #[.agg #[.bool x.neg, .slice p24 (dig B32 x.m).length c24, .int .i64 x.e], .bool true]) :: (.agg #[.bool q.g, .slice q.p q.xs.length q.c, .slice q.q q.ys.length q.d, .int .i64 q.e]) :: (.agg #[.int .i64 g.rad, .int .i64 g.digs, .int .i64 g.lo, .int .i64 g.hi, .bool g.grad]) :: (.int .i64 way) :: (.tuple #[.agg #[.bool x.neg, .slice p24 (dig B32 x.m).length c24, .int .i64 x.e], .bool true]) :: (.agg #[.bool x.neg, .slice p24 (dig B32 x.m).length c24, .int .i64 x.e]) :: (.bool true) :: (.tuple #[.agg #[.bool y.neg, .slice p31 (dig B32 y.m).length c31, .int .i64 y.e], .bool true]) :: (.agg #[.bool r.g, .slice r.p r.xs.length r.c, .slice r.q r.ys.length r.d, .int .i64 r.e]) :: (.agg #[.int .i64 g.rad, .int .i64 g.digs, .int .i64 g.lo, .int .i64 g.hi, .bool g.grad]) :: (.int .i64 way) :: (.tuple #[.agg #[.bool y.neg, .slice p31 (dig B32 y.m).length c31, .int .i64 y.e], .bool true]) :: (.agg #[.bool y.neg, .slice p31 (dig B32 y.m).length c31, .int .i64 y.e]) :: (.bool true) :: (.bool true) :: (.bool false) :: (.bool false) :: (.bool true) :: (.bool false) :: (.bool false) :: (.pointer (some ⟨w.heap.size, 0, none⟩)) :: (.bool q.g) :: (.pointer (some ⟨w.heap.size, 1, none⟩)) :: (.slice q.p q.xs.length q.c) :: (.slice p44 (dig B16 nq).length c44) :: (.pointer (some ⟨w.heap.size, 3, none⟩)) :: (.int .i64 q.e) :: (.agg #[.bool q.g, .slice p44 (dig B16 nq).length c44, .int .i64 q.e]) :: (.agg #[.bool A.neg, .slice p48 (dig B16 A.m).length c48, .int .i64 A.e]) :: (.pointer (some ⟨V1.heap.size, 2, none⟩)) :: (.slice r.q r.ys.length r.d) :: (.slice p51 (dig B16 dr).length c51) :: (.agg #[.bool false, .slice p51 (dig B16 dr).length c51, .int .i64 0]) :: (.agg #[.bool B.neg, .slice p53 (dig B16 B.m).length c53, .int .i64 B.e]) :: (.agg #[.bool P.neg, .slice p54 (dig B16 P.m).length c54, .int .i64 P.e]) :: (.pointer (some ⟨V1.heap.size, 0, none⟩)) :: (.bool r.g) :: (.pointer (some ⟨V1.heap.size, 1, none⟩)) :: (.slice r.p r.xs.length r.c) :: (.slice p59 (dig B16 nr).length c59) :: (.pointer (some ⟨V1.heap.size, 3, none⟩)) :: (.int .i64 r.e) :: (.agg #[.bool r.g, .slice p59 (dig B16 nr).length c59, .int .i64 r.e]) :: (.agg #[.bool C.neg, .slice p63 (dig B16 C.m).length c63, .int .i64 C.e]) :: (.pointer (some ⟨w.heap.size, 2, none⟩)) :: (.slice q.q q.ys.length q.d) :: (.slice p66 (dig B16 dq).length c66) :: (.agg #[.bool false, .slice p66 (dig B16 dq).length c66, .int .i64 0]) :: (.agg #[.bool D.neg, .slice p68 (dig B16 D.m).length c68, .int .i64 D.e]) :: (.agg #[.bool S.neg, .slice p69 (dig B16 S.m).length c69, .int .i64 S.e]) :: undef :: undef :: undef :: undef :: undef :: undef :: undef :: undef :: undef :: undef :: undef :: undef :: undef :: undef :: undef :: undef :: undef :: undef :: undef :: undef :: undef :: undef :: undef :: undef :: undef :: undef :: undef :: undef :: undef :: undef :: undef :: undef :: undef :: undef :: undef :: []).toArray, []⟩ ∧ Bt w' kb14 35 #[.bool S.neg, .slice p69 (dig B16 S.m).length c69, .int .i64 S.e] ∧ Rf w' V11.heap.size p59 c59 (dig B16 nr) ∧ Rf w' V11.heap.size p63 c63 (dig B16 C.m) ∧ Rf w' V11.heap.size p66 c66 (dig B16 dq) ∧ Rf w' V11.heap.size p68 c68 (dig B16 D.m) ∧ Rf w' V11.heap.size p69 c69 (dig B16 S.m) ∧ Below V11.heap.size V11 w' ∧ V11.heap.size ≤ kb14) ?_ (fun Gx hGx => ?_)
          · skip
            replace b5 := (b5.past (bthru ((bthru hbV8 hbV9).trans (hOV10.below (by omega))) hbV11))
            replace b4 := (b4.past (bthru ((bthru (bthru ((bthru hbV5 hbV6).trans (hOV7.below (by omega))) hbV8) hbV9).trans (hOV10.below (by omega))) hbV11))
            obtain ⟨V12, hVV12⟩ : ∃ V, V = (V11).drew := ⟨_, rfl⟩
            have hbV12 : Below (V11).heap.size (V11) V12 := by rw [hVV12]; exact (Below.refl _ _).drew
            have hzV12 : V12.heap.size = (V11).heap.size := by rw [hVV12]; rfl
            replace b5 := (b5.past hbV12)
            replace b4 := (b4.past hbV12)
            refine sxd _ (fun w' => Bt w' V1.heap.size 25 #[.bool r.g, .slice r.p r.xs.length r.c, .slice r.q r.ys.length r.d, .int .i64 r.e] ∧ Bt w' w.heap.size 25 #[.bool q.g, .slice q.p q.xs.length q.c, .slice q.q q.ys.length q.d, .int .i64 q.e]) hVV12 ⟨b5, b4⟩ ?_
            clear hVV12
            refine tk 0 55 (.pointer (some ⟨V1.heap.size, 0, none⟩)) ⟨b5, b4⟩ ?_
            refine tk 1 56 (.bool r.g) ⟨b5, b4⟩ ?_ (hy := fun w' hS => (exec_ld (by kernel_rfl) (run_ld1 hS.1 hT4 0 (.bool r.g) (by kernel_rfl))))
            refine tk 2 57 (.pointer (some ⟨V1.heap.size, 1, none⟩)) ⟨b5, b4⟩ ?_
            refine tk 3 58 (.slice r.p r.xs.length r.c) ⟨b5, b4⟩ ?_ (hy := fun w' hS => (exec_ld (by kernel_rfl) (run_ld1 hS.1 hT23 1 (.slice r.p r.xs.length r.c) (by kernel_rfl))))
            refine tk 5 60 (.pointer (some ⟨V1.heap.size, 3, none⟩)) ⟨b5, b4⟩ ?_
            refine tk 6 61 (.int .i64 r.e) ⟨b5, b4⟩ ?_ (hy := fun w' hS => (exec_ld (by kernel_rfl) (run_ld1 hS.1 hT3 3 (.int .i64 r.e) (by kernel_rfl))))
            refine tk 9 64 (.pointer (some ⟨w.heap.size, 2, none⟩)) ⟨b5, b4⟩ ?_
            refine tk 10 65 (.slice q.q q.ys.length q.d) ⟨b5, b4⟩ ?_ (hy := fun w' hS => (exec_ld (by kernel_rfl) (run_ld1 hS.2 hT23 2 (.slice q.q q.ys.length q.d) (by kernel_rfl))))
            refine sxr [4, 15] ?_
            refine rd2 (fun Kx hKx => ?_) ?_
            · skip
              replace hr := (hr.past (bthru (bthru ((bthru hbV8 hbV9).trans (hOV10.below (by omega))) hbV11) hbV12))
              refine sek 59 11 #[.slice r.p r.xs.length r.c] ?_
              ((with_reducible refine ((HN3 _ hr).out).mono ?_))
              rintro eV13 V13 ⟨p59, c59, rfl, x59, hbV13⟩
              have hzV13 := hbV13.size
              have lx59 := fun h => x59.lt h
              refine ⟨.slice p59 (dig B16 nr).length c59, rfl, ?_⟩
              replace b5 := (b5.past hbV13)
              replace b4 := (b4.past hbV13)
              refine hKx.out _ _ ⟨b5, b4⟩ ?_
              clear hKx Kx
              refine tk 7 62 (.agg #[.bool r.g, .slice p59 (dig B16 nr).length c59, .int .i64 r.e]) ⟨b5, b4⟩ ?_
              refine sxr [8, 15] ?_
              refine rd2 (fun Kx hKx => ?_) ?_
              · skip
                refine sek 63 10 #[.agg #[.bool r.g, .slice p59 (dig B16 nr).length c59, .int .i64 r.e]] ?_
                ((with_reducible refine ((HC _ p59 c59 x59.rd).out).mono ?_))
                rintro eV14 V14 ⟨p63, c63, rfl, hr_x63, hc_x63, hf_x63, hbV14⟩
                have hzV14 := hbV14.size
                have x63 := rf_of hr_x63 hc_x63 hf_x63
                clear hr_x63 hc_x63 hf_x63
                have lx63 := fun h => x63.lt h
                refine ⟨.agg #[.bool C.neg, .slice p63 (dig B16 C.m).length c63, .int .i64 C.e], rfl, ?_⟩
                replace b5 := (b5.past hbV14)
                replace b4 := (b4.past hbV14)
                refine hKx.out _ _ ⟨b5, b4⟩ ?_
                clear hKx Kx
                refine sxr [11, 15] ?_
                refine rd2 (fun Kx hKx => ?_) ?_
                · skip
                  replace hq := (hq.past (bthru (bthru (bthru (bthru ((bthru (bthru ((bthru hbV5 hbV6).trans (hOV7.below (by omega))) hbV8) hbV9).trans (hOV10.below (by omega))) hbV11) hbV12) hbV13) hbV14))
                  refine sek 66 11 #[.slice q.q q.ys.length q.d] ?_
                  ((with_reducible refine ((HN4 _ hq).out).mono ?_))
                  rintro eV15 V15 ⟨p66, c66, rfl, x66, hbV15⟩
                  have hzV15 := hbV15.size
                  have lx66 := fun h => x66.lt h
                  refine ⟨.slice p66 (dig B16 dq).length c66, rfl, ?_⟩
                  replace b5 := (b5.past hbV15)
                  replace b4 := (b4.past hbV15)
                  refine hKx.out _ _ ⟨b5, b4⟩ ?_
                  clear hKx Kx
                  refine tk 12 67 (.agg #[.bool false, .slice p66 (dig B16 dq).length c66, .int .i64 0]) ⟨b5, b4⟩ ?_
                  refine sxr [13, 15] ?_
                  refine rd2 (fun Kx hKx => ?_) ?_
                  · skip
                    refine sek 68 10 #[.agg #[.bool false, .slice p66 (dig B16 dq).length c66, .int .i64 0]] ?_
                    ((with_reducible refine ((HD _ p66 c66 x66.rd).out).mono ?_))
                    rintro eV16 V16 ⟨p68, c68, rfl, hr_x68, hc_x68, hf_x68, hbV16⟩
                    have hzV16 := hbV16.size
                    have x68 := rf_of hr_x68 hc_x68 hf_x68
                    clear hr_x68 hc_x68 hf_x68
                    have lx68 := fun h => x68.lt h
                    refine ⟨.agg #[.bool D.neg, .slice p68 (dig B16 D.m).length c68, .int .i64 D.e], rfl, ?_⟩
                    replace b5 := (b5.past hbV16)
                    replace b4 := (b4.past hbV16)
                    refine hKx.out _ _ ⟨b5, b4⟩ ?_
                    clear hKx Kx
                    refine sxr [14, 15] ?_
                    refine rd2 (fun Kx hKx => ?_) ?_
                    · skip
                      replace x63 := (x63.past (bthru hbV15 hbV16))
                      refine sek 69 9 #[.agg #[.bool C.neg, .slice p63 (dig B16 C.m).length c63, .int .i64 C.e], .agg #[.bool D.neg, .slice p68 (dig B16 D.m).length c68, .int .i64 D.e]] ?_
                      ((with_reducible refine ((HS _ p63 c63 p68 c68 x63.rd x68.rd).out).mono ?_))
                      rintro eV17 V17 ⟨p69, c69, rfl, hr_x69, hc_x69, hf_x69, hbV17⟩
                      have hzV17 := hbV17.size
                      have x69 := rf_of hr_x69 hc_x69 hf_x69
                      clear hr_x69 hc_x69 hf_x69
                      have lx69 := fun h => x69.lt h
                      refine ⟨.agg #[.bool S.neg, .slice p69 (dig B16 S.m).length c69, .int .i64 S.e], rfl, ?_⟩
                      replace b5 := (b5.past hbV17)
                      replace b4 := (b4.past hbV17)
                      refine hKx.out _ _ ⟨b5, b4⟩ ?_
                      clear hKx Kx
                      refine sxr [15] ?_
                      refine rd1 (fun Kx hKx => ?_)
                      refine snk 14 #[.bool false, .slice none 0 0, .int .i64 0] 35 (fun V18 hbV18 hzV18 b14 => ?_)
                      replace b5 := (b5.past hbV18)
                      replace b4 := (b4.past hbV18)
                      refine hKx.out _ _ ⟨b5, b4⟩ ?_
                      clear hKx Kx
                      refine sxr [16] ?_
                      refine rd1 (fun Kx hKx => ?_)
                      refine ssk none b14 hT35 0 #[.bool S.neg, .slice p69 (dig B16 S.m).length c69, .int .i64 S.e] #[.bool S.neg, .slice p69 (dig B16 S.m).length c69, .int .i64 S.e] ?_
                      have boV19 := b14
                      clear b14
                      intro V19 hOV19 b14
                      have hzV19 := hOV19.size
                      replace b5 := (b5.only hOV19 (by omega))
                      replace b4 := (b4.only hOV19 (by omega))
                      refine hKx.out _ _ ⟨b5, b4⟩ ?_
                      clear hKx Kx
                      refine sx_done (by kernel_rfl) ?_
                      replace x59 := (x59.past ((bthru (bthru (bthru (bthru hbV14 hbV15) hbV16) hbV17) hbV18).trans (hOV19.below (by omega))))
                      replace x63 := (x63.past ((bthru hbV17 hbV18).trans (hOV19.below (by omega))))
                      replace x66 := (x66.past ((bthru (bthru hbV16 hbV17) hbV18).trans (hOV19.below (by omega))))
                      replace x68 := (x68.past ((bthru hbV17 hbV18).trans (hOV19.below (by omega))))
                      replace x69 := (x69.past (hbV18.trans (hOV19.below (by omega))))
                      exact ⟨rfl, V17.heap.size, p59, c59, p63, c63, p66, c66, p68, c68, p69, c69, by kernel_rfl, b14, (x59.mono (by omega)), (x63.mono (by omega)), (x66.mono (by omega)), (x68.mono (by omega)), (x69.mono (by omega)), ((bthru (bthru (bthru (bthru (bthru (bthru hbV12 hbV13) hbV14) hbV15) hbV16) hbV17) hbV18).trans (hOV19.below (by omega))), by omega⟩
                    refine rd1 (fun Kx hKx => ?_)
                    refine snk 14 #[.bool false, .slice none 0 0, .int .i64 0] 35 (fun V17 hbV17 hzV17 b14 => ?_)
                    replace b5 := (b5.past hbV17)
                    replace b4 := (b4.past hbV17)
                    refine hKx.out _ _ ⟨b5, b4⟩ ?_
                    clear hKx Kx
                    refine sxr [14] ?_
                    refine rd1 (fun Kx hKx => ?_)
                    replace x63 := (x63.past (bthru (bthru hbV15 hbV16) hbV17))
                    replace x68 := (x68.past hbV17)
                    refine sek 69 9 #[.agg #[.bool C.neg, .slice p63 (dig B16 C.m).length c63, .int .i64 C.e], .agg #[.bool D.neg, .slice p68 (dig B16 D.m).length c68, .int .i64 D.e]] ?_
                    ((with_reducible refine ((HS _ p63 c63 p68 c68 x63.rd x68.rd).out).mono ?_))
                    rintro eV18 V18 ⟨p69, c69, rfl, hr_x69, hc_x69, hf_x69, hbV18⟩
                    have hzV18 := hbV18.size
                    have x69 := rf_of hr_x69 hc_x69 hf_x69
                    clear hr_x69 hc_x69 hf_x69
                    have lx69 := fun h => x69.lt h
                    refine ⟨.agg #[.bool S.neg, .slice p69 (dig B16 S.m).length c69, .int .i64 S.e], rfl, ?_⟩
                    replace b5 := (b5.past hbV18)
                    replace b4 := (b4.past hbV18)
                    refine hKx.out _ _ ⟨b5, b4⟩ ?_
                    clear hKx Kx
                    refine sxr [16] ?_
                    refine rd1 (fun Kx hKx => ?_)
                    replace b14 := (b14.past hbV18)
                    refine ssk none b14 hT35 0 #[.bool S.neg, .slice p69 (dig B16 S.m).length c69, .int .i64 S.e] #[.bool S.neg, .slice p69 (dig B16 S.m).length c69, .int .i64 S.e] ?_
                    have boV19 := b14
                    clear b14
                    intro V19 hOV19 b14
                    have hzV19 := hOV19.size
                    replace b5 := (b5.only hOV19 (by omega))
                    replace b4 := (b4.only hOV19 (by omega))
                    refine hKx.out _ _ ⟨b5, b4⟩ ?_
                    clear hKx Kx
                    refine sx_done (by kernel_rfl) ?_
                    replace x59 := (x59.past ((bthru (bthru (bthru (bthru hbV14 hbV15) hbV16) hbV17) hbV18).trans (hOV19.below (by omega))))
                    replace x63 := ((x63.past hbV18).only hOV19 (fun h => by have := lx63 h; omega))
                    replace x66 := (x66.past ((bthru (bthru hbV16 hbV17) hbV18).trans (hOV19.below (by omega))))
                    replace x68 := ((x68.past hbV18).only hOV19 (fun h => by have := lx68 h; omega))
                    replace x69 := (x69.only hOV19 (fun h => by have := lx69 h; omega))
                    exact ⟨rfl, V16.heap.size, p59, c59, p63, c63, p66, c66, p68, c68, p69, c69, by kernel_rfl, b14, (x59.mono (by omega)), (x63.mono (by omega)), (x66.mono (by omega)), (x68.mono (by omega)), (x69.mono (by omega)), ((bthru (bthru (bthru (bthru (bthru (bthru hbV12 hbV13) hbV14) hbV15) hbV16) hbV17) hbV18).trans (hOV19.below (by omega))), by omega⟩
                  refine rd1 (fun Kx hKx => ?_)
                  refine snk 14 #[.bool false, .slice none 0 0, .int .i64 0] 35 (fun V16 hbV16 hzV16 b14 => ?_)
                  replace b5 := (b5.past hbV16)
                  replace b4 := (b4.past hbV16)
                  refine hKx.out _ _ ⟨b5, b4⟩ ?_
                  clear hKx Kx
                  refine sxr [13] ?_
                  refine rd1 (fun Kx hKx => ?_)
                  replace x66 := (x66.past hbV16)
                  refine sek 68 10 #[.agg #[.bool false, .slice p66 (dig B16 dq).length c66, .int .i64 0]] ?_
                  ((with_reducible refine ((HD _ p66 c66 x66.rd).out).mono ?_))
                  rintro eV17 V17 ⟨p68, c68, rfl, hr_x68, hc_x68, hf_x68, hbV17⟩
                  have hzV17 := hbV17.size
                  have x68 := rf_of hr_x68 hc_x68 hf_x68
                  clear hr_x68 hc_x68 hf_x68
                  have lx68 := fun h => x68.lt h
                  refine ⟨.agg #[.bool D.neg, .slice p68 (dig B16 D.m).length c68, .int .i64 D.e], rfl, ?_⟩
                  replace b5 := (b5.past hbV17)
                  replace b4 := (b4.past hbV17)
                  refine hKx.out _ _ ⟨b5, b4⟩ ?_
                  clear hKx Kx
                  refine sxr [14] ?_
                  refine rd1 (fun Kx hKx => ?_)
                  replace x63 := (x63.past (bthru (bthru hbV15 hbV16) hbV17))
                  refine sek 69 9 #[.agg #[.bool C.neg, .slice p63 (dig B16 C.m).length c63, .int .i64 C.e], .agg #[.bool D.neg, .slice p68 (dig B16 D.m).length c68, .int .i64 D.e]] ?_
                  ((with_reducible refine ((HS _ p63 c63 p68 c68 x63.rd x68.rd).out).mono ?_))
                  rintro eV18 V18 ⟨p69, c69, rfl, hr_x69, hc_x69, hf_x69, hbV18⟩
                  have hzV18 := hbV18.size
                  have x69 := rf_of hr_x69 hc_x69 hf_x69
                  clear hr_x69 hc_x69 hf_x69
                  have lx69 := fun h => x69.lt h
                  refine ⟨.agg #[.bool S.neg, .slice p69 (dig B16 S.m).length c69, .int .i64 S.e], rfl, ?_⟩
                  replace b5 := (b5.past hbV18)
                  replace b4 := (b4.past hbV18)
                  refine hKx.out _ _ ⟨b5, b4⟩ ?_
                  clear hKx Kx
                  refine sxr [16] ?_
                  refine rd1 (fun Kx hKx => ?_)
                  replace b14 := (b14.past (bthru hbV17 hbV18))
                  refine ssk none b14 hT35 0 #[.bool S.neg, .slice p69 (dig B16 S.m).length c69, .int .i64 S.e] #[.bool S.neg, .slice p69 (dig B16 S.m).length c69, .int .i64 S.e] ?_
                  have boV19 := b14
                  clear b14
                  intro V19 hOV19 b14
                  have hzV19 := hOV19.size
                  replace b5 := (b5.only hOV19 (by omega))
                  replace b4 := (b4.only hOV19 (by omega))
                  refine hKx.out _ _ ⟨b5, b4⟩ ?_
                  clear hKx Kx
                  refine sx_done (by kernel_rfl) ?_
                  replace x59 := (x59.past ((bthru (bthru (bthru (bthru hbV14 hbV15) hbV16) hbV17) hbV18).trans (hOV19.below (by omega))))
                  replace x63 := ((x63.past hbV18).only hOV19 (fun h => by have := lx63 h; omega))
                  replace x66 := ((x66.past (bthru hbV17 hbV18)).only hOV19 (fun h => by have := lx66 h; omega))
                  replace x68 := ((x68.past hbV18).only hOV19 (fun h => by have := lx68 h; omega))
                  replace x69 := (x69.only hOV19 (fun h => by have := lx69 h; omega))
                  exact ⟨rfl, V15.heap.size, p59, c59, p63, c63, p66, c66, p68, c68, p69, c69, by kernel_rfl, b14, (x59.mono (by omega)), (x63.mono (by omega)), (x66.mono (by omega)), (x68.mono (by omega)), (x69.mono (by omega)), ((bthru (bthru (bthru (bthru (bthru (bthru hbV12 hbV13) hbV14) hbV15) hbV16) hbV17) hbV18).trans (hOV19.below (by omega))), by omega⟩
                refine rd1 (fun Kx hKx => ?_)
                refine snk 14 #[.bool false, .slice none 0 0, .int .i64 0] 35 (fun V15 hbV15 hzV15 b14 => ?_)
                replace b5 := (b5.past hbV15)
                replace b4 := (b4.past hbV15)
                refine hKx.out _ _ ⟨b5, b4⟩ ?_
                clear hKx Kx
                refine sxr [11] ?_
                refine rd1 (fun Kx hKx => ?_)
                replace hq := (hq.past (bthru (bthru (bthru (bthru (bthru ((bthru (bthru ((bthru hbV5 hbV6).trans (hOV7.below (by omega))) hbV8) hbV9).trans (hOV10.below (by omega))) hbV11) hbV12) hbV13) hbV14) hbV15))
                refine sek 66 11 #[.slice q.q q.ys.length q.d] ?_
                ((with_reducible refine ((HN4 _ hq).out).mono ?_))
                rintro eV16 V16 ⟨p66, c66, rfl, x66, hbV16⟩
                have hzV16 := hbV16.size
                have lx66 := fun h => x66.lt h
                refine ⟨.slice p66 (dig B16 dq).length c66, rfl, ?_⟩
                replace b5 := (b5.past hbV16)
                replace b4 := (b4.past hbV16)
                refine hKx.out _ _ ⟨b5, b4⟩ ?_
                clear hKx Kx
                refine tk 12 67 (.agg #[.bool false, .slice p66 (dig B16 dq).length c66, .int .i64 0]) ⟨b5, b4⟩ ?_
                refine sxr [13] ?_
                refine rd1 (fun Kx hKx => ?_)
                refine sek 68 10 #[.agg #[.bool false, .slice p66 (dig B16 dq).length c66, .int .i64 0]] ?_
                ((with_reducible refine ((HD _ p66 c66 x66.rd).out).mono ?_))
                rintro eV17 V17 ⟨p68, c68, rfl, hr_x68, hc_x68, hf_x68, hbV17⟩
                have hzV17 := hbV17.size
                have x68 := rf_of hr_x68 hc_x68 hf_x68
                clear hr_x68 hc_x68 hf_x68
                have lx68 := fun h => x68.lt h
                refine ⟨.agg #[.bool D.neg, .slice p68 (dig B16 D.m).length c68, .int .i64 D.e], rfl, ?_⟩
                replace b5 := (b5.past hbV17)
                replace b4 := (b4.past hbV17)
                refine hKx.out _ _ ⟨b5, b4⟩ ?_
                clear hKx Kx
                refine sxr [14] ?_
                refine rd1 (fun Kx hKx => ?_)
                replace x63 := (x63.past (bthru (bthru hbV15 hbV16) hbV17))
                refine sek 69 9 #[.agg #[.bool C.neg, .slice p63 (dig B16 C.m).length c63, .int .i64 C.e], .agg #[.bool D.neg, .slice p68 (dig B16 D.m).length c68, .int .i64 D.e]] ?_
                ((with_reducible refine ((HS _ p63 c63 p68 c68 x63.rd x68.rd).out).mono ?_))
                rintro eV18 V18 ⟨p69, c69, rfl, hr_x69, hc_x69, hf_x69, hbV18⟩
                have hzV18 := hbV18.size
                have x69 := rf_of hr_x69 hc_x69 hf_x69
                clear hr_x69 hc_x69 hf_x69
                have lx69 := fun h => x69.lt h
                refine ⟨.agg #[.bool S.neg, .slice p69 (dig B16 S.m).length c69, .int .i64 S.e], rfl, ?_⟩
                replace b5 := (b5.past hbV18)
                replace b4 := (b4.past hbV18)
                refine hKx.out _ _ ⟨b5, b4⟩ ?_
                clear hKx Kx
                refine sxr [16] ?_
                refine rd1 (fun Kx hKx => ?_)
                replace b14 := (b14.past (bthru (bthru hbV16 hbV17) hbV18))
                refine ssk none b14 hT35 0 #[.bool S.neg, .slice p69 (dig B16 S.m).length c69, .int .i64 S.e] #[.bool S.neg, .slice p69 (dig B16 S.m).length c69, .int .i64 S.e] ?_
                have boV19 := b14
                clear b14
                intro V19 hOV19 b14
                have hzV19 := hOV19.size
                replace b5 := (b5.only hOV19 (by omega))
                replace b4 := (b4.only hOV19 (by omega))
                refine hKx.out _ _ ⟨b5, b4⟩ ?_
                clear hKx Kx
                refine sx_done (by kernel_rfl) ?_
                replace x59 := (x59.past ((bthru (bthru (bthru (bthru hbV14 hbV15) hbV16) hbV17) hbV18).trans (hOV19.below (by omega))))
                replace x63 := ((x63.past hbV18).only hOV19 (fun h => by have := lx63 h; omega))
                replace x66 := ((x66.past (bthru hbV17 hbV18)).only hOV19 (fun h => by have := lx66 h; omega))
                replace x68 := ((x68.past hbV18).only hOV19 (fun h => by have := lx68 h; omega))
                replace x69 := (x69.only hOV19 (fun h => by have := lx69 h; omega))
                exact ⟨rfl, V14.heap.size, p59, c59, p63, c63, p66, c66, p68, c68, p69, c69, by kernel_rfl, b14, (x59.mono (by omega)), (x63.mono (by omega)), (x66.mono (by omega)), (x68.mono (by omega)), (x69.mono (by omega)), ((bthru (bthru (bthru (bthru (bthru (bthru hbV12 hbV13) hbV14) hbV15) hbV16) hbV17) hbV18).trans (hOV19.below (by omega))), by omega⟩
              refine rd1 (fun Kx hKx => ?_)
              refine snk 14 #[.bool false, .slice none 0 0, .int .i64 0] 35 (fun V14 hbV14 hzV14 b14 => ?_)
              replace b5 := (b5.past hbV14)
              replace b4 := (b4.past hbV14)
              refine hKx.out _ _ ⟨b5, b4⟩ ?_
              clear hKx Kx
              refine sxr [8] ?_
              refine rd1 (fun Kx hKx => ?_)
              replace x59 := (x59.past hbV14)
              refine sek 63 10 #[.agg #[.bool r.g, .slice p59 (dig B16 nr).length c59, .int .i64 r.e]] ?_
              ((with_reducible refine ((HC _ p59 c59 x59.rd).out).mono ?_))
              rintro eV15 V15 ⟨p63, c63, rfl, hr_x63, hc_x63, hf_x63, hbV15⟩
              have hzV15 := hbV15.size
              have x63 := rf_of hr_x63 hc_x63 hf_x63
              clear hr_x63 hc_x63 hf_x63
              have lx63 := fun h => x63.lt h
              refine ⟨.agg #[.bool C.neg, .slice p63 (dig B16 C.m).length c63, .int .i64 C.e], rfl, ?_⟩
              replace b5 := (b5.past hbV15)
              replace b4 := (b4.past hbV15)
              refine hKx.out _ _ ⟨b5, b4⟩ ?_
              clear hKx Kx
              refine sxr [11] ?_
              refine rd1 (fun Kx hKx => ?_)
              replace hq := (hq.past (bthru (bthru (bthru (bthru (bthru ((bthru (bthru ((bthru hbV5 hbV6).trans (hOV7.below (by omega))) hbV8) hbV9).trans (hOV10.below (by omega))) hbV11) hbV12) hbV13) hbV14) hbV15))
              refine sek 66 11 #[.slice q.q q.ys.length q.d] ?_
              ((with_reducible refine ((HN4 _ hq).out).mono ?_))
              rintro eV16 V16 ⟨p66, c66, rfl, x66, hbV16⟩
              have hzV16 := hbV16.size
              have lx66 := fun h => x66.lt h
              refine ⟨.slice p66 (dig B16 dq).length c66, rfl, ?_⟩
              replace b5 := (b5.past hbV16)
              replace b4 := (b4.past hbV16)
              refine hKx.out _ _ ⟨b5, b4⟩ ?_
              clear hKx Kx
              refine tk 12 67 (.agg #[.bool false, .slice p66 (dig B16 dq).length c66, .int .i64 0]) ⟨b5, b4⟩ ?_
              refine sxr [13] ?_
              refine rd1 (fun Kx hKx => ?_)
              refine sek 68 10 #[.agg #[.bool false, .slice p66 (dig B16 dq).length c66, .int .i64 0]] ?_
              ((with_reducible refine ((HD _ p66 c66 x66.rd).out).mono ?_))
              rintro eV17 V17 ⟨p68, c68, rfl, hr_x68, hc_x68, hf_x68, hbV17⟩
              have hzV17 := hbV17.size
              have x68 := rf_of hr_x68 hc_x68 hf_x68
              clear hr_x68 hc_x68 hf_x68
              have lx68 := fun h => x68.lt h
              refine ⟨.agg #[.bool D.neg, .slice p68 (dig B16 D.m).length c68, .int .i64 D.e], rfl, ?_⟩
              replace b5 := (b5.past hbV17)
              replace b4 := (b4.past hbV17)
              refine hKx.out _ _ ⟨b5, b4⟩ ?_
              clear hKx Kx
              refine sxr [14] ?_
              refine rd1 (fun Kx hKx => ?_)
              replace x63 := (x63.past (bthru hbV16 hbV17))
              refine sek 69 9 #[.agg #[.bool C.neg, .slice p63 (dig B16 C.m).length c63, .int .i64 C.e], .agg #[.bool D.neg, .slice p68 (dig B16 D.m).length c68, .int .i64 D.e]] ?_
              ((with_reducible refine ((HS _ p63 c63 p68 c68 x63.rd x68.rd).out).mono ?_))
              rintro eV18 V18 ⟨p69, c69, rfl, hr_x69, hc_x69, hf_x69, hbV18⟩
              have hzV18 := hbV18.size
              have x69 := rf_of hr_x69 hc_x69 hf_x69
              clear hr_x69 hc_x69 hf_x69
              have lx69 := fun h => x69.lt h
              refine ⟨.agg #[.bool S.neg, .slice p69 (dig B16 S.m).length c69, .int .i64 S.e], rfl, ?_⟩
              replace b5 := (b5.past hbV18)
              replace b4 := (b4.past hbV18)
              refine hKx.out _ _ ⟨b5, b4⟩ ?_
              clear hKx Kx
              refine sxr [16] ?_
              refine rd1 (fun Kx hKx => ?_)
              replace b14 := (b14.past (bthru (bthru (bthru hbV15 hbV16) hbV17) hbV18))
              refine ssk none b14 hT35 0 #[.bool S.neg, .slice p69 (dig B16 S.m).length c69, .int .i64 S.e] #[.bool S.neg, .slice p69 (dig B16 S.m).length c69, .int .i64 S.e] ?_
              have boV19 := b14
              clear b14
              intro V19 hOV19 b14
              have hzV19 := hOV19.size
              replace b5 := (b5.only hOV19 (by omega))
              replace b4 := (b4.only hOV19 (by omega))
              refine hKx.out _ _ ⟨b5, b4⟩ ?_
              clear hKx Kx
              refine sx_done (by kernel_rfl) ?_
              replace x59 := ((x59.past (bthru (bthru (bthru hbV15 hbV16) hbV17) hbV18)).only hOV19 (fun h => by have := lx59 h; omega))
              replace x63 := ((x63.past hbV18).only hOV19 (fun h => by have := lx63 h; omega))
              replace x66 := ((x66.past (bthru hbV17 hbV18)).only hOV19 (fun h => by have := lx66 h; omega))
              replace x68 := ((x68.past hbV18).only hOV19 (fun h => by have := lx68 h; omega))
              replace x69 := (x69.only hOV19 (fun h => by have := lx69 h; omega))
              exact ⟨rfl, V13.heap.size, p59, c59, p63, c63, p66, c66, p68, c68, p69, c69, by kernel_rfl, b14, (x59.mono (by omega)), (x63.mono (by omega)), (x66.mono (by omega)), (x68.mono (by omega)), (x69.mono (by omega)), ((bthru (bthru (bthru (bthru (bthru (bthru hbV12 hbV13) hbV14) hbV15) hbV16) hbV17) hbV18).trans (hOV19.below (by omega))), by omega⟩
            refine rd1 (fun Kx hKx => ?_)
            refine snk 14 #[.bool false, .slice none 0 0, .int .i64 0] 35 (fun V13 hbV13 hzV13 b14 => ?_)
            replace b5 := (b5.past hbV13)
            replace b4 := (b4.past hbV13)
            refine hKx.out _ _ ⟨b5, b4⟩ ?_
            clear hKx Kx
            refine sxr [4] ?_
            refine rd1 (fun Kx hKx => ?_)
            replace hr := (hr.past (bthru (bthru (bthru ((bthru hbV8 hbV9).trans (hOV10.below (by omega))) hbV11) hbV12) hbV13))
            refine sek 59 11 #[.slice r.p r.xs.length r.c] ?_
            ((with_reducible refine ((HN3 _ hr).out).mono ?_))
            rintro eV14 V14 ⟨p59, c59, rfl, x59, hbV14⟩
            have hzV14 := hbV14.size
            have lx59 := fun h => x59.lt h
            refine ⟨.slice p59 (dig B16 nr).length c59, rfl, ?_⟩
            replace b5 := (b5.past hbV14)
            replace b4 := (b4.past hbV14)
            refine hKx.out _ _ ⟨b5, b4⟩ ?_
            clear hKx Kx
            refine tk 7 62 (.agg #[.bool r.g, .slice p59 (dig B16 nr).length c59, .int .i64 r.e]) ⟨b5, b4⟩ ?_
            refine sxr [8] ?_
            refine rd1 (fun Kx hKx => ?_)
            refine sek 63 10 #[.agg #[.bool r.g, .slice p59 (dig B16 nr).length c59, .int .i64 r.e]] ?_
            ((with_reducible refine ((HC _ p59 c59 x59.rd).out).mono ?_))
            rintro eV15 V15 ⟨p63, c63, rfl, hr_x63, hc_x63, hf_x63, hbV15⟩
            have hzV15 := hbV15.size
            have x63 := rf_of hr_x63 hc_x63 hf_x63
            clear hr_x63 hc_x63 hf_x63
            have lx63 := fun h => x63.lt h
            refine ⟨.agg #[.bool C.neg, .slice p63 (dig B16 C.m).length c63, .int .i64 C.e], rfl, ?_⟩
            replace b5 := (b5.past hbV15)
            replace b4 := (b4.past hbV15)
            refine hKx.out _ _ ⟨b5, b4⟩ ?_
            clear hKx Kx
            refine sxr [11] ?_
            refine rd1 (fun Kx hKx => ?_)
            replace hq := (hq.past (bthru (bthru (bthru (bthru (bthru ((bthru (bthru ((bthru hbV5 hbV6).trans (hOV7.below (by omega))) hbV8) hbV9).trans (hOV10.below (by omega))) hbV11) hbV12) hbV13) hbV14) hbV15))
            refine sek 66 11 #[.slice q.q q.ys.length q.d] ?_
            ((with_reducible refine ((HN4 _ hq).out).mono ?_))
            rintro eV16 V16 ⟨p66, c66, rfl, x66, hbV16⟩
            have hzV16 := hbV16.size
            have lx66 := fun h => x66.lt h
            refine ⟨.slice p66 (dig B16 dq).length c66, rfl, ?_⟩
            replace b5 := (b5.past hbV16)
            replace b4 := (b4.past hbV16)
            refine hKx.out _ _ ⟨b5, b4⟩ ?_
            clear hKx Kx
            refine tk 12 67 (.agg #[.bool false, .slice p66 (dig B16 dq).length c66, .int .i64 0]) ⟨b5, b4⟩ ?_
            refine sxr [13] ?_
            refine rd1 (fun Kx hKx => ?_)
            refine sek 68 10 #[.agg #[.bool false, .slice p66 (dig B16 dq).length c66, .int .i64 0]] ?_
            ((with_reducible refine ((HD _ p66 c66 x66.rd).out).mono ?_))
            rintro eV17 V17 ⟨p68, c68, rfl, hr_x68, hc_x68, hf_x68, hbV17⟩
            have hzV17 := hbV17.size
            have x68 := rf_of hr_x68 hc_x68 hf_x68
            clear hr_x68 hc_x68 hf_x68
            have lx68 := fun h => x68.lt h
            refine ⟨.agg #[.bool D.neg, .slice p68 (dig B16 D.m).length c68, .int .i64 D.e], rfl, ?_⟩
            replace b5 := (b5.past hbV17)
            replace b4 := (b4.past hbV17)
            refine hKx.out _ _ ⟨b5, b4⟩ ?_
            clear hKx Kx
            refine sxr [14] ?_
            refine rd1 (fun Kx hKx => ?_)
            replace x63 := (x63.past (bthru hbV16 hbV17))
            refine sek 69 9 #[.agg #[.bool C.neg, .slice p63 (dig B16 C.m).length c63, .int .i64 C.e], .agg #[.bool D.neg, .slice p68 (dig B16 D.m).length c68, .int .i64 D.e]] ?_
            ((with_reducible refine ((HS _ p63 c63 p68 c68 x63.rd x68.rd).out).mono ?_))
            rintro eV18 V18 ⟨p69, c69, rfl, hr_x69, hc_x69, hf_x69, hbV18⟩
            have hzV18 := hbV18.size
            have x69 := rf_of hr_x69 hc_x69 hf_x69
            clear hr_x69 hc_x69 hf_x69
            have lx69 := fun h => x69.lt h
            refine ⟨.agg #[.bool S.neg, .slice p69 (dig B16 S.m).length c69, .int .i64 S.e], rfl, ?_⟩
            replace b5 := (b5.past hbV18)
            replace b4 := (b4.past hbV18)
            refine hKx.out _ _ ⟨b5, b4⟩ ?_
            clear hKx Kx
            refine sxr [16] ?_
            refine rd1 (fun Kx hKx => ?_)
            replace b14 := (b14.past (bthru (bthru (bthru (bthru hbV14 hbV15) hbV16) hbV17) hbV18))
            refine ssk none b14 hT35 0 #[.bool S.neg, .slice p69 (dig B16 S.m).length c69, .int .i64 S.e] #[.bool S.neg, .slice p69 (dig B16 S.m).length c69, .int .i64 S.e] ?_
            have boV19 := b14
            clear b14
            intro V19 hOV19 b14
            have hzV19 := hOV19.size
            replace b5 := (b5.only hOV19 (by omega))
            replace b4 := (b4.only hOV19 (by omega))
            refine hKx.out _ _ ⟨b5, b4⟩ ?_
            clear hKx Kx
            refine sx_done (by kernel_rfl) ?_
            replace x59 := ((x59.past (bthru (bthru (bthru hbV15 hbV16) hbV17) hbV18)).only hOV19 (fun h => by have := lx59 h; omega))
            replace x63 := ((x63.past hbV18).only hOV19 (fun h => by have := lx63 h; omega))
            replace x66 := ((x66.past (bthru hbV17 hbV18)).only hOV19 (fun h => by have := lx66 h; omega))
            replace x68 := ((x68.past hbV18).only hOV19 (fun h => by have := lx68 h; omega))
            replace x69 := (x69.only hOV19 (fun h => by have := lx69 h; omega))
            exact ⟨rfl, V12.heap.size, p59, c59, p63, c63, p66, c66, p68, c68, p69, c69, by kernel_rfl, b14, (x59.mono (by omega)), (x63.mono (by omega)), (x66.mono (by omega)), (x68.mono (by omega)), (x69.mono (by omega)), ((bthru (bthru (bthru (bthru (bthru (bthru hbV12 hbV13) hbV14) hbV15) hbV16) hbV17) hbV18).trans (hOV19.below (by omega))), by omega⟩
          rintro _ V12 ⟨kb14, p59, c59, p63, c63, p66, c66, p68, c68, p69, c69, rfl, b14, x59, x63, x66, x68, x69, hbV12, hkb14⟩
          refine hGx _ _ ?_
          clear hGx Gx
          have hzV12 := hbV12.size
          have hlb14 := b14.lt
          have lx59 := fun h => x59.lt h
          have lx63 := fun h => x63.lt h
          have lx66 := fun h => x66.lt h
          have lx68 := fun h => x68.lt h
          have lx69 := fun h => x69.lt h
          refine sx_then ?_
          refine wp_seq ?_
          refine sx_region ?_
          replace b9 := (b9.past (bthru (bthru ((bthru hbV8 hbV9).trans (hOV10.below (by omega))) hbV11) hbV12))
          refine sv 71 (.agg #[.bool x.neg, .slice p24 (dig B32 x.m).length c24, .int .i64 x.e]) ?_ (hr := (exec_ld (by kernel_rfl) (run_ld b9 hT30 0 [.bool x.neg, .slice p24 (dig B32 x.m).length c24, .int .i64 x.e] (by kernel_rfl) (by kernel_rfl))))
          replace b11 := (b11.past (bthru hbV11 hbV12))
          refine sv 72 (.agg #[.bool y.neg, .slice p31 (dig B32 y.m).length c31, .int .i64 y.e]) ?_ (hr := (exec_ld (by kernel_rfl) (run_ld b11 hT30 0 [.bool y.neg, .slice p31 (dig B32 y.m).length c31, .int .i64 y.e] (by kernel_rfl) (by kernel_rfl))))
          replace ho24 := (ho24.past (bthru (bthru ((bthru (bthru (hbV6.trans (hOV7.below (by omega))) hbV8) hbV9).trans (hOV10.below (by omega))) hbV11) hbV12))
          replace ho31 := (ho31.past (bthru (bthru (hbV9.trans (hOV10.below (by omega))) hbV11) hbV12))
          replace hT := (hT.past (bthru (bthru ((bthru hbV8 hbV9).trans (hOV10.below (by omega))) hbV11) hbV12))
          refine se 73 12 #[.agg #[.bool x.neg, .slice p24 (dig B32 x.m).length c24, .int .i64 x.e], .agg #[.bool y.neg, .slice p31 (dig B32 y.m).length c31, .int .i64 y.e]] (fun Gx hGx => ?_)
          ((with_reducible refine ((HCC _ _ _ p24 c24 p31 c31 ho24 ho31 hT).out).mono ?_))
          rintro eV13 V13 ⟨rfl, hbV13⟩
          have hzV13 := hbV13.size
          refine ⟨.tuple #[.int .i64 cv, .int .i64 0], rfl, hGx _ _ ?_⟩
          clear hGx Gx
          refine sv 70 (.tuple #[.int .i64 cv, .int .i64 0]) ?_
          refine sv 74 (.int .i64 cv) ?_
          refine sv 75 (.int .i64 0) ?_
          refine sv 15 (.int .i64 cv) ?_
          refine sv 16 (.int .i64 0) ?_
          refine sx_nil ?_
          refine sx_then ?_
          refine wp_seq ?_
          refine sx_region ?_
          replace b13 := (b13.past (bthru hbV12 hbV13))
          refine sv 76 (.agg #[.bool P.neg, .slice p54 (dig B16 P.m).length c54, .int .i64 P.e]) ?_ (hr := (exec_ld (by kernel_rfl) (run_ld b13 hT35 0 [.bool P.neg, .slice p54 (dig B16 P.m).length c54, .int .i64 P.e] (by kernel_rfl) (by kernel_rfl))))
          replace b14 := (b14.past hbV13)
          refine sv 77 (.agg #[.bool S.neg, .slice p69 (dig B16 S.m).length c69, .int .i64 S.e]) ?_ (hr := (exec_ld (by kernel_rfl) (run_ld b14 hT35 0 [.bool S.neg, .slice p69 (dig B16 S.m).length c69, .int .i64 S.e] (by kernel_rfl) (by kernel_rfl))))
          replace x54 := (x54.past (bthru hbV12 hbV13))
          replace x69 := (x69.past hbV13)
          refine se 78 13 #[.agg #[.bool P.neg, .slice p54 (dig B16 P.m).length c54, .int .i64 P.e], .agg #[.bool S.neg, .slice p69 (dig B16 S.m).length c69, .int .i64 S.e]] (fun Gx hGx => ?_)
          ((with_reducible refine ((HM _ p54 c54 p69 c69 x54.rd x69.rd x69.cap).out).mono ?_))
          rintro eV14 V14 ⟨rfl, hbV14⟩
          have hzV14 := hbV14.size
          refine ⟨.int .i64 mv, rfl, hGx _ _ ?_⟩
          clear hGx Gx
          refine sv 17 (.int .i64 mv) ?_
          refine sx_nil ?_
          refine sx_then ?_
          refine wp_seq ?_
          refine sx_region ?_
          refine sv 79 (.int .i64 0) ?_
          refine sv 80 (.bool true) ?_
          refine sv 81 (.bool true) ?_
          refine sv 82 (.int .i64 mv) ?_
          refine sv 83 (.bool false) ?_ (hr := ((show _ = Result.ok (Next.value (.bool (decide (mv < 0)))) _ from (by kernel_rfl)).trans (congrArg (fun z => Result.ok (Next.value (.bool z)) _) (show (decide (mv < 0)) = false from decide_eq_false m1))))
          refine sv 84 (.bool false) ?_
          refine so (some 85) ?_
          refine so (some 86) ?_
          refine sv 87 (.bool false) ?_
          refine sv 88 (.bool false) ?_
          refine sv 89 (.int .i64 mv) ?_
          refine sv 90 (.bool true) ?_ (hr := ((show _ = Result.ok (Next.value (.bool (decide (mv > 0)))) _ from (by kernel_rfl)).trans (congrArg (fun z => Result.ok (Next.value (.bool z)) _) (show (decide (mv > 0)) = true from decide_eq_true m2))))
          refine sv 91 (.bool true) ?_
          refine sv 92 (.int .i64 cv) ?_
          refine sv 93 (.bool true) ?_ (hr := ((show _ = Result.ok (Next.value (.bool (decide (cv ≥ 0)))) _ from (by kernel_rfl)).trans (congrArg (fun z => Result.ok (Next.value (.bool z)) _) (show (decide (cv ≥ 0)) = true from decide_eq_true c1))))
          refine sv 94 (.bool true) ?_
          refine sv 95 (.bool true) ?_
          refine sv 96 (.bool true) ?_
          refine so (some 97) ?_
          refine so (some 98) ?_
          refine so (some 99) ?_
          refine so (some 100) ?_
          refine so (some 101) ?_
          refine so (some 102) ?_
          refine sv 103 (.bool true) ?_
          refine sv 104 (.bool true) ?_
          refine sv 8 (.bool true) ?_
          refine sx_nil ?_
          refine sx_then ?_
          refine wp_ret ?_
          repeat (first | with_reducible refine sx_thenret ?_ | with_reducible refine sx_blockret ?_)
          refine bodyPost_ret (v := .bool true) (by simp [results, Tryd.results3, go_sem]) rfl ?_
          exact ⟨rfl, (bthru (bthru (bthru (bthru ((bthru (bthru ((bthru (bthru (bthru (bthru (bthru hbV1 hbV2) hbV3) hbV4) hbV5) hbV6).trans (hOV7.below (by omega))) hbV8) hbV9).trans (hOV10.below (by omega))) hbV11) hbV12) hbV13) hbV14)⟩
        · have m3 : mv = 0 := by omega
          have c1 := hm.2.2 m3
          have hT3 : SxOne Tryd.prog 3 := sxOne_of (by kernel_rfl) (by kernel_rfl)
          have hT4 : SxOne Tryd.prog 4 := sxOne_of (by kernel_rfl) (by kernel_rfl)
          have hT23 : SxOne Tryd.prog 23 := sxOne_of (by kernel_rfl) (by kernel_rfl)
          have hT25 : SxAgg Tryd.prog 25 4 := sxAgg_of (by kernel_rfl) (by kernel_rfl)
          have hT27 : SxAgg Tryd.prog 27 5 := sxAgg_of (by kernel_rfl) (by kernel_rfl)
          have hT30 : SxAgg Tryd.prog 30 3 := sxAgg_of (by kernel_rfl) (by kernel_rfl)
          have hT35 : SxAgg Tryd.prog 35 3 := sxAgg_of (by kernel_rfl) (by kernel_rfl)
          refine calls_of_wp Tryd.func3 rfl ?_
          refine sx_frame (a' := ⟨((.agg #[.bool q.g, .slice q.p q.xs.length q.c, .slice q.q q.ys.length q.d, .int .i64 q.e]) :: (.agg #[.bool r.g, .slice r.p r.xs.length r.c, .slice r.q r.ys.length r.d, .int .i64 r.e]) :: (.agg #[.int .i64 g.rad, .int .i64 g.digs, .int .i64 g.lo, .int .i64 g.hi, .bool g.grad]) :: (.int .i64 way) :: undef :: undef :: undef :: undef :: undef :: undef :: undef :: undef :: undef :: undef :: undef :: undef :: undef :: undef :: undef :: undef :: undef :: undef :: undef :: undef :: undef :: undef :: undef :: undef :: undef :: undef :: undef :: undef :: undef :: undef :: undef :: undef :: undef :: undef :: undef :: undef :: undef :: undef :: undef :: undef :: undef :: undef :: undef :: undef :: undef :: undef :: undef :: undef :: undef :: undef :: undef :: undef :: undef :: undef :: undef :: undef :: undef :: undef :: undef :: undef :: undef :: undef :: undef :: undef :: undef :: undef :: undef :: undef :: undef :: undef :: undef :: undef :: undef :: undef :: undef :: undef :: undef :: undef :: undef :: undef :: undef :: undef :: undef :: undef :: undef :: undef :: undef :: undef :: undef :: undef :: undef :: undef :: undef :: undef :: undef :: undef :: undef :: undef :: undef :: undef :: undef :: []).toArray, []⟩) (by kernel_rfl) ?_
          refine wp_seq ?_
          refine sx_region ?_
          refine sn 4 #[.bool q.g, .slice q.p q.xs.length q.c, .slice q.q q.ys.length q.d, .int .i64 q.e] 25 (fun V1 hbV1 hzV1 b4 => ?_)
          refine sn 5 #[.bool r.g, .slice r.p r.xs.length r.c, .slice r.q r.ys.length r.d, .int .i64 r.e] 25 (fun V2 hbV2 hzV2 b5 => ?_)
          refine sn 6 #[.int .i64 g.rad, .int .i64 g.digs, .int .i64 g.lo, .int .i64 g.hi, .bool g.grad] 27 (fun V3 hbV3 hzV3 b6 => ?_)
          refine sv 8 (.bool false) ?_
          refine sx_nil ?_
          refine sx_then ?_
          refine wp_seq ?_
          refine wp_seq ?_
          refine sx_region ?_
          refine se 18 7 #[] (fun Gx hGx => ?_)
          ((with_reducible refine (gridBegun_any _).mono ?_))
          rintro eV4 V4 ⟨rfl, hbV4⟩
          have hzV4 := hbV4.size
          refine ⟨.bool true, rfl, hGx _ _ ?_⟩
          clear hGx Gx
          refine sv 19 (.bool false) ?_
          refine sx_nil ?_
          refine sx_then ?_
          refine wp_cond_false (by kernel_rfl) ?_
          refine wp_skip ?_
          refine sx_then ?_
          refine wp_seq ?_
          refine sx_region ?_
          replace b4 := (b4.past (bthru (bthru hbV2 hbV3) hbV4))
          refine sv 21 (.agg #[.bool q.g, .slice q.p q.xs.length q.c, .slice q.q q.ys.length q.d, .int .i64 q.e]) ?_ (hr := (exec_ld (by kernel_rfl) (run_ld b4 hT25 0 [.bool q.g, .slice q.p q.xs.length q.c, .slice q.q q.ys.length q.d, .int .i64 q.e] (by kernel_rfl) (by kernel_rfl))))
          replace b6 := (b6.past hbV4)
          refine sv 22 (.agg #[.int .i64 g.rad, .int .i64 g.digs, .int .i64 g.lo, .int .i64 g.hi, .bool g.grad]) ?_ (hr := (exec_ld (by kernel_rfl) (run_ld b6 hT27 0 [.int .i64 g.rad, .int .i64 g.digs, .int .i64 g.lo, .int .i64 g.hi, .bool g.grad] (by kernel_rfl) (by kernel_rfl))))
          refine sv 23 (.int .i64 way) ?_
          replace hq := (hq.past (bthru (bthru (bthru hbV1 hbV2) hbV3) hbV4))
          replace hT := (hT.past (bthru (bthru (bthru hbV1 hbV2) hbV3) hbV4))
          refine se 24 8 #[.agg #[.bool q.g, .slice q.p q.xs.length q.c, .slice q.q q.ys.length q.d, .int .i64 q.e], .agg #[.int .i64 g.rad, .int .i64 g.digs, .int .i64 g.lo, .int .i64 g.hi, .bool g.grad], .int .i64 way] (fun Gx hGx => ?_)
          ((with_reducible refine ((HQ _ hq hT).out).mono ?_))
          rintro eV5 V5 ⟨p24, c24, rfl, ho24, hbV5⟩
          have hzV5 := hbV5.size
          refine ⟨.tuple #[.agg #[.bool x.neg, .slice p24 (dig B32 x.m).length c24, .int .i64 x.e], .bool true], rfl, hGx _ _ ?_⟩
          clear hGx Gx
          refine sv 20 (.tuple #[.agg #[.bool x.neg, .slice p24 (dig B32 x.m).length c24, .int .i64 x.e], .bool true]) ?_
          refine sv 25 (.agg #[.bool x.neg, .slice p24 (dig B32 x.m).length c24, .int .i64 x.e]) ?_
          refine sv 26 (.bool true) ?_
          refine sn 9 #[.bool false, .slice none 0 0, .int .i64 0] 30 (fun V6 hbV6 hzV6 b9 => ?_)
          refine ss none b9 hT30 0 #[.bool x.neg, .slice p24 (dig B32 x.m).length c24, .int .i64 x.e] #[.bool x.neg, .slice p24 (dig B32 x.m).length c24, .int .i64 x.e] ?_
          have boV7 := b9
          clear b9
          intro V7 hOV7 b9
          have hzV7 := hOV7.size
          refine sv 10 (.bool true) ?_
          refine sx_nil ?_
          refine sx_then ?_
          refine wp_seq ?_
          refine sx_region ?_
          replace b5 := (b5.past ((bthru (bthru (bthru hbV3 hbV4) hbV5) hbV6).trans (hOV7.below (by omega))))
          refine sv 28 (.agg #[.bool r.g, .slice r.p r.xs.length r.c, .slice r.q r.ys.length r.d, .int .i64 r.e]) ?_ (hr := (exec_ld (by kernel_rfl) (run_ld b5 hT25 0 [.bool r.g, .slice r.p r.xs.length r.c, .slice r.q r.ys.length r.d, .int .i64 r.e] (by kernel_rfl) (by kernel_rfl))))
          replace b6 := (b6.past ((bthru hbV5 hbV6).trans (hOV7.below (by omega))))
          refine sv 29 (.agg #[.int .i64 g.rad, .int .i64 g.digs, .int .i64 g.lo, .int .i64 g.hi, .bool g.grad]) ?_ (hr := (exec_ld (by kernel_rfl) (run_ld b6 hT27 0 [.int .i64 g.rad, .int .i64 g.digs, .int .i64 g.lo, .int .i64 g.hi, .bool g.grad] (by kernel_rfl) (by kernel_rfl))))
          refine sv 30 (.int .i64 way) ?_
          replace hr := (hr.past ((bthru (bthru (bthru (bthru (bthru hbV1 hbV2) hbV3) hbV4) hbV5) hbV6).trans (hOV7.below (by omega))))
          replace hT := (hT.past ((bthru hbV5 hbV6).trans (hOV7.below (by omega))))
          refine se 31 8 #[.agg #[.bool r.g, .slice r.p r.xs.length r.c, .slice r.q r.ys.length r.d, .int .i64 r.e], .agg #[.int .i64 g.rad, .int .i64 g.digs, .int .i64 g.lo, .int .i64 g.hi, .bool g.grad], .int .i64 way] (fun Gx hGx => ?_)
          ((with_reducible refine ((HR _ hr hT).out).mono ?_))
          rintro eV8 V8 ⟨p31, c31, rfl, ho31, hbV8⟩
          have hzV8 := hbV8.size
          refine ⟨.tuple #[.agg #[.bool y.neg, .slice p31 (dig B32 y.m).length c31, .int .i64 y.e], .bool true], rfl, hGx _ _ ?_⟩
          clear hGx Gx
          refine sv 27 (.tuple #[.agg #[.bool y.neg, .slice p31 (dig B32 y.m).length c31, .int .i64 y.e], .bool true]) ?_
          refine sv 32 (.agg #[.bool y.neg, .slice p31 (dig B32 y.m).length c31, .int .i64 y.e]) ?_
          refine sv 33 (.bool true) ?_
          refine sn 11 #[.bool false, .slice none 0 0, .int .i64 0] 30 (fun V9 hbV9 hzV9 b11 => ?_)
          refine ss none b11 hT30 0 #[.bool y.neg, .slice p31 (dig B32 y.m).length c31, .int .i64 y.e] #[.bool y.neg, .slice p31 (dig B32 y.m).length c31, .int .i64 y.e] ?_
          have boV10 := b11
          clear b11
          intro V10 hOV10 b11
          have hzV10 := hOV10.size
          refine sv 12 (.bool true) ?_
          refine sx_nil ?_
          refine sx_then ?_
          refine wp_seq ?_
          refine wp_seq ?_
          refine sx_region ?_
          refine sv 34 (.bool true) ?_
          refine sv 35 (.bool false) ?_
          refine sv 36 (.bool false) ?_
          refine sv 37 (.bool true) ?_
          refine sv 38 (.bool false) ?_
          refine sv 39 (.bool false) ?_
          refine sx_nil ?_
          refine sx_then ?_
          refine wp_cond_false (by kernel_rfl) ?_
          refine wp_skip ?_
          refine sx_then ?_
          refine wp_seq ?_
          refine sx_cutg (R := fun a' w' => ∃ (kb13 : Nat) (p44 : Option Addr) (c44 : Nat) (p48 : Option Addr) (c48 : Nat) (p51 : Option Addr) (c51 : Nat) (p53 : Option Addr) (c53 : Nat) (p54 : Option Addr) (c54 : Nat), a' = ⟨((.agg #[.bool q.g, .slice q.p q.xs.length q.c, .slice q.q q.ys.length q.d, .int .i64 q.e]) :: (.agg #[.bool r.g, .slice r.p r.xs.length r.c, .slice r.q r.ys.length r.d, .int .i64 r.e]) :: (.agg #[.int .i64 g.rad, .int .i64 g.digs, .int .i64 g.lo, .int .i64 g.hi, .bool g.grad]) :: (.int .i64 way) :: (.pointer (some ⟨w.heap.size, 0, none⟩)) :: (.pointer (some ⟨V1.heap.size, 0, none⟩)) :: (.pointer (some ⟨V2.heap.size, 0, none⟩)) :: undef :: (.bool false) :: (.pointer (some ⟨V5.heap.size, 0, none⟩)) :: (.bool true) :: (.pointer (some ⟨V8.heap.size, 0, none⟩)) :: (.bool true) :: (.pointer (some ⟨kb13, 0, none⟩)) :: undef :: undef :: undef :: undef :: (.bool true) :: (.bool false) :: (.tuple #[.agg #[.bool x.neg, .slice p24 (dig B32 x.m).length c24, .int .i64 x.e], .bool true]) :: (.agg #[.bool q.g, .slice q.p q.xs.length q.c, .slice q.q q.ys.length q.d, .int .i64 q.e]) :: (.agg #[.int .i64 g.rad, .int .i64 g.digs, .int .i64 g.lo, .int .i64 g.hi, .bool g.grad]) :: (.int .i64 way) :: (.tuple #[.agg #[.bool x.neg, .slice p24 (dig B32 x.m).length c24, .int .i64 x.e], .bool true]) :: (.agg #[.bool x.neg, .slice p24 (dig B32 x.m).length c24, .int .i64 x.e]) :: (.bool true) :: (.tuple #[.agg #[.bool y.neg, .slice p31 (dig B32 y.m).length c31, .int .i64 y.e], .bool true]) :: (.agg #[.bool r.g, .slice r.p r.xs.length r.c, .slice r.q r.ys.length r.d, .int .i64 r.e]) :: (.agg #[.int .i64 g.rad, .int .i64 g.digs, .int .i64 g.lo, .int .i64 g.hi, .bool g.grad]) :: (.int .i64 way) :: (.tuple #[.agg #[.bool y.neg, .slice p31 (dig B32 y.m).length c31, .int .i64 y.e], .bool true]) :: (.agg #[.bool y.neg, .slice p31 (dig B32 y.m).length c31, .int .i64 y.e]) :: (.bool true) :: (.bool true) :: (.bool false) :: (.bool false) :: (.bool true) :: (.bool false) :: (.bool false) :: (.pointer (some ⟨w.heap.size, 0, none⟩)) :: (.bool q.g) :: (.pointer (some ⟨w.heap.size, 1, none⟩)) :: (.slice q.p q.xs.length q.c) :: (.slice p44 (dig B16 nq).length c44) :: (.pointer (some ⟨w.heap.size, 3, none⟩)) :: (.int .i64 q.e) :: (.agg #[.bool q.g, .slice p44 (dig B16 nq).length c44, .int .i64 q.e]) :: (.agg #[.bool A.neg, .slice p48 (dig B16 A.m).length c48, .int .i64 A.e]) :: (.pointer (some ⟨V1.heap.size, 2, none⟩)) :: (.slice r.q r.ys.length r.d) :: (.slice p51 (dig B16 dr).length c51) :: (.agg #[.bool false, .slice p51 (dig B16 dr).length c51, .int .i64 0]) :: (.agg #[.bool B.neg, .slice p53 (dig B16 B.m).length c53, .int .i64 B.e]) :: (.agg #[.bool P.neg, .slice p54 (dig B16 P.m).length c54, .int .i64 P.e]) :: undef :: undef :: undef :: undef :: undef :: undef :: undef :: undef :: undef :: undef :: undef :: undef :: undef :: undef :: undef :: undef :: undef :: undef :: undef :: undef :: undef :: undef :: undef :: undef :: undef :: undef :: undef :: undef :: undef :: undef :: undef :: undef :: undef :: undef :: undef :: undef :: undef :: undef :: undef :: undef :: undef :: undef :: undef :: undef :: undef :: undef :: undef :: undef :: undef :: undef :: []).toArray, []⟩ ∧ Bt w' kb13 35 #[.bool P.neg, .slice p54 (dig B16 P.m).length c54, .int .i64 P.e] ∧ Rf w' V10.heap.size p44 c44 (dig B16 nq) ∧ Rf w' V10.heap.size p48 c48 (dig B16 A.m) ∧ Rf w' V10.heap.size p51 c51 (dig B16 dr) ∧ Rf w' V10.heap.size p53 c53 (dig B16 B.m) ∧ Rf w' V10.heap.size p54 c54 (dig B16 P.m) ∧ Below V10.heap.size V10 w' ∧ V10.heap.size ≤ kb13) ?_ (fun Gx hGx => ?_)
          · skip
            replace b4 := (b4.past ((bthru (bthru ((bthru hbV5 hbV6).trans (hOV7.below (by omega))) hbV8) hbV9).trans (hOV10.below (by omega))))
            replace b5 := (b5.past ((bthru hbV8 hbV9).trans (hOV10.below (by omega))))
            obtain ⟨V11, hVV11⟩ : ∃ V, V = (V10).drew := ⟨_, rfl⟩
            have hbV11 : Below (V10).heap.size (V10) V11 := by rw [hVV11]; exact (Below.refl _ _).drew
            have hzV11 : V11.heap.size = (V10).heap.size := by rw [hVV11]; rfl
            replace b4 := (b4.past hbV11)
            replace b5 := (b5.past hbV11)
            refine sxd _ (fun w' => Bt w' w.heap.size 25 #[.bool q.g, .slice q.p q.xs.length q.c, .slice q.q q.ys.length q.d, .int .i64 q.e] ∧ Bt w' V1.heap.size 25 #[.bool r.g, .slice r.p r.xs.length r.c, .slice r.q r.ys.length r.d, .int .i64 r.e]) hVV11 ⟨b4, b5⟩ ?_
            clear hVV11
            refine tk 0 40 (.pointer (some ⟨w.heap.size, 0, none⟩)) ⟨b4, b5⟩ ?_
            refine tk 1 41 (.bool q.g) ⟨b4, b5⟩ ?_ (hy := fun w' hS => (exec_ld (by kernel_rfl) (run_ld1 hS.1 hT4 0 (.bool q.g) (by kernel_rfl))))
            refine tk 2 42 (.pointer (some ⟨w.heap.size, 1, none⟩)) ⟨b4, b5⟩ ?_
            refine tk 3 43 (.slice q.p q.xs.length q.c) ⟨b4, b5⟩ ?_ (hy := fun w' hS => (exec_ld (by kernel_rfl) (run_ld1 hS.1 hT23 1 (.slice q.p q.xs.length q.c) (by kernel_rfl))))
            refine tk 5 45 (.pointer (some ⟨w.heap.size, 3, none⟩)) ⟨b4, b5⟩ ?_
            refine tk 6 46 (.int .i64 q.e) ⟨b4, b5⟩ ?_ (hy := fun w' hS => (exec_ld (by kernel_rfl) (run_ld1 hS.1 hT3 3 (.int .i64 q.e) (by kernel_rfl))))
            refine tk 9 49 (.pointer (some ⟨V1.heap.size, 2, none⟩)) ⟨b4, b5⟩ ?_
            refine tk 10 50 (.slice r.q r.ys.length r.d) ⟨b4, b5⟩ ?_ (hy := fun w' hS => (exec_ld (by kernel_rfl) (run_ld1 hS.2 hT23 2 (.slice r.q r.ys.length r.d) (by kernel_rfl))))
            refine sxr [4, 15] ?_
            refine rd2 (fun Kx hKx => ?_) ?_
            · skip
              replace hq := (hq.past (bthru ((bthru (bthru ((bthru hbV5 hbV6).trans (hOV7.below (by omega))) hbV8) hbV9).trans (hOV10.below (by omega))) hbV11))
              refine sek 44 11 #[.slice q.p q.xs.length q.c] ?_
              ((with_reducible refine ((HN1 _ hq).out).mono ?_))
              rintro eV12 V12 ⟨p44, c44, rfl, x44, hbV12⟩
              have hzV12 := hbV12.size
              have lx44 := fun h => x44.lt h
              refine ⟨.slice p44 (dig B16 nq).length c44, rfl, ?_⟩
              replace b4 := (b4.past hbV12)
              replace b5 := (b5.past hbV12)
              refine hKx.out _ _ ⟨b4, b5⟩ ?_
              clear hKx Kx
              refine tk 7 47 (.agg #[.bool q.g, .slice p44 (dig B16 nq).length c44, .int .i64 q.e]) ⟨b4, b5⟩ ?_
              refine sxr [8, 15] ?_
              refine rd2 (fun Kx hKx => ?_) ?_
              · skip
                refine sek 48 10 #[.agg #[.bool q.g, .slice p44 (dig B16 nq).length c44, .int .i64 q.e]] ?_
                ((with_reducible refine ((HA _ p44 c44 x44.rd).out).mono ?_))
                rintro eV13 V13 ⟨p48, c48, rfl, hr_x48, hc_x48, hf_x48, hbV13⟩
                have hzV13 := hbV13.size
                have x48 := rf_of hr_x48 hc_x48 hf_x48
                clear hr_x48 hc_x48 hf_x48
                have lx48 := fun h => x48.lt h
                refine ⟨.agg #[.bool A.neg, .slice p48 (dig B16 A.m).length c48, .int .i64 A.e], rfl, ?_⟩
                replace b4 := (b4.past hbV13)
                replace b5 := (b5.past hbV13)
                refine hKx.out _ _ ⟨b4, b5⟩ ?_
                clear hKx Kx
                refine sxr [11, 15] ?_
                refine rd2 (fun Kx hKx => ?_) ?_
                · skip
                  replace hr := (hr.past (bthru (bthru (bthru ((bthru hbV8 hbV9).trans (hOV10.below (by omega))) hbV11) hbV12) hbV13))
                  refine sek 51 11 #[.slice r.q r.ys.length r.d] ?_
                  ((with_reducible refine ((HN2 _ hr).out).mono ?_))
                  rintro eV14 V14 ⟨p51, c51, rfl, x51, hbV14⟩
                  have hzV14 := hbV14.size
                  have lx51 := fun h => x51.lt h
                  refine ⟨.slice p51 (dig B16 dr).length c51, rfl, ?_⟩
                  replace b4 := (b4.past hbV14)
                  replace b5 := (b5.past hbV14)
                  refine hKx.out _ _ ⟨b4, b5⟩ ?_
                  clear hKx Kx
                  refine tk 12 52 (.agg #[.bool false, .slice p51 (dig B16 dr).length c51, .int .i64 0]) ⟨b4, b5⟩ ?_
                  refine sxr [13, 15] ?_
                  refine rd2 (fun Kx hKx => ?_) ?_
                  · skip
                    refine sek 53 10 #[.agg #[.bool false, .slice p51 (dig B16 dr).length c51, .int .i64 0]] ?_
                    ((with_reducible refine ((HB _ p51 c51 x51.rd).out).mono ?_))
                    rintro eV15 V15 ⟨p53, c53, rfl, hr_x53, hc_x53, hf_x53, hbV15⟩
                    have hzV15 := hbV15.size
                    have x53 := rf_of hr_x53 hc_x53 hf_x53
                    clear hr_x53 hc_x53 hf_x53
                    have lx53 := fun h => x53.lt h
                    refine ⟨.agg #[.bool B.neg, .slice p53 (dig B16 B.m).length c53, .int .i64 B.e], rfl, ?_⟩
                    replace b4 := (b4.past hbV15)
                    replace b5 := (b5.past hbV15)
                    refine hKx.out _ _ ⟨b4, b5⟩ ?_
                    clear hKx Kx
                    refine sxr [14, 15] ?_
                    refine rd2 (fun Kx hKx => ?_) ?_
                    · skip
                      replace x48 := (x48.past (bthru hbV14 hbV15))
                      refine sek 54 9 #[.agg #[.bool A.neg, .slice p48 (dig B16 A.m).length c48, .int .i64 A.e], .agg #[.bool B.neg, .slice p53 (dig B16 B.m).length c53, .int .i64 B.e]] ?_
                      ((with_reducible refine ((HP _ p48 c48 p53 c53 x48.rd x53.rd).out).mono ?_))
                      rintro eV16 V16 ⟨p54, c54, rfl, hr_x54, hc_x54, hf_x54, hbV16⟩
                      have hzV16 := hbV16.size
                      have x54 := rf_of hr_x54 hc_x54 hf_x54
                      clear hr_x54 hc_x54 hf_x54
                      have lx54 := fun h => x54.lt h
                      refine ⟨.agg #[.bool P.neg, .slice p54 (dig B16 P.m).length c54, .int .i64 P.e], rfl, ?_⟩
                      replace b4 := (b4.past hbV16)
                      replace b5 := (b5.past hbV16)
                      refine hKx.out _ _ ⟨b4, b5⟩ ?_
                      clear hKx Kx
                      refine sxr [15] ?_
                      refine rd1 (fun Kx hKx => ?_)
                      refine snk 13 #[.bool false, .slice none 0 0, .int .i64 0] 35 (fun V17 hbV17 hzV17 b13 => ?_)
                      replace b4 := (b4.past hbV17)
                      replace b5 := (b5.past hbV17)
                      refine hKx.out _ _ ⟨b4, b5⟩ ?_
                      clear hKx Kx
                      refine sxr [16] ?_
                      refine rd1 (fun Kx hKx => ?_)
                      refine ssk none b13 hT35 0 #[.bool P.neg, .slice p54 (dig B16 P.m).length c54, .int .i64 P.e] #[.bool P.neg, .slice p54 (dig B16 P.m).length c54, .int .i64 P.e] ?_
                      have boV18 := b13
                      clear b13
                      intro V18 hOV18 b13
                      have hzV18 := hOV18.size
                      replace b4 := (b4.only hOV18 (by omega))
                      replace b5 := (b5.only hOV18 (by omega))
                      refine hKx.out _ _ ⟨b4, b5⟩ ?_
                      clear hKx Kx
                      refine sx_done (by kernel_rfl) ?_
                      replace x44 := (x44.past ((bthru (bthru (bthru (bthru hbV13 hbV14) hbV15) hbV16) hbV17).trans (hOV18.below (by omega))))
                      replace x48 := (x48.past ((bthru hbV16 hbV17).trans (hOV18.below (by omega))))
                      replace x51 := (x51.past ((bthru (bthru hbV15 hbV16) hbV17).trans (hOV18.below (by omega))))
                      replace x53 := (x53.past ((bthru hbV16 hbV17).trans (hOV18.below (by omega))))
                      replace x54 := (x54.past (hbV17.trans (hOV18.below (by omega))))
                      exact ⟨rfl, V16.heap.size, p44, c44, p48, c48, p51, c51, p53, c53, p54, c54, by kernel_rfl, b13, (x44.mono (by omega)), (x48.mono (by omega)), (x51.mono (by omega)), (x53.mono (by omega)), (x54.mono (by omega)), ((bthru (bthru (bthru (bthru (bthru (bthru hbV11 hbV12) hbV13) hbV14) hbV15) hbV16) hbV17).trans (hOV18.below (by omega))), by omega⟩
                    refine rd1 (fun Kx hKx => ?_)
                    refine snk 13 #[.bool false, .slice none 0 0, .int .i64 0] 35 (fun V16 hbV16 hzV16 b13 => ?_)
                    replace b4 := (b4.past hbV16)
                    replace b5 := (b5.past hbV16)
                    refine hKx.out _ _ ⟨b4, b5⟩ ?_
                    clear hKx Kx
                    refine sxr [14] ?_
                    refine rd1 (fun Kx hKx => ?_)
                    replace x48 := (x48.past (bthru (bthru hbV14 hbV15) hbV16))
                    replace x53 := (x53.past hbV16)
                    refine sek 54 9 #[.agg #[.bool A.neg, .slice p48 (dig B16 A.m).length c48, .int .i64 A.e], .agg #[.bool B.neg, .slice p53 (dig B16 B.m).length c53, .int .i64 B.e]] ?_
                    ((with_reducible refine ((HP _ p48 c48 p53 c53 x48.rd x53.rd).out).mono ?_))
                    rintro eV17 V17 ⟨p54, c54, rfl, hr_x54, hc_x54, hf_x54, hbV17⟩
                    have hzV17 := hbV17.size
                    have x54 := rf_of hr_x54 hc_x54 hf_x54
                    clear hr_x54 hc_x54 hf_x54
                    have lx54 := fun h => x54.lt h
                    refine ⟨.agg #[.bool P.neg, .slice p54 (dig B16 P.m).length c54, .int .i64 P.e], rfl, ?_⟩
                    replace b4 := (b4.past hbV17)
                    replace b5 := (b5.past hbV17)
                    refine hKx.out _ _ ⟨b4, b5⟩ ?_
                    clear hKx Kx
                    refine sxr [16] ?_
                    refine rd1 (fun Kx hKx => ?_)
                    replace b13 := (b13.past hbV17)
                    refine ssk none b13 hT35 0 #[.bool P.neg, .slice p54 (dig B16 P.m).length c54, .int .i64 P.e] #[.bool P.neg, .slice p54 (dig B16 P.m).length c54, .int .i64 P.e] ?_
                    have boV18 := b13
                    clear b13
                    intro V18 hOV18 b13
                    have hzV18 := hOV18.size
                    replace b4 := (b4.only hOV18 (by omega))
                    replace b5 := (b5.only hOV18 (by omega))
                    refine hKx.out _ _ ⟨b4, b5⟩ ?_
                    clear hKx Kx
                    refine sx_done (by kernel_rfl) ?_
                    replace x44 := (x44.past ((bthru (bthru (bthru (bthru hbV13 hbV14) hbV15) hbV16) hbV17).trans (hOV18.below (by omega))))
                    replace x48 := ((x48.past hbV17).only hOV18 (fun h => by have := lx48 h; omega))
                    replace x51 := (x51.past ((bthru (bthru hbV15 hbV16) hbV17).trans (hOV18.below (by omega))))
                    replace x53 := ((x53.past hbV17).only hOV18 (fun h => by have := lx53 h; omega))
                    replace x54 := (x54.only hOV18 (fun h => by have := lx54 h; omega))
                    exact ⟨rfl, V15.heap.size, p44, c44, p48, c48, p51, c51, p53, c53, p54, c54, by kernel_rfl, b13, (x44.mono (by omega)), (x48.mono (by omega)), (x51.mono (by omega)), (x53.mono (by omega)), (x54.mono (by omega)), ((bthru (bthru (bthru (bthru (bthru (bthru hbV11 hbV12) hbV13) hbV14) hbV15) hbV16) hbV17).trans (hOV18.below (by omega))), by omega⟩
                  refine rd1 (fun Kx hKx => ?_)
                  refine snk 13 #[.bool false, .slice none 0 0, .int .i64 0] 35 (fun V15 hbV15 hzV15 b13 => ?_)
                  replace b4 := (b4.past hbV15)
                  replace b5 := (b5.past hbV15)
                  refine hKx.out _ _ ⟨b4, b5⟩ ?_
                  clear hKx Kx
                  refine sxr [13] ?_
                  refine rd1 (fun Kx hKx => ?_)
                  replace x51 := (x51.past hbV15)
                  refine sek 53 10 #[.agg #[.bool false, .slice p51 (dig B16 dr).length c51, .int .i64 0]] ?_
                  ((with_reducible refine ((HB _ p51 c51 x51.rd).out).mono ?_))
                  rintro eV16 V16 ⟨p53, c53, rfl, hr_x53, hc_x53, hf_x53, hbV16⟩
                  have hzV16 := hbV16.size
                  have x53 := rf_of hr_x53 hc_x53 hf_x53
                  clear hr_x53 hc_x53 hf_x53
                  have lx53 := fun h => x53.lt h
                  refine ⟨.agg #[.bool B.neg, .slice p53 (dig B16 B.m).length c53, .int .i64 B.e], rfl, ?_⟩
                  replace b4 := (b4.past hbV16)
                  replace b5 := (b5.past hbV16)
                  refine hKx.out _ _ ⟨b4, b5⟩ ?_
                  clear hKx Kx
                  refine sxr [14] ?_
                  refine rd1 (fun Kx hKx => ?_)
                  replace x48 := (x48.past (bthru (bthru hbV14 hbV15) hbV16))
                  refine sek 54 9 #[.agg #[.bool A.neg, .slice p48 (dig B16 A.m).length c48, .int .i64 A.e], .agg #[.bool B.neg, .slice p53 (dig B16 B.m).length c53, .int .i64 B.e]] ?_
                  ((with_reducible refine ((HP _ p48 c48 p53 c53 x48.rd x53.rd).out).mono ?_))
                  rintro eV17 V17 ⟨p54, c54, rfl, hr_x54, hc_x54, hf_x54, hbV17⟩
                  have hzV17 := hbV17.size
                  have x54 := rf_of hr_x54 hc_x54 hf_x54
                  clear hr_x54 hc_x54 hf_x54
                  have lx54 := fun h => x54.lt h
                  refine ⟨.agg #[.bool P.neg, .slice p54 (dig B16 P.m).length c54, .int .i64 P.e], rfl, ?_⟩
                  replace b4 := (b4.past hbV17)
                  replace b5 := (b5.past hbV17)
                  refine hKx.out _ _ ⟨b4, b5⟩ ?_
                  clear hKx Kx
                  refine sxr [16] ?_
                  refine rd1 (fun Kx hKx => ?_)
                  replace b13 := (b13.past (bthru hbV16 hbV17))
                  refine ssk none b13 hT35 0 #[.bool P.neg, .slice p54 (dig B16 P.m).length c54, .int .i64 P.e] #[.bool P.neg, .slice p54 (dig B16 P.m).length c54, .int .i64 P.e] ?_
                  have boV18 := b13
                  clear b13
                  intro V18 hOV18 b13
                  have hzV18 := hOV18.size
                  replace b4 := (b4.only hOV18 (by omega))
                  replace b5 := (b5.only hOV18 (by omega))
                  refine hKx.out _ _ ⟨b4, b5⟩ ?_
                  clear hKx Kx
                  refine sx_done (by kernel_rfl) ?_
                  replace x44 := (x44.past ((bthru (bthru (bthru (bthru hbV13 hbV14) hbV15) hbV16) hbV17).trans (hOV18.below (by omega))))
                  replace x48 := ((x48.past hbV17).only hOV18 (fun h => by have := lx48 h; omega))
                  replace x51 := ((x51.past (bthru hbV16 hbV17)).only hOV18 (fun h => by have := lx51 h; omega))
                  replace x53 := ((x53.past hbV17).only hOV18 (fun h => by have := lx53 h; omega))
                  replace x54 := (x54.only hOV18 (fun h => by have := lx54 h; omega))
                  exact ⟨rfl, V14.heap.size, p44, c44, p48, c48, p51, c51, p53, c53, p54, c54, by kernel_rfl, b13, (x44.mono (by omega)), (x48.mono (by omega)), (x51.mono (by omega)), (x53.mono (by omega)), (x54.mono (by omega)), ((bthru (bthru (bthru (bthru (bthru (bthru hbV11 hbV12) hbV13) hbV14) hbV15) hbV16) hbV17).trans (hOV18.below (by omega))), by omega⟩
                refine rd1 (fun Kx hKx => ?_)
                refine snk 13 #[.bool false, .slice none 0 0, .int .i64 0] 35 (fun V14 hbV14 hzV14 b13 => ?_)
                replace b4 := (b4.past hbV14)
                replace b5 := (b5.past hbV14)
                refine hKx.out _ _ ⟨b4, b5⟩ ?_
                clear hKx Kx
                refine sxr [11] ?_
                refine rd1 (fun Kx hKx => ?_)
                replace hr := (hr.past (bthru (bthru (bthru (bthru ((bthru hbV8 hbV9).trans (hOV10.below (by omega))) hbV11) hbV12) hbV13) hbV14))
                refine sek 51 11 #[.slice r.q r.ys.length r.d] ?_
                ((with_reducible refine ((HN2 _ hr).out).mono ?_))
                rintro eV15 V15 ⟨p51, c51, rfl, x51, hbV15⟩
                have hzV15 := hbV15.size
                have lx51 := fun h => x51.lt h
                refine ⟨.slice p51 (dig B16 dr).length c51, rfl, ?_⟩
                replace b4 := (b4.past hbV15)
                replace b5 := (b5.past hbV15)
                refine hKx.out _ _ ⟨b4, b5⟩ ?_
                clear hKx Kx
                refine tk 12 52 (.agg #[.bool false, .slice p51 (dig B16 dr).length c51, .int .i64 0]) ⟨b4, b5⟩ ?_
                refine sxr [13] ?_
                refine rd1 (fun Kx hKx => ?_)
                refine sek 53 10 #[.agg #[.bool false, .slice p51 (dig B16 dr).length c51, .int .i64 0]] ?_
                ((with_reducible refine ((HB _ p51 c51 x51.rd).out).mono ?_))
                rintro eV16 V16 ⟨p53, c53, rfl, hr_x53, hc_x53, hf_x53, hbV16⟩
                have hzV16 := hbV16.size
                have x53 := rf_of hr_x53 hc_x53 hf_x53
                clear hr_x53 hc_x53 hf_x53
                have lx53 := fun h => x53.lt h
                refine ⟨.agg #[.bool B.neg, .slice p53 (dig B16 B.m).length c53, .int .i64 B.e], rfl, ?_⟩
                replace b4 := (b4.past hbV16)
                replace b5 := (b5.past hbV16)
                refine hKx.out _ _ ⟨b4, b5⟩ ?_
                clear hKx Kx
                refine sxr [14] ?_
                refine rd1 (fun Kx hKx => ?_)
                replace x48 := (x48.past (bthru (bthru hbV14 hbV15) hbV16))
                refine sek 54 9 #[.agg #[.bool A.neg, .slice p48 (dig B16 A.m).length c48, .int .i64 A.e], .agg #[.bool B.neg, .slice p53 (dig B16 B.m).length c53, .int .i64 B.e]] ?_
                ((with_reducible refine ((HP _ p48 c48 p53 c53 x48.rd x53.rd).out).mono ?_))
                rintro eV17 V17 ⟨p54, c54, rfl, hr_x54, hc_x54, hf_x54, hbV17⟩
                have hzV17 := hbV17.size
                have x54 := rf_of hr_x54 hc_x54 hf_x54
                clear hr_x54 hc_x54 hf_x54
                have lx54 := fun h => x54.lt h
                refine ⟨.agg #[.bool P.neg, .slice p54 (dig B16 P.m).length c54, .int .i64 P.e], rfl, ?_⟩
                replace b4 := (b4.past hbV17)
                replace b5 := (b5.past hbV17)
                refine hKx.out _ _ ⟨b4, b5⟩ ?_
                clear hKx Kx
                refine sxr [16] ?_
                refine rd1 (fun Kx hKx => ?_)
                replace b13 := (b13.past (bthru (bthru hbV15 hbV16) hbV17))
                refine ssk none b13 hT35 0 #[.bool P.neg, .slice p54 (dig B16 P.m).length c54, .int .i64 P.e] #[.bool P.neg, .slice p54 (dig B16 P.m).length c54, .int .i64 P.e] ?_
                have boV18 := b13
                clear b13
                intro V18 hOV18 b13
                have hzV18 := hOV18.size
                replace b4 := (b4.only hOV18 (by omega))
                replace b5 := (b5.only hOV18 (by omega))
                refine hKx.out _ _ ⟨b4, b5⟩ ?_
                clear hKx Kx
                refine sx_done (by kernel_rfl) ?_
                replace x44 := (x44.past ((bthru (bthru (bthru (bthru hbV13 hbV14) hbV15) hbV16) hbV17).trans (hOV18.below (by omega))))
                replace x48 := ((x48.past hbV17).only hOV18 (fun h => by have := lx48 h; omega))
                replace x51 := ((x51.past (bthru hbV16 hbV17)).only hOV18 (fun h => by have := lx51 h; omega))
                replace x53 := ((x53.past hbV17).only hOV18 (fun h => by have := lx53 h; omega))
                replace x54 := (x54.only hOV18 (fun h => by have := lx54 h; omega))
                exact ⟨rfl, V13.heap.size, p44, c44, p48, c48, p51, c51, p53, c53, p54, c54, by kernel_rfl, b13, (x44.mono (by omega)), (x48.mono (by omega)), (x51.mono (by omega)), (x53.mono (by omega)), (x54.mono (by omega)), ((bthru (bthru (bthru (bthru (bthru (bthru hbV11 hbV12) hbV13) hbV14) hbV15) hbV16) hbV17).trans (hOV18.below (by omega))), by omega⟩
              refine rd1 (fun Kx hKx => ?_)
              refine snk 13 #[.bool false, .slice none 0 0, .int .i64 0] 35 (fun V13 hbV13 hzV13 b13 => ?_)
              replace b4 := (b4.past hbV13)
              replace b5 := (b5.past hbV13)
              refine hKx.out _ _ ⟨b4, b5⟩ ?_
              clear hKx Kx
              refine sxr [8] ?_
              refine rd1 (fun Kx hKx => ?_)
              replace x44 := (x44.past hbV13)
              refine sek 48 10 #[.agg #[.bool q.g, .slice p44 (dig B16 nq).length c44, .int .i64 q.e]] ?_
              ((with_reducible refine ((HA _ p44 c44 x44.rd).out).mono ?_))
              rintro eV14 V14 ⟨p48, c48, rfl, hr_x48, hc_x48, hf_x48, hbV14⟩
              have hzV14 := hbV14.size
              have x48 := rf_of hr_x48 hc_x48 hf_x48
              clear hr_x48 hc_x48 hf_x48
              have lx48 := fun h => x48.lt h
              refine ⟨.agg #[.bool A.neg, .slice p48 (dig B16 A.m).length c48, .int .i64 A.e], rfl, ?_⟩
              replace b4 := (b4.past hbV14)
              replace b5 := (b5.past hbV14)
              refine hKx.out _ _ ⟨b4, b5⟩ ?_
              clear hKx Kx
              refine sxr [11] ?_
              refine rd1 (fun Kx hKx => ?_)
              replace hr := (hr.past (bthru (bthru (bthru (bthru ((bthru hbV8 hbV9).trans (hOV10.below (by omega))) hbV11) hbV12) hbV13) hbV14))
              refine sek 51 11 #[.slice r.q r.ys.length r.d] ?_
              ((with_reducible refine ((HN2 _ hr).out).mono ?_))
              rintro eV15 V15 ⟨p51, c51, rfl, x51, hbV15⟩
              have hzV15 := hbV15.size
              have lx51 := fun h => x51.lt h
              refine ⟨.slice p51 (dig B16 dr).length c51, rfl, ?_⟩
              replace b4 := (b4.past hbV15)
              replace b5 := (b5.past hbV15)
              refine hKx.out _ _ ⟨b4, b5⟩ ?_
              clear hKx Kx
              refine tk 12 52 (.agg #[.bool false, .slice p51 (dig B16 dr).length c51, .int .i64 0]) ⟨b4, b5⟩ ?_
              refine sxr [13] ?_
              refine rd1 (fun Kx hKx => ?_)
              refine sek 53 10 #[.agg #[.bool false, .slice p51 (dig B16 dr).length c51, .int .i64 0]] ?_
              ((with_reducible refine ((HB _ p51 c51 x51.rd).out).mono ?_))
              rintro eV16 V16 ⟨p53, c53, rfl, hr_x53, hc_x53, hf_x53, hbV16⟩
              have hzV16 := hbV16.size
              have x53 := rf_of hr_x53 hc_x53 hf_x53
              clear hr_x53 hc_x53 hf_x53
              have lx53 := fun h => x53.lt h
              refine ⟨.agg #[.bool B.neg, .slice p53 (dig B16 B.m).length c53, .int .i64 B.e], rfl, ?_⟩
              replace b4 := (b4.past hbV16)
              replace b5 := (b5.past hbV16)
              refine hKx.out _ _ ⟨b4, b5⟩ ?_
              clear hKx Kx
              refine sxr [14] ?_
              refine rd1 (fun Kx hKx => ?_)
              replace x48 := (x48.past (bthru hbV15 hbV16))
              refine sek 54 9 #[.agg #[.bool A.neg, .slice p48 (dig B16 A.m).length c48, .int .i64 A.e], .agg #[.bool B.neg, .slice p53 (dig B16 B.m).length c53, .int .i64 B.e]] ?_
              ((with_reducible refine ((HP _ p48 c48 p53 c53 x48.rd x53.rd).out).mono ?_))
              rintro eV17 V17 ⟨p54, c54, rfl, hr_x54, hc_x54, hf_x54, hbV17⟩
              have hzV17 := hbV17.size
              have x54 := rf_of hr_x54 hc_x54 hf_x54
              clear hr_x54 hc_x54 hf_x54
              have lx54 := fun h => x54.lt h
              refine ⟨.agg #[.bool P.neg, .slice p54 (dig B16 P.m).length c54, .int .i64 P.e], rfl, ?_⟩
              replace b4 := (b4.past hbV17)
              replace b5 := (b5.past hbV17)
              refine hKx.out _ _ ⟨b4, b5⟩ ?_
              clear hKx Kx
              refine sxr [16] ?_
              refine rd1 (fun Kx hKx => ?_)
              replace b13 := (b13.past (bthru (bthru (bthru hbV14 hbV15) hbV16) hbV17))
              refine ssk none b13 hT35 0 #[.bool P.neg, .slice p54 (dig B16 P.m).length c54, .int .i64 P.e] #[.bool P.neg, .slice p54 (dig B16 P.m).length c54, .int .i64 P.e] ?_
              have boV18 := b13
              clear b13
              intro V18 hOV18 b13
              have hzV18 := hOV18.size
              replace b4 := (b4.only hOV18 (by omega))
              replace b5 := (b5.only hOV18 (by omega))
              refine hKx.out _ _ ⟨b4, b5⟩ ?_
              clear hKx Kx
              refine sx_done (by kernel_rfl) ?_
              replace x44 := ((x44.past (bthru (bthru (bthru hbV14 hbV15) hbV16) hbV17)).only hOV18 (fun h => by have := lx44 h; omega))
              replace x48 := ((x48.past hbV17).only hOV18 (fun h => by have := lx48 h; omega))
              replace x51 := ((x51.past (bthru hbV16 hbV17)).only hOV18 (fun h => by have := lx51 h; omega))
              replace x53 := ((x53.past hbV17).only hOV18 (fun h => by have := lx53 h; omega))
              replace x54 := (x54.only hOV18 (fun h => by have := lx54 h; omega))
              exact ⟨rfl, V12.heap.size, p44, c44, p48, c48, p51, c51, p53, c53, p54, c54, by kernel_rfl, b13, (x44.mono (by omega)), (x48.mono (by omega)), (x51.mono (by omega)), (x53.mono (by omega)), (x54.mono (by omega)), ((bthru (bthru (bthru (bthru (bthru (bthru hbV11 hbV12) hbV13) hbV14) hbV15) hbV16) hbV17).trans (hOV18.below (by omega))), by omega⟩
            refine rd1 (fun Kx hKx => ?_)
            refine snk 13 #[.bool false, .slice none 0 0, .int .i64 0] 35 (fun V12 hbV12 hzV12 b13 => ?_)
            replace b4 := (b4.past hbV12)
            replace b5 := (b5.past hbV12)
            refine hKx.out _ _ ⟨b4, b5⟩ ?_
            clear hKx Kx
            refine sxr [4] ?_
            refine rd1 (fun Kx hKx => ?_)
            replace hq := (hq.past (bthru (bthru ((bthru (bthru ((bthru hbV5 hbV6).trans (hOV7.below (by omega))) hbV8) hbV9).trans (hOV10.below (by omega))) hbV11) hbV12))
            refine sek 44 11 #[.slice q.p q.xs.length q.c] ?_
            ((with_reducible refine ((HN1 _ hq).out).mono ?_))
            rintro eV13 V13 ⟨p44, c44, rfl, x44, hbV13⟩
            have hzV13 := hbV13.size
            have lx44 := fun h => x44.lt h
            refine ⟨.slice p44 (dig B16 nq).length c44, rfl, ?_⟩
            replace b4 := (b4.past hbV13)
            replace b5 := (b5.past hbV13)
            refine hKx.out _ _ ⟨b4, b5⟩ ?_
            clear hKx Kx
            refine tk 7 47 (.agg #[.bool q.g, .slice p44 (dig B16 nq).length c44, .int .i64 q.e]) ⟨b4, b5⟩ ?_
            refine sxr [8] ?_
            refine rd1 (fun Kx hKx => ?_)
            refine sek 48 10 #[.agg #[.bool q.g, .slice p44 (dig B16 nq).length c44, .int .i64 q.e]] ?_
            ((with_reducible refine ((HA _ p44 c44 x44.rd).out).mono ?_))
            rintro eV14 V14 ⟨p48, c48, rfl, hr_x48, hc_x48, hf_x48, hbV14⟩
            have hzV14 := hbV14.size
            have x48 := rf_of hr_x48 hc_x48 hf_x48
            clear hr_x48 hc_x48 hf_x48
            have lx48 := fun h => x48.lt h
            refine ⟨.agg #[.bool A.neg, .slice p48 (dig B16 A.m).length c48, .int .i64 A.e], rfl, ?_⟩
            replace b4 := (b4.past hbV14)
            replace b5 := (b5.past hbV14)
            refine hKx.out _ _ ⟨b4, b5⟩ ?_
            clear hKx Kx
            refine sxr [11] ?_
            refine rd1 (fun Kx hKx => ?_)
            replace hr := (hr.past (bthru (bthru (bthru (bthru ((bthru hbV8 hbV9).trans (hOV10.below (by omega))) hbV11) hbV12) hbV13) hbV14))
            refine sek 51 11 #[.slice r.q r.ys.length r.d] ?_
            ((with_reducible refine ((HN2 _ hr).out).mono ?_))
            rintro eV15 V15 ⟨p51, c51, rfl, x51, hbV15⟩
            have hzV15 := hbV15.size
            have lx51 := fun h => x51.lt h
            refine ⟨.slice p51 (dig B16 dr).length c51, rfl, ?_⟩
            replace b4 := (b4.past hbV15)
            replace b5 := (b5.past hbV15)
            refine hKx.out _ _ ⟨b4, b5⟩ ?_
            clear hKx Kx
            refine tk 12 52 (.agg #[.bool false, .slice p51 (dig B16 dr).length c51, .int .i64 0]) ⟨b4, b5⟩ ?_
            refine sxr [13] ?_
            refine rd1 (fun Kx hKx => ?_)
            refine sek 53 10 #[.agg #[.bool false, .slice p51 (dig B16 dr).length c51, .int .i64 0]] ?_
            ((with_reducible refine ((HB _ p51 c51 x51.rd).out).mono ?_))
            rintro eV16 V16 ⟨p53, c53, rfl, hr_x53, hc_x53, hf_x53, hbV16⟩
            have hzV16 := hbV16.size
            have x53 := rf_of hr_x53 hc_x53 hf_x53
            clear hr_x53 hc_x53 hf_x53
            have lx53 := fun h => x53.lt h
            refine ⟨.agg #[.bool B.neg, .slice p53 (dig B16 B.m).length c53, .int .i64 B.e], rfl, ?_⟩
            replace b4 := (b4.past hbV16)
            replace b5 := (b5.past hbV16)
            refine hKx.out _ _ ⟨b4, b5⟩ ?_
            clear hKx Kx
            refine sxr [14] ?_
            refine rd1 (fun Kx hKx => ?_)
            replace x48 := (x48.past (bthru hbV15 hbV16))
            refine sek 54 9 #[.agg #[.bool A.neg, .slice p48 (dig B16 A.m).length c48, .int .i64 A.e], .agg #[.bool B.neg, .slice p53 (dig B16 B.m).length c53, .int .i64 B.e]] ?_
            ((with_reducible refine ((HP _ p48 c48 p53 c53 x48.rd x53.rd).out).mono ?_))
            rintro eV17 V17 ⟨p54, c54, rfl, hr_x54, hc_x54, hf_x54, hbV17⟩
            have hzV17 := hbV17.size
            have x54 := rf_of hr_x54 hc_x54 hf_x54
            clear hr_x54 hc_x54 hf_x54
            have lx54 := fun h => x54.lt h
            refine ⟨.agg #[.bool P.neg, .slice p54 (dig B16 P.m).length c54, .int .i64 P.e], rfl, ?_⟩
            replace b4 := (b4.past hbV17)
            replace b5 := (b5.past hbV17)
            refine hKx.out _ _ ⟨b4, b5⟩ ?_
            clear hKx Kx
            refine sxr [16] ?_
            refine rd1 (fun Kx hKx => ?_)
            replace b13 := (b13.past (bthru (bthru (bthru (bthru hbV13 hbV14) hbV15) hbV16) hbV17))
            refine ssk none b13 hT35 0 #[.bool P.neg, .slice p54 (dig B16 P.m).length c54, .int .i64 P.e] #[.bool P.neg, .slice p54 (dig B16 P.m).length c54, .int .i64 P.e] ?_
            have boV18 := b13
            clear b13
            intro V18 hOV18 b13
            have hzV18 := hOV18.size
            replace b4 := (b4.only hOV18 (by omega))
            replace b5 := (b5.only hOV18 (by omega))
            refine hKx.out _ _ ⟨b4, b5⟩ ?_
            clear hKx Kx
            refine sx_done (by kernel_rfl) ?_
            replace x44 := ((x44.past (bthru (bthru (bthru hbV14 hbV15) hbV16) hbV17)).only hOV18 (fun h => by have := lx44 h; omega))
            replace x48 := ((x48.past hbV17).only hOV18 (fun h => by have := lx48 h; omega))
            replace x51 := ((x51.past (bthru hbV16 hbV17)).only hOV18 (fun h => by have := lx51 h; omega))
            replace x53 := ((x53.past hbV17).only hOV18 (fun h => by have := lx53 h; omega))
            replace x54 := (x54.only hOV18 (fun h => by have := lx54 h; omega))
            exact ⟨rfl, V11.heap.size, p44, c44, p48, c48, p51, c51, p53, c53, p54, c54, by kernel_rfl, b13, (x44.mono (by omega)), (x48.mono (by omega)), (x51.mono (by omega)), (x53.mono (by omega)), (x54.mono (by omega)), ((bthru (bthru (bthru (bthru (bthru (bthru hbV11 hbV12) hbV13) hbV14) hbV15) hbV16) hbV17).trans (hOV18.below (by omega))), by omega⟩
          rintro _ V11 ⟨kb13, p44, c44, p48, c48, p51, c51, p53, c53, p54, c54, rfl, b13, x44, x48, x51, x53, x54, hbV11, hkb13⟩
          refine hGx _ _ ?_
          clear hGx Gx
          have hzV11 := hbV11.size
          have hlb13 := b13.lt
          have lx44 := fun h => x44.lt h
          have lx48 := fun h => x48.lt h
          have lx51 := fun h => x51.lt h
          have lx53 := fun h => x53.lt h
          have lx54 := fun h => x54.lt h
          refine sx_then ?_
          refine wp_seq ?_
          refine sx_cutg (R := fun a' w' => ∃ (kb14 : Nat) (p59 : Option Addr) (c59 : Nat) (p63 : Option Addr) (c63 : Nat) (p66 : Option Addr) (c66 : Nat) (p68 : Option Addr) (c68 : Nat) (p69 : Option Addr) (c69 : Nat), a' = ⟨((.agg #[.bool q.g, .slice q.p q.xs.length q.c, .slice q.q q.ys.length q.d, .int .i64 q.e]) :: (.agg #[.bool r.g, .slice r.p r.xs.length r.c, .slice r.q r.ys.length r.d, .int .i64 r.e]) :: (.agg #[.int .i64 g.rad, .int .i64 g.digs, .int .i64 g.lo, .int .i64 g.hi, .bool g.grad]) :: (.int .i64 way) :: (.pointer (some ⟨w.heap.size, 0, none⟩)) :: (.pointer (some ⟨V1.heap.size, 0, none⟩)) :: (.pointer (some ⟨V2.heap.size, 0, none⟩)) :: undef :: (.bool false) :: (.pointer (some ⟨V5.heap.size, 0, none⟩)) :: (.bool true) :: (.pointer (some ⟨V8.heap.size, 0, none⟩)) :: (.bool true) :: (.pointer (some ⟨kb13, 0, none⟩)) :: (.pointer (some ⟨kb14, 0, none⟩)) :: undef :: undef :: undef :: (.bool true) :: (.bool false) :: (.tuple #[.agg #[.bool x.neg, .slice p24 (dig B32 x.m).length c24, .int .i64 x.e], .bool true]) :: (.agg #[.bool q.g, .slice q.p q.xs.length q.c, .slice q.q q.ys.length q.d, .int .i64 q.e]) :: (.agg #[.int .i64 g.rad, .int .i64 g.digs, .int .i64 g.lo, .int .i64 g.hi, .bool g.grad]) :: (.int .i64 way) :: (.tuple #[.agg #[.bool x.neg, .slice p24 (dig B32 x.m).length c24, .int .i64 x.e], .bool true]) :: (.agg #[.bool x.neg, .slice p24 (dig B32 x.m).length c24, .int .i64 x.e]) :: (.bool true) :: (.tuple #[.agg #[.bool y.neg, .slice p31 (dig B32 y.m).length c31, .int .i64 y.e], .bool true]) :: (.agg #[.bool r.g, .slice r.p r.xs.length r.c, .slice r.q r.ys.length r.d, .int .i64 r.e]) :: (.agg #[.int .i64 g.rad, .int .i64 g.digs, .int .i64 g.lo, .int .i64 g.hi, .bool g.grad]) :: (.int .i64 way) :: (.tuple #[.agg #[.bool y.neg, .slice p31 (dig B32 y.m).length c31, .int .i64 y.e], .bool true]) :: (.agg #[.bool y.neg, .slice p31 (dig B32 y.m).length c31, .int .i64 y.e]) :: (.bool true) :: (.bool true) :: (.bool false) :: (.bool false) :: (.bool true) :: (.bool false) :: (.bool false) :: (.pointer (some ⟨w.heap.size, 0, none⟩)) :: (.bool q.g) :: (.pointer (some ⟨w.heap.size, 1, none⟩)) :: (.slice q.p q.xs.length q.c) :: (.slice p44 (dig B16 nq).length c44) :: (.pointer (some ⟨w.heap.size, 3, none⟩)) :: (.int .i64 q.e) :: (.agg #[.bool q.g, .slice p44 (dig B16 nq).length c44, .int .i64 q.e]) :: (.agg #[.bool A.neg, .slice p48 (dig B16 A.m).length c48, .int .i64 A.e]) :: (.pointer (some ⟨V1.heap.size, 2, none⟩)) :: (.slice r.q r.ys.length r.d) :: (.slice p51 (dig B16 dr).length c51) :: (.agg #[.bool false, .slice p51 (dig B16 dr).length c51, .int .i64 0]) :: (.agg #[.bool B.neg, .slice p53 (dig B16 B.m).length c53, .int .i64 B.e]) :: (.agg #[.bool P.neg, .slice p54 (dig B16 P.m).length c54, .int .i64 P.e]) :: (.pointer (some ⟨V1.heap.size, 0, none⟩)) :: (.bool r.g) :: (.pointer (some ⟨V1.heap.size, 1, none⟩)) :: (.slice r.p r.xs.length r.c) :: (.slice p59 (dig B16 nr).length c59) :: (.pointer (some ⟨V1.heap.size, 3, none⟩)) :: (.int .i64 r.e) :: (.agg #[.bool r.g, .slice p59 (dig B16 nr).length c59, .int .i64 r.e]) :: (.agg #[.bool C.neg, .slice p63 (dig B16 C.m).length c63, .int .i64 C.e]) :: (.pointer (some ⟨w.heap.size, 2, none⟩)) :: (.slice q.q q.ys.length q.d) :: (.slice p66 (dig B16 dq).length c66) :: (.agg #[.bool false, .slice p66 (dig B16 dq).length c66, .int .i64 0]) :: (.agg #[.bool D.neg, .slice p68 (dig B16 D.m).length c68, .int .i64 D.e]) :: (.agg #[.bool S.neg, .slice p69 (dig B16 S.m).length c69, .int .i64 S.e]) :: undef :: undef :: undef :: undef :: undef :: undef :: undef :: undef :: undef :: undef :: undef :: undef :: undef :: undef :: undef :: undef :: undef :: undef :: undef :: undef :: undef :: undef :: undef :: undef :: undef :: undef :: undef :: undef :: undef :: undef :: undef :: undef :: undef :: undef :: undef :: []).toArray, []⟩ ∧ Bt w' kb14 35 #[.bool S.neg, .slice p69 (dig B16 S.m).length c69, .int .i64 S.e] ∧ Rf w' V11.heap.size p59 c59 (dig B16 nr) ∧ Rf w' V11.heap.size p63 c63 (dig B16 C.m) ∧ Rf w' V11.heap.size p66 c66 (dig B16 dq) ∧ Rf w' V11.heap.size p68 c68 (dig B16 D.m) ∧ Rf w' V11.heap.size p69 c69 (dig B16 S.m) ∧ Below V11.heap.size V11 w' ∧ V11.heap.size ≤ kb14) ?_ (fun Gx hGx => ?_)
          · skip
            replace b5 := (b5.past (bthru ((bthru hbV8 hbV9).trans (hOV10.below (by omega))) hbV11))
            replace b4 := (b4.past (bthru ((bthru (bthru ((bthru hbV5 hbV6).trans (hOV7.below (by omega))) hbV8) hbV9).trans (hOV10.below (by omega))) hbV11))
            obtain ⟨V12, hVV12⟩ : ∃ V, V = (V11).drew := ⟨_, rfl⟩
            have hbV12 : Below (V11).heap.size (V11) V12 := by rw [hVV12]; exact (Below.refl _ _).drew
            have hzV12 : V12.heap.size = (V11).heap.size := by rw [hVV12]; rfl
            replace b5 := (b5.past hbV12)
            replace b4 := (b4.past hbV12)
            refine sxd _ (fun w' => Bt w' V1.heap.size 25 #[.bool r.g, .slice r.p r.xs.length r.c, .slice r.q r.ys.length r.d, .int .i64 r.e] ∧ Bt w' w.heap.size 25 #[.bool q.g, .slice q.p q.xs.length q.c, .slice q.q q.ys.length q.d, .int .i64 q.e]) hVV12 ⟨b5, b4⟩ ?_
            clear hVV12
            refine tk 0 55 (.pointer (some ⟨V1.heap.size, 0, none⟩)) ⟨b5, b4⟩ ?_
            refine tk 1 56 (.bool r.g) ⟨b5, b4⟩ ?_ (hy := fun w' hS => (exec_ld (by kernel_rfl) (run_ld1 hS.1 hT4 0 (.bool r.g) (by kernel_rfl))))
            refine tk 2 57 (.pointer (some ⟨V1.heap.size, 1, none⟩)) ⟨b5, b4⟩ ?_
            refine tk 3 58 (.slice r.p r.xs.length r.c) ⟨b5, b4⟩ ?_ (hy := fun w' hS => (exec_ld (by kernel_rfl) (run_ld1 hS.1 hT23 1 (.slice r.p r.xs.length r.c) (by kernel_rfl))))
            refine tk 5 60 (.pointer (some ⟨V1.heap.size, 3, none⟩)) ⟨b5, b4⟩ ?_
            refine tk 6 61 (.int .i64 r.e) ⟨b5, b4⟩ ?_ (hy := fun w' hS => (exec_ld (by kernel_rfl) (run_ld1 hS.1 hT3 3 (.int .i64 r.e) (by kernel_rfl))))
            refine tk 9 64 (.pointer (some ⟨w.heap.size, 2, none⟩)) ⟨b5, b4⟩ ?_
            refine tk 10 65 (.slice q.q q.ys.length q.d) ⟨b5, b4⟩ ?_ (hy := fun w' hS => (exec_ld (by kernel_rfl) (run_ld1 hS.2 hT23 2 (.slice q.q q.ys.length q.d) (by kernel_rfl))))
            refine sxr [4, 15] ?_
            refine rd2 (fun Kx hKx => ?_) ?_
            · skip
              replace hr := (hr.past (bthru (bthru ((bthru hbV8 hbV9).trans (hOV10.below (by omega))) hbV11) hbV12))
              refine sek 59 11 #[.slice r.p r.xs.length r.c] ?_
              ((with_reducible refine ((HN3 _ hr).out).mono ?_))
              rintro eV13 V13 ⟨p59, c59, rfl, x59, hbV13⟩
              have hzV13 := hbV13.size
              have lx59 := fun h => x59.lt h
              refine ⟨.slice p59 (dig B16 nr).length c59, rfl, ?_⟩
              replace b5 := (b5.past hbV13)
              replace b4 := (b4.past hbV13)
              refine hKx.out _ _ ⟨b5, b4⟩ ?_
              clear hKx Kx
              refine tk 7 62 (.agg #[.bool r.g, .slice p59 (dig B16 nr).length c59, .int .i64 r.e]) ⟨b5, b4⟩ ?_
              refine sxr [8, 15] ?_
              refine rd2 (fun Kx hKx => ?_) ?_
              · skip
                refine sek 63 10 #[.agg #[.bool r.g, .slice p59 (dig B16 nr).length c59, .int .i64 r.e]] ?_
                ((with_reducible refine ((HC _ p59 c59 x59.rd).out).mono ?_))
                rintro eV14 V14 ⟨p63, c63, rfl, hr_x63, hc_x63, hf_x63, hbV14⟩
                have hzV14 := hbV14.size
                have x63 := rf_of hr_x63 hc_x63 hf_x63
                clear hr_x63 hc_x63 hf_x63
                have lx63 := fun h => x63.lt h
                refine ⟨.agg #[.bool C.neg, .slice p63 (dig B16 C.m).length c63, .int .i64 C.e], rfl, ?_⟩
                replace b5 := (b5.past hbV14)
                replace b4 := (b4.past hbV14)
                refine hKx.out _ _ ⟨b5, b4⟩ ?_
                clear hKx Kx
                refine sxr [11, 15] ?_
                refine rd2 (fun Kx hKx => ?_) ?_
                · skip
                  replace hq := (hq.past (bthru (bthru (bthru (bthru ((bthru (bthru ((bthru hbV5 hbV6).trans (hOV7.below (by omega))) hbV8) hbV9).trans (hOV10.below (by omega))) hbV11) hbV12) hbV13) hbV14))
                  refine sek 66 11 #[.slice q.q q.ys.length q.d] ?_
                  ((with_reducible refine ((HN4 _ hq).out).mono ?_))
                  rintro eV15 V15 ⟨p66, c66, rfl, x66, hbV15⟩
                  have hzV15 := hbV15.size
                  have lx66 := fun h => x66.lt h
                  refine ⟨.slice p66 (dig B16 dq).length c66, rfl, ?_⟩
                  replace b5 := (b5.past hbV15)
                  replace b4 := (b4.past hbV15)
                  refine hKx.out _ _ ⟨b5, b4⟩ ?_
                  clear hKx Kx
                  refine tk 12 67 (.agg #[.bool false, .slice p66 (dig B16 dq).length c66, .int .i64 0]) ⟨b5, b4⟩ ?_
                  refine sxr [13, 15] ?_
                  refine rd2 (fun Kx hKx => ?_) ?_
                  · skip
                    refine sek 68 10 #[.agg #[.bool false, .slice p66 (dig B16 dq).length c66, .int .i64 0]] ?_
                    ((with_reducible refine ((HD _ p66 c66 x66.rd).out).mono ?_))
                    rintro eV16 V16 ⟨p68, c68, rfl, hr_x68, hc_x68, hf_x68, hbV16⟩
                    have hzV16 := hbV16.size
                    have x68 := rf_of hr_x68 hc_x68 hf_x68
                    clear hr_x68 hc_x68 hf_x68
                    have lx68 := fun h => x68.lt h
                    refine ⟨.agg #[.bool D.neg, .slice p68 (dig B16 D.m).length c68, .int .i64 D.e], rfl, ?_⟩
                    replace b5 := (b5.past hbV16)
                    replace b4 := (b4.past hbV16)
                    refine hKx.out _ _ ⟨b5, b4⟩ ?_
                    clear hKx Kx
                    refine sxr [14, 15] ?_
                    refine rd2 (fun Kx hKx => ?_) ?_
                    · skip
                      replace x63 := (x63.past (bthru hbV15 hbV16))
                      refine sek 69 9 #[.agg #[.bool C.neg, .slice p63 (dig B16 C.m).length c63, .int .i64 C.e], .agg #[.bool D.neg, .slice p68 (dig B16 D.m).length c68, .int .i64 D.e]] ?_
                      ((with_reducible refine ((HS _ p63 c63 p68 c68 x63.rd x68.rd).out).mono ?_))
                      rintro eV17 V17 ⟨p69, c69, rfl, hr_x69, hc_x69, hf_x69, hbV17⟩
                      have hzV17 := hbV17.size
                      have x69 := rf_of hr_x69 hc_x69 hf_x69
                      clear hr_x69 hc_x69 hf_x69
                      have lx69 := fun h => x69.lt h
                      refine ⟨.agg #[.bool S.neg, .slice p69 (dig B16 S.m).length c69, .int .i64 S.e], rfl, ?_⟩
                      replace b5 := (b5.past hbV17)
                      replace b4 := (b4.past hbV17)
                      refine hKx.out _ _ ⟨b5, b4⟩ ?_
                      clear hKx Kx
                      refine sxr [15] ?_
                      refine rd1 (fun Kx hKx => ?_)
                      refine snk 14 #[.bool false, .slice none 0 0, .int .i64 0] 35 (fun V18 hbV18 hzV18 b14 => ?_)
                      replace b5 := (b5.past hbV18)
                      replace b4 := (b4.past hbV18)
                      refine hKx.out _ _ ⟨b5, b4⟩ ?_
                      clear hKx Kx
                      refine sxr [16] ?_
                      refine rd1 (fun Kx hKx => ?_)
                      refine ssk none b14 hT35 0 #[.bool S.neg, .slice p69 (dig B16 S.m).length c69, .int .i64 S.e] #[.bool S.neg, .slice p69 (dig B16 S.m).length c69, .int .i64 S.e] ?_
                      have boV19 := b14
                      clear b14
                      intro V19 hOV19 b14
                      have hzV19 := hOV19.size
                      replace b5 := (b5.only hOV19 (by omega))
                      replace b4 := (b4.only hOV19 (by omega))
                      refine hKx.out _ _ ⟨b5, b4⟩ ?_
                      clear hKx Kx
                      refine sx_done (by kernel_rfl) ?_
                      replace x59 := (x59.past ((bthru (bthru (bthru (bthru hbV14 hbV15) hbV16) hbV17) hbV18).trans (hOV19.below (by omega))))
                      replace x63 := (x63.past ((bthru hbV17 hbV18).trans (hOV19.below (by omega))))
                      replace x66 := (x66.past ((bthru (bthru hbV16 hbV17) hbV18).trans (hOV19.below (by omega))))
                      replace x68 := (x68.past ((bthru hbV17 hbV18).trans (hOV19.below (by omega))))
                      replace x69 := (x69.past (hbV18.trans (hOV19.below (by omega))))
                      exact ⟨rfl, V17.heap.size, p59, c59, p63, c63, p66, c66, p68, c68, p69, c69, by kernel_rfl, b14, (x59.mono (by omega)), (x63.mono (by omega)), (x66.mono (by omega)), (x68.mono (by omega)), (x69.mono (by omega)), ((bthru (bthru (bthru (bthru (bthru (bthru hbV12 hbV13) hbV14) hbV15) hbV16) hbV17) hbV18).trans (hOV19.below (by omega))), by omega⟩
                    refine rd1 (fun Kx hKx => ?_)
                    refine snk 14 #[.bool false, .slice none 0 0, .int .i64 0] 35 (fun V17 hbV17 hzV17 b14 => ?_)
                    replace b5 := (b5.past hbV17)
                    replace b4 := (b4.past hbV17)
                    refine hKx.out _ _ ⟨b5, b4⟩ ?_
                    clear hKx Kx
                    refine sxr [14] ?_
                    refine rd1 (fun Kx hKx => ?_)
                    replace x63 := (x63.past (bthru (bthru hbV15 hbV16) hbV17))
                    replace x68 := (x68.past hbV17)
                    refine sek 69 9 #[.agg #[.bool C.neg, .slice p63 (dig B16 C.m).length c63, .int .i64 C.e], .agg #[.bool D.neg, .slice p68 (dig B16 D.m).length c68, .int .i64 D.e]] ?_
                    ((with_reducible refine ((HS _ p63 c63 p68 c68 x63.rd x68.rd).out).mono ?_))
                    rintro eV18 V18 ⟨p69, c69, rfl, hr_x69, hc_x69, hf_x69, hbV18⟩
                    have hzV18 := hbV18.size
                    have x69 := rf_of hr_x69 hc_x69 hf_x69
                    clear hr_x69 hc_x69 hf_x69
                    have lx69 := fun h => x69.lt h
                    refine ⟨.agg #[.bool S.neg, .slice p69 (dig B16 S.m).length c69, .int .i64 S.e], rfl, ?_⟩
                    replace b5 := (b5.past hbV18)
                    replace b4 := (b4.past hbV18)
                    refine hKx.out _ _ ⟨b5, b4⟩ ?_
                    clear hKx Kx
                    refine sxr [16] ?_
                    refine rd1 (fun Kx hKx => ?_)
                    replace b14 := (b14.past hbV18)
                    refine ssk none b14 hT35 0 #[.bool S.neg, .slice p69 (dig B16 S.m).length c69, .int .i64 S.e] #[.bool S.neg, .slice p69 (dig B16 S.m).length c69, .int .i64 S.e] ?_
                    have boV19 := b14
                    clear b14
                    intro V19 hOV19 b14
                    have hzV19 := hOV19.size
                    replace b5 := (b5.only hOV19 (by omega))
                    replace b4 := (b4.only hOV19 (by omega))
                    refine hKx.out _ _ ⟨b5, b4⟩ ?_
                    clear hKx Kx
                    refine sx_done (by kernel_rfl) ?_
                    replace x59 := (x59.past ((bthru (bthru (bthru (bthru hbV14 hbV15) hbV16) hbV17) hbV18).trans (hOV19.below (by omega))))
                    replace x63 := ((x63.past hbV18).only hOV19 (fun h => by have := lx63 h; omega))
                    replace x66 := (x66.past ((bthru (bthru hbV16 hbV17) hbV18).trans (hOV19.below (by omega))))
                    replace x68 := ((x68.past hbV18).only hOV19 (fun h => by have := lx68 h; omega))
                    replace x69 := (x69.only hOV19 (fun h => by have := lx69 h; omega))
                    exact ⟨rfl, V16.heap.size, p59, c59, p63, c63, p66, c66, p68, c68, p69, c69, by kernel_rfl, b14, (x59.mono (by omega)), (x63.mono (by omega)), (x66.mono (by omega)), (x68.mono (by omega)), (x69.mono (by omega)), ((bthru (bthru (bthru (bthru (bthru (bthru hbV12 hbV13) hbV14) hbV15) hbV16) hbV17) hbV18).trans (hOV19.below (by omega))), by omega⟩
                  refine rd1 (fun Kx hKx => ?_)
                  refine snk 14 #[.bool false, .slice none 0 0, .int .i64 0] 35 (fun V16 hbV16 hzV16 b14 => ?_)
                  replace b5 := (b5.past hbV16)
                  replace b4 := (b4.past hbV16)
                  refine hKx.out _ _ ⟨b5, b4⟩ ?_
                  clear hKx Kx
                  refine sxr [13] ?_
                  refine rd1 (fun Kx hKx => ?_)
                  replace x66 := (x66.past hbV16)
                  refine sek 68 10 #[.agg #[.bool false, .slice p66 (dig B16 dq).length c66, .int .i64 0]] ?_
                  ((with_reducible refine ((HD _ p66 c66 x66.rd).out).mono ?_))
                  rintro eV17 V17 ⟨p68, c68, rfl, hr_x68, hc_x68, hf_x68, hbV17⟩
                  have hzV17 := hbV17.size
                  have x68 := rf_of hr_x68 hc_x68 hf_x68
                  clear hr_x68 hc_x68 hf_x68
                  have lx68 := fun h => x68.lt h
                  refine ⟨.agg #[.bool D.neg, .slice p68 (dig B16 D.m).length c68, .int .i64 D.e], rfl, ?_⟩
                  replace b5 := (b5.past hbV17)
                  replace b4 := (b4.past hbV17)
                  refine hKx.out _ _ ⟨b5, b4⟩ ?_
                  clear hKx Kx
                  refine sxr [14] ?_
                  refine rd1 (fun Kx hKx => ?_)
                  replace x63 := (x63.past (bthru (bthru hbV15 hbV16) hbV17))
                  refine sek 69 9 #[.agg #[.bool C.neg, .slice p63 (dig B16 C.m).length c63, .int .i64 C.e], .agg #[.bool D.neg, .slice p68 (dig B16 D.m).length c68, .int .i64 D.e]] ?_
                  ((with_reducible refine ((HS _ p63 c63 p68 c68 x63.rd x68.rd).out).mono ?_))
                  rintro eV18 V18 ⟨p69, c69, rfl, hr_x69, hc_x69, hf_x69, hbV18⟩
                  have hzV18 := hbV18.size
                  have x69 := rf_of hr_x69 hc_x69 hf_x69
                  clear hr_x69 hc_x69 hf_x69
                  have lx69 := fun h => x69.lt h
                  refine ⟨.agg #[.bool S.neg, .slice p69 (dig B16 S.m).length c69, .int .i64 S.e], rfl, ?_⟩
                  replace b5 := (b5.past hbV18)
                  replace b4 := (b4.past hbV18)
                  refine hKx.out _ _ ⟨b5, b4⟩ ?_
                  clear hKx Kx
                  refine sxr [16] ?_
                  refine rd1 (fun Kx hKx => ?_)
                  replace b14 := (b14.past (bthru hbV17 hbV18))
                  refine ssk none b14 hT35 0 #[.bool S.neg, .slice p69 (dig B16 S.m).length c69, .int .i64 S.e] #[.bool S.neg, .slice p69 (dig B16 S.m).length c69, .int .i64 S.e] ?_
                  have boV19 := b14
                  clear b14
                  intro V19 hOV19 b14
                  have hzV19 := hOV19.size
                  replace b5 := (b5.only hOV19 (by omega))
                  replace b4 := (b4.only hOV19 (by omega))
                  refine hKx.out _ _ ⟨b5, b4⟩ ?_
                  clear hKx Kx
                  refine sx_done (by kernel_rfl) ?_
                  replace x59 := (x59.past ((bthru (bthru (bthru (bthru hbV14 hbV15) hbV16) hbV17) hbV18).trans (hOV19.below (by omega))))
                  replace x63 := ((x63.past hbV18).only hOV19 (fun h => by have := lx63 h; omega))
                  replace x66 := ((x66.past (bthru hbV17 hbV18)).only hOV19 (fun h => by have := lx66 h; omega))
                  replace x68 := ((x68.past hbV18).only hOV19 (fun h => by have := lx68 h; omega))
                  replace x69 := (x69.only hOV19 (fun h => by have := lx69 h; omega))
                  exact ⟨rfl, V15.heap.size, p59, c59, p63, c63, p66, c66, p68, c68, p69, c69, by kernel_rfl, b14, (x59.mono (by omega)), (x63.mono (by omega)), (x66.mono (by omega)), (x68.mono (by omega)), (x69.mono (by omega)), ((bthru (bthru (bthru (bthru (bthru (bthru hbV12 hbV13) hbV14) hbV15) hbV16) hbV17) hbV18).trans (hOV19.below (by omega))), by omega⟩
                refine rd1 (fun Kx hKx => ?_)
                refine snk 14 #[.bool false, .slice none 0 0, .int .i64 0] 35 (fun V15 hbV15 hzV15 b14 => ?_)
                replace b5 := (b5.past hbV15)
                replace b4 := (b4.past hbV15)
                refine hKx.out _ _ ⟨b5, b4⟩ ?_
                clear hKx Kx
                refine sxr [11] ?_
                refine rd1 (fun Kx hKx => ?_)
                replace hq := (hq.past (bthru (bthru (bthru (bthru (bthru ((bthru (bthru ((bthru hbV5 hbV6).trans (hOV7.below (by omega))) hbV8) hbV9).trans (hOV10.below (by omega))) hbV11) hbV12) hbV13) hbV14) hbV15))
                refine sek 66 11 #[.slice q.q q.ys.length q.d] ?_
                ((with_reducible refine ((HN4 _ hq).out).mono ?_))
                rintro eV16 V16 ⟨p66, c66, rfl, x66, hbV16⟩
                have hzV16 := hbV16.size
                have lx66 := fun h => x66.lt h
                refine ⟨.slice p66 (dig B16 dq).length c66, rfl, ?_⟩
                replace b5 := (b5.past hbV16)
                replace b4 := (b4.past hbV16)
                refine hKx.out _ _ ⟨b5, b4⟩ ?_
                clear hKx Kx
                refine tk 12 67 (.agg #[.bool false, .slice p66 (dig B16 dq).length c66, .int .i64 0]) ⟨b5, b4⟩ ?_
                refine sxr [13] ?_
                refine rd1 (fun Kx hKx => ?_)
                refine sek 68 10 #[.agg #[.bool false, .slice p66 (dig B16 dq).length c66, .int .i64 0]] ?_
                ((with_reducible refine ((HD _ p66 c66 x66.rd).out).mono ?_))
                rintro eV17 V17 ⟨p68, c68, rfl, hr_x68, hc_x68, hf_x68, hbV17⟩
                have hzV17 := hbV17.size
                have x68 := rf_of hr_x68 hc_x68 hf_x68
                clear hr_x68 hc_x68 hf_x68
                have lx68 := fun h => x68.lt h
                refine ⟨.agg #[.bool D.neg, .slice p68 (dig B16 D.m).length c68, .int .i64 D.e], rfl, ?_⟩
                replace b5 := (b5.past hbV17)
                replace b4 := (b4.past hbV17)
                refine hKx.out _ _ ⟨b5, b4⟩ ?_
                clear hKx Kx
                refine sxr [14] ?_
                refine rd1 (fun Kx hKx => ?_)
                replace x63 := (x63.past (bthru (bthru hbV15 hbV16) hbV17))
                refine sek 69 9 #[.agg #[.bool C.neg, .slice p63 (dig B16 C.m).length c63, .int .i64 C.e], .agg #[.bool D.neg, .slice p68 (dig B16 D.m).length c68, .int .i64 D.e]] ?_
                ((with_reducible refine ((HS _ p63 c63 p68 c68 x63.rd x68.rd).out).mono ?_))
                rintro eV18 V18 ⟨p69, c69, rfl, hr_x69, hc_x69, hf_x69, hbV18⟩
                have hzV18 := hbV18.size
                have x69 := rf_of hr_x69 hc_x69 hf_x69
                clear hr_x69 hc_x69 hf_x69
                have lx69 := fun h => x69.lt h
                refine ⟨.agg #[.bool S.neg, .slice p69 (dig B16 S.m).length c69, .int .i64 S.e], rfl, ?_⟩
                replace b5 := (b5.past hbV18)
                replace b4 := (b4.past hbV18)
                refine hKx.out _ _ ⟨b5, b4⟩ ?_
                clear hKx Kx
                refine sxr [16] ?_
                refine rd1 (fun Kx hKx => ?_)
                replace b14 := (b14.past (bthru (bthru hbV16 hbV17) hbV18))
                refine ssk none b14 hT35 0 #[.bool S.neg, .slice p69 (dig B16 S.m).length c69, .int .i64 S.e] #[.bool S.neg, .slice p69 (dig B16 S.m).length c69, .int .i64 S.e] ?_
                have boV19 := b14
                clear b14
                intro V19 hOV19 b14
                have hzV19 := hOV19.size
                replace b5 := (b5.only hOV19 (by omega))
                replace b4 := (b4.only hOV19 (by omega))
                refine hKx.out _ _ ⟨b5, b4⟩ ?_
                clear hKx Kx
                refine sx_done (by kernel_rfl) ?_
                replace x59 := (x59.past ((bthru (bthru (bthru (bthru hbV14 hbV15) hbV16) hbV17) hbV18).trans (hOV19.below (by omega))))
                replace x63 := ((x63.past hbV18).only hOV19 (fun h => by have := lx63 h; omega))
                replace x66 := ((x66.past (bthru hbV17 hbV18)).only hOV19 (fun h => by have := lx66 h; omega))
                replace x68 := ((x68.past hbV18).only hOV19 (fun h => by have := lx68 h; omega))
                replace x69 := (x69.only hOV19 (fun h => by have := lx69 h; omega))
                exact ⟨rfl, V14.heap.size, p59, c59, p63, c63, p66, c66, p68, c68, p69, c69, by kernel_rfl, b14, (x59.mono (by omega)), (x63.mono (by omega)), (x66.mono (by omega)), (x68.mono (by omega)), (x69.mono (by omega)), ((bthru (bthru (bthru (bthru (bthru (bthru hbV12 hbV13) hbV14) hbV15) hbV16) hbV17) hbV18).trans (hOV19.below (by omega))), by omega⟩
              refine rd1 (fun Kx hKx => ?_)
              refine snk 14 #[.bool false, .slice none 0 0, .int .i64 0] 35 (fun V14 hbV14 hzV14 b14 => ?_)
              replace b5 := (b5.past hbV14)
              replace b4 := (b4.past hbV14)
              refine hKx.out _ _ ⟨b5, b4⟩ ?_
              clear hKx Kx
              refine sxr [8] ?_
              refine rd1 (fun Kx hKx => ?_)
              replace x59 := (x59.past hbV14)
              refine sek 63 10 #[.agg #[.bool r.g, .slice p59 (dig B16 nr).length c59, .int .i64 r.e]] ?_
              ((with_reducible refine ((HC _ p59 c59 x59.rd).out).mono ?_))
              rintro eV15 V15 ⟨p63, c63, rfl, hr_x63, hc_x63, hf_x63, hbV15⟩
              have hzV15 := hbV15.size
              have x63 := rf_of hr_x63 hc_x63 hf_x63
              clear hr_x63 hc_x63 hf_x63
              have lx63 := fun h => x63.lt h
              refine ⟨.agg #[.bool C.neg, .slice p63 (dig B16 C.m).length c63, .int .i64 C.e], rfl, ?_⟩
              replace b5 := (b5.past hbV15)
              replace b4 := (b4.past hbV15)
              refine hKx.out _ _ ⟨b5, b4⟩ ?_
              clear hKx Kx
              refine sxr [11] ?_
              refine rd1 (fun Kx hKx => ?_)
              replace hq := (hq.past (bthru (bthru (bthru (bthru (bthru ((bthru (bthru ((bthru hbV5 hbV6).trans (hOV7.below (by omega))) hbV8) hbV9).trans (hOV10.below (by omega))) hbV11) hbV12) hbV13) hbV14) hbV15))
              refine sek 66 11 #[.slice q.q q.ys.length q.d] ?_
              ((with_reducible refine ((HN4 _ hq).out).mono ?_))
              rintro eV16 V16 ⟨p66, c66, rfl, x66, hbV16⟩
              have hzV16 := hbV16.size
              have lx66 := fun h => x66.lt h
              refine ⟨.slice p66 (dig B16 dq).length c66, rfl, ?_⟩
              replace b5 := (b5.past hbV16)
              replace b4 := (b4.past hbV16)
              refine hKx.out _ _ ⟨b5, b4⟩ ?_
              clear hKx Kx
              refine tk 12 67 (.agg #[.bool false, .slice p66 (dig B16 dq).length c66, .int .i64 0]) ⟨b5, b4⟩ ?_
              refine sxr [13] ?_
              refine rd1 (fun Kx hKx => ?_)
              refine sek 68 10 #[.agg #[.bool false, .slice p66 (dig B16 dq).length c66, .int .i64 0]] ?_
              ((with_reducible refine ((HD _ p66 c66 x66.rd).out).mono ?_))
              rintro eV17 V17 ⟨p68, c68, rfl, hr_x68, hc_x68, hf_x68, hbV17⟩
              have hzV17 := hbV17.size
              have x68 := rf_of hr_x68 hc_x68 hf_x68
              clear hr_x68 hc_x68 hf_x68
              have lx68 := fun h => x68.lt h
              refine ⟨.agg #[.bool D.neg, .slice p68 (dig B16 D.m).length c68, .int .i64 D.e], rfl, ?_⟩
              replace b5 := (b5.past hbV17)
              replace b4 := (b4.past hbV17)
              refine hKx.out _ _ ⟨b5, b4⟩ ?_
              clear hKx Kx
              refine sxr [14] ?_
              refine rd1 (fun Kx hKx => ?_)
              replace x63 := (x63.past (bthru hbV16 hbV17))
              refine sek 69 9 #[.agg #[.bool C.neg, .slice p63 (dig B16 C.m).length c63, .int .i64 C.e], .agg #[.bool D.neg, .slice p68 (dig B16 D.m).length c68, .int .i64 D.e]] ?_
              ((with_reducible refine ((HS _ p63 c63 p68 c68 x63.rd x68.rd).out).mono ?_))
              rintro eV18 V18 ⟨p69, c69, rfl, hr_x69, hc_x69, hf_x69, hbV18⟩
              have hzV18 := hbV18.size
              have x69 := rf_of hr_x69 hc_x69 hf_x69
              clear hr_x69 hc_x69 hf_x69
              have lx69 := fun h => x69.lt h
              refine ⟨.agg #[.bool S.neg, .slice p69 (dig B16 S.m).length c69, .int .i64 S.e], rfl, ?_⟩
              replace b5 := (b5.past hbV18)
              replace b4 := (b4.past hbV18)
              refine hKx.out _ _ ⟨b5, b4⟩ ?_
              clear hKx Kx
              refine sxr [16] ?_
              refine rd1 (fun Kx hKx => ?_)
              replace b14 := (b14.past (bthru (bthru (bthru hbV15 hbV16) hbV17) hbV18))
              refine ssk none b14 hT35 0 #[.bool S.neg, .slice p69 (dig B16 S.m).length c69, .int .i64 S.e] #[.bool S.neg, .slice p69 (dig B16 S.m).length c69, .int .i64 S.e] ?_
              have boV19 := b14
              clear b14
              intro V19 hOV19 b14
              have hzV19 := hOV19.size
              replace b5 := (b5.only hOV19 (by omega))
              replace b4 := (b4.only hOV19 (by omega))
              refine hKx.out _ _ ⟨b5, b4⟩ ?_
              clear hKx Kx
              refine sx_done (by kernel_rfl) ?_
              replace x59 := ((x59.past (bthru (bthru (bthru hbV15 hbV16) hbV17) hbV18)).only hOV19 (fun h => by have := lx59 h; omega))
              replace x63 := ((x63.past hbV18).only hOV19 (fun h => by have := lx63 h; omega))
              replace x66 := ((x66.past (bthru hbV17 hbV18)).only hOV19 (fun h => by have := lx66 h; omega))
              replace x68 := ((x68.past hbV18).only hOV19 (fun h => by have := lx68 h; omega))
              replace x69 := (x69.only hOV19 (fun h => by have := lx69 h; omega))
              exact ⟨rfl, V13.heap.size, p59, c59, p63, c63, p66, c66, p68, c68, p69, c69, by kernel_rfl, b14, (x59.mono (by omega)), (x63.mono (by omega)), (x66.mono (by omega)), (x68.mono (by omega)), (x69.mono (by omega)), ((bthru (bthru (bthru (bthru (bthru (bthru hbV12 hbV13) hbV14) hbV15) hbV16) hbV17) hbV18).trans (hOV19.below (by omega))), by omega⟩
            refine rd1 (fun Kx hKx => ?_)
            refine snk 14 #[.bool false, .slice none 0 0, .int .i64 0] 35 (fun V13 hbV13 hzV13 b14 => ?_)
            replace b5 := (b5.past hbV13)
            replace b4 := (b4.past hbV13)
            refine hKx.out _ _ ⟨b5, b4⟩ ?_
            clear hKx Kx
            refine sxr [4] ?_
            refine rd1 (fun Kx hKx => ?_)
            replace hr := (hr.past (bthru (bthru (bthru ((bthru hbV8 hbV9).trans (hOV10.below (by omega))) hbV11) hbV12) hbV13))
            refine sek 59 11 #[.slice r.p r.xs.length r.c] ?_
            ((with_reducible refine ((HN3 _ hr).out).mono ?_))
            rintro eV14 V14 ⟨p59, c59, rfl, x59, hbV14⟩
            have hzV14 := hbV14.size
            have lx59 := fun h => x59.lt h
            refine ⟨.slice p59 (dig B16 nr).length c59, rfl, ?_⟩
            replace b5 := (b5.past hbV14)
            replace b4 := (b4.past hbV14)
            refine hKx.out _ _ ⟨b5, b4⟩ ?_
            clear hKx Kx
            refine tk 7 62 (.agg #[.bool r.g, .slice p59 (dig B16 nr).length c59, .int .i64 r.e]) ⟨b5, b4⟩ ?_
            refine sxr [8] ?_
            refine rd1 (fun Kx hKx => ?_)
            refine sek 63 10 #[.agg #[.bool r.g, .slice p59 (dig B16 nr).length c59, .int .i64 r.e]] ?_
            ((with_reducible refine ((HC _ p59 c59 x59.rd).out).mono ?_))
            rintro eV15 V15 ⟨p63, c63, rfl, hr_x63, hc_x63, hf_x63, hbV15⟩
            have hzV15 := hbV15.size
            have x63 := rf_of hr_x63 hc_x63 hf_x63
            clear hr_x63 hc_x63 hf_x63
            have lx63 := fun h => x63.lt h
            refine ⟨.agg #[.bool C.neg, .slice p63 (dig B16 C.m).length c63, .int .i64 C.e], rfl, ?_⟩
            replace b5 := (b5.past hbV15)
            replace b4 := (b4.past hbV15)
            refine hKx.out _ _ ⟨b5, b4⟩ ?_
            clear hKx Kx
            refine sxr [11] ?_
            refine rd1 (fun Kx hKx => ?_)
            replace hq := (hq.past (bthru (bthru (bthru (bthru (bthru ((bthru (bthru ((bthru hbV5 hbV6).trans (hOV7.below (by omega))) hbV8) hbV9).trans (hOV10.below (by omega))) hbV11) hbV12) hbV13) hbV14) hbV15))
            refine sek 66 11 #[.slice q.q q.ys.length q.d] ?_
            ((with_reducible refine ((HN4 _ hq).out).mono ?_))
            rintro eV16 V16 ⟨p66, c66, rfl, x66, hbV16⟩
            have hzV16 := hbV16.size
            have lx66 := fun h => x66.lt h
            refine ⟨.slice p66 (dig B16 dq).length c66, rfl, ?_⟩
            replace b5 := (b5.past hbV16)
            replace b4 := (b4.past hbV16)
            refine hKx.out _ _ ⟨b5, b4⟩ ?_
            clear hKx Kx
            refine tk 12 67 (.agg #[.bool false, .slice p66 (dig B16 dq).length c66, .int .i64 0]) ⟨b5, b4⟩ ?_
            refine sxr [13] ?_
            refine rd1 (fun Kx hKx => ?_)
            refine sek 68 10 #[.agg #[.bool false, .slice p66 (dig B16 dq).length c66, .int .i64 0]] ?_
            ((with_reducible refine ((HD _ p66 c66 x66.rd).out).mono ?_))
            rintro eV17 V17 ⟨p68, c68, rfl, hr_x68, hc_x68, hf_x68, hbV17⟩
            have hzV17 := hbV17.size
            have x68 := rf_of hr_x68 hc_x68 hf_x68
            clear hr_x68 hc_x68 hf_x68
            have lx68 := fun h => x68.lt h
            refine ⟨.agg #[.bool D.neg, .slice p68 (dig B16 D.m).length c68, .int .i64 D.e], rfl, ?_⟩
            replace b5 := (b5.past hbV17)
            replace b4 := (b4.past hbV17)
            refine hKx.out _ _ ⟨b5, b4⟩ ?_
            clear hKx Kx
            refine sxr [14] ?_
            refine rd1 (fun Kx hKx => ?_)
            replace x63 := (x63.past (bthru hbV16 hbV17))
            refine sek 69 9 #[.agg #[.bool C.neg, .slice p63 (dig B16 C.m).length c63, .int .i64 C.e], .agg #[.bool D.neg, .slice p68 (dig B16 D.m).length c68, .int .i64 D.e]] ?_
            ((with_reducible refine ((HS _ p63 c63 p68 c68 x63.rd x68.rd).out).mono ?_))
            rintro eV18 V18 ⟨p69, c69, rfl, hr_x69, hc_x69, hf_x69, hbV18⟩
            have hzV18 := hbV18.size
            have x69 := rf_of hr_x69 hc_x69 hf_x69
            clear hr_x69 hc_x69 hf_x69
            have lx69 := fun h => x69.lt h
            refine ⟨.agg #[.bool S.neg, .slice p69 (dig B16 S.m).length c69, .int .i64 S.e], rfl, ?_⟩
            replace b5 := (b5.past hbV18)
            replace b4 := (b4.past hbV18)
            refine hKx.out _ _ ⟨b5, b4⟩ ?_
            clear hKx Kx
            refine sxr [16] ?_
            refine rd1 (fun Kx hKx => ?_)
            replace b14 := (b14.past (bthru (bthru (bthru (bthru hbV14 hbV15) hbV16) hbV17) hbV18))
            refine ssk none b14 hT35 0 #[.bool S.neg, .slice p69 (dig B16 S.m).length c69, .int .i64 S.e] #[.bool S.neg, .slice p69 (dig B16 S.m).length c69, .int .i64 S.e] ?_
            have boV19 := b14
            clear b14
            intro V19 hOV19 b14
            have hzV19 := hOV19.size
            replace b5 := (b5.only hOV19 (by omega))
            replace b4 := (b4.only hOV19 (by omega))
            refine hKx.out _ _ ⟨b5, b4⟩ ?_
            clear hKx Kx
            refine sx_done (by kernel_rfl) ?_
            replace x59 := ((x59.past (bthru (bthru (bthru hbV15 hbV16) hbV17) hbV18)).only hOV19 (fun h => by have := lx59 h; omega))
            replace x63 := ((x63.past hbV18).only hOV19 (fun h => by have := lx63 h; omega))
            replace x66 := ((x66.past (bthru hbV17 hbV18)).only hOV19 (fun h => by have := lx66 h; omega))
            replace x68 := ((x68.past hbV18).only hOV19 (fun h => by have := lx68 h; omega))
            replace x69 := (x69.only hOV19 (fun h => by have := lx69 h; omega))
            exact ⟨rfl, V12.heap.size, p59, c59, p63, c63, p66, c66, p68, c68, p69, c69, by kernel_rfl, b14, (x59.mono (by omega)), (x63.mono (by omega)), (x66.mono (by omega)), (x68.mono (by omega)), (x69.mono (by omega)), ((bthru (bthru (bthru (bthru (bthru (bthru hbV12 hbV13) hbV14) hbV15) hbV16) hbV17) hbV18).trans (hOV19.below (by omega))), by omega⟩
          rintro _ V12 ⟨kb14, p59, c59, p63, c63, p66, c66, p68, c68, p69, c69, rfl, b14, x59, x63, x66, x68, x69, hbV12, hkb14⟩
          refine hGx _ _ ?_
          clear hGx Gx
          have hzV12 := hbV12.size
          have hlb14 := b14.lt
          have lx59 := fun h => x59.lt h
          have lx63 := fun h => x63.lt h
          have lx66 := fun h => x66.lt h
          have lx68 := fun h => x68.lt h
          have lx69 := fun h => x69.lt h
          refine sx_then ?_
          refine wp_seq ?_
          refine sx_region ?_
          replace b9 := (b9.past (bthru (bthru ((bthru hbV8 hbV9).trans (hOV10.below (by omega))) hbV11) hbV12))
          refine sv 71 (.agg #[.bool x.neg, .slice p24 (dig B32 x.m).length c24, .int .i64 x.e]) ?_ (hr := (exec_ld (by kernel_rfl) (run_ld b9 hT30 0 [.bool x.neg, .slice p24 (dig B32 x.m).length c24, .int .i64 x.e] (by kernel_rfl) (by kernel_rfl))))
          replace b11 := (b11.past (bthru hbV11 hbV12))
          refine sv 72 (.agg #[.bool y.neg, .slice p31 (dig B32 y.m).length c31, .int .i64 y.e]) ?_ (hr := (exec_ld (by kernel_rfl) (run_ld b11 hT30 0 [.bool y.neg, .slice p31 (dig B32 y.m).length c31, .int .i64 y.e] (by kernel_rfl) (by kernel_rfl))))
          replace ho24 := (ho24.past (bthru (bthru ((bthru (bthru (hbV6.trans (hOV7.below (by omega))) hbV8) hbV9).trans (hOV10.below (by omega))) hbV11) hbV12))
          replace ho31 := (ho31.past (bthru (bthru (hbV9.trans (hOV10.below (by omega))) hbV11) hbV12))
          replace hT := (hT.past (bthru (bthru ((bthru hbV8 hbV9).trans (hOV10.below (by omega))) hbV11) hbV12))
          refine se 73 12 #[.agg #[.bool x.neg, .slice p24 (dig B32 x.m).length c24, .int .i64 x.e], .agg #[.bool y.neg, .slice p31 (dig B32 y.m).length c31, .int .i64 y.e]] (fun Gx hGx => ?_)
          ((with_reducible refine ((HCC _ _ _ p24 c24 p31 c31 ho24 ho31 hT).out).mono ?_))
          rintro eV13 V13 ⟨rfl, hbV13⟩
          have hzV13 := hbV13.size
          refine ⟨.tuple #[.int .i64 cv, .int .i64 0], rfl, hGx _ _ ?_⟩
          clear hGx Gx
          refine sv 70 (.tuple #[.int .i64 cv, .int .i64 0]) ?_
          refine sv 74 (.int .i64 cv) ?_
          refine sv 75 (.int .i64 0) ?_
          refine sv 15 (.int .i64 cv) ?_
          refine sv 16 (.int .i64 0) ?_
          refine sx_nil ?_
          refine sx_then ?_
          refine wp_seq ?_
          refine sx_region ?_
          replace b13 := (b13.past (bthru hbV12 hbV13))
          refine sv 76 (.agg #[.bool P.neg, .slice p54 (dig B16 P.m).length c54, .int .i64 P.e]) ?_ (hr := (exec_ld (by kernel_rfl) (run_ld b13 hT35 0 [.bool P.neg, .slice p54 (dig B16 P.m).length c54, .int .i64 P.e] (by kernel_rfl) (by kernel_rfl))))
          replace b14 := (b14.past hbV13)
          refine sv 77 (.agg #[.bool S.neg, .slice p69 (dig B16 S.m).length c69, .int .i64 S.e]) ?_ (hr := (exec_ld (by kernel_rfl) (run_ld b14 hT35 0 [.bool S.neg, .slice p69 (dig B16 S.m).length c69, .int .i64 S.e] (by kernel_rfl) (by kernel_rfl))))
          replace x54 := (x54.past (bthru hbV12 hbV13))
          replace x69 := (x69.past hbV13)
          refine se 78 13 #[.agg #[.bool P.neg, .slice p54 (dig B16 P.m).length c54, .int .i64 P.e], .agg #[.bool S.neg, .slice p69 (dig B16 S.m).length c69, .int .i64 S.e]] (fun Gx hGx => ?_)
          ((with_reducible refine ((HM _ p54 c54 p69 c69 x54.rd x69.rd x69.cap).out).mono ?_))
          rintro eV14 V14 ⟨rfl, hbV14⟩
          have hzV14 := hbV14.size
          refine ⟨.int .i64 mv, rfl, hGx _ _ ?_⟩
          clear hGx Gx
          refine sv 17 (.int .i64 mv) ?_
          refine sx_nil ?_
          refine sx_then ?_
          refine wp_seq ?_
          refine sx_region ?_
          refine sv 79 (.int .i64 0) ?_
          refine sv 80 (.bool true) ?_
          refine sv 81 (.bool true) ?_
          refine sv 82 (.int .i64 mv) ?_
          refine sv 83 (.bool false) ?_ (hr := ((show _ = Result.ok (Next.value (.bool (decide (mv < 0)))) _ from (by kernel_rfl)).trans (congrArg (fun z => Result.ok (Next.value (.bool z)) _) (show (decide (mv < 0)) = false from decide_eq_false m1))))
          refine sv 84 (.bool false) ?_
          refine so (some 85) ?_
          refine so (some 86) ?_
          refine sv 87 (.bool false) ?_
          refine sv 88 (.bool false) ?_
          refine sv 89 (.int .i64 mv) ?_
          refine sv 90 (.bool false) ?_ (hr := ((show _ = Result.ok (Next.value (.bool (decide (mv > 0)))) _ from (by kernel_rfl)).trans (congrArg (fun z => Result.ok (Next.value (.bool z)) _) (show (decide (mv > 0)) = false from decide_eq_false m2))))
          refine sv 91 (.bool false) ?_
          refine so (some 92) ?_
          refine so (some 93) ?_
          refine sv 94 (.bool false) ?_
          refine sv 95 (.bool false) ?_
          refine sv 96 (.bool false) ?_
          refine sv 97 (.int .i64 mv) ?_
          refine sv 98 (.bool true) ?_ (hr := ((show _ = Result.ok (Next.value (.bool (mv == 0))) _ from (by kernel_rfl)).trans (congrArg (fun z => Result.ok (Next.value (.bool z)) _) (show (mv == 0) = true from beq_iff_eq.2 m3))))
          refine sv 99 (.bool true) ?_
          refine sv 100 (.int .i64 cv) ?_
          refine sv 101 (.bool true) ?_ (hr := ((show _ = Result.ok (Next.value (.bool (cv == 0))) _ from (by kernel_rfl)).trans (congrArg (fun z => Result.ok (Next.value (.bool z)) _) (show (cv == 0) = true from beq_iff_eq.2 c1))))
          refine sv 102 (.bool true) ?_
          refine sv 103 (.bool true) ?_
          refine sv 104 (.bool true) ?_
          refine sv 8 (.bool true) ?_
          refine sx_nil ?_
          refine sx_then ?_
          refine wp_ret ?_
          repeat (first | with_reducible refine sx_thenret ?_ | with_reducible refine sx_blockret ?_)
          refine bodyPost_ret (v := .bool true) (by simp [results, Tryd.results3, go_sem]) rfl ?_
          exact ⟨rfl, (bthru (bthru (bthru (bthru ((bthru (bthru ((bthru (bthru (bthru (bthru (bthru hbV1 hbV2) hbV3) hbV4) hbV5) hbV6).trans (hOV7.below (by omega))) hbV8) hbV9).trans (hOV10.below (by omega))) hbV11) hbV12) hbV13) hbV14)⟩
    · have a2' : rokB r g way = false := by simpa using a2
      rw [a2'] at HR
      rw [a1] at HQ
      generalize rvalV q g way = x at *
      generalize rvalV r g way = y at *
      have hT25 : SxAgg Tryd.prog 25 4 := sxAgg_of (by kernel_rfl) (by kernel_rfl)
      have hT27 : SxAgg Tryd.prog 27 5 := sxAgg_of (by kernel_rfl) (by kernel_rfl)
      have hT30 : SxAgg Tryd.prog 30 3 := sxAgg_of (by kernel_rfl) (by kernel_rfl)
      refine calls_of_wp Tryd.func3 rfl ?_
      refine sx_frame (a' := ⟨((.agg #[.bool q.g, .slice q.p q.xs.length q.c, .slice q.q q.ys.length q.d, .int .i64 q.e]) :: (.agg #[.bool r.g, .slice r.p r.xs.length r.c, .slice r.q r.ys.length r.d, .int .i64 r.e]) :: (.agg #[.int .i64 g.rad, .int .i64 g.digs, .int .i64 g.lo, .int .i64 g.hi, .bool g.grad]) :: (.int .i64 way) :: undef :: undef :: undef :: undef :: undef :: undef :: undef :: undef :: undef :: undef :: undef :: undef :: undef :: undef :: undef :: undef :: undef :: undef :: undef :: undef :: undef :: undef :: undef :: undef :: undef :: undef :: undef :: undef :: undef :: undef :: undef :: undef :: undef :: undef :: undef :: undef :: undef :: undef :: undef :: undef :: undef :: undef :: undef :: undef :: undef :: undef :: undef :: undef :: undef :: undef :: undef :: undef :: undef :: undef :: undef :: undef :: undef :: undef :: undef :: undef :: undef :: undef :: undef :: undef :: undef :: undef :: undef :: undef :: undef :: undef :: undef :: undef :: undef :: undef :: undef :: undef :: undef :: undef :: undef :: undef :: undef :: undef :: undef :: undef :: undef :: undef :: undef :: undef :: undef :: undef :: undef :: undef :: undef :: undef :: undef :: undef :: undef :: undef :: undef :: undef :: undef :: []).toArray, []⟩) (by kernel_rfl) ?_
      refine wp_seq ?_
      refine sx_region ?_
      refine sn 4 #[.bool q.g, .slice q.p q.xs.length q.c, .slice q.q q.ys.length q.d, .int .i64 q.e] 25 (fun V1 hbV1 hzV1 b4 => ?_)
      refine sn 5 #[.bool r.g, .slice r.p r.xs.length r.c, .slice r.q r.ys.length r.d, .int .i64 r.e] 25 (fun V2 hbV2 hzV2 b5 => ?_)
      refine sn 6 #[.int .i64 g.rad, .int .i64 g.digs, .int .i64 g.lo, .int .i64 g.hi, .bool g.grad] 27 (fun V3 hbV3 hzV3 b6 => ?_)
      refine sv 8 (.bool false) ?_
      refine sx_nil ?_
      refine sx_then ?_
      refine wp_seq ?_
      refine wp_seq ?_
      refine sx_region ?_
      refine se 18 7 #[] (fun Gx hGx => ?_)
      ((with_reducible refine (gridBegun_any _).mono ?_))
      rintro eV4 V4 ⟨rfl, hbV4⟩
      have hzV4 := hbV4.size
      refine ⟨.bool true, rfl, hGx _ _ ?_⟩
      clear hGx Gx
      refine sv 19 (.bool false) ?_
      refine sx_nil ?_
      refine sx_then ?_
      refine wp_cond_false (by kernel_rfl) ?_
      refine wp_skip ?_
      refine sx_then ?_
      refine wp_seq ?_
      refine sx_region ?_
      replace b4 := (b4.past (bthru (bthru hbV2 hbV3) hbV4))
      refine sv 21 (.agg #[.bool q.g, .slice q.p q.xs.length q.c, .slice q.q q.ys.length q.d, .int .i64 q.e]) ?_ (hr := (exec_ld (by kernel_rfl) (run_ld b4 hT25 0 [.bool q.g, .slice q.p q.xs.length q.c, .slice q.q q.ys.length q.d, .int .i64 q.e] (by kernel_rfl) (by kernel_rfl))))
      replace b6 := (b6.past hbV4)
      refine sv 22 (.agg #[.int .i64 g.rad, .int .i64 g.digs, .int .i64 g.lo, .int .i64 g.hi, .bool g.grad]) ?_ (hr := (exec_ld (by kernel_rfl) (run_ld b6 hT27 0 [.int .i64 g.rad, .int .i64 g.digs, .int .i64 g.lo, .int .i64 g.hi, .bool g.grad] (by kernel_rfl) (by kernel_rfl))))
      refine sv 23 (.int .i64 way) ?_
      replace hq := (hq.past (bthru (bthru (bthru hbV1 hbV2) hbV3) hbV4))
      replace hT := (hT.past (bthru (bthru (bthru hbV1 hbV2) hbV3) hbV4))
      refine se 24 8 #[.agg #[.bool q.g, .slice q.p q.xs.length q.c, .slice q.q q.ys.length q.d, .int .i64 q.e], .agg #[.int .i64 g.rad, .int .i64 g.digs, .int .i64 g.lo, .int .i64 g.hi, .bool g.grad], .int .i64 way] (fun Gx hGx => ?_)
      ((with_reducible refine ((HQ _ hq hT).out).mono ?_))
      rintro eV5 V5 ⟨p24, c24, rfl, ho24, hbV5⟩
      have hzV5 := hbV5.size
      refine ⟨.tuple #[.agg #[.bool x.neg, .slice p24 (dig B32 x.m).length c24, .int .i64 x.e], .bool true], rfl, hGx _ _ ?_⟩
      clear hGx Gx
      refine sv 20 (.tuple #[.agg #[.bool x.neg, .slice p24 (dig B32 x.m).length c24, .int .i64 x.e], .bool true]) ?_
      refine sv 25 (.agg #[.bool x.neg, .slice p24 (dig B32 x.m).length c24, .int .i64 x.e]) ?_
      refine sv 26 (.bool true) ?_
      refine sn 9 #[.bool false, .slice none 0 0, .int .i64 0] 30 (fun V6 hbV6 hzV6 b9 => ?_)
      refine ss none b9 hT30 0 #[.bool x.neg, .slice p24 (dig B32 x.m).length c24, .int .i64 x.e] #[.bool x.neg, .slice p24 (dig B32 x.m).length c24, .int .i64 x.e] ?_
      have boV7 := b9
      clear b9
      intro V7 hOV7 b9
      have hzV7 := hOV7.size
      refine sv 10 (.bool true) ?_
      refine sx_nil ?_
      refine sx_then ?_
      refine wp_seq ?_
      refine sx_region ?_
      replace b5 := (b5.past ((bthru (bthru (bthru hbV3 hbV4) hbV5) hbV6).trans (hOV7.below (by omega))))
      refine sv 28 (.agg #[.bool r.g, .slice r.p r.xs.length r.c, .slice r.q r.ys.length r.d, .int .i64 r.e]) ?_ (hr := (exec_ld (by kernel_rfl) (run_ld b5 hT25 0 [.bool r.g, .slice r.p r.xs.length r.c, .slice r.q r.ys.length r.d, .int .i64 r.e] (by kernel_rfl) (by kernel_rfl))))
      replace b6 := (b6.past ((bthru hbV5 hbV6).trans (hOV7.below (by omega))))
      refine sv 29 (.agg #[.int .i64 g.rad, .int .i64 g.digs, .int .i64 g.lo, .int .i64 g.hi, .bool g.grad]) ?_ (hr := (exec_ld (by kernel_rfl) (run_ld b6 hT27 0 [.int .i64 g.rad, .int .i64 g.digs, .int .i64 g.lo, .int .i64 g.hi, .bool g.grad] (by kernel_rfl) (by kernel_rfl))))
      refine sv 30 (.int .i64 way) ?_
      replace hr := (hr.past ((bthru (bthru (bthru (bthru (bthru hbV1 hbV2) hbV3) hbV4) hbV5) hbV6).trans (hOV7.below (by omega))))
      replace hT := (hT.past ((bthru hbV5 hbV6).trans (hOV7.below (by omega))))
      refine se 31 8 #[.agg #[.bool r.g, .slice r.p r.xs.length r.c, .slice r.q r.ys.length r.d, .int .i64 r.e], .agg #[.int .i64 g.rad, .int .i64 g.digs, .int .i64 g.lo, .int .i64 g.hi, .bool g.grad], .int .i64 way] (fun Gx hGx => ?_)
      ((with_reducible refine ((HR _ hr hT).out).mono ?_))
      rintro eV8 V8 ⟨p31, c31, rfl, ho31, hbV8⟩
      have hzV8 := hbV8.size
      refine ⟨.tuple #[.agg #[.bool y.neg, .slice p31 (dig B32 y.m).length c31, .int .i64 y.e], .bool false], rfl, hGx _ _ ?_⟩
      clear hGx Gx
      refine sv 27 (.tuple #[.agg #[.bool y.neg, .slice p31 (dig B32 y.m).length c31, .int .i64 y.e], .bool false]) ?_
      refine sv 32 (.agg #[.bool y.neg, .slice p31 (dig B32 y.m).length c31, .int .i64 y.e]) ?_
      refine sv 33 (.bool false) ?_
      refine sn 11 #[.bool false, .slice none 0 0, .int .i64 0] 30 (fun V9 hbV9 hzV9 b11 => ?_)
      refine ss none b11 hT30 0 #[.bool y.neg, .slice p31 (dig B32 y.m).length c31, .int .i64 y.e] #[.bool y.neg, .slice p31 (dig B32 y.m).length c31, .int .i64 y.e] ?_
      have boV10 := b11
      clear b11
      intro V10 hOV10 b11
      have hzV10 := hOV10.size
      refine sv 12 (.bool false) ?_
      refine sx_nil ?_
      refine sx_then ?_
      refine wp_seq ?_
      refine wp_seq ?_
      refine sx_region ?_
      refine sv 34 (.bool true) ?_
      refine sv 35 (.bool false) ?_
      refine sv 36 (.bool false) ?_
      refine sv 37 (.bool false) ?_
      refine sv 38 (.bool true) ?_
      refine sv 39 (.bool true) ?_
      refine sx_nil ?_
      refine sx_then ?_
      refine wp_cond_true (by kernel_rfl) ?_
      refine wp_seq ?_
      refine sx_region ?_
      refine sv 8 (.bool true) ?_
      refine sx_nil ?_
      refine sx_then ?_
      refine wp_ret ?_
      repeat (first | with_reducible refine sx_thenret ?_ | with_reducible refine sx_blockret ?_)
      refine bodyPost_ret (v := .bool true) (by simp [results, Tryd.results3, go_sem]) rfl ?_
      exact ⟨rfl, ((bthru (bthru ((bthru (bthru (bthru (bthru (bthru hbV1 hbV2) hbV3) hbV4) hbV5) hbV6).trans (hOV7.below (by omega))) hbV8) hbV9).trans (hOV10.below (by omega)))⟩
  · have a1' : rokB q g way = false := by simpa using a1
    rw [a1'] at HQ
    generalize rokB r g way = b at *
    generalize rvalV q g way = x at *
    generalize rvalV r g way = y at *
    have hT25 : SxAgg Tryd.prog 25 4 := sxAgg_of (by kernel_rfl) (by kernel_rfl)
    have hT27 : SxAgg Tryd.prog 27 5 := sxAgg_of (by kernel_rfl) (by kernel_rfl)
    have hT30 : SxAgg Tryd.prog 30 3 := sxAgg_of (by kernel_rfl) (by kernel_rfl)
    refine calls_of_wp Tryd.func3 rfl ?_
    refine sx_frame (a' := ⟨((.agg #[.bool q.g, .slice q.p q.xs.length q.c, .slice q.q q.ys.length q.d, .int .i64 q.e]) :: (.agg #[.bool r.g, .slice r.p r.xs.length r.c, .slice r.q r.ys.length r.d, .int .i64 r.e]) :: (.agg #[.int .i64 g.rad, .int .i64 g.digs, .int .i64 g.lo, .int .i64 g.hi, .bool g.grad]) :: (.int .i64 way) :: undef :: undef :: undef :: undef :: undef :: undef :: undef :: undef :: undef :: undef :: undef :: undef :: undef :: undef :: undef :: undef :: undef :: undef :: undef :: undef :: undef :: undef :: undef :: undef :: undef :: undef :: undef :: undef :: undef :: undef :: undef :: undef :: undef :: undef :: undef :: undef :: undef :: undef :: undef :: undef :: undef :: undef :: undef :: undef :: undef :: undef :: undef :: undef :: undef :: undef :: undef :: undef :: undef :: undef :: undef :: undef :: undef :: undef :: undef :: undef :: undef :: undef :: undef :: undef :: undef :: undef :: undef :: undef :: undef :: undef :: undef :: undef :: undef :: undef :: undef :: undef :: undef :: undef :: undef :: undef :: undef :: undef :: undef :: undef :: undef :: undef :: undef :: undef :: undef :: undef :: undef :: undef :: undef :: undef :: undef :: undef :: undef :: undef :: undef :: undef :: undef :: []).toArray, []⟩) (by kernel_rfl) ?_
    refine wp_seq ?_
    refine sx_region ?_
    refine sn 4 #[.bool q.g, .slice q.p q.xs.length q.c, .slice q.q q.ys.length q.d, .int .i64 q.e] 25 (fun V1 hbV1 hzV1 b4 => ?_)
    refine sn 5 #[.bool r.g, .slice r.p r.xs.length r.c, .slice r.q r.ys.length r.d, .int .i64 r.e] 25 (fun V2 hbV2 hzV2 b5 => ?_)
    refine sn 6 #[.int .i64 g.rad, .int .i64 g.digs, .int .i64 g.lo, .int .i64 g.hi, .bool g.grad] 27 (fun V3 hbV3 hzV3 b6 => ?_)
    refine sv 8 (.bool false) ?_
    refine sx_nil ?_
    refine sx_then ?_
    refine wp_seq ?_
    refine wp_seq ?_
    refine sx_region ?_
    refine se 18 7 #[] (fun Gx hGx => ?_)
    ((with_reducible refine (gridBegun_any _).mono ?_))
    rintro eV4 V4 ⟨rfl, hbV4⟩
    have hzV4 := hbV4.size
    refine ⟨.bool true, rfl, hGx _ _ ?_⟩
    clear hGx Gx
    refine sv 19 (.bool false) ?_
    refine sx_nil ?_
    refine sx_then ?_
    refine wp_cond_false (by kernel_rfl) ?_
    refine wp_skip ?_
    refine sx_then ?_
    refine wp_seq ?_
    refine sx_region ?_
    replace b4 := (b4.past (bthru (bthru hbV2 hbV3) hbV4))
    refine sv 21 (.agg #[.bool q.g, .slice q.p q.xs.length q.c, .slice q.q q.ys.length q.d, .int .i64 q.e]) ?_ (hr := (exec_ld (by kernel_rfl) (run_ld b4 hT25 0 [.bool q.g, .slice q.p q.xs.length q.c, .slice q.q q.ys.length q.d, .int .i64 q.e] (by kernel_rfl) (by kernel_rfl))))
    replace b6 := (b6.past hbV4)
    refine sv 22 (.agg #[.int .i64 g.rad, .int .i64 g.digs, .int .i64 g.lo, .int .i64 g.hi, .bool g.grad]) ?_ (hr := (exec_ld (by kernel_rfl) (run_ld b6 hT27 0 [.int .i64 g.rad, .int .i64 g.digs, .int .i64 g.lo, .int .i64 g.hi, .bool g.grad] (by kernel_rfl) (by kernel_rfl))))
    refine sv 23 (.int .i64 way) ?_
    replace hq := (hq.past (bthru (bthru (bthru hbV1 hbV2) hbV3) hbV4))
    replace hT := (hT.past (bthru (bthru (bthru hbV1 hbV2) hbV3) hbV4))
    refine se 24 8 #[.agg #[.bool q.g, .slice q.p q.xs.length q.c, .slice q.q q.ys.length q.d, .int .i64 q.e], .agg #[.int .i64 g.rad, .int .i64 g.digs, .int .i64 g.lo, .int .i64 g.hi, .bool g.grad], .int .i64 way] (fun Gx hGx => ?_)
    ((with_reducible refine ((HQ _ hq hT).out).mono ?_))
    rintro eV5 V5 ⟨p24, c24, rfl, ho24, hbV5⟩
    have hzV5 := hbV5.size
    refine ⟨.tuple #[.agg #[.bool x.neg, .slice p24 (dig B32 x.m).length c24, .int .i64 x.e], .bool false], rfl, hGx _ _ ?_⟩
    clear hGx Gx
    refine sv 20 (.tuple #[.agg #[.bool x.neg, .slice p24 (dig B32 x.m).length c24, .int .i64 x.e], .bool false]) ?_
    refine sv 25 (.agg #[.bool x.neg, .slice p24 (dig B32 x.m).length c24, .int .i64 x.e]) ?_
    refine sv 26 (.bool false) ?_
    refine sn 9 #[.bool false, .slice none 0 0, .int .i64 0] 30 (fun V6 hbV6 hzV6 b9 => ?_)
    refine ss none b9 hT30 0 #[.bool x.neg, .slice p24 (dig B32 x.m).length c24, .int .i64 x.e] #[.bool x.neg, .slice p24 (dig B32 x.m).length c24, .int .i64 x.e] ?_
    have boV7 := b9
    clear b9
    intro V7 hOV7 b9
    have hzV7 := hOV7.size
    refine sv 10 (.bool false) ?_
    refine sx_nil ?_
    refine sx_then ?_
    refine wp_seq ?_
    refine sx_region ?_
    replace b5 := (b5.past ((bthru (bthru (bthru hbV3 hbV4) hbV5) hbV6).trans (hOV7.below (by omega))))
    refine sv 28 (.agg #[.bool r.g, .slice r.p r.xs.length r.c, .slice r.q r.ys.length r.d, .int .i64 r.e]) ?_ (hr := (exec_ld (by kernel_rfl) (run_ld b5 hT25 0 [.bool r.g, .slice r.p r.xs.length r.c, .slice r.q r.ys.length r.d, .int .i64 r.e] (by kernel_rfl) (by kernel_rfl))))
    replace b6 := (b6.past ((bthru hbV5 hbV6).trans (hOV7.below (by omega))))
    refine sv 29 (.agg #[.int .i64 g.rad, .int .i64 g.digs, .int .i64 g.lo, .int .i64 g.hi, .bool g.grad]) ?_ (hr := (exec_ld (by kernel_rfl) (run_ld b6 hT27 0 [.int .i64 g.rad, .int .i64 g.digs, .int .i64 g.lo, .int .i64 g.hi, .bool g.grad] (by kernel_rfl) (by kernel_rfl))))
    refine sv 30 (.int .i64 way) ?_
    replace hr := (hr.past ((bthru (bthru (bthru (bthru (bthru hbV1 hbV2) hbV3) hbV4) hbV5) hbV6).trans (hOV7.below (by omega))))
    replace hT := (hT.past ((bthru hbV5 hbV6).trans (hOV7.below (by omega))))
    refine se 31 8 #[.agg #[.bool r.g, .slice r.p r.xs.length r.c, .slice r.q r.ys.length r.d, .int .i64 r.e], .agg #[.int .i64 g.rad, .int .i64 g.digs, .int .i64 g.lo, .int .i64 g.hi, .bool g.grad], .int .i64 way] (fun Gx hGx => ?_)
    ((with_reducible refine ((HR _ hr hT).out).mono ?_))
    rintro eV8 V8 ⟨p31, c31, rfl, ho31, hbV8⟩
    have hzV8 := hbV8.size
    refine ⟨.tuple #[.agg #[.bool y.neg, .slice p31 (dig B32 y.m).length c31, .int .i64 y.e], .bool b], rfl, hGx _ _ ?_⟩
    clear hGx Gx
    refine sv 27 (.tuple #[.agg #[.bool y.neg, .slice p31 (dig B32 y.m).length c31, .int .i64 y.e], .bool b]) ?_
    refine sv 32 (.agg #[.bool y.neg, .slice p31 (dig B32 y.m).length c31, .int .i64 y.e]) ?_
    refine sv 33 (.bool b) ?_
    refine sn 11 #[.bool false, .slice none 0 0, .int .i64 0] 30 (fun V9 hbV9 hzV9 b11 => ?_)
    refine ss none b11 hT30 0 #[.bool y.neg, .slice p31 (dig B32 y.m).length c31, .int .i64 y.e] #[.bool y.neg, .slice p31 (dig B32 y.m).length c31, .int .i64 y.e] ?_
    have boV10 := b11
    clear b11
    intro V10 hOV10 b11
    have hzV10 := hOV10.size
    refine sv 12 (.bool b) ?_
    refine sx_nil ?_
    refine sx_then ?_
    refine wp_seq ?_
    refine wp_seq ?_
    refine sx_region ?_
    refine sv 34 (.bool false) ?_
    refine sv 35 (.bool true) ?_
    refine sv 36 (.bool true) ?_
    refine so (some 37) ?_
    refine so (some 38) ?_
    refine sv 39 (.bool true) ?_
    refine sx_nil ?_
    refine sx_then ?_
    refine wp_cond_true (by kernel_rfl) ?_
    refine wp_seq ?_
    refine sx_region ?_
    refine sv 8 (.bool true) ?_
    refine sx_nil ?_
    refine sx_then ?_
    refine wp_ret ?_
    repeat (first | with_reducible refine sx_thenret ?_ | with_reducible refine sx_blockret ?_)
    refine bodyPost_ret (v := .bool true) (by simp [results, Tryd.results3, go_sem]) rfl ?_
    exact ⟨rfl, ((bthru (bthru ((bthru (bthru (bthru (bthru (bthru hbV1 hbV2) hbV3) hbV4) hbV5) hbV6).trans (hOV7.below (by omega))) hbV8) hbV9).trans (hOV10.below (by omega)))⟩

end Go.Proofs.YtlegnbigddhmlaaDoor
