/- The law SeriesMachin: its walk. -/
import Derived.Test.YtehodhanojgkgaaDoorZV
import Derived.Test.YtehodhanojgkgaaDoorZSe7
import Derived.Test.YtehodhanojgkgaaDoorZChs
namespace Go.Proofs.YtehodhanojgkgaaDoor
open Go.RowKit Go.Slip

theorem lit32 {w : World} {b k : Nat} (h : Bx w b #[.int .u32 (k : Int)]) : Rd w .u32 (some ⟨b, 0, none⟩) [k] := by
  refine ⟨fun _ => ⟨rfl, rfl⟩, fun j hj => ?_⟩
  obtain rfl : j = 0 := by simp at hj; omega
  exact h.e1
theorem errNat_one {k : Nat} (hk : 0 < k) : errNat [k] = 0 := by
  unfold errNat
  rw [if_neg, if_neg (by simp)]
  rintro ⟨_, h2⟩
  simp [dg] at h2
  omega

/-- A whole number's ball, as the law writes it. -/
def GivesLit (w : World) (g : Bool) (k : Nat) (en : Ending) (w' : World) : Prop := ∃ p, en = .returned (.agg #[.bool g, .slice p 1 1, .int .i64 0, .bool g, .slice p 1 1, .int .i64 0]) ∧ Rd w' .u32 p [k] ∧ Below w.heap.size w w'

set_option maxHeartbeats 2000000 in
set_option maxRecDepth 100000 in
theorem mach16 (w : World) : Calls Tryd.prog 30 #[.int .i64 (16)] w (GivesLit w false 16) := by
  have hT25 : SxAgg Tryd.prog 25 3 := sxAgg_of (by kernel_rfl) (by kernel_rfl)
  have hT27 : SxAgg Tryd.prog 27 6 := sxAgg_of (by kernel_rfl) (by kernel_rfl)
  refine calls_of_wp Tryd.func30 rfl ?_
  refine sx_frame (a' := ⟨((.int .i64 16) :: undef :: undef :: undef :: undef :: undef :: undef :: undef :: undef :: undef :: undef :: undef :: undef :: undef :: undef :: undef :: []).toArray, []⟩) (by kernel_rfl) ?_
  refine wp_seq ?_
  refine sx_region ?_
  refine sn 2 #[.bool false, .slice none 0 0, .int .i64 0, .bool false, .slice none 0 0, .int .i64 0] 27 (fun V1 hbV1 hzV1 b2 => ?_)
  refine sx_nil ?_
  refine sx_then ?_
  refine wp_seq ?_
  refine sx_region ?_
  refine sv 4 (.int .i64 16) ?_
  refine sv 5 (.int .i64 16) ?_
  refine sv 6 (.int .i64 (-(16))) ?_ (hr := ((show _ = Result.ok (Next.value (.int .i64 (IntKind.wrap .i64 (0 - 16)))) _ by kernel_rfl).trans (congrArg (fun z => Result.ok (Next.value (.int .i64 z)) _) ((by exact IntWalk.i64_in _ (by omega))))))
  refine sv 7 (.int .i64 16) ?_ (hr := ((show _ = Result.ok (Next.value (.int .i64 (if (((-(16))) : Int) > (16) then (-(16)) else 16))) _ by kernel_rfl).trans (congrArg (fun z => Result.ok (Next.value (.int .i64 z)) _) ((by decide)))))
  refine sv 8 (.int .u32 16) ?_ (hr := ((show _ = Result.ok (Next.value (.int .u32 (IntKind.wrap .u32 (16)))) _ by kernel_rfl).trans (congrArg (fun z => Result.ok (Next.value (.int .u32 z)) _) ((by exact IntWalk.u32_in _ (by omega))))))
  refine snv 9 (.slice (some ⟨V1.heap.size, 0, none⟩) 1 1) #[.int .u32 16] 58 (fun V2 hbV2 hzV2 b9 => ?_)
  refine sv 10 (.int .i64 16) ?_
  refine sv 11 (.bool false) ?_
  refine sv 12 (.agg #[.bool false, .slice (some ⟨V1.heap.size, 0, none⟩) 1 1, .int .i64 0]) ?_
  refine sn 3 #[.bool false, .slice none 0 0, .int .i64 0] 25 (fun V3 hbV3 hzV3 b3 => ?_)
  refine ss none b3 hT25 0 #[.bool false, .slice (some ⟨V1.heap.size, 0, none⟩) 1 1, .int .i64 0] #[.bool false, .slice (some ⟨V1.heap.size, 0, none⟩) 1 1, .int .i64 0] ?_
  have boV4 := b3
  clear b3
  intro V4 hOV4 b3
  have hzV4 := hOV4.size
  refine sx_nil ?_
  refine sx_then ?_
  refine wp_seq ?_
  refine sx_region ?_
  refine sv 13 (.agg #[.bool false, .slice (some ⟨V1.heap.size, 0, none⟩) 1 1, .int .i64 0]) ?_ (hr := (exec_ld (by kernel_rfl) (run_ld b3 hT25 0 [.bool false, .slice (some ⟨V1.heap.size, 0, none⟩) 1 1, .int .i64 0] (by kernel_rfl) (by kernel_rfl))))
  refine sv 14 (.agg #[.bool false, .slice (some ⟨V1.heap.size, 0, none⟩) 1 1, .int .i64 0]) ?_ (hr := (exec_ld (by kernel_rfl) (run_ld b3 hT25 0 [.bool false, .slice (some ⟨V1.heap.size, 0, none⟩) 1 1, .int .i64 0] (by kernel_rfl) (by kernel_rfl))))
  refine sv 15 (.agg #[.bool false, .slice (some ⟨V1.heap.size, 0, none⟩) 1 1, .int .i64 0, .bool false, .slice (some ⟨V1.heap.size, 0, none⟩) 1 1, .int .i64 0]) ?_
  replace b2 := (b2.past ((bthru hbV2 hbV3).trans (hOV4.below (by omega))))
  refine ss none b2 hT27 0 #[.bool false, .slice (some ⟨V1.heap.size, 0, none⟩) 1 1, .int .i64 0, .bool false, .slice (some ⟨V1.heap.size, 0, none⟩) 1 1, .int .i64 0] #[.bool false, .slice (some ⟨V1.heap.size, 0, none⟩) 1 1, .int .i64 0, .bool false, .slice (some ⟨V1.heap.size, 0, none⟩) 1 1, .int .i64 0] ?_
  have boV5 := b2
  clear b2
  intro V5 hOV5 b2
  have hzV5 := hOV5.size
  refine sx_nil ?_
  refine sx_then ?_
  refine wp_ret ?_
  have ⟨b2_0, b2_1, b2_2, b2_3, b2_4, b2_5⟩ := b2.bx.e6
  repeat (first | with_reducible refine sx_thenret ?_ | with_reducible refine sx_blockret ?_)
  refine bodyPost_ret (v := .agg #[.bool false, .slice (some ⟨V1.heap.size, 0, none⟩) 1 1, .int .i64 0, .bool false, .slice (some ⟨V1.heap.size, 0, none⟩) 1 1, .int .i64 0]) (by simp [results, Tryd.results30, go_sem, b2_0, b2_1, b2_2, b2_3, b2_4, b2_5]) rfl ?_
  replace b9 := ((b9.past (hbV3.trans (hOV4.below (by omega)))).only hOV5 (by omega))
  exact ⟨_, rfl, lit32 (k := 16) b9.bx, (((bthru (bthru hbV1 hbV2) hbV3).trans (hOV4.below (by omega))).trans (hOV5.below (by omega)))⟩

set_option maxHeartbeats 2000000 in
set_option maxRecDepth 100000 in
theorem mach4 (w : World) : Calls Tryd.prog 30 #[.int .i64 (-4)] w (GivesLit w true 4) := by
  have hT25 : SxAgg Tryd.prog 25 3 := sxAgg_of (by kernel_rfl) (by kernel_rfl)
  have hT27 : SxAgg Tryd.prog 27 6 := sxAgg_of (by kernel_rfl) (by kernel_rfl)
  refine calls_of_wp Tryd.func30 rfl ?_
  refine sx_frame (a' := ⟨((.int .i64 (-4)) :: undef :: undef :: undef :: undef :: undef :: undef :: undef :: undef :: undef :: undef :: undef :: undef :: undef :: undef :: undef :: []).toArray, []⟩) (by kernel_rfl) ?_
  refine wp_seq ?_
  refine sx_region ?_
  refine sn 2 #[.bool false, .slice none 0 0, .int .i64 0, .bool false, .slice none 0 0, .int .i64 0] 27 (fun V1 hbV1 hzV1 b2 => ?_)
  refine sx_nil ?_
  refine sx_then ?_
  refine wp_seq ?_
  refine sx_region ?_
  refine sv 4 (.int .i64 (-4)) ?_
  refine sv 5 (.int .i64 (-4)) ?_
  refine sv 6 (.int .i64 (-(-4))) ?_ (hr := ((show _ = Result.ok (Next.value (.int .i64 (IntKind.wrap .i64 (0 - (-4))))) _ by kernel_rfl).trans (congrArg (fun z => Result.ok (Next.value (.int .i64 z)) _) ((by exact IntWalk.i64_in _ (by omega))))))
  refine sv 7 (.int .i64 4) ?_ (hr := ((show _ = Result.ok (Next.value (.int .i64 (if (((-(-4))) : Int) > ((-4)) then (-(-4)) else (-4)))) _ by kernel_rfl).trans (congrArg (fun z => Result.ok (Next.value (.int .i64 z)) _) ((by decide)))))
  refine sv 8 (.int .u32 4) ?_ (hr := ((show _ = Result.ok (Next.value (.int .u32 (IntKind.wrap .u32 (4)))) _ by kernel_rfl).trans (congrArg (fun z => Result.ok (Next.value (.int .u32 z)) _) ((by exact IntWalk.u32_in _ (by omega))))))
  refine snv 9 (.slice (some ⟨V1.heap.size, 0, none⟩) 1 1) #[.int .u32 4] 58 (fun V2 hbV2 hzV2 b9 => ?_)
  refine sv 10 (.int .i64 (-4)) ?_
  refine sv 11 (.bool true) ?_
  refine sv 12 (.agg #[.bool true, .slice (some ⟨V1.heap.size, 0, none⟩) 1 1, .int .i64 0]) ?_
  refine sn 3 #[.bool false, .slice none 0 0, .int .i64 0] 25 (fun V3 hbV3 hzV3 b3 => ?_)
  refine ss none b3 hT25 0 #[.bool true, .slice (some ⟨V1.heap.size, 0, none⟩) 1 1, .int .i64 0] #[.bool true, .slice (some ⟨V1.heap.size, 0, none⟩) 1 1, .int .i64 0] ?_
  have boV4 := b3
  clear b3
  intro V4 hOV4 b3
  have hzV4 := hOV4.size
  refine sx_nil ?_
  refine sx_then ?_
  refine wp_seq ?_
  refine sx_region ?_
  refine sv 13 (.agg #[.bool true, .slice (some ⟨V1.heap.size, 0, none⟩) 1 1, .int .i64 0]) ?_ (hr := (exec_ld (by kernel_rfl) (run_ld b3 hT25 0 [.bool true, .slice (some ⟨V1.heap.size, 0, none⟩) 1 1, .int .i64 0] (by kernel_rfl) (by kernel_rfl))))
  refine sv 14 (.agg #[.bool true, .slice (some ⟨V1.heap.size, 0, none⟩) 1 1, .int .i64 0]) ?_ (hr := (exec_ld (by kernel_rfl) (run_ld b3 hT25 0 [.bool true, .slice (some ⟨V1.heap.size, 0, none⟩) 1 1, .int .i64 0] (by kernel_rfl) (by kernel_rfl))))
  refine sv 15 (.agg #[.bool true, .slice (some ⟨V1.heap.size, 0, none⟩) 1 1, .int .i64 0, .bool true, .slice (some ⟨V1.heap.size, 0, none⟩) 1 1, .int .i64 0]) ?_
  replace b2 := (b2.past ((bthru hbV2 hbV3).trans (hOV4.below (by omega))))
  refine ss none b2 hT27 0 #[.bool true, .slice (some ⟨V1.heap.size, 0, none⟩) 1 1, .int .i64 0, .bool true, .slice (some ⟨V1.heap.size, 0, none⟩) 1 1, .int .i64 0] #[.bool true, .slice (some ⟨V1.heap.size, 0, none⟩) 1 1, .int .i64 0, .bool true, .slice (some ⟨V1.heap.size, 0, none⟩) 1 1, .int .i64 0] ?_
  have boV5 := b2
  clear b2
  intro V5 hOV5 b2
  have hzV5 := hOV5.size
  refine sx_nil ?_
  refine sx_then ?_
  refine wp_ret ?_
  have ⟨b2_0, b2_1, b2_2, b2_3, b2_4, b2_5⟩ := b2.bx.e6
  repeat (first | with_reducible refine sx_thenret ?_ | with_reducible refine sx_blockret ?_)
  refine bodyPost_ret (v := .agg #[.bool true, .slice (some ⟨V1.heap.size, 0, none⟩) 1 1, .int .i64 0, .bool true, .slice (some ⟨V1.heap.size, 0, none⟩) 1 1, .int .i64 0]) (by simp [results, Tryd.results30, go_sem, b2_0, b2_1, b2_2, b2_3, b2_4, b2_5]) rfl ?_
  replace b9 := ((b9.past (hbV3.trans (hOV4.below (by omega)))).only hOV5 (by omega))
  exact ⟨_, rfl, lit32 (k := 4) b9.bx, (((bthru (bthru hbV1 hbV2) hbV3).trans (hOV4.below (by omega))).trans (hOV5.below (by omega)))⟩

/-- A literal ball, handed in. -/
theorem lit_in {w : World} {p : Option Addr} {k : Nat} {g : Bool} {f : Int} (h : Rd w .u32 p [k]) (h0 : 0 < k) (h1 : k < 65536) (hf : sg g k = f) :
    InD w ⟨g, p, 1, [k], 0⟩ ∧ errDy ⟨g, p, 1, [k], 0⟩ = 0 ∧ dyV ⟨g, p, 1, [k], 0⟩ = norm f 0 := by
  refine ⟨⟨h, by simp, by simp, by simp; unfold B32; omega⟩, ?_, ?_⟩
  · unfold errDy
    simp [errNat_one h0]
  · subst hf
    unfold dyV
    rw [norm_sg]
    rfl

theorem errC_two0 {n : Int} {a b a' b' : Din} (h1 : errBall a b = 0) (h2 : errBall a' b' = 0) (h3 : 1 ≤ n) (h4 : n ≤ 4096) : errC n [(a, b), (a', b')] = 0 := by
  unfold errC
  rw [firstErrB_two]
  simp only [if_pos h1]
  rw [if_pos h2, if_neg (by omega)]
theorem errBall_of {a b : Din} {l h : Dv} (e1 : errDy a = 0) (e2 : errDy b = 0) (v1 : dyV a = l) (v2 : dyV b = h) (bl : Bare l) (bh : Bare h) (hle : leD l h) : errBall a b = 0 := by
  unfold errBall
  rw [if_pos (by unfold errDy2; rw [if_pos e1, e2]), v1, v2, rCmp_eq bl bh, if_neg (by unfold leD at hle; omega)]

set_option maxHeartbeats 1000000 in
theorem mulLit_any (l h f : Int) (w0 n k : Nat) (N : Int) (g : Bool) (p q r : Option Addr) (c d b1 b2 : Nat) (w : World) (hN : N = n) (hn : n + 10 = w0) (hw : 30 ≤ w0) (hw2 : w0 ≤ 1100) (hp : Own w b1 .u32 58 p c (dig B32 (norm l (-w0)).m)) (hq : Own w b2 .u32 58 q d (dig B32 (norm h (-w0)).m)) (hr : Rd w .u32 r [k])
    (h0 : 0 < k) (h1 : k ≤ 16) (hf : sg g k = f) (g1 : l.natAbs ≤ 3 * 2 ^ w0) (g2 : h.natAbs ≤ 3 * 2 ^ w0) (hle : l ≤ h) (hP : 1048576 ≤ 2 ^ w0) (hT : TabW w) :
    Calls Tryd.prog 31 #[.agg #[.bool (norm l (-w0)).neg, .slice p (dig B32 (norm l (-w0)).m).length c, .int .i64 (norm l (-w0)).e, .bool (norm h (-w0)).neg, .slice q (dig B32 (norm h (-w0)).m).length d, .int .i64 (norm h (-w0)).e], .agg #[.bool g, .slice r 1 1, .int .i64 0, .bool g, .slice r 1 1, .int .i64 0], .int .i64 N] w fun en w' => ∃ L H, MSpec w0 l h f L H ∧ GivesBE w w.heap.size (norm L (-w0)) (norm H (-w0)) 0 en w' := by
  subst hN
  have hfa : f.natAbs ≤ 16 := by rw [← hf]; unfold sg; split <;> omega
  obtain ⟨sl, -⟩ := small_mul hw2 (by omega) g1
  obtain ⟨sh, -⟩ := small_mul hw2 (by omega) g2
  have hw15 : w0 ≤ 15000 := by omega
  obtain ⟨i1, e1, v1⟩ := din_of hp (norm_bare _ _) (errD_nn l w0 hw15 sl)
  obtain ⟨i2, e2, v2⟩ := din_of hq (norm_bare _ _) (errD_nn h w0 hw15 sh)
  obtain ⟨i3, e3, v3⟩ := lit_in hr h0 (by omega) hf
  have hm := bMul_any _ _ _ _ (n : Int) w i1 i2 i3 i3 hT
  have hC := errC_two0 (n := (n : Int)) (errBall_of e1 e2 v1 v2 (norm_bare _ _) (norm_bare _ _) (leD_same.2 hle)) (errBall_of e3 e3 v3 v3 (norm_bare _ _) (norm_bare _ _) (leD_refl _)) (by omega) (by omega)
  have m1 : (l * f).natAbs ≤ 48 * 2 ^ w0 := by rw [Int.natAbs_mul]; have := Nat.mul_le_mul g1 hfa; omega
  have m2 : (h * f).natAbs ≤ 48 * 2 ^ w0 := by rw [Int.natAbs_mul]; have := Nat.mul_le_mul g2 hfa; omega
  have hb := (small_mul hw2 (show 48 ≤ 100 by omega) m1).2
  have hb2 := (small_mul hw2 (show 48 ≤ 100 by omega) m2).2
  have e7 : w0 + 7 = n + 17 := by omega
  rw [e7] at hb hb2
  obtain ⟨L, H, t1, t2, t3, t4, t5, t6⟩ := times_nn (l := l) (h := h) f w0 n 17 (by omega) hb hb2
  have ms : MSpec w0 l h f L H := ⟨t3, by simpa using t4, t5, by simpa using t6⟩
  obtain ⟨sL, sH, -⟩ := m_small hw2 g1 g2 hP hfa ms
  have eB : errB (norm L (-w0)) (norm H (-w0)) = 0 := by
    unfold errB
    rw [if_pos (errD_nn L w0 hw15 (small_mul hw2 (show 49 ≤ 100 by omega) sL).1)]
    exact errD_nn H w0 hw15 (small_mul hw2 (show 49 ≤ 100 by omega) sH).1
  unfold twoL twoH twoE timesL timesH at hm
  rw [v1, v2, v3, Int.toNat_natCast, t1, t2] at hm
  rw [if_pos hC, if_pos hC, if_pos hC, eB] at hm
  unfold doneL doneH at hm
  rw [eB, if_pos rfl, if_pos rfl] at hm
  exact hm.mono fun en w' hh => ⟨L, H, ms, hh⟩

set_option maxHeartbeats 1000000 in
theorem addB_any (l h l' h' : Int) (w0 n : Nat) (N : Int) (p q r s : Option Addr) (c d e f b1 b2 b3 b4 : Nat) (w : World) (hN : N = n) (hn : n + 10 = w0) (hw : 30 ≤ w0) (hw2 : w0 ≤ 1100) (hp : Own w b1 .u32 58 p c (dig B32 (norm l (-w0)).m)) (hq : Own w b2 .u32 58 q d (dig B32 (norm h (-w0)).m))
    (hr : Own w b3 .u32 58 r e (dig B32 (norm l' (-w0)).m)) (hs : Own w b4 .u32 58 s f (dig B32 (norm h' (-w0)).m))
    (g1 : l.natAbs ≤ 49 * 2 ^ w0) (g2 : h.natAbs ≤ 49 * 2 ^ w0) (g3 : l'.natAbs ≤ 49 * 2 ^ w0) (g4 : h'.natAbs ≤ 49 * 2 ^ w0) (hle : l ≤ h) (hle' : l' ≤ h') (hP : 1048576 ≤ 2 ^ w0) (hT : TabW w) :
    Calls Tryd.prog 32 #[.agg #[.bool (norm l (-w0)).neg, .slice p (dig B32 (norm l (-w0)).m).length c, .int .i64 (norm l (-w0)).e, .bool (norm h (-w0)).neg, .slice q (dig B32 (norm h (-w0)).m).length d, .int .i64 (norm h (-w0)).e], .agg #[.bool (norm l' (-w0)).neg, .slice r (dig B32 (norm l' (-w0)).m).length e, .int .i64 (norm l' (-w0)).e, .bool (norm h' (-w0)).neg, .slice s (dig B32 (norm h' (-w0)).m).length f, .int .i64 (norm h' (-w0)).e], .int .i64 N] w fun en w' => ∃ L H, ASpec w0 l h l' h' L H ∧ GivesBE w w.heap.size (norm L (-w0)) (norm H (-w0)) 0 en w' := by
  subst hN
  have hw15 : w0 ≤ 15000 := by omega
  obtain ⟨i1, e1, v1⟩ := din_of hp (norm_bare _ _) (errD_nn l w0 hw15 (small_mul hw2 (show 49 ≤ 100 by omega) g1).1)
  obtain ⟨i2, e2, v2⟩ := din_of hq (norm_bare _ _) (errD_nn h w0 hw15 (small_mul hw2 (show 49 ≤ 100 by omega) g2).1)
  obtain ⟨i3, e3, v3⟩ := din_of hr (norm_bare _ _) (errD_nn l' w0 hw15 (small_mul hw2 (show 49 ≤ 100 by omega) g3).1)
  obtain ⟨i4, e4, v4⟩ := din_of hs (norm_bare _ _) (errD_nn h' w0 hw15 (small_mul hw2 (show 49 ≤ 100 by omega) g4).1)
  have hm := bAdd_any _ _ _ _ (n : Int) w i1 i2 i3 i4 hT
  have hC := errC_two0 (n := (n : Int)) (errBall_of e1 e2 v1 v2 (norm_bare _ _) (norm_bare _ _) (leD_same.2 hle)) (errBall_of e3 e4 v3 v4 (norm_bare _ _) (norm_bare _ _) (leD_same.2 hle')) (by omega) (by omega)
  have m1 : (l + l').natAbs ≤ 98 * 2 ^ w0 := by omega
  have m2 : (h + h').natAbs ≤ 98 * 2 ^ w0 := by omega
  have hb := (small_mul hw2 (show 98 ≤ 100 by omega) m1).2
  have hb2 := (small_mul hw2 (show 98 ≤ 100 by omega) m2).2
  have e7 : w0 + 7 = n + 17 := by omega
  rw [e7] at hb hb2
  obtain ⟨L, H, t1, t2, t3, t4, t5, t6⟩ := plus_nn hle hle' w0 n 17 (by omega) hb hb2
  have ms : ASpec w0 l h l' h' L H := ⟨t3, Int.le_trans (by simpa using t4) (by omega), t5, Int.le_trans (by simpa using t6) (by omega)⟩
  obtain ⟨sL, sH⟩ := a_small g1 g2 g3 g4 hP ms
  have eB : errB (norm L (-w0)) (norm H (-w0)) = 0 := by
    unfold errB
    rw [if_pos (errD_nn L w0 hw15 (small_mul hw2 (show 99 ≤ 100 by omega) sL).1)]
    exact errD_nn H w0 hw15 (small_mul hw2 (show 99 ≤ 100 by omega) sH).1
  unfold twoL twoH twoE plusL plusH at hm
  rw [v1, v2, v3, v4, Int.toNat_natCast, t1, t2] at hm
  rw [if_pos hC, if_pos hC, if_pos hC, eB] at hm
  unfold doneL doneH at hm
  rw [eB, if_pos rfl, if_pos rfl] at hm
  exact hm.mono fun en w' hh => ⟨L, H, ms, hh⟩

set_option maxHeartbeats 8000000 in
set_option maxRecDepth 100000 in
theorem lawSeMach_row (a : Int) (w : World) (ha : -9223372036854775808 ≤ a ∧ a ≤ 9223372036854775807) (hT : TabW w) :
    Calls Tryd.prog 8 #[.int .i64 a] w fun en w' => en = .returned (.bool true) ∧ Below w.heap.size w w' := by
  have HC := fun W => Lib.hid (show Calls Tryd.prog 29 #[.int .i64 a, .int .i64 400] W (fun e w' => e = .returned (.int .i64 (chs a 400 : Nat)) ∧ Below W.heap.size W w') from (choose_any a 400 W ha (by omega) (by omega)).mono fun e w' ⟨h1, h2⟩ => ⟨h1, by subst h2; exact Below.refl _ _⟩)
  have hc := chs_lt a 400 (by omega)
  generalize chs a 400 = c0 at *
  obtain ⟨b, hb0⟩ : ∃ b, 20 + c0 = b := ⟨_, rfl⟩
  have hT27 : SxAgg Tryd.prog 27 6 := sxAgg_of (by kernel_rfl) (by kernel_rfl)
  refine calls_of_wp Tryd.func8 rfl ?_
  refine sx_frame (a' := ⟨((.int .i64 a) :: undef :: undef :: undef :: undef :: undef :: undef :: undef :: undef :: undef :: undef :: undef :: undef :: undef :: undef :: undef :: undef :: undef :: undef :: undef :: undef :: undef :: undef :: undef :: undef :: undef :: undef :: undef :: undef :: undef :: undef :: undef :: undef :: undef :: undef :: undef :: undef :: undef :: undef :: undef :: undef :: undef :: undef :: undef :: undef :: undef :: undef :: undef :: undef :: undef :: undef :: undef :: undef :: undef :: undef :: undef :: undef :: undef :: undef :: undef :: undef :: undef :: undef :: undef :: undef :: undef :: undef :: undef :: undef :: undef :: undef :: undef :: undef :: undef :: undef :: undef :: undef :: undef :: undef :: undef :: undef :: undef :: undef :: undef :: []).toArray, []⟩) (by kernel_rfl) ?_
  refine wp_seq ?_
  refine sx_region ?_
  refine sv 2 (.bool false) ?_
  refine sx_nil ?_
  refine sx_then ?_
  refine wp_seq ?_
  refine wp_seq ?_
  refine sx_region ?_
  refine se 13 10 #[] (fun Gx hGx => ?_)
  ((with_reducible refine (seriesBegun_any _ hT).mono ?_))
  rintro eV1 V1 ⟨rfl, hbV1⟩
  have hzV1 := hbV1.size
  refine ⟨.bool true, rfl, hGx _ _ ?_⟩
  clear hGx Gx
  refine sv 14 (.bool false) ?_
  refine sx_nil ?_
  refine sx_then ?_
  refine wp_cond_false (by kernel_rfl) ?_
  refine wp_skip ?_
  refine sx_then ?_
  refine wp_seq ?_
  refine sx_region ?_
  refine sv 15 (.int .i64 a) ?_
  refine se 16 29 #[.int .i64 a, .int .i64 400] (fun Gx hGx => ?_)
  ((with_reducible refine ((HC _).out).mono ?_))
  rintro eV2 V2 ⟨rfl, hbV2⟩
  have hzV2 := hbV2.size
  refine ⟨.int .i64 ((c0 : Nat) : Int), rfl, hGx _ _ ?_⟩
  clear hGx Gx
  refine sv 17 (.int .i64 ((b : Nat) : Int)) ?_ (hr := ((show _ = Result.ok (Next.value (.int .i64 (IntKind.wrap .i64 ((20 : Int) + ((c0 : Nat) : Int))))) _ by kernel_rfl).trans (congrArg (fun z => Result.ok (Next.value (.int .i64 z)) _) ((by rw [show (20 : Int) + ((c0 : Nat) : Int) = ((b : Nat) : Int) by omega]; exact IntWalk.i64_in _ (by omega))))))
  refine sv 0 (.int .i64 ((b : Nat) : Int)) ?_
  refine sx_nil ?_
  refine sx_then ?_
  refine wp_seq ?_
  refine sx_region ?_
  refine sv 19 (.int .i64 ((b : Nat) : Int)) ?_
  replace hT := (hT.past (bthru hbV1 hbV2))
  refine se 20 9 #[.int .i64 ((b : Nat) : Int)] (fun Gx hGx => ?_)
  ((with_reducible refine (piZ_ok _ b rfl _ (by omega) (by omega) hT).mono ?_))
  rintro eV3 V3 ⟨L20, H20, hB0, p20, c20, q20, d20, rfl, ho20, hq20, hbV3⟩
  have hzV3 := hbV3.size
  refine ⟨.tuple #[.agg #[.bool ((norm (L20) (-((b + 20 : Nat) : Int))).neg), .slice p20 (dig B32 (norm (L20) (-((b + 20 : Nat) : Int))).m).length c20, .int .i64 ((norm (L20) (-((b + 20 : Nat) : Int))).e), .bool ((norm (H20) (-((b + 20 : Nat) : Int))).neg), .slice q20 (dig B32 (norm (H20) (-((b + 20 : Nat) : Int))).m).length d20, .int .i64 ((norm (H20) (-((b + 20 : Nat) : Int))).e)], .int .i64 0], rfl, hGx _ _ ?_⟩
  clear hGx Gx
  refine sv 18 (.tuple #[.agg #[.bool ((norm (L20) (-((b + 20 : Nat) : Int))).neg), .slice p20 (dig B32 (norm (L20) (-((b + 20 : Nat) : Int))).m).length c20, .int .i64 ((norm (L20) (-((b + 20 : Nat) : Int))).e), .bool ((norm (H20) (-((b + 20 : Nat) : Int))).neg), .slice q20 (dig B32 (norm (H20) (-((b + 20 : Nat) : Int))).m).length d20, .int .i64 ((norm (H20) (-((b + 20 : Nat) : Int))).e)], .int .i64 0]) ?_
  refine sv 21 (.agg #[.bool ((norm (L20) (-((b + 20 : Nat) : Int))).neg), .slice p20 (dig B32 (norm (L20) (-((b + 20 : Nat) : Int))).m).length c20, .int .i64 ((norm (L20) (-((b + 20 : Nat) : Int))).e), .bool ((norm (H20) (-((b + 20 : Nat) : Int))).neg), .slice q20 (dig B32 (norm (H20) (-((b + 20 : Nat) : Int))).m).length d20, .int .i64 ((norm (H20) (-((b + 20 : Nat) : Int))).e)]) ?_
  refine sv 22 (.int .i64 0) ?_
  refine sn 3 #[.bool false, .slice none 0 0, .int .i64 0, .bool false, .slice none 0 0, .int .i64 0] 27 (fun V4 hbV4 hzV4 b3 => ?_)
  refine ss none b3 hT27 0 #[.bool ((norm (L20) (-((b + 20 : Nat) : Int))).neg), .slice p20 (dig B32 (norm (L20) (-((b + 20 : Nat) : Int))).m).length c20, .int .i64 ((norm (L20) (-((b + 20 : Nat) : Int))).e), .bool ((norm (H20) (-((b + 20 : Nat) : Int))).neg), .slice q20 (dig B32 (norm (H20) (-((b + 20 : Nat) : Int))).m).length d20, .int .i64 ((norm (H20) (-((b + 20 : Nat) : Int))).e)] #[.bool ((norm (L20) (-((b + 20 : Nat) : Int))).neg), .slice p20 (dig B32 (norm (L20) (-((b + 20 : Nat) : Int))).m).length c20, .int .i64 ((norm (L20) (-((b + 20 : Nat) : Int))).e), .bool ((norm (H20) (-((b + 20 : Nat) : Int))).neg), .slice q20 (dig B32 (norm (H20) (-((b + 20 : Nat) : Int))).m).length d20, .int .i64 ((norm (H20) (-((b + 20 : Nat) : Int))).e)] ?_
  have boV5 := b3
  clear b3
  intro V5 hOV5 b3
  have hzV5 := hOV5.size
  refine sv 4 (.int .i64 0) ?_
  refine sx_nil ?_
  refine sx_then ?_
  refine wp_seq ?_
  refine sx_region ?_
  refine sv 24 (.int .i64 ((b : Nat) : Int)) ?_
  replace hT := (hT.past ((bthru hbV3 hbV4).trans (hOV5.below (by omega))))
  refine se 25 17 #[.int .i64 5, .int .i64 ((b : Nat) : Int)] (fun Gx hGx => ?_)
  ((with_reducible refine (atan_ok 5 _ 5 b _ rfl rfl (by omega) (by omega) (by omega) (by omega) hT).mono ?_))
  rintro eV6 V6 ⟨L25, H25, hB1, p25, c25, q25, d25, rfl, ho25, hq25, hbV6⟩
  have hzV6 := hbV6.size
  refine ⟨.tuple #[.agg #[.bool ((norm (L25) (-((b + 20 : Nat) : Int))).neg), .slice p25 (dig B32 (norm (L25) (-((b + 20 : Nat) : Int))).m).length c25, .int .i64 ((norm (L25) (-((b + 20 : Nat) : Int))).e), .bool ((norm (H25) (-((b + 20 : Nat) : Int))).neg), .slice q25 (dig B32 (norm (H25) (-((b + 20 : Nat) : Int))).m).length d25, .int .i64 ((norm (H25) (-((b + 20 : Nat) : Int))).e)], .int .i64 0], rfl, hGx _ _ ?_⟩
  clear hGx Gx
  refine sv 23 (.tuple #[.agg #[.bool ((norm (L25) (-((b + 20 : Nat) : Int))).neg), .slice p25 (dig B32 (norm (L25) (-((b + 20 : Nat) : Int))).m).length c25, .int .i64 ((norm (L25) (-((b + 20 : Nat) : Int))).e), .bool ((norm (H25) (-((b + 20 : Nat) : Int))).neg), .slice q25 (dig B32 (norm (H25) (-((b + 20 : Nat) : Int))).m).length d25, .int .i64 ((norm (H25) (-((b + 20 : Nat) : Int))).e)], .int .i64 0]) ?_
  refine sv 26 (.agg #[.bool ((norm (L25) (-((b + 20 : Nat) : Int))).neg), .slice p25 (dig B32 (norm (L25) (-((b + 20 : Nat) : Int))).m).length c25, .int .i64 ((norm (L25) (-((b + 20 : Nat) : Int))).e), .bool ((norm (H25) (-((b + 20 : Nat) : Int))).neg), .slice q25 (dig B32 (norm (H25) (-((b + 20 : Nat) : Int))).m).length d25, .int .i64 ((norm (H25) (-((b + 20 : Nat) : Int))).e)]) ?_
  refine sv 27 (.int .i64 0) ?_
  refine sn 5 #[.bool false, .slice none 0 0, .int .i64 0, .bool false, .slice none 0 0, .int .i64 0] 27 (fun V7 hbV7 hzV7 b5 => ?_)
  refine ss none b5 hT27 0 #[.bool ((norm (L25) (-((b + 20 : Nat) : Int))).neg), .slice p25 (dig B32 (norm (L25) (-((b + 20 : Nat) : Int))).m).length c25, .int .i64 ((norm (L25) (-((b + 20 : Nat) : Int))).e), .bool ((norm (H25) (-((b + 20 : Nat) : Int))).neg), .slice q25 (dig B32 (norm (H25) (-((b + 20 : Nat) : Int))).m).length d25, .int .i64 ((norm (H25) (-((b + 20 : Nat) : Int))).e)] #[.bool ((norm (L25) (-((b + 20 : Nat) : Int))).neg), .slice p25 (dig B32 (norm (L25) (-((b + 20 : Nat) : Int))).m).length c25, .int .i64 ((norm (L25) (-((b + 20 : Nat) : Int))).e), .bool ((norm (H25) (-((b + 20 : Nat) : Int))).neg), .slice q25 (dig B32 (norm (H25) (-((b + 20 : Nat) : Int))).m).length d25, .int .i64 ((norm (H25) (-((b + 20 : Nat) : Int))).e)] ?_
  have boV8 := b5
  clear b5
  intro V8 hOV8 b5
  have hzV8 := hOV8.size
  refine sv 6 (.int .i64 0) ?_
  refine sx_nil ?_
  refine sx_then ?_
  refine wp_seq ?_
  refine sx_region ?_
  refine sv 29 (.int .i64 ((b : Nat) : Int)) ?_
  replace hT := (hT.past ((bthru hbV6 hbV7).trans (hOV8.below (by omega))))
  refine se 30 17 #[.int .i64 239, .int .i64 ((b : Nat) : Int)] (fun Gx hGx => ?_)
  ((with_reducible refine (atan_ok 239 _ 239 b _ rfl rfl (by omega) (by omega) (by omega) (by omega) hT).mono ?_))
  rintro eV9 V9 ⟨L30, H30, hB2, p30, c30, q30, d30, rfl, ho30, hq30, hbV9⟩
  have hzV9 := hbV9.size
  refine ⟨.tuple #[.agg #[.bool ((norm (L30) (-((b + 20 : Nat) : Int))).neg), .slice p30 (dig B32 (norm (L30) (-((b + 20 : Nat) : Int))).m).length c30, .int .i64 ((norm (L30) (-((b + 20 : Nat) : Int))).e), .bool ((norm (H30) (-((b + 20 : Nat) : Int))).neg), .slice q30 (dig B32 (norm (H30) (-((b + 20 : Nat) : Int))).m).length d30, .int .i64 ((norm (H30) (-((b + 20 : Nat) : Int))).e)], .int .i64 0], rfl, hGx _ _ ?_⟩
  clear hGx Gx
  refine sv 28 (.tuple #[.agg #[.bool ((norm (L30) (-((b + 20 : Nat) : Int))).neg), .slice p30 (dig B32 (norm (L30) (-((b + 20 : Nat) : Int))).m).length c30, .int .i64 ((norm (L30) (-((b + 20 : Nat) : Int))).e), .bool ((norm (H30) (-((b + 20 : Nat) : Int))).neg), .slice q30 (dig B32 (norm (H30) (-((b + 20 : Nat) : Int))).m).length d30, .int .i64 ((norm (H30) (-((b + 20 : Nat) : Int))).e)], .int .i64 0]) ?_
  refine sv 31 (.agg #[.bool ((norm (L30) (-((b + 20 : Nat) : Int))).neg), .slice p30 (dig B32 (norm (L30) (-((b + 20 : Nat) : Int))).m).length c30, .int .i64 ((norm (L30) (-((b + 20 : Nat) : Int))).e), .bool ((norm (H30) (-((b + 20 : Nat) : Int))).neg), .slice q30 (dig B32 (norm (H30) (-((b + 20 : Nat) : Int))).m).length d30, .int .i64 ((norm (H30) (-((b + 20 : Nat) : Int))).e)]) ?_
  refine sv 32 (.int .i64 0) ?_
  refine sn 7 #[.bool false, .slice none 0 0, .int .i64 0, .bool false, .slice none 0 0, .int .i64 0] 27 (fun V10 hbV10 hzV10 b7 => ?_)
  refine ss none b7 hT27 0 #[.bool ((norm (L30) (-((b + 20 : Nat) : Int))).neg), .slice p30 (dig B32 (norm (L30) (-((b + 20 : Nat) : Int))).m).length c30, .int .i64 ((norm (L30) (-((b + 20 : Nat) : Int))).e), .bool ((norm (H30) (-((b + 20 : Nat) : Int))).neg), .slice q30 (dig B32 (norm (H30) (-((b + 20 : Nat) : Int))).m).length d30, .int .i64 ((norm (H30) (-((b + 20 : Nat) : Int))).e)] #[.bool ((norm (L30) (-((b + 20 : Nat) : Int))).neg), .slice p30 (dig B32 (norm (L30) (-((b + 20 : Nat) : Int))).m).length c30, .int .i64 ((norm (L30) (-((b + 20 : Nat) : Int))).e), .bool ((norm (H30) (-((b + 20 : Nat) : Int))).neg), .slice q30 (dig B32 (norm (H30) (-((b + 20 : Nat) : Int))).m).length d30, .int .i64 ((norm (H30) (-((b + 20 : Nat) : Int))).e)] ?_
  have boV11 := b7
  clear b7
  intro V11 hOV11 b7
  have hzV11 := hOV11.size
  refine sv 8 (.int .i64 0) ?_
  refine sx_nil ?_
  refine sx_then ?_
  refine wp_seq ?_
  refine wp_seq ?_
  refine sx_region ?_
  obtain ⟨u1, u2, u3, u4⟩ := an_bd (by omega) (by omega) hB1
  obtain ⟨v1, v2, v3, v4⟩ := an_bd (by omega) (by omega) hB2
  refine sv 33 (.int .i64 0) ?_
  refine sv 34 (.bool false) ?_
  refine sv 35 (.bool false) ?_
  refine sv 36 (.int .i64 0) ?_
  refine sv 37 (.bool false) ?_
  refine sv 38 (.bool false) ?_
  refine sv 39 (.bool false) ?_
  refine sv 40 (.int .i64 0) ?_
  refine sv 41 (.bool false) ?_
  refine sv 42 (.bool false) ?_
  refine sx_nil ?_
  refine sx_then ?_
  refine wp_cond_false (by kernel_rfl) ?_
  refine wp_skip ?_
  refine sx_then ?_
  refine wp_seq ?_
  refine sx_region ?_
  refine sv 9 (.func (.func 30) #[] #[]) ?_
  refine sx_nil ?_
  refine sx_then ?_
  refine wp_seq ?_
  refine sx_cutg (R := fun a' w' => ∃ (kb10 : Nat) (p46 : Option Addr) (L49 : Int) (H49 : Int) (p49 : Option Addr) (c49 : Nat) (q49 : Option Addr) (d49 : Nat), a' = ⟨((.int .i64 ((b : Nat) : Int)) :: undef :: (.bool false) :: (.pointer (some ⟨V3.heap.size, 0, none⟩)) :: (.int .i64 0) :: (.pointer (some ⟨V6.heap.size, 0, none⟩)) :: (.int .i64 0) :: (.pointer (some ⟨V9.heap.size, 0, none⟩)) :: (.int .i64 0) :: (.func (.func 30) #[] #[]) :: (.pointer (some ⟨kb10, 0, none⟩)) :: undef :: undef :: (.bool true) :: (.bool false) :: (.int .i64 a) :: (.int .i64 ((c0 : Nat) : Int)) :: (.int .i64 ((b : Nat) : Int)) :: (.tuple #[.agg #[.bool ((norm (L20) (-((b + 20 : Nat) : Int))).neg), .slice p20 (dig B32 (norm (L20) (-((b + 20 : Nat) : Int))).m).length c20, .int .i64 ((norm (L20) (-((b + 20 : Nat) : Int))).e), .bool ((norm (H20) (-((b + 20 : Nat) : Int))).neg), .slice q20 (dig B32 (norm (H20) (-((b + 20 : Nat) : Int))).m).length d20, .int .i64 ((norm (H20) (-((b + 20 : Nat) : Int))).e)], .int .i64 0]) :: (.int .i64 ((b : Nat) : Int)) :: (.tuple #[.agg #[.bool ((norm (L20) (-((b + 20 : Nat) : Int))).neg), .slice p20 (dig B32 (norm (L20) (-((b + 20 : Nat) : Int))).m).length c20, .int .i64 ((norm (L20) (-((b + 20 : Nat) : Int))).e), .bool ((norm (H20) (-((b + 20 : Nat) : Int))).neg), .slice q20 (dig B32 (norm (H20) (-((b + 20 : Nat) : Int))).m).length d20, .int .i64 ((norm (H20) (-((b + 20 : Nat) : Int))).e)], .int .i64 0]) :: (.agg #[.bool ((norm (L20) (-((b + 20 : Nat) : Int))).neg), .slice p20 (dig B32 (norm (L20) (-((b + 20 : Nat) : Int))).m).length c20, .int .i64 ((norm (L20) (-((b + 20 : Nat) : Int))).e), .bool ((norm (H20) (-((b + 20 : Nat) : Int))).neg), .slice q20 (dig B32 (norm (H20) (-((b + 20 : Nat) : Int))).m).length d20, .int .i64 ((norm (H20) (-((b + 20 : Nat) : Int))).e)]) :: (.int .i64 0) :: (.tuple #[.agg #[.bool ((norm (L25) (-((b + 20 : Nat) : Int))).neg), .slice p25 (dig B32 (norm (L25) (-((b + 20 : Nat) : Int))).m).length c25, .int .i64 ((norm (L25) (-((b + 20 : Nat) : Int))).e), .bool ((norm (H25) (-((b + 20 : Nat) : Int))).neg), .slice q25 (dig B32 (norm (H25) (-((b + 20 : Nat) : Int))).m).length d25, .int .i64 ((norm (H25) (-((b + 20 : Nat) : Int))).e)], .int .i64 0]) :: (.int .i64 ((b : Nat) : Int)) :: (.tuple #[.agg #[.bool ((norm (L25) (-((b + 20 : Nat) : Int))).neg), .slice p25 (dig B32 (norm (L25) (-((b + 20 : Nat) : Int))).m).length c25, .int .i64 ((norm (L25) (-((b + 20 : Nat) : Int))).e), .bool ((norm (H25) (-((b + 20 : Nat) : Int))).neg), .slice q25 (dig B32 (norm (H25) (-((b + 20 : Nat) : Int))).m).length d25, .int .i64 ((norm (H25) (-((b + 20 : Nat) : Int))).e)], .int .i64 0]) :: (.agg #[.bool ((norm (L25) (-((b + 20 : Nat) : Int))).neg), .slice p25 (dig B32 (norm (L25) (-((b + 20 : Nat) : Int))).m).length c25, .int .i64 ((norm (L25) (-((b + 20 : Nat) : Int))).e), .bool ((norm (H25) (-((b + 20 : Nat) : Int))).neg), .slice q25 (dig B32 (norm (H25) (-((b + 20 : Nat) : Int))).m).length d25, .int .i64 ((norm (H25) (-((b + 20 : Nat) : Int))).e)]) :: (.int .i64 0) :: (.tuple #[.agg #[.bool ((norm (L30) (-((b + 20 : Nat) : Int))).neg), .slice p30 (dig B32 (norm (L30) (-((b + 20 : Nat) : Int))).m).length c30, .int .i64 ((norm (L30) (-((b + 20 : Nat) : Int))).e), .bool ((norm (H30) (-((b + 20 : Nat) : Int))).neg), .slice q30 (dig B32 (norm (H30) (-((b + 20 : Nat) : Int))).m).length d30, .int .i64 ((norm (H30) (-((b + 20 : Nat) : Int))).e)], .int .i64 0]) :: (.int .i64 ((b : Nat) : Int)) :: (.tuple #[.agg #[.bool ((norm (L30) (-((b + 20 : Nat) : Int))).neg), .slice p30 (dig B32 (norm (L30) (-((b + 20 : Nat) : Int))).m).length c30, .int .i64 ((norm (L30) (-((b + 20 : Nat) : Int))).e), .bool ((norm (H30) (-((b + 20 : Nat) : Int))).neg), .slice q30 (dig B32 (norm (H30) (-((b + 20 : Nat) : Int))).m).length d30, .int .i64 ((norm (H30) (-((b + 20 : Nat) : Int))).e)], .int .i64 0]) :: (.agg #[.bool ((norm (L30) (-((b + 20 : Nat) : Int))).neg), .slice p30 (dig B32 (norm (L30) (-((b + 20 : Nat) : Int))).m).length c30, .int .i64 ((norm (L30) (-((b + 20 : Nat) : Int))).e), .bool ((norm (H30) (-((b + 20 : Nat) : Int))).neg), .slice q30 (dig B32 (norm (H30) (-((b + 20 : Nat) : Int))).m).length d30, .int .i64 ((norm (H30) (-((b + 20 : Nat) : Int))).e)]) :: (.int .i64 0) :: (.int .i64 0) :: (.bool false) :: (.bool false) :: (.int .i64 0) :: (.bool false) :: (.bool false) :: (.bool false) :: (.int .i64 0) :: (.bool false) :: (.bool false) :: (.tuple #[.agg #[.bool ((norm (L49) (-((b + 20 : Nat) : Int))).neg), .slice p49 (dig B32 (norm (L49) (-((b + 20 : Nat) : Int))).m).length c49, .int .i64 ((norm (L49) (-((b + 20 : Nat) : Int))).e), .bool ((norm (H49) (-((b + 20 : Nat) : Int))).neg), .slice q49 (dig B32 (norm (H49) (-((b + 20 : Nat) : Int))).m).length d49, .int .i64 ((norm (H49) (-((b + 20 : Nat) : Int))).e)], .int .i64 0]) :: (.agg #[.bool ((norm (L25) (-((b + 20 : Nat) : Int))).neg), .slice p25 (dig B32 (norm (L25) (-((b + 20 : Nat) : Int))).m).length c25, .int .i64 ((norm (L25) (-((b + 20 : Nat) : Int))).e), .bool ((norm (H25) (-((b + 20 : Nat) : Int))).neg), .slice q25 (dig B32 (norm (H25) (-((b + 20 : Nat) : Int))).m).length d25, .int .i64 ((norm (H25) (-((b + 20 : Nat) : Int))).e)]) :: (.func (.func 30) #[] #[]) :: (.agg #[.bool false, .slice p46 1 1, .int .i64 0, .bool false, .slice p46 1 1, .int .i64 0]) :: (.int .i64 ((b : Nat) : Int)) :: (.int .i64 ((b + 10 : Nat) : Int)) :: (.tuple #[.agg #[.bool ((norm (L49) (-((b + 20 : Nat) : Int))).neg), .slice p49 (dig B32 (norm (L49) (-((b + 20 : Nat) : Int))).m).length c49, .int .i64 ((norm (L49) (-((b + 20 : Nat) : Int))).e), .bool ((norm (H49) (-((b + 20 : Nat) : Int))).neg), .slice q49 (dig B32 (norm (H49) (-((b + 20 : Nat) : Int))).m).length d49, .int .i64 ((norm (H49) (-((b + 20 : Nat) : Int))).e)], .int .i64 0]) :: (.agg #[.bool ((norm (L49) (-((b + 20 : Nat) : Int))).neg), .slice p49 (dig B32 (norm (L49) (-((b + 20 : Nat) : Int))).m).length c49, .int .i64 ((norm (L49) (-((b + 20 : Nat) : Int))).e), .bool ((norm (H49) (-((b + 20 : Nat) : Int))).neg), .slice q49 (dig B32 (norm (H49) (-((b + 20 : Nat) : Int))).m).length d49, .int .i64 ((norm (H49) (-((b + 20 : Nat) : Int))).e)]) :: (.int .i64 0) :: undef :: undef :: undef :: undef :: undef :: undef :: undef :: undef :: undef :: undef :: undef :: undef :: undef :: undef :: undef :: undef :: undef :: undef :: undef :: undef :: undef :: undef :: undef :: undef :: undef :: undef :: undef :: undef :: undef :: undef :: undef :: undef :: []).toArray, []⟩ ∧ Bt w' kb10 27 #[.bool ((norm (L49) (-((b + 20 : Nat) : Int))).neg), .slice p49 (dig B32 (norm (L49) (-((b + 20 : Nat) : Int))).m).length c49, .int .i64 ((norm (L49) (-((b + 20 : Nat) : Int))).e), .bool ((norm (H49) (-((b + 20 : Nat) : Int))).neg), .slice q49 (dig B32 (norm (H49) (-((b + 20 : Nat) : Int))).m).length d49, .int .i64 ((norm (H49) (-((b + 20 : Nat) : Int))).e)] ∧ MSpec (b + 20) L25 H25 16 L49 H49 ∧ Own w' V11.heap.size .u32 58 p49 c49 (dig B32 (norm (L49) (-((b + 20 : Nat) : Int))).m) ∧ Own w' V11.heap.size .u32 58 q49 d49 (dig B32 (norm (H49) (-((b + 20 : Nat) : Int))).m) ∧ Below V11.heap.size V11 w' ∧ V11.heap.size ≤ kb10) ?_ (fun Gx hGx => ?_)
  · skip
    replace b5 := (b5.past ((bthru hbV9 hbV10).trans (hOV11.below (by omega))))
    obtain ⟨V12, hVV12⟩ : ∃ V, V = (V11).drew := ⟨_, rfl⟩
    have hbV12 : Below (V11).heap.size (V11) V12 := by rw [hVV12]; exact (Below.refl _ _).drew
    have hzV12 : V12.heap.size = (V11).heap.size := by rw [hVV12]; rfl
    replace b5 := (b5.past hbV12)
    refine sxd _ (fun w' => Bt w' V6.heap.size 27 #[.bool ((norm (L25) (-((b + 20 : Nat) : Int))).neg), .slice p25 (dig B32 (norm (L25) (-((b + 20 : Nat) : Int))).m).length c25, .int .i64 ((norm (L25) (-((b + 20 : Nat) : Int))).e), .bool ((norm (H25) (-((b + 20 : Nat) : Int))).neg), .slice q25 (dig B32 (norm (H25) (-((b + 20 : Nat) : Int))).m).length d25, .int .i64 ((norm (H25) (-((b + 20 : Nat) : Int))).e)]) hVV12 b5 ?_
    clear hVV12
    refine tk 0 44 (.agg #[.bool ((norm (L25) (-((b + 20 : Nat) : Int))).neg), .slice p25 (dig B32 (norm (L25) (-((b + 20 : Nat) : Int))).m).length c25, .int .i64 ((norm (L25) (-((b + 20 : Nat) : Int))).e), .bool ((norm (H25) (-((b + 20 : Nat) : Int))).neg), .slice q25 (dig B32 (norm (H25) (-((b + 20 : Nat) : Int))).m).length d25, .int .i64 ((norm (H25) (-((b + 20 : Nat) : Int))).e)]) b5 ?_ (hy := fun w' hS => (exec_ld (by kernel_rfl) (run_ld hS hT27 0 [.bool ((norm (L25) (-((b + 20 : Nat) : Int))).neg), .slice p25 (dig B32 (norm (L25) (-((b + 20 : Nat) : Int))).m).length c25, .int .i64 ((norm (L25) (-((b + 20 : Nat) : Int))).e), .bool ((norm (H25) (-((b + 20 : Nat) : Int))).neg), .slice q25 (dig B32 (norm (H25) (-((b + 20 : Nat) : Int))).m).length d25, .int .i64 ((norm (H25) (-((b + 20 : Nat) : Int))).e)] (by kernel_rfl) (by kernel_rfl))))
    refine tk 1 45 (.func (.func 30) #[] #[]) b5 ?_
    refine tk 3 47 (.int .i64 ((b : Nat) : Int)) b5 ?_
    refine tk 4 48 (.int .i64 ((b + 10 : Nat) : Int)) b5 ?_ (hy := fun w' _ => ((show _ = Result.ok (Next.value (.int .i64 (IntKind.wrap .i64 (((b : Nat) : Int) + 10)))) _ by kernel_rfl).trans (congrArg (fun z => Result.ok (Next.value (.int .i64 z)) _) ((by rw [show ((b : Nat) : Int) + 10 = ((b + 10 : Nat) : Int) by omega]; exact IntWalk.i64_in _ (by omega))))))
    refine sxr [2, 9] ?_
    refine rd2 (fun Kx hKx => ?_) ?_
    · skip
      refine sek 46 30 #[.int .i64 16] ?_
      ((with_reducible refine (mach16 _).mono ?_))
      rintro eV13 V13 ⟨p46, rfl, x46, hbV13⟩
      have hzV13 := hbV13.size
      refine ⟨.agg #[.bool false, .slice p46 1 1, .int .i64 0, .bool false, .slice p46 1 1, .int .i64 0], rfl, ?_⟩
      replace b5 := (b5.past hbV13)
      refine hKx.out _ _ b5 ?_
      clear hKx Kx
      refine sxr [5, 9] ?_
      refine rd2 (fun Kx hKx => ?_) ?_
      · skip
        replace ho25 := (ho25.past (bthru (bthru ((bthru (bthru (hbV7.trans (hOV8.below (by omega))) hbV9) hbV10).trans (hOV11.below (by omega))) hbV12) hbV13))
        replace hq25 := (hq25.past (bthru (bthru ((bthru (bthru (hbV7.trans (hOV8.below (by omega))) hbV9) hbV10).trans (hOV11.below (by omega))) hbV12) hbV13))
        replace hT := (hT.past (bthru (bthru ((bthru hbV9 hbV10).trans (hOV11.below (by omega))) hbV12) hbV13))
        refine sek 49 31 #[.agg #[.bool ((norm (L25) (-((b + 20 : Nat) : Int))).neg), .slice p25 (dig B32 (norm (L25) (-((b + 20 : Nat) : Int))).m).length c25, .int .i64 ((norm (L25) (-((b + 20 : Nat) : Int))).e), .bool ((norm (H25) (-((b + 20 : Nat) : Int))).neg), .slice q25 (dig B32 (norm (H25) (-((b + 20 : Nat) : Int))).m).length d25, .int .i64 ((norm (H25) (-((b + 20 : Nat) : Int))).e)], .agg #[.bool false, .slice p46 1 1, .int .i64 0, .bool false, .slice p46 1 1, .int .i64 0], .int .i64 ((b + 10 : Nat) : Int)] ?_
        ((with_reducible refine (mulLit_any L25 H25 16 (b + 20) (b + 10) 16 _ false p25 q25 p46 c25 d25 _ _ _ rfl (by omega) (by omega) (by omega) ho25 hq25 x46 (by omega) (by omega) rfl u1 u2 u3 u4 hT).mono ?_))
        rintro eV14 V14 ⟨L49, H49, hm1, p49, c49, q49, d49, rfl, ho49, hq49, hbV14⟩
        have hzV14 := hbV14.size
        refine ⟨.tuple #[.agg #[.bool ((norm (L49) (-((b + 20 : Nat) : Int))).neg), .slice p49 (dig B32 (norm (L49) (-((b + 20 : Nat) : Int))).m).length c49, .int .i64 ((norm (L49) (-((b + 20 : Nat) : Int))).e), .bool ((norm (H49) (-((b + 20 : Nat) : Int))).neg), .slice q49 (dig B32 (norm (H49) (-((b + 20 : Nat) : Int))).m).length d49, .int .i64 ((norm (H49) (-((b + 20 : Nat) : Int))).e)], .int .i64 0], rfl, ?_⟩
        replace b5 := (b5.past hbV14)
        refine hKx.out _ _ b5 ?_
        clear hKx Kx
        refine tk 6 43 (.tuple #[.agg #[.bool ((norm (L49) (-((b + 20 : Nat) : Int))).neg), .slice p49 (dig B32 (norm (L49) (-((b + 20 : Nat) : Int))).m).length c49, .int .i64 ((norm (L49) (-((b + 20 : Nat) : Int))).e), .bool ((norm (H49) (-((b + 20 : Nat) : Int))).neg), .slice q49 (dig B32 (norm (H49) (-((b + 20 : Nat) : Int))).m).length d49, .int .i64 ((norm (H49) (-((b + 20 : Nat) : Int))).e)], .int .i64 0]) b5 ?_
        refine tk 7 50 (.agg #[.bool ((norm (L49) (-((b + 20 : Nat) : Int))).neg), .slice p49 (dig B32 (norm (L49) (-((b + 20 : Nat) : Int))).m).length c49, .int .i64 ((norm (L49) (-((b + 20 : Nat) : Int))).e), .bool ((norm (H49) (-((b + 20 : Nat) : Int))).neg), .slice q49 (dig B32 (norm (H49) (-((b + 20 : Nat) : Int))).m).length d49, .int .i64 ((norm (H49) (-((b + 20 : Nat) : Int))).e)]) b5 ?_
        refine tk 8 51 (.int .i64 0) b5 ?_
        refine sxr [9] ?_
        refine rd1 (fun Kx hKx => ?_)
        refine snk 10 #[.bool false, .slice none 0 0, .int .i64 0, .bool false, .slice none 0 0, .int .i64 0] 27 (fun V15 hbV15 hzV15 b10 => ?_)
        replace b5 := (b5.past hbV15)
        refine hKx.out _ _ b5 ?_
        clear hKx Kx
        refine sxr [10] ?_
        refine rd1 (fun Kx hKx => ?_)
        refine ssk none b10 hT27 0 #[.bool ((norm (L49) (-((b + 20 : Nat) : Int))).neg), .slice p49 (dig B32 (norm (L49) (-((b + 20 : Nat) : Int))).m).length c49, .int .i64 ((norm (L49) (-((b + 20 : Nat) : Int))).e), .bool ((norm (H49) (-((b + 20 : Nat) : Int))).neg), .slice q49 (dig B32 (norm (H49) (-((b + 20 : Nat) : Int))).m).length d49, .int .i64 ((norm (H49) (-((b + 20 : Nat) : Int))).e)] #[.bool ((norm (L49) (-((b + 20 : Nat) : Int))).neg), .slice p49 (dig B32 (norm (L49) (-((b + 20 : Nat) : Int))).m).length c49, .int .i64 ((norm (L49) (-((b + 20 : Nat) : Int))).e), .bool ((norm (H49) (-((b + 20 : Nat) : Int))).neg), .slice q49 (dig B32 (norm (H49) (-((b + 20 : Nat) : Int))).m).length d49, .int .i64 ((norm (H49) (-((b + 20 : Nat) : Int))).e)] ?_
        have boV16 := b10
        clear b10
        intro V16 hOV16 b10
        have hzV16 := hOV16.size
        replace b5 := (b5.only hOV16 (by omega))
        refine hKx.out _ _ b5 ?_
        clear hKx Kx
        refine tk 11 4 (.int .i64 0) b5 ?_
        refine sx_done (by kernel_rfl) ?_
        replace ho49 := (ho49.past (hbV15.trans (hOV16.below (by omega))))
        replace hq49 := (hq49.past (hbV15.trans (hOV16.below (by omega))))
        exact ⟨rfl, V14.heap.size, p46, L49, H49, p49, c49, q49, d49, by kernel_rfl, b10, hm1, (ho49.mono (by omega)), (hq49.mono (by omega)), ((bthru (bthru (bthru hbV12 hbV13) hbV14) hbV15).trans (hOV16.below (by omega))), by omega⟩
      refine rd1 (fun Kx hKx => ?_)
      refine snk 10 #[.bool false, .slice none 0 0, .int .i64 0, .bool false, .slice none 0 0, .int .i64 0] 27 (fun V14 hbV14 hzV14 b10 => ?_)
      replace b5 := (b5.past hbV14)
      refine hKx.out _ _ b5 ?_
      clear hKx Kx
      refine sxr [5] ?_
      refine rd1 (fun Kx hKx => ?_)
      replace ho25 := (ho25.past (bthru (bthru (bthru ((bthru (bthru (hbV7.trans (hOV8.below (by omega))) hbV9) hbV10).trans (hOV11.below (by omega))) hbV12) hbV13) hbV14))
      replace hq25 := (hq25.past (bthru (bthru (bthru ((bthru (bthru (hbV7.trans (hOV8.below (by omega))) hbV9) hbV10).trans (hOV11.below (by omega))) hbV12) hbV13) hbV14))
      replace x46 := (x46.past hbV14)
      replace hT := (hT.past (bthru (bthru (bthru ((bthru hbV9 hbV10).trans (hOV11.below (by omega))) hbV12) hbV13) hbV14))
      refine sek 49 31 #[.agg #[.bool ((norm (L25) (-((b + 20 : Nat) : Int))).neg), .slice p25 (dig B32 (norm (L25) (-((b + 20 : Nat) : Int))).m).length c25, .int .i64 ((norm (L25) (-((b + 20 : Nat) : Int))).e), .bool ((norm (H25) (-((b + 20 : Nat) : Int))).neg), .slice q25 (dig B32 (norm (H25) (-((b + 20 : Nat) : Int))).m).length d25, .int .i64 ((norm (H25) (-((b + 20 : Nat) : Int))).e)], .agg #[.bool false, .slice p46 1 1, .int .i64 0, .bool false, .slice p46 1 1, .int .i64 0], .int .i64 ((b + 10 : Nat) : Int)] ?_
      ((with_reducible refine (mulLit_any L25 H25 16 (b + 20) (b + 10) 16 _ false p25 q25 p46 c25 d25 _ _ _ rfl (by omega) (by omega) (by omega) ho25 hq25 x46 (by omega) (by omega) rfl u1 u2 u3 u4 hT).mono ?_))
      rintro eV15 V15 ⟨L49, H49, hm1, p49, c49, q49, d49, rfl, ho49, hq49, hbV15⟩
      have hzV15 := hbV15.size
      refine ⟨.tuple #[.agg #[.bool ((norm (L49) (-((b + 20 : Nat) : Int))).neg), .slice p49 (dig B32 (norm (L49) (-((b + 20 : Nat) : Int))).m).length c49, .int .i64 ((norm (L49) (-((b + 20 : Nat) : Int))).e), .bool ((norm (H49) (-((b + 20 : Nat) : Int))).neg), .slice q49 (dig B32 (norm (H49) (-((b + 20 : Nat) : Int))).m).length d49, .int .i64 ((norm (H49) (-((b + 20 : Nat) : Int))).e)], .int .i64 0], rfl, ?_⟩
      replace b5 := (b5.past hbV15)
      refine hKx.out _ _ b5 ?_
      clear hKx Kx
      refine tk 6 43 (.tuple #[.agg #[.bool ((norm (L49) (-((b + 20 : Nat) : Int))).neg), .slice p49 (dig B32 (norm (L49) (-((b + 20 : Nat) : Int))).m).length c49, .int .i64 ((norm (L49) (-((b + 20 : Nat) : Int))).e), .bool ((norm (H49) (-((b + 20 : Nat) : Int))).neg), .slice q49 (dig B32 (norm (H49) (-((b + 20 : Nat) : Int))).m).length d49, .int .i64 ((norm (H49) (-((b + 20 : Nat) : Int))).e)], .int .i64 0]) b5 ?_
      refine tk 7 50 (.agg #[.bool ((norm (L49) (-((b + 20 : Nat) : Int))).neg), .slice p49 (dig B32 (norm (L49) (-((b + 20 : Nat) : Int))).m).length c49, .int .i64 ((norm (L49) (-((b + 20 : Nat) : Int))).e), .bool ((norm (H49) (-((b + 20 : Nat) : Int))).neg), .slice q49 (dig B32 (norm (H49) (-((b + 20 : Nat) : Int))).m).length d49, .int .i64 ((norm (H49) (-((b + 20 : Nat) : Int))).e)]) b5 ?_
      refine tk 8 51 (.int .i64 0) b5 ?_
      refine sxr [10] ?_
      refine rd1 (fun Kx hKx => ?_)
      replace b10 := (b10.past hbV15)
      refine ssk none b10 hT27 0 #[.bool ((norm (L49) (-((b + 20 : Nat) : Int))).neg), .slice p49 (dig B32 (norm (L49) (-((b + 20 : Nat) : Int))).m).length c49, .int .i64 ((norm (L49) (-((b + 20 : Nat) : Int))).e), .bool ((norm (H49) (-((b + 20 : Nat) : Int))).neg), .slice q49 (dig B32 (norm (H49) (-((b + 20 : Nat) : Int))).m).length d49, .int .i64 ((norm (H49) (-((b + 20 : Nat) : Int))).e)] #[.bool ((norm (L49) (-((b + 20 : Nat) : Int))).neg), .slice p49 (dig B32 (norm (L49) (-((b + 20 : Nat) : Int))).m).length c49, .int .i64 ((norm (L49) (-((b + 20 : Nat) : Int))).e), .bool ((norm (H49) (-((b + 20 : Nat) : Int))).neg), .slice q49 (dig B32 (norm (H49) (-((b + 20 : Nat) : Int))).m).length d49, .int .i64 ((norm (H49) (-((b + 20 : Nat) : Int))).e)] ?_
      have boV16 := b10
      clear b10
      intro V16 hOV16 b10
      have hzV16 := hOV16.size
      replace b5 := (b5.only hOV16 (by omega))
      refine hKx.out _ _ b5 ?_
      clear hKx Kx
      refine tk 11 4 (.int .i64 0) b5 ?_
      refine sx_done (by kernel_rfl) ?_
      replace ho49 := (ho49.put boV16 hOV16 (by kernel_rfl))
      replace hq49 := (hq49.put boV16 hOV16 (by kernel_rfl))
      exact ⟨rfl, V13.heap.size, p46, L49, H49, p49, c49, q49, d49, by kernel_rfl, b10, hm1, (ho49.mono (by omega)), (hq49.mono (by omega)), ((bthru (bthru (bthru hbV12 hbV13) hbV14) hbV15).trans (hOV16.below (by omega))), by omega⟩
    refine rd1 (fun Kx hKx => ?_)
    refine snk 10 #[.bool false, .slice none 0 0, .int .i64 0, .bool false, .slice none 0 0, .int .i64 0] 27 (fun V13 hbV13 hzV13 b10 => ?_)
    replace b5 := (b5.past hbV13)
    refine hKx.out _ _ b5 ?_
    clear hKx Kx
    refine sxr [2] ?_
    refine rd1 (fun Kx hKx => ?_)
    refine sek 46 30 #[.int .i64 16] ?_
    ((with_reducible refine (mach16 _).mono ?_))
    rintro eV14 V14 ⟨p46, rfl, x46, hbV14⟩
    have hzV14 := hbV14.size
    refine ⟨.agg #[.bool false, .slice p46 1 1, .int .i64 0, .bool false, .slice p46 1 1, .int .i64 0], rfl, ?_⟩
    replace b5 := (b5.past hbV14)
    refine hKx.out _ _ b5 ?_
    clear hKx Kx
    refine sxr [5] ?_
    refine rd1 (fun Kx hKx => ?_)
    replace ho25 := (ho25.past (bthru (bthru (bthru ((bthru (bthru (hbV7.trans (hOV8.below (by omega))) hbV9) hbV10).trans (hOV11.below (by omega))) hbV12) hbV13) hbV14))
    replace hq25 := (hq25.past (bthru (bthru (bthru ((bthru (bthru (hbV7.trans (hOV8.below (by omega))) hbV9) hbV10).trans (hOV11.below (by omega))) hbV12) hbV13) hbV14))
    replace hT := (hT.past (bthru (bthru (bthru ((bthru hbV9 hbV10).trans (hOV11.below (by omega))) hbV12) hbV13) hbV14))
    refine sek 49 31 #[.agg #[.bool ((norm (L25) (-((b + 20 : Nat) : Int))).neg), .slice p25 (dig B32 (norm (L25) (-((b + 20 : Nat) : Int))).m).length c25, .int .i64 ((norm (L25) (-((b + 20 : Nat) : Int))).e), .bool ((norm (H25) (-((b + 20 : Nat) : Int))).neg), .slice q25 (dig B32 (norm (H25) (-((b + 20 : Nat) : Int))).m).length d25, .int .i64 ((norm (H25) (-((b + 20 : Nat) : Int))).e)], .agg #[.bool false, .slice p46 1 1, .int .i64 0, .bool false, .slice p46 1 1, .int .i64 0], .int .i64 ((b + 10 : Nat) : Int)] ?_
    ((with_reducible refine (mulLit_any L25 H25 16 (b + 20) (b + 10) 16 _ false p25 q25 p46 c25 d25 _ _ _ rfl (by omega) (by omega) (by omega) ho25 hq25 x46 (by omega) (by omega) rfl u1 u2 u3 u4 hT).mono ?_))
    rintro eV15 V15 ⟨L49, H49, hm1, p49, c49, q49, d49, rfl, ho49, hq49, hbV15⟩
    have hzV15 := hbV15.size
    refine ⟨.tuple #[.agg #[.bool ((norm (L49) (-((b + 20 : Nat) : Int))).neg), .slice p49 (dig B32 (norm (L49) (-((b + 20 : Nat) : Int))).m).length c49, .int .i64 ((norm (L49) (-((b + 20 : Nat) : Int))).e), .bool ((norm (H49) (-((b + 20 : Nat) : Int))).neg), .slice q49 (dig B32 (norm (H49) (-((b + 20 : Nat) : Int))).m).length d49, .int .i64 ((norm (H49) (-((b + 20 : Nat) : Int))).e)], .int .i64 0], rfl, ?_⟩
    replace b5 := (b5.past hbV15)
    refine hKx.out _ _ b5 ?_
    clear hKx Kx
    refine tk 6 43 (.tuple #[.agg #[.bool ((norm (L49) (-((b + 20 : Nat) : Int))).neg), .slice p49 (dig B32 (norm (L49) (-((b + 20 : Nat) : Int))).m).length c49, .int .i64 ((norm (L49) (-((b + 20 : Nat) : Int))).e), .bool ((norm (H49) (-((b + 20 : Nat) : Int))).neg), .slice q49 (dig B32 (norm (H49) (-((b + 20 : Nat) : Int))).m).length d49, .int .i64 ((norm (H49) (-((b + 20 : Nat) : Int))).e)], .int .i64 0]) b5 ?_
    refine tk 7 50 (.agg #[.bool ((norm (L49) (-((b + 20 : Nat) : Int))).neg), .slice p49 (dig B32 (norm (L49) (-((b + 20 : Nat) : Int))).m).length c49, .int .i64 ((norm (L49) (-((b + 20 : Nat) : Int))).e), .bool ((norm (H49) (-((b + 20 : Nat) : Int))).neg), .slice q49 (dig B32 (norm (H49) (-((b + 20 : Nat) : Int))).m).length d49, .int .i64 ((norm (H49) (-((b + 20 : Nat) : Int))).e)]) b5 ?_
    refine tk 8 51 (.int .i64 0) b5 ?_
    refine sxr [10] ?_
    refine rd1 (fun Kx hKx => ?_)
    replace b10 := (b10.past (bthru hbV14 hbV15))
    refine ssk none b10 hT27 0 #[.bool ((norm (L49) (-((b + 20 : Nat) : Int))).neg), .slice p49 (dig B32 (norm (L49) (-((b + 20 : Nat) : Int))).m).length c49, .int .i64 ((norm (L49) (-((b + 20 : Nat) : Int))).e), .bool ((norm (H49) (-((b + 20 : Nat) : Int))).neg), .slice q49 (dig B32 (norm (H49) (-((b + 20 : Nat) : Int))).m).length d49, .int .i64 ((norm (H49) (-((b + 20 : Nat) : Int))).e)] #[.bool ((norm (L49) (-((b + 20 : Nat) : Int))).neg), .slice p49 (dig B32 (norm (L49) (-((b + 20 : Nat) : Int))).m).length c49, .int .i64 ((norm (L49) (-((b + 20 : Nat) : Int))).e), .bool ((norm (H49) (-((b + 20 : Nat) : Int))).neg), .slice q49 (dig B32 (norm (H49) (-((b + 20 : Nat) : Int))).m).length d49, .int .i64 ((norm (H49) (-((b + 20 : Nat) : Int))).e)] ?_
    have boV16 := b10
    clear b10
    intro V16 hOV16 b10
    have hzV16 := hOV16.size
    replace b5 := (b5.only hOV16 (by omega))
    refine hKx.out _ _ b5 ?_
    clear hKx Kx
    refine tk 11 4 (.int .i64 0) b5 ?_
    refine sx_done (by kernel_rfl) ?_
    replace ho49 := (ho49.put boV16 hOV16 (by kernel_rfl))
    replace hq49 := (hq49.put boV16 hOV16 (by kernel_rfl))
    exact ⟨rfl, V12.heap.size, p46, L49, H49, p49, c49, q49, d49, by kernel_rfl, b10, hm1, (ho49.mono (by omega)), (hq49.mono (by omega)), ((bthru (bthru (bthru hbV12 hbV13) hbV14) hbV15).trans (hOV16.below (by omega))), by omega⟩
  rintro _ V12 ⟨kb10, p46, L49, H49, p49, c49, q49, d49, rfl, b10, hm1, ho49, hq49, hbV12, hkb10⟩
  refine hGx _ _ ?_
  clear hGx Gx
  have hzV12 := hbV12.size
  have hlb10 := b10.lt
  refine sx_then ?_
  refine wp_seq ?_
  refine sx_cutg (R := fun a' w' => ∃ (kb11 : Nat) (p55 : Option Addr) (L58 : Int) (H58 : Int) (p58 : Option Addr) (c58 : Nat) (q58 : Option Addr) (d58 : Nat), a' = ⟨((.int .i64 ((b : Nat) : Int)) :: undef :: (.bool false) :: (.pointer (some ⟨V3.heap.size, 0, none⟩)) :: (.int .i64 0) :: (.pointer (some ⟨V6.heap.size, 0, none⟩)) :: (.int .i64 0) :: (.pointer (some ⟨V9.heap.size, 0, none⟩)) :: (.int .i64 0) :: (.func (.func 30) #[] #[]) :: (.pointer (some ⟨kb10, 0, none⟩)) :: (.pointer (some ⟨kb11, 0, none⟩)) :: undef :: (.bool true) :: (.bool false) :: (.int .i64 a) :: (.int .i64 ((c0 : Nat) : Int)) :: (.int .i64 ((b : Nat) : Int)) :: (.tuple #[.agg #[.bool ((norm (L20) (-((b + 20 : Nat) : Int))).neg), .slice p20 (dig B32 (norm (L20) (-((b + 20 : Nat) : Int))).m).length c20, .int .i64 ((norm (L20) (-((b + 20 : Nat) : Int))).e), .bool ((norm (H20) (-((b + 20 : Nat) : Int))).neg), .slice q20 (dig B32 (norm (H20) (-((b + 20 : Nat) : Int))).m).length d20, .int .i64 ((norm (H20) (-((b + 20 : Nat) : Int))).e)], .int .i64 0]) :: (.int .i64 ((b : Nat) : Int)) :: (.tuple #[.agg #[.bool ((norm (L20) (-((b + 20 : Nat) : Int))).neg), .slice p20 (dig B32 (norm (L20) (-((b + 20 : Nat) : Int))).m).length c20, .int .i64 ((norm (L20) (-((b + 20 : Nat) : Int))).e), .bool ((norm (H20) (-((b + 20 : Nat) : Int))).neg), .slice q20 (dig B32 (norm (H20) (-((b + 20 : Nat) : Int))).m).length d20, .int .i64 ((norm (H20) (-((b + 20 : Nat) : Int))).e)], .int .i64 0]) :: (.agg #[.bool ((norm (L20) (-((b + 20 : Nat) : Int))).neg), .slice p20 (dig B32 (norm (L20) (-((b + 20 : Nat) : Int))).m).length c20, .int .i64 ((norm (L20) (-((b + 20 : Nat) : Int))).e), .bool ((norm (H20) (-((b + 20 : Nat) : Int))).neg), .slice q20 (dig B32 (norm (H20) (-((b + 20 : Nat) : Int))).m).length d20, .int .i64 ((norm (H20) (-((b + 20 : Nat) : Int))).e)]) :: (.int .i64 0) :: (.tuple #[.agg #[.bool ((norm (L25) (-((b + 20 : Nat) : Int))).neg), .slice p25 (dig B32 (norm (L25) (-((b + 20 : Nat) : Int))).m).length c25, .int .i64 ((norm (L25) (-((b + 20 : Nat) : Int))).e), .bool ((norm (H25) (-((b + 20 : Nat) : Int))).neg), .slice q25 (dig B32 (norm (H25) (-((b + 20 : Nat) : Int))).m).length d25, .int .i64 ((norm (H25) (-((b + 20 : Nat) : Int))).e)], .int .i64 0]) :: (.int .i64 ((b : Nat) : Int)) :: (.tuple #[.agg #[.bool ((norm (L25) (-((b + 20 : Nat) : Int))).neg), .slice p25 (dig B32 (norm (L25) (-((b + 20 : Nat) : Int))).m).length c25, .int .i64 ((norm (L25) (-((b + 20 : Nat) : Int))).e), .bool ((norm (H25) (-((b + 20 : Nat) : Int))).neg), .slice q25 (dig B32 (norm (H25) (-((b + 20 : Nat) : Int))).m).length d25, .int .i64 ((norm (H25) (-((b + 20 : Nat) : Int))).e)], .int .i64 0]) :: (.agg #[.bool ((norm (L25) (-((b + 20 : Nat) : Int))).neg), .slice p25 (dig B32 (norm (L25) (-((b + 20 : Nat) : Int))).m).length c25, .int .i64 ((norm (L25) (-((b + 20 : Nat) : Int))).e), .bool ((norm (H25) (-((b + 20 : Nat) : Int))).neg), .slice q25 (dig B32 (norm (H25) (-((b + 20 : Nat) : Int))).m).length d25, .int .i64 ((norm (H25) (-((b + 20 : Nat) : Int))).e)]) :: (.int .i64 0) :: (.tuple #[.agg #[.bool ((norm (L30) (-((b + 20 : Nat) : Int))).neg), .slice p30 (dig B32 (norm (L30) (-((b + 20 : Nat) : Int))).m).length c30, .int .i64 ((norm (L30) (-((b + 20 : Nat) : Int))).e), .bool ((norm (H30) (-((b + 20 : Nat) : Int))).neg), .slice q30 (dig B32 (norm (H30) (-((b + 20 : Nat) : Int))).m).length d30, .int .i64 ((norm (H30) (-((b + 20 : Nat) : Int))).e)], .int .i64 0]) :: (.int .i64 ((b : Nat) : Int)) :: (.tuple #[.agg #[.bool ((norm (L30) (-((b + 20 : Nat) : Int))).neg), .slice p30 (dig B32 (norm (L30) (-((b + 20 : Nat) : Int))).m).length c30, .int .i64 ((norm (L30) (-((b + 20 : Nat) : Int))).e), .bool ((norm (H30) (-((b + 20 : Nat) : Int))).neg), .slice q30 (dig B32 (norm (H30) (-((b + 20 : Nat) : Int))).m).length d30, .int .i64 ((norm (H30) (-((b + 20 : Nat) : Int))).e)], .int .i64 0]) :: (.agg #[.bool ((norm (L30) (-((b + 20 : Nat) : Int))).neg), .slice p30 (dig B32 (norm (L30) (-((b + 20 : Nat) : Int))).m).length c30, .int .i64 ((norm (L30) (-((b + 20 : Nat) : Int))).e), .bool ((norm (H30) (-((b + 20 : Nat) : Int))).neg), .slice q30 (dig B32 (norm (H30) (-((b + 20 : Nat) : Int))).m).length d30, .int .i64 ((norm (H30) (-((b + 20 : Nat) : Int))).e)]) :: (.int .i64 0) :: (.int .i64 0) :: (.bool false) :: (.bool false) :: (.int .i64 0) :: (.bool false) :: (.bool false) :: (.bool false) :: (.int .i64 0) :: (.bool false) :: (.bool false) :: (.tuple #[.agg #[.bool ((norm (L49) (-((b + 20 : Nat) : Int))).neg), .slice p49 (dig B32 (norm (L49) (-((b + 20 : Nat) : Int))).m).length c49, .int .i64 ((norm (L49) (-((b + 20 : Nat) : Int))).e), .bool ((norm (H49) (-((b + 20 : Nat) : Int))).neg), .slice q49 (dig B32 (norm (H49) (-((b + 20 : Nat) : Int))).m).length d49, .int .i64 ((norm (H49) (-((b + 20 : Nat) : Int))).e)], .int .i64 0]) :: (.agg #[.bool ((norm (L25) (-((b + 20 : Nat) : Int))).neg), .slice p25 (dig B32 (norm (L25) (-((b + 20 : Nat) : Int))).m).length c25, .int .i64 ((norm (L25) (-((b + 20 : Nat) : Int))).e), .bool ((norm (H25) (-((b + 20 : Nat) : Int))).neg), .slice q25 (dig B32 (norm (H25) (-((b + 20 : Nat) : Int))).m).length d25, .int .i64 ((norm (H25) (-((b + 20 : Nat) : Int))).e)]) :: (.func (.func 30) #[] #[]) :: (.agg #[.bool false, .slice p46 1 1, .int .i64 0, .bool false, .slice p46 1 1, .int .i64 0]) :: (.int .i64 ((b : Nat) : Int)) :: (.int .i64 ((b + 10 : Nat) : Int)) :: (.tuple #[.agg #[.bool ((norm (L49) (-((b + 20 : Nat) : Int))).neg), .slice p49 (dig B32 (norm (L49) (-((b + 20 : Nat) : Int))).m).length c49, .int .i64 ((norm (L49) (-((b + 20 : Nat) : Int))).e), .bool ((norm (H49) (-((b + 20 : Nat) : Int))).neg), .slice q49 (dig B32 (norm (H49) (-((b + 20 : Nat) : Int))).m).length d49, .int .i64 ((norm (H49) (-((b + 20 : Nat) : Int))).e)], .int .i64 0]) :: (.agg #[.bool ((norm (L49) (-((b + 20 : Nat) : Int))).neg), .slice p49 (dig B32 (norm (L49) (-((b + 20 : Nat) : Int))).m).length c49, .int .i64 ((norm (L49) (-((b + 20 : Nat) : Int))).e), .bool ((norm (H49) (-((b + 20 : Nat) : Int))).neg), .slice q49 (dig B32 (norm (H49) (-((b + 20 : Nat) : Int))).m).length d49, .int .i64 ((norm (H49) (-((b + 20 : Nat) : Int))).e)]) :: (.int .i64 0) :: (.tuple #[.agg #[.bool ((norm (L58) (-((b + 20 : Nat) : Int))).neg), .slice p58 (dig B32 (norm (L58) (-((b + 20 : Nat) : Int))).m).length c58, .int .i64 ((norm (L58) (-((b + 20 : Nat) : Int))).e), .bool ((norm (H58) (-((b + 20 : Nat) : Int))).neg), .slice q58 (dig B32 (norm (H58) (-((b + 20 : Nat) : Int))).m).length d58, .int .i64 ((norm (H58) (-((b + 20 : Nat) : Int))).e)], .int .i64 0]) :: (.agg #[.bool ((norm (L30) (-((b + 20 : Nat) : Int))).neg), .slice p30 (dig B32 (norm (L30) (-((b + 20 : Nat) : Int))).m).length c30, .int .i64 ((norm (L30) (-((b + 20 : Nat) : Int))).e), .bool ((norm (H30) (-((b + 20 : Nat) : Int))).neg), .slice q30 (dig B32 (norm (H30) (-((b + 20 : Nat) : Int))).m).length d30, .int .i64 ((norm (H30) (-((b + 20 : Nat) : Int))).e)]) :: (.func (.func 30) #[] #[]) :: (.agg #[.bool true, .slice p55 1 1, .int .i64 0, .bool true, .slice p55 1 1, .int .i64 0]) :: (.int .i64 ((b : Nat) : Int)) :: (.int .i64 ((b + 10 : Nat) : Int)) :: (.tuple #[.agg #[.bool ((norm (L58) (-((b + 20 : Nat) : Int))).neg), .slice p58 (dig B32 (norm (L58) (-((b + 20 : Nat) : Int))).m).length c58, .int .i64 ((norm (L58) (-((b + 20 : Nat) : Int))).e), .bool ((norm (H58) (-((b + 20 : Nat) : Int))).neg), .slice q58 (dig B32 (norm (H58) (-((b + 20 : Nat) : Int))).m).length d58, .int .i64 ((norm (H58) (-((b + 20 : Nat) : Int))).e)], .int .i64 0]) :: (.agg #[.bool ((norm (L58) (-((b + 20 : Nat) : Int))).neg), .slice p58 (dig B32 (norm (L58) (-((b + 20 : Nat) : Int))).m).length c58, .int .i64 ((norm (L58) (-((b + 20 : Nat) : Int))).e), .bool ((norm (H58) (-((b + 20 : Nat) : Int))).neg), .slice q58 (dig B32 (norm (H58) (-((b + 20 : Nat) : Int))).m).length d58, .int .i64 ((norm (H58) (-((b + 20 : Nat) : Int))).e)]) :: (.int .i64 0) :: undef :: undef :: undef :: undef :: undef :: undef :: undef :: undef :: undef :: undef :: undef :: undef :: undef :: undef :: undef :: undef :: undef :: undef :: undef :: undef :: undef :: undef :: undef :: []).toArray, []⟩ ∧ Bt w' kb11 27 #[.bool ((norm (L58) (-((b + 20 : Nat) : Int))).neg), .slice p58 (dig B32 (norm (L58) (-((b + 20 : Nat) : Int))).m).length c58, .int .i64 ((norm (L58) (-((b + 20 : Nat) : Int))).e), .bool ((norm (H58) (-((b + 20 : Nat) : Int))).neg), .slice q58 (dig B32 (norm (H58) (-((b + 20 : Nat) : Int))).m).length d58, .int .i64 ((norm (H58) (-((b + 20 : Nat) : Int))).e)] ∧ MSpec (b + 20) L30 H30 (-4) L58 H58 ∧ Own w' V12.heap.size .u32 58 p58 c58 (dig B32 (norm (L58) (-((b + 20 : Nat) : Int))).m) ∧ Own w' V12.heap.size .u32 58 q58 d58 (dig B32 (norm (H58) (-((b + 20 : Nat) : Int))).m) ∧ Below V12.heap.size V12 w' ∧ V12.heap.size ≤ kb11) ?_ (fun Gx hGx => ?_)
  · skip
    replace b7 := (b7.past hbV12)
    obtain ⟨V13, hVV13⟩ : ∃ V, V = (V12).drew := ⟨_, rfl⟩
    have hbV13 : Below (V12).heap.size (V12) V13 := by rw [hVV13]; exact (Below.refl _ _).drew
    have hzV13 : V13.heap.size = (V12).heap.size := by rw [hVV13]; rfl
    replace b7 := (b7.past hbV13)
    refine sxd _ (fun w' => Bt w' V9.heap.size 27 #[.bool ((norm (L30) (-((b + 20 : Nat) : Int))).neg), .slice p30 (dig B32 (norm (L30) (-((b + 20 : Nat) : Int))).m).length c30, .int .i64 ((norm (L30) (-((b + 20 : Nat) : Int))).e), .bool ((norm (H30) (-((b + 20 : Nat) : Int))).neg), .slice q30 (dig B32 (norm (H30) (-((b + 20 : Nat) : Int))).m).length d30, .int .i64 ((norm (H30) (-((b + 20 : Nat) : Int))).e)]) hVV13 b7 ?_
    clear hVV13
    refine tk 0 53 (.agg #[.bool ((norm (L30) (-((b + 20 : Nat) : Int))).neg), .slice p30 (dig B32 (norm (L30) (-((b + 20 : Nat) : Int))).m).length c30, .int .i64 ((norm (L30) (-((b + 20 : Nat) : Int))).e), .bool ((norm (H30) (-((b + 20 : Nat) : Int))).neg), .slice q30 (dig B32 (norm (H30) (-((b + 20 : Nat) : Int))).m).length d30, .int .i64 ((norm (H30) (-((b + 20 : Nat) : Int))).e)]) b7 ?_ (hy := fun w' hS => (exec_ld (by kernel_rfl) (run_ld hS hT27 0 [.bool ((norm (L30) (-((b + 20 : Nat) : Int))).neg), .slice p30 (dig B32 (norm (L30) (-((b + 20 : Nat) : Int))).m).length c30, .int .i64 ((norm (L30) (-((b + 20 : Nat) : Int))).e), .bool ((norm (H30) (-((b + 20 : Nat) : Int))).neg), .slice q30 (dig B32 (norm (H30) (-((b + 20 : Nat) : Int))).m).length d30, .int .i64 ((norm (H30) (-((b + 20 : Nat) : Int))).e)] (by kernel_rfl) (by kernel_rfl))))
    refine tk 1 54 (.func (.func 30) #[] #[]) b7 ?_
    refine tk 3 56 (.int .i64 ((b : Nat) : Int)) b7 ?_
    refine tk 4 57 (.int .i64 ((b + 10 : Nat) : Int)) b7 ?_ (hy := fun w' _ => ((show _ = Result.ok (Next.value (.int .i64 (IntKind.wrap .i64 (((b : Nat) : Int) + 10)))) _ by kernel_rfl).trans (congrArg (fun z => Result.ok (Next.value (.int .i64 z)) _) ((by rw [show ((b : Nat) : Int) + 10 = ((b + 10 : Nat) : Int) by omega]; exact IntWalk.i64_in _ (by omega))))))
    refine sxr [2, 9] ?_
    refine rd2 (fun Kx hKx => ?_) ?_
    · skip
      refine sek 55 30 #[.int .i64 (-4)] ?_
      ((with_reducible refine (mach4 _).mono ?_))
      rintro eV14 V14 ⟨p55, rfl, x55, hbV14⟩
      have hzV14 := hbV14.size
      refine ⟨.agg #[.bool true, .slice p55 1 1, .int .i64 0, .bool true, .slice p55 1 1, .int .i64 0], rfl, ?_⟩
      replace b7 := (b7.past hbV14)
      refine hKx.out _ _ b7 ?_
      clear hKx Kx
      refine sxr [5, 9] ?_
      refine rd2 (fun Kx hKx => ?_) ?_
      · skip
        replace ho30 := (ho30.past (bthru (bthru (bthru (hbV10.trans (hOV11.below (by omega))) hbV12) hbV13) hbV14))
        replace hq30 := (hq30.past (bthru (bthru (bthru (hbV10.trans (hOV11.below (by omega))) hbV12) hbV13) hbV14))
        replace hT := (hT.past (bthru (bthru (bthru ((bthru hbV9 hbV10).trans (hOV11.below (by omega))) hbV12) hbV13) hbV14))
        refine sek 58 31 #[.agg #[.bool ((norm (L30) (-((b + 20 : Nat) : Int))).neg), .slice p30 (dig B32 (norm (L30) (-((b + 20 : Nat) : Int))).m).length c30, .int .i64 ((norm (L30) (-((b + 20 : Nat) : Int))).e), .bool ((norm (H30) (-((b + 20 : Nat) : Int))).neg), .slice q30 (dig B32 (norm (H30) (-((b + 20 : Nat) : Int))).m).length d30, .int .i64 ((norm (H30) (-((b + 20 : Nat) : Int))).e)], .agg #[.bool true, .slice p55 1 1, .int .i64 0, .bool true, .slice p55 1 1, .int .i64 0], .int .i64 ((b + 10 : Nat) : Int)] ?_
        ((with_reducible refine (mulLit_any L30 H30 (-4) (b + 20) (b + 10) 4 _ true p30 q30 p55 c30 d30 _ _ _ rfl (by omega) (by omega) (by omega) ho30 hq30 x55 (by omega) (by omega) rfl v1 v2 v3 v4 hT).mono ?_))
        rintro eV15 V15 ⟨L58, H58, hm2, p58, c58, q58, d58, rfl, ho58, hq58, hbV15⟩
        have hzV15 := hbV15.size
        refine ⟨.tuple #[.agg #[.bool ((norm (L58) (-((b + 20 : Nat) : Int))).neg), .slice p58 (dig B32 (norm (L58) (-((b + 20 : Nat) : Int))).m).length c58, .int .i64 ((norm (L58) (-((b + 20 : Nat) : Int))).e), .bool ((norm (H58) (-((b + 20 : Nat) : Int))).neg), .slice q58 (dig B32 (norm (H58) (-((b + 20 : Nat) : Int))).m).length d58, .int .i64 ((norm (H58) (-((b + 20 : Nat) : Int))).e)], .int .i64 0], rfl, ?_⟩
        replace b7 := (b7.past hbV15)
        refine hKx.out _ _ b7 ?_
        clear hKx Kx
        refine tk 6 52 (.tuple #[.agg #[.bool ((norm (L58) (-((b + 20 : Nat) : Int))).neg), .slice p58 (dig B32 (norm (L58) (-((b + 20 : Nat) : Int))).m).length c58, .int .i64 ((norm (L58) (-((b + 20 : Nat) : Int))).e), .bool ((norm (H58) (-((b + 20 : Nat) : Int))).neg), .slice q58 (dig B32 (norm (H58) (-((b + 20 : Nat) : Int))).m).length d58, .int .i64 ((norm (H58) (-((b + 20 : Nat) : Int))).e)], .int .i64 0]) b7 ?_
        refine tk 7 59 (.agg #[.bool ((norm (L58) (-((b + 20 : Nat) : Int))).neg), .slice p58 (dig B32 (norm (L58) (-((b + 20 : Nat) : Int))).m).length c58, .int .i64 ((norm (L58) (-((b + 20 : Nat) : Int))).e), .bool ((norm (H58) (-((b + 20 : Nat) : Int))).neg), .slice q58 (dig B32 (norm (H58) (-((b + 20 : Nat) : Int))).m).length d58, .int .i64 ((norm (H58) (-((b + 20 : Nat) : Int))).e)]) b7 ?_
        refine tk 8 60 (.int .i64 0) b7 ?_
        refine sxr [9] ?_
        refine rd1 (fun Kx hKx => ?_)
        refine snk 11 #[.bool false, .slice none 0 0, .int .i64 0, .bool false, .slice none 0 0, .int .i64 0] 27 (fun V16 hbV16 hzV16 b11 => ?_)
        replace b7 := (b7.past hbV16)
        refine hKx.out _ _ b7 ?_
        clear hKx Kx
        refine sxr [10] ?_
        refine rd1 (fun Kx hKx => ?_)
        refine ssk none b11 hT27 0 #[.bool ((norm (L58) (-((b + 20 : Nat) : Int))).neg), .slice p58 (dig B32 (norm (L58) (-((b + 20 : Nat) : Int))).m).length c58, .int .i64 ((norm (L58) (-((b + 20 : Nat) : Int))).e), .bool ((norm (H58) (-((b + 20 : Nat) : Int))).neg), .slice q58 (dig B32 (norm (H58) (-((b + 20 : Nat) : Int))).m).length d58, .int .i64 ((norm (H58) (-((b + 20 : Nat) : Int))).e)] #[.bool ((norm (L58) (-((b + 20 : Nat) : Int))).neg), .slice p58 (dig B32 (norm (L58) (-((b + 20 : Nat) : Int))).m).length c58, .int .i64 ((norm (L58) (-((b + 20 : Nat) : Int))).e), .bool ((norm (H58) (-((b + 20 : Nat) : Int))).neg), .slice q58 (dig B32 (norm (H58) (-((b + 20 : Nat) : Int))).m).length d58, .int .i64 ((norm (H58) (-((b + 20 : Nat) : Int))).e)] ?_
        have boV17 := b11
        clear b11
        intro V17 hOV17 b11
        have hzV17 := hOV17.size
        replace b7 := (b7.only hOV17 (by omega))
        refine hKx.out _ _ b7 ?_
        clear hKx Kx
        refine tk 11 6 (.int .i64 0) b7 ?_
        refine sx_done (by kernel_rfl) ?_
        replace ho58 := (ho58.past (hbV16.trans (hOV17.below (by omega))))
        replace hq58 := (hq58.past (hbV16.trans (hOV17.below (by omega))))
        exact ⟨rfl, V15.heap.size, p55, L58, H58, p58, c58, q58, d58, by kernel_rfl, b11, hm2, (ho58.mono (by omega)), (hq58.mono (by omega)), ((bthru (bthru (bthru hbV13 hbV14) hbV15) hbV16).trans (hOV17.below (by omega))), by omega⟩
      refine rd1 (fun Kx hKx => ?_)
      refine snk 11 #[.bool false, .slice none 0 0, .int .i64 0, .bool false, .slice none 0 0, .int .i64 0] 27 (fun V15 hbV15 hzV15 b11 => ?_)
      replace b7 := (b7.past hbV15)
      refine hKx.out _ _ b7 ?_
      clear hKx Kx
      refine sxr [5] ?_
      refine rd1 (fun Kx hKx => ?_)
      replace ho30 := (ho30.past (bthru (bthru (bthru (bthru (hbV10.trans (hOV11.below (by omega))) hbV12) hbV13) hbV14) hbV15))
      replace hq30 := (hq30.past (bthru (bthru (bthru (bthru (hbV10.trans (hOV11.below (by omega))) hbV12) hbV13) hbV14) hbV15))
      replace x55 := (x55.past hbV15)
      replace hT := (hT.past (bthru (bthru (bthru (bthru ((bthru hbV9 hbV10).trans (hOV11.below (by omega))) hbV12) hbV13) hbV14) hbV15))
      refine sek 58 31 #[.agg #[.bool ((norm (L30) (-((b + 20 : Nat) : Int))).neg), .slice p30 (dig B32 (norm (L30) (-((b + 20 : Nat) : Int))).m).length c30, .int .i64 ((norm (L30) (-((b + 20 : Nat) : Int))).e), .bool ((norm (H30) (-((b + 20 : Nat) : Int))).neg), .slice q30 (dig B32 (norm (H30) (-((b + 20 : Nat) : Int))).m).length d30, .int .i64 ((norm (H30) (-((b + 20 : Nat) : Int))).e)], .agg #[.bool true, .slice p55 1 1, .int .i64 0, .bool true, .slice p55 1 1, .int .i64 0], .int .i64 ((b + 10 : Nat) : Int)] ?_
      ((with_reducible refine (mulLit_any L30 H30 (-4) (b + 20) (b + 10) 4 _ true p30 q30 p55 c30 d30 _ _ _ rfl (by omega) (by omega) (by omega) ho30 hq30 x55 (by omega) (by omega) rfl v1 v2 v3 v4 hT).mono ?_))
      rintro eV16 V16 ⟨L58, H58, hm2, p58, c58, q58, d58, rfl, ho58, hq58, hbV16⟩
      have hzV16 := hbV16.size
      refine ⟨.tuple #[.agg #[.bool ((norm (L58) (-((b + 20 : Nat) : Int))).neg), .slice p58 (dig B32 (norm (L58) (-((b + 20 : Nat) : Int))).m).length c58, .int .i64 ((norm (L58) (-((b + 20 : Nat) : Int))).e), .bool ((norm (H58) (-((b + 20 : Nat) : Int))).neg), .slice q58 (dig B32 (norm (H58) (-((b + 20 : Nat) : Int))).m).length d58, .int .i64 ((norm (H58) (-((b + 20 : Nat) : Int))).e)], .int .i64 0], rfl, ?_⟩
      replace b7 := (b7.past hbV16)
      refine hKx.out _ _ b7 ?_
      clear hKx Kx
      refine tk 6 52 (.tuple #[.agg #[.bool ((norm (L58) (-((b + 20 : Nat) : Int))).neg), .slice p58 (dig B32 (norm (L58) (-((b + 20 : Nat) : Int))).m).length c58, .int .i64 ((norm (L58) (-((b + 20 : Nat) : Int))).e), .bool ((norm (H58) (-((b + 20 : Nat) : Int))).neg), .slice q58 (dig B32 (norm (H58) (-((b + 20 : Nat) : Int))).m).length d58, .int .i64 ((norm (H58) (-((b + 20 : Nat) : Int))).e)], .int .i64 0]) b7 ?_
      refine tk 7 59 (.agg #[.bool ((norm (L58) (-((b + 20 : Nat) : Int))).neg), .slice p58 (dig B32 (norm (L58) (-((b + 20 : Nat) : Int))).m).length c58, .int .i64 ((norm (L58) (-((b + 20 : Nat) : Int))).e), .bool ((norm (H58) (-((b + 20 : Nat) : Int))).neg), .slice q58 (dig B32 (norm (H58) (-((b + 20 : Nat) : Int))).m).length d58, .int .i64 ((norm (H58) (-((b + 20 : Nat) : Int))).e)]) b7 ?_
      refine tk 8 60 (.int .i64 0) b7 ?_
      refine sxr [10] ?_
      refine rd1 (fun Kx hKx => ?_)
      replace b11 := (b11.past hbV16)
      refine ssk none b11 hT27 0 #[.bool ((norm (L58) (-((b + 20 : Nat) : Int))).neg), .slice p58 (dig B32 (norm (L58) (-((b + 20 : Nat) : Int))).m).length c58, .int .i64 ((norm (L58) (-((b + 20 : Nat) : Int))).e), .bool ((norm (H58) (-((b + 20 : Nat) : Int))).neg), .slice q58 (dig B32 (norm (H58) (-((b + 20 : Nat) : Int))).m).length d58, .int .i64 ((norm (H58) (-((b + 20 : Nat) : Int))).e)] #[.bool ((norm (L58) (-((b + 20 : Nat) : Int))).neg), .slice p58 (dig B32 (norm (L58) (-((b + 20 : Nat) : Int))).m).length c58, .int .i64 ((norm (L58) (-((b + 20 : Nat) : Int))).e), .bool ((norm (H58) (-((b + 20 : Nat) : Int))).neg), .slice q58 (dig B32 (norm (H58) (-((b + 20 : Nat) : Int))).m).length d58, .int .i64 ((norm (H58) (-((b + 20 : Nat) : Int))).e)] ?_
      have boV17 := b11
      clear b11
      intro V17 hOV17 b11
      have hzV17 := hOV17.size
      replace b7 := (b7.only hOV17 (by omega))
      refine hKx.out _ _ b7 ?_
      clear hKx Kx
      refine tk 11 6 (.int .i64 0) b7 ?_
      refine sx_done (by kernel_rfl) ?_
      replace ho58 := (ho58.put boV17 hOV17 (by kernel_rfl))
      replace hq58 := (hq58.put boV17 hOV17 (by kernel_rfl))
      exact ⟨rfl, V14.heap.size, p55, L58, H58, p58, c58, q58, d58, by kernel_rfl, b11, hm2, (ho58.mono (by omega)), (hq58.mono (by omega)), ((bthru (bthru (bthru hbV13 hbV14) hbV15) hbV16).trans (hOV17.below (by omega))), by omega⟩
    refine rd1 (fun Kx hKx => ?_)
    refine snk 11 #[.bool false, .slice none 0 0, .int .i64 0, .bool false, .slice none 0 0, .int .i64 0] 27 (fun V14 hbV14 hzV14 b11 => ?_)
    replace b7 := (b7.past hbV14)
    refine hKx.out _ _ b7 ?_
    clear hKx Kx
    refine sxr [2] ?_
    refine rd1 (fun Kx hKx => ?_)
    refine sek 55 30 #[.int .i64 (-4)] ?_
    ((with_reducible refine (mach4 _).mono ?_))
    rintro eV15 V15 ⟨p55, rfl, x55, hbV15⟩
    have hzV15 := hbV15.size
    refine ⟨.agg #[.bool true, .slice p55 1 1, .int .i64 0, .bool true, .slice p55 1 1, .int .i64 0], rfl, ?_⟩
    replace b7 := (b7.past hbV15)
    refine hKx.out _ _ b7 ?_
    clear hKx Kx
    refine sxr [5] ?_
    refine rd1 (fun Kx hKx => ?_)
    replace ho30 := (ho30.past (bthru (bthru (bthru (bthru (hbV10.trans (hOV11.below (by omega))) hbV12) hbV13) hbV14) hbV15))
    replace hq30 := (hq30.past (bthru (bthru (bthru (bthru (hbV10.trans (hOV11.below (by omega))) hbV12) hbV13) hbV14) hbV15))
    replace hT := (hT.past (bthru (bthru (bthru (bthru ((bthru hbV9 hbV10).trans (hOV11.below (by omega))) hbV12) hbV13) hbV14) hbV15))
    refine sek 58 31 #[.agg #[.bool ((norm (L30) (-((b + 20 : Nat) : Int))).neg), .slice p30 (dig B32 (norm (L30) (-((b + 20 : Nat) : Int))).m).length c30, .int .i64 ((norm (L30) (-((b + 20 : Nat) : Int))).e), .bool ((norm (H30) (-((b + 20 : Nat) : Int))).neg), .slice q30 (dig B32 (norm (H30) (-((b + 20 : Nat) : Int))).m).length d30, .int .i64 ((norm (H30) (-((b + 20 : Nat) : Int))).e)], .agg #[.bool true, .slice p55 1 1, .int .i64 0, .bool true, .slice p55 1 1, .int .i64 0], .int .i64 ((b + 10 : Nat) : Int)] ?_
    ((with_reducible refine (mulLit_any L30 H30 (-4) (b + 20) (b + 10) 4 _ true p30 q30 p55 c30 d30 _ _ _ rfl (by omega) (by omega) (by omega) ho30 hq30 x55 (by omega) (by omega) rfl v1 v2 v3 v4 hT).mono ?_))
    rintro eV16 V16 ⟨L58, H58, hm2, p58, c58, q58, d58, rfl, ho58, hq58, hbV16⟩
    have hzV16 := hbV16.size
    refine ⟨.tuple #[.agg #[.bool ((norm (L58) (-((b + 20 : Nat) : Int))).neg), .slice p58 (dig B32 (norm (L58) (-((b + 20 : Nat) : Int))).m).length c58, .int .i64 ((norm (L58) (-((b + 20 : Nat) : Int))).e), .bool ((norm (H58) (-((b + 20 : Nat) : Int))).neg), .slice q58 (dig B32 (norm (H58) (-((b + 20 : Nat) : Int))).m).length d58, .int .i64 ((norm (H58) (-((b + 20 : Nat) : Int))).e)], .int .i64 0], rfl, ?_⟩
    replace b7 := (b7.past hbV16)
    refine hKx.out _ _ b7 ?_
    clear hKx Kx
    refine tk 6 52 (.tuple #[.agg #[.bool ((norm (L58) (-((b + 20 : Nat) : Int))).neg), .slice p58 (dig B32 (norm (L58) (-((b + 20 : Nat) : Int))).m).length c58, .int .i64 ((norm (L58) (-((b + 20 : Nat) : Int))).e), .bool ((norm (H58) (-((b + 20 : Nat) : Int))).neg), .slice q58 (dig B32 (norm (H58) (-((b + 20 : Nat) : Int))).m).length d58, .int .i64 ((norm (H58) (-((b + 20 : Nat) : Int))).e)], .int .i64 0]) b7 ?_
    refine tk 7 59 (.agg #[.bool ((norm (L58) (-((b + 20 : Nat) : Int))).neg), .slice p58 (dig B32 (norm (L58) (-((b + 20 : Nat) : Int))).m).length c58, .int .i64 ((norm (L58) (-((b + 20 : Nat) : Int))).e), .bool ((norm (H58) (-((b + 20 : Nat) : Int))).neg), .slice q58 (dig B32 (norm (H58) (-((b + 20 : Nat) : Int))).m).length d58, .int .i64 ((norm (H58) (-((b + 20 : Nat) : Int))).e)]) b7 ?_
    refine tk 8 60 (.int .i64 0) b7 ?_
    refine sxr [10] ?_
    refine rd1 (fun Kx hKx => ?_)
    replace b11 := (b11.past (bthru hbV15 hbV16))
    refine ssk none b11 hT27 0 #[.bool ((norm (L58) (-((b + 20 : Nat) : Int))).neg), .slice p58 (dig B32 (norm (L58) (-((b + 20 : Nat) : Int))).m).length c58, .int .i64 ((norm (L58) (-((b + 20 : Nat) : Int))).e), .bool ((norm (H58) (-((b + 20 : Nat) : Int))).neg), .slice q58 (dig B32 (norm (H58) (-((b + 20 : Nat) : Int))).m).length d58, .int .i64 ((norm (H58) (-((b + 20 : Nat) : Int))).e)] #[.bool ((norm (L58) (-((b + 20 : Nat) : Int))).neg), .slice p58 (dig B32 (norm (L58) (-((b + 20 : Nat) : Int))).m).length c58, .int .i64 ((norm (L58) (-((b + 20 : Nat) : Int))).e), .bool ((norm (H58) (-((b + 20 : Nat) : Int))).neg), .slice q58 (dig B32 (norm (H58) (-((b + 20 : Nat) : Int))).m).length d58, .int .i64 ((norm (H58) (-((b + 20 : Nat) : Int))).e)] ?_
    have boV17 := b11
    clear b11
    intro V17 hOV17 b11
    have hzV17 := hOV17.size
    replace b7 := (b7.only hOV17 (by omega))
    refine hKx.out _ _ b7 ?_
    clear hKx Kx
    refine tk 11 6 (.int .i64 0) b7 ?_
    refine sx_done (by kernel_rfl) ?_
    replace ho58 := (ho58.put boV17 hOV17 (by kernel_rfl))
    replace hq58 := (hq58.put boV17 hOV17 (by kernel_rfl))
    exact ⟨rfl, V13.heap.size, p55, L58, H58, p58, c58, q58, d58, by kernel_rfl, b11, hm2, (ho58.mono (by omega)), (hq58.mono (by omega)), ((bthru (bthru (bthru hbV13 hbV14) hbV15) hbV16).trans (hOV17.below (by omega))), by omega⟩
  rintro _ V13 ⟨kb11, p55, L58, H58, p58, c58, q58, d58, rfl, b11, hm2, ho58, hq58, hbV13, hkb11⟩
  refine hGx _ _ ?_
  clear hGx Gx
  have hzV13 := hbV13.size
  have hlb11 := b11.lt
  refine sx_then ?_
  refine wp_seq ?_
  refine sx_region ?_
  obtain ⟨s1, s2, s3⟩ := m_small (by omega) u1 u2 u4 (by decide) hm1
  obtain ⟨t1, t2, t3⟩ := m_small (by omega) v1 v2 v4 (by decide) hm2
  replace b10 := (b10.past hbV13)
  refine sv 62 (.agg #[.bool ((norm (L49) (-((b + 20 : Nat) : Int))).neg), .slice p49 (dig B32 (norm (L49) (-((b + 20 : Nat) : Int))).m).length c49, .int .i64 ((norm (L49) (-((b + 20 : Nat) : Int))).e), .bool ((norm (H49) (-((b + 20 : Nat) : Int))).neg), .slice q49 (dig B32 (norm (H49) (-((b + 20 : Nat) : Int))).m).length d49, .int .i64 ((norm (H49) (-((b + 20 : Nat) : Int))).e)]) ?_ (hr := (exec_ld (by kernel_rfl) (run_ld b10 hT27 0 [.bool ((norm (L49) (-((b + 20 : Nat) : Int))).neg), .slice p49 (dig B32 (norm (L49) (-((b + 20 : Nat) : Int))).m).length c49, .int .i64 ((norm (L49) (-((b + 20 : Nat) : Int))).e), .bool ((norm (H49) (-((b + 20 : Nat) : Int))).neg), .slice q49 (dig B32 (norm (H49) (-((b + 20 : Nat) : Int))).m).length d49, .int .i64 ((norm (H49) (-((b + 20 : Nat) : Int))).e)] (by kernel_rfl) (by kernel_rfl))))
  refine sv 63 (.agg #[.bool ((norm (L58) (-((b + 20 : Nat) : Int))).neg), .slice p58 (dig B32 (norm (L58) (-((b + 20 : Nat) : Int))).m).length c58, .int .i64 ((norm (L58) (-((b + 20 : Nat) : Int))).e), .bool ((norm (H58) (-((b + 20 : Nat) : Int))).neg), .slice q58 (dig B32 (norm (H58) (-((b + 20 : Nat) : Int))).m).length d58, .int .i64 ((norm (H58) (-((b + 20 : Nat) : Int))).e)]) ?_ (hr := (exec_ld (by kernel_rfl) (run_ld b11 hT27 0 [.bool ((norm (L58) (-((b + 20 : Nat) : Int))).neg), .slice p58 (dig B32 (norm (L58) (-((b + 20 : Nat) : Int))).m).length c58, .int .i64 ((norm (L58) (-((b + 20 : Nat) : Int))).e), .bool ((norm (H58) (-((b + 20 : Nat) : Int))).neg), .slice q58 (dig B32 (norm (H58) (-((b + 20 : Nat) : Int))).m).length d58, .int .i64 ((norm (H58) (-((b + 20 : Nat) : Int))).e)] (by kernel_rfl) (by kernel_rfl))))
  refine sv 64 (.int .i64 ((b : Nat) : Int)) ?_
  refine sv 65 (.int .i64 ((b + 10 : Nat) : Int)) ?_ (hr := ((show _ = Result.ok (Next.value (.int .i64 (IntKind.wrap .i64 (((b : Nat) : Int) + 10)))) _ by kernel_rfl).trans (congrArg (fun z => Result.ok (Next.value (.int .i64 z)) _) ((by rw [show ((b : Nat) : Int) + 10 = ((b + 10 : Nat) : Int) by omega]; exact IntWalk.i64_in _ (by omega))))))
  replace ho49 := (ho49.past hbV13)
  replace hq49 := (hq49.past hbV13)
  replace hT := (hT.past (bthru (bthru ((bthru hbV9 hbV10).trans (hOV11.below (by omega))) hbV12) hbV13))
  refine se 66 32 #[.agg #[.bool ((norm (L49) (-((b + 20 : Nat) : Int))).neg), .slice p49 (dig B32 (norm (L49) (-((b + 20 : Nat) : Int))).m).length c49, .int .i64 ((norm (L49) (-((b + 20 : Nat) : Int))).e), .bool ((norm (H49) (-((b + 20 : Nat) : Int))).neg), .slice q49 (dig B32 (norm (H49) (-((b + 20 : Nat) : Int))).m).length d49, .int .i64 ((norm (H49) (-((b + 20 : Nat) : Int))).e)], .agg #[.bool ((norm (L58) (-((b + 20 : Nat) : Int))).neg), .slice p58 (dig B32 (norm (L58) (-((b + 20 : Nat) : Int))).m).length c58, .int .i64 ((norm (L58) (-((b + 20 : Nat) : Int))).e), .bool ((norm (H58) (-((b + 20 : Nat) : Int))).neg), .slice q58 (dig B32 (norm (H58) (-((b + 20 : Nat) : Int))).m).length d58, .int .i64 ((norm (H58) (-((b + 20 : Nat) : Int))).e)], .int .i64 ((b + 10 : Nat) : Int)] (fun Gx hGx => ?_)
  ((with_reducible refine (addB_any L49 H49 L58 H58 (b + 20) (b + 10) _ p49 q49 p58 q58 c49 d49 c58 d58 _ _ _ _ _ rfl (by omega) (by omega) (by omega) ho49 hq49 ho58 hq58 s1 s2 t1 t2 s3 t3 u4 hT).mono ?_))
  rintro eV14 V14 ⟨L, H, ha1, p66, c66, q66, d66, rfl, ho66, hq66, hbV14⟩
  have hzV14 := hbV14.size
  refine ⟨.tuple #[.agg #[.bool ((norm (L) (-((b + 20 : Nat) : Int))).neg), .slice p66 (dig B32 (norm (L) (-((b + 20 : Nat) : Int))).m).length c66, .int .i64 ((norm (L) (-((b + 20 : Nat) : Int))).e), .bool ((norm (H) (-((b + 20 : Nat) : Int))).neg), .slice q66 (dig B32 (norm (H) (-((b + 20 : Nat) : Int))).m).length d66, .int .i64 ((norm (H) (-((b + 20 : Nat) : Int))).e)], .int .i64 0], rfl, hGx _ _ ?_⟩
  clear hGx Gx
  refine sv 61 (.tuple #[.agg #[.bool ((norm (L) (-((b + 20 : Nat) : Int))).neg), .slice p66 (dig B32 (norm (L) (-((b + 20 : Nat) : Int))).m).length c66, .int .i64 ((norm (L) (-((b + 20 : Nat) : Int))).e), .bool ((norm (H) (-((b + 20 : Nat) : Int))).neg), .slice q66 (dig B32 (norm (H) (-((b + 20 : Nat) : Int))).m).length d66, .int .i64 ((norm (H) (-((b + 20 : Nat) : Int))).e)], .int .i64 0]) ?_
  refine sv 67 (.agg #[.bool ((norm (L) (-((b + 20 : Nat) : Int))).neg), .slice p66 (dig B32 (norm (L) (-((b + 20 : Nat) : Int))).m).length c66, .int .i64 ((norm (L) (-((b + 20 : Nat) : Int))).e), .bool ((norm (H) (-((b + 20 : Nat) : Int))).neg), .slice q66 (dig B32 (norm (H) (-((b + 20 : Nat) : Int))).m).length d66, .int .i64 ((norm (H) (-((b + 20 : Nat) : Int))).e)]) ?_
  refine sv 68 (.int .i64 0) ?_
  refine sn 12 #[.bool false, .slice none 0 0, .int .i64 0, .bool false, .slice none 0 0, .int .i64 0] 27 (fun V15 hbV15 hzV15 b12 => ?_)
  refine ss none b12 hT27 0 #[.bool ((norm (L) (-((b + 20 : Nat) : Int))).neg), .slice p66 (dig B32 (norm (L) (-((b + 20 : Nat) : Int))).m).length c66, .int .i64 ((norm (L) (-((b + 20 : Nat) : Int))).e), .bool ((norm (H) (-((b + 20 : Nat) : Int))).neg), .slice q66 (dig B32 (norm (H) (-((b + 20 : Nat) : Int))).m).length d66, .int .i64 ((norm (H) (-((b + 20 : Nat) : Int))).e)] #[.bool ((norm (L) (-((b + 20 : Nat) : Int))).neg), .slice p66 (dig B32 (norm (L) (-((b + 20 : Nat) : Int))).m).length c66, .int .i64 ((norm (L) (-((b + 20 : Nat) : Int))).e), .bool ((norm (H) (-((b + 20 : Nat) : Int))).neg), .slice q66 (dig B32 (norm (H) (-((b + 20 : Nat) : Int))).m).length d66, .int .i64 ((norm (H) (-((b + 20 : Nat) : Int))).e)] ?_
  have boV16 := b12
  clear b12
  intro V16 hOV16 b12
  have hzV16 := hOV16.size
  refine sv 8 (.int .i64 0) ?_
  refine sx_nil ?_
  refine sx_then ?_
  refine wp_seq ?_
  refine sx_region ?_
  obtain ⟨z1, z2⟩ := a_small s1 s2 t1 t2 u4 ha1
  have hCt : Ct (b + 20) (fun P => An true 5 P * 16 + An true 239 P * (-4)) L H := ct_add (ct_mul hB1.ct hm1.a hm1.c) (ct_mul hB2.ct hm2.a hm2.c) ha1.a ha1.c
  obtain ⟨e1, e2, f1, f2⟩ := ball_told hB0 (by omega)
  have sL := (small_mul (k := 99) (by omega) (by omega) z1).1
  have sH := (small_mul (k := 99) (by omega) (by omega) z2).1
  have hXY : ∀ P, An true 5 P * 16 + An true 239 P * (-4) = Xpi P := fun P => by unfold Xpi; omega
  refine sv 69 (.int .i64 0) ?_
  refine sv 70 (.bool true) ?_
  refine sv 71 (.bool true) ?_
  refine sv 72 (.int .i64 0) ?_
  refine sv 73 (.bool true) ?_
  refine sv 74 (.bool true) ?_
  refine sv 75 (.bool true) ?_
  refine sv 76 (.int .i64 0) ?_
  refine sv 77 (.bool true) ?_
  refine sv 78 (.bool true) ?_
  refine sv 79 (.bool true) ?_
  refine sv 80 (.agg #[.bool ((norm (L) (-((b + 20 : Nat) : Int))).neg), .slice p66 (dig B32 (norm (L) (-((b + 20 : Nat) : Int))).m).length c66, .int .i64 ((norm (L) (-((b + 20 : Nat) : Int))).e), .bool ((norm (H) (-((b + 20 : Nat) : Int))).neg), .slice q66 (dig B32 (norm (H) (-((b + 20 : Nat) : Int))).m).length d66, .int .i64 ((norm (H) (-((b + 20 : Nat) : Int))).e)]) ?_ (hr := (exec_ld (by kernel_rfl) (run_ld b12 hT27 0 [.bool ((norm (L) (-((b + 20 : Nat) : Int))).neg), .slice p66 (dig B32 (norm (L) (-((b + 20 : Nat) : Int))).m).length c66, .int .i64 ((norm (L) (-((b + 20 : Nat) : Int))).e), .bool ((norm (H) (-((b + 20 : Nat) : Int))).neg), .slice q66 (dig B32 (norm (H) (-((b + 20 : Nat) : Int))).m).length d66, .int .i64 ((norm (H) (-((b + 20 : Nat) : Int))).e)] (by kernel_rfl) (by kernel_rfl))))
  replace b3 := (b3.past ((bthru (bthru (bthru (bthru ((bthru (bthru ((bthru hbV6 hbV7).trans (hOV8.below (by omega))) hbV9) hbV10).trans (hOV11.below (by omega))) hbV12) hbV13) hbV14) hbV15).trans (hOV16.below (by omega))))
  refine sv 81 (.agg #[.bool ((norm (L20) (-((b + 20 : Nat) : Int))).neg), .slice p20 (dig B32 (norm (L20) (-((b + 20 : Nat) : Int))).m).length c20, .int .i64 ((norm (L20) (-((b + 20 : Nat) : Int))).e), .bool ((norm (H20) (-((b + 20 : Nat) : Int))).neg), .slice q20 (dig B32 (norm (H20) (-((b + 20 : Nat) : Int))).m).length d20, .int .i64 ((norm (H20) (-((b + 20 : Nat) : Int))).e)]) ?_ (hr := (exec_ld (by kernel_rfl) (run_ld b3 hT27 0 [.bool ((norm (L20) (-((b + 20 : Nat) : Int))).neg), .slice p20 (dig B32 (norm (L20) (-((b + 20 : Nat) : Int))).m).length c20, .int .i64 ((norm (L20) (-((b + 20 : Nat) : Int))).e), .bool ((norm (H20) (-((b + 20 : Nat) : Int))).neg), .slice q20 (dig B32 (norm (H20) (-((b + 20 : Nat) : Int))).m).length d20, .int .i64 ((norm (H20) (-((b + 20 : Nat) : Int))).e)] (by kernel_rfl) (by kernel_rfl))))
  replace ho66 := (ho66.past (hbV15.trans (hOV16.below (by omega))))
  replace hq66 := (hq66.past (hbV15.trans (hOV16.below (by omega))))
  replace ho20 := (ho20.past ((bthru (bthru (bthru (bthru ((bthru (bthru ((bthru (bthru (hbV4.trans (hOV5.below (by omega))) hbV6) hbV7).trans (hOV8.below (by omega))) hbV9) hbV10).trans (hOV11.below (by omega))) hbV12) hbV13) hbV14) hbV15).trans (hOV16.below (by omega))))
  replace hq20 := (hq20.past ((bthru (bthru (bthru (bthru ((bthru (bthru ((bthru (bthru (hbV4.trans (hOV5.below (by omega))) hbV6) hbV7).trans (hOV8.below (by omega))) hbV9) hbV10).trans (hOV11.below (by omega))) hbV12) hbV13) hbV14) hbV15).trans (hOV16.below (by omega))))
  refine se 82 18 #[.agg #[.bool ((norm (L) (-((b + 20 : Nat) : Int))).neg), .slice p66 (dig B32 (norm (L) (-((b + 20 : Nat) : Int))).m).length c66, .int .i64 ((norm (L) (-((b + 20 : Nat) : Int))).e), .bool ((norm (H) (-((b + 20 : Nat) : Int))).neg), .slice q66 (dig B32 (norm (H) (-((b + 20 : Nat) : Int))).m).length d66, .int .i64 ((norm (H) (-((b + 20 : Nat) : Int))).e)], .agg #[.bool ((norm (L20) (-((b + 20 : Nat) : Int))).neg), .slice p20 (dig B32 (norm (L20) (-((b + 20 : Nat) : Int))).m).length c20, .int .i64 ((norm (L20) (-((b + 20 : Nat) : Int))).e), .bool ((norm (H20) (-((b + 20 : Nat) : Int))).neg), .slice q20 (dig B32 (norm (H20) (-((b + 20 : Nat) : Int))).m).length d20, .int .i64 ((norm (H20) (-((b + 20 : Nat) : Int))).e)]] (fun Gx hGx => ?_)
  ((with_reducible refine (meet_any (norm (L) (-((b + 20 : Nat) : Int))) (norm (H) (-((b + 20 : Nat) : Int))) (norm (L20) (-((b + 20 : Nat) : Int))) (norm (H20) (-((b + 20 : Nat) : Int))) p66 q66 p20 q20 c66 d66 c20 d20 _ _ _ _ _ ho66 hq66 ho20 hq20 (norm_bare _ _) (norm_bare _ _) (norm_bare _ _) (norm_bare _ _) (errD_nn L _ (by omega) sL) (errD_nn H _ (by omega) sH) e1 e2 (fit_nn (by omega) sL) (fit_nn (by omega) sH) f1 f2 (meet_ct hXY hCt hB0.ct) (meet_ct' hXY hCt hB0.ct)).mono ?_))
  rintro eV17 V17 ⟨rfl, hbV17⟩
  have hzV17 := hbV17.size
  refine ⟨.bool true, rfl, hGx _ _ ?_⟩
  clear hGx Gx
  refine sv 83 (.bool true) ?_
  refine sv 2 (.bool true) ?_
  refine sx_nil ?_
  refine sx_then ?_
  refine wp_ret ?_
  repeat (first | with_reducible refine sx_thenret ?_ | with_reducible refine sx_blockret ?_)
  refine bodyPost_ret (v := .bool true) (by simp [results, Tryd.results8, go_sem]) rfl ?_
  exact ⟨rfl, (bthru ((bthru (bthru (bthru (bthru ((bthru (bthru ((bthru (bthru ((bthru (bthru (bthru hbV1 hbV2) hbV3) hbV4).trans (hOV5.below (by omega))) hbV6) hbV7).trans (hOV8.below (by omega))) hbV9) hbV10).trans (hOV11.below (by omega))) hbV12) hbV13) hbV14) hbV15).trans (hOV16.below (by omega))) hbV17)⟩

end Go.Proofs.YtehodhanojgkgaaDoor
