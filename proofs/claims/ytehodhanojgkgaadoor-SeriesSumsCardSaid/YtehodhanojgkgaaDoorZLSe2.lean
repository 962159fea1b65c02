/- The laws SeriesPis, SeriesLn2s, SeriesSums: their walks. -/
import Derived.Test.YtehodhanojgkgaaDoorZV
namespace Go.Slip
theorem small_off {m K : Nat} (h : m < 2 ^ K) (h1 : 41 ≤ K) (h2 : K < 8000) : Small ((m : Int) - 1099511627776) ∧ Small ((m : Int) + 1099511627776) := by
  have h3 : (2 : Nat) ^ 41 ≤ 2 ^ K := Nat.pow_le_pow_right (by omega) h1
  have h4 : 2 ^ (K + 1) = 2 ^ K * 2 := Nat.pow_succ ..
  refine ⟨small_of (k := K + 1) ?_ (by omega), small_of (k := K + 1) ?_ (by omega)⟩ <;> (rw [h4]; omega)
end Go.Slip
namespace Go.Proofs.YtehodhanojgkgaaDoor
open Go.RowKit Go.Slip

/-- A ball of a number that the reference knows. -/
theorem bracketB_any (X : Nat → Int) (b m : Nat) (L H n : Int) (pl ph pu pv : Option Addr) (cl ch cu cv b1 b2 b3 b4 : Nat) (w : World) (hn : n = b) (hb1 : 10 ≤ b) (hb2 : b ≤ 1000) (B : BallOf X (b + 20) L H) (k : Near m (b + 100) (X 1200)) (hm : blen m ≤ 7000)
    (ol : Own w b1 .u32 58 pl cl (dig B32 (norm L (-((b + 20 : Nat) : Int))).m)) (oh : Own w b2 .u32 58 ph ch (dig B32 (norm H (-((b + 20 : Nat) : Int))).m))
    (ru : Rf w b3 pu cu (dig B16 (norm ((m : Int) - 1099511627776) (-((b + 100 : Nat) : Int))).m)) (rv : Rf w b4 pv cv (dig B16 (norm ((m : Int) + 1099511627776) (-((b + 100 : Nat) : Int))).m)) :
    Calls Tryd.prog 12 #[.agg #[.bool (norm L (-((b + 20 : Nat) : Int))).neg, .slice pl (dig B32 (norm L (-((b + 20 : Nat) : Int))).m).length cl, .int .i64 (norm L (-((b + 20 : Nat) : Int))).e, .bool (norm H (-((b + 20 : Nat) : Int))).neg, .slice ph (dig B32 (norm H (-((b + 20 : Nat) : Int))).m).length ch, .int .i64 (norm H (-((b + 20 : Nat) : Int))).e], .agg #[.bool (norm ((m : Int) - 1099511627776) (-((b + 100 : Nat) : Int))).neg, .slice pu (dig B16 (norm ((m : Int) - 1099511627776) (-((b + 100 : Nat) : Int))).m).length cu, .int .i64 (norm ((m : Int) - 1099511627776) (-((b + 100 : Nat) : Int))).e, .bool (norm ((m : Int) + 1099511627776) (-((b + 100 : Nat) : Int))).neg, .slice pv (dig B16 (norm ((m : Int) + 1099511627776) (-((b + 100 : Nat) : Int))).m).length cv, .int .i64 (norm ((m : Int) + 1099511627776) (-((b + 100 : Nat) : Int))).e], .int .i64 n] w fun en w' => en = .returned (.bool true) ∧ Below w.heap.size w w' := by
  subst hn
  obtain ⟨e1, e2, f1, f2⟩ := ball_told B (by omega)
  obtain ⟨k1, k2, k3⟩ := bracket_ok (by omega) (by omega) B k
  obtain ⟨K, hK⟩ : ∃ K, 7000 = K := ⟨_, rfl⟩
  rw [hK] at hm
  have hmz := small_off (K := K) ((blen_le _ _).1 hm) (by omega) (by omega)
  have hw := B.wide
  have h0 := leD_same.1 k3
  refine bracketed_any _ _ _ _ (norm (H - L) (-((b + 20 : Nat) : Int))) _ pl ph pu pv cl ch cu cv _ _ _ _ w ol oh ru rv (norm_bare _ _) (norm_bare _ _) e1 e2 f1 f2 (fit_nn (by omega) hmz.1) (fit_nn (by omega) hmz.2) ?_ (fit_nn (by omega) (small_of (k := 18) (by omega) (by omega))) (by omega) k3 k1 k2 ?_
  · rw [dMinus_nn, rPlus_nn]; congr 1
  · have := wide_ok B
    rw [norm_one] at this
    exact this

theorem blen_bd {x P k : Nat} (h : x ≤ k * 2 ^ P) (hk : k ≤ 1024) (hP : P ≤ 1500) : blen x ≤ 7000 := by
  have h1 : x < 2 ^ (P + 11) := by rw [Nat.pow_add]; have h2 : k * 2 ^ P ≤ 1024 * 2 ^ P := Nat.mul_le_mul_right _ hk; have h3 : 0 < 2 ^ P := Nat.pow_pos (by omega); omega
  exact Nat.le_trans ((blen_le _ _).2 h1) (by omega)


theorem piN_le (P : Nat) : piN P ≤ 200 * 2 ^ P := by
  have h1 := sN_le (n := 18) (P := P) (by omega) (P + 1)
  have h2 := sN_le (n := 57) (P := P) (by omega) (P + 1)
  unfold piN
  omega

set_option maxHeartbeats 4000000 in
set_option maxRecDepth 100000 in
theorem lawSePi_row (n : Int) (w : World) (hT : TabW w) :
    Calls Tryd.prog 3 #[.int .i64 n] w fun en w' => en = .returned (.bool true) ∧ Below w.heap.size w w' := by
  by_cases h1 : n < 10
  · skip
    have hT27 : SxAgg Tryd.prog 27 6 := sxAgg_of (by kernel_rfl) (by kernel_rfl)
    refine calls_of_wp Tryd.func3 rfl ?_
    refine sx_frame (a' := ⟨((.int .i64 n) :: undef :: undef :: undef :: undef :: undef :: undef :: undef :: undef :: undef :: undef :: undef :: undef :: undef :: undef :: undef :: undef :: undef :: undef :: undef :: undef :: undef :: undef :: undef :: undef :: undef :: undef :: undef :: undef :: undef :: undef :: undef :: undef :: undef :: undef :: undef :: undef :: undef :: undef :: undef :: undef :: undef :: undef :: []).toArray, []⟩) (by kernel_rfl) ?_
    refine wp_seq ?_
    refine sx_region ?_
    refine sv 2 (.bool false) ?_
    refine sx_nil ?_
    refine sx_then ?_
    refine wp_seq ?_
    refine sx_region ?_
    refine sv 6 (.int .i64 n) ?_
    refine se 7 9 #[.int .i64 n] (fun Gx hGx => ?_)
    ((with_reducible refine (pi_no n _ (by omega)).mono ?_))
    rintro eV1 V1 ⟨rfl, hbV1⟩
    have hzV1 := hbV1.size
    refine ⟨.tuple #[.agg #[.bool false, .slice none 0 0, .int .i64 0, .bool false, .slice none 0 0, .int .i64 0], .int .i64 3], rfl, hGx _ _ ?_⟩
    clear hGx Gx
    refine sv 5 (.tuple #[.agg #[.bool false, .slice none 0 0, .int .i64 0, .bool false, .slice none 0 0, .int .i64 0], .int .i64 3]) ?_
    refine sv 8 (.agg #[.bool false, .slice none 0 0, .int .i64 0, .bool false, .slice none 0 0, .int .i64 0]) ?_
    refine sv 9 (.int .i64 3) ?_
    refine sn 3 #[.bool false, .slice none 0 0, .int .i64 0, .bool false, .slice none 0 0, .int .i64 0] 27 (fun V2 hbV2 hzV2 b3 => ?_)
    refine ss none b3 hT27 0 #[.bool false, .slice none 0 0, .int .i64 0, .bool false, .slice none 0 0, .int .i64 0] #[.bool false, .slice none 0 0, .int .i64 0, .bool false, .slice none 0 0, .int .i64 0] ?_
    have boV3 := b3
    clear b3
    intro V3 hOV3 b3
    have hzV3 := hOV3.size
    refine sv 4 (.int .i64 3) ?_
    refine sx_nil ?_
    refine sx_then ?_
    refine wp_seq ?_
    refine wp_seq ?_
    refine sx_region ?_
    refine sv 10 (.int .i64 n) ?_
    refine sv 11 (.bool true) ?_ (hr := ((show _ = Result.ok (Next.value (.bool (decide (n < 10)))) _ from (by kernel_rfl)).trans (congrArg (fun z => Result.ok (Next.value (.bool z)) _) (show (decide (n < 10)) = true from decide_eq_true h1))))
    refine sv 12 (.bool true) ?_
    refine so (some 13) ?_
    refine so (some 14) ?_
    refine sv 15 (.bool true) ?_
    refine sx_nil ?_
    refine sx_then ?_
    refine wp_cond_true (by kernel_rfl) ?_
    refine wp_seq ?_
    refine sx_region ?_
    replace hT := (hT.past ((bthru hbV1 hbV2).trans (hOV3.below (by omega))))
    refine se 16 10 #[] (fun Gx hGx => ?_)
    ((with_reducible refine (seriesBegun_any _ hT).mono ?_))
    rintro eV4 V4 ⟨rfl, hbV4⟩
    have hzV4 := hbV4.size
    refine ⟨.bool true, rfl, hGx _ _ ?_⟩
    clear hGx Gx
    refine sv 17 (.bool true) ?_
    refine sv 18 (.int .i64 3) ?_
    refine sv 19 (.bool true) ?_
    refine sv 20 (.bool true) ?_
    refine sv 21 (.bool true) ?_
    replace b3 := (b3.past hbV4)
    refine sv 22 (.agg #[.bool false, .slice none 0 0, .int .i64 0, .bool false, .slice none 0 0, .int .i64 0]) ?_ (hr := (exec_ld (by kernel_rfl) (run_ld b3 hT27 0 [.bool false, .slice none 0 0, .int .i64 0, .bool false, .slice none 0 0, .int .i64 0] (by kernel_rfl) (by kernel_rfl))))
    refine sv 23 (.agg #[.bool false, .slice none 0 0, .int .i64 0, .bool false, .slice none 0 0, .int .i64 0]) ?_
    refine se 24 11 #[.agg #[.bool false, .slice none 0 0, .int .i64 0, .bool false, .slice none 0 0, .int .i64 0], .agg #[.bool false, .slice none 0 0, .int .i64 0, .bool false, .slice none 0 0, .int .i64 0]] (fun Gx hGx => ?_)
    ((with_reducible refine (rsamezero _).mono ?_))
    rintro eV5 V5 ⟨rfl, hbV5⟩
    have hzV5 := hbV5.size
    refine ⟨.bool true, rfl, hGx _ _ ?_⟩
    clear hGx Gx
    refine sv 25 (.bool true) ?_
    refine sv 2 (.bool true) ?_
    refine sx_nil ?_
    refine sx_then ?_
    refine wp_ret ?_
    repeat (first | with_reducible refine sx_thenret ?_ | with_reducible refine sx_blockret ?_)
    refine bodyPost_ret (v := .bool true) (by simp [results, Tryd.results3, go_sem]) rfl ?_
    exact ⟨rfl, (bthru (bthru ((bthru hbV1 hbV2).trans (hOV3.below (by omega))) hbV4) hbV5)⟩
  · by_cases h2 : n > 1000
    · skip
      have hT27 : SxAgg Tryd.prog 27 6 := sxAgg_of (by kernel_rfl) (by kernel_rfl)
      refine calls_of_wp Tryd.func3 rfl ?_
      refine sx_frame (a' := ⟨((.int .i64 n) :: undef :: undef :: undef :: undef :: undef :: undef :: undef :: undef :: undef :: undef :: undef :: undef :: undef :: undef :: undef :: undef :: undef :: undef :: undef :: undef :: undef :: undef :: undef :: undef :: undef :: undef :: undef :: undef :: undef :: undef :: undef :: undef :: undef :: undef :: undef :: undef :: undef :: undef :: undef :: undef :: undef :: undef :: []).toArray, []⟩) (by kernel_rfl) ?_
      refine wp_seq ?_
      refine sx_region ?_
      refine sv 2 (.bool false) ?_
      refine sx_nil ?_
      refine sx_then ?_
      refine wp_seq ?_
      refine sx_region ?_
      refine sv 6 (.int .i64 n) ?_
      refine se 7 9 #[.int .i64 n] (fun Gx hGx => ?_)
      ((with_reducible refine (pi_no n _ (by omega)).mono ?_))
      rintro eV1 V1 ⟨rfl, hbV1⟩
      have hzV1 := hbV1.size
      refine ⟨.tuple #[.agg #[.bool false, .slice none 0 0, .int .i64 0, .bool false, .slice none 0 0, .int .i64 0], .int .i64 3], rfl, hGx _ _ ?_⟩
      clear hGx Gx
      refine sv 5 (.tuple #[.agg #[.bool false, .slice none 0 0, .int .i64 0, .bool false, .slice none 0 0, .int .i64 0], .int .i64 3]) ?_
      refine sv 8 (.agg #[.bool false, .slice none 0 0, .int .i64 0, .bool false, .slice none 0 0, .int .i64 0]) ?_
      refine sv 9 (.int .i64 3) ?_
      refine sn 3 #[.bool false, .slice none 0 0, .int .i64 0, .bool false, .slice none 0 0, .int .i64 0] 27 (fun V2 hbV2 hzV2 b3 => ?_)
      refine ss none b3 hT27 0 #[.bool false, .slice none 0 0, .int .i64 0, .bool false, .slice none 0 0, .int .i64 0] #[.bool false, .slice none 0 0, .int .i64 0, .bool false, .slice none 0 0, .int .i64 0] ?_
      have boV3 := b3
      clear b3
      intro V3 hOV3 b3
      have hzV3 := hOV3.size
      refine sv 4 (.int .i64 3) ?_
      refine sx_nil ?_
      refine sx_then ?_
      refine wp_seq ?_
      refine wp_seq ?_
      refine sx_region ?_
      refine sv 10 (.int .i64 n) ?_
      refine sv 11 (.bool false) ?_ (hr := ((show _ = Result.ok (Next.value (.bool (decide (n < 10)))) _ from (by kernel_rfl)).trans (congrArg (fun z => Result.ok (Next.value (.bool z)) _) (show (decide (n < 10)) = false from decide_eq_false h1))))
      refine sv 12 (.bool false) ?_
      refine sv 13 (.int .i64 n) ?_
      refine sv 14 (.bool true) ?_ (hr := ((show _ = Result.ok (Next.value (.bool (decide (n > 1000)))) _ from (by kernel_rfl)).trans (congrArg (fun z => Result.ok (Next.value (.bool z)) _) (show (decide (n > 1000)) = true from decide_eq_true h2))))
      refine sv 15 (.bool true) ?_
      refine sx_nil ?_
      refine sx_then ?_
      refine wp_cond_true (by kernel_rfl) ?_
      refine wp_seq ?_
      refine sx_region ?_
      replace hT := (hT.past ((bthru hbV1 hbV2).trans (hOV3.below (by omega))))
      refine se 16 10 #[] (fun Gx hGx => ?_)
      ((with_reducible refine (seriesBegun_any _ hT).mono ?_))
      rintro eV4 V4 ⟨rfl, hbV4⟩
      have hzV4 := hbV4.size
      refine ⟨.bool true, rfl, hGx _ _ ?_⟩
      clear hGx Gx
      refine sv 17 (.bool true) ?_
      refine sv 18 (.int .i64 3) ?_
      refine sv 19 (.bool true) ?_
      refine sv 20 (.bool true) ?_
      refine sv 21 (.bool true) ?_
      replace b3 := (b3.past hbV4)
      refine sv 22 (.agg #[.bool false, .slice none 0 0, .int .i64 0, .bool false, .slice none 0 0, .int .i64 0]) ?_ (hr := (exec_ld (by kernel_rfl) (run_ld b3 hT27 0 [.bool false, .slice none 0 0, .int .i64 0, .bool false, .slice none 0 0, .int .i64 0] (by kernel_rfl) (by kernel_rfl))))
      refine sv 23 (.agg #[.bool false, .slice none 0 0, .int .i64 0, .bool false, .slice none 0 0, .int .i64 0]) ?_
      refine se 24 11 #[.agg #[.bool false, .slice none 0 0, .int .i64 0, .bool false, .slice none 0 0, .int .i64 0], .agg #[.bool false, .slice none 0 0, .int .i64 0, .bool false, .slice none 0 0, .int .i64 0]] (fun Gx hGx => ?_)
      ((with_reducible refine (rsamezero _).mono ?_))
      rintro eV5 V5 ⟨rfl, hbV5⟩
      have hzV5 := hbV5.size
      refine ⟨.bool true, rfl, hGx _ _ ?_⟩
      clear hGx Gx
      refine sv 25 (.bool true) ?_
      refine sv 2 (.bool true) ?_
      refine sx_nil ?_
      refine sx_then ?_
      refine wp_ret ?_
      repeat (first | with_reducible refine sx_thenret ?_ | with_reducible refine sx_blockret ?_)
      refine bodyPost_ret (v := .bool true) (by simp [results, Tryd.results3, go_sem]) rfl ?_
      exact ⟨rfl, (bthru (bthru ((bthru hbV1 hbV2).trans (hOV3.below (by omega))) hbV4) hbV5)⟩
    · obtain ⟨b, rfl⟩ : ∃ b : Nat, n = b := ⟨n.toNat, by omega⟩
      have href := (ref_pi (p := b + 100) (by omega) (by omega)).2
      obtain ⟨m, hm⟩ : ∃ m, m = piN (b + 100) := ⟨_, rfl⟩
      have hk : Near m (b + 100) (Xpi 1200) := by rw [hm]; exact href
      have hmb : blen m ≤ 7000 := by rw [hm]; exact blen_bd (piN_le (b + 100)) (by omega) (by omega)
      have HR := fun W => Lib.hid (piOf_any _ (b + 100) W rfl (by omega) (ref_pi (p := b + 100) (by omega) (by omega)).1)
      rw [← hm] at HR
      have hT27 : SxAgg Tryd.prog 27 6 := sxAgg_of (by kernel_rfl) (by kernel_rfl)
      refine calls_of_wp Tryd.func3 rfl ?_
      refine sx_frame (a' := ⟨((.int .i64 ((b : Nat) : Int)) :: undef :: undef :: undef :: undef :: undef :: undef :: undef :: undef :: undef :: undef :: undef :: undef :: undef :: undef :: undef :: undef :: undef :: undef :: undef :: undef :: undef :: undef :: undef :: undef :: undef :: undef :: undef :: undef :: undef :: undef :: undef :: undef :: undef :: undef :: undef :: undef :: undef :: undef :: undef :: undef :: undef :: undef :: []).toArray, []⟩) (by kernel_rfl) ?_
      refine wp_seq ?_
      refine sx_region ?_
      refine sv 2 (.bool false) ?_
      refine sx_nil ?_
      refine sx_then ?_
      refine wp_seq ?_
      refine sx_region ?_
      refine sv 6 (.int .i64 ((b : Nat) : Int)) ?_
      refine se 7 9 #[.int .i64 ((b : Nat) : Int)] (fun Gx hGx => ?_)
      ((with_reducible refine (piZ_ok _ b rfl _ (by omega) (by omega) hT).mono ?_))
      rintro eV1 V1 ⟨L, H, hB, p7, c7, q7, d7, rfl, ho7, hq7, hbV1⟩
      have hzV1 := hbV1.size
      refine ⟨.tuple #[.agg #[.bool ((norm L (-((b + 20 : Nat) : Int))).neg), .slice p7 (dig B32 (norm L (-((b + 20 : Nat) : Int))).m).length c7, .int .i64 ((norm L (-((b + 20 : Nat) : Int))).e), .bool ((norm H (-((b + 20 : Nat) : Int))).neg), .slice q7 (dig B32 (norm H (-((b + 20 : Nat) : Int))).m).length d7, .int .i64 ((norm H (-((b + 20 : Nat) : Int))).e)], .int .i64 0], rfl, hGx _ _ ?_⟩
      clear hGx Gx
      refine sv 5 (.tuple #[.agg #[.bool ((norm L (-((b + 20 : Nat) : Int))).neg), .slice p7 (dig B32 (norm L (-((b + 20 : Nat) : Int))).m).length c7, .int .i64 ((norm L (-((b + 20 : Nat) : Int))).e), .bool ((norm H (-((b + 20 : Nat) : Int))).neg), .slice q7 (dig B32 (norm H (-((b + 20 : Nat) : Int))).m).length d7, .int .i64 ((norm H (-((b + 20 : Nat) : Int))).e)], .int .i64 0]) ?_
      refine sv 8 (.agg #[.bool ((norm L (-((b + 20 : Nat) : Int))).neg), .slice p7 (dig B32 (norm L (-((b + 20 : Nat) : Int))).m).length c7, .int .i64 ((norm L (-((b + 20 : Nat) : Int))).e), .bool ((norm H (-((b + 20 : Nat) : Int))).neg), .slice q7 (dig B32 (norm H (-((b + 20 : Nat) : Int))).m).length d7, .int .i64 ((norm H (-((b + 20 : Nat) : Int))).e)]) ?_
      refine sv 9 (.int .i64 0) ?_
      refine sn 3 #[.bool false, .slice none 0 0, .int .i64 0, .bool false, .slice none 0 0, .int .i64 0] 27 (fun V2 hbV2 hzV2 b3 => ?_)
      refine ss none b3 hT27 0 #[.bool ((norm L (-((b + 20 : Nat) : Int))).neg), .slice p7 (dig B32 (norm L (-((b + 20 : Nat) : Int))).m).length c7, .int .i64 ((norm L (-((b + 20 : Nat) : Int))).e), .bool ((norm H (-((b + 20 : Nat) : Int))).neg), .slice q7 (dig B32 (norm H (-((b + 20 : Nat) : Int))).m).length d7, .int .i64 ((norm H (-((b + 20 : Nat) : Int))).e)] #[.bool ((norm L (-((b + 20 : Nat) : Int))).neg), .slice p7 (dig B32 (norm L (-((b + 20 : Nat) : Int))).m).length c7, .int .i64 ((norm L (-((b + 20 : Nat) : Int))).e), .bool ((norm H (-((b + 20 : Nat) : Int))).neg), .slice q7 (dig B32 (norm H (-((b + 20 : Nat) : Int))).m).length d7, .int .i64 ((norm H (-((b + 20 : Nat) : Int))).e)] ?_
      have boV3 := b3
      clear b3
      intro V3 hOV3 b3
      have hzV3 := hOV3.size
      refine sv 4 (.int .i64 0) ?_
      refine sx_nil ?_
      refine sx_then ?_
      refine wp_seq ?_
      refine wp_seq ?_
      refine sx_region ?_
      refine sv 10 (.int .i64 ((b : Nat) : Int)) ?_
      refine sv 11 (.bool false) ?_ (hr := ((show _ = Result.ok (Next.value (.bool (decide (((b : Nat) : Int) < 10)))) _ from (by kernel_rfl)).trans (congrArg (fun z => Result.ok (Next.value (.bool z)) _) (show (decide (((b : Nat) : Int) < 10)) = false from decide_eq_false h1))))
      refine sv 12 (.bool false) ?_
      refine sv 13 (.int .i64 ((b : Nat) : Int)) ?_
      refine sv 14 (.bool false) ?_ (hr := ((show _ = Result.ok (Next.value (.bool (decide (((b : Nat) : Int) > 1000)))) _ from (by kernel_rfl)).trans (congrArg (fun z => Result.ok (Next.value (.bool z)) _) (show (decide (((b : Nat) : Int) > 1000)) = false from decide_eq_false h2))))
      refine sv 15 (.bool false) ?_
      refine sx_nil ?_
      refine sx_then ?_
      refine wp_cond_false (by kernel_rfl) ?_
      refine wp_skip ?_
      refine sx_then ?_
      refine wp_seq ?_
      obtain ⟨V4, hVV4⟩ : ∃ V, V = (V3).drew := ⟨_, rfl⟩
      have hbV4 : Below (V3).heap.size (V3) V4 := by rw [hVV4]; exact (Below.refl _ _).drew
      have hzV4 : V4.heap.size = (V3).heap.size := by rw [hVV4]; rfl
      replace b3 := (b3.past hbV4)
      refine sxd _ (fun w' => Bt w' V1.heap.size 27 #[.bool ((norm L (-((b + 20 : Nat) : Int))).neg), .slice p7 (dig B32 (norm L (-((b + 20 : Nat) : Int))).m).length c7, .int .i64 ((norm L (-((b + 20 : Nat) : Int))).e), .bool ((norm H (-((b + 20 : Nat) : Int))).neg), .slice q7 (dig B32 (norm H (-((b + 20 : Nat) : Int))).m).length d7, .int .i64 ((norm H (-((b + 20 : Nat) : Int))).e)]) hVV4 b3 ?_
      clear hVV4
      refine sxr [0] ?_
      refine rd1 (fun Kx hKx => ?_)
      replace hT := (hT.past (bthru ((bthru hbV1 hbV2).trans (hOV3.below (by omega))) hbV4))
      refine sek 26 10 #[] ?_
      ((with_reducible refine (seriesBegun_any _ hT).mono ?_))
      rintro eV5 V5 ⟨rfl, hbV5⟩
      have hzV5 := hbV5.size
      refine ⟨.bool true, rfl, ?_⟩
      replace b3 := (b3.past hbV5)
      refine hKx.out _ _ b3 ?_
      clear hKx Kx
      refine tk 1 27 (.bool true) b3 ?_
      refine tk 2 28 (.int .i64 0) b3 ?_
      refine tk 3 29 (.bool true) b3 ?_
      refine tk 4 30 (.bool true) b3 ?_
      refine tk 5 31 (.bool true) b3 ?_
      refine tk 6 32 (.agg #[.bool ((norm L (-((b + 20 : Nat) : Int))).neg), .slice p7 (dig B32 (norm L (-((b + 20 : Nat) : Int))).m).length c7, .int .i64 ((norm L (-((b + 20 : Nat) : Int))).e), .bool ((norm H (-((b + 20 : Nat) : Int))).neg), .slice q7 (dig B32 (norm H (-((b + 20 : Nat) : Int))).m).length d7, .int .i64 ((norm H (-((b + 20 : Nat) : Int))).e)]) b3 ?_ (hy := fun w' hS => (exec_ld (by kernel_rfl) (run_ld hS hT27 0 [.bool ((norm L (-((b + 20 : Nat) : Int))).neg), .slice p7 (dig B32 (norm L (-((b + 20 : Nat) : Int))).m).length c7, .int .i64 ((norm L (-((b + 20 : Nat) : Int))).e), .bool ((norm H (-((b + 20 : Nat) : Int))).neg), .slice q7 (dig B32 (norm H (-((b + 20 : Nat) : Int))).m).length d7, .int .i64 ((norm H (-((b + 20 : Nat) : Int))).e)] (by kernel_rfl) (by kernel_rfl))))
      refine tk 7 33 (.int .i64 ((b : Nat) : Int)) b3 ?_
      refine tk 8 34 (.int .i64 ((b + 100 : Nat) : Int)) b3 ?_ (hy := fun w' _ => ((show _ = Result.ok (Next.value (.int .i64 (IntKind.wrap .i64 (((b : Nat) : Int) + 100)))) _ by kernel_rfl).trans (congrArg (fun z => Result.ok (Next.value (.int .i64 z)) _) ((by rw [show ((b : Nat) : Int) + 100 = ((b + 100 : Nat) : Int) by omega]; exact IntWalk.i64_in _ (by omega))))))
      refine tk 11 37 (.int .i64 ((b : Nat) : Int)) b3 ?_
      refine tk 12 38 (.int .i64 ((b + 100 : Nat) : Int)) b3 ?_ (hy := fun w' _ => ((show _ = Result.ok (Next.value (.int .i64 (IntKind.wrap .i64 (((b : Nat) : Int) + 100)))) _ by kernel_rfl).trans (congrArg (fun z => Result.ok (Next.value (.int .i64 z)) _) ((by rw [show ((b : Nat) : Int) + 100 = ((b + 100 : Nat) : Int) by omega]; exact IntWalk.i64_in _ (by omega))))))
      refine tk 14 40 (.int .i64 ((b : Nat) : Int)) b3 ?_
      refine sxr [9] ?_
      refine rd1 (fun Kx hKx => ?_)
      refine sek 35 14 #[.int .i64 ((b + 100 : Nat) : Int)] ?_
      ((with_reducible refine ((HR _).out).mono ?_))
      rintro eV6 V6 ⟨p35, c35, rfl, x35, hbV6⟩
      have hzV6 := hbV6.size
      have lx35 := fun h => x35.lt h
      refine ⟨.agg #[.bool false, .slice p35 (dig B16 m).length c35], rfl, ?_⟩
      replace b3 := (b3.past hbV6)
      refine hKx.out _ _ b3 ?_
      clear hKx Kx
      refine tk 10 36 (.slice p35 (dig B16 m).length c35) b3 ?_
      refine sxr [13] ?_
      refine rd1 (fun Kx hKx => ?_)
      refine sek 39 13 #[.slice p35 (dig B16 m).length c35, .int .i64 ((b + 100 : Nat) : Int)] ?_
      ((with_reducible refine (narrow_any m (b + 100) _ p35 c35 _ rfl (by omega) x35.rd (by unfold Small; rw [Int.natAbs_natCast]; omega)).mono ?_))
      rintro eV7 V7 ⟨p39, c39, q39, d39, rfl, x39, y39, hbV7⟩
      have hzV7 := hbV7.size
      have lx39 := fun h => x39.lt h
      have ly39 := fun h => y39.lt h
      refine ⟨.agg #[.bool ((norm ((m : Int) - 1099511627776) (-((b + 100 : Nat) : Int))).neg), .slice p39 (dig B16 (norm ((m : Int) - 1099511627776) (-((b + 100 : Nat) : Int))).m).length c39, .int .i64 ((norm ((m : Int) - 1099511627776) (-((b + 100 : Nat) : Int))).e), .bool ((norm ((m : Int) + 1099511627776) (-((b + 100 : Nat) : Int))).neg), .slice q39 (dig B16 (norm ((m : Int) + 1099511627776) (-((b + 100 : Nat) : Int))).m).length d39, .int .i64 ((norm ((m : Int) + 1099511627776) (-((b + 100 : Nat) : Int))).e)], rfl, ?_⟩
      replace b3 := (b3.past hbV7)
      refine hKx.out _ _ b3 ?_
      clear hKx Kx
      refine sxr [15] ?_
      refine rd1 (fun Kx hKx => ?_)
      replace ho7 := (ho7.past (bthru (bthru (bthru (bthru (hbV2.trans (hOV3.below (by omega))) hbV4) hbV5) hbV6) hbV7))
      replace hq7 := (hq7.past (bthru (bthru (bthru (bthru (hbV2.trans (hOV3.below (by omega))) hbV4) hbV5) hbV6) hbV7))
      refine sek 41 12 #[.agg #[.bool ((norm L (-((b + 20 : Nat) : Int))).neg), .slice p7 (dig B32 (norm L (-((b + 20 : Nat) : Int))).m).length c7, .int .i64 ((norm L (-((b + 20 : Nat) : Int))).e), .bool ((norm H (-((b + 20 : Nat) : Int))).neg), .slice q7 (dig B32 (norm H (-((b + 20 : Nat) : Int))).m).length d7, .int .i64 ((norm H (-((b + 20 : Nat) : Int))).e)], .agg #[.bool ((norm ((m : Int) - 1099511627776) (-((b + 100 : Nat) : Int))).neg), .slice p39 (dig B16 (norm ((m : Int) - 1099511627776) (-((b + 100 : Nat) : Int))).m).length c39, .int .i64 ((norm ((m : Int) - 1099511627776) (-((b + 100 : Nat) : Int))).e), .bool ((norm ((m : Int) + 1099511627776) (-((b + 100 : Nat) : Int))).neg), .slice q39 (dig B16 (norm ((m : Int) + 1099511627776) (-((b + 100 : Nat) : Int))).m).length d39, .int .i64 ((norm ((m : Int) + 1099511627776) (-((b + 100 : Nat) : Int))).e)], .int .i64 ((b : Nat) : Int)] ?_
      ((with_reducible refine (bracketB_any Xpi b m L H _ p7 q7 p39 q39 c7 d7 c39 d39 _ _ _ _ _ rfl (by omega) (by omega) hB hk hmb ho7 hq7 x39 y39).mono ?_))
      rintro eV8 V8 ⟨rfl, hbV8⟩
      have hzV8 := hbV8.size
      refine ⟨.bool true, rfl, ?_⟩
      replace b3 := (b3.past hbV8)
      refine hKx.out _ _ b3 ?_
      clear hKx Kx
      refine tk 16 42 (.bool true) b3 ?_
      refine tk 17 2 (.bool true) b3 ?_
      refine sx_done (by kernel_rfl) ?_
      refine sx_then ?_
      refine wp_ret ?_
      repeat (first | with_reducible refine sx_thenret ?_ | with_reducible refine sx_blockret ?_)
      refine bodyPost_ret (v := .bool true) (by simp [results, Tryd.results3, go_sem]) rfl ?_
      exact ⟨rfl, (bthru (bthru (bthru (bthru (bthru ((bthru hbV1 hbV2).trans (hOV3.below (by omega))) hbV4) hbV5) hbV6) hbV7) hbV8)⟩

set_option maxHeartbeats 4000000 in
set_option maxRecDepth 100000 in
theorem lawSeLn_row (n : Int) (w : World) (hT : TabW w) :
    Calls Tryd.prog 4 #[.int .i64 n] w fun en w' => en = .returned (.bool true) ∧ Below w.heap.size w w' := by
  by_cases h1 : n < 10
  · skip
    have hT27 : SxAgg Tryd.prog 27 6 := sxAgg_of (by kernel_rfl) (by kernel_rfl)
    refine calls_of_wp Tryd.func4 rfl ?_
    refine sx_frame (a' := ⟨((.int .i64 n) :: undef :: undef :: undef :: undef :: undef :: undef :: undef :: undef :: undef :: undef :: undef :: undef :: undef :: undef :: undef :: undef :: undef :: undef :: undef :: undef :: undef :: undef :: undef :: undef :: undef :: undef :: undef :: undef :: undef :: undef :: undef :: undef :: undef :: undef :: undef :: undef :: undef :: undef :: undef :: undef :: undef :: undef :: []).toArray, []⟩) (by kernel_rfl) ?_
    refine wp_seq ?_
    refine sx_region ?_
    refine sv 2 (.bool false) ?_
    refine sx_nil ?_
    refine sx_then ?_
    refine wp_seq ?_
    refine sx_region ?_
    refine sv 6 (.int .i64 n) ?_
    refine se 7 15 #[.int .i64 n] (fun Gx hGx => ?_)
    ((with_reducible refine (ln2_no n _ (by omega)).mono ?_))
    rintro eV1 V1 ⟨rfl, hbV1⟩
    have hzV1 := hbV1.size
    refine ⟨.tuple #[.agg #[.bool false, .slice none 0 0, .int .i64 0, .bool false, .slice none 0 0, .int .i64 0], .int .i64 3], rfl, hGx _ _ ?_⟩
    clear hGx Gx
    refine sv 5 (.tuple #[.agg #[.bool false, .slice none 0 0, .int .i64 0, .bool false, .slice none 0 0, .int .i64 0], .int .i64 3]) ?_
    refine sv 8 (.agg #[.bool false, .slice none 0 0, .int .i64 0, .bool false, .slice none 0 0, .int .i64 0]) ?_
    refine sv 9 (.int .i64 3) ?_
    refine sn 3 #[.bool false, .slice none 0 0, .int .i64 0, .bool false, .slice none 0 0, .int .i64 0] 27 (fun V2 hbV2 hzV2 b3 => ?_)
    refine ss none b3 hT27 0 #[.bool false, .slice none 0 0, .int .i64 0, .bool false, .slice none 0 0, .int .i64 0] #[.bool false, .slice none 0 0, .int .i64 0, .bool false, .slice none 0 0, .int .i64 0] ?_
    have boV3 := b3
    clear b3
    intro V3 hOV3 b3
    have hzV3 := hOV3.size
    refine sv 4 (.int .i64 3) ?_
    refine sx_nil ?_
    refine sx_then ?_
    refine wp_seq ?_
    refine wp_seq ?_
    refine sx_region ?_
    refine sv 10 (.int .i64 n) ?_
    refine sv 11 (.bool true) ?_ (hr := ((show _ = Result.ok (Next.value (.bool (decide (n < 10)))) _ from (by kernel_rfl)).trans (congrArg (fun z => Result.ok (Next.value (.bool z)) _) (show (decide (n < 10)) = true from decide_eq_true h1))))
    refine sv 12 (.bool true) ?_
    refine so (some 13) ?_
    refine so (some 14) ?_
    refine sv 15 (.bool true) ?_
    refine sx_nil ?_
    refine sx_then ?_
    refine wp_cond_true (by kernel_rfl) ?_
    refine wp_seq ?_
    refine sx_region ?_
    replace hT := (hT.past ((bthru hbV1 hbV2).trans (hOV3.below (by omega))))
    refine se 16 10 #[] (fun Gx hGx => ?_)
    ((with_reducible refine (seriesBegun_any _ hT).mono ?_))
    rintro eV4 V4 ⟨rfl, hbV4⟩
    have hzV4 := hbV4.size
    refine ⟨.bool true, rfl, hGx _ _ ?_⟩
    clear hGx Gx
    refine sv 17 (.bool true) ?_
    refine sv 18 (.int .i64 3) ?_
    refine sv 19 (.bool true) ?_
    refine sv 20 (.bool true) ?_
    refine sv 21 (.bool true) ?_
    replace b3 := (b3.past hbV4)
    refine sv 22 (.agg #[.bool false, .slice none 0 0, .int .i64 0, .bool false, .slice none 0 0, .int .i64 0]) ?_ (hr := (exec_ld (by kernel_rfl) (run_ld b3 hT27 0 [.bool false, .slice none 0 0, .int .i64 0, .bool false, .slice none 0 0, .int .i64 0] (by kernel_rfl) (by kernel_rfl))))
    refine sv 23 (.agg #[.bool false, .slice none 0 0, .int .i64 0, .bool false, .slice none 0 0, .int .i64 0]) ?_
    refine se 24 11 #[.agg #[.bool false, .slice none 0 0, .int .i64 0, .bool false, .slice none 0 0, .int .i64 0], .agg #[.bool false, .slice none 0 0, .int .i64 0, .bool false, .slice none 0 0, .int .i64 0]] (fun Gx hGx => ?_)
    ((with_reducible refine (rsamezero _).mono ?_))
    rintro eV5 V5 ⟨rfl, hbV5⟩
    have hzV5 := hbV5.size
    refine ⟨.bool true, rfl, hGx _ _ ?_⟩
    clear hGx Gx
    refine sv 25 (.bool true) ?_
    refine sv 2 (.bool true) ?_
    refine sx_nil ?_
    refine sx_then ?_
    refine wp_ret ?_
    repeat (first | with_reducible refine sx_thenret ?_ | with_reducible refine sx_blockret ?_)
    refine bodyPost_ret (v := .bool true) (by simp [results, Tryd.results4, go_sem]) rfl ?_
    exact ⟨rfl, (bthru (bthru ((bthru hbV1 hbV2).trans (hOV3.below (by omega))) hbV4) hbV5)⟩
  · by_cases h2 : n > 1000
    · skip
      have hT27 : SxAgg Tryd.prog 27 6 := sxAgg_of (by kernel_rfl) (by kernel_rfl)
      refine calls_of_wp Tryd.func4 rfl ?_
      refine sx_frame (a' := ⟨((.int .i64 n) :: undef :: undef :: undef :: undef :: undef :: undef :: undef :: undef :: undef :: undef :: undef :: undef :: undef :: undef :: undef :: undef :: undef :: undef :: undef :: undef :: undef :: undef :: undef :: undef :: undef :: undef :: undef :: undef :: undef :: undef :: undef :: undef :: undef :: undef :: undef :: undef :: undef :: undef :: undef :: undef :: undef :: undef :: []).toArray, []⟩) (by kernel_rfl) ?_
      refine wp_seq ?_
      refine sx_region ?_
      refine sv 2 (.bool false) ?_
      refine sx_nil ?_
      refine sx_then ?_
      refine wp_seq ?_
      refine sx_region ?_
      refine sv 6 (.int .i64 n) ?_
      refine se 7 15 #[.int .i64 n] (fun Gx hGx => ?_)
      ((with_reducible refine (ln2_no n _ (by omega)).mono ?_))
      rintro eV1 V1 ⟨rfl, hbV1⟩
      have hzV1 := hbV1.size
      refine ⟨.tuple #[.agg #[.bool false, .slice none 0 0, .int .i64 0, .bool false, .slice none 0 0, .int .i64 0], .int .i64 3], rfl, hGx _ _ ?_⟩
      clear hGx Gx
      refine sv 5 (.tuple #[.agg #[.bool false, .slice none 0 0, .int .i64 0, .bool false, .slice none 0 0, .int .i64 0], .int .i64 3]) ?_
      refine sv 8 (.agg #[.bool false, .slice none 0 0, .int .i64 0, .bool false, .slice none 0 0, .int .i64 0]) ?_
      refine sv 9 (.int .i64 3) ?_
      refine sn 3 #[.bool false, .slice none 0 0, .int .i64 0, .bool false, .slice none 0 0, .int .i64 0] 27 (fun V2 hbV2 hzV2 b3 => ?_)
      refine ss none b3 hT27 0 #[.bool false, .slice none 0 0, .int .i64 0, .bool false, .slice none 0 0, .int .i64 0] #[.bool false, .slice none 0 0, .int .i64 0, .bool false, .slice none 0 0, .int .i64 0] ?_
      have boV3 := b3
      clear b3
      intro V3 hOV3 b3
      have hzV3 := hOV3.size
      refine sv 4 (.int .i64 3) ?_
      refine sx_nil ?_
      refine sx_then ?_
      refine wp_seq ?_
      refine wp_seq ?_
      refine sx_region ?_
      refine sv 10 (.int .i64 n) ?_
      refine sv 11 (.bool false) ?_ (hr := ((show _ = Result.ok (Next.value (.bool (decide (n < 10)))) _ from (by kernel_rfl)).trans (congrArg (fun z => Result.ok (Next.value (.bool z)) _) (show (decide (n < 10)) = false from decide_eq_false h1))))
      refine sv 12 (.bool false) ?_
      refine sv 13 (.int .i64 n) ?_
      refine sv 14 (.bool true) ?_ (hr := ((show _ = Result.ok (Next.value (.bool (decide (n > 1000)))) _ from (by kernel_rfl)).trans (congrArg (fun z => Result.ok (Next.value (.bool z)) _) (show (decide (n > 1000)) = true from decide_eq_true h2))))
      refine sv 15 (.bool true) ?_
      refine sx_nil ?_
      refine sx_then ?_
      refine wp_cond_true (by kernel_rfl) ?_
      refine wp_seq ?_
      refine sx_region ?_
      replace hT := (hT.past ((bthru hbV1 hbV2).trans (hOV3.below (by omega))))
      refine se 16 10 #[] (fun Gx hGx => ?_)
      ((with_reducible refine (seriesBegun_any _ hT).mono ?_))
      rintro eV4 V4 ⟨rfl, hbV4⟩
      have hzV4 := hbV4.size
      refine ⟨.bool true, rfl, hGx _ _ ?_⟩
      clear hGx Gx
      refine sv 17 (.bool true) ?_
      refine sv 18 (.int .i64 3) ?_
      refine sv 19 (.bool true) ?_
      refine sv 20 (.bool true) ?_
      refine sv 21 (.bool true) ?_
      replace b3 := (b3.past hbV4)
      refine sv 22 (.agg #[.bool false, .slice none 0 0, .int .i64 0, .bool false, .slice none 0 0, .int .i64 0]) ?_ (hr := (exec_ld (by kernel_rfl) (run_ld b3 hT27 0 [.bool false, .slice none 0 0, .int .i64 0, .bool false, .slice none 0 0, .int .i64 0] (by kernel_rfl) (by kernel_rfl))))
      refine sv 23 (.agg #[.bool false, .slice none 0 0, .int .i64 0, .bool false, .slice none 0 0, .int .i64 0]) ?_
      refine se 24 11 #[.agg #[.bool false, .slice none 0 0, .int .i64 0, .bool false, .slice none 0 0, .int .i64 0], .agg #[.bool false, .slice none 0 0, .int .i64 0, .bool false, .slice none 0 0, .int .i64 0]] (fun Gx hGx => ?_)
      ((with_reducible refine (rsamezero _).mono ?_))
      rintro eV5 V5 ⟨rfl, hbV5⟩
      have hzV5 := hbV5.size
      refine ⟨.bool true, rfl, hGx _ _ ?_⟩
      clear hGx Gx
      refine sv 25 (.bool true) ?_
      refine sv 2 (.bool true) ?_
      refine sx_nil ?_
      refine sx_then ?_
      refine wp_ret ?_
      repeat (first | with_reducible refine sx_thenret ?_ | with_reducible refine sx_blockret ?_)
      refine bodyPost_ret (v := .bool true) (by simp [results, Tryd.results4, go_sem]) rfl ?_
      exact ⟨rfl, (bthru (bthru ((bthru hbV1 hbV2).trans (hOV3.below (by omega))) hbV4) hbV5)⟩
    · obtain ⟨b, rfl⟩ : ∃ b : Nat, n = b := ⟨n.toNat, by omega⟩
      have href := ref_ln (p := b + 100) (by omega) (by omega)
      obtain ⟨m, hm⟩ : ∃ m, m = lsum (b + 100) (b + 100) := ⟨_, rfl⟩
      have hk : Near m (b + 100) (Xln 1200) := by rw [hm]; exact href
      have hmb : blen m ≤ 7000 := by rw [hm]; exact blen_bd (k := 2) (P := b + 100) (Nat.le_trans (Nat.le_add_right _ _) (lsum_le (b + 100) (b + 100) (Nat.le_refl _))) (by omega) (by omega)
      have HR := fun W => Lib.hid (ln2Of_any _ (b + 100) W rfl (by omega))
      rw [← hm] at HR
      have hT27 : SxAgg Tryd.prog 27 6 := sxAgg_of (by kernel_rfl) (by kernel_rfl)
      refine calls_of_wp Tryd.func4 rfl ?_
      refine sx_frame (a' := ⟨((.int .i64 ((b : Nat) : Int)) :: undef :: undef :: undef :: undef :: undef :: undef :: undef :: undef :: undef :: undef :: undef :: undef :: undef :: undef :: undef :: undef :: undef :: undef :: undef :: undef :: undef :: undef :: undef :: undef :: undef :: undef :: undef :: undef :: undef :: undef :: undef :: undef :: undef :: undef :: undef :: undef :: undef :: undef :: undef :: undef :: undef :: undef :: []).toArray, []⟩) (by kernel_rfl) ?_
      refine wp_seq ?_
      refine sx_region ?_
      refine sv 2 (.bool false) ?_
      refine sx_nil ?_
      refine sx_then ?_
      refine wp_seq ?_
      refine sx_region ?_
      refine sv 6 (.int .i64 ((b : Nat) : Int)) ?_
      refine se 7 15 #[.int .i64 ((b : Nat) : Int)] (fun Gx hGx => ?_)
      ((with_reducible refine (ln2Z_ok _ b rfl _ (by omega) (by omega) hT).mono ?_))
      rintro eV1 V1 ⟨L, H, hB, p7, c7, q7, d7, rfl, ho7, hq7, hbV1⟩
      have hzV1 := hbV1.size
      refine ⟨.tuple #[.agg #[.bool ((norm L (-((b + 20 : Nat) : Int))).neg), .slice p7 (dig B32 (norm L (-((b + 20 : Nat) : Int))).m).length c7, .int .i64 ((norm L (-((b + 20 : Nat) : Int))).e), .bool ((norm H (-((b + 20 : Nat) : Int))).neg), .slice q7 (dig B32 (norm H (-((b + 20 : Nat) : Int))).m).length d7, .int .i64 ((norm H (-((b + 20 : Nat) : Int))).e)], .int .i64 0], rfl, hGx _ _ ?_⟩
      clear hGx Gx
      refine sv 5 (.tuple #[.agg #[.bool ((norm L (-((b + 20 : Nat) : Int))).neg), .slice p7 (dig B32 (norm L (-((b + 20 : Nat) : Int))).m).length c7, .int .i64 ((norm L (-((b + 20 : Nat) : Int))).e), .bool ((norm H (-((b + 20 : Nat) : Int))).neg), .slice q7 (dig B32 (norm H (-((b + 20 : Nat) : Int))).m).length d7, .int .i64 ((norm H (-((b + 20 : Nat) : Int))).e)], .int .i64 0]) ?_
      refine sv 8 (.agg #[.bool ((norm L (-((b + 20 : Nat) : Int))).neg), .slice p7 (dig B32 (norm L (-((b + 20 : Nat) : Int))).m).length c7, .int .i64 ((norm L (-((b + 20 : Nat) : Int))).e), .bool ((norm H (-((b + 20 : Nat) : Int))).neg), .slice q7 (dig B32 (norm H (-((b + 20 : Nat) : Int))).m).length d7, .int .i64 ((norm H (-((b + 20 : Nat) : Int))).e)]) ?_
      refine sv 9 (.int .i64 0) ?_
      refine sn 3 #[.bool false, .slice none 0 0, .int .i64 0, .bool false, .slice none 0 0, .int .i64 0] 27 (fun V2 hbV2 hzV2 b3 => ?_)
      refine ss none b3 hT27 0 #[.bool ((norm L (-((b + 20 : Nat) : Int))).neg), .slice p7 (dig B32 (norm L (-((b + 20 : Nat) : Int))).m).length c7, .int .i64 ((norm L (-((b + 20 : Nat) : Int))).e), .bool ((norm H (-((b + 20 : Nat) : Int))).neg), .slice q7 (dig B32 (norm H (-((b + 20 : Nat) : Int))).m).length d7, .int .i64 ((norm H (-((b + 20 : Nat) : Int))).e)] #[.bool ((norm L (-((b + 20 : Nat) : Int))).neg), .slice p7 (dig B32 (norm L (-((b + 20 : Nat) : Int))).m).length c7, .int .i64 ((norm L (-((b + 20 : Nat) : Int))).e), .bool ((norm H (-((b + 20 : Nat) : Int))).neg), .slice q7 (dig B32 (norm H (-((b + 20 : Nat) : Int))).m).length d7, .int .i64 ((norm H (-((b + 20 : Nat) : Int))).e)] ?_
      have boV3 := b3
      clear b3
      intro V3 hOV3 b3
      have hzV3 := hOV3.size
      refine sv 4 (.int .i64 0) ?_
      refine sx_nil ?_
      refine sx_then ?_
      refine wp_seq ?_
      refine wp_seq ?_
      refine sx_region ?_
      refine sv 10 (.int .i64 ((b : Nat) : Int)) ?_
      refine sv 11 (.bool false) ?_ (hr := ((show _ = Result.ok (Next.value (.bool (decide (((b : Nat) : Int) < 10)))) _ from (by kernel_rfl)).trans (congrArg (fun z => Result.ok (Next.value (.bool z)) _) (show (decide (((b : Nat) : Int) < 10)) = false from decide_eq_false h1))))
      refine sv 12 (.bool false) ?_
      refine sv 13 (.int .i64 ((b : Nat) : Int)) ?_
      refine sv 14 (.bool false) ?_ (hr := ((show _ = Result.ok (Next.value (.bool (decide (((b : Nat) : Int) > 1000)))) _ from (by kernel_rfl)).trans (congrArg (fun z => Result.ok (Next.value (.bool z)) _) (show (decide (((b : Nat) : Int) > 1000)) = false from decide_eq_false h2))))
      refine sv 15 (.bool false) ?_
      refine sx_nil ?_
      refine sx_then ?_
      refine wp_cond_false (by kernel_rfl) ?_
      refine wp_skip ?_
      refine sx_then ?_
      refine wp_seq ?_
      obtain ⟨V4, hVV4⟩ : ∃ V, V = (V3).drew := ⟨_, rfl⟩
      have hbV4 : Below (V3).heap.size (V3) V4 := by rw [hVV4]; exact (Below.refl _ _).drew
      have hzV4 : V4.heap.size = (V3).heap.size := by rw [hVV4]; rfl
      replace b3 := (b3.past hbV4)
      refine sxd _ (fun w' => Bt w' V1.heap.size 27 #[.bool ((norm L (-((b + 20 : Nat) : Int))).neg), .slice p7 (dig B32 (norm L (-((b + 20 : Nat) : Int))).m).length c7, .int .i64 ((norm L (-((b + 20 : Nat) : Int))).e), .bool ((norm H (-((b + 20 : Nat) : Int))).neg), .slice q7 (dig B32 (norm H (-((b + 20 : Nat) : Int))).m).length d7, .int .i64 ((norm H (-((b + 20 : Nat) : Int))).e)]) hVV4 b3 ?_
      clear hVV4
      refine sxr [0] ?_
      refine rd1 (fun Kx hKx => ?_)
      replace hT := (hT.past (bthru ((bthru hbV1 hbV2).trans (hOV3.below (by omega))) hbV4))
      refine sek 26 10 #[] ?_
      ((with_reducible refine (seriesBegun_any _ hT).mono ?_))
      rintro eV5 V5 ⟨rfl, hbV5⟩
      have hzV5 := hbV5.size
      refine ⟨.bool true, rfl, ?_⟩
      replace b3 := (b3.past hbV5)
      refine hKx.out _ _ b3 ?_
      clear hKx Kx
      refine tk 1 27 (.bool true) b3 ?_
      refine tk 2 28 (.int .i64 0) b3 ?_
      refine tk 3 29 (.bool true) b3 ?_
      refine tk 4 30 (.bool true) b3 ?_
      refine tk 5 31 (.bool true) b3 ?_
      refine tk 6 32 (.agg #[.bool ((norm L (-((b + 20 : Nat) : Int))).neg), .slice p7 (dig B32 (norm L (-((b + 20 : Nat) : Int))).m).length c7, .int .i64 ((norm L (-((b + 20 : Nat) : Int))).e), .bool ((norm H (-((b + 20 : Nat) : Int))).neg), .slice q7 (dig B32 (norm H (-((b + 20 : Nat) : Int))).m).length d7, .int .i64 ((norm H (-((b + 20 : Nat) : Int))).e)]) b3 ?_ (hy := fun w' hS => (exec_ld (by kernel_rfl) (run_ld hS hT27 0 [.bool ((norm L (-((b + 20 : Nat) : Int))).neg), .slice p7 (dig B32 (norm L (-((b + 20 : Nat) : Int))).m).length c7, .int .i64 ((norm L (-((b + 20 : Nat) : Int))).e), .bool ((norm H (-((b + 20 : Nat) : Int))).neg), .slice q7 (dig B32 (norm H (-((b + 20 : Nat) : Int))).m).length d7, .int .i64 ((norm H (-((b + 20 : Nat) : Int))).e)] (by kernel_rfl) (by kernel_rfl))))
      refine tk 7 33 (.int .i64 ((b : Nat) : Int)) b3 ?_
      refine tk 8 34 (.int .i64 ((b + 100 : Nat) : Int)) b3 ?_ (hy := fun w' _ => ((show _ = Result.ok (Next.value (.int .i64 (IntKind.wrap .i64 (((b : Nat) : Int) + 100)))) _ by kernel_rfl).trans (congrArg (fun z => Result.ok (Next.value (.int .i64 z)) _) ((by rw [show ((b : Nat) : Int) + 100 = ((b + 100 : Nat) : Int) by omega]; exact IntWalk.i64_in _ (by omega))))))
      refine tk 11 37 (.int .i64 ((b : Nat) : Int)) b3 ?_
      refine tk 12 38 (.int .i64 ((b + 100 : Nat) : Int)) b3 ?_ (hy := fun w' _ => ((show _ = Result.ok (Next.value (.int .i64 (IntKind.wrap .i64 (((b : Nat) : Int) + 100)))) _ by kernel_rfl).trans (congrArg (fun z => Result.ok (Next.value (.int .i64 z)) _) ((by rw [show ((b : Nat) : Int) + 100 = ((b + 100 : Nat) : Int) by omega]; exact IntWalk.i64_in _ (by omega))))))
      refine tk 14 40 (.int .i64 ((b : Nat) : Int)) b3 ?_
      refine sxr [9] ?_
      refine rd1 (fun Kx hKx => ?_)
      refine sek 35 16 #[.int .i64 ((b + 100 : Nat) : Int)] ?_
      ((with_reducible refine ((HR _).out).mono ?_))
      rintro eV6 V6 ⟨p35, c35, rfl, x35, hbV6⟩
      have hzV6 := hbV6.size
      have lx35 := fun h => x35.lt h
      refine ⟨.agg #[.bool false, .slice p35 (dig B16 m).length c35], rfl, ?_⟩
      replace b3 := (b3.past hbV6)
      refine hKx.out _ _ b3 ?_
      clear hKx Kx
      refine tk 10 36 (.slice p35 (dig B16 m).length c35) b3 ?_
      refine sxr [13] ?_
      refine rd1 (fun Kx hKx => ?_)
      refine sek 39 13 #[.slice p35 (dig B16 m).length c35, .int .i64 ((b + 100 : Nat) : Int)] ?_
      ((with_reducible refine (narrow_any m (b + 100) _ p35 c35 _ rfl (by omega) x35.rd (by unfold Small; rw [Int.natAbs_natCast]; omega)).mono ?_))
      rintro eV7 V7 ⟨p39, c39, q39, d39, rfl, x39, y39, hbV7⟩
      have hzV7 := hbV7.size
      have lx39 := fun h => x39.lt h
      have ly39 := fun h => y39.lt h
      refine ⟨.agg #[.bool ((norm ((m : Int) - 1099511627776) (-((b + 100 : Nat) : Int))).neg), .slice p39 (dig B16 (norm ((m : Int) - 1099511627776) (-((b + 100 : Nat) : Int))).m).length c39, .int .i64 ((norm ((m : Int) - 1099511627776) (-((b + 100 : Nat) : Int))).e), .bool ((norm ((m : Int) + 1099511627776) (-((b + 100 : Nat) : Int))).neg), .slice q39 (dig B16 (norm ((m : Int) + 1099511627776) (-((b + 100 : Nat) : Int))).m).length d39, .int .i64 ((norm ((m : Int) + 1099511627776) (-((b + 100 : Nat) : Int))).e)], rfl, ?_⟩
      replace b3 := (b3.past hbV7)
      refine hKx.out _ _ b3 ?_
      clear hKx Kx
      refine sxr [15] ?_
      refine rd1 (fun Kx hKx => ?_)
      replace ho7 := (ho7.past (bthru (bthru (bthru (bthru (hbV2.trans (hOV3.below (by omega))) hbV4) hbV5) hbV6) hbV7))
      replace hq7 := (hq7.past (bthru (bthru (bthru (bthru (hbV2.trans (hOV3.below (by omega))) hbV4) hbV5) hbV6) hbV7))
      refine sek 41 12 #[.agg #[.bool ((norm L (-((b + 20 : Nat) : Int))).neg), .slice p7 (dig B32 (norm L (-((b + 20 : Nat) : Int))).m).length c7, .int .i64 ((norm L (-((b + 20 : Nat) : Int))).e), .bool ((norm H (-((b + 20 : Nat) : Int))).neg), .slice q7 (dig B32 (norm H (-((b + 20 : Nat) : Int))).m).length d7, .int .i64 ((norm H (-((b + 20 : Nat) : Int))).e)], .agg #[.bool ((norm ((m : Int) - 1099511627776) (-((b + 100 : Nat) : Int))).neg), .slice p39 (dig B16 (norm ((m : Int) - 1099511627776) (-((b + 100 : Nat) : Int))).m).length c39, .int .i64 ((norm ((m : Int) - 1099511627776) (-((b + 100 : Nat) : Int))).e), .bool ((norm ((m : Int) + 1099511627776) (-((b + 100 : Nat) : Int))).neg), .slice q39 (dig B16 (norm ((m : Int) + 1099511627776) (-((b + 100 : Nat) : Int))).m).length d39, .int .i64 ((norm ((m : Int) + 1099511627776) (-((b + 100 : Nat) : Int))).e)], .int .i64 ((b : Nat) : Int)] ?_
      ((with_reducible refine (bracketB_any Xln b m L H _ p7 q7 p39 q39 c7 d7 c39 d39 _ _ _ _ _ rfl (by omega) (by omega) hB hk hmb ho7 hq7 x39 y39).mono ?_))
      rintro eV8 V8 ⟨rfl, hbV8⟩
      have hzV8 := hbV8.size
      refine ⟨.bool true, rfl, ?_⟩
      replace b3 := (b3.past hbV8)
      refine hKx.out _ _ b3 ?_
      clear hKx Kx
      refine tk 16 42 (.bool true) b3 ?_
      refine tk 17 2 (.bool true) b3 ?_
      refine sx_done (by kernel_rfl) ?_
      refine sx_then ?_
      refine wp_ret ?_
      repeat (first | with_reducible refine sx_thenret ?_ | with_reducible refine sx_blockret ?_)
      refine bodyPost_ret (v := .bool true) (by simp [results, Tryd.results4, go_sem]) rfl ?_
      exact ⟨rfl, (bthru (bthru (bthru (bthru (bthru ((bthru hbV1 hbV2).trans (hOV3.below (by omega))) hbV4) hbV5) hbV6) hbV7) hbV8)⟩

end Go.Proofs.YtehodhanojgkgaaDoor
