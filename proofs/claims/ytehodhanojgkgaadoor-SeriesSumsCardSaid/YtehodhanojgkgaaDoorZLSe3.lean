/- The laws SeriesSums, SeriesNested: their walks. -/
import Derived.Test.YtehodhanojgkgaaDoorZLSe2
namespace Go.Proofs.YtehodhanojgkgaaDoor
open Go.RowKit Go.Slip

/-- What a call of a series leaves where nothing is wrong; where something is. -/
def GivesNo (w : World) (en : Ending) (w' : World) : Prop := en = .returned (.tuple #[.agg #[.bool false, .slice none 0 0, .int .i64 0, .bool false, .slice none 0 0, .int .i64 0], .int .i64 3]) ∧ Below w.heap.size w w'

set_option maxHeartbeats 2000000 in
set_option maxRecDepth 100000 in
theorem sums_ok (n b : Nat) (t : Bool) (w : World) (hn : 2 ≤ n) (hn2 : n ≤ 1000) (hb1 : 10 ≤ b) (hb2 : b ≤ 1000) (hT : TabW w) :
    Calls Tryd.prog 48 #[.int .i64 ((n : Nat) : Int), .int .i64 ((b : Nat) : Int), .bool t] w (GivesXE w (An t n) (b + 20)) := by
  have hT27 : SxAgg Tryd.prog 27 6 := sxAgg_of (by kernel_rfl) (by kernel_rfl)
  refine calls_of_wp Tryd.func48 rfl ?_
  refine sx_frame (a' := ⟨((.int .i64 ((n : Nat) : Int)) :: (.int .i64 ((b : Nat) : Int)) :: (.bool t) :: undef :: undef :: undef :: undef :: undef :: undef :: undef :: undef :: undef :: undef :: undef :: undef :: undef :: undef :: undef :: undef :: undef :: undef :: undef :: undef :: undef :: undef :: []).toArray, []⟩) (by kernel_rfl) ?_
  refine wp_seq ?_
  refine sx_region ?_
  refine sn 6 #[.bool false, .slice none 0 0, .int .i64 0, .bool false, .slice none 0 0, .int .i64 0] 27 (fun V1 hbV1 hzV1 b6 => ?_)
  refine sv 7 (.int .i64 0) ?_
  refine sx_nil ?_
  refine sx_then ?_
  refine wp_seq ?_
  refine wp_seq ?_
  refine sx_region ?_
  refine sv 8 (.int .i64 ((b : Nat) : Int)) ?_
  refine se 9 33 #[.int .i64 ((b : Nat) : Int), .int .i64 10, .int .i64 1000] (fun Gx hGx => ?_)
  ((with_reducible refine (within_any _ 10 1000 _).mono ?_))
  rintro eV2 V2 ⟨rfl, hbV2⟩
  have hzV2 := hbV2.size
  rw [show (decide ((10 : Int) ≤ ((b : Nat) : Int) ∧ ((b : Nat) : Int) ≤ 1000)) = true from decide_eq_true (by omega)]
  refine ⟨.bool true, rfl, hGx _ _ ?_⟩
  clear hGx Gx
  refine sv 10 (.bool false) ?_
  refine sv 11 (.bool false) ?_
  refine sv 12 (.int .i64 ((n : Nat) : Int)) ?_
  refine se 13 33 #[.int .i64 ((n : Nat) : Int), .int .i64 2, .int .i64 1000] (fun Gx hGx => ?_)
  ((with_reducible refine (within_any _ 2 1000 _).mono ?_))
  rintro eV3 V3 ⟨rfl, hbV3⟩
  have hzV3 := hbV3.size
  rw [show (decide ((2 : Int) ≤ ((n : Nat) : Int) ∧ ((n : Nat) : Int) ≤ 1000)) = true from decide_eq_true (by omega)]
  refine ⟨.bool true, rfl, hGx _ _ ?_⟩
  clear hGx Gx
  refine sv 14 (.bool false) ?_
  refine sv 15 (.bool false) ?_
  refine sx_nil ?_
  refine sx_then ?_
  refine wp_cond_false (by kernel_rfl) ?_
  refine wp_skip ?_
  refine sx_then ?_
  refine wp_seq ?_
  refine sx_region ?_
  refine sv 17 (.int .i64 ((n : Nat) : Int)) ?_
  refine sv 18 (.int .i64 ((b : Nat) : Int)) ?_
  refine sv 19 (.int .i64 ((b + 20 : Nat) : Int)) ?_ (hr := ((show _ = Result.ok (Next.value (.int .i64 (IntKind.wrap .i64 (((b : Nat) : Int) + 20)))) _ by kernel_rfl).trans (congrArg (fun z => Result.ok (Next.value (.int .i64 z)) _) ((by rw [show ((b : Nat) : Int) + 20 = ((b + 20 : Nat) : Int) by omega]; exact IntWalk.i64_in _ (by omega))))))
  refine sv 20 (.bool t) ?_
  replace hT := (hT.past (bthru (bthru hbV1 hbV2) hbV3))
  refine se 21 60 #[.int .i64 ((n : Nat) : Int), .int .i64 ((b + 20 : Nat) : Int), .bool t] (fun Gx hGx => ?_)
  ((with_reducible refine (oddO_any _ _ n (b + 20) t _ rfl rfl (by omega) (by omega) (by omega) hT).mono ?_))
  rintro eV4 V4 ⟨J, hk, p21, c21, q21, d21, rfl, ho21, hq21, hbV4⟩
  have hzV4 := hbV4.size
  refine ⟨.agg #[.bool ((norm (sI t n (b + 20) J - oddO J) (-((b + 20 : Nat) : Int))).neg), .slice p21 (dig B32 (norm (sI t n (b + 20) J - oddO J) (-((b + 20 : Nat) : Int))).m).length c21, .int .i64 ((norm (sI t n (b + 20) J - oddO J) (-((b + 20 : Nat) : Int))).e), .bool ((norm (sI t n (b + 20) J + oddO J) (-((b + 20 : Nat) : Int))).neg), .slice q21 (dig B32 (norm (sI t n (b + 20) J + oddO J) (-((b + 20 : Nat) : Int))).m).length d21, .int .i64 ((norm (sI t n (b + 20) J + oddO J) (-((b + 20 : Nat) : Int))).e)], rfl, hGx _ _ ?_⟩
  clear hGx Gx
  refine se 22 35 #[.agg #[.bool ((norm (sI t n (b + 20) J - oddO J) (-((b + 20 : Nat) : Int))).neg), .slice p21 (dig B32 (norm (sI t n (b + 20) J - oddO J) (-((b + 20 : Nat) : Int))).m).length c21, .int .i64 ((norm (sI t n (b + 20) J - oddO J) (-((b + 20 : Nat) : Int))).e), .bool ((norm (sI t n (b + 20) J + oddO J) (-((b + 20 : Nat) : Int))).neg), .slice q21 (dig B32 (norm (sI t n (b + 20) J + oddO J) (-((b + 20 : Nat) : Int))).m).length d21, .int .i64 ((norm (sI t n (b + 20) J + oddO J) (-((b + 20 : Nat) : Int))).e)]] (fun Gx hGx => ?_)
  ((with_reducible refine (sdone _ _ (b + 20) w.heap.size p21 q21 c21 d21 _ (by omega) (ho21.mono (by omega)) (hq21.mono (by omega)) (odd_small t (by omega) (by omega) (by omega) hk).1 (odd_small t (by omega) (by omega) (by omega) hk).2).mono ?_))
  rintro eV5 V5 ⟨p22, c22, q22, d22, rfl, ho22, hq22, hbV5⟩
  have hzV5 := hbV5.size
  refine ⟨.tuple #[.agg #[.bool ((norm (sI t n (b + 20) J - oddO J) (-((b + 20 : Nat) : Int))).neg), .slice p22 (dig B32 (norm (sI t n (b + 20) J - oddO J) (-((b + 20 : Nat) : Int))).m).length c22, .int .i64 ((norm (sI t n (b + 20) J - oddO J) (-((b + 20 : Nat) : Int))).e), .bool ((norm (sI t n (b + 20) J + oddO J) (-((b + 20 : Nat) : Int))).neg), .slice q22 (dig B32 (norm (sI t n (b + 20) J + oddO J) (-((b + 20 : Nat) : Int))).m).length d22, .int .i64 ((norm (sI t n (b + 20) J + oddO J) (-((b + 20 : Nat) : Int))).e)], .int .i64 0], rfl, hGx _ _ ?_⟩
  clear hGx Gx
  refine sv 23 (.agg #[.bool ((norm (sI t n (b + 20) J - oddO J) (-((b + 20 : Nat) : Int))).neg), .slice p22 (dig B32 (norm (sI t n (b + 20) J - oddO J) (-((b + 20 : Nat) : Int))).m).length c22, .int .i64 ((norm (sI t n (b + 20) J - oddO J) (-((b + 20 : Nat) : Int))).e), .bool ((norm (sI t n (b + 20) J + oddO J) (-((b + 20 : Nat) : Int))).neg), .slice q22 (dig B32 (norm (sI t n (b + 20) J + oddO J) (-((b + 20 : Nat) : Int))).m).length d22, .int .i64 ((norm (sI t n (b + 20) J + oddO J) (-((b + 20 : Nat) : Int))).e)]) ?_
  refine sv 24 (.int .i64 0) ?_
  replace b6 := (b6.past (bthru (bthru (bthru hbV2 hbV3) hbV4) hbV5))
  refine ss none b6 hT27 0 #[.bool ((norm (sI t n (b + 20) J - oddO J) (-((b + 20 : Nat) : Int))).neg), .slice p22 (dig B32 (norm (sI t n (b + 20) J - oddO J) (-((b + 20 : Nat) : Int))).m).length c22, .int .i64 ((norm (sI t n (b + 20) J - oddO J) (-((b + 20 : Nat) : Int))).e), .bool ((norm (sI t n (b + 20) J + oddO J) (-((b + 20 : Nat) : Int))).neg), .slice q22 (dig B32 (norm (sI t n (b + 20) J + oddO J) (-((b + 20 : Nat) : Int))).m).length d22, .int .i64 ((norm (sI t n (b + 20) J + oddO J) (-((b + 20 : Nat) : Int))).e)] #[.bool ((norm (sI t n (b + 20) J - oddO J) (-((b + 20 : Nat) : Int))).neg), .slice p22 (dig B32 (norm (sI t n (b + 20) J - oddO J) (-((b + 20 : Nat) : Int))).m).length c22, .int .i64 ((norm (sI t n (b + 20) J - oddO J) (-((b + 20 : Nat) : Int))).e), .bool ((norm (sI t n (b + 20) J + oddO J) (-((b + 20 : Nat) : Int))).neg), .slice q22 (dig B32 (norm (sI t n (b + 20) J + oddO J) (-((b + 20 : Nat) : Int))).m).length d22, .int .i64 ((norm (sI t n (b + 20) J + oddO J) (-((b + 20 : Nat) : Int))).e)] ?_
  have boV6 := b6
  clear b6
  intro V6 hOV6 b6
  have hzV6 := hOV6.size
  refine sv 7 (.int .i64 0) ?_
  refine sx_nil ?_
  refine sx_then ?_
  refine wp_ret ?_
  have ⟨b6_0, b6_1, b6_2, b6_3, b6_4, b6_5⟩ := b6.bx.e6
  repeat (first | with_reducible refine sx_thenret ?_ | with_reducible refine sx_blockret ?_)
  refine bodyPost_ret (v := .tuple #[.agg #[.bool ((norm (sI t n (b + 20) J - oddO J) (-((b + 20 : Nat) : Int))).neg), .slice p22 (dig B32 (norm (sI t n (b + 20) J - oddO J) (-((b + 20 : Nat) : Int))).m).length c22, .int .i64 ((norm (sI t n (b + 20) J - oddO J) (-((b + 20 : Nat) : Int))).e), .bool ((norm (sI t n (b + 20) J + oddO J) (-((b + 20 : Nat) : Int))).neg), .slice q22 (dig B32 (norm (sI t n (b + 20) J + oddO J) (-((b + 20 : Nat) : Int))).m).length d22, .int .i64 ((norm (sI t n (b + 20) J + oddO J) (-((b + 20 : Nat) : Int))).e)], .int .i64 0]) (by simp [results, Tryd.results48, go_sem, b6_0, b6_1, b6_2, b6_3, b6_4, b6_5]) rfl ?_
  replace ho22 := (ho22.put boV6 hOV6 (by kernel_rfl))
  replace hq22 := (hq22.put boV6 hOV6 (by kernel_rfl))
  exact ⟨_, _, odd_ball t (by omega) (by omega) (by omega) hk, p22, c22, q22, d22, rfl, ho22, hq22, ((bthru (bthru (bthru (bthru hbV1 hbV2) hbV3) hbV4) hbV5).trans (hOV6.below (by omega)))⟩

set_option maxHeartbeats 2000000 in
set_option maxRecDepth 100000 in
theorem sums_no (n b : Int) (t : Bool) (w : World) (h : ¬ (10 ≤ b ∧ b ≤ 1000) ∨ ¬ (2 ≤ n ∧ n ≤ 1000)) :
    Calls Tryd.prog 48 #[.int .i64 n, .int .i64 b, .bool t] w (GivesNo w) := by
  by_cases h1 : 10 ≤ b ∧ b ≤ 1000
  · have h2 := h.resolve_left (fun k => k h1)
    have hT27 : SxAgg Tryd.prog 27 6 := sxAgg_of (by kernel_rfl) (by kernel_rfl)
    refine calls_of_wp Tryd.func48 rfl ?_
    refine sx_frame (a' := ⟨((.int .i64 n) :: (.int .i64 b) :: (.bool t) :: undef :: undef :: undef :: undef :: undef :: undef :: undef :: undef :: undef :: undef :: undef :: undef :: undef :: undef :: undef :: undef :: undef :: undef :: undef :: undef :: undef :: undef :: []).toArray, []⟩) (by kernel_rfl) ?_
    refine wp_seq ?_
    refine sx_region ?_
    refine sn 6 #[.bool false, .slice none 0 0, .int .i64 0, .bool false, .slice none 0 0, .int .i64 0] 27 (fun V1 hbV1 hzV1 b6 => ?_)
    refine sv 7 (.int .i64 0) ?_
    refine sx_nil ?_
    refine sx_then ?_
    refine wp_seq ?_
    refine wp_seq ?_
    refine sx_region ?_
    refine sv 8 (.int .i64 b) ?_
    refine se 9 33 #[.int .i64 b, .int .i64 10, .int .i64 1000] (fun Gx hGx => ?_)
    ((with_reducible refine (within_any _ 10 1000 _).mono ?_))
    rintro eV2 V2 ⟨rfl, hbV2⟩
    have hzV2 := hbV2.size
    rw [show (decide ((10 : Int) ≤ b ∧ b ≤ 1000)) = true from decide_eq_true h1]
    refine ⟨.bool true, rfl, hGx _ _ ?_⟩
    clear hGx Gx
    refine sv 10 (.bool false) ?_
    refine sv 11 (.bool false) ?_
    refine sv 12 (.int .i64 n) ?_
    refine se 13 33 #[.int .i64 n, .int .i64 2, .int .i64 1000] (fun Gx hGx => ?_)
    ((with_reducible refine (within_any _ 2 1000 _).mono ?_))
    rintro eV3 V3 ⟨rfl, hbV3⟩
    have hzV3 := hbV3.size
    rw [show (decide ((2 : Int) ≤ n ∧ n ≤ 1000)) = false from decide_eq_false h2]
    refine ⟨.bool false, rfl, hGx _ _ ?_⟩
    clear hGx Gx
    refine sv 14 (.bool true) ?_
    refine sv 15 (.bool true) ?_
    refine sx_nil ?_
    refine sx_then ?_
    refine wp_cond_true (by kernel_rfl) ?_
    refine wp_seq ?_
    refine sx_region ?_
    refine sv 16 (.agg #[.bool false, .slice none 0 0, .int .i64 0, .bool false, .slice none 0 0, .int .i64 0]) ?_
    replace b6 := (b6.past (bthru hbV2 hbV3))
    refine ss none b6 hT27 0 #[.bool false, .slice none 0 0, .int .i64 0, .bool false, .slice none 0 0, .int .i64 0] #[.bool false, .slice none 0 0, .int .i64 0, .bool false, .slice none 0 0, .int .i64 0] ?_
    have boV4 := b6
    clear b6
    intro V4 hOV4 b6
    have hzV4 := hOV4.size
    refine sv 7 (.int .i64 3) ?_
    refine sx_nil ?_
    refine sx_then ?_
    refine wp_ret ?_
    have ⟨b6_0, b6_1, b6_2, b6_3, b6_4, b6_5⟩ := b6.bx.e6
    repeat (first | with_reducible refine sx_thenret ?_ | with_reducible refine sx_blockret ?_)
    refine bodyPost_ret (v := .tuple #[.agg #[.bool false, .slice none 0 0, .int .i64 0, .bool false, .slice none 0 0, .int .i64 0], .int .i64 3]) (by simp [results, Tryd.results48, go_sem, b6_0, b6_1, b6_2, b6_3, b6_4, b6_5]) rfl ?_
    exact ⟨rfl, ((bthru (bthru hbV1 hbV2) hbV3).trans (hOV4.below (by omega)))⟩
  · skip
    have hT27 : SxAgg Tryd.prog 27 6 := sxAgg_of (by kernel_rfl) (by kernel_rfl)
    refine calls_of_wp Tryd.func48 rfl ?_
    refine sx_frame (a' := ⟨((.int .i64 n) :: (.int .i64 b) :: (.bool t) :: undef :: undef :: undef :: undef :: undef :: undef :: undef :: undef :: undef :: undef :: undef :: undef :: undef :: undef :: undef :: undef :: undef :: undef :: undef :: undef :: undef :: undef :: []).toArray, []⟩) (by kernel_rfl) ?_
    refine wp_seq ?_
    refine sx_region ?_
    refine sn 6 #[.bool false, .slice none 0 0, .int .i64 0, .bool false, .slice none 0 0, .int .i64 0] 27 (fun V1 hbV1 hzV1 b6 => ?_)
    refine sv 7 (.int .i64 0) ?_
    refine sx_nil ?_
    refine sx_then ?_
    refine wp_seq ?_
    refine wp_seq ?_
    refine sx_region ?_
    refine sv 8 (.int .i64 b) ?_
    refine se 9 33 #[.int .i64 b, .int .i64 10, .int .i64 1000] (fun Gx hGx => ?_)
    ((with_reducible refine (within_any _ 10 1000 _).mono ?_))
    rintro eV2 V2 ⟨rfl, hbV2⟩
    have hzV2 := hbV2.size
    rw [show (decide ((10 : Int) ≤ b ∧ b ≤ 1000)) = false from decide_eq_false h1]
    refine ⟨.bool false, rfl, hGx _ _ ?_⟩
    clear hGx Gx
    refine sv 10 (.bool true) ?_
    refine sv 11 (.bool true) ?_
    refine so (some 12) ?_
    refine so (some 13) ?_
    refine so (some 14) ?_
    refine sv 15 (.bool true) ?_
    refine sx_nil ?_
    refine sx_then ?_
    refine wp_cond_true (by kernel_rfl) ?_
    refine wp_seq ?_
    refine sx_region ?_
    refine sv 16 (.agg #[.bool false, .slice none 0 0, .int .i64 0, .bool false, .slice none 0 0, .int .i64 0]) ?_
    replace b6 := (b6.past hbV2)
    refine ss none b6 hT27 0 #[.bool false, .slice none 0 0, .int .i64 0, .bool false, .slice none 0 0, .int .i64 0] #[.bool false, .slice none 0 0, .int .i64 0, .bool false, .slice none 0 0, .int .i64 0] ?_
    have boV3 := b6
    clear b6
    intro V3 hOV3 b6
    have hzV3 := hOV3.size
    refine sv 7 (.int .i64 3) ?_
    refine sx_nil ?_
    refine sx_then ?_
    refine wp_ret ?_
    have ⟨b6_0, b6_1, b6_2, b6_3, b6_4, b6_5⟩ := b6.bx.e6
    repeat (first | with_reducible refine sx_thenret ?_ | with_reducible refine sx_blockret ?_)
    refine bodyPost_ret (v := .tuple #[.agg #[.bool false, .slice none 0 0, .int .i64 0, .bool false, .slice none 0 0, .int .i64 0], .int .i64 3]) (by simp [results, Tryd.results48, go_sem, b6_0, b6_1, b6_2, b6_3, b6_4, b6_5]) rfl ?_
    exact ⟨rfl, ((bthru hbV1 hbV2).trans (hOV3.below (by omega)))⟩


set_option maxHeartbeats 2000000 in
set_option maxRecDepth 100000 in
theorem atanh_ok (N B : Int) (n b : Nat) (w : World) (hN : N = n) (hB : B = b) (hn : 2 ≤ n) (hn2 : n ≤ 1000) (hb1 : 10 ≤ b) (hb2 : b ≤ 1000) (hT : TabW w) :
    Calls Tryd.prog 19 #[.int .i64 N, .int .i64 B] w (GivesXE w (An false n) (b + 20)) := by
  subst hN hB
  have hT27 : SxAgg Tryd.prog 27 6 := sxAgg_of (by kernel_rfl) (by kernel_rfl)
  refine calls_of_wp Tryd.func19 rfl ?_
  refine sx_frame (a' := ⟨((.int .i64 ((n : Nat) : Int)) :: (.int .i64 ((b : Nat) : Int)) :: undef :: undef :: undef :: undef :: undef :: undef :: undef :: undef :: undef :: []).toArray, []⟩) (by kernel_rfl) ?_
  refine wp_seq ?_
  refine sx_region ?_
  refine sn 4 #[.bool false, .slice none 0 0, .int .i64 0, .bool false, .slice none 0 0, .int .i64 0] 27 (fun V1 hbV1 hzV1 b4 => ?_)
  refine sv 5 (.int .i64 0) ?_
  refine sx_nil ?_
  refine sx_then ?_
  refine wp_seq ?_
  refine sx_region ?_
  refine sv 6 (.int .i64 ((n : Nat) : Int)) ?_
  refine sv 7 (.int .i64 ((b : Nat) : Int)) ?_
  replace hT := (hT.past hbV1)
  refine se 8 48 #[.int .i64 ((n : Nat) : Int), .int .i64 ((b : Nat) : Int), .bool false] (fun Gx hGx => ?_)
  ((with_reducible refine (sums_ok n b false _ hn hn2 hb1 hb2 hT).mono ?_))
  rintro eV2 V2 ⟨L, H, hB, p8, c8, q8, d8, rfl, ho8, hq8, hbV2⟩
  have hzV2 := hbV2.size
  refine ⟨.tuple #[.agg #[.bool ((norm (L) (-((b + 20 : Nat) : Int))).neg), .slice p8 (dig B32 (norm (L) (-((b + 20 : Nat) : Int))).m).length c8, .int .i64 ((norm (L) (-((b + 20 : Nat) : Int))).e), .bool ((norm (H) (-((b + 20 : Nat) : Int))).neg), .slice q8 (dig B32 (norm (H) (-((b + 20 : Nat) : Int))).m).length d8, .int .i64 ((norm (H) (-((b + 20 : Nat) : Int))).e)], .int .i64 0], rfl, hGx _ _ ?_⟩
  clear hGx Gx
  refine sv 9 (.agg #[.bool ((norm (L) (-((b + 20 : Nat) : Int))).neg), .slice p8 (dig B32 (norm (L) (-((b + 20 : Nat) : Int))).m).length c8, .int .i64 ((norm (L) (-((b + 20 : Nat) : Int))).e), .bool ((norm (H) (-((b + 20 : Nat) : Int))).neg), .slice q8 (dig B32 (norm (H) (-((b + 20 : Nat) : Int))).m).length d8, .int .i64 ((norm (H) (-((b + 20 : Nat) : Int))).e)]) ?_
  refine sv 10 (.int .i64 0) ?_
  replace b4 := (b4.past hbV2)
  refine ss none b4 hT27 0 #[.bool ((norm (L) (-((b + 20 : Nat) : Int))).neg), .slice p8 (dig B32 (norm (L) (-((b + 20 : Nat) : Int))).m).length c8, .int .i64 ((norm (L) (-((b + 20 : Nat) : Int))).e), .bool ((norm (H) (-((b + 20 : Nat) : Int))).neg), .slice q8 (dig B32 (norm (H) (-((b + 20 : Nat) : Int))).m).length d8, .int .i64 ((norm (H) (-((b + 20 : Nat) : Int))).e)] #[.bool ((norm (L) (-((b + 20 : Nat) : Int))).neg), .slice p8 (dig B32 (norm (L) (-((b + 20 : Nat) : Int))).m).length c8, .int .i64 ((norm (L) (-((b + 20 : Nat) : Int))).e), .bool ((norm (H) (-((b + 20 : Nat) : Int))).neg), .slice q8 (dig B32 (norm (H) (-((b + 20 : Nat) : Int))).m).length d8, .int .i64 ((norm (H) (-((b + 20 : Nat) : Int))).e)] ?_
  have boV3 := b4
  clear b4
  intro V3 hOV3 b4
  have hzV3 := hOV3.size
  refine sv 5 (.int .i64 0) ?_
  refine sx_nil ?_
  refine sx_then ?_
  refine wp_ret ?_
  have ⟨b4_0, b4_1, b4_2, b4_3, b4_4, b4_5⟩ := b4.bx.e6
  repeat (first | with_reducible refine sx_thenret ?_ | with_reducible refine sx_blockret ?_)
  refine bodyPost_ret (v := .tuple #[.agg #[.bool ((norm (L) (-((b + 20 : Nat) : Int))).neg), .slice p8 (dig B32 (norm (L) (-((b + 20 : Nat) : Int))).m).length c8, .int .i64 ((norm (L) (-((b + 20 : Nat) : Int))).e), .bool ((norm (H) (-((b + 20 : Nat) : Int))).neg), .slice q8 (dig B32 (norm (H) (-((b + 20 : Nat) : Int))).m).length d8, .int .i64 ((norm (H) (-((b + 20 : Nat) : Int))).e)], .int .i64 0]) (by simp [results, Tryd.results19, go_sem, b4_0, b4_1, b4_2, b4_3, b4_4, b4_5]) rfl ?_
  replace ho8 := (ho8.put boV3 hOV3 (by kernel_rfl))
  replace hq8 := (hq8.put boV3 hOV3 (by kernel_rfl))
  exact ⟨_, _, hB, p8, c8, q8, d8, rfl, ho8.mono (by omega), hq8.mono (by omega), ((bthru hbV1 hbV2).trans (hOV3.below (by omega)))⟩

set_option maxHeartbeats 2000000 in
set_option maxRecDepth 100000 in
theorem atanh_no (n b : Int) (w : World) (h : ¬ (10 ≤ b ∧ b ≤ 1000) ∨ ¬ (2 ≤ n ∧ n ≤ 1000)) :
    Calls Tryd.prog 19 #[.int .i64 n, .int .i64 b] w (GivesNo w) := by
  have hT27 : SxAgg Tryd.prog 27 6 := sxAgg_of (by kernel_rfl) (by kernel_rfl)
  refine calls_of_wp Tryd.func19 rfl ?_
  refine sx_frame (a' := ⟨((.int .i64 n) :: (.int .i64 b) :: undef :: undef :: undef :: undef :: undef :: undef :: undef :: undef :: undef :: []).toArray, []⟩) (by kernel_rfl) ?_
  refine wp_seq ?_
  refine sx_region ?_
  refine sn 4 #[.bool false, .slice none 0 0, .int .i64 0, .bool false, .slice none 0 0, .int .i64 0] 27 (fun V1 hbV1 hzV1 b4 => ?_)
  refine sv 5 (.int .i64 0) ?_
  refine sx_nil ?_
  refine sx_then ?_
  refine wp_seq ?_
  refine sx_region ?_
  refine sv 6 (.int .i64 n) ?_
  refine sv 7 (.int .i64 b) ?_
  refine se 8 48 #[.int .i64 n, .int .i64 b, .bool false] (fun Gx hGx => ?_)
  ((with_reducible refine (sums_no n b false _ h).mono ?_))
  rintro eV2 V2 ⟨rfl, hbV2⟩
  have hzV2 := hbV2.size
  refine ⟨.tuple #[.agg #[.bool false, .slice none 0 0, .int .i64 0, .bool false, .slice none 0 0, .int .i64 0], .int .i64 3], rfl, hGx _ _ ?_⟩
  clear hGx Gx
  refine sv 9 (.agg #[.bool false, .slice none 0 0, .int .i64 0, .bool false, .slice none 0 0, .int .i64 0]) ?_
  refine sv 10 (.int .i64 3) ?_
  replace b4 := (b4.past hbV2)
  refine ss none b4 hT27 0 #[.bool false, .slice none 0 0, .int .i64 0, .bool false, .slice none 0 0, .int .i64 0] #[.bool false, .slice none 0 0, .int .i64 0, .bool false, .slice none 0 0, .int .i64 0] ?_
  have boV3 := b4
  clear b4
  intro V3 hOV3 b4
  have hzV3 := hOV3.size
  refine sv 5 (.int .i64 3) ?_
  refine sx_nil ?_
  refine sx_then ?_
  refine wp_ret ?_
  have ⟨b4_0, b4_1, b4_2, b4_3, b4_4, b4_5⟩ := b4.bx.e6
  repeat (first | with_reducible refine sx_thenret ?_ | with_reducible refine sx_blockret ?_)
  refine bodyPost_ret (v := .tuple #[.agg #[.bool false, .slice none 0 0, .int .i64 0, .bool false, .slice none 0 0, .int .i64 0], .int .i64 3]) (by simp [results, Tryd.results19, go_sem, b4_0, b4_1, b4_2, b4_3, b4_4, b4_5]) rfl ?_
  exact ⟨rfl, ((bthru hbV1 hbV2).trans (hOV3.below (by omega)))⟩

set_option maxHeartbeats 2000000 in
set_option maxRecDepth 100000 in
theorem atan_ok (N B : Int) (n b : Nat) (w : World) (hN : N = n) (hB : B = b) (hn : 2 ≤ n) (hn2 : n ≤ 1000) (hb1 : 10 ≤ b) (hb2 : b ≤ 1000) (hT : TabW w) :
    Calls Tryd.prog 17 #[.int .i64 N, .int .i64 B] w (GivesXE w (An true n) (b + 20)) := by
  subst hN hB
  have hT27 : SxAgg Tryd.prog 27 6 := sxAgg_of (by kernel_rfl) (by kernel_rfl)
  refine calls_of_wp Tryd.func17 rfl ?_
  refine sx_frame (a' := ⟨((.int .i64 ((n : Nat) : Int)) :: (.int .i64 ((b : Nat) : Int)) :: undef :: undef :: undef :: undef :: undef :: undef :: undef :: undef :: undef :: []).toArray, []⟩) (by kernel_rfl) ?_
  refine wp_seq ?_
  refine sx_region ?_
  refine sn 4 #[.bool false, .slice none 0 0, .int .i64 0, .bool false, .slice none 0 0, .int .i64 0] 27 (fun V1 hbV1 hzV1 b4 => ?_)
  refine sv 5 (.int .i64 0) ?_
  refine sx_nil ?_
  refine sx_then ?_
  refine wp_seq ?_
  refine sx_region ?_
  refine sv 6 (.int .i64 ((n : Nat) : Int)) ?_
  refine sv 7 (.int .i64 ((b : Nat) : Int)) ?_
  replace hT := (hT.past hbV1)
  refine se 8 48 #[.int .i64 ((n : Nat) : Int), .int .i64 ((b : Nat) : Int), .bool true] (fun Gx hGx => ?_)
  ((with_reducible refine (sums_ok n b true _ hn hn2 hb1 hb2 hT).mono ?_))
  rintro eV2 V2 ⟨L, H, hB, p8, c8, q8, d8, rfl, ho8, hq8, hbV2⟩
  have hzV2 := hbV2.size
  refine ⟨.tuple #[.agg #[.bool ((norm (L) (-((b + 20 : Nat) : Int))).neg), .slice p8 (dig B32 (norm (L) (-((b + 20 : Nat) : Int))).m).length c8, .int .i64 ((norm (L) (-((b + 20 : Nat) : Int))).e), .bool ((norm (H) (-((b + 20 : Nat) : Int))).neg), .slice q8 (dig B32 (norm (H) (-((b + 20 : Nat) : Int))).m).length d8, .int .i64 ((norm (H) (-((b + 20 : Nat) : Int))).e)], .int .i64 0], rfl, hGx _ _ ?_⟩
  clear hGx Gx
  refine sv 9 (.agg #[.bool ((norm (L) (-((b + 20 : Nat) : Int))).neg), .slice p8 (dig B32 (norm (L) (-((b + 20 : Nat) : Int))).m).length c8, .int .i64 ((norm (L) (-((b + 20 : Nat) : Int))).e), .bool ((norm (H) (-((b + 20 : Nat) : Int))).neg), .slice q8 (dig B32 (norm (H) (-((b + 20 : Nat) : Int))).m).length d8, .int .i64 ((norm (H) (-((b + 20 : Nat) : Int))).e)]) ?_
  refine sv 10 (.int .i64 0) ?_
  replace b4 := (b4.past hbV2)
  refine ss none b4 hT27 0 #[.bool ((norm (L) (-((b + 20 : Nat) : Int))).neg), .slice p8 (dig B32 (norm (L) (-((b + 20 : Nat) : Int))).m).length c8, .int .i64 ((norm (L) (-((b + 20 : Nat) : Int))).e), .bool ((norm (H) (-((b + 20 : Nat) : Int))).neg), .slice q8 (dig B32 (norm (H) (-((b + 20 : Nat) : Int))).m).length d8, .int .i64 ((norm (H) (-((b + 20 : Nat) : Int))).e)] #[.bool ((norm (L) (-((b + 20 : Nat) : Int))).neg), .slice p8 (dig B32 (norm (L) (-((b + 20 : Nat) : Int))).m).length c8, .int .i64 ((norm (L) (-((b + 20 : Nat) : Int))).e), .bool ((norm (H) (-((b + 20 : Nat) : Int))).neg), .slice q8 (dig B32 (norm (H) (-((b + 20 : Nat) : Int))).m).length d8, .int .i64 ((norm (H) (-((b + 20 : Nat) : Int))).e)] ?_
  have boV3 := b4
  clear b4
  intro V3 hOV3 b4
  have hzV3 := hOV3.size
  refine sv 5 (.int .i64 0) ?_
  refine sx_nil ?_
  refine sx_then ?_
  refine wp_ret ?_
  have ⟨b4_0, b4_1, b4_2, b4_3, b4_4, b4_5⟩ := b4.bx.e6
  repeat (first | with_reducible refine sx_thenret ?_ | with_reducible refine sx_blockret ?_)
  refine bodyPost_ret (v := .tuple #[.agg #[.bool ((norm (L) (-((b + 20 : Nat) : Int))).neg), .slice p8 (dig B32 (norm (L) (-((b + 20 : Nat) : Int))).m).length c8, .int .i64 ((norm (L) (-((b + 20 : Nat) : Int))).e), .bool ((norm (H) (-((b + 20 : Nat) : Int))).neg), .slice q8 (dig B32 (norm (H) (-((b + 20 : Nat) : Int))).m).length d8, .int .i64 ((norm (H) (-((b + 20 : Nat) : Int))).e)], .int .i64 0]) (by simp [results, Tryd.results17, go_sem, b4_0, b4_1, b4_2, b4_3, b4_4, b4_5]) rfl ?_
  replace ho8 := (ho8.put boV3 hOV3 (by kernel_rfl))
  replace hq8 := (hq8.put boV3 hOV3 (by kernel_rfl))
  exact ⟨_, _, hB, p8, c8, q8, d8, rfl, ho8.mono (by omega), hq8.mono (by omega), ((bthru hbV1 hbV2).trans (hOV3.below (by omega)))⟩

set_option maxHeartbeats 2000000 in
set_option maxRecDepth 100000 in
theorem atan_no (n b : Int) (w : World) (h : ¬ (10 ≤ b ∧ b ≤ 1000) ∨ ¬ (2 ≤ n ∧ n ≤ 1000)) :
    Calls Tryd.prog 17 #[.int .i64 n, .int .i64 b] w (GivesNo w) := by
  have hT27 : SxAgg Tryd.prog 27 6 := sxAgg_of (by kernel_rfl) (by kernel_rfl)
  refine calls_of_wp Tryd.func17 rfl ?_
  refine sx_frame (a' := ⟨((.int .i64 n) :: (.int .i64 b) :: undef :: undef :: undef :: undef :: undef :: undef :: undef :: undef :: undef :: []).toArray, []⟩) (by kernel_rfl) ?_
  refine wp_seq ?_
  refine sx_region ?_
  refine sn 4 #[.bool false, .slice none 0 0, .int .i64 0, .bool false, .slice none 0 0, .int .i64 0] 27 (fun V1 hbV1 hzV1 b4 => ?_)
  refine sv 5 (.int .i64 0) ?_
  refine sx_nil ?_
  refine sx_then ?_
  refine wp_seq ?_
  refine sx_region ?_
  refine sv 6 (.int .i64 n) ?_
  refine sv 7 (.int .i64 b) ?_
  refine se 8 48 #[.int .i64 n, .int .i64 b, .bool true] (fun Gx hGx => ?_)
  ((with_reducible refine (sums_no n b true _ h).mono ?_))
  rintro eV2 V2 ⟨rfl, hbV2⟩
  have hzV2 := hbV2.size
  refine ⟨.tuple #[.agg #[.bool false, .slice none 0 0, .int .i64 0, .bool false, .slice none 0 0, .int .i64 0], .int .i64 3], rfl, hGx _ _ ?_⟩
  clear hGx Gx
  refine sv 9 (.agg #[.bool false, .slice none 0 0, .int .i64 0, .bool false, .slice none 0 0, .int .i64 0]) ?_
  refine sv 10 (.int .i64 3) ?_
  replace b4 := (b4.past hbV2)
  refine ss none b4 hT27 0 #[.bool false, .slice none 0 0, .int .i64 0, .bool false, .slice none 0 0, .int .i64 0] #[.bool false, .slice none 0 0, .int .i64 0, .bool false, .slice none 0 0, .int .i64 0] ?_
  have boV3 := b4
  clear b4
  intro V3 hOV3 b4
  have hzV3 := hOV3.size
  refine sv 5 (.int .i64 3) ?_
  refine sx_nil ?_
  refine sx_then ?_
  refine wp_ret ?_
  have ⟨b4_0, b4_1, b4_2, b4_3, b4_4, b4_5⟩ := b4.bx.e6
  repeat (first | with_reducible refine sx_thenret ?_ | with_reducible refine sx_blockret ?_)
  refine bodyPost_ret (v := .tuple #[.agg #[.bool false, .slice none 0 0, .int .i64 0, .bool false, .slice none 0 0, .int .i64 0], .int .i64 3]) (by simp [results, Tryd.results17, go_sem, b4_0, b4_1, b4_2, b4_3, b4_4, b4_5]) rfl ?_
  exact ⟨rfl, ((bthru hbV1 hbV2).trans (hOV3.below (by omega)))⟩


theorem an_le (t : Bool) {n P : Nat} (hn : 2 ≤ n) : (An t n P).toNat ≤ 2 * 2 ^ P := by
  have := (sI_bd t (P := P) hn (P + 1)).2
  have e := pow_z P
  unfold An
  omega


set_option maxHeartbeats 8000000 in
set_option maxRecDepth 100000 in
theorem lawSeSum_row (n b : Int) (w : World) (hT : TabW w) :
    Calls Tryd.prog 6 #[.int .i64 n, .int .i64 b] w fun en w' => en = .returned (.bool true) ∧ Below w.heap.size w w' := by
  by_cases h1 : b < 10
  · skip
    have hT27 : SxAgg Tryd.prog 27 6 := sxAgg_of (by kernel_rfl) (by kernel_rfl)
    refine calls_of_wp Tryd.func6 rfl ?_
    refine sx_frame (a' := ⟨((.int .i64 n) :: (.int .i64 b) :: undef :: undef :: undef :: undef :: undef :: undef :: undef :: undef :: undef :: undef :: undef :: undef :: undef :: undef :: undef :: undef :: undef :: undef :: undef :: undef :: undef :: undef :: undef :: undef :: undef :: undef :: undef :: undef :: undef :: undef :: undef :: undef :: undef :: undef :: undef :: undef :: undef :: undef :: undef :: undef :: undef :: undef :: undef :: undef :: undef :: undef :: undef :: undef :: undef :: undef :: undef :: undef :: undef :: undef :: undef :: undef :: undef :: undef :: undef :: undef :: undef :: undef :: undef :: undef :: undef :: undef :: undef :: undef :: undef :: undef :: undef :: undef :: undef :: undef :: undef :: undef :: undef :: undef :: undef :: undef :: undef :: undef :: undef :: undef :: []).toArray, []⟩) (by kernel_rfl) ?_
    refine wp_seq ?_
    refine sx_region ?_
    refine sv 4 (.bool false) ?_
    refine sx_nil ?_
    refine sx_then ?_
    refine wp_seq ?_
    refine sx_region ?_
    refine sv 11 (.int .i64 n) ?_
    refine sv 12 (.int .i64 b) ?_
    refine se 13 19 #[.int .i64 n, .int .i64 b] (fun Gx hGx => ?_)
    ((with_reducible refine (atanh_no n b _ (by omega)).mono ?_))
    rintro eV1 V1 ⟨rfl, hbV1⟩
    have hzV1 := hbV1.size
    refine ⟨.tuple #[.agg #[.bool false, .slice none 0 0, .int .i64 0, .bool false, .slice none 0 0, .int .i64 0], .int .i64 3], rfl, hGx _ _ ?_⟩
    clear hGx Gx
    refine sv 10 (.tuple #[.agg #[.bool false, .slice none 0 0, .int .i64 0, .bool false, .slice none 0 0, .int .i64 0], .int .i64 3]) ?_
    refine sv 14 (.agg #[.bool false, .slice none 0 0, .int .i64 0, .bool false, .slice none 0 0, .int .i64 0]) ?_
    refine sv 15 (.int .i64 3) ?_
    refine sn 5 #[.bool false, .slice none 0 0, .int .i64 0, .bool false, .slice none 0 0, .int .i64 0] 27 (fun V2 hbV2 hzV2 b5 => ?_)
    refine ss none b5 hT27 0 #[.bool false, .slice none 0 0, .int .i64 0, .bool false, .slice none 0 0, .int .i64 0] #[.bool false, .slice none 0 0, .int .i64 0, .bool false, .slice none 0 0, .int .i64 0] ?_
    have boV3 := b5
    clear b5
    intro V3 hOV3 b5
    have hzV3 := hOV3.size
    refine sv 6 (.int .i64 3) ?_
    refine sx_nil ?_
    refine sx_then ?_
    refine wp_seq ?_
    refine sx_region ?_
    refine sv 17 (.int .i64 n) ?_
    refine sv 18 (.int .i64 b) ?_
    refine se 19 17 #[.int .i64 n, .int .i64 b] (fun Gx hGx => ?_)
    ((with_reducible refine (atan_no n b _ (by omega)).mono ?_))
    rintro eV4 V4 ⟨rfl, hbV4⟩
    have hzV4 := hbV4.size
    refine ⟨.tuple #[.agg #[.bool false, .slice none 0 0, .int .i64 0, .bool false, .slice none 0 0, .int .i64 0], .int .i64 3], rfl, hGx _ _ ?_⟩
    clear hGx Gx
    refine sv 16 (.tuple #[.agg #[.bool false, .slice none 0 0, .int .i64 0, .bool false, .slice none 0 0, .int .i64 0], .int .i64 3]) ?_
    refine sv 20 (.agg #[.bool false, .slice none 0 0, .int .i64 0, .bool false, .slice none 0 0, .int .i64 0]) ?_
    refine sv 21 (.int .i64 3) ?_
    refine sn 7 #[.bool false, .slice none 0 0, .int .i64 0, .bool false, .slice none 0 0, .int .i64 0] 27 (fun V5 hbV5 hzV5 b7 => ?_)
    refine ss none b7 hT27 0 #[.bool false, .slice none 0 0, .int .i64 0, .bool false, .slice none 0 0, .int .i64 0] #[.bool false, .slice none 0 0, .int .i64 0, .bool false, .slice none 0 0, .int .i64 0] ?_
    have boV6 := b7
    clear b7
    intro V6 hOV6 b7
    have hzV6 := hOV6.size
    refine sv 8 (.int .i64 3) ?_
    refine sx_nil ?_
    refine sx_then ?_
    refine wp_seq ?_
    refine wp_seq ?_
    refine sx_region ?_
    refine sv 22 (.int .i64 b) ?_
    refine sv 23 (.bool true) ?_ (hr := ((show _ = Result.ok (Next.value (.bool (decide (b < 10)))) _ from (by kernel_rfl)).trans (congrArg (fun z => Result.ok (Next.value (.bool z)) _) (show (decide (b < 10)) = true from decide_eq_true h1))))
    refine sv 24 (.bool true) ?_
    refine so (some 25) ?_
    refine so (some 26) ?_
    refine sv 27 (.bool true) ?_
    refine sv 28 (.bool true) ?_
    refine so (some 29) ?_
    refine so (some 30) ?_
    refine sv 31 (.bool true) ?_
    refine sv 32 (.bool true) ?_
    refine so (some 33) ?_
    refine so (some 34) ?_
    refine sv 35 (.bool true) ?_
    refine sx_nil ?_
    refine sx_then ?_
    refine wp_cond_true (by kernel_rfl) ?_
    refine wp_seq ?_
    refine sx_region ?_
    replace hT := (hT.past ((bthru (bthru ((bthru hbV1 hbV2).trans (hOV3.below (by omega))) hbV4) hbV5).trans (hOV6.below (by omega))))
    refine se 36 10 #[] (fun Gx hGx => ?_)
    ((with_reducible refine (seriesBegun_any _ hT).mono ?_))
    rintro eV7 V7 ⟨rfl, hbV7⟩
    have hzV7 := hbV7.size
    refine ⟨.bool true, rfl, hGx _ _ ?_⟩
    clear hGx Gx
    refine sv 37 (.bool true) ?_
    refine sv 38 (.int .i64 3) ?_
    refine sv 39 (.bool true) ?_
    refine sv 40 (.bool true) ?_
    refine sv 41 (.bool true) ?_
    refine sv 42 (.int .i64 3) ?_
    refine sv 43 (.bool true) ?_
    refine sv 44 (.bool true) ?_
    refine sv 45 (.bool true) ?_
    replace b5 := (b5.past (bthru ((bthru hbV4 hbV5).trans (hOV6.below (by omega))) hbV7))
    refine sv 46 (.agg #[.bool false, .slice none 0 0, .int .i64 0, .bool false, .slice none 0 0, .int .i64 0]) ?_ (hr := (exec_ld (by kernel_rfl) (run_ld b5 hT27 0 [.bool false, .slice none 0 0, .int .i64 0, .bool false, .slice none 0 0, .int .i64 0] (by kernel_rfl) (by kernel_rfl))))
    refine sv 47 (.agg #[.bool false, .slice none 0 0, .int .i64 0, .bool false, .slice none 0 0, .int .i64 0]) ?_
    refine se 48 11 #[.agg #[.bool false, .slice none 0 0, .int .i64 0, .bool false, .slice none 0 0, .int .i64 0], .agg #[.bool false, .slice none 0 0, .int .i64 0, .bool false, .slice none 0 0, .int .i64 0]] (fun Gx hGx => ?_)
    ((with_reducible refine (rsamezero _).mono ?_))
    rintro eV8 V8 ⟨rfl, hbV8⟩
    have hzV8 := hbV8.size
    refine ⟨.bool true, rfl, hGx _ _ ?_⟩
    clear hGx Gx
    refine sv 49 (.bool true) ?_
    refine sv 50 (.bool true) ?_
    replace b7 := (b7.past (bthru hbV7 hbV8))
    refine sv 51 (.agg #[.bool false, .slice none 0 0, .int .i64 0, .bool false, .slice none 0 0, .int .i64 0]) ?_ (hr := (exec_ld (by kernel_rfl) (run_ld b7 hT27 0 [.bool false, .slice none 0 0, .int .i64 0, .bool false, .slice none 0 0, .int .i64 0] (by kernel_rfl) (by kernel_rfl))))
    refine sv 52 (.agg #[.bool false, .slice none 0 0, .int .i64 0, .bool false, .slice none 0 0, .int .i64 0]) ?_
    refine se 53 11 #[.agg #[.bool false, .slice none 0 0, .int .i64 0, .bool false, .slice none 0 0, .int .i64 0], .agg #[.bool false, .slice none 0 0, .int .i64 0, .bool false, .slice none 0 0, .int .i64 0]] (fun Gx hGx => ?_)
    ((with_reducible refine (rsamezero _).mono ?_))
    rintro eV9 V9 ⟨rfl, hbV9⟩
    have hzV9 := hbV9.size
    refine ⟨.bool true, rfl, hGx _ _ ?_⟩
    clear hGx Gx
    refine sv 54 (.bool true) ?_
    refine sv 4 (.bool true) ?_
    refine sx_nil ?_
    refine sx_then ?_
    refine wp_ret ?_
    repeat (first | with_reducible refine sx_thenret ?_ | with_reducible refine sx_blockret ?_)
    refine bodyPost_ret (v := .bool true) (by simp [results, Tryd.results6, go_sem]) rfl ?_
    exact ⟨rfl, (bthru (bthru (bthru ((bthru (bthru ((bthru hbV1 hbV2).trans (hOV3.below (by omega))) hbV4) hbV5).trans (hOV6.below (by omega))) hbV7) hbV8) hbV9)⟩
  · by_cases h2 : b > 1000
    · skip
      have hT27 : SxAgg Tryd.prog 27 6 := sxAgg_of (by kernel_rfl) (by kernel_rfl)
      refine calls_of_wp Tryd.func6 rfl ?_
      refine sx_frame (a' := ⟨((.int .i64 n) :: (.int .i64 b) :: undef :: undef :: undef :: undef :: undef :: undef :: undef :: undef :: undef :: undef :: undef :: undef :: undef :: undef :: undef :: undef :: undef :: undef :: undef :: undef :: undef :: undef :: undef :: undef :: undef :: undef :: undef :: undef :: undef :: undef :: undef :: undef :: undef :: undef :: undef :: undef :: undef :: undef :: undef :: undef :: undef :: undef :: undef :: undef :: undef :: undef :: undef :: undef :: undef :: undef :: undef :: undef :: undef :: undef :: undef :: undef :: undef :: undef :: undef :: undef :: undef :: undef :: undef :: undef :: undef :: undef :: undef :: undef :: undef :: undef :: undef :: undef :: undef :: undef :: undef :: undef :: undef :: undef :: undef :: undef :: undef :: undef :: undef :: undef :: []).toArray, []⟩) (by kernel_rfl) ?_
      refine wp_seq ?_
      refine sx_region ?_
      refine sv 4 (.bool false) ?_
      refine sx_nil ?_
      refine sx_then ?_
      refine wp_seq ?_
      refine sx_region ?_
      refine sv 11 (.int .i64 n) ?_
      refine sv 12 (.int .i64 b) ?_
      refine se 13 19 #[.int .i64 n, .int .i64 b] (fun Gx hGx => ?_)
      ((with_reducible refine (atanh_no n b _ (by omega)).mono ?_))
      rintro eV1 V1 ⟨rfl, hbV1⟩
      have hzV1 := hbV1.size
      refine ⟨.tuple #[.agg #[.bool false, .slice none 0 0, .int .i64 0, .bool false, .slice none 0 0, .int .i64 0], .int .i64 3], rfl, hGx _ _ ?_⟩
      clear hGx Gx
      refine sv 10 (.tuple #[.agg #[.bool false, .slice none 0 0, .int .i64 0, .bool false, .slice none 0 0, .int .i64 0], .int .i64 3]) ?_
      refine sv 14 (.agg #[.bool false, .slice none 0 0, .int .i64 0, .bool false, .slice none 0 0, .int .i64 0]) ?_
      refine sv 15 (.int .i64 3) ?_
      refine sn 5 #[.bool false, .slice none 0 0, .int .i64 0, .bool false, .slice none 0 0, .int .i64 0] 27 (fun V2 hbV2 hzV2 b5 => ?_)
      refine ss none b5 hT27 0 #[.bool false, .slice none 0 0, .int .i64 0, .bool false, .slice none 0 0, .int .i64 0] #[.bool false, .slice none 0 0, .int .i64 0, .bool false, .slice none 0 0, .int .i64 0] ?_
      have boV3 := b5
      clear b5
      intro V3 hOV3 b5
      have hzV3 := hOV3.size
      refine sv 6 (.int .i64 3) ?_
      refine sx_nil ?_
      refine sx_then ?_
      refine wp_seq ?_
      refine sx_region ?_
      refine sv 17 (.int .i64 n) ?_
      refine sv 18 (.int .i64 b) ?_
      refine se 19 17 #[.int .i64 n, .int .i64 b] (fun Gx hGx => ?_)
      ((with_reducible refine (atan_no n b _ (by omega)).mono ?_))
      rintro eV4 V4 ⟨rfl, hbV4⟩
      have hzV4 := hbV4.size
      refine ⟨.tuple #[.agg #[.bool false, .slice none 0 0, .int .i64 0, .bool false, .slice none 0 0, .int .i64 0], .int .i64 3], rfl, hGx _ _ ?_⟩
      clear hGx Gx
      refine sv 16 (.tuple #[.agg #[.bool false, .slice none 0 0, .int .i64 0, .bool false, .slice none 0 0, .int .i64 0], .int .i64 3]) ?_
      refine sv 20 (.agg #[.bool false, .slice none 0 0, .int .i64 0, .bool false, .slice none 0 0, .int .i64 0]) ?_
      refine sv 21 (.int .i64 3) ?_
      refine sn 7 #[.bool false, .slice none 0 0, .int .i64 0, .bool false, .slice none 0 0, .int .i64 0] 27 (fun V5 hbV5 hzV5 b7 => ?_)
      refine ss none b7 hT27 0 #[.bool false, .slice none 0 0, .int .i64 0, .bool false, .slice none 0 0, .int .i64 0] #[.bool false, .slice none 0 0, .int .i64 0, .bool false, .slice none 0 0, .int .i64 0] ?_
      have boV6 := b7
      clear b7
      intro V6 hOV6 b7
      have hzV6 := hOV6.size
      refine sv 8 (.int .i64 3) ?_
      refine sx_nil ?_
      refine sx_then ?_
      refine wp_seq ?_
      refine wp_seq ?_
      refine sx_region ?_
      refine sv 22 (.int .i64 b) ?_
      refine sv 23 (.bool false) ?_ (hr := ((show _ = Result.ok (Next.value (.bool (decide (b < 10)))) _ from (by kernel_rfl)).trans (congrArg (fun z => Result.ok (Next.value (.bool z)) _) (show (decide (b < 10)) = false from decide_eq_false h1))))
      refine sv 24 (.bool false) ?_
      refine sv 25 (.int .i64 b) ?_
      refine sv 26 (.bool true) ?_ (hr := ((show _ = Result.ok (Next.value (.bool (decide (b > 1000)))) _ from (by kernel_rfl)).trans (congrArg (fun z => Result.ok (Next.value (.bool z)) _) (show (decide (b > 1000)) = true from decide_eq_true h2))))
      refine sv 27 (.bool true) ?_
      refine sv 28 (.bool true) ?_
      refine so (some 29) ?_
      refine so (some 30) ?_
      refine sv 31 (.bool true) ?_
      refine sv 32 (.bool true) ?_
      refine so (some 33) ?_
      refine so (some 34) ?_
      refine sv 35 (.bool true) ?_
      refine sx_nil ?_
      refine sx_then ?_
      refine wp_cond_true (by kernel_rfl) ?_
      refine wp_seq ?_
      refine sx_region ?_
      replace hT := (hT.past ((bthru (bthru ((bthru hbV1 hbV2).trans (hOV3.below (by omega))) hbV4) hbV5).trans (hOV6.below (by omega))))
      refine se 36 10 #[] (fun Gx hGx => ?_)
      ((with_reducible refine (seriesBegun_any _ hT).mono ?_))
      rintro eV7 V7 ⟨rfl, hbV7⟩
      have hzV7 := hbV7.size
      refine ⟨.bool true, rfl, hGx _ _ ?_⟩
      clear hGx Gx
      refine sv 37 (.bool true) ?_
      refine sv 38 (.int .i64 3) ?_
      refine sv 39 (.bool true) ?_
      refine sv 40 (.bool true) ?_
      refine sv 41 (.bool true) ?_
      refine sv 42 (.int .i64 3) ?_
      refine sv 43 (.bool true) ?_
      refine sv 44 (.bool true) ?_
      refine sv 45 (.bool true) ?_
      replace b5 := (b5.past (bthru ((bthru hbV4 hbV5).trans (hOV6.below (by omega))) hbV7))
      refine sv 46 (.agg #[.bool false, .slice none 0 0, .int .i64 0, .bool false, .slice none 0 0, .int .i64 0]) ?_ (hr := (exec_ld (by kernel_rfl) (run_ld b5 hT27 0 [.bool false, .slice none 0 0, .int .i64 0, .bool false, .slice none 0 0, .int .i64 0] (by kernel_rfl) (by kernel_rfl))))
      refine sv 47 (.agg #[.bool false, .slice none 0 0, .int .i64 0, .bool false, .slice none 0 0, .int .i64 0]) ?_
      refine se 48 11 #[.agg #[.bool false, .slice none 0 0, .int .i64 0, .bool false, .slice none 0 0, .int .i64 0], .agg #[.bool false, .slice none 0 0, .int .i64 0, .bool false, .slice none 0 0, .int .i64 0]] (fun Gx hGx => ?_)
      ((with_reducible refine (rsamezero _).mono ?_))
      rintro eV8 V8 ⟨rfl, hbV8⟩
      have hzV8 := hbV8.size
      refine ⟨.bool true, rfl, hGx _ _ ?_⟩
      clear hGx Gx
      refine sv 49 (.bool true) ?_
      refine sv 50 (.bool true) ?_
      replace b7 := (b7.past (bthru hbV7 hbV8))
      refine sv 51 (.agg #[.bool false, .slice none 0 0, .int .i64 0, .bool false, .slice none 0 0, .int .i64 0]) ?_ (hr := (exec_ld (by kernel_rfl) (run_ld b7 hT27 0 [.bool false, .slice none 0 0, .int .i64 0, .bool false, .slice none 0 0, .int .i64 0] (by kernel_rfl) (by kernel_rfl))))
      refine sv 52 (.agg #[.bool false, .slice none 0 0, .int .i64 0, .bool false, .slice none 0 0, .int .i64 0]) ?_
      refine se 53 11 #[.agg #[.bool false, .slice none 0 0, .int .i64 0, .bool false, .slice none 0 0, .int .i64 0], .agg #[.bool false, .slice none 0 0, .int .i64 0, .bool false, .slice none 0 0, .int .i64 0]] (fun Gx hGx => ?_)
      ((with_reducible refine (rsamezero _).mono ?_))
      rintro eV9 V9 ⟨rfl, hbV9⟩
      have hzV9 := hbV9.size
      refine ⟨.bool true, rfl, hGx _ _ ?_⟩
      clear hGx Gx
      refine sv 54 (.bool true) ?_
      refine sv 4 (.bool true) ?_
      refine sx_nil ?_
      refine sx_then ?_
      refine wp_ret ?_
      repeat (first | with_reducible refine sx_thenret ?_ | with_reducible refine sx_blockret ?_)
      refine bodyPost_ret (v := .bool true) (by simp [results, Tryd.results6, go_sem]) rfl ?_
      exact ⟨rfl, (bthru (bthru (bthru ((bthru (bthru ((bthru hbV1 hbV2).trans (hOV3.below (by omega))) hbV4) hbV5).trans (hOV6.below (by omega))) hbV7) hbV8) hbV9)⟩
    · by_cases h3 : n < 2
      · skip
        have hT27 : SxAgg Tryd.prog 27 6 := sxAgg_of (by kernel_rfl) (by kernel_rfl)
        refine calls_of_wp Tryd.func6 rfl ?_
        refine sx_frame (a' := ⟨((.int .i64 n) :: (.int .i64 b) :: undef :: undef :: undef :: undef :: undef :: undef :: undef :: undef :: undef :: undef :: undef :: undef :: undef :: undef :: undef :: undef :: undef :: undef :: undef :: undef :: undef :: undef :: undef :: undef :: undef :: undef :: undef :: undef :: undef :: undef :: undef :: undef :: undef :: undef :: undef :: undef :: undef :: undef :: undef :: undef :: undef :: undef :: undef :: undef :: undef :: undef :: undef :: undef :: undef :: undef :: undef :: undef :: undef :: undef :: undef :: undef :: undef :: undef :: undef :: undef :: undef :: undef :: undef :: undef :: undef :: undef :: undef :: undef :: undef :: undef :: undef :: undef :: undef :: undef :: undef :: undef :: undef :: undef :: undef :: undef :: undef :: undef :: undef :: undef :: []).toArray, []⟩) (by kernel_rfl) ?_
        refine wp_seq ?_
        refine sx_region ?_
        refine sv 4 (.bool false) ?_
        refine sx_nil ?_
        refine sx_then ?_
        refine wp_seq ?_
        refine sx_region ?_
        refine sv 11 (.int .i64 n) ?_
        refine sv 12 (.int .i64 b) ?_
        refine se 13 19 #[.int .i64 n, .int .i64 b] (fun Gx hGx => ?_)
        ((with_reducible refine (atanh_no n b _ (by omega)).mono ?_))
        rintro eV1 V1 ⟨rfl, hbV1⟩
        have hzV1 := hbV1.size
        refine ⟨.tuple #[.agg #[.bool false, .slice none 0 0, .int .i64 0, .bool false, .slice none 0 0, .int .i64 0], .int .i64 3], rfl, hGx _ _ ?_⟩
        clear hGx Gx
        refine sv 10 (.tuple #[.agg #[.bool false, .slice none 0 0, .int .i64 0, .bool false, .slice none 0 0, .int .i64 0], .int .i64 3]) ?_
        refine sv 14 (.agg #[.bool false, .slice none 0 0, .int .i64 0, .bool false, .slice none 0 0, .int .i64 0]) ?_
        refine sv 15 (.int .i64 3) ?_
        refine sn 5 #[.bool false, .slice none 0 0, .int .i64 0, .bool false, .slice none 0 0, .int .i64 0] 27 (fun V2 hbV2 hzV2 b5 => ?_)
        refine ss none b5 hT27 0 #[.bool false, .slice none 0 0, .int .i64 0, .bool false, .slice none 0 0, .int .i64 0] #[.bool false, .slice none 0 0, .int .i64 0, .bool false, .slice none 0 0, .int .i64 0] ?_
        have boV3 := b5
        clear b5
        intro V3 hOV3 b5
        have hzV3 := hOV3.size
        refine sv 6 (.int .i64 3) ?_
        refine sx_nil ?_
        refine sx_then ?_
        refine wp_seq ?_
        refine sx_region ?_
        refine sv 17 (.int .i64 n) ?_
        refine sv 18 (.int .i64 b) ?_
        refine se 19 17 #[.int .i64 n, .int .i64 b] (fun Gx hGx => ?_)
        ((with_reducible refine (atan_no n b _ (by omega)).mono ?_))
        rintro eV4 V4 ⟨rfl, hbV4⟩
        have hzV4 := hbV4.size
        refine ⟨.tuple #[.agg #[.bool false, .slice none 0 0, .int .i64 0, .bool false, .slice none 0 0, .int .i64 0], .int .i64 3], rfl, hGx _ _ ?_⟩
        clear hGx Gx
        refine sv 16 (.tuple #[.agg #[.bool false, .slice none 0 0, .int .i64 0, .bool false, .slice none 0 0, .int .i64 0], .int .i64 3]) ?_
        refine sv 20 (.agg #[.bool false, .slice none 0 0, .int .i64 0, .bool false, .slice none 0 0, .int .i64 0]) ?_
        refine sv 21 (.int .i64 3) ?_
        refine sn 7 #[.bool false, .slice none 0 0, .int .i64 0, .bool false, .slice none 0 0, .int .i64 0] 27 (fun V5 hbV5 hzV5 b7 => ?_)
        refine ss none b7 hT27 0 #[.bool false, .slice none 0 0, .int .i64 0, .bool false, .slice none 0 0, .int .i64 0] #[.bool false, .slice none 0 0, .int .i64 0, .bool false, .slice none 0 0, .int .i64 0] ?_
        have boV6 := b7
        clear b7
        intro V6 hOV6 b7
        have hzV6 := hOV6.size
        refine sv 8 (.int .i64 3) ?_
        refine sx_nil ?_
        refine sx_then ?_
        refine wp_seq ?_
        refine wp_seq ?_
        refine sx_region ?_
        refine sv 22 (.int .i64 b) ?_
        refine sv 23 (.bool false) ?_ (hr := ((show _ = Result.ok (Next.value (.bool (decide (b < 10)))) _ from (by kernel_rfl)).trans (congrArg (fun z => Result.ok (Next.value (.bool z)) _) (show (decide (b < 10)) = false from decide_eq_false h1))))
        refine sv 24 (.bool false) ?_
        refine sv 25 (.int .i64 b) ?_
        refine sv 26 (.bool false) ?_ (hr := ((show _ = Result.ok (Next.value (.bool (decide (b > 1000)))) _ from (by kernel_rfl)).trans (congrArg (fun z => Result.ok (Next.value (.bool z)) _) (show (decide (b > 1000)) = false from decide_eq_false h2))))
        refine sv 27 (.bool false) ?_
        refine sv 28 (.bool false) ?_
        refine sv 29 (.int .i64 n) ?_
        refine sv 30 (.bool true) ?_ (hr := ((show _ = Result.ok (Next.value (.bool (decide (n < 2)))) _ from (by kernel_rfl)).trans (congrArg (fun z => Result.ok (Next.value (.bool z)) _) (show (decide (n < 2)) = true from decide_eq_true h3))))
        refine sv 31 (.bool true) ?_
        refine sv 32 (.bool true) ?_
        refine so (some 33) ?_
        refine so (some 34) ?_
        refine sv 35 (.bool true) ?_
        refine sx_nil ?_
        refine sx_then ?_
        refine wp_cond_true (by kernel_rfl) ?_
        refine wp_seq ?_
        refine sx_region ?_
        replace hT := (hT.past ((bthru (bthru ((bthru hbV1 hbV2).trans (hOV3.below (by omega))) hbV4) hbV5).trans (hOV6.below (by omega))))
        refine se 36 10 #[] (fun Gx hGx => ?_)
        ((with_reducible refine (seriesBegun_any _ hT).mono ?_))
        rintro eV7 V7 ⟨rfl, hbV7⟩
        have hzV7 := hbV7.size
        refine ⟨.bool true, rfl, hGx _ _ ?_⟩
        clear hGx Gx
        refine sv 37 (.bool true) ?_
        refine sv 38 (.int .i64 3) ?_
        refine sv 39 (.bool true) ?_
        refine sv 40 (.bool true) ?_
        refine sv 41 (.bool true) ?_
        refine sv 42 (.int .i64 3) ?_
        refine sv 43 (.bool true) ?_
        refine sv 44 (.bool true) ?_
        refine sv 45 (.bool true) ?_
        replace b5 := (b5.past (bthru ((bthru hbV4 hbV5).trans (hOV6.below (by omega))) hbV7))
        refine sv 46 (.agg #[.bool false, .slice none 0 0, .int .i64 0, .bool false, .slice none 0 0, .int .i64 0]) ?_ (hr := (exec_ld (by kernel_rfl) (run_ld b5 hT27 0 [.bool false, .slice none 0 0, .int .i64 0, .bool false, .slice none 0 0, .int .i64 0] (by kernel_rfl) (by kernel_rfl))))
        refine sv 47 (.agg #[.bool false, .slice none 0 0, .int .i64 0, .bool false, .slice none 0 0, .int .i64 0]) ?_
        refine se 48 11 #[.agg #[.bool false, .slice none 0 0, .int .i64 0, .bool false, .slice none 0 0, .int .i64 0], .agg #[.bool false, .slice none 0 0, .int .i64 0, .bool false, .slice none 0 0, .int .i64 0]] (fun Gx hGx => ?_)
        ((with_reducible refine (rsamezero _).mono ?_))
        rintro eV8 V8 ⟨rfl, hbV8⟩
        have hzV8 := hbV8.size
        refine ⟨.bool true, rfl, hGx _ _ ?_⟩
        clear hGx Gx
        refine sv 49 (.bool true) ?_
        refine sv 50 (.bool true) ?_
        replace b7 := (b7.past (bthru hbV7 hbV8))
        refine sv 51 (.agg #[.bool false, .slice none 0 0, .int .i64 0, .bool false, .slice none 0 0, .int .i64 0]) ?_ (hr := (exec_ld (by kernel_rfl) (run_ld b7 hT27 0 [.bool false, .slice none 0 0, .int .i64 0, .bool false, .slice none 0 0, .int .i64 0] (by kernel_rfl) (by kernel_rfl))))
        refine sv 52 (.agg #[.bool false, .slice none 0 0, .int .i64 0, .bool false, .slice none 0 0, .int .i64 0]) ?_
        refine se 53 11 #[.agg #[.bool false, .slice none 0 0, .int .i64 0, .bool false, .slice none 0 0, .int .i64 0], .agg #[.bool false, .slice none 0 0, .int .i64 0, .bool false, .slice none 0 0, .int .i64 0]] (fun Gx hGx => ?_)
        ((with_reducible refine (rsamezero _).mono ?_))
        rintro eV9 V9 ⟨rfl, hbV9⟩
        have hzV9 := hbV9.size
        refine ⟨.bool true, rfl, hGx _ _ ?_⟩
        clear hGx Gx
        refine sv 54 (.bool true) ?_
        refine sv 4 (.bool true) ?_
        refine sx_nil ?_
        refine sx_then ?_
        refine wp_ret ?_
        repeat (first | with_reducible refine sx_thenret ?_ | with_reducible refine sx_blockret ?_)
        refine bodyPost_ret (v := .bool true) (by simp [results, Tryd.results6, go_sem]) rfl ?_
        exact ⟨rfl, (bthru (bthru (bthru ((bthru (bthru ((bthru hbV1 hbV2).trans (hOV3.below (by omega))) hbV4) hbV5).trans (hOV6.below (by omega))) hbV7) hbV8) hbV9)⟩
      · by_cases h4 : n > 1000
        · skip
          have hT27 : SxAgg Tryd.prog 27 6 := sxAgg_of (by kernel_rfl) (by kernel_rfl)
          refine calls_of_wp Tryd.func6 rfl ?_
          refine sx_frame (a' := ⟨((.int .i64 n) :: (.int .i64 b) :: undef :: undef :: undef :: undef :: undef :: undef :: undef :: undef :: undef :: undef :: undef :: undef :: undef :: undef :: undef :: undef :: undef :: undef :: undef :: undef :: undef :: undef :: undef :: undef :: undef :: undef :: undef :: undef :: undef :: undef :: undef :: undef :: undef :: undef :: undef :: undef :: undef :: undef :: undef :: undef :: undef :: undef :: undef :: undef :: undef :: undef :: undef :: undef :: undef :: undef :: undef :: undef :: undef :: undef :: undef :: undef :: undef :: undef :: undef :: undef :: undef :: undef :: undef :: undef :: undef :: undef :: undef :: undef :: undef :: undef :: undef :: undef :: undef :: undef :: undef :: undef :: undef :: undef :: undef :: undef :: undef :: undef :: undef :: undef :: []).toArray, []⟩) (by kernel_rfl) ?_
          refine wp_seq ?_
          refine sx_region ?_
          refine sv 4 (.bool false) ?_
          refine sx_nil ?_
          refine sx_then ?_
          refine wp_seq ?_
          refine sx_region ?_
          refine sv 11 (.int .i64 n) ?_
          refine sv 12 (.int .i64 b) ?_
          refine se 13 19 #[.int .i64 n, .int .i64 b] (fun Gx hGx => ?_)
          ((with_reducible refine (atanh_no n b _ (by omega)).mono ?_))
          rintro eV1 V1 ⟨rfl, hbV1⟩
          have hzV1 := hbV1.size
          refine ⟨.tuple #[.agg #[.bool false, .slice none 0 0, .int .i64 0, .bool false, .slice none 0 0, .int .i64 0], .int .i64 3], rfl, hGx _ _ ?_⟩
          clear hGx Gx
          refine sv 10 (.tuple #[.agg #[.bool false, .slice none 0 0, .int .i64 0, .bool false, .slice none 0 0, .int .i64 0], .int .i64 3]) ?_
          refine sv 14 (.agg #[.bool false, .slice none 0 0, .int .i64 0, .bool false, .slice none 0 0, .int .i64 0]) ?_
          refine sv 15 (.int .i64 3) ?_
          refine sn 5 #[.bool false, .slice none 0 0, .int .i64 0, .bool false, .slice none 0 0, .int .i64 0] 27 (fun V2 hbV2 hzV2 b5 => ?_)
          refine ss none b5 hT27 0 #[.bool false, .slice none 0 0, .int .i64 0, .bool false, .slice none 0 0, .int .i64 0] #[.bool false, .slice none 0 0, .int .i64 0, .bool false, .slice none 0 0, .int .i64 0] ?_
          have boV3 := b5
          clear b5
          intro V3 hOV3 b5
          have hzV3 := hOV3.size
          refine sv 6 (.int .i64 3) ?_
          refine sx_nil ?_
          refine sx_then ?_
          refine wp_seq ?_
          refine sx_region ?_
          refine sv 17 (.int .i64 n) ?_
          refine sv 18 (.int .i64 b) ?_
          refine se 19 17 #[.int .i64 n, .int .i64 b] (fun Gx hGx => ?_)
          ((with_reducible refine (atan_no n b _ (by omega)).mono ?_))
          rintro eV4 V4 ⟨rfl, hbV4⟩
          have hzV4 := hbV4.size
          refine ⟨.tuple #[.agg #[.bool false, .slice none 0 0, .int .i64 0, .bool false, .slice none 0 0, .int .i64 0], .int .i64 3], rfl, hGx _ _ ?_⟩
          clear hGx Gx
          refine sv 16 (.tuple #[.agg #[.bool false, .slice none 0 0, .int .i64 0, .bool false, .slice none 0 0, .int .i64 0], .int .i64 3]) ?_
          refine sv 20 (.agg #[.bool false, .slice none 0 0, .int .i64 0, .bool false, .slice none 0 0, .int .i64 0]) ?_
          refine sv 21 (.int .i64 3) ?_
          refine sn 7 #[.bool false, .slice none 0 0, .int .i64 0, .bool false, .slice none 0 0, .int .i64 0] 27 (fun V5 hbV5 hzV5 b7 => ?_)
          refine ss none b7 hT27 0 #[.bool false, .slice none 0 0, .int .i64 0, .bool false, .slice none 0 0, .int .i64 0] #[.bool false, .slice none 0 0, .int .i64 0, .bool false, .slice none 0 0, .int .i64 0] ?_
          have boV6 := b7
          clear b7
          intro V6 hOV6 b7
          have hzV6 := hOV6.size
          refine sv 8 (.int .i64 3) ?_
          refine sx_nil ?_
          refine sx_then ?_
          refine wp_seq ?_
          refine wp_seq ?_
          refine sx_region ?_
          refine sv 22 (.int .i64 b) ?_
          refine sv 23 (.bool false) ?_ (hr := ((show _ = Result.ok (Next.value (.bool (decide (b < 10)))) _ from (by kernel_rfl)).trans (congrArg (fun z => Result.ok (Next.value (.bool z)) _) (show (decide (b < 10)) = false from decide_eq_false h1))))
          refine sv 24 (.bool false) ?_
          refine sv 25 (.int .i64 b) ?_
          refine sv 26 (.bool false) ?_ (hr := ((show _ = Result.ok (Next.value (.bool (decide (b > 1000)))) _ from (by kernel_rfl)).trans (congrArg (fun z => Result.ok (Next.value (.bool z)) _) (show (decide (b > 1000)) = false from decide_eq_false h2))))
          refine sv 27 (.bool false) ?_
          refine sv 28 (.bool false) ?_
          refine sv 29 (.int .i64 n) ?_
          refine sv 30 (.bool false) ?_ (hr := ((show _ = Result.ok (Next.value (.bool (decide (n < 2)))) _ from (by kernel_rfl)).trans (congrArg (fun z => Result.ok (Next.value (.bool z)) _) (show (decide (n < 2)) = false from decide_eq_false h3))))
          refine sv 31 (.bool false) ?_
          refine sv 32 (.bool false) ?_
          refine sv 33 (.int .i64 n) ?_
          refine sv 34 (.bool true) ?_ (hr := ((show _ = Result.ok (Next.value (.bool (decide (n > 1000)))) _ from (by kernel_rfl)).trans (congrArg (fun z => Result.ok (Next.value (.bool z)) _) (show (decide (n > 1000)) = true from decide_eq_true h4))))
          refine sv 35 (.bool true) ?_
          refine sx_nil ?_
          refine sx_then ?_
          refine wp_cond_true (by kernel_rfl) ?_
          refine wp_seq ?_
          refine sx_region ?_
          replace hT := (hT.past ((bthru (bthru ((bthru hbV1 hbV2).trans (hOV3.below (by omega))) hbV4) hbV5).trans (hOV6.below (by omega))))
          refine se 36 10 #[] (fun Gx hGx => ?_)
          ((with_reducible refine (seriesBegun_any _ hT).mono ?_))
          rintro eV7 V7 ⟨rfl, hbV7⟩
          have hzV7 := hbV7.size
          refine ⟨.bool true, rfl, hGx _ _ ?_⟩
          clear hGx Gx
          refine sv 37 (.bool true) ?_
          refine sv 38 (.int .i64 3) ?_
          refine sv 39 (.bool true) ?_
          refine sv 40 (.bool true) ?_
          refine sv 41 (.bool true) ?_
          refine sv 42 (.int .i64 3) ?_
          refine sv 43 (.bool true) ?_
          refine sv 44 (.bool true) ?_
          refine sv 45 (.bool true) ?_
          replace b5 := (b5.past (bthru ((bthru hbV4 hbV5).trans (hOV6.below (by omega))) hbV7))
          refine sv 46 (.agg #[.bool false, .slice none 0 0, .int .i64 0, .bool false, .slice none 0 0, .int .i64 0]) ?_ (hr := (exec_ld (by kernel_rfl) (run_ld b5 hT27 0 [.bool false, .slice none 0 0, .int .i64 0, .bool false, .slice none 0 0, .int .i64 0] (by kernel_rfl) (by kernel_rfl))))
          refine sv 47 (.agg #[.bool false, .slice none 0 0, .int .i64 0, .bool false, .slice none 0 0, .int .i64 0]) ?_
          refine se 48 11 #[.agg #[.bool false, .slice none 0 0, .int .i64 0, .bool false, .slice none 0 0, .int .i64 0], .agg #[.bool false, .slice none 0 0, .int .i64 0, .bool false, .slice none 0 0, .int .i64 0]] (fun Gx hGx => ?_)
          ((with_reducible refine (rsamezero _).mono ?_))
          rintro eV8 V8 ⟨rfl, hbV8⟩
          have hzV8 := hbV8.size
          refine ⟨.bool true, rfl, hGx _ _ ?_⟩
          clear hGx Gx
          refine sv 49 (.bool true) ?_
          refine sv 50 (.bool true) ?_
          replace b7 := (b7.past (bthru hbV7 hbV8))
          refine sv 51 (.agg #[.bool false, .slice none 0 0, .int .i64 0, .bool false, .slice none 0 0, .int .i64 0]) ?_ (hr := (exec_ld (by kernel_rfl) (run_ld b7 hT27 0 [.bool false, .slice none 0 0, .int .i64 0, .bool false, .slice none 0 0, .int .i64 0] (by kernel_rfl) (by kernel_rfl))))
          refine sv 52 (.agg #[.bool false, .slice none 0 0, .int .i64 0, .bool false, .slice none 0 0, .int .i64 0]) ?_
          refine se 53 11 #[.agg #[.bool false, .slice none 0 0, .int .i64 0, .bool false, .slice none 0 0, .int .i64 0], .agg #[.bool false, .slice none 0 0, .int .i64 0, .bool false, .slice none 0 0, .int .i64 0]] (fun Gx hGx => ?_)
          ((with_reducible refine (rsamezero _).mono ?_))
          rintro eV9 V9 ⟨rfl, hbV9⟩
          have hzV9 := hbV9.size
          refine ⟨.bool true, rfl, hGx _ _ ?_⟩
          clear hGx Gx
          refine sv 54 (.bool true) ?_
          refine sv 4 (.bool true) ?_
          refine sx_nil ?_
          refine sx_then ?_
          refine wp_ret ?_
          repeat (first | with_reducible refine sx_thenret ?_ | with_reducible refine sx_blockret ?_)
          refine bodyPost_ret (v := .bool true) (by simp [results, Tryd.results6, go_sem]) rfl ?_
          exact ⟨rfl, (bthru (bthru (bthru ((bthru (bthru ((bthru hbV1 hbV2).trans (hOV3.below (by omega))) hbV4) hbV5).trans (hOV6.below (by omega))) hbV7) hbV8) hbV9)⟩
        · obtain ⟨b, rfl⟩ : ∃ b' : Nat, b = b' := ⟨b.toNat, by omega⟩
          obtain ⟨n, rfl⟩ : ∃ n' : Nat, n = n' := ⟨n.toNat, by omega⟩
          have ref0 := ref_sum false (n := n) (p := b + 100) (by omega) (by omega) (by omega)
          have ref1 := ref_sum true (n := n) (p := b + 100) (by omega) (by omega) (by omega)
          have bl0 : blen (An false n (b + 100)).toNat ≤ 7000 := blen_bd (an_le false (by omega)) (by omega) (by omega)
          have bl1 : blen (An true n (b + 100)).toNat ≤ 7000 := blen_bd (an_le true (by omega)) (by omega) (by omega)
          have HR0 := fun W => Lib.hid (sumOf_any _ _ n (b + 100) false W rfl rfl (by omega) (by omega) (by omega))
          have HR1 := fun W => Lib.hid (sumOf_any _ _ n (b + 100) true W rfl rfl (by omega) (by omega) (by omega))
          generalize (An false n (b + 100)).toNat = m0 at *
          generalize (An true n (b + 100)).toNat = m1 at *
          have hT27 : SxAgg Tryd.prog 27 6 := sxAgg_of (by kernel_rfl) (by kernel_rfl)
          refine calls_of_wp Tryd.func6 rfl ?_
          refine sx_frame (a' := ⟨((.int .i64 ((n : Nat) : Int)) :: (.int .i64 ((b : Nat) : Int)) :: undef :: undef :: undef :: undef :: undef :: undef :: undef :: undef :: undef :: undef :: undef :: undef :: undef :: undef :: undef :: undef :: undef :: undef :: undef :: undef :: undef :: undef :: undef :: undef :: undef :: undef :: undef :: undef :: undef :: undef :: undef :: undef :: undef :: undef :: undef :: undef :: undef :: undef :: undef :: undef :: undef :: undef :: undef :: undef :: undef :: undef :: undef :: undef :: undef :: undef :: undef :: undef :: undef :: undef :: undef :: undef :: undef :: undef :: undef :: undef :: undef :: undef :: undef :: undef :: undef :: undef :: undef :: undef :: undef :: undef :: undef :: undef :: undef :: undef :: undef :: undef :: undef :: undef :: undef :: undef :: undef :: undef :: undef :: undef :: []).toArray, []⟩) (by kernel_rfl) ?_
          refine wp_seq ?_
          refine sx_region ?_
          refine sv 4 (.bool false) ?_
          refine sx_nil ?_
          refine sx_then ?_
          refine wp_seq ?_
          refine sx_region ?_
          refine sv 11 (.int .i64 ((n : Nat) : Int)) ?_
          refine sv 12 (.int .i64 ((b : Nat) : Int)) ?_
          refine se 13 19 #[.int .i64 ((n : Nat) : Int), .int .i64 ((b : Nat) : Int)] (fun Gx hGx => ?_)
          ((with_reducible refine (atanh_ok _ _ n b _ rfl rfl (by omega) (by omega) (by omega) (by omega) hT).mono ?_))
          rintro eV1 V1 ⟨L0, H0, hB0, p13, c13, q13, d13, rfl, ho13, hq13, hbV1⟩
          have hzV1 := hbV1.size
          refine ⟨.tuple #[.agg #[.bool ((norm (L0) (-((b + 20 : Nat) : Int))).neg), .slice p13 (dig B32 (norm (L0) (-((b + 20 : Nat) : Int))).m).length c13, .int .i64 ((norm (L0) (-((b + 20 : Nat) : Int))).e), .bool ((norm (H0) (-((b + 20 : Nat) : Int))).neg), .slice q13 (dig B32 (norm (H0) (-((b + 20 : Nat) : Int))).m).length d13, .int .i64 ((norm (H0) (-((b + 20 : Nat) : Int))).e)], .int .i64 0], rfl, hGx _ _ ?_⟩
          clear hGx Gx
          refine sv 10 (.tuple #[.agg #[.bool ((norm (L0) (-((b + 20 : Nat) : Int))).neg), .slice p13 (dig B32 (norm (L0) (-((b + 20 : Nat) : Int))).m).length c13, .int .i64 ((norm (L0) (-((b + 20 : Nat) : Int))).e), .bool ((norm (H0) (-((b + 20 : Nat) : Int))).neg), .slice q13 (dig B32 (norm (H0) (-((b + 20 : Nat) : Int))).m).length d13, .int .i64 ((norm (H0) (-((b + 20 : Nat) : Int))).e)], .int .i64 0]) ?_
          refine sv 14 (.agg #[.bool ((norm (L0) (-((b + 20 : Nat) : Int))).neg), .slice p13 (dig B32 (norm (L0) (-((b + 20 : Nat) : Int))).m).length c13, .int .i64 ((norm (L0) (-((b + 20 : Nat) : Int))).e), .bool ((norm (H0) (-((b + 20 : Nat) : Int))).neg), .slice q13 (dig B32 (norm (H0) (-((b + 20 : Nat) : Int))).m).length d13, .int .i64 ((norm (H0) (-((b + 20 : Nat) : Int))).e)]) ?_
          refine sv 15 (.int .i64 0) ?_
          refine sn 5 #[.bool false, .slice none 0 0, .int .i64 0, .bool false, .slice none 0 0, .int .i64 0] 27 (fun V2 hbV2 hzV2 b5 => ?_)
          refine ss none b5 hT27 0 #[.bool ((norm (L0) (-((b + 20 : Nat) : Int))).neg), .slice p13 (dig B32 (norm (L0) (-((b + 20 : Nat) : Int))).m).length c13, .int .i64 ((norm (L0) (-((b + 20 : Nat) : Int))).e), .bool ((norm (H0) (-((b + 20 : Nat) : Int))).neg), .slice q13 (dig B32 (norm (H0) (-((b + 20 : Nat) : Int))).m).length d13, .int .i64 ((norm (H0) (-((b + 20 : Nat) : Int))).e)] #[.bool ((norm (L0) (-((b + 20 : Nat) : Int))).neg), .slice p13 (dig B32 (norm (L0) (-((b + 20 : Nat) : Int))).m).length c13, .int .i64 ((norm (L0) (-((b + 20 : Nat) : Int))).e), .bool ((norm (H0) (-((b + 20 : Nat) : Int))).neg), .slice q13 (dig B32 (norm (H0) (-((b + 20 : Nat) : Int))).m).length d13, .int .i64 ((norm (H0) (-((b + 20 : Nat) : Int))).e)] ?_
          have boV3 := b5
          clear b5
          intro V3 hOV3 b5
          have hzV3 := hOV3.size
          refine sv 6 (.int .i64 0) ?_
          refine sx_nil ?_
          refine sx_then ?_
          refine wp_seq ?_
          refine sx_region ?_
          refine sv 17 (.int .i64 ((n : Nat) : Int)) ?_
          refine sv 18 (.int .i64 ((b : Nat) : Int)) ?_
          replace hT := (hT.past ((bthru hbV1 hbV2).trans (hOV3.below (by omega))))
          refine se 19 17 #[.int .i64 ((n : Nat) : Int), .int .i64 ((b : Nat) : Int)] (fun Gx hGx => ?_)
          ((with_reducible refine (atan_ok _ _ n b _ rfl rfl (by omega) (by omega) (by omega) (by omega) hT).mono ?_))
          rintro eV4 V4 ⟨L1, H1, hB1, p19, c19, q19, d19, rfl, ho19, hq19, hbV4⟩
          have hzV4 := hbV4.size
          refine ⟨.tuple #[.agg #[.bool ((norm (L1) (-((b + 20 : Nat) : Int))).neg), .slice p19 (dig B32 (norm (L1) (-((b + 20 : Nat) : Int))).m).length c19, .int .i64 ((norm (L1) (-((b + 20 : Nat) : Int))).e), .bool ((norm (H1) (-((b + 20 : Nat) : Int))).neg), .slice q19 (dig B32 (norm (H1) (-((b + 20 : Nat) : Int))).m).length d19, .int .i64 ((norm (H1) (-((b + 20 : Nat) : Int))).e)], .int .i64 0], rfl, hGx _ _ ?_⟩
          clear hGx Gx
          refine sv 16 (.tuple #[.agg #[.bool ((norm (L1) (-((b + 20 : Nat) : Int))).neg), .slice p19 (dig B32 (norm (L1) (-((b + 20 : Nat) : Int))).m).length c19, .int .i64 ((norm (L1) (-((b + 20 : Nat) : Int))).e), .bool ((norm (H1) (-((b + 20 : Nat) : Int))).neg), .slice q19 (dig B32 (norm (H1) (-((b + 20 : Nat) : Int))).m).length d19, .int .i64 ((norm (H1) (-((b + 20 : Nat) : Int))).e)], .int .i64 0]) ?_
          refine sv 20 (.agg #[.bool ((norm (L1) (-((b + 20 : Nat) : Int))).neg), .slice p19 (dig B32 (norm (L1) (-((b + 20 : Nat) : Int))).m).length c19, .int .i64 ((norm (L1) (-((b + 20 : Nat) : Int))).e), .bool ((norm (H1) (-((b + 20 : Nat) : Int))).neg), .slice q19 (dig B32 (norm (H1) (-((b + 20 : Nat) : Int))).m).length d19, .int .i64 ((norm (H1) (-((b + 20 : Nat) : Int))).e)]) ?_
          refine sv 21 (.int .i64 0) ?_
          refine sn 7 #[.bool false, .slice none 0 0, .int .i64 0, .bool false, .slice none 0 0, .int .i64 0] 27 (fun V5 hbV5 hzV5 b7 => ?_)
          refine ss none b7 hT27 0 #[.bool ((norm (L1) (-((b + 20 : Nat) : Int))).neg), .slice p19 (dig B32 (norm (L1) (-((b + 20 : Nat) : Int))).m).length c19, .int .i64 ((norm (L1) (-((b + 20 : Nat) : Int))).e), .bool ((norm (H1) (-((b + 20 : Nat) : Int))).neg), .slice q19 (dig B32 (norm (H1) (-((b + 20 : Nat) : Int))).m).length d19, .int .i64 ((norm (H1) (-((b + 20 : Nat) : Int))).e)] #[.bool ((norm (L1) (-((b + 20 : Nat) : Int))).neg), .slice p19 (dig B32 (norm (L1) (-((b + 20 : Nat) : Int))).m).length c19, .int .i64 ((norm (L1) (-((b + 20 : Nat) : Int))).e), .bool ((norm (H1) (-((b + 20 : Nat) : Int))).neg), .slice q19 (dig B32 (norm (H1) (-((b + 20 : Nat) : Int))).m).length d19, .int .i64 ((norm (H1) (-((b + 20 : Nat) : Int))).e)] ?_
          have boV6 := b7
          clear b7
          intro V6 hOV6 b7
          have hzV6 := hOV6.size
          refine sv 8 (.int .i64 0) ?_
          refine sx_nil ?_
          refine sx_then ?_
          refine wp_seq ?_
          refine wp_seq ?_
          refine sx_region ?_
          refine sv 22 (.int .i64 ((b : Nat) : Int)) ?_
          refine sv 23 (.bool false) ?_ (hr := ((show _ = Result.ok (Next.value (.bool (decide (((b : Nat) : Int) < 10)))) _ from (by kernel_rfl)).trans (congrArg (fun z => Result.ok (Next.value (.bool z)) _) (show (decide (((b : Nat) : Int) < 10)) = false from decide_eq_false h1))))
          refine sv 24 (.bool false) ?_
          refine sv 25 (.int .i64 ((b : Nat) : Int)) ?_
          refine sv 26 (.bool false) ?_ (hr := ((show _ = Result.ok (Next.value (.bool (decide (((b : Nat) : Int) > 1000)))) _ from (by kernel_rfl)).trans (congrArg (fun z => Result.ok (Next.value (.bool z)) _) (show (decide (((b : Nat) : Int) > 1000)) = false from decide_eq_false h2))))
          refine sv 27 (.bool false) ?_
          refine sv 28 (.bool false) ?_
          refine sv 29 (.int .i64 ((n : Nat) : Int)) ?_
          refine sv 30 (.bool false) ?_ (hr := ((show _ = Result.ok (Next.value (.bool (decide (((n : Nat) : Int) < 2)))) _ from (by kernel_rfl)).trans (congrArg (fun z => Result.ok (Next.value (.bool z)) _) (show (decide (((n : Nat) : Int) < 2)) = false from decide_eq_false h3))))
          refine sv 31 (.bool false) ?_
          refine sv 32 (.bool false) ?_
          refine sv 33 (.int .i64 ((n : Nat) : Int)) ?_
          refine sv 34 (.bool false) ?_ (hr := ((show _ = Result.ok (Next.value (.bool (decide (((n : Nat) : Int) > 1000)))) _ from (by kernel_rfl)).trans (congrArg (fun z => Result.ok (Next.value (.bool z)) _) (show (decide (((n : Nat) : Int) > 1000)) = false from decide_eq_false h4))))
          refine sv 35 (.bool false) ?_
          refine sx_nil ?_
          refine sx_then ?_
          refine wp_cond_false (by kernel_rfl) ?_
          refine wp_skip ?_
          refine sx_then ?_
          refine wp_seq ?_
          refine sx_region ?_
          refine sv 55 (.int .i64 ((b : Nat) : Int)) ?_
          refine sv 56 (.int .i64 ((b + 100 : Nat) : Int)) ?_ (hr := ((show _ = Result.ok (Next.value (.int .i64 (IntKind.wrap .i64 (((b : Nat) : Int) + 100)))) _ by kernel_rfl).trans (congrArg (fun z => Result.ok (Next.value (.int .i64 z)) _) ((by rw [show ((b : Nat) : Int) + 100 = ((b + 100 : Nat) : Int) by omega]; exact IntWalk.i64_in _ (by omega))))))
          refine sv 9 (.int .i64 ((b + 100 : Nat) : Int)) ?_
          refine sx_nil ?_
          refine sx_then ?_
          refine wp_seq ?_
          replace b5 := (b5.past ((bthru hbV4 hbV5).trans (hOV6.below (by omega))))
          obtain ⟨V7, hVV7⟩ : ∃ V, V = (V6).drew := ⟨_, rfl⟩
          have hbV7 : Below (V6).heap.size (V6) V7 := by rw [hVV7]; exact (Below.refl _ _).drew
          have hzV7 : V7.heap.size = (V6).heap.size := by rw [hVV7]; rfl
          replace b5 := (b5.past hbV7)
          replace b7 := (b7.past hbV7)
          refine sxd _ (fun w' => Bt w' V1.heap.size 27 #[.bool ((norm (L0) (-((b + 20 : Nat) : Int))).neg), .slice p13 (dig B32 (norm (L0) (-((b + 20 : Nat) : Int))).m).length c13, .int .i64 ((norm (L0) (-((b + 20 : Nat) : Int))).e), .bool ((norm (H0) (-((b + 20 : Nat) : Int))).neg), .slice q13 (dig B32 (norm (H0) (-((b + 20 : Nat) : Int))).m).length d13, .int .i64 ((norm (H0) (-((b + 20 : Nat) : Int))).e)] ∧ Bt w' V4.heap.size 27 #[.bool ((norm (L1) (-((b + 20 : Nat) : Int))).neg), .slice p19 (dig B32 (norm (L1) (-((b + 20 : Nat) : Int))).m).length c19, .int .i64 ((norm (L1) (-((b + 20 : Nat) : Int))).e), .bool ((norm (H1) (-((b + 20 : Nat) : Int))).neg), .slice q19 (dig B32 (norm (H1) (-((b + 20 : Nat) : Int))).m).length d19, .int .i64 ((norm (H1) (-((b + 20 : Nat) : Int))).e)]) hVV7 ⟨b5, b7⟩ ?_
          clear hVV7
          refine sxr [0] ?_
          refine rd1 (fun Kx hKx => ?_)
          replace hT := (hT.past (bthru ((bthru hbV4 hbV5).trans (hOV6.below (by omega))) hbV7))
          refine sek 57 10 #[] ?_
          ((with_reducible refine (seriesBegun_any _ hT).mono ?_))
          rintro eV8 V8 ⟨rfl, hbV8⟩
          have hzV8 := hbV8.size
          refine ⟨.bool true, rfl, ?_⟩
          replace b5 := (b5.past hbV8)
          replace b7 := (b7.past hbV8)
          refine hKx.out _ _ ⟨b5, b7⟩ ?_
          clear hKx Kx
          refine tk 1 58 (.bool true) ⟨b5, b7⟩ ?_
          refine tk 2 59 (.int .i64 0) ⟨b5, b7⟩ ?_
          refine tk 3 60 (.bool true) ⟨b5, b7⟩ ?_
          refine tk 4 61 (.bool true) ⟨b5, b7⟩ ?_
          refine tk 5 62 (.bool true) ⟨b5, b7⟩ ?_
          refine tk 6 63 (.int .i64 0) ⟨b5, b7⟩ ?_
          refine tk 7 64 (.bool true) ⟨b5, b7⟩ ?_
          refine tk 8 65 (.bool true) ⟨b5, b7⟩ ?_
          refine tk 9 66 (.bool true) ⟨b5, b7⟩ ?_
          refine tk 10 67 (.agg #[.bool ((norm (L0) (-((b + 20 : Nat) : Int))).neg), .slice p13 (dig B32 (norm (L0) (-((b + 20 : Nat) : Int))).m).length c13, .int .i64 ((norm (L0) (-((b + 20 : Nat) : Int))).e), .bool ((norm (H0) (-((b + 20 : Nat) : Int))).neg), .slice q13 (dig B32 (norm (H0) (-((b + 20 : Nat) : Int))).m).length d13, .int .i64 ((norm (H0) (-((b + 20 : Nat) : Int))).e)]) ⟨b5, b7⟩ ?_ (hy := fun w' hS => (exec_ld (by kernel_rfl) (run_ld hS.1 hT27 0 [.bool ((norm (L0) (-((b + 20 : Nat) : Int))).neg), .slice p13 (dig B32 (norm (L0) (-((b + 20 : Nat) : Int))).m).length c13, .int .i64 ((norm (L0) (-((b + 20 : Nat) : Int))).e), .bool ((norm (H0) (-((b + 20 : Nat) : Int))).neg), .slice q13 (dig B32 (norm (H0) (-((b + 20 : Nat) : Int))).m).length d13, .int .i64 ((norm (H0) (-((b + 20 : Nat) : Int))).e)] (by kernel_rfl) (by kernel_rfl))))
          refine tk 11 68 (.int .i64 ((n : Nat) : Int)) ⟨b5, b7⟩ ?_
          refine tk 12 69 (.int .i64 ((b + 100 : Nat) : Int)) ⟨b5, b7⟩ ?_
          refine tk 14 71 (.int .i64 ((b + 100 : Nat) : Int)) ⟨b5, b7⟩ ?_
          refine tk 16 73 (.int .i64 ((b : Nat) : Int)) ⟨b5, b7⟩ ?_
          refine sxr [13] ?_
          refine rd1 (fun Kx hKx => ?_)
          refine sek 70 20 #[.int .i64 ((n : Nat) : Int), .int .i64 ((b + 100 : Nat) : Int), .bool false] ?_
          ((with_reducible refine ((HR0 _).out).mono ?_))
          rintro eV9 V9 ⟨p70, c70, rfl, x70, hbV9⟩
          have hzV9 := hbV9.size
          have lx70 := fun h => x70.lt h
          refine ⟨.slice p70 (dig B16 m0).length c70, rfl, ?_⟩
          replace b5 := (b5.past hbV9)
          replace b7 := (b7.past hbV9)
          refine hKx.out _ _ ⟨b5, b7⟩ ?_
          clear hKx Kx
          refine sxr [15] ?_
          refine rd1 (fun Kx hKx => ?_)
          refine sek 72 13 #[.slice p70 (dig B16 m0).length c70, .int .i64 ((b + 100 : Nat) : Int)] ?_
          ((with_reducible refine (narrow_any m0 (b + 100) _ p70 c70 _ rfl (by omega) x70.rd (by unfold Small; rw [Int.natAbs_natCast]; omega)).mono ?_))
          rintro eV10 V10 ⟨p72, c72, q72, d72, rfl, x72, y72, hbV10⟩
          have hzV10 := hbV10.size
          have lx72 := fun h => x72.lt h
          have ly72 := fun h => y72.lt h
          refine ⟨.agg #[.bool ((norm ((m0 : Int) - 1099511627776) (-((b + 100 : Nat) : Int))).neg), .slice p72 (dig B16 (norm ((m0 : Int) - 1099511627776) (-((b + 100 : Nat) : Int))).m).length c72, .int .i64 ((norm ((m0 : Int) - 1099511627776) (-((b + 100 : Nat) : Int))).e), .bool ((norm ((m0 : Int) + 1099511627776) (-((b + 100 : Nat) : Int))).neg), .slice q72 (dig B16 (norm ((m0 : Int) + 1099511627776) (-((b + 100 : Nat) : Int))).m).length d72, .int .i64 ((norm ((m0 : Int) + 1099511627776) (-((b + 100 : Nat) : Int))).e)], rfl, ?_⟩
          replace b5 := (b5.past hbV10)
          replace b7 := (b7.past hbV10)
          refine hKx.out _ _ ⟨b5, b7⟩ ?_
          clear hKx Kx
          refine sxr [17] ?_
          refine rd1 (fun Kx hKx => ?_)
          replace ho13 := (ho13.past (bthru (bthru (bthru (bthru ((bthru (bthru (hbV2.trans (hOV3.below (by omega))) hbV4) hbV5).trans (hOV6.below (by omega))) hbV7) hbV8) hbV9) hbV10))
          replace hq13 := (hq13.past (bthru (bthru (bthru (bthru ((bthru (bthru (hbV2.trans (hOV3.below (by omega))) hbV4) hbV5).trans (hOV6.below (by omega))) hbV7) hbV8) hbV9) hbV10))
          refine sek 74 12 #[.agg #[.bool ((norm (L0) (-((b + 20 : Nat) : Int))).neg), .slice p13 (dig B32 (norm (L0) (-((b + 20 : Nat) : Int))).m).length c13, .int .i64 ((norm (L0) (-((b + 20 : Nat) : Int))).e), .bool ((norm (H0) (-((b + 20 : Nat) : Int))).neg), .slice q13 (dig B32 (norm (H0) (-((b + 20 : Nat) : Int))).m).length d13, .int .i64 ((norm (H0) (-((b + 20 : Nat) : Int))).e)], .agg #[.bool ((norm ((m0 : Int) - 1099511627776) (-((b + 100 : Nat) : Int))).neg), .slice p72 (dig B16 (norm ((m0 : Int) - 1099511627776) (-((b + 100 : Nat) : Int))).m).length c72, .int .i64 ((norm ((m0 : Int) - 1099511627776) (-((b + 100 : Nat) : Int))).e), .bool ((norm ((m0 : Int) + 1099511627776) (-((b + 100 : Nat) : Int))).neg), .slice q72 (dig B16 (norm ((m0 : Int) + 1099511627776) (-((b + 100 : Nat) : Int))).m).length d72, .int .i64 ((norm ((m0 : Int) + 1099511627776) (-((b + 100 : Nat) : Int))).e)], .int .i64 ((b : Nat) : Int)] ?_
          ((with_reducible refine (bracketB_any (An false n) b m0 L0 H0 _ p13 q13 p72 q72 c13 d13 c72 d72 _ _ _ _ _ rfl (by omega) (by omega) hB0 ref0 bl0 ho13 hq13 x72 y72).mono ?_))
          rintro eV11 V11 ⟨rfl, hbV11⟩
          have hzV11 := hbV11.size
          refine ⟨.bool true, rfl, ?_⟩
          replace b5 := (b5.past hbV11)
          replace b7 := (b7.past hbV11)
          refine hKx.out _ _ ⟨b5, b7⟩ ?_
          clear hKx Kx
          refine tk 18 75 (.bool true) ⟨b5, b7⟩ ?_
          refine tk 19 76 (.bool true) ⟨b5, b7⟩ ?_
          refine tk 20 77 (.agg #[.bool ((norm (L1) (-((b + 20 : Nat) : Int))).neg), .slice p19 (dig B32 (norm (L1) (-((b + 20 : Nat) : Int))).m).length c19, .int .i64 ((norm (L1) (-((b + 20 : Nat) : Int))).e), .bool ((norm (H1) (-((b + 20 : Nat) : Int))).neg), .slice q19 (dig B32 (norm (H1) (-((b + 20 : Nat) : Int))).m).length d19, .int .i64 ((norm (H1) (-((b + 20 : Nat) : Int))).e)]) ⟨b5, b7⟩ ?_ (hy := fun w' hS => (exec_ld (by kernel_rfl) (run_ld hS.2 hT27 0 [.bool ((norm (L1) (-((b + 20 : Nat) : Int))).neg), .slice p19 (dig B32 (norm (L1) (-((b + 20 : Nat) : Int))).m).length c19, .int .i64 ((norm (L1) (-((b + 20 : Nat) : Int))).e), .bool ((norm (H1) (-((b + 20 : Nat) : Int))).neg), .slice q19 (dig B32 (norm (H1) (-((b + 20 : Nat) : Int))).m).length d19, .int .i64 ((norm (H1) (-((b + 20 : Nat) : Int))).e)] (by kernel_rfl) (by kernel_rfl))))
          refine tk 21 78 (.int .i64 ((n : Nat) : Int)) ⟨b5, b7⟩ ?_
          refine tk 22 79 (.int .i64 ((b + 100 : Nat) : Int)) ⟨b5, b7⟩ ?_
          refine tk 24 81 (.int .i64 ((b + 100 : Nat) : Int)) ⟨b5, b7⟩ ?_
          refine tk 26 83 (.int .i64 ((b : Nat) : Int)) ⟨b5, b7⟩ ?_
          refine sxr [23] ?_
          refine rd1 (fun Kx hKx => ?_)
          refine sek 80 20 #[.int .i64 ((n : Nat) : Int), .int .i64 ((b + 100 : Nat) : Int), .bool true] ?_
          ((with_reducible refine ((HR1 _).out).mono ?_))
          rintro eV12 V12 ⟨p80, c80, rfl, x80, hbV12⟩
          have hzV12 := hbV12.size
          have lx80 := fun h => x80.lt h
          refine ⟨.slice p80 (dig B16 m1).length c80, rfl, ?_⟩
          replace b5 := (b5.past hbV12)
          replace b7 := (b7.past hbV12)
          refine hKx.out _ _ ⟨b5, b7⟩ ?_
          clear hKx Kx
          refine sxr [25] ?_
          refine rd1 (fun Kx hKx => ?_)
          refine sek 82 13 #[.slice p80 (dig B16 m1).length c80, .int .i64 ((b + 100 : Nat) : Int)] ?_
          ((with_reducible refine (narrow_any m1 (b + 100) _ p80 c80 _ rfl (by omega) x80.rd (by unfold Small; rw [Int.natAbs_natCast]; omega)).mono ?_))
          rintro eV13 V13 ⟨p82, c82, q82, d82, rfl, x82, y82, hbV13⟩
          have hzV13 := hbV13.size
          have lx82 := fun h => x82.lt h
          have ly82 := fun h => y82.lt h
          refine ⟨.agg #[.bool ((norm ((m1 : Int) - 1099511627776) (-((b + 100 : Nat) : Int))).neg), .slice p82 (dig B16 (norm ((m1 : Int) - 1099511627776) (-((b + 100 : Nat) : Int))).m).length c82, .int .i64 ((norm ((m1 : Int) - 1099511627776) (-((b + 100 : Nat) : Int))).e), .bool ((norm ((m1 : Int) + 1099511627776) (-((b + 100 : Nat) : Int))).neg), .slice q82 (dig B16 (norm ((m1 : Int) + 1099511627776) (-((b + 100 : Nat) : Int))).m).length d82, .int .i64 ((norm ((m1 : Int) + 1099511627776) (-((b + 100 : Nat) : Int))).e)], rfl, ?_⟩
          replace b5 := (b5.past hbV13)
          replace b7 := (b7.past hbV13)
          refine hKx.out _ _ ⟨b5, b7⟩ ?_
          clear hKx Kx
          refine sxr [27] ?_
          refine rd1 (fun Kx hKx => ?_)
          replace ho19 := (ho19.past (bthru (bthru (bthru (bthru (bthru (bthru (bthru (hbV5.trans (hOV6.below (by omega))) hbV7) hbV8) hbV9) hbV10) hbV11) hbV12) hbV13))
          replace hq19 := (hq19.past (bthru (bthru (bthru (bthru (bthru (bthru (bthru (hbV5.trans (hOV6.below (by omega))) hbV7) hbV8) hbV9) hbV10) hbV11) hbV12) hbV13))
          refine sek 84 12 #[.agg #[.bool ((norm (L1) (-((b + 20 : Nat) : Int))).neg), .slice p19 (dig B32 (norm (L1) (-((b + 20 : Nat) : Int))).m).length c19, .int .i64 ((norm (L1) (-((b + 20 : Nat) : Int))).e), .bool ((norm (H1) (-((b + 20 : Nat) : Int))).neg), .slice q19 (dig B32 (norm (H1) (-((b + 20 : Nat) : Int))).m).length d19, .int .i64 ((norm (H1) (-((b + 20 : Nat) : Int))).e)], .agg #[.bool ((norm ((m1 : Int) - 1099511627776) (-((b + 100 : Nat) : Int))).neg), .slice p82 (dig B16 (norm ((m1 : Int) - 1099511627776) (-((b + 100 : Nat) : Int))).m).length c82, .int .i64 ((norm ((m1 : Int) - 1099511627776) (-((b + 100 : Nat) : Int))).e), .bool ((norm ((m1 : Int) + 1099511627776) (-((b + 100 : Nat) : Int))).neg), .slice q82 (dig B16 (norm ((m1 : Int) + 1099511627776) (-((b + 100 : Nat) : Int))).m).length d82, .int .i64 ((norm ((m1 : Int) + 1099511627776) (-((b + 100 : Nat) : Int))).e)], .int .i64 ((b : Nat) : Int)] ?_
          ((with_reducible refine (bracketB_any (An true n) b m1 L1 H1 _ p19 q19 p82 q82 c19 d19 c82 d82 _ _ _ _ _ rfl (by omega) (by omega) hB1 ref1 bl1 ho19 hq19 x82 y82).mono ?_))
          rintro eV14 V14 ⟨rfl, hbV14⟩
          have hzV14 := hbV14.size
          refine ⟨.bool true, rfl, ?_⟩
          replace b5 := (b5.past hbV14)
          replace b7 := (b7.past hbV14)
          refine hKx.out _ _ ⟨b5, b7⟩ ?_
          clear hKx Kx
          refine tk 28 85 (.bool true) ⟨b5, b7⟩ ?_
          refine tk 29 4 (.bool true) ⟨b5, b7⟩ ?_
          refine sx_done (by kernel_rfl) ?_
          refine sx_then ?_
          refine wp_ret ?_
          repeat (first | with_reducible refine sx_thenret ?_ | with_reducible refine sx_blockret ?_)
          refine bodyPost_ret (v := .bool true) (by simp [results, Tryd.results6, go_sem]) rfl ?_
          exact ⟨rfl, (bthru (bthru (bthru (bthru (bthru (bthru (bthru (bthru ((bthru (bthru ((bthru hbV1 hbV2).trans (hOV3.below (by omega))) hbV4) hbV5).trans (hOV6.below (by omega))) hbV7) hbV8) hbV9) hbV10) hbV11) hbV12) hbV13) hbV14)⟩

end Go.Proofs.YtehodhanojgkgaaDoor
