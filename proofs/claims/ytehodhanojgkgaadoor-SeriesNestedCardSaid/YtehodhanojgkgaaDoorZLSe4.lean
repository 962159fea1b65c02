/- The law SeriesNested: its walk. -/
import Derived.Test.YtehodhanojgkgaaDoorZV
namespace Go.Proofs.YtehodhanojgkgaaDoor
open Go.RowKit Go.Slip

/-- What a call of a series tells, or that something is wrong. -/
structure TT (X : Nat → Int) (l h : Dv) (e : Int) : Prop where
  bl : Bare l
  bh : Bare h
  el : errD l = 0
  eh : errD h = 0
  fl : FitR l
  fh : FitR h
  ok : e = 0 → ∃ w L H, BallOf X w L H ∧ l = norm L (-w) ∧ h = norm H (-w)

theorem tt_ok {X : Nat → Int} {w : Nat} {L H : Int} (hw : w ≤ 1100) (B : BallOf X w L H) : TT X (norm L (-w)) (norm H (-w)) 0 := by
  obtain ⟨e1, e2, f1, f2⟩ := ball_told B hw
  exact ⟨norm_bare _ _, norm_bare _ _, e1, e2, f1, f2, fun _ => ⟨w, L, H, B, rfl, rfl⟩⟩
theorem tt_no (X : Nat → Int) : TT X zeroD zeroD 3 :=
  ⟨.inr rfl, .inr rfl, by simp [errD, zeroD, dig_zero], by simp [errD, zeroD, dig_zero], ⟨by simp [zeroD, dig_zero], by simp [zeroD], by simp [zeroD]⟩, ⟨by simp [zeroD, dig_zero], by simp [zeroD], by simp [zeroD]⟩, fun h => by simp at h⟩
def GivesTT (w : World) (X : Nat → Int) (en : Ending) (w' : World) : Prop := ∃ l h e, TT X l h e ∧ GivesBE w w.heap.size l h e en w'
theorem GivesXE.tt {w w' : World} {X : Nat → Int} {w0 : Nat} {en : Ending} (hw : w0 ≤ 1100) (h : GivesXE w X w0 en w') : GivesTT w X en w' := by
  obtain ⟨L, H, B, hg⟩ := h
  exact ⟨_, _, 0, tt_ok hw B, hg⟩
theorem GivesNo.tt {w w' : World} (X : Nat → Int) {en : Ending} (h : GivesNo w en w') : GivesTT w X en w' := by
  obtain ⟨he, hb⟩ := h
  refine ⟨zeroD, zeroD, 3, tt_no X, none, 0, none, 0, ?_, zero_ball _ _, zero_ball _ _, hb⟩
  rw [he]
  simp [zeroD, dig_zero]

theorem pi_tt (n : Int) (w : World) (hT : TabW w) : Calls Tryd.prog 9 #[.int .i64 n] w (GivesTT w Xpi) := by
  by_cases h : 10 ≤ n ∧ n ≤ 1000
  · exact (piZ_ok n n.toNat (by omega) w (by omega) (by omega) hT).mono fun _ _ => GivesXE.tt (by omega)
  · exact (pi_no n w h).mono fun _ _ hh => GivesNo.tt Xpi hh
theorem ln2_tt (n : Int) (w : World) (hT : TabW w) : Calls Tryd.prog 15 #[.int .i64 n] w (GivesTT w Xln) := by
  by_cases h : 10 ≤ n ∧ n ≤ 1000
  · exact (ln2Z_ok n n.toNat (by omega) w (by omega) (by omega) hT).mono fun _ _ => GivesXE.tt (by omega)
  · exact (ln2_no n w h).mono fun _ _ hh => GivesNo.tt Xln hh
theorem atan_tt (n b : Int) (w : World) (hT : TabW w) : Calls Tryd.prog 17 #[.int .i64 n, .int .i64 b] w (GivesTT w (An true n.toNat)) := by
  by_cases h : (10 ≤ b ∧ b ≤ 1000) ∧ (2 ≤ n ∧ n ≤ 1000)
  · exact (atan_ok n b n.toNat b.toNat w (by omega) (by omega) (by omega) (by omega) (by omega) (by omega) hT).mono fun _ _ => GivesXE.tt (by omega)
  · exact (atan_no n b w (by omega)).mono fun _ _ hh => GivesNo.tt _ hh

theorem meetT_any (X : Nat → Int) (l h u v : Dv) (e f : Int) (pl ph pu pv : Option Addr) (cl ch cu cv b1 b2 b3 b4 : Nat) (w : World) (ol : Own w b1 .u32 58 pl cl (dig B32 l.m)) (oh : Own w b2 .u32 58 ph ch (dig B32 h.m)) (ou : Own w b3 .u32 58 pu cu (dig B32 u.m)) (ov : Own w b4 .u32 58 pv cv (dig B32 v.m))
    (t : TT X l h e) (t' : TT X u v f) (he : e = 0) (hf : f = 0) :
    Calls Tryd.prog 18 #[.agg #[.bool l.neg, .slice pl (dig B32 l.m).length cl, .int .i64 l.e, .bool h.neg, .slice ph (dig B32 h.m).length ch, .int .i64 h.e], .agg #[.bool u.neg, .slice pu (dig B32 u.m).length cu, .int .i64 u.e, .bool v.neg, .slice pv (dig B32 v.m).length cv, .int .i64 v.e]] w fun en w' => en = .returned (.bool true) ∧ Below w.heap.size w w' := by
  obtain ⟨w1, L, H, B, rfl, rfl⟩ := t.ok he
  obtain ⟨w2, L', H', B', rfl, rfl⟩ := t'.ok hf
  exact meet_any _ _ _ _ pl ph pu pv cl ch cu cv _ _ _ _ w ol oh ou ov t.bl t.bh t'.bl t'.bh t.el t.eh t'.el t'.eh t.fl t.fh t'.fl t'.fh (meet_ok B B') (meet_ok B' B)


set_option maxHeartbeats 8000000 in
set_option maxRecDepth 100000 in
theorem lawSeNest_row (a b n : Int) (w : World) (hT : TabW w) :
    Calls Tryd.prog 5 #[.int .i64 a, .int .i64 b, .int .i64 n] w fun en w' => en = .returned (.bool true) ∧ Below w.heap.size w w' := by
  have hT27 : SxAgg Tryd.prog 27 6 := sxAgg_of (by kernel_rfl) (by kernel_rfl)
  refine calls_of_wp Tryd.func5 rfl ?_
  refine sx_frame (a' := ⟨((.int .i64 a) :: (.int .i64 b) :: (.int .i64 n) :: undef :: undef :: undef :: undef :: undef :: undef :: undef :: undef :: undef :: undef :: undef :: undef :: undef :: undef :: undef :: undef :: undef :: undef :: undef :: undef :: undef :: undef :: undef :: undef :: undef :: undef :: undef :: undef :: undef :: undef :: undef :: undef :: undef :: undef :: undef :: undef :: undef :: undef :: undef :: undef :: undef :: undef :: undef :: undef :: undef :: undef :: undef :: undef :: undef :: undef :: undef :: undef :: undef :: undef :: undef :: undef :: undef :: undef :: undef :: undef :: undef :: undef :: undef :: undef :: undef :: undef :: undef :: undef :: undef :: undef :: undef :: undef :: undef :: undef :: undef :: undef :: undef :: undef :: undef :: undef :: undef :: undef :: undef :: undef :: undef :: undef :: undef :: []).toArray, []⟩) (by kernel_rfl) ?_
  refine wp_seq ?_
  refine sx_region ?_
  refine sv 6 (.bool false) ?_
  refine sx_nil ?_
  refine sx_then ?_
  refine wp_seq ?_
  refine wp_seq ?_
  refine sx_region ?_
  refine se 19 10 #[] (fun Gx hGx => ?_)
  ((with_reducible refine (seriesBegun_any _ hT).mono ?_))
  rintro eV1 V1 ⟨rfl, hbV1⟩
  have hzV1 := hbV1.size
  refine ⟨.bool true, rfl, hGx _ _ ?_⟩
  clear hGx Gx
  refine sv 20 (.bool false) ?_
  refine sx_nil ?_
  refine sx_then ?_
  refine wp_cond_false (by kernel_rfl) ?_
  refine wp_skip ?_
  refine sx_then ?_
  refine wp_seq ?_
  refine sx_region ?_
  refine sv 22 (.int .i64 a) ?_
  replace hT := (hT.past hbV1)
  refine se 23 9 #[.int .i64 a] (fun Gx hGx => ?_)
  ((with_reducible refine (pi_tt a _ hT).mono ?_))
  rintro eV2 V2 ⟨l23, m23, e23, ht23, p23, c23, q23, d23, rfl, ho23, hq23, hbV2⟩
  have hzV2 := hbV2.size
  refine ⟨.tuple #[.agg #[.bool l23.neg, .slice p23 (dig B32 l23.m).length c23, .int .i64 l23.e, .bool m23.neg, .slice q23 (dig B32 m23.m).length d23, .int .i64 m23.e], .int .i64 e23], rfl, hGx _ _ ?_⟩
  clear hGx Gx
  refine sv 21 (.tuple #[.agg #[.bool l23.neg, .slice p23 (dig B32 l23.m).length c23, .int .i64 l23.e, .bool m23.neg, .slice q23 (dig B32 m23.m).length d23, .int .i64 m23.e], .int .i64 e23]) ?_
  refine sv 24 (.agg #[.bool l23.neg, .slice p23 (dig B32 l23.m).length c23, .int .i64 l23.e, .bool m23.neg, .slice q23 (dig B32 m23.m).length d23, .int .i64 m23.e]) ?_
  refine sv 25 (.int .i64 e23) ?_
  refine sn 7 #[.bool false, .slice none 0 0, .int .i64 0, .bool false, .slice none 0 0, .int .i64 0] 27 (fun V3 hbV3 hzV3 b7 => ?_)
  refine ss none b7 hT27 0 #[.bool l23.neg, .slice p23 (dig B32 l23.m).length c23, .int .i64 l23.e, .bool m23.neg, .slice q23 (dig B32 m23.m).length d23, .int .i64 m23.e] #[.bool l23.neg, .slice p23 (dig B32 l23.m).length c23, .int .i64 l23.e, .bool m23.neg, .slice q23 (dig B32 m23.m).length d23, .int .i64 m23.e] ?_
  have boV4 := b7
  clear b7
  intro V4 hOV4 b7
  have hzV4 := hOV4.size
  refine sv 8 (.int .i64 e23) ?_
  refine sx_nil ?_
  refine sx_then ?_
  refine wp_seq ?_
  refine sx_region ?_
  refine sv 27 (.int .i64 b) ?_
  replace hT := (hT.past ((bthru hbV2 hbV3).trans (hOV4.below (by omega))))
  refine se 28 9 #[.int .i64 b] (fun Gx hGx => ?_)
  ((with_reducible refine (pi_tt b _ hT).mono ?_))
  rintro eV5 V5 ⟨l28, m28, e28, ht28, p28, c28, q28, d28, rfl, ho28, hq28, hbV5⟩
  have hzV5 := hbV5.size
  refine ⟨.tuple #[.agg #[.bool l28.neg, .slice p28 (dig B32 l28.m).length c28, .int .i64 l28.e, .bool m28.neg, .slice q28 (dig B32 m28.m).length d28, .int .i64 m28.e], .int .i64 e28], rfl, hGx _ _ ?_⟩
  clear hGx Gx
  refine sv 26 (.tuple #[.agg #[.bool l28.neg, .slice p28 (dig B32 l28.m).length c28, .int .i64 l28.e, .bool m28.neg, .slice q28 (dig B32 m28.m).length d28, .int .i64 m28.e], .int .i64 e28]) ?_
  refine sv 29 (.agg #[.bool l28.neg, .slice p28 (dig B32 l28.m).length c28, .int .i64 l28.e, .bool m28.neg, .slice q28 (dig B32 m28.m).length d28, .int .i64 m28.e]) ?_
  refine sv 30 (.int .i64 e28) ?_
  refine sn 9 #[.bool false, .slice none 0 0, .int .i64 0, .bool false, .slice none 0 0, .int .i64 0] 27 (fun V6 hbV6 hzV6 b9 => ?_)
  refine ss none b9 hT27 0 #[.bool l28.neg, .slice p28 (dig B32 l28.m).length c28, .int .i64 l28.e, .bool m28.neg, .slice q28 (dig B32 m28.m).length d28, .int .i64 m28.e] #[.bool l28.neg, .slice p28 (dig B32 l28.m).length c28, .int .i64 l28.e, .bool m28.neg, .slice q28 (dig B32 m28.m).length d28, .int .i64 m28.e] ?_
  have boV7 := b9
  clear b9
  intro V7 hOV7 b9
  have hzV7 := hOV7.size
  refine sv 10 (.int .i64 e28) ?_
  refine sx_nil ?_
  refine sx_then ?_
  refine wp_seq ?_
  refine sx_region ?_
  refine sv 32 (.int .i64 a) ?_
  replace hT := (hT.past ((bthru hbV5 hbV6).trans (hOV7.below (by omega))))
  refine se 33 15 #[.int .i64 a] (fun Gx hGx => ?_)
  ((with_reducible refine (ln2_tt a _ hT).mono ?_))
  rintro eV8 V8 ⟨l33, m33, e33, ht33, p33, c33, q33, d33, rfl, ho33, hq33, hbV8⟩
  have hzV8 := hbV8.size
  refine ⟨.tuple #[.agg #[.bool l33.neg, .slice p33 (dig B32 l33.m).length c33, .int .i64 l33.e, .bool m33.neg, .slice q33 (dig B32 m33.m).length d33, .int .i64 m33.e], .int .i64 e33], rfl, hGx _ _ ?_⟩
  clear hGx Gx
  refine sv 31 (.tuple #[.agg #[.bool l33.neg, .slice p33 (dig B32 l33.m).length c33, .int .i64 l33.e, .bool m33.neg, .slice q33 (dig B32 m33.m).length d33, .int .i64 m33.e], .int .i64 e33]) ?_
  refine sv 34 (.agg #[.bool l33.neg, .slice p33 (dig B32 l33.m).length c33, .int .i64 l33.e, .bool m33.neg, .slice q33 (dig B32 m33.m).length d33, .int .i64 m33.e]) ?_
  refine sv 35 (.int .i64 e33) ?_
  refine sn 11 #[.bool false, .slice none 0 0, .int .i64 0, .bool false, .slice none 0 0, .int .i64 0] 27 (fun V9 hbV9 hzV9 b11 => ?_)
  refine ss none b11 hT27 0 #[.bool l33.neg, .slice p33 (dig B32 l33.m).length c33, .int .i64 l33.e, .bool m33.neg, .slice q33 (dig B32 m33.m).length d33, .int .i64 m33.e] #[.bool l33.neg, .slice p33 (dig B32 l33.m).length c33, .int .i64 l33.e, .bool m33.neg, .slice q33 (dig B32 m33.m).length d33, .int .i64 m33.e] ?_
  have boV10 := b11
  clear b11
  intro V10 hOV10 b11
  have hzV10 := hOV10.size
  refine sv 12 (.int .i64 e33) ?_
  refine sx_nil ?_
  refine sx_then ?_
  refine wp_seq ?_
  refine sx_region ?_
  refine sv 37 (.int .i64 b) ?_
  replace hT := (hT.past ((bthru hbV8 hbV9).trans (hOV10.below (by omega))))
  refine se 38 15 #[.int .i64 b] (fun Gx hGx => ?_)
  ((with_reducible refine (ln2_tt b _ hT).mono ?_))
  rintro eV11 V11 ⟨l38, m38, e38, ht38, p38, c38, q38, d38, rfl, ho38, hq38, hbV11⟩
  have hzV11 := hbV11.size
  refine ⟨.tuple #[.agg #[.bool l38.neg, .slice p38 (dig B32 l38.m).length c38, .int .i64 l38.e, .bool m38.neg, .slice q38 (dig B32 m38.m).length d38, .int .i64 m38.e], .int .i64 e38], rfl, hGx _ _ ?_⟩
  clear hGx Gx
  refine sv 36 (.tuple #[.agg #[.bool l38.neg, .slice p38 (dig B32 l38.m).length c38, .int .i64 l38.e, .bool m38.neg, .slice q38 (dig B32 m38.m).length d38, .int .i64 m38.e], .int .i64 e38]) ?_
  refine sv 39 (.agg #[.bool l38.neg, .slice p38 (dig B32 l38.m).length c38, .int .i64 l38.e, .bool m38.neg, .slice q38 (dig B32 m38.m).length d38, .int .i64 m38.e]) ?_
  refine sv 40 (.int .i64 e38) ?_
  refine sn 13 #[.bool false, .slice none 0 0, .int .i64 0, .bool false, .slice none 0 0, .int .i64 0] 27 (fun V12 hbV12 hzV12 b13 => ?_)
  refine ss none b13 hT27 0 #[.bool l38.neg, .slice p38 (dig B32 l38.m).length c38, .int .i64 l38.e, .bool m38.neg, .slice q38 (dig B32 m38.m).length d38, .int .i64 m38.e] #[.bool l38.neg, .slice p38 (dig B32 l38.m).length c38, .int .i64 l38.e, .bool m38.neg, .slice q38 (dig B32 m38.m).length d38, .int .i64 m38.e] ?_
  have boV13 := b13
  clear b13
  intro V13 hOV13 b13
  have hzV13 := hOV13.size
  refine sv 14 (.int .i64 e38) ?_
  refine sx_nil ?_
  refine sx_then ?_
  refine wp_seq ?_
  refine sx_region ?_
  refine sv 42 (.int .i64 n) ?_
  refine sv 43 (.int .i64 a) ?_
  replace hT := (hT.past ((bthru hbV11 hbV12).trans (hOV13.below (by omega))))
  refine se 44 17 #[.int .i64 n, .int .i64 a] (fun Gx hGx => ?_)
  ((with_reducible refine (atan_tt n a _ hT).mono ?_))
  rintro eV14 V14 ⟨l44, m44, e44, ht44, p44, c44, q44, d44, rfl, ho44, hq44, hbV14⟩
  have hzV14 := hbV14.size
  refine ⟨.tuple #[.agg #[.bool l44.neg, .slice p44 (dig B32 l44.m).length c44, .int .i64 l44.e, .bool m44.neg, .slice q44 (dig B32 m44.m).length d44, .int .i64 m44.e], .int .i64 e44], rfl, hGx _ _ ?_⟩
  clear hGx Gx
  refine sv 41 (.tuple #[.agg #[.bool l44.neg, .slice p44 (dig B32 l44.m).length c44, .int .i64 l44.e, .bool m44.neg, .slice q44 (dig B32 m44.m).length d44, .int .i64 m44.e], .int .i64 e44]) ?_
  refine sv 45 (.agg #[.bool l44.neg, .slice p44 (dig B32 l44.m).length c44, .int .i64 l44.e, .bool m44.neg, .slice q44 (dig B32 m44.m).length d44, .int .i64 m44.e]) ?_
  refine sv 46 (.int .i64 e44) ?_
  refine sn 15 #[.bool false, .slice none 0 0, .int .i64 0, .bool false, .slice none 0 0, .int .i64 0] 27 (fun V15 hbV15 hzV15 b15 => ?_)
  refine ss none b15 hT27 0 #[.bool l44.neg, .slice p44 (dig B32 l44.m).length c44, .int .i64 l44.e, .bool m44.neg, .slice q44 (dig B32 m44.m).length d44, .int .i64 m44.e] #[.bool l44.neg, .slice p44 (dig B32 l44.m).length c44, .int .i64 l44.e, .bool m44.neg, .slice q44 (dig B32 m44.m).length d44, .int .i64 m44.e] ?_
  have boV16 := b15
  clear b15
  intro V16 hOV16 b15
  have hzV16 := hOV16.size
  refine sv 16 (.int .i64 e44) ?_
  refine sx_nil ?_
  refine sx_then ?_
  refine wp_seq ?_
  refine sx_region ?_
  refine sv 48 (.int .i64 n) ?_
  refine sv 49 (.int .i64 b) ?_
  replace hT := (hT.past ((bthru hbV14 hbV15).trans (hOV16.below (by omega))))
  refine se 50 17 #[.int .i64 n, .int .i64 b] (fun Gx hGx => ?_)
  ((with_reducible refine (atan_tt n b _ hT).mono ?_))
  rintro eV17 V17 ⟨l50, m50, e50, ht50, p50, c50, q50, d50, rfl, ho50, hq50, hbV17⟩
  have hzV17 := hbV17.size
  refine ⟨.tuple #[.agg #[.bool l50.neg, .slice p50 (dig B32 l50.m).length c50, .int .i64 l50.e, .bool m50.neg, .slice q50 (dig B32 m50.m).length d50, .int .i64 m50.e], .int .i64 e50], rfl, hGx _ _ ?_⟩
  clear hGx Gx
  refine sv 47 (.tuple #[.agg #[.bool l50.neg, .slice p50 (dig B32 l50.m).length c50, .int .i64 l50.e, .bool m50.neg, .slice q50 (dig B32 m50.m).length d50, .int .i64 m50.e], .int .i64 e50]) ?_
  refine sv 51 (.agg #[.bool l50.neg, .slice p50 (dig B32 l50.m).length c50, .int .i64 l50.e, .bool m50.neg, .slice q50 (dig B32 m50.m).length d50, .int .i64 m50.e]) ?_
  refine sv 52 (.int .i64 e50) ?_
  refine sn 17 #[.bool false, .slice none 0 0, .int .i64 0, .bool false, .slice none 0 0, .int .i64 0] 27 (fun V18 hbV18 hzV18 b17 => ?_)
  refine ss none b17 hT27 0 #[.bool l50.neg, .slice p50 (dig B32 l50.m).length c50, .int .i64 l50.e, .bool m50.neg, .slice q50 (dig B32 m50.m).length d50, .int .i64 m50.e] #[.bool l50.neg, .slice p50 (dig B32 l50.m).length c50, .int .i64 l50.e, .bool m50.neg, .slice q50 (dig B32 m50.m).length d50, .int .i64 m50.e] ?_
  have boV19 := b17
  clear b17
  intro V19 hOV19 b17
  have hzV19 := hOV19.size
  refine sv 18 (.int .i64 e50) ?_
  refine sx_nil ?_
  refine sx_then ?_
  refine wp_seq ?_
  refine wp_seq ?_
  refine sx_region ?_
  refine sv 53 (.int .i64 e23) ?_
  rcases Bool.eq_false_or_eq_true (e23 == 0) with f54 | f54
  · skip
    refine sv 54 (.bool true) ?_ (hr := ((show _ = Result.ok (Next.value (.bool (e23 == 0))) _ from (by kernel_rfl)).trans (congrArg (fun z => Result.ok (Next.value (.bool z)) _) (show (e23 == 0) = true from f54))))
    refine sv 55 (.bool true) ?_
    refine sv 56 (.int .i64 e28) ?_
    rcases Bool.eq_false_or_eq_true (e28 == 0) with f57 | f57
    · skip
      refine sv 57 (.bool true) ?_ (hr := ((show _ = Result.ok (Next.value (.bool (e28 == 0))) _ from (by kernel_rfl)).trans (congrArg (fun z => Result.ok (Next.value (.bool z)) _) (show (e28 == 0) = true from f57))))
      refine sv 58 (.bool true) ?_
      refine sv 59 (.bool true) ?_
      replace b7 := (b7.past ((bthru (bthru ((bthru (bthru ((bthru (bthru ((bthru (bthru ((bthru hbV5 hbV6).trans (hOV7.below (by omega))) hbV8) hbV9).trans (hOV10.below (by omega))) hbV11) hbV12).trans (hOV13.below (by omega))) hbV14) hbV15).trans (hOV16.below (by omega))) hbV17) hbV18).trans (hOV19.below (by omega))))
      refine sv 60 (.agg #[.bool l23.neg, .slice p23 (dig B32 l23.m).length c23, .int .i64 l23.e, .bool m23.neg, .slice q23 (dig B32 m23.m).length d23, .int .i64 m23.e]) ?_ (hr := (exec_ld (by kernel_rfl) (run_ld b7 hT27 0 [.bool l23.neg, .slice p23 (dig B32 l23.m).length c23, .int .i64 l23.e, .bool m23.neg, .slice q23 (dig B32 m23.m).length d23, .int .i64 m23.e] (by kernel_rfl) (by kernel_rfl))))
      replace b9 := (b9.past ((bthru (bthru ((bthru (bthru ((bthru (bthru ((bthru hbV8 hbV9).trans (hOV10.below (by omega))) hbV11) hbV12).trans (hOV13.below (by omega))) hbV14) hbV15).trans (hOV16.below (by omega))) hbV17) hbV18).trans (hOV19.below (by omega))))
      refine sv 61 (.agg #[.bool l28.neg, .slice p28 (dig B32 l28.m).length c28, .int .i64 l28.e, .bool m28.neg, .slice q28 (dig B32 m28.m).length d28, .int .i64 m28.e]) ?_ (hr := (exec_ld (by kernel_rfl) (run_ld b9 hT27 0 [.bool l28.neg, .slice p28 (dig B32 l28.m).length c28, .int .i64 l28.e, .bool m28.neg, .slice q28 (dig B32 m28.m).length d28, .int .i64 m28.e] (by kernel_rfl) (by kernel_rfl))))
      replace ho23 := (ho23.past ((bthru (bthru ((bthru (bthru ((bthru (bthru ((bthru (bthru ((bthru (bthru (hbV3.trans (hOV4.below (by omega))) hbV5) hbV6).trans (hOV7.below (by omega))) hbV8) hbV9).trans (hOV10.below (by omega))) hbV11) hbV12).trans (hOV13.below (by omega))) hbV14) hbV15).trans (hOV16.below (by omega))) hbV17) hbV18).trans (hOV19.below (by omega))))
      replace hq23 := (hq23.past ((bthru (bthru ((bthru (bthru ((bthru (bthru ((bthru (bthru ((bthru (bthru (hbV3.trans (hOV4.below (by omega))) hbV5) hbV6).trans (hOV7.below (by omega))) hbV8) hbV9).trans (hOV10.below (by omega))) hbV11) hbV12).trans (hOV13.below (by omega))) hbV14) hbV15).trans (hOV16.below (by omega))) hbV17) hbV18).trans (hOV19.below (by omega))))
      replace ho28 := (ho28.past ((bthru (bthru ((bthru (bthru ((bthru (bthru ((bthru (bthru (hbV6.trans (hOV7.below (by omega))) hbV8) hbV9).trans (hOV10.below (by omega))) hbV11) hbV12).trans (hOV13.below (by omega))) hbV14) hbV15).trans (hOV16.below (by omega))) hbV17) hbV18).trans (hOV19.below (by omega))))
      replace hq28 := (hq28.past ((bthru (bthru ((bthru (bthru ((bthru (bthru ((bthru (bthru (hbV6.trans (hOV7.below (by omega))) hbV8) hbV9).trans (hOV10.below (by omega))) hbV11) hbV12).trans (hOV13.below (by omega))) hbV14) hbV15).trans (hOV16.below (by omega))) hbV17) hbV18).trans (hOV19.below (by omega))))
      refine se 62 18 #[.agg #[.bool l23.neg, .slice p23 (dig B32 l23.m).length c23, .int .i64 l23.e, .bool m23.neg, .slice q23 (dig B32 m23.m).length d23, .int .i64 m23.e], .agg #[.bool l28.neg, .slice p28 (dig B32 l28.m).length c28, .int .i64 l28.e, .bool m28.neg, .slice q28 (dig B32 m28.m).length d28, .int .i64 m28.e]] (fun Gx hGx => ?_)
      ((with_reducible refine (meetT_any Xpi l23 m23 l28 m28 e23 e28 p23 q23 p28 q28 c23 d23 c28 d28 _ _ _ _ _ ho23 hq23 ho28 hq28 ht23 ht28 (beq_iff_eq.1 f54) (beq_iff_eq.1 f57)).mono ?_))
      rintro eV20 V20 ⟨rfl, hbV20⟩
      have hzV20 := hbV20.size
      refine ⟨.bool true, rfl, hGx _ _ ?_⟩
      clear hGx Gx
      refine sv 63 (.bool false) ?_
      refine sv 64 (.bool false) ?_
      refine sv 65 (.bool false) ?_
      refine sv 66 (.int .i64 e33) ?_
      rcases Bool.eq_false_or_eq_true (e33 == 0) with f67 | f67
      · skip
        refine sv 67 (.bool true) ?_ (hr := ((show _ = Result.ok (Next.value (.bool (e33 == 0))) _ from (by kernel_rfl)).trans (congrArg (fun z => Result.ok (Next.value (.bool z)) _) (show (e33 == 0) = true from f67))))
        refine sv 68 (.bool true) ?_
        refine sv 69 (.int .i64 e38) ?_
        rcases Bool.eq_false_or_eq_true (e38 == 0) with f70 | f70
        · skip
          refine sv 70 (.bool true) ?_ (hr := ((show _ = Result.ok (Next.value (.bool (e38 == 0))) _ from (by kernel_rfl)).trans (congrArg (fun z => Result.ok (Next.value (.bool z)) _) (show (e38 == 0) = true from f70))))
          refine sv 71 (.bool true) ?_
          refine sv 72 (.bool true) ?_
          replace b11 := (b11.past (bthru ((bthru (bthru ((bthru (bthru ((bthru hbV11 hbV12).trans (hOV13.below (by omega))) hbV14) hbV15).trans (hOV16.below (by omega))) hbV17) hbV18).trans (hOV19.below (by omega))) hbV20))
          refine sv 73 (.agg #[.bool l33.neg, .slice p33 (dig B32 l33.m).length c33, .int .i64 l33.e, .bool m33.neg, .slice q33 (dig B32 m33.m).length d33, .int .i64 m33.e]) ?_ (hr := (exec_ld (by kernel_rfl) (run_ld b11 hT27 0 [.bool l33.neg, .slice p33 (dig B32 l33.m).length c33, .int .i64 l33.e, .bool m33.neg, .slice q33 (dig B32 m33.m).length d33, .int .i64 m33.e] (by kernel_rfl) (by kernel_rfl))))
          replace b13 := (b13.past (bthru ((bthru (bthru ((bthru hbV14 hbV15).trans (hOV16.below (by omega))) hbV17) hbV18).trans (hOV19.below (by omega))) hbV20))
          refine sv 74 (.agg #[.bool l38.neg, .slice p38 (dig B32 l38.m).length c38, .int .i64 l38.e, .bool m38.neg, .slice q38 (dig B32 m38.m).length d38, .int .i64 m38.e]) ?_ (hr := (exec_ld (by kernel_rfl) (run_ld b13 hT27 0 [.bool l38.neg, .slice p38 (dig B32 l38.m).length c38, .int .i64 l38.e, .bool m38.neg, .slice q38 (dig B32 m38.m).length d38, .int .i64 m38.e] (by kernel_rfl) (by kernel_rfl))))
          replace ho33 := (ho33.past (bthru ((bthru (bthru ((bthru (bthru ((bthru (bthru (hbV9.trans (hOV10.below (by omega))) hbV11) hbV12).trans (hOV13.below (by omega))) hbV14) hbV15).trans (hOV16.below (by omega))) hbV17) hbV18).trans (hOV19.below (by omega))) hbV20))
          replace hq33 := (hq33.past (bthru ((bthru (bthru ((bthru (bthru ((bthru (bthru (hbV9.trans (hOV10.below (by omega))) hbV11) hbV12).trans (hOV13.below (by omega))) hbV14) hbV15).trans (hOV16.below (by omega))) hbV17) hbV18).trans (hOV19.below (by omega))) hbV20))
          replace ho38 := (ho38.past (bthru ((bthru (bthru ((bthru (bthru (hbV12.trans (hOV13.below (by omega))) hbV14) hbV15).trans (hOV16.below (by omega))) hbV17) hbV18).trans (hOV19.below (by omega))) hbV20))
          replace hq38 := (hq38.past (bthru ((bthru (bthru ((bthru (bthru (hbV12.trans (hOV13.below (by omega))) hbV14) hbV15).trans (hOV16.below (by omega))) hbV17) hbV18).trans (hOV19.below (by omega))) hbV20))
          refine se 75 18 #[.agg #[.bool l33.neg, .slice p33 (dig B32 l33.m).length c33, .int .i64 l33.e, .bool m33.neg, .slice q33 (dig B32 m33.m).length d33, .int .i64 m33.e], .agg #[.bool l38.neg, .slice p38 (dig B32 l38.m).length c38, .int .i64 l38.e, .bool m38.neg, .slice q38 (dig B32 m38.m).length d38, .int .i64 m38.e]] (fun Gx hGx => ?_)
          ((with_reducible refine (meetT_any Xln l33 m33 l38 m38 e33 e38 p33 q33 p38 q38 c33 d33 c38 d38 _ _ _ _ _ ho33 hq33 ho38 hq38 ht33 ht38 (beq_iff_eq.1 f67) (beq_iff_eq.1 f70)).mono ?_))
          rintro eV21 V21 ⟨rfl, hbV21⟩
          have hzV21 := hbV21.size
          refine ⟨.bool true, rfl, hGx _ _ ?_⟩
          clear hGx Gx
          refine sv 76 (.bool false) ?_
          refine sv 77 (.bool false) ?_
          refine sv 78 (.bool false) ?_
          refine sx_nil ?_
          refine sx_then ?_
          refine wp_cond_false (by kernel_rfl) ?_
          refine wp_skip ?_
          refine sx_then ?_
          refine wp_seq ?_
          refine sx_region ?_
          refine sv 79 (.int .i64 e44) ?_
          rcases Bool.eq_false_or_eq_true (e44 != 0) with f80 | f80
          · skip
            refine sv 80 (.bool true) ?_ (hr := ((show _ = Result.ok (Next.value (.bool (e44 != 0))) _ from (by kernel_rfl)).trans (congrArg (fun z => Result.ok (Next.value (.bool z)) _) (show (e44 != 0) = true from f80))))
            refine sv 81 (.bool true) ?_
            refine so (some 82) ?_
            refine so (some 83) ?_
            refine sv 84 (.bool true) ?_
            refine sv 85 (.bool true) ?_
            refine so (some 86) ?_
            refine so (some 87) ?_
            refine so (some 88) ?_
            refine sv 89 (.bool true) ?_
            refine sv 6 (.bool true) ?_
            refine sx_nil ?_
            refine sx_then ?_
            refine wp_ret ?_
            repeat (first | with_reducible refine sx_thenret ?_ | with_reducible refine sx_blockret ?_)
            refine bodyPost_ret (v := .bool true) (by simp [results, Tryd.results5, go_sem]) rfl ?_
            exact ⟨rfl, (bthru (bthru ((bthru (bthru ((bthru (bthru ((bthru (bthru ((bthru (bthru ((bthru (bthru ((bthru (bthru hbV1 hbV2) hbV3).trans (hOV4.below (by omega))) hbV5) hbV6).trans (hOV7.below (by omega))) hbV8) hbV9).trans (hOV10.below (by omega))) hbV11) hbV12).trans (hOV13.below (by omega))) hbV14) hbV15).trans (hOV16.below (by omega))) hbV17) hbV18).trans (hOV19.below (by omega))) hbV20) hbV21)⟩
          refine sv 80 (.bool false) ?_ (hr := ((show _ = Result.ok (Next.value (.bool (e44 != 0))) _ from (by kernel_rfl)).trans (congrArg (fun z => Result.ok (Next.value (.bool z)) _) (show (e44 != 0) = false from f80))))
          refine sv 81 (.bool false) ?_
          refine sv 82 (.int .i64 e50) ?_
          rcases Bool.eq_false_or_eq_true (e50 != 0) with f83 | f83
          · skip
            refine sv 83 (.bool true) ?_ (hr := ((show _ = Result.ok (Next.value (.bool (e50 != 0))) _ from (by kernel_rfl)).trans (congrArg (fun z => Result.ok (Next.value (.bool z)) _) (show (e50 != 0) = true from f83))))
            refine sv 84 (.bool true) ?_
            refine sv 85 (.bool true) ?_
            refine so (some 86) ?_
            refine so (some 87) ?_
            refine so (some 88) ?_
            refine sv 89 (.bool true) ?_
            refine sv 6 (.bool true) ?_
            refine sx_nil ?_
            refine sx_then ?_
            refine wp_ret ?_
            repeat (first | with_reducible refine sx_thenret ?_ | with_reducible refine sx_blockret ?_)
            refine bodyPost_ret (v := .bool true) (by simp [results, Tryd.results5, go_sem]) rfl ?_
            exact ⟨rfl, (bthru (bthru ((bthru (bthru ((bthru (bthru ((bthru (bthru ((bthru (bthru ((bthru (bthru ((bthru (bthru hbV1 hbV2) hbV3).trans (hOV4.below (by omega))) hbV5) hbV6).trans (hOV7.below (by omega))) hbV8) hbV9).trans (hOV10.below (by omega))) hbV11) hbV12).trans (hOV13.below (by omega))) hbV14) hbV15).trans (hOV16.below (by omega))) hbV17) hbV18).trans (hOV19.below (by omega))) hbV20) hbV21)⟩
          refine sv 83 (.bool false) ?_ (hr := ((show _ = Result.ok (Next.value (.bool (e50 != 0))) _ from (by kernel_rfl)).trans (congrArg (fun z => Result.ok (Next.value (.bool z)) _) (show (e50 != 0) = false from f83))))
          refine sv 84 (.bool false) ?_
          refine sv 85 (.bool false) ?_
          replace b15 := (b15.past (bthru (bthru ((bthru hbV17 hbV18).trans (hOV19.below (by omega))) hbV20) hbV21))
          refine sv 86 (.agg #[.bool l44.neg, .slice p44 (dig B32 l44.m).length c44, .int .i64 l44.e, .bool m44.neg, .slice q44 (dig B32 m44.m).length d44, .int .i64 m44.e]) ?_ (hr := (exec_ld (by kernel_rfl) (run_ld b15 hT27 0 [.bool l44.neg, .slice p44 (dig B32 l44.m).length c44, .int .i64 l44.e, .bool m44.neg, .slice q44 (dig B32 m44.m).length d44, .int .i64 m44.e] (by kernel_rfl) (by kernel_rfl))))
          replace b17 := (b17.past (bthru hbV20 hbV21))
          refine sv 87 (.agg #[.bool l50.neg, .slice p50 (dig B32 l50.m).length c50, .int .i64 l50.e, .bool m50.neg, .slice q50 (dig B32 m50.m).length d50, .int .i64 m50.e]) ?_ (hr := (exec_ld (by kernel_rfl) (run_ld b17 hT27 0 [.bool l50.neg, .slice p50 (dig B32 l50.m).length c50, .int .i64 l50.e, .bool m50.neg, .slice q50 (dig B32 m50.m).length d50, .int .i64 m50.e] (by kernel_rfl) (by kernel_rfl))))
          replace ho44 := (ho44.past (bthru (bthru ((bthru (bthru (hbV15.trans (hOV16.below (by omega))) hbV17) hbV18).trans (hOV19.below (by omega))) hbV20) hbV21))
          replace hq44 := (hq44.past (bthru (bthru ((bthru (bthru (hbV15.trans (hOV16.below (by omega))) hbV17) hbV18).trans (hOV19.below (by omega))) hbV20) hbV21))
          replace ho50 := (ho50.past (bthru (bthru (hbV18.trans (hOV19.below (by omega))) hbV20) hbV21))
          replace hq50 := (hq50.past (bthru (bthru (hbV18.trans (hOV19.below (by omega))) hbV20) hbV21))
          refine se 88 18 #[.agg #[.bool l44.neg, .slice p44 (dig B32 l44.m).length c44, .int .i64 l44.e, .bool m44.neg, .slice q44 (dig B32 m44.m).length d44, .int .i64 m44.e], .agg #[.bool l50.neg, .slice p50 (dig B32 l50.m).length c50, .int .i64 l50.e, .bool m50.neg, .slice q50 (dig B32 m50.m).length d50, .int .i64 m50.e]] (fun Gx hGx => ?_)
          ((with_reducible refine (meetT_any (An true n.toNat) l44 m44 l50 m50 e44 e50 p44 q44 p50 q50 c44 d44 c50 d50 _ _ _ _ _ ho44 hq44 ho50 hq50 ht44 ht50 (by have := f80; simpa using this) (by have := f83; simpa using this)).mono ?_))
          rintro eV22 V22 ⟨rfl, hbV22⟩
          have hzV22 := hbV22.size
          refine ⟨.bool true, rfl, hGx _ _ ?_⟩
          clear hGx Gx
          refine sv 89 (.bool true) ?_
          refine sv 6 (.bool true) ?_
          refine sx_nil ?_
          refine sx_then ?_
          refine wp_ret ?_
          repeat (first | with_reducible refine sx_thenret ?_ | with_reducible refine sx_blockret ?_)
          refine bodyPost_ret (v := .bool true) (by simp [results, Tryd.results5, go_sem]) rfl ?_
          exact ⟨rfl, (bthru (bthru (bthru ((bthru (bthru ((bthru (bthru ((bthru (bthru ((bthru (bthru ((bthru (bthru ((bthru (bthru hbV1 hbV2) hbV3).trans (hOV4.below (by omega))) hbV5) hbV6).trans (hOV7.below (by omega))) hbV8) hbV9).trans (hOV10.below (by omega))) hbV11) hbV12).trans (hOV13.below (by omega))) hbV14) hbV15).trans (hOV16.below (by omega))) hbV17) hbV18).trans (hOV19.below (by omega))) hbV20) hbV21) hbV22)⟩
        refine sv 70 (.bool false) ?_ (hr := ((show _ = Result.ok (Next.value (.bool (e38 == 0))) _ from (by kernel_rfl)).trans (congrArg (fun z => Result.ok (Next.value (.bool z)) _) (show (e38 == 0) = false from f70))))
        refine sv 71 (.bool false) ?_
        refine sv 72 (.bool false) ?_
        refine so (some 73) ?_
        refine so (some 74) ?_
        refine so (some 75) ?_
        refine so (some 76) ?_
        refine sv 77 (.bool false) ?_
        refine sv 78 (.bool false) ?_
        refine sx_nil ?_
        refine sx_then ?_
        refine wp_cond_false (by kernel_rfl) ?_
        refine wp_skip ?_
        refine sx_then ?_
        refine wp_seq ?_
        refine sx_region ?_
        refine sv 79 (.int .i64 e44) ?_
        rcases Bool.eq_false_or_eq_true (e44 != 0) with f80 | f80
        · skip
          refine sv 80 (.bool true) ?_ (hr := ((show _ = Result.ok (Next.value (.bool (e44 != 0))) _ from (by kernel_rfl)).trans (congrArg (fun z => Result.ok (Next.value (.bool z)) _) (show (e44 != 0) = true from f80))))
          refine sv 81 (.bool true) ?_
          refine so (some 82) ?_
          refine so (some 83) ?_
          refine sv 84 (.bool true) ?_
          refine sv 85 (.bool true) ?_
          refine so (some 86) ?_
          refine so (some 87) ?_
          refine so (some 88) ?_
          refine sv 89 (.bool true) ?_
          refine sv 6 (.bool true) ?_
          refine sx_nil ?_
          refine sx_then ?_
          refine wp_ret ?_
          repeat (first | with_reducible refine sx_thenret ?_ | with_reducible refine sx_blockret ?_)
          refine bodyPost_ret (v := .bool true) (by simp [results, Tryd.results5, go_sem]) rfl ?_
          exact ⟨rfl, (bthru ((bthru (bthru ((bthru (bthru ((bthru (bthru ((bthru (bthru ((bthru (bthru ((bthru (bthru hbV1 hbV2) hbV3).trans (hOV4.below (by omega))) hbV5) hbV6).trans (hOV7.below (by omega))) hbV8) hbV9).trans (hOV10.below (by omega))) hbV11) hbV12).trans (hOV13.below (by omega))) hbV14) hbV15).trans (hOV16.below (by omega))) hbV17) hbV18).trans (hOV19.below (by omega))) hbV20)⟩
        refine sv 80 (.bool false) ?_ (hr := ((show _ = Result.ok (Next.value (.bool (e44 != 0))) _ from (by kernel_rfl)).trans (congrArg (fun z => Result.ok (Next.value (.bool z)) _) (show (e44 != 0) = false from f80))))
        refine sv 81 (.bool false) ?_
        refine sv 82 (.int .i64 e50) ?_
        rcases Bool.eq_false_or_eq_true (e50 != 0) with f83 | f83
        · skip
          refine sv 83 (.bool true) ?_ (hr := ((show _ = Result.ok (Next.value (.bool (e50 != 0))) _ from (by kernel_rfl)).trans (congrArg (fun z => Result.ok (Next.value (.bool z)) _) (show (e50 != 0) = true from f83))))
          refine sv 84 (.bool true) ?_
          refine sv 85 (.bool true) ?_
          refine so (some 86) ?_
          refine so (some 87) ?_
          refine so (some 88) ?_
          refine sv 89 (.bool true) ?_
          refine sv 6 (.bool true) ?_
          refine sx_nil ?_
          refine sx_then ?_
          refine wp_ret ?_
          repeat (first | with_reducible refine sx_thenret ?_ | with_reducible refine sx_blockret ?_)
          refine bodyPost_ret (v := .bool true) (by simp [results, Tryd.results5, go_sem]) rfl ?_
          exact ⟨rfl, (bthru ((bthru (bthru ((bthru (bthru ((bthru (bthru ((bthru (bthru ((bthru (bthru ((bthru (bthru hbV1 hbV2) hbV3).trans (hOV4.below (by omega))) hbV5) hbV6).trans (hOV7.below (by omega))) hbV8) hbV9).trans (hOV10.below (by omega))) hbV11) hbV12).trans (hOV13.below (by omega))) hbV14) hbV15).trans (hOV16.below (by omega))) hbV17) hbV18).trans (hOV19.below (by omega))) hbV20)⟩
        refine sv 83 (.bool false) ?_ (hr := ((show _ = Result.ok (Next.value (.bool (e50 != 0))) _ from (by kernel_rfl)).trans (congrArg (fun z => Result.ok (Next.value (.bool z)) _) (show (e50 != 0) = false from f83))))
        refine sv 84 (.bool false) ?_
        refine sv 85 (.bool false) ?_
        replace b15 := (b15.past (bthru ((bthru hbV17 hbV18).trans (hOV19.below (by omega))) hbV20))
        refine sv 86 (.agg #[.bool l44.neg, .slice p44 (dig B32 l44.m).length c44, .int .i64 l44.e, .bool m44.neg, .slice q44 (dig B32 m44.m).length d44, .int .i64 m44.e]) ?_ (hr := (exec_ld (by kernel_rfl) (run_ld b15 hT27 0 [.bool l44.neg, .slice p44 (dig B32 l44.m).length c44, .int .i64 l44.e, .bool m44.neg, .slice q44 (dig B32 m44.m).length d44, .int .i64 m44.e] (by kernel_rfl) (by kernel_rfl))))
        replace b17 := (b17.past hbV20)
        refine sv 87 (.agg #[.bool l50.neg, .slice p50 (dig B32 l50.m).length c50, .int .i64 l50.e, .bool m50.neg, .slice q50 (dig B32 m50.m).length d50, .int .i64 m50.e]) ?_ (hr := (exec_ld (by kernel_rfl) (run_ld b17 hT27 0 [.bool l50.neg, .slice p50 (dig B32 l50.m).length c50, .int .i64 l50.e, .bool m50.neg, .slice q50 (dig B32 m50.m).length d50, .int .i64 m50.e] (by kernel_rfl) (by kernel_rfl))))
        replace ho44 := (ho44.past (bthru ((bthru (bthru (hbV15.trans (hOV16.below (by omega))) hbV17) hbV18).trans (hOV19.below (by omega))) hbV20))
        replace hq44 := (hq44.past (bthru ((bthru (bthru (hbV15.trans (hOV16.below (by omega))) hbV17) hbV18).trans (hOV19.below (by omega))) hbV20))
        replace ho50 := (ho50.past (bthru (hbV18.trans (hOV19.below (by omega))) hbV20))
        replace hq50 := (hq50.past (bthru (hbV18.trans (hOV19.below (by omega))) hbV20))
        refine se 88 18 #[.agg #[.bool l44.neg, .slice p44 (dig B32 l44.m).length c44, .int .i64 l44.e, .bool m44.neg, .slice q44 (dig B32 m44.m).length d44, .int .i64 m44.e], .agg #[.bool l50.neg, .slice p50 (dig B32 l50.m).length c50, .int .i64 l50.e, .bool m50.neg, .slice q50 (dig B32 m50.m).length d50, .int .i64 m50.e]] (fun Gx hGx => ?_)
        ((with_reducible refine (meetT_any (An true n.toNat) l44 m44 l50 m50 e44 e50 p44 q44 p50 q50 c44 d44 c50 d50 _ _ _ _ _ ho44 hq44 ho50 hq50 ht44 ht50 (by have := f80; simpa using this) (by have := f83; simpa using this)).mono ?_))
        rintro eV21 V21 ⟨rfl, hbV21⟩
        have hzV21 := hbV21.size
        refine ⟨.bool true, rfl, hGx _ _ ?_⟩
        clear hGx Gx
        refine sv 89 (.bool true) ?_
        refine sv 6 (.bool true) ?_
        refine sx_nil ?_
        refine sx_then ?_
        refine wp_ret ?_
        repeat (first | with_reducible refine sx_thenret ?_ | with_reducible refine sx_blockret ?_)
        refine bodyPost_ret (v := .bool true) (by simp [results, Tryd.results5, go_sem]) rfl ?_
        exact ⟨rfl, (bthru (bthru ((bthru (bthru ((bthru (bthru ((bthru (bthru ((bthru (bthru ((bthru (bthru ((bthru (bthru hbV1 hbV2) hbV3).trans (hOV4.below (by omega))) hbV5) hbV6).trans (hOV7.below (by omega))) hbV8) hbV9).trans (hOV10.below (by omega))) hbV11) hbV12).trans (hOV13.below (by omega))) hbV14) hbV15).trans (hOV16.below (by omega))) hbV17) hbV18).trans (hOV19.below (by omega))) hbV20) hbV21)⟩
      refine sv 67 (.bool false) ?_ (hr := ((show _ = Result.ok (Next.value (.bool (e33 == 0))) _ from (by kernel_rfl)).trans (congrArg (fun z => Result.ok (Next.value (.bool z)) _) (show (e33 == 0) = false from f67))))
      refine sv 68 (.bool false) ?_
      refine so (some 69) ?_
      refine so (some 70) ?_
      refine sv 71 (.bool false) ?_
      refine sv 72 (.bool false) ?_
      refine so (some 73) ?_
      refine so (some 74) ?_
      refine so (some 75) ?_
      refine so (some 76) ?_
      refine sv 77 (.bool false) ?_
      refine sv 78 (.bool false) ?_
      refine sx_nil ?_
      refine sx_then ?_
      refine wp_cond_false (by kernel_rfl) ?_
      refine wp_skip ?_
      refine sx_then ?_
      refine wp_seq ?_
      refine sx_region ?_
      refine sv 79 (.int .i64 e44) ?_
      rcases Bool.eq_false_or_eq_true (e44 != 0) with f80 | f80
      · skip
        refine sv 80 (.bool true) ?_ (hr := ((show _ = Result.ok (Next.value (.bool (e44 != 0))) _ from (by kernel_rfl)).trans (congrArg (fun z => Result.ok (Next.value (.bool z)) _) (show (e44 != 0) = true from f80))))
        refine sv 81 (.bool true) ?_
        refine so (some 82) ?_
        refine so (some 83) ?_
        refine sv 84 (.bool true) ?_
        refine sv 85 (.bool true) ?_
        refine so (some 86) ?_
        refine so (some 87) ?_
        refine so (some 88) ?_
        refine sv 89 (.bool true) ?_
        refine sv 6 (.bool true) ?_
        refine sx_nil ?_
        refine sx_then ?_
        refine wp_ret ?_
        repeat (first | with_reducible refine sx_thenret ?_ | with_reducible refine sx_blockret ?_)
        refine bodyPost_ret (v := .bool true) (by simp [results, Tryd.results5, go_sem]) rfl ?_
        exact ⟨rfl, (bthru ((bthru (bthru ((bthru (bthru ((bthru (bthru ((bthru (bthru ((bthru (bthru ((bthru (bthru hbV1 hbV2) hbV3).trans (hOV4.below (by omega))) hbV5) hbV6).trans (hOV7.below (by omega))) hbV8) hbV9).trans (hOV10.below (by omega))) hbV11) hbV12).trans (hOV13.below (by omega))) hbV14) hbV15).trans (hOV16.below (by omega))) hbV17) hbV18).trans (hOV19.below (by omega))) hbV20)⟩
      refine sv 80 (.bool false) ?_ (hr := ((show _ = Result.ok (Next.value (.bool (e44 != 0))) _ from (by kernel_rfl)).trans (congrArg (fun z => Result.ok (Next.value (.bool z)) _) (show (e44 != 0) = false from f80))))
      refine sv 81 (.bool false) ?_
      refine sv 82 (.int .i64 e50) ?_
      rcases Bool.eq_false_or_eq_true (e50 != 0) with f83 | f83
      · skip
        refine sv 83 (.bool true) ?_ (hr := ((show _ = Result.ok (Next.value (.bool (e50 != 0))) _ from (by kernel_rfl)).trans (congrArg (fun z => Result.ok (Next.value (.bool z)) _) (show (e50 != 0) = true from f83))))
        refine sv 84 (.bool true) ?_
        refine sv 85 (.bool true) ?_
        refine so (some 86) ?_
        refine so (some 87) ?_
        refine so (some 88) ?_
        refine sv 89 (.bool true) ?_
        refine sv 6 (.bool true) ?_
        refine sx_nil ?_
        refine sx_then ?_
        refine wp_ret ?_
        repeat (first | with_reducible refine sx_thenret ?_ | with_reducible refine sx_blockret ?_)
        refine bodyPost_ret (v := .bool true) (by simp [results, Tryd.results5, go_sem]) rfl ?_
        exact ⟨rfl, (bthru ((bthru (bthru ((bthru (bthru ((bthru (bthru ((bthru (bthru ((bthru (bthru ((bthru (bthru hbV1 hbV2) hbV3).trans (hOV4.below (by omega))) hbV5) hbV6).trans (hOV7.below (by omega))) hbV8) hbV9).trans (hOV10.below (by omega))) hbV11) hbV12).trans (hOV13.below (by omega))) hbV14) hbV15).trans (hOV16.below (by omega))) hbV17) hbV18).trans (hOV19.below (by omega))) hbV20)⟩
      refine sv 83 (.bool false) ?_ (hr := ((show _ = Result.ok (Next.value (.bool (e50 != 0))) _ from (by kernel_rfl)).trans (congrArg (fun z => Result.ok (Next.value (.bool z)) _) (show (e50 != 0) = false from f83))))
      refine sv 84 (.bool false) ?_
      refine sv 85 (.bool false) ?_
      replace b15 := (b15.past (bthru ((bthru hbV17 hbV18).trans (hOV19.below (by omega))) hbV20))
      refine sv 86 (.agg #[.bool l44.neg, .slice p44 (dig B32 l44.m).length c44, .int .i64 l44.e, .bool m44.neg, .slice q44 (dig B32 m44.m).length d44, .int .i64 m44.e]) ?_ (hr := (exec_ld (by kernel_rfl) (run_ld b15 hT27 0 [.bool l44.neg, .slice p44 (dig B32 l44.m).length c44, .int .i64 l44.e, .bool m44.neg, .slice q44 (dig B32 m44.m).length d44, .int .i64 m44.e] (by kernel_rfl) (by kernel_rfl))))
      replace b17 := (b17.past hbV20)
      refine sv 87 (.agg #[.bool l50.neg, .slice p50 (dig B32 l50.m).length c50, .int .i64 l50.e, .bool m50.neg, .slice q50 (dig B32 m50.m).length d50, .int .i64 m50.e]) ?_ (hr := (exec_ld (by kernel_rfl) (run_ld b17 hT27 0 [.bool l50.neg, .slice p50 (dig B32 l50.m).length c50, .int .i64 l50.e, .bool m50.neg, .slice q50 (dig B32 m50.m).length d50, .int .i64 m50.e] (by kernel_rfl) (by kernel_rfl))))
      replace ho44 := (ho44.past (bthru ((bthru (bthru (hbV15.trans (hOV16.below (by omega))) hbV17) hbV18).trans (hOV19.below (by omega))) hbV20))
      replace hq44 := (hq44.past (bthru ((bthru (bthru (hbV15.trans (hOV16.below (by omega))) hbV17) hbV18).trans (hOV19.below (by omega))) hbV20))
      replace ho50 := (ho50.past (bthru (hbV18.trans (hOV19.below (by omega))) hbV20))
      replace hq50 := (hq50.past (bthru (hbV18.trans (hOV19.below (by omega))) hbV20))
      refine se 88 18 #[.agg #[.bool l44.neg, .slice p44 (dig B32 l44.m).length c44, .int .i64 l44.e, .bool m44.neg, .slice q44 (dig B32 m44.m).length d44, .int .i64 m44.e], .agg #[.bool l50.neg, .slice p50 (dig B32 l50.m).length c50, .int .i64 l50.e, .bool m50.neg, .slice q50 (dig B32 m50.m).length d50, .int .i64 m50.e]] (fun Gx hGx => ?_)
      ((with_reducible refine (meetT_any (An true n.toNat) l44 m44 l50 m50 e44 e50 p44 q44 p50 q50 c44 d44 c50 d50 _ _ _ _ _ ho44 hq44 ho50 hq50 ht44 ht50 (by have := f80; simpa using this) (by have := f83; simpa using this)).mono ?_))
      rintro eV21 V21 ⟨rfl, hbV21⟩
      have hzV21 := hbV21.size
      refine ⟨.bool true, rfl, hGx _ _ ?_⟩
      clear hGx Gx
      refine sv 89 (.bool true) ?_
      refine sv 6 (.bool true) ?_
      refine sx_nil ?_
      refine sx_then ?_
      refine wp_ret ?_
      repeat (first | with_reducible refine sx_thenret ?_ | with_reducible refine sx_blockret ?_)
      refine bodyPost_ret (v := .bool true) (by simp [results, Tryd.results5, go_sem]) rfl ?_
      exact ⟨rfl, (bthru (bthru ((bthru (bthru ((bthru (bthru ((bthru (bthru ((bthru (bthru ((bthru (bthru ((bthru (bthru hbV1 hbV2) hbV3).trans (hOV4.below (by omega))) hbV5) hbV6).trans (hOV7.below (by omega))) hbV8) hbV9).trans (hOV10.below (by omega))) hbV11) hbV12).trans (hOV13.below (by omega))) hbV14) hbV15).trans (hOV16.below (by omega))) hbV17) hbV18).trans (hOV19.below (by omega))) hbV20) hbV21)⟩
    refine sv 57 (.bool false) ?_ (hr := ((show _ = Result.ok (Next.value (.bool (e28 == 0))) _ from (by kernel_rfl)).trans (congrArg (fun z => Result.ok (Next.value (.bool z)) _) (show (e28 == 0) = false from f57))))
    refine sv 58 (.bool false) ?_
    refine sv 59 (.bool false) ?_
    refine so (some 60) ?_
    refine so (some 61) ?_
    refine so (some 62) ?_
    refine so (some 63) ?_
    refine sv 64 (.bool false) ?_
    refine sv 65 (.bool false) ?_
    refine sv 66 (.int .i64 e33) ?_
    rcases Bool.eq_false_or_eq_true (e33 == 0) with f67 | f67
    · skip
      refine sv 67 (.bool true) ?_ (hr := ((show _ = Result.ok (Next.value (.bool (e33 == 0))) _ from (by kernel_rfl)).trans (congrArg (fun z => Result.ok (Next.value (.bool z)) _) (show (e33 == 0) = true from f67))))
      refine sv 68 (.bool true) ?_
      refine sv 69 (.int .i64 e38) ?_
      rcases Bool.eq_false_or_eq_true (e38 == 0) with f70 | f70
      · skip
        refine sv 70 (.bool true) ?_ (hr := ((show _ = Result.ok (Next.value (.bool (e38 == 0))) _ from (by kernel_rfl)).trans (congrArg (fun z => Result.ok (Next.value (.bool z)) _) (show (e38 == 0) = true from f70))))
        refine sv 71 (.bool true) ?_
        refine sv 72 (.bool true) ?_
        replace b11 := (b11.past ((bthru (bthru ((bthru (bthru ((bthru hbV11 hbV12).trans (hOV13.below (by omega))) hbV14) hbV15).trans (hOV16.below (by omega))) hbV17) hbV18).trans (hOV19.below (by omega))))
        refine sv 73 (.agg #[.bool l33.neg, .slice p33 (dig B32 l33.m).length c33, .int .i64 l33.e, .bool m33.neg, .slice q33 (dig B32 m33.m).length d33, .int .i64 m33.e]) ?_ (hr := (exec_ld (by kernel_rfl) (run_ld b11 hT27 0 [.bool l33.neg, .slice p33 (dig B32 l33.m).length c33, .int .i64 l33.e, .bool m33.neg, .slice q33 (dig B32 m33.m).length d33, .int .i64 m33.e] (by kernel_rfl) (by kernel_rfl))))
        replace b13 := (b13.past ((bthru (bthru ((bthru hbV14 hbV15).trans (hOV16.below (by omega))) hbV17) hbV18).trans (hOV19.below (by omega))))
        refine sv 74 (.agg #[.bool l38.neg, .slice p38 (dig B32 l38.m).length c38, .int .i64 l38.e, .bool m38.neg, .slice q38 (dig B32 m38.m).length d38, .int .i64 m38.e]) ?_ (hr := (exec_ld (by kernel_rfl) (run_ld b13 hT27 0 [.bool l38.neg, .slice p38 (dig B32 l38.m).length c38, .int .i64 l38.e, .bool m38.neg, .slice q38 (dig B32 m38.m).length d38, .int .i64 m38.e] (by kernel_rfl) (by kernel_rfl))))
        replace ho33 := (ho33.past ((bthru (bthru ((bthru (bthru ((bthru (bthru (hbV9.trans (hOV10.below (by omega))) hbV11) hbV12).trans (hOV13.below (by omega))) hbV14) hbV15).trans (hOV16.below (by omega))) hbV17) hbV18).trans (hOV19.below (by omega))))
        replace hq33 := (hq33.past ((bthru (bthru ((bthru (bthru ((bthru (bthru (hbV9.trans (hOV10.below (by omega))) hbV11) hbV12).trans (hOV13.below (by omega))) hbV14) hbV15).trans (hOV16.below (by omega))) hbV17) hbV18).trans (hOV19.below (by omega))))
        replace ho38 := (ho38.past ((bthru (bthru ((bthru (bthru (hbV12.trans (hOV13.below (by omega))) hbV14) hbV15).trans (hOV16.below (by omega))) hbV17) hbV18).trans (hOV19.below (by omega))))
        replace hq38 := (hq38.past ((bthru (bthru ((bthru (bthru (hbV12.trans (hOV13.below (by omega))) hbV14) hbV15).trans (hOV16.below (by omega))) hbV17) hbV18).trans (hOV19.below (by omega))))
        refine se 75 18 #[.agg #[.bool l33.neg, .slice p33 (dig B32 l33.m).length c33, .int .i64 l33.e, .bool m33.neg, .slice q33 (dig B32 m33.m).length d33, .int .i64 m33.e], .agg #[.bool l38.neg, .slice p38 (dig B32 l38.m).length c38, .int .i64 l38.e, .bool m38.neg, .slice q38 (dig B32 m38.m).length d38, .int .i64 m38.e]] (fun Gx hGx => ?_)
        ((with_reducible refine (meetT_any Xln l33 m33 l38 m38 e33 e38 p33 q33 p38 q38 c33 d33 c38 d38 _ _ _ _ _ ho33 hq33 ho38 hq38 ht33 ht38 (beq_iff_eq.1 f67) (beq_iff_eq.1 f70)).mono ?_))
        rintro eV20 V20 ⟨rfl, hbV20⟩
        have hzV20 := hbV20.size
        refine ⟨.bool true, rfl, hGx _ _ ?_⟩
        clear hGx Gx
        refine sv 76 (.bool false) ?_
        refine sv 77 (.bool false) ?_
        refine sv 78 (.bool false) ?_
        refine sx_nil ?_
        refine sx_then ?_
        refine wp_cond_false (by kernel_rfl) ?_
        refine wp_skip ?_
        refine sx_then ?_
        refine wp_seq ?_
        refine sx_region ?_
        refine sv 79 (.int .i64 e44) ?_
        rcases Bool.eq_false_or_eq_true (e44 != 0) with f80 | f80
        · skip
          refine sv 80 (.bool true) ?_ (hr := ((show _ = Result.ok (Next.value (.bool (e44 != 0))) _ from (by kernel_rfl)).trans (congrArg (fun z => Result.ok (Next.value (.bool z)) _) (show (e44 != 0) = true from f80))))
          refine sv 81 (.bool true) ?_
          refine so (some 82) ?_
          refine so (some 83) ?_
          refine sv 84 (.bool true) ?_
          refine sv 85 (.bool true) ?_
          refine so (some 86) ?_
          refine so (some 87) ?_
          refine so (some 88) ?_
          refine sv 89 (.bool true) ?_
          refine sv 6 (.bool true) ?_
          refine sx_nil ?_
          refine sx_then ?_
          refine wp_ret ?_
          repeat (first | with_reducible refine sx_thenret ?_ | with_reducible refine sx_blockret ?_)
          refine bodyPost_ret (v := .bool true) (by simp [results, Tryd.results5, go_sem]) rfl ?_
          exact ⟨rfl, (bthru ((bthru (bthru ((bthru (bthru ((bthru (bthru ((bthru (bthru ((bthru (bthru ((bthru (bthru hbV1 hbV2) hbV3).trans (hOV4.below (by omega))) hbV5) hbV6).trans (hOV7.below (by omega))) hbV8) hbV9).trans (hOV10.below (by omega))) hbV11) hbV12).trans (hOV13.below (by omega))) hbV14) hbV15).trans (hOV16.below (by omega))) hbV17) hbV18).trans (hOV19.below (by omega))) hbV20)⟩
        refine sv 80 (.bool false) ?_ (hr := ((show _ = Result.ok (Next.value (.bool (e44 != 0))) _ from (by kernel_rfl)).trans (congrArg (fun z => Result.ok (Next.value (.bool z)) _) (show (e44 != 0) = false from f80))))
        refine sv 81 (.bool false) ?_
        refine sv 82 (.int .i64 e50) ?_
        rcases Bool.eq_false_or_eq_true (e50 != 0) with f83 | f83
        · skip
          refine sv 83 (.bool true) ?_ (hr := ((show _ = Result.ok (Next.value (.bool (e50 != 0))) _ from (by kernel_rfl)).trans (congrArg (fun z => Result.ok (Next.value (.bool z)) _) (show (e50 != 0) = true from f83))))
          refine sv 84 (.bool true) ?_
          refine sv 85 (.bool true) ?_
          refine so (some 86) ?_
          refine so (some 87) ?_
          refine so (some 88) ?_
          refine sv 89 (.bool true) ?_
          refine sv 6 (.bool true) ?_
          refine sx_nil ?_
          refine sx_then ?_
          refine wp_ret ?_
          repeat (first | with_reducible refine sx_thenret ?_ | with_reducible refine sx_blockret ?_)
          refine bodyPost_ret (v := .bool true) (by simp [results, Tryd.results5, go_sem]) rfl ?_
          exact ⟨rfl, (bthru ((bthru (bthru ((bthru (bthru ((bthru (bthru ((bthru (bthru ((bthru (bthru ((bthru (bthru hbV1 hbV2) hbV3).trans (hOV4.below (by omega))) hbV5) hbV6).trans (hOV7.below (by omega))) hbV8) hbV9).trans (hOV10.below (by omega))) hbV11) hbV12).trans (hOV13.below (by omega))) hbV14) hbV15).trans (hOV16.below (by omega))) hbV17) hbV18).trans (hOV19.below (by omega))) hbV20)⟩
        refine sv 83 (.bool false) ?_ (hr := ((show _ = Result.ok (Next.value (.bool (e50 != 0))) _ from (by kernel_rfl)).trans (congrArg (fun z => Result.ok (Next.value (.bool z)) _) (show (e50 != 0) = false from f83))))
        refine sv 84 (.bool false) ?_
        refine sv 85 (.bool false) ?_
        replace b15 := (b15.past (bthru ((bthru hbV17 hbV18).trans (hOV19.below (by omega))) hbV20))
        refine sv 86 (.agg #[.bool l44.neg, .slice p44 (dig B32 l44.m).length c44, .int .i64 l44.e, .bool m44.neg, .slice q44 (dig B32 m44.m).length d44, .int .i64 m44.e]) ?_ (hr := (exec_ld (by kernel_rfl) (run_ld b15 hT27 0 [.bool l44.neg, .slice p44 (dig B32 l44.m).length c44, .int .i64 l44.e, .bool m44.neg, .slice q44 (dig B32 m44.m).length d44, .int .i64 m44.e] (by kernel_rfl) (by kernel_rfl))))
        replace b17 := (b17.past hbV20)
        refine sv 87 (.agg #[.bool l50.neg, .slice p50 (dig B32 l50.m).length c50, .int .i64 l50.e, .bool m50.neg, .slice q50 (dig B32 m50.m).length d50, .int .i64 m50.e]) ?_ (hr := (exec_ld (by kernel_rfl) (run_ld b17 hT27 0 [.bool l50.neg, .slice p50 (dig B32 l50.m).length c50, .int .i64 l50.e, .bool m50.neg, .slice q50 (dig B32 m50.m).length d50, .int .i64 m50.e] (by kernel_rfl) (by kernel_rfl))))
        replace ho44 := (ho44.past (bthru ((bthru (bthru (hbV15.trans (hOV16.below (by omega))) hbV17) hbV18).trans (hOV19.below (by omega))) hbV20))
        replace hq44 := (hq44.past (bthru ((bthru (bthru (hbV15.trans (hOV16.below (by omega))) hbV17) hbV18).trans (hOV19.below (by omega))) hbV20))
        replace ho50 := (ho50.past (bthru (hbV18.trans (hOV19.below (by omega))) hbV20))
        replace hq50 := (hq50.past (bthru (hbV18.trans (hOV19.below (by omega))) hbV20))
        refine se 88 18 #[.agg #[.bool l44.neg, .slice p44 (dig B32 l44.m).length c44, .int .i64 l44.e, .bool m44.neg, .slice q44 (dig B32 m44.m).length d44, .int .i64 m44.e], .agg #[.bool l50.neg, .slice p50 (dig B32 l50.m).length c50, .int .i64 l50.e, .bool m50.neg, .slice q50 (dig B32 m50.m).length d50, .int .i64 m50.e]] (fun Gx hGx => ?_)
        ((with_reducible refine (meetT_any (An true n.toNat) l44 m44 l50 m50 e44 e50 p44 q44 p50 q50 c44 d44 c50 d50 _ _ _ _ _ ho44 hq44 ho50 hq50 ht44 ht50 (by have := f80; simpa using this) (by have := f83; simpa using this)).mono ?_))
        rintro eV21 V21 ⟨rfl, hbV21⟩
        have hzV21 := hbV21.size
        refine ⟨.bool true, rfl, hGx _ _ ?_⟩
        clear hGx Gx
        refine sv 89 (.bool true) ?_
        refine sv 6 (.bool true) ?_
        refine sx_nil ?_
        refine sx_then ?_
        refine wp_ret ?_
        repeat (first | with_reducible refine sx_thenret ?_ | with_reducible refine sx_blockret ?_)
        refine bodyPost_ret (v := .bool true) (by simp [results, Tryd.results5, go_sem]) rfl ?_
        exact ⟨rfl, (bthru (bthru ((bthru (bthru ((bthru (bthru ((bthru (bthru ((bthru (bthru ((bthru (bthru ((bthru (bthru hbV1 hbV2) hbV3).trans (hOV4.below (by omega))) hbV5) hbV6).trans (hOV7.below (by omega))) hbV8) hbV9).trans (hOV10.below (by omega))) hbV11) hbV12).trans (hOV13.below (by omega))) hbV14) hbV15).trans (hOV16.below (by omega))) hbV17) hbV18).trans (hOV19.below (by omega))) hbV20) hbV21)⟩
      refine sv 70 (.bool false) ?_ (hr := ((show _ = Result.ok (Next.value (.bool (e38 == 0))) _ from (by kernel_rfl)).trans (congrArg (fun z => Result.ok (Next.value (.bool z)) _) (show (e38 == 0) = false from f70))))
      refine sv 71 (.bool false) ?_
      refine sv 72 (.bool false) ?_
      refine so (some 73) ?_
      refine so (some 74) ?_
      refine so (some 75) ?_
      refine so (some 76) ?_
      refine sv 77 (.bool false) ?_
      refine sv 78 (.bool false) ?_
      refine sx_nil ?_
      refine sx_then ?_
      refine wp_cond_false (by kernel_rfl) ?_
      refine wp_skip ?_
      refine sx_then ?_
      refine wp_seq ?_
      refine sx_region ?_
      refine sv 79 (.int .i64 e44) ?_
      rcases Bool.eq_false_or_eq_true (e44 != 0) with f80 | f80
      · skip
        refine sv 80 (.bool true) ?_ (hr := ((show _ = Result.ok (Next.value (.bool (e44 != 0))) _ from (by kernel_rfl)).trans (congrArg (fun z => Result.ok (Next.value (.bool z)) _) (show (e44 != 0) = true from f80))))
        refine sv 81 (.bool true) ?_
        refine so (some 82) ?_
        refine so (some 83) ?_
        refine sv 84 (.bool true) ?_
        refine sv 85 (.bool true) ?_
        refine so (some 86) ?_
        refine so (some 87) ?_
        refine so (some 88) ?_
        refine sv 89 (.bool true) ?_
        refine sv 6 (.bool true) ?_
        refine sx_nil ?_
        refine sx_then ?_
        refine wp_ret ?_
        repeat (first | with_reducible refine sx_thenret ?_ | with_reducible refine sx_blockret ?_)
        refine bodyPost_ret (v := .bool true) (by simp [results, Tryd.results5, go_sem]) rfl ?_
        exact ⟨rfl, ((bthru (bthru ((bthru (bthru ((bthru (bthru ((bthru (bthru ((bthru (bthru ((bthru (bthru hbV1 hbV2) hbV3).trans (hOV4.below (by omega))) hbV5) hbV6).trans (hOV7.below (by omega))) hbV8) hbV9).trans (hOV10.below (by omega))) hbV11) hbV12).trans (hOV13.below (by omega))) hbV14) hbV15).trans (hOV16.below (by omega))) hbV17) hbV18).trans (hOV19.below (by omega)))⟩
      refine sv 80 (.bool false) ?_ (hr := ((show _ = Result.ok (Next.value (.bool (e44 != 0))) _ from (by kernel_rfl)).trans (congrArg (fun z => Result.ok (Next.value (.bool z)) _) (show (e44 != 0) = false from f80))))
      refine sv 81 (.bool false) ?_
      refine sv 82 (.int .i64 e50) ?_
      rcases Bool.eq_false_or_eq_true (e50 != 0) with f83 | f83
      · skip
        refine sv 83 (.bool true) ?_ (hr := ((show _ = Result.ok (Next.value (.bool (e50 != 0))) _ from (by kernel_rfl)).trans (congrArg (fun z => Result.ok (Next.value (.bool z)) _) (show (e50 != 0) = true from f83))))
        refine sv 84 (.bool true) ?_
        refine sv 85 (.bool true) ?_
        refine so (some 86) ?_
        refine so (some 87) ?_
        refine so (some 88) ?_
        refine sv 89 (.bool true) ?_
        refine sv 6 (.bool true) ?_
        refine sx_nil ?_
        refine sx_then ?_
        refine wp_ret ?_
        repeat (first | with_reducible refine sx_thenret ?_ | with_reducible refine sx_blockret ?_)
        refine bodyPost_ret (v := .bool true) (by simp [results, Tryd.results5, go_sem]) rfl ?_
        exact ⟨rfl, ((bthru (bthru ((bthru (bthru ((bthru (bthru ((bthru (bthru ((bthru (bthru ((bthru (bthru hbV1 hbV2) hbV3).trans (hOV4.below (by omega))) hbV5) hbV6).trans (hOV7.below (by omega))) hbV8) hbV9).trans (hOV10.below (by omega))) hbV11) hbV12).trans (hOV13.below (by omega))) hbV14) hbV15).trans (hOV16.below (by omega))) hbV17) hbV18).trans (hOV19.below (by omega)))⟩
      refine sv 83 (.bool false) ?_ (hr := ((show _ = Result.ok (Next.value (.bool (e50 != 0))) _ from (by kernel_rfl)).trans (congrArg (fun z => Result.ok (Next.value (.bool z)) _) (show (e50 != 0) = false from f83))))
      refine sv 84 (.bool false) ?_
      refine sv 85 (.bool false) ?_
      replace b15 := (b15.past ((bthru hbV17 hbV18).trans (hOV19.below (by omega))))
      refine sv 86 (.agg #[.bool l44.neg, .slice p44 (dig B32 l44.m).length c44, .int .i64 l44.e, .bool m44.neg, .slice q44 (dig B32 m44.m).length d44, .int .i64 m44.e]) ?_ (hr := (exec_ld (by kernel_rfl) (run_ld b15 hT27 0 [.bool l44.neg, .slice p44 (dig B32 l44.m).length c44, .int .i64 l44.e, .bool m44.neg, .slice q44 (dig B32 m44.m).length d44, .int .i64 m44.e] (by kernel_rfl) (by kernel_rfl))))
      refine sv 87 (.agg #[.bool l50.neg, .slice p50 (dig B32 l50.m).length c50, .int .i64 l50.e, .bool m50.neg, .slice q50 (dig B32 m50.m).length d50, .int .i64 m50.e]) ?_ (hr := (exec_ld (by kernel_rfl) (run_ld b17 hT27 0 [.bool l50.neg, .slice p50 (dig B32 l50.m).length c50, .int .i64 l50.e, .bool m50.neg, .slice q50 (dig B32 m50.m).length d50, .int .i64 m50.e] (by kernel_rfl) (by kernel_rfl))))
      replace ho44 := (ho44.past ((bthru (bthru (hbV15.trans (hOV16.below (by omega))) hbV17) hbV18).trans (hOV19.below (by omega))))
      replace hq44 := (hq44.past ((bthru (bthru (hbV15.trans (hOV16.below (by omega))) hbV17) hbV18).trans (hOV19.below (by omega))))
      replace ho50 := (ho50.past (hbV18.trans (hOV19.below (by omega))))
      replace hq50 := (hq50.past (hbV18.trans (hOV19.below (by omega))))
      refine se 88 18 #[.agg #[.bool l44.neg, .slice p44 (dig B32 l44.m).length c44, .int .i64 l44.e, .bool m44.neg, .slice q44 (dig B32 m44.m).length d44, .int .i64 m44.e], .agg #[.bool l50.neg, .slice p50 (dig B32 l50.m).length c50, .int .i64 l50.e, .bool m50.neg, .slice q50 (dig B32 m50.m).length d50, .int .i64 m50.e]] (fun Gx hGx => ?_)
      ((with_reducible refine (meetT_any (An true n.toNat) l44 m44 l50 m50 e44 e50 p44 q44 p50 q50 c44 d44 c50 d50 _ _ _ _ _ ho44 hq44 ho50 hq50 ht44 ht50 (by have := f80; simpa using this) (by have := f83; simpa using this)).mono ?_))
      rintro eV20 V20 ⟨rfl, hbV20⟩
      have hzV20 := hbV20.size
      refine ⟨.bool true, rfl, hGx _ _ ?_⟩
      clear hGx Gx
      refine sv 89 (.bool true) ?_
      refine sv 6 (.bool true) ?_
      refine sx_nil ?_
      refine sx_then ?_
      refine wp_ret ?_
      repeat (first | with_reducible refine sx_thenret ?_ | with_reducible refine sx_blockret ?_)
      refine bodyPost_ret (v := .bool true) (by simp [results, Tryd.results5, go_sem]) rfl ?_
      exact ⟨rfl, (bthru ((bthru (bthru ((bthru (bthru ((bthru (bthru ((bthru (bthru ((bthru (bthru ((bthru (bthru hbV1 hbV2) hbV3).trans (hOV4.below (by omega))) hbV5) hbV6).trans (hOV7.below (by omega))) hbV8) hbV9).trans (hOV10.below (by omega))) hbV11) hbV12).trans (hOV13.below (by omega))) hbV14) hbV15).trans (hOV16.below (by omega))) hbV17) hbV18).trans (hOV19.below (by omega))) hbV20)⟩
    refine sv 67 (.bool false) ?_ (hr := ((show _ = Result.ok (Next.value (.bool (e33 == 0))) _ from (by kernel_rfl)).trans (congrArg (fun z => Result.ok (Next.value (.bool z)) _) (show (e33 == 0) = false from f67))))
    refine sv 68 (.bool false) ?_
    refine so (some 69) ?_
    refine so (some 70) ?_
    refine sv 71 (.bool false) ?_
    refine sv 72 (.bool false) ?_
    refine so (some 73) ?_
    refine so (some 74) ?_
    refine so (some 75) ?_
    refine so (some 76) ?_
    refine sv 77 (.bool false) ?_
    refine sv 78 (.bool false) ?_
    refine sx_nil ?_
    refine sx_then ?_
    refine wp_cond_false (by kernel_rfl) ?_
    refine wp_skip ?_
    refine sx_then ?_
    refine wp_seq ?_
    refine sx_region ?_
    refine sv 79 (.int .i64 e44) ?_
    rcases Bool.eq_false_or_eq_true (e44 != 0) with f80 | f80
    · skip
      refine sv 80 (.bool true) ?_ (hr := ((show _ = Result.ok (Next.value (.bool (e44 != 0))) _ from (by kernel_rfl)).trans (congrArg (fun z => Result.ok (Next.value (.bool z)) _) (show (e44 != 0) = true from f80))))
      refine sv 81 (.bool true) ?_
      refine so (some 82) ?_
      refine so (some 83) ?_
      refine sv 84 (.bool true) ?_
      refine sv 85 (.bool true) ?_
      refine so (some 86) ?_
      refine so (some 87) ?_
      refine so (some 88) ?_
      refine sv 89 (.bool true) ?_
      refine sv 6 (.bool true) ?_
      refine sx_nil ?_
      refine sx_then ?_
      refine wp_ret ?_
      repeat (first | with_reducible refine sx_thenret ?_ | with_reducible refine sx_blockret ?_)
      refine bodyPost_ret (v := .bool true) (by simp [results, Tryd.results5, go_sem]) rfl ?_
      exact ⟨rfl, ((bthru (bthru ((bthru (bthru ((bthru (bthru ((bthru (bthru ((bthru (bthru ((bthru (bthru hbV1 hbV2) hbV3).trans (hOV4.below (by omega))) hbV5) hbV6).trans (hOV7.below (by omega))) hbV8) hbV9).trans (hOV10.below (by omega))) hbV11) hbV12).trans (hOV13.below (by omega))) hbV14) hbV15).trans (hOV16.below (by omega))) hbV17) hbV18).trans (hOV19.below (by omega)))⟩
    refine sv 80 (.bool false) ?_ (hr := ((show _ = Result.ok (Next.value (.bool (e44 != 0))) _ from (by kernel_rfl)).trans (congrArg (fun z => Result.ok (Next.value (.bool z)) _) (show (e44 != 0) = false from f80))))
    refine sv 81 (.bool false) ?_
    refine sv 82 (.int .i64 e50) ?_
    rcases Bool.eq_false_or_eq_true (e50 != 0) with f83 | f83
    · skip
      refine sv 83 (.bool true) ?_ (hr := ((show _ = Result.ok (Next.value (.bool (e50 != 0))) _ from (by kernel_rfl)).trans (congrArg (fun z => Result.ok (Next.value (.bool z)) _) (show (e50 != 0) = true from f83))))
      refine sv 84 (.bool true) ?_
      refine sv 85 (.bool true) ?_
      refine so (some 86) ?_
      refine so (some 87) ?_
      refine so (some 88) ?_
      refine sv 89 (.bool true) ?_
      refine sv 6 (.bool true) ?_
      refine sx_nil ?_
      refine sx_then ?_
      refine wp_ret ?_
      repeat (first | with_reducible refine sx_thenret ?_ | with_reducible refine sx_blockret ?_)
      refine bodyPost_ret (v := .bool true) (by simp [results, Tryd.results5, go_sem]) rfl ?_
      exact ⟨rfl, ((bthru (bthru ((bthru (bthru ((bthru (bthru ((bthru (bthru ((bthru (bthru ((bthru (bthru hbV1 hbV2) hbV3).trans (hOV4.below (by omega))) hbV5) hbV6).trans (hOV7.below (by omega))) hbV8) hbV9).trans (hOV10.below (by omega))) hbV11) hbV12).trans (hOV13.below (by omega))) hbV14) hbV15).trans (hOV16.below (by omega))) hbV17) hbV18).trans (hOV19.below (by omega)))⟩
    refine sv 83 (.bool false) ?_ (hr := ((show _ = Result.ok (Next.value (.bool (e50 != 0))) _ from (by kernel_rfl)).trans (congrArg (fun z => Result.ok (Next.value (.bool z)) _) (show (e50 != 0) = false from f83))))
    refine sv 84 (.bool false) ?_
    refine sv 85 (.bool false) ?_
    replace b15 := (b15.past ((bthru hbV17 hbV18).trans (hOV19.below (by omega))))
    refine sv 86 (.agg #[.bool l44.neg, .slice p44 (dig B32 l44.m).length c44, .int .i64 l44.e, .bool m44.neg, .slice q44 (dig B32 m44.m).length d44, .int .i64 m44.e]) ?_ (hr := (exec_ld (by kernel_rfl) (run_ld b15 hT27 0 [.bool l44.neg, .slice p44 (dig B32 l44.m).length c44, .int .i64 l44.e, .bool m44.neg, .slice q44 (dig B32 m44.m).length d44, .int .i64 m44.e] (by kernel_rfl) (by kernel_rfl))))
    refine sv 87 (.agg #[.bool l50.neg, .slice p50 (dig B32 l50.m).length c50, .int .i64 l50.e, .bool m50.neg, .slice q50 (dig B32 m50.m).length d50, .int .i64 m50.e]) ?_ (hr := (exec_ld (by kernel_rfl) (run_ld b17 hT27 0 [.bool l50.neg, .slice p50 (dig B32 l50.m).length c50, .int .i64 l50.e, .bool m50.neg, .slice q50 (dig B32 m50.m).length d50, .int .i64 m50.e] (by kernel_rfl) (by kernel_rfl))))
    replace ho44 := (ho44.past ((bthru (bthru (hbV15.trans (hOV16.below (by omega))) hbV17) hbV18).trans (hOV19.below (by omega))))
    replace hq44 := (hq44.past ((bthru (bthru (hbV15.trans (hOV16.below (by omega))) hbV17) hbV18).trans (hOV19.below (by omega))))
    replace ho50 := (ho50.past (hbV18.trans (hOV19.below (by omega))))
    replace hq50 := (hq50.past (hbV18.trans (hOV19.below (by omega))))
    refine se 88 18 #[.agg #[.bool l44.neg, .slice p44 (dig B32 l44.m).length c44, .int .i64 l44.e, .bool m44.neg, .slice q44 (dig B32 m44.m).length d44, .int .i64 m44.e], .agg #[.bool l50.neg, .slice p50 (dig B32 l50.m).length c50, .int .i64 l50.e, .bool m50.neg, .slice q50 (dig B32 m50.m).length d50, .int .i64 m50.e]] (fun Gx hGx => ?_)
    ((with_reducible refine (meetT_any (An true n.toNat) l44 m44 l50 m50 e44 e50 p44 q44 p50 q50 c44 d44 c50 d50 _ _ _ _ _ ho44 hq44 ho50 hq50 ht44 ht50 (by have := f80; simpa using this) (by have := f83; simpa using this)).mono ?_))
    rintro eV20 V20 ⟨rfl, hbV20⟩
    have hzV20 := hbV20.size
    refine ⟨.bool true, rfl, hGx _ _ ?_⟩
    clear hGx Gx
    refine sv 89 (.bool true) ?_
    refine sv 6 (.bool true) ?_
    refine sx_nil ?_
    refine sx_then ?_
    refine wp_ret ?_
    repeat (first | with_reducible refine sx_thenret ?_ | with_reducible refine sx_blockret ?_)
    refine bodyPost_ret (v := .bool true) (by simp [results, Tryd.results5, go_sem]) rfl ?_
    exact ⟨rfl, (bthru ((bthru (bthru ((bthru (bthru ((bthru (bthru ((bthru (bthru ((bthru (bthru ((bthru (bthru hbV1 hbV2) hbV3).trans (hOV4.below (by omega))) hbV5) hbV6).trans (hOV7.below (by omega))) hbV8) hbV9).trans (hOV10.below (by omega))) hbV11) hbV12).trans (hOV13.below (by omega))) hbV14) hbV15).trans (hOV16.below (by omega))) hbV17) hbV18).trans (hOV19.below (by omega))) hbV20)⟩
  refine sv 54 (.bool false) ?_ (hr := ((show _ = Result.ok (Next.value (.bool (e23 == 0))) _ from (by kernel_rfl)).trans (congrArg (fun z => Result.ok (Next.value (.bool z)) _) (show (e23 == 0) = false from f54))))
  refine sv 55 (.bool false) ?_
  refine so (some 56) ?_
  refine so (some 57) ?_
  refine sv 58 (.bool false) ?_
  refine sv 59 (.bool false) ?_
  refine so (some 60) ?_
  refine so (some 61) ?_
  refine so (some 62) ?_
  refine so (some 63) ?_
  refine sv 64 (.bool false) ?_
  refine sv 65 (.bool false) ?_
  refine sv 66 (.int .i64 e33) ?_
  rcases Bool.eq_false_or_eq_true (e33 == 0) with f67 | f67
  · skip
    refine sv 67 (.bool true) ?_ (hr := ((show _ = Result.ok (Next.value (.bool (e33 == 0))) _ from (by kernel_rfl)).trans (congrArg (fun z => Result.ok (Next.value (.bool z)) _) (show (e33 == 0) = true from f67))))
    refine sv 68 (.bool true) ?_
    refine sv 69 (.int .i64 e38) ?_
    rcases Bool.eq_false_or_eq_true (e38 == 0) with f70 | f70
    · skip
      refine sv 70 (.bool true) ?_ (hr := ((show _ = Result.ok (Next.value (.bool (e38 == 0))) _ from (by kernel_rfl)).trans (congrArg (fun z => Result.ok (Next.value (.bool z)) _) (show (e38 == 0) = true from f70))))
      refine sv 71 (.bool true) ?_
      refine sv 72 (.bool true) ?_
      replace b11 := (b11.past ((bthru (bthru ((bthru (bthru ((bthru hbV11 hbV12).trans (hOV13.below (by omega))) hbV14) hbV15).trans (hOV16.below (by omega))) hbV17) hbV18).trans (hOV19.below (by omega))))
      refine sv 73 (.agg #[.bool l33.neg, .slice p33 (dig B32 l33.m).length c33, .int .i64 l33.e, .bool m33.neg, .slice q33 (dig B32 m33.m).length d33, .int .i64 m33.e]) ?_ (hr := (exec_ld (by kernel_rfl) (run_ld b11 hT27 0 [.bool l33.neg, .slice p33 (dig B32 l33.m).length c33, .int .i64 l33.e, .bool m33.neg, .slice q33 (dig B32 m33.m).length d33, .int .i64 m33.e] (by kernel_rfl) (by kernel_rfl))))
      replace b13 := (b13.past ((bthru (bthru ((bthru hbV14 hbV15).trans (hOV16.below (by omega))) hbV17) hbV18).trans (hOV19.below (by omega))))
      refine sv 74 (.agg #[.bool l38.neg, .slice p38 (dig B32 l38.m).length c38, .int .i64 l38.e, .bool m38.neg, .slice q38 (dig B32 m38.m).length d38, .int .i64 m38.e]) ?_ (hr := (exec_ld (by kernel_rfl) (run_ld b13 hT27 0 [.bool l38.neg, .slice p38 (dig B32 l38.m).length c38, .int .i64 l38.e, .bool m38.neg, .slice q38 (dig B32 m38.m).length d38, .int .i64 m38.e] (by kernel_rfl) (by kernel_rfl))))
      replace ho33 := (ho33.past ((bthru (bthru ((bthru (bthru ((bthru (bthru (hbV9.trans (hOV10.below (by omega))) hbV11) hbV12).trans (hOV13.below (by omega))) hbV14) hbV15).trans (hOV16.below (by omega))) hbV17) hbV18).trans (hOV19.below (by omega))))
      replace hq33 := (hq33.past ((bthru (bthru ((bthru (bthru ((bthru (bthru (hbV9.trans (hOV10.below (by omega))) hbV11) hbV12).trans (hOV13.below (by omega))) hbV14) hbV15).trans (hOV16.below (by omega))) hbV17) hbV18).trans (hOV19.below (by omega))))
      replace ho38 := (ho38.past ((bthru (bthru ((bthru (bthru (hbV12.trans (hOV13.below (by omega))) hbV14) hbV15).trans (hOV16.below (by omega))) hbV17) hbV18).trans (hOV19.below (by omega))))
      replace hq38 := (hq38.past ((bthru (bthru ((bthru (bthru (hbV12.trans (hOV13.below (by omega))) hbV14) hbV15).trans (hOV16.below (by omega))) hbV17) hbV18).trans (hOV19.below (by omega))))
      refine se 75 18 #[.agg #[.bool l33.neg, .slice p33 (dig B32 l33.m).length c33, .int .i64 l33.e, .bool m33.neg, .slice q33 (dig B32 m33.m).length d33, .int .i64 m33.e], .agg #[.bool l38.neg, .slice p38 (dig B32 l38.m).length c38, .int .i64 l38.e, .bool m38.neg, .slice q38 (dig B32 m38.m).length d38, .int .i64 m38.e]] (fun Gx hGx => ?_)
      ((with_reducible refine (meetT_any Xln l33 m33 l38 m38 e33 e38 p33 q33 p38 q38 c33 d33 c38 d38 _ _ _ _ _ ho33 hq33 ho38 hq38 ht33 ht38 (beq_iff_eq.1 f67) (beq_iff_eq.1 f70)).mono ?_))
      rintro eV20 V20 ⟨rfl, hbV20⟩
      have hzV20 := hbV20.size
      refine ⟨.bool true, rfl, hGx _ _ ?_⟩
      clear hGx Gx
      refine sv 76 (.bool false) ?_
      refine sv 77 (.bool false) ?_
      refine sv 78 (.bool false) ?_
      refine sx_nil ?_
      refine sx_then ?_
      refine wp_cond_false (by kernel_rfl) ?_
      refine wp_skip ?_
      refine sx_then ?_
      refine wp_seq ?_
      refine sx_region ?_
      refine sv 79 (.int .i64 e44) ?_
      rcases Bool.eq_false_or_eq_true (e44 != 0) with f80 | f80
      · skip
        refine sv 80 (.bool true) ?_ (hr := ((show _ = Result.ok (Next.value (.bool (e44 != 0))) _ from (by kernel_rfl)).trans (congrArg (fun z => Result.ok (Next.value (.bool z)) _) (show (e44 != 0) = true from f80))))
        refine sv 81 (.bool true) ?_
        refine so (some 82) ?_
        refine so (some 83) ?_
        refine sv 84 (.bool true) ?_
        refine sv 85 (.bool true) ?_
        refine so (some 86) ?_
        refine so (some 87) ?_
        refine so (some 88) ?_
        refine sv 89 (.bool true) ?_
        refine sv 6 (.bool true) ?_
        refine sx_nil ?_
        refine sx_then ?_
        refine wp_ret ?_
        repeat (first | with_reducible refine sx_thenret ?_ | with_reducible refine sx_blockret ?_)
        refine bodyPost_ret (v := .bool true) (by simp [results, Tryd.results5, go_sem]) rfl ?_
        exact ⟨rfl, (bthru ((bthru (bthru ((bthru (bthru ((bthru (bthru ((bthru (bthru ((bthru (bthru ((bthru (bthru hbV1 hbV2) hbV3).trans (hOV4.below (by omega))) hbV5) hbV6).trans (hOV7.below (by omega))) hbV8) hbV9).trans (hOV10.below (by omega))) hbV11) hbV12).trans (hOV13.below (by omega))) hbV14) hbV15).trans (hOV16.below (by omega))) hbV17) hbV18).trans (hOV19.below (by omega))) hbV20)⟩
      refine sv 80 (.bool false) ?_ (hr := ((show _ = Result.ok (Next.value (.bool (e44 != 0))) _ from (by kernel_rfl)).trans (congrArg (fun z => Result.ok (Next.value (.bool z)) _) (show (e44 != 0) = false from f80))))
      refine sv 81 (.bool false) ?_
      refine sv 82 (.int .i64 e50) ?_
      rcases Bool.eq_false_or_eq_true (e50 != 0) with f83 | f83
      · skip
        refine sv 83 (.bool true) ?_ (hr := ((show _ = Result.ok (Next.value (.bool (e50 != 0))) _ from (by kernel_rfl)).trans (congrArg (fun z => Result.ok (Next.value (.bool z)) _) (show (e50 != 0) = true from f83))))
        refine sv 84 (.bool true) ?_
        refine sv 85 (.bool true) ?_
        refine so (some 86) ?_
        refine so (some 87) ?_
        refine so (some 88) ?_
        refine sv 89 (.bool true) ?_
        refine sv 6 (.bool true) ?_
        refine sx_nil ?_
        refine sx_then ?_
        refine wp_ret ?_
        repeat (first | with_reducible refine sx_thenret ?_ | with_reducible refine sx_blockret ?_)
        refine bodyPost_ret (v := .bool true) (by simp [results, Tryd.results5, go_sem]) rfl ?_
        exact ⟨rfl, (bthru ((bthru (bthru ((bthru (bthru ((bthru (bthru ((bthru (bthru ((bthru (bthru ((bthru (bthru hbV1 hbV2) hbV3).trans (hOV4.below (by omega))) hbV5) hbV6).trans (hOV7.below (by omega))) hbV8) hbV9).trans (hOV10.below (by omega))) hbV11) hbV12).trans (hOV13.below (by omega))) hbV14) hbV15).trans (hOV16.below (by omega))) hbV17) hbV18).trans (hOV19.below (by omega))) hbV20)⟩
      refine sv 83 (.bool false) ?_ (hr := ((show _ = Result.ok (Next.value (.bool (e50 != 0))) _ from (by kernel_rfl)).trans (congrArg (fun z => Result.ok (Next.value (.bool z)) _) (show (e50 != 0) = false from f83))))
      refine sv 84 (.bool false) ?_
      refine sv 85 (.bool false) ?_
      replace b15 := (b15.past (bthru ((bthru hbV17 hbV18).trans (hOV19.below (by omega))) hbV20))
      refine sv 86 (.agg #[.bool l44.neg, .slice p44 (dig B32 l44.m).length c44, .int .i64 l44.e, .bool m44.neg, .slice q44 (dig B32 m44.m).length d44, .int .i64 m44.e]) ?_ (hr := (exec_ld (by kernel_rfl) (run_ld b15 hT27 0 [.bool l44.neg, .slice p44 (dig B32 l44.m).length c44, .int .i64 l44.e, .bool m44.neg, .slice q44 (dig B32 m44.m).length d44, .int .i64 m44.e] (by kernel_rfl) (by kernel_rfl))))
      replace b17 := (b17.past hbV20)
      refine sv 87 (.agg #[.bool l50.neg, .slice p50 (dig B32 l50.m).length c50, .int .i64 l50.e, .bool m50.neg, .slice q50 (dig B32 m50.m).length d50, .int .i64 m50.e]) ?_ (hr := (exec_ld (by kernel_rfl) (run_ld b17 hT27 0 [.bool l50.neg, .slice p50 (dig B32 l50.m).length c50, .int .i64 l50.e, .bool m50.neg, .slice q50 (dig B32 m50.m).length d50, .int .i64 m50.e] (by kernel_rfl) (by kernel_rfl))))
      replace ho44 := (ho44.past (bthru ((bthru (bthru (hbV15.trans (hOV16.below (by omega))) hbV17) hbV18).trans (hOV19.below (by omega))) hbV20))
      replace hq44 := (hq44.past (bthru ((bthru (bthru (hbV15.trans (hOV16.below (by omega))) hbV17) hbV18).trans (hOV19.below (by omega))) hbV20))
      replace ho50 := (ho50.past (bthru (hbV18.trans (hOV19.below (by omega))) hbV20))
      replace hq50 := (hq50.past (bthru (hbV18.trans (hOV19.below (by omega))) hbV20))
      refine se 88 18 #[.agg #[.bool l44.neg, .slice p44 (dig B32 l44.m).length c44, .int .i64 l44.e, .bool m44.neg, .slice q44 (dig B32 m44.m).length d44, .int .i64 m44.e], .agg #[.bool l50.neg, .slice p50 (dig B32 l50.m).length c50, .int .i64 l50.e, .bool m50.neg, .slice q50 (dig B32 m50.m).length d50, .int .i64 m50.e]] (fun Gx hGx => ?_)
      ((with_reducible refine (meetT_any (An true n.toNat) l44 m44 l50 m50 e44 e50 p44 q44 p50 q50 c44 d44 c50 d50 _ _ _ _ _ ho44 hq44 ho50 hq50 ht44 ht50 (by have := f80; simpa using this) (by have := f83; simpa using this)).mono ?_))
      rintro eV21 V21 ⟨rfl, hbV21⟩
      have hzV21 := hbV21.size
      refine ⟨.bool true, rfl, hGx _ _ ?_⟩
      clear hGx Gx
      refine sv 89 (.bool true) ?_
      refine sv 6 (.bool true) ?_
      refine sx_nil ?_
      refine sx_then ?_
      refine wp_ret ?_
      repeat (first | with_reducible refine sx_thenret ?_ | with_reducible refine sx_blockret ?_)
      refine bodyPost_ret (v := .bool true) (by simp [results, Tryd.results5, go_sem]) rfl ?_
      exact ⟨rfl, (bthru (bthru ((bthru (bthru ((bthru (bthru ((bthru (bthru ((bthru (bthru ((bthru (bthru ((bthru (bthru hbV1 hbV2) hbV3).trans (hOV4.below (by omega))) hbV5) hbV6).trans (hOV7.below (by omega))) hbV8) hbV9).trans (hOV10.below (by omega))) hbV11) hbV12).trans (hOV13.below (by omega))) hbV14) hbV15).trans (hOV16.below (by omega))) hbV17) hbV18).trans (hOV19.below (by omega))) hbV20) hbV21)⟩
    refine sv 70 (.bool false) ?_ (hr := ((show _ = Result.ok (Next.value (.bool (e38 == 0))) _ from (by kernel_rfl)).trans (congrArg (fun z => Result.ok (Next.value (.bool z)) _) (show (e38 == 0) = false from f70))))
    refine sv 71 (.bool false) ?_
    refine sv 72 (.bool false) ?_
    refine so (some 73) ?_
    refine so (some 74) ?_
    refine so (some 75) ?_
    refine so (some 76) ?_
    refine sv 77 (.bool false) ?_
    refine sv 78 (.bool false) ?_
    refine sx_nil ?_
    refine sx_then ?_
    refine wp_cond_false (by kernel_rfl) ?_
    refine wp_skip ?_
    refine sx_then ?_
    refine wp_seq ?_
    refine sx_region ?_
    refine sv 79 (.int .i64 e44) ?_
    rcases Bool.eq_false_or_eq_true (e44 != 0) with f80 | f80
    · skip
      refine sv 80 (.bool true) ?_ (hr := ((show _ = Result.ok (Next.value (.bool (e44 != 0))) _ from (by kernel_rfl)).trans (congrArg (fun z => Result.ok (Next.value (.bool z)) _) (show (e44 != 0) = true from f80))))
      refine sv 81 (.bool true) ?_
      refine so (some 82) ?_
      refine so (some 83) ?_
      refine sv 84 (.bool true) ?_
      refine sv 85 (.bool true) ?_
      refine so (some 86) ?_
      refine so (some 87) ?_
      refine so (some 88) ?_
      refine sv 89 (.bool true) ?_
      refine sv 6 (.bool true) ?_
      refine sx_nil ?_
      refine sx_then ?_
      refine wp_ret ?_
      repeat (first | with_reducible refine sx_thenret ?_ | with_reducible refine sx_blockret ?_)
      refine bodyPost_ret (v := .bool true) (by simp [results, Tryd.results5, go_sem]) rfl ?_
      exact ⟨rfl, ((bthru (bthru ((bthru (bthru ((bthru (bthru ((bthru (bthru ((bthru (bthru ((bthru (bthru hbV1 hbV2) hbV3).trans (hOV4.below (by omega))) hbV5) hbV6).trans (hOV7.below (by omega))) hbV8) hbV9).trans (hOV10.below (by omega))) hbV11) hbV12).trans (hOV13.below (by omega))) hbV14) hbV15).trans (hOV16.below (by omega))) hbV17) hbV18).trans (hOV19.below (by omega)))⟩
    refine sv 80 (.bool false) ?_ (hr := ((show _ = Result.ok (Next.value (.bool (e44 != 0))) _ from (by kernel_rfl)).trans (congrArg (fun z => Result.ok (Next.value (.bool z)) _) (show (e44 != 0) = false from f80))))
    refine sv 81 (.bool false) ?_
    refine sv 82 (.int .i64 e50) ?_
    rcases Bool.eq_false_or_eq_true (e50 != 0) with f83 | f83
    · skip
      refine sv 83 (.bool true) ?_ (hr := ((show _ = Result.ok (Next.value (.bool (e50 != 0))) _ from (by kernel_rfl)).trans (congrArg (fun z => Result.ok (Next.value (.bool z)) _) (show (e50 != 0) = true from f83))))
      refine sv 84 (.bool true) ?_
      refine sv 85 (.bool true) ?_
      refine so (some 86) ?_
      refine so (some 87) ?_
      refine so (some 88) ?_
      refine sv 89 (.bool true) ?_
      refine sv 6 (.bool true) ?_
      refine sx_nil ?_
      refine sx_then ?_
      refine wp_ret ?_
      repeat (first | with_reducible refine sx_thenret ?_ | with_reducible refine sx_blockret ?_)
      refine bodyPost_ret (v := .bool true) (by simp [results, Tryd.results5, go_sem]) rfl ?_
      exact ⟨rfl, ((bthru (bthru ((bthru (bthru ((bthru (bthru ((bthru (bthru ((bthru (bthru ((bthru (bthru hbV1 hbV2) hbV3).trans (hOV4.below (by omega))) hbV5) hbV6).trans (hOV7.below (by omega))) hbV8) hbV9).trans (hOV10.below (by omega))) hbV11) hbV12).trans (hOV13.below (by omega))) hbV14) hbV15).trans (hOV16.below (by omega))) hbV17) hbV18).trans (hOV19.below (by omega)))⟩
    refine sv 83 (.bool false) ?_ (hr := ((show _ = Result.ok (Next.value (.bool (e50 != 0))) _ from (by kernel_rfl)).trans (congrArg (fun z => Result.ok (Next.value (.bool z)) _) (show (e50 != 0) = false from f83))))
    refine sv 84 (.bool false) ?_
    refine sv 85 (.bool false) ?_
    replace b15 := (b15.past ((bthru hbV17 hbV18).trans (hOV19.below (by omega))))
    refine sv 86 (.agg #[.bool l44.neg, .slice p44 (dig B32 l44.m).length c44, .int .i64 l44.e, .bool m44.neg, .slice q44 (dig B32 m44.m).length d44, .int .i64 m44.e]) ?_ (hr := (exec_ld (by kernel_rfl) (run_ld b15 hT27 0 [.bool l44.neg, .slice p44 (dig B32 l44.m).length c44, .int .i64 l44.e, .bool m44.neg, .slice q44 (dig B32 m44.m).length d44, .int .i64 m44.e] (by kernel_rfl) (by kernel_rfl))))
    refine sv 87 (.agg #[.bool l50.neg, .slice p50 (dig B32 l50.m).length c50, .int .i64 l50.e, .bool m50.neg, .slice q50 (dig B32 m50.m).length d50, .int .i64 m50.e]) ?_ (hr := (exec_ld (by kernel_rfl) (run_ld b17 hT27 0 [.bool l50.neg, .slice p50 (dig B32 l50.m).length c50, .int .i64 l50.e, .bool m50.neg, .slice q50 (dig B32 m50.m).length d50, .int .i64 m50.e] (by kernel_rfl) (by kernel_rfl))))
    replace ho44 := (ho44.past ((bthru (bthru (hbV15.trans (hOV16.below (by omega))) hbV17) hbV18).trans (hOV19.below (by omega))))
    replace hq44 := (hq44.past ((bthru (bthru (hbV15.trans (hOV16.below (by omega))) hbV17) hbV18).trans (hOV19.below (by omega))))
    replace ho50 := (ho50.past (hbV18.trans (hOV19.below (by omega))))
    replace hq50 := (hq50.past (hbV18.trans (hOV19.below (by omega))))
    refine se 88 18 #[.agg #[.bool l44.neg, .slice p44 (dig B32 l44.m).length c44, .int .i64 l44.e, .bool m44.neg, .slice q44 (dig B32 m44.m).length d44, .int .i64 m44.e], .agg #[.bool l50.neg, .slice p50 (dig B32 l50.m).length c50, .int .i64 l50.e, .bool m50.neg, .slice q50 (dig B32 m50.m).length d50, .int .i64 m50.e]] (fun Gx hGx => ?_)
    ((with_reducible refine (meetT_any (An true n.toNat) l44 m44 l50 m50 e44 e50 p44 q44 p50 q50 c44 d44 c50 d50 _ _ _ _ _ ho44 hq44 ho50 hq50 ht44 ht50 (by have := f80; simpa using this) (by have := f83; simpa using this)).mono ?_))
    rintro eV20 V20 ⟨rfl, hbV20⟩
    have hzV20 := hbV20.size
    refine ⟨.bool true, rfl, hGx _ _ ?_⟩
    clear hGx Gx
    refine sv 89 (.bool true) ?_
    refine sv 6 (.bool true) ?_
    refine sx_nil ?_
    refine sx_then ?_
    refine wp_ret ?_
    repeat (first | with_reducible refine sx_thenret ?_ | with_reducible refine sx_blockret ?_)
    refine bodyPost_ret (v := .bool true) (by simp [results, Tryd.results5, go_sem]) rfl ?_
    exact ⟨rfl, (bthru ((bthru (bthru ((bthru (bthru ((bthru (bthru ((bthru (bthru ((bthru (bthru ((bthru (bthru hbV1 hbV2) hbV3).trans (hOV4.below (by omega))) hbV5) hbV6).trans (hOV7.below (by omega))) hbV8) hbV9).trans (hOV10.below (by omega))) hbV11) hbV12).trans (hOV13.below (by omega))) hbV14) hbV15).trans (hOV16.below (by omega))) hbV17) hbV18).trans (hOV19.below (by omega))) hbV20)⟩
  refine sv 67 (.bool false) ?_ (hr := ((show _ = Result.ok (Next.value (.bool (e33 == 0))) _ from (by kernel_rfl)).trans (congrArg (fun z => Result.ok (Next.value (.bool z)) _) (show (e33 == 0) = false from f67))))
  refine sv 68 (.bool false) ?_
  refine so (some 69) ?_
  refine so (some 70) ?_
  refine sv 71 (.bool false) ?_
  refine sv 72 (.bool false) ?_
  refine so (some 73) ?_
  refine so (some 74) ?_
  refine so (some 75) ?_
  refine so (some 76) ?_
  refine sv 77 (.bool false) ?_
  refine sv 78 (.bool false) ?_
  refine sx_nil ?_
  refine sx_then ?_
  refine wp_cond_false (by kernel_rfl) ?_
  refine wp_skip ?_
  refine sx_then ?_
  refine wp_seq ?_
  refine sx_region ?_
  refine sv 79 (.int .i64 e44) ?_
  rcases Bool.eq_false_or_eq_true (e44 != 0) with f80 | f80
  · skip
    refine sv 80 (.bool true) ?_ (hr := ((show _ = Result.ok (Next.value (.bool (e44 != 0))) _ from (by kernel_rfl)).trans (congrArg (fun z => Result.ok (Next.value (.bool z)) _) (show (e44 != 0) = true from f80))))
    refine sv 81 (.bool true) ?_
    refine so (some 82) ?_
    refine so (some 83) ?_
    refine sv 84 (.bool true) ?_
    refine sv 85 (.bool true) ?_
    refine so (some 86) ?_
    refine so (some 87) ?_
    refine so (some 88) ?_
    refine sv 89 (.bool true) ?_
    refine sv 6 (.bool true) ?_
    refine sx_nil ?_
    refine sx_then ?_
    refine wp_ret ?_
    repeat (first | with_reducible refine sx_thenret ?_ | with_reducible refine sx_blockret ?_)
    refine bodyPost_ret (v := .bool true) (by simp [results, Tryd.results5, go_sem]) rfl ?_
    exact ⟨rfl, ((bthru (bthru ((bthru (bthru ((bthru (bthru ((bthru (bthru ((bthru (bthru ((bthru (bthru hbV1 hbV2) hbV3).trans (hOV4.below (by omega))) hbV5) hbV6).trans (hOV7.below (by omega))) hbV8) hbV9).trans (hOV10.below (by omega))) hbV11) hbV12).trans (hOV13.below (by omega))) hbV14) hbV15).trans (hOV16.below (by omega))) hbV17) hbV18).trans (hOV19.below (by omega)))⟩
  refine sv 80 (.bool false) ?_ (hr := ((show _ = Result.ok (Next.value (.bool (e44 != 0))) _ from (by kernel_rfl)).trans (congrArg (fun z => Result.ok (Next.value (.bool z)) _) (show (e44 != 0) = false from f80))))
  refine sv 81 (.bool false) ?_
  refine sv 82 (.int .i64 e50) ?_
  rcases Bool.eq_false_or_eq_true (e50 != 0) with f83 | f83
  · skip
    refine sv 83 (.bool true) ?_ (hr := ((show _ = Result.ok (Next.value (.bool (e50 != 0))) _ from (by kernel_rfl)).trans (congrArg (fun z => Result.ok (Next.value (.bool z)) _) (show (e50 != 0) = true from f83))))
    refine sv 84 (.bool true) ?_
    refine sv 85 (.bool true) ?_
    refine so (some 86) ?_
    refine so (some 87) ?_
    refine so (some 88) ?_
    refine sv 89 (.bool true) ?_
    refine sv 6 (.bool true) ?_
    refine sx_nil ?_
    refine sx_then ?_
    refine wp_ret ?_
    repeat (first | with_reducible refine sx_thenret ?_ | with_reducible refine sx_blockret ?_)
    refine bodyPost_ret (v := .bool true) (by simp [results, Tryd.results5, go_sem]) rfl ?_
    exact ⟨rfl, ((bthru (bthru ((bthru (bthru ((bthru (bthru ((bthru (bthru ((bthru (bthru ((bthru (bthru hbV1 hbV2) hbV3).trans (hOV4.below (by omega))) hbV5) hbV6).trans (hOV7.below (by omega))) hbV8) hbV9).trans (hOV10.below (by omega))) hbV11) hbV12).trans (hOV13.below (by omega))) hbV14) hbV15).trans (hOV16.below (by omega))) hbV17) hbV18).trans (hOV19.below (by omega)))⟩
  refine sv 83 (.bool false) ?_ (hr := ((show _ = Result.ok (Next.value (.bool (e50 != 0))) _ from (by kernel_rfl)).trans (congrArg (fun z => Result.ok (Next.value (.bool z)) _) (show (e50 != 0) = false from f83))))
  refine sv 84 (.bool false) ?_
  refine sv 85 (.bool false) ?_
  replace b15 := (b15.past ((bthru hbV17 hbV18).trans (hOV19.below (by omega))))
  refine sv 86 (.agg #[.bool l44.neg, .slice p44 (dig B32 l44.m).length c44, .int .i64 l44.e, .bool m44.neg, .slice q44 (dig B32 m44.m).length d44, .int .i64 m44.e]) ?_ (hr := (exec_ld (by kernel_rfl) (run_ld b15 hT27 0 [.bool l44.neg, .slice p44 (dig B32 l44.m).length c44, .int .i64 l44.e, .bool m44.neg, .slice q44 (dig B32 m44.m).length d44, .int .i64 m44.e] (by kernel_rfl) (by kernel_rfl))))
  refine sv 87 (.agg #[.bool l50.neg, .slice p50 (dig B32 l50.m).length c50, .int .i64 l50.e, .bool m50.neg, .slice q50 (dig B32 m50.m).length d50, .int .i64 m50.e]) ?_ (hr := (exec_ld (by kernel_rfl) (run_ld b17 hT27 0 [.bool l50.neg, .slice p50 (dig B32 l50.m).length c50, .int .i64 l50.e, .bool m50.neg, .slice q50 (dig B32 m50.m).length d50, .int .i64 m50.e] (by kernel_rfl) (by kernel_rfl))))
  replace ho44 := (ho44.past ((bthru (bthru (hbV15.trans (hOV16.below (by omega))) hbV17) hbV18).trans (hOV19.below (by omega))))
  replace hq44 := (hq44.past ((bthru (bthru (hbV15.trans (hOV16.below (by omega))) hbV17) hbV18).trans (hOV19.below (by omega))))
  replace ho50 := (ho50.past (hbV18.trans (hOV19.below (by omega))))
  replace hq50 := (hq50.past (hbV18.trans (hOV19.below (by omega))))
  refine se 88 18 #[.agg #[.bool l44.neg, .slice p44 (dig B32 l44.m).length c44, .int .i64 l44.e, .bool m44.neg, .slice q44 (dig B32 m44.m).length d44, .int .i64 m44.e], .agg #[.bool l50.neg, .slice p50 (dig B32 l50.m).length c50, .int .i64 l50.e, .bool m50.neg, .slice q50 (dig B32 m50.m).length d50, .int .i64 m50.e]] (fun Gx hGx => ?_)
  ((with_reducible refine (meetT_any (An true n.toNat) l44 m44 l50 m50 e44 e50 p44 q44 p50 q50 c44 d44 c50 d50 _ _ _ _ _ ho44 hq44 ho50 hq50 ht44 ht50 (by have := f80; simpa using this) (by have := f83; simpa using this)).mono ?_))
  rintro eV20 V20 ⟨rfl, hbV20⟩
  have hzV20 := hbV20.size
  refine ⟨.bool true, rfl, hGx _ _ ?_⟩
  clear hGx Gx
  refine sv 89 (.bool true) ?_
  refine sv 6 (.bool true) ?_
  refine sx_nil ?_
  refine sx_then ?_
  refine wp_ret ?_
  repeat (first | with_reducible refine sx_thenret ?_ | with_reducible refine sx_blockret ?_)
  refine bodyPost_ret (v := .bool true) (by simp [results, Tryd.results5, go_sem]) rfl ?_
  exact ⟨rfl, (bthru ((bthru (bthru ((bthru (bthru ((bthru (bthru ((bthru (bthru ((bthru (bthru ((bthru (bthru hbV1 hbV2) hbV3).trans (hOV4.below (by omega))) hbV5) hbV6).trans (hOV7.below (by omega))) hbV8) hbV9).trans (hOV10.below (by omega))) hbV11) hbV12).trans (hOV13.below (by omega))) hbV14) hbV15).trans (hOV16.below (by omega))) hbV17) hbV18).trans (hOV19.below (by omega))) hbV20)⟩

end Go.Proofs.YtehodhanojgkgaaDoor
