/- ball: Add, Mul, Join, Sub. -/
import Derived.Test.YtehodhanojgkgaaDoorZBall12
namespace Go.Slip

/-- Ends of a sum, a product, a join, a difference. -/
def plusL (a b a' b' : Dv) (n : Int) : Dv := pCut (lowD (pPlus a a') [pPlus b b']) n.toNat false
def plusH (a b a' b' : Dv) (n : Int) : Dv := pCut (highD (pPlus a a') [pPlus b b']) n.toNat true
def timesL (a b a' b' : Dv) (n : Int) : Dv := pCut (lowD (dTimes a a') [dTimes a b', dTimes b a', dTimes b b']) n.toNat false
def timesH (a b a' b' : Dv) (n : Int) : Dv := pCut (highD (dTimes a a') [dTimes a b', dTimes b a', dTimes b b']) n.toNat true
def joinL (a b a' b' : Dv) (n : Int) : Dv := pCut (lowD a [b, a', b']) n.toNat false
def joinH (a b a' b' : Dv) (n : Int) : Dv := pCut (highD a [b, a', b']) n.toNat true
def subL (a b a' b' : Dv) (n : Int) : Dv := pCut (lowD (pPlus a (dMinus b')) [pPlus b (dMinus a')]) n.toNat false
def subH (a b a' b' : Dv) (n : Int) : Dv := pCut (highD (pPlus a (dMinus b')) [pPlus b (dMinus a')]) n.toNat true

theorem cut_len (a : Dv) (b : Nat) (up : Bool) {n : Nat} (h : (dig B32 a.m).length ≤ n) : (dig B32 (pCut a b up).m).length ≤ n + 2 := by
  unfold pCut
  split
  · omega
  · refine Nat.le_trans (bare_len B32_two _) ?_
    refine Nat.le_trans (dig_len_add B32_two _ _) ?_
    have h5 := dig_len_mono B32_two (Nat.div_le_self a.m (2 ^ (blen a.m - b)))
    have h6 : (dig B32 (if up ≠ a.neg then 1 else 0)).length ≤ 1 := (dig_len_le B32_two _ 1).2 (by split <;> decide)
    omega

theorem low_len {n : Nat} {a : Dv} {l : List Dv} (h0 : (dig B32 a.m).length ≤ n) (h : ∀ x ∈ l, (dig B32 x.m).length ≤ n) : (dig B32 (lowD a l).m).length ≤ n := by
  rcases low_mem l a with h1 | h1
  · rw [h1]; exact h0
  · exact h _ h1
theorem high_len {n : Nat} {a : Dv} {l : List Dv} (h0 : (dig B32 a.m).length ≤ n) (h : ∀ x ∈ l, (dig B32 x.m).length ≤ n) : (dig B32 (highD a l).m).length ≤ n := by
  rcases high_mem l a with h1 | h1
  · rw [h1]; exact h0
  · exact h _ h1

/-- Small enough. -/
structure SmD (a : Dv) : Prop where
  len : (dig B32 a.m).length ≤ 1300
  lo : -100000 ≤ a.e
  hi : a.e ≤ 100000

theorem SmD.opp {a : Dv} (h : SmD a) : SmD (dMinus a) := ⟨h.len, h.lo, h.hi⟩
theorem plus_len {a b : Dv} (ha : SmD a) (hb : SmD b) : (dig B32 (pPlus a b).m).length ≤ 16000 := (pPlus_bd ha.len hb.len ha.lo ha.hi hb.lo hb.hi).1
theorem times_len {a b : Dv} (ha : SmD a) (hb : SmD b) : (dig B32 (dTimes a b).m).length ≤ 16000 := by
  have := (dTimes_bd ha.len hb.len ha.lo ha.hi hb.lo hb.hi).1
  omega

theorem one_of {P : Dv → Prop} {x : Dv} (h : P x) : ∀ y ∈ [x], P y := by simpa using h
theorem three_of {P : Dv → Prop} {x y z : Dv} (h : P x) (k : P y) (m : P z) : ∀ t ∈ [x, y, z], P t := by
  intro t ht
  simp only [List.mem_cons, List.not_mem_nil, or_false] at ht
  rcases ht with rfl | rfl | rfl <;> assumption

theorem plusL_len {a b a' b' : Dv} {n : Int} (h1 : SmD a) (h2 : SmD b) (h3 : SmD a') (h4 : SmD b') : (dig B32 (plusL a b a' b' n).m).length ≤ 1000000 :=
  Nat.le_trans (cut_len _ _ _ (low_len (plus_len h1 h3) (one_of (plus_len h2 h4)))) (by omega)
theorem plusH_len {a b a' b' : Dv} {n : Int} (h1 : SmD a) (h2 : SmD b) (h3 : SmD a') (h4 : SmD b') : (dig B32 (plusH a b a' b' n).m).length ≤ 1000000 :=
  Nat.le_trans (cut_len _ _ _ (high_len (plus_len h1 h3) (one_of (plus_len h2 h4)))) (by omega)
theorem subL_len {a b a' b' : Dv} {n : Int} (h1 : SmD a) (h2 : SmD b) (h3 : SmD a') (h4 : SmD b') : (dig B32 (subL a b a' b' n).m).length ≤ 1000000 :=
  Nat.le_trans (cut_len _ _ _ (low_len (plus_len h1 h4.opp) (one_of (plus_len h2 h3.opp)))) (by omega)
theorem subH_len {a b a' b' : Dv} {n : Int} (h1 : SmD a) (h2 : SmD b) (h3 : SmD a') (h4 : SmD b') : (dig B32 (subH a b a' b' n).m).length ≤ 1000000 :=
  Nat.le_trans (cut_len _ _ _ (high_len (plus_len h1 h4.opp) (one_of (plus_len h2 h3.opp)))) (by omega)
theorem timesL_len {a b a' b' : Dv} {n : Int} (h1 : SmD a) (h2 : SmD b) (h3 : SmD a') (h4 : SmD b') : (dig B32 (timesL a b a' b' n).m).length ≤ 1000000 :=
  Nat.le_trans (cut_len _ _ _ (low_len (times_len h1 h3) (three_of (P := fun d => (dig B32 d.m).length ≤ 16000) (times_len h1 h4) (times_len h2 h3) (times_len h2 h4)))) (by omega)
theorem timesH_len {a b a' b' : Dv} {n : Int} (h1 : SmD a) (h2 : SmD b) (h3 : SmD a') (h4 : SmD b') : (dig B32 (timesH a b a' b' n).m).length ≤ 1000000 :=
  Nat.le_trans (cut_len _ _ _ (high_len (times_len h1 h3) (three_of (P := fun d => (dig B32 d.m).length ≤ 16000) (times_len h1 h4) (times_len h2 h3) (times_len h2 h4)))) (by omega)
theorem joinL_len {a b a' b' : Dv} {n : Int} (h1 : SmD a) (h2 : SmD b) (h3 : SmD a') (h4 : SmD b') : (dig B32 (joinL a b a' b' n).m).length ≤ 1000000 :=
  Nat.le_trans (cut_len _ _ _ (low_len h1.len (three_of (P := fun d => (dig B32 d.m).length ≤ 1300) h2.len h3.len h4.len))) (by omega)
theorem joinH_len {a b a' b' : Dv} {n : Int} (h1 : SmD a) (h2 : SmD b) (h3 : SmD a') (h4 : SmD b') : (dig B32 (joinH a b a' b' n).m).length ≤ 1000000 :=
  Nat.le_trans (cut_len _ _ _ (high_len h1.len (three_of (P := fun d => (dig B32 d.m).length ≤ 1300) h2.len h3.len h4.len))) (by omega)

end Go.Slip
namespace Go.Proofs.YtehodhanojgkgaaDoor
open Go.RowKit Go.Slip

theorem dyV_smD {w : World} {a : Din} (h : InD w a) (he : errDy a = 0) : SmD (dyV a) := by
  obtain ⟨h1, h2, h3⟩ := dyV_bd h he
  exact ⟨by omega, by omega, by omega⟩


set_option maxHeartbeats 2000000 in
set_option maxRecDepth 100000 in
theorem bAdd_any (a b a' b' : Din) (n : Int) (w : World) (ha : InD w a) (hb : InD w b) (ha' : InD w a') (hb' : InD w b') (hT : TabW w) :
    Calls Tryd.prog 32 #[.agg #[.bool a.g, .slice a.p a.xs.length a.c, .int .i64 a.e, .bool b.g, .slice b.p b.xs.length b.c, .int .i64 b.e], .agg #[.bool a'.g, .slice a'.p a'.xs.length a'.c, .int .i64 a'.e, .bool b'.g, .slice b'.p b'.xs.length b'.c, .int .i64 b'.e], .int .i64 n] w (GivesBE w w.heap.size (twoL n [(a, b), (a', b')] (plusL (dyV a) (dyV b) (dyV a') (dyV b') n) (plusH (dyV a) (dyV b) (dyV a') (dyV b') n))
      (twoH n [(a, b), (a', b')] (plusL (dyV a) (dyV b) (dyV a') (dyV b') n) (plusH (dyV a) (dyV b) (dyV a') (dyV b') n)) (twoE n [(a, b), (a', b')] (plusL (dyV a) (dyV b) (dyV a') (dyV b') n) (plusH (dyV a) (dyV b) (dyV a') (dyV b') n))) := by
  have HT := fun W k1 k2 k3 k4 k5 => Lib.hid (twoPlus_any a b a' b' n (plusL (dyV a) (dyV b) (dyV a') (dyV b') n) (plusH (dyV a) (dyV b) (dyV a') (dyV b') n) W k1 k2 k3 k4 k5 (fun h => by
    obtain ⟨e1, e2, e3, e4⟩ := errC_ok2 h
    obtain ⟨q1, q2, -⟩ := errBall_ok e1
    obtain ⟨q3, q4, -⟩ := errBall_ok e2
    refine ⟨plusL_len (dyV_smD ha q1) (dyV_smD hb q2) (dyV_smD ha' q3) (dyV_smD hb' q4), plusH_len (dyV_smD ha q1) (dyV_smD hb q2) (dyV_smD ha' q3) (dyV_smD hb' q4), ?_⟩
    intro V al ah bl bh v1 v2 v3 v4 s1 s2 s3 s4 base i1 i2 i3 i4 iT ib
    have hn : n = ((n.toNat : Nat) : Int) := by omega
    rw [← v1, ← v2, ← v3, ← v4, hn]
    have h5 : n.toNat ≤ 5000 := by omega
    unfold plusL plusH
    rw [Int.toNat_natCast]
    exact plusB_any al ah bl bh n.toNat base V i1 i2 i3 i4 s1 s2 s3 s4 h5 iT ib))
  generalize twoL n [(a, b), (a', b')] (plusL (dyV a) (dyV b) (dyV a') (dyV b') n) (plusH (dyV a) (dyV b) (dyV a') (dyV b') n) = rl at *
  generalize twoH n [(a, b), (a', b')] (plusL (dyV a) (dyV b) (dyV a') (dyV b') n) (plusH (dyV a) (dyV b) (dyV a') (dyV b') n) = rh at *
  generalize twoE n [(a, b), (a', b')] (plusL (dyV a) (dyV b) (dyV a') (dyV b') n) (plusH (dyV a) (dyV b) (dyV a') (dyV b') n) = er at *
  go_enter Tryd.func32, Tryd.ntmps32
  go_upto_region 1 with (fail)
  refine wp_layT3 (fun W1 hs1 hz1 A B R RT => ?_)
  obtain ⟨A_0, A_1, A_2, A_3, A_4, A_5⟩ := (A).e6
  have A_f0 := (A).f 0
  have A_f1 := (A).f 1
  have A_f2 := (A).f 2
  have A_f3 := (A).f 3
  have A_f4 := (A).f 4
  have A_f5 := (A).f 5
  obtain ⟨B_0, B_1, B_2, B_3, B_4, B_5⟩ := (B).e6
  have B_f0 := (B).f 0
  have B_f1 := (B).f 1
  have B_f2 := (B).f 2
  have B_f3 := (B).f 3
  have B_f4 := (B).f 4
  have B_f5 := (B).f 5
  go_wp2_with fail
  ((with_reducible refine (HT _ (ha.past hs1) (hb.past hs1) (ha'.past hs1) (hb'.past hs1) (hT.past hs1)).out.mono ?_))
  clear A_0 A_1 A_2 A_3 A_4 A_5 B_0 B_1 B_2 B_3 B_4 B_5
  rintro e2 w2 ⟨p2, c2, q2, d2, rfl, ho2, hq2, hb2⟩
  have hs2 := hs1.trans (hb2.mono hs1.size)
  replace R := R.past hb2
  replace RT := RT.past hb2
  obtain ⟨R_0, R_1, R_2, R_3, R_4, R_5⟩ := (R).e6
  have R_f0 := (R).f 0
  have R_f1 := (R).f 1
  have R_f2 := (R).f 2
  have R_f3 := (R).f 3
  have R_f4 := (R).f 4
  have R_f5 := (R).f 5
  go_wp2_with fail
  refine bodyPost_ret (v := .tuple #[.agg #[.bool rl.neg, .slice p2 (dig B32 rl.m).length c2, .int .i64 rl.e, .bool rh.neg, .slice q2 (dig B32 rh.m).length d2, .int .i64 rh.e], .int .i64 er]) (by simp [results, Tryd.results32, go_sem, R_0, R_1, R_2, R_3, R_4, R_5]) rfl ?_
  exact givesBE_put hs2 (ho2.mono hs1.size) (hq2.mono hs1.size) (by omega) RT

set_option maxHeartbeats 2000000 in
set_option maxRecDepth 100000 in
theorem bMul_any (a b a' b' : Din) (n : Int) (w : World) (ha : InD w a) (hb : InD w b) (ha' : InD w a') (hb' : InD w b') (hT : TabW w) :
    Calls Tryd.prog 31 #[.agg #[.bool a.g, .slice a.p a.xs.length a.c, .int .i64 a.e, .bool b.g, .slice b.p b.xs.length b.c, .int .i64 b.e], .agg #[.bool a'.g, .slice a'.p a'.xs.length a'.c, .int .i64 a'.e, .bool b'.g, .slice b'.p b'.xs.length b'.c, .int .i64 b'.e], .int .i64 n] w (GivesBE w w.heap.size (twoL n [(a, b), (a', b')] (timesL (dyV a) (dyV b) (dyV a') (dyV b') n) (timesH (dyV a) (dyV b) (dyV a') (dyV b') n))
      (twoH n [(a, b), (a', b')] (timesL (dyV a) (dyV b) (dyV a') (dyV b') n) (timesH (dyV a) (dyV b) (dyV a') (dyV b') n)) (twoE n [(a, b), (a', b')] (timesL (dyV a) (dyV b) (dyV a') (dyV b') n) (timesH (dyV a) (dyV b) (dyV a') (dyV b') n))) := by
  have HT := fun W k1 k2 k3 k4 k5 => Lib.hid (twoTimes_any a b a' b' n (timesL (dyV a) (dyV b) (dyV a') (dyV b') n) (timesH (dyV a) (dyV b) (dyV a') (dyV b') n) W k1 k2 k3 k4 k5 (fun h => by
    obtain ⟨e1, e2, e3, e4⟩ := errC_ok2 h
    obtain ⟨q1, q2, -⟩ := errBall_ok e1
    obtain ⟨q3, q4, -⟩ := errBall_ok e2
    refine ⟨timesL_len (dyV_smD ha q1) (dyV_smD hb q2) (dyV_smD ha' q3) (dyV_smD hb' q4), timesH_len (dyV_smD ha q1) (dyV_smD hb q2) (dyV_smD ha' q3) (dyV_smD hb' q4), ?_⟩
    intro V al ah bl bh v1 v2 v3 v4 s1 s2 s3 s4 base i1 i2 i3 i4 iT ib
    have hn : n = ((n.toNat : Nat) : Int) := by omega
    rw [← v1, ← v2, ← v3, ← v4, hn]
    have h5 : n.toNat ≤ 5000 := by omega
    unfold timesL timesH
    rw [Int.toNat_natCast]
    exact timesB_any al ah bl bh n.toNat base V i1 i2 i3 i4 s1 s2 s3 s4 h5 iT ib))
  generalize twoL n [(a, b), (a', b')] (timesL (dyV a) (dyV b) (dyV a') (dyV b') n) (timesH (dyV a) (dyV b) (dyV a') (dyV b') n) = rl at *
  generalize twoH n [(a, b), (a', b')] (timesL (dyV a) (dyV b) (dyV a') (dyV b') n) (timesH (dyV a) (dyV b) (dyV a') (dyV b') n) = rh at *
  generalize twoE n [(a, b), (a', b')] (timesL (dyV a) (dyV b) (dyV a') (dyV b') n) (timesH (dyV a) (dyV b) (dyV a') (dyV b') n) = er at *
  go_enter Tryd.func31, Tryd.ntmps31
  go_upto_region 1 with (fail)
  refine wp_layT3 (fun W1 hs1 hz1 A B R RT => ?_)
  obtain ⟨A_0, A_1, A_2, A_3, A_4, A_5⟩ := (A).e6
  have A_f0 := (A).f 0
  have A_f1 := (A).f 1
  have A_f2 := (A).f 2
  have A_f3 := (A).f 3
  have A_f4 := (A).f 4
  have A_f5 := (A).f 5
  obtain ⟨B_0, B_1, B_2, B_3, B_4, B_5⟩ := (B).e6
  have B_f0 := (B).f 0
  have B_f1 := (B).f 1
  have B_f2 := (B).f 2
  have B_f3 := (B).f 3
  have B_f4 := (B).f 4
  have B_f5 := (B).f 5
  go_wp2_with fail
  ((with_reducible refine (HT _ (ha.past hs1) (hb.past hs1) (ha'.past hs1) (hb'.past hs1) (hT.past hs1)).out.mono ?_))
  clear A_0 A_1 A_2 A_3 A_4 A_5 B_0 B_1 B_2 B_3 B_4 B_5
  rintro e2 w2 ⟨p2, c2, q2, d2, rfl, ho2, hq2, hb2⟩
  have hs2 := hs1.trans (hb2.mono hs1.size)
  replace R := R.past hb2
  replace RT := RT.past hb2
  obtain ⟨R_0, R_1, R_2, R_3, R_4, R_5⟩ := (R).e6
  have R_f0 := (R).f 0
  have R_f1 := (R).f 1
  have R_f2 := (R).f 2
  have R_f3 := (R).f 3
  have R_f4 := (R).f 4
  have R_f5 := (R).f 5
  go_wp2_with fail
  refine bodyPost_ret (v := .tuple #[.agg #[.bool rl.neg, .slice p2 (dig B32 rl.m).length c2, .int .i64 rl.e, .bool rh.neg, .slice q2 (dig B32 rh.m).length d2, .int .i64 rh.e], .int .i64 er]) (by simp [results, Tryd.results31, go_sem, R_0, R_1, R_2, R_3, R_4, R_5]) rfl ?_
  exact givesBE_put hs2 (ho2.mono hs1.size) (hq2.mono hs1.size) (by omega) RT

end Go.Proofs.YtehodhanojgkgaaDoor
