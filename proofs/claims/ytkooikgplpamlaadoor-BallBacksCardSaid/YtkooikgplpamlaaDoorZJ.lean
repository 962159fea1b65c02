/- ball: Add, Mul, Join, Sub.
   ball: Div. -/
import Derived.Test.YtkooikgplpamlaaDoorZBall12
namespace Go.Slip

/-- Ends of a sum, a product, a join, a difference. -/
def plusL (a b a' b' : Dv) (n : Int) : Dv := pCut (lowD (pPlus a a') [pPlus b b']) n.toNat false
def plusH (a b a' b' : Dv) (n : Int) : Dv := pCut (highD (pPlus a a') [pPlus b b']) n.toNat true
def timesL (a b a' b' : Dv) (n : Int) : Dv := pCut (lowD (dTimes a a') [dTimes a b', dTimes b a', dTimes b b']) n.toNat false
def timesH (a b a' b' : Dv) (n : Int) : Dv := pCut (highD (dTimes a a') [dTimes a b', dTimes b a', dTimes b b']) n.toNat true
def joinL (a b a' b' : Dv) (n : Int) : Dv := pCut (lowD a [b, a', b']) n.toNat false
def joinH (a b a' b' : Dv) (n : Int) : Dv := pCut (highD a [b, a', b']) n.toNat true
def subL (a b a' b' : Dv) (n : Int) : Dv := pCut (lowD (pPlus a (dMinus b')) [pPlus b (dMinus a')]) n.toNat false
def subH (a b a' b' : Dv) (n : Int) : Dv := pCut (highD (pPlus a (dMinus b')) [pPlus b (dMinus a')]) n.toNat true

theorem cut_len (a : Dv) (b : Nat) (up : Bool) {n : Nat} (h : (dig B32 a.m).length ≤ n) : (dig B32 (pCut a b up).m).length ≤ n + 2 := by
  unfold pCut
  split
  · omega
  · refine Nat.le_trans (bare_len B32_two _) ?_
    refine Nat.le_trans (dig_len_add B32_two _ _) ?_
    have h5 := dig_len_mono B32_two (Nat.div_le_self a.m (2 ^ (blen a.m - b)))
    have h6 : (dig B32 (if up ≠ a.neg then 1 else 0)).length ≤ 1 := (dig_len_le B32_two _ 1).2 (by split <;> decide)
    omega

theorem low_len {n : Nat} {a : Dv} {l : List Dv} (h0 : (dig B32 a.m).length ≤ n) (h : ∀ x ∈ l, (dig B32 x.m).length ≤ n) : (dig B32 (lowD a l).m).length ≤ n := by
  rcases low_mem l a with h1 | h1
  · rw [h1]; exact h0
  · exact h _ h1
theorem high_len {n : Nat} {a : Dv} {l : List Dv} (h0 : (dig B32 a.m).length ≤ n) (h : ∀ x ∈ l, (dig B32 x.m).length ≤ n) : (dig B32 (highD a l).m).length ≤ n := by
  rcases high_mem l a with h1 | h1
  · rw [h1]; exact h0
  · exact h _ h1

/-- Small enough. -/
structure SmD (a : Dv) : Prop where
  len : (dig B32 a.m).length ≤ 1300
  lo : -100000 ≤ a.e
  hi : a.e ≤ 100000

theorem SmD.opp {a : Dv} (h : SmD a) : SmD (dMinus a) := ⟨h.len, h.lo, h.hi⟩
theorem plus_len {a b : Dv} (ha : SmD a) (hb : SmD b) : (dig B32 (pPlus a b).m).length ≤ 16000 := (pPlus_bd ha.len hb.len ha.lo ha.hi hb.lo hb.hi).1
theorem times_len {a b : Dv} (ha : SmD a) (hb : SmD b) : (dig B32 (dTimes a b).m).length ≤ 16000 := by
  have := (dTimes_bd ha.len hb.len ha.lo ha.hi hb.lo hb.hi).1
  omega

theorem one_of {P : Dv → Prop} {x : Dv} (h : P x) : ∀ y ∈ [x], P y := by simpa using h
theorem three_of {P : Dv → Prop} {x y z : Dv} (h : P x) (k : P y) (m : P z) : ∀ t ∈ [x, y, z], P t := by
  intro t ht
  simp only [List.mem_cons, List.not_mem_nil, or_false] at ht
  rcases ht with rfl | rfl | rfl <;> assumption

theorem plusL_len {a b a' b' : Dv} {n : Int} (h1 : SmD a) (h2 : SmD b) (h3 : SmD a') (h4 : SmD b') : (dig B32 (plusL a b a' b' n).m).length ≤ 1000000 :=
  Nat.le_trans (cut_len _ _ _ (low_len (plus_len h1 h3) (one_of (plus_len h2 h4)))) (by omega)
theorem plusH_len {a b a' b' : Dv} {n : Int} (h1 : SmD a) (h2 : SmD b) (h3 : SmD a') (h4 : SmD b') : (dig B32 (plusH a b a' b' n).m).length ≤ 1000000 :=
  Nat.le_trans (cut_len _ _ _ (high_len (plus_len h1 h3) (one_of (plus_len h2 h4)))) (by omega)
theorem subL_len {a b a' b' : Dv} {n : Int} (h1 : SmD a) (h2 : SmD b) (h3 : SmD a') (h4 : SmD b') : (dig B32 (subL a b a' b' n).m).length ≤ 1000000 :=
  Nat.le_trans (cut_len _ _ _ (low_len (plus_len h1 h4.opp) (one_of (plus_len h2 h3.opp)))) (by omega)
theorem subH_len {a b a' b' : Dv} {n : Int} (h1 : SmD a) (h2 : SmD b) (h3 : SmD a') (h4 : SmD b') : (dig B32 (subH a b a' b' n).m).length ≤ 1000000 :=
  Nat.le_trans (cut_len _ _ _ (high_len (plus_len h1 h4.opp) (one_of (plus_len h2 h3.opp)))) (by omega)
theorem timesL_len {a b a' b' : Dv} {n : Int} (h1 : SmD a) (h2 : SmD b) (h3 : SmD a') (h4 : SmD b') : (dig B32 (timesL a b a' b' n).m).length ≤ 1000000 :=
  Nat.le_trans (cut_len _ _ _ (low_len (times_len h1 h3) (three_of (P := fun d => (dig B32 d.m).length ≤ 16000) (times_len h1 h4) (times_len h2 h3) (times_len h2 h4)))) (by omega)
theorem timesH_len {a b a' b' : Dv} {n : Int} (h1 : SmD a) (h2 : SmD b) (h3 : SmD a') (h4 : SmD b') : (dig B32 (timesH a b a' b' n).m).length ≤ 1000000 :=
  Nat.le_trans (cut_len _ _ _ (high_len (times_len h1 h3) (three_of (P := fun d => (dig B32 d.m).length ≤ 16000) (times_len h1 h4) (times_len h2 h3) (times_len h2 h4)))) (by omega)
theorem joinL_len {a b a' b' : Dv} {n : Int} (h1 : SmD a) (h2 : SmD b) (h3 : SmD a') (h4 : SmD b') : (dig B32 (joinL a b a' b' n).m).length ≤ 1000000 :=
  Nat.le_trans (cut_len _ _ _ (low_len h1.len (three_of (P := fun d => (dig B32 d.m).length ≤ 1300) h2.len h3.len h4.len))) (by omega)
theorem joinH_len {a b a' b' : Dv} {n : Int} (h1 : SmD a) (h2 : SmD b) (h3 : SmD a') (h4 : SmD b') : (dig B32 (joinH a b a' b' n).m).length ≤ 1000000 :=
  Nat.le_trans (cut_len _ _ _ (high_len h1.len (three_of (P := fun d => (dig B32 d.m).length ≤ 1300) h2.len h3.len h4.len))) (by omega)

end Go.Slip
namespace Go.Proofs.YtkooikgplpamlaaDoor
open Go.RowKit Go.Slip

theorem dyV_smD {w : World} {a : Din} (h : InD w a) (he : errDy a = 0) : SmD (dyV a) := by
  obtain ⟨h1, h2, h3⟩ := dyV_bd h he
  exact ⟨by omega, by omega, by omega⟩


set_option maxHeartbeats 2000000 in
set_option maxRecDepth 100000 in
theorem bAdd_any (a b a' b' : Din) (n : Int) (w : World) (ha : InD w a) (hb : InD w b) (ha' : InD w a') (hb' : InD w b') (hT : TabW w) :
    Calls Tryd.prog 31 #[.agg #[.bool a.g, .slice a.p a.xs.length a.c, .int .i64 a.e, .bool b.g, .slice b.p b.xs.length b.c, .int .i64 b.e], .agg #[.bool a'.g, .slice a'.p a'.xs.length a'.c, .int .i64 a'.e, .bool b'.g, .slice b'.p b'.xs.length b'.c, .int .i64 b'.e], .int .i64 n] w (GivesBE w w.heap.size (twoL n [(a, b), (a', b')] (plusL (dyV a) (dyV b) (dyV a') (dyV b') n) (plusH (dyV a) (dyV b) (dyV a') (dyV b') n))
      (twoH n [(a, b), (a', b')] (plusL (dyV a) (dyV b) (dyV a') (dyV b') n) (plusH (dyV a) (dyV b) (dyV a') (dyV b') n)) (twoE n [(a, b), (a', b')] (plusL (dyV a) (dyV b) (dyV a') (dyV b') n) (plusH (dyV a) (dyV b) (dyV a') (dyV b') n))) := by
  have HT := fun W k1 k2 k3 k4 k5 => Lib.hid (twoPlus_any a b a' b' n (plusL (dyV a) (dyV b) (dyV a') (dyV b') n) (plusH (dyV a) (dyV b) (dyV a') (dyV b') n) W k1 k2 k3 k4 k5 (fun h => by
    obtain ⟨e1, e2, e3, e4⟩ := errC_ok2 h
    obtain ⟨q1, q2, -⟩ := errBall_ok e1
    obtain ⟨q3, q4, -⟩ := errBall_ok e2
    refine ⟨plusL_len (dyV_smD ha q1) (dyV_smD hb q2) (dyV_smD ha' q3) (dyV_smD hb' q4), plusH_len (dyV_smD ha q1) (dyV_smD hb q2) (dyV_smD ha' q3) (dyV_smD hb' q4), ?_⟩
    intro V al ah bl bh v1 v2 v3 v4 s1 s2 s3 s4 base i1 i2 i3 i4 iT ib
    have hn : n = ((n.toNat : Nat) : Int) := by omega
    rw [← v1, ← v2, ← v3, ← v4, hn]
    have h5 : n.toNat ≤ 5000 := by omega
    unfold plusL plusH
    rw [Int.toNat_natCast]
    exact plusB_any al ah bl bh n.toNat base V i1 i2 i3 i4 s1 s2 s3 s4 h5 iT ib))
  generalize twoL n [(a, b), (a', b')] (plusL (dyV a) (dyV b) (dyV a') (dyV b') n) (plusH (dyV a) (dyV b) (dyV a') (dyV b') n) = rl at *
  generalize twoH n [(a, b), (a', b')] (plusL (dyV a) (dyV b) (dyV a') (dyV b') n) (plusH (dyV a) (dyV b) (dyV a') (dyV b') n) = rh at *
  generalize twoE n [(a, b), (a', b')] (plusL (dyV a) (dyV b) (dyV a') (dyV b') n) (plusH (dyV a) (dyV b) (dyV a') (dyV b') n) = er at *
  go_enter Tryd.func31, Tryd.ntmps31
  go_upto_region 1 with (fail)
  refine wp_layT3 (fun W1 hs1 hz1 A B R RT => ?_)
  obtain ⟨A_0, A_1, A_2, A_3, A_4, A_5⟩ := (A).e6
  have A_f0 := (A).f 0
  have A_f1 := (A).f 1
  have A_f2 := (A).f 2
  have A_f3 := (A).f 3
  have A_f4 := (A).f 4
  have A_f5 := (A).f 5
  obtain ⟨B_0, B_1, B_2, B_3, B_4, B_5⟩ := (B).e6
  have B_f0 := (B).f 0
  have B_f1 := (B).f 1
  have B_f2 := (B).f 2
  have B_f3 := (B).f 3
  have B_f4 := (B).f 4
  have B_f5 := (B).f 5
  go_wp2_with fail
  ((with_reducible refine (HT _ (ha.past hs1) (hb.past hs1) (ha'.past hs1) (hb'.past hs1) (hT.past hs1)).out.mono ?_))
  clear A_0 A_1 A_2 A_3 A_4 A_5 B_0 B_1 B_2 B_3 B_4 B_5
  rintro e2 w2 ⟨p2, c2, q2, d2, rfl, ho2, hq2, hb2⟩
  have hs2 := hs1.trans (hb2.mono hs1.size)
  replace R := R.past hb2
  replace RT := RT.past hb2
  obtain ⟨R_0, R_1, R_2, R_3, R_4, R_5⟩ := (R).e6
  have R_f0 := (R).f 0
  have R_f1 := (R).f 1
  have R_f2 := (R).f 2
  have R_f3 := (R).f 3
  have R_f4 := (R).f 4
  have R_f5 := (R).f 5
  go_wp2_with fail
  refine bodyPost_ret (v := .tuple #[.agg #[.bool rl.neg, .slice p2 (dig B32 rl.m).length c2, .int .i64 rl.e, .bool rh.neg, .slice q2 (dig B32 rh.m).length d2, .int .i64 rh.e], .int .i64 er]) (by simp [results, Tryd.results31, go_sem, R_0, R_1, R_2, R_3, R_4, R_5]) rfl ?_
  exact givesBE_put hs2 (ho2.mono hs1.size) (hq2.mono hs1.size) (by omega) RT

set_option maxHeartbeats 2000000 in
set_option maxRecDepth 100000 in
theorem bMul_any (a b a' b' : Din) (n : Int) (w : World) (ha : InD w a) (hb : InD w b) (ha' : InD w a') (hb' : InD w b') (hT : TabW w) :
    Calls Tryd.prog 29 #[.agg #[.bool a.g, .slice a.p a.xs.length a.c, .int .i64 a.e, .bool b.g, .slice b.p b.xs.length b.c, .int .i64 b.e], .agg #[.bool a'.g, .slice a'.p a'.xs.length a'.c, .int .i64 a'.e, .bool b'.g, .slice b'.p b'.xs.length b'.c, .int .i64 b'.e], .int .i64 n] w (GivesBE w w.heap.size (twoL n [(a, b), (a', b')] (timesL (dyV a) (dyV b) (dyV a') (dyV b') n) (timesH (dyV a) (dyV b) (dyV a') (dyV b') n))
      (twoH n [(a, b), (a', b')] (timesL (dyV a) (dyV b) (dyV a') (dyV b') n) (timesH (dyV a) (dyV b) (dyV a') (dyV b') n)) (twoE n [(a, b), (a', b')] (timesL (dyV a) (dyV b) (dyV a') (dyV b') n) (timesH (dyV a) (dyV b) (dyV a') (dyV b') n))) := by
  have HT := fun W k1 k2 k3 k4 k5 => Lib.hid (twoTimes_any a b a' b' n (timesL (dyV a) (dyV b) (dyV a') (dyV b') n) (timesH (dyV a) (dyV b) (dyV a') (dyV b') n) W k1 k2 k3 k4 k5 (fun h => by
    obtain ⟨e1, e2, e3, e4⟩ := errC_ok2 h
    obtain ⟨q1, q2, -⟩ := errBall_ok e1
    obtain ⟨q3, q4, -⟩ := errBall_ok e2
    refine ⟨timesL_len (dyV_smD ha q1) (dyV_smD hb q2) (dyV_smD ha' q3) (dyV_smD hb' q4), timesH_len (dyV_smD ha q1) (dyV_smD hb q2) (dyV_smD ha' q3) (dyV_smD hb' q4), ?_⟩
    intro V al ah bl bh v1 v2 v3 v4 s1 s2 s3 s4 base i1 i2 i3 i4 iT ib
    have hn : n = ((n.toNat : Nat) : Int) := by omega
    rw [← v1, ← v2, ← v3, ← v4, hn]
    have h5 : n.toNat ≤ 5000 := by omega
    unfold timesL timesH
    rw [Int.toNat_natCast]
    exact timesB_any al ah bl bh n.toNat base V i1 i2 i3 i4 s1 s2 s3 s4 h5 iT ib))
  generalize twoL n [(a, b), (a', b')] (timesL (dyV a) (dyV b) (dyV a') (dyV b') n) (timesH (dyV a) (dyV b) (dyV a') (dyV b') n) = rl at *
  generalize twoH n [(a, b), (a', b')] (timesL (dyV a) (dyV b) (dyV a') (dyV b') n) (timesH (dyV a) (dyV b) (dyV a') (dyV b') n) = rh at *
  generalize twoE n [(a, b), (a', b')] (timesL (dyV a) (dyV b) (dyV a') (dyV b') n) (timesH (dyV a) (dyV b) (dyV a') (dyV b') n) = er at *
  go_enter Tryd.func29, Tryd.ntmps29
  go_upto_region 1 with (fail)
  refine wp_layT3 (fun W1 hs1 hz1 A B R RT => ?_)
  obtain ⟨A_0, A_1, A_2, A_3, A_4, A_5⟩ := (A).e6
  have A_f0 := (A).f 0
  have A_f1 := (A).f 1
  have A_f2 := (A).f 2
  have A_f3 := (A).f 3
  have A_f4 := (A).f 4
  have A_f5 := (A).f 5
  obtain ⟨B_0, B_1, B_2, B_3, B_4, B_5⟩ := (B).e6
  have B_f0 := (B).f 0
  have B_f1 := (B).f 1
  have B_f2 := (B).f 2
  have B_f3 := (B).f 3
  have B_f4 := (B).f 4
  have B_f5 := (B).f 5
  go_wp2_with fail
  ((with_reducible refine (HT _ (ha.past hs1) (hb.past hs1) (ha'.past hs1) (hb'.past hs1) (hT.past hs1)).out.mono ?_))
  clear A_0 A_1 A_2 A_3 A_4 A_5 B_0 B_1 B_2 B_3 B_4 B_5
  rintro e2 w2 ⟨p2, c2, q2, d2, rfl, ho2, hq2, hb2⟩
  have hs2 := hs1.trans (hb2.mono hs1.size)
  replace R := R.past hb2
  replace RT := RT.past hb2
  obtain ⟨R_0, R_1, R_2, R_3, R_4, R_5⟩ := (R).e6
  have R_f0 := (R).f 0
  have R_f1 := (R).f 1
  have R_f2 := (R).f 2
  have R_f3 := (R).f 3
  have R_f4 := (R).f 4
  have R_f5 := (R).f 5
  go_wp2_with fail
  refine bodyPost_ret (v := .tuple #[.agg #[.bool rl.neg, .slice p2 (dig B32 rl.m).length c2, .int .i64 rl.e, .bool rh.neg, .slice q2 (dig B32 rh.m).length d2, .int .i64 rh.e], .int .i64 er]) (by simp [results, Tryd.results29, go_sem, R_0, R_1, R_2, R_3, R_4, R_5]) rfl ?_
  exact givesBE_put hs2 (ho2.mono hs1.size) (hq2.mono hs1.size) (by omega) RT

set_option maxHeartbeats 2000000 in
set_option maxRecDepth 100000 in
theorem bJoin_any (a b a' b' : Din) (n : Int) (w : World) (ha : InD w a) (hb : InD w b) (ha' : InD w a') (hb' : InD w b') (hT : TabW w) :
    Calls Tryd.prog 24 #[.agg #[.bool a.g, .slice a.p a.xs.length a.c, .int .i64 a.e, .bool b.g, .slice b.p b.xs.length b.c, .int .i64 b.e], .agg #[.bool a'.g, .slice a'.p a'.xs.length a'.c, .int .i64 a'.e, .bool b'.g, .slice b'.p b'.xs.length b'.c, .int .i64 b'.e], .int .i64 n] w (GivesBE w w.heap.size (twoL n [(a, b), (a', b')] (joinL (dyV a) (dyV b) (dyV a') (dyV b') n) (joinH (dyV a) (dyV b) (dyV a') (dyV b') n))
      (twoH n [(a, b), (a', b')] (joinL (dyV a) (dyV b) (dyV a') (dyV b') n) (joinH (dyV a) (dyV b) (dyV a') (dyV b') n)) (twoE n [(a, b), (a', b')] (joinL (dyV a) (dyV b) (dyV a') (dyV b') n) (joinH (dyV a) (dyV b) (dyV a') (dyV b') n))) := by
  have HT := fun W k1 k2 k3 k4 k5 => Lib.hid (twoJoin_any a b a' b' n (joinL (dyV a) (dyV b) (dyV a') (dyV b') n) (joinH (dyV a) (dyV b) (dyV a') (dyV b') n) W k1 k2 k3 k4 k5 (fun h => by
    obtain ⟨e1, e2, e3, e4⟩ := errC_ok2 h
    obtain ⟨q1, q2, -⟩ := errBall_ok e1
    obtain ⟨q3, q4, -⟩ := errBall_ok e2
    refine ⟨joinL_len (dyV_smD ha q1) (dyV_smD hb q2) (dyV_smD ha' q3) (dyV_smD hb' q4), joinH_len (dyV_smD ha q1) (dyV_smD hb q2) (dyV_smD ha' q3) (dyV_smD hb' q4), ?_⟩
    intro V al ah bl bh v1 v2 v3 v4 s1 s2 s3 s4 base i1 i2 i3 i4 iT ib
    have hn : n = ((n.toNat : Nat) : Int) := by omega
    rw [← v1, ← v2, ← v3, ← v4, hn]
    have h5 : n.toNat ≤ 5000 := by omega
    unfold joinL joinH
    rw [Int.toNat_natCast]
    exact joinB_any al ah bl bh n.toNat base V i1 i2 i3 i4  h5 iT ib))
  generalize twoL n [(a, b), (a', b')] (joinL (dyV a) (dyV b) (dyV a') (dyV b') n) (joinH (dyV a) (dyV b) (dyV a') (dyV b') n) = rl at *
  generalize twoH n [(a, b), (a', b')] (joinL (dyV a) (dyV b) (dyV a') (dyV b') n) (joinH (dyV a) (dyV b) (dyV a') (dyV b') n) = rh at *
  generalize twoE n [(a, b), (a', b')] (joinL (dyV a) (dyV b) (dyV a') (dyV b') n) (joinH (dyV a) (dyV b) (dyV a') (dyV b') n) = er at *
  go_enter Tryd.func24, Tryd.ntmps24
  go_upto_region 1 with (fail)
  refine wp_layT3 (fun W1 hs1 hz1 A B R RT => ?_)
  obtain ⟨A_0, A_1, A_2, A_3, A_4, A_5⟩ := (A).e6
  have A_f0 := (A).f 0
  have A_f1 := (A).f 1
  have A_f2 := (A).f 2
  have A_f3 := (A).f 3
  have A_f4 := (A).f 4
  have A_f5 := (A).f 5
  obtain ⟨B_0, B_1, B_2, B_3, B_4, B_5⟩ := (B).e6
  have B_f0 := (B).f 0
  have B_f1 := (B).f 1
  have B_f2 := (B).f 2
  have B_f3 := (B).f 3
  have B_f4 := (B).f 4
  have B_f5 := (B).f 5
  go_wp2_with fail
  ((with_reducible refine (HT _ (ha.past hs1) (hb.past hs1) (ha'.past hs1) (hb'.past hs1) (hT.past hs1)).out.mono ?_))
  clear A_0 A_1 A_2 A_3 A_4 A_5 B_0 B_1 B_2 B_3 B_4 B_5
  rintro e2 w2 ⟨p2, c2, q2, d2, rfl, ho2, hq2, hb2⟩
  have hs2 := hs1.trans (hb2.mono hs1.size)
  replace R := R.past hb2
  replace RT := RT.past hb2
  obtain ⟨R_0, R_1, R_2, R_3, R_4, R_5⟩ := (R).e6
  have R_f0 := (R).f 0
  have R_f1 := (R).f 1
  have R_f2 := (R).f 2
  have R_f3 := (R).f 3
  have R_f4 := (R).f 4
  have R_f5 := (R).f 5
  go_wp2_with fail
  refine bodyPost_ret (v := .tuple #[.agg #[.bool rl.neg, .slice p2 (dig B32 rl.m).length c2, .int .i64 rl.e, .bool rh.neg, .slice q2 (dig B32 rh.m).length d2, .int .i64 rh.e], .int .i64 er]) (by simp [results, Tryd.results24, go_sem, R_0, R_1, R_2, R_3, R_4, R_5]) rfl ?_
  exact givesBE_put hs2 (ho2.mono hs1.size) (hq2.mono hs1.size) (by omega) RT

set_option maxHeartbeats 2000000 in
set_option maxRecDepth 100000 in
theorem bSub_any (a b a' b' : Din) (n : Int) (w : World) (ha : InD w a) (hb : InD w b) (ha' : InD w a') (hb' : InD w b') (hT : TabW w) :
    Calls Tryd.prog 33 #[.agg #[.bool a.g, .slice a.p a.xs.length a.c, .int .i64 a.e, .bool b.g, .slice b.p b.xs.length b.c, .int .i64 b.e], .agg #[.bool a'.g, .slice a'.p a'.xs.length a'.c, .int .i64 a'.e, .bool b'.g, .slice b'.p b'.xs.length b'.c, .int .i64 b'.e], .int .i64 n] w (GivesBE w w.heap.size (twoL n [(a, b), (a', b')] (subL (dyV a) (dyV b) (dyV a') (dyV b') n) (subH (dyV a) (dyV b) (dyV a') (dyV b') n))
      (twoH n [(a, b), (a', b')] (subL (dyV a) (dyV b) (dyV a') (dyV b') n) (subH (dyV a) (dyV b) (dyV a') (dyV b') n)) (twoE n [(a, b), (a', b')] (subL (dyV a) (dyV b) (dyV a') (dyV b') n) (subH (dyV a) (dyV b) (dyV a') (dyV b') n))) := by
  have HT := fun W k1 k2 k3 k4 k5 => Lib.hid (twoSub_any a b a' b' n (subL (dyV a) (dyV b) (dyV a') (dyV b') n) (subH (dyV a) (dyV b) (dyV a') (dyV b') n) W k1 k2 k3 k4 k5 (fun h => by
    obtain ⟨e1, e2, e3, e4⟩ := errC_ok2 h
    obtain ⟨q1, q2, -⟩ := errBall_ok e1
    obtain ⟨q3, q4, -⟩ := errBall_ok e2
    refine ⟨subL_len (dyV_smD ha q1) (dyV_smD hb q2) (dyV_smD ha' q3) (dyV_smD hb' q4), subH_len (dyV_smD ha q1) (dyV_smD hb q2) (dyV_smD ha' q3) (dyV_smD hb' q4), ?_⟩
    intro V al ah bl bh v1 v2 v3 v4 s1 s2 s3 s4 base i1 i2 i3 i4 iT ib
    have hn : n = ((n.toNat : Nat) : Int) := by omega
    rw [← v1, ← v2, ← v3, ← v4, hn]
    have h5 : n.toNat ≤ 5000 := by omega
    unfold subL subH
    rw [Int.toNat_natCast]
    exact subB_any al ah bl bh n.toNat base V i1 i2 i3 i4 s1 s2 s3 s4 h5 iT ib))
  generalize twoL n [(a, b), (a', b')] (subL (dyV a) (dyV b) (dyV a') (dyV b') n) (subH (dyV a) (dyV b) (dyV a') (dyV b') n) = rl at *
  generalize twoH n [(a, b), (a', b')] (subL (dyV a) (dyV b) (dyV a') (dyV b') n) (subH (dyV a) (dyV b) (dyV a') (dyV b') n) = rh at *
  generalize twoE n [(a, b), (a', b')] (subL (dyV a) (dyV b) (dyV a') (dyV b') n) (subH (dyV a) (dyV b) (dyV a') (dyV b') n) = er at *
  go_enter Tryd.func33, Tryd.ntmps33
  go_upto_region 1 with (fail)
  refine wp_layT3 (fun W1 hs1 hz1 A B R RT => ?_)
  obtain ⟨A_0, A_1, A_2, A_3, A_4, A_5⟩ := (A).e6
  have A_f0 := (A).f 0
  have A_f1 := (A).f 1
  have A_f2 := (A).f 2
  have A_f3 := (A).f 3
  have A_f4 := (A).f 4
  have A_f5 := (A).f 5
  obtain ⟨B_0, B_1, B_2, B_3, B_4, B_5⟩ := (B).e6
  have B_f0 := (B).f 0
  have B_f1 := (B).f 1
  have B_f2 := (B).f 2
  have B_f3 := (B).f 3
  have B_f4 := (B).f 4
  have B_f5 := (B).f 5
  go_wp2_with fail
  ((with_reducible refine (HT _ (ha.past hs1) (hb.past hs1) (ha'.past hs1) (hb'.past hs1) (hT.past hs1)).out.mono ?_))
  clear A_0 A_1 A_2 A_3 A_4 A_5 B_0 B_1 B_2 B_3 B_4 B_5
  rintro e2 w2 ⟨p2, c2, q2, d2, rfl, ho2, hq2, hb2⟩
  have hs2 := hs1.trans (hb2.mono hs1.size)
  replace R := R.past hb2
  replace RT := RT.past hb2
  obtain ⟨R_0, R_1, R_2, R_3, R_4, R_5⟩ := (R).e6
  have R_f0 := (R).f 0
  have R_f1 := (R).f 1
  have R_f2 := (R).f 2
  have R_f3 := (R).f 3
  have R_f4 := (R).f 4
  have R_f5 := (R).f 5
  go_wp2_with fail
  refine bodyPost_ret (v := .tuple #[.agg #[.bool rl.neg, .slice p2 (dig B32 rl.m).length c2, .int .i64 rl.e, .bool rh.neg, .slice q2 (dig B32 rh.m).length d2, .int .i64 rh.e], .int .i64 er]) (by simp [results, Tryd.results33, go_sem, R_0, R_1, R_2, R_3, R_4, R_5]) rfl ?_
  exact givesBE_put hs2 (ho2.mono hs1.size) (hq2.mono hs1.size) (by omega) RT

end Go.Proofs.YtkooikgplpamlaaDoor

namespace Go.Slip

theorem zOf_sign (a : Dv) (e : Int) : Int.sign (zOf a e) = dSign a := by
  have hp := Nat.pow_pos (n := (a.e - e).toNat) (show 0 < 2 by omega)
  unfold zOf dSign sg
  by_cases h0 : a.m = 0
  · rw [if_pos h0, h0, Nat.zero_mul]; cases a.neg <;> rfl
  · have hm : 0 < a.m * 2 ^ (a.e - e).toNat := Nat.mul_pos (by omega) hp
    rw [if_neg h0]
    cases a.neg
    · simp only [Bool.false_eq_true, if_false]; exact Int.sign_eq_one_of_pos (by omega)
    · simp only [if_true]; exact Int.sign_eq_neg_one_of_neg (by omega)

theorem pCmp_le {a b : Dv} (ha : Bare a) (hb : Bare b) (h : pCmp a b ≤ 0) : zOf a (min a.e b.e) ≤ zOf b (min a.e b.e) := by
  rw [rCmp_eq ha hb, rCmp_zOf a b (e := min a.e b.e) (by omega) (by omega), Int.sign_nonpos_iff] at h
  omega

/-- Where 0 is not within, neither end is 0. -/
theorem ends_ne {a b : Dv} (ha : Bare a) (hb : Bare b) (h : pCmp a b ≤ 0) (hs : ¬ (dSign a ≤ 0 ∧ 0 ≤ dSign b)) : 0 < a.m ∧ 0 < b.m := by
  have h1 := pCmp_le ha hb h
  have h2 := zOf_sign a (min a.e b.e)
  have h3 := zOf_sign b (min a.e b.e)
  generalize zOf a (min a.e b.e) = x at *
  generalize zOf b (min a.e b.e) = y at *
  have k1 : a.m = 0 → dSign a = 0 := fun h => by unfold dSign; rw [if_pos h]
  have k2 : b.m = 0 → dSign b = 0 := fun h => by unfold dSign; rw [if_pos h]
  have k3 : dSign a ≤ 0 ↔ x ≤ 0 := by rw [← h2, Int.sign_nonpos_iff]
  have k4 : 0 ≤ dSign b ↔ 0 ≤ y := by rw [← h3, Int.sign_nonneg_iff]
  have k5 : dSign a = 0 → x = 0 := fun h => by rw [h] at h2; exact Int.sign_eq_zero_iff_zero.1 h2
  have k6 : dSign b = 0 → y = 0 := fun h => by rw [h] at h3; exact Int.sign_eq_zero_iff_zero.1 h3
  constructor
  · rcases Nat.eq_zero_or_pos a.m with h | h
    · have := k5 (k1 h); omega
    · exact h
  · rcases Nat.eq_zero_or_pos b.m with h | h
    · have := k6 (k2 h); omega
    · exact h

def overL (a b a' b' : Dv) (n : Int) : Dv := pCut (lowD (pOver a a' n.toNat false) [pOver a b' n.toNat false, pOver b a' n.toNat false, pOver b b' n.toNat false]) n.toNat false
def overH (a b a' b' : Dv) (n : Int) : Dv := pCut (highD (pOver a a' n.toNat true) [pOver a b' n.toNat true, pOver b a' n.toNat true, pOver b b' n.toNat true]) n.toNat true

theorem over_len {a b : Dv} (n : Nat) (up : Bool) (hn : n ≤ 5000) (ha : SmD a) (hb : SmD b) : (dig B32 (pOver a b n up).m).length ≤ 3000 := (pOver_bd n up hn ha.len hb.len ha.lo ha.hi hb.lo hb.hi).1
theorem overL_len {a b a' b' : Dv} {n : Int} (hn : n ≤ 4096) (h1 : SmD a) (h2 : SmD b) (h3 : SmD a') (h4 : SmD b') : (dig B32 (overL a b a' b' n).m).length ≤ 1000000 := by
  have hk : n.toNat ≤ 5000 := by omega
  exact Nat.le_trans (cut_len _ _ _ (low_len (over_len _ _ hk h1 h3) (three_of (P := fun d => (dig B32 d.m).length ≤ 3000) (over_len _ _ hk h1 h4) (over_len _ _ hk h2 h3) (over_len _ _ hk h2 h4)))) (by omega)
theorem overH_len {a b a' b' : Dv} {n : Int} (hn : n ≤ 4096) (h1 : SmD a) (h2 : SmD b) (h3 : SmD a') (h4 : SmD b') : (dig B32 (overH a b a' b' n).m).length ≤ 1000000 := by
  have hk : n.toNat ≤ 5000 := by omega
  exact Nat.le_trans (cut_len _ _ _ (high_len (over_len _ _ hk h1 h3) (three_of (P := fun d => (dig B32 d.m).length ≤ 3000) (over_len _ _ hk h1 h4) (over_len _ _ hk h2 h3) (over_len _ _ hk h2 h4)))) (by omega)

end Go.Slip
namespace Go.Proofs.YtkooikgplpamlaaDoor
open Go.RowKit Go.Slip

/-- What is wrong with a quotient's ends, ahead of their being told. -/
def divC (n : Int) (a b a' b' : Din) : Int := if errC n [(a, b), (a', b')] = 0 then (if dSign (dyV a') ≤ 0 ∧ 0 ≤ dSign (dyV b') then 5 else 0) else errC n [(a, b), (a', b')]
def divE (n : Int) (a b a' b' : Din) : Int := if divC n a b a' b' = 0 then errB (overL (dyV a) (dyV b) (dyV a') (dyV b') n) (overH (dyV a) (dyV b) (dyV a') (dyV b') n) else divC n a b a' b'
def divL (n : Int) (a b a' b' : Din) : Dv := if divC n a b a' b' = 0 then doneL (overL (dyV a) (dyV b) (dyV a') (dyV b') n) (overH (dyV a) (dyV b) (dyV a') (dyV b') n) else zeroD
def divH (n : Int) (a b a' b' : Din) : Dv := if divC n a b a' b' = 0 then doneH (overL (dyV a) (dyV b) (dyV a') (dyV b') n) (overH (dyV a) (dyV b) (dyV a') (dyV b') n) else zeroD





set_option maxHeartbeats 8000000 in
set_option maxRecDepth 100000 in
theorem bDiv_any (a b a' b' : Din) (n : Int) (w : World) (ha : InD w a) (hb : InD w b) (ha' : InD w a') (hb' : InD w b') (hT : TabW w) :
    Calls Tryd.prog 17 #[.agg #[.bool a.g, .slice a.p a.xs.length a.c, .int .i64 a.e, .bool b.g, .slice b.p b.xs.length b.c, .int .i64 b.e], .agg #[.bool a'.g, .slice a'.p a'.xs.length a'.c, .int .i64 a'.e, .bool b'.g, .slice b'.p b'.xs.length b'.c, .int .i64 b'.e], .int .i64 n] w (GivesBE w w.heap.size (divL n a b a' b') (divH n a b a' b') (divE n a b a' b')) := by
  have HC := fun W k1 k2 k3 k4 k5 => Lib.hid (bcheck2_new n a b a' b' W _ rfl k1 k2 k3 k4 k5)
  have HE := Lib.hid (show divE n a b a' b' = if divC n a b a' b' = 0 then errB (overL (dyV a) (dyV b) (dyV a') (dyV b') n) (overH (dyV a) (dyV b) (dyV a') (dyV b') n) else divC n a b a' b' from rfl)
  have HL := Lib.hid (show divL n a b a' b' = if divC n a b a' b' = 0 then doneL (overL (dyV a) (dyV b) (dyV a') (dyV b') n) (overH (dyV a) (dyV b) (dyV a') (dyV b') n) else zeroD from rfl)
  have HH := Lib.hid (show divH n a b a' b' = if divC n a b a' b' = 0 then doneH (overL (dyV a) (dyV b) (dyV a') (dyV b') n) (overH (dyV a) (dyV b) (dyV a') (dyV b') n) else zeroD from rfl)
  have HD := Lib.hid (show divC n a b a' b' = if errC n [(a, b), (a', b')] = 0 then (if dSign (dyV a') ≤ 0 ∧ 0 ≤ dSign (dyV b') then 5 else 0) else errC n [(a, b), (a', b')] from rfl)
  have HOK := Lib.hid (fun h : errC n [(a, b), (a', b')] = 0 => errC_ok2 h)
  generalize errC n [(a, b), (a', b')] = ec at *
  by_cases h0 : ec = 0
  · obtain ⟨k1, k2, k3, k4⟩ := HOK.out h0
    obtain ⟨q1, q2, -⟩ := errBall_ok k1
    obtain ⟨q3, q4, q5⟩ := errBall_ok k2
    have t1 : (ec == 0) = true := by simpa using h0
    have t2 : (ec != 0) = false := by simpa using h0
    rw [if_pos h0] at HD
    have HNE := Lib.hid (fun h => ends_ne (dyV_bare a') (dyV_bare b') q5 h)
    have hn : n = ((n.toNat : Nat) : Int) := by omega
    have h5 : n.toNat ≤ 5000 := by omega
    have f1 := overL_len (n := n) k4 (dyV_smD ha q1) (dyV_smD hb q2) (dyV_smD ha' q3) (dyV_smD hb' q4)
    have f2 := overH_len (n := n) k4 (dyV_smD ha q1) (dyV_smD hb q2) (dyV_smD ha' q3) (dyV_smD hb' q4)
    have HOA := fun W k1 k2 k3 => Lib.hid (ballOf_any a b W k1 k2 q1 q2 k3)
    have HOB := fun W k1 k2 k3 => Lib.hid (ballOf_any a' b' W k1 k2 q3 q4 k3)
    have HS1 := fun W p c => Lib.hid (show Calls Tryd.prog 54 #[.agg #[.bool (dyV a').neg, .slice p (dig B32 (dyV a').m).length c, .int .i64 (dyV a').e]] W fun en w' => en = .returned (.int .i64 (dSign (dyV a'))) ∧ Below W.heap.size W w' from signW_any ⟨(dyV a').neg, p, c, (dyV a').m, (dyV a').e⟩ W)
    have HS2 := fun W p c => Lib.hid (show Calls Tryd.prog 54 #[.agg #[.bool (dyV b').neg, .slice p (dig B32 (dyV b').m).length c, .int .i64 (dyV b').e]] W fun en w' => en = .returned (.int .i64 (dSign (dyV b'))) ∧ Below W.heap.size W w' from signW_any ⟨(dyV b').neg, p, c, (dyV b').m, (dyV b').e⟩ W)
    have HOV := fun (g1 : 0 < (dyV a').m) (g2 : 0 < (dyV b').m) W p1 c1 p2 c2 p3 c3 p4 c4 base i1 i2 i3 i4 iT ib => Lib.hid (show Calls Tryd.prog 55 #[.agg #[.bool (dyV a).neg, .slice p1 (dig B32 (dyV a).m).length c1, .int .i64 (dyV a).e, .bool (dyV b).neg, .slice p2 (dig B32 (dyV b).m).length c2, .int .i64 (dyV b).e], .agg #[.bool (dyV a').neg, .slice p3 (dig B32 (dyV a').m).length c3, .int .i64 (dyV a').e, .bool (dyV b').neg, .slice p4 (dig B32 (dyV b').m).length c4, .int .i64 (dyV b').e], .int .i64 n] W (GivesB W base (overL (dyV a) (dyV b) (dyV a') (dyV b') n) (overH (dyV a) (dyV b) (dyV a') (dyV b') n)) by
      have h := over_any ⟨(dyV a).neg, p1, c1, (dyV a).m, (dyV a).e⟩ ⟨(dyV b).neg, p2, c2, (dyV b).m, (dyV b).e⟩ ⟨(dyV a').neg, p3, c3, (dyV a').m, (dyV a').e⟩ ⟨(dyV b').neg, p4, c4, (dyV b').m, (dyV b').e⟩ n.toNat base W
        (inW_of i1 (dyV_fit ha q1)) (inW_of i2 (dyV_fit hb q2)) (inW_of i3 (dyV_fit ha' q3)) (inW_of i4 (dyV_fit hb' q4)) (dyV_sm ha q1) (dyV_sm hb q2) (dyV_sm ha' q3) (dyV_sm hb' q4) g1 g2 h5 iT ib
      rw [← hn] at h
      exact h)
    clear k1 k2 q1 q2 q3 q4 q5 hn HOK h0
    generalize overL (dyV a) (dyV b) (dyV a') (dyV b') n = rl at *
    generalize overH (dyV a) (dyV b) (dyV a') (dyV b') n = rh at *
    generalize dyV a = va at *
    generalize dyV b = vb at *
    generalize dyV a' = va' at *
    generalize dyV b' = vb' at *
    obtain ⟨S1, hS1⟩ : ∃ S1, dSign va' = S1 := ⟨_, rfl⟩
    obtain ⟨S2, hS2⟩ : ∃ S2, dSign vb' = S2 := ⟨_, rfl⟩
    rw [hS1, hS2] at HNE
    rw [hS1, hS2] at HD
    rw [hS1] at HS1
    rw [hS2] at HS2
    clear hS1 hS2
    by_cases g1 : S1 ≤ 0
    · have t3 : decide (S1 ≤ 0) = true := decide_eq_true g1
      by_cases g2 : 0 ≤ S2
      · have t4 : decide (0 ≤ S2) = true := decide_eq_true g2
        rw [if_pos ⟨g1, g2⟩] at HD
        rw [HD.out, if_neg (by omega)] at HE HL HH
        clear HNE HOV HOA f1 f2 HD
        go_enter Tryd.func17, Tryd.ntmps17
        go_upto_region 1 with (fail)
        refine wp_layT3 (fun W1 hs1 hz1 A B R RT => ?_)
        replace ha := ha.past hs1
        replace hb := hb.past hs1
        replace ha' := ha'.past hs1
        replace hb' := hb'.past hs1
        replace hT := hT.past hs1
        obtain ⟨A_0, A_1, A_2, A_3, A_4, A_5⟩ := (A).e6
        have A_f0 := (A).f 0
        have A_f1 := (A).f 1
        have A_f2 := (A).f 2
        have A_f3 := (A).f 3
        have A_f4 := (A).f 4
        have A_f5 := (A).f 5
        obtain ⟨B_0, B_1, B_2, B_3, B_4, B_5⟩ := (B).e6
        have B_f0 := (B).f 0
        have B_f1 := (B).f 1
        have B_f2 := (B).f 2
        have B_f3 := (B).f 3
        have B_f4 := (B).f 4
        have B_f5 := (B).f 5
        go_wp2_with fail
        ((with_reducible refine (HC _ ha hb ha' hb' hT).out.mono ?_))
        clear A_0 A_1 A_2 A_3 A_4 A_5 B_0 B_1 B_2 B_3 B_4 B_5
        rintro e2 w2 ⟨rfl, hb2⟩
        replace hb2 : Below W1.heap.size W1 w2 := (below_lay1 W1 _).trans (hb2.mono (by omega))
        have hs2 := hs1.trans (hb2.mono hs1.size)
        replace A := A.past hb2
        replace B := B.past hb2
        replace R := R.past hb2
        replace RT := RT.past hb2
        replace ha := ha.past hb2
        replace hb := hb.past hb2
        replace ha' := ha'.past hb2
        replace hb' := hb'.past hb2
        replace hT := hT.past hb2
        obtain ⟨B_0, B_1, B_2, B_3, B_4, B_5⟩ := B.e6
        go_wp2_with fail
        clear B_0 B_1 B_2 B_3 B_4 B_5
        ((with_reducible refine ((HOB _ ha' hb' hT).out).mono ?_))
        rintro e3 w3 ⟨p3, c3, q3, d3, rfl, ho3, hq3, hb3⟩
        replace A := A.past hb3
        replace B := B.past hb3
        replace R := R.past hb3
        replace ha := ha.past hb3
        replace hb := hb.past hb3
        replace ha' := ha'.past hb3
        replace hb' := hb'.past hb3
        replace hT := hT.past hb3
        replace RT := RT.past hb3
        have hs3 := hs2.trans (hb3.mono hs2.size)
        go_upto_region 5 with (fail)
        refine wp_lay1 (fun W4 hb4 hz4 Y => ?_)
        replace A := A.past hb4
        replace B := B.past hb4
        replace R := R.past hb4
        replace ha := ha.past hb4
        replace hb := hb.past hb4
        replace ha' := ha'.past hb4
        replace hb' := hb'.past hb4
        replace hT := hT.past hb4
        replace RT := RT.past hb4
        have hs4 := hs3.trans (hb4.mono hs3.size)
        obtain ⟨Y_0, Y_1, Y_2, Y_3, Y_4, Y_5⟩ := Y.e6
        go_wp2_with fail
        clear Y_0 Y_1 Y_2 Y_3 Y_4 Y_5
        ((with_reducible refine ((HS1 _ p3 c3).out).mono ?_))
        rintro e5 w5 ⟨rfl, hb5⟩
        replace A := A.past hb5
        replace B := B.past hb5
        replace R := R.past hb5
        replace Y := Y.past hb5
        replace ha := ha.past hb5
        replace hb := hb.past hb5
        replace ha' := ha'.past hb5
        replace hb' := hb'.past hb5
        replace hT := hT.past hb5
        replace RT := RT.past hb5
        have hs5 := hs4.trans (hb5.mono hs4.size)
        obtain ⟨Y_0, Y_1, Y_2, Y_3, Y_4, Y_5⟩ := Y.e6
        go_wp2_with fail
        clear Y_0 Y_1 Y_2 Y_3 Y_4 Y_5
        ((with_reducible refine ((HS2 _ q3 d3).out).mono ?_))
        rintro e6 w6 ⟨rfl, hb6⟩
        replace A := A.past hb6
        replace B := B.past hb6
        replace R := R.past hb6
        replace Y := Y.past hb6
        replace ha := ha.past hb6
        replace hb := hb.past hb6
        replace ha' := ha'.past hb6
        replace hb' := hb'.past hb6
        replace hT := hT.past hb6
        replace RT := RT.past hb6
        have hs6 := hs5.trans (hb6.mono hs5.size)
        obtain ⟨R_0, R_1, R_2, R_3, R_4, R_5⟩ := (R).e6
        have R_f0 := (R).f 0
        have R_f1 := (R).f 1
        have R_f2 := (R).f 2
        have R_f3 := (R).f 3
        have R_f4 := (R).f 4
        have R_f5 := (R).f 5
        go_wp2_with fail
        refine bodyPost_ret (v := .tuple #[.agg #[.bool false, .slice none 0 0, .int .i64 0, .bool false, .slice none 0 0, .int .i64 0], .int .i64 5]) (by simp [results, Tryd.results17, go_sem, R_0, R_1, R_2, R_3, R_4, R_5]) rfl ?_
        rw [HE.out, HL.out, HH.out]
        exact givesBE_zero hs6 (by omega)
      · have t4 : decide (0 ≤ S2) = false := decide_eq_false g2
        rw [if_neg (fun h => g2 h.2)] at HD
        rw [HD.out, if_pos rfl] at HE HL HH
        obtain ⟨n1, n2⟩ := HNE.out (fun h => g2 h.2)
        have HOV := HOV n1 n2
        clear HNE HD
        go_enter Tryd.func17, Tryd.ntmps17
        go_upto_region 1 with (fail)
        refine wp_layT3 (fun W1 hs1 hz1 A B R RT => ?_)
        replace ha := ha.past hs1
        replace hb := hb.past hs1
        replace ha' := ha'.past hs1
        replace hb' := hb'.past hs1
        replace hT := hT.past hs1
        obtain ⟨A_0, A_1, A_2, A_3, A_4, A_5⟩ := (A).e6
        have A_f0 := (A).f 0
        have A_f1 := (A).f 1
        have A_f2 := (A).f 2
        have A_f3 := (A).f 3
        have A_f4 := (A).f 4
        have A_f5 := (A).f 5
        obtain ⟨B_0, B_1, B_2, B_3, B_4, B_5⟩ := (B).e6
        have B_f0 := (B).f 0
        have B_f1 := (B).f 1
        have B_f2 := (B).f 2
        have B_f3 := (B).f 3
        have B_f4 := (B).f 4
        have B_f5 := (B).f 5
        go_wp2_with fail
        ((with_reducible refine (HC _ ha hb ha' hb' hT).out.mono ?_))
        clear A_0 A_1 A_2 A_3 A_4 A_5 B_0 B_1 B_2 B_3 B_4 B_5
        rintro e2 w2 ⟨rfl, hb2⟩
        replace hb2 : Below W1.heap.size W1 w2 := (below_lay1 W1 _).trans (hb2.mono (by omega))
        have hs2 := hs1.trans (hb2.mono hs1.size)
        replace A := A.past hb2
        replace B := B.past hb2
        replace R := R.past hb2
        replace RT := RT.past hb2
        replace ha := ha.past hb2
        replace hb := hb.past hb2
        replace ha' := ha'.past hb2
        replace hb' := hb'.past hb2
        replace hT := hT.past hb2
        obtain ⟨B_0, B_1, B_2, B_3, B_4, B_5⟩ := B.e6
        go_wp2_with fail
        clear B_0 B_1 B_2 B_3 B_4 B_5
        ((with_reducible refine ((HOB _ ha' hb' hT).out).mono ?_))
        rintro e3 w3 ⟨p3, c3, q3, d3, rfl, ho3, hq3, hb3⟩
        replace A := A.past hb3
        replace B := B.past hb3
        replace R := R.past hb3
        replace ha := ha.past hb3
        replace hb := hb.past hb3
        replace ha' := ha'.past hb3
        replace hb' := hb'.past hb3
        replace hT := hT.past hb3
        replace RT := RT.past hb3
        have hs3 := hs2.trans (hb3.mono hs2.size)
        go_upto_region 5 with (fail)
        refine wp_lay1 (fun W4 hb4 hz4 Y => ?_)
        replace A := A.past hb4
        replace B := B.past hb4
        replace R := R.past hb4
        replace ha := ha.past hb4
        replace hb := hb.past hb4
        replace ha' := ha'.past hb4
        replace hb' := hb'.past hb4
        replace hT := hT.past hb4
        replace RT := RT.past hb4
        have hs4 := hs3.trans (hb4.mono hs3.size)
        obtain ⟨Y_0, Y_1, Y_2, Y_3, Y_4, Y_5⟩ := Y.e6
        go_wp2_with fail
        clear Y_0 Y_1 Y_2 Y_3 Y_4 Y_5
        ((with_reducible refine ((HS1 _ p3 c3).out).mono ?_))
        rintro e5 w5 ⟨rfl, hb5⟩
        replace A := A.past hb5
        replace B := B.past hb5
        replace R := R.past hb5
        replace Y := Y.past hb5
        replace ha := ha.past hb5
        replace hb := hb.past hb5
        replace ha' := ha'.past hb5
        replace hb' := hb'.past hb5
        replace hT := hT.past hb5
        replace RT := RT.past hb5
        have hs5 := hs4.trans (hb5.mono hs4.size)
        obtain ⟨Y_0, Y_1, Y_2, Y_3, Y_4, Y_5⟩ := Y.e6
        go_wp2_with fail
        clear Y_0 Y_1 Y_2 Y_3 Y_4 Y_5
        ((with_reducible refine ((HS2 _ q3 d3).out).mono ?_))
        rintro e6 w6 ⟨rfl, hb6⟩
        replace A := A.past hb6
        replace B := B.past hb6
        replace R := R.past hb6
        replace Y := Y.past hb6
        replace ha := ha.past hb6
        replace hb := hb.past hb6
        replace ha' := ha'.past hb6
        replace hb' := hb'.past hb6
        replace hT := hT.past hb6
        replace RT := RT.past hb6
        have hs6 := hs5.trans (hb6.mono hs5.size)
        go_upto_region 7 with (fail)
        have hzb : w.heap.size ≤ (w6).drew.heap.size := (hs6).size
        have hzd : (w6).drew.heap.size = (w6).heap.size := rfl
        have HZD := Lib.hid hzd
        clear hzd
        go_region_held3 (fun w' => (w'.cell? ⟨w.heap.size, 0, none⟩ = some (.bool a.g) ∧ w'.cell? ⟨w.heap.size, 1, none⟩ = some (.slice a.p a.xs.length a.c) ∧ w'.cell? ⟨w.heap.size, 2, none⟩ = some (.int .i64 a.e) ∧ w'.cell? ⟨w.heap.size, 3, none⟩ = some (.bool b.g) ∧ w'.cell? ⟨w.heap.size, 4, none⟩ = some (.slice b.p b.xs.length b.c) ∧ w'.cell? ⟨w.heap.size, 5, none⟩ = some (.int .i64 b.e)) ∧
            (w'.cell? ⟨w.heap.size + 1, 0, none⟩ = some (.bool a'.g) ∧ w'.cell? ⟨w.heap.size + 1, 1, none⟩ = some (.slice a'.p a'.xs.length a'.c) ∧ w'.cell? ⟨w.heap.size + 1, 2, none⟩ = some (.int .i64 a'.e) ∧ w'.cell? ⟨w.heap.size + 1, 3, none⟩ = some (.bool b'.g) ∧ w'.cell? ⟨w.heap.size + 1, 4, none⟩ = some (.slice b'.p b'.xs.length b'.c) ∧ w'.cell? ⟨w.heap.size + 1, 5, none⟩ = some (.int .i64 b'.e)))
          (first
            | with_reducible exact ⟨A.e6, B.e6⟩
            | with_reducible exact ⟨A.drew.e6, B.drew.e6⟩
            | with_reducible exact ⟨(A.drew.past hbx).e6, (B.drew.past hbx).e6⟩
            | with_reducible exact ⟨((A.drew.past hbx).past hby).e6, ((B.drew.past hbx).past hby).e6⟩
            | with_reducible exact ⟨(((A.drew.past hbx).past hby).past hbz).e6, (((B.drew.past hbx).past hby).past hbz).e6⟩
            | with_reducible exact ⟨((((A.drew.past hbx).past hby).past hbz).past hbt).e6, ((((B.drew.past hbx).past hby).past hbz).past hbt).e6⟩
            | with_reducible exact ⟨(((((A.drew.past hbx).past hby).past hbz).past hbt).only (only6 _ _ _ _ _ _ _ _) (by omega)).e6, (((((B.drew.past hbx).past hby).past hbz).past hbt).only (only6 _ _ _ _ _ _ _ _) (by omega)).e6⟩)
          (first
            | (go_at_call_of 53 (Value.agg #[.bool a.g, .slice a.p a.xs.length a.c, .int .i64 a.e, .bool b.g, .slice b.p b.xs.length b.c, .int .i64 b.e]); ((with_reducible refine (HOA _ ha.drew hb.drew hT.drew).out.mono ?_)); rintro ex wx ⟨px, cx, qx, dx, rfl, hox, hqx, hbx⟩)
            | (go_at_call_of 53 (Value.agg #[.bool a'.g, .slice a'.p a'.xs.length a'.c, .int .i64 a'.e, .bool b'.g, .slice b'.p b'.xs.length b'.c, .int .i64 b'.e]); ((with_reducible refine (HOB _ (ha'.drew.past hbx) (hb'.drew.past hbx) (hT.drew.past hbx)).out.mono ?_)); rintro ey wy ⟨py, cy, qy, dy, rfl, hoy, hqy, hby⟩)
            | (go_at_call 56; ((with_reducible refine (rawDoneD_any rl rh pz qz cz dz _ _ hoz hqz f1 f2).mono ?_)); rintro et wt ⟨pt, ct, qt, dt, rfl, hot, hqt, hbt⟩; (have RR := (((R.drew.past hbx).past hby).past hbz).past hbt); obtain ⟨R_0, R_1, R_2, R_3, R_4, R_5⟩ := RR.e6; (have R_f0 := RR.f 0); (have R_f1 := RR.f 1); (have R_f2 := RR.f 2); (have R_f3 := RR.f 3); (have R_f4 := RR.f 4); have R_f5 := RR.f 5)
            | (go_at_call 55; ((with_reducible refine (HOV _ px cx qx dx py cy qy dy (w6).drew.heap.size (hox.past hby) (hqx.past hby) (hoy.mono hbx.size) (hqy.mono hbx.size) ((hT.drew.past hbx).past hby) (Nat.le_trans hbx.size hby.size)).out.mono ?_)); rintro ez wz ⟨pz, cz, qz, dz, rfl, hoz, hqz, hbz⟩))
        all_goals (go_wp2_with fail)
        all_goals (refine bodyPost_ret (v := .tuple #[.agg #[.bool (doneL rl rh).neg, .slice pt (dig B32 (doneL rl rh).m).length ct, .int .i64 (doneL rl rh).e, .bool (doneH rl rh).neg, .slice qt (dig B32 (doneH rl rh).m).length dt, .int .i64 (doneH rl rh).e], .int .i64 (errB rl rh)]) (by simp [results, Tryd.results17, go_sem, R_0, R_1, R_2, R_3, R_4, R_5]) rfl ?_)
        rw [HE.out, HL.out, HH.out]
        have y2 := Nat.le_trans (hs6).size hbx.size
        have y3 := Nat.le_trans y2 hby.size
        have y4 := Nat.le_trans y3 hbz.size
        exact givesBE_put ((((hs6).drew.trans (hbx.mono (hs6).size)).trans (hby.mono y2)).trans (hbz.mono y3) |>.trans (hbt.mono y4)) (hot.mono hzb) (hqt.mono hzb) (by omega) ((((RT.drew.past hbx).past hby).past hbz).past hbt)
    · have t3 : decide (S1 ≤ 0) = false := decide_eq_false g1
      rw [if_neg (fun h => g1 h.1)] at HD
      rw [HD.out, if_pos rfl] at HE HL HH
      obtain ⟨n1, n2⟩ := HNE.out (fun h => g1 h.1)
      have HOV := HOV n1 n2
      clear HNE HD
      go_enter Tryd.func17, Tryd.ntmps17
      go_upto_region 1 with (fail)
      refine wp_layT3 (fun W1 hs1 hz1 A B R RT => ?_)
      replace ha := ha.past hs1
      replace hb := hb.past hs1
      replace ha' := ha'.past hs1
      replace hb' := hb'.past hs1
      replace hT := hT.past hs1
      obtain ⟨A_0, A_1, A_2, A_3, A_4, A_5⟩ := (A).e6
      have A_f0 := (A).f 0
      have A_f1 := (A).f 1
      have A_f2 := (A).f 2
      have A_f3 := (A).f 3
      have A_f4 := (A).f 4
      have A_f5 := (A).f 5
      obtain ⟨B_0, B_1, B_2, B_3, B_4, B_5⟩ := (B).e6
      have B_f0 := (B).f 0
      have B_f1 := (B).f 1
      have B_f2 := (B).f 2
      have B_f3 := (B).f 3
      have B_f4 := (B).f 4
      have B_f5 := (B).f 5
      go_wp2_with fail
      ((with_reducible refine (HC _ ha hb ha' hb' hT).out.mono ?_))
      clear A_0 A_1 A_2 A_3 A_4 A_5 B_0 B_1 B_2 B_3 B_4 B_5
      rintro e2 w2 ⟨rfl, hb2⟩
      replace hb2 : Below W1.heap.size W1 w2 := (below_lay1 W1 _).trans (hb2.mono (by omega))
      have hs2 := hs1.trans (hb2.mono hs1.size)
      replace A := A.past hb2
      replace B := B.past hb2
      replace R := R.past hb2
      replace RT := RT.past hb2
      replace ha := ha.past hb2
      replace hb := hb.past hb2
      replace ha' := ha'.past hb2
      replace hb' := hb'.past hb2
      replace hT := hT.past hb2
      obtain ⟨B_0, B_1, B_2, B_3, B_4, B_5⟩ := B.e6
      go_wp2_with fail
      clear B_0 B_1 B_2 B_3 B_4 B_5
      ((with_reducible refine ((HOB _ ha' hb' hT).out).mono ?_))
      rintro e3 w3 ⟨p3, c3, q3, d3, rfl, ho3, hq3, hb3⟩
      replace A := A.past hb3
      replace B := B.past hb3
      replace R := R.past hb3
      replace ha := ha.past hb3
      replace hb := hb.past hb3
      replace ha' := ha'.past hb3
      replace hb' := hb'.past hb3
      replace hT := hT.past hb3
      replace RT := RT.past hb3
      have hs3 := hs2.trans (hb3.mono hs2.size)
      go_upto_region 5 with (fail)
      refine wp_lay1 (fun W4 hb4 hz4 Y => ?_)
      replace A := A.past hb4
      replace B := B.past hb4
      replace R := R.past hb4
      replace ha := ha.past hb4
      replace hb := hb.past hb4
      replace ha' := ha'.past hb4
      replace hb' := hb'.past hb4
      replace hT := hT.past hb4
      replace RT := RT.past hb4
      have hs4 := hs3.trans (hb4.mono hs3.size)
      obtain ⟨Y_0, Y_1, Y_2, Y_3, Y_4, Y_5⟩ := Y.e6
      go_wp2_with fail
      clear Y_0 Y_1 Y_2 Y_3 Y_4 Y_5
      ((with_reducible refine ((HS1 _ p3 c3).out).mono ?_))
      rintro e5 w5 ⟨rfl, hb5⟩
      replace A := A.past hb5
      replace B := B.past hb5
      replace R := R.past hb5
      replace Y := Y.past hb5
      replace ha := ha.past hb5
      replace hb := hb.past hb5
      replace ha' := ha'.past hb5
      replace hb' := hb'.past hb5
      replace hT := hT.past hb5
      replace RT := RT.past hb5
      have hs5 := hs4.trans (hb5.mono hs4.size)
      go_upto_region 7 with (fail)
      have hzb : w.heap.size ≤ (w5).drew.heap.size := (hs5).size
      have hzd : (w5).drew.heap.size = (w5).heap.size := rfl
      have HZD := Lib.hid hzd
      clear hzd
      go_region_held3 (fun w' => (w'.cell? ⟨w.heap.size, 0, none⟩ = some (.bool a.g) ∧ w'.cell? ⟨w.heap.size, 1, none⟩ = some (.slice a.p a.xs.length a.c) ∧ w'.cell? ⟨w.heap.size, 2, none⟩ = some (.int .i64 a.e) ∧ w'.cell? ⟨w.heap.size, 3, none⟩ = some (.bool b.g) ∧ w'.cell? ⟨w.heap.size, 4, none⟩ = some (.slice b.p b.xs.length b.c) ∧ w'.cell? ⟨w.heap.size, 5, none⟩ = some (.int .i64 b.e)) ∧
          (w'.cell? ⟨w.heap.size + 1, 0, none⟩ = some (.bool a'.g) ∧ w'.cell? ⟨w.heap.size + 1, 1, none⟩ = some (.slice a'.p a'.xs.length a'.c) ∧ w'.cell? ⟨w.heap.size + 1, 2, none⟩ = some (.int .i64 a'.e) ∧ w'.cell? ⟨w.heap.size + 1, 3, none⟩ = some (.bool b'.g) ∧ w'.cell? ⟨w.heap.size + 1, 4, none⟩ = some (.slice b'.p b'.xs.length b'.c) ∧ w'.cell? ⟨w.heap.size + 1, 5, none⟩ = some (.int .i64 b'.e)))
        (first
          | with_reducible exact ⟨A.e6, B.e6⟩
          | with_reducible exact ⟨A.drew.e6, B.drew.e6⟩
          | with_reducible exact ⟨(A.drew.past hbx).e6, (B.drew.past hbx).e6⟩
          | with_reducible exact ⟨((A.drew.past hbx).past hby).e6, ((B.drew.past hbx).past hby).e6⟩
          | with_reducible exact ⟨(((A.drew.past hbx).past hby).past hbz).e6, (((B.drew.past hbx).past hby).past hbz).e6⟩
          | with_reducible exact ⟨((((A.drew.past hbx).past hby).past hbz).past hbt).e6, ((((B.drew.past hbx).past hby).past hbz).past hbt).e6⟩
          | with_reducible exact ⟨(((((A.drew.past hbx).past hby).past hbz).past hbt).only (only6 _ _ _ _ _ _ _ _) (by omega)).e6, (((((B.drew.past hbx).past hby).past hbz).past hbt).only (only6 _ _ _ _ _ _ _ _) (by omega)).e6⟩)
        (first
          | (go_at_call_of 53 (Value.agg #[.bool a.g, .slice a.p a.xs.length a.c, .int .i64 a.e, .bool b.g, .slice b.p b.xs.length b.c, .int .i64 b.e]); ((with_reducible refine (HOA _ ha.drew hb.drew hT.drew).out.mono ?_)); rintro ex wx ⟨px, cx, qx, dx, rfl, hox, hqx, hbx⟩)
          | (go_at_call_of 53 (Value.agg #[.bool a'.g, .slice a'.p a'.xs.length a'.c, .int .i64 a'.e, .bool b'.g, .slice b'.p b'.xs.length b'.c, .int .i64 b'.e]); ((with_reducible refine (HOB _ (ha'.drew.past hbx) (hb'.drew.past hbx) (hT.drew.past hbx)).out.mono ?_)); rintro ey wy ⟨py, cy, qy, dy, rfl, hoy, hqy, hby⟩)
          | (go_at_call 56; ((with_reducible refine (rawDoneD_any rl rh pz qz cz dz _ _ hoz hqz f1 f2).mono ?_)); rintro et wt ⟨pt, ct, qt, dt, rfl, hot, hqt, hbt⟩; (have RR := (((R.drew.past hbx).past hby).past hbz).past hbt); obtain ⟨R_0, R_1, R_2, R_3, R_4, R_5⟩ := RR.e6; (have R_f0 := RR.f 0); (have R_f1 := RR.f 1); (have R_f2 := RR.f 2); (have R_f3 := RR.f 3); (have R_f4 := RR.f 4); have R_f5 := RR.f 5)
          | (go_at_call 55; ((with_reducible refine (HOV _ px cx qx dx py cy qy dy (w5).drew.heap.size (hox.past hby) (hqx.past hby) (hoy.mono hbx.size) (hqy.mono hbx.size) ((hT.drew.past hbx).past hby) (Nat.le_trans hbx.size hby.size)).out.mono ?_)); rintro ez wz ⟨pz, cz, qz, dz, rfl, hoz, hqz, hbz⟩))
      all_goals (go_wp2_with fail)
      all_goals (refine bodyPost_ret (v := .tuple #[.agg #[.bool (doneL rl rh).neg, .slice pt (dig B32 (doneL rl rh).m).length ct, .int .i64 (doneL rl rh).e, .bool (doneH rl rh).neg, .slice qt (dig B32 (doneH rl rh).m).length dt, .int .i64 (doneH rl rh).e], .int .i64 (errB rl rh)]) (by simp [results, Tryd.results17, go_sem, R_0, R_1, R_2, R_3, R_4, R_5]) rfl ?_)
      rw [HE.out, HL.out, HH.out]
      have y2 := Nat.le_trans (hs5).size hbx.size
      have y3 := Nat.le_trans y2 hby.size
      have y4 := Nat.le_trans y3 hbz.size
      exact givesBE_put ((((hs5).drew.trans (hbx.mono (hs5).size)).trans (hby.mono y2)).trans (hbz.mono y3) |>.trans (hbt.mono y4)) (hot.mono hzb) (hqt.mono hzb) (by omega) ((((RT.drew.past hbx).past hby).past hbz).past hbt)
  · have t1 : (ec == 0) = false := beq_eq_false_iff_ne.2 h0
    have t2 : (ec != 0) = true := by rw [bne, t1]; rfl
    rw [if_neg h0] at HD
    rw [HD.out, if_neg h0] at HE HL HH
    clear HOK h0 HD
    go_enter Tryd.func17, Tryd.ntmps17
    go_upto_region 1 with (fail)
    refine wp_layT3 (fun W1 hs1 hz1 A B R RT => ?_)
    replace ha := ha.past hs1
    replace hb := hb.past hs1
    replace ha' := ha'.past hs1
    replace hb' := hb'.past hs1
    replace hT := hT.past hs1
    obtain ⟨A_0, A_1, A_2, A_3, A_4, A_5⟩ := (A).e6
    have A_f0 := (A).f 0
    have A_f1 := (A).f 1
    have A_f2 := (A).f 2
    have A_f3 := (A).f 3
    have A_f4 := (A).f 4
    have A_f5 := (A).f 5
    obtain ⟨B_0, B_1, B_2, B_3, B_4, B_5⟩ := (B).e6
    have B_f0 := (B).f 0
    have B_f1 := (B).f 1
    have B_f2 := (B).f 2
    have B_f3 := (B).f 3
    have B_f4 := (B).f 4
    have B_f5 := (B).f 5
    go_wp2_with fail
    ((with_reducible refine (HC _ ha hb ha' hb' hT).out.mono ?_))
    clear A_0 A_1 A_2 A_3 A_4 A_5 B_0 B_1 B_2 B_3 B_4 B_5
    rintro e2 w2 ⟨rfl, hb2⟩
    replace hb2 : Below W1.heap.size W1 w2 := (below_lay1 W1 _).trans (hb2.mono (by omega))
    have hs2 := hs1.trans (hb2.mono hs1.size)
    replace A := A.past hb2
    replace B := B.past hb2
    replace R := R.past hb2
    replace RT := RT.past hb2
    replace ha := ha.past hb2
    replace hb := hb.past hb2
    replace ha' := ha'.past hb2
    replace hb' := hb'.past hb2
    replace hT := hT.past hb2
    obtain ⟨R_0, R_1, R_2, R_3, R_4, R_5⟩ := (R).e6
    have R_f0 := (R).f 0
    have R_f1 := (R).f 1
    have R_f2 := (R).f 2
    have R_f3 := (R).f 3
    have R_f4 := (R).f 4
    have R_f5 := (R).f 5
    go_wp2_with fail
    refine bodyPost_ret (v := .tuple #[.agg #[.bool false, .slice none 0 0, .int .i64 0, .bool false, .slice none 0 0, .int .i64 0], .int .i64 ec]) (by simp [results, Tryd.results17, go_sem, R_0, R_1, R_2, R_3, R_4, R_5]) rfl ?_
    rw [HE.out, HL.out, HH.out]
    exact givesBE_zero hs2 (by omega)

end Go.Proofs.YtkooikgplpamlaaDoor
