/- What calls on balls leave, as balls that can be handed in again; the laws on what balls hold, as facts on what the calls leave. -/
import Derived.Test.YtkooikgplpamlaaDoorZA
import Derived.Test.YtkooikgplpamlaaDoorZDyOut
import Derived.Test.YtkooikgplpamlaaDoorZK
import Derived.Test.YtkooikgplpamlaaDoorZL
namespace Go.Slip

theorem over_ends_le {a b a' b' : Dv} (ha : Bare a) (hb : Bare b) (h1 : 0 < a'.m) (h2 : 0 < b'.m) {n : Int} (hn : 0 < n.toNat) :
    (leD (overL a b a' b' n) (rOver a a' n.toNat false) ∧ leD (rOver a a' n.toNat true) (overH a b a' b' n)) ∧ (leD (overL a b a' b' n) (rOver b a' n.toNat false) ∧ leD (rOver b a' n.toNat true) (overH a b a' b' n)) := by
  have B := fun (x y : Dv) (u : Bool) => rOver_bare x y n.toNat u
  have hl : ∀ u, ∀ x ∈ [rOver a b' n.toNat u, rOver b a' n.toNat u, rOver b b' n.toNat u], Bare x := by
    intro u x hx
    simp only [List.mem_cons, List.not_mem_nil, or_false] at hx
    rcases hx with rfl | rfl | rfl <;> exact B _ _ _
  unfold overL overH
  rw [pOver_eq ha h1, pOver_eq ha h2, pOver_eq hb h1, pOver_eq hb h2, pOver_eq ha h1, pOver_eq ha h2, pOver_eq hb h1, pOver_eq hb h2, low_eq _ _ (B _ _ _) (hl false), high_eq _ _ (B _ _ _) (hl true)]
  obtain ⟨l1, l2⟩ := rLow_le [rOver a b' n.toNat false, rOver b a' n.toNat false, rOver b b' n.toNat false] (rOver a a' n.toNat false)
  obtain ⟨g1, g2⟩ := rHigh_ge [rOver a b' n.toNat true, rOver b a' n.toNat true, rOver b b' n.toNat true] (rOver a a' n.toNat true)
  have bl : Bare (rLow (rOver a a' n.toNat false) [rOver a b' n.toNat false, rOver b a' n.toNat false, rOver b b' n.toNat false]) := by
    rw [← low_eq _ _ (B _ _ _) (hl false)]
    rcases low_mem [rOver a b' n.toNat false, rOver b a' n.toNat false, rOver b b' n.toNat false] (rOver a a' n.toNat false) with k | k
    · rw [k]; exact B _ _ _
    · exact hl _ _ k
  have bh : Bare (rHigh (rOver a a' n.toNat true) [rOver a b' n.toNat true, rOver b a' n.toNat true, rOver b b' n.toNat true]) := by
    rw [← high_eq _ _ (B _ _ _) (hl true)]
    rcases high_mem [rOver a b' n.toNat true, rOver b a' n.toNat true, rOver b b' n.toNat true] (rOver a a' n.toNat true) with k | k
    · rw [k]; exact B _ _ _
    · exact hl _ _ k
  rw [pCut_eq bl, pCut_eq bh]
  have c1 := cut_down bl hn
  have c2 := cut_up bh hn
  exact ⟨⟨leD_trans c1 l1, leD_trans g1 c2⟩, leD_trans c1 (l2 _ (by simp)), leD_trans (g2 _ (by simp)) c2⟩

end Go.Slip
namespace Go.Proofs.YtkooikgplpamlaaDoor
open Go.RowKit Go.Slip

/-- A ball that can be handed in again. -/
def GivesInB (w : World) (S : Din → Din → Int → Prop) (en : Ending) (w' : World) : Prop :=
  ∃ (r s : Din) (er : Int), en = .returned (.tuple #[.agg #[.bool r.g, .slice r.p r.xs.length r.c, .int .i64 r.e, .bool s.g, .slice s.p s.xs.length s.c, .int .i64 s.e], .int .i64 er]) ∧ InD w' r ∧ InD w' s ∧ Below w.heap.size w w' ∧ S r s er

/-- What a call leaves where nothing is wrong. -/
def BallSpec (ec : Int) (l h : Dv) (r s : Din) (er : Int) : Prop := er = 0 → ec = 0 ∧ errD l = 0 ∧ errD h = 0 ∧ OutOf r l ∧ OutOf s h

theorem doneL_len (l h : Dv) : (dig B32 (doneL l h).m).length ≤ 1200 ∧ (dig B32 (doneH l h).m).length ≤ 1200 := by
  unfold doneL doneH
  by_cases h0 : errB l h = 0
  · rw [if_pos h0, if_pos h0]
    obtain ⟨h1, h2⟩ := errB_ok h0
    exact ⟨(errD_bd h1).1, (errD_bd h2).1⟩
  · rw [if_neg h0, if_neg h0]
    simp [zeroD, dig_zero]

theorem givesInB_of {w w' : World} {ec e : Int} {l h L H : Dv} {en : Ending} (hg : GivesBE w w.heap.size L H e en w') (hl : (dig B32 L.m).length ≤ 1200) (hh : (dig B32 H.m).length ≤ 1200)
    (hS : e = 0 → ec = 0 ∧ errB l h = 0 ∧ L = l ∧ H = h) : GivesInB w (BallSpec ec l h) en w' := by
  obtain ⟨p, c, q, d, rfl, ho, hq, hb⟩ := hg
  obtain ⟨h1, h2⟩ := outDin w' _ L p c ho (by omega)
  obtain ⟨h3, h4⟩ := outDin w' _ H q d hq (by omega)
  refine ⟨_, _, e, rfl, h1, h3, hb, fun h0 => ?_⟩
  obtain ⟨k1, k2, rfl, rfl⟩ := hS h0
  obtain ⟨k3, k4⟩ := errB_ok k2
  exact ⟨k1, k3, k4, h2, h4⟩

theorem twoLH_len (n : Int) (L : List (Din × Din)) (l h : Dv) : (dig B32 (twoL n L l h).m).length ≤ 1200 ∧ (dig B32 (twoH n L l h).m).length ≤ 1200 := by
  unfold twoL twoH
  split
  · exact doneL_len l h
  · simp [zeroD, dig_zero]

theorem two_spec {n : Int} {L : List (Din × Din)} {l h : Dv} (h0 : twoE n L l h = 0) : errC n L = 0 ∧ errB l h = 0 ∧ twoL n L l h = l ∧ twoH n L l h = h := by
  unfold twoE at h0
  by_cases h1 : errC n L = 0
  · rw [if_pos h1] at h0
    unfold twoL twoH doneL doneH
    simp [h1, h0]
  · rw [if_neg h1] at h0; exact absurd h0 h1


theorem bAdd_in (a b a' b' : Din) (n : Int) (w : World) (ha : InD w a) (hb : InD w b) (ha' : InD w a') (hb' : InD w b') (hT : TabW w) :
    Calls Tryd.prog 31 #[.agg #[.bool a.g, .slice a.p a.xs.length a.c, .int .i64 a.e, .bool b.g, .slice b.p b.xs.length b.c, .int .i64 b.e], .agg #[.bool a'.g, .slice a'.p a'.xs.length a'.c, .int .i64 a'.e, .bool b'.g, .slice b'.p b'.xs.length b'.c, .int .i64 b'.e], .int .i64 n] w (GivesInB w (BallSpec (errC n [(a, b), (a', b')]) (plusL (dyV a) (dyV b) (dyV a') (dyV b') n) (plusH (dyV a) (dyV b) (dyV a') (dyV b') n))) :=
  (bAdd_any a b a' b' n w ha hb ha' hb' hT).mono fun _ _ h => givesInB_of h (twoLH_len _ _ _ _).1 (twoLH_len _ _ _ _).2 two_spec

theorem bSub_in (a b a' b' : Din) (n : Int) (w : World) (ha : InD w a) (hb : InD w b) (ha' : InD w a') (hb' : InD w b') (hT : TabW w) :
    Calls Tryd.prog 33 #[.agg #[.bool a.g, .slice a.p a.xs.length a.c, .int .i64 a.e, .bool b.g, .slice b.p b.xs.length b.c, .int .i64 b.e], .agg #[.bool a'.g, .slice a'.p a'.xs.length a'.c, .int .i64 a'.e, .bool b'.g, .slice b'.p b'.xs.length b'.c, .int .i64 b'.e], .int .i64 n] w (GivesInB w (BallSpec (errC n [(a, b), (a', b')]) (subL (dyV a) (dyV b) (dyV a') (dyV b') n) (subH (dyV a) (dyV b) (dyV a') (dyV b') n))) :=
  (bSub_any a b a' b' n w ha hb ha' hb' hT).mono fun _ _ h => givesInB_of h (twoLH_len _ _ _ _).1 (twoLH_len _ _ _ _).2 two_spec

theorem bMul_in (a b a' b' : Din) (n : Int) (w : World) (ha : InD w a) (hb : InD w b) (ha' : InD w a') (hb' : InD w b') (hT : TabW w) :
    Calls Tryd.prog 29 #[.agg #[.bool a.g, .slice a.p a.xs.length a.c, .int .i64 a.e, .bool b.g, .slice b.p b.xs.length b.c, .int .i64 b.e], .agg #[.bool a'.g, .slice a'.p a'.xs.length a'.c, .int .i64 a'.e, .bool b'.g, .slice b'.p b'.xs.length b'.c, .int .i64 b'.e], .int .i64 n] w (GivesInB w (BallSpec (errC n [(a, b), (a', b')]) (timesL (dyV a) (dyV b) (dyV a') (dyV b') n) (timesH (dyV a) (dyV b) (dyV a') (dyV b') n))) :=
  (bMul_any a b a' b' n w ha hb ha' hb' hT).mono fun _ _ h => givesInB_of h (twoLH_len _ _ _ _).1 (twoLH_len _ _ _ _).2 two_spec

theorem bJoin_in (a b a' b' : Din) (n : Int) (w : World) (ha : InD w a) (hb : InD w b) (ha' : InD w a') (hb' : InD w b') (hT : TabW w) :
    Calls Tryd.prog 24 #[.agg #[.bool a.g, .slice a.p a.xs.length a.c, .int .i64 a.e, .bool b.g, .slice b.p b.xs.length b.c, .int .i64 b.e], .agg #[.bool a'.g, .slice a'.p a'.xs.length a'.c, .int .i64 a'.e, .bool b'.g, .slice b'.p b'.xs.length b'.c, .int .i64 b'.e], .int .i64 n] w (GivesInB w (BallSpec (errC n [(a, b), (a', b')]) (joinL (dyV a) (dyV b) (dyV a') (dyV b') n) (joinH (dyV a) (dyV b) (dyV a') (dyV b') n))) :=
  (bJoin_any a b a' b' n w ha hb ha' hb' hT).mono fun _ _ h => givesInB_of h (twoLH_len _ _ _ _).1 (twoLH_len _ _ _ _).2 two_spec

theorem bDiv_in (a b a' b' : Din) (n : Int) (w : World) (ha : InD w a) (hb : InD w b) (ha' : InD w a') (hb' : InD w b') (hT : TabW w) :
    Calls Tryd.prog 17 #[.agg #[.bool a.g, .slice a.p a.xs.length a.c, .int .i64 a.e, .bool b.g, .slice b.p b.xs.length b.c, .int .i64 b.e], .agg #[.bool a'.g, .slice a'.p a'.xs.length a'.c, .int .i64 a'.e, .bool b'.g, .slice b'.p b'.xs.length b'.c, .int .i64 b'.e], .int .i64 n] w (GivesInB w (BallSpec (divC n a b a' b') (overL (dyV a) (dyV b) (dyV a') (dyV b') n) (overH (dyV a) (dyV b) (dyV a') (dyV b') n))) :=
  (bDiv_any a b a' b' n w ha hb ha' hb' hT).mono fun _ _ h => givesInB_of h
    (by unfold divL; split; exact (doneL_len _ _).1; simp [zeroD, dig_zero]) (by unfold divH; split; exact (doneL_len _ _).2; simp [zeroD, dig_zero]) (fun h0 => by
      unfold divE at h0
      by_cases h1 : divC n a b a' b' = 0
      · rw [if_pos h1] at h0
        unfold divL divH doneL doneH
        simp [h1, h0]
      · rw [if_neg h1] at h0; exact absurd h0 h1)

theorem bSqrt_in (a b : Din) (n : Int) (w : World) (ha : InD w a) (hb : InD w b) (hT : TabW w) :
    Calls Tryd.prog 35 #[.agg #[.bool a.g, .slice a.p a.xs.length a.c, .int .i64 a.e, .bool b.g, .slice b.p b.xs.length b.c, .int .i64 b.e], .int .i64 n] w (GivesInB w (BallSpec (sqC n a b) (pRoot (dyV a) n.toNat false) (pRoot (dyV b) n.toNat true))) :=
  (bSqrt_any a b n w ha hb hT).mono fun _ _ h => givesInB_of h
    (by unfold sqL; split; exact (doneL_len _ _).1; simp [zeroD, dig_zero]) (by unfold sqH; split; exact (doneL_len _ _).2; simp [zeroD, dig_zero]) (fun h0 => by
      unfold sqE at h0
      by_cases h1 : sqC n a b = 0
      · rw [if_pos h1] at h0
        unfold sqL sqH doneL doneH
        simp [h1, h0]
      · rw [if_neg h1] at h0; exact absurd h0 h1)

/-- What it is to be in a ball. -/
theorem in_of {a b x : Din} (h0 : errHas a b x = 0) (h1 : hasV a b x = true) : errBall a b = 0 ∧ errDy x = 0 ∧ leD (dyV a) (dyV x) ∧ leD (dyV x) (dyV b) := by
  unfold hasV at h1
  rw [if_pos h0] at h1
  unfold hasD at h1
  unfold errHas at h0
  by_cases h2 : errBall a b = 0
  · rw [if_pos h2] at h0
    simp only [Bool.and_eq_true, decide_eq_true_eq] at h1
    exact ⟨h2, h0, pCmp_leD (dyV_bare _) (dyV_bare _) h1.1, pCmp_leD (dyV_bare _) (dyV_bare _) h1.2⟩
  · rw [if_neg h2] at h0; exact absurd h0 h2

theorem leD_pCmp {a b : Dv} (ha : Bare a) (hb : Bare b) (h : leD a b) : pCmp a b ≤ 0 := by rw [rCmp_eq ha hb]; exact h

theorem has_of {r t s : Din} (hr : errDy r = 0) (ht : errDy t = 0) (hs : errDy s = 0) (h1 : leD (dyV r) (dyV s)) (h2 : leD (dyV s) (dyV t)) : errHas r t s = 0 ∧ hasV r t s = true := by
  have hB : errBall r t = 0 := by
    unfold errBall
    have k : errDy2 r t = 0 := errDy2_of hr ht
    have := leD_pCmp (dyV_bare r) (dyV_bare t) (leD_trans h1 h2)
    simp only [k, if_true]
    rw [if_neg (by omega)]
  have hE : errHas r t s = 0 := by unfold errHas; rw [if_pos hB, hs]
  refine ⟨hE, ?_⟩
  unfold hasV
  rw [if_pos hE]
  unfold hasD
  have k1 := leD_pCmp (dyV_bare r) (dyV_bare s) h1
  have k2 := leD_pCmp (dyV_bare s) (dyV_bare t) h2
  simp [k1, k2]

theorem errC_n {n : Int} {a b a' b' : Din} (h : errC n [(a, b), (a', b')] = 0) : 0 < n.toNat := by
  have := errC_ok2 h
  omega

theorem dyV_neg (y : Din) : dyV ⟨!y.g, y.p, y.c, y.xs, y.e⟩ = dMinus (dyV y) := by
  unfold dyV
  obtain ⟨g, p, c, xs, e⟩ := y
  simp only
  generalize val B32 xs = m
  by_cases h : m = 0
  · subst h
    cases g <;> rfl
  · have hm : 0 < m := by omega
    have k : ∀ g : Bool, (bare ⟨g, m, e⟩ : Dv) = ⟨g, (bare ⟨false, m, e⟩).m, (bare ⟨false, m, e⟩).e⟩ := fun g => bare_neg hm
    rw [k g, k (!g)]
    have : 0 < (bare ⟨false, m, e⟩).m := by
      have := (tz_spec m hm).2
      rw [bare_pos hm]
      simp only
      generalize m / 2 ^ tz m = u at *
      omega
    unfold dMinus
    simp only
    cases g <;> simp [this] <;> omega

theorem plusLH_bare {a b a' b' : Dv} (ha : Bare a) (hb : Bare b) (ha' : Bare a') (hb' : Bare b') (n : Nat) : Bare (pCut (lowD (pPlus a a') [pPlus b b']) n false) ∧ Bare (pCut (highD (pPlus a a') [pPlus b b']) n true) := by
  have k := low_bare (l := [pPlus b b']) (pPlus_bare ha ha') (by simpa using pPlus_bare hb hb')
  exact ⟨pCut_bare k.1 _ _, pCut_bare k.2 _ _⟩

theorem timesLH_bare (a b a' b' : Dv) (n : Nat) : Bare (pCut (lowD (dTimes a a') [dTimes a b', dTimes b a', dTimes b b']) n false) ∧ Bare (pCut (highD (dTimes a a') [dTimes a b', dTimes b a', dTimes b b']) n true) := by
  have k := low_bare (bare_bare _ : Bare (dTimes a a')) (four_bare a a' b b')
  exact ⟨pCut_bare k.1 _ _, pCut_bare k.2 _ _⟩

theorem told {l h v : Dv} {r t s : Din} (bl : Bare l) (bh : Bare h) (h1 : errD l = 0) (h2 : errD h = 0) (o1 : OutOf r l) (o2 : OutOf t h) (hs : errDy s = 0) (ev : dyV s = v) (k1 : leD l v) (k2 : leD v h) : errHas r t s = 0 ∧ hasV r t s = true := by
  obtain ⟨g1, g2⟩ := o1.good bl h1
  obtain ⟨g3, g4⟩ := o2.good bh h2
  exact has_of g1 g3 hs (by rw [g2, ev]; exact k1) (by rw [g4, ev]; exact k2)

theorem holds_add {a b a' b' x y r t s : Din} {n e1 e2 : Int} (h1 : errHas a b x = 0) (k1 : hasV a b x = true) (h2 : errHas a' b' y = 0) (k2 : hasV a' b' y = true)
    (hs : TwoSpec x y (rPlus (dyV x) (dyV y)) s e1) (he1 : e1 = 0) (hc : BallSpec (errC n [(a, b), (a', b')]) (plusL (dyV a) (dyV b) (dyV a') (dyV b') n) (plusH (dyV a) (dyV b) (dyV a') (dyV b') n) r t e2) (he2 : e2 = 0) :
    errHas r t s = 0 ∧ hasV r t s = true := by
  obtain ⟨-, -, i1, i2⟩ := in_of h1 k1
  obtain ⟨-, -, i3, i4⟩ := in_of h2 k2
  obtain ⟨c0, c1, c2, c3, c4⟩ := hc he2
  obtain ⟨-, s2, s3⟩ := hs.ok he1
  obtain ⟨p1, p2⟩ := plus_in (dyV_bare a) (dyV_bare b) (dyV_bare a') (dyV_bare b') i1 i2 i3 i4 (errC_n c0)
  obtain ⟨b1, b2⟩ := plusLH_bare (dyV_bare a) (dyV_bare b) (dyV_bare a') (dyV_bare b') n.toNat
  obtain ⟨g5, g6⟩ := s3.good (rPlus_bare _ _) s2
  exact told b1 b2 c1 c2 c3 c4 g5 g6 p1 p2

theorem holds_sub {a b a' b' x y z r t s : Din} {n e1 e2 : Int} (h1 : errHas a b x = 0) (k1 : hasV a b x = true) (h2 : errHas a' b' y = 0) (k2 : hasV a' b' y = true) (hz : dyV z = dMinus (dyV y))
    (hs : TwoSpec x z (rPlus (dyV x) (dyV z)) s e1) (he1 : e1 = 0) (hc : BallSpec (errC n [(a, b), (a', b')]) (subL (dyV a) (dyV b) (dyV a') (dyV b') n) (subH (dyV a) (dyV b) (dyV a') (dyV b') n) r t e2) (he2 : e2 = 0) :
    errHas r t s = 0 ∧ hasV r t s = true := by
  obtain ⟨-, -, i1, i2⟩ := in_of h1 k1
  obtain ⟨-, -, i3, i4⟩ := in_of h2 k2
  obtain ⟨c0, c1, c2, c3, c4⟩ := hc he2
  obtain ⟨-, s2, s3⟩ := hs.ok he1
  have m1 := dMinus_bare (dyV_bare a')
  have m2 := dMinus_bare (dyV_bare b')
  obtain ⟨p1, p2⟩ := plus_in (dyV_bare a) (dyV_bare b) m2 m1 i1 i2 (leD_minus i4) (leD_minus i3) (errC_n c0)
  obtain ⟨b1, b2⟩ := plusLH_bare (dyV_bare a) (dyV_bare b) m2 m1 n.toNat
  obtain ⟨g5, g6⟩ := s3.good (rPlus_bare _ _) s2
  exact told b1 b2 c1 c2 c3 c4 g5 (by rw [g6, hz]) p1 p2

theorem holds_mul {a b a' b' x y r t s : Din} {n e1 e2 : Int} (h1 : errHas a b x = 0) (k1 : hasV a b x = true) (h2 : errHas a' b' y = 0) (k2 : hasV a' b' y = true)
    (hs : TwoSpec x y (dTimes (dyV x) (dyV y)) s e1) (he1 : e1 = 0) (hc : BallSpec (errC n [(a, b), (a', b')]) (timesL (dyV a) (dyV b) (dyV a') (dyV b') n) (timesH (dyV a) (dyV b) (dyV a') (dyV b') n) r t e2) (he2 : e2 = 0) :
    errHas r t s = 0 ∧ hasV r t s = true := by
  obtain ⟨-, -, i1, i2⟩ := in_of h1 k1
  obtain ⟨-, -, i3, i4⟩ := in_of h2 k2
  obtain ⟨c0, c1, c2, c3, c4⟩ := hc he2
  obtain ⟨-, s2, s3⟩ := hs.ok he1
  obtain ⟨t1, t2⟩ := times_in i1 i2 i3 i4
  obtain ⟨p1, p2⟩ := times_told (n := n.toNat) (errC_n c0) t1 t2
  obtain ⟨b1, b2⟩ := timesLH_bare (dyV a) (dyV b) (dyV a') (dyV b') n.toNat
  obtain ⟨g5, g6⟩ := s3.good (bare_bare _) s2
  exact told b1 b2 c1 c2 c3 c4 g5 g6 p1 p2

theorem overLH_bare {a b a' b' : Dv} (ha : Bare a) (hb : Bare b) (h1 : 0 < a'.m) (h2 : 0 < b'.m) (n : Int) : Bare (overL a b a' b' n) ∧ Bare (overH a b a' b' n) := by
  have B := fun (x y : Dv) (u : Bool) => rOver_bare x y n.toNat u
  have hl : ∀ u, ∀ x ∈ [rOver a b' n.toNat u, rOver b a' n.toNat u, rOver b b' n.toNat u], Bare x := by
    intro u x hx
    simp only [List.mem_cons, List.not_mem_nil, or_false] at hx
    rcases hx with rfl | rfl | rfl <;> exact B _ _ _
  unfold overL overH
  rw [pOver_eq ha h1, pOver_eq ha h2, pOver_eq hb h1, pOver_eq hb h2, pOver_eq ha h1, pOver_eq ha h2, pOver_eq hb h1, pOver_eq hb h2]
  exact ⟨pCut_bare (low_bare (B _ _ _) (hl false)).1 _ _, pCut_bare (low_bare (B _ _ _) (hl true)).2 _ _⟩

theorem divC_ok {n : Int} {a b a' b' : Din} (h : divC n a b a' b' = 0) : errC n [(a, b), (a', b')] = 0 ∧ 0 < (dyV a').m ∧ 0 < (dyV b').m := by
  unfold divC at h
  by_cases h1 : errC n [(a, b), (a', b')] = 0
  · rw [if_pos h1] at h
    by_cases h2 : dSign (dyV a') ≤ 0 ∧ 0 ≤ dSign (dyV b')
    · rw [if_pos h2] at h; omega
    · obtain ⟨-, k2, -, -⟩ := errC_ok2 h1
      obtain ⟨-, -, q⟩ := errBall_ok k2
      exact ⟨h1, ends_ne (dyV_bare a') (dyV_bare b') q h2⟩
  · rw [if_neg h1] at h; exact absurd h h1

/-- What is divided, times what it was divided by. -/
theorem backs_div {a b a' b' q1 q2 r t : Din} {n e1 e2 : Int} (hq : BallSpec (divC n a b a' b') (overL (dyV a) (dyV b) (dyV a') (dyV b') n) (overH (dyV a) (dyV b) (dyV a') (dyV b') n) q1 q2 e1) (he1 : e1 = 0)
    (hp : BallSpec (errC n [(q1, q2), (a', b')]) (timesL (dyV q1) (dyV q2) (dyV a') (dyV b') n) (timesH (dyV q1) (dyV q2) (dyV a') (dyV b') n) r t e2) (he2 : e2 = 0) :
    (errHas r t a = 0 ∧ hasV r t a = true) ∧ (errHas r t b = 0 ∧ hasV r t b = true) := by
  obtain ⟨c0, c1, c2, c3, c4⟩ := hq he1
  obtain ⟨d0, d1, d2, d3, d4⟩ := hp he2
  obtain ⟨k0, n1, n2⟩ := divC_ok c0
  have hn := errC_n k0
  obtain ⟨k1, -, -, -⟩ := errC_ok2 k0
  obtain ⟨f1, f2, -⟩ := errBall_ok k1
  obtain ⟨v1, v2⟩ := overLH_bare (dyV_bare a) (dyV_bare b) n1 n2 n
  obtain ⟨-, w1⟩ := c3.good v1 c1
  obtain ⟨-, w2⟩ := c4.good v2 c2
  obtain ⟨⟨o1, o2⟩, o3, o4⟩ := over_ends_le (dyV_bare a) (dyV_bare b) n1 n2 hn (n := n)
  obtain ⟨b1, b2⟩ := timesLH_bare (dyV q1) (dyV q2) (dyV a') (dyV b') n.toNat
  rw [← w1] at o1 o3
  rw [← w2] at o2 o4
  have key : ∀ x : Din, errDy x = 0 → leD (dyV q1) (rOver (dyV x) (dyV a') n.toNat false) → leD (rOver (dyV x) (dyV a') n.toNat true) (dyV q2) → errHas r t x = 0 ∧ hasV r t x = true := by
    intro x hx m1 m2
    obtain ⟨g1, g2⟩ := over_back (dyV_bare x) n1 m1 m2
    obtain ⟨l1, l2⟩ := rLow_le [dTimes (dyV q1) (dyV b'), dTimes (dyV q2) (dyV a'), dTimes (dyV q2) (dyV b')] (dTimes (dyV q1) (dyV a'))
    obtain ⟨r1, r2⟩ := rHigh_ge [dTimes (dyV q1) (dyV b'), dTimes (dyV q2) (dyV a'), dTimes (dyV q2) (dyV b')] (dTimes (dyV q1) (dyV a'))
    obtain ⟨p1, p2⟩ := times_told (n := n.toNat) hn (v := dyV x)
      (by rcases g1 with g | g; exact leD_trans l1 g; exact leD_trans (l2 _ (by simp)) g)
      (by rcases g2 with g | g; exact leD_trans g r1; exact leD_trans g (r2 _ (by simp)))
    exact told b1 b2 d1 d2 d3 d4 hx rfl p1 p2
  exact ⟨key a f1 o1 o2, key b f2 o3 o4⟩

/-- A root, times itself. -/
theorem backs_root {a b q1 q2 r t : Din} {n e1 e2 : Int} (hq : BallSpec (sqC n a b) (pRoot (dyV a) n.toNat false) (pRoot (dyV b) n.toNat true) q1 q2 e1) (he1 : e1 = 0)
    (hp : BallSpec (errC n [(q1, q2), (q1, q2)]) (timesL (dyV q1) (dyV q2) (dyV q1) (dyV q2) n) (timesH (dyV q1) (dyV q2) (dyV q1) (dyV q2) n) r t e2) (he2 : e2 = 0) :
    (errHas r t a = 0 ∧ hasV r t a = true) ∧ (errHas r t b = 0 ∧ hasV r t b = true) := by
  obtain ⟨c0, c1, c2, c3, c4⟩ := hq he1
  obtain ⟨d0, d1, d2, d3, d4⟩ := hp he2
  unfold sqC at c0
  by_cases k0 : errC n [(a, b)] = 0
  · rw [if_pos k0] at c0
    obtain ⟨k1, k3, -⟩ := errC_ok1 k0
    obtain ⟨f1, f2, f3⟩ := errBall_ok k1
    have hs : ¬ dSign (dyV a) < 0 := fun h => by rw [if_pos h] at c0; omega
    have hn : 0 < n.toNat := by omega
    have hab := pCmp_leD (dyV_bare a) (dyV_bare b) f3
    have na : (dyV a).neg = false := by
      cases h : (dyV a).neg
      · rfl
      · exfalso
        unfold dSign at hs
        by_cases h0 : (dyV a).m = 0
        · have := (dyV_bare a).zero h0
          rw [this] at h; simp at h
        · rw [if_neg h0, h] at hs; simp at hs
    have nb : (dyV b).neg = false := by
      cases h : (dyV b).neg
      · rfl
      · exfalso
        have h0 : 0 < (dyV b).m := by
          rcases Nat.eq_zero_or_pos (dyV b).m with h0 | h0
          · have := (dyV_bare b).zero h0
            rw [this] at h; simp at h
          · exact h0
        obtain ⟨e, e1, e2⟩ : ∃ e : Int, e ≤ (dyV a).e ∧ e ≤ (dyV b).e := ⟨min (dyV a).e (dyV b).e, by omega, by omega⟩
        rw [leD_iff e1 e2] at hab
        unfold zOf sg at hab
        rw [na, h] at hab
        simp only [Bool.false_eq_true, if_false, if_true] at hab
        have := Nat.mul_pos h0 (Nat.pow_pos (a := 2) (n := ((dyV b).e - e).toNat) (by omega))
        omega
    rw [pRoot_eq (dyV_bare a)] at c1 c3
    rw [pRoot_eq (dyV_bare b)] at c2 c4
    obtain ⟨-, w1⟩ := c3.good (rRoot_bare _ _ _) c1
    obtain ⟨-, w2⟩ := c4.good (rRoot_bare _ _ _) c2
    obtain ⟨t1, -⟩ := root_times (dyV_bare a) na n.toNat hn
    obtain ⟨-, t2⟩ := root_times (dyV_bare b) nb n.toNat hn
    rw [← w1] at t1
    rw [← w2] at t2
    obtain ⟨b1, b2⟩ := timesLH_bare (dyV q1) (dyV q2) (dyV q1) (dyV q2) n.toNat
    obtain ⟨l1, l2⟩ := rLow_le [dTimes (dyV q1) (dyV q2), dTimes (dyV q2) (dyV q1), dTimes (dyV q2) (dyV q2)] (dTimes (dyV q1) (dyV q1))
    obtain ⟨r1, r2⟩ := rHigh_ge [dTimes (dyV q1) (dyV q2), dTimes (dyV q2) (dyV q1), dTimes (dyV q2) (dyV q2)] (dTimes (dyV q1) (dyV q1))
    have r3 := r2 (dTimes (dyV q2) (dyV q2)) (by simp)
    obtain ⟨p1, p2⟩ := times_told (n := n.toNat) hn (v := dyV a) (leD_trans l1 t1) (leD_trans hab (leD_trans t2 r3))
    obtain ⟨p3, p4⟩ := times_told (n := n.toNat) hn (v := dyV b) (leD_trans (leD_trans l1 t1) hab) (leD_trans t2 r3)
    exact ⟨told b1 b2 d1 d2 d3 d4 f1 rfl p1 p2, told b1 b2 d1 d2 d3 d4 f2 rfl p3 p4⟩
  · rw [if_neg k0] at c0; exact absurd c0 k0

end Go.Proofs.YtkooikgplpamlaaDoor
