/- The law DyadTurns: its walk. -/
import Derived.Test.YtcbjidcpcompoaaDoorZDyOut
namespace Go.Proofs.YtcbjidcpcompoaaDoor
open Go.RowKit Go.Slip



/-- What the three kinds of answers come to. -/
theorem turns_same {a b r s : Din} {e f : Int} (h1 : TwoSpec a b (rPlus (dyV a) (dyV b)) r e) (h2 : TwoSpec b a (rPlus (dyV b) (dyV a)) s f) (h0 : errDy2 a b = 0) :
    e = f ∧ (e = 0 → OutOf r (rPlus (dyV a) (dyV b)) ∧ OutOf s (rPlus (dyV a) (dyV b)) ∧ (dig B32 (rPlus (dyV a) (dyV b)).m).length ≤ 1000000000) := by
  obtain ⟨h3, h4⟩ := errDy2_ok h0
  obtain ⟨k1, k2⟩ := h1.of h0
  obtain ⟨k3, k4⟩ := h2.of (errDy2_of h4 h3)
  rw [rPlus_comm (dyV b) (dyV a)] at k3 k4
  refine ⟨by rw [k1, k3], fun he => ?_⟩
  have hd : errD (rPlus (dyV a) (dyV b)) = 0 := by rw [← k1, he]
  unfold doneD at k2 k4
  rw [if_pos hd] at k2 k4
  exact ⟨k2, k4, by have := (errD_bd hd).1; omega⟩

theorem turns_sum {a b c ab bc x y : Din} {e1 e3 e4 e5 : Int} (h1 : TwoSpec a b (rPlus (dyV a) (dyV b)) ab e1) (h3 : TwoSpec b c (rPlus (dyV b) (dyV c)) bc e3)
    (h4 : TwoSpec ab c (rPlus (dyV ab) (dyV c)) x e4) (h5 : TwoSpec a bc (rPlus (dyV a) (dyV bc)) y e5) (k1 : e1 = 0) (k3 : e3 = 0) (k4 : e4 = 0) :
    ∃ D, e5 = 0 ∧ OutOf x D ∧ OutOf y D ∧ (dig B32 D.m).length ≤ 1000000000 := by
  obtain ⟨p1, p2, p3⟩ := h1.ok k1
  obtain ⟨q1, q2, q3⟩ := h3.ok k3
  obtain ⟨r1, r2, r3⟩ := h4.ok k4
  obtain ⟨u1, u2⟩ := p3.good (rPlus_bare _ _) p2
  obtain ⟨v1, v2⟩ := q3.good (rPlus_bare _ _) q2
  rw [u2, rPlus_assoc] at r2 r3
  rw [v2] at h5
  obtain ⟨t1, t2⟩ := h5.made (errDy2_of (errDy2_ok p1).1 v1) r2
  exact ⟨_, t1, r3, t2, by have := (errD_bd r2).1; omega⟩

theorem turns_spread {a b c ab p q r s : Din} {e1 e6 e7 e8 e9 : Int} (h1 : TwoSpec a b (rPlus (dyV a) (dyV b)) ab e1) (h6 : TwoSpec ab c (dTimes (dyV ab) (dyV c)) p e6)
    (h7 : TwoSpec a c (dTimes (dyV a) (dyV c)) q e7) (h8 : TwoSpec b c (dTimes (dyV b) (dyV c)) r e8) (h9 : TwoSpec q r (rPlus (dyV q) (dyV r)) s e9) (k1 : e1 = 0) (k6 : e6 = 0) (k7 : e7 = 0) (k8 : e8 = 0) :
    ∃ D, e9 = 0 ∧ OutOf p D ∧ OutOf s D ∧ (dig B32 D.m).length ≤ 1000000000 := by
  obtain ⟨p1, p2, p3⟩ := h1.ok k1
  obtain ⟨q1, q2, q3⟩ := h6.ok k6
  obtain ⟨r1, r2, r3⟩ := h7.ok k7
  obtain ⟨t1, t2, t3⟩ := h8.ok k8
  obtain ⟨u1, u2⟩ := p3.good (rPlus_bare _ _) p2
  obtain ⟨v1, v2⟩ := r3.good (dTimes_bare _ _) r2
  obtain ⟨x1, x2⟩ := t3.good (dTimes_bare _ _) t2
  rw [u2, dTimes_spread] at q2 q3
  rw [v2, x2] at h9
  obtain ⟨y1, y2⟩ := h9.made (errDy2_of v1 x1) q2
  exact ⟨_, y1, q3, y2, by have := (errD_bd q2).1; omega⟩

theorem TwoSpec.bad {a b r : Din} {D : Dv} {er : Int} (h : TwoSpec a b D r er) (h0 : errDy2 a b ≠ 0) : er ≠ 0 := by
  obtain ⟨h1, _⟩ := h
  unfold errTwo at h1
  rw [if_neg h0] at h1
  rw [h1]; exact h0

set_option maxHeartbeats 8000000 in
set_option maxRecDepth 100000 in
theorem lawDTurn_any (a b c : Din) (w : World) (ha : InD w a) (hb : InD w b) (hc : InD w c) (hT : TabW w) :
    Calls Tryd.prog 9 #[.agg #[.bool a.g, .slice a.p a.xs.length a.c, .int .i64 a.e], .agg #[.bool b.g, .slice b.p b.xs.length b.c, .int .i64 b.e], .agg #[.bool c.g, .slice c.p c.xs.length c.c, .int .i64 c.e]] w fun e w' => e = .returned (.bool true) ∧ Below w.heap.size w w' := by
  obtain ⟨W1, hW1, hs, XA, XB, XC, hz1⟩ := box3s w (.bool a.g) (.slice a.p a.xs.length a.c) (.int .i64 a.e) (.bool b.g) (.slice b.p b.xs.length b.c) (.int .i64 b.e) (.bool c.g) (.slice c.p c.xs.length c.c) (.int .i64 c.e) 25 25 25
  have ia := ha.past hs
  have ib := hb.past hs
  have ic := hc.past hs
  have hT1 := hT.past hs
  have HW1 := Lib.hid hW1
  clear hW1 hz1
  go_enter Tryd.func9, Tryd.ntmps9
  go_wp2_with fail
  rw [← HW1.out]
  clear HW1
  ((with_reducible refine (dyadBegun_any _ hT1).mono ?_))
  rintro en wn ⟨rfl, hbn⟩
  replace hs := hs.trans (hbn.mono hs.size)
  replace XA := XA.past hbn
  replace XB := XB.past hbn
  replace XC := XC.past hbn
  replace ia := ia.past hbn
  replace ib := ib.past hbn
  replace ic := ic.past hbn
  replace hT1 := hT1.past hbn
  clear hbn
  have c0 := XA.c0
  have c1 := XA.c1
  have c2 := XA.c2
  have d0 := XB.c0
  have d1 := XB.c1
  have d2 := XB.c2
  go_wp2_with fail
  clear c0 c1 c2 d0 d1 d2
  ((with_reducible refine (dyAdd_in a b _ ia ib hT1).mono ?_))
  rintro en wn ⟨ab, e1, rfl, iab, hbn, sab⟩
  replace hs := hs.trans (hbn.mono hs.size)
  replace XA := XA.past hbn
  replace XB := XB.past hbn
  replace XC := XC.past hbn
  replace ia := ia.past hbn
  replace ib := ib.past hbn
  replace ic := ic.past hbn
  replace hT1 := hT1.past hbn
  have Xab := box3_new wn (.bool ab.g) (.slice ab.p ab.xs.length ab.c) (.int .i64 ab.e) 25
  have hcn : Below wn.heap.size wn (wn.alloc (.cells #[.bool ab.g, .slice ab.p ab.xs.length ab.c, .int .i64 ab.e] 25)) := (Below.refl _ _).alloc (Nat.le_refl _) _
  replace hs := hs.trans (hcn.mono hs.size)
  replace XA := XA.past hcn
  replace XB := XB.past hcn
  replace XC := XC.past hcn
  replace ia := ia.past hcn
  replace ib := ib.past hcn
  replace ic := ic.past hcn
  replace hT1 := hT1.past hcn
  replace iab := iab.past hcn
  clear hbn hcn
  have c0 := XB.c0
  have c1 := XB.c1
  have c2 := XB.c2
  have d0 := XA.c0
  have d1 := XA.c1
  have d2 := XA.c2
  go_wp2_with fail
  clear c0 c1 c2 d0 d1 d2
  ((with_reducible refine (dyAdd_in b a _ ib ia hT1).mono ?_))
  rintro en wn ⟨ba, e2, rfl, iba, hbn, sba⟩
  replace hs := hs.trans (hbn.mono hs.size)
  replace XA := XA.past hbn
  replace XB := XB.past hbn
  replace XC := XC.past hbn
  replace ia := ia.past hbn
  replace ib := ib.past hbn
  replace ic := ic.past hbn
  replace hT1 := hT1.past hbn
  replace Xab := Xab.past hbn
  replace iab := iab.past hbn
  have Xba := box3_new wn (.bool ba.g) (.slice ba.p ba.xs.length ba.c) (.int .i64 ba.e) 25
  have hcn : Below wn.heap.size wn (wn.alloc (.cells #[.bool ba.g, .slice ba.p ba.xs.length ba.c, .int .i64 ba.e] 25)) := (Below.refl _ _).alloc (Nat.le_refl _) _
  replace hs := hs.trans (hcn.mono hs.size)
  replace XA := XA.past hcn
  replace XB := XB.past hcn
  replace XC := XC.past hcn
  replace ia := ia.past hcn
  replace ib := ib.past hcn
  replace ic := ic.past hcn
  replace hT1 := hT1.past hcn
  replace Xab := Xab.past hcn
  replace iab := iab.past hcn
  replace iba := iba.past hcn
  clear hbn hcn
  have c0 := XB.c0
  have c1 := XB.c1
  have c2 := XB.c2
  have d0 := XC.c0
  have d1 := XC.c1
  have d2 := XC.c2
  go_wp2_with fail
  clear c0 c1 c2 d0 d1 d2
  ((with_reducible refine (dyAdd_in b c _ ib ic hT1).mono ?_))
  rintro en wn ⟨bc, e3, rfl, ibc, hbn, sbc⟩
  replace hs := hs.trans (hbn.mono hs.size)
  replace XA := XA.past hbn
  replace XB := XB.past hbn
  replace XC := XC.past hbn
  replace ia := ia.past hbn
  replace ib := ib.past hbn
  replace ic := ic.past hbn
  replace hT1 := hT1.past hbn
  replace Xab := Xab.past hbn
  replace iab := iab.past hbn
  replace Xba := Xba.past hbn
  replace iba := iba.past hbn
  have Xbc := box3_new wn (.bool bc.g) (.slice bc.p bc.xs.length bc.c) (.int .i64 bc.e) 25
  have hcn : Below wn.heap.size wn (wn.alloc (.cells #[.bool bc.g, .slice bc.p bc.xs.length bc.c, .int .i64 bc.e] 25)) := (Below.refl _ _).alloc (Nat.le_refl _) _
  replace hs := hs.trans (hcn.mono hs.size)
  replace XA := XA.past hcn
  replace XB := XB.past hcn
  replace XC := XC.past hcn
  replace ia := ia.past hcn
  replace ib := ib.past hcn
  replace ic := ic.past hcn
  replace hT1 := hT1.past hcn
  replace Xab := Xab.past hcn
  replace iab := iab.past hcn
  replace Xba := Xba.past hcn
  replace iba := iba.past hcn
  replace ibc := ibc.past hcn
  clear hbn hcn
  have c0 := XA.c0
  have c1 := XA.c1
  have c2 := XA.c2
  have d0 := XB.c0
  have d1 := XB.c1
  have d2 := XB.c2
  go_wp2_with fail
  clear c0 c1 c2 d0 d1 d2
  ((with_reducible refine (refTwoDyads_any a b _ ia.rd ia.len ib.rd ib.len).mono ?_))
  rintro en wn ⟨rfl, hbn⟩
  replace hs := hs.trans (hbn.mono hs.size)
  replace XA := XA.past hbn
  replace XB := XB.past hbn
  replace XC := XC.past hbn
  replace ia := ia.past hbn
  replace ib := ib.past hbn
  replace ic := ic.past hbn
  replace hT1 := hT1.past hbn
  replace Xab := Xab.past hbn
  replace iab := iab.past hbn
  replace Xba := Xba.past hbn
  replace iba := iba.past hbn
  replace Xbc := Xbc.past hbn
  replace ibc := ibc.past hbn
  clear hbn
  by_cases h1 : e1 = 0
  · have HD := sab.ok h1
    obtain ⟨hd, _, _⟩ := HD
    obtain ⟨q1, q2⟩ := turns_same sab sba hd
    obtain ⟨o1, o2, ol⟩ := q2 h1
    subst h1
    subst q1
    rw [hd]
    clear hd q2
    have c0 := Xab.c0
    have c1 := Xab.c1
    have c2 := Xab.c2
    have d0 := Xba.c0
    have d1 := Xba.c1
    have d2 := Xba.c2
    go_wp2_with fail
    clear c0 c1 c2 d0 d1 d2
    ((with_reducible refine (refSameDyad_out ab ba _ _ _ iab iba o1 o2 ol ol).mono ?_))
    rw [decide_eq_true rfl]
    rintro en wn ⟨rfl, hbn⟩
    replace hs := hs.trans (hbn.mono hs.size)
    replace XA := XA.past hbn
    replace XB := XB.past hbn
    replace XC := XC.past hbn
    replace ia := ia.past hbn
    replace ib := ib.past hbn
    replace ic := ic.past hbn
    replace hT1 := hT1.past hbn
    replace Xab := Xab.past hbn
    replace iab := iab.past hbn
    replace Xba := Xba.past hbn
    replace iba := iba.past hbn
    replace Xbc := Xbc.past hbn
    replace ibc := ibc.past hbn
    clear hbn o1 o2 ol
    have c0 := Xab.c0
    have c1 := Xab.c1
    have c2 := Xab.c2
    have d0 := XC.c0
    have d1 := XC.c1
    have d2 := XC.c2
    go_wp2_with fail
    clear c0 c1 c2 d0 d1 d2
    ((with_reducible refine (dyAdd_in ab c _ iab ic hT1).mono ?_))
    rintro en wn ⟨x, e4, rfl, ix, hbn, sx⟩
    replace hs := hs.trans (hbn.mono hs.size)
    replace XA := XA.past hbn
    replace XB := XB.past hbn
    replace XC := XC.past hbn
    replace ia := ia.past hbn
    replace ib := ib.past hbn
    replace ic := ic.past hbn
    replace hT1 := hT1.past hbn
    replace Xab := Xab.past hbn
    replace iab := iab.past hbn
    replace Xba := Xba.past hbn
    replace iba := iba.past hbn
    replace Xbc := Xbc.past hbn
    replace ibc := ibc.past hbn
    have Xx := box3_new wn (.bool x.g) (.slice x.p x.xs.length x.c) (.int .i64 x.e) 25
    have hcn : Below wn.heap.size wn (wn.alloc (.cells #[.bool x.g, .slice x.p x.xs.length x.c, .int .i64 x.e] 25)) := (Below.refl _ _).alloc (Nat.le_refl _) _
    replace hs := hs.trans (hcn.mono hs.size)
    replace XA := XA.past hcn
    replace XB := XB.past hcn
    replace XC := XC.past hcn
    replace ia := ia.past hcn
    replace ib := ib.past hcn
    replace ic := ic.past hcn
    replace hT1 := hT1.past hcn
    replace Xab := Xab.past hcn
    replace iab := iab.past hcn
    replace Xba := Xba.past hcn
    replace iba := iba.past hcn
    replace Xbc := Xbc.past hcn
    replace ibc := ibc.past hcn
    replace ix := ix.past hcn
    clear hbn hcn
    have c0 := XA.c0
    have c1 := XA.c1
    have c2 := XA.c2
    have d0 := Xbc.c0
    have d1 := Xbc.c1
    have d2 := Xbc.c2
    go_wp2_with fail
    clear c0 c1 c2 d0 d1 d2
    ((with_reducible refine (dyAdd_in a bc _ ia ibc hT1).mono ?_))
    rintro en wn ⟨y, e5, rfl, iy, hbn, sy⟩
    replace hs := hs.trans (hbn.mono hs.size)
    replace XA := XA.past hbn
    replace XB := XB.past hbn
    replace XC := XC.past hbn
    replace ia := ia.past hbn
    replace ib := ib.past hbn
    replace ic := ic.past hbn
    replace hT1 := hT1.past hbn
    replace Xab := Xab.past hbn
    replace iab := iab.past hbn
    replace Xba := Xba.past hbn
    replace iba := iba.past hbn
    replace Xbc := Xbc.past hbn
    replace ibc := ibc.past hbn
    replace Xx := Xx.past hbn
    replace ix := ix.past hbn
    have Xy := box3_new wn (.bool y.g) (.slice y.p y.xs.length y.c) (.int .i64 y.e) 25
    have hcn : Below wn.heap.size wn (wn.alloc (.cells #[.bool y.g, .slice y.p y.xs.length y.c, .int .i64 y.e] 25)) := (Below.refl _ _).alloc (Nat.le_refl _) _
    replace hs := hs.trans (hcn.mono hs.size)
    replace XA := XA.past hcn
    replace XB := XB.past hcn
    replace XC := XC.past hcn
    replace ia := ia.past hcn
    replace ib := ib.past hcn
    replace ic := ic.past hcn
    replace hT1 := hT1.past hcn
    replace Xab := Xab.past hcn
    replace iab := iab.past hcn
    replace Xba := Xba.past hcn
    replace iba := iba.past hcn
    replace Xbc := Xbc.past hcn
    replace ibc := ibc.past hcn
    replace Xx := Xx.past hcn
    replace ix := ix.past hcn
    replace iy := iy.past hcn
    clear hbn hcn
    go_upto_region 10 with (fail)
    generalize wn.alloc (.cells #[.bool y.g, .slice y.p y.xs.length y.c, .int .i64 y.e] 25) = W5 at *
    go_cut [95] (fun s95 wx => s95 = .bool false ∧ Below W5.heap.size W5 wx)
    case first =>
      by_cases h3 : e3 = 0
      · by_cases h4 : e4 = 0
        · obtain ⟨D, h5, o1, o2, ol⟩ := turns_sum sab sbc sx sy rfl h3 h4
          subst h3 h4 h5
          have c0 := Xx.c0
          have c1 := Xx.c1
          have c2 := Xx.c2
          have d0 := Xy.c0
          have d1 := Xy.c1
          have d2 := Xy.c2
          go_wp2_with fail
          clear c0 c1 c2 d0 d1 d2
          ((with_reducible refine (refSameDyad_out x y _ _ _ ix iy o1 o2 ol ol).mono ?_))
          rw [decide_eq_true rfl]
          rintro en wn ⟨rfl, hbn⟩
          go_wp2_with fail
          go_meet
          exact ⟨rfl, hbn⟩
        · have t4 : (e4 == 0) = false := beq_eq_false_iff_ne.2 h4
          subst h3
          clear h4
          go_wp2_with fail
          go_meet
          exact ⟨rfl, Below.refl _ _⟩
      · have t3 : (e3 == 0) = false := beq_eq_false_iff_ne.2 h3
        clear h3
        go_wp2_with fail
        go_meet
        exact ⟨rfl, Below.refl _ _⟩
    case rest =>
      obtain ⟨rfl, hbn⟩ := hcut
      replace hs := hs.trans (hbn.mono hs.size)
      replace XA := XA.past hbn
      replace XB := XB.past hbn
      replace XC := XC.past hbn
      replace ia := ia.past hbn
      replace ib := ib.past hbn
      replace ic := ic.past hbn
      replace hT1 := hT1.past hbn
      replace Xab := Xab.past hbn
      replace iab := iab.past hbn
      clear hbn
      have c0 := Xab.c0
      have c1 := Xab.c1
      have c2 := Xab.c2
      have d0 := XC.c0
      have d1 := XC.c1
      have d2 := XC.c2
      go_wp2_with fail
      clear c0 c1 c2 d0 d1 d2
      ((with_reducible refine (dyMul_in ab c _ iab ic hT1).mono ?_))
      rintro en wn ⟨p, e6, rfl, ip, hbn, sp⟩
      replace hs := hs.trans (hbn.mono hs.size)
      replace XA := XA.past hbn
      replace XB := XB.past hbn
      replace XC := XC.past hbn
      replace ia := ia.past hbn
      replace ib := ib.past hbn
      replace ic := ic.past hbn
      replace hT1 := hT1.past hbn
      replace Xab := Xab.past hbn
      replace iab := iab.past hbn
      have Xp := box3_new wn (.bool p.g) (.slice p.p p.xs.length p.c) (.int .i64 p.e) 25
      have hcn : Below wn.heap.size wn (wn.alloc (.cells #[.bool p.g, .slice p.p p.xs.length p.c, .int .i64 p.e] 25)) := (Below.refl _ _).alloc (Nat.le_refl _) _
      replace hs := hs.trans (hcn.mono hs.size)
      replace XA := XA.past hcn
      replace XB := XB.past hcn
      replace XC := XC.past hcn
      replace ia := ia.past hcn
      replace ib := ib.past hcn
      replace ic := ic.past hcn
      replace hT1 := hT1.past hcn
      replace Xab := Xab.past hcn
      replace iab := iab.past hcn
      replace ip := ip.past hcn
      clear hbn hcn
      have c0 := XA.c0
      have c1 := XA.c1
      have c2 := XA.c2
      have d0 := XC.c0
      have d1 := XC.c1
      have d2 := XC.c2
      go_wp2_with fail
      clear c0 c1 c2 d0 d1 d2
      ((with_reducible refine (dyMul_in a c _ ia ic hT1).mono ?_))
      rintro en wn ⟨q, e7, rfl, iq, hbn, sq⟩
      replace hs := hs.trans (hbn.mono hs.size)
      replace XB := XB.past hbn
      replace XC := XC.past hbn
      replace ib := ib.past hbn
      replace ic := ic.past hbn
      replace hT1 := hT1.past hbn
      replace Xp := Xp.past hbn
      replace ip := ip.past hbn
      have Xq := box3_new wn (.bool q.g) (.slice q.p q.xs.length q.c) (.int .i64 q.e) 25
      have hcn : Below wn.heap.size wn (wn.alloc (.cells #[.bool q.g, .slice q.p q.xs.length q.c, .int .i64 q.e] 25)) := (Below.refl _ _).alloc (Nat.le_refl _) _
      replace hs := hs.trans (hcn.mono hs.size)
      replace XB := XB.past hcn
      replace XC := XC.past hcn
      replace ib := ib.past hcn
      replace ic := ic.past hcn
      replace hT1 := hT1.past hcn
      replace Xp := Xp.past hcn
      replace ip := ip.past hcn
      replace iq := iq.past hcn
      clear hbn hcn
      have c0 := XB.c0
      have c1 := XB.c1
      have c2 := XB.c2
      have d0 := XC.c0
      have d1 := XC.c1
      have d2 := XC.c2
      go_wp2_with fail
      clear c0 c1 c2 d0 d1 d2
      ((with_reducible refine (dyMul_in b c _ ib ic hT1).mono ?_))
      rintro en wn ⟨r, e8, rfl, ir, hbn, sr⟩
      replace hs := hs.trans (hbn.mono hs.size)
      replace hT1 := hT1.past hbn
      replace Xp := Xp.past hbn
      replace ip := ip.past hbn
      replace Xq := Xq.past hbn
      replace iq := iq.past hbn
      have Xr := box3_new wn (.bool r.g) (.slice r.p r.xs.length r.c) (.int .i64 r.e) 25
      have hcn : Below wn.heap.size wn (wn.alloc (.cells #[.bool r.g, .slice r.p r.xs.length r.c, .int .i64 r.e] 25)) := (Below.refl _ _).alloc (Nat.le_refl _) _
      replace hs := hs.trans (hcn.mono hs.size)
      replace hT1 := hT1.past hcn
      replace Xp := Xp.past hcn
      replace ip := ip.past hcn
      replace Xq := Xq.past hcn
      replace iq := iq.past hcn
      replace ir := ir.past hcn
      clear hbn hcn
      have c0 := Xq.c0
      have c1 := Xq.c1
      have c2 := Xq.c2
      have d0 := Xr.c0
      have d1 := Xr.c1
      have d2 := Xr.c2
      go_wp2_with fail
      clear c0 c1 c2 d0 d1 d2
      ((with_reducible refine (dyAdd_in q r _ iq ir hT1).mono ?_))
      rintro en wn ⟨s, e9, rfl, is, hbn, ss⟩
      replace hs := hs.trans (hbn.mono hs.size)
      replace hT1 := hT1.past hbn
      replace Xp := Xp.past hbn
      replace ip := ip.past hbn
      have Xs := box3_new wn (.bool s.g) (.slice s.p s.xs.length s.c) (.int .i64 s.e) 25
      have hcn : Below wn.heap.size wn (wn.alloc (.cells #[.bool s.g, .slice s.p s.xs.length s.c, .int .i64 s.e] 25)) := (Below.refl _ _).alloc (Nat.le_refl _) _
      replace hs := hs.trans (hcn.mono hs.size)
      replace hT1 := hT1.past hcn
      replace Xp := Xp.past hcn
      replace ip := ip.past hcn
      replace is := is.past hcn
      clear hbn hcn
      by_cases h6 : e6 = 0
      · by_cases h7 : e7 = 0
        · by_cases h8 : e8 = 0
          · obtain ⟨D, h9, o1, o2, ol⟩ := turns_spread sab sp sq sr ss rfl h6 h7 h8
            subst h6 h7 h8 h9
            have c0 := Xp.c0
            have c1 := Xp.c1
            have c2 := Xp.c2
            have d0 := Xs.c0
            have d1 := Xs.c1
            have d2 := Xs.c2
            go_wp2_with fail
            clear c0 c1 c2 d0 d1 d2
            ((with_reducible refine (refSameDyad_out p s _ _ _ ip is o1 o2 ol ol).mono ?_))
            rw [decide_eq_true rfl]
            rintro en wn ⟨rfl, hbn⟩
            go_wp2_with fail
            go_ret
            exact ⟨rfl, hs.trans (hbn.mono hs.size)⟩
          · have t8 : (e8 == 0) = false := beq_eq_false_iff_ne.2 h8
            have t8' : (e8 != 0) = true := by rw [bne, t8]; rfl
            subst h6 h7
            clear h8
            go_wp2_with fail
            go_ret
            exact ⟨rfl, hs⟩
        · have t7 : (e7 == 0) = false := beq_eq_false_iff_ne.2 h7
          have t7' : (e7 != 0) = true := by rw [bne, t7]; rfl
          subst h6
          clear h7
          go_wp2_with fail
          go_ret
          exact ⟨rfl, hs⟩
      · have t6 : (e6 == 0) = false := beq_eq_false_iff_ne.2 h6
        have t6' : (e6 != 0) = true := by rw [bne, t6]; rfl
        clear h6
        go_wp2_with fail
        go_ret
        exact ⟨rfl, hs⟩
  · have t1 : (e1 == 0) = false := beq_eq_false_iff_ne.2 h1
    have t1' : (e1 != 0) = true := by rw [bne, t1]; rfl
    by_cases hd : errDy2 a b = 0
    · obtain ⟨q1, _⟩ := turns_same sab sba hd
      subst q1
      have t2 : (e1 == e1) = true := by simp
      have t3 : (e1 != e1) = false := by simp
      rw [hd]
      clear hd h1
      have c0 := Xab.c0
      have c1 := Xab.c1
      have c2 := Xab.c2
      have d0 := XC.c0
      have d1 := XC.c1
      have d2 := XC.c2
      go_wp2_with fail
      clear c0 c1 c2 d0 d1 d2
      ((with_reducible refine (dyAdd_in ab c _ iab ic hT1).mono ?_))
      rintro en wn ⟨x, e4, rfl, ix, hbn, sx⟩
      replace hs := hs.trans (hbn.mono hs.size)
      replace XA := XA.past hbn
      replace XB := XB.past hbn
      replace XC := XC.past hbn
      replace ia := ia.past hbn
      replace ib := ib.past hbn
      replace ic := ic.past hbn
      replace hT1 := hT1.past hbn
      replace Xab := Xab.past hbn
      replace iab := iab.past hbn
      replace Xbc := Xbc.past hbn
      replace ibc := ibc.past hbn
      have Xx := box3_new wn (.bool x.g) (.slice x.p x.xs.length x.c) (.int .i64 x.e) 25
      have hcn : Below wn.heap.size wn (wn.alloc (.cells #[.bool x.g, .slice x.p x.xs.length x.c, .int .i64 x.e] 25)) := (Below.refl _ _).alloc (Nat.le_refl _) _
      replace hs := hs.trans (hcn.mono hs.size)
      replace XA := XA.past hcn
      replace XB := XB.past hcn
      replace XC := XC.past hcn
      replace ia := ia.past hcn
      replace ib := ib.past hcn
      replace ic := ic.past hcn
      replace hT1 := hT1.past hcn
      replace Xab := Xab.past hcn
      replace iab := iab.past hcn
      replace Xbc := Xbc.past hcn
      replace ibc := ibc.past hcn
      replace ix := ix.past hcn
      clear hbn hcn
      have c0 := XA.c0
      have c1 := XA.c1
      have c2 := XA.c2
      have d0 := Xbc.c0
      have d1 := Xbc.c1
      have d2 := Xbc.c2
      go_wp2_with fail
      clear c0 c1 c2 d0 d1 d2
      ((with_reducible refine (dyAdd_in a bc _ ia ibc hT1).mono ?_))
      rintro en wn ⟨y, e5, rfl, iy, hbn, sy⟩
      replace hs := hs.trans (hbn.mono hs.size)
      replace XA := XA.past hbn
      replace XB := XB.past hbn
      replace XC := XC.past hbn
      replace ia := ia.past hbn
      replace ib := ib.past hbn
      replace ic := ic.past hbn
      replace hT1 := hT1.past hbn
      replace Xab := Xab.past hbn
      replace iab := iab.past hbn
      have Xy := box3_new wn (.bool y.g) (.slice y.p y.xs.length y.c) (.int .i64 y.e) 25
      have hcn : Below wn.heap.size wn (wn.alloc (.cells #[.bool y.g, .slice y.p y.xs.length y.c, .int .i64 y.e] 25)) := (Below.refl _ _).alloc (Nat.le_refl _) _
      replace hs := hs.trans (hcn.mono hs.size)
      replace XA := XA.past hcn
      replace XB := XB.past hcn
      replace XC := XC.past hcn
      replace ia := ia.past hcn
      replace ib := ib.past hcn
      replace ic := ic.past hcn
      replace hT1 := hT1.past hcn
      replace Xab := Xab.past hcn
      replace iab := iab.past hcn
      replace iy := iy.past hcn
      clear hbn hcn
      have c0 := Xab.c0
      have c1 := Xab.c1
      have c2 := Xab.c2
      have d0 := XC.c0
      have d1 := XC.c1
      have d2 := XC.c2
      go_wp2_with fail
      clear c0 c1 c2 d0 d1 d2
      ((with_reducible refine (dyMul_in ab c _ iab ic hT1).mono ?_))
      rintro en wn ⟨p, e6, rfl, ip, hbn, sp⟩
      replace hs := hs.trans (hbn.mono hs.size)
      replace XA := XA.past hbn
      replace XB := XB.past hbn
      replace XC := XC.past hbn
      replace ia := ia.past hbn
      replace ib := ib.past hbn
      replace ic := ic.past hbn
      replace hT1 := hT1.past hbn
      have Xp := box3_new wn (.bool p.g) (.slice p.p p.xs.length p.c) (.int .i64 p.e) 25
      have hcn : Below wn.heap.size wn (wn.alloc (.cells #[.bool p.g, .slice p.p p.xs.length p.c, .int .i64 p.e] 25)) := (Below.refl _ _).alloc (Nat.le_refl _) _
      replace hs := hs.trans (hcn.mono hs.size)
      replace XA := XA.past hcn
      replace XB := XB.past hcn
      replace XC := XC.past hcn
      replace ia := ia.past hcn
      replace ib := ib.past hcn
      replace ic := ic.past hcn
      replace hT1 := hT1.past hcn
      replace ip := ip.past hcn
      clear hbn hcn
      have c0 := XA.c0
      have c1 := XA.c1
      have c2 := XA.c2
      have d0 := XC.c0
      have d1 := XC.c1
      have d2 := XC.c2
      go_wp2_with fail
      clear c0 c1 c2 d0 d1 d2
      ((with_reducible refine (dyMul_in a c _ ia ic hT1).mono ?_))
      rintro en wn ⟨q, e7, rfl, iq, hbn, sq⟩
      replace hs := hs.trans (hbn.mono hs.size)
      replace XB := XB.past hbn
      replace XC := XC.past hbn
      replace ib := ib.past hbn
      replace ic := ic.past hbn
      replace hT1 := hT1.past hbn
      have Xq := box3_new wn (.bool q.g) (.slice q.p q.xs.length q.c) (.int .i64 q.e) 25
      have hcn : Below wn.heap.size wn (wn.alloc (.cells #[.bool q.g, .slice q.p q.xs.length q.c, .int .i64 q.e] 25)) := (Below.refl _ _).alloc (Nat.le_refl _) _
      replace hs := hs.trans (hcn.mono hs.size)
      replace XB := XB.past hcn
      replace XC := XC.past hcn
      replace ib := ib.past hcn
      replace ic := ic.past hcn
      replace hT1 := hT1.past hcn
      replace iq := iq.past hcn
      clear hbn hcn
      have c0 := XB.c0
      have c1 := XB.c1
      have c2 := XB.c2
      have d0 := XC.c0
      have d1 := XC.c1
      have d2 := XC.c2
      go_wp2_with fail
      clear c0 c1 c2 d0 d1 d2
      ((with_reducible refine (dyMul_in b c _ ib ic hT1).mono ?_))
      rintro en wn ⟨r, e8, rfl, ir, hbn, sr⟩
      replace hs := hs.trans (hbn.mono hs.size)
      replace hT1 := hT1.past hbn
      replace Xq := Xq.past hbn
      replace iq := iq.past hbn
      have Xr := box3_new wn (.bool r.g) (.slice r.p r.xs.length r.c) (.int .i64 r.e) 25
      have hcn : Below wn.heap.size wn (wn.alloc (.cells #[.bool r.g, .slice r.p r.xs.length r.c, .int .i64 r.e] 25)) := (Below.refl _ _).alloc (Nat.le_refl _) _
      replace hs := hs.trans (hcn.mono hs.size)
      replace hT1 := hT1.past hcn
      replace Xq := Xq.past hcn
      replace iq := iq.past hcn
      replace ir := ir.past hcn
      clear hbn hcn
      have c0 := Xq.c0
      have c1 := Xq.c1
      have c2 := Xq.c2
      have d0 := Xr.c0
      have d1 := Xr.c1
      have d2 := Xr.c2
      go_wp2_with fail
      clear c0 c1 c2 d0 d1 d2
      ((with_reducible refine (dyAdd_in q r _ iq ir hT1).mono ?_))
      rintro en wn ⟨s, e9, rfl, is, hbn, ss⟩
      replace hs := hs.trans (hbn.mono hs.size)
      replace hT1 := hT1.past hbn
      have Xs := box3_new wn (.bool s.g) (.slice s.p s.xs.length s.c) (.int .i64 s.e) 25
      have hcn : Below wn.heap.size wn (wn.alloc (.cells #[.bool s.g, .slice s.p s.xs.length s.c, .int .i64 s.e] 25)) := (Below.refl _ _).alloc (Nat.le_refl _) _
      replace hs := hs.trans (hcn.mono hs.size)
      replace hT1 := hT1.past hcn
      replace is := is.past hcn
      clear hbn hcn
      go_wp2_with fail
      go_ret
      exact ⟨rfl, hs⟩
    · have t2 : (errDy2 a b == 0) = false := beq_eq_false_iff_ne.2 hd
      clear hd h1
      generalize errDy2 a b = e0 at *
      have c0 := Xab.c0
      have c1 := Xab.c1
      have c2 := Xab.c2
      have d0 := XC.c0
      have d1 := XC.c1
      have d2 := XC.c2
      go_wp2_with fail
      clear c0 c1 c2 d0 d1 d2
      ((with_reducible refine (dyAdd_in ab c _ iab ic hT1).mono ?_))
      rintro en wn ⟨x, e4, rfl, ix, hbn, sx⟩
      replace hs := hs.trans (hbn.mono hs.size)
      replace XA := XA.past hbn
      replace XB := XB.past hbn
      replace XC := XC.past hbn
      replace ia := ia.past hbn
      replace ib := ib.past hbn
      replace ic := ic.past hbn
      replace hT1 := hT1.past hbn
      replace Xab := Xab.past hbn
      replace iab := iab.past hbn
      replace Xbc := Xbc.past hbn
      replace ibc := ibc.past hbn
      have Xx := box3_new wn (.bool x.g) (.slice x.p x.xs.length x.c) (.int .i64 x.e) 25
      have hcn : Below wn.heap.size wn (wn.alloc (.cells #[.bool x.g, .slice x.p x.xs.length x.c, .int .i64 x.e] 25)) := (Below.refl _ _).alloc (Nat.le_refl _) _
      replace hs := hs.trans (hcn.mono hs.size)
      replace XA := XA.past hcn
      replace XB := XB.past hcn
      replace XC := XC.past hcn
      replace ia := ia.past hcn
      replace ib := ib.past hcn
      replace ic := ic.past hcn
      replace hT1 := hT1.past hcn
      replace Xab := Xab.past hcn
      replace iab := iab.past hcn
      replace Xbc := Xbc.past hcn
      replace ibc := ibc.past hcn
      replace ix := ix.past hcn
      clear hbn hcn
      have c0 := XA.c0
      have c1 := XA.c1
      have c2 := XA.c2
      have d0 := Xbc.c0
      have d1 := Xbc.c1
      have d2 := Xbc.c2
      go_wp2_with fail
      clear c0 c1 c2 d0 d1 d2
      ((with_reducible refine (dyAdd_in a bc _ ia ibc hT1).mono ?_))
      rintro en wn ⟨y, e5, rfl, iy, hbn, sy⟩
      replace hs := hs.trans (hbn.mono hs.size)
      replace XA := XA.past hbn
      replace XB := XB.past hbn
      replace XC := XC.past hbn
      replace ia := ia.past hbn
      replace ib := ib.past hbn
      replace ic := ic.past hbn
      replace hT1 := hT1.past hbn
      replace Xab := Xab.past hbn
      replace iab := iab.past hbn
      have Xy := box3_new wn (.bool y.g) (.slice y.p y.xs.length y.c) (.int .i64 y.e) 25
      have hcn : Below wn.heap.size wn (wn.alloc (.cells #[.bool y.g, .slice y.p y.xs.length y.c, .int .i64 y.e] 25)) := (Below.refl _ _).alloc (Nat.le_refl _) _
      replace hs := hs.trans (hcn.mono hs.size)
      replace XA := XA.past hcn
      replace XB := XB.past hcn
      replace XC := XC.past hcn
      replace ia := ia.past hcn
      replace ib := ib.past hcn
      replace ic := ic.past hcn
      replace hT1 := hT1.past hcn
      replace Xab := Xab.past hcn
      replace iab := iab.past hcn
      replace iy := iy.past hcn
      clear hbn hcn
      have c0 := Xab.c0
      have c1 := Xab.c1
      have c2 := Xab.c2
      have d0 := XC.c0
      have d1 := XC.c1
      have d2 := XC.c2
      go_wp2_with fail
      clear c0 c1 c2 d0 d1 d2
      ((with_reducible refine (dyMul_in ab c _ iab ic hT1).mono ?_))
      rintro en wn ⟨p, e6, rfl, ip, hbn, sp⟩
      replace hs := hs.trans (hbn.mono hs.size)
      replace XA := XA.past hbn
      replace XB := XB.past hbn
      replace XC := XC.past hbn
      replace ia := ia.past hbn
      replace ib := ib.past hbn
      replace ic := ic.past hbn
      replace hT1 := hT1.past hbn
      have Xp := box3_new wn (.bool p.g) (.slice p.p p.xs.length p.c) (.int .i64 p.e) 25
      have hcn : Below wn.heap.size wn (wn.alloc (.cells #[.bool p.g, .slice p.p p.xs.length p.c, .int .i64 p.e] 25)) := (Below.refl _ _).alloc (Nat.le_refl _) _
      replace hs := hs.trans (hcn.mono hs.size)
      replace XA := XA.past hcn
      replace XB := XB.past hcn
      replace XC := XC.past hcn
      replace ia := ia.past hcn
      replace ib := ib.past hcn
      replace ic := ic.past hcn
      replace hT1 := hT1.past hcn
      replace ip := ip.past hcn
      clear hbn hcn
      have c0 := XA.c0
      have c1 := XA.c1
      have c2 := XA.c2
      have d0 := XC.c0
      have d1 := XC.c1
      have d2 := XC.c2
      go_wp2_with fail
      clear c0 c1 c2 d0 d1 d2
      ((with_reducible refine (dyMul_in a c _ ia ic hT1).mono ?_))
      rintro en wn ⟨q, e7, rfl, iq, hbn, sq⟩
      replace hs := hs.trans (hbn.mono hs.size)
      replace XB := XB.past hbn
      replace XC := XC.past hbn
      replace ib := ib.past hbn
      replace ic := ic.past hbn
      replace hT1 := hT1.past hbn
      have Xq := box3_new wn (.bool q.g) (.slice q.p q.xs.length q.c) (.int .i64 q.e) 25
      have hcn : Below wn.heap.size wn (wn.alloc (.cells #[.bool q.g, .slice q.p q.xs.length q.c, .int .i64 q.e] 25)) := (Below.refl _ _).alloc (Nat.le_refl _) _
      replace hs := hs.trans (hcn.mono hs.size)
      replace XB := XB.past hcn
      replace XC := XC.past hcn
      replace ib := ib.past hcn
      replace ic := ic.past hcn
      replace hT1 := hT1.past hcn
      replace iq := iq.past hcn
      clear hbn hcn
      have c0 := XB.c0
      have c1 := XB.c1
      have c2 := XB.c2
      have d0 := XC.c0
      have d1 := XC.c1
      have d2 := XC.c2
      go_wp2_with fail
      clear c0 c1 c2 d0 d1 d2
      ((with_reducible refine (dyMul_in b c _ ib ic hT1).mono ?_))
      rintro en wn ⟨r, e8, rfl, ir, hbn, sr⟩
      replace hs := hs.trans (hbn.mono hs.size)
      replace hT1 := hT1.past hbn
      replace Xq := Xq.past hbn
      replace iq := iq.past hbn
      have Xr := box3_new wn (.bool r.g) (.slice r.p r.xs.length r.c) (.int .i64 r.e) 25
      have hcn : Below wn.heap.size wn (wn.alloc (.cells #[.bool r.g, .slice r.p r.xs.length r.c, .int .i64 r.e] 25)) := (Below.refl _ _).alloc (Nat.le_refl _) _
      replace hs := hs.trans (hcn.mono hs.size)
      replace hT1 := hT1.past hcn
      replace Xq := Xq.past hcn
      replace iq := iq.past hcn
      replace ir := ir.past hcn
      clear hbn hcn
      have c0 := Xq.c0
      have c1 := Xq.c1
      have c2 := Xq.c2
      have d0 := Xr.c0
      have d1 := Xr.c1
      have d2 := Xr.c2
      go_wp2_with fail
      clear c0 c1 c2 d0 d1 d2
      ((with_reducible refine (dyAdd_in q r _ iq ir hT1).mono ?_))
      rintro en wn ⟨s, e9, rfl, is, hbn, ss⟩
      replace hs := hs.trans (hbn.mono hs.size)
      replace hT1 := hT1.past hbn
      have Xs := box3_new wn (.bool s.g) (.slice s.p s.xs.length s.c) (.int .i64 s.e) 25
      have hcn : Below wn.heap.size wn (wn.alloc (.cells #[.bool s.g, .slice s.p s.xs.length s.c, .int .i64 s.e] 25)) := (Below.refl _ _).alloc (Nat.le_refl _) _
      replace hs := hs.trans (hcn.mono hs.size)
      replace hT1 := hT1.past hcn
      replace is := is.past hcn
      clear hbn hcn
      go_wp2_with fail
      go_ret
      exact ⟨rfl, hs⟩

end Go.Proofs.YtcbjidcpcompoaaDoor
