/- The law BallBacks: its walk. -/
import Derived.Test.YtkooikgplpamlaaDoorZLawB1
import Derived.Test.YtkooikgplpamlaaDoorZBaOut
namespace Go.Proofs.YtkooikgplpamlaaDoor
open Go.RowKit Go.Slip

set_option maxHeartbeats 8000000 in
set_option maxRecDepth 100000 in
theorem lawBBack_row (a b a' b' : Din) (n : Int) (w : World) (ha : InD w a) (hb : InD w b) (ha' : InD w a') (hb' : InD w b') (hT : TabW w) :
    Calls Tryd.prog 12 #[.agg #[.bool a.g, .slice a.p a.xs.length a.c, .int .i64 a.e, .bool b.g, .slice b.p b.xs.length b.c, .int .i64 b.e], .agg #[.bool a'.g, .slice a'.p a'.xs.length a'.c, .int .i64 a'.e, .bool b'.g, .slice b'.p b'.xs.length b'.c, .int .i64 b'.e], .int .i64 n] w fun e w' => e = .returned (.bool true) ∧ Below w.heap.size w w' := by
  have HD := fun q1 q2 r t e1 e2 p1 p2 p3 p4 => Lib.hid (backs_div (a := a) (b := b) (a' := a') (b' := b') (n := n) (q1 := q1) (q2 := q2) (r := r) (t := t) (e1 := e1) (e2 := e2) p1 p2 p3 p4)
  have HR := fun q1 q2 r t e1 e2 p1 p2 p3 p4 => Lib.hid (backs_root (a := a) (b := b) (n := n) (q1 := q1) (q2 := q2) (r := r) (t := t) (e1 := e1) (e2 := e2) p1 p2 p3 p4)
  go_enter Tryd.func12, Tryd.ntmps12
  go_upto_region 1 with (fail)
  refine wp_lay2 (fun W1 hb1 hz1 A B => ?_)
  have hs1 := hb1
  go_wp2_with fail
  ((with_reducible refine (ballBegun_any _ (hT.past hs1)).mono ?_))
  rintro e2 w2 ⟨rfl, hb2⟩
  replace A := A.past hb2
  replace B := B.past hb2
  have hs2 := hs1.trans (hb2.mono hs1.size)
  obtain ⟨A_0, A_1, A_2, A_3, A_4, A_5⟩ := A.e6
  obtain ⟨B_0, B_1, B_2, B_3, B_4, B_5⟩ := B.e6
  go_wp2_with fail
  clear A_0 A_1 A_2 A_3 A_4 A_5 B_0 B_1 B_2 B_3 B_4 B_5
  ((with_reducible refine (bDiv_in a b a' b' n _ (ha.past hs2) (hb.past hs2) (ha'.past hs2) (hb'.past hs2) (hT.past hs2)).mono ?_))
  rintro e3 w3 ⟨q1, q2, e1, rfl, i1, i2, hb3, Sq⟩
  replace A := A.past hb3
  replace B := B.past hb3
  have hs3 := hs2.trans (hb3.mono hs2.size)
  go_upto_region 4 with (fail)
  refine wp_lay1 (fun W4 hb4 hz4 Q => ?_)
  replace A := A.past hb4
  replace B := B.past hb4
  replace i1 := i1.past hb4
  replace i2 := i2.past hb4
  have hs4 := hs3.trans (hb4.mono hs3.size)
  go_upto_if 32 with (fail)
  go_cut [6, 8] (fun s6 s8 wx => s6 = .bool false ∧ Below W4.heap.size W4 wx)
  case first =>
    clear HR
    by_cases g1 : e1 = 0
    · have t1 : (e1 == 0) = true := by simpa using g1
      obtain ⟨Q_0, Q_1, Q_2, Q_3, Q_4, Q_5⟩ := Q.e6
      obtain ⟨B_0, B_1, B_2, B_3, B_4, B_5⟩ := B.e6
      go_wp2_with fail
      clear Q_0 Q_1 Q_2 Q_3 Q_4 Q_5 B_0 B_1 B_2 B_3 B_4 B_5
      clear t1
      ((with_reducible refine (bMul_in q1 q2 a' b' n _ i1 i2 (ha'.past hs4) (hb'.past hs4) (hT.past hs4)).mono ?_))
      rintro e5 w5 ⟨r, t, ep, rfl, ir, it, hb5, Sp⟩
      replace A := A.past hb5
      replace B := B.past hb5
      replace Q := Q.past hb5
      have hs5 := hs4.trans (hb5.mono hs4.size)
      go_upto_region 6 with (fail)
      refine wp_lay1 (fun W6 hb6 hz6 P => ?_)
      replace A := A.past hb6
      replace B := B.past hb6
      replace Q := Q.past hb6
      replace ir := ir.past hb6
      replace it := it.past hb6
      have hs6 := hs5.trans (hb6.mono hs5.size)
      by_cases g2 : ep = 0
      · have t1 : (ep == 0) = true := by simpa using g2
        have HK := HD q1 q2 r t e1 ep Sq g1 Sp g2
        obtain ⟨⟨m1, m2⟩, m3, m4⟩ := HK.out
        have HC := fun W j1 j2 j3 j4 => Lib.hid (show Calls Tryd.prog 25 #[.agg #[.bool r.g, .slice r.p r.xs.length r.c, .int .i64 r.e, .bool t.g, .slice t.p t.xs.length t.c, .int .i64 t.e], .agg #[.bool a.g, .slice a.p a.xs.length a.c, .int .i64 a.e]] W fun en w' => en = .returned (.tuple #[.bool true, .int .i64 0]) ∧ Below W.heap.size W w' by have h := ballHas_any r t a W j1 j2 j3 j4; rw [m1, m2] at h; exact h)
        have HC2 := fun W j1 j2 j3 j4 => Lib.hid (show Calls Tryd.prog 25 #[.agg #[.bool r.g, .slice r.p r.xs.length r.c, .int .i64 r.e, .bool t.g, .slice t.p t.xs.length t.c, .int .i64 t.e], .agg #[.bool b.g, .slice b.p b.xs.length b.c, .int .i64 b.e]] W fun en w' => en = .returned (.tuple #[.bool true, .int .i64 0]) ∧ Below W.heap.size W w' by have h := ballHas_any r t b W j1 j2 j3 j4; rw [m3, m4] at h; exact h)
        clear HD Sq Sp g1 g2 HK m1 m2 m3 m4
        obtain ⟨P_0, P_1, P_2, P_3, P_4, P_5⟩ := P.e6
        obtain ⟨A_0, A_1, A_2, A_3, A_4, A_5⟩ := A.e6
        go_wp2_with fail
        clear P_0 P_1 P_2 P_3 P_4 P_5 A_0 A_1 A_2 A_3 A_4 A_5
        ((with_reducible refine (HC _ ir it (ha.past hs6) (hT.past hs6)).out.mono ?_))
        rintro e7 w7 ⟨rfl, hb7⟩
        replace A := A.past hb7
        replace B := B.past hb7
        replace Q := Q.past hb7
        replace P := P.past hb7
        replace ir := ir.past hb7
        replace it := it.past hb7
        have hs7 := hs6.trans (hb7.mono hs6.size)
        obtain ⟨P_0, P_1, P_2, P_3, P_4, P_5⟩ := P.e6
        obtain ⟨A_0, A_1, A_2, A_3, A_4, A_5⟩ := A.e6
        go_wp2_with fail
        clear P_0 P_1 P_2 P_3 P_4 P_5 A_0 A_1 A_2 A_3 A_4 A_5
        ((with_reducible refine (HC2 _ ir it (hb.past hs7) (hT.past hs7)).out.mono ?_))
        rintro e8 w8 ⟨rfl, hb8⟩
        go_wp2_with fail
        go_meet
        exact ⟨rfl, (((hb5.trans (hb6.mono hb5.size)).trans (hb7.mono (Nat.le_trans hb5.size hb6.size))).trans (hb8.mono (Nat.le_trans (Nat.le_trans hb5.size hb6.size) hb7.size)))⟩
      · have t1 : (ep == 0) = false := beq_eq_false_iff_ne.2 g2
        have HC := fun W j1 j2 j3 j4 => Lib.hid (ballHas_any r t a W j1 j2 j3 j4)
        have HC2 := fun W j1 j2 j3 j4 => Lib.hid (ballHas_any r t b W j1 j2 j3 j4)
        generalize hasV r t a = x1 at *
        generalize hasV r t b = x2 at *
        generalize errHas r t a = x3 at *
        generalize errHas r t b = x4 at *
        clear HD Sq Sp g1 g2
        obtain ⟨P_0, P_1, P_2, P_3, P_4, P_5⟩ := P.e6
        obtain ⟨A_0, A_1, A_2, A_3, A_4, A_5⟩ := A.e6
        go_wp2_with fail
        clear P_0 P_1 P_2 P_3 P_4 P_5 A_0 A_1 A_2 A_3 A_4 A_5
        ((with_reducible refine (HC _ ir it (ha.past hs6) (hT.past hs6)).out.mono ?_))
        rintro e7 w7 ⟨rfl, hb7⟩
        replace A := A.past hb7
        replace B := B.past hb7
        replace Q := Q.past hb7
        replace P := P.past hb7
        replace ir := ir.past hb7
        replace it := it.past hb7
        have hs7 := hs6.trans (hb7.mono hs6.size)
        obtain ⟨P_0, P_1, P_2, P_3, P_4, P_5⟩ := P.e6
        obtain ⟨A_0, A_1, A_2, A_3, A_4, A_5⟩ := A.e6
        go_wp2_with fail
        clear P_0 P_1 P_2 P_3 P_4 P_5 A_0 A_1 A_2 A_3 A_4 A_5
        ((with_reducible refine (HC2 _ ir it (hb.past hs7) (hT.past hs7)).out.mono ?_))
        rintro e8 w8 ⟨rfl, hb8⟩
        go_wp2_with fail
        go_meet
        exact ⟨rfl, (((hb5.trans (hb6.mono hb5.size)).trans (hb7.mono (Nat.le_trans hb5.size hb6.size))).trans (hb8.mono (Nat.le_trans (Nat.le_trans hb5.size hb6.size) hb7.size)))⟩
    · have t1 : (e1 == 0) = false := beq_eq_false_iff_ne.2 g1
      clear HD Sq g1
      go_wp2_with fail
      go_meet
      exact ⟨rfl, Below.refl _ _⟩
  case rest =>
    obtain ⟨rfl, hb9⟩ := hcut
    clear i1 i2 HD Sq Q
    replace A := A.past hb9
    replace B := B.past hb9
    have hs9 := hs4.trans (hb9.mono hs4.size)
    obtain ⟨A_0, A_1, A_2, A_3, A_4, A_5⟩ := A.e6
    go_wp2_with fail
    clear A_0 A_1 A_2 A_3 A_4 A_5
    ((with_reducible refine (bSqrt_in a b n _ (ha.past hs9) (hb.past hs9) (hT.past hs9)).mono ?_))
    rintro e10 w10 ⟨q1, q2, e1, rfl, i1, i2, hb10, Sq⟩
    replace A := A.past hb10
    replace B := B.past hb10
    have hs10 := hs9.trans (hb10.mono hs9.size)
    go_upto_region 11 with (fail)
    refine wp_lay1 (fun W11 hb11 hz11 Q => ?_)
    replace A := A.past hb11
    replace B := B.past hb11
    replace i1 := i1.past hb11
    replace i2 := i2.past hb11
    have hs11 := hs10.trans (hb11.mono hs10.size)
    by_cases g1 : e1 = 0
    · have t1 : (e1 != 0) = false := by simpa using g1
      obtain ⟨Q_0, Q_1, Q_2, Q_3, Q_4, Q_5⟩ := Q.e6
      go_wp2_with fail
      clear Q_0 Q_1 Q_2 Q_3 Q_4 Q_5
      clear t1
      ((with_reducible refine (bMul_in q1 q2 q1 q2 n _ i1 i2 i1 i2 (hT.past hs11)).mono ?_))
      rintro e12 w12 ⟨r, t, ep, rfl, ir, it, hb12, Sp⟩
      replace A := A.past hb12
      replace B := B.past hb12
      replace Q := Q.past hb12
      have hs12 := hs11.trans (hb12.mono hs11.size)
      go_upto_region 14 with (fail)
      refine wp_lay1 (fun W13 hb13 hz13 P => ?_)
      replace A := A.past hb13
      replace B := B.past hb13
      replace Q := Q.past hb13
      replace ir := ir.past hb13
      replace it := it.past hb13
      have hs13 := hs12.trans (hb13.mono hs12.size)
      by_cases g2 : ep = 0
      · have t1 : (ep != 0) = false := by simpa using g2
        have HK := HR q1 q2 r t e1 ep Sq g1 Sp g2
        obtain ⟨⟨m1, m2⟩, m3, m4⟩ := HK.out
        have HC := fun W j1 j2 j3 j4 => Lib.hid (show Calls Tryd.prog 25 #[.agg #[.bool r.g, .slice r.p r.xs.length r.c, .int .i64 r.e, .bool t.g, .slice t.p t.xs.length t.c, .int .i64 t.e], .agg #[.bool a.g, .slice a.p a.xs.length a.c, .int .i64 a.e]] W fun en w' => en = .returned (.tuple #[.bool true, .int .i64 0]) ∧ Below W.heap.size W w' by have h := ballHas_any r t a W j1 j2 j3 j4; rw [m1, m2] at h; exact h)
        have HC2 := fun W j1 j2 j3 j4 => Lib.hid (show Calls Tryd.prog 25 #[.agg #[.bool r.g, .slice r.p r.xs.length r.c, .int .i64 r.e, .bool t.g, .slice t.p t.xs.length t.c, .int .i64 t.e], .agg #[.bool b.g, .slice b.p b.xs.length b.c, .int .i64 b.e]] W fun en w' => en = .returned (.tuple #[.bool true, .int .i64 0]) ∧ Below W.heap.size W w' by have h := ballHas_any r t b W j1 j2 j3 j4; rw [m3, m4] at h; exact h)
        clear HR Sq Sp g1 g2 HK m1 m2 m3 m4
        obtain ⟨P_0, P_1, P_2, P_3, P_4, P_5⟩ := P.e6
        obtain ⟨A_0, A_1, A_2, A_3, A_4, A_5⟩ := A.e6
        go_wp2_with fail
        clear P_0 P_1 P_2 P_3 P_4 P_5 A_0 A_1 A_2 A_3 A_4 A_5
        ((with_reducible refine (HC _ ir it (ha.past hs13) (hT.past hs13)).out.mono ?_))
        rintro e14 w14 ⟨rfl, hb14⟩
        replace A := A.past hb14
        replace B := B.past hb14
        replace Q := Q.past hb14
        replace P := P.past hb14
        replace ir := ir.past hb14
        replace it := it.past hb14
        have hs14 := hs13.trans (hb14.mono hs13.size)
        obtain ⟨P_0, P_1, P_2, P_3, P_4, P_5⟩ := P.e6
        obtain ⟨A_0, A_1, A_2, A_3, A_4, A_5⟩ := A.e6
        go_wp2_with fail
        clear P_0 P_1 P_2 P_3 P_4 P_5 A_0 A_1 A_2 A_3 A_4 A_5
        ((with_reducible refine (HC2 _ ir it (hb.past hs14) (hT.past hs14)).out.mono ?_))
        rintro e15 w15 ⟨rfl, hb15⟩
        replace A := A.past hb15
        replace B := B.past hb15
        replace Q := Q.past hb15
        replace P := P.past hb15
        replace ir := ir.past hb15
        replace it := it.past hb15
        have hs15 := hs14.trans (hb15.mono hs14.size)
        go_wp2
        go_ret
        exact ⟨rfl, hs15⟩
      · have t1 : (ep != 0) = true := by rw [bne, beq_eq_false_iff_ne.2 g2]; rfl
        have HC := fun W j1 j2 j3 j4 => Lib.hid (ballHas_any r t a W j1 j2 j3 j4)
        have HC2 := fun W j1 j2 j3 j4 => Lib.hid (ballHas_any r t b W j1 j2 j3 j4)
        generalize hasV r t a = x1 at *
        generalize hasV r t b = x2 at *
        generalize errHas r t a = x3 at *
        generalize errHas r t b = x4 at *
        clear HR Sq Sp g1 g2
        obtain ⟨P_0, P_1, P_2, P_3, P_4, P_5⟩ := P.e6
        obtain ⟨A_0, A_1, A_2, A_3, A_4, A_5⟩ := A.e6
        go_wp2_with fail
        clear P_0 P_1 P_2 P_3 P_4 P_5 A_0 A_1 A_2 A_3 A_4 A_5
        ((with_reducible refine (HC _ ir it (ha.past hs13) (hT.past hs13)).out.mono ?_))
        rintro e14 w14 ⟨rfl, hb14⟩
        replace A := A.past hb14
        replace B := B.past hb14
        replace Q := Q.past hb14
        replace P := P.past hb14
        replace ir := ir.past hb14
        replace it := it.past hb14
        have hs14 := hs13.trans (hb14.mono hs13.size)
        obtain ⟨P_0, P_1, P_2, P_3, P_4, P_5⟩ := P.e6
        obtain ⟨A_0, A_1, A_2, A_3, A_4, A_5⟩ := A.e6
        go_wp2_with fail
        clear P_0 P_1 P_2 P_3 P_4 P_5 A_0 A_1 A_2 A_3 A_4 A_5
        ((with_reducible refine (HC2 _ ir it (hb.past hs14) (hT.past hs14)).out.mono ?_))
        rintro e15 w15 ⟨rfl, hb15⟩
        replace A := A.past hb15
        replace B := B.past hb15
        replace Q := Q.past hb15
        replace P := P.past hb15
        replace ir := ir.past hb15
        replace it := it.past hb15
        have hs15 := hs14.trans (hb15.mono hs14.size)
        go_wp2
        go_ret
        exact ⟨rfl, hs15⟩
    · have t1 : (e1 != 0) = true := by rw [bne, beq_eq_false_iff_ne.2 g1]; rfl
      clear HR Sq g1
      go_wp2
      go_ret
      exact ⟨rfl, hs11⟩

end Go.Proofs.YtkooikgplpamlaaDoor
