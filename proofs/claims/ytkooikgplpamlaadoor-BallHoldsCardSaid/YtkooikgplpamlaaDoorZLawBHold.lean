/- The law BallHolds: its walk. -/
import Derived.Test.YtkooikgplpamlaaDoorZLawB1
import Derived.Test.YtkooikgplpamlaaDoorZBaOut
namespace Go.Proofs.YtkooikgplpamlaaDoor
open Go.RowKit Go.Slip

theorem inD_only {w w' : World} {b : Nat} {vs : Array Value} {a : Din} (h : InD w a) (hX : Bx w b vs) (hn : ∀ v ∈ vs.toList, ∀ k : Int, v ≠ .int .u32 k) (hO : Only b w w') : InD w' a := by
  refine ⟨h.rd.only hO (fun h1 he => ?_), h.cap, h.len, h.lt⟩
  have k := h.rd.cells 0 h1
  have e : at_ a.p 0 = ⟨b, (a.p.getD ⟨0, 0, none⟩).off + 0, none⟩ := by
    unfold at_ blk at *
    rw [he]
  rw [e, hX.cell] at k
  exact hn _ (by simpa using Array.mem_of_getElem? k) _ rfl



set_option maxHeartbeats 8000000 in
set_option maxRecDepth 100000 in
theorem lawBHold_row (a b a' b' x y : Din) (n : Int) (w : World) (ha : InD w a) (hb : InD w b) (ha' : InD w a') (hb' : InD w b') (hx : InD w x) (hy : InD w y) (hT : TabW w) :
    Calls Tryd.prog 11 #[.agg #[.bool a.g, .slice a.p a.xs.length a.c, .int .i64 a.e, .bool b.g, .slice b.p b.xs.length b.c, .int .i64 b.e], .agg #[.bool a'.g, .slice a'.p a'.xs.length a'.c, .int .i64 a'.e, .bool b'.g, .slice b'.p b'.xs.length b'.c, .int .i64 b'.e], .agg #[.bool x.g, .slice x.p x.xs.length x.c, .int .i64 x.e], .agg #[.bool y.g, .slice y.p y.xs.length y.c, .int .i64 y.e], .int .i64 n] w fun e w' => e = .returned (.bool true) ∧ Below w.heap.size w w' := by
  have HH1 := fun W k1 k2 k3 k4 => Lib.hid (ballHas_any a b x W k1 k2 k3 k4)
  have HH2 := fun W k1 k2 k3 k4 => Lib.hid (ballHas_any a' b' y W k1 k2 k3 k4)
  have HADD := fun r t s e1 e2 p1 p2 p3 p4 q1 q2 q3 q4 => Lib.hid (holds_add (a := a) (b := b) (a' := a') (b' := b') (x := x) (y := y) (n := n) (r := r) (t := t) (s := s) (e1 := e1) (e2 := e2) p1 p2 p3 p4 q1 q2 q3 q4)
  have HSUB := fun z r t s e1 e2 p1 p2 p3 p4 hz q1 q2 q3 q4 => Lib.hid (holds_sub (a := a) (b := b) (a' := a') (b' := b') (x := x) (y := y) (z := z) (n := n) (r := r) (t := t) (s := s) (e1 := e1) (e2 := e2) p1 p2 p3 p4 hz q1 q2 q3 q4)
  have HMUL := fun r t s e1 e2 p1 p2 p3 p4 q1 q2 q3 q4 => Lib.hid (holds_mul (a := a) (b := b) (a' := a') (b' := b') (x := x) (y := y) (n := n) (r := r) (t := t) (s := s) (e1 := e1) (e2 := e2) p1 p2 p3 p4 q1 q2 q3 q4)
  obtain ⟨f1, hf1⟩ : ∃ f, errHas a b x = f := ⟨_, rfl⟩
  obtain ⟨f2, hf2⟩ : ∃ f, errHas a' b' y = f := ⟨_, rfl⟩
  obtain ⟨v1, hv1⟩ : ∃ v, hasV a b x = v := ⟨_, rfl⟩
  obtain ⟨v2, hv2⟩ : ∃ v, hasV a' b' y = v := ⟨_, rfl⟩
  rw [hf1, hv1] at HH1
  rw [hf2, hv2] at HH2
  rw [hf1, hv1, hf2, hv2] at HADD HSUB HMUL
  clear hf1 hf2 hv1 hv2
  go_enter Tryd.func11, Tryd.ntmps11
  go_upto_region 1 with (fail)
  refine wp_lay4 (fun W1 hb1 hz1 A B X0 Y0 => ?_)
  have hs1 := hb1
  go_wp2_with fail
  ((with_reducible refine (ballBegun_any _ (hT.past hs1)).mono ?_))
  rintro e2 w2 ⟨rfl, hb2⟩
  replace A := A.past hb2
  replace B := B.past hb2
  replace X0 := X0.past hb2
  replace Y0 := Y0.past hb2
  have hs2 := hs1.trans (hb2.mono hs1.size)
  obtain ⟨A_0, A_1, A_2, A_3, A_4, A_5⟩ := A.e6
  obtain ⟨X0_0, X0_1, X0_2⟩ := X0.e3
  go_wp2_with fail
  clear A_0 A_1 A_2 A_3 A_4 A_5 X0_0 X0_1 X0_2
  ((with_reducible refine ((HH1 _ (ha.past hs2) (hb.past hs2) (hx.past hs2) (hT.past hs2)).out).mono ?_))
  rintro e3 w3 ⟨rfl, hb3⟩
  replace A := A.past hb3
  replace B := B.past hb3
  replace X0 := X0.past hb3
  replace Y0 := Y0.past hb3
  have hs3 := hs2.trans (hb3.mono hs2.size)
  obtain ⟨B_0, B_1, B_2, B_3, B_4, B_5⟩ := B.e6
  obtain ⟨Y0_0, Y0_1, Y0_2⟩ := Y0.e3
  go_wp2_with fail
  clear B_0 B_1 B_2 B_3 B_4 B_5 Y0_0 Y0_1 Y0_2
  ((with_reducible refine ((HH2 _ (ha'.past hs3) (hb'.past hs3) (hy.past hs3) (hT.past hs3)).out).mono ?_))
  rintro e4 w4 ⟨rfl, hb4⟩
  replace A := A.past hb4
  replace B := B.past hb4
  replace X0 := X0.past hb4
  replace Y0 := Y0.past hb4
  have hs4 := hs3.trans (hb4.mono hs3.size)
  clear HH1 HH2
  by_cases k1 : f1 = 0
  case neg =>
    have t1 : (f1 != 0) = true := by rw [bne, beq_eq_false_iff_ne.2 k1]; rfl
    clear k1
    go_wp2
    go_ret
    exact ⟨rfl, hs4⟩
  by_cases k2 : f2 = 0
  case neg =>
    have t1 : (f1 != 0) = false := by simpa using k1
    have t2 : (f2 != 0) = true := by rw [bne, beq_eq_false_iff_ne.2 k2]; rfl
    clear k1 k2
    go_wp2
    go_ret
    exact ⟨rfl, hs4⟩
  have t1 : (f1 != 0) = false := by simpa using k1
  have t2 : (f2 != 0) = false := by simpa using k2
  cases v1
  case false =>
    clear k1 k2
    go_wp2
    go_ret
    exact ⟨rfl, hs4⟩
  cases v2
  case false =>
    clear k1 k2
    go_wp2
    go_ret
    exact ⟨rfl, hs4⟩
  have HAD := fun r t s e1 e2 q1 q2 q3 q4 => HADD r t s e1 e2 k1 rfl k2 rfl q1 q2 q3 q4
  have HSU := fun z r t s e1 e2 hz q1 q2 q3 q4 => HSUB z r t s e1 e2 k1 rfl k2 rfl hz q1 q2 q3 q4
  have HMU := fun r t s e1 e2 q1 q2 q3 q4 => HMUL r t s e1 e2 k1 rfl k2 rfl q1 q2 q3 q4
  clear k1 k2 HADD HSUB HMUL
  obtain ⟨X0_0, X0_1, X0_2⟩ := X0.e3
  obtain ⟨Y0_0, Y0_1, Y0_2⟩ := Y0.e3
  go_wp2_with fail
  clear X0_0 X0_1 X0_2 Y0_0 Y0_1 Y0_2
  clear t1 t2
  ((with_reducible refine (dyAdd_in x y _ (hx.past hs4) (hy.past hs4) (hT.past hs4)).mono ?_))
  rintro e5 w5 ⟨s, es, rfl, is, hb5, Ss⟩
  replace A := A.past hb5
  replace B := B.past hb5
  replace X0 := X0.past hb5
  replace Y0 := Y0.past hb5
  have hs5 := hs4.trans (hb5.mono hs4.size)
  go_upto_region 8 with (fail)
  refine wp_lay1 (fun W6 hb6 hz6 S => ?_)
  replace A := A.past hb6
  replace B := B.past hb6
  replace X0 := X0.past hb6
  replace Y0 := Y0.past hb6
  replace is := is.past hb6
  have hs6 := hs5.trans (hb6.mono hs5.size)
  obtain ⟨A_0, A_1, A_2, A_3, A_4, A_5⟩ := A.e6
  obtain ⟨B_0, B_1, B_2, B_3, B_4, B_5⟩ := B.e6
  go_wp2_with fail
  clear A_0 A_1 A_2 A_3 A_4 A_5 B_0 B_1 B_2 B_3 B_4 B_5
  ((with_reducible refine (bAdd_in a b a' b' n _ (ha.past hs6) (hb.past hs6) (ha'.past hs6) (hb'.past hs6) (hT.past hs6)).mono ?_))
  rintro e7 w7 ⟨r, t, er, rfl, ir, it, hb7, Sc⟩
  replace A := A.past hb7
  replace B := B.past hb7
  replace X0 := X0.past hb7
  replace Y0 := Y0.past hb7
  replace S := S.past hb7
  replace is := is.past hb7
  have hs7 := hs6.trans (hb7.mono hs6.size)
  go_upto_region 9 with (fail)
  refine wp_lay1 (fun W8 hb8 hz8 C => ?_)
  replace A := A.past hb8
  replace B := B.past hb8
  replace X0 := X0.past hb8
  replace Y0 := Y0.past hb8
  replace S := S.past hb8
  replace is := is.past hb8
  replace ir := ir.past hb8
  replace it := it.past hb8
  have hs8 := hs7.trans (hb8.mono hs7.size)
  obtain ⟨bb, hbb⟩ : ∃ bb, (decide (es = 0) && decide (er = 0)) = bb := ⟨_, rfl⟩
  have HBB := Lib.hid hbb
  clear hbb
  go_cut [69] (fun s wx => s = .bool bb ∧ wx = W8)
  case first =>
    clear HAD HSU HMU Ss Sc
    by_cases g1 : es = 0
    · have t1 : (es == 0) = true := by simpa using g1
      by_cases g2 : er = 0
      · have t2 : (er == 0) = true := by simpa using g2
        have HB1 : bb = true := by rw [← HBB.out]; simp [g1, g2]
        have HB := Lib.hid HB1
        clear g1 g2 HB1
        go_wp2_with fail
        go_meet
        exact ⟨by rw [HB.out], rfl⟩
      · have t2 : (er == 0) = false := beq_eq_false_iff_ne.2 g2
        have HB1 : bb = false := by rw [← HBB.out]; simp [g2]
        have HB := Lib.hid HB1
        clear g1 g2 HB1
        go_wp2_with fail
        go_meet
        exact ⟨by rw [HB.out], rfl⟩
    · have t1 : (es == 0) = false := beq_eq_false_iff_ne.2 g1
      have HB1 : bb = false := by rw [← HBB.out]; simp [g1]
      have HB := Lib.hid HB1
      clear g1 HB1
      go_wp2_with fail
      go_meet
      exact ⟨by rw [HB.out], rfl⟩
  case rest =>
    obtain ⟨rfl, hw⟩ := hcut
    rw [hw]
    clear hw
    go_upto_if 69 with (fail)
    go_cut [12] (fun s12 wx => s12 = .int .i64 es ∧ Below (W8).heap.size W8 wx)
    case first =>
      cases bb
      · go_wp2_with fail
        go_meet
        exact ⟨rfl, Below.refl _ _⟩
      · have g : es = 0 ∧ er = 0 := by have := HBB.out; simpa using this
        have HK := HAD r t s es er Ss g.1 Sc g.2
        obtain ⟨m1, m2⟩ := HK.out
        have HC := fun W j1 j2 j3 j4 => Lib.hid (show Calls Tryd.prog 25 #[.agg #[.bool r.g, .slice r.p r.xs.length r.c, .int .i64 r.e, .bool t.g, .slice t.p t.xs.length t.c, .int .i64 t.e], .agg #[.bool s.g, .slice s.p s.xs.length s.c, .int .i64 s.e]] W fun en w' => en = .returned (.tuple #[.bool true, .int .i64 0]) ∧ Below W.heap.size W w' by have h := ballHas_any r t s W j1 j2 j3 j4; rw [m1, m2] at h; exact h)
        clear HAD HSU HMU Ss Sc HK m1 m2 g HBB
        obtain ⟨C_0, C_1, C_2, C_3, C_4, C_5⟩ := C.e6
        obtain ⟨S_0, S_1, S_2⟩ := S.e3
        go_wp2_with fail
        clear C_0 C_1 C_2 C_3 C_4 C_5 S_0 S_1 S_2
        ((with_reducible refine (HC _ ir it is (hT.past hs8)).out.mono ?_))
        rintro e90 w90 ⟨rfl, hb90⟩
        go_wp2_with fail
        go_meet
        exact ⟨rfl, hb90⟩
    case rest =>
      obtain ⟨rfl, hb9⟩ := hcut
      clear is ir it HAD Ss Sc
      replace A := A.past hb9
      replace B := B.past hb9
      replace X0 := X0.past hb9
      replace Y0 := Y0.past hb9
      replace S := S.past hb9
      replace C := C.past hb9
      have hs9 := hs8.trans (hb9.mono hs8.size)
      have z1 := hs1.size
      have z2 := hb2.size
      have z3 := hb3.size
      have z4 := hb4.size
      have z5 := hb5.size
      have z6 := hb6.size
      have z7 := hb7.size
      have z8 := hb8.size
      have z9 := hb9.size
      obtain ⟨Y0_0, Y0_1, Y0_2⟩ := Y0.e3
      go_upto_region 14 with (fail)
      clear Y0_0 Y0_1 Y0_2
      refine wp_lay1 (fun W10 hb10 hz10 Z => ?_)
      replace A := A.past hb10
      replace B := B.past hb10
      replace X0 := X0.past hb10
      replace Y0 := Y0.past hb10
      replace S := S.past hb10
      replace C := C.past hb10
      have hs10 := hs9.trans (hb10.mono hs9.size)
      have z10 := hb10.size
      obtain ⟨Z_0, Z_1, Z_2⟩ := Z.e3
      have Z_f0 := Z.f 0
      have Z_f1 := Z.f 1
      have Z_f2 := Z.f 2
      go_upto_region 15 with (fail)
      clear Z_0 Z_1 Z_2 Z_f0 Z_f1 Z_f2
      refine wp_put0of3 Z (fun W11 hO11 Z => ?_)
      have z11 := Nat.le_of_eq hO11.size
      have y11 := Nat.le_of_eq hO11.size.symm
      replace A := A.only hO11 (by omega)
      replace B := B.only hO11 (by omega)
      replace X0 := X0.only hO11 (by omega)
      replace Y0 := Y0.only hO11 (by omega)
      replace S := S.only hO11 (by omega)
      replace C := C.only hO11 (by omega)
      have hs11 := hs10.trans (hO11.below (by omega))
      obtain ⟨z, hz⟩ : ∃ z : Din, z = ⟨!y.g, y.p, y.c, y.xs, y.e⟩ := ⟨_, rfl⟩
      have HZV := Lib.hid (show dyV z = dMinus (dyV y) by rw [hz]; exact dyV_neg y)
      have hiz : InD w z := by rw [hz]; exact ⟨hy.rd, hy.cap, hy.len, hy.lt⟩
      replace Z : Bx W11 wc.heap.size #[.bool z.g, .slice z.p z.xs.length z.c, .int .i64 z.e] := by rw [hz]; exact Z
      clear hz
      obtain ⟨X0_0, X0_1, X0_2⟩ := X0.e3
      obtain ⟨Z_0, Z_1, Z_2⟩ := Z.e3
      go_wp2_with fail
      clear X0_0 X0_1 X0_2 Z_0 Z_1 Z_2
      ((with_reducible refine (dyAdd_in x z _ (hx.past hs11) (hiz.past hs11) (hT.past hs11)).mono ?_))
      rintro e12 w12 ⟨s2, es2, rfl, is, hb12, Ss⟩
      replace A := A.past hb12
      replace B := B.past hb12
      replace X0 := X0.past hb12
      replace Y0 := Y0.past hb12
      replace S := S.past hb12
      replace C := C.past hb12
      have hs12 := hs11.trans (hb12.mono hs11.size)
      have z12 := hb12.size
      obtain ⟨S_0, S_1, S_2⟩ := S.e3
      have S_f0 := S.f 0
      have S_f1 := S.f 1
      have S_f2 := S.f 2
      go_upto_region 16 with (fail)
      clear S_0 S_1 S_2 S_f0 S_f1 S_f2
      have S_ := S
      refine wp_put3 S (fun W13 hO13 S => ?_)
      have z13 := Nat.le_of_eq hO13.size
      have y13 := Nat.le_of_eq hO13.size.symm
      replace A := A.only hO13 (by omega)
      replace B := B.only hO13 (by omega)
      replace X0 := X0.only hO13 (by omega)
      replace Y0 := Y0.only hO13 (by omega)
      replace C := C.only hO13 (by omega)
      have hs13 := hs12.trans (hO13.below (by omega))
      replace is := inD_only is S_ (by simp) hO13
      clear S_
      obtain ⟨A_0, A_1, A_2, A_3, A_4, A_5⟩ := A.e6
      obtain ⟨B_0, B_1, B_2, B_3, B_4, B_5⟩ := B.e6
      go_wp2_with fail
      clear A_0 A_1 A_2 A_3 A_4 A_5 B_0 B_1 B_2 B_3 B_4 B_5
      ((with_reducible refine (bSub_in a b a' b' n _ (ha.past hs13) (hb.past hs13) (ha'.past hs13) (hb'.past hs13) (hT.past hs13)).mono ?_))
      rintro e14 w14 ⟨r2, t2, er2, rfl, ir, it, hb14, Sc⟩
      replace A := A.past hb14
      replace B := B.past hb14
      replace X0 := X0.past hb14
      replace Y0 := Y0.past hb14
      replace S := S.past hb14
      replace C := C.past hb14
      replace is := is.past hb14
      have hs14 := hs13.trans (hb14.mono hs13.size)
      have z14 := hb14.size
      obtain ⟨C_0, C_1, C_2, C_3, C_4, C_5⟩ := C.e6
      have C_f0 := C.f 0
      have C_f1 := C.f 1
      have C_f2 := C.f 2
      have C_f3 := C.f 3
      have C_f4 := C.f 4
      have C_f5 := C.f 5
      go_upto_region 17 with (fail)
      clear C_0 C_1 C_2 C_3 C_4 C_5 C_f0 C_f1 C_f2 C_f3 C_f4 C_f5
      have C_ := C
      refine wp_put6 C (fun W15 hO15 C => ?_)
      have z15 := Nat.le_of_eq hO15.size
      have y15 := Nat.le_of_eq hO15.size.symm
      replace A := A.only hO15 (by omega)
      replace B := B.only hO15 (by omega)
      replace X0 := X0.only hO15 (by omega)
      replace Y0 := Y0.only hO15 (by omega)
      replace S := S.only hO15 (by omega)
      replace is := inD_only is C_ (by simp) hO15
      replace ir := inD_only ir C_ (by simp) hO15
      replace it := inD_only it C_ (by simp) hO15
      clear C_
      have hs15 := hs14.trans (hO15.below (by omega))
      obtain ⟨bb, hbb⟩ : ∃ bb, (decide (es2 = 0) && decide (er2 = 0)) = bb := ⟨_, rfl⟩
      have HBB := Lib.hid hbb
      clear hbb
      go_cut [105] (fun s wx => s = .bool bb ∧ wx = W15)
      case first =>
        clear HSU HMU Ss Sc
        by_cases g1 : es2 = 0
        · have t1 : (es2 == 0) = true := by simpa using g1
          by_cases g2 : er2 = 0
          · have t2 : (er2 == 0) = true := by simpa using g2
            have HB1 : bb = true := by rw [← HBB.out]; simp [g1, g2]
            have HB := Lib.hid HB1
            clear g1 g2 HB1
            go_wp2_with fail
            go_meet
            exact ⟨by rw [HB.out], rfl⟩
          · have t2 : (er2 == 0) = false := beq_eq_false_iff_ne.2 g2
            have HB1 : bb = false := by rw [← HBB.out]; simp [g2]
            have HB := Lib.hid HB1
            clear g1 g2 HB1
            go_wp2_with fail
            go_meet
            exact ⟨by rw [HB.out], rfl⟩
        · have t1 : (es2 == 0) = false := beq_eq_false_iff_ne.2 g1
          have HB1 : bb = false := by rw [← HBB.out]; simp [g1]
          have HB := Lib.hid HB1
          clear g1 HB1
          go_wp2_with fail
          go_meet
          exact ⟨by rw [HB.out], rfl⟩
      case rest =>
        obtain ⟨rfl, hw⟩ := hcut
        rw [hw]
        clear hw
        go_upto_if 105 with (fail)
        go_cut [12] (fun s12 wx => s12 = .int .i64 es2 ∧ Below (W15).heap.size W15 wx)
        case first =>
          cases bb
          · go_wp2_with fail
            go_meet
            exact ⟨rfl, Below.refl _ _⟩
          · have g : es2 = 0 ∧ er2 = 0 := by have := HBB.out; simpa using this
            have HK := HSU z r2 t2 s2 es2 er2 HZV.out Ss g.1 Sc g.2
            obtain ⟨m1, m2⟩ := HK.out
            have HC := fun W j1 j2 j3 j4 => Lib.hid (show Calls Tryd.prog 25 #[.agg #[.bool r2.g, .slice r2.p r2.xs.length r2.c, .int .i64 r2.e, .bool t2.g, .slice t2.p t2.xs.length t2.c, .int .i64 t2.e], .agg #[.bool s2.g, .slice s2.p s2.xs.length s2.c, .int .i64 s2.e]] W fun en w' => en = .returned (.tuple #[.bool true, .int .i64 0]) ∧ Below W.heap.size W w' by have h := ballHas_any r2 t2 s2 W j1 j2 j3 j4; rw [m1, m2] at h; exact h)
            clear HSU HMU Ss Sc HK m1 m2 g HBB
            obtain ⟨C_0, C_1, C_2, C_3, C_4, C_5⟩ := C.e6
            obtain ⟨S_0, S_1, S_2⟩ := S.e3
            go_wp2_with fail
            clear C_0 C_1 C_2 C_3 C_4 C_5 S_0 S_1 S_2
            ((with_reducible refine (HC _ ir it is (hT.past hs15)).out.mono ?_))
            rintro e90 w90 ⟨rfl, hb90⟩
            go_wp2_with fail
            go_meet
            exact ⟨rfl, hb90⟩
        case rest =>
          obtain ⟨rfl, hb16⟩ := hcut
          clear is ir it HSU Ss Sc
          replace A := A.past hb16
          replace B := B.past hb16
          replace X0 := X0.past hb16
          replace Y0 := Y0.past hb16
          replace S := S.past hb16
          replace C := C.past hb16
          have hs16 := hs15.trans (hb16.mono hs15.size)
          have z16 := hb16.size
          obtain ⟨X0_0, X0_1, X0_2⟩ := X0.e3
          obtain ⟨Y0_0, Y0_1, Y0_2⟩ := Y0.e3
          go_wp2_with fail
          clear X0_0 X0_1 X0_2 Y0_0 Y0_1 Y0_2
          ((with_reducible refine (dyMul_in x y _ (hx.past hs16) (hy.past hs16) (hT.past hs16)).mono ?_))
          rintro e17 w17 ⟨s3, es3, rfl, is, hb17, Ss⟩
          replace A := A.past hb17
          replace B := B.past hb17
          replace X0 := X0.past hb17
          replace Y0 := Y0.past hb17
          replace S := S.past hb17
          replace C := C.past hb17
          have hs17 := hs16.trans (hb17.mono hs16.size)
          have z17 := hb17.size
          obtain ⟨S_0, S_1, S_2⟩ := S.e3
          have S_f0 := S.f 0
          have S_f1 := S.f 1
          have S_f2 := S.f 2
          go_upto_region 22 with (fail)
          clear S_0 S_1 S_2 S_f0 S_f1 S_f2
          have S_ := S
          refine wp_put3 S (fun W18 hO18 S => ?_)
          have z18 := Nat.le_of_eq hO18.size
          have y18 := Nat.le_of_eq hO18.size.symm
          replace A := A.only hO18 (by omega)
          replace B := B.only hO18 (by omega)
          replace X0 := X0.only hO18 (by omega)
          replace Y0 := Y0.only hO18 (by omega)
          replace C := C.only hO18 (by omega)
          have hs18 := hs17.trans (hO18.below (by omega))
          replace is := inD_only is S_ (by simp) hO18
          clear S_
          obtain ⟨A_0, A_1, A_2, A_3, A_4, A_5⟩ := A.e6
          obtain ⟨B_0, B_1, B_2, B_3, B_4, B_5⟩ := B.e6
          go_wp2_with fail
          clear A_0 A_1 A_2 A_3 A_4 A_5 B_0 B_1 B_2 B_3 B_4 B_5
          ((with_reducible refine (bMul_in a b a' b' n _ (ha.past hs18) (hb.past hs18) (ha'.past hs18) (hb'.past hs18) (hT.past hs18)).mono ?_))
          rintro e19 w19 ⟨r3, t3, er3, rfl, ir, it, hb19, Sc⟩
          replace A := A.past hb19
          replace B := B.past hb19
          replace X0 := X0.past hb19
          replace Y0 := Y0.past hb19
          replace S := S.past hb19
          replace C := C.past hb19
          replace is := is.past hb19
          have hs19 := hs18.trans (hb19.mono hs18.size)
          have z19 := hb19.size
          obtain ⟨C_0, C_1, C_2, C_3, C_4, C_5⟩ := C.e6
          have C_f0 := C.f 0
          have C_f1 := C.f 1
          have C_f2 := C.f 2
          have C_f3 := C.f 3
          have C_f4 := C.f 4
          have C_f5 := C.f 5
          go_upto_region 23 with (fail)
          clear C_0 C_1 C_2 C_3 C_4 C_5 C_f0 C_f1 C_f2 C_f3 C_f4 C_f5
          have C_ := C
          refine wp_put6 C (fun W20 hO20 C => ?_)
          have z20 := Nat.le_of_eq hO20.size
          have y20 := Nat.le_of_eq hO20.size.symm
          replace A := A.only hO20 (by omega)
          replace B := B.only hO20 (by omega)
          replace X0 := X0.only hO20 (by omega)
          replace Y0 := Y0.only hO20 (by omega)
          replace S := S.only hO20 (by omega)
          replace is := inD_only is C_ (by simp) hO20
          replace ir := inD_only ir C_ (by simp) hO20
          replace it := inD_only it C_ (by simp) hO20
          clear C_
          have hs20 := hs19.trans (hO20.below (by omega))
          by_cases g1 : es3 = 0
          · by_cases g2 : er3 = 0
            · have t1 : (es3 != 0) = false := by simpa using g1
              have t2 : (er3 != 0) = false := by simpa using g2
              have HK := HMU r3 t3 s3 es3 er3 Ss g1 Sc g2
              obtain ⟨m1, m2⟩ := HK.out
              have HC := fun W j1 j2 j3 j4 => Lib.hid (show Calls Tryd.prog 25 #[.agg #[.bool r3.g, .slice r3.p r3.xs.length r3.c, .int .i64 r3.e, .bool t3.g, .slice t3.p t3.xs.length t3.c, .int .i64 t3.e], .agg #[.bool s3.g, .slice s3.p s3.xs.length s3.c, .int .i64 s3.e]] W fun en w' => en = .returned (.tuple #[.bool true, .int .i64 0]) ∧ Below W.heap.size W w' by have h := ballHas_any r3 t3 s3 W j1 j2 j3 j4; rw [m1, m2] at h; exact h)
              clear HMU Ss Sc g1 g2 HK m1 m2
              obtain ⟨C_0, C_1, C_2, C_3, C_4, C_5⟩ := C.e6
              obtain ⟨S_0, S_1, S_2⟩ := S.e3
              go_wp2_with fail
              clear C_0 C_1 C_2 C_3 C_4 C_5 S_0 S_1 S_2
              ((with_reducible refine (HC _ ir it is (hT.past hs20)).out.mono ?_))
              rintro e21 w21 ⟨rfl, hb21⟩
              replace S := S.past hb21
              replace C := C.past hb21
              replace is := is.past hb21
              replace ir := ir.past hb21
              replace it := it.past hb21
              have hs21 := hs20.trans (hb21.mono hs20.size)
              go_wp2
              go_ret
              exact ⟨rfl, hs21⟩
            · have t1 : (es3 != 0) = false := by simpa using g1
              have t2 : (er3 != 0) = true := by rw [bne, beq_eq_false_iff_ne.2 g2]; rfl
              clear HMU Ss Sc g1 g2
              go_wp2
              go_ret
              exact ⟨rfl, hs20⟩
          · have t1 : (es3 != 0) = true := by rw [bne, beq_eq_false_iff_ne.2 g1]; rfl
            clear HMU Ss Sc g1
            go_wp2
            go_ret
            exact ⟨rfl, hs20⟩

end Go.Proofs.YtkooikgplpamlaaDoor
