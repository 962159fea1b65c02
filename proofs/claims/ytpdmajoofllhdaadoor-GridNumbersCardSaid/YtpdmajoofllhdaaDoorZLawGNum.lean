/- The law GridNumbers: its walk. -/
import Derived.Test.YtpdmajoofllhdaaDoorZLawG0
import Derived.Test.YtpdmajoofllhdaaDoorZGd7
import Derived.Test.YtpdmajoofllhdaaDoorZLawD1
namespace Go.Proofs.YtpdmajoofllhdaaDoor
open Go.RowKit Go.Slip



set_option maxHeartbeats 8000000 in
set_option maxRecDepth 100000 in
theorem lawGNum_row (a : Pin) (g : Gd) (w : World) (ha : InP w a) (hT : TabW w) :
    Calls Tryd.prog 3 #[.agg #[.bool a.g, .slice a.p a.xs.length a.c, .int .i64 a.k, .bool a.x, .bool a.o, .bool a.u], .agg #[.int .i64 g.rad, .int .i64 g.digs, .int .i64 g.lo, .int .i64 g.hi, .bool g.grad]] w fun e w' => e = .returned (.bool true) ∧ Below w.heap.size w w' := by
  have HN := fun W h1 h2 => Lib.hid (number_any a g W h1 h2)
  have HX := fun W (h : Rd W .u32 a.p a.xs) => Lib.hid (refCheckNat_any a.p _ a.c a.xs W h rfl ha.len)
  have HG := fun W => Lib.hid (refCheckGrid_any g W)
  have HWD := fun W => Lib.hid (refWidth_any g W)
  unfold doneOne errOne at HN
  obtain ⟨e1, he1⟩ : ∃ e1, errNat a.xs = e1 := ⟨_, rfl⟩
  obtain ⟨e2, he2⟩ : ∃ e2, errG g = e2 := ⟨_, rfl⟩
  by_cases h1 : e1 = 0
  · by_cases h2 : e2 = 0
    · by_cases hk : a.k < -20000 ∨ 20000 < a.k
      · have he : errNum a g = 3 := by unfold errNum; rw [he1, h1, he2, h2, if_neg (by simp), if_neg (by simp), if_pos hk]
        simp only [he, show ¬ ((3 : Int) = 0) by omega, if_false, dig_zero] at HN
        rw [he1, h1] at HX
        rw [he2, h2] at HG
        have HNE := Lib.hid (show (3 : Int) ≠ 0 by omega)
        clear he1 he2 h1 h2 he
        rcases hk with hk | hk
        · have t0 := True.intro
          go_enter Tryd.func3, Tryd.ntmps3
          go_wp2_with fail
          refine calls_lay2 (fun W1 hb1 hz1 P G => ?_)
          replace ha := ha.past hb1
          replace hT := hT.past hb1
          have hs1 := hb1
          ((with_reducible refine (HN _ ha hT).out.mono ?_))
          rintro e2 w2 ⟨p2, c2, rfl, ho2, hb2⟩
          simp only [dig_zero, List.length_nil] at ho2 ⊢
          replace P := P.past hb2
          replace G := G.past hb2
          replace ha := ha.past hb2
          replace hT := hT.past hb2
          have hs2 := hs1.trans (hb2.mono hs1.size)
          go_upto_region 2 with (fail)
          refine wp_lay1 (fun W3 hb3 hz3 X => ?_)
          replace P := P.past hb3
          replace G := G.past hb3
          replace ha := ha.past hb3
          replace hT := hT.past hb3
          replace ho2 := ho2.past hb3
          have hs3 := hs2.trans (hb3.mono hs2.size)
          obtain ⟨P_0, P_1, P_2, P_3, P_4, P_5⟩ := P.e6
          go_wp2_with fail
          clear P_0 P_1 P_2 P_3 P_4 P_5
          ((with_reducible refine (((HX _ ha.rd).out)).mono ?_))
          rintro _ _ ⟨rfl, rfl⟩
          obtain ⟨G_0, G_1, G_2, G_3, G_4⟩ := G.e5
          go_wp2_with fail
          clear G_0 G_1 G_2 G_3 G_4
          ((with_reducible refine ((HG _).out).mono ?_))
          rintro e5 w5 ⟨rfl, hb5⟩
          replace P := P.past hb5
          replace G := G.past hb5
          replace X := X.past hb5
          replace ha := ha.past hb5
          replace hT := hT.past hb5
          replace ho2 := ho2.past hb5
          have hs5 := hs3.trans (hb5.mono hs3.size)
          obtain ⟨P_0, P_1, P_2, P_3, P_4, P_5⟩ := P.e6
          go_wp2_with fail
          clear P_0 P_1 P_2 P_3 P_4 P_5
          refine calls_lay1 (fun W7 hb7 hz7 V => ?_)
          replace P := P.past hb7
          replace G := G.past hb7
          replace X := X.past hb7
          replace ha := ha.past hb7
          replace hT := hT.past hb7
          replace ho2 := ho2.past hb7
          have hs7 := hs5.trans (hb7.mono hs5.size)
          ((with_reducible refine (gridBegun_any _).mono ?_))
          rintro e8 w8 ⟨rfl, hb8⟩
          replace P := P.past hb8
          replace G := G.past hb8
          replace X := X.past hb8
          replace V := V.past hb8
          replace ha := ha.past hb8
          replace hT := hT.past hb8
          replace ho2 := ho2.past hb8
          have hs8 := hs7.trans (hb8.mono hs7.size)
          obtain ⟨X_0, X_1, X_2⟩ := X.e3
          obtain ⟨V_0, V_1, V_2⟩ := V.e3
          go_wp2_with fail
          clear X_0 X_1 X_2 V_0 V_1 V_2
          ((with_reducible refine (dyadIs_err 3 ⟨false, 0, 0⟩ p2 none _ c2 _ 0 _ HNE.out rfl (by rw [dig_zero]; exact Rd.nil _ _ _) (by simp [dig_zero]) (by simp [dig_zero])).mono ?_))
          rintro e9 w9 ⟨rfl, hb9⟩
          go_wp2
          go_ret
          exact ⟨rfl, hs8.trans (hb9.mono hs8.size)⟩
        · have hk2 : ¬ a.k < -20000 := by omega
          go_enter Tryd.func3, Tryd.ntmps3
          go_wp2_with fail
          refine calls_lay2 (fun W1 hb1 hz1 P G => ?_)
          replace ha := ha.past hb1
          replace hT := hT.past hb1
          have hs1 := hb1
          ((with_reducible refine (HN _ ha hT).out.mono ?_))
          rintro e2 w2 ⟨p2, c2, rfl, ho2, hb2⟩
          simp only [dig_zero, List.length_nil] at ho2 ⊢
          replace P := P.past hb2
          replace G := G.past hb2
          replace ha := ha.past hb2
          replace hT := hT.past hb2
          have hs2 := hs1.trans (hb2.mono hs1.size)
          go_upto_region 2 with (fail)
          refine wp_lay1 (fun W3 hb3 hz3 X => ?_)
          replace P := P.past hb3
          replace G := G.past hb3
          replace ha := ha.past hb3
          replace hT := hT.past hb3
          replace ho2 := ho2.past hb3
          have hs3 := hs2.trans (hb3.mono hs2.size)
          obtain ⟨P_0, P_1, P_2, P_3, P_4, P_5⟩ := P.e6
          go_wp2_with fail
          clear P_0 P_1 P_2 P_3 P_4 P_5
          ((with_reducible refine (((HX _ ha.rd).out)).mono ?_))
          rintro _ _ ⟨rfl, rfl⟩
          obtain ⟨G_0, G_1, G_2, G_3, G_4⟩ := G.e5
          go_wp2_with fail
          clear G_0 G_1 G_2 G_3 G_4
          ((with_reducible refine ((HG _).out).mono ?_))
          rintro e5 w5 ⟨rfl, hb5⟩
          replace P := P.past hb5
          replace G := G.past hb5
          replace X := X.past hb5
          replace ha := ha.past hb5
          replace hT := hT.past hb5
          replace ho2 := ho2.past hb5
          have hs5 := hs3.trans (hb5.mono hs3.size)
          obtain ⟨P_0, P_1, P_2, P_3, P_4, P_5⟩ := P.e6
          go_wp2_with fail
          clear P_0 P_1 P_2 P_3 P_4 P_5
          refine calls_lay1 (fun W7 hb7 hz7 V => ?_)
          replace P := P.past hb7
          replace G := G.past hb7
          replace X := X.past hb7
          replace ha := ha.past hb7
          replace hT := hT.past hb7
          replace ho2 := ho2.past hb7
          have hs7 := hs5.trans (hb7.mono hs5.size)
          ((with_reducible refine (gridBegun_any _).mono ?_))
          rintro e8 w8 ⟨rfl, hb8⟩
          replace P := P.past hb8
          replace G := G.past hb8
          replace X := X.past hb8
          replace V := V.past hb8
          replace ha := ha.past hb8
          replace hT := hT.past hb8
          replace ho2 := ho2.past hb8
          have hs8 := hs7.trans (hb8.mono hs7.size)
          obtain ⟨X_0, X_1, X_2⟩ := X.e3
          obtain ⟨V_0, V_1, V_2⟩ := V.e3
          go_wp2_with fail
          clear X_0 X_1 X_2 V_0 V_1 V_2
          ((with_reducible refine (dyadIs_err 3 ⟨false, 0, 0⟩ p2 none _ c2 _ 0 _ HNE.out rfl (by rw [dig_zero]; exact Rd.nil _ _ _) (by simp [dig_zero]) (by simp [dig_zero])).mono ?_))
          rintro e9 w9 ⟨rfl, hb9⟩
          go_wp2
          go_ret
          exact ⟨rfl, hs8.trans (hb9.mono hs8.size)⟩
      · have he : errNum a g = 0 := by unfold errNum; rw [he1, h1, he2, h2, if_neg (by simp), if_neg (by simp), if_neg hk]
        simp only [he, if_true] at HN
        obtain ⟨ex, lx⟩ := errNat_ok ha.lt (he1.trans h1)
        have wp := wid_pos g
        have hm := mul_bd (k := a.k) wp.2 (B := 20000) ⟨by omega, by omega⟩
        have hal := ha.lt
        have HO := fun W h => Lib.hid (refOf_any a.p _ a.c a.xs W h rfl hal (by omega))
        have lx16 := B16_len32 (val B32 a.xs)
        rw [← ex] at lx16
        obtain ⟨r, hr⟩ : ∃ r, numV a g = r := ⟨_, rfl⟩
        have lr16 : (dig B16 r.m).length ≤ 2400 := by
          rw [← hr]; unfold numV
          refine Nat.le_trans (bare_len B16_two _) ?_
          simp only
          omega
        rw [hr] at HN
        unfold numV at hr
        rw [he1, h1] at HX
        rw [he2, h2] at HG
        generalize wid g = wd at *
        generalize val B32 a.xs = m at *
        have HR := Lib.hid hr
        have hk1 : ¬ a.k < -20000 := by omega
        have hk2 : ¬ 20000 < a.k := by omega
        have HLM := Lib.hid (show (dig B16 m).length ≤ 2400 by omega)
        clear he1 he2 h1 h2 he hr ex hk hal
        go_enter Tryd.func3, Tryd.ntmps3
        go_wp2_with fail
        refine calls_lay2 (fun W1 hb1 hz1 P G => ?_)
        replace ha := ha.past hb1
        replace hT := hT.past hb1
        have hs1 := hb1
        ((with_reducible refine ((HN _ ha hT).out).mono ?_))
        rintro e2 w2 ⟨p2, c2, rfl, ho2, hb2⟩
        replace P := P.past hb2
        replace G := G.past hb2
        replace ha := ha.past hb2
        replace hT := hT.past hb2
        have hs2 := hs1.trans (hb2.mono hs1.size)
        go_upto_region 2 with (fail)
        refine wp_lay1 (fun W3 hb3 hz3 X => ?_)
        replace P := P.past hb3
        replace G := G.past hb3
        replace ha := ha.past hb3
        replace hT := hT.past hb3
        replace ho2 := ho2.past hb3
        have hs3 := hs2.trans (hb3.mono hs2.size)
        obtain ⟨P_0, P_1, P_2, P_3, P_4, P_5⟩ := P.e6
        go_wp2_with fail
        clear P_0 P_1 P_2 P_3 P_4 P_5
        ((with_reducible refine (((HX _ ha.rd).out)).mono ?_))
        rintro _ _ ⟨rfl, rfl⟩
        obtain ⟨G_0, G_1, G_2, G_3, G_4⟩ := G.e5
        go_wp2_with fail
        clear G_0 G_1 G_2 G_3 G_4
        ((with_reducible refine ((HG _).out).mono ?_))
        rintro e5 w5 ⟨rfl, hb5⟩
        replace P := P.past hb5
        replace G := G.past hb5
        replace X := X.past hb5
        replace ha := ha.past hb5
        replace hT := hT.past hb5
        replace ho2 := ho2.past hb5
        have hs5 := hs3.trans (hb5.mono hs3.size)
        obtain ⟨P_0, P_1, P_2, P_3, P_4, P_5⟩ := P.e6
        go_upto_region 8 with (fail)
        clear P_0 P_1 P_2 P_3 P_4 P_5
        have hPl := P.lt
        have hGl := G.lt
        have hXl := X.lt
        have hp2l : p2.isSome = true → blk p2 < w5.heap.size := fun h => (ho2.blk_lt h).2
        have hmb : -1000000000 ≤ (wd : Int) * a.k ∧ (wd : Int) * a.k ≤ 1000000000 := ⟨by omega, by omega⟩
        have e0 : IntKind.i64.wrap ((wd : Int) * a.k) = (wd : Int) * a.k := IntWalk.i64_in _ (by omega)
        refine wp_lay1 (fun W6 hb6 hz6 V => ?_)
        replace P := P.past hb6
        replace G := G.past hb6
        replace X := X.past hb6
        replace ha := ha.past hb6
        replace hT := hT.past hb6
        replace ho2 := ho2.past hb6
        have hs6 := hs5.trans (hb6.mono hs5.size)
        go_upto_region 9 with (fail)
        have hzd : W6.drew.heap.size = W6.heap.size := rfl
        have HZD := Lib.hid hzd
        clear hzd
        go_region_held3 (fun w' => (w'.cell? ⟨w.heap.size, 0, none⟩ = some (.bool a.g) ∧ w'.cell? ⟨w.heap.size, 1, none⟩ = some (.slice a.p a.xs.length a.c) ∧ w'.cell? ⟨w.heap.size, 2, none⟩ = some (.int .i64 a.k) ∧ w'.cell? ⟨w.heap.size, 3, none⟩ = some (.bool a.x) ∧ w'.cell? ⟨w.heap.size, 4, none⟩ = some (.bool a.o) ∧ w'.cell? ⟨w.heap.size, 5, none⟩ = some (.bool a.u)) ∧
            (w'.cell? ⟨w.heap.size + 1, 0, none⟩ = some (.int .i64 g.rad) ∧ w'.cell? ⟨w.heap.size + 1, 1, none⟩ = some (.int .i64 g.digs) ∧ w'.cell? ⟨w.heap.size + 1, 2, none⟩ = some (.int .i64 g.lo) ∧ w'.cell? ⟨w.heap.size + 1, 3, none⟩ = some (.int .i64 g.hi) ∧ w'.cell? ⟨w.heap.size + 1, 4, none⟩ = some (.bool g.grad)))
          (first
            | with_reducible exact ⟨P.e6, G.e5⟩
            | with_reducible exact ⟨(P.drew).e6, (G.drew).e5⟩
            | with_reducible exact ⟨((P.drew).past hbx).e6, ((G.drew).past hbx).e5⟩
            | with_reducible exact ⟨(((P.drew).past hbx).past hby).e6, (((G.drew).past hbx).past hby).e5⟩
            | with_reducible exact ⟨((((P.drew).past hbx).past hby).past hbz).e6, ((((G.drew).past hbx).past hby).past hbz).e5⟩
            | with_reducible exact ⟨(((((P.drew).past hbx).past hby).past hbz).only (only3 _ _ _ _ _) (by omega)).e6, (((((G.drew).past hbx).past hby).past hbz).only (only3 _ _ _ _ _) (by omega)).e5⟩)
          (first
            | (go_at_call 13; ((with_reducible refine (HO _ ha.rd.drew).out.mono ?_)); rintro ex wx ⟨px, cx, rfl, hrx, hcx, hfx, hbx⟩)
            | (go_at_call 14; ((with_reducible refine (HWD _).out.mono ?_)); rintro ey wy ⟨rfl, hby⟩)
            | (go_at_call 12; ((with_reducible refine (refBared_any a.g px _ cx _ m _ (hrx.past hby) rfl (by clear e0; have := HLM.out; omega) hmb).mono ?_)); rw [HR.out]; rintro ez wz ⟨pz, cz, rfl, hrz, hcz, hfz, hbz⟩; (have VV := ((V.drew.past hbx).past hby).past hbz); obtain ⟨V_0, V_1, V_2⟩ := VV.e3; (have V_f0 := VV.f 0); (have V_f1 := VV.f 1); (have V_f2 := VV.f 2)))
        all_goals (clear e0 V_0 V_1 V_2 V_f0 V_f1 V_f2)
        have hzd := HZD.out
        have hxz := hbx.size
        have hyz := hby.size
        have hzz := hbz.size
        have hs9 := ((hs6.drew.trans (hbx.mono hs6.size)).trans (hby.mono (Nat.le_trans hs6.size hxz))).trans (hbz.mono (Nat.le_trans (Nat.le_trans hs6.size hxz) hyz))
        replace X := ((X.drew.past hbx).past hby).past hbz
        replace ho2 := ((ho2.drew.past hbx).past hby).past hbz
        replace hT := ((hT.drew.past hbx).past hby).past hbz
        go_wp2_with fail
        refine calls_put3 VV (fun W10 hO10 V => ?_)
        replace X := X.only hO10 (by omega)
        replace ho2 := ho2.only hO10 (fun h => by have := hp2l h; omega)
        replace hrz := hrz.only hO10 (fun h => by rcases hfz h with h2 | h2; exact h2.elim; omega)
        have hs10 := hs9.trans (hO10.below (B := w.heap.size) (by omega))
        ((with_reducible refine (gridBegun_any _).mono ?_))
        rintro e11 w11 ⟨rfl, hb11⟩
        replace X := X.past hb11
        replace V := V.past hb11
        replace ho2 := ho2.past hb11
        replace hrz := hrz.past hb11
        have hs11 := hs10.trans (hb11.mono hs10.size)
        obtain ⟨X_0, X_1, X_2⟩ := X.e3
        obtain ⟨V_0, V_1, V_2⟩ := V.e3
        go_wp2_with fail
        clear X_0 X_1 X_2 V_0 V_1 V_2
        ((with_reducible refine (dyadIs_ok r p2 pz _ c2 _ cz _ ho2.rd hrz rfl rfl (by omega)).mono ?_))
        rintro e12 w12 ⟨rfl, hb12⟩
        go_wp2
        go_ret
        exact ⟨rfl, hs11.trans (hb12.mono hs11.size)⟩
    · have he : errNum a g = e2 := by unfold errNum; rw [he1, h1, he2, if_neg (by simp), if_pos h2]
      simp only [he, h2, if_false, dig_zero] at HN
      rw [he1, h1] at HX
      rw [he2] at HG
      have HNE := Lib.hid h2
      have t1 : (e2 == 0) = false := beq_eq_false_iff_ne.2 h2
      clear he1 he2 h1 h2 he
      go_enter Tryd.func3, Tryd.ntmps3
      go_wp2_with fail
      refine calls_lay2 (fun W1 hb1 hz1 P G => ?_)
      replace ha := ha.past hb1
      replace hT := hT.past hb1
      have hs1 := hb1
      ((with_reducible refine (HN _ ha hT).out.mono ?_))
      rintro e2 w2 ⟨p2, c2, rfl, ho2, hb2⟩
      simp only [dig_zero, List.length_nil] at ho2 ⊢
      replace P := P.past hb2
      replace G := G.past hb2
      replace ha := ha.past hb2
      replace hT := hT.past hb2
      have hs2 := hs1.trans (hb2.mono hs1.size)
      go_upto_region 2 with (fail)
      refine wp_lay1 (fun W3 hb3 hz3 X => ?_)
      replace P := P.past hb3
      replace G := G.past hb3
      replace ha := ha.past hb3
      replace hT := hT.past hb3
      replace ho2 := ho2.past hb3
      have hs3 := hs2.trans (hb3.mono hs2.size)
      obtain ⟨P_0, P_1, P_2, P_3, P_4, P_5⟩ := P.e6
      go_wp2_with fail
      clear P_0 P_1 P_2 P_3 P_4 P_5
      ((with_reducible refine (((HX _ ha.rd).out)).mono ?_))
      rintro _ _ ⟨rfl, rfl⟩
      obtain ⟨G_0, G_1, G_2, G_3, G_4⟩ := G.e5
      go_wp2_with fail
      clear G_0 G_1 G_2 G_3 G_4
      ((with_reducible refine ((HG _).out).mono ?_))
      rintro e5 w5 ⟨rfl, hb5⟩
      replace P := P.past hb5
      replace G := G.past hb5
      replace X := X.past hb5
      replace ha := ha.past hb5
      replace hT := hT.past hb5
      replace ho2 := ho2.past hb5
      have hs5 := hs3.trans (hb5.mono hs3.size)
      go_wp2_with fail
      refine calls_lay1 (fun W7 hb7 hz7 V => ?_)
      replace P := P.past hb7
      replace G := G.past hb7
      replace X := X.past hb7
      replace ha := ha.past hb7
      replace hT := hT.past hb7
      replace ho2 := ho2.past hb7
      have hs7 := hs5.trans (hb7.mono hs5.size)
      ((with_reducible refine (gridBegun_any _).mono ?_))
      rintro e8 w8 ⟨rfl, hb8⟩
      replace P := P.past hb8
      replace G := G.past hb8
      replace X := X.past hb8
      replace V := V.past hb8
      replace ha := ha.past hb8
      replace hT := hT.past hb8
      replace ho2 := ho2.past hb8
      have hs8 := hs7.trans (hb8.mono hs7.size)
      obtain ⟨X_0, X_1, X_2⟩ := X.e3
      obtain ⟨V_0, V_1, V_2⟩ := V.e3
      go_wp2_with fail
      clear X_0 X_1 X_2 V_0 V_1 V_2
      ((with_reducible refine (dyadIs_err e2 ⟨false, 0, 0⟩ p2 none _ c2 _ 0 _ HNE.out rfl (by rw [dig_zero]; exact Rd.nil _ _ _) (by simp [dig_zero]) (by simp [dig_zero])).mono ?_))
      rintro e9 w9 ⟨rfl, hb9⟩
      go_wp2
      go_ret
      exact ⟨rfl, hs8.trans (hb9.mono hs8.size)⟩
  · have he : errNum a g = e1 := by unfold errNum; rw [he1, if_pos h1]
    simp only [he, h1, if_false, dig_zero] at HN
    rw [he1] at HX
    have HNE := Lib.hid h1
    have t1 : (e1 == 0) = false := beq_eq_false_iff_ne.2 h1
    clear he1 he2 h1 he
    go_enter Tryd.func3, Tryd.ntmps3
    go_wp2_with fail
    refine calls_lay2 (fun W1 hb1 hz1 P G => ?_)
    replace ha := ha.past hb1
    replace hT := hT.past hb1
    have hs1 := hb1
    ((with_reducible refine (HN _ ha hT).out.mono ?_))
    rintro e2 w2 ⟨p2, c2, rfl, ho2, hb2⟩
    simp only [dig_zero, List.length_nil] at ho2 ⊢
    replace P := P.past hb2
    replace G := G.past hb2
    replace ha := ha.past hb2
    replace hT := hT.past hb2
    have hs2 := hs1.trans (hb2.mono hs1.size)
    go_upto_region 2 with (fail)
    refine wp_lay1 (fun W3 hb3 hz3 X => ?_)
    replace P := P.past hb3
    replace G := G.past hb3
    replace ha := ha.past hb3
    replace hT := hT.past hb3
    replace ho2 := ho2.past hb3
    have hs3 := hs2.trans (hb3.mono hs2.size)
    obtain ⟨P_0, P_1, P_2, P_3, P_4, P_5⟩ := P.e6
    go_wp2_with fail
    clear P_0 P_1 P_2 P_3 P_4 P_5
    ((with_reducible refine (((HX _ ha.rd).out)).mono ?_))
    rintro _ _ ⟨rfl, rfl⟩
    go_wp2_with fail
    refine calls_lay1 (fun W7 hb7 hz7 V => ?_)
    replace P := P.past hb7
    replace G := G.past hb7
    replace X := X.past hb7
    replace ha := ha.past hb7
    replace hT := hT.past hb7
    replace ho2 := ho2.past hb7
    have hs7 := hs3.trans (hb7.mono hs3.size)
    ((with_reducible refine (gridBegun_any _).mono ?_))
    rintro e8 w8 ⟨rfl, hb8⟩
    replace P := P.past hb8
    replace G := G.past hb8
    replace X := X.past hb8
    replace V := V.past hb8
    replace ha := ha.past hb8
    replace hT := hT.past hb8
    replace ho2 := ho2.past hb8
    have hs8 := hs7.trans (hb8.mono hs7.size)
    obtain ⟨X_0, X_1, X_2⟩ := X.e3
    obtain ⟨V_0, V_1, V_2⟩ := V.e3
    go_wp2_with fail
    clear X_0 X_1 X_2 V_0 V_1 V_2
    ((with_reducible refine (dyadIs_err e1 ⟨false, 0, 0⟩ p2 none _ c2 _ 0 _ HNE.out rfl (by rw [dig_zero]; exact Rd.nil _ _ _) (by simp [dig_zero]) (by simp [dig_zero])).mono ?_))
    rintro e9 w9 ⟨rfl, hb9⟩
    go_wp2
    go_ret
    exact ⟨rfl, hs8.trans (hb9.mono hs8.size)⟩

end Go.Proofs.YtpdmajoofllhdaaDoor
