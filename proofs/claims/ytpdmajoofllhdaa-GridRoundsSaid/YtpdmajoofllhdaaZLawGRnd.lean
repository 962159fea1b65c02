/- The law GridRounds: its walk. -/
import Derived.Test.YtpdmajoofllhdaaZLawG0
import Derived.Test.YtpdmajoofllhdaaZB
import Derived.Test.YtpdmajoofllhdaaZA
namespace Go.Proofs.Ytpdmajoofllhdaa
open Go.RowKit Go.Slip

theorem samePlace_zero (p : Option Addr) (c : Nat) (w : World) :
    Calls Try.prog 13 #[.agg #[.bool false, .slice p 0 c, .int .i64 0, .bool false, .bool false, .bool false], .agg #[.bool false, .slice none 0 0, .int .i64 0, .bool false, .bool false, .bool false]] w
      fun e w' => e = .returned (.bool true) ∧ Below w.heap.size w w' := by
  have h := refSamePlace_any false false false false 0 0 p none c 0 w (by rw [dig_zero]; exact Rd.nil _ _ _) (by rw [dig_zero]; exact Rd.nil _ _ _) (by simp [dig_zero]) (by simp [dig_zero])
  simpa [dig_zero] using h


set_option maxHeartbeats 8000000 in
set_option maxRecDepth 100000 in
theorem lawGRnd_row (a : Rin) (g : Gd) (way : Int) (w : World) (ha : InR w a) :
    Calls Try.prog 4 #[.agg #[.bool a.g, .slice a.p a.xs.length a.c, .slice a.q a.ys.length a.d, .int .i64 a.e], .agg #[.int .i64 g.rad, .int .i64 g.digs, .int .i64 g.lo, .int .i64 g.hi, .bool g.grad], .int .i64 way] w fun e w' => e = .returned (.bool true) ∧ Below w.heap.size w w' := by
  have HR := fun W h => Lib.hid (round_any a g way W h)
  have HC := fun W h => Lib.hid (refCheckRatio_any a W h)
  have HG := fun W => Lib.hid (refCheckGrid_any g W)
  have HI := fun W => Lib.hid (refIsWay_any way W)
  by_cases h0 : errRound a g way = 0
  · have hr0 : errRat a = 0 := by
      unfold errRound at h0
      by_cases h : errRat a = 0
      · exact h
      · rw [if_pos h] at h0; exact absurd h0 h
    have hg0 : errG g = 0 := by
      unfold errRound at h0
      rw [hr0, if_neg (by simp)] at h0
      by_cases h : errG g = 0
      · exact h
      · rw [if_pos h] at h0; exact absurd h0 h
    have hw0 : ¬ (way < 1 ∨ 5 < way) := by
      unfold errRound at h0
      rw [hr0, hg0, if_neg (by simp), if_neg (by simp)] at h0
      intro h
      rw [if_pos h] at h0
      simp at h0
    have hb0 : wayB way = true := wayB_true (by omega) (by omega)
    have hx0 : errNat a.xs = 0 ∧ errNat a.ys = 0 ∧ 0 < a.ys.length ∧ -20000 ≤ a.e ∧ a.e ≤ 20000 := by
      unfold errRat at hr0
      by_cases h1 : errNat a.xs = 0
      · rw [if_neg (by simpa using h1)] at hr0
        by_cases h2 : errNat a.ys = 0
        · rw [if_neg (by simpa using h2)] at hr0
          by_cases h3 : a.ys.length = 0 ∨ a.e < -20000 ∨ 20000 < a.e
          · rw [if_pos h3] at hr0; simp at hr0
          · exact ⟨h1, h2, by omega, by omega, by omega⟩
        · rw [if_pos h2] at hr0; exact absurd hr0 h2
      · rw [if_pos h1] at hr0; exact absurd hr0 h1
    obtain ⟨hx1, hx2, hx3, hx4, hx5⟩ := hx0
    obtain ⟨ex, lx⟩ := errNat_ok ha.b1 hx1
    obtain ⟨ey, ly⟩ := errNat_ok ha.b2 hx2
    have hden : 0 < val B32 a.ys := by
      rcases Nat.eq_zero_or_pos (val B32 a.ys) with h | h
      · rw [h, dig_zero] at ey; rw [ey] at hx3; simp at hx3
      · exact h
    have HO := fun W h => Lib.hid (refOfRatio_any a W h (by omega) (by omega))
    have lx16 := B16_len32 (val B32 a.xs)
    have ly16 := B16_len32 (val B32 a.ys)
    rw [← ex] at lx16
    rw [← ey] at ly16
    have hrv : roundOf a g way = roundP a.g (val B32 a.xs) (val B32 a.ys) a.e g way := by unfold roundOf; rw [if_pos h0]
    have HT := fun W p q c d h1 h2 => Lib.hid (refRoundTo_any a.g p q c d (val B32 a.xs) (val B32 a.ys) a.e g way W h1 h2 (by omega) (by omega) hden ⟨by omega, by omega⟩ (goodG_of hg0) (by omega) (by omega))
    rw [← hrv] at HT
    have HL := Lib.hid (show (dig B32 (roundOf a g way).d).length ≤ 1000000 ∧ (dig B16 (roundOf a g way).d).length ≤ 1000000 from by
      rw [hrv]
      have h1 := roundP_len (neg := a.g) (num := val B32 a.xs) (den := val B32 a.ys) (e := a.e) (g := g) (way := way) (by rw [← ex]; omega) (by rw [← ey]; omega) ⟨by omega, by omega⟩ (goodG_of hg0)
      have h2 := B16_len32 (roundP a.g (val B32 a.xs) (val B32 a.ys) a.e g way).d
      omega)
    rw [h0] at HR
    rw [hr0] at HC
    rw [hg0] at HG
    rw [hb0] at HI
    generalize roundOf a g way = rv at *
    generalize val B32 a.xs = num at *
    generalize val B32 a.ys = den at *
    clear h0 hr0 hg0 hw0 hb0 ex ey hrv hx1 hx2
    go_enter Try.func4, Try.ntmps4
    go_wp2_with fail
    refine calls_lay2 (fun W1 hb1 hz1 Q G => ?_)
    replace ha := ha.past hb1
    have hs1 := hb1
    ((with_reducible refine ((HR _ ha).out).mono ?_))
    rintro e2 w2 ⟨p2, c2, rfl, ho2, hb2⟩
    replace Q := Q.past hb2
    replace G := G.past hb2
    replace ha := ha.past hb2
    have hs2 := hs1.trans (hb2.mono hs1.size)
    go_upto_region 2 with (fail)
    refine wp_lay1 (fun W3 hb3 hz3 P => ?_)
    replace Q := Q.past hb3
    replace G := G.past hb3
    replace ha := ha.past hb3
    replace ho2 := ho2.past hb3
    have hs3 := hs2.trans (hb3.mono hs2.size)
    obtain ⟨Q_0, Q_1, Q_2, Q_3⟩ := Q.e4
    go_wp2_with fail
    clear Q_0 Q_1 Q_2 Q_3
    ((with_reducible refine ((HC _ ha).out).mono ?_))
    rintro e4 w4 ⟨rfl, hb4⟩
    replace Q := Q.past hb4
    replace G := G.past hb4
    replace P := P.past hb4
    replace ha := ha.past hb4
    replace ho2 := ho2.past hb4
    have hs4 := hs3.trans (hb4.mono hs3.size)
    obtain ⟨G_0, G_1, G_2, G_3, G_4⟩ := G.e5
    go_wp2_with fail
    clear G_0 G_1 G_2 G_3 G_4
    ((with_reducible refine ((HG _).out).mono ?_))
    rintro e5 w5 ⟨rfl, hb5⟩
    replace Q := Q.past hb5
    replace G := G.past hb5
    replace P := P.past hb5
    replace ha := ha.past hb5
    replace ho2 := ho2.past hb5
    have hs5 := hs4.trans (hb5.mono hs4.size)
    go_wp2_with fail
    ((with_reducible refine (((HI _).out)).mono ?_))
    rintro _ _ ⟨rfl, rfl⟩
    go_wp2_with fail
    have hPl5 := P.lt
    have hQl5 := Q.lt
    have hGl5 := G.lt
    have hp2l : p2.isSome = true → blk p2 < w5.heap.size := fun h => (ho2.blk_lt h).2
    refine wp_lay1 (fun W6 hb6 hz6 V => ?_)
    replace Q := Q.past hb6
    replace G := G.past hb6
    replace P := P.past hb6
    replace ha := ha.past hb6
    replace ho2 := ho2.past hb6
    have hs6 := hs5.trans (hb6.mono hs5.size)
    have had := ha.past (Below.refl W6.heap.size W6).drew
    go_upto_region 9 with (fail)
    go_region_held3 (fun w' => (w'.cell? ⟨w.heap.size, 0, none⟩ = some (.bool a.g) ∧ w'.cell? ⟨w.heap.size, 1, none⟩ = some (.slice a.p a.xs.length a.c) ∧ w'.cell? ⟨w.heap.size, 2, none⟩ = some (.slice a.q a.ys.length a.d) ∧ w'.cell? ⟨w.heap.size, 3, none⟩ = some (.int .i64 a.e)) ∧
        (w'.cell? ⟨w.heap.size + 1, 0, none⟩ = some (.int .i64 g.rad) ∧ w'.cell? ⟨w.heap.size + 1, 1, none⟩ = some (.int .i64 g.digs) ∧ w'.cell? ⟨w.heap.size + 1, 2, none⟩ = some (.int .i64 g.lo) ∧ w'.cell? ⟨w.heap.size + 1, 3, none⟩ = some (.int .i64 g.hi) ∧ w'.cell? ⟨w.heap.size + 1, 4, none⟩ = some (.bool g.grad)))
      (first | with_reducible exact ⟨Q.e4, G.e5⟩ | with_reducible exact ⟨(Q.drew).e4, (G.drew).e5⟩ | with_reducible exact ⟨((Q.drew).past hbx).e4, ((G.drew).past hbx).e5⟩ | with_reducible exact ⟨(((Q.drew).past hbx).past hby).e4, (((G.drew).past hbx).past hby).e5⟩ | with_reducible exact ⟨(((Q.drew.past hbx).past hby).only (only6 _ _ _ _ _ _ _ _) (by omega)).e4, (((G.drew.past hbx).past hby).only (only6 _ _ _ _ _ _ _ _) (by omega)).e5⟩)
      (first
        | (go_at_call 12; ((with_reducible refine (HO _ had).out.mono ?_)); rintro ex wx ⟨px, cx, qx, dx, rfl, hrx, hfx, hry, hfy, hbx⟩)
        | (go_at_call 11; ((with_reducible refine (HT _ px qx cx dx hrx hry).out.mono ?_)); rintro ey wy ⟨py, cy, rfl, hrz, hfz, hby⟩; (have VV := (V.drew.past hbx).past hby); obtain ⟨V_0, V_1, V_2, V_3, V_4, V_5⟩ := VV.e6; (have V_f0 := VV.f 0); (have V_f1 := VV.f 1); (have V_f2 := VV.f 2); (have V_f3 := VV.f 3); (have V_f4 := VV.f 4); (have V_f5 := VV.f 5)))
    all_goals (clear V_0 V_1 V_2 V_3 V_4 V_5 V_f0 V_f1 V_f2 V_f3 V_f4 V_f5)
    have hs9 := (hs6.drew.trans (hbx.mono hs6.size)).trans (hby.mono (Nat.le_trans hs6.size hbx.size))
    have hVlt := V.lt
    have hxz := hbx.size
    have hyz := hby.size
    have hzd : W6.drew.heap.size = W6.heap.size := rfl
    replace P := (P.drew.past hbx).past hby
    replace ho2 := (ho2.drew.past hbx).past hby
    have hPlt : w2.heap.size < w5.heap.size := hPl5
    go_wp2_with fail
    refine calls_put6 VV (fun W10 hO10 V => ?_)
    replace P := P.only hO10 (by omega)
    replace ho2 := ho2.only hO10 (fun h => by have := hp2l h; omega)
    replace hrz := hrz.only hO10 (fun h => by have := hfz h; omega)
    have hs10 := hs9.trans (hO10.below (B := w.heap.size) (by omega))
    ((with_reducible refine (gridBegun_any _).mono ?_))
    rintro e11 w11 ⟨rfl, hb11⟩
    replace P := P.past hb11
    replace V := V.past hb11
    replace ho2 := ho2.past hb11
    replace hrz := hrz.past hb11
    have hs11 := hs10.trans (hb11.mono hs10.size)
    obtain ⟨P_0, P_1, P_2, P_3, P_4, P_5⟩ := P.e6
    obtain ⟨V_0, V_1, V_2, V_3, V_4, V_5⟩ := V.e6
    go_wp2_with fail
    clear P_0 P_1 P_2 P_3 P_4 P_5 V_0 V_1 V_2 V_3 V_4 V_5
    ((with_reducible refine (refSamePlace_any rv.neg rv.exact rv.over rv.under rv.pow rv.d p2 py c2 cy _ ho2.rd hrz HL.out.1 HL.out.2).mono ?_))
    rintro e12 w12 ⟨rfl, hb12⟩
    go_wp2
    go_ret
    exact ⟨rfl, hs11.trans (hb12.mono hs11.size)⟩
  · by_cases h1 : errRat a = 0
    · by_cases h2 : errG g = 0
      · have hw0 : way < 1 ∨ 5 < way := by
          unfold errRound at h0
          rw [h1, h2, if_neg (by simp), if_neg (by simp)] at h0
          by_cases h : way < 1 ∨ 5 < way
          · exact h
          · rw [if_neg h] at h0; simp at h0
        have he : errRound a g way = 6 := by unfold errRound; rw [h1, h2, if_neg (by simp), if_neg (by simp), if_pos hw0]
        have hrv : roundOf a g way = zeroP := by unfold roundOf; rw [if_neg h0]
        have hb0 := wayB_false hw0
        rw [he, hrv] at HR
        simp only [zeroP, dig_zero, List.length_nil] at HR
        rw [h1] at HC
        rw [h2] at HG
        rw [hb0] at HI
        clear h0 h1 h2 hw0 he hrv hb0
        go_enter Try.func4, Try.ntmps4
        go_wp2_with fail
        refine calls_lay2 (fun W1 hb1 hz1 Q G => ?_)
        replace ha := ha.past hb1
        have hs1 := hb1
        ((with_reducible refine (HR _ ha).out.mono ?_))
        rintro e2 w2 ⟨p2, c2, rfl, ho2, hb2⟩
        simp only [dig_zero, List.length_nil] at ho2 ⊢
        replace Q := Q.past hb2
        replace G := G.past hb2
        replace ha := ha.past hb2
        have hs2 := hs1.trans (hb2.mono hs1.size)
        go_upto_region 2 with (fail)
        refine wp_lay1 (fun W3 hb3 hz3 P => ?_)
        replace Q := Q.past hb3
        replace G := G.past hb3
        replace ha := ha.past hb3
        replace ho2 := ho2.past hb3
        have hs3 := hs2.trans (hb3.mono hs2.size)
        obtain ⟨Q_0, Q_1, Q_2, Q_3⟩ := Q.e4
        go_wp2_with fail
        clear Q_0 Q_1 Q_2 Q_3
        ((with_reducible refine ((HC _ ha).out).mono ?_))
        rintro e4 w4 ⟨rfl, hb4⟩
        replace Q := Q.past hb4
        replace G := G.past hb4
        replace P := P.past hb4
        replace ha := ha.past hb4
        replace ho2 := ho2.past hb4
        have hs4 := hs3.trans (hb4.mono hs3.size)
        obtain ⟨G_0, G_1, G_2, G_3, G_4⟩ := G.e5
        go_wp2_with fail
        clear G_0 G_1 G_2 G_3 G_4
        ((with_reducible refine ((HG _).out).mono ?_))
        rintro e5 w5 ⟨rfl, hb5⟩
        replace Q := Q.past hb5
        replace G := G.past hb5
        replace P := P.past hb5
        replace ha := ha.past hb5
        replace ho2 := ho2.past hb5
        have hs5 := hs4.trans (hb5.mono hs4.size)
        go_wp2_with fail
        ((with_reducible refine (((HI _).out)).mono ?_))
        rintro _ _ ⟨rfl, rfl⟩
        go_wp2_with fail
        refine calls_lay1 (fun W7 hb7 hz7 V => ?_)
        replace Q := Q.past hb7
        replace G := G.past hb7
        replace P := P.past hb7
        replace ha := ha.past hb7
        replace ho2 := ho2.past hb7
        have hs7 := hs5.trans (hb7.mono hs5.size)
        ((with_reducible refine (gridBegun_any _).mono ?_))
        rintro e8 w8 ⟨rfl, hb8⟩
        replace Q := Q.past hb8
        replace G := G.past hb8
        replace P := P.past hb8
        replace V := V.past hb8
        replace ha := ha.past hb8
        replace ho2 := ho2.past hb8
        have hs8 := hs7.trans (hb8.mono hs7.size)
        obtain ⟨P_0, P_1, P_2, P_3, P_4, P_5⟩ := P.e6
        obtain ⟨V_0, V_1, V_2, V_3, V_4, V_5⟩ := V.e6
        go_wp2_with fail
        clear P_0 P_1 P_2 P_3 P_4 P_5 V_0 V_1 V_2 V_3 V_4 V_5
        ((with_reducible refine (samePlace_zero p2 c2 _).mono ?_))
        rintro e9 w9 ⟨rfl, hb9⟩
        go_wp2
        go_ret
        exact ⟨rfl, hs8.trans (hb9.mono hs8.size)⟩
      · have he : errRound a g way = errG g := by unfold errRound; rw [h1, if_neg (by simp), if_pos h2]
        have hrv : roundOf a g way = zeroP := by unfold roundOf; rw [if_neg h0]
        rw [he, hrv] at HR
        simp only [zeroP, dig_zero, List.length_nil] at HR
        rw [h1] at HC
        generalize errG g = er at *
        have t1 : (er == 0) = false := beq_eq_false_iff_ne.2 h2
        have t2 : (er != 0) = true := by rw [bne, t1]; rfl
        have t3 : (er == er) = true := by simp
        clear h0 h1 h2 he hrv
        go_enter Try.func4, Try.ntmps4
        go_wp2_with fail
        refine calls_lay2 (fun W1 hb1 hz1 Q G => ?_)
        replace ha := ha.past hb1
        have hs1 := hb1
        ((with_reducible refine (HR _ ha).out.mono ?_))
        rintro e2 w2 ⟨p2, c2, rfl, ho2, hb2⟩
        simp only [dig_zero, List.length_nil] at ho2 ⊢
        replace Q := Q.past hb2
        replace G := G.past hb2
        replace ha := ha.past hb2
        have hs2 := hs1.trans (hb2.mono hs1.size)
        go_upto_region 2 with (fail)
        refine wp_lay1 (fun W3 hb3 hz3 P => ?_)
        replace Q := Q.past hb3
        replace G := G.past hb3
        replace ha := ha.past hb3
        replace ho2 := ho2.past hb3
        have hs3 := hs2.trans (hb3.mono hs2.size)
        obtain ⟨Q_0, Q_1, Q_2, Q_3⟩ := Q.e4
        go_wp2_with fail
        clear Q_0 Q_1 Q_2 Q_3
        ((with_reducible refine ((HC _ ha).out).mono ?_))
        rintro e4 w4 ⟨rfl, hb4⟩
        replace Q := Q.past hb4
        replace G := G.past hb4
        replace P := P.past hb4
        replace ha := ha.past hb4
        replace ho2 := ho2.past hb4
        have hs4 := hs3.trans (hb4.mono hs3.size)
        obtain ⟨G_0, G_1, G_2, G_3, G_4⟩ := G.e5
        go_wp2_with fail
        clear G_0 G_1 G_2 G_3 G_4
        ((with_reducible refine ((HG _).out).mono ?_))
        rintro e5 w5 ⟨rfl, hb5⟩
        replace Q := Q.past hb5
        replace G := G.past hb5
        replace P := P.past hb5
        replace ha := ha.past hb5
        replace ho2 := ho2.past hb5
        have hs5 := hs4.trans (hb5.mono hs4.size)
        go_wp2_with fail
        refine calls_lay1 (fun W7 hb7 hz7 V => ?_)
        replace Q := Q.past hb7
        replace G := G.past hb7
        replace P := P.past hb7
        replace ha := ha.past hb7
        replace ho2 := ho2.past hb7
        have hs7 := hs5.trans (hb7.mono hs5.size)
        ((with_reducible refine (gridBegun_any _).mono ?_))
        rintro e8 w8 ⟨rfl, hb8⟩
        replace Q := Q.past hb8
        replace G := G.past hb8
        replace P := P.past hb8
        replace V := V.past hb8
        replace ha := ha.past hb8
        replace ho2 := ho2.past hb8
        have hs8 := hs7.trans (hb8.mono hs7.size)
        obtain ⟨P_0, P_1, P_2, P_3, P_4, P_5⟩ := P.e6
        obtain ⟨V_0, V_1, V_2, V_3, V_4, V_5⟩ := V.e6
        go_wp2_with fail
        clear P_0 P_1 P_2 P_3 P_4 P_5 V_0 V_1 V_2 V_3 V_4 V_5
        ((with_reducible refine (samePlace_zero p2 c2 _).mono ?_))
        rintro e9 w9 ⟨rfl, hb9⟩
        go_wp2
        go_ret
        exact ⟨rfl, hs8.trans (hb9.mono hs8.size)⟩
    · have he : errRound a g way = errRat a := by unfold errRound; rw [if_pos h1]
      have hrv : roundOf a g way = zeroP := by unfold roundOf; rw [if_neg h0]
      rw [he, hrv] at HR
      simp only [zeroP, dig_zero, List.length_nil] at HR
      generalize errRat a = er at *
      have t1 : (er == 0) = false := beq_eq_false_iff_ne.2 h1
      have t2 : (er != 0) = true := by rw [bne, t1]; rfl
      have t3 : (er == er) = true := by simp
      clear h0 h1 he hrv
      go_enter Try.func4, Try.ntmps4
      go_wp2_with fail
      refine calls_lay2 (fun W1 hb1 hz1 Q G => ?_)
      replace ha := ha.past hb1
      have hs1 := hb1
      ((with_reducible refine (HR _ ha).out.mono ?_))
      rintro e2 w2 ⟨p2, c2, rfl, ho2, hb2⟩
      simp only [dig_zero, List.length_nil] at ho2 ⊢
      replace Q := Q.past hb2
      replace G := G.past hb2
      replace ha := ha.past hb2
      have hs2 := hs1.trans (hb2.mono hs1.size)
      go_upto_region 2 with (fail)
      refine wp_lay1 (fun W3 hb3 hz3 P => ?_)
      replace Q := Q.past hb3
      replace G := G.past hb3
      replace ha := ha.past hb3
      replace ho2 := ho2.past hb3
      have hs3 := hs2.trans (hb3.mono hs2.size)
      obtain ⟨Q_0, Q_1, Q_2, Q_3⟩ := Q.e4
      go_wp2_with fail
      clear Q_0 Q_1 Q_2 Q_3
      ((with_reducible refine ((HC _ ha).out).mono ?_))
      rintro e4 w4 ⟨rfl, hb4⟩
      replace Q := Q.past hb4
      replace G := G.past hb4
      replace P := P.past hb4
      replace ha := ha.past hb4
      replace ho2 := ho2.past hb4
      have hs4 := hs3.trans (hb4.mono hs3.size)
      go_wp2_with fail
      refine calls_lay1 (fun W7 hb7 hz7 V => ?_)
      replace Q := Q.past hb7
      replace G := G.past hb7
      replace P := P.past hb7
      replace ha := ha.past hb7
      replace ho2 := ho2.past hb7
      have hs7 := hs4.trans (hb7.mono hs4.size)
      ((with_reducible refine (gridBegun_any _).mono ?_))
      rintro e8 w8 ⟨rfl, hb8⟩
      replace Q := Q.past hb8
      replace G := G.past hb8
      replace P := P.past hb8
      replace V := V.past hb8
      replace ha := ha.past hb8
      replace ho2 := ho2.past hb8
      have hs8 := hs7.trans (hb8.mono hs7.size)
      obtain ⟨P_0, P_1, P_2, P_3, P_4, P_5⟩ := P.e6
      obtain ⟨V_0, V_1, V_2, V_3, V_4, V_5⟩ := V.e6
      go_wp2_with fail
      clear P_0 P_1 P_2 P_3 P_4 P_5 V_0 V_1 V_2 V_3 V_4 V_5
      ((with_reducible refine (samePlace_zero p2 c2 _).mono ?_))
      rintro e9 w9 ⟨rfl, hb9⟩
      go_wp2
      go_ret
      exact ⟨rfl, hs8.trans (hb9.mono hs8.size)⟩

end Go.Proofs.Ytpdmajoofllhdaa
