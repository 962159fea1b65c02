/- The reference DOver. -/
import Derived.Test.YtkooikgplpamlaaDoorZL
import Derived.Test.YtkooikgplpamlaaDoorZBall7
import Derived.Test.YtkooikgplpamlaaDoorZRef10
namespace Go.Proofs.YtkooikgplpamlaaDoor
open Go.RowKit Go.Slip

theorem rOver_bd {a c : Dv} (b : Nat) (up : Bool) (hB : Bare a) (hc : 0 < c.m) (hb : b ≤ 5000) (hal : (dig B32 a.m).length ≤ 1300) (hcl : (dig B32 c.m).length ≤ 1300) (ha1 : -100000 ≤ a.e) (ha2 : a.e ≤ 100000) (hc1 : -100000 ≤ c.e) (hc2 : c.e ≤ 100000) : FitF (rOver a c b up) := by
  obtain ⟨h1, h2, h3⟩ := pOver_bd b up hb hal hcl ha1 ha2 hc1 hc2
  rw [pOver_eq hB hc] at h1 h2 h3
  have := B16_len32 (rOver a c b up).m
  exact ⟨by omega, by omega, by omega⟩

theorem lit16 (w : World) (m : Nat) (hm : m = w.heap.size) (k : Nat) (hk : k < 65536) (h0 : 0 < k) (t : TypeId) : Rd (w.alloc (.cells #[.int .i64 (k : Int)] t)) .i64 (some ⟨m, 0, none⟩) (dig B16 k) := by
  subst hm
  rw [dig_small B16_two h0 (by unfold B16; exact hk)]
  have := (own_one w .i64 t (k : Int) (by omega)).rd
  simpa using this

theorem rd_lit16 {w : World} {b : Nat} (h : Bx w b #[.int .i64 1]) : Rd w .i64 (some ⟨b, 0, none⟩) (dig B16 1) := by
  rw [dig_small B16_two (by omega) (by decide)]
  refine ⟨fun _ => ⟨rfl, rfl⟩, fun j hj => ?_⟩
  obtain rfl : j = 0 := by simp at hj; omega
  exact h.e1

theorem _root_.Go.Slip.Bx.put1of3 {w : World} {b : Nat} {v0 v1 v2 : Value} (h : Bx w b #[v0, v1, v2]) (u : Value) : Bx (w.setCell ⟨b, 1, none⟩ u) b #[v0, u, v2] := h.set 1 u
theorem wp_put1of3 {P : Program} {c : Code} {Q : Exit → Act → World → Prop} {a : Act} {w : World} {b : Nat} {v0 v1 v2 u : Value} (hX : Bx w b #[v0, v1, v2]) (h : ∀ W, Only b w W → Bx W b #[v0, u, v2] → c.wp P Q a W) : c.wp P Q a (w.setCell ⟨b, 1, none⟩ u) :=
  h _ (only_set _ _ _ _) (hX.put1of3 u)


set_option maxHeartbeats 8000000 in
set_option maxRecDepth 100000 in
theorem doverF_any (x y : Rw) (b base base' : Nat) (up : Bool) (w : World) (hx : InF w base x) (hy : InF w base' y) (sx : Sm x) (sy : Sm y) (hB : Bare x.v) (hy0 : 0 < y.m) (hb : b ≤ 5000) :
    Calls Tryd.prog 22 #[.agg #[.bool x.g, .slice x.p (dig B16 x.m).length x.c, .int .i64 x.e], .agg #[.bool y.g, .slice y.p (dig B16 y.m).length y.c, .int .i64 y.e], .int .i64 b, .bool up] w (GivesFW w w.heap.size (rOver x.v y.v b up)) := by
  have HFit := Lib.hid (rOver_bd (a := x.v) (c := y.v) b up hB hy0 hb sx.len sy.len sx.lo sx.hi sy.lo sy.hi)
  have HJ := Lib.hid (show rOver x.v y.v b up = if x.m = 0 then zeroD else rCut (bare ⟨xor x.g y.g, 2 ^ 2 * (x.m * 2 ^ (b + 4 + blen y.m) / y.m) + (if x.m * 2 ^ (b + 4 + blen y.m) % y.m ≠ 0 then 1 else 0), x.e - y.e - ((b + 4 + blen y.m : Nat) : Int) - 2⟩) b up from rfl)
  generalize rOver x.v y.v b up = ro at *
  by_cases h0 : x.m = 0
  · have HK := Lib.hid (HJ.out.trans (if_pos h0))
    have hl0 : (dig B16 x.m).length = 0 := by rw [h0, dig_zero]; rfl
    have t1 : (((dig B16 x.m).length : Int) == 0) = true := by rw [hl0]; rfl
    clear HJ h0 hl0
    go_enter Tryd.func22, Tryd.ntmps22
    go_upto_region 1 with (fail)
    refine wp_lay3 (fun W1 hb1 hz1 A B R => ?_)
    have hs1 := hb1
    obtain ⟨A_0, A_1, A_2⟩ := A.e3
    obtain ⟨R_0, R_1, R_2⟩ := R.e3
    have R_f0 := R.f 0
    have R_f1 := R.f 1
    have R_f2 := R.f 2
    go_wp2_with fail
    clear A_0 A_1 A_2 R_0 R_1 R_2 R_f0 R_f1 R_f2
    obtain ⟨R_0, R_1, R_2⟩ := R.e3
    refine bodyPost_ret (v := .agg #[.bool false, .slice none 0 0, .int .i64 0]) (by simp [results, Tryd.results22, go_sem, R_0, R_1, R_2]) rfl ?_
    have hO := only3 W1 (w.heap.size + 1 + 1) (.bool false) (.slice none 0 0) (.int .i64 0)
    exact ⟨⟨false, none, 0, 0, 0⟩, HK.out.symm, by simp only [dig_zero]; rfl, ⟨by simp only [dig_zero]; exact Rd.nil _ _ _, by simp [dig_zero], by simp [dig_zero], by simp, by simp, by simp [dig_zero]⟩, hs1.trans (hO.below (by omega))⟩
  · have hl0 : 0 < (dig B16 x.m).length := by have := dig_len_zero B16_two x.m; omega
    have t1 : (((dig B16 x.m).length : Int) == 0) = false := beq_eq_false_iff_ne.2 (by omega)
    have HK := Lib.hid (HJ.out.trans (if_neg h0))
    clear HJ h0 hl0
    have hLY := blen_len32 y.m
    have sy1 := sy.len
    have sx1 := sx.len
    have l16 := B16_len32 x.m
    have m16 := B16_len32 y.m
    have HLY := fun W h => Lib.hid (refLen_any y.p _ y.c y.m W h rfl (by omega))
    generalize blen y.m = LY at *
    obtain ⟨N, hN⟩ : ∃ N, N = b + 4 + LY := ⟨_, rfl⟩
    rw [← hN] at HK
    have hN2 : N ≤ 46700 := by omega
    have HUP := fun W h => Lib.hid (refUp_any x.p _ x.c x.m N W h rfl (by omega) (by omega))
    have lXN : (dig B32 (x.m * 2 ^ N)).length ≤ 2800 := by have := len_shl x.m N; omega
    generalize x.m * 2 ^ N = XN at *
    have lXN16 := B16_len32 XN
    have HDV := fun W p c h1 q d h2 => Lib.hid (refInto_all p q _ _ c d XN y.m W h1 h2 rfl rfl (by omega) (by omega) hy0)
    have lQ : (dig B32 (XN / y.m)).length ≤ 2800 := Nat.le_trans (dig_len_mono B32_two (Nat.div_le_self _ _)) lXN
    obtain ⟨Q, hQ⟩ : ∃ Q, Q = XN / y.m := ⟨_, rfl⟩
    obtain ⟨T, hT0⟩ : ∃ T, T = XN % y.m := ⟨_, rfl⟩
    rw [← hQ] at HDV HK lQ
    rw [← hT0] at HDV HK
    clear hQ hT0
    have lQ16 := B16_len32 Q
    have l4 : (dig B16 4).length ≤ 1 := (dig_len_le B16_two 4 1).2 (by decide)
    have d1 : (dig B16 4).length = 1 := by rw [dig_small B16_two (by omega) (by decide)]; rfl
    have HTM := fun W p c h1 q d h2 => Lib.hid (refTimes_any p q (dig B16 Q).length 1 c d Q 4 W h1 h2 rfl d1.symm (by omega))
    have HL4 := fun (W : World) m hm t => Lib.hid (show Rd (W.alloc (.cells #[.int .i64 4] t)) .i64 (some ⟨m, 0, none⟩) (dig B16 4) from lit16 W m hm 4 (by omega) (by omega) t)
    clear d1
    rw [show xor x.g y.g = !(x.g == y.g) by cases x.g <;> cases y.g <;> rfl, show 2 ^ 2 * Q = Q * 4 from Nat.mul_comm _ _] at HK
    have lM : (dig B32 (Q * 4)).length ≤ 2802 := by
      refine Nat.le_trans (dig_len_mul B32_two _ _) ?_
      have : (dig B32 4).length ≤ 1 := (dig_len_le B32_two 4 1).2 (by decide)
      omega
    generalize Q * 4 = Q4 at *
    have lM16 := B16_len32 Q4
    have o1 : (dig B16 1).length = 1 := by rw [dig_small B16_two (by omega) (by decide)]; rfl
    have HPL := fun W p c h1 q d h2 => Lib.hid (refPlus_any p q (dig B16 Q4).length 1 c d Q4 1 W h1 h2 rfl o1.symm (by omega))
    have lM1 : (dig B16 (Q4 + 1)).length ≤ 5700 := by have := dig_len_add B16_two Q4 1; omega
    have lM2 : (dig B32 (Q4 + 1)).length ≤ 2804 := by have := dig_len_add B32_two Q4 1; have : (dig B32 1).length ≤ 1 := (dig_len_le B32_two 1 1).2 (by decide); omega
    clear o1
    obtain ⟨E, hE0⟩ : ∃ E, x.e - y.e - (N : Int) - 2 = E := ⟨_, rfl⟩
    rw [hE0] at HK
    have x1 := sx.lo
    have x2 := sx.hi
    have y1 := sy.lo
    have y2 := sy.hi
    have hEb : -300000 ≤ E ∧ E ≤ 200000 := by omega
    have HN := Lib.hid hN
    have eN : (b : Int) + 4 + (LY : Int) = (N : Int) := by omega
    clear hN
    go_enter Tryd.func22, Tryd.ntmps22
    go_upto_region 1 with (fail)
    refine wp_lay3 (fun W1 hb1 hz1 A B R => ?_)
    replace hx := hx.past hb1
    replace hy := hy.past hb1
    have hs1 := hb1
    obtain ⟨A_0, A_1, A_2⟩ := A.e3
    obtain ⟨B_0, B_1, B_2⟩ := B.e3
    go_wp2_with fail
    clear A_0 A_1 A_2 B_0 B_1 B_2
    ((with_reducible refine (((HLY _ hy.rd).out)).mono ?_))
    rintro _ _ ⟨rfl, rfl⟩
    obtain ⟨A_0, A_1, A_2⟩ := A.e3
    go_upto_region 4 with (fail)
    clear A_0 A_1 A_2
    go_region_held3 (fun w' => (w'.cell? ⟨w.heap.size, 0, none⟩ = some (.bool x.g) ∧ w'.cell? ⟨w.heap.size, 1, none⟩ = some (.slice x.p (dig B16 x.m).length x.c) ∧ w'.cell? ⟨w.heap.size, 2, none⟩ = some (.int .i64 x.e)) ∧
        (w'.cell? ⟨w.heap.size + 1, 0, none⟩ = some (.bool y.g) ∧ w'.cell? ⟨w.heap.size + 1, 1, none⟩ = some (.slice y.p (dig B16 y.m).length y.c) ∧ w'.cell? ⟨w.heap.size + 1, 2, none⟩ = some (.int .i64 y.e)))
      (first
        | with_reducible exact ⟨A.e3, B.e3⟩
        | with_reducible exact ⟨A.drew.e3, B.drew.e3⟩
        | with_reducible exact ⟨(A.drew.past hbx).e3, (B.drew.past hbx).e3⟩
        | with_reducible exact ⟨((A.drew.past hbx).past hby).e3, ((B.drew.past hbx).past hby).e3⟩)
      (first
        | (go_at_call 59; ((with_reducible refine (HUP _ hx.rd.drew).out.mono ?_)); rintro ex wx ⟨px, cx, rfl, hrx, hcx, hfx, hbx⟩)
        | (go_at_call 58; ((with_reducible refine (HDV _ _ _ hrx _ _ (hy.rd.drew.past hbx)).out.mono ?_)); rintro ey wy ⟨pq, cq, pr, cr, rfl, hrq, hcq, hfq, hrr, hcr, hfr, hby⟩))
    have z1 := hs1.size
    have hs3 := (hs1.drew.trans (hbx.mono z1)).trans (hby.mono (Nat.le_trans z1 hbx.size))
    replace A := (A.drew.past hbx).past hby
    replace B := (B.drew.past hbx).past hby
    replace R := (R.drew.past hbx).past hby
    clear HUP HDV HLY eN hfq hfr hcr
    go_wp2_with fail
    have e1 : IntKind.i64.wrap (x.e - y.e) = x.e - y.e := IntWalk.i64_in _ (by omega)
    have e2 : IntKind.i64.wrap (x.e - y.e - (N : Int)) = x.e - y.e - (N : Int) := IntWalk.i64_in _ (by omega)
    have e3 : IntKind.i64.wrap (x.e - y.e - (N : Int) - 2) = E := by rw [hE0]; exact IntWalk.i64_in _ (by omega)
    clear hE0
    have hAl := A.lt
    have hBl := B.lt
    have hRl := R.lt
    have hzd : wy.drew.heap.size = wy.heap.size := rfl
    have HZD := Lib.hid hzd
    clear hzd
    go_cut [12] (fun s12 wx => ∃ (kx : Nat) (px : Option Addr) (cx : Nat), s12 = .pointer (some ⟨kx, 0, none⟩) ∧ Bx wx kx #[.bool (!(x.g == y.g)), .slice px (dig B16 Q4).length cx, .int .i64 E] ∧ wy.heap.size ≤ kx ∧ Rd wx .i64 px (dig B16 Q4) ∧ (dig B16 Q4).length ≤ cx ∧ (0 < (dig B16 Q4).length → wy.heap.size ≤ blk px) ∧ (0 < (dig B16 Q4).length → blk px ≠ kx) ∧ Below wy.heap.size wy wx)
    case first =>
      go_region_held3 (fun w' => (w'.cell? ⟨w.heap.size, 0, none⟩ = some (.bool x.g) ∧ w'.cell? ⟨w.heap.size, 1, none⟩ = some (.slice x.p (dig B16 x.m).length x.c) ∧ w'.cell? ⟨w.heap.size, 2, none⟩ = some (.int .i64 x.e)) ∧
          (w'.cell? ⟨w.heap.size + 1, 0, none⟩ = some (.bool y.g) ∧ w'.cell? ⟨w.heap.size + 1, 1, none⟩ = some (.slice y.p (dig B16 y.m).length y.c) ∧ w'.cell? ⟨w.heap.size + 1, 2, none⟩ = some (.int .i64 y.e)))
        (((with_reducible refine ⟨Bx.e3 ?_, Bx.e3 ?_⟩); all_goals (repeat (first | with_reducible exact A | with_reducible exact B | with_reducible refine Bx.drew ?_ | with_reducible refine Bx.laid ?_ _ | (with_reducible refine Bx.only ?_ (only3 _ _ _ _ _) (by first | omega | (simp; omega))) | with_reducible refine Bx.past ?_ hbz))))
        (first
          | (go_at_call 60; (first
              | with_reducible refine (HTM _ _ _ (hrq.laid _).drew _ _ (HL4 wy _ (Eq.refl _) _).out.drew).out.mono ?_
              | with_reducible refine (HTM _ _ _ ((hrq.laid _).laid _).drew _ _ ((HL4 wy _ (Eq.refl _) _).out.laid _).drew).out.mono ?_
              | with_reducible refine (HTM _ _ _ ((hrq.laid _).laid _).drew _ _ (HL4 (wy.alloc _) _ (World.size_alloc _ _).symm _).out.drew).out.mono ?_); rintro ez wz ⟨pz, cz, rfl, hrz, hcz, hfz, hbz⟩; (first
              | (with_reducible have XX := ((bx_new wy #[.bool false, .slice none 0 0, .int .i64 0] 37).laid _).drew.past hbz; obtain ⟨X_0, X_1, X_2⟩ := XX.e3; (have X_f0 := XX.f 0); (have X_f1 := XX.f 1); have X_f2 := XX.f 2)
              | (with_reducible have XX := (bx_new (wy.alloc (.cells #[.int .i64 4] 3)) #[.bool false, .slice none 0 0, .int .i64 0] 37).drew.past hbz; rw [World.size_alloc] at XX; obtain ⟨X_0, X_1, X_2⟩ := XX.e3; (have X_f0 := XX.f 0); (have X_f1 := XX.f 1); have X_f2 := XX.f 2)
              | skip)))
      all_goals (clear e1 e2 e3)
      all_goals (go_wp2_with fail)
      all_goals go_meet
      · have s1 : (wy.alloc (.cells #[.int .i64 4] 3)).drew.heap.size = wy.heap.size + 1 := World.size_alloc _ _
        have zz := hbz.size
        rw [s1] at zz hfz
        exact ⟨wz.heap.size, pz, cz, rfl, bx_new wz _ _, by omega, hrz.laid _, hcz, fun h => by have := hfz h; omega, fun h => by have := hrz.lt h; omega, ((below_lay1 wy _).drew.trans (hbz.mono (by rw [s1]; omega))).trans ((below_lay1 wz _).mono (by omega))⟩
      · have s1 : ((wy.alloc (.cells #[.int .i64 4] 3)).alloc (.cells #[.bool false, .slice none 0 0, .int .i64 0] 37)).drew.heap.size = wy.heap.size + 1 + 1 := (World.size_alloc _ _).trans (congrArg (· + 1) (World.size_alloc _ _))
        have zz := hbz.size
        rw [s1] at zz hfz
        have hO := only3 wz (wy.heap.size + 1) (.bool (!(x.g == y.g))) (.slice pz (dig B16 Q4).length cz) (.int .i64 E)
        exact ⟨wy.heap.size + 1, pz, cz, rfl, XX.put3 _ _ _, by omega, hrz.only hO (fun h => by have := hfz h; omega), hcz, fun h => by have := hfz h; omega, fun h => by have := hfz h; omega, ((below_lay2 wy _ _).drew.trans (hbz.mono (by rw [s1]; omega))).trans (hO.below (by omega))⟩
      · have s1 : ((wy.alloc (.cells #[.bool false, .slice none 0 0, .int .i64 0] 37)).alloc (.cells #[.int .i64 4] 3)).drew.heap.size = wy.heap.size + 1 + 1 := (World.size_alloc _ _).trans (congrArg (· + 1) (World.size_alloc _ _))
        have zz := hbz.size
        rw [s1] at zz hfz
        have hO := only3 wz wy.heap.size (.bool (!(x.g == y.g))) (.slice pz (dig B16 Q4).length cz) (.int .i64 E)
        exact ⟨wy.heap.size, pz, cz, rfl, XX.put3 _ _ _, by omega, hrz.only hO (fun h => by have := hfz h; omega), hcz, fun h => by have := hfz h; omega, fun h => by have := hfz h; omega, ((below_lay2 wy _ _).drew.trans (hbz.mono (by rw [s1]; omega))).trans (hO.below (by omega))⟩
    case rest =>
      clear e1 e2 e3
      obtain ⟨kx, pm, cm, rfl, X, hkx, hrm, hcm, hfm, hnm, hbc⟩ := hcut
      have hs4 := hs3.trans (hbc.mono hs3.size)
      have z3 := hs3.size
      have hXl := X.lt
      replace R := R.past hbc
      replace hrr := hrr.past hbc
      generalize (!(x.g == y.g)) = ng at *
      obtain ⟨w4, hw4⟩ : ∃ w4, w4 = wc := ⟨_, rfl⟩
      subst hw4
      clear hbc A B
      by_cases hT0 : T = 0
      · have hTL : (dig B16 T).length = 0 := (dig_len_zero B16_two T).2 hT0
        have t2 : decide (0 < (dig B16 T).length) = false := decide_eq_false (by omega)
        have HM := Lib.hid (HK.out.trans (show rCut (bare ⟨ng, Q4 + (if T ≠ 0 then 1 else 0), E⟩) b up = rCut (bare ⟨ng, Q4, E⟩) b up by rw [if_neg (by omega), Nat.add_zero]))
        clear hTL hT0 HK
        go_upto_region 8 with (fail)
        obtain ⟨r0, hr0⟩ : ∃ r0, bare ⟨ng, Q4, E⟩ = r0 := ⟨_, rfl⟩
        have hq1 := bare_len B16_two ⟨ng, Q4, E⟩
        have hq2 := bare_e ⟨ng, Q4, E⟩ (n := 2810) (by simp only; omega) (lo := -300000) (hi := 200000) (by simp only; omega) (by simp only; omega) (by omega) (by omega)
        rw [hr0] at hq1 hq2
        simp only at hq1
        have HMM := fun p c => Lib.hid (show rCut (Rw.v ⟨r0.neg, p, c, r0.m, r0.e⟩) b up = ro by rw [HM.out, hr0]; rfl)
        have HFF := fun p c => Lib.hid (show FitF (rCut (Rw.v ⟨r0.neg, p, c, r0.m, r0.e⟩) b up) by rw [(HMM p c).out]; exact HFit.out)
        have hRW := R.lt
        have HRR := Lib.hid hr0
        clear hr0 HM
        obtain ⟨X_0, X_1, X_2⟩ := X.e3
        go_wp2_with fail
        clear X_0 X_1 X_2
        ((with_reducible refine ((refBared_any ng pm _ cm E (Q4) _ (hrm) rfl (by omega) (by omega))).mono ?_))
        rintro e8 w8 ⟨p8, c8, rfl, hr8, hc8, hf8, hb8⟩
        replace R := R.past hb8
        replace X := X.past hb8
        replace hrm := hrm.past hb8
        have hs8 := hs4.trans (hb8.mono hs4.size)
        rw [HRR.out] at hr8 hc8 hf8 ⊢
        go_wp2_with fail
        have hRX : w.heap.size + 1 + 1 + 1 ≤ w8.heap.size := R.lt
        ((with_reducible refine ((dcutF_any ⟨r0.neg, p8, c8, r0.m, r0.e⟩ (w.heap.size + 1 + 1 + 1) b up _ ⟨hr8, hc8, by simp only; omega, by simp only; omega, by simp only; omega, fun h => by (rcases hf8 h with h | h; (exact h.elim); (simp only; omega))⟩ (by omega) hRX (HFF _ _).out)).mono ?_))
        rintro e9 w9 ⟨r9, hr9, rfl, hf9, hb9⟩
        replace R := R.past hb9
        replace X := X.past hb9
        replace hrm := hrm.past hb9
        have hs9 := hs8.trans (hb9.mono hs8.size)
        have HR9 := Lib.hid (hr9.trans (HMM _ _).out)
        clear hr9
        obtain ⟨R_0, R_1, R_2⟩ := R.e3
        have R_f0 := R.f 0
        have R_f1 := R.f 1
        have R_f2 := R.f 2
        go_wp2_with fail
        clear R_0 R_1 R_2 R_f0 R_f1 R_f2
        obtain ⟨R_0, R_1, R_2⟩ := R.e3
        refine bodyPost_ret (v := .agg #[.bool r9.g, .slice r9.p (dig B16 r9.m).length r9.c, .int .i64 r9.e]) (by simp [results, Tryd.results22, go_sem, R_0, R_1, R_2]) rfl ?_
        have hO := only3 w9 (w.heap.size + 1 + 1) (.bool r9.g) (.slice r9.p (dig B16 r9.m).length r9.c) (.int .i64 r9.e)
        exact ⟨r9, HR9.out, rfl, (hf9.only hO (fun h => by have := hf9.at_ h; omega)).mono (by omega), hs9.trans (hO.below (by omega))⟩
      · have hTL := dig_len_zero B16_two T
        have t2 : decide (0 < (dig B16 T).length) = true := decide_eq_true (by omega)
        have HM := Lib.hid (HK.out.trans (show rCut (bare ⟨ng, Q4 + (if T ≠ 0 then 1 else 0), E⟩) b up = rCut (bare ⟨ng, Q4 + 1, E⟩) b up by rw [if_pos hT0]))
        clear hTL hT0 HK
        go_upto_region 7 with (fail)
        obtain ⟨X_0, X_1, X_2⟩ := X.e3
        go_wp2_with fail
        clear X_0 X_1 X_2
        refine calls_lay1 (fun W5 hb5 hz5 L => ?_)
        replace R := R.past hb5
        replace X := X.past hb5
        replace hrm := hrm.past hb5
        have hs5 := hs4.trans (hb5.mono hs4.size)
        ((with_reducible refine (HPL _ pm cm hrm _ 1 (rd_lit16 L)).out.mono ?_))
        rintro e6 w6 ⟨p6, c6, rfl, hr6, hc6, hf6, hb6⟩
        have hs6 := hs5.trans (hb6.mono hs5.size)
        replace R := R.past hb6
        replace X := X.past hb6
        have zz5 := hb5.size
        have zz6 := hb6.size
        obtain ⟨X_0, X_1, X_2⟩ := X.e3
        have X_f0 := X.f 0
        have X_f1 := X.f 1
        have X_f2 := X.f 2
        go_upto_region 8 with (fail)
        clear X_0 X_1 X_2 X_f0 X_f1 X_f2
        refine wp_put1of3 X (fun W7 hO7 X => ?_)
        replace R := R.only hO7 (by omega)
        replace hr6 := hr6.only hO7 (fun h => by have := hf6 h; omega)
        have hs7 := hs6.trans (hO7.below (B := w.heap.size) (by omega))
        obtain ⟨r0, hr0⟩ : ∃ r0, bare ⟨ng, Q4 + 1, E⟩ = r0 := ⟨_, rfl⟩
        have hq1 := bare_len B16_two ⟨ng, Q4 + 1, E⟩
        have hq2 := bare_e ⟨ng, Q4 + 1, E⟩ (n := 2810) (by simp only; omega) (lo := -300000) (hi := 200000) (by simp only; omega) (by simp only; omega) (by omega) (by omega)
        rw [hr0] at hq1 hq2
        simp only at hq1
        have HMM := fun p c => Lib.hid (show rCut (Rw.v ⟨r0.neg, p, c, r0.m, r0.e⟩) b up = ro by rw [HM.out, hr0]; rfl)
        have HFF := fun p c => Lib.hid (show FitF (rCut (Rw.v ⟨r0.neg, p, c, r0.m, r0.e⟩) b up) by rw [(HMM p c).out]; exact HFit.out)
        have hRW := R.lt
        have HRR := Lib.hid hr0
        clear hr0 HM
        obtain ⟨X_0, X_1, X_2⟩ := X.e3
        go_wp2_with fail
        clear X_0 X_1 X_2
        ((with_reducible refine ((refBared_any ng p6 _ c6 E (Q4 + 1) _ (hr6) rfl (by omega) (by omega))).mono ?_))
        rintro e8 w8 ⟨p8, c8, rfl, hr8, hc8, hf8, hb8⟩
        replace R := R.past hb8
        replace X := X.past hb8
        replace hr6 := hr6.past hb8
        have hs8 := hs7.trans (hb8.mono hs7.size)
        rw [HRR.out] at hr8 hc8 hf8 ⊢
        go_wp2_with fail
        have hRX : w.heap.size + 1 + 1 + 1 ≤ w8.heap.size := R.lt
        ((with_reducible refine ((dcutF_any ⟨r0.neg, p8, c8, r0.m, r0.e⟩ (w.heap.size + 1 + 1 + 1) b up _ ⟨hr8, hc8, by simp only; omega, by simp only; omega, by simp only; omega, fun h => by (rcases hf8 h with h | h; (exact h.elim); (simp only; omega))⟩ (by omega) hRX (HFF _ _).out)).mono ?_))
        rintro e9 w9 ⟨r9, hr9, rfl, hf9, hb9⟩
        replace R := R.past hb9
        replace X := X.past hb9
        replace hr6 := hr6.past hb9
        have hs9 := hs8.trans (hb9.mono hs8.size)
        have HR9 := Lib.hid (hr9.trans (HMM _ _).out)
        clear hr9
        obtain ⟨R_0, R_1, R_2⟩ := R.e3
        have R_f0 := R.f 0
        have R_f1 := R.f 1
        have R_f2 := R.f 2
        go_wp2_with fail
        clear R_0 R_1 R_2 R_f0 R_f1 R_f2
        obtain ⟨R_0, R_1, R_2⟩ := R.e3
        refine bodyPost_ret (v := .agg #[.bool r9.g, .slice r9.p (dig B16 r9.m).length r9.c, .int .i64 r9.e]) (by simp [results, Tryd.results22, go_sem, R_0, R_1, R_2]) rfl ?_
        have hO := only3 w9 (w.heap.size + 1 + 1) (.bool r9.g) (.slice r9.p (dig B16 r9.m).length r9.c) (.int .i64 r9.e)
        exact ⟨r9, HR9.out, rfl, (hf9.only hO (fun h => by have := hf9.at_ h; omega)).mono (by omega), hs9.trans (hO.below (by omega))⟩

end Go.Proofs.YtkooikgplpamlaaDoor
