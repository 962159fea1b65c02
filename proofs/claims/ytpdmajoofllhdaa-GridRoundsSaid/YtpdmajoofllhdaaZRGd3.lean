/- references: RoundTo. -/
import Derived.Test.YtpdmajoofllhdaaZRGd2
import Derived.Test.YtpdmajoofllhdaaZR
import Derived.Test.YtpdmajoofllhdaaZA
namespace Go.Proofs.Ytpdmajoofllhdaa
open Go.RowKit Go.Slip

/-- A reference's place that a call leaves. -/
def GivesRP (w : World) (d : Pl) (en : Ending) (w' : World) : Prop :=
  ∃ p c, en = .returned (.agg #[.bool d.neg, .slice p (dig B16 d.d).length c, .int .i64 d.pow, .bool d.exact, .bool d.over, .bool d.under]) ∧ Rd w' .i64 p (dig B16 d.d) ∧ (0 < (dig B16 d.d).length → w.heap.size ≤ blk p) ∧ Below w.heap.size w w'

theorem wid_cases (g : Gd) : wid g = 1 ∨ wid g = 4 := by unfold wid; split <;> simp

theorem far_div {x : Int} {wd : Nat} (h : wd = 1 ∨ wd = 4) (hx : -800000 ≤ x) : (x + 800000).tdiv wd = (x + 800000) / wd ∧ (800000 : Int).tdiv wd = 800000 / wd ∧ (x + 800000) / wd - 800000 / wd = x / wd := by
  refine ⟨Int.tdiv_eq_ediv_of_nonneg (by omega), Int.tdiv_eq_ediv_of_nonneg (by omega), ?_⟩
  rcases h with rfl | rfl <;> omega

set_option maxHeartbeats 1000000 in
set_option maxRecDepth 100000 in
theorem refRoundTo_zero (ng : Bool) (p q : Option Addr) (c d m : Nat) (e : Int) (g : Gd) (way : Int) (w : World) :
    Calls Try.prog 11 #[.agg #[.bool ng, .slice p 0 c, .slice q m d, .int .i64 e], .agg #[.int .i64 g.rad, .int .i64 g.digs, .int .i64 g.lo, .int .i64 g.hi, .bool g.grad], .int .i64 way] w (GivesRP w ⟨false, 0, 0, true, false, false⟩) := by
  go_enter Try.func11, Try.ntmps11
  go_upto_region 2 with (fail)
  refine wp_lay3 (fun W1 hb1 hz1 Q G R => ?_)
  have hs1 := hb1
  obtain ⟨R_0, R_1, R_2, R_3, R_4, R_5⟩ := R.e6
  have R_f0 := R.f 0
  have R_f1 := R.f 1
  have R_f2 := R.f 2
  have R_f3 := R.f 3
  have R_f4 := R.f 4
  have R_f5 := R.f 5
  go_wp2_with fail
  clear R_0 R_1 R_2 R_3 R_4 R_5 R_f0 R_f1 R_f2 R_f3 R_f4 R_f5
  obtain ⟨R_0, R_1, R_2, R_3, R_4, R_5⟩ := R.e6
  refine bodyPost_ret (v := .agg #[.bool false, .slice none 0 0, .int .i64 0, .bool true, .bool false, .bool false]) (by simp [results, Try.results11, go_sem, R_0, R_1, R_2, R_3, R_4, R_5]) rfl ?_
  exact ⟨none, 0, by simp [dig_zero], by simp only [dig_zero]; exact Rd.nil _ _ _, by simp [dig_zero], hs1.trans ((only6 W1 (w.heap.size + 1 + 1) _ _ _ _ _ _).below (by omega))⟩

theorem rd_one16b {w : World} {b : Nat} (h : Bx w b #[.int .i64 1]) : Rd w .i64 (some ⟨b, 0, none⟩) (dig B16 1) := by
  rw [dig_small B16_two (by omega) (by unfold B16; omega)]
  refine ⟨fun _ => ⟨rfl, rfl⟩, fun j hj => ?_⟩
  obtain rfl : j = 0 := by simp at hj; omega
  exact h.e1
theorem rd_one16 (w : World) (T : TypeId) : Rd (w.alloc (.cells #[.int .i64 1] T)) .i64 (some ⟨w.heap.size, 0, none⟩) (dig B16 1) := by
  rw [dig_small B16_two (by omega) (by unfold B16; omega)]
  exact (own_one w .i64 T 1 (by omega)).rd
theorem rd_two16 (w : World) (T : TypeId) : Rd (w.alloc (.cells #[.int .i64 2] T)) .i64 (some ⟨w.heap.size, 0, none⟩) (dig B16 2) := by
  rw [dig_small B16_two (by omega) (by unfold B16; omega)]
  exact (own_one w .i64 T 2 (by omega)).rd
theorem len_two16 : (dig B16 2).length = 1 := by rw [dig_small B16_two (by omega) (by unfold B16; omega)]; rfl
theorem len_one16 : (dig B16 1).length = 1 := by rw [dig_small B16_two (by omega) (by unfold B16; omega)]; rfl

set_option maxHeartbeats 16000000 in
set_option maxRecDepth 100000 in
theorem refRoundTo_pos (ng : Bool) (p q : Option Addr) (c d : Nat) (num den : Nat) (e : Int) (g : Gd) (way K : Int) (w : World) (hp : Rd w .i64 p (dig B16 num)) (hq : Rd w .i64 q (dig B16 den))
    (hl : (dig B16 num).length ≤ 20000) (hl2 : (dig B16 den).length ≤ 20000) (hn : 0 < num) (hd : 0 < den) (he : -200000 ≤ e ∧ e ≤ 200000) (G : GoodG g) (hw1 : 1 ≤ way) (hw2 : way ≤ 5) (hK : IsK num den e (wid g) g.digs.toNat K) :
    Calls Try.prog 11 #[.agg #[.bool ng, .slice p (dig B16 num).length c, .slice q (dig B16 den).length d, .int .i64 e], .agg #[.int .i64 g.rad, .int .i64 g.digs, .int .i64 g.lo, .int .i64 g.hi, .bool g.grad], .int .i64 way] w (GivesRP w (fitK ng num den e g way K)) := by
  obtain ⟨_, gd1, gd2, gl1, gl2, gh1, gh2, gle⟩ := G
  obtain ⟨pf, hpf⟩ : ∃ pf, fitK ng num den e g way K = pf := ⟨_, rfl⟩
  rw [hpf]
  have HPF := Lib.hid hpf
  have HWD := fun W => Lib.hid (refWidth_any g W)
  have wp := wid_pos g
  have wc0 := wid_cases g
  obtain ⟨wd, hwd⟩ : ∃ wd, wid g = wd := ⟨_, rfl⟩
  rw [hwd] at wp HWD hK wc0
  have HW := Lib.hid hwd
  have HWC := Lib.hid wc0
  obtain ⟨rad, digs, lo, hi, grad⟩ := g
  simp only at *
  obtain ⟨D, rfl⟩ : ∃ D : Nat, digs = D := ⟨digs.toNat, by omega⟩
  rw [Int.toNat_natCast] at hK
  have hD : 1 ≤ D := by omega
  have hnum0 : 0 < (dig B16 num).length := by have := dig_len_zero B16_two num; omega
  have hden0 : 0 < (dig B16 den).length := by have := dig_len_zero B16_two den; omega
  have bn := blen_len16 num
  have bd := blen_len16 den
  obtain ⟨F1, F2⟩ := fullP_bd hn hd e (w := wd) (D := D) (by omega) hD _ rfl
  obtain ⟨x, hx⟩ : ∃ x : Int, (blen num : Int) - blen den + e = x := ⟨_, rfl⟩
  have hxb : -600000 ≤ x ∧ x ≤ 600000 := by omega
  have hxw := ediv_abs (wd := wd) wp.1 hxb
  have e0 : IntKind.i64.wrap ((blen num : Int) - blen den) = (blen num : Int) - blen den := IntWalk.i64_in _ (by omega)
  have e1 : IntKind.i64.wrap ((blen num : Int) - blen den + e) = x := by rw [IntWalk.i64_in _ (by omega), hx]
  rw [hx] at F1 F2
  have HX := Lib.hid hx
  have hK1 := hK.le hd F1
  have hK2 : K ≤ x / wd - D + 2 := by
    rcases Int.lt_or_le (x / wd - D + 2) K with h | h
    · exact absurd (fullP_anti hd hK.yes (by omega)) F2
    · exact h
  have HK := Lib.hid hK
  have t0 : (((dig B16 num).length : Int) == 0) = false := beq_eq_false_iff_ne.2 (by omega)
  have HPP := Lib.hid (show 0 < (dig B16 num).length → blk p < w.heap.size from fun h => hp.lt h)
  clear hpf hwd hx F1 F2 hK wc0
  go_enter Try.func11, Try.ntmps11
  go_wp2_with fail
  refine calls_lay3 (fun W1 hb1 hz1 Q G R => ?_)
  replace hp := hp.past hb1
  replace hq := hq.past hb1
  have hs1 := hb1
  ((with_reducible refine ((HWD _).out).mono ?_))
  rintro e2 w2 ⟨rfl, hb2⟩
  replace Q := Q.past hb2
  replace G := G.past hb2
  replace R := R.past hb2
  replace hp := hp.past hb2
  replace hq := hq.past hb2
  have hs2 := hs1.trans (hb2.mono hs1.size)
  obtain ⟨Q_0, Q_1, Q_2, Q_3⟩ := Q.e4
  obtain ⟨G_0, G_1, G_2, G_3, G_4⟩ := G.e5
  obtain ⟨R_0, R_1, R_2, R_3, R_4, R_5⟩ := R.e6
  go_wp2_with fail
  clear Q_0 Q_1 Q_2 Q_3 G_0 G_1 G_2 G_3 G_4 R_0 R_1 R_2 R_3 R_4 R_5
  obtain ⟨Q_0, Q_1, Q_2, Q_3⟩ := Q.e4
  go_quiet ((first | (go_at_call_of 22 (Value.slice p (dig B16 num).length c); exact Calls.quiet_of_same ((refLen_any p _ c num _ (hp.drewN _) rfl (by omega)).mono fun _ _ h => ⟨h.1, h.2.symm⟩)) | (go_at_call_of 22 (Value.slice q (dig B16 den).length d); exact Calls.quiet_of_same ((refLen_any q _ d den _ (hq.drewN _) rfl (by omega)).mono fun _ _ h => ⟨h.1, h.2.symm⟩))))
  clear Q_0 Q_1 Q_2 Q_3
  have hb3 := below_drewN (Below.refl (w2).heap.size (w2)) nq
  replace Q := Q.past hb3
  replace G := G.past hb3
  replace R := R.past hb3
  replace hp := hp.past hb3
  replace hq := hq.past hb3
  have hs3 := hs2.trans (hb3.mono hs2.size)
  generalize (w2).drewN nq = w3 at *
  clear e0 e1 t0
  obtain ⟨Q_0, Q_1, Q_2, Q_3⟩ := Q.e4
  obtain ⟨G_0, G_1, G_2, G_3, G_4⟩ := G.e5
  obtain ⟨R_0, R_1, R_2, R_3, R_4, R_5⟩ := R.e6
  go_wp2_with fail
  clear Q_0 Q_1 Q_2 Q_3 G_0 G_1 G_2 G_3 G_4 R_0 R_1 R_2 R_3 R_4 R_5
  obtain ⟨f1, f2, f3⟩ := far_div HWC.out (show -800000 ≤ x by omega)
  have e0 : IntKind.i64.wrap (x + 800000) = x + 800000 := IntWalk.i64_in _ (by omega)
  have hq1 := ediv_abs (wd := wd) (x := x + 800000) (B := 1400000) wp.1 (by omega)
  have hq2 := ediv_abs (wd := wd) (x := 800000) (B := 800000) wp.1 (by omega)
  have e1 : IntKind.i64.wrap ((x + 800000).tdiv (wd : Int)) = (x + 800000) / (wd : Int) := by rw [f1, IntWalk.i64_in _ (by omega)]
  have e2 : IntKind.i64.wrap ((800000 : Int).tdiv (wd : Int)) = 800000 / (wd : Int) := by rw [f2, IntWalk.i64_in _ (by omega)]
  have e3 : IntKind.i64.wrap ((x + 800000) / (wd : Int) - 800000 / (wd : Int)) = x / (wd : Int) := by rw [f3, IntWalk.i64_in _ (by omega)]
  have e4 : IntKind.i64.wrap (x / (wd : Int) - (D : Int)) = x / wd - D := IntWalk.i64_in _ (by omega)
  have e5 : IntKind.i64.wrap (x / (wd : Int) - (D : Int) + 2) = x / wd - D + 2 := IntWalk.i64_in _ (by omega)
  have t0 : ((wd : Int) == 0) = false := beq_eq_false_iff_ne.2 (by omega)
  clear f1 f2 f3
  obtain ⟨G_0, G_1, G_2, G_3, G_4⟩ := G.e5
  go_quiet (fail)
  clear G_0 G_1 G_2 G_3 G_4
  have hb4 := below_drewN (Below.refl (w3).heap.size (w3)) nq
  replace Q := Q.past hb4
  replace G := G.past hb4
  replace R := R.past hb4
  replace hp := hp.past hb4
  replace hq := hq.past hb4
  have hs4 := hs3.trans (hb4.mono hs3.size)
  generalize (w3).drewN nq = w4 at *
  clear e0 e1 e2 e3 e4 e5 t0
  obtain ⟨k0, hk0⟩ : ∃ k0, x / (wd : Int) - D + 2 = k0 := ⟨_, rfl⟩
  have hk0b : -700000 ≤ k0 ∧ k0 ≤ 700000 := by omega
  rw [hk0] at hK2 ⊢
  have hK1 : k0 - 2 ≤ K := by omega
  have hm0 : -601000 ≤ (wd : Int) * k0 ∧ (wd : Int) * k0 ≤ 601000 := by
    have h1 := ediv_bd x wd wp.1
    have h2 : (wd : Int) * k0 = wd * (x / wd) - wd * D + wd * 2 := by rw [← hk0]; grind
    have h3 : (wd : Int) * D ≤ 4 * 120 := Int.mul_le_mul (by omega) (by omega) (by omega) (by omega)
    have h4 : 0 ≤ (wd : Int) * D := Int.mul_nonneg (by omega) (by omega)
    omega
  clear hk0 hxw hq1 hq2
  obtain ⟨Q_0, Q_1, Q_2, Q_3⟩ := Q.e4
  go_wp2_with fail
  clear Q_0 Q_1 Q_2 Q_3
  ((with_reducible refine (refParts_any ng p q c d num den e ((wd : Int) * k0) _ hp hq (by omega) (by omega) hd (by omega) (by omega)).mono ?_))
  rintro e5 w5 ⟨p1, c1, q1, d1, r1, f1, rfl, hr1, hf1, hr2, hf2, hr3, hf3, hb5⟩
  replace Q := Q.past hb5
  replace G := G.past hb5
  replace R := R.past hb5
  replace hp := hp.past hb5
  replace hq := hq.past hb5
  have hs5 := hs4.trans (hb5.mono hs4.size)
  go_wp2_with fail
  obtain ⟨N1, hN1⟩ : ∃ N1 : Nat, N1 = wd * (D - 1) := ⟨_, rfl⟩
  have hN1b : N1 ≤ 480 := by rw [hN1]; exact Nat.le_trans (Nat.mul_le_mul wp.2 (show D - 1 ≤ 120 by omega)) (by omega)
  have HN1 := Lib.hid hN1
  clear hN1
  have hpp : 0 < (dig B16 num).length → blk p < w.heap.size := fun h => HPP.out h
  have hsw : W1.heap.size ≤ w4.heap.size := by have := hb2.size; have := hb3.size; have := hb4.size; omega
  go_loopg [9, 10, 11, 12] (k0 - K).toNat (fun gk kv av bv cv wr => ∃ (k : Int) (p2 q2 r2 : Option Addr) (c2 d2 f2 : Nat), kv = .int .i64 k ∧ (gk : Int) = k - K ∧ k ≤ k0 ∧ K ≤ k ∧
    av = .slice p2 (dig B16 (qP num den (e - wd * k))).length c2 ∧ bv = .slice q2 (dig B16 (rP num den (e - wd * k))).length d2 ∧ cv = .slice r2 (dig B16 (denP den (e - wd * k))).length f2 ∧
    Rd wr .i64 p2 (dig B16 (qP num den (e - wd * k))) ∧ (0 < (dig B16 (qP num den (e - wd * k))).length → W1.heap.size ≤ blk p2) ∧ Rd wr .i64 q2 (dig B16 (rP num den (e - wd * k))) ∧ Rd wr .i64 r2 (dig B16 (denP den (e - wd * k))) ∧ Below w5.heap.size w5 wr)
  case atStart => exact ⟨k0, p1, q1, r1, c1, d1, f1, rfl, by omega, by omega, by omega, rfl, rfl, rfl, hr1, fun h => Nat.le_trans hsw (hf1 h), hr2, hr3, Below.refl _ _⟩
  case round =>
    obtain ⟨k, p2, q2, r2, c2, d2, f2, rfl, hgk, hkk, hKk, rfl, rfl, rfl, hr4, hf4, hr5, hr6, hb7⟩ := hrel
    have hs7 := hs5.trans (hb7.mono hs5.size)
    replace Q := Q.past hb7
    replace G := G.past hb7
    replace R := R.past hb7
    replace hp := hp.past hb7
    replace hq := hq.past hb7
    have hmk : -610000 ≤ (wd : Int) * k ∧ (wd : Int) * k ≤ 610000 := by
      have hkd : k = k0 ∨ k = k0 - 1 ∨ k = k0 - 2 := by omega
      rcases hkd with rfl | rfl | rfl
      · omega
      · rw [Int.mul_sub]; omega
      · rw [Int.mul_sub]; omega
    have lq : (dig B16 (qP num den (e - wd * k))).length ≤ 2700000 := Nat.le_trans (dig_len_mono B16_two (Nat.div_le_self _ _)) (numP_len16 (by omega) (by omega))
    have hbq := blen_len16 (qP num den (e - wd * k))
    have e0 : IntKind.i64.wrap ((D : Int) - 1) = ((D - 1 : Nat) : Int) := by rw [IntWalk.i64_in _ (by omega)]; omega
    have e1 : IntKind.i64.wrap ((wd : Int) * ((D - 1 : Nat) : Int)) = (N1 : Int) := by rw [IntWalk.i64_in _ (by rw [← Int.natCast_mul, ← HN1.out]; omega), ← Int.natCast_mul, ← HN1.out]
    have e2 : IntKind.i64.wrap ((N1 : Int) + 1) = (N1 : Int) + 1 := IntWalk.i64_in _ (by omega)
    go_wp2_with fail
    obtain ⟨G_0, G_1, G_2, G_3, G_4⟩ := G.e5
    go_quiet ((go_at_call 22; exact Calls.quiet_of_same ((refLen_any p2 _ c2 _ _ (hr4.drewN _) rfl (by clear e0 e1 e2; omega)).mono fun _ _ h => ⟨h.1, h.2.symm⟩)))
    clear G_0 G_1 G_2 G_3 G_4
    have hb8 := below_drewN (Below.refl (wr).heap.size (wr)) nq
    replace Q := Q.past hb8
    replace G := G.past hb8
    replace R := R.past hb8
    replace hp := hp.past hb8
    replace hq := hq.past hb8
    replace hr4 := hr4.past hb8
    replace hr5 := hr5.past hb8
    replace hr6 := hr6.past hb8
    have hs8 := hs7.trans (hb8.mono hs7.size)
    generalize (wr).drewN nq = w8 at *
    clear e0 e1 e2
    by_cases hfull : FullP num den e wd D k
    · have hkK : k = K := by have := HK.out.le hd hfull; omega
      subst hkK
      have hC : ¬ ((blen (qP num den (e - wd * k)) : Nat) : Int) < (N1 : Int) + 1 := by
        unfold FullP at hfull
        rw [← HN1.out] at hfull
        have := (blen_le (qP num den (e - wd * k)) N1)
        omega
      clear hfull
      obtain ⟨k1, hk1⟩ : ∃ k1, powK ⟨rad, D, lo, hi, grad⟩ k = k1 := ⟨_, rfl⟩
      have HK1 := Lib.hid hk1
      have hmk1 : -620000 ≤ (wd : Int) * k1 ∧ (wd : Int) * k1 ≤ 620000 := by
        have hlo := mul_bd (k := lo) wp.2 (B := 17000) ⟨by omega, by omega⟩
        rw [← hk1]; unfold powK; split
        · simp only; omega
        · omega
      have hk1b : -800000 ≤ k1 ∧ k1 ≤ 800000 := by
        rw [← hk1]; unfold powK; split
        · simp only; omega
        · omega
      clear hk1
      obtain ⟨un, hun⟩ : ∃ un, decide (k < lo) = un := ⟨_, rfl⟩
      have hz8 := R.lt
      have hsw8 : W1.heap.size ≤ w8.heap.size := by have := hb5.size; have := hb7.size; have := hb8.size; omega
      obtain ⟨Q_0, Q_1, Q_2, Q_3⟩ := Q.e4
      obtain ⟨G_0, G_1, G_2, G_3, G_4⟩ := G.e5
      go_upto_region 11 with (fail)
      clear Q_0 Q_1 Q_2 Q_3 G_0 G_1 G_2 G_3 G_4
      have HUN := Lib.hid hun
      clear hun
      have hr4o := hr4
      have hr5o := hr5
      have hr6o := hr6
      have hqo := hq
      refine wp_lay1 (fun W9 hb9 hz9 P => ?_)
      replace Q := Q.past hb9
      replace G := G.past hb9
      replace R := R.past hb9
      replace hp := hp.past hb9
      replace hq := hq.past hb9
      replace hr4 := hr4.past hb9
      replace hr5 := hr5.past hb9
      replace hr6 := hr6.past hb9
      have hs9 := hs8.trans (hb9.mono hs8.size)
      obtain ⟨b1, hb1⟩ : ∃ b1, (un && grad) = b1 := ⟨_, rfl⟩
      have HB1 := Lib.hid hb1
      clear hb1
      have hp4 : 0 < (dig B16 (qP num den (e - wd * k))).length → blk p2 ≠ w8.heap.size := fun h => by have := hr4o.lt h; omega
      have hp5 : 0 < (dig B16 (rP num den (e - wd * k))).length → blk q2 ≠ w8.heap.size := fun h => by have := hr5o.lt h; omega
      have hp6 : 0 < (dig B16 (denP den (e - wd * k))).length → blk r2 ≠ w8.heap.size := fun h => by have := hr6o.lt h; omega
      have hpq : 0 < (dig B16 den).length → blk q ≠ w8.heap.size := fun h => by have := hqo.lt h; omega
      clear hr4o hr5o hr6o hqo
      have hzP := P.lt
      go_cut [85] (fun s85 wx => s85 = .bool b1 ∧ wx = W9)
      case first =>
        obtain ⟨P_0, P_1, P_2, P_3, P_4, P_5⟩ := P.e6
        obtain ⟨G_0, G_1, G_2, G_3, G_4⟩ := G.e5
        cases un <;> cases grad <;> (go_wp2_with fail; go_meet; exact ⟨by rw [← HB1.out]; rfl, rfl⟩)
      case rest =>
        obtain ⟨rfl, rfl⟩ := hcut
        go_upto_if 85 with (fail)
        go_cut [10, 11, 12] (fun s11 s12 s13 wx => ∃ (p3 q3 r3 : Option Addr) (c3 d3 f3 : Nat), s11 = .slice p3 (dig B16 (qP num den (e - wd * k1))).length c3 ∧ s12 = .slice q3 (dig B16 (rP num den (e - wd * k1))).length d3 ∧ s13 = .slice r3 (dig B16 (denP den (e - wd * k1))).length f3 ∧
          Bx wx w8.heap.size #[.bool ng, .slice none 0 0, .int .i64 k1, .bool false, .bool false, .bool un] ∧
          Rd wx .i64 p3 (dig B16 (qP num den (e - wd * k1))) ∧ (0 < (dig B16 (qP num den (e - wd * k1))).length → W1.heap.size ≤ blk p3) ∧ Rd wx .i64 q3 (dig B16 (rP num den (e - wd * k1))) ∧ Rd wx .i64 r3 (dig B16 (denP den (e - wd * k1))) ∧
          (0 < (dig B16 (qP num den (e - wd * k1))).length → blk p3 ≠ w8.heap.size) ∧ (0 < (dig B16 (rP num den (e - wd * k1))).length → blk q3 ≠ w8.heap.size) ∧ (0 < (dig B16 (denP den (e - wd * k1))).length → blk r3 ≠ w8.heap.size) ∧ Keep w8.heap.size wc wx)
        case first =>
          cases b1
          · obtain rfl : k = k1 := by
              have h1 := HK1.out; have h2 := HB1.out; have h3 := HUN.out
              unfold powK at h1
              rw [if_neg (by rintro ⟨a1, a2⟩; simp only at a1 a2; subst a2; rw [← h3, decide_eq_true a1] at h2; simp at h2)] at h1
              exact h1
            go_wp2_with fail
            go_meet
            exact ⟨p2, q2, r2, c2, d2, f2, rfl, rfl, rfl, P, hr4, hf4, hr5, hr6, hp4, hp5, hp6, Below.keep (Below.refl _ _) _⟩
          · obtain rfl : lo = k1 := by
              have h1 := HK1.out; have h2 := HB1.out; have h3 := HUN.out
              unfold powK at h1
              rw [if_pos ⟨by cases un; (simp at h2); simpa using h3, by cases un; (simp at h2); simpa using h2⟩] at h1
              exact h1
            obtain ⟨G_0, G_1, G_2, G_3, G_4⟩ := G.e5
            obtain ⟨P_0, P_1, P_2, P_3, P_4, P_5⟩ := P.e6
            have P_f0 := P.f 0
            have P_f1 := P.f 1
            have P_f2 := P.f 2
            have P_f3 := P.f 3
            have P_f4 := P.f 4
            have P_f5 := P.f 5
            go_upto_region 13 with (fail)
            clear G_0 G_1 G_2 G_3 G_4 P_0 P_1 P_2 P_3 P_4 P_5 P_f0 P_f1 P_f2 P_f3 P_f4 P_f5
            refine wp_set P (fun W10 hO10 P => ?_)
            replace P : Bx W10 w8.heap.size #[.bool ng, .slice none 0 0, .int .i64 lo, .bool false, .bool false, .bool un] := P
            replace Q := Q.only hO10 (by omega)
            replace G := G.only hO10 (by omega)
            have hqb : 0 < (dig B16 den).length → blk q < wc.heap.size := fun h => hq.lt h
            replace hp := hp.only hO10 (fun h => by have := hpp h; omega)
            replace hq := hq.only hO10 hpq
            have hz10 := hO10.size
            have HZ10 := Lib.hid hz10
            clear hz10
            obtain ⟨Q_0, Q_1, Q_2, Q_3⟩ := Q.e4
            obtain ⟨G_0, G_1, G_2, G_3, G_4⟩ := G.e5
            go_wp2_with fail
            clear Q_0 Q_1 Q_2 Q_3 G_0 G_1 G_2 G_3 G_4
            ((with_reducible refine (refParts_any ng p q c d num den e ((wd : Int) * lo) _ hp hq (by omega) (by omega) hd (by omega) (by omega)).mono ?_))
            rintro e11 w11 ⟨p3, c3, q3, d3, r3, f3, rfl, hr7, hf7, hr8, hf8, hr9, hrq, hb11⟩
            have hz10 := HZ10.out
            go_wp2_with fail
            go_meet
            refine ⟨p3, q3, r3, c3, d3, f3, rfl, rfl, rfl, P.past hb11, hr7, fun h => ?_, hr8, hr9, fun h => ?_, fun h => ?_, fun h => ?_, hO10.keep.trans (Below.keep hb11 _)⟩
            · have := hf7 h; omega
            · have := hf7 h; omega
            · have := hf8 h; omega
            · rcases hrq with rfl | hrq
              · exact hpq hden0
              · have := hrq h; omega
        case rest =>
          obtain ⟨p3, q3, r3, c3, d3, f3, rfl, rfl, rfl, P, hr7, hf7, hr8, hr9, hn7, hn8, hn9, hkb⟩ := hcut
          have hs9z := hs9.size
          have hs10 := hs9.trans (hkb.below (B := w.heap.size) (by omega) hs9z)
          have hzz : w8.heap.size < wc.heap.size := P.lt
          replace Q := Q.keep hkb (by omega)
          replace G := G.keep hkb (by omega)
          replace R := R.keep hkb (by omega)
          clear hkb hr4 hr5 hr6 hp hq
          have lX : (dig B16 (qP num den (e - wd * k1))).length ≤ 2700000 := Nat.le_trans (dig_len_mono B16_two (Nat.div_le_self _ _)) (numP_len16 (by omega) (by omega))
          have lZ : (dig B16 (denP den (e - wd * k1))).length ≤ 2700000 := denP_len16 (by omega) (by omega)
          have lY : (dig B16 (rP num den (e - wd * k1))).length ≤ 2700000 := Nat.le_trans (dig_len_mono B16_two (Nat.le_of_lt (Nat.mod_lt _ (denP_pos hd _)))) lZ
          obtain ⟨X, hX⟩ : ∃ X, qP num den (e - wd * k1) = X := ⟨_, rfl⟩
          obtain ⟨Y, hY⟩ : ∃ Y, rP num den (e - wd * k1) = Y := ⟨_, rfl⟩
          obtain ⟨Z, hZ⟩ : ∃ Z, denP den (e - wd * k1) = Z := ⟨_, rfl⟩
          rw [hX] at hr7 hf7 hn7 lX ⊢
          rw [hY] at hr8 hn8 lY ⊢
          rw [hZ] at hr9 hn9 lZ ⊢
          have HXX := Lib.hid hX
          have HYY := Lib.hid hY
          have HZZ := Lib.hid hZ
          obtain ⟨xb, hxb⟩ : ∃ xb, (((dig B16 Y).length : Int) == 0) = xb := ⟨_, rfl⟩
          clear hX hY hZ
          obtain ⟨P_0, P_1, P_2, P_3, P_4, P_5⟩ := P.e6
          have P_f0 := P.f 0
          have P_f1 := P.f 1
          have P_f2 := P.f 2
          have P_f3 := P.f 3
          have P_f4 := P.f 4
          have P_f5 := P.f 5
          go_upto_region 15 with (fail)
          clear P_0 P_1 P_2 P_3 P_4 P_5 P_f0 P_f1 P_f2 P_f3 P_f4 P_f5
          refine wp_set P (fun W11 hO11 P => ?_)
          replace P : Bx W11 w8.heap.size #[.bool ng, .slice none 0 0, .int .i64 k1, .bool xb, .bool false, .bool un] := P
          replace Q := Q.only hO11 (by omega)
          replace G := G.only hO11 (by omega)
          replace R := R.only hO11 (by omega)
          replace hr7 := hr7.only hO11 hn7
          replace hr8 := hr8.only hO11 hn8
          replace hr9 := hr9.only hO11 hn9
          have hs11 := hs10.trans (hO11.below (B := w.heap.size) (by omega))
          clear hO11
          obtain ⟨od, hod⟩ : ∃ od, decide (X % 2 = 1) = od := ⟨_, rfl⟩
          have HOD := Lib.hid hod
          have HXB := Lib.hid hxb
          clear hod hxb
          go_cut [14] (fun s15 wx => s15 = .bool od ∧ wx = W11)
          case first =>
            by_cases hX0 : 0 < (dig B16 X).length
            · have hx0 : 0 < X := by have := dig_len_zero B16_two X; omega
              have hcell := hr7.cells 0 hX0
              have hsol := hr7.solid
              have hd0 : dg (dig B16 X) 0 = X % B16 := by rw [dig_pos B16_two hx0]; rfl
              rw [hd0] at hcell
              have hlt0 : X % B16 < 65536 := Nat.mod_lt _ B16_pos
              have hbit : (((X % B16 : Nat) : Int) % 2 == 1) = od := by
                rw [← HOD.out]
                by_cases h : X % 2 = 1
                · rw [decide_eq_true h]; exact beq_iff_eq.2 (by unfold B16; omega)
                · rw [decide_eq_false h]; exact beq_eq_false_iff_ne.2 (by unfold B16; omega)
              generalize X % B16 = x0 at *
              clear hd0
              go_wp2_with fail
              go_meet
              exact ⟨rfl, rfl⟩
            · have hx0 : X = 0 := by have := dig_len_zero B16_two X; omega
              have hod0 : od = false := by rw [← HOD.out, hx0]; rfl
              subst hod0
              have hX1 : ¬ (0 : Int) < ((dig B16 X).length : Int) := by omega
              clear hx0
              go_wp2_with fail
              go_meet
              exact ⟨rfl, rfl⟩
          case rest =>
            obtain ⟨rfl, rfl⟩ := hcut
            obtain ⟨ub, hub⟩ : ∃ ub, upP ng num den e wd way k1 = ub := ⟨_, rfl⟩
            have HUB := Lib.hid hub
            clear hub
            go_upto_region 16 with (fail)
            go_cut [127] (fun s wx => s = .bool ub ∧ Below wc.heap.size wc wx)
            case first =>
              have hYY := HYY.out
              have hXX := HXX.out
              have hZZ := HZZ.out
              have hUB := HUB.out
              unfold upP at hUB
              rw [hYY, hXX, hZZ, HOD.out] at hUB
              have HUB2 := Lib.hid hUB
              clear hYY hXX hZZ hUB
              cases xb
              · have hY0 : Y ≠ 0 := by
                  have := HXB.out
                  intro h0
                  rw [h0, dig_zero] at this
                  simp at this
                have HU3 : Hid (awayP way ng od (cmpN (Y * 2) Z) = ub) := by
                  have := HUB2.out
                  rw [decide_eq_true hY0, Bool.true_and] at this
                  exact this
                have lY2 : (dig B16 (Y * 2)).length ≤ 3000000 := by have := dig_len_mul B16_two Y 2; have := len_two16; omega
                have l2 := Nat.le_of_eq len_two16
                have HL2 := Lib.hid len_two16.symm
                clear hY0
                go_region_held3 (fun w' => w'.cell? ⟨w8.heap.size, 3, none⟩ = some (.bool false) ∧ w'.cell? ⟨w.heap.size, 0, none⟩ = some (.bool ng))
                  (first | exact ⟨P.e6.2.2.2.1, Q.e4.1⟩ | exact ⟨(P.drew).e6.2.2.2.1, (Q.drew).e4.1⟩ | exact ⟨((P.drew).laid _).e6.2.2.2.1, ((Q.drew).laid _).e4.1⟩ | exact ⟨(((P.drew).laid _).past hbs).e6.2.2.2.1, (((Q.drew).laid _).past hbs).e4.1⟩ | exact ⟨((((P.drew).laid _).past hbs).past hbk).e6.2.2.2.1, ((((Q.drew).laid _).past hbs).past hbk).e4.1⟩)
                  (first
                    | (go_at_call 26; refine (refTimes_any q3 (some ⟨wc.heap.size, 0, none⟩) _ _ d3 1 Y 2 _ (hr8.drew.laid _) (rd_two16 wc.drew _) rfl HL2.out (by omega)).mono ?_; rintro es ws ⟨ps, cs, rfl, hos, hcs, hfs, hbs⟩)
                    | (go_at_call 25; refine (refCmp_any ps r3 _ _ cs f3 _ _ _ hos ((hr9.drew.laid _).past hbs) rfl rfl (by omega) (by omega)).mono ?_; rintro ek wk ⟨rfl, hbk⟩)
                    | (go_at_call 24; refine (refAway_any way ng od _ _ hw1 hw2).mono ?_; rintro ef wf ⟨rfl, rfl⟩))
                all_goals (go_wp2_with fail)
                all_goals go_meet
                all_goals (refine ⟨by rw [HU3.out], ?_⟩)
                all_goals (exact (((Below.refl _ _).drew.trans (below_lay1 wc.drew _)).trans (hbs.mono (by simp))).trans (hbk.mono (by have hzd : wc.drew.heap.size = wc.heap.size := rfl; have := hbs.size; simp at this; omega)))
              · have hub0 : ub = false := by
                  have h0 : Y = 0 := by
                    have := HXB.out
                    have h1 := dig_len_zero B16_two Y
                    have h2 : ((dig B16 Y).length : Int) = 0 := by simpa using this
                    omega
                  have := HUB2.out
                  rw [h0] at this
                  simpa using this.symm
                subst hub0
                obtain ⟨P_0, P_1, P_2, P_3, P_4, P_5⟩ := P.e6
                go_quiet (fail)
                go_wp2_with fail
                go_meet
                exact ⟨rfl, below_drewN (Below.refl _ _) _⟩
            case rest =>
              obtain ⟨rfl, hbc⟩ := hcut
              have hs12 := hs11.trans (hbc.mono hs11.size)
              replace Q := Q.past hbc
              replace G := G.past hbc
              replace R := R.past hbc
              replace P := P.past hbc
              replace hr7 := hr7.past hbc
              have hzc := hbc.size
              clear hbc hr9 hr8
              obtain ⟨dd, hdd⟩ : ∃ dd, digP ng num den e wd D way k1 = dd := ⟨_, rfl⟩
              obtain ⟨k2, hk2⟩ : ∃ k2, powP ng num den e wd D way k1 = k2 := ⟨_, rfl⟩
              have HDD : Hid (dd = (if ub = true ∧ wd * D < blen (X + if ub then 1 else 0) then 2 ^ N1 else X + if ub then 1 else 0) ∧ k2 = if ub = true ∧ wd * D < blen (X + if ub then 1 else 0) then k1 + 1 else k1) := by
                rw [← hdd, ← hk2]
                exact digP_of (D := D) HUB.out HXX.out HN1.out
              have HDD0 := Lib.hid hdd
              have HKK0 := Lib.hid hk2
              clear hdd hk2
              have hzz2 : w8.heap.size < wc.heap.size := P.lt
              go_upto_if 127 with (fail)
              go_cut [10] (fun s11 wx => ∃ (p4 : Option Addr) (c4 : Nat), s11 = .slice p4 (dig B16 dd).length c4 ∧ Rd wx .i64 p4 (dig B16 dd) ∧ (0 < (dig B16 dd).length → W1.heap.size ≤ blk p4) ∧ (0 < (dig B16 dd).length → blk p4 ≠ w8.heap.size) ∧
                Bx wx w8.heap.size #[.bool ng, .slice none 0 0, .int .i64 k2, .bool xb, .bool false, .bool un] ∧ Keep w8.heap.size wc wx)
              case first =>
                cases ub
                · obtain ⟨rfl, rfl⟩ : dd = X ∧ k2 = k1 := by simpa using HDD.out
                  go_wp2_with fail
                  go_meet
                  exact ⟨p3, c3, rfl, hr7, hf7, hn7, P, Below.keep (Below.refl _ _) _⟩
                · have lX1 : (dig B16 (X + 1)).length ≤ 2800000 := by have := dig_len_add B16_two X 1; have := len_one16; omega
                  have hbl := blen_len16 (X + 1)
                  have l1 := Nat.le_of_eq len_one16
                  have HL1 := Lib.hid len_one16.symm
                  go_wp2_with fail
                  refine calls_lay1 (fun W13 hb13 hz13 L1 => ?_)
                  replace G := G.past hb13
                  replace P := P.past hb13
                  replace hr7 := hr7.past hb13
                  have hs13 := hb13
                  ((with_reducible refine (refPlus_any p3 (some ⟨wc.heap.size, 0, none⟩) _ _ c3 1 X 1 _ hr7 (rd_one16b L1) rfl HL1.out (by omega)).mono ?_))
                  rintro e14 w14 ⟨p6, c6, rfl, hr10, hc10, hf10, hb14⟩
                  replace G := G.past hb14
                  replace P := P.past hb14
                  replace L1 := L1.past hb14
                  replace hr7 := hr7.past hb14
                  have hs14 := hs13.trans (hb14.mono hs13.size)
                  obtain ⟨G_0, G_1, G_2, G_3, G_4⟩ := G.e5
                  obtain ⟨P_0, P_1, P_2, P_3, P_4, P_5⟩ := P.e6
                  have L1_0 := L1.e1
                  go_wp2_with fail
                  clear G_0 G_1 G_2 G_3 G_4 P_0 P_1 P_2 P_3 P_4 P_5 L1_0
                  have hwD : wd * D ≤ 480 := Nat.le_trans (Nat.mul_le_mul wp.2 (show D ≤ 120 by omega)) (by omega)
                  have e0 : IntKind.i64.wrap ((wd : Int) * (D : Int)) = ((wd * D : Nat) : Int) := by rw [IntWalk.i64_in _ (by rw [← Int.natCast_mul]; omega), Int.natCast_mul]
                  obtain ⟨G_0, G_1, G_2, G_3, G_4⟩ := G.e5
                  go_quiet ((go_at_call 22; exact Calls.quiet_of_same ((refLen_any p6 _ c6 (X + 1) _ (hr10.drewN _) rfl (by clear e0; omega)).mono fun _ _ h => ⟨h.1, h.2.symm⟩)))
                  clear G_0 G_1 G_2 G_3 G_4
                  have hb15 := below_drewN (Below.refl (w14).heap.size (w14)) nq
                  replace G := G.past hb15
                  replace P := P.past hb15
                  replace L1 := L1.past hb15
                  replace hr7 := hr7.past hb15
                  replace hr10 := hr10.past hb15
                  have hs15 := hs14.trans (hb15.mono hs14.size)
                  generalize (w14).drewN nq = w15 at *
                  clear e0
                  have hz13 := hb13.size
                  have hz14 := hb14.size
                  by_cases hlong : wd * D < blen (X + 1)
                  · obtain ⟨rfl, rfl⟩ : dd = 2 ^ N1 ∧ k2 = k1 + 1 := by simpa [hlong] using HDD.out
                    go_wp2_with fail
                    have e0 : IntKind.i64.wrap ((D : Int) - 1) = ((D - 1 : Nat) : Int) := by rw [IntWalk.i64_in _ (by omega)]; omega
                    have e1 : IntKind.i64.wrap ((wd : Int) * ((D - 1 : Nat) : Int)) = (N1 : Int) := by rw [IntWalk.i64_in _ (by rw [← Int.natCast_mul, ← HN1.out]; omega), ← Int.natCast_mul, ← HN1.out]
                    have e2 : IntKind.i64.wrap (k1 + 1) = k1 + 1 := IntWalk.i64_in _ (by omega)
                    obtain ⟨P_0, P_1, P_2, P_3, P_4, P_5⟩ := P.e6
                    have P_f0 := P.f 0
                    have P_f1 := P.f 1
                    have P_f2 := P.f 2
                    have P_f3 := P.f 3
                    have P_f4 := P.f 4
                    have P_f5 := P.f 5
                    obtain ⟨G_0, G_1, G_2, G_3, G_4⟩ := G.e5
                    go_region_with (go_at_call 28; refine (refPow2_any N1 _ (by clear e0 e1 e2; omega)).mono ?_; rintro ep wq ⟨pp, cp, rfl, hrp, hcp, hfp, hbp⟩; have PP := P.drew.past hbp; obtain ⟨PP_0, PP_1, PP_2, PP_3, PP_4, PP_5⟩ := PP.e6; have PP_f2 := PP.f 2; have GG := G.drew.past hbp; obtain ⟨GG_0, GG_1, GG_2, GG_3, GG_4⟩ := GG.e5)
                    all_goals (clear e0 e1 e2)
                    all_goals (have hzd : w15.drew.heap.size = w15.heap.size := rfl; have hz15 := hb15.size)
                    all_goals (go_wp2_with fail)
                    all_goals go_meet
                    all_goals (have hO := only_set wq w8.heap.size 2 (.int .i64 (k1 + 1)))
                    all_goals (exact ⟨pp, cp, rfl, hrp.only hO (fun h => by have := hfp h; omega), fun h => by have := hfp h; omega, fun h => by have := hfp h; omega, PP.set 2 _, (Below.keep (hs15.drew.trans (hbp.mono (by omega))) _).trans hO.keep⟩)
                  · obtain ⟨rfl, rfl⟩ : dd = X + 1 ∧ k2 = k1 := by simpa [hlong] using HDD.out
                    go_wp2_with fail
                    go_meet
                    exact ⟨p6, c6, rfl, hr10, fun h => by have := hf10 h; omega, fun h => by have := hf10 h; omega, P, Below.keep hs15 _⟩
              case rest =>
                obtain ⟨p4, c4, rfl, hr11, hf11, hn11, P, hkb⟩ := hcut
                have hs12z := hs12.size
                have hs15 := hs12.trans (hkb.below (B := w.heap.size) (by omega) hs12z)
                replace G := G.keep hkb (by omega)
                replace R := R.keep hkb (by omega)
                clear hkb
                obtain ⟨ov, hov⟩ : ∃ ov, decide (hi < k2) = ov := ⟨_, rfl⟩
                have HPF2 : Hid (pf = ⟨ng, dd, if dd = 0 then 0 else k2, xb, ov, un⟩) := by
                  have h1 := HPF.out
                  rw [fitK_of HW.out (Int.toNat_natCast D) HK1.out HDD0.out HKK0.out HYY.out] at h1
                  have h6 := HXB.out; have h7 := HUN.out
                  simp only at h1
                  rw [hov, h7] at h1
                  rw [← h1]
                  have h9 : decide (Y = 0) = xb := by
                    rw [← h6]
                    have := dig_len_zero B16_two Y
                    by_cases h0 : Y = 0
                    · rw [decide_eq_true h0, h0, dig_zero]; rfl
                    · rw [decide_eq_false h0]; exact (beq_eq_false_iff_ne.2 (by omega)).symm
                  rw [h9]
                  rfl
                go_wp2_with fail
                obtain ⟨P_0, P_1, P_2, P_3, P_4, P_5⟩ := P.e6
                have P_f0 := P.f 0
                have P_f1 := P.f 1
                have P_f2 := P.f 2
                have P_f3 := P.f 3
                have P_f4 := P.f 4
                have P_f5 := P.f 5
                obtain ⟨G_0, G_1, G_2, G_3, G_4⟩ := G.e5
                go_region
                have HOV := Lib.hid hov
                clear hov
                clear P_0 P_1 P_2 P_3 P_4 P_5 P_f0 P_f1 P_f2 P_f3 P_f4 P_f5 G_0 G_1 G_2 G_3 G_4
                have hK20 : Keep w8.heap.size wc ((wc.setCell ⟨w8.heap.size, 1, none⟩ (.slice p4 (dig B16 dd).length c4)).setCell ⟨w8.heap.size, 4, none⟩ (.bool ov)).drew :=
                  ((only_set wc w8.heap.size 1 (.slice p4 (dig B16 dd).length c4)).trans (only_set _ w8.heap.size 4 (.bool ov))).keep.trans (Below.keep (Below.refl _ _).drew _)
                replace P : Bx ((wc.setCell ⟨w8.heap.size, 1, none⟩ (.slice p4 (dig B16 dd).length c4)).setCell ⟨w8.heap.size, 4, none⟩ (.bool ov)).drew w8.heap.size #[.bool ng, .slice p4 (dig B16 dd).length c4, .int .i64 k2, .bool xb, .bool ov, .bool un] := ((P.set 1 (.slice p4 (dig B16 dd).length c4)).set 4 (.bool ov)).drew
                replace R := R.keep hK20 (by omega)
                replace hr11 := hr11.keep hK20 hn11
                have hs15z := hs15.size
                have hs20 := hs15.trans (hK20.below (B := w.heap.size) (by omega) hs15z)
                clear hK20
                generalize ((wc.setCell ⟨w8.heap.size, 1, none⟩ (.slice p4 (dig B16 dd).length c4)).setCell ⟨w8.heap.size, 4, none⟩ (.bool ov)).drew = W20 at *
                by_cases hd0 : dd = 0
                · have hdl : (((dig B16 dd).length : Int) == 0) = true := by rw [hd0, dig_zero]; rfl
                  have HD0 := Lib.hid hd0
                  clear hd0
                  obtain ⟨P_0, P_1, P_2, P_3, P_4, P_5⟩ := P.e6
                  have P_f0 := P.f 0
                  have P_f1 := P.f 1
                  have P_f2 := P.f 2
                  have P_f3 := P.f 3
                  have P_f4 := P.f 4
                  have P_f5 := P.f 5
                  go_upto_region 23 with (fail)
                  clear P_0 P_1 P_2 P_3 P_4 P_5 P_f0 P_f1 P_f2 P_f3 P_f4 P_f5
                  refine wp_set P (fun W17 hO17 P => ?_)
                  replace P : Bx W17 w8.heap.size #[.bool ng, .slice p4 (dig B16 dd).length c4, .int .i64 0, .bool xb, .bool ov, .bool un] := P
                  replace R := R.only hO17 (by omega)
                  replace hr11 := hr11.only hO17 hn11
                  have hs17 := hs20.trans (hO17.below (B := w.heap.size) (by omega))
                  clear hO17
                  obtain ⟨P_0, P_1, P_2, P_3, P_4, P_5⟩ := P.e6
                  obtain ⟨R_0, R_1, R_2, R_3, R_4, R_5⟩ := R.e6
                  have R_f0 := R.f 0
                  have R_f1 := R.f 1
                  have R_f2 := R.f 2
                  have R_f3 := R.f 3
                  have R_f4 := R.f 4
                  have R_f5 := R.f 5
                  go_wp2_with fail
                  clear P_0 P_1 P_2 P_3 P_4 P_5 R_0 R_1 R_2 R_3 R_4 R_5 R_f0 R_f1 R_f2 R_f3 R_f4 R_f5
                  obtain ⟨R_0, R_1, R_2, R_3, R_4, R_5⟩ := R.e6
                  refine bodyPost_ret (v := .agg #[.bool ng, .slice p4 (dig B16 dd).length c4, .int .i64 0, .bool xb, .bool ov, .bool un]) (by simp [results, Try.results11, go_sem, R_0, R_1, R_2, R_3, R_4, R_5]) rfl ?_
                  rw [HPF2.out, if_pos HD0.out]
                  have hO := only6 W17 (w.heap.size + 1 + 1) (.bool ng) (.slice p4 (dig B16 dd).length c4) (.int .i64 0) (.bool xb) (.bool ov) (.bool un)
                  exact ⟨p4, c4, rfl, hr11.only hO (fun h => by have := hf11 h; omega), fun h => by have := hf11 h; omega, hs17.trans (hO.below (by omega))⟩
                · have hdl : (((dig B16 dd).length : Int) == 0) = false := beq_eq_false_iff_ne.2 (by have := dig_len_zero B16_two dd; omega)
                  have HD0 := Lib.hid hd0
                  clear hd0
                  obtain ⟨P_0, P_1, P_2, P_3, P_4, P_5⟩ := P.e6
                  obtain ⟨R_0, R_1, R_2, R_3, R_4, R_5⟩ := R.e6
                  have R_f0 := R.f 0
                  have R_f1 := R.f 1
                  have R_f2 := R.f 2
                  have R_f3 := R.f 3
                  have R_f4 := R.f 4
                  have R_f5 := R.f 5
                  go_wp2_with fail
                  clear P_0 P_1 P_2 P_3 P_4 P_5 R_0 R_1 R_2 R_3 R_4 R_5 R_f0 R_f1 R_f2 R_f3 R_f4 R_f5
                  obtain ⟨R_0, R_1, R_2, R_3, R_4, R_5⟩ := R.e6
                  refine bodyPost_ret (v := .agg #[.bool ng, .slice p4 (dig B16 dd).length c4, .int .i64 k2, .bool xb, .bool ov, .bool un]) (by simp [results, Try.results11, go_sem, R_0, R_1, R_2, R_3, R_4, R_5]) rfl ?_
                  rw [HPF2.out, if_neg HD0.out]
                  have hO := only6 W20 (w.heap.size + 1 + 1) (.bool ng) (.slice p4 (dig B16 dd).length c4) (.int .i64 k2) (.bool xb) (.bool ov) (.bool un)
                  exact ⟨p4, c4, rfl, hr11.only hO (fun h => by have := hf11 h; omega), fun h => by have := hf11 h; omega, hs20.trans (hO.below (by omega))⟩
    · have hC : ((blen (qP num den (e - wd * k)) : Nat) : Int) < (N1 : Int) + 1 := by
        unfold FullP at hfull
        rw [← HN1.out] at hfull
        have := (blen_le (qP num den (e - wd * k)) N1)
        omega
      have hk1 : K ≤ k - 1 := by
        rcases Int.lt_or_le (k - 1) K with h | h
        · obtain rfl : k = K := by omega
          exact absurd HK.out.yes hfull
        · exact h
      clear hfull
      have hmk2 : -620000 ≤ (wd : Int) * (k - 1) ∧ (wd : Int) * (k - 1) ≤ 620000 := by rw [Int.mul_sub]; omega
      obtain ⟨Q_0, Q_1, Q_2, Q_3⟩ := Q.e4
      go_wp2_with fail
      clear Q_0 Q_1 Q_2 Q_3
      ((with_reducible refine (refParts_any ng p q c d num den e ((wd : Int) * (k - 1)) _ hp hq (by omega) (by omega) hd (by omega) (by omega)).mono ?_))
      rintro e9 w9 ⟨p3, c3, q3, d3, r3, f3, rfl, hr7, hf7, hr8, hf8, hr9, -, hb9⟩
      replace Q := Q.past hb9
      replace G := G.past hb9
      replace R := R.past hb9
      replace hp := hp.past hb9
      replace hq := hq.past hb9
      have hs9 := hs8.trans (hb9.mono hs8.size)
      go_wp2_with fail
      have hsw8 : W1.heap.size ≤ w8.heap.size := by have := hb5.size; have := hb7.size; have := hb8.size; omega
      go_roundg (gk - 1)
      case measure => omega
      case rel => exact ⟨k - 1, p3, q3, r3, c3, d3, f3, by go_num, by omega, by omega, hk1, rfl, rfl, rfl, hr7, fun h => Nat.le_trans hsw8 (hf7 h), hr8, hr9, (hb7.trans (hb8.mono hb7.size)).trans (hb9.mono (Nat.le_trans hb7.size hb8.size))⟩

end Go.Proofs.Ytpdmajoofllhdaa
