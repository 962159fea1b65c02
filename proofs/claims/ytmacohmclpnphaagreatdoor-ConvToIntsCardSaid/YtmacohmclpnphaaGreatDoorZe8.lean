/- references: RoundTo, over a grid that may be wide. -/
import Derived.Carry
import Derived.Deep.LoopGhost
import Derived.Laws.BitsLemmas
import Derived.Deep.RegionHeld3
import Derived.Test.YtmacohmclpnphaaGreatDoorZe1
import Derived.Test.YtmacohmclpnphaaGreatDoorZe2
import Derived.Test.YtmacohmclpnphaaGreatDoorZe3
import Derived.Test.YtmacohmclpnphaaGreatDoorZe4
import Derived.Test.YtmacohmclpnphaaGreatDoorZe5
import Derived.Test.YtmacohmclpnphaaGreatDoorZe6
import Derived.Test.YtmacohmclpnphaaGreatDoorZe7
set_option maxHeartbeats 8000000
set_option maxRecDepth 100000
namespace Go.Proofs.YtmacohmclpnphaaGreatDoor
open Go.RowKit Go.Slip
structure i1n (g : Gd) : Prop where
 rad : g.rad = 2 ∨ g.rad = 16
 d1 : 1 ≤ g.digs
 d2 : g.digs ≤ 17000
 l1 : -17000 ≤ g.lo
 l2 : g.lo ≤ 17000
 h1 : -17000 ≤ g.hi
 h2 : g.hi ≤ 17000
 le : g.lo ≤ g.hi
theorem m0w (ng : Bool) (p q : Option Addr) (c d : Nat) (num den : Nat) (e : Int) (g : Gd) (way K : Int) (w : World) (hp : Rd w .i64 p (dig B16 num)) (hq : Rd w .i64 q (dig B16 den))
 (hl : (dig B16 num).length ≤ 20000) (hl2 : (dig B16 den).length ≤ 20000) (hn : 0 < num) (hd : 0 < den) (he : -200000 ≤ e ∧ e ≤ 200000) (G : i1n g) (hw1 : 1 ≤ way) (hw2 : way ≤ 5) (hK : IsK num den e (wid g) g.digs.toNat K) :
 Calls Tryz.prog 21 #[.agg #[.bool ng, .slice p (dig B16 num).length c, .slice q (dig B16 den).length d, .int .i64 e], .agg #[.int .i64 g.rad, .int .i64 g.digs, .int .i64 g.lo, .int .i64 g.hi, .bool g.grad], .int .i64 way] w (u0c w (fitK ng num den e g way K)) := by
 obtain ⟨_, gd1, gd2, gl1, gl2, gh1, gh2, gle⟩ := G
 obtain ⟨pf, hpf⟩ : ∃ pf, fitK ng num den e g way K = pf := ⟨_, rfl⟩
 rw [hpf]
 have HPF := hi0 hpf
 have HWD := fun W => hi0 (e0c g W)
 have wp := b0f g
 have wc0 := b1s g
 obtain ⟨wd, hwd⟩ : ∃ wd, wid g = wd := ⟨_, rfl⟩
 rw [hwd] at wp HWD hK wc0
 have HW := hi0 hwd
 have HWC := hi0 wc0
 obtain ⟨rad, digs, lo, hi, grad⟩ := g
 simp only at *
 obtain ⟨D, rfl⟩ : ∃ D : Nat, digs = D := ⟨digs.toNat, by omega⟩
 rw [Int.toNat_natCast] at hK
 have hD : 1 ≤ D := by omega
 have hnum0 : 0 < (dig B16 num).length := by have := a0d a0b num; omega
 have hden0 : 0 < (dig B16 den).length := by have := a0d a0b den; omega
 have bn := g0a num
 have bd := g0a den
 obtain ⟨F1, F2⟩ := p0f hn hd e (w := wd) (D := D) (by omega) hD _ rfl
 obtain ⟨x, hx⟩ : ∃ x : Int, (blen num : Int) - blen den + e = x := ⟨_, rfl⟩
 have hxb : -600000 ≤ x ∧ x ≤ 600000 := by omega
 have hxw := l0c (wd := wd) wp.1 hxb
 have e0 : IntKind.i64.wrap ((blen num : Int) - blen den) = (blen num : Int) - blen den := iwo
 have e1 : IntKind.i64.wrap ((blen num : Int) - blen den + e) = x := by rw [iwo, hx]
 rw [hx] at F1 F2
 have HX := hi0 hx
 have hK1 := hK.le hd F1
 have hK2 : K ≤ x / wd - D + 2 := by
  rcases Int.lt_or_le (x / wd - D + 2) K with h | h
  · exact absurd (k0f hd hK.yes (by omega)) F2
  · exact h
 have HK := hi0 hK
 have t0 : (((dig B16 num).length : Int) == 0) = false := bFn (by omega)
 have HPP := hi0 (show 0 < (dig B16 num).length → blk p < w.heap.size from fun h => hp.lt h)
 clear hpf hwd hx F1 F2 hK wc0
 go_enter Tryz.func21, Tryz.ntmps21
 go_wp2_with fail
 refine w0g (fun W1 hb1 hz1 Q G R => ?_)
 replace hp := hp.past hb1
 replace hq := hq.past hb1
 have hs1 := hb1
 ((with_reducible refine ((HWD _).out).mono ?_))
 rintro e2 w2 ⟨rfl, hb2⟩
 replace Q := Q.past hb2
 replace G := G.past hb2
 replace R := R.past hb2
 replace hp := hp.past hb2
 replace hq := hq.past hb2
 have hs2 := hs1.trans (hb2.mono hs1.size)
 obtain ⟨Q_0, Q_1, Q_2, Q_3⟩ := Q.e4
 obtain ⟨G_0, G_1, G_2, G_3, G_4⟩ := G.e5
 obtain ⟨R_0, R_1, R_2, R_3, R_4, R_5⟩ := R.e6
 go_wp2_with fail
 clear Q_0 Q_1 Q_2 Q_3 G_0 G_1 G_2 G_3 G_4 R_0 R_1 R_2 R_3 R_4 R_5
 obtain ⟨Q_0, Q_1, Q_2, Q_3⟩ := Q.e4
 go_quiet ((first | (go_at_call_of 75 (Value.slice p (dig B16 num).length c); exact Calls.quiet_of_same ((h0s p _ c num _ (hp.drewN _) rfl (by omega)).mono fun _ _ h => ⟨h.1, h.2.symm⟩)) | (go_at_call_of 75 (Value.slice q (dig B16 den).length d); exact Calls.quiet_of_same ((h0s q _ d den _ (hq.drewN _) rfl (by omega)).mono fun _ _ h => ⟨h.1, h.2.symm⟩))))
 clear Q_0 Q_1 Q_2 Q_3
 have hb3 := below_drewN (Below.refl (w2).heap.size (w2)) nq
 replace Q := Q.past hb3
 replace G := G.past hb3
 replace R := R.past hb3
 replace hp := hp.past hb3
 replace hq := hq.past hb3
 have hs3 := hs2.trans (hb3.mono hs2.size)
 generalize (w2).drewN nq = w3 at *
 clear e0 e1 t0
 obtain ⟨Q_0, Q_1, Q_2, Q_3⟩ := Q.e4
 obtain ⟨G_0, G_1, G_2, G_3, G_4⟩ := G.e5
 obtain ⟨R_0, R_1, R_2, R_3, R_4, R_5⟩ := R.e6
 go_wp2_with fail
 clear Q_0 Q_1 Q_2 Q_3 G_0 G_1 G_2 G_3 G_4 R_0 R_1 R_2 R_3 R_4 R_5
 obtain ⟨f1, f2, f3⟩ := i1m HWC.out (show -800000 ≤ x by omega)
 have e0 : IntKind.i64.wrap (x + 800000) = x + 800000 := iwo
 have hq1 := l0c (wd := wd) (x := x + 800000) (B := 1400000) wp.1 (by omega)
 have hq2 := l0c (wd := wd) (x := 800000) (B := 800000) wp.1 (by omega)
 have e1 : IntKind.i64.wrap ((x + 800000).tdiv (wd : Int)) = (x + 800000) / (wd : Int) := by rw [f1, iwo]
 have e2 : IntKind.i64.wrap ((800000 : Int).tdiv (wd : Int)) = 800000 / (wd : Int) := by rw [f2, iwo]
 have e3 : IntKind.i64.wrap ((x + 800000) / (wd : Int) - 800000 / (wd : Int)) = x / (wd : Int) := by rw [f3, iwo]
 have e4 : IntKind.i64.wrap (x / (wd : Int) - (D : Int)) = x / wd - D := iwo
 have e5 : IntKind.i64.wrap (x / (wd : Int) - (D : Int) + 2) = x / wd - D + 2 := iwo
 have t0 : ((wd : Int) == 0) = false := bFn (by omega)
 clear f1 f2 f3
 obtain ⟨G_0, G_1, G_2, G_3, G_4⟩ := G.e5
 go_quiet (fail)
 clear G_0 G_1 G_2 G_3 G_4
 have hb4 := below_drewN (Below.refl (w3).heap.size (w3)) nq
 replace Q := Q.past hb4
 replace G := G.past hb4
 replace R := R.past hb4
 replace hp := hp.past hb4
 replace hq := hq.past hb4
 have hs4 := hs3.trans (hb4.mono hs3.size)
 generalize (w3).drewN nq = w4 at *
 clear e0 e1 e2 e3 e4 e5 t0
 obtain ⟨k0, hk0⟩ : ∃ k0, x / (wd : Int) - D + 2 = k0 := ⟨_, rfl⟩
 have hk0b : -700000 ≤ k0 ∧ k0 ≤ 700000 := by omega
 rw [hk0] at hK2 ⊢
 have hK1 : k0 - 2 ≤ K := by omega
 have hm0 : -669000 ≤ (wd : Int) * k0 ∧ (wd : Int) * k0 ≤ 601000 := by
  have h1 := e0j x wd wp.1
  have h2 : (wd : Int) * k0 = wd * (x / wd) - wd * D + wd * 2 := by rw [← hk0]; grind
  have h3 : (wd : Int) * D ≤ 4 * 17000 := Int.mul_le_mul (by omega) (by omega) (by omega) (by omega)
  have h4 : 0 ≤ (wd : Int) * D := Int.mul_nonneg (by omega) (by omega)
  omega
 clear hk0 hxw hq1 hq2
 obtain ⟨Q_0, Q_1, Q_2, Q_3⟩ := Q.e4
 go_wp2_with fail
 clear Q_0 Q_1 Q_2 Q_3
 ((with_reducible refine (h0j ng p q c d num den e ((wd : Int) * k0) _ hp hq (by omega) (by omega) hd (by omega) (by omega)).mono ?_))
 rintro e5 w5 ⟨p1, c1, q1, d1, r1, f1, rfl, hr1, hf1, hr2, hf2, hr3, hf3, hb5⟩
 replace Q := Q.past hb5
 replace G := G.past hb5
 replace R := R.past hb5
 replace hp := hp.past hb5
 replace hq := hq.past hb5
 have hs5 := hs4.trans (hb5.mono hs4.size)
 go_wp2_with fail
 obtain ⟨N1, hN1⟩ : ∃ N1 : Nat, N1 = wd * (D - 1) := ⟨_, rfl⟩
 have hN1b : N1 ≤ 68000 := by rw [hN1]; exact Nat.le_trans (Nat.mul_le_mul wp.2 (show D - 1 ≤ 17000 by omega)) (by omega)
 have HN1 := hi0 hN1
 clear hN1
 have hpp : 0 < (dig B16 num).length → blk p < w.heap.size := fun h => HPP.out h
 have hsw : W1.heap.size ≤ w4.heap.size := by have := hb2.size; have := hb3.size; have := hb4.size; omega
 go_loopg [9, 10, 11, 12] (k0 - K).toNat (fun gk kv av bv cv wr => ∃ (k : Int) (p2 q2 r2 : Option Addr) (c2 d2 f2 : Nat), kv = .int .i64 k ∧ (gk : Int) = k - K ∧ k ≤ k0 ∧ K ≤ k ∧
   av = .slice p2 (dig B16 (qP num den (e - wd * k))).length c2 ∧ bv = .slice q2 (dig B16 (rP num den (e - wd * k))).length d2 ∧ cv = .slice r2 (dig B16 (denP den (e - wd * k))).length f2 ∧
   Rd wr .i64 p2 (dig B16 (qP num den (e - wd * k))) ∧ (0 < (dig B16 (qP num den (e - wd * k))).length → W1.heap.size ≤ blk p2) ∧ Rd wr .i64 q2 (dig B16 (rP num den (e - wd * k))) ∧ Rd wr .i64 r2 (dig B16 (denP den (e - wd * k))) ∧ Below w5.heap.size w5 wr)
 case atStart => exact ⟨k0, p1, q1, r1, c1, d1, f1, rfl, by omega, by omega, by omega, rfl, rfl, rfl, hr1, fun h => Nat.le_trans hsw (hf1 h), hr2, hr3, Below.refl _ _⟩
 case round =>
  obtain ⟨k, p2, q2, r2, c2, d2, f2, rfl, hgk, hkk, hKk, rfl, rfl, rfl, hr4, hf4, hr5, hr6, hb7⟩ := hrel
  have hs7 := hs5.trans (hb7.mono hs5.size)
  replace Q := Q.past hb7
  replace G := G.past hb7
  replace R := R.past hb7
  replace hp := hp.past hb7
  replace hq := hq.past hb7
  have hmk : -680000 ≤ (wd : Int) * k ∧ (wd : Int) * k ≤ 680000 := by
   have hkd : k = k0 ∨ k = k0 - 1 ∨ k = k0 - 2 := by omega
   rcases hkd with rfl | rfl | rfl
   · omega
   · rw [Int.mul_sub]; omega
   · rw [Int.mul_sub]; omega
  have lq : (dig B16 (qP num den (e - wd * k))).length ≤ 2700000 := Nat.le_trans (a0j a0b (Nat.div_le_self _ _)) (k0l (by omega) (by omega))
  have hbq := g0a (qP num den (e - wd * k))
  have e0 : IntKind.i64.wrap ((D : Int) - 1) = ((D - 1 : Nat) : Int) := by rw [iwo]; omega
  have e1 : IntKind.i64.wrap ((wd : Int) * ((D - 1 : Nat) : Int)) = (N1 : Int) := by rw [IntWalk.i64_in _ (by rw [← Int.natCast_mul, ← HN1.out]; omega), ← Int.natCast_mul, ← HN1.out]
  have e2 : IntKind.i64.wrap ((N1 : Int) + 1) = (N1 : Int) + 1 := iwo
  go_wp2_with fail
  obtain ⟨G_0, G_1, G_2, G_3, G_4⟩ := G.e5
  go_quiet ((go_at_call 75; exact Calls.quiet_of_same ((h0s p2 _ c2 _ _ (hr4.drewN _) rfl (by clear e0 e1 e2; omega)).mono fun _ _ h => ⟨h.1, h.2.symm⟩)))
  clear G_0 G_1 G_2 G_3 G_4
  have hb8 := below_drewN (Below.refl (wr).heap.size (wr)) nq
  replace Q := Q.past hb8
  replace G := G.past hb8
  replace R := R.past hb8
  replace hp := hp.past hb8
  replace hq := hq.past hb8
  replace hr4 := hr4.past hb8
  replace hr5 := hr5.past hb8
  replace hr6 := hr6.past hb8
  have hs8 := hs7.trans (hb8.mono hs7.size)
  generalize (wr).drewN nq = w8 at *
  clear e0 e1 e2
  by_cases hfull : e0i num den e wd D k
  · have hkK : k = K := by have := HK.out.le hd hfull; omega
    subst hkK
    have hC : ¬ ((blen (qP num den (e - wd * k)) : Nat) : Int) < (N1 : Int) + 1 := by
     unfold e0i at hfull
     rw [← HN1.out] at hfull
     have := (a0w (qP num den (e - wd * k)) N1)
     omega
    clear hfull
    obtain ⟨k1, hk1⟩ : ∃ k1, powK ⟨rad, D, lo, hi, grad⟩ k = k1 := ⟨_, rfl⟩
    have HK1 := hi0 hk1
    have hmk1 : -700000 ≤ (wd : Int) * k1 ∧ (wd : Int) * k1 ≤ 700000 := by
     have hlo := n0z (k := lo) wp.2 (B := 17000) ⟨by omega, by omega⟩
     rw [← hk1]; unfold powK; split
     · simp only; omega
     · omega
    have hk1b : -800000 ≤ k1 ∧ k1 ≤ 800000 := by
     rw [← hk1]; unfold powK; split
     · simp only; omega
     · omega
    clear hk1
    obtain ⟨un, hun⟩ : ∃ un, decide (k < lo) = un := ⟨_, rfl⟩
    have hz8 := R.lt
    have hsw8 : W1.heap.size ≤ w8.heap.size := by have := hb5.size; have := hb7.size; have := hb8.size; omega
    obtain ⟨Q_0, Q_1, Q_2, Q_3⟩ := Q.e4
    obtain ⟨G_0, G_1, G_2, G_3, G_4⟩ := G.e5
    go_upto_region 11 with (fail)
    clear Q_0 Q_1 Q_2 Q_3 G_0 G_1 G_2 G_3 G_4
    have HUN := hi0 hun
    clear hun
    have hr4o := hr4
    have hr5o := hr5
    have hr6o := hr6
    have hqo := hq
    refine s0u (fun W9 hb9 hz9 P => ?_)
    replace Q := Q.past hb9
    replace G := G.past hb9
    replace R := R.past hb9
    replace hp := hp.past hb9
    replace hq := hq.past hb9
    replace hr4 := hr4.past hb9
    replace hr5 := hr5.past hb9
    replace hr6 := hr6.past hb9
    have hs9 := hs8.trans (hb9.mono hs8.size)
    obtain ⟨b1, hb1⟩ : ∃ b1, (un && grad) = b1 := ⟨_, rfl⟩
    have HB1 := hi0 hb1
    clear hb1
    have hp4 : 0 < (dig B16 (qP num den (e - wd * k))).length → blk p2 ≠ w8.heap.size := fun h => by have := hr4o.lt h; omega
    have hp5 : 0 < (dig B16 (rP num den (e - wd * k))).length → blk q2 ≠ w8.heap.size := fun h => by have := hr5o.lt h; omega
    have hp6 : 0 < (dig B16 (denP den (e - wd * k))).length → blk r2 ≠ w8.heap.size := fun h => by have := hr6o.lt h; omega
    have hpq : 0 < (dig B16 den).length → blk q ≠ w8.heap.size := fun h => by have := hqo.lt h; omega
    clear hr4o hr5o hr6o hqo
    have hzP := P.lt
    go_cut [85] (fun s85 wx => s85 = .bool b1 ∧ wx = W9)
    case first =>
     obtain ⟨P_0, P_1, P_2, P_3, P_4, P_5⟩ := P.e6
     obtain ⟨G_0, G_1, G_2, G_3, G_4⟩ := G.e5
     cases un <;> cases grad <;> (go_wp2_with fail; go_meet; exact ⟨by rw [← HB1.out]; rfl, rfl⟩)
    case rest =>
     obtain ⟨rfl, rfl⟩ := hcut
     go_upto_if 85 with (fail)
     go_cut [10, 11, 12] (fun s11 s12 s13 wx => ∃ (p3 q3 r3 : Option Addr) (c3 d3 f3 : Nat), s11 = .slice p3 (dig B16 (qP num den (e - wd * k1))).length c3 ∧ s12 = .slice q3 (dig B16 (rP num den (e - wd * k1))).length d3 ∧ s13 = .slice r3 (dig B16 (denP den (e - wd * k1))).length f3 ∧
       Bx wx w8.heap.size #[.bool ng, .slice none 0 0, .int .i64 k1, .bool false, .bool false, .bool un] ∧
       Rd wx .i64 p3 (dig B16 (qP num den (e - wd * k1))) ∧ (0 < (dig B16 (qP num den (e - wd * k1))).length → W1.heap.size ≤ blk p3) ∧ Rd wx .i64 q3 (dig B16 (rP num den (e - wd * k1))) ∧ Rd wx .i64 r3 (dig B16 (denP den (e - wd * k1))) ∧
       (0 < (dig B16 (qP num den (e - wd * k1))).length → blk p3 ≠ w8.heap.size) ∧ (0 < (dig B16 (rP num den (e - wd * k1))).length → blk q3 ≠ w8.heap.size) ∧ (0 < (dig B16 (denP den (e - wd * k1))).length → blk r3 ≠ w8.heap.size) ∧ Keep w8.heap.size wc wx)
     case first =>
      cases b1
      · obtain rfl : k = k1 := by
         have h1 := HK1.out; have h2 := HB1.out; have h3 := HUN.out
         unfold powK at h1
         rw [if_neg (by rintro ⟨a1, a2⟩; simp only at a1 a2; subst a2; rw [← h3, decide_eq_true a1] at h2; simp at h2)] at h1
         exact h1
        go_wp2_with fail
        go_meet
        exact ⟨p2, q2, r2, c2, d2, f2, rfl, rfl, rfl, P, hr4, hf4, hr5, hr6, hp4, hp5, hp6, Below.keep (Below.refl _ _) _⟩
      · obtain rfl : lo = k1 := by
         have h1 := HK1.out; have h2 := HB1.out; have h3 := HUN.out
         unfold powK at h1
         rw [if_pos ⟨by cases un; (simp at h2); simpa using h3, by cases un; (simp at h2); simpa using h2⟩] at h1
         exact h1
        obtain ⟨G_0, G_1, G_2, G_3, G_4⟩ := G.e5
        obtain ⟨P_0, P_1, P_2, P_3, P_4, P_5⟩ := P.e6
        have P_f0 := P.f 0
        have P_f1 := P.f 1
        have P_f2 := P.f 2
        have P_f3 := P.f 3
        have P_f4 := P.f 4
        have P_f5 := P.f 5
        go_upto_region 13 with (fail)
        clear G_0 G_1 G_2 G_3 G_4 P_0 P_1 P_2 P_3 P_4 P_5 P_f0 P_f1 P_f2 P_f3 P_f4 P_f5
        refine y0k P (fun W10 hO10 P => ?_)
        replace P : Bx W10 w8.heap.size #[.bool ng, .slice none 0 0, .int .i64 lo, .bool false, .bool false, .bool un] := P
        replace Q := Q.only hO10 (by omega)
        replace G := G.only hO10 (by omega)
        have hqb : 0 < (dig B16 den).length → blk q < wc.heap.size := fun h => hq.lt h
        replace hp := hp.only hO10 (fun h => by have := hpp h; omega)
        replace hq := hq.only hO10 hpq
        have hz10 := hO10.size
        have HZ10 := hi0 hz10
        clear hz10
        obtain ⟨Q_0, Q_1, Q_2, Q_3⟩ := Q.e4
        obtain ⟨G_0, G_1, G_2, G_3, G_4⟩ := G.e5
        go_wp2_with fail
        clear Q_0 Q_1 Q_2 Q_3 G_0 G_1 G_2 G_3 G_4
        ((with_reducible refine (h0j ng p q c d num den e ((wd : Int) * lo) _ hp hq (by omega) (by omega) hd (by omega) (by omega)).mono ?_))
        rintro e11 w11 ⟨p3, c3, q3, d3, r3, f3, rfl, hr7, hf7, hr8, hf8, hr9, hrq, hb11⟩
        have hz10 := HZ10.out
        go_wp2_with fail
        go_meet
        refine ⟨p3, q3, r3, c3, d3, f3, rfl, rfl, rfl, P.past hb11, hr7, fun h => ?_, hr8, hr9, fun h => ?_, fun h => ?_, fun h => ?_, hO10.keep.trans (Below.keep hb11 _)⟩
        · have := hf7 h; omega
        · have := hf7 h; omega
        · have := hf8 h; omega
        · rcases hrq with rfl | hrq
          · exact hpq hden0
          · have := hrq h; omega
     case rest =>
      obtain ⟨p3, q3, r3, c3, d3, f3, rfl, rfl, rfl, P, hr7, hf7, hr8, hr9, hn7, hn8, hn9, hkb⟩ := hcut
      have hs9z := hs9.size
      have hs10 := hs9.trans (hkb.below (B := w.heap.size) (by omega) hs9z)
      have hzz : w8.heap.size < wc.heap.size := P.lt
      replace Q := Q.keep hkb (by omega)
      replace G := G.keep hkb (by omega)
      replace R := R.keep hkb (by omega)
      clear hkb hr4 hr5 hr6 hp hq
      have lX : (dig B16 (qP num den (e - wd * k1))).length ≤ 2700000 := Nat.le_trans (a0j a0b (Nat.div_le_self _ _)) (k0l (by omega) (by omega))
      have lZ : (dig B16 (denP den (e - wd * k1))).length ≤ 2700000 := o0g (by omega) (by omega)
      have lY : (dig B16 (rP num den (e - wd * k1))).length ≤ 2700000 := Nat.le_trans (a0j a0b (Nat.le_of_lt (Nat.mod_lt _ (h0q hd _)))) lZ
      obtain ⟨X, hX⟩ : ∃ X, qP num den (e - wd * k1) = X := ⟨_, rfl⟩
      obtain ⟨Y, hY⟩ : ∃ Y, rP num den (e - wd * k1) = Y := ⟨_, rfl⟩
      obtain ⟨Z, hZ⟩ : ∃ Z, denP den (e - wd * k1) = Z := ⟨_, rfl⟩
      rw [hX] at hr7 hf7 hn7 lX ⊢
      rw [hY] at hr8 hn8 lY ⊢
      rw [hZ] at hr9 hn9 lZ ⊢
      have HXX := hi0 hX
      have HYY := hi0 hY
      have HZZ := hi0 hZ
      obtain ⟨xb, hxb⟩ : ∃ xb, (((dig B16 Y).length : Int) == 0) = xb := ⟨_, rfl⟩
      clear hX hY hZ
      obtain ⟨P_0, P_1, P_2, P_3, P_4, P_5⟩ := P.e6
      have P_f0 := P.f 0
      have P_f1 := P.f 1
      have P_f2 := P.f 2
      have P_f3 := P.f 3
      have P_f4 := P.f 4
      have P_f5 := P.f 5
      go_upto_region 15 with (fail)
      clear P_0 P_1 P_2 P_3 P_4 P_5 P_f0 P_f1 P_f2 P_f3 P_f4 P_f5
      refine y0k P (fun W11 hO11 P => ?_)
      replace P : Bx W11 w8.heap.size #[.bool ng, .slice none 0 0, .int .i64 k1, .bool xb, .bool false, .bool un] := P
      replace Q := Q.only hO11 (by omega)
      replace G := G.only hO11 (by omega)
      replace R := R.only hO11 (by omega)
      replace hr7 := hr7.only hO11 hn7
      replace hr8 := hr8.only hO11 hn8
      replace hr9 := hr9.only hO11 hn9
      have hs11 := hs10.trans (hO11.below (B := w.heap.size) (by omega))
      clear hO11
      obtain ⟨od, hod⟩ : ∃ od, decide (X % 2 = 1) = od := ⟨_, rfl⟩
      have HOD := hi0 hod
      have HXB := hi0 hxb
      clear hod hxb
      go_cut [14] (fun s15 wx => s15 = .bool od ∧ wx = W11)
      case first =>
       by_cases hX0 : 0 < (dig B16 X).length
       · have hx0 : 0 < X := by have := a0d a0b X; omega
         have hcell := hr7.cells 0 hX0
         have hsol := hr7.solid
         have hd0 : dg (dig B16 X) 0 = X % B16 := by rw [d0i a0b hx0]; rfl
         rw [hd0] at hcell
         have hlt0 : X % B16 < 65536 := Nat.mod_lt _ e0f
         have hbit : (((X % B16 : Nat) : Int) % 2 == 1) = od := by
          rw [← HOD.out]
          by_cases h : X % 2 = 1
          · rw [decide_eq_true h]; exact beq_iff_eq.2 (by unfold B16; omega)
          · rw [decide_eq_false h]; exact bFn (by unfold B16; omega)
         generalize X % B16 = x0 at *
         clear hd0
         go_wp2_with fail
         go_meet
         exact ⟨rfl, rfl⟩
       · have hx0 : X = 0 := by have := a0d a0b X; omega
         have hod0 : od = false := by rw [← HOD.out, hx0]; rfl
         subst hod0
         have hX1 : ¬ (0 : Int) < ((dig B16 X).length : Int) := by omega
         clear hx0
         go_wp2_with fail
         go_meet
         exact ⟨rfl, rfl⟩
      case rest =>
       obtain ⟨rfl, rfl⟩ := hcut
       obtain ⟨ub, hub⟩ : ∃ ub, upP ng num den e wd way k1 = ub := ⟨_, rfl⟩
       have HUB := hi0 hub
       clear hub
       go_upto_region 16 with (fail)
       go_cut [127] (fun s wx => s = .bool ub ∧ Below wc.heap.size wc wx)
       case first =>
        have hYY := HYY.out
        have hXX := HXX.out
        have hZZ := HZZ.out
        have hUB := HUB.out
        unfold upP at hUB
        rw [hYY, hXX, hZZ, HOD.out] at hUB
        have HUB2 := hi0 hUB
        clear hYY hXX hZZ hUB
        cases xb
        · have hY0 : Y ≠ 0 := by
           have := HXB.out
           intro h0
           rw [h0, a0c] at this
           simp at this
          have HU3 : Hid (e0x way ng od (cmpN (Y * 2) Z) = ub) := by
           have := HUB2.out
           rw [decide_eq_true hY0, Bool.true_and] at this
           exact this
          have lY2 : (dig B16 (Y * 2)).length ≤ 3000000 := by have := d0n a0b Y 2; have := m0u; omega
          have l2 := Nat.le_of_eq m0u
          have HL2 := hi0 m0u.symm
          clear hY0
          go_region_held3 (fun w' => w'.cell? ⟨w8.heap.size, 3, none⟩ = some (.bool false) ∧ w'.cell? ⟨w.heap.size, 0, none⟩ = some (.bool ng))
           (first | exact ⟨P.e6.2.2.2.1, Q.e4.1⟩ | exact ⟨(P.drew).e6.2.2.2.1, (Q.drew).e4.1⟩ | exact ⟨((P.drew).laid _).e6.2.2.2.1, ((Q.drew).laid _).e4.1⟩ | exact ⟨(((P.drew).laid _).past hbs).e6.2.2.2.1, (((Q.drew).laid _).past hbs).e4.1⟩ | exact ⟨((((P.drew).laid _).past hbs).past hbk).e6.2.2.2.1, ((((Q.drew).laid _).past hbs).past hbk).e4.1⟩)
           (first
             | (go_at_call 59; refine (f0e q3 (some ⟨wc.heap.size, 0, none⟩) _ _ d3 1 Y 2 _ (hr8.drew.laid _) (e1u wc.drew _) rfl HL2.out (by omega)).mono ?_; rintro es ws ⟨ps, cs, rfl, hos, hcs, hfs, hbs⟩)
             | (go_at_call 60; refine (d0q ps r3 _ _ cs f3 _ _ _ hos ((hr9.drew.laid _).past hbs) rfl rfl (by omega) (by omega)).mono ?_; rintro ek wk ⟨rfl, hbk⟩)
             | (go_at_call 77; refine (t0p way ng od _ _ hw1 hw2).mono ?_; rintro ef wf ⟨rfl, rfl⟩))
          all_goals (go_wp2_with fail)
          all_goals go_meet
          all_goals (refine ⟨by rw [HU3.out], ?_⟩)
          all_goals (exact (((Below.refl _ _).drew.trans (b0n wc.drew _)).trans (hbs.mono (by simp))).trans (hbk.mono (by have hzd : wc.drew.heap.size = wc.heap.size := rfl; have := hbs.size; simp at this; omega)))
        · have hub0 : ub = false := by
           have h0 : Y = 0 := by
            have := HXB.out
            have h1 := a0d a0b Y
            have h2 : ((dig B16 Y).length : Int) = 0 := by simpa using this
            omega
           have := HUB2.out
           rw [h0] at this
           simpa using this.symm
          subst hub0
          obtain ⟨P_0, P_1, P_2, P_3, P_4, P_5⟩ := P.e6
          go_quiet (fail)
          go_wp2_with fail
          go_meet
          exact ⟨rfl, below_drewN (Below.refl _ _) _⟩
       case rest =>
        obtain ⟨rfl, hbc⟩ := hcut
        have hs12 := hs11.trans (hbc.mono hs11.size)
        replace Q := Q.past hbc
        replace G := G.past hbc
        replace R := R.past hbc
        replace P := P.past hbc
        replace hr7 := hr7.past hbc
        have hzc := hbc.size
        clear hbc hr9 hr8
        obtain ⟨dd, hdd⟩ : ∃ dd, digP ng num den e wd D way k1 = dd := ⟨_, rfl⟩
        obtain ⟨k2, hk2⟩ : ∃ k2, powP ng num den e wd D way k1 = k2 := ⟨_, rfl⟩
        have HDD : Hid (dd = (if ub = true ∧ wd * D < blen (X + if ub then 1 else 0) then 2 ^ N1 else X + if ub then 1 else 0) ∧ k2 = if ub = true ∧ wd * D < blen (X + if ub then 1 else 0) then k1 + 1 else k1) := by
         rw [← hdd, ← hk2]
         exact i0h (D := D) HUB.out HXX.out HN1.out
        have HDD0 := hi0 hdd
        have HKK0 := hi0 hk2
        clear hdd hk2
        have hzz2 : w8.heap.size < wc.heap.size := P.lt
        go_upto_if 127 with (fail)
        go_cut [10] (fun s11 wx => ∃ (p4 : Option Addr) (c4 : Nat), s11 = .slice p4 (dig B16 dd).length c4 ∧ Rd wx .i64 p4 (dig B16 dd) ∧ (0 < (dig B16 dd).length → W1.heap.size ≤ blk p4) ∧ (0 < (dig B16 dd).length → blk p4 ≠ w8.heap.size) ∧
          Bx wx w8.heap.size #[.bool ng, .slice none 0 0, .int .i64 k2, .bool xb, .bool false, .bool un] ∧ Keep w8.heap.size wc wx)
        case first =>
         cases ub
         · obtain ⟨rfl, rfl⟩ : dd = X ∧ k2 = k1 := by simpa using HDD.out
           go_wp2_with fail
           go_meet
           exact ⟨p3, c3, rfl, hr7, hf7, hn7, P, Below.keep (Below.refl _ _) _⟩
         · have lX1 : (dig B16 (X + 1)).length ≤ 2800000 := by have := e0s a0b X 1; have := m0v; omega
           have hbl := g0a (X + 1)
           have l1 := Nat.le_of_eq m0v
           have HL1 := hi0 m0v.symm
           go_wp2_with fail
           refine n0q (fun W13 hb13 hz13 L1 => ?_)
           replace G := G.past hb13
           replace P := P.past hb13
           replace hr7 := hr7.past hb13
           have hs13 := hb13
           ((with_reducible refine (i0l p3 (some ⟨wc.heap.size, 0, none⟩) _ _ c3 1 X 1 _ hr7 (b1t L1) rfl HL1.out (by omega)).mono ?_))
           rintro e14 w14 ⟨p6, c6, rfl, hr10, hc10, hf10, hb14⟩
           replace G := G.past hb14
           replace P := P.past hb14
           replace L1 := L1.past hb14
           replace hr7 := hr7.past hb14
           have hs14 := hs13.trans (hb14.mono hs13.size)
           obtain ⟨G_0, G_1, G_2, G_3, G_4⟩ := G.e5
           obtain ⟨P_0, P_1, P_2, P_3, P_4, P_5⟩ := P.e6
           have L1_0 := L1.e1
           go_wp2_with fail
           clear G_0 G_1 G_2 G_3 G_4 P_0 P_1 P_2 P_3 P_4 P_5 L1_0
           have hwD : wd * D ≤ 68000 := Nat.le_trans (Nat.mul_le_mul wp.2 (show D ≤ 17000 by omega)) (by omega)
           have e0 : IntKind.i64.wrap ((wd : Int) * (D : Int)) = ((wd * D : Nat) : Int) := by rw [IntWalk.i64_in _ (by rw [← Int.natCast_mul]; omega), Int.natCast_mul]
           obtain ⟨G_0, G_1, G_2, G_3, G_4⟩ := G.e5
           go_quiet ((go_at_call 75; exact Calls.quiet_of_same ((h0s p6 _ c6 (X + 1) _ (hr10.drewN _) rfl (by clear e0; omega)).mono fun _ _ h => ⟨h.1, h.2.symm⟩)))
           clear G_0 G_1 G_2 G_3 G_4
           have hb15 := below_drewN (Below.refl (w14).heap.size (w14)) nq
           replace G := G.past hb15
           replace P := P.past hb15
           replace L1 := L1.past hb15
           replace hr7 := hr7.past hb15
           replace hr10 := hr10.past hb15
           have hs15 := hs14.trans (hb15.mono hs14.size)
           generalize (w14).drewN nq = w15 at *
           clear e0
           have hz13 := hb13.size
           have hz14 := hb14.size
           by_cases hlong : wd * D < blen (X + 1)
           · obtain ⟨rfl, rfl⟩ : dd = 2 ^ N1 ∧ k2 = k1 + 1 := by simpa [hlong] using HDD.out
             go_wp2_with fail
             have e0 : IntKind.i64.wrap ((D : Int) - 1) = ((D - 1 : Nat) : Int) := by rw [iwo]; omega
             have e1 : IntKind.i64.wrap ((wd : Int) * ((D - 1 : Nat) : Int)) = (N1 : Int) := by rw [IntWalk.i64_in _ (by rw [← Int.natCast_mul, ← HN1.out]; omega), ← Int.natCast_mul, ← HN1.out]
             have e2 : IntKind.i64.wrap (k1 + 1) = k1 + 1 := iwo
             obtain ⟨P_0, P_1, P_2, P_3, P_4, P_5⟩ := P.e6
             have P_f0 := P.f 0
             have P_f1 := P.f 1
             have P_f2 := P.f 2
             have P_f3 := P.f 3
             have P_f4 := P.f 4
             have P_f5 := P.f 5
             obtain ⟨G_0, G_1, G_2, G_3, G_4⟩ := G.e5
             go_region_with (go_at_call 25; refine (i0m N1 _ (by clear e0 e1 e2; omega)).mono ?_; rintro ep wq ⟨pp, cp, rfl, hrp, hcp, hfp, hbp⟩; have PP := P.drew.past hbp; obtain ⟨PP_0, PP_1, PP_2, PP_3, PP_4, PP_5⟩ := PP.e6; have PP_f2 := PP.f 2; have GG := G.drew.past hbp; obtain ⟨GG_0, GG_1, GG_2, GG_3, GG_4⟩ := GG.e5)
             all_goals (clear e0 e1 e2)
             all_goals (have hzd : w15.drew.heap.size = w15.heap.size := rfl; have hz15 := hb15.size)
             all_goals (go_wp2_with fail)
             all_goals go_meet
             all_goals (have hO := e0m wq w8.heap.size 2 (.int .i64 (k1 + 1)))
             all_goals (exact ⟨pp, cp, rfl, hrp.only hO (fun h => by have := hfp h; omega), fun h => by have := hfp h; omega, fun h => by have := hfp h; omega, PP.set 2 _, (Below.keep (hs15.drew.trans (hbp.mono (by omega))) _).trans hO.keep⟩)
           · obtain ⟨rfl, rfl⟩ : dd = X + 1 ∧ k2 = k1 := by simpa [hlong] using HDD.out
             go_wp2_with fail
             go_meet
             exact ⟨p6, c6, rfl, hr10, fun h => by have := hf10 h; omega, fun h => by have := hf10 h; omega, P, Below.keep hs15 _⟩
        case rest =>
         obtain ⟨p4, c4, rfl, hr11, hf11, hn11, P, hkb⟩ := hcut
         have hs12z := hs12.size
         have hs15 := hs12.trans (hkb.below (B := w.heap.size) (by omega) hs12z)
         replace G := G.keep hkb (by omega)
         replace R := R.keep hkb (by omega)
         clear hkb
         obtain ⟨ov, hov⟩ : ∃ ov, decide (hi < k2) = ov := ⟨_, rfl⟩
         have HPF2 : Hid (pf = ⟨ng, dd, if dd = 0 then 0 else k2, xb, ov, un⟩) := by
          have h1 := HPF.out
          rw [z0s HW.out (Int.toNat_natCast D) HK1.out HDD0.out HKK0.out HYY.out] at h1
          have h6 := HXB.out; have h7 := HUN.out
          simp only at h1
          rw [hov, h7] at h1
          rw [← h1]
          have h9 : decide (Y = 0) = xb := by
           rw [← h6]
           have := a0d a0b Y
           by_cases h0 : Y = 0
           · rw [decide_eq_true h0, h0, a0c]; rfl
           · rw [decide_eq_false h0]; exact (bFn (by omega)).symm
          rw [h9]
          rfl
         go_wp2_with fail
         obtain ⟨P_0, P_1, P_2, P_3, P_4, P_5⟩ := P.e6
         have P_f0 := P.f 0
         have P_f1 := P.f 1
         have P_f2 := P.f 2
         have P_f3 := P.f 3
         have P_f4 := P.f 4
         have P_f5 := P.f 5
         obtain ⟨G_0, G_1, G_2, G_3, G_4⟩ := G.e5
         go_region
         have HOV := hi0 hov
         clear hov
         clear P_0 P_1 P_2 P_3 P_4 P_5 P_f0 P_f1 P_f2 P_f3 P_f4 P_f5 G_0 G_1 G_2 G_3 G_4
         have hK20 : Keep w8.heap.size wc ((wc.setCell ⟨w8.heap.size, 1, none⟩ (.slice p4 (dig B16 dd).length c4)).setCell ⟨w8.heap.size, 4, none⟩ (.bool ov)).drew :=
          ((e0m wc w8.heap.size 1 (.slice p4 (dig B16 dd).length c4)).trans (e0m _ w8.heap.size 4 (.bool ov))).keep.trans (Below.keep (Below.refl _ _).drew _)
         replace P : Bx ((wc.setCell ⟨w8.heap.size, 1, none⟩ (.slice p4 (dig B16 dd).length c4)).setCell ⟨w8.heap.size, 4, none⟩ (.bool ov)).drew w8.heap.size #[.bool ng, .slice p4 (dig B16 dd).length c4, .int .i64 k2, .bool xb, .bool ov, .bool un] := ((P.set 1 (.slice p4 (dig B16 dd).length c4)).set 4 (.bool ov)).drew
         replace R := R.keep hK20 (by omega)
         replace hr11 := hr11.keep hK20 hn11
         have hs15z := hs15.size
         have hs20 := hs15.trans (hK20.below (B := w.heap.size) (by omega) hs15z)
         clear hK20
         generalize ((wc.setCell ⟨w8.heap.size, 1, none⟩ (.slice p4 (dig B16 dd).length c4)).setCell ⟨w8.heap.size, 4, none⟩ (.bool ov)).drew = W20 at *
         by_cases hd0 : dd = 0
         · have hdl : (((dig B16 dd).length : Int) == 0) = true := by rw [hd0, a0c]; rfl
           have HD0 := hi0 hd0
           clear hd0
           obtain ⟨P_0, P_1, P_2, P_3, P_4, P_5⟩ := P.e6
           have P_f0 := P.f 0
           have P_f1 := P.f 1
           have P_f2 := P.f 2
           have P_f3 := P.f 3
           have P_f4 := P.f 4
           have P_f5 := P.f 5
           go_upto_region 23 with (fail)
           clear P_0 P_1 P_2 P_3 P_4 P_5 P_f0 P_f1 P_f2 P_f3 P_f4 P_f5
           refine y0k P (fun W17 hO17 P => ?_)
           replace P : Bx W17 w8.heap.size #[.bool ng, .slice p4 (dig B16 dd).length c4, .int .i64 0, .bool xb, .bool ov, .bool un] := P
           replace R := R.only hO17 (by omega)
           replace hr11 := hr11.only hO17 hn11
           have hs17 := hs20.trans (hO17.below (B := w.heap.size) (by omega))
           clear hO17
           obtain ⟨P_0, P_1, P_2, P_3, P_4, P_5⟩ := P.e6
           obtain ⟨R_0, R_1, R_2, R_3, R_4, R_5⟩ := R.e6
           have R_f0 := R.f 0
           have R_f1 := R.f 1
           have R_f2 := R.f 2
           have R_f3 := R.f 3
           have R_f4 := R.f 4
           have R_f5 := R.f 5
           go_wp2_with fail
           clear P_0 P_1 P_2 P_3 P_4 P_5 R_0 R_1 R_2 R_3 R_4 R_5 R_f0 R_f1 R_f2 R_f3 R_f4 R_f5
           obtain ⟨R_0, R_1, R_2, R_3, R_4, R_5⟩ := R.e6
           refine bodyPost_ret (v := .agg #[.bool ng, .slice p4 (dig B16 dd).length c4, .int .i64 0, .bool xb, .bool ov, .bool un]) (by simp [results, Tryz.results21, go_sem, R_0, R_1, R_2, R_3, R_4, R_5]) rfl ?_
           rw [HPF2.out, if_pos HD0.out]
           have hO := q0t W17 (w.heap.size + 1 + 1) (.bool ng) (.slice p4 (dig B16 dd).length c4) (.int .i64 0) (.bool xb) (.bool ov) (.bool un)
           exact ⟨p4, c4, rfl, hr11.only hO (fun h => by have := hf11 h; omega), fun h => by have := hf11 h; omega, hs17.trans (hO.below (by omega))⟩
         · have hdl : (((dig B16 dd).length : Int) == 0) = false := bFn (by have := a0d a0b dd; omega)
           have HD0 := hi0 hd0
           clear hd0
           obtain ⟨P_0, P_1, P_2, P_3, P_4, P_5⟩ := P.e6
           obtain ⟨R_0, R_1, R_2, R_3, R_4, R_5⟩ := R.e6
           have R_f0 := R.f 0
           have R_f1 := R.f 1
           have R_f2 := R.f 2
           have R_f3 := R.f 3
           have R_f4 := R.f 4
           have R_f5 := R.f 5
           go_wp2_with fail
           clear P_0 P_1 P_2 P_3 P_4 P_5 R_0 R_1 R_2 R_3 R_4 R_5 R_f0 R_f1 R_f2 R_f3 R_f4 R_f5
           obtain ⟨R_0, R_1, R_2, R_3, R_4, R_5⟩ := R.e6
           refine bodyPost_ret (v := .agg #[.bool ng, .slice p4 (dig B16 dd).length c4, .int .i64 k2, .bool xb, .bool ov, .bool un]) (by simp [results, Tryz.results21, go_sem, R_0, R_1, R_2, R_3, R_4, R_5]) rfl ?_
           rw [HPF2.out, if_neg HD0.out]
           have hO := q0t W20 (w.heap.size + 1 + 1) (.bool ng) (.slice p4 (dig B16 dd).length c4) (.int .i64 k2) (.bool xb) (.bool ov) (.bool un)
           exact ⟨p4, c4, rfl, hr11.only hO (fun h => by have := hf11 h; omega), fun h => by have := hf11 h; omega, hs20.trans (hO.below (by omega))⟩
  · have hC : ((blen (qP num den (e - wd * k)) : Nat) : Int) < (N1 : Int) + 1 := by
     unfold e0i at hfull
     rw [← HN1.out] at hfull
     have := (a0w (qP num den (e - wd * k)) N1)
     omega
    have hk1 : K ≤ k - 1 := by
     rcases Int.lt_or_le (k - 1) K with h | h
     · obtain rfl : k = K := by omega
       exact absurd HK.out.yes hfull
     · exact h
    clear hfull
    have hmk2 : -700000 ≤ (wd : Int) * (k - 1) ∧ (wd : Int) * (k - 1) ≤ 700000 := by rw [Int.mul_sub]; omega
    obtain ⟨Q_0, Q_1, Q_2, Q_3⟩ := Q.e4
    go_wp2_with fail
    clear Q_0 Q_1 Q_2 Q_3
    ((with_reducible refine (h0j ng p q c d num den e ((wd : Int) * (k - 1)) _ hp hq (by omega) (by omega) hd (by omega) (by omega)).mono ?_))
    rintro e9 w9 ⟨p3, c3, q3, d3, r3, f3, rfl, hr7, hf7, hr8, hf8, hr9, -, hb9⟩
    replace Q := Q.past hb9
    replace G := G.past hb9
    replace R := R.past hb9
    replace hp := hp.past hb9
    replace hq := hq.past hb9
    have hs9 := hs8.trans (hb9.mono hs8.size)
    go_wp2_with fail
    have hsw8 : W1.heap.size ≤ w8.heap.size := by have := hb5.size; have := hb7.size; have := hb8.size; omega
    go_roundg (gk - 1)
    case measure => omega
    case rel => exact ⟨k - 1, p3, q3, r3, c3, d3, f3, by go_num, by omega, by omega, hk1, rfl, rfl, rfl, hr7, fun h => Nat.le_trans hsw8 (hf7 h), hr8, hr9, (hb7.trans (hb8.mono hb7.size)).trans (hb9.mono (Nat.le_trans hb7.size hb8.size))⟩
theorem m0x (ng : Bool) (p q : Option Addr) (c d : Nat) (num den : Nat) (e : Int) (g : Gd) (way : Int) (w : World) (hp : Rd w .i64 p (dig B16 num)) (hq : Rd w .i64 q (dig B16 den))
 (hl : (dig B16 num).length ≤ 20000) (hl2 : (dig B16 den).length ≤ 20000) (hn : num ≠ 0) (hd : 0 < den) (he : -200000 ≤ e ∧ e ≤ 200000) (G : i1n g) (hw1 : 1 ≤ way) (hw2 : way ≤ 5) :
 Calls Tryz.prog 21 #[.agg #[.bool ng, .slice p (dig B16 num).length c, .slice q (dig B16 den).length d, .int .i64 e], .agg #[.int .i64 g.rad, .int .i64 g.digs, .int .i64 g.lo, .int .i64 g.hi, .bool g.grad], .int .i64 way] w (u0c w (a0m ng num den e g way)) := by
 unfold a0m
 rw [if_neg hn]
 have wp := b0f g
 have hd1 := G.d1
 exact m0w ng p q c d num den e g way _ w hp hq hl hl2 (by omega) hd he G hw1 hw2 (l0y (by omega) hd e (by omega) (by omega))
end Go.Proofs.YtmacohmclpnphaaGreatDoor
namespace Go.Slip
open Go.RowKit
theorem Inv.rdN {E : List Nat} {w0 : World} {A : List Nat} {bx bx' : List Box} {fs fs' : List PF} {W V : World} (I : Inv E w0 A bx fs W) {k : IntKind} {p : Option Addr} {xs : List Nat} (o : Rd W k p xs) (hat : 0 < xs.length → V.heap.size ≤ blk p) (hB : ∀ a, Fa A bx a → Fa A bx' a) (J : Inv E w0 A bx' fs' V) : Inv E w0 A bx (rdF k p xs :: fs) W :=
 I.add (rdF k p xs) o fun a ha hf => by
  have h1 := J.lt a (hB a ha)
  have h2 := hat hf.1
  have h3 := hf.2
  omega
end Go.Slip
namespace Go.Proofs.YtmacohmclpnphaaGreatDoor
open Go.RowKit Go.Slip
structure Wp where
 r : Vr
 p : Option Addr
 c : Nat
def Wp.cells (x : Wp) : List Value := [.int .i64 (x.r.cls : Int), .bool x.r.neg, .bool x.r.x.neg, .slice x.p (dig B16 x.r.x.m).length x.c, .int .i64 x.r.x.e]
theorem Wp.len (x : Wp) : x.cells.length = 5 := rfl
theorem tvV : z0k Tryz.prog 25 32 5 56 := c1y (z := .agg #[.int .i64 0, .bool false, .bool false, .slice none 0 0, .int .i64 0]) (by kernel_rfl) (by kernel_rfl) (by kernel_rfl) (by kernel_rfl) (by kernel_rfl)
theorem x0d : d0h Tryz.prog 3 := c0k (by kernel_rfl) (by kernel_rfl)
theorem x0e (a : Dv) (p : Option Addr) (c base : Nat) (w : World) (hp : Rf w base p c (dig B16 a.m)) :
 Calls Tryz.prog 22 #[.agg #[.bool a.neg, .slice p (dig B16 a.m).length c, .int .i64 a.e]] w fun en w' => ∃ q, en = .returned (.agg #[.bool a.neg, .slice p (dig B16 a.m).length c, .slice q 1 1, .int .i64 a.e]) ∧ Rf w' w.heap.size q 1 (dig B16 1) ∧ Below w.heap.size w w' := by
 have I := Inv.start w [rfF base p c (dig B16 a.m)] ⟨hp, True.intro⟩
 refine a0f [.v (.agg #[.bool a.neg, .slice p (dig B16 a.m).length c, .int .i64 a.e])] I Tryz.func22 ?_
 exact zret I fun Al W I => ⟨some ⟨(lk 0 Al 2), 0, none⟩, rfl, (r0n (I.box 2 3 _)).mono (I.geB 2), I.below⟩
structure TnD (a : Dv) : Prop where
 len : (dig B32 a.m).length ≤ 40
 lo : -38000 ≤ a.e
 hi : a.e ≤ 38000
theorem VrOk.tn {r : Vr} (R : VrOk r) : TnD r.x := ⟨by have := R.len; omega, by have := R.lo; omega, by have := R.hi; omega⟩
theorem TnD.sm {a : Dv} (h : TnD a) : SmD a := ⟨by have := h.len; omega, by have := h.lo; omega, by have := h.hi; omega⟩
def rflF (b : Nat) (xs : List Wp) : PF :=
 ⟨fun w => ∀ x, x ∈ xs → Rf w b x.p x.c (dig B16 x.r.x.m), fun a => ∃ x, x ∈ xs ∧ 0 < (dig B16 x.r.x.m).length ∧ blk x.p = a, fun _ _ h hb _ x hx => ⟨(h x hx).rd.same fun hp => hb _ ((h x hx).rd.lt hp) ⟨x, hx, hp, rfl⟩, (h x hx).cap, (h x hx).at_⟩, fun _ _ h ⟨x, hx, hp, hf⟩ => hf ▸ (h x hx).rd.lt hp⟩
theorem e1v {w : World} {b : Nat} {xs : List Wp} {r : Vr} {p : Option Addr} {c : Nat} (h : ∀ x, x ∈ xs → Rf w b x.p x.c (dig B16 x.r.x.m)) (o : Rf w b p c (dig B16 r.x.m)) : ∀ x, x ∈ xs ++ [⟨r, p, c⟩] → Rf w b x.p x.c (dig B16 x.r.x.m) := fun x hx => by
 rw [List.mem_append, List.mem_singleton] at hx
 rcases hx with hx | rfl
 · exact h x hx
 · exact o
theorem b1u {b a : Nat} {xs : List Wp} {r : Vr} {p : Option Addr} {c : Nat} (h : (rflF b (xs ++ [⟨r, p, c⟩])).foot a) (h1 : ∀ x, (x ∈ xs ∧ 0 < (dig B16 x.r.x.m).length ∧ blk x.p = a) → False) (h2 : 0 < (dig B16 r.x.m).length → blk p = a → False) : False := by
 obtain ⟨x, hx, h3, h4⟩ := h
 rw [List.mem_append, List.mem_singleton] at hx
 rcases hx with hx | rfl
 · exact h1 x ⟨hx, h3, h4⟩
 · exact h2 h3 h4
def i1o (n : Int) (w : World) (L : List ByteArray) (en : Ending) (w' : World) : Prop :=
 ∃ (xs : List Wp) (vs : List Value) (p : Option Addr) (c : Nat), en = .returned (.tuple #[.slice p L.length c, .int .i64 0]) ∧ xs.map (·.r) = L.map (refD n) ∧ vs = xs.flatMap Wp.cells ∧ OwnS w' w.heap.size 32 5 p c L.length vs ∧ (∀ x, x ∈ xs → Rf w' w.heap.size x.p x.c (dig B16 x.r.x.m)) ∧ Below w.heap.size w w'
theorem b1v (n way : Int) (L : List ByteArray) (b m : Nat) (w : World) (hB0 : Bt w b 9 (L.map Value.string).toArray) (hm : m = L.length) (hl : L.length ≤ 1000) (h0 : errR n way L = 0) :
 Calls Tryz.prog 10 #[.int .i64 n, .int .i64 way, .slice (some ⟨b, 0, none⟩) m m] w (i1o n w L) := by
 subst hm
 obtain ⟨hn, hL, hw⟩ := s0a h0
 have HF := fun W => hi0 (j0h n W)
 rw [decide_eq_true hn] at HF
 have HX : ∀ i, i < L.length → ∃ s : ByteArray, L[i]? = some s ∧ a0z n s = 0 ∧ (L.map Value.string).toArray[i]? = some (.string s) ∧ L.take (i + 1) = L.take i ++ [s] := fun i h => ⟨L[i], List.getElem?_eq_getElem h, m0q n hL _ (List.getElem_mem h), by simp [h], by rw [List.take_add_one, List.getElem?_eq_getElem h]; rfl⟩
 have HO := fun s W => hi0 (m0m n s W)
 have HD := fun s W h => hi0 (h0i n s W hn h)
 have hsz := fun s (h : a0z n s = 0) => (d0a.1 h).2
 have HI := fun W => hi0 (stay (k0r way W))
 rw [r0j hw.1 hw.2] at HI
 have hrd : ∀ s, (fmt n).refN (a0s (fmt n) s) = refD n s := fun s => rfl
 simp only [hrd] at HD
 generalize hgs : (fun s => (fmt n).neg (a0s (fmt n) s)) = gs
 have HD2 : ∀ s (W : World), s.size = (fmt n).size → Hid (Calls Tryz.prog 32 #[.int .i64 n, .string s] W (j0j W (refD n s) (gs s))) := by subst hgs; exact HD
 clear hgs HD hrd
 generalize fmt n = f at *
 have I := Inv.start w [btF b 9 (L.map Value.string).toArray] ⟨hB0, True.intro⟩
 refine a0f [.v (.int .i64 n), .v (.int .i64 way), .v (.slice (some ⟨b, 0, none⟩) L.length L.length)] I Tryz.func10 ?_
 refine zq I (fun Al W I => (HF W).out) fun Al W I => ?_
 have I := I.add (k0c w.heap.size 32 5 none 0 0 []) (OwnS.nil _ _ _ _) (fun _ _ h => by cases h.1)
 have I := I.add (rflF w.heap.size []) (fun _ h => by cases h) (fun _ _ ⟨_, h, _⟩ => by cases h)
 refine w0k I (fun gk fr bx gs => ∃ (U900 : Nat → Value) (i : Nat) (p8 : Option Addr) (c8 : Nat) (xs : List Wp) (vs : List Value), fr = (.v (.int .i64 n) :: .v (.int .i64 way) :: .v (.slice (some ⟨b, 0, none⟩) L.length L.length) :: su 3 (sw U900 6 2 (.v (.slice p8 i c8) :: .v (U900 9) :: .v (.bool true) :: .v (.int .i64 (i : Int)) :: sw U900 12 9 (.v (.bool false) :: sw U900 22 30 (.v undef :: .v (U900 53) :: [])))) : List SV) ∧ bx = [⟨62, [.v (.int .i64 (f.size : Int)), .v (.int .i64 (f.E : Int)), .v (.int .i64 (f.F : Int)), .v (.int .i64 f.g.rad), .v (.int .i64 f.g.digs), .v (.int .i64 f.g.lo), .v (.int .i64 f.g.hi), .v (.bool f.g.grad), .v (.int .i64 (f.fam : Int))], false⟩] ∧ gs = [rflF w.heap.size xs, k0c w.heap.size 32 5 p8 c8 i vs, btF b 9 (L.map Value.string).toArray] ∧ (gk + i = L.length) ∧ (vs = xs.flatMap Wp.cells) ∧ (xs.map (·.r) = (L.take i).map (refD n)) ∧ (p8.isSome = true → ¬ (rflF w.heap.size xs).foot (blk p8))) L.length (fun Al W U I => ⟨_, ⟨U, 0, none, 0, [], [], rfl, rfl, rfl, (by omega), rfl, rfl, (fun h => by cases h)⟩, I.pick [0, 1, 2]⟩) ?_
 rintro J gk0 _ _ _ ⟨U900, i, p8, c8, xs, vs, rfl, rfl, rfl, hgk, hvs, hxs, hap⟩ hJ Al W I
 rcases Bool.eq_false_or_eq_true (decide ((i : Int) < (L.length : Int))) with f25 | f25
 · refine zb I 25 (decide ((i : Int) < (L.length : Int))) (true) (f25) fun Al W I => ?_
   obtain ⟨s, hs, hse, hsv, hst⟩ := HX i (by have := oTr f25; omega)
   refine zx I 31 (fun _ => .pointer (some (at_ (some ⟨b, 0, none⟩) i))) (fun Al W I => (h0a (m := i) (n := L.length) (c := L.length) e1n (fun _ => ⟨rfl, rfl⟩) (by have := oTr f25; omega))) fun Al W I => ?_
   refine zx I 32 (fun _ => .string s) (fun Al W I => (p0z I.fa.2.2.1 e1o _ hsv)) fun Al W I => ?_
   refine zq I (fun Al W I => (HO s W).out) fun Al W I => ?_
   refine zb I 35 ((a0z n s) != 0) (false) (bne_eq_false_iff_eq.2 hse) fun Al W I => ?_
   refine zx I 41 (fun _ => .pointer (some (at_ (some ⟨b, 0, none⟩) i))) (fun Al W I => (h0a (m := i) (n := L.length) (c := L.length) e1n (fun _ => ⟨rfl, rfl⟩) (by have := oTr f25; omega))) fun Al W I => ?_
   refine zx I 42 (fun _ => .string s) (fun Al W I => (p0z I.fa.2.2.1 e1o _ hsv)) fun Al W I => ?_
   refine zg I (fun Al W I => (HD2 s W (hsz s hse)).out) fun Al V Iv _ hB _ kz => ?_
   rintro _ W ⟨p43, c43, rfl, o43, hb⟩
   have n43 : p8.isSome = true → ¬ (0 < (dig B16 (refD n s).x.m).length ∧ blk p43 = blk p8) := fun hp h => by have h1 := o43.at_ h.1; have h2 := (Iv.fa.2.1.blk_lt hp).2; omega
   refine ⟨_, rfl, kz _ _ hb fun I => ?_⟩
   have I := I.rf o43 (hB _) Iv
   have I := I.pick [2, 0, 1, 3]
   refine zap I tvV 2 1 (fun Al => [.int .i64 (((refD n s).cls : Nat) : Int), .bool ((refD n s).neg), .bool ((refD n s).x.neg), .slice p43 (dig B16 (refD n s).x.m).length c43, .int .i64 ((refD n s).x.e)]) (fun Al W I => I.box 2 32 _) (by omega) (fun Al W I hp => ⟨n43 hp, hap hp, fun e => I.fa.1.far I.fa.2.2.2.1 (by kernel_rfl) hp (Eq.symm e), True.intro⟩) fun Al W p49 c49 hq_49 I => ?_
   have I := I.add (rflF w.heap.size (xs ++ [(⟨refD n s, p43, c43⟩ : Wp)])) (e1v I.fa.2.2.1 I.fa.2.1) (fun a ha h => b1u h ((fun a ha h0 e => (I.far a ha).2.2.1 ⟨h0, e⟩) a ha) ((fun a ha h0 e => (I.far a ha).2.1 ⟨h0, e⟩) a ha))
   refine zi I 27 .i64 ((i : Int) + 1) (((i + 1 : Nat) : Int)) ((by rw [show ((i : Int) + 1) = ((i + 1 : Nat) : Int) by omega]; exact IntWalk.i64_in _ (by have := oTr f25; omega))) fun Al W I => ?_
   exact f1n 1 I J fun Al W U I => hJ (gk0 - 1) _ _ _ _ _ ((by have := oTr f25; omega)) ⟨U, i + 1, p49, c49, xs ++ [(⟨refD n s, p43, c43⟩ : Wp)], _, rfl, rfl, rfl, (by have := oTr f25; omega), (by rw [hvs, List.flatMap_append]; rfl), (by rw [hst, List.map_append, List.map_append, hxs]; rfl), (fun hp h => b1u h (fun x hx => (hq_49 hp).2.1 ⟨x, hx⟩) (fun h1 h2 => (hq_49 hp).1 ⟨h1, h2⟩))⟩ (I.pick [0, 1, 4])
 refine zb I 25 (decide ((i : Int) < (L.length : Int))) (false) (f25) fun Al W I => ?_
 refine zq I (fun Al W I => (HI W).out) fun Al W I => ?_
 have hi : i = L.length := by have := oFa f25; omega
 exact zret I (v := fun Al => .tuple #[.slice p8 i c8, .int .i64 0]) fun Al W I => ⟨xs, vs, p8, c8, by rw [hi], by rw [hxs, hi, List.take_length], hvs, hi ▸ I.fa.2.1, I.fa.1, I.below⟩
theorem x0f (n way : Int) (L : List ByteArray) (b m : Nat) (w : World) (hB0 : Bt w b 9 (L.map Value.string).toArray) (hm : m = L.length) (hl : L.length ≤ 1000) (h0 : errR n way L ≠ 0) :
 Calls Tryz.prog 10 #[.int .i64 n, .int .i64 way, .slice (some ⟨b, 0, none⟩) m m] w fun en w' => en = .returned (.tuple #[.slice none 0 0, .int .i64 (errR n way L)]) ∧ Below w.heap.size w w' := by
 subst hm
 have HF := fun W => hi0 (j0h n W)
 by_cases hn : IsFm n
 · rw [decide_eq_true hn] at HF
   have hE : errR n way L = if errL n L = 0 then (if 1 ≤ way ∧ way ≤ 5 then 0 else 6) else errL n L := by unfold errR; rw [if_pos hn]
   have HO := fun s W => hi0 (m0m n s W)
   have HD := fun s W h => hi0 (h0i n s W hn h)
   have hsz := fun s (h : a0z n s = 0) => (d0a.1 h).2
   have HI := fun W => hi0 (stay (k0r way W))
   generalize hgs : (fun s => (fmt n).neg (a0s (fmt n) s)) = gs
   have HD2 : ∀ s (W : World), s.size = (fmt n).size → Hid (Calls Tryz.prog 32 #[.int .i64 n, .string s] W (j0j W (refD n s) (gs s))) := by subst hgs; exact HD
   clear hgs HD
   have HX : ∀ i, i < L.length → ∃ s : ByteArray, L[i]? = some s ∧ (L.map Value.string).toArray[i]? = some (.string s) := fun i h => ⟨L[i], List.getElem?_eq_getElem h, by simp [h]⟩
   have HJ : errL n L ≠ 0 → ∃ (j : Nat) (s : ByteArray), L[j]? = some s ∧ errL n L = a0z n s ∧ a0z n s ≠ 0 ∧ ∀ i t, i < j → L[i]? = some t → a0z n t = 0 := b1p n L
   have HZ : errL n L = 0 → ∀ (i : Nat) (t : ByteArray), L[i]? = some t → a0z n t = 0 := fun h i t ht => m0q n h t (by obtain ⟨h1, h2⟩ := List.getElem?_eq_some_iff.1 ht; rw [← h2]; exact List.getElem_mem h1)
   -- where the first fault is, or behind all
   obtain ⟨j, hjl, hj1, hj2⟩ : ∃ j, j ≤ L.length ∧ (∀ (i : Nat) (t : ByteArray), i < j → L[i]? = some t → a0z n t = 0) ∧ (∀ (s : ByteArray), L[j]? = some s → a0z n s ≠ 0 ∧ errR n way L = a0z n s) := by
    by_cases hL : errL n L = 0
    · exact ⟨L.length, Nat.le_refl _, fun i t _ ht => HZ hL i t ht, fun s hs => by simp at hs⟩
    · obtain ⟨j, s, h1, h2, h3, h4⟩ := HJ hL
      refine ⟨j, by have := (List.getElem?_eq_some_iff.1 h1).1; omega, h4, fun t ht => ?_⟩
      rw [h1] at ht
      cases ht
      exact ⟨h3, by rw [hE, if_neg hL, h2]⟩
   have hend : j = L.length → wayB way = false ∧ errR n way L = 6 := fun h => by
    have hL : errL n L = 0 := by
     by_cases hL : errL n L = 0
     · exact hL
     · obtain ⟨j', s, h1, h2, h3, h4⟩ := HJ hL
       have := (List.getElem?_eq_some_iff.1 h1).1
       exact absurd (hj1 j' s (by omega) h1) h3
    rw [hE, if_pos hL] at h0 ⊢
    have hw : ¬ (1 ≤ way ∧ way ≤ 5) := fun k => h0 (if_pos k)
    exact ⟨k0j (by omega), if_neg hw⟩
   generalize errR n way L = er at *
   generalize fmt n = f at *
   clear HJ HZ hE
   have I := Inv.start w [btF b 9 (L.map Value.string).toArray] ⟨hB0, True.intro⟩
   refine a0f [.v (.int .i64 n), .v (.int .i64 way), .v (.slice (some ⟨b, 0, none⟩) L.length L.length)] I Tryz.func10 ?_
   refine zq I (fun Al W I => (HF W).out) fun Al W I => ?_
   have I := I.add (k0c w.heap.size 32 5 none 0 0 []) (OwnS.nil _ _ _ _) (fun _ _ h => by cases h.1)
   refine w0k I (fun gk fr bx gs => ∃ (U900 : Nat → Value) (i : Nat) (p8 : Option Addr) (c8 : Nat) (vs : List Value), fr = (.v (.int .i64 n) :: .v (.int .i64 way) :: .v (.slice (some ⟨b, 0, none⟩) L.length L.length) :: su 3 (sw U900 6 2 (.v (.slice p8 i c8) :: .v (U900 9) :: .v (.bool true) :: .v (.int .i64 (i : Int)) :: sw U900 12 9 (.v (.bool false) :: sw U900 22 30 (.v undef :: .v (U900 53) :: [])))) : List SV) ∧ bx = [⟨62, [.v (.int .i64 (f.size : Int)), .v (.int .i64 (f.E : Int)), .v (.int .i64 (f.F : Int)), .v (.int .i64 f.g.rad), .v (.int .i64 f.g.digs), .v (.int .i64 f.g.lo), .v (.int .i64 f.g.hi), .v (.bool f.g.grad), .v (.int .i64 (f.fam : Int))], false⟩] ∧ gs = [k0c w.heap.size 32 5 p8 c8 i vs, btF b 9 (L.map Value.string).toArray] ∧ (gk + i = L.length) ∧ (i ≤ j)) L.length (fun Al W U I => ⟨_, ⟨U, 0, none, 0, [], rfl, rfl, rfl, (by omega), (by omega)⟩, I.pick [0, 1]⟩) ?_
   rintro J gk0 _ _ _ ⟨U900, i, p8, c8, vs, rfl, rfl, rfl, hgk, hij⟩ hJ Al W I
   rcases Bool.eq_false_or_eq_true (decide ((i : Int) < (L.length : Int))) with f25 | f25
   · refine zb I 25 (decide ((i : Int) < (L.length : Int))) (true) (f25) fun Al W I => ?_
     obtain ⟨s, hs, hsv⟩ := HX i (by have := oTr f25; omega)
     refine zx I 31 (fun _ => .pointer (some (at_ (some ⟨b, 0, none⟩) i))) (fun Al W I => (h0a (m := i) (n := L.length) (c := L.length) e1n (fun _ => ⟨rfl, rfl⟩) (by have := oTr f25; omega))) fun Al W I => ?_
     refine zx I 32 (fun _ => .string s) (fun Al W I => (p0z I.fa.2.1 e1o _ hsv)) fun Al W I => ?_
     refine zq I (fun Al W I => (HO s W).out) fun Al W I => ?_
     by_cases hij2 : i = j
     · refine zb I 35 ((a0z n s) != 0) (true) (bne_iff_ne.2 (by subst hij2; exact (hj2 s hs).1)) fun Al W I => ?_
       exact zret I (v := fun Al => .tuple #[.slice none 0 0, .int .i64 (a0z n s)]) fun Al W I => ⟨by rw [(hj2 s (hij2 ▸ hs)).2], I.below⟩
     refine zb I 35 ((a0z n s) != 0) (false) (bne_eq_false_iff_eq.2 (hj1 i s (by omega) hs)) fun Al W I => ?_
     refine zx I 41 (fun _ => .pointer (some (at_ (some ⟨b, 0, none⟩) i))) (fun Al W I => (h0a (m := i) (n := L.length) (c := L.length) e1n (fun _ => ⟨rfl, rfl⟩) (by have := oTr f25; omega))) fun Al W I => ?_
     refine zx I 42 (fun _ => .string s) (fun Al W I => (p0z I.fa.2.1 e1o _ hsv)) fun Al W I => ?_
     refine zg I (fun Al W I => have hzW := I.bel.size; (HD2 s W (hsz s (hj1 i s (by omega) hs))).out) fun Al V Iv _ hB _ kz => ?_
     rintro _ W ⟨p43, c43, rfl, -, hb⟩
     refine ⟨_, rfl, kz _ _ hb fun I => ?_⟩
     refine zap I tvV 2 1 (fun Al => [.int .i64 (((refD n s).cls : Nat) : Int), .bool ((refD n s).neg), .bool ((refD n s).x.neg), .slice p43 (dig B16 (refD n s).x.m).length c43, .int .i64 ((refD n s).x.e)]) (fun Al W I => I.box 2 32 _) (by omega) (fun Al W I hp => ⟨fun e => I.fa.1.far I.fa.2.1 (by kernel_rfl) hp (Eq.symm e), True.intro⟩) fun Al W p49 c49 hq_49 I => ?_
     refine zi I 27 .i64 ((i : Int) + 1) (((i + 1 : Nat) : Int)) ((by rw [show ((i : Int) + 1) = ((i + 1 : Nat) : Int) by omega]; exact IntWalk.i64_in _ (by have := oTr f25; omega))) fun Al W I => ?_
     exact f1n 1 I J fun Al W U I => hJ (gk0 - 1) _ _ _ _ _ ((by have := oTr f25; omega)) ⟨U, i + 1, p49, c49, _, rfl, rfl, rfl, (by have := oTr f25; omega), (by omega)⟩ (I.pick [0, 1])
   refine zb I 25 (decide ((i : Int) < (L.length : Int))) (false) (f25) fun Al W I => ?_
   refine zqd I (fun Al W I => (HI W).out) (show (wayB way) = false from (hend (by have := oFa f25; omega)).1) fun Al W I => ?_
   exact zret I (v := fun Al => .tuple #[.slice none 0 0, .int .i64 6]) fun Al W I => ⟨by rw [(hend (by have := oFa f25; omega)).2], I.below⟩
 · rw [decide_eq_false hn] at HF
   have hE : errR n way L = 6 := by unfold errR; rw [if_neg hn]
   rw [hE]
   generalize fmt n = f at *
   have I := Inv.start w [] True.intro
   refine a0f [.v (.int .i64 n), .v (.int .i64 way), .v (.slice (some ⟨b, 0, none⟩) L.length L.length)] I Tryz.func10 ?_
   refine zq I (fun Al W I => (HF W).out) fun Al W I => ?_
   exact zrb I
structure ElF (w : World) (g o : Nat) (a : Rw) : Prop where
 c0 : w.cell? ⟨g, o, none⟩ = some (.bool a.g)
 c1 : w.cell? ⟨g, o + 1, none⟩ = some (.slice a.p (dig B16 a.m).length a.c)
 c2 : w.cell? ⟨g, o + 2, none⟩ = some (.int .i64 a.e)
 lt : g < w.heap.size
theorem ElF.e3 {w : World} {g o : Nat} {a : Rw} (h : ElF w g o a) : w.cell? ⟨g, o, none⟩ = some (.bool a.g) ∧ w.cell? ⟨g, o + 1, none⟩ = some (.slice a.p (dig B16 a.m).length a.c) ∧ w.cell? ⟨g, o + 2, none⟩ = some (.int .i64 a.e) := ⟨h.c0, h.c1, h.c2⟩
theorem ElF.below {w w' : World} {B g o : Nat} {a : Rw} (h : ElF w g o a) (hb : Below B w w') (hB : g < B) : ElF w' g o a :=
 ⟨by rw [Below.cell hb hB]; exact h.c0, by rw [Below.cell hb hB]; exact h.c1, by rw [Below.cell hb hB]; exact h.c2, Nat.lt_of_lt_of_le h.lt hb.size⟩
theorem ElF.past {w w' : World} {g o : Nat} {a : Rw} (h : ElF w g o a) (hb : Below w.heap.size w w') : ElF w' g o a := h.below hb h.lt
theorem ElF.drew {w : World} {g o : Nat} {a : Rw} (h : ElF w g o a) : ElF w.drew g o a := ⟨h.c0, h.c1, h.c2, h.lt⟩
theorem ElF.laid {w : World} {g o : Nat} {a : Rw} (h : ElF w g o a) (ob : Obj) : ElF (w.alloc ob) g o a := h.past (b0n _ _)
theorem ElF.set {w : World} {g o k i : Nat} {a : Rw} {v : Value} (h : ElF w g o a) (hne : g < k) : ElF (w.setCell ⟨k, i, none⟩ v) g o a :=
 h.below ((Below.refl k w).setCell (p := ⟨k, i, none⟩) (Nat.le_refl _) v) hne
theorem l1a {a : Dv} {e : Int} (h : zOf a e = 0) : a.m = 0 := by
 unfold zOf sg at h
 have hp : 0 < 2 ^ (a.e - e).toNat := Nat.pow_pos (by omega)
 rcases Nat.eq_zero_or_pos a.m with k | k
 · exact k
 · have hq := Nat.mul_pos k hp
   have hz : (a.m : Int) * 2 ^ (a.e - e).toNat ≠ 0 := by
    have : (((a.m * 2 ^ (a.e - e).toNat : Nat)) : Int) ≠ 0 := by omega
    simpa using this
   split at h <;> first | exact absurd h hz | (exfalso; apply hz; simpa using h)
end Go.Proofs.YtmacohmclpnphaaGreatDoor
namespace Go.Slip
end Go.Slip
namespace Go.Proofs.YtmacohmclpnphaaGreatDoor
open Go.RowKit Go.Slip
/-! ### The number 1 -/
theorem x0g (x : Dv) : (d0l x (b0h x)).m = 0 := by
 have := y0j x (b0h x) (e := min x.e 0) (by omega) (show min x.e 0 ≤ x.e by omega)
 rw [n0p, Int.add_right_neg] at this
 exact l1a this
theorem sub_self {f : Fm} {r : Vr} (hc : r.cls ≤ 2) (way : Int) : ∃ g, f.addM r r.opp way = (f.zeroM g, 0) := by
 have ho : r.opp = ⟨r.cls, !r.neg, b0h r.x⟩ := by unfold Vr.opp; rw [if_pos (by omega)]
 rw [ho]
 unfold Fm.addM
 rw [if_neg (by simp only; omega), if_neg (by simp only; omega)]
 unfold Fm.sumM
 rw [if_neg (by rw [x0g]; simp)]
 split
 · exact ⟨_, rfl⟩
 · exact ⟨_, rfl⟩
def d0g (a K e f k : Nat) : Prop := e + f * k = K ∧ (1 ≤ k → 1 ≤ f) ∧ a = a
theorem d0g.start (a K : Nat) : d0g a K 0 1 K := ⟨by omega, fun _ => by omega, rfl⟩
theorem d0g.odd {a K e f k : Nat} (h : d0g a K e f k) (h1 : k % 2 = 1) : d0g a K (e + f) (f + f) (k / 2) := by
 refine ⟨?_, fun _ => by have := h.2.1; omega, rfl⟩
 have h2 := h.1
 obtain ⟨u, rfl⟩ : ∃ u, k = 2 * u + 1 := ⟨k / 2, by omega⟩
 rw [show (2 * u + 1) / 2 = u by omega]
 grind
theorem d0g.last {a K e f : Nat} (h : d0g a K e f 1) : d0g a K (e + f) f 0 := ⟨by have := h.1; omega, fun h => by omega, rfl⟩
theorem d0g.one {a K e f k : Nat} (h : d0g a K e f k) (h1 : k = 1) : d0g a K (e + f) f (k / 2) := by subst h1; exact h.last
theorem d0g.even {a K e f k : Nat} (h : d0g a K e f k) (h0 : 0 < k) (h1 : k % 2 = 0) : d0g a K e (f + f) (k / 2) := by
 refine ⟨?_, fun _ => by have := h.2.1; omega, rfl⟩
 have h2 := h.1
 obtain ⟨u, rfl⟩ : ∃ u, k = 2 * u := ⟨k / 2, by omega⟩
 rw [show (2 * u) / 2 = u by omega]
 grind
theorem d0g.le {a K e f k : Nat} (h : d0g a K e f k) (h0 : 0 < k) : e + f ≤ K := by
 have h2 := h.1
 have : f * 1 ≤ f * k := Nat.mul_le_mul_left _ h0
 omega
theorem d0g.le2 {a K e f k : Nat} (h : d0g a K e f k) : e ≤ K := by have := h.1; omega
theorem d0g.done {a K e f : Nat} (h : d0g a K e f 0) : e = K := by have := h.1; omega
theorem l1b {n : Int} {xs : List Wp} {s : ByteArray} (h : xs.map (·.r) = [s].map (refD n)) : ∃ p1 c1, xs = [⟨refD n s, p1, c1⟩] := by
 cases xs with
 | nil => simp at h
 | cons x l =>
  cases l with
  | nil => simp only [List.map_cons, List.map_nil, List.cons.injEq, and_true] at h; rw [← h]; exact ⟨x.p, x.c, rfl⟩
  | cons _ _ => simp at h
def i1p (w : World) (r : Vr) (en : Ending) (w' : World) : Prop :=
 ∃ p1 c1 p c, en = .returned (.tuple #[.slice p 1 c, .int .i64 0]) ∧ OwnS w' w.heap.size 32 5 p c 1 ((⟨r, p1, c1⟩ : Wp).cells) ∧ Rf w' w.heap.size p1 c1 (dig B16 r.x.m) ∧ Below w.heap.size w w'
theorem x0h (n way : Int) (s : ByteArray) (b : Nat) (w : World) (hB0 : Bt w b 9 #[.string s]) (h0 : errR n way [s] = 0) :
 Calls Tryz.prog 10 #[.int .i64 n, .int .i64 way, .slice (some ⟨b, 0, none⟩) 1 1] w (i1p w (refD n s)) := by
 refine (b1v n way [s] b 1 w hB0 rfl (by simp) h0).mono fun en w' hh => ?_
 obtain ⟨xs, vs, p, c, h1, h2, h3, h4, h5, h6⟩ := hh
 obtain ⟨p1, c1, rfl⟩ := l1b h2
 subst h3
 exact ⟨p1, c1, p, c, h1, h4, h5 ⟨refD n s, p1, c1⟩ (by simp), h6⟩
theorem n0g (n way : Int) (s : ByteArray) (b : Nat) (w : World) (hB0 : Bt w b 9 #[.string s]) (h0 : errR n way [s] ≠ 0) :
 Calls Tryz.prog 10 #[.int .i64 n, .int .i64 way, .slice (some ⟨b, 0, none⟩) 1 1] w fun en w' => en = .returned (.tuple #[.slice none 0 0, .int .i64 (errR n way [s])]) ∧ Below w.heap.size w w' :=
 x0f n way [s] b 1 w hB0 rfl (by simp) h0
end Go.Proofs.YtmacohmclpnphaaGreatDoor
namespace Go.Slip
open Go.RowKit Go.Slip
section
variable {P : Program} {Q : Exit → Act → World → Prop} {E : List Nat} {w0 : World} {A : List Nat} {fs : List PF} {W : World} {c : Cfg}
theorem i1q (I : Inv E w0 A c.bx fs W) {f : FuncId} {args : Array Value} (sv : SV) (hc : Calls P f args W fun e w' => e = .returned (sv.r A) ∧ Below W.heap.size W w')
 (h : ∀ W', Inv E w0 A (putc c sv).bx fs W' → G P Q A (putc c sv) W')
 (ho : i0f P c A W = some (.ok (.enter f args) W)) (hm : ok1 c.rg c.bx = ok2 c.rg) : G P Q A c W := by
 unfold i0f at ho
 split at ho
 · rename_i o hn
   split at ho
   · rename_i hw
     refine G_op (E := E) (w0 := w0) (fs := fs) hn fun K hK => g0x o.dst rfl f args (by rw [f0x]; exact hw) (by rw [b0x]; exact Option.some.inj ho) (hc.mono fun e W' hp => ?_)
     obtain ⟨rfl, hb⟩ := hp
     refine ⟨_, rfl, ?_⟩
     have := h W' (I.past hb)
     unfold putc at this
     rw [hn] at this
     have := hK A W' _ c.bx (List.prefix_refl _) (I.past hb) hm this
     rw [← d0j] at this
     exact this
   · cases ho
 · cases ho
theorem zqs (I : Inv E w0 A c.bx fs W) (sv : SV) {f : FuncId} {args : List Nat → World → Array Value}
 (hc : ∀ A W, Inv E w0 A (zr P none c).bx fs W → Calls P f (args A W) W fun e w' => e = .returned (sv.r A) ∧ Below W.heap.size W w')
 (h : ∀ A W, Inv E w0 A (putc (zr P none c) sv).bx fs W → G P Q A (putc (zr P none c) sv) W)
 (ho : ∀ A w, i0f P (zr P none c) A w = some (.ok (.enter f (args A w)) w) := by intro _ _; kernel_rfl)
 (hr : ∀ A w, (zms P none 5000 c A w).map (·.1) = (zms P none 5000 c A w).map (·.2) := by intro _ _; kernel_rfl)
 (hm : ok1 (zr P none c).rg (zr P none c).bx = ok2 (zr P none c).rg := by kernel_rfl) : G P Q A c W :=
 b0u I hr fun A V I => i1q I sv (hc A V I) (fun W' I => h A W' I) (ho A V) hm
end
end Go.Slip
namespace Go.Proofs.YtmacohmclpnphaaGreatDoor
open Go.RowKit Go.Slip
theorem l1c : g0l Tryz.prog 28 3 (.int .i64 0) 8 := tyV (by kernel_rfl) (by kernel_rfl) (by omega) rfl rfl
theorem e1w : i1n k0n := ⟨.inl rfl, by decide, by decide, by decide, by decide, by decide, by decide, by decide⟩
theorem m0y (b : Dv) (q : Option Addr) (c : Nat) (w : World) :
 Calls Tryz.prog 24 #[.agg #[.bool b.neg, .slice q (dig B16 b.m).length c, .int .i64 b.e]] w fun en w' => en = .returned (.agg #[.bool (b0h b).neg, .slice q (dig B16 b.m).length c, .int .i64 b.e]) ∧ Below w.heap.size w w' := by
 have hz := a0d a0b b.m
 have hm : (b0h b).neg = (!b.neg && decide (0 < b.m)) := rfl
 rw [hm]
 generalize (dig B16 b.m).length = L at *
 obtain ⟨ng, m, e⟩ := b
 simp only at hz ⊢
 cases ng
 · by_cases h0 : m = 0
   · have hL := hz.2 h0
     rw [decide_eq_false (by omega)]
     have I := Inv.start w [] True.intro
     refine a0f [.v (.agg #[.bool false, .slice q L c, .int .i64 e])] I Tryz.func24 ?_
     refine zb I 10 (decide ((L : Int) > 0)) (false) (dFa (by omega)) fun Al W I => ?_
     exact zrb I
   · have hL : L ≠ 0 := fun h => h0 (hz.1 h)
     rw [decide_eq_true (by omega)]
     have I := Inv.start w [] True.intro
     refine a0f [.v (.agg #[.bool false, .slice q L c, .int .i64 e])] I Tryz.func24 ?_
     refine zb I 10 (decide ((L : Int) > 0)) (true) (dTr (by omega)) fun Al W I => ?_
     exact zrb I
 · have I := Inv.start w [] True.intro
   refine a0f [.v (.agg #[.bool true, .slice q L c, .int .i64 e])] I Tryz.func24 ?_
   exact zrb I
theorem v0r (a b : Dv) (p q : Option Addr) (c c' : Nat) (w : World) (hp : Rd w .i64 p (dig B16 a.m)) (hq : Rd w .i64 q (dig B16 b.m)) (fa : FitR a) (fb : FitR b) :
 Calls Tryz.prog 26 #[.agg #[.bool a.neg, .slice p (dig B16 a.m).length c, .int .i64 a.e], .agg #[.bool b.neg, .slice q (dig B16 b.m).length c', .int .i64 b.e]] w fun en w' => en = .returned (.int .i64 (rCmp a b)) ∧ Below w.heap.size w w' := by
 have HM := fun W => hi0 (m0y b q c' W)
 have HP := fun W h1 h2 => hi0 (f1v a (b0h b) (d0l a (b0h b)) p q c c' W h1 h2 fa ⟨fb.len, fb.lo, fb.hi⟩ rfl)
 have hc := w0t a b
 rw [show (b0h b).m = b.m from rfl, show (b0h b).e = b.e from rfl] at HP
 have hz := a0d a0b (d0l a (b0h b)).m
 generalize d0l a (b0h b) = s at *
 generalize rCmp a b = r at *
 generalize (b0h b).neg = ng at *
 have I := Inv.start w [rdF .i64 p (dig B16 a.m), rdF .i64 q (dig B16 b.m)] ⟨hp, hq, True.intro⟩
 refine a0f [.v (.agg #[.bool a.neg, .slice p (dig B16 a.m).length c, .int .i64 a.e]), .v (.agg #[.bool b.neg, .slice q (dig B16 b.m).length c', .int .i64 b.e])] I Tryz.func26 ?_
 refine zcut I none (fun fr bx gs => ∃ (U1 : Nat → Value) (p9 : Option Addr) (c9 : Nat), fr = (.v (.agg #[.bool a.neg, .slice p (dig B16 a.m).length c, .int .i64 a.e]) :: .v (.agg #[.bool b.neg, .slice q (dig B16 b.m).length c', .int .i64 b.e]) :: .p 0 0 :: .p 1 0 :: .v (.int .i64 0) :: .p 2 0 :: sw U1 6 7 (.v undef :: .v (U1 14) :: .v undef :: []) : List SV) ∧ bx = [⟨30, [.v (.bool a.neg), .v (.slice p (dig B16 a.m).length c), .v (.int .i64 a.e)], false⟩, ⟨30, [.v (.bool b.neg), .v (.slice q (dig B16 b.m).length c'), .v (.int .i64 b.e)], false⟩, ⟨30, [.v (.bool s.neg), .v (.slice p9 (dig B16 s.m).length c9), .v (.int .i64 s.e)], false⟩] ∧ gs = [rfF w.heap.size p9 c9 (dig B16 s.m), rdF .i64 p (dig B16 a.m), rdF .i64 q (dig B16 b.m)]) ?_ ?_
 · intro J hJ Al W I
   refine zd [] I fun Al W I => ?_
   refine zk [0, 1] I fun I => ?_
   refine zo2 2 4 I (fun I => ?_) (fun I => ?_)
   · refine zq I (fun Al W I => (HM W).out) fun Al W I => ?_
     refine zo2 3 4 I (fun I => ?_) (fun I => ?_)
     · refine zqr I (fun Al W I => (HP W I.fa.1 I.fa.2.1).out) fun Al W p9 c9 I => ?_
       refine zo 4 I fun I => ?_
       refine zn I fun Al W I => ?_
       refine zo 5 I fun I => ?_
       refine zn I fun Al W I => ?_
       exact b0d I J fun Al W U I => hJ _ _ _ _ _ ⟨U, p9, c9, rfl, rfl, rfl⟩ (I.pick [0, 1, 2])
     refine zn I fun Al W I => ?_
     refine zo 3 I fun I => ?_
     refine zqr I (fun Al W I => (HP W I.fa.1 I.fa.2.1).out) fun Al W p9 c9 I => ?_
     refine zo 5 I fun I => ?_
     refine zn I fun Al W I => ?_
     exact b0d I J fun Al W U I => hJ _ _ _ _ _ ⟨U, p9, c9, rfl, rfl, rfl⟩ (I.pick [0, 1, 2])
   refine zn I fun Al W I => ?_
   refine zo 2 I fun I => ?_
   refine zq I (fun Al W I => (HM W).out) fun Al W I => ?_
   refine zo 3 I fun I => ?_
   refine zqr I (fun Al W I => (HP W I.fa.1 I.fa.2.1).out) fun Al W p9 c9 I => ?_
   refine zo 5 I fun I => ?_
   refine zn I fun Al W I => ?_
   exact b0d I J fun Al W U I => hJ _ _ _ _ _ ⟨U, p9, c9, rfl, rfl, rfl⟩ (I.pick [0, 1, 2])
 rintro _ _ _ ⟨U1, p9, c9, rfl, rfl, rfl⟩ Al W I
 by_cases h0 : s.m = 0
 · refine zb I 13 ((((dig B16 s.m).length : Nat) : Int) == 0) (true) (beq_iff_eq.2 (by have := hz.2 h0; omega)) fun Al W I => ?_
   refine zret I (v := fun Al => .int .i64 0) fun Al W I => ?_
   first | exact ⟨by rw [hc, if_pos h0], I.below⟩ | exact ⟨by rw [hc, if_neg h0, f15]; rfl, I.below⟩
 refine zb I 13 ((((dig B16 s.m).length : Nat) : Int) == 0) (false) (bFn (by have := fun k => h0 (hz.1 k); omega)) fun Al W I => ?_
 rcases Bool.eq_false_or_eq_true (s.neg) with f15 | f15
 · refine zb I 15 (s.neg) (true) (f15) fun Al W I => ?_
   refine zret I (v := fun Al => .int .i64 (-1)) fun Al W I => ?_
   first | exact ⟨by rw [hc, if_pos h0], I.below⟩ | exact ⟨by rw [hc, if_neg h0, f15]; rfl, I.below⟩
 refine zb I 15 (s.neg) (false) (f15) fun Al W I => ?_
 refine zret I (v := fun Al => .int .i64 1) fun Al W I => ?_
 first | exact ⟨by rw [hc, if_pos h0], I.below⟩ | exact ⟨by rw [hc, if_neg h0, f15]; rfl, I.below⟩
theorem x0i (p : Option Addr) (c : Nat) (d : Nat) (w : World) (hp : Rd w .i64 p (dig B16 d)) (hl : (dig B16 d).length ≤ 100000000) :
 Calls Tryz.prog 27 #[.agg #[.bool false, .slice p (dig B16 d).length c, .int .i64 0]] w (GRf w (dig B16 d)) := by
 have HU := fun W h => hi0 (rup p _ c d 0 d 0 W h rfl hl (by omega) rfl (by rw [Nat.pow_zero, Nat.mul_one]))
 have I := Inv.start w [rdF .i64 p (dig B16 d)] ⟨hp, True.intro⟩
 refine a0f [.v (.agg #[.bool false, .slice p (dig B16 d).length c, .int .i64 0])] I Tryz.func27 ?_
 refine zqr I (fun Al W I => (HU W I.fa.1).out) fun Al W p10 c10 I => ?_
 exact zret I fun Al W I => ⟨p10, c10, rfl, I.fa.1, I.below⟩
theorem s0d {P : Program} {w : World} {ty : TypeId} {base : Nat} {e : TypeId} {s : Nat} {p : Option Addr} {c n : Nat} {vs : List Value} (hr : OwnS w base e s p c n vs) (hT : d0h P ty) {m : Nat} {v : Value} (hv : vs[m]? = some v) : (VO.ld ty (.pointer (some (at_ p m)))).sem.run P w = .ok v w := by
 show (Instr.loadAt _ _).run P w = _
 have hl : (load (at_ p m)).run P w = .ok v w := by
  have := hr.cell hv
  simp [go_sem, this]
 simp only [Instr.loadAt, Instr.sureAddr, Sem.run_bind, Sem.run_pure, Result.andThen_ok, loadVar, c0q hT]
 simpa using hl
theorem l1d {P : Program} {w : World} {t : TypeId} {e : TypeId} {z : Value} {bytes : Nat} (hty : g0l P t e z bytes) {p : Option Addr} {n c m : Nat} {i : Int} (hi : i = (m : Int)) (hp : g0r p n) (hm : m < n) : (VO.ix t (.slice p n c) (.int .i64 i)).sem.run P w = .ok (.pointer (some (at_ p m))) w := by
 subst hi; exact h0a hty hp hm
theorem agD : e0h Tryz.prog 30 3 := c0j (by kernel_rfl) (by kernel_rfl)
theorem e1x {d j : Nat} (h : 1 ≤ j) : 65536 * (d / B16 ^ j) + dg (dig B16 d) (j - 1) = d / B16 ^ (j - 1) := by
 rw [o0d a0b]
 obtain ⟨k, rfl⟩ : ∃ k, j = k + 1 := ⟨j - 1, by omega⟩
 rw [Nat.add_sub_cancel, Nat.pow_succ, ← Nat.div_div_eq_div_mul]
 exact Nat.div_add_mod _ B16
theorem b1w (n way : Int) (s : ByteArray) (w : World) (h0 : errR n way [s] = 0) (hT : TabW w) : Calls Tryz.prog 6 #[.int .i64 n, .string s, .int .i64 way] w fun en w' => en = .returned (.bool true) ∧ Below w.heap.size w w' := by
 have HB0 := fun W h => hi0 (j0l W h)
 have HA := fun W h => hi0 (m0s n way s W h)
 obtain ⟨hn, hL, hw⟩ := s0a h0
 have HO := fun W b h => hi0 (x0h n way s b W h h0)
 have A1 := (b1q (s := s) hn).ok
 unfold s0c at HA
 simp only [h0, if_true] at HA
 have hc := A1.c
 have hx2 := A1.x2
 have hl := A1.len
 have hlo := A1.lo
 have hhi := A1.hi
 have hTI : m0r (refD n s) way = if (refD n s).cls = 1 then (0, 0) else if (refD n s).cls ≠ 2 then (0, 16) else j0k (refD n s).x way := rfl
 generalize m0r (refD n s) way = TI at *
 generalize refD n s = r at *
 clear hL h0 A1 hn
 by_cases h1 : r.cls = 1
 · rw [if_pos h1] at hTI
   rw [hTI] at HA
   clear hTI hx2
   have I := Inv.start w [tabF] ⟨hT, True.intro⟩
   refine a0f [.v (.int .i64 n), .v (.string s), .v (.int .i64 way)] I Tryz.func6 ?_
   refine zq I (fun Al W I => (HA W I.fa.1).out) fun Al W I => ?_
   refine zg I (fun Al W I => (HO W _ (I.box 0 9 _)).out) fun Al V Iv _ hB _ kz => ?_
   rintro _ W ⟨p1, c1, p, c, rfl, oS, o1, hb⟩
   refine ⟨_, rfl, kz _ _ hb fun I => ?_⟩
   have I := I.owns oS
   have I := I.rf o1 (hB _) Iv
   refine zx I 38 (fun _ => .pointer (some (at_ p (0 * 5)))) (fun Al W I => (k0q (m := 0) (n := 1) (c := c) tvV I.fa.2.1.solid (by omega))) fun Al W I => ?_
   refine zx I 40 (fun _ => .int .i64 (r.cls : Int)) (fun Al W I => (s0d I.fa.2.1 x0d (m := 0 * 5) rfl)) fun Al W I => ?_
   refine zb I 42 ((r.cls : Int) == 1) (true) (beq_iff_eq.2 (by omega)) fun Al W I => ?_
   refine zq I (fun Al W I => (HB0 W I.fa.2.2.1).out) fun Al W I => ?_
   exact zrb I
 rw [if_neg h1] at hTI
 by_cases h2 : r.cls = 2
 · rw [if_neg (show ¬ r.cls ≠ 2 from fun h => h h2)] at hTI
   obtain ⟨hx0, _⟩ := hx2 h2
   have hbl := e0o r.x.m
   have hl16 := y0f r.x.m
   have WR := b1r (x := r.x) (way := way) hx0 (by omega)
   have HOD := fun W p c b h => hi0 (x0e r.x p c b W h)
   have HRT := fun W p q c h1 h2 => hi0 (m0x r.x.neg p q c 1 r.x.m 1 r.x.e k0n way W h1 h2 (by omega) (by rw [← g0b]; omega) hx0 (by omega) (by omega) e1w hw.1 hw.2)
   rw [← g0b] at HRT
   obtain ⟨M, hM⟩ : ∃ M, M = 2 ^ 63 := ⟨_, rfl⟩
   have HP2 := fun W => hi0 (k1o 63 63 rfl (by omega) W)
   rw [← hM] at HP2
   have HMa := fun W p c => hi0 (m0y ⟨false, M, 0⟩ p c W)
   rw [show (b0h ⟨false, M, 0⟩).neg = true by rw [hM]; decide] at HMa
   have HMb := fun W p => hi0 (m0y ⟨false, 1, 0⟩ p 1 W)
   rw [show (b0h ⟨false, 1, 0⟩).neg = true by decide, show (dig B16 (⟨false, 1, 0⟩ : Dv).m).length = 1 from g0b.symm] at HMb
   have lM : (dig B16 M).length ≤ 5 := (a0e a0b _ 5).2 (by rw [hM]; unfold B16; decide)
   have fM : ∀ g, FitR ⟨g, M, 0⟩ := fun g => ⟨by show (dig B16 M).length ≤ _; omega, by show (-1000000 : Int) ≤ 0; decide, by show (0 : Int) ≤ 1000000; decide⟩
   have f1 : FitR ⟨true, 1, 0⟩ := ⟨by show (dig B16 1).length ≤ _; rw [← g0b]; decide, by decide, by decide⟩
   have fL : FitR lowB := ⟨by show (dig B16 9223372036854775809).length ≤ _; exact Nat.le_trans ((a0e a0b _ 5).2 (by unfold B16; decide)) (by decide), by decide, by decide⟩
   have HPl := fun W p q c h1 h2 => hi0 (f1v ⟨true, M, 0⟩ ⟨true, 1, 0⟩ lowB p q c 1 W h1 h2 (fM true) f1 (by rw [hM]; decide +kernel))
   simp only at HMa HMb HPl
   rw [← g0b] at HPl
   generalize a0m r.x.neg r.x.m 1 r.x.e k0n way = P at *
   obtain ⟨pn, d, pw, ex, ov, un⟩ := P
   obtain ⟨w1, w2, ⟨pp, w3, w4⟩, w5⟩ := WR
   simp only at w1 w2 w3 w5
   have fy : FitR ⟨pn, d, pw⟩ := ⟨by show (dig B16 d).length ≤ _; omega, by show _ ≤ pw; omega, by show pw ≤ _; omega⟩
   have HC1 := fun W p q c c' h1 h2 => hi0 (v0r lowB ⟨pn, d, pw⟩ p q c c' W h1 h2 fL fy)
   have HC2 := fun W p q c c' h1 h2 => hi0 (v0r ⟨pn, d, pw⟩ ⟨false, M, 0⟩ p q c c' W h1 h2 fy (fM false))
   rw [show rCmp ⟨pn, d, pw⟩ ⟨false, M, 0⟩ = rCmp ⟨pn, d, pw⟩ topB by rw [hM]; rfl] at HC2
   have hcm := m0t (neg := pn) (d := d) (p := pp)
   rw [← w3] at hcm
   unfold u0c at HRT
   simp only at HRT HC1 HC2
   generalize rCmp lowB ⟨pn, d, pw⟩ = x1 at *
   generalize rCmp ⟨pn, d, pw⟩ topB = x2 at *
   clear hM lM fM f1 fL fy hx2 hbl
   by_cases hin : x1 < 0 ∧ x2 < 0
   · obtain ⟨i1, i2⟩ := hin
     rcases w5 with ⟨a1, a2, a3⟩ | ⟨a1, a2⟩
     · subst a1
       have hpp : pp = 0 := by omega
       subst hpp
       rw [a3] at hTI
       obtain ⟨mi, hmi⟩ : ∃ mi : Int, mi = if r.x.neg = true then -(d : Int) else d := ⟨_, rfl⟩
       obtain ⟨fl, hfl⟩ : ∃ fl : Nat, fl = if ex = true then 0 else 1 := ⟨_, rfl⟩
       rw [← hmi, ← hfl] at hTI
       rw [hTI] at HA
       simp only at HA
       have HFl := fun W p c h => hi0 (x0i p c d W h (by omega))
       have hd0 : d / B16 ^ (dig B16 d).length = 0 := Nat.div_eq_of_lt ((a0e a0b d _).1 (Nat.le_refl _))
       have hds := fun (j : Nat) (h : 1 ≤ j) => e1x (d := d) h
       have hdl := fun (j : Nat) => Nat.div_le_self d (B16 ^ j)
       have hdg : ∀ j, dg (dig B16 d) j < 65536 := fun j => by rw [o0d a0b]; exact Nat.mod_lt _ (by unfold B16; omega)
       have hz0 : d / B16 ^ 0 = d := by rw [Nat.pow_zero, Nat.div_one]
       have hnb : r.x.neg = false → d < 9223372036854775808 := fun h => by
        rcases a2 with q | q
        · exact q
        · rw [h] at q; cases q.1
       have hdd : d ≤ 9223372036854775808 := by rcases a2 with h | h <;> omega
       clear hcm a3 hTI w3 w4
       have I := Inv.start w [tabF] ⟨hT, True.intro⟩
       refine a0f [.v (.int .i64 n), .v (.string s), .v (.int .i64 way)] I Tryz.func6 ?_
       refine zq I (fun Al W I => (HA W I.fa.1).out) fun Al W I => ?_
       refine zg I (fun Al W I => (HO W _ (I.box 0 9 _)).out) fun Al V Iv _ hB _ kz => ?_
       rintro _ W ⟨p1, c1, p, c, rfl, oS, o1, hb⟩
       refine ⟨_, rfl, kz _ _ hb fun I => ?_⟩
       have I := I.owns oS
       have I := I.rf o1 (hB _) Iv
       refine zx I 38 (fun _ => .pointer (some (at_ p (0 * 5)))) (fun Al W I => (k0q (m := 0) (n := 1) (c := c) tvV I.fa.2.1.solid (by omega))) fun Al W I => ?_
       refine zx I 40 (fun _ => .int .i64 (r.cls : Int)) (fun Al W I => (s0d I.fa.2.1 x0d (m := 0 * 5) rfl)) fun Al W I => ?_
       refine zb I 42 ((r.cls : Int) == 1) (false) (bFn (by omega)) fun Al W I => ?_
       refine zb I 44 ((r.cls : Int) == 2) (true) (beq_iff_eq.2 (by omega)) fun Al W I => ?_
       refine zx I 46 (fun _ => .pointer (some (at_ p (0 * 5)))) (fun Al W I => (k0q (m := 0) (n := 1) (c := c) tvV I.fa.2.1.solid (by omega))) fun Al W I => ?_
       refine zx I 48 (fun _ => .agg #[.bool r.x.neg, .slice p1 (dig B16 r.x.m).length c1, .int .i64 r.x.e]) (fun Al W I => (z0l (m := 0 * 5 + 2) I.fa.2.1 agD [.bool r.x.neg, .slice p1 (dig B16 r.x.m).length c1, .int .i64 r.x.e] rfl rfl)) fun Al W I => ?_
       refine zg I (fun Al W I => (HOD W p1 c1 _ I.fa.1).out) fun Al V Iv _ hB _ kz => ?_
       rintro _ W ⟨q49, rfl, o49, hb⟩
       refine ⟨_, rfl, kz _ _ hb fun I => ?_⟩
       have I := I.rf o49 (hB _) Iv
       refine zg I (fun Al W I => (HRT W p1 q49 c1 I.fa.2.1.rd I.fa.1.rd).out) fun Al V Iv _ hB _ kz => ?_
       rintro _ W ⟨p52, c52, rfl, o52, a52, hb⟩
       refine ⟨_, rfl, kz _ _ hb fun I => ?_⟩
       have I := I.rdN o52 a52 (hB _) Iv
       refine zqr I (fun Al W I => (HP2 W).out) fun Al W p60 c60 I => ?_
       refine zq I (fun Al W I => (HMa W p60 c60).out) fun Al W I => ?_
       refine zqs I (.a [.bool true, .slice (some ⟨0, 0, none⟩) 1 1, .int .i64 0] [none, some 3, none]) (fun Al W I => (HMb W (some ⟨(lk 0 Al 3), 0, none⟩)).out) fun Al W I => ?_
       refine zqr I (fun Al W I => (HPl W p60 (some ⟨(lk 0 Al 3), 0, none⟩) c60 I.fa.1.rd (r0n (I.box 3 3 _)).rd).out) fun Al W p66 c66 I => ?_
       refine zd [] I fun Al W I => ?_
       refine zk [0, 1] I fun I => ?_
       refine zo 2 I fun I => ?_
       refine zq I (fun Al W I => (HC1 W p66 p52 c66 c52 I.fa.1.rd I.fa.2.2.1).out) fun Al W I => ?_
       refine zkb 3 I (decide (x1 < 0)) (true) (dTr i1) fun I => ?_
       refine zk [4, 5] I fun I => ?_
       refine zo 6 I fun I => ?_
       refine zqr I (fun Al W I => (HP2 W).out) fun Al W p73 c73 I => ?_
       refine zk [7] I fun I => ?_
       refine zo 8 I fun I => ?_
       refine zq I (fun Al W I => (HC2 W p52 p73 c52 c73 I.fa.2.2.2.1 I.fa.1.rd).out) fun Al W I => ?_
       refine zkb 9 I (decide (x2 < 0)) (true) (dTr i2) fun I => ?_
       refine zk [10] I fun I => ?_
       refine zqr I (fun Al W I => (HFl W p52 c52 I.fa.2.2.2.1).out) fun Al W p83 c83 I => ?_
       refine zi I 86 .i64 ((((dig B16 d).length : Nat) : Int) - 1) (((((dig B16 d).length : Nat) : Int) - 1)) ((by exact iwo)) fun Al W I => ?_
       refine w0k I (fun gk fr bx gs => ∃ (U900 : Nat → Value) (j : Nat) (acc : Int), fr = (.v (.int .i64 n) :: .v (.string s) :: .v (.int .i64 way) :: su 3 (.v (.bool false) :: .v (.int .i64 mi) :: .v (.int .i64 (fl : Int)) :: .v (.int .i64 0) :: .v (.slice p 1 c) :: .v (.int .i64 0) :: .v (.int .i64 acc) :: .v (.int .i64 0) :: .p 1 0 :: .p 2 0 :: .p 4 0 :: .v (.slice p83 (dig B16 d).length c83) :: .v (.int .i64 ((j : Int) - 1)) :: sw U900 19 17 (.v (.bool true) :: sw U900 37 3 (.v (.int .i64 (r.cls : Int)) :: .v (.bool false) :: .v (U900 42) :: .v (.bool true) :: sw U900 44 33 (.v (.bool true) :: sw U900 78 22 (.v undef :: sw U900 101 4 (.v undef :: sw U900 106 16 [])))))) : List SV) ∧ bx = [⟨9, [.v (.string s)], false⟩, ⟨48, [.v (.bool pn), .v (.slice p52 (dig B16 d).length c52), .v (.int .i64 0), .v (.bool ex), .v (.bool ov), .v (.bool un)], false⟩, ⟨30, [.v (.bool pn), .v (.slice p52 (dig B16 d).length c52), .v (.int .i64 0)], false⟩, ⟨3, [.v (.int .i64 1)], false⟩, ⟨30, [.v (.bool lowB.neg), .v (.slice p66 (dig B16 lowB.m).length c66), .v (.int .i64 lowB.e)], false⟩] ∧ gs = [rfF w.heap.size p83 c83 (dig B16 d), rfF w.heap.size p73 c73 (dig B16 M), rfF w.heap.size p66 c66 (dig B16 lowB.m), rfF w.heap.size p60 c60 (dig B16 M), rdF .i64 p52 (dig B16 d), rfF w.heap.size q49 1 (dig B16 1), rfF w.heap.size p1 c1 (dig B16 r.x.m), k0c w.heap.size 32 5 p c 1 ((⟨r, p1, c1⟩ : Wp).cells), tabF] ∧ (acc = -((d / B16 ^ j : Nat) : Int)) ∧ (j ≤ (dig B16 d).length) ∧ (gk = j)) ((dig B16 d).length) (fun Al W U I => ⟨_, ⟨U, (dig B16 d).length, 0, rfl, rfl, rfl, (by rw [hd0]; rfl), (Nat.le_refl _), rfl⟩, I.pick [0, 1, 2, 3, 4, 5, 6, 7, 8]⟩) ?_
       rintro J0 gk0 _ _ _ ⟨U900, j, acc, rfl, rfl, rfl, hacc, hjl, hgk⟩ hJ0 Al W I
       rcases Bool.eq_false_or_eq_true (decide (((j : Int) - 1) ≥ 0)) with f88 | f88
       · refine zb I 88 (decide (((j : Int) - 1) ≥ 0)) (true) (f88) fun Al W I => ?_
         refine zi I 92 .i64 ((65536 : Int) * acc) ((65536 * acc)) ((by have h1 := oTr f88; have := hds j (by omega); have := hdl (j - 1); exact iwo)) fun Al W I => ?_
         refine zx I 95 (fun _ => .pointer (some (at_ p83 (j - 1)))) (fun Al W I => (l1d (i := (j : Int) - 1) (m := j - 1) (n := (dig B16 d).length) (c := c83) l1c (by have := oTr f88; omega) I.fa.1.rd.solid (by have := oTr f88; omega))) fun Al W I => ?_
         refine zx I 96 (fun _ => .int .i64 ((dg (dig B16 d) (j - 1) : Nat) : Int)) (fun Al W I => (a1u I.fa.1.rd x0d (by have := oTr f88; omega))) fun Al W I => ?_
         refine zi I 97 .i64 ((65536 * acc) - ((dg (dig B16 d) (j - 1) : Nat) : Int)) ((65536 * acc - ((dg (dig B16 d) (j - 1) : Nat) : Int))) ((by have h1 := oTr f88; have := hds j (by omega); have := hdl (j - 1); exact iwo)) fun Al W I => ?_
         refine zi I 90 .i64 (((j : Int) - 1) - 1) ((((j - 1 : Nat) : Int) - 1)) ((by have h1 := oTr f88; rw [show (j : Int) - 1 - 1 = ((j - 1 : Nat) : Int) - 1 by omega]; exact iwo)) fun Al W I => ?_
         exact b0d I J0 fun Al W U I => hJ0 (gk0 - 1) _ _ _ _ _ ((by have := oTr f88; omega)) ⟨U, j - 1, (65536 * acc - ((dg (dig B16 d) (j - 1) : Nat) : Int)), rfl, rfl, rfl, (by have h1 := oTr f88; have := hds j (by omega); omega), (by omega), (by omega)⟩ (I.pick [0, 1, 2, 3, 4, 5, 6, 7, 8])
       refine zb I 88 (decide (((j : Int) - 1) ≥ 0)) (false) (f88) fun Al W I => ?_
       have hA : acc = -(d : Int) := by rw [hacc, show j = 0 by have := oFa f88; omega, hz0]
       rcases Bool.eq_false_or_eq_true (!pn) with f100 | f100
       · refine zb I 100 (!pn) (true) (f100) fun Al W I => ?_
         refine zi I 102 .i64 (0 - acc) ((-acc)) ((by rw [Int.zero_sub]; exact IntWalk.i64_in _ (by have := hnb (by rw [← w1]; simpa using f100); omega))) fun Al W I => ?_
         rcases Bool.eq_false_or_eq_true (!ex) with f105 | f105
         · refine zb I 105 (!ex) (true) (f105) fun Al W I => ?_
           refine zq I (fun Al W I => (HB0 W I.fa.2.2.2.2.2.2.2.2.1).out) fun Al W I => ?_
           refine zb I 115 (mi == (-acc)) (true) (beq_iff_eq.2 (by rw [hmi, if_neg (by rw [← w1]; simpa using f100)]; omega)) fun Al W I => ?_
           refine zb I 120 ((fl : Int) == 1) (true) (beq_iff_eq.2 (by rw [hfl, if_neg (by simpa using f105)]; rfl)) fun Al W I => ?_
           exact zrb I
         refine zb I 105 (!ex) (false) (f105) fun Al W I => ?_
         refine zq I (fun Al W I => (HB0 W I.fa.2.2.2.2.2.2.2.2.1).out) fun Al W I => ?_
         refine zb I 115 (mi == (-acc)) (true) (beq_iff_eq.2 (by rw [hmi, if_neg (by rw [← w1]; simpa using f100)]; omega)) fun Al W I => ?_
         refine zb I 120 ((fl : Int) == 0) (true) (beq_iff_eq.2 (by rw [hfl, if_pos (by simpa using f105)]; rfl)) fun Al W I => ?_
         exact zrb I
       refine zb I 100 (!pn) (false) (f100) fun Al W I => ?_
       rcases Bool.eq_false_or_eq_true (!ex) with f105 | f105
       · refine zb I 105 (!ex) (true) (f105) fun Al W I => ?_
         refine zq I (fun Al W I => (HB0 W I.fa.2.2.2.2.2.2.2.2.1).out) fun Al W I => ?_
         refine zb I 115 (mi == acc) (true) (beq_iff_eq.2 (by rw [hmi, if_pos (by rw [← w1]; simpa using f100)]; omega)) fun Al W I => ?_
         refine zb I 120 ((fl : Int) == 1) (true) (beq_iff_eq.2 (by rw [hfl, if_neg (by simpa using f105)]; rfl)) fun Al W I => ?_
         exact zrb I
       refine zb I 105 (!ex) (false) (f105) fun Al W I => ?_
       refine zq I (fun Al W I => (HB0 W I.fa.2.2.2.2.2.2.2.2.1).out) fun Al W I => ?_
       refine zb I 115 (mi == acc) (true) (beq_iff_eq.2 (by rw [hmi, if_pos (by rw [← w1]; simpa using f100)]; omega)) fun Al W I => ?_
       refine zb I 120 ((fl : Int) == 0) (true) (beq_iff_eq.2 (by rw [hfl, if_pos (by simpa using f105)]; rfl)) fun Al W I => ?_
       exact zrb I
     · exact absurd ⟨i1, i2⟩ a1
   · have a2 : j0k r.x way = (0, 16) := by
      rcases w5 with ⟨a1, a2, a3⟩ | ⟨a1, a2⟩
      · exfalso
        refine hin ⟨hcm.1.2 fun h => ?_, hcm.2.2 fun h => ?_⟩
        · obtain rfl : pp = 0 := by omega
          rw [Nat.pow_zero, Nat.mul_one]; rcases a2 with q | q <;> omega
        · obtain rfl : pp = 0 := by omega
          rw [Nat.pow_zero, Nat.mul_one]; rcases a2 with q | q
          · omega
          · rw [← w1, h] at q; cases q.1
      · exact a2
     rw [a2] at hTI
     rw [hTI] at HA
     simp only at HA
     clear hcm hTI w3 w4 w5
     by_cases i1 : x1 < 0
     · have i2 : ¬ x2 < 0 := fun h => hin ⟨i1, h⟩
       have I := Inv.start w [tabF] ⟨hT, True.intro⟩
       refine a0f [.v (.int .i64 n), .v (.string s), .v (.int .i64 way)] I Tryz.func6 ?_
       refine zq I (fun Al W I => (HA W I.fa.1).out) fun Al W I => ?_
       refine zg I (fun Al W I => (HO W _ (I.box 0 9 _)).out) fun Al V Iv _ hB _ kz => ?_
       rintro _ W ⟨p1, c1, p, c, rfl, oS, o1, hb⟩
       refine ⟨_, rfl, kz _ _ hb fun I => ?_⟩
       have I := I.owns oS
       have I := I.rf o1 (hB _) Iv
       refine zx I 38 (fun _ => .pointer (some (at_ p (0 * 5)))) (fun Al W I => (k0q (m := 0) (n := 1) (c := c) tvV I.fa.2.1.solid (by omega))) fun Al W I => ?_
       refine zx I 40 (fun _ => .int .i64 (r.cls : Int)) (fun Al W I => (s0d I.fa.2.1 x0d (m := 0 * 5) rfl)) fun Al W I => ?_
       refine zb I 42 ((r.cls : Int) == 1) (false) (bFn (by omega)) fun Al W I => ?_
       refine zb I 44 ((r.cls : Int) == 2) (true) (beq_iff_eq.2 (by omega)) fun Al W I => ?_
       refine zx I 46 (fun _ => .pointer (some (at_ p (0 * 5)))) (fun Al W I => (k0q (m := 0) (n := 1) (c := c) tvV I.fa.2.1.solid (by omega))) fun Al W I => ?_
       refine zx I 48 (fun _ => .agg #[.bool r.x.neg, .slice p1 (dig B16 r.x.m).length c1, .int .i64 r.x.e]) (fun Al W I => (z0l (m := 0 * 5 + 2) I.fa.2.1 agD [.bool r.x.neg, .slice p1 (dig B16 r.x.m).length c1, .int .i64 r.x.e] rfl rfl)) fun Al W I => ?_
       refine zg I (fun Al W I => (HOD W p1 c1 _ I.fa.1).out) fun Al V Iv _ hB _ kz => ?_
       rintro _ W ⟨q49, rfl, o49, hb⟩
       refine ⟨_, rfl, kz _ _ hb fun I => ?_⟩
       have I := I.rf o49 (hB _) Iv
       refine zg I (fun Al W I => (HRT W p1 q49 c1 I.fa.2.1.rd I.fa.1.rd).out) fun Al V Iv _ hB _ kz => ?_
       rintro _ W ⟨p52, c52, rfl, o52, a52, hb⟩
       refine ⟨_, rfl, kz _ _ hb fun I => ?_⟩
       have I := I.rdN o52 a52 (hB _) Iv
       refine zqr I (fun Al W I => (HP2 W).out) fun Al W p60 c60 I => ?_
       refine zq I (fun Al W I => (HMa W p60 c60).out) fun Al W I => ?_
       refine zqs I (.a [.bool true, .slice (some ⟨0, 0, none⟩) 1 1, .int .i64 0] [none, some 3, none]) (fun Al W I => (HMb W (some ⟨(lk 0 Al 3), 0, none⟩)).out) fun Al W I => ?_
       refine zqr I (fun Al W I => (HPl W p60 (some ⟨(lk 0 Al 3), 0, none⟩) c60 I.fa.1.rd (r0n (I.box 3 3 _)).rd).out) fun Al W p66 c66 I => ?_
       refine zd [] I fun Al W I => ?_
       refine zk [0, 1] I fun I => ?_
       refine zo 2 I fun I => ?_
       refine zq I (fun Al W I => (HC1 W p66 p52 c66 c52 I.fa.1.rd I.fa.2.2.1).out) fun Al W I => ?_
       refine zkb 3 I (decide (x1 < 0)) (true) (dTr i1) fun I => ?_
       refine zk [4, 5] I fun I => ?_
       refine zo 6 I fun I => ?_
       refine zqr I (fun Al W I => (HP2 W).out) fun Al W p73 c73 I => ?_
       refine zk [7] I fun I => ?_
       refine zo 8 I fun I => ?_
       refine zq I (fun Al W I => (HC2 W p52 p73 c52 c73 I.fa.2.2.2.1 I.fa.1.rd).out) fun Al W I => ?_
       refine zkb 9 I (decide (x2 < 0)) (false) (dFa i2) fun I => ?_
       refine zk [10] I fun I => ?_
       refine zq I (fun Al W I => (HB0 W I.fa.2.2.2.2.2.2.2.1).out) fun Al W I => ?_
       exact zrb I
     · have I := Inv.start w [tabF] ⟨hT, True.intro⟩
       refine a0f [.v (.int .i64 n), .v (.string s), .v (.int .i64 way)] I Tryz.func6 ?_
       refine zq I (fun Al W I => (HA W I.fa.1).out) fun Al W I => ?_
       refine zg I (fun Al W I => (HO W _ (I.box 0 9 _)).out) fun Al V Iv _ hB _ kz => ?_
       rintro _ W ⟨p1, c1, p, c, rfl, oS, o1, hb⟩
       refine ⟨_, rfl, kz _ _ hb fun I => ?_⟩
       have I := I.owns oS
       have I := I.rf o1 (hB _) Iv
       refine zx I 38 (fun _ => .pointer (some (at_ p (0 * 5)))) (fun Al W I => (k0q (m := 0) (n := 1) (c := c) tvV I.fa.2.1.solid (by omega))) fun Al W I => ?_
       refine zx I 40 (fun _ => .int .i64 (r.cls : Int)) (fun Al W I => (s0d I.fa.2.1 x0d (m := 0 * 5) rfl)) fun Al W I => ?_
       refine zb I 42 ((r.cls : Int) == 1) (false) (bFn (by omega)) fun Al W I => ?_
       refine zb I 44 ((r.cls : Int) == 2) (true) (beq_iff_eq.2 (by omega)) fun Al W I => ?_
       refine zx I 46 (fun _ => .pointer (some (at_ p (0 * 5)))) (fun Al W I => (k0q (m := 0) (n := 1) (c := c) tvV I.fa.2.1.solid (by omega))) fun Al W I => ?_
       refine zx I 48 (fun _ => .agg #[.bool r.x.neg, .slice p1 (dig B16 r.x.m).length c1, .int .i64 r.x.e]) (fun Al W I => (z0l (m := 0 * 5 + 2) I.fa.2.1 agD [.bool r.x.neg, .slice p1 (dig B16 r.x.m).length c1, .int .i64 r.x.e] rfl rfl)) fun Al W I => ?_
       refine zg I (fun Al W I => (HOD W p1 c1 _ I.fa.1).out) fun Al V Iv _ hB _ kz => ?_
       rintro _ W ⟨q49, rfl, o49, hb⟩
       refine ⟨_, rfl, kz _ _ hb fun I => ?_⟩
       have I := I.rf o49 (hB _) Iv
       refine zg I (fun Al W I => (HRT W p1 q49 c1 I.fa.2.1.rd I.fa.1.rd).out) fun Al V Iv _ hB _ kz => ?_
       rintro _ W ⟨p52, c52, rfl, o52, a52, hb⟩
       refine ⟨_, rfl, kz _ _ hb fun I => ?_⟩
       have I := I.rdN o52 a52 (hB _) Iv
       refine zqr I (fun Al W I => (HP2 W).out) fun Al W p60 c60 I => ?_
       refine zq I (fun Al W I => (HMa W p60 c60).out) fun Al W I => ?_
       refine zqs I (.a [.bool true, .slice (some ⟨0, 0, none⟩) 1 1, .int .i64 0] [none, some 3, none]) (fun Al W I => (HMb W (some ⟨(lk 0 Al 3), 0, none⟩)).out) fun Al W I => ?_
       refine zqr I (fun Al W I => (HPl W p60 (some ⟨(lk 0 Al 3), 0, none⟩) c60 I.fa.1.rd (r0n (I.box 3 3 _)).rd).out) fun Al W p66 c66 I => ?_
       refine zd [] I fun Al W I => ?_
       refine zk [0, 1] I fun I => ?_
       refine zo 2 I fun I => ?_
       refine zq I (fun Al W I => (HC1 W p66 p52 c66 c52 I.fa.1.rd I.fa.2.2.1).out) fun Al W I => ?_
       refine zkb 3 I (decide (x1 < 0)) (false) (dFa i1) fun I => ?_
       refine zk [4, 5, 6, 7, 8, 9, 10] I fun I => ?_
       refine zq I (fun Al W I => (HB0 W I.fa.2.2.2.2.2.2.1).out) fun Al W I => ?_
       exact zrb I
 · rw [if_pos h2] at hTI
   rw [hTI] at HA
   simp only at HA
   clear hTI hx2
   have I := Inv.start w [tabF] ⟨hT, True.intro⟩
   refine a0f [.v (.int .i64 n), .v (.string s), .v (.int .i64 way)] I Tryz.func6 ?_
   refine zq I (fun Al W I => (HA W I.fa.1).out) fun Al W I => ?_
   refine zg I (fun Al W I => (HO W _ (I.box 0 9 _)).out) fun Al V Iv _ hB _ kz => ?_
   rintro _ W ⟨p1, c1, p, c, rfl, oS, o1, hb⟩
   refine ⟨_, rfl, kz _ _ hb fun I => ?_⟩
   have I := I.owns oS
   have I := I.rf o1 (hB _) Iv
   refine zx I 38 (fun _ => .pointer (some (at_ p (0 * 5)))) (fun Al W I => (k0q (m := 0) (n := 1) (c := c) tvV I.fa.2.1.solid (by omega))) fun Al W I => ?_
   refine zx I 40 (fun _ => .int .i64 (r.cls : Int)) (fun Al W I => (s0d I.fa.2.1 x0d (m := 0 * 5) rfl)) fun Al W I => ?_
   refine zb I 42 ((r.cls : Int) == 1) (false) (bFn (by omega)) fun Al W I => ?_
   refine zb I 44 ((r.cls : Int) == 2) (false) (bFn (by omega)) fun Al W I => ?_
   refine zq I (fun Al W I => (HB0 W I.fa.2.2.1).out) fun Al W I => ?_
   exact zrb I
theorem n0h (n : Int) (s : ByteArray) (way : Int) (w : World) (hT : TabW w) : Calls Tryz.prog 6 #[.int .i64 n, .string s, .int .i64 way] w fun en w' => en = .returned (.bool true) ∧ Below w.heap.size w w' := by
 by_cases h0 : errR n way [s] = 0
 · exact b1w n way s w h0 hT
 · have HB0 := fun W h => hi0 (j0l W h)
   have HA := fun W h => hi0 (m0s n way s W h)
   have HO := fun W b h => hi0 (n0g n way s b W h h0)
   unfold s0c at HA
   simp only [if_neg h0] at HA
   generalize errR n way [s] = er at *
   have I := Inv.start w [tabF] ⟨hT, True.intro⟩
   refine a0f [.v (.int .i64 n), .v (.string s), .v (.int .i64 way)] I Tryz.func6 ?_
   refine zq I (fun Al W I => (HA W I.fa.1).out) fun Al W I => ?_
   refine zq I (fun Al W I => (HO W _ (I.box 0 9 _)).out) fun Al W I => ?_
   refine zb I 36 (er == 0) (false) (bFn h0) fun Al W I => ?_
   refine zq I (fun Al W I => (HB0 W I.fa.1).out) fun Al W I => ?_
   refine zb I 110 (er == er) (true) (beq_iff_eq.2 rfl) fun Al W I => ?_
   exact zrb I
end Go.Proofs.YtmacohmclpnphaaGreatDoor
