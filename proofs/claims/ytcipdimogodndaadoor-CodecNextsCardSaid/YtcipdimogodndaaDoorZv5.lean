/- grid: Fit. -/
import Derived.Deep.LoopGhost
import Derived.Deep.RegionHeld3
import Derived.Deep.DeepCutAuto
import Derived.Outline
import Derived.Test.YtcipdimogodndaaDoorZv1
import Derived.Test.YtcipdimogodndaaDoorZv2
import Derived.Test.YtcipdimogodndaaDoorZv3
import Derived.Test.YtcipdimogodndaaDoorZv4
namespace Go.Proofs.YtcipdimogodndaaDoor
open Go.RowKit Go.Slip

def GivesP (w : World) (d : Pl) (en : Ending) (w' : World) : Prop :=
  ∃ p c, en = .returned (.agg #[.bool d.neg, .slice p (dig B32 d.d).length c, .int .i64 d.pow, .bool d.exact, .bool d.over, .bool d.under]) ∧ Own w' w.heap.size .u32 91 p c (dig B32 d.d) ∧ Below w.heap.size w w'

theorem mul_bd {wd : Nat} {k : Int} {B : Int} (h1 : wd ≤ 4) (hk : -B ≤ k ∧ k ≤ B) : -(4 * B) ≤ (wd : Int) * k ∧ (wd : Int) * k ≤ 4 * B := by
  have h0 : 0 ≤ (wd : Int) := by omega
  have a1 := Int.mul_le_mul_of_nonneg_left hk.1 h0
  have a2 := Int.mul_le_mul_of_nonneg_left hk.2 h0
  have hB : 0 ≤ B := by omega
  have a3 : (wd : Int) * B ≤ 4 * B := Int.mul_le_mul_of_nonneg_right (by omega) hB
  have a4 : (wd : Int) * -B = -((wd : Int) * B) := Int.mul_neg _ _
  omega

theorem ediv_abs {x B : Int} {wd : Nat} (h0 : 1 ≤ wd) (h : -B ≤ x ∧ x ≤ B) : -B ≤ x / wd ∧ x / wd ≤ B := by
  have h1 := ediv_bd x wd h0
  have hB : 0 ≤ B := by omega
  generalize x / (wd : Int) = y at *
  constructor
  · rcases Int.lt_or_le y (-B) with h2 | h2
    · have h3 : (wd : Int) * (y + 1) ≤ wd * (-B) := Int.mul_le_mul_of_nonneg_left (by omega) (by omega)
      have h4 : (wd : Int) * (-B) ≤ 1 * (-B) := Int.mul_le_mul_of_nonpos_right (by omega) (by omega)
      rw [Int.mul_add] at h3
      omega
    · exact h2
  · rcases Int.lt_or_le B y with h2 | h2
    · have h3 : (wd : Int) * (B + 1) ≤ wd * y := Int.mul_le_mul_of_nonneg_left (by omega) (by omega)
      have h4 : 1 * (B + 1) ≤ (wd : Int) * (B + 1) := Int.mul_le_mul_of_nonneg_right (by omega) (by omega)
      omega
    · exact h2

theorem u32_and1 {n : Nat} (h : n < 4294967296) : bits .and .u32 (n : Int) 1 = ((n % 2 : Nat) : Int) := by
  have h1 : (BitVec.ofInt 32 1).toNat = 2 ^ 1 - 1 := by decide
  have h2 : (BitVec.ofInt 32 (n : Int)).toNat = n := by rw [BitVec.ofInt_natCast, BitVec.toNat_ofNat, Nat.mod_eq_of_lt h]
  have key : (BitVec.ofInt 32 (n : Int) &&& BitVec.ofInt 32 1).toNat = n % 2 := by
    rw [BitVec.toNat_and, h2, h1, Nat.and_two_pow_sub_one_eq_mod]
  show IntKind.u32.wrap ((BitVec.ofInt 32 (n : Int) &&& BitVec.ofInt 32 1).toNat : Nat) = _
  rw [key]
  have : n % 2 < 2 := Nat.mod_lt _ (by omega)
  generalize n % 2 = r at *
  obtain rfl | rfl : r = 0 ∨ r = 1 := by omega
  · rfl
  · rfl

set_option maxHeartbeats 16000000 in
set_option maxRecDepth 100000 in
theorem fit_any (ng : Bool) (p q : Option Addr) (c d : Nat) (num den : Nat) (e : Int) (g : Gd) (way K : Int) (w : World) (hp : Rd w .u32 p (dig B32 num)) (hq : Rd w .u32 q (dig B32 den))
    (hl : (dig B32 num).length ≤ 100000) (hl2 : (dig B32 den).length ≤ 100000) (hn : 0 < num) (hd : 0 < den) (he : -1000000 ≤ e ∧ e ≤ 1000000) (G : GoodG g) (hw1 : 1 ≤ way) (hw2 : way ≤ 5) (hK : IsK num den e (wid g) g.digs.toNat K) :
    Calls Tryd.prog 57 #[.agg #[.bool ng, .slice p (dig B32 num).length c, .slice q (dig B32 den).length d, .int .i64 e], .agg #[.int .i64 g.rad, .int .i64 g.digs, .int .i64 g.lo, .int .i64 g.hi, .bool g.grad], .int .i64 way] w (GivesP w (fitK ng num den e g way K)) := by
  obtain ⟨_, gd1, gd2, gl1, gl2, gh1, gh2, gle⟩ := G
  obtain ⟨f, hf, hF, hcf⟩ := wayF_spec hw1 hw2
  have HCF := Lib.hid hcf
  clear hcf
  have HF := Lib.hid hF
  have HF0 := Lib.hid hf
  obtain ⟨pf, hpf⟩ : ∃ pf, fitK ng num den e g way K = pf := ⟨_, rfl⟩
  rw [hpf]
  have HPF := Lib.hid hpf
  have HWD := fun W => Lib.hid (width_any g W)
  have wp := wid_pos g
  obtain ⟨wd, hwd⟩ : ∃ wd, wid g = wd := ⟨_, rfl⟩
  rw [hwd] at wp HWD hK
  have HW := Lib.hid hwd
  obtain ⟨rad, digs, lo, hi, grad⟩ := g
  simp only at *
  obtain ⟨D, rfl⟩ : ∃ D : Nat, digs = D := ⟨digs.toNat, by omega⟩
  rw [Int.toNat_natCast] at hK
  have hD : 1 ≤ D := by omega
  have hden0 : 0 < (dig B32 den).length := by have := dig_len_zero B32_two den; omega
  have bn := blen_len32 num
  have bd := blen_len32 den
  obtain ⟨F1, F2⟩ := fullP_bd hn hd e (w := wd) (D := D) (by omega) hD _ rfl
  obtain ⟨x, hx⟩ : ∃ x : Int, (blen num : Int) - blen den + e = x := ⟨_, rfl⟩
  have hxb : -5000000 ≤ x ∧ x ≤ 5000000 := by omega
  have hxw := ediv_abs (wd := wd) wp.1 hxb
  have e0 : IntKind.i64.wrap ((blen num : Int) - blen den) = (blen num : Int) - blen den := IntWalk.i64_in _ (by omega)
  have e1 : IntKind.i64.wrap ((blen num : Int) - blen den + e) = x := by rw [IntWalk.i64_in _ (by omega), hx]
  rw [hx] at F1 F2
  have HX := Lib.hid hx
  have hK1 := hK.le hd F1
  have hK2 : K ≤ x / wd - D + 1 := by
    rcases Int.lt_or_le (x / wd - D + 1) K with h | h
    · exact absurd (fullP_anti hd hK.yes (by omega)) F2
    · exact h
  have HK := Lib.hid hK
  clear hF hf hpf hwd hx F1 F2 hK
  go_enter Tryd.func57, Tryd.ntmps57
  go_wp2_with fail
  refine calls_lay3 (fun W1 hb1 hz1 Q G R => ?_)
  replace hp := hp.past hb1
  replace hq := hq.past hb1
  have hs1 := hb1
  ((with_reducible refine ((HWD _).out).mono ?_))
  rintro e2 w2 ⟨rfl, hb2⟩
  replace Q := Q.past hb2
  replace G := G.past hb2
  replace R := R.past hb2
  replace hp := hp.past hb2
  replace hq := hq.past hb2
  have hs2 := hs1.trans (hb2.mono hs1.size)
  obtain ⟨Q_0, Q_1, Q_2, Q_3⟩ := Q.e4
  obtain ⟨G_0, G_1, G_2, G_3, G_4⟩ := G.e5
  obtain ⟨R_0, R_1, R_2, R_3, R_4, R_5⟩ := R.e6
  go_wp2_with fail
  clear Q_0 Q_1 Q_2 Q_3 G_0 G_1 G_2 G_3 G_4 R_0 R_1 R_2 R_3 R_4 R_5
  obtain ⟨Q_0, Q_1, Q_2, Q_3⟩ := Q.e4
  go_quiet ((first | (go_at_call_of 94 (Value.slice p (dig B32 num).length c); exact Calls.quiet_of_same ((len_any p _ c num _ (hp.drewN _) rfl (by omega)).mono fun _ _ h => ⟨h.1, h.2.symm⟩)) | (go_at_call_of 94 (Value.slice q (dig B32 den).length d); exact Calls.quiet_of_same ((len_any q _ d den _ (hq.drewN _) rfl (by omega)).mono fun _ _ h => ⟨h.1, h.2.symm⟩))))
  clear Q_0 Q_1 Q_2 Q_3
  have hb3 := below_drewN (Below.refl (w2).heap.size (w2)) nq
  replace Q := Q.past hb3
  replace G := G.past hb3
  replace R := R.past hb3
  replace hp := hp.past hb3
  replace hq := hq.past hb3
  have hs3 := hs2.trans (hb3.mono hs2.size)
  generalize (w2).drewN nq = w3 at *
  clear e0 e1
  obtain ⟨Q_0, Q_1, Q_2, Q_3⟩ := Q.e4
  obtain ⟨G_0, G_1, G_2, G_3, G_4⟩ := G.e5
  obtain ⟨R_0, R_1, R_2, R_3, R_4, R_5⟩ := R.e6
  go_wp2_with fail
  clear Q_0 Q_1 Q_2 Q_3 G_0 G_1 G_2 G_3 G_4 R_0 R_1 R_2 R_3 R_4 R_5
  have e0 : IntKind.i64.wrap (x / (wd : Int) - (D : Int)) = x / wd - D := IntWalk.i64_in _ (by omega)
  have e1 : IntKind.i64.wrap (x / (wd : Int) - (D : Int) + 1) = x / wd - D + 1 := IntWalk.i64_in _ (by omega)
  obtain ⟨G_0, G_1, G_2, G_3, G_4⟩ := G.e5
  go_quiet ((go_at_call 104; exact Calls.quiet_of_same ((gfloor_any x wd _ (by clear e0 e1; omega) wp.1 (by clear e0 e1; omega)).mono fun _ _ h => ⟨h.1, h.2.symm⟩)))
  clear G_0 G_1 G_2 G_3 G_4
  have hb4 := below_drewN (Below.refl (w3).heap.size (w3)) nq
  replace Q := Q.past hb4
  replace G := G.past hb4
  replace R := R.past hb4
  replace hp := hp.past hb4
  replace hq := hq.past hb4
  have hs4 := hs3.trans (hb4.mono hs3.size)
  generalize (w3).drewN nq = w4 at *
  clear e0 e1
  obtain ⟨k0, hk0⟩ : ∃ k0, x / (wd : Int) - D + 1 = k0 := ⟨_, rfl⟩
  have hk0b : -6000000 ≤ k0 ∧ k0 ≤ 6000000 := by omega
  rw [hk0] at hK2 ⊢
  have hK1 : k0 - 1 ≤ K := by omega
  have hm0 : -5001000 ≤ (wd : Int) * k0 ∧ (wd : Int) * k0 ≤ 5001000 := by
    have h1 := ediv_bd x wd wp.1
    have h2 : (wd : Int) * k0 = wd * (x / wd) - wd * D + wd := by rw [← hk0]; grind
    have h3 : (wd : Int) * D ≤ 4 * 120 := Int.mul_le_mul (by omega) (by omega) (by omega) (by omega)
    have h4 : 0 ≤ (wd : Int) * D := Int.mul_nonneg (by omega) (by omega)
    omega
  clear hk0 hxw
  go_wp2_with fail
  obtain ⟨N1, hN1⟩ : ∃ N1 : Nat, N1 = wd * (D - 1) := ⟨_, rfl⟩
  have hN1b : N1 ≤ 480 := by rw [hN1]; exact Nat.le_trans (Nat.mul_le_mul wp.2 (show D - 1 ≤ 120 by omega)) (by omega)
  have e0 : IntKind.i64.wrap ((D : Int) - 1) = ((D - 1 : Nat) : Int) := by rw [IntWalk.i64_in _ (by omega)]; omega
  have e1 : IntKind.i64.wrap ((wd : Int) * ((D - 1 : Nat) : Int)) = (N1 : Int) := by rw [IntWalk.i64_in _ (by rw [← Int.natCast_mul, ← hN1]; omega), ← Int.natCast_mul, ← hN1]
  have HN1 := Lib.hid hN1
  clear hN1
  have l1 : (dig B32 1).length ≤ 1 := by rw [dig_len_le B32_two]; unfold B32; omega
  have hz4 := hs4.size
  go_cut [10] (fun s10 wx => ∃ (pw : Option Addr) (cw : Nat), s10 = .slice pw (dig B32 (2 ^ N1)).length cw ∧ Own wx w4.heap.size .u32 91 pw cw (dig B32 (2 ^ N1)) ∧ Below w4.heap.size w4 wx)
  case first =>
    go_region_held3 (fun w' => w'.cell? ⟨w.heap.size + 1, 1, none⟩ = some (.int .i64 D))
      (first | with_reducible exact G.e5.2.1 | with_reducible exact G.drew.e5.2.1 | with_reducible exact (G.drew.past hbx).e5.2.1 | with_reducible exact ((G.drew.past hbx).past hby).e5.2.1)
      (first
        | (go_at_call 96; refine (of_any 1 _ (by clear e0 e1; omega)).mono ?_; rintro ex wx ⟨px, cx, rfl, hox, hbx⟩)
        | (go_at_call 90; refine (shl_any px _ cx 1 N1 _ hox.rd rfl (by clear e0 e1; omega) (by clear e0 e1; omega)).mono ?_; rw [Nat.one_mul]; rintro ey wy ⟨py, cy, rfl, hoy, hby⟩))
    all_goals (clear e0 e1)
    all_goals (go_wp2_with fail)
    all_goals go_meet
    all_goals (exact ⟨py, cy, rfl, hoy.mono hbx.size, ((Below.refl _ _).drew.trans hbx).trans (hby.mono hbx.size)⟩)
  case rest =>
    obtain ⟨pw, cw, rfl, how, hb5⟩ := hcut
    clear e0 e1
    replace Q := Q.past hb5
    replace G := G.past hb5
    replace R := R.past hb5
    replace hp := hp.past hb5
    replace hq := hq.past hb5
    have hs5 := hs4.trans (hb5.mono hs4.size)
    have hsw5 : W1.heap.size ≤ wc.heap.size := by have := hb2.size; have := hb3.size; have := hb4.size; have := hb5.size; omega
    have hz4w : W1.heap.size ≤ w4.heap.size := by have := hb2.size; have := hb3.size; have := hb4.size; omega
    clear hb5
    obtain ⟨Q_0, Q_1, Q_2, Q_3⟩ := Q.e4
    go_wp2_with fail
    clear Q_0 Q_1 Q_2 Q_3
    ((with_reducible refine (scaled_any p q _ _ c d num den (e - (wd : Int) * k0) _ hp hq rfl rfl (by omega) (by omega) hd (by omega)).mono ?_))
    rintro e6 w6 ⟨p1, c1, q1, d1, r1, f1, rfl, ho1, ho2, hr3, -, hb6⟩
    replace Q := Q.past hb6
    replace G := G.past hb6
    replace R := R.past hb6
    replace hp := hp.past hb6
    replace hq := hq.past hb6
    have hs6 := hs5.trans (hb6.mono hs5.size)
    have how := how.past hb6
    go_wp2_with fail
    go_loopg [9, 11, 12, 13] (k0 - K).toNat (fun gk kv av bv cv wr => ∃ (k : Int) (p2 q2 r2 : Option Addr) (c2 d2 f2 : Nat), kv = .int .i64 k ∧ (gk : Int) = k - K ∧ k ≤ k0 ∧ K ≤ k ∧
      av = .slice p2 (dig B32 (qP num den (e - wd * k))).length c2 ∧ bv = .slice q2 (dig B32 (rP num den (e - wd * k))).length d2 ∧ cv = .slice r2 (dig B32 (denP den (e - wd * k))).length f2 ∧
      Own wr W1.heap.size .u32 91 p2 c2 (dig B32 (qP num den (e - wd * k))) ∧ Own wr W1.heap.size .u32 91 q2 d2 (dig B32 (rP num den (e - wd * k))) ∧ Rd wr .u32 r2 (dig B32 (denP den (e - wd * k))) ∧ Below w6.heap.size w6 wr)
    case atStart => exact ⟨k0, p1, q1, r1, c1, d1, f1, rfl, by omega, by omega, by omega, rfl, rfl, rfl, ho1.mono hsw5, ho2.mono hsw5, hr3, Below.refl _ _⟩
    case round =>
      obtain ⟨k, p2, q2, r2, c2, d2, f2, rfl, hgk, hkk, hKk, rfl, rfl, rfl, ho4, ho5, hr6, hb7⟩ := hrel
      have hs7 := hs6.trans (hb7.mono hs6.size)
      replace Q := Q.past hb7
      replace G := G.past hb7
      replace R := R.past hb7
      replace hp := hp.past hb7
      replace hq := hq.past hb7
      replace how := how.past hb7
      have hmk : -5002000 ≤ (wd : Int) * k ∧ (wd : Int) * k ≤ 5002000 := by
        have hkd : k = k0 ∨ k = k0 - 1 := by omega
        rcases hkd with rfl | rfl
        · omega
        · rw [Int.mul_sub]; omega
      have lq : (dig B32 (qP num den (e - wd * k))).length ≤ 1400000 := Nat.le_trans (dig_len_mono B32_two (Nat.div_le_self _ _)) (numP_len (by omega) (by omega))
      have lw : (dig B32 (2 ^ N1)).length ≤ 16 := pow_small_len hN1b
      by_cases hfull : FullP num den e wd D k
      · have hkK : k = K := by have := HK.out.le hd hfull; omega
        subst hkK
        have hC : 0 ≤ cmpN (qP num den (e - wd * k)) (2 ^ N1) := by
          unfold FullP at hfull
          rw [← HN1.out] at hfull
          unfold cmpN; rw [if_neg (by omega)]; split <;> omega
        clear hfull
        go_wp2_with fail
        ((with_reducible refine (cmp_any p2 pw _ _ c2 cw _ _ _ ho4.rd how.rd rfl rfl (by omega) (by omega)).mono ?_))
        rintro e8 w8 ⟨rfl, hb8⟩
        replace Q := Q.past hb8
        replace G := G.past hb8
        replace R := R.past hb8
        replace hp := hp.past hb8
        replace hq := hq.past hb8
        replace how := how.past hb8
        replace ho4 := ho4.past hb8
        replace ho5 := ho5.past hb8
        replace hr6 := hr6.past hb8
        have hs8 := hs7.trans (hb8.mono hs7.size)
        obtain ⟨k1, hk1⟩ : ∃ k1, powK ⟨rad, D, lo, hi, grad⟩ k = k1 := ⟨_, rfl⟩
        have HK1 := Lib.hid hk1
        have hmk1 : -5003000 ≤ (wd : Int) * k1 ∧ (wd : Int) * k1 ≤ 5003000 := by
          have hlo := mul_bd (k := lo) wp.2 (B := 17000) ⟨by omega, by omega⟩
          rw [← hk1]; unfold powK; split
          · simp only; omega
          · omega
        have hk1b : -7000000 ≤ k1 ∧ k1 ≤ 7000000 := by
          rw [← hk1]; unfold powK; split
          · simp only; omega
          · omega
        clear hk1
        obtain ⟨un, hun⟩ : ∃ un, decide (k < lo) = un := ⟨_, rfl⟩
        have hz8 := R.lt
        have hsw8 : W1.heap.size ≤ w8.heap.size := by have := hb6.size; have := hb7.size; have := hb8.size; omega
        obtain ⟨Q_0, Q_1, Q_2, Q_3⟩ := Q.e4
        obtain ⟨G_0, G_1, G_2, G_3, G_4⟩ := G.e5
        go_upto_region 10 with (fail)
        clear Q_0 Q_1 Q_2 Q_3 G_0 G_1 G_2 G_3 G_4
        have HUN := Lib.hid hun
        clear hun
        have ho4o := ho4
        have ho5o := ho5
        have hr6o := hr6
        have hqo := hq
        have howo := how
        refine wp_lay1 (fun W9 hb9 hz9 P => ?_)
        replace Q := Q.past hb9
        replace G := G.past hb9
        replace R := R.past hb9
        replace hp := hp.past hb9
        replace hq := hq.past hb9
        replace how := how.past hb9
        replace ho4 := ho4.past hb9
        replace ho5 := ho5.past hb9
        replace hr6 := hr6.past hb9
        have hs9 := hs8.trans (hb9.mono hs8.size)
        obtain ⟨b1, hb1⟩ : ∃ b1, (un && grad) = b1 := ⟨_, rfl⟩
        have HB1 := Lib.hid hb1
        clear hb1
        have hp4 : p2.isSome = true → blk p2 ≠ w8.heap.size := fun h => by have := (ho4o.blk_lt h).2; omega
        have hp5 : q2.isSome = true → blk q2 ≠ w8.heap.size := fun h => by have := (ho5o.blk_lt h).2; omega
        have hp6 : 0 < (dig B32 (denP den (e - wd * k))).length → blk r2 ≠ w8.heap.size := fun h => by have := hr6o.lt h; omega
        have hpq : 0 < (dig B32 den).length → blk q ≠ w8.heap.size := fun h => by have := hqo.lt h; omega
        have hpw : pw.isSome = true → blk pw ≠ w8.heap.size := fun h => by have := (howo.blk_lt h).2; omega
        clear ho4o ho5o hr6o hqo howo
        go_cut [90] (fun s90 wx => s90 = .bool b1 ∧ wx = W9)
        case first =>
          obtain ⟨P_0, P_1, P_2, P_3, P_4, P_5⟩ := P.e6
          obtain ⟨G_0, G_1, G_2, G_3, G_4⟩ := G.e5
          cases un <;> cases grad <;> (go_wp2_with fail; go_meet; exact ⟨by rw [← HB1.out]; rfl, rfl⟩)
        case rest =>
          obtain ⟨rfl, rfl⟩ := hcut
          go_upto_if 90 with (fail)
          go_cut [9, 11, 12, 13] (fun s9 s11 s12 s13 wx => ∃ (p3 q3 r3 : Option Addr) (c3 d3 f3 : Nat), s9 = .int .i64 k1 ∧ s11 = .slice p3 (dig B32 (qP num den (e - wd * k1))).length c3 ∧ s12 = .slice q3 (dig B32 (rP num den (e - wd * k1))).length d3 ∧ s13 = .slice r3 (dig B32 (denP den (e - wd * k1))).length f3 ∧
            Own wx W1.heap.size .u32 91 p3 c3 (dig B32 (qP num den (e - wd * k1))) ∧ Own wx W1.heap.size .u32 91 q3 d3 (dig B32 (rP num den (e - wd * k1))) ∧ Rd wx .u32 r3 (dig B32 (denP den (e - wd * k1))) ∧
            (p3.isSome = true → blk p3 ≠ w8.heap.size) ∧ (q3.isSome = true → blk q3 ≠ w8.heap.size) ∧ (0 < (dig B32 (denP den (e - wd * k1))).length → blk r3 ≠ w8.heap.size) ∧ Below wc.heap.size wc wx)
          case first =>
            cases b1
            · obtain rfl : k = k1 := by
                have h1 := HK1.out; have h2 := HB1.out; have h3 := HUN.out
                unfold powK at h1
                rw [if_neg (by rintro ⟨a1, a2⟩; simp only at a1 a2; subst a2; rw [← h3, decide_eq_true a1] at h2; simp at h2)] at h1
                exact h1
              go_wp2_with fail
              go_meet
              exact ⟨p2, q2, r2, c2, d2, f2, rfl, rfl, rfl, rfl, ho4, ho5, hr6, hp4, hp5, hp6, Below.refl _ _⟩
            · obtain rfl : lo = k1 := by
                have h1 := HK1.out; have h2 := HB1.out; have h3 := HUN.out
                unfold powK at h1
                rw [if_pos ⟨by cases un; (simp at h2); simpa using h3, by cases un; (simp at h2); simpa using h2⟩] at h1
                exact h1
              obtain ⟨Q_0, Q_1, Q_2, Q_3⟩ := Q.e4
              obtain ⟨G_0, G_1, G_2, G_3, G_4⟩ := G.e5
              go_wp2_with fail
              clear Q_0 Q_1 Q_2 Q_3 G_0 G_1 G_2 G_3 G_4
              have hzc : W1.heap.size ≤ wc.heap.size := by omega
              ((with_reducible refine (scaled_any p q _ _ c d num den (e - (wd : Int) * lo) _ hp hq rfl rfl (by omega) (by omega) hd (by omega)).mono ?_))
              rintro e10 w10 ⟨p3, c3, q3, d3, r3, f3, rfl, ho7, ho8, hr9, hrq, hb10⟩
              replace Q := Q.past hb10
              replace G := G.past hb10
              replace R := R.past hb10
              replace P := P.past hb10
              replace hp := hp.past hb10
              replace hq := hq.past hb10
              replace how := how.past hb10
              replace ho4 := ho4.past hb10
              replace ho5 := ho5.past hb10
              replace hr6 := hr6.past hb10
              have hs10 := hs9.trans (hb10.mono hs9.size)
              have hzP := P.lt
              go_wp2_with fail
              go_meet
              refine ⟨p3, q3, r3, c3, d3, f3, rfl, rfl, rfl, rfl, ho7.mono hzc, ho8.mono hzc, hr9, fun h => ?_, fun h => ?_, fun h => ?_, hb10⟩
              · have := (ho7.blk_lt h).1; omega
              · have := (ho8.blk_lt h).1; omega
              · rcases hrq with rfl | hrq
                · exact hpq hden0
                · have := hrq h; omega
          case rest =>
            obtain ⟨p3, q3, r3, c3, d3, f3, rfl, rfl, rfl, rfl, ho7, ho8, hr9, hn7, hn8, hn9, hbc⟩ := hcut
            have hs10 := hs9.trans (hbc.mono hs9.size)
            have hzz : W1.heap.size ≤ wc.heap.size := by have := hbc.size; omega
            replace Q := Q.past hbc
            replace G := G.past hbc
            replace R := R.past hbc
            replace P := P.past hbc
            replace how := how.past hbc
            clear hbc
            have lX : (dig B32 (qP num den (e - wd * k1))).length ≤ 1400000 := Nat.le_trans (dig_len_mono B32_two (Nat.div_le_self _ _)) (numP_len (by omega) (by omega))
            have lZ : (dig B32 (denP den (e - wd * k1))).length ≤ 1400000 := denP_len (by omega) (by omega)
            have lY : (dig B32 (rP num den (e - wd * k1))).length ≤ 1400000 := Nat.le_trans (dig_len_mono B32_two (Nat.le_of_lt (Nat.mod_lt _ (denP_pos hd _)))) lZ
            obtain ⟨X, hX⟩ : ∃ X, qP num den (e - wd * k1) = X := ⟨_, rfl⟩
            obtain ⟨Y, hY⟩ : ∃ Y, rP num den (e - wd * k1) = Y := ⟨_, rfl⟩
            obtain ⟨Z, hZ⟩ : ∃ Z, denP den (e - wd * k1) = Z := ⟨_, rfl⟩
            rw [hX] at ho7 lX ⊢
            rw [hY] at ho8 lY ⊢
            rw [hZ] at hr9 hn9 lZ ⊢
            have HXX := Lib.hid hX
            have HYY := Lib.hid hY
            have HZZ := Lib.hid hZ
            obtain ⟨xb, hxb⟩ : ∃ xb, (((dig B32 Y).length : Int) == 0) = xb := ⟨_, rfl⟩
            clear hX hY hZ
            obtain ⟨P_0, P_1, P_2, P_3, P_4, P_5⟩ := P.e6
            have P_f0 := P.f 0
            have P_f1 := P.f 1
            have P_f2 := P.f 2
            have P_f3 := P.f 3
            have P_f4 := P.f 4
            have P_f5 := P.f 5
            go_upto_region 14 with (fail)
            clear P_0 P_1 P_2 P_3 P_4 P_5 P_f0 P_f1 P_f2 P_f3 P_f4 P_f5
            refine wp_set P (fun W11 hO11 P => ?_)
            replace P : Bx W11 w8.heap.size #[.bool ng, .slice none 0 0, .int .i64 0, .bool xb, .bool false, .bool un] := P
            replace Q := Q.only hO11 (by omega)
            replace G := G.only hO11 (by omega)
            replace R := R.only hO11 (by omega)
            replace ho7 := ho7.only hO11 hn7
            replace ho8 := ho8.only hO11 hn8
            replace hr9 := hr9.only hO11 hn9
            replace how := how.only hO11 hpw
            have hs11 := hs10.trans (hO11.below (B := w.heap.size) (by omega))
            have hzz : W1.heap.size ≤ W11.heap.size := by have := hO11.size; omega
            clear hO11
            obtain ⟨od, hod⟩ : ∃ od, decide (X % 2 = 1) = od := ⟨_, rfl⟩
            have HOD := Lib.hid hod
            have HXB := Lib.hid hxb
            clear hod hxb
            go_cut [15] (fun s15 wx => s15 = .bool od ∧ wx = W11)
            case first =>
              by_cases hX0 : 0 < (dig B32 X).length
              · have hx0 : 0 < X := by have := dig_len_zero B32_two X; omega
                rcases ho7.form with ⟨_, _, h⟩ | ⟨gX, rfl, _, _, _, _⟩
                · rw [h] at hX0; simp at hX0
                · have hcell := ho7.rd.cells 0 hX0
                  have hd0 : dg (dig B32 X) 0 = X % B32 := by rw [dig_pos B32_two hx0]; rfl
                  rw [hd0] at hcell
                  have hlt0 : X % B32 < 4294967296 := Nat.mod_lt _ B32_pos
                  have hbit : (bits BinOp.and IntKind.u32 ((X % B32 : Nat) : Int) 1 == 1) = od := by
                    rw [u32_and1 hlt0, ← HOD.out, show X % B32 % 2 = X % 2 by unfold B32; omega]
                    by_cases h : X % 2 = 1
                    · rw [h]; rfl
                    · rw [show X % 2 = 0 by omega]; rfl
                  generalize X % B32 = x0 at *
                  change W11.cell? ⟨gX, 0, none⟩ = _ at hcell
                  clear hd0
                  go_wp2_with fail
                  go_meet
                  exact ⟨rfl, rfl⟩
              · have hx0 : X = 0 := by have := dig_len_zero B32_two X; omega
                have hod0 : od = false := by rw [← HOD.out, hx0]; rfl
                subst hod0
                have hX1 : ¬ (0 : Int) < ((dig B32 X).length : Int) := by omega
                clear hx0
                go_wp2_with fail
                go_meet
                exact ⟨rfl, rfl⟩
            case rest =>
              obtain ⟨rfl, rfl⟩ := hcut
              obtain ⟨ub, hub⟩ : ∃ ub, upP ng num den e wd way k1 = ub := ⟨_, rfl⟩
              have HUB := Lib.hid hub
              clear hub
              go_upto_region 15 with (fail)
              go_cut [137] (fun s wx => s = .bool ub ∧ Below wc.heap.size wc wx)
              case first =>
                have hYY := HYY.out
                have hXX := HXX.out
                have hZZ := HZZ.out
                have hUB := HUB.out
                unfold upP at hUB
                rw [hYY, hXX, hZZ, HOD.out] at hUB
                have HUB2 := Lib.hid hUB
                clear hYY hXX hZZ hUB
                cases xb
                · have hY0 : Y ≠ 0 := by
                    have := HXB.out
                    intro h0
                    rw [h0, dig_zero] at this
                    simp at this
                  have HU3 : Hid (awayP way ng od (cmpN (Y * 2) Z) = ub) := by
                    have := HUB2.out
                    rw [decide_eq_true hY0, Bool.true_and] at this
                    exact this
                  have HLK := fun W b (hW : Ways W b) => Lib.hid (look_in hW hw1 hw2)
                  rw [HF0.out] at HLK
                  have lY2 : (dig B32 (Y * 2)).length ≤ 1500000 := by have := len_shl' Y 1 _ lY; rw [Nat.pow_one] at this; omega
                  have hcf := HCF.out
                  have hzd : wc.drew.heap.size = wc.heap.size := rfl
                  have HZD := Lib.hid hzd
                  clear hY0 hzd
                  go_region_held3 (fun w' => w'.cell? ⟨w8.heap.size, 3, none⟩ = some (.bool false) ∧ w'.cell? ⟨w.heap.size, 0, none⟩ = some (.bool ng))
                    (first 
                    | with_reducible exact ⟨P.e6.2.2.2.1, Q.e4.1⟩ 
                    | with_reducible exact ⟨(P.drew).e6.2.2.2.1, (Q.drew).e4.1⟩ 
                    | with_reducible exact ⟨((P.drew).past hbu).e6.2.2.2.1, ((Q.drew).past hbu).e4.1⟩ 
                    | with_reducible exact ⟨((P.drew).past hbs).e6.2.2.2.1, ((Q.drew).past hbs).e4.1⟩ 
                    | with_reducible exact ⟨(((P.drew).past hbu).past hbs).e6.2.2.2.1, (((Q.drew).past hbu).past hbs).e4.1⟩ 
                    | with_reducible exact ⟨(((P.drew).past hbs).past hbu).e6.2.2.2.1, (((Q.drew).past hbs).past hbu).e4.1⟩ 
                    | with_reducible exact ⟨(((P.drew).past hbs).past hbk).e6.2.2.2.1, (((Q.drew).past hbs).past hbk).e4.1⟩ 
                    | with_reducible exact ⟨((((P.drew).past hbu).past hbs).past hbk).e6.2.2.2.1, ((((Q.drew).past hbu).past hbs).past hbk).e4.1⟩ 
                    | with_reducible exact ⟨((((P.drew).past hbs).past hbu).past hbk).e6.2.2.2.1, ((((Q.drew).past hbs).past hbu).past hbk).e4.1⟩ 
                    | with_reducible exact ⟨((((P.drew).past hbs).past hbk).past hbu).e6.2.2.2.1, ((((Q.drew).past hbs).past hbk).past hbu).e4.1⟩)
                    (first
                      | (go_at_call 102; refine (ups_any _).mono ?_; rintro eu wu ⟨rfl, hwu, hbu⟩; (first | have hlu := (HLK _ wc.heap.size hwu).out | have hlu := (HLK _ _ hwu).out))
                      | (go_at_call 90; refine (shl_any q3 _ d3 Y 1 _ ?_ rfl (by omega) (by omega)).mono ?_; (first | exact (ho8.rd.drew) | exact ((ho8.rd.drew).past hbu) | exact ((ho8.rd.drew).past hbs) | exact (((ho8.rd.drew).past hbu).past hbs) | exact (((ho8.rd.drew).past hbs).past hbu) | exact (((ho8.rd.drew).past hbs).past hbk) | exact ((((ho8.rd.drew).past hbu).past hbs).past hbk) | exact ((((ho8.rd.drew).past hbs).past hbu).past hbk) | exact ((((ho8.rd.drew).past hbs).past hbk).past hbu)); rw [Nat.pow_one]; rintro es ws ⟨ps, cs, rfl, hos, hbs⟩; (first | have hls := (HLK _ wc.heap.size (hwu.past hbs)).out | skip))
                      | (go_at_call 91; refine (cmp_any ps r3 _ _ cs f3 _ _ _ ?_ ?_ rfl rfl (by omega) (by omega)).mono ?_; (first | exact hos.rd | exact hos.rd.past hbu); (first | exact (hr9.drew) | exact ((hr9.drew).past hbu) | exact ((hr9.drew).past hbs) | exact (((hr9.drew).past hbu).past hbs) | exact (((hr9.drew).past hbs).past hbu) | exact (((hr9.drew).past hbs).past hbk) | exact ((((hr9.drew).past hbu).past hbs).past hbk) | exact ((((hr9.drew).past hbs).past hbu).past hbk) | exact ((((hr9.drew).past hbs).past hbk).past hbu)); rintro ek wk ⟨rfl, hbk⟩; (first | (have hlk := (HLK _ wc.heap.size (hwu.past hbk)).out) | (have hlk := (HLK _ _ (hwu.past hbk)).out) | (have hlk := (HLK _ wc.heap.size ((hwu.past hbs).past hbk)).out) | skip))
                      | (refine (HF.out _ _ _ _).mono ?_; rintro ef wf ⟨rfl, rfl⟩))
                  all_goals (clear hcf)
                  all_goals (go_wp2_with fail)
                  all_goals go_meet
                  all_goals (refine ⟨by rw [HU3.out], ?_⟩)
                  all_goals (first
                    | exact (((Below.refl _ _).drew.trans hbu).trans (hbs.mono hbu.size)).trans (hbk.mono (Nat.le_trans hbu.size hbs.size))
                    | exact (((Below.refl _ _).drew.trans hbs).trans (hbu.mono hbs.size)).trans (hbk.mono (Nat.le_trans hbs.size hbu.size))
                    | exact (((Below.refl _ _).drew.trans hbs).trans (hbk.mono hbs.size)).trans (hbu.mono (Nat.le_trans hbs.size hbk.size)))
                · have hub0 : ub = false := by
                    have h0 : Y = 0 := by
                      have := HXB.out
                      have h1 := dig_len_zero B32_two Y
                      have h2 : ((dig B32 Y).length : Int) = 0 := by simpa using this
                      omega
                    have := HUB2.out
                    rw [h0] at this
                    simpa using this.symm
                  subst hub0
                  obtain ⟨P_0, P_1, P_2, P_3, P_4, P_5⟩ := P.e6
                  go_quiet (fail)
                  go_wp2_with fail
                  go_meet
                  exact ⟨rfl, below_drewN (Below.refl _ _) _⟩
              case rest =>
                obtain ⟨rfl, hbc⟩ := hcut
                have hs12 := hs11.trans (hbc.mono hs11.size)
                have hzz : W1.heap.size ≤ wc.heap.size := by have := hbc.size; omega
                replace Q := Q.past hbc
                replace G := G.past hbc
                replace R := R.past hbc
                replace P := P.past hbc
                replace how := how.past hbc
                replace ho7 := ho7.past hbc
                clear hbc hr9 ho8
                obtain ⟨dd, hdd⟩ : ∃ dd, digP ng num den e wd D way k1 = dd := ⟨_, rfl⟩
                obtain ⟨k2, hk2⟩ : ∃ k2, powP ng num den e wd D way k1 = k2 := ⟨_, rfl⟩
                have HDD : Hid (dd = (if ub = true ∧ wd * D < blen (X + if ub then 1 else 0) then 2 ^ N1 else X + if ub then 1 else 0) ∧ k2 = if ub = true ∧ wd * D < blen (X + if ub then 1 else 0) then k1 + 1 else k1) := by
                  rw [← hdd, ← hk2]
                  have h := digP_of (D := D) HUB.out HXX.out HN1.out
                  exact h
                have HDD0 := Lib.hid hdd
                have HKK0 := Lib.hid hk2
                clear hdd hk2
                go_upto_if 137 with (fail)
                go_cut [9, 11] (fun s9 s11 wx => ∃ (p4 : Option Addr) (c4 : Nat), s9 = .int .i64 k2 ∧ s11 = .slice p4 (dig B32 dd).length c4 ∧ Own wx W1.heap.size .u32 91 p4 c4 (dig B32 dd) ∧ (p4.isSome = true → blk p4 ≠ w8.heap.size) ∧ Below wc.heap.size wc wx)
                case first =>
                  cases ub
                  · obtain ⟨rfl, rfl⟩ : dd = X ∧ k2 = k1 := by simpa using HDD.out
                    go_wp2_with fail
                    go_meet
                    exact ⟨p3, c3, rfl, rfl, ho7, hn7, Below.refl _ _⟩
                  · have lX1 : (dig B32 (X + 1)).length ≤ 1500000 := by have := dig_len_add B32_two X 1; omega
                    have hP8 := P.lt
                    have hwz := hs12.size
                    have hbl := blen_len32 (X + 1)
                    go_wp2_with fail
                    ((with_reducible refine (gof_one _).mono ?_))
                    rintro e13 w13 ⟨p5, c5, rfl, ho5, hb13⟩
                    replace G := G.past hb13
                    replace ho7 := ho7.past hb13
                    replace how := how.past hb13
                    have hs13 := hb13
                    obtain ⟨G_0, G_1, G_2, G_3, G_4⟩ := G.e5
                    go_wp2_with fail
                    clear G_0 G_1 G_2 G_3 G_4
                    ((with_reducible refine (add_any p3 p5 _ _ c3 c5 X 1 _ ho7.rd ho5.rd rfl rfl (by omega) (by omega)).mono ?_))
                    rintro e14 w14 ⟨p6, c6, rfl, ho6, hb14⟩
                    replace G := G.past hb14
                    replace ho7 := ho7.past hb14
                    replace how := how.past hb14
                    replace ho5 := ho5.past hb14
                    have hs14 := hs13.trans (hb14.mono hs13.size)
                    obtain ⟨G_0, G_1, G_2, G_3, G_4⟩ := G.e5
                    go_wp2_with fail
                    clear G_0 G_1 G_2 G_3 G_4
                    have hwD : wd * D ≤ 480 := Nat.le_trans (Nat.mul_le_mul wp.2 (show D ≤ 120 by omega)) (by omega)
                    have e0 : IntKind.i64.wrap ((wd : Int) * (D : Int)) = ((wd * D : Nat) : Int) := by rw [IntWalk.i64_in _ (by rw [← Int.natCast_mul]; omega), Int.natCast_mul]
                    obtain ⟨G_0, G_1, G_2, G_3, G_4⟩ := G.e5
                    go_quiet ((go_at_call 94; exact Calls.quiet_of_same ((len_any p6 _ c6 (X + 1) _ (ho6.rd.drewN _) rfl (by clear e0; omega)).mono fun _ _ h => ⟨h.1, h.2.symm⟩)))
                    clear G_0 G_1 G_2 G_3 G_4
                    have hb15 := below_drewN (Below.refl (w14).heap.size (w14)) nq
                    replace G := G.past hb15
                    replace ho7 := ho7.past hb15
                    replace how := how.past hb15
                    replace ho5 := ho5.past hb15
                    replace ho6 := ho6.past hb15
                    have hs15 := hs14.trans (hb15.mono hs14.size)
                    generalize (w14).drewN nq = w15 at *
                    clear e0
                    have hz13 := hb13.size
                    have hz14 := hb14.size
                    by_cases hlong : wd * D < blen (X + 1)
                    · obtain ⟨rfl, rfl⟩ : dd = 2 ^ N1 ∧ k2 = k1 + 1 := by simpa [hlong] using HDD.out
                      go_wp2_with fail
                      go_meet
                      exact ⟨pw, cw, by go_num, rfl, how.mono hz4w, hpw, hs15⟩
                    · obtain ⟨rfl, rfl⟩ : dd = X + 1 ∧ k2 = k1 := by simpa [hlong] using HDD.out
                      go_wp2_with fail
                      go_meet
                      exact ⟨p6, c6, rfl, rfl, ho6.mono (Nat.le_trans hzz hz13), fun h => by have := (ho6.blk_lt h).1; omega, hs15⟩
                case rest =>
                  obtain ⟨p4, c4, rfl, rfl, ho10, hn10, hbc⟩ := hcut
                  have hs15 := hs12.trans (hbc.mono hs12.size)
                  replace Q := Q.past hbc
                  replace G := G.past hbc
                  replace R := R.past hbc
                  replace P := P.past hbc
                  clear hbc
                  obtain ⟨ov, hov⟩ : ∃ ov, decide (hi < k2) = ov := ⟨_, rfl⟩
                  have HPF2 : Hid (pf = ⟨ng, dd, if dd = 0 then 0 else k2, xb, ov, un⟩) := by
                    have h1 := HPF.out
                    rw [fitK_of HW.out (Int.toNat_natCast D) HK1.out HDD0.out HKK0.out HYY.out] at h1
                    have h6 := HXB.out; have h7 := HUN.out
                    simp only at h1
                    rw [hov, h7] at h1
                    rw [← h1]
                    have h9 : decide (Y = 0) = xb := by
                      rw [← h6]
                      have := dig_len_zero B32_two Y
                      by_cases h0 : Y = 0
                      · rw [decide_eq_true h0, h0, dig_zero]; rfl
                      · rw [decide_eq_false h0]; exact (beq_eq_false_iff_ne.2 (by omega)).symm
                    rw [h9]
                    rfl
                  obtain ⟨G_0, G_1, G_2, G_3, G_4⟩ := G.e5
                  obtain ⟨P_0, P_1, P_2, P_3, P_4, P_5⟩ := P.e6
                  have P_f0 := P.f 0
                  have P_f1 := P.f 1
                  have P_f2 := P.f 2
                  have P_f3 := P.f 3
                  have P_f4 := P.f 4
                  have P_f5 := P.f 5
                  go_upto_region 20 with (fail)
                  clear G_0 G_1 G_2 G_3 G_4 P_0 P_1 P_2 P_3 P_4 P_5 P_f0 P_f1 P_f2 P_f3 P_f4 P_f5
                  have HOV := Lib.hid hov
                  clear hov
                  refine wp_set P (fun W16 hO16 P => ?_)
                  replace P : Bx W16 w8.heap.size #[.bool ng, .slice none 0 0, .int .i64 0, .bool xb, .bool ov, .bool un] := P
                  replace R := R.only hO16 (by omega)
                  replace ho10 := ho10.only hO16 hn10
                  have hs16 := hs15.trans (hO16.below (B := w.heap.size) (by omega))
                  clear hO16
                  have hwP : w.heap.size ≤ w8.heap.size := by omega
                  by_cases hd0 : dd = 0
                  · have hdl : ¬ (0 : Int) < ((dig B32 dd).length : Int) := by rw [hd0, dig_zero]; simp
                    have hdl2 : ¬ 0 < (dig B32 dd).length := by omega
                    have HD0 := Lib.hid hd0
                    clear hd0
                    obtain ⟨P_0, P_1, P_2, P_3, P_4, P_5⟩ := P.e6
                    obtain ⟨R_0, R_1, R_2, R_3, R_4, R_5⟩ := R.e6
                    have R_f0 := R.f 0
                    have R_f1 := R.f 1
                    have R_f2 := R.f 2
                    have R_f3 := R.f 3
                    have R_f4 := R.f 4
                    have R_f5 := R.f 5
                    go_wp2_with fail
                    clear P_0 P_1 P_2 P_3 P_4 P_5 R_0 R_1 R_2 R_3 R_4 R_5 R_f0 R_f1 R_f2 R_f3 R_f4 R_f5
                    obtain ⟨R_0, R_1, R_2, R_3, R_4, R_5⟩ := R.e6
                    refine bodyPost_ret (v := .agg #[.bool ng, .slice none 0 0, .int .i64 0, .bool xb, .bool ov, .bool un]) (by simp [results, Tryd.results57, go_sem, R_0, R_1, R_2, R_3, R_4, R_5]) rfl ?_
                    rw [HPF2.out, if_pos HD0.out]
                    have hO := only6 W16 (w.heap.size + 1 + 1) (.bool ng) (.slice none 0 0) (.int .i64 0) (.bool xb) (.bool ov) (.bool un)
                    exact ⟨none, 0, by simp [HD0.out, dig_zero], by simp only [HD0.out, dig_zero]; exact Own.nil _ _ _ _, hs16.trans (hO.below (by omega))⟩
                  · have hdl : 0 < (dig B32 dd).length := by have := dig_len_zero B32_two dd; omega
                    have HD0 := Lib.hid hd0
                    clear hd0
                    obtain ⟨P_0, P_1, P_2, P_3, P_4, P_5⟩ := P.e6
                    have P_f0 := P.f 0
                    have P_f1 := P.f 1
                    have P_f2 := P.f 2
                    have P_f3 := P.f 3
                    have P_f4 := P.f 4
                    have P_f5 := P.f 5
                    go_upto_region 22 with (fail)
                    clear P_0 P_1 P_2 P_3 P_4 P_5 P_f0 P_f1 P_f2 P_f3 P_f4 P_f5
                    refine wp_set (P.set 1 _) (fun W17 hO17 P => ?_)
                    replace P : Bx W17 w8.heap.size #[.bool ng, .slice p4 (dig B32 dd).length c4, .int .i64 k2, .bool xb, .bool ov, .bool un] := P
                    replace hO17 := (only_set W16 w8.heap.size 1 _).trans hO17
                    replace R := R.only hO17 (by omega)
                    replace ho10 := ho10.only hO17 hn10
                    have hs17 := hs16.trans (hO17.below (B := w.heap.size) hwP)
                    clear hO17
                    obtain ⟨P_0, P_1, P_2, P_3, P_4, P_5⟩ := P.e6
                    obtain ⟨R_0, R_1, R_2, R_3, R_4, R_5⟩ := R.e6
                    have R_f0 := R.f 0
                    have R_f1 := R.f 1
                    have R_f2 := R.f 2
                    have R_f3 := R.f 3
                    have R_f4 := R.f 4
                    have R_f5 := R.f 5
                    go_wp2_with fail
                    clear P_0 P_1 P_2 P_3 P_4 P_5 R_0 R_1 R_2 R_3 R_4 R_5 R_f0 R_f1 R_f2 R_f3 R_f4 R_f5
                    obtain ⟨R_0, R_1, R_2, R_3, R_4, R_5⟩ := R.e6
                    refine bodyPost_ret (v := .agg #[.bool ng, .slice p4 (dig B32 dd).length c4, .int .i64 k2, .bool xb, .bool ov, .bool un]) (by simp [results, Tryd.results57, go_sem, R_0, R_1, R_2, R_3, R_4, R_5]) rfl ?_
                    rw [HPF2.out, if_neg HD0.out]
                    have hO := only6 W17 (w.heap.size + 1 + 1) (.bool ng) (.slice p4 (dig B32 dd).length c4) (.int .i64 k2) (.bool xb) (.bool ov) (.bool un)
                    exact ⟨p4, c4, rfl, (ho10.only hO (fun h => by have := (ho10.blk_lt h).1; omega)).mono (by omega), hs17.trans (hO.below (by omega))⟩
      · have hC : cmpN (qP num den (e - wd * k)) (2 ^ N1) ≤ -1 := by
          unfold FullP at hfull
          rw [← HN1.out] at hfull
          rw [cmpN_lt (by omega)]; omega
        have hk1 : K ≤ k - 1 := by
          rcases Int.lt_or_le (k - 1) K with h | h
          · obtain rfl : k = K := by omega
            exact absurd HK.out.yes hfull
          · exact h
        clear hfull
        have hmk2 : -5003000 ≤ (wd : Int) * (k - 1) ∧ (wd : Int) * (k - 1) ≤ 5003000 := by rw [Int.mul_sub]; omega
        go_wp2_with fail
        ((with_reducible refine (cmp_any p2 pw _ _ c2 cw _ _ _ ho4.rd how.rd rfl rfl (by omega) (by omega)).mono ?_))
        rintro e8 w8 ⟨rfl, hb8⟩
        replace Q := Q.past hb8
        replace G := G.past hb8
        replace R := R.past hb8
        replace hp := hp.past hb8
        replace hq := hq.past hb8
        replace how := how.past hb8
        have hs8 := hs7.trans (hb8.mono hs7.size)
        obtain ⟨Q_0, Q_1, Q_2, Q_3⟩ := Q.e4
        go_wp2_with fail
        clear Q_0 Q_1 Q_2 Q_3
        ((with_reducible refine (scaled_any p q _ _ c d num den (e - (wd : Int) * (k - 1)) _ hp hq rfl rfl (by omega) (by omega) hd (by omega)).mono ?_))
        rintro e9 w9 ⟨p3, c3, q3, d3, r3, f3, rfl, ho7, ho8, hr9, -, hb9⟩
        replace Q := Q.past hb9
        replace G := G.past hb9
        replace R := R.past hb9
        replace hp := hp.past hb9
        replace hq := hq.past hb9
        replace how := how.past hb9
        have hs9 := hs8.trans (hb9.mono hs8.size)
        go_wp2_with fail
        have hsw8 : W1.heap.size ≤ w8.heap.size := by have := hb6.size; have := hb7.size; have := hb8.size; omega
        go_roundg (gk - 1)
        case measure => omega
        case rel => exact ⟨k - 1, p3, q3, r3, c3, d3, f3, by go_num, by omega, by omega, hk1, rfl, rfl, rfl, ho7.mono hsw8, ho8.mono hsw8, hr9, (hb7.trans (hb8.mono hb7.size)).trans (hb9.mono (Nat.le_trans hb7.size hb8.size))⟩

end Go.Proofs.YtcipdimogodndaaDoor
