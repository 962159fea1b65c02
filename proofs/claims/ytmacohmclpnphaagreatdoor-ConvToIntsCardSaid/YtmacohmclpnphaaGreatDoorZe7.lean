/- The references' division: of more than one digit. -/
import Derived.Carry
import Derived.Test.YtmacohmclpnphaaGreatDoorZe1
import Derived.Test.YtmacohmclpnphaaGreatDoorZe2
import Derived.Test.YtmacohmclpnphaaGreatDoorZe3
import Derived.Test.YtmacohmclpnphaaGreatDoorZe4
import Derived.Test.YtmacohmclpnphaaGreatDoorZe5
import Derived.Test.YtmacohmclpnphaaGreatDoorZe6
set_option maxHeartbeats 8000000
set_option maxRecDepth 100000
namespace Go.Proofs.YtmacohmclpnphaaGreatDoor
open Go.RowKit Go.Slip
theorem _root_.Go.Slip.SmallRel.skip {B : Nat} {L xs : List Nat} {d k r : Nat} (h : SmallRel B L xs d (k + 1) r) (hk : k < xs.length) (hL : k < L.length) (hx : dg xs k < B) (hz : dg L k = 0) (hlt : r * B + dg xs k < d) : SmallRel B L xs d k (r * B + dg xs k) := by
 have h1 := (h.step hk hL hx).1
 rw [Nat.div_eq_of_lt hlt, Nat.mod_eq_of_lt hlt, c1c L k hz] at h1
 exact h1
theorem m0k {B R j : Nat} : R / B ^ j = B * (R / B ^ (j + 1)) + R / B ^ j % B := by
 rw [Nat.pow_succ, ← Nat.div_div_eq_div_mul, Nat.div_add_mod]
theorem o0d {B : Nat} (hB : 2 ≤ B) (R j : Nat) : dg (dig B R) j = R / B ^ j % B := by
 have h1 := g0u (B := B) (by omega) (dig B R) (b0a hB R) j
 have h2 := e0u B (dig B R) j
 rw [a0u hB] at h1
 rw [h1] at h2
 rw [h2, Nat.add_mul_mod_self_left, Nat.mod_eq_of_lt (a0i (by omega) _ (b0a hB R) j)]
theorem e1f {R n k tp : Nat} (hk : k ≤ n) (h : tp = R / B16 ^ (n + 1 - k)) : 65536 * tp + dg (dig B16 R) (n - k) = R / B16 ^ (n - k) := by
 rw [o0d a0b, h, show n + 1 - k = n - k + 1 by omega]
 exact (m0k (B := B16)).symm
theorem k1n {R n k : Nat} (hk : k ≤ n + 1) (h : R < B16 ^ (n + 1)) : R / B16 ^ (n + 1 - k) < B16 ^ k := by
 rw [Nat.div_lt_iff_lt_mul (Nat.pow_pos e0f), ← Nat.pow_add, show k + (n + 1 - k) = n + 1 by omega]
 exact h
theorem b1i {b n : Nat} (h2 : (dig B16 b).length = n + 2) : dg (dig B16 b) (n + 1) * 65536 + dg (dig B16 b) n = b / B16 ^ n ∧ B16 ≤ b / B16 ^ n := by
 have hb : b < B16 ^ (n + 2) := (a0e a0b b _).1 (by omega)
 have h0 : 0 < b := by
  have := a0d a0b b
  omega
 have h1 := c0x a0b b h0
 rw [h2] at h1
 have e1 : b / B16 ^ (n + 2) = 0 := Nat.div_eq_of_lt hb
 have e2 : b / B16 ^ n = B16 * (b / B16 ^ (n + 1)) + b / B16 ^ n % B16 := m0k
 have e3 : b / B16 ^ (n + 1) = B16 * (b / B16 ^ (n + 2)) + b / B16 ^ (n + 1) % B16 := m0k
 rw [o0d a0b, o0d a0b]
 have e4 : b / B16 ^ (n + 1) % B16 = b / B16 ^ (n + 1) := by rw [e1] at e3; omega
 refine ⟨by rw [e4, show (65536 : Nat) = B16 from rfl, Nat.mul_comm]; exact e2.symm, ?_⟩
 rw [Nat.le_div_iff_mul_le (Nat.pow_pos e0f), Nat.mul_comm, ← Nat.pow_succ]
 exact h1
theorem r0r (p q : Option Addr) (n m c e0 : Nat) (a b nn : Nat) (w : World) (hp : Rd w .i64 p (dig B16 a)) (hq : Rd w .i64 q (dig B16 b)) (hn : n = (dig B16 a).length) (hm : m = (dig B16 b).length)
 (hl : (dig B16 a).length ≤ 100000000) (hl2 : (dig B16 b).length ≤ 100000000) (h2 : (dig B16 b).length = nn + 2) :
 Calls Tryz.prog 132 #[.slice p n c, .slice q m e0] w (t0k w .i64 (dig B16 (a / b)) (dig B16 (a % b))) := by
 subst hn hm
 have HA := hi0 (a0u a0b a)
 have HXL := hi0 (b0a a0b a)
 generalize dig B16 a = xs at *
 obtain ⟨hun, hub⟩ := b1i h2
 obtain ⟨ys, hys⟩ : ∃ ys, ys = dig B16 b := ⟨_, rfl⟩
 rw [← hys] at hq hl2 h2 hun ⊢
 obtain ⟨b1, hb1⟩ : ∃ b1, dg ys (nn + 1) = b1 := ⟨_, rfl⟩
 obtain ⟨b0, hb0⟩ : ∃ b0, dg ys nn = b0 := ⟨_, rfl⟩
 rw [hb1, hb0] at hun
 have hb1l : b1 < 65536 := by rw [← hb1, hys]; exact a0i (B := 65536) (by omega) _ (b0a a0b b) _
 have hb0l : b0 < 65536 := by rw [← hb0, hys]; exact a0i (B := 65536) (by omega) _ (b0a a0b b) _
 obtain ⟨un, hunn⟩ : ∃ un, un = b1 * 65536 + b0 := ⟨_, rfl⟩
 rw [← hunn] at hun
 have hul : un < 4294967296 := by omega
 have HUN := hi0 hun
 have HUB := hi0 (show B16 ≤ un by rw [hun]; exact hub)
 have eun : (b1 : Int) * 65536 + (b0 : Nat) = (un : Nat) := by omega
 have HYS := hi0 hys
 have HN := hi0 h2
 have y2 : 2 ≤ ys.length := by omega
 have hsx := hp.solid
 have hsy := hq.solid
 have t1 : ((ys.length : Int) == 1) = false := bFn (by omega)
 have hcb1 := hq.cells (ys.length - 1) (by omega)
 have hcb0 := hq.cells (ys.length - 2) (by omega)
 rw [show ys.length - 1 = nn + 1 by omega, hb1, show nn + 1 = ys.length - 1 by omega] at hcb1
 rw [show ys.length - 2 = nn by omega, hb0, show nn = ys.length - 2 by omega] at hcb0
 have HB : Hid (0 < b) := by
  have := a0d a0b b
  rw [← hys] at this
  show 0 < b
  omega
 have HBL := hi0 (show b < B16 ^ (nn + 2) from (a0e a0b b _).1 (by rw [← hys]; omega))
 clear hys h2 hun hub hunn hb1 hb0
 go_enter Tryz.func132, Tryz.ntmps132
 go_wp2_with (refine g0e rfl _ _ _ rfl tyN .i64 .i64 xs.length _ _ rfl rfl ?_ ?_ ?_ ?_; omega; omega; omega; intro p1 c1 w1 ho1 hb1 hz1)
 have hsz1 := hb1.size
 have hp1l : p1.isSome = true → blk p1 < w1.heap.size := fun h => (ho1.blk_lt h).2
 go_loopw [10, 11] (fun rv iv wr => ∃ (k r : Nat) (L : List Nat) (pr : Option Addr) (cr : Nat), iv = .int .i64 ((k : Int) - 1) ∧ rv = .slice pr (dig B16 r).length cr ∧ k ≤ xs.length ∧ Hid (L.length = xs.length) ∧ Rd wr .i64 pr (dig B16 r) ∧ (dig B16 r).length ≤ cr ∧
     (0 < (dig B16 r).length → w1.heap.size ≤ blk pr) ∧ Own wr w.heap.size .i64 3 p1 c1 L ∧ Below w.heap.size w wr ∧ w1.heap.size ≤ wr.heap.size ∧ Hid (SmallRel B16 L xs b k r ∧ ∀ i, i < k → dg L i = 0))
  (fun _ iv _ => (intOf iv + 1).toNat)
 case atStart => exact ⟨xs.length, 0, _, none, 0, rfl, by rw [a0c]; rfl, Nat.le_refl _, List.length_replicate, by rw [a0c]; exact Rd.nil _ _ _, by rw [a0c]; simp, by rw [a0c]; simp, ho1, hb1, Nat.le_refl _,
   ⟨⟨fun x hx => by rw [(List.mem_replicate.1 hx).2]; exact e0f, HB.out, by simp⟩, fun i _ => c0a _ _⟩⟩
 case round =>
  obtain ⟨k, r, L, pr, cr, rfl, rfl, hk, hL, hrr, hrc, hrb, hoL, hbL, hszL, HR⟩ := hrel
  have hpL := hp.past hbL
  have hqL := hq.past hbL
  by_cases h0 : 0 < k
  · obtain ⟨j, rfl⟩ : ∃ j, k = j + 1 := ⟨k - 1, by omega⟩
    have ej : ((j + 1 : Nat) : Int) - 1 = j := by omega
    rw [ej]
    have hc1 := hpL.cells j (by omega)
    have hxd := a0i (B := 65536) (by omega) xs HXL.out j
    obtain ⟨x, hx⟩ : ∃ x, dg xs j = x := ⟨_, rfl⟩
    rw [hx] at hc1 hxd
    obtain ⟨R, hRR⟩ : ∃ R, R = r * B16 + x := ⟨_, rfl⟩
    have HX := hi0 hx
    have HRR := hi0 hRR
    have hrl : (dig B16 r).length ≤ ys.length := by rw [HYS.out]; exact a0j a0b (Nat.le_of_lt HR.out.1.2.1)
    have HLD : Hid (∀ y ∈ [x] ++ dig B16 r, y < B16) := by
     intro y hy
     rcases List.mem_append.1 hy with h | h
     · simp at h; rw [h]; exact hxd
     · exact b0a a0b r y h
    have HVR : Hid (val B16 ([x] ++ dig B16 r) = R) := by
     show val B16 ([x] ++ dig B16 r) = R
     rw [List.singleton_append, val_cons, a0u a0b, hRR, Nat.mul_comm B16 r]; omega
    have HRB := hi0 (show R < b * B16 by have := HR.out.1.push (by rw [hx]; exact hxd); rw [hRR, ← hx, Nat.mul_comm r B16]; omega)
    clear hx hRR ej
    have hxs := hsx
    go_wp2_with (first
      | (refine a0t rfl _ _ rfl tyN _ ?_ rfl ?_; omega; intro p2 w2 ho2 hb2 hz2 hp2)
      | (at_builtin; rw [Int.toNat_natCast] at ho2; refine a0v rfl _ _ _ rfl tyN _ _ _ _ _ ho2 rfl _ _ _ _ (hrr.past hb2) rfl rfl rfl ?_ ?_ ?_; (simp; omega); (have := hb2.size; omega); intro p3 c3 w3 ho3 hg3 hb3 hn3))
    refine (c0y p3 _ c3 ([x] ++ dig B16 r) _ ho3.rd rfl ho3.le_cap HLD.out (by simp; omega)).mono ?_
    rintro e w4 ⟨rfl, rfl⟩
    rw [HVR.out]
    have hrt := ho3.take (dig B16 (val B16 ([x] ++ dig B16 r))).length
    rw [a0r a0b _ HLD.out, HVR.out] at hrt
    have hrn : 0 < (dig B16 R).length → w1.heap.size ≤ blk p3 := fun h => by
     have := (hrt.blk_lt (hrt.rd.solid h).1).1
     omega
    have hb23 := hb2.trans hb3
    have hoL3 := hoL.past hb23
    have hs3 := hbL.trans (hb23.mono hbL.size)
    have hsz3 : w1.heap.size ≤ w3.heap.size := Nat.le_trans hszL hb23.size
    have hrR := hrt.rd
    have hrl2 : (dig B16 R).length ≤ ys.length + 1 := by
     rw [a0e a0b, HN.out, show nn + 2 + 1 = (nn + 2) + 1 by omega, Nat.pow_succ]
     exact Nat.lt_of_lt_of_le HRB.out (Nat.mul_le_mul_right _ (Nat.le_of_lt HBL.out))
    clear hb2 hb3 hz2 hp2 ho2 ho3 hg3 hn3 hb23 hrt hrr hrc hrb hoL hbL hszL hpL hc1
    have hq3 := hq.past hs3
    have hq3b : Rd w3 .i64 q (dig B16 b) := by rw [← HYS.out]; exact hq3
    have lyb := hi0 (show ys.length = (dig B16 b).length by rw [← HYS.out])
    have lyb2 : (dig B16 b).length ≤ 100000000 := by rw [← HYS.out]; exact hl2
    go_wp2_with fail
    refine (d0q p3 q _ _ _ e0 R b _ hrR hq3b rfl lyb.out (by omega) (by omega)).mono ?_
    rintro e w5 ⟨rfl, hb5⟩
    have hrR := hrR.past hb5
    have hoL5 := hoL3.past hb5
    have hs5 := hs3.trans (hb5.mono hs3.size)
    have hsz5 : w1.heap.size ≤ w5.heap.size := Nat.le_trans hsz3 hb5.size
    have hsb5 := hs5.size
    have hq5 := hq.past hs5
    clear hb5 hoL3 hs3 hsz3 hq3 hq3b
    by_cases hRb : R < b
    · have hC : cmpN R b ≤ -1 := by rw [f0j hRb]; omega
      have HS : Hid (SmallRel B16 L xs b j R ∧ ∀ i, i < j → dg L i = 0) := by
       have h := HR.out.1.skip (by omega) (by rw [hL.out]; omega) (by rw [HX.out]; exact hxd) (HR.out.2 j (by omega)) (by rw [HX.out, ← HRR.out]; exact hRb)
       rw [HX.out, ← HRR.out] at h
       exact ⟨h, fun i hi => HR.out.2 i (by omega)⟩
      clear hRb
      go_wp2_with fail
      go_roundw
      case rel => exact ⟨j, R, L, p3, _, rfl, rfl, by omega, hL, hrR, Nat.le_refl _, hrn, hoL5, hs5, hsz5, HS⟩
      case measure => first | (simp [intOf]; done) | (simp [intOf]; omega)
    · have hC : 0 ≤ cmpN R b := by unfold cmpN; rw [if_neg hRb]; split <;> omega
      have HRb := hi0 hRb
      have hsr := hrR.solid
      have c1 := hq5.cells (ys.length - 1) (by omega)
      have c0 := hq5.cells (ys.length - 2) (by omega)
      have i1 := (hq.cells (ys.length - 1) (by omega)).symm.trans hcb1
      have i0 := (hq.cells (ys.length - 2) (by omega)).symm.trans hcb0
      simp only [Option.some.injEq, Value.int.injEq, true_and] at i1 i0
      rw [i1] at c1
      rw [i0] at c0
      clear i1 i0 hRb
      have f1 : (0 : Int) ≤ (ys.length : Int) - 1 := by omega
      have f2 : (ys.length : Int) - 1 < (ys.length : Int) := by omega
      have f3 : (0 : Int) ≤ (ys.length : Int) - 2 := by omega
      have f4 : (ys.length : Int) - 2 < (ys.length : Int) := by omega
      have e1 : IntKind.i64.wrap ((ys.length : Int) - 1) = (ys.length : Int) - 1 := iwo
      have e2 : IntKind.i64.wrap ((ys.length : Int) - 2) = (ys.length : Int) - 2 := iwo
      have e3 : ((ys.length : Int) - 1).toNat = ys.length - 1 := by omega
      have e4 : ((ys.length : Int) - 2).toNat = ys.length - 2 := by omega
      have e5 : IntKind.i64.wrap ((b1 : Int) * 65536) = (b1 : Int) * 65536 := iwo
      have e6 : IntKind.i64.wrap (un : Int) = (un : Int) := iwo
      go_wp2_with fail
      go_quiet (fail)
      clear f1 f2 f3 f4 e1 e2 e3 e4 e5 e6 c1 c0
      have hrR := hrR.drewN nq
      have hoL6 := hoL5.drewN nq
      have hs6 := below_drewN hs5 nq
      have hq6 := hq5.drewN nq
      have hsz6 : w1.heap.size ≤ (w5.drewN nq).heap.size := hsz5
      generalize w5.drewN nq = w6 at *
      clear hoL5 hs5 hq5 hsz5 hsb5
      go_wp2_with fail
      have HRn := hi0 (show R < B16 ^ (ys.length + 1) by rw [HN.out, Nat.pow_succ]; exact Nat.lt_of_lt_of_le HRB.out (Nat.mul_le_mul_right _ (Nat.le_of_lt HBL.out)))
      go_loop [12, 14] (fun tv kv => ∃ (kk tp : Nat), kv = .int .i64 kk ∧ tv = .int .i64 tp ∧ kk ≤ 3 ∧ tp < 281474976710656 ∧ (kk < 3 → tp < 4294967296) ∧ Hid (tp = R / B16 ^ (ys.length + 1 - kk))) (fun _ kv => 3 - (intOf kv).toNat)
      case atStart => exact ⟨0, 0, rfl, rfl, by omega, by omega, fun _ => by omega, (show 0 = R / B16 ^ (ys.length + 1 - 0) from (Nat.div_eq_of_lt HRn.out).symm)⟩
      case round =>
       obtain ⟨kk, tp, rfl, rfl, hkk, htp, htp2, HT⟩ := hrel
       by_cases hk3 : kk < 3
       · have htp3 := htp2 hk3
         obtain ⟨dd, hdd⟩ : ∃ dd, dg (dig B16 R) (ys.length - kk) = dd := ⟨_, rfl⟩
         have hstep := e1f (R := R) (n := ys.length) (k := kk) (by omega) HT.out
         rw [hdd] at hstep
         have hlt := k1n (R := R) (n := ys.length) (k := kk + 1) (by omega) HRn.out
         rw [show ys.length + 1 - (kk + 1) = ys.length - kk by omega, ← hstep] at hlt
         have hlt3 : 65536 * tp + dd < 281474976710656 := Nat.lt_of_lt_of_le hlt (Nat.le_trans (Nat.pow_le_pow_right e0f (show kk + 1 ≤ 3 by omega)) (by decide))
         have hlt2 : kk + 1 < 3 → 65536 * tp + dd < 4294967296 := fun h => Nat.lt_of_lt_of_le hlt (Nat.le_trans (Nat.pow_le_pow_right e0f (show kk + 1 ≤ 2 by omega)) (by decide))
         have HS : Hid (65536 * tp + dd = R / B16 ^ (ys.length + 1 - (kk + 1))) := by rw [show ys.length + 1 - (kk + 1) = ys.length - kk by omega]; exact hstep
         have hddl : dd < 65536 := by rw [← hdd]; exact a0i (B := 65536) (by omega) _ (b0a a0b R) _
         have g1 : (0 : Int) ≤ (ys.length : Int) - (kk : Int) := by omega
         have g3 : ((ys.length : Int) - (kk : Int)).toNat = ys.length - kk := by omega
         clear hlt hstep
         by_cases hat : ys.length - kk < (dig B16 R).length
         · have hcr := hrR.cells (ys.length - kk) hat
           rw [hdd] at hcr
           have g2 : (ys.length : Int) - (kk : Int) < ((dig B16 R).length : Int) := by omega
           have HL2 := hi0 hlt2
           clear hat hdd hlt2 htp2
           go_wp2_with fail
           go_round
           case rel => exact ⟨kk + 1, 65536 * tp + dd, by go_num, by go_num, by omega, hlt3, HL2.out, HS⟩
           case measure => simp [intOf]; omega
         · have hd0 : dd = 0 := by rw [← hdd]; exact b0j (by omega)
           subst hd0
           have g2 : ((dig B16 R).length : Int) ≤ (ys.length : Int) - (kk : Int) := by omega
           have HL2 := hi0 hlt2
           clear hat hdd hlt2 htp2
           go_wp2_with fail
           go_round
           case rel => exact ⟨kk + 1, 65536 * tp + 0, by go_num, by go_num, by omega, hlt3, HL2.out, HS⟩
           case measure => simp [intOf]; omega
       · obtain rfl : kk = 3 := by omega
         have hT : tp = R / B16 ^ nn := by have := HT.out; rw [HN.out, show nn + 2 + 1 - 3 = nn by omega] at this; exact this
         obtain ⟨ht1, ht2⟩ := w0a (P := B16 ^ nn) (Nat.pow_pos e0f) (by rw [← HUN.out]; exact HUB.out) HRB.out
         rw [← hT, ← HUN.out] at ht1 ht2
         have hqd : R / b < 65536 := by rw [Nat.div_lt_iff_lt_mul HB.out, Nat.mul_comm]; exact HRB.out
         obtain ⟨xq, hxq⟩ : ∃ xq, xq = tp / (un + 1) := ⟨_, rfl⟩
         obtain ⟨qd, hqq⟩ : ∃ qd, qd = R / b := ⟨_, rfl⟩
         rw [← hxq, ← hqq] at ht1 ht2
         rw [← hqq] at hqd
         have ex : (tp : Int) / ((un : Int) + 1) = (xq : Nat) := by rw [hxq]; rfl
         have HQD := hi0 hqq
         have hu1 : (1 : Int) ≤ (un : Int) + 1 := by omega
         clear hT hxq hqq hk3 htp2
         go_wp2_with fail
         obtain ⟨d0, hd0⟩ : ∃ d0 : Nat, (d0 : Int) = min 65535 (max 0 ((xq : Int) - 1) + 4) := ⟨(min 65535 (max 0 ((xq : Int) - 1) + 4)).toNat, by omega⟩
         have hd1 : qd ≤ d0 := by omega
         have hd2 : d0 ≤ 65535 := by omega
         have HD0 := hi0 hd0
         clear hd0 ex ht1 ht2 hu1
         go_loopg [10, 17] d0 (fun g rv dv wr2 => ∃ (d : Nat), d = g ∧ rv = .slice p3 (dig B16 R).length (dig B16 R).length ∧ dv = .int .i64 d ∧ qd ≤ d ∧ d ≤ 65535 ∧ Below w6.heap.size w6 wr2)
         case atStart => exact ⟨d0, rfl, rfl, congrArg (Value.int .i64) HD0.out.symm, hd1, hd2, Below.refl _ _⟩
         case round =>
          obtain ⟨d, rfl, rfl, rfl, hqd1, hdl, hb7⟩ := hrel
          have ld : (dig B16 d).length ≤ 1 := (a0e a0b d 1).2 (by unfold B16; omega)
          have lbd : (dig B16 (b * d)).length ≤ 100000001 := by have := d0n a0b b d; omega
          go_wp2_with fail
          ((with_reducible refine (t0t d _ (by omega)).mono ?_))
          rintro e w8 ⟨p8, c8, rfl, hr8, -, -, hb8⟩
          have hs8 := hb7.trans (hb8.mono hb7.size)
          have hq8 : Rd w8 .i64 q (dig B16 b) := by rw [← HYS.out]; exact hq6.past hs8
          clear hb7 hb8
          go_wp2_with fail
          ((with_reducible refine (f0e q p8 _ _ e0 c8 b d _ hq8 hr8 lyb.out rfl (by omega)).mono ?_))
          rintro e w9 ⟨p9, c9, rfl, hr9, -, -, hb9⟩
          have hs9 := hs8.trans (hb9.mono hs8.size)
          clear hs8 hb9 hr8 hq8
          go_wp2_with fail
          ((with_reducible refine (d0q p9 p3 _ _ c9 _ (b * d) R _ hr9 (hrR.past hs9) rfl rfl (by omega) (by omega)).mono ?_))
          rintro e w10 ⟨rfl, hb10⟩
          have hs10 := hs9.trans (hb10.mono hs9.size)
          have hr10 := hr9.past hb10
          have hrR10 := hrR.past hs10
          clear hs9 hb10 hr9
          by_cases hle : b * d ≤ R
          · have hC2 : cmpN (b * d) R ≤ 0 := by unfold cmpN; split; omega; rw [if_neg (by omega)]; omega
            have hdq : d = qd := by
             have : d ≤ qd := by rw [HQD.out, Nat.le_div_iff_mul_le HB.out, Nat.mul_comm]; exact hle
             omega
            have HMM := hi0 (show R - b * d = R % b by rw [hdq, HQD.out]; have := Nat.div_add_mod R b; omega)
            have HS : Hid (SmallRel B16 (L.set j d) xs b j (R % b) ∧ ∀ i, i < j → dg (L.set j d) i = 0) := by
             have h := (HR.out.1.step (by omega) (by rw [hL.out]; omega) (by rw [HX.out]; exact hxd)).1
             rw [HX.out, ← HRR.out, ← HQD.out, ← hdq] at h
             exact ⟨h, fun i hi => by rw [b0l (by omega)]; exact HR.out.2 i (by omega)⟩
            have HLE := hi0 hle
            clear hdq hle
            go_wp2_with fail
            ((with_reducible refine (i0n p3 p9 _ _ _ c9 R (b * d) _ hrR10 hr10 rfl rfl (by omega) HLE.out).mono ?_))
            rw [HMM.out]
            rintro e w11 ⟨p11, c11, rfl, hr11, hl11, hk11, hb11⟩
            have hs11 := hs10.trans (hb11.mono hs10.size)
            have hk12 : 0 < (dig B16 (R % b)).length → w1.heap.size ≤ blk p11 := fun h => by
             have := hk11 h
             have := hs10.size
             omega
            have hoL11 := hoL6.past hs11
            have hbw11 := hs6.trans (hs11.mono hs6.size)
            have hsz11 : w1.heap.size ≤ w11.heap.size := Nat.le_trans hsz6 hs11.size
            have hsL := hoL11.solid
            rw [hL.out] at hsL
            have hjL : j < L.length := by rw [hL.out]; omega
            have hps := hi0 (hoL11.rd.solid (by omega)).1
            clear hs10 hb11 hrR10 hr10 hk11 hC2
            go_wp2_with (refine a0p rfl _ _ _ rfl 3 tyN _ _ _ _ hoL11 j hjL _ ?_ rfl rfl ?_; omega; intro w12 ho12 hg12 hb12)
            rw [Int.toNat_natCast] at ho12
            have hz12 := hg12.size
            go_roundw
            case rel => exact ⟨j, R % b, _, p11, c11, rfl, rfl, by omega, (by show (List.set _ _ _).length = _; rw [List.length_set]; exact hL.out), hr11.written hg12 (fun h0 h1 => by have := hk12 h0; have := hp1l h1; omega) hps.out, hl11, hk12, ho12, hbw11.trans hb12, Nat.le_trans hsz11 hz12, HS⟩
            case measure => first | (simp [intOf]; done) | (simp [intOf]; omega)
          · have hC2 : 1 ≤ cmpN (b * d) R := by rw [l0f (by omega)]; omega
            have hd1 : qd ≤ d - 1 ∧ 1 ≤ d := by
             have : qd ≠ d := by
              intro h
              have h1 := Nat.div_mul_le_self R b
              rw [← HQD.out, h, Nat.mul_comm] at h1
              exact hle h1
             omega
            obtain ⟨hd3, hd4⟩ := hd1
            have ed : (d : Int) - 1 = ((d - 1 : Nat) : Int) := by omega
            clear hle
            go_wp2_with fail
            go_roundg (d - 1)
            case measure => omega
            case rel => exact ⟨d - 1, rfl, rfl, rfl, hd3, by omega, hs10⟩
  · obtain rfl : k = 0 := by omega
    obtain ⟨hv, hm⟩ := HR.out.1.done HA.out
    have HM := hi0 hm
    have HV := hi0 hv
    have HLB := hi0 HR.out.1.1
    clear hv hm
    go_wp2_with fail
    refine (c0y p1 xs.length c1 L _ hoL.rd hL.out.symm (by rw [hL.out]; exact hL.out ▸ hoL.le_cap) HLB.out (by rw [hL.out]; omega)).mono ?_
    rintro e w3 ⟨rfl, rfl⟩
    rw [HV.out]
    go_wp2_with fail
    go_ret2
    have ht := a0r a0b L HLB.out
    have ho3 := hoL.take (dig B16 (val B16 L)).length
    rw [ht, HV.out] at ho3
    rw [← HM.out]
    exact ⟨p1, _, pr, _, rfl, ho3.rd, Nat.le_refl _, g0w ho3, hrr, hrc, fun h => Nat.le_trans hsz1 (hrb h), hbL⟩
theorem m0l (p q : Option Addr) (n m c e0 : Nat) (a b : Nat) (w : World) (hp : Rd w .i64 p (dig B16 a)) (hq : Rd w .i64 q (dig B16 b)) (hn : n = (dig B16 a).length) (hm : m = (dig B16 b).length)
 (hl : (dig B16 a).length ≤ 100000000) (hl2 : (dig B16 b).length ≤ 100000000) (hb : 0 < b) :
 Calls Tryz.prog 132 #[.slice p n c, .slice q m e0] w (t0k w .i64 (dig B16 (a / b)) (dig B16 (a % b))) := by
 by_cases h1 : (dig B16 b).length = 1
 · obtain ⟨h2, h3⟩ := n0e a0b h1
   rw [h1] at hm
   rw [e0w a0b h2 h3] at hq
   exact t0l p q n m c e0 a b w hp hq hn hm (by omega) h2 h3
 · have h0 : (dig B16 b).length ≠ 0 := by
    have := a0d a0b b
    omega
   exact r0r p q n m c e0 a b ((dig B16 b).length - 2) w hp hq hn hm hl hl2 (by omega)
instance decDv : DecidableEq Dv := fun a b => decidable_of_iff (a.neg = b.neg ∧ a.m = b.m ∧ a.e = b.e) ⟨fun h => Dv.ext' h.1 h.2.1 h.2.2, fun h => by subst h; exact ⟨rfl, rfl, rfl⟩⟩
structure InF (w : World) (base : Nat) (a : Rw) : Prop where
 rd : Rd w .i64 a.p (dig B16 a.m)
 cap : (dig B16 a.m).length ≤ a.c
 len : (dig B16 a.m).length ≤ 1000000
 lo : -1000000 ≤ a.e
 hi : a.e ≤ 1000000
 at_ : 0 < (dig B16 a.m).length → base ≤ blk a.p
theorem InF.past {w w' : World} {base : Nat} {a : Rw} (h : InF w base a) (hb : Below w.heap.size w w') : InF w' base a := ⟨h.rd.past hb, h.cap, h.len, h.lo, h.hi, h.at_⟩
theorem InF.drew {w : World} {base : Nat} {a : Rw} (h : InF w base a) : InF w.drew base a := ⟨h.rd.drew, h.cap, h.len, h.lo, h.hi, h.at_⟩
theorem InF.mono {w : World} {base base' : Nat} {a : Rw} (h : InF w base a) (hb : base' ≤ base) : InF w base' a := ⟨h.rd, h.cap, h.len, h.lo, h.hi, fun k => Nat.le_trans hb (h.at_ k)⟩
theorem InF.only {w w' : World} {base k : Nat} {a : Rw} (h : InF w base a) (hb : Only k w w') (hne : 0 < (dig B16 a.m).length → blk a.p ≠ k) : InF w' base a := ⟨h.rd.only hb hne, h.cap, h.len, h.lo, h.hi, h.at_⟩
theorem InF.lt {w : World} {base : Nat} {a : Rw} (h : InF w base a) : 0 < (dig B16 a.m).length → blk a.p < w.heap.size := fun k => h.rd.lt k
def GRf (w : World) (xs : List Nat) (en : Ending) (w' : World) : Prop :=
 ∃ p c, en = .returned (.slice p xs.length c) ∧ Rf w' w.heap.size p c xs ∧ Below w.heap.size w w'
theorem f0b.grf {w w' : World} {xs : List Nat} {en : Ending} (h : f0b w .i64 xs en w') : GRf w xs en w' := by
 obtain ⟨p, c, h1, h2, h3, h4, h5⟩ := h
 exact ⟨p, c, h1, j1g h2 h3 h4, h5⟩
def GNf (w : World) (base : Nat) (d : Dv) (en : Ending) (w' : World) : Prop :=
 ∃ p c, en = .returned (.agg #[.bool d.neg, .slice p (dig B16 d.m).length c, .int .i64 d.e]) ∧ Rf w' base p c (dig B16 d.m) ∧ Below w.heap.size w w'
theorem k1o (N : Int) (n : Nat) (h : N = n) (hn : n ≤ 1000000000) (w : World) : Calls Tryz.prog 25 #[.int .i64 N] w (GRf w (dig B16 (2 ^ n))) := by
 subst h; exact (i0m n w hn).mono fun _ _ => f0b.grf
theorem i1c (p q : Option Addr) (n m c d : Nat) (a b x : Nat) (w : World) (hp : Rd w .i64 p (dig B16 a)) (hq : Rd w .i64 q (dig B16 b)) (hn : n = (dig B16 a).length) (hm : m = (dig B16 b).length)
 (hl : (dig B16 a).length ≤ 100000000) (hl2 : (dig B16 b).length ≤ 100000000) (h : a + b = x) :
 Calls Tryz.prog 61 #[.slice p n c, .slice q m d] w (GRf w (dig B16 x)) := by
 subst h; exact (i0l p q n m c d a b w hp hq hn hm (by omega)).mono fun _ _ => f0b.grf
theorem k1p (p q : Option Addr) (n m c d : Nat) (a b x : Nat) (w : World) (hp : Rd w .i64 p (dig B16 a)) (hq : Rd w .i64 q (dig B16 b)) (hn : n = (dig B16 a).length) (hm : m = (dig B16 b).length)
 (hl : (dig B16 a).length ≤ 100000000) (hl2 : (dig B16 b).length ≤ 100000000) (h : a * b = x) :
 Calls Tryz.prog 59 #[.slice p n c, .slice q m d] w (GRf w (dig B16 x)) := by
 subst h; exact (f0e p q n m c d a b w hp hq hn hm (by omega)).mono fun _ _ => f0b.grf
theorem rup (p : Option Addr) (n c : Nat) (a N x : Nat) (M : Int) (w : World) (hp : Rd w .i64 p (dig B16 a)) (hn : n = (dig B16 a).length) (hl : (dig B16 a).length ≤ 100000000) (hN : N ≤ 1000000000) (hM : M = N) (h : a * 2 ^ N = x) :
 Calls Tryz.prog 57 #[.slice p n c, .int .i64 M] w (GRf w (dig B16 x)) := by
 subst h hM; exact (h0h p n c a N w hp hn hl hN).mono fun _ _ => f0b.grf
theorem f1u {w w' : World} {d : Dv} {en : Ending} (h : n0n w (fun _ => False) d en w') : GNf w w.heap.size d en w' := by
 obtain ⟨p, c, h1, h2, h3, h4, h5⟩ := h
 exact ⟨p, c, h1, l1g h2 h3 h4, h5⟩
structure FitR (d : Dv) : Prop where
 len : (dig B16 d.m).length ≤ 1000000
 lo : -1000000 ≤ d.e
 hi : d.e ≤ 1000000
theorem f1v (a b d : Dv) (p q : Option Addr) (c c' : Nat) (w : World) (hp : Rd w .i64 p (dig B16 a.m)) (hq : Rd w .i64 q (dig B16 b.m)) (fa : FitR a) (fb : FitR b) (h : d0l a b = d) :
 Calls Tryz.prog 23 #[.agg #[.bool a.neg, .slice p (dig B16 a.m).length c, .int .i64 a.e], .agg #[.bool b.neg, .slice q (dig B16 b.m).length c', .int .i64 b.e]] w (GNf w w.heap.size d) := by
 subst h
 exact (r0m a.neg b.neg p q _ c _ c' a.e b.e a.m b.m w hp hq rfl rfl fa.len fb.len ⟨fa.lo, fa.hi⟩ ⟨fb.lo, fb.hi⟩).mono fun _ _ => f1u
theorem o0e (g : Bool) (p : Option Addr) (n c : Nat) (e : Int) (m : Nat) (d : Dv) (w : World) (hp : Rd w .i64 p (dig B16 m)) (hn : n = (dig B16 m).length) (hl : (dig B16 m).length ≤ 1000000) (he : -1000000 ≤ e ∧ e ≤ 1000000) (h : bare ⟨g, m, e⟩ = d) :
 Calls Tryz.prog 62 #[.agg #[.bool g, .slice p n c, .int .i64 e]] w (GNf w w.heap.size d) := by
 subst h
 exact (f0f g p n c e m w hp hn (by omega) (by omega)).mono fun _ _ => f1u
theorem e0q (s e f d l g k : Int) (w : World) : Calls Tryz.prog 82 #[.int .i64 s, .int .i64 e, .int .i64 f, .int .i64 d, .int .i64 l, .int .i64 g, .int .i64 k] w
 fun en w' => en = .returned (.agg #[.int .i64 s, .int .i64 e, .int .i64 f, .int .i64 2, .int .i64 d, .int .i64 l, .int .i64 g, .bool (k == 1), .int .i64 k]) ∧ Below w.heap.size w w' := by
 have I := Inv.start w [] True.intro
 refine a0f [.v (.int .i64 s), .v (.int .i64 e), .v (.int .i64 f), .v (.int .i64 d), .v (.int .i64 l), .v (.int .i64 g), .v (.int .i64 k)] I Tryz.func82 ?_
 exact zrb I
theorem f0g (n : Int) (hn : IsFm n) (w : World) : Calls Tryz.prog 29 #[.int .i64 n] w
 fun e w' => e = .returned (.tuple #[.agg #[.int .i64 (((fmt n).size : Nat) : Int), .int .i64 (((fmt n).E : Nat) : Int), .int .i64 (((fmt n).F : Nat) : Int), .int .i64 (fmt n).g.rad, .int .i64 (fmt n).g.digs, .int .i64 (fmt n).g.lo, .int .i64 (fmt n).g.hi, .bool (fmt n).g.grad, .int .i64 (((fmt n).fam : Nat) : Int)], .bool true]) ∧ Below w.heap.size w w' := by
 rcases l0b hn with rfl | rfl | rfl | rfl | rfl | rfl | rfl | rfl
 · have I := Inv.start w [] True.intro
   refine a0f [.v (.int .i64 1)] I Tryz.func29 ?_
   refine zq I (fun Al W I => e0q 4 8 23 24 (-149) 104 1 W) fun Al W I => ?_
   exact zret I (v := fun Al => .tuple #[.agg #[.int .i64 4, .int .i64 8, .int .i64 23, .int .i64 2, .int .i64 24, .int .i64 (-149), .int .i64 104, .bool true, .int .i64 1], .bool true]) fun Al W I => ⟨by kernel_rfl, I.below⟩
 · have I := Inv.start w [] True.intro
   refine a0f [.v (.int .i64 2)] I Tryz.func29 ?_
   refine zq I (fun Al W I => e0q 8 11 52 53 (-1074) 971 1 W) fun Al W I => ?_
   exact zret I (v := fun Al => .tuple #[.agg #[.int .i64 8, .int .i64 11, .int .i64 52, .int .i64 2, .int .i64 53, .int .i64 (-1074), .int .i64 971, .bool true, .int .i64 1], .bool true]) fun Al W I => ⟨by kernel_rfl, I.below⟩
 · have I := Inv.start w [] True.intro
   refine a0f [.v (.int .i64 3)] I Tryz.func29 ?_
   refine zq I (fun Al W I => e0q 10 15 64 64 (-16445) 16320 1 W) fun Al W I => ?_
   exact zret I (v := fun Al => .tuple #[.agg #[.int .i64 10, .int .i64 15, .int .i64 64, .int .i64 2, .int .i64 64, .int .i64 (-16445), .int .i64 16320, .bool true, .int .i64 1], .bool true]) fun Al W I => ⟨by kernel_rfl, I.below⟩
 · have I := Inv.start w [] True.intro
   refine a0f [.v (.int .i64 4)] I Tryz.func29 ?_
   exact zret I (v := fun Al => .tuple #[.agg #[.int .i64 4, .int .i64 7, .int .i64 24, .int .i64 16, .int .i64 6, .int .i64 (-70), .int .i64 57, .bool false, .int .i64 2], .bool true]) fun Al W I => ⟨by kernel_rfl, I.below⟩
 · have I := Inv.start w [] True.intro
   refine a0f [.v (.int .i64 5)] I Tryz.func29 ?_
   exact zret I (v := fun Al => .tuple #[.agg #[.int .i64 8, .int .i64 7, .int .i64 56, .int .i64 16, .int .i64 14, .int .i64 (-78), .int .i64 49, .bool false, .int .i64 2], .bool true]) fun Al W I => ⟨by kernel_rfl, I.below⟩
 · have I := Inv.start w [] True.intro
   refine a0f [.v (.int .i64 6)] I Tryz.func29 ?_
   refine zq I (fun Al W I => e0q 4 8 23 24 (-151) 103 3 W) fun Al W I => ?_
   exact zret I (v := fun Al => .tuple #[.agg #[.int .i64 4, .int .i64 8, .int .i64 23, .int .i64 2, .int .i64 24, .int .i64 (-151), .int .i64 103, .bool false, .int .i64 3], .bool true]) fun Al W I => ⟨by kernel_rfl, I.below⟩
 · have I := Inv.start w [] True.intro
   refine a0f [.v (.int .i64 7)] I Tryz.func29 ?_
   refine zq I (fun Al W I => e0q 8 8 55 56 (-183) 71 3 W) fun Al W I => ?_
   exact zret I (v := fun Al => .tuple #[.agg #[.int .i64 8, .int .i64 8, .int .i64 55, .int .i64 2, .int .i64 56, .int .i64 (-183), .int .i64 71, .bool false, .int .i64 3], .bool true]) fun Al W I => ⟨by kernel_rfl, I.below⟩
 · have I := Inv.start w [] True.intro
   refine a0f [.v (.int .i64 8)] I Tryz.func29 ?_
   refine zq I (fun Al W I => e0q 8 11 52 53 (-1076) 970 3 W) fun Al W I => ?_
   exact zret I (v := fun Al => .tuple #[.agg #[.int .i64 8, .int .i64 11, .int .i64 52, .int .i64 2, .int .i64 53, .int .i64 (-1076), .int .i64 970, .bool false, .int .i64 3], .bool true]) fun Al W I => ⟨by kernel_rfl, I.below⟩
theorem j0g (n : Int) (hn : ¬ IsFm n) (w : World) : Calls Tryz.prog 29 #[.int .i64 n] w
 fun e w' => e = .returned (.tuple #[.agg #[.int .i64 (((fmt n).size : Nat) : Int), .int .i64 (((fmt n).E : Nat) : Int), .int .i64 (((fmt n).F : Nat) : Int), .int .i64 (fmt n).g.rad, .int .i64 (fmt n).g.digs, .int .i64 (fmt n).g.lo, .int .i64 (fmt n).g.hi, .bool (fmt n).g.grad, .int .i64 (((fmt n).fam : Nat) : Int)], .bool false]) ∧ Below w.heap.size w w' := by
 rw [t0s hn]
 unfold IsFm at hn
 have I := Inv.start w [] True.intro
 refine a0f [.v (.int .i64 n)] I Tryz.func29 ?_
 refine zb I 7 (n == 1) (false) (bFn (by omega)) fun Al W I => ?_
 refine zb I 11 (n == 2) (false) (bFn (by omega)) fun Al W I => ?_
 refine zb I 15 (n == 3) (false) (bFn (by omega)) fun Al W I => ?_
 refine zb I 19 (n == 4) (false) (bFn (by omega)) fun Al W I => ?_
 refine zb I 23 (n == 5) (false) (bFn (by omega)) fun Al W I => ?_
 refine zb I 27 (n == 6) (false) (bFn (by omega)) fun Al W I => ?_
 refine zb I 31 (n == 7) (false) (bFn (by omega)) fun Al W I => ?_
 refine zb I 35 (n == 8) (false) (bFn (by omega)) fun Al W I => ?_
 exact zret I (v := fun Al => .tuple #[.agg #[.int .i64 0, .int .i64 0, .int .i64 0, .int .i64 0, .int .i64 0, .int .i64 0, .int .i64 0, .bool false, .int .i64 0], .bool false]) fun Al W I => ⟨by kernel_rfl, I.below⟩
theorem j0h (n : Int) (w : World) : Calls Tryz.prog 29 #[.int .i64 n] w
 fun e w' => e = .returned (.tuple #[.agg #[.int .i64 (((fmt n).size : Nat) : Int), .int .i64 (((fmt n).E : Nat) : Int), .int .i64 (((fmt n).F : Nat) : Int), .int .i64 (fmt n).g.rad, .int .i64 (fmt n).g.digs, .int .i64 (fmt n).g.lo, .int .i64 (fmt n).g.hi, .bool (fmt n).g.grad, .int .i64 (((fmt n).fam : Nat) : Int)], .bool (decide (IsFm n))]) ∧ Below w.heap.size w w' := by
 by_cases hn : IsFm n
 · rw [decide_eq_true hn]; exact f0g n hn w
 · rw [decide_eq_false hn]; exact j0g n hn w
theorem m0m (n : Int) (s : ByteArray) (w : World) : Calls Tryz.prog 30 #[.int .i64 n, .string s] w
 fun e w' => e = .returned (.int .i64 (a0z n s)) ∧ Below w.heap.size w w' := by
 by_cases hn : IsFm n
 · have HF := fun W => hi0 (f0g n hn W)
   by_cases hs : s.size = (fmt n).size
   · rw [d0a.2 ⟨hn, hs⟩]
     generalize fmt n = f at *
     have I := Inv.start w [] True.intro
     refine a0f [.v (.int .i64 n), .v (.string s)] I Tryz.func30 ?_
     refine zq I (fun Al W I => (HF W).out) fun Al W I => ?_
     refine zb I 18 ((s.size : Int) != (f.size : Int)) (false) (by simp [hs]) fun Al W I => ?_
     exact zrb I
   · rw [show a0z n s = 1 by unfold a0z; rw [if_pos hn, if_neg hs]]
     generalize fmt n = f at *
     have I := Inv.start w [] True.intro
     refine a0f [.v (.int .i64 n), .v (.string s)] I Tryz.func30 ?_
     refine zq I (fun Al W I => (HF W).out) fun Al W I => ?_
     refine zb I 18 ((s.size : Int) != (f.size : Int)) (true) (bne_iff_ne.2 (fun h => hs (by omega))) fun Al W I => ?_
     exact zrb I
 · have HF := fun W => hi0 (j0g n hn W)
   rw [show a0z n s = 6 by unfold a0z; rw [if_neg hn]]
   generalize fmt n = f at *
   have I := Inv.start w [] True.intro
   refine a0f [.v (.int .i64 n), .v (.string s)] I Tryz.func30 ?_
   refine zq I (fun Al W I => (HF W).out) fun Al W I => ?_
   exact zrb I
theorem f1w {n : Int} (h : IsFm n) : (fmt n).ext = decide (n = 3) := by
 rcases l0b h with rfl | rfl | rfl | rfl | rfl | rfl | rfl | rfl <;> rfl
theorem r0s (n : Int) (i : Nat) (w : World) (hn : IsFm n) (hi : i < (fmt n).size) : Calls Tryz.prog 142 #[.int .i64 n, .int .i64 (i : Int)] w
 fun e w' => e = .returned (.int .i64 ((plc (fmt n).ord (fmt n).size i : Nat) : Int)) ∧ Below w.heap.size w w' := by
 have HF := fun W => hi0 (f0g n hn W)
 have G := e0k hn
 have z1 := G.sz
 have he := f1w hn
 generalize fmt n = f at *
 by_cases h3 : n = 3
 · rw [decide_eq_true h3] at he
   have hp : ((plc f.ord f.size i : Nat) : Int) = (f.size : Int) - 1 - i := by unfold plc Fm.ord; rw [he, if_pos rfl, if_pos rfl]; omega
   rw [hp]
   have I := Inv.start w [] True.intro
   refine a0f [.v (.int .i64 n), .v (.int .i64 (i : Int))] I Tryz.func142 ?_
   refine zq I (fun Al W I => (HF W).out) fun Al W I => ?_
   refine zb I 14 (n == 3) (true) (beq_iff_eq.2 h3) fun Al W I => ?_
   refine zi I 17 .i64 ((f.size : Int) - 1) ((f.size : Int) - 1) (iwo) fun Al W I => ?_
   refine zi I 19 .i64 (((f.size : Int) - 1) - (i : Int)) (((f.size : Int) - 1) - (i : Int)) (iwo) fun Al W I => ?_
   exact zrb I
 · rw [decide_eq_false h3] at he
   by_cases hf : f.fam = 3
   · have hp : ((plc f.ord f.size i : Nat) : Int) = (i : Int) + 1 - 2 * ((i % 2 : Nat) : Int) := by unfold plc Fm.ord; rw [he, if_neg (show ¬ (false = true) by simp), if_pos hf, if_neg (by omega), if_pos rfl]; omega
     rw [hp]
     have I := Inv.start w [] True.intro
     refine a0f [.v (.int .i64 n), .v (.int .i64 (i : Int))] I Tryz.func142 ?_
     refine zq I (fun Al W I => (HF W).out) fun Al W I => ?_
     refine zb I 14 (n == 3) (false) (bFn h3) fun Al W I => ?_
     refine zb I 23 ((f.fam : Int) == 3) (true) (beq_iff_eq.2 (by omega)) fun Al W I => ?_
     refine zi I 25 .i64 ((i : Int) + 1) ((i : Int) + 1) (iwo) fun Al W I => ?_
     refine zbin I 27 _ (fun _ _ _ _ _ => z0i .i64 (i : Int) (2) (((i % 2 : Nat) : Int)) ((show (2 : Int) ≠ 0 by omega)) ((by exact (Int.ofNat_tmod i 2).symm))) fun Al W I => ?_
     refine zi I 28 .i64 ((2 : Int) * ((i % 2 : Nat) : Int)) ((2 : Int) * ((i % 2 : Nat) : Int)) (iwo) fun Al W I => ?_
     refine zi I 29 .i64 (((i : Int) + 1) - ((2 : Int) * ((i % 2 : Nat) : Int))) (((i : Int) + 1) - ((2 : Int) * ((i % 2 : Nat) : Int))) (iwo) fun Al W I => ?_
     exact zrb I
   · have hp : ((plc f.ord f.size i : Nat) : Int) = (i : Int) := by unfold plc Fm.ord; rw [he, if_neg (show ¬ (false = true) by simp), if_neg hf, if_neg (by omega), if_neg (by omega)]
     rw [hp]
     have I := Inv.start w [] True.intro
     refine a0f [.v (.int .i64 n), .v (.int .i64 (i : Int))] I Tryz.func142 ?_
     refine zq I (fun Al W I => (HF W).out) fun Al W I => ?_
     refine zb I 14 (n == 3) (false) (bFn h3) fun Al W I => ?_
     refine zb I 23 ((f.fam : Int) == 3) (false) (bFn (by omega)) fun Al W I => ?_
     exact zrb I
end Go.Proofs.YtmacohmclpnphaaGreatDoor
namespace Go.Slip
theorem p0t (c : Nat) {j : Nat} (h : j < 8) : (d0v c).take (j + 1) = (d0v c).take j ++ [c / (128 / 2 ^ j) % 2 == 1] := by
 match j, h with
 | 0, _ => rfl
 | 1, _ => rfl
 | 2, _ => rfl
 | 3, _ => rfl
 | 4, _ => rfl
 | 5, _ => rfl
 | 6, _ => rfl
 | 7, _ => rfl
theorem k1q {k j : Nat} (h : k = 128 / 2 ^ j) (hj : j ≤ 8) : k = 0 ↔ j = 8 := by
 subst h
 match j, hj with
 | 0, _ => decide
 | 1, _ => decide
 | 2, _ => decide
 | 3, _ => decide
 | 4, _ => decide
 | 5, _ => decide
 | 6, _ => decide
 | 7, _ => decide
 | 8, _ => decide
theorem l1v {k j : Nat} (h : k = 128 / 2 ^ j) : k ≤ 128 := by rw [h]; exact Nat.div_le_self _ _
theorem k0u : ∀ (x y : List Nat), f0n (x ++ y) = f0n x ++ f0n y
 | [], _ => rfl
 | c :: r, y => by show d0v c ++ f0n (r ++ y) = _; rw [k0u r y]; simp [f0n]
theorem w0z (L : List Nat) {i : Nat} (h : i < L.length) : f0n (L.take (i + 1)) = f0n (L.take i) ++ (d0v (dg L i)).take 8 := by
 rw [← List.take_append_getElem h, k0u, b0k h]
 congr 1
end Go.Slip
namespace Go.Proofs.YtmacohmclpnphaaGreatDoor
open Go.RowKit Go.Slip
def GBs (w : World) (bs : List Bool) (en : Ending) (w' : World) : Prop :=
 ∃ p c, en = .returned (.slice p bs.length c) ∧ OwnV w' w.heap.size 4 p c (bs.map Value.bool) ∧ Below w.heap.size w w'
theorem p0u (n : Int) (s : ByteArray) (w : World) (hn : IsFm n) (hs : s.size = (fmt n).size) :
 Calls Tryz.prog 83 #[.int .i64 n, .string s] w (GBs w (f0n (ordL (fmt n).ord (b0b s)))) := by
 have G := e0k hn
 have z1 := G.sz
 have HP := fun i W h => hi0 (r0s n i W hn h)
 generalize fmt n = f at *
 have hl0 : (b0b s).length = f.size := by rw [b0w, hs]
 have hlL : (ordL f.ord (b0b s)).length = f.size := by rw [b0p, hl0]
 have hbL := h0r (o := f.ord) (xs := b0b s) (fun _ => by omega) (k0a s)
 have hdg : ∀ i, i < f.size → dg (b0b s) (plc f.ord f.size i) = dg (ordL f.ord (b0b s)) i := fun i hi => by rw [k0g (by omega), hl0]
 have hpl : ∀ i, i < f.size → plc f.ord f.size i < s.size := fun i hi => by rw [hs]; exact a1b (fun _ => by omega) hi
 generalize ordL f.ord (b0b s) = L at *
 have hsucc := fun i (h : i < f.size) => w0z L (i := i) (by omega)
 have hdb := k1d hbL
 have hlen : ∀ i, i ≤ f.size → (f0n (L.take i)).length = 8 * i := fun i hi => by rw [h0c, List.length_take]; omega
 have hall : L.take f.size = L := List.take_of_length_le (by omega)
 clear hbL hl0
 refine calls_of_wp Tryz.func83 rfl ?_
 refine b0c (a' := ⟨((.int .i64 n) :: (.string s) :: us 32 []).toArray, []⟩) (by kernel_rfl) ?_
 refine yq ?_
 refine yq ?_
 refine wp_seq ?_
 refine yq ?_
 refine wp_block ?_
 refine b0c (a' := ⟨((.int .i64 n) :: (.string s) :: us 2 ((.slice none 0 0) :: (.slice none 0 0) :: (.int .i64 0) :: us 27 [])).toArray, []⟩) (by kernel_rfl) ?_
 refine h0o (fun (gk : Nat) U0 a' w' => ∃ (i : Nat) (p5 : Option Addr) (c5 : Nat) (n5 : Nat), a' = ⟨((.int .i64 n) :: (.string s) :: us 2 ((.slice none 0 0) :: (.slice p5 n5 c5) :: (.int .i64 (i : Int)) :: uvs U0 7 26 (undef :: []))).toArray, []⟩ ∧ (OwnV w' w.heap.size 4 p5 c5 ((f0n (L.take i)).map Value.bool)) ∧ Below w.heap.size w w' ∧ (n5 = 8 * i) ∧ (gk + i = f.size)) f.size ?_ (fun Gx hGx => ?_)
 · exact ⟨0, none, 0, 0, by kernel_rfl, (by rw [List.take_zero]; exact OwnV.nil _ _ _), Below.refl _ _, (by omega), (by omega)⟩
 rintro gk0 U0 _ V1 ⟨i, p5, c5, n5, rfl, o5, hbV1, hn5, hgk⟩
 refine hGx _ _ _ ?_
 clear hGx Gx
 have hzV1 := hbV1.size
 refine wp_seq ?_
 refine ye ?_
 rcases Bool.eq_false_or_eq_true (decide ((i : Int) < (s.size : Int))) with f12 | f12
 · refine yb 3 rfl 12 (decide ((i : Int) < (s.size : Int))) (true) (f12) ?_
   refine yzt 0 ?_
   refine yT ?_
   refine wp_skip ?_
   refine a0n ?_
   refine wp_seq ?_
   refine wp_block ?_
   refine ye ?_
   refine yc 3 rfl 18 ((HP i V1 (by have := oTr f12; omega)).out) (fun Gx hGx => ?_)
   rintro eV2 V2 ⟨rfl, hbV2⟩
   have hzV2 := hbV2.size
   refine ⟨_, rfl, hGx _ _ ?_⟩
   clear hGx Gx
   refine yv 0 rfl 19 (.int .u8 ((dg L i : Nat) : Int)) ?_ (c1w uStr (m := plc f.ord f.size i) (by kernel_rfl) (by kernel_rfl) (hpl i (by have := oTr f12; omega)) (by rw [hdg i (by have := oTr f12; omega)]))
   refine ya 0 rfl 20 .i64 ((dg L i : Nat) : Int) (((dg L i : Nat) : Int)) ((IntWalk.i64_in _ (by have := hdb i; omega))) ?_
   refine yzt 1 ?_
   refine yq ?_
   refine wp_block ?_
   refine b0c (a' := ⟨((.int .i64 n) :: (.string s) :: us 2 ((.slice none 0 0) :: (.slice p5 n5 c5) :: (.int .i64 (i : Int)) :: (.int .i64 ((dg L i : Nat) : Int)) :: (.int .i64 128) :: (.int .i64 (i : Int)) :: (.string s) :: (.int .i64 (s.size : Int)) :: (.bool true) :: uvs U0 13 2 ((.string s) :: (.int .i64 n) :: (.int .i64 (i : Int)) :: (.int .i64 ((plc f.ord f.size i : Nat) : Int)) :: (.int .u8 ((dg L i : Nat) : Int)) :: (.int .i64 ((dg L i : Nat) : Int)) :: uvs U0 21 12 (undef :: [])))).toArray, []⟩) (by kernel_rfl) ?_
   refine h0o (fun (gk : Nat) U1 a' w' => ∃ (j : Nat) (k : Nat) (p7 : Option Addr) (c7 : Nat) (n7 : Nat), a' = ⟨((.int .i64 n) :: (.string s) :: us 2 ((.slice none 0 0) :: (.slice p7 n7 c7) :: (.int .i64 (i : Int)) :: (.int .i64 ((dg L i : Nat) : Int)) :: (.int .i64 (k : Int)) :: (.int .i64 (i : Int)) :: (.string s) :: (.int .i64 (s.size : Int)) :: (.bool true) :: uvs U0 13 2 ((.string s) :: (.int .i64 n) :: (.int .i64 (i : Int)) :: (.int .i64 ((plc f.ord f.size i : Nat) : Int)) :: (.int .u8 ((dg L i : Nat) : Int)) :: (.int .i64 ((dg L i : Nat) : Int)) :: uvs U1 21 12 (undef :: [])))).toArray, []⟩ ∧ (OwnV w' w.heap.size 4 p7 c7 ((f0n (L.take i) ++ (d0v (dg L i)).take j).map Value.bool)) ∧ Below w.heap.size w w' ∧ (n7 = 8 * i + j) ∧ (k = 128 / 2 ^ j) ∧ (gk + j = 8)) 8 ?_ (fun Gx hGx => ?_)
   · replace o5 := (o5.past hbV2)
     exact ⟨0, 128, p5, c5, n5, by kernel_rfl, (by rw [List.take_zero, List.append_nil]; exact o5), (a0g hbV1 hbV2), hn5, (by decide), (by omega)⟩
   rintro gk1 U1 _ V3 ⟨j, k, p7, c7, n7, rfl, o7, hbV3, hn7, hk, hgk1⟩
   refine hGx _ _ _ ?_
   clear hGx Gx
   have hzV3 := hbV3.size
   refine wp_seq ?_
   have hi8 : (f0n (L.take i)).length = 8 * i := hlen i (by have := oTr f12; omega)
   have hk0 : k = 0 ↔ j = 8 := k1q hk (by omega)
   refine ye ?_
   rcases Bool.eq_false_or_eq_true (decide ((k : Int) > 0)) with f22 | f22
   · refine yb 1 rfl 22 (decide ((k : Int) > 0)) (true) (f22) ?_
     refine yzt 0 ?_
     refine yT ?_
     refine wp_skip ?_
     refine a0n ?_
     refine wp_seq ?_
     refine wp_block ?_
     refine b0e ?_
     refine yv 3 rfl 28 (.int .i64 ((dg L i / k : Nat) : Int)) ?_ (u0q (X := (((dg L i : Nat) : Int))) (Y := (k : Int)) ((dg L i / k : Nat) : Int) (by kernel_rfl) (by kernel_rfl) ((by have := oTr f22; omega)) ((by rw [show ((dg L i : Nat) : Int).tdiv (k : Int) = ((dg L i / k : Nat) : Int) from (Int.ofNat_tdiv _ _).symm]; have h1 := hdb i; have h2 := Nat.div_le_self (dg L i) k; generalize dg L i / k = qq at *; exact iwo)))
     refine yv 0 rfl 29 (.int .i64 ((dg L i / k % 2 : Nat) : Int)) ?_ (c1m (X := (((dg L i / k : Nat) : Int))) (Y := (2)) ((dg L i / k % 2 : Nat) : Int) (by kernel_rfl) (by kernel_rfl) ((show (2 : Int) ≠ 0 by omega)) ((by exact (Int.ofNat_tmod _ 2).symm)))
     refine yb 0 rfl 30 (((dg L i / k % 2 : Nat) : Int) == 1) ((dg L i / k % 2 == 1)) ((by exact i0k _)) ?_
     refine ywv 0 rfl 31 (.slice (some ⟨V3.heap.size, 0, none⟩) 1 1) #[.bool (dg L i / k % 2 == 1)] 4 (fun V4 hbV4 hzV4 b31 => ?_)
     replace o7 := (o7.past hbV4)
     refine sapv 32 i0j w.heap.size p7 n7 c7 _ o7 (by simp [hi8, f0d]; omega) (some ⟨V3.heap.size, 0, none⟩) 1 1 [Value.bool (dg L i / k % 2 == 1)] (g1r b31) rfl rfl (by simp [hi8, f0d]; omega) (by omega) (8 * i + (j + 1)) (by simp [hi8, f0d]; have := oTr f22; omega) (fun p32 c32 V5 o32 hjV5 => ?_)
     have hbV5 : Below w.heap.size w V5 := (a0g hbV3 hbV4).trans (hjV5.mono (by omega))
     have hzV5 := hbV5.size
     refine yz 1 ?_
     refine c0g ?_
     refine a0n ?_
     refine b0e ?_
     refine yv 1 rfl 24 (.int .i64 ((k / 2 : Nat) : Int)) ?_ (u0q (X := (k : Int)) (Y := (2)) ((k / 2 : Nat) : Int) (by kernel_rfl) (by kernel_rfl) ((show (2 : Int) ≠ 0 by omega)) ((by rw [show (k : Int).tdiv 2 = ((k / 2 : Nat) : Int) from (Int.ofNat_tdiv k 2).symm]; exact IntWalk.i64_in _ (by have := l1v hk; omega))))
     refine yz 1 ?_
     refine a0n ?_
     refine ⟨gk1 - 1, (by have := oTr f22; omega), ?_⟩
     exact ⟨j + 1, k / 2, p32, c32, 8 * i + (j + 1), by kernel_rfl, (by rw [p0t _ (show j < 8 by have := oTr f22; omega), ← hk, ← List.append_assoc, List.map_append (l₁ := _ ++ _)]; exact o32), hbV5, rfl, (by rw [hk, Nat.div_div_eq_div_mul, Nat.pow_succ]), (by have := oTr f22; omega)⟩
   refine yb 1 rfl 22 (decide ((k : Int) > 0)) (false) (f22) ?_
   refine yzt 0 ?_
   refine yF ?_
   refine wp_exit ?_
   repeat (with_reducible refine d0p ?_)
   refine j0w (id := 2) ?_
   refine c0g ?_
   refine a0n ?_
   refine b0e ?_
   refine ya 1 rfl 14 .i64 ((i : Int) + 1) (((i + 1 : Nat) : Int)) ((by rw [show ((i : Int) + 1) = ((i + 1 : Nat) : Int) by omega]; exact IntWalk.i64_in _ (by have := oTr f12; omega))) ?_
   refine yz 1 ?_
   refine a0n ?_
   refine ⟨gk0 - 1, (by have := oTr f12; omega), ?_⟩
   exact ⟨i + 1, p7, c7, n7, by kernel_rfl, (by rw [hsucc i (by have := oTr f12; omega), ← hk0.1 (by have := oFa f22; omega)]; exact o7), hbV3, (by have := hk0.1 (by have := oFa f22; omega); omega), (by have := oTr f12; omega)⟩
 refine yb 3 rfl 12 (decide ((i : Int) < (s.size : Int))) (false) (f12) ?_
 refine yzt 0 ?_
 refine yF ?_
 refine wp_exit ?_
 repeat (with_reducible refine d0p ?_)
 refine j0w (id := 0) ?_
 refine a0n ?_
 refine yq ?_
 refine wp_ret ?_
 repeat (first | with_reducible refine a0x ?_ | with_reducible refine a0o ?_)
 refine yret (.slice p5 n5 c5) (res1 Tryz.results83 rvt) ?_
 have hi : i = f.size := by have := oFa f12; omega
 have hL8 : (f0n L).length = n5 := by rw [← hall, hlen _ (Nat.le_refl _)]; omega
 rw [hi, hall] at o5
 exact ⟨p5, c5, by rw [hL8], o5, hbV1⟩
end Go.Proofs.YtmacohmclpnphaaGreatDoor
namespace Go.Slip
theorem j0i (bs : List Bool) {i : Nat} (h : i < bs.length) : vb (bs.take i) * 2 + (bs.getD i false).toNat = vb (bs.take (i + 1)) := by
 rw [r0b bs i h, Nat.mul_comm, List.getD_eq_getElem?_getD, List.getElem?_eq_getElem h]
 rfl
theorem v0k (bs : List Bool) {i : Nat} (h : i < bs.length) : (bs.map Value.bool)[i]? = some (.bool (bs.getD i false)) := by
 rw [List.getElem?_map, List.getD_eq_getElem?_getD, List.getElem?_eq_getElem h]
 rfl
end Go.Slip
namespace Go.Proofs.YtmacohmclpnphaaGreatDoor
open Go.RowKit Go.Slip
theorem m0n : dig B16 2 = [2] := by rw [d0i a0b (by omega), show 2 / B16 = 0 by unfold B16; omega, a0c, show 2 % B16 = 2 by unfold B16; omega]
theorem k1r {w : World} {b : Nat} {t : TypeId} (h : Bt w b t #[.int .i64 2]) : Rf w b (some ⟨b, 0, none⟩) 1 (dig B16 2) := by rw [m0n]; exact e1z (k := 2) h
theorem b1j : 1 = (dig B16 2).length := by rw [m0n]; rfl
theorem d0f {x n k : Nat} (h : x < 2 ^ n) (hk : n ≤ 16 * k) : (dig B16 x).length ≤ k := by
 rw [a0e a0b]
 unfold B16
 rw [show (65536 : Nat) = 2 ^ 16 from rfl, ← Nat.pow_mul]
 exact Nat.lt_of_lt_of_le h (Nat.pow_le_pow_right (by omega) hk)
theorem r0t (bs : List Bool) (p : Option Addr) (n c : Nat) (w : World) (hp : RdV w p (bs.map Value.bool)) (hn : n = bs.length) (hl : bs.length ≤ 200) :
 Calls Tryz.prog 84 #[.slice p n c] w (GRf w (dig B16 (vb bs))) := by
 subst hn
 have hd : ∀ i, (dig B16 (vb (bs.take i))).length ≤ 100 := fun i => d0f (n := 200) (Nat.lt_of_lt_of_le (k0e _) (Nat.pow_le_pow_right (by omega) (by rw [List.length_take]; omega))) (by omega)
 have hd2 : ∀ i, (dig B16 (vb (bs.take i) * 2)).length ≤ 101 := fun i => d0f (n := 201) (by have h := k0e (bs.take i); have h2 : 2 ^ (bs.take i).length ≤ 2 ^ 200 := Nat.pow_le_pow_right (by omega) (by rw [List.length_take]; omega); rw [show 201 = 200 + 1 from rfl, Nat.pow_succ]; generalize 2 ^ 200 = T at *; omega) (by omega)
 have hsucc := fun i h => j0i bs (i := i) h
 have hall : bs.take bs.length = bs := List.take_length
 have hget := fun i h => v0k bs (i := i) h
 have hln : (bs.map Value.bool).length = bs.length := List.length_map ..
 refine calls_of_wp Tryz.func84 rfl ?_
 refine b0c (a' := ⟨((.slice p bs.length c) :: us 21 []).toArray, []⟩) (by kernel_rfl) ?_
 refine yq ?_
 refine yq ?_
 refine wp_seq ?_
 refine yq ?_
 refine wp_block ?_
 refine b0c (a' := ⟨((.slice p bs.length c) :: undef :: (.slice none 0 0) :: (.slice none 0 0) :: (.int .i64 0) :: us 17 []).toArray, []⟩) (by kernel_rfl) ?_
 refine h0o (fun (gk : Nat) U0 a' w' => ∃ (i : Nat) (p3 : Option Addr) (c3 : Nat) (n3 : Nat), a' = ⟨((.slice p bs.length c) :: undef :: (.slice none 0 0) :: (.slice p3 n3 c3) :: (.int .i64 (i : Int)) :: uvs U0 5 16 (undef :: [])).toArray, []⟩ ∧ (Rf w' w.heap.size p3 c3 (dig B16 (vb (bs.take i)))) ∧ Below w.heap.size w w' ∧ (n3 = (dig B16 (vb (bs.take i))).length) ∧ (gk + i = bs.length)) bs.length ?_ (fun Gx hGx => ?_)
 · exact ⟨0, none, 0, 0, by kernel_rfl, (by rw [List.take_zero, z0o, a0c]; exact y0p _ _ _), Below.refl _ _, (by rw [List.take_zero, z0o, a0c]; rfl), (by omega)⟩
 rintro gk0 U0 _ V1 ⟨i, p3, c3, n3, rfl, o3, hbV1, hn3, hgk⟩
 refine hGx _ _ _ ?_
 clear hGx Gx
 have hzV1 := hbV1.size
 have lo3 := fun h => o3.lt h
 refine wp_seq ?_
 refine ye ?_
 rcases Bool.eq_false_or_eq_true (decide ((i : Int) < (bs.length : Int))) with f8 | f8
 · refine yb 3 rfl 8 (decide ((i : Int) < (bs.length : Int))) (true) (f8) ?_
   refine yzt 0 ?_
   refine yT ?_
   refine wp_skip ?_
   refine a0n ?_
   refine wp_seq ?_
   refine wp_block ?_
   refine ye ?_
   refine ywv 1 rfl 12 (.slice (some ⟨V1.heap.size, 0, none⟩) 1 1) #[.int .i64 2] 3 (fun V2 hbV2 hzV2 b12 => ?_)
   replace o3 := (o3.past hbV2)
   refine yc 0 rfl 13 (k1p p3 (some ⟨V1.heap.size, 0, none⟩) n3 1 c3 1 (vb (bs.take i)) 2 (vb (bs.take i) * 2) V2 o3.rd (k1r b12).rd hn3 b1j (by have := hd i; omega) (by rw [m0n]; decide) rfl) (fun Gx hGx => ?_)
   rintro eV3 V3 ⟨p13, c13, rfl, o13, hbV3⟩
   have hzV3 := hbV3.size
   have lo13 := fun h => o13.lt h
   refine ⟨_, rfl, hGx _ _ ?_⟩
   clear hGx Gx
   refine yzt 1 ?_
   refine ye ?_
   replace hp := (hp.past (a0g (a0g hbV1 hbV2) hbV3))
   refine yv 2 rfl 16 (.pointer (some (at_ p i))) ?_ (p0d (p := p) (n := bs.length) (c := c) (m := i) i0j (by have h := hp.solid; rw [hln] at h; exact h) (by kernel_rfl) (by kernel_rfl) (by have := oTr f8; omega))
   rcases Bool.eq_false_or_eq_true (bs.getD i false) with f17 | f17
   · refine yv 0 rfl 17 (.bool true) ?_ ((show _ = Result.ok (Next.value (.bool (bs.getD i false))) _ from (u0y hp m0d (m := i) (by kernel_rfl) (hget i (by have := oTr f8; omega)))).trans (congrArg (fun z => Result.ok (Next.value (.bool z)) _) (show (bs.getD i false) = true from f17)))
     refine yzt 0 ?_
     refine yT ?_
     refine b0e ?_
     refine ywv 1 rfl 19 (.slice (some ⟨V3.heap.size, 0, none⟩) 1 1) #[.int .i64 1] 3 (fun V4 hbV4 hzV4 b19 => ?_)
     replace o13 := (o13.past hbV4)
     refine yc 0 rfl 20 (i1c p13 (some ⟨V3.heap.size, 0, none⟩) _ 1 c13 1 (vb (bs.take i) * 2) 1 (vb (bs.take (i + 1))) V4 o13.rd (r0n b19).rd rfl g0b (by have := hd2 i; omega) (by rw [m0f]; decide) (by rw [← hsucc i (by have := oTr f8; omega), f17, Bool.toNat_true])) (fun Gx hGx => ?_)
     rintro eV5 V5 ⟨p20, c20, rfl, o20, hbV5⟩
     have hzV5 := hbV5.size
     have lo20 := fun h => o20.lt h
     refine ⟨_, rfl, hGx _ _ ?_⟩
     clear hGx Gx
     refine yz 1 ?_
     refine c0g ?_
     refine a0n ?_
     refine b0e ?_
     refine ya 1 rfl 10 .i64 ((i : Int) + 1) (((i + 1 : Nat) : Int)) ((by rw [show ((i : Int) + 1) = ((i + 1 : Nat) : Int) by omega]; exact IntWalk.i64_in _ (by have := oTr f8; omega))) ?_
     refine yz 1 ?_
     refine a0n ?_
     refine ⟨gk0 - 1, (by have := oTr f8; omega), ?_⟩
     exact ⟨i + 1, p20, c20, (dig B16 (vb (bs.take (i + 1)))).length, by kernel_rfl, o20.mono (by omega), (a0g (a0g (a0g (a0g hbV1 hbV2) hbV3) hbV4) hbV5), rfl, (by have := oTr f8; omega)⟩
   refine yv 0 rfl 17 (.bool false) ?_ ((show _ = Result.ok (Next.value (.bool (bs.getD i false))) _ from (u0y hp m0d (m := i) (by kernel_rfl) (hget i (by have := oTr f8; omega)))).trans (congrArg (fun z => Result.ok (Next.value (.bool z)) _) (show (bs.getD i false) = false from f17)))
   refine yzt 0 ?_
   refine yF ?_
   refine wp_skip ?_
   refine c0g ?_
   refine a0n ?_
   refine b0e ?_
   refine ya 1 rfl 10 .i64 ((i : Int) + 1) (((i + 1 : Nat) : Int)) ((by rw [show ((i : Int) + 1) = ((i + 1 : Nat) : Int) by omega]; exact IntWalk.i64_in _ (by have := oTr f8; omega))) ?_
   refine yz 1 ?_
   refine a0n ?_
   refine ⟨gk0 - 1, (by have := oTr f8; omega), ?_⟩
   exact ⟨i + 1, p13, c13, (dig B16 (vb (bs.take i) * 2)).length, by kernel_rfl, (by rw [← hsucc i (by have := oTr f8; omega), f17, Bool.toNat_false, Nat.add_zero]; exact o13.mono (by omega)), (a0g (a0g hbV1 hbV2) hbV3), (by rw [← hsucc i (by have := oTr f8; omega), f17, Bool.toNat_false, Nat.add_zero]), (by have := oTr f8; omega)⟩
 refine yb 3 rfl 8 (decide ((i : Int) < (bs.length : Int))) (false) (f8) ?_
 refine yzt 0 ?_
 refine yF ?_
 refine wp_exit ?_
 repeat (with_reducible refine d0p ?_)
 refine j0w (id := 0) ?_
 refine a0n ?_
 refine yq ?_
 refine wp_ret ?_
 repeat (first | with_reducible refine a0x ?_ | with_reducible refine a0o ?_)
 refine yret (.slice p3 n3 c3) (res1 Tryz.results84 rvt) ?_
 have hi : i = bs.length := by have := oFa f8; omega
 rw [hi, hall] at o3 hn3
 exact ⟨p3, c3, by rw [hn3], o3.mono (by omega), hbV1⟩
def b1k (w : World) (v : Vr) (en : Ending) (w' : World) : Prop :=
 ∃ p c, en = .returned (.agg #[.int .i64 (v.cls : Int), .bool v.neg, .bool v.x.neg, .slice p (dig B16 v.x.m).length c, .int .i64 v.x.e]) ∧ Rf w' w.heap.size p c (dig B16 v.x.m) ∧ Below w.heap.size w w'
theorem r0u {w w' : World} {k : Nat} {n : Bool} {en : Ending} (h : en = .returned (.agg #[.int .i64 (k : Int), .bool n, .bool false, .slice none 0 0, .int .i64 0])) (hb : Below w.heap.size w w') : b1k w ⟨k, n, ⟨false, 0, 0⟩⟩ en w' := by
 refine ⟨none, 0, ?_, ?_, hb⟩
 · rw [h, a0c]; rfl
 · rw [a0c]; exact y0p _ _ _
theorem c0s (f : Fm) (g : Bool) (bg bf x : Nat) (p : Option Addr) (c b0 : Nat) (pw : Int) (w : World) (hp : Rf w b0 p c (dig B16 x)) (hl : (dig B16 x).length ≤ 1000) (hpw : -100000 ≤ pw ∧ pw ≤ 100000)
 (Bg : Bt w bg 4 #[.bool g]) (Bf : Bt w bf 62 #[.int .i64 (f.size : Int), .int .i64 (f.E : Int), .int .i64 (f.F : Int), .int .i64 f.g.rad, .int .i64 f.g.digs, .int .i64 f.g.lo, .int .i64 f.g.hi, .bool f.g.grad, .int .i64 (f.fam : Int)]) :
 Calls Tryz.prog 85 #[.slice p (dig B16 x).length c, .int .i64 pw, .pointer (some ⟨bg, 0, none⟩), .pointer (some ⟨bf, 0, none⟩)] w (b1k w (f.vr g ⟨2, x, pw⟩)) := by
 have hx0 := a0d a0b x
 have wp := b0f f.g
 have lg := Bg.lt
 have lf := Bf.lt
 have hmu := n0z (wd := wid f.g) (k := pw) (B := 100000) wp.2 hpw
 by_cases h0 : x = 0
 · have hv : f.vr g ⟨2, x, pw⟩ = ⟨1, g, ⟨false, 0, 0⟩⟩ := by unfold Fm.vr Dc.c; simp [h0]
   have hb0 : bare ⟨g, x, wid f.g * pw⟩ = ⟨false, 0, 0⟩ := by rw [h0]; rfl
   rw [hv]
   generalize hmw : (wid f.g : Int) * pw = mw at *
   have HMW := hi0 hmw
   clear hmw
   have I := Inv.startR w [bg, bf] [⟨4, [.v (.bool g)], true⟩, ⟨62, [.v (.int .i64 (f.size : Int)), .v (.int .i64 (f.E : Int)), .v (.int .i64 (f.F : Int)), .v (.int .i64 f.g.rad), .v (.int .i64 f.g.digs), .v (.int .i64 f.g.lo), .v (.int .i64 f.g.hi), .v (.bool f.g.grad), .v (.int .i64 (f.fam : Int))], true⟩] [rfF b0 p c (dig B16 x)] ⟨Bg, Bf, True.intro⟩ ⟨hp, True.intro⟩
   refine a0f [.v (.slice p (dig B16 x).length c), .v (.int .i64 pw), .p 0 0, .p 1 0] I Tryz.func85 ?_
   refine zcut I none (fun fr bx gs => ∃ (U1 : Nat → Value) (p16 : Option Addr) (c16 : Nat), fr = (.v (.slice p (dig B16 x).length c) :: .v (.int .i64 pw) :: .p 0 0 :: .p 1 0 :: su 2 (.p 2 0 :: .p 3 0 :: sw U1 8 12 (.v undef :: sw U1 21 5 [])) : List SV) ∧ bx = [⟨4, [.v (.bool g)], true⟩, ⟨62, [.v (.int .i64 (f.size : Int)), .v (.int .i64 (f.E : Int)), .v (.int .i64 (f.F : Int)), .v (.int .i64 f.g.rad), .v (.int .i64 f.g.digs), .v (.int .i64 f.g.lo), .v (.int .i64 f.g.hi), .v (.bool f.g.grad), .v (.int .i64 (f.fam : Int))], true⟩, ⟨32, [.v (.int .i64 0), .v (.bool false), .v (.bool false), .v (.slice none 0 0), .v (.int .i64 0)], false⟩, ⟨30, [.v (.bool false), .v (.slice p16 (dig B16 0).length c16), .v (.int .i64 0)], false⟩] ∧ gs = [rfF w.heap.size p16 c16 (dig B16 0), rfF b0 p c (dig B16 x)]) ?_ ?_
   · intro J hJ Al W I
     refine zd [] I fun Al W I => ?_
     refine zk [0, 1, 2, 3, 5] I fun I => ?_
     refine zo2 4 9 I (fun I => ?_) (fun I => ?_)
     · refine zq I (fun Al W I => e0c f.g W) fun Al W I => ?_
       refine zki 6 I .i64 (((wid f.g : Nat) : Int) * pw) (mw) ((by rw [HMW.out]; exact iwo)) fun I => ?_
       refine zk [7] I fun I => ?_
       refine zo2 8 9 I (fun I => ?_) (fun I => ?_)
       · refine zqr I (fun Al W I => have hzW := I.bel.size; o0e g p _ c mw x ⟨false, 0, 0⟩ W I.fa.1.rd rfl (by omega) (by omega) hb0) fun Al W p16 c16 I => ?_
         refine zo 9 I fun I => ?_
         refine zn I fun Al W I => ?_
         refine zo 10 I fun I => ?_
         refine zn I fun Al W I => ?_
         exact b0d I J fun Al W U I => hJ _ _ _ _ _ ⟨U, p16, c16, rfl, rfl, rfl⟩ (I.pick [0, 1])
       refine zn I fun Al W I => ?_
       refine zo 8 I fun I => ?_
       refine zqr I (fun Al W I => have hzW := I.bel.size; o0e g p _ c mw x ⟨false, 0, 0⟩ W I.fa.1.rd rfl (by omega) (by omega) hb0) fun Al W p16 c16 I => ?_
       refine zo 10 I fun I => ?_
       refine zn I fun Al W I => ?_
       exact b0d I J fun Al W U I => hJ _ _ _ _ _ ⟨U, p16, c16, rfl, rfl, rfl⟩ (I.pick [0, 1])
     refine zn I fun Al W I => ?_
     refine zo 4 I fun I => ?_
     refine zq I (fun Al W I => e0c f.g W) fun Al W I => ?_
     refine zki 6 I .i64 (((wid f.g : Nat) : Int) * pw) (mw) ((by rw [HMW.out]; exact iwo)) fun I => ?_
     refine zk [7] I fun I => ?_
     refine zo 8 I fun I => ?_
     refine zqr I (fun Al W I => have hzW := I.bel.size; o0e g p _ c mw x ⟨false, 0, 0⟩ W I.fa.1.rd rfl (by omega) (by omega) hb0) fun Al W p16 c16 I => ?_
     refine zo 10 I fun I => ?_
     refine zn I fun Al W I => ?_
     exact b0d I J fun Al W U I => hJ _ _ _ _ _ ⟨U, p16, c16, rfl, rfl, rfl⟩ (I.pick [0, 1])
   rintro _ _ _ ⟨U1, p16, c16, rfl, rfl, rfl⟩ Al W I
   refine zb I 20 ((((dig B16 0).length : Nat) : Int) == 0) (true) (beq_iff_eq.2 (by rw [a0c]; rfl)) fun Al W I => ?_
   exact zret I fun Al W I => r0u rfl I.below
 · have hv : f.vr g ⟨2, x, pw⟩ = ⟨2, g, bare ⟨g, x, wid f.g * pw⟩⟩ := by unfold Fm.vr Dc.c; simp [h0]
   have hne : (bare ⟨g, x, wid f.g * pw⟩ : Dv).m ≠ 0 := by
    unfold bare
    rw [if_neg h0]
    have := (c0h x (by omega)).2
    intro h
    simp only at h
    rw [h] at this
    simp at this
   rw [hv]
   generalize hmw : (wid f.g : Int) * pw = mw at *
   have HMW := hi0 hmw
   clear hmw
   generalize hd : bare ⟨g, x, mw⟩ = d at *
   have HD := hi0 hd
   clear hd
   have hd0 := a0d a0b d.m
   have I := Inv.startR w [bg, bf] [⟨4, [.v (.bool g)], true⟩, ⟨62, [.v (.int .i64 (f.size : Int)), .v (.int .i64 (f.E : Int)), .v (.int .i64 (f.F : Int)), .v (.int .i64 f.g.rad), .v (.int .i64 f.g.digs), .v (.int .i64 f.g.lo), .v (.int .i64 f.g.hi), .v (.bool f.g.grad), .v (.int .i64 (f.fam : Int))], true⟩] [rfF b0 p c (dig B16 x)] ⟨Bg, Bf, True.intro⟩ ⟨hp, True.intro⟩
   refine a0f [.v (.slice p (dig B16 x).length c), .v (.int .i64 pw), .p 0 0, .p 1 0] I Tryz.func85 ?_
   refine zcut I none (fun fr bx gs => ∃ (U1 : Nat → Value) (p16 : Option Addr) (c16 : Nat), fr = (.v (.slice p (dig B16 x).length c) :: .v (.int .i64 pw) :: .p 0 0 :: .p 1 0 :: su 2 (.p 2 0 :: .p 3 0 :: sw U1 8 12 (.v undef :: sw U1 21 5 [])) : List SV) ∧ bx = [⟨4, [.v (.bool g)], true⟩, ⟨62, [.v (.int .i64 (f.size : Int)), .v (.int .i64 (f.E : Int)), .v (.int .i64 (f.F : Int)), .v (.int .i64 f.g.rad), .v (.int .i64 f.g.digs), .v (.int .i64 f.g.lo), .v (.int .i64 f.g.hi), .v (.bool f.g.grad), .v (.int .i64 (f.fam : Int))], true⟩, ⟨32, [.v (.int .i64 0), .v (.bool false), .v (.bool false), .v (.slice none 0 0), .v (.int .i64 0)], false⟩, ⟨30, [.v (.bool d.neg), .v (.slice p16 (dig B16 d.m).length c16), .v (.int .i64 d.e)], false⟩] ∧ gs = [rfF w.heap.size p16 c16 (dig B16 d.m), rfF b0 p c (dig B16 x)]) ?_ ?_
   · intro J hJ Al W I
     refine zd [] I fun Al W I => ?_
     refine zk [0, 1, 2, 3, 5] I fun I => ?_
     refine zo2 4 9 I (fun I => ?_) (fun I => ?_)
     · refine zq I (fun Al W I => e0c f.g W) fun Al W I => ?_
       refine zki 6 I .i64 (((wid f.g : Nat) : Int) * pw) (mw) ((by rw [HMW.out]; exact iwo)) fun I => ?_
       refine zk [7] I fun I => ?_
       refine zo2 8 9 I (fun I => ?_) (fun I => ?_)
       · refine zqr I (fun Al W I => have hzW := I.bel.size; o0e g p _ c mw x d W I.fa.1.rd rfl (by omega) (by omega) HD.out) fun Al W p16 c16 I => ?_
         refine zo 9 I fun I => ?_
         refine zn I fun Al W I => ?_
         refine zo 10 I fun I => ?_
         refine zn I fun Al W I => ?_
         exact b0d I J fun Al W U I => hJ _ _ _ _ _ ⟨U, p16, c16, rfl, rfl, rfl⟩ (I.pick [0, 1])
       refine zn I fun Al W I => ?_
       refine zo 8 I fun I => ?_
       refine zqr I (fun Al W I => have hzW := I.bel.size; o0e g p _ c mw x d W I.fa.1.rd rfl (by omega) (by omega) HD.out) fun Al W p16 c16 I => ?_
       refine zo 10 I fun I => ?_
       refine zn I fun Al W I => ?_
       exact b0d I J fun Al W U I => hJ _ _ _ _ _ ⟨U, p16, c16, rfl, rfl, rfl⟩ (I.pick [0, 1])
     refine zn I fun Al W I => ?_
     refine zo 4 I fun I => ?_
     refine zq I (fun Al W I => e0c f.g W) fun Al W I => ?_
     refine zki 6 I .i64 (((wid f.g : Nat) : Int) * pw) (mw) ((by rw [HMW.out]; exact iwo)) fun I => ?_
     refine zk [7] I fun I => ?_
     refine zo 8 I fun I => ?_
     refine zqr I (fun Al W I => have hzW := I.bel.size; o0e g p _ c mw x d W I.fa.1.rd rfl (by omega) (by omega) HD.out) fun Al W p16 c16 I => ?_
     refine zo 10 I fun I => ?_
     refine zn I fun Al W I => ?_
     exact b0d I J fun Al W U I => hJ _ _ _ _ _ ⟨U, p16, c16, rfl, rfl, rfl⟩ (I.pick [0, 1])
   rintro _ _ _ ⟨U1, p16, c16, rfl, rfl, rfl⟩ Al W I
   refine zb I 20 ((((dig B16 d.m).length : Nat) : Int) == 0) (false) (bFn (by omega)) fun Al W I => ?_
   exact zret I fun Al W I => ⟨p16, c16, rfl, I.fa.1.mono (by omega), I.below⟩
end Go.Proofs.YtmacohmclpnphaaGreatDoor
namespace Go.Slip
theorem n0f (r : List Bool) {i : Nat} (h : i < r.length) : (r.take (i + 1)).all id = ((r.take i).all id && r.getD i false) := by
 rw [p0h r i h, List.getD_eq_getElem?_getD, List.getElem?_eq_getElem h]
 rfl
theorem o0f {X F d : Nat} (h : X < 2 ^ F) (hF : F ≤ 64) (hd : d ≤ 120) : X + 2 ^ d < 2 ^ 122 := by
 have h1 : 2 ^ F ≤ 2 ^ 64 := Nat.pow_le_pow_right (by omega) hF
 have h2 : 2 ^ d ≤ 2 ^ 120 := Nat.pow_le_pow_right (by omega) hd
 omega
theorem e1g {a b : Nat} (h : cmpN a b < 0) : a < b := by
 unfold cmpN at h
 split at h
 · assumption
 · split at h <;> omega
theorem t0u {a b : Nat} (h : ¬ cmpN a b < 0) : ¬ a < b := fun k => by
 apply h
 rw [f0j k]
 decide
theorem e1h {w : World} {p : Option Addr} {x : Bool} {r : List Bool} (h : RdV w p ((x :: r).map Value.bool)) (E : Nat) : RdV w (p.map (·.add (1 + E))) ((r.drop E).map Value.bool) := by
 have := h.drop (1 + E)
 rw [show ((x :: r).map Value.bool).drop (1 + E) = (r.drop E).map Value.bool by rw [Nat.add_comm, List.map_cons, List.drop_succ_cons, List.map_drop]] at this
 exact this
end Go.Slip
namespace Go.Proofs.YtmacohmclpnphaaGreatDoor
open Go.RowKit Go.Slip
def j0j (w : World) (v : Vr) (g : Bool) (en : Ending) (w' : World) : Prop :=
 ∃ p c, en = .returned (.tuple #[.agg #[.int .i64 (v.cls : Int), .bool v.neg, .bool v.x.neg, .slice p (dig B16 v.x.m).length c, .int .i64 v.x.e], .bool g]) ∧ Rf w' w.heap.size p c (dig B16 v.x.m) ∧ Below w.heap.size w w'
theorem c0d {w w' : World} {v : Vr} {k : Nat} {n g : Bool} {en : Ending} (hv : v = ⟨k, n, ⟨false, 0, 0⟩⟩) (h : en = .returned (.tuple #[.agg #[.int .i64 (k : Int), .bool n, .bool false, .slice none 0 0, .int .i64 0], .bool g])) (hb : Below w.heap.size w w') : j0j w v g en w' := by
 subst hv
 refine ⟨none, 0, ?_, ?_, hb⟩
 · rw [h, a0c]; rfl
 · rw [a0c]; exact y0p _ _ _
theorem d0r {w w' : World} {v u : Vr} {g : Bool} {p : Option Addr} {c base : Nat} {en : Ending} (hv : v = u) (h : en = .returned (.tuple #[.agg #[.int .i64 (u.cls : Int), .bool u.neg, .bool u.x.neg, .slice p (dig B16 u.x.m).length c, .int .i64 u.x.e], .bool g])) (ho : Rf w' base p c (dig B16 u.x.m)) (hB : w.heap.size ≤ base) (hb : Below w.heap.size w w') : j0j w v g en w' := by
 subst hv
 exact ⟨p, c, h, ho.mono hB, hb⟩
theorem m0o (f : Fm) (g : Bool) {k : Nat} (hk : k ≠ 2) : f.vr g ⟨k, 0, 0⟩ = ⟨k, if k ≤ 3 then g else false, ⟨false, 0, 0⟩⟩ := by
 unfold Fm.vr Dc.c
 simp [hk]
theorem h0i (n : Int) (s : ByteArray) (w : World) (hn : IsFm n) (hs : s.size = (fmt n).size) :
 Calls Tryz.prog 32 #[.int .i64 n, .string s] w (j0j w ((fmt n).refN (a0s (fmt n) s)) ((fmt n).neg (a0s (fmt n) s))) := by
 have G := e0k hn
 have hext := f1w hn
 have HF := fun W => hi0 (f0g n hn W)
 have HB := fun W => hi0 (p0u n s W hn hs)
 generalize fmt n = f at *
 have z1 := G.sz
 have z2 := G.e2
 have z3 := G.f2
 have z4 := G.bits
 have z5 := G.lo
 have z6 := G.f1
 have hl0 : (b0b s).length = f.size := by rw [b0w, hs]
 have hlL : (ordL f.ord (b0b s)).length = f.size := by rw [b0p, hl0]
 have hN : a0s f s = vb (f0n (ordL f.ord (b0b s))) := (t0h _ (h0r (fun _ => by omega) (k0a s))).symm
 have hlB : (f0n (ordL f.ord (b0b s))).length = 1 + f.E + f.F := by rw [h0c, hlL]; omega
 rw [hN]
 clear hN
 generalize f0n (ordL f.ord (b0b s)) = bs at *
 obtain ⟨x, r, rfl⟩ : ∃ x r, bs = x :: r := by
  cases bs with
  | nil => simp at hlB; omega
  | cons x r => exact ⟨x, r, rfl⟩
 have hr : r.length = f.E + f.F := by rw [List.length_cons] at hlB; omega
 unfold Fm.refN Fm.decN
 rw [v0d hr, v0e hr, r0a hr]
 have hEl : (r.take f.E).length = f.E := by rw [List.length_take]; omega
 have hXl : (r.drop f.E).length = f.F := by rw [List.length_drop]; omega
 have hones := z0r (r.take f.E)
 rw [hEl] at hones
 have hElt := k0e (r.take f.E)
 rw [hEl] at hElt
 have hXlt := k0e (r.drop f.E)
 rw [hXl] at hXlt
 have HV := fun W p m c h hm => hi0 (r0t (r.drop f.E) p m c W h hm (by omega))
 have hvt := fun i h => j0i r (i := i) h
 have hat := fun i h => n0f r (i := i) h
 have hev : ∀ i, i ≤ f.E → vb (r.take i) < 32768 := fun i hi => Nat.lt_of_lt_of_le (k0e _) (by rw [List.length_take, show (32768 : Nat) = 2 ^ 15 from rfl]; exact Nat.pow_le_pow_right (by omega) (by omega))
 have hget := fun i h => v0k r (i := i) h
 generalize hEE : vb (r.take f.E) = EE at *
 generalize hXX : vb (r.drop f.E) = X at *
 have hXd := d0f hXlt (k := 4) (by omega)
 have hX0 := a0d a0b X
 have h15 : EE < 32768 := Nat.lt_of_lt_of_le hElt (by rw [show (32768 : Nat) = 2 ^ 15 from rfl]; exact Nat.pow_le_pow_right (by omega) (by omega))
 have hg := c0c G.g
 have hd1 := hg.d1
 have hd2 := hg.d2
 obtain ⟨dN, hdN⟩ : ∃ dN : Nat, f.g.digs - 1 = (dN : Int) := ⟨(f.g.digs - 1).toNat, by omega⟩
 have hdl : (dig B16 (2 ^ dN)).length ≤ 8 := d0f (n := 121) (Nat.pow_lt_pow_right (by omega) (by omega)) (by omega)
 have hd1F := G.d1
 have hextF := G.ext
 have hfam := G.fam
 have hln : (List.map Value.bool (x :: r)).length = (x :: r).length := List.length_map ..
 have hlr : (x :: r).length = 1 + f.E + f.F := hlB
 clear hXX hl0 hlL hXl hs
 have I := Inv.start w [] True.intro
 refine a0f [.v (.int .i64 n), .v (.string s)] I Tryz.func32 ?_
 refine zq I (fun Al W I => (HF W).out) fun Al W I => ?_
 refine zg I (fun Al W I => (HB W).out) fun Al V Iv _ hB _ kz => ?_
 rintro _ W ⟨p8, c8, rfl, o8, hb⟩
 refine ⟨_, rfl, kz _ _ hb fun I => ?_⟩
 have I := I.ownv o8
 refine zx I 26 (fun _ => .pointer (some (at_ p8 0))) (fun Al W I => h0a (p := p8) (n := (x :: r).length) (c := c8) (m := 0) i0j (by have h := I.fa.1.rd.solid; rw [hln] at h; exact h) (by omega)) fun Al W I => ?_
 refine zx I 27 (fun _ => .bool x) (fun Al W I => q0x I.fa.1.rd m0d (m := 0) rfl) fun Al W I => ?_
 refine w0k I (fun gk fr bx gs => ∃ (U900 : Nat → Value) (i : Nat) (e : Nat) (o : Bool), fr = (.v (.int .i64 n) :: .v (.string s) :: su 2 (.p 0 0 :: .v (.bool false) :: .p 1 0 :: .v (U900 7) :: .v (.slice p8 (x :: r).length c8) :: .p 2 0 :: .v (.int .i64 (e : Int)) :: .v (.bool o) :: .v (.int .i64 ((i + 1 : Nat) : Int)) :: su 4 (sw U900 17 48 (su 2 (sw U900 67 8 (.v undef :: sw U900 76 2 (su 2 (sw U900 80 15 (su 2 (sw U900 97 3 (.v undef :: sw U900 101 12 (.v undef :: sw U900 114 11 (.v undef :: sw U900 126 2 (.v undef :: sw U900 129 6 (.v undef :: sw U900 136 12 [])))))))))))))) : List SV) ∧ bx = [⟨32, [.v (.int .i64 0), .v (.bool false), .v (.bool false), .v (.slice none 0 0), .v (.int .i64 0)], false⟩, ⟨62, [.v (.int .i64 (f.size : Int)), .v (.int .i64 (f.E : Int)), .v (.int .i64 (f.F : Int)), .v (.int .i64 f.g.rad), .v (.int .i64 f.g.digs), .v (.int .i64 f.g.lo), .v (.int .i64 f.g.hi), .v (.bool f.g.grad), .v (.int .i64 (f.fam : Int))], false⟩, ⟨4, [.v (.bool x)], false⟩] ∧ gs = [g1x w.heap.size 4 p8 c8 ((x :: r).map Value.bool)] ∧ (e = vb (r.take i)) ∧ (o = (r.take i).all id) ∧ (gk + i = f.E)) f.E (fun Al W U I => ⟨_, ⟨U, 0, 0, true, rfl, rfl, rfl, rfl, rfl, (by omega)⟩, I.pick [0]⟩) ?_
 rintro J gk0 _ _ _ ⟨U900, i, e, o, rfl, rfl, rfl, he, ho, hgk⟩ hJ Al W I
 have hel : e < 32768 := by rw [he]; exact hev i (by omega)
 rcases Bool.eq_false_or_eq_true (decide (((i + 1 : Nat) : Int) ≤ (f.E : Int))) with f31 | f31
 · refine zb I 31 (decide (((i + 1 : Nat) : Int) ≤ (f.E : Int))) (true) (f31) fun Al W I => ?_
   refine zi I 35 .i64 ((2 : Int) * (e : Int)) (((2 * e : Nat) : Int)) ((by rw [show ((2 : Int) * (e : Int)) = ((2 * e : Nat) : Int) by omega]; exact iwo)) fun Al W I => ?_
   refine zx I 38 (fun _ => .pointer (some (at_ p8 (i + 1)))) (fun Al W I => h0a (p := p8) (n := (x :: r).length) (c := c8) (m := i + 1) i0j (by have h := I.fa.1.rd.solid; rw [hln] at h; exact h) (by have := oTr f31; omega)) fun Al W I => ?_
   rcases Bool.eq_false_or_eq_true (r.getD i false) with f39 | f39
   · refine zx I 39 (fun _ => .bool true) (fun Al W I => (q0x I.fa.1.rd m0d (m := i + 1) (by rw [List.map_cons, List.getElem?_cons_succ]; exact hget i (by have := oTr f31; omega))).trans (congrArg (fun z => Result.ok (Value.bool z) W) (show (r.getD i false) = true from f39))) fun Al W I => ?_
     refine zi I 41 .i64 (((2 * e : Nat) : Int) + 1) (((2 * e + 1 : Nat) : Int)) ((by rw [show (((2 * e : Nat) : Int) + 1) = ((2 * e + 1 : Nat) : Int) by omega]; exact iwo)) fun Al W I => ?_
     rcases Bool.eq_false_or_eq_true (o) with f43 | f43
     · refine zb I 43 (o) (true) (f43) fun Al W I => ?_
       refine zx I 46 (fun _ => .pointer (some (at_ p8 (i + 1)))) (fun Al W I => h0a (p := p8) (n := (x :: r).length) (c := c8) (m := i + 1) i0j (by have h := I.fa.1.rd.solid; rw [hln] at h; exact h) (by have := oTr f31; omega)) fun Al W I => ?_
       refine zx I 47 (fun _ => .bool true) (fun Al W I => (q0x I.fa.1.rd m0d (m := i + 1) (by rw [List.map_cons, List.getElem?_cons_succ]; exact hget i (by have := oTr f31; omega))).trans (congrArg (fun z => Result.ok (Value.bool z) W) (show (r.getD i false) = true from f39))) fun Al W I => ?_
       refine zi I 33 .i64 (((i + 1 : Nat) : Int) + 1) (((i + 1 + 1 : Nat) : Int)) ((by rw [show (((i + 1 : Nat) : Int) + 1) = ((i + 1 + 1 : Nat) : Int) by omega]; exact IntWalk.i64_in _ (by have := oTr f31; omega))) fun Al W I => ?_
       exact b0d I J fun Al W U I => hJ (gk0 - 1) _ _ _ _ _ ((by have := oTr f31; omega)) ⟨U, i + 1, 2 * e + 1, true, rfl, rfl, rfl, (by rw [← hvt i (by have := oTr f31; omega), f39, he, Bool.toNat_true, Nat.mul_comm]), (by rw [hat i (by have := oTr f31; omega), f39, ← ho, f43]; rfl), (by have := oTr f31; omega)⟩ (I.pick [0])
     refine zb I 43 (o) (false) (f43) fun Al W I => ?_
     refine zi I 33 .i64 (((i + 1 : Nat) : Int) + 1) (((i + 1 + 1 : Nat) : Int)) ((by rw [show (((i + 1 : Nat) : Int) + 1) = ((i + 1 + 1 : Nat) : Int) by omega]; exact IntWalk.i64_in _ (by have := oTr f31; omega))) fun Al W I => ?_
     exact b0d I J fun Al W U I => hJ (gk0 - 1) _ _ _ _ _ ((by have := oTr f31; omega)) ⟨U, i + 1, 2 * e + 1, false, rfl, rfl, rfl, (by rw [← hvt i (by have := oTr f31; omega), f39, he, Bool.toNat_true, Nat.mul_comm]), (by rw [hat i (by have := oTr f31; omega), f39, ← ho, f43]; rfl), (by have := oTr f31; omega)⟩ (I.pick [0])
   refine zx I 39 (fun _ => .bool false) (fun Al W I => (q0x I.fa.1.rd m0d (m := i + 1) (by rw [List.map_cons, List.getElem?_cons_succ]; exact hget i (by have := oTr f31; omega))).trans (congrArg (fun z => Result.ok (Value.bool z) W) (show (r.getD i false) = false from f39))) fun Al W I => ?_
   rcases Bool.eq_false_or_eq_true (o) with f43 | f43
   · refine zb I 43 (o) (true) (f43) fun Al W I => ?_
     refine zx I 46 (fun _ => .pointer (some (at_ p8 (i + 1)))) (fun Al W I => h0a (p := p8) (n := (x :: r).length) (c := c8) (m := i + 1) i0j (by have h := I.fa.1.rd.solid; rw [hln] at h; exact h) (by have := oTr f31; omega)) fun Al W I => ?_
     refine zx I 47 (fun _ => .bool false) (fun Al W I => (q0x I.fa.1.rd m0d (m := i + 1) (by rw [List.map_cons, List.getElem?_cons_succ]; exact hget i (by have := oTr f31; omega))).trans (congrArg (fun z => Result.ok (Value.bool z) W) (show (r.getD i false) = false from f39))) fun Al W I => ?_
     refine zi I 33 .i64 (((i + 1 : Nat) : Int) + 1) (((i + 1 + 1 : Nat) : Int)) ((by rw [show (((i + 1 : Nat) : Int) + 1) = ((i + 1 + 1 : Nat) : Int) by omega]; exact IntWalk.i64_in _ (by have := oTr f31; omega))) fun Al W I => ?_
     exact b0d I J fun Al W U I => hJ (gk0 - 1) _ _ _ _ _ ((by have := oTr f31; omega)) ⟨U, i + 1, 2 * e, false, rfl, rfl, rfl, (by rw [← hvt i (by have := oTr f31; omega), f39, he, Bool.toNat_false, Nat.mul_comm, Nat.add_zero]), (by rw [hat i (by have := oTr f31; omega), f39, ← ho, f43]; rfl), (by have := oTr f31; omega)⟩ (I.pick [0])
   refine zb I 43 (o) (false) (f43) fun Al W I => ?_
   refine zi I 33 .i64 (((i + 1 : Nat) : Int) + 1) (((i + 1 + 1 : Nat) : Int)) ((by rw [show (((i + 1 : Nat) : Int) + 1) = ((i + 1 + 1 : Nat) : Int) by omega]; exact IntWalk.i64_in _ (by have := oTr f31; omega))) fun Al W I => ?_
   exact b0d I J fun Al W U I => hJ (gk0 - 1) _ _ _ _ _ ((by have := oTr f31; omega)) ⟨U, i + 1, 2 * e, false, rfl, rfl, rfl, (by rw [← hvt i (by have := oTr f31; omega), f39, he, Bool.toNat_false, Nat.mul_comm, Nat.add_zero]), (by rw [hat i (by have := oTr f31; omega), f39, ← ho, f43]; rfl), (by have := oTr f31; omega)⟩ (I.pick [0])
 refine zb I 31 (decide (((i + 1 : Nat) : Int) ≤ (f.E : Int))) (false) (f31) fun Al W I => ?_
 have hiE : i = f.E := by have := oFa f31; omega
 have heE : e = EE := by rw [he, hiE, hEE]
 have hoE : o = true ↔ EE = 2 ^ f.E - 1 := by rw [ho, hiE]; exact hones
 clear he ho hgk hel hev hget hvt hat hones hEE
 subst heE
 refine zi I 52 .i64 ((1 : Int) + (f.E : Int)) (((1 + f.E : Nat) : Int)) ((by rw [show ((1 : Int) + (f.E : Int)) = ((1 + f.E : Nat) : Int) by omega]; exact iwo)) fun Al W I => ?_
 refine zx I 53 (fun _ => .slice (p8.map (·.add (1 + f.E))) ((x :: r).length - (1 + f.E)) (c8 - (1 + f.E))) (fun Al W I => j1u i0j (m := 1 + f.E) (by omega) (by have := I.fa.1.le_cap; rw [hln] at this; omega) (by have := I.fa.1.le_cap; rw [hln] at this; omega)) fun Al W I => ?_
 refine zqr I (fun Al W I => have hzW := I.bel.size; (HV W (p8.map (·.add (1 + f.E))) ((x :: r).length - (1 + f.E)) (c8 - (1 + f.E)) (e1h I.fa.1.rd f.E) (by rw [List.length_drop, hlr]; omega)).out) fun Al W p54 c54 I => ?_
 refine zi I 58 .i64 (f.g.digs - 1) ((dN : Int)) ((by rw [hdN]; exact iwo)) fun Al W I => ?_
 refine zqr I (fun Al W I => have hzW := I.bel.size; k1o (dN : Int) dN rfl (by omega) W) fun Al W p59 c59 I => ?_
 rcases Bool.eq_false_or_eq_true ((f.fam : Int) == 2) with f67 | f67
 · refine zb I 67 ((f.fam : Int) == 2) (true) (f67) fun Al W I => ?_
   refine zd [0] I fun Al W I => ?_
   refine zk [0, 1, 2, 3] I fun I => ?_
   refine zki 4 I .i64 (f.g.lo + (e : Int)) (f.g.lo + (e : Int)) (iwo) fun I => ?_
   refine zk [6] I fun I => ?_
   refine zo 5 I fun I => ?_
   refine zg I (fun Al W I => have hzW := I.bel.size; c0s f x (lk 0 Al 2) (lk 0 Al 1) (X) p54 c54 _ (f.g.lo + (e : Int)) W I.fa.2.1 (by omega) (by omega) (I.box 2 4 _) (I.box 1 62 _)) fun Al V Iv _ hB _ kz => ?_
   rintro _ W ⟨pN, cN, rfl, oN, hb⟩
   have hD : f.dec x e X = ⟨2, X, f.g.lo + (e : Int)⟩ := by unfold Fm.dec; rw [if_pos (by have := beq_iff_eq.1 f67; omega)]
   refine ⟨_, rfl, kz _ _ hb fun I => ?_⟩
   have I := I.rf oN (hB _) Iv
   refine zo 7 I fun I => ?_
   refine zn I fun Al W I => ?_
   refine zk [8] I fun I => ?_
   exact zret I (v := fun Al => .tuple #[.agg #[.int .i64 (((f.vr x ⟨2, X, f.g.lo + (e : Int)⟩).cls : Nat) : Int), .bool ((f.vr x ⟨2, X, f.g.lo + (e : Int)⟩).neg), .bool ((f.vr x ⟨2, X, f.g.lo + (e : Int)⟩).x.neg), .slice pN (dig B16 (f.vr x ⟨2, X, f.g.lo + (e : Int)⟩).x.m).length cN, .int .i64 ((f.vr x ⟨2, X, f.g.lo + (e : Int)⟩).x.e)], .bool x]) fun Al W I => d0r (by rw [hD]) rfl I.fa.1 (by omega) I.below
 refine zb I 67 ((f.fam : Int) == 2) (false) (f67) fun Al W I => ?_
 rcases Bool.eq_false_or_eq_true ((f.fam : Int) == 3) with f76 | f76
 · refine zb I 76 ((f.fam : Int) == 3) (true) (f76) fun Al W I => ?_
   rcases Bool.eq_false_or_eq_true ((e : Int) == 0) with f78 | f78
   · refine zb I 78 ((e : Int) == 0) (true) (f78) fun Al W I => ?_
     rcases Bool.eq_false_or_eq_true (x) with f79 | f79
     · refine zb I 79 (x) (true) (f79) fun Al W I => ?_
       refine zd [0] I fun Al W I => ?_
       have hD : f.dec x e X = ⟨5, 0, 0⟩ := by unfold Fm.dec; rw [if_neg (by have := beq_iff_eq.1 f76; omega), if_neg (by have := beq_iff_eq.1 f76; omega), if_pos ⟨by have := beq_iff_eq.1 f76; omega, by have := beq_iff_eq.1 f78; omega⟩, if_pos f79]
       refine zk [0, 1] I fun I => ?_
       refine zo 2 I fun I => ?_
       refine zn I fun Al W I => ?_
       refine zk [3] I fun I => ?_
       exact zret I (v := fun Al => .tuple #[.agg #[.int .i64 5, .bool false, .bool false, .slice none 0 0, .int .i64 0], .bool x]) fun Al W I => c0d (by rw [hD, m0o f x (by omega), if_neg (by omega)]) rfl I.below
     refine zb I 79 (x) (false) (f79) fun Al W I => ?_
     refine zd [0] I fun Al W I => ?_
     have hD : f.dec x e X = ⟨1, 0, 0⟩ := by unfold Fm.dec; rw [if_neg (by have := beq_iff_eq.1 f76; omega), if_neg (by have := beq_iff_eq.1 f76; omega), if_pos ⟨by have := beq_iff_eq.1 f76; omega, by have := beq_iff_eq.1 f78; omega⟩, if_neg (by rw [f79]; simp)]
     refine zk [0, 1] I fun I => ?_
     refine zo 2 I fun I => ?_
     refine zn I fun Al W I => ?_
     refine zk [3] I fun I => ?_
     exact zret I (v := fun Al => .tuple #[.agg #[.int .i64 1, .bool false, .bool false, .slice none 0 0, .int .i64 0], .bool x]) fun Al W I => c0d (by rw [hD, m0o f x (by omega), if_pos (by omega), f79]) rfl I.below
   refine zb I 78 ((e : Int) == 0) (false) (f78) fun Al W I => ?_
   refine zd [0] I fun Al W I => ?_
   refine zk [0, 1, 2, 4, 5] I fun I => ?_
   refine zki 6 I .i64 (f.g.lo + (e : Int)) (f.g.lo + (e : Int)) (iwo) fun I => ?_
   refine zki 7 I .i64 ((f.g.lo + (e : Int)) - 1) ((f.g.lo + (e : Int)) - 1) (iwo) fun I => ?_
   refine zk [9] I fun I => ?_
   refine zo 3 I fun I => ?_
   have q76 : f.fam = 3 := by have := beq_iff_eq.1 f76; omega
   have q78 : e ≠ 0 := by have := bnF f78; omega
   have qx : f.ext = false := by cases hh : f.ext with | false => rfl | true => exact absurd (hextF hh).1 (by omega)
   have qF : dN = f.F := by have := hd1F (by omega) qx; omega
   refine zqr I (fun Al W I => have hzW := I.bel.size; i1c p54 p59 _ _ c54 c59 X (2 ^ dN) (X + 2 ^ dN) W I.fa.2.1.rd I.fa.1.rd rfl rfl (by omega) (by omega) rfl) fun Al W p87 c87 I => ?_
   refine zo 8 I fun I => ?_
   refine zg I (fun Al W I => have hzW := I.bel.size; c0s f x (lk 0 Al 2) (lk 0 Al 1) (X + 2 ^ dN) p87 c87 _ (f.g.lo + (e : Int) - 1) W I.fa.1 (by have := d0f (x := X + 2 ^ dN) (n := 122) (k := 8) (o0f hXlt (by omega) (by omega)) (by omega); omega) (by omega) (I.box 2 4 _) (I.box 1 62 _)) fun Al V Iv _ hB _ kz => ?_
   rintro _ W ⟨pN, cN, rfl, oN, hb⟩
   have hD : f.dec x e X = ⟨2, X + 2 ^ dN, f.g.lo + e - 1⟩ := by unfold Fm.dec; rw [if_neg (by omega), if_neg (by omega), if_neg (by omega), if_neg q78, if_pos qx, qF]
   refine ⟨_, rfl, kz _ _ hb fun I => ?_⟩
   have I := I.rf oN (hB _) Iv
   refine zo 10 I fun I => ?_
   refine zn I fun Al W I => ?_
   refine zk [11] I fun I => ?_
   exact zret I (v := fun Al => .tuple #[.agg #[.int .i64 (((f.vr x ⟨2, X + 2 ^ dN, f.g.lo + (e : Int) - 1⟩).cls : Nat) : Int), .bool ((f.vr x ⟨2, X + 2 ^ dN, f.g.lo + (e : Int) - 1⟩).neg), .bool ((f.vr x ⟨2, X + 2 ^ dN, f.g.lo + (e : Int) - 1⟩).x.neg), .slice pN (dig B16 (f.vr x ⟨2, X + 2 ^ dN, f.g.lo + (e : Int) - 1⟩).x.m).length cN, .int .i64 ((f.vr x ⟨2, X + 2 ^ dN, f.g.lo + (e : Int) - 1⟩).x.e)], .bool x]) fun Al W I => d0r (by rw [hD]) rfl I.fa.1 (by omega) I.below
 refine zb I 76 ((f.fam : Int) == 3) (false) (f76) fun Al W I => ?_
 have q1 : f.fam = 1 := by have := bnF f67; have := bnF f76; omega
 rcases Bool.eq_false_or_eq_true (n == 3) with f95 | f95
 · refine zb I 95 (n == 3) (true) (f95) fun Al W I => ?_
   have qx : f.ext = true := by rw [hext]; exact dTr (beq_iff_eq.1 f95)
   have qN : dN = 63 := by have := (hextF qx).2.2; omega
   rcases Bool.eq_false_or_eq_true (o) with f96 | f96
   · refine zb I 96 (o) (true) (f96) fun Al W I => ?_
     refine zq I (fun Al W I => have hzW := I.bel.size; d0q p54 p59 _ _ c54 c59 X (2 ^ dN) W I.fa.2.1.rd I.fa.1.rd rfl rfl (by omega) (by omega)) fun Al W I => ?_
     rcases Bool.eq_false_or_eq_true ((cmpN X (2 ^ dN)) == 0) with f100 | f100
     · refine zb I 100 ((cmpN X (2 ^ dN)) == 0) (true) (f100) fun Al W I => ?_
       refine zd [0] I fun Al W I => ?_
       have hD : f.dec x e X = ⟨3, 0, 0⟩ := by unfold Fm.dec; rw [if_neg (by omega), if_pos ⟨q1, hoE.1 f96⟩, if_pos (.inr ⟨qx, by have := r0o (beq_iff_eq.1 f100); rw [qN] at this; exact this⟩)]
       refine zk [0, 1, 2] I fun I => ?_
       refine zo 3 I fun I => ?_
       refine zn I fun Al W I => ?_
       refine zk [4] I fun I => ?_
       exact zret I (v := fun Al => .tuple #[.agg #[.int .i64 3, .bool x, .bool false, .slice none 0 0, .int .i64 0], .bool x]) fun Al W I => c0d (by rw [hD, m0o f x (by omega), if_pos (by omega)]) rfl I.below
     refine zb I 100 ((cmpN X (2 ^ dN)) == 0) (false) (f100) fun Al W I => ?_
     refine zd [0] I fun Al W I => ?_
     have hD : f.dec x e X = ⟨4, 0, 0⟩ := by unfold Fm.dec; rw [if_neg (by omega), if_pos ⟨q1, hoE.1 f96⟩, if_neg (fun h => by rcases h with h | h <;> first | (have k := h.1; rw [qx] at k; cases k; done) | (have k := bnF f100; apply k; rw [qN, h.2]; exact s0i _))]
     refine zk [0, 1] I fun I => ?_
     refine zo 2 I fun I => ?_
     refine zn I fun Al W I => ?_
     refine zk [3] I fun I => ?_
     exact zret I (v := fun Al => .tuple #[.agg #[.int .i64 4, .bool false, .bool false, .slice none 0 0, .int .i64 0], .bool x]) fun Al W I => c0d (by rw [hD, m0o f x (by omega), if_neg (by omega)]) rfl I.below
   refine zb I 96 (o) (false) (f96) fun Al W I => ?_
   have qo : ¬ (f.fam = 1 ∧ e = 2 ^ f.E - 1) := fun h => by have k := hoE.2 h.2; first | (rw [f96] at k; cases k; done)
   rcases Bool.eq_false_or_eq_true (decide ((e : Int) > 0)) with f107 | f107
   · refine zb I 107 (decide ((e : Int) > 0)) (true) (f107) fun Al W I => ?_
     refine zq I (fun Al W I => have hzW := I.bel.size; d0q p54 p59 _ _ c54 c59 X (2 ^ dN) W I.fa.2.1.rd I.fa.1.rd rfl rfl (by omega) (by omega)) fun Al W I => ?_
     rcases Bool.eq_false_or_eq_true (decide ((cmpN X (2 ^ dN)) < 0)) with f112 | f112
     · refine zb I 112 (decide ((cmpN X (2 ^ dN)) < 0)) (true) (f112) fun Al W I => ?_
       refine zd [0] I fun Al W I => ?_
       have hD : f.dec x e X = ⟨4, 0, 0⟩ := by unfold Fm.dec; rw [if_neg (by omega), if_neg qo, if_neg (by omega), if_neg (by have := oTr f107; omega), if_neg (by rw [qx]; simp), if_pos (by have k := e1g (oTr f112); rw [qN] at k; exact k)]
       refine zk [0, 1] I fun I => ?_
       refine zo 2 I fun I => ?_
       refine zn I fun Al W I => ?_
       refine zk [3] I fun I => ?_
       exact zret I (v := fun Al => .tuple #[.agg #[.int .i64 4, .bool false, .bool false, .slice none 0 0, .int .i64 0], .bool x]) fun Al W I => c0d (by rw [hD, m0o f x (by omega), if_neg (by omega)]) rfl I.below
     refine zb I 112 (decide ((cmpN X (2 ^ dN)) < 0)) (false) (f112) fun Al W I => ?_
     refine zd [0] I fun Al W I => ?_
     refine zk [0, 1, 2, 3] I fun I => ?_
     refine zki 4 I .i64 ((e : Int) - 1) ((e : Int) - 1) (iwo) fun I => ?_
     refine zkm 5 I .i64 (if (((e : Int) - 1) : Int) > 0 then ((e : Int) - 1) else 0) (((e - 1 : Nat) : Int)) ((by split <;> omega)) fun I => ?_
     refine zki 6 I .i64 (f.g.lo + ((e - 1 : Nat) : Int)) (f.g.lo + ((e - 1 : Nat) : Int)) (iwo) fun I => ?_
     refine zk [8] I fun I => ?_
     refine zo 7 I fun I => ?_
     refine zg I (fun Al W I => have hzW := I.bel.size; c0s f x (lk 0 Al 2) (lk 0 Al 1) X p54 c54 _ (f.g.lo + ((e - 1 : Nat) : Int)) W I.fa.2.1 (by omega) (by omega) (I.box 2 4 _) (I.box 1 62 _)) fun Al V Iv _ hB _ kz => ?_
     rintro _ W ⟨pN, cN, rfl, oN, hb⟩
     have hD : f.dec x e X = ⟨2, X, f.g.lo + ((e - 1 : Nat) : Int)⟩ := by unfold Fm.dec; rw [if_neg (by omega), if_neg qo, if_neg (by omega), if_neg (by have := oTr f107; omega), if_neg (by rw [qx]; simp), if_neg (by have k := t0u (oFa f112); rw [qN] at k; exact k)]; simp only [Dc.mk.injEq, true_and]; have := oTr f107; omega
     refine ⟨_, rfl, kz _ _ hb fun I => ?_⟩
     have I := I.rf oN (hB _) Iv
     refine zo 9 I fun I => ?_
     refine zn I fun Al W I => ?_
     refine zk [10] I fun I => ?_
     exact zret I (v := fun Al => .tuple #[.agg #[.int .i64 (((f.vr x ⟨2, X, f.g.lo + ((e - 1 : Nat) : Int)⟩).cls : Nat) : Int), .bool ((f.vr x ⟨2, X, f.g.lo + ((e - 1 : Nat) : Int)⟩).neg), .bool ((f.vr x ⟨2, X, f.g.lo + ((e - 1 : Nat) : Int)⟩).x.neg), .slice pN (dig B16 (f.vr x ⟨2, X, f.g.lo + ((e - 1 : Nat) : Int)⟩).x.m).length cN, .int .i64 ((f.vr x ⟨2, X, f.g.lo + ((e - 1 : Nat) : Int)⟩).x.e)], .bool x]) fun Al W I => d0r (by rw [hD]) rfl I.fa.1 (by omega) I.below
   refine zb I 107 (decide ((e : Int) > 0)) (false) (f107) fun Al W I => ?_
   refine zd [0] I fun Al W I => ?_
   refine zk [0, 1, 2, 3] I fun I => ?_
   refine zki 4 I .i64 ((e : Int) - 1) ((e : Int) - 1) (iwo) fun I => ?_
   refine zkm 5 I .i64 (if (((e : Int) - 1) : Int) > 0 then ((e : Int) - 1) else 0) (((e - 1 : Nat) : Int)) ((by split <;> omega)) fun I => ?_
   refine zki 6 I .i64 (f.g.lo + ((e - 1 : Nat) : Int)) (f.g.lo + ((e - 1 : Nat) : Int)) (iwo) fun I => ?_
   refine zk [8] I fun I => ?_
   refine zo 7 I fun I => ?_
   refine zg I (fun Al W I => have hzW := I.bel.size; c0s f x (lk 0 Al 2) (lk 0 Al 1) X p54 c54 _ (f.g.lo + ((e - 1 : Nat) : Int)) W I.fa.2.1 (by omega) (by omega) (I.box 2 4 _) (I.box 1 62 _)) fun Al V Iv _ hB _ kz => ?_
   rintro _ W ⟨pN, cN, rfl, oN, hb⟩
   have hD : f.dec x e X = ⟨2, X, f.g.lo + ((e - 1 : Nat) : Int)⟩ := by unfold Fm.dec; rw [if_neg (by omega), if_neg qo, if_neg (by omega), if_pos (by have := oFa f107; omega)]; simp only [Dc.mk.injEq, true_and]; have := oFa f107; omega
   refine ⟨_, rfl, kz _ _ hb fun I => ?_⟩
   have I := I.rf oN (hB _) Iv
   refine zo 9 I fun I => ?_
   refine zn I fun Al W I => ?_
   refine zk [10] I fun I => ?_
   exact zret I (v := fun Al => .tuple #[.agg #[.int .i64 (((f.vr x ⟨2, X, f.g.lo + ((e - 1 : Nat) : Int)⟩).cls : Nat) : Int), .bool ((f.vr x ⟨2, X, f.g.lo + ((e - 1 : Nat) : Int)⟩).neg), .bool ((f.vr x ⟨2, X, f.g.lo + ((e - 1 : Nat) : Int)⟩).x.neg), .slice pN (dig B16 (f.vr x ⟨2, X, f.g.lo + ((e - 1 : Nat) : Int)⟩).x.m).length cN, .int .i64 ((f.vr x ⟨2, X, f.g.lo + ((e - 1 : Nat) : Int)⟩).x.e)], .bool x]) fun Al W I => d0r (by rw [hD]) rfl I.fa.1 (by omega) I.below
 refine zb I 95 (n == 3) (false) (f95) fun Al W I => ?_
 have qx : f.ext = false := by rw [hext]; exact dFa (bnF f95)
 have qF : dN = f.F := by have := hd1F (by omega) qx; omega
 rcases Bool.eq_false_or_eq_true (o) with f125 | f125
 · refine zb I 125 (o) (true) (f125) fun Al W I => ?_
   rcases Bool.eq_false_or_eq_true ((((dig B16 X).length : Nat) : Int) == 0) with f128 | f128
   · refine zb I 128 ((((dig B16 X).length : Nat) : Int) == 0) (true) (f128) fun Al W I => ?_
     refine zd [0] I fun Al W I => ?_
     have hD : f.dec x e X = ⟨3, 0, 0⟩ := by unfold Fm.dec; rw [if_neg (by omega), if_pos ⟨q1, hoE.1 f125⟩, if_pos (.inl ⟨qx, hX0.1 (by have := beq_iff_eq.1 f128; omega)⟩)]
     refine zk [0, 1, 2] I fun I => ?_
     refine zo 3 I fun I => ?_
     refine zn I fun Al W I => ?_
     refine zk [4] I fun I => ?_
     exact zret I (v := fun Al => .tuple #[.agg #[.int .i64 3, .bool x, .bool false, .slice none 0 0, .int .i64 0], .bool x]) fun Al W I => c0d (by rw [hD, m0o f x (by omega), if_pos (by omega)]) rfl I.below
   refine zb I 128 ((((dig B16 X).length : Nat) : Int) == 0) (false) (f128) fun Al W I => ?_
   refine zd [0] I fun Al W I => ?_
   have hD : f.dec x e X = ⟨4, 0, 0⟩ := by unfold Fm.dec; rw [if_neg (by omega), if_pos ⟨q1, hoE.1 f125⟩, if_neg (fun h => by rcases h with h | h <;> first | (have k := h.1; rw [qx] at k; cases k; done) | (have k := bnF f128; have k2 := hX0.2 h.2; omega))]
   refine zk [0, 1] I fun I => ?_
   refine zo 2 I fun I => ?_
   refine zn I fun Al W I => ?_
   refine zk [3] I fun I => ?_
   exact zret I (v := fun Al => .tuple #[.agg #[.int .i64 4, .bool false, .bool false, .slice none 0 0, .int .i64 0], .bool x]) fun Al W I => c0d (by rw [hD, m0o f x (by omega), if_neg (by omega)]) rfl I.below
 refine zb I 125 (o) (false) (f125) fun Al W I => ?_
 have qo : ¬ (f.fam = 1 ∧ e = 2 ^ f.E - 1) := fun h => by have k := hoE.2 h.2; rw [f125] at k; cases k
 rcases Bool.eq_false_or_eq_true (decide ((e : Int) > 0)) with f135 | f135
 · refine zb I 135 (decide ((e : Int) > 0)) (true) (f135) fun Al W I => ?_
   refine zqr I (fun Al W I => have hzW := I.bel.size; i1c p54 p59 _ _ c54 c59 X (2 ^ dN) (X + 2 ^ dN) W I.fa.2.1.rd I.fa.1.rd rfl rfl (by omega) (by omega) rfl) fun Al W p138 c138 I => ?_
   refine zd [0] I fun Al W I => ?_
   refine zk [0, 1, 2, 3] I fun I => ?_
   refine zki 4 I .i64 ((e : Int) - 1) ((e : Int) - 1) (iwo) fun I => ?_
   refine zkm 5 I .i64 (if (((e : Int) - 1) : Int) > 0 then ((e : Int) - 1) else 0) (((e - 1 : Nat) : Int)) ((by split <;> omega)) fun I => ?_
   refine zki 6 I .i64 (f.g.lo + ((e - 1 : Nat) : Int)) (f.g.lo + ((e - 1 : Nat) : Int)) (iwo) fun I => ?_
   refine zk [8] I fun I => ?_
   refine zo 7 I fun I => ?_
   refine zg I (fun Al W I => have hzW := I.bel.size; c0s f x (lk 0 Al 2) (lk 0 Al 1) (X + 2 ^ dN) p138 c138 _ (f.g.lo + ((e - 1 : Nat) : Int)) W I.fa.1 (by have := d0f (x := X + 2 ^ dN) (n := 122) (k := 8) (o0f hXlt (by omega) (by omega)) (by omega); omega) (by omega) (I.box 2 4 _) (I.box 1 62 _)) fun Al V Iv _ hB _ kz => ?_
   rintro _ W ⟨pN, cN, rfl, oN, hb⟩
   have hD : f.dec x e X = ⟨2, X + 2 ^ dN, f.g.lo + ((e - 1 : Nat) : Int)⟩ := by unfold Fm.dec; rw [if_neg (by omega), if_neg qo, if_neg (by omega), if_neg (by have := oTr f135; omega), if_pos qx, qF]; simp only [Dc.mk.injEq, true_and]; have := oTr f135; omega
   refine ⟨_, rfl, kz _ _ hb fun I => ?_⟩
   have I := I.rf oN (hB _) Iv
   refine zo 9 I fun I => ?_
   refine zn I fun Al W I => ?_
   refine zk [10] I fun I => ?_
   exact zret I (v := fun Al => .tuple #[.agg #[.int .i64 (((f.vr x ⟨2, X + 2 ^ dN, f.g.lo + ((e - 1 : Nat) : Int)⟩).cls : Nat) : Int), .bool ((f.vr x ⟨2, X + 2 ^ dN, f.g.lo + ((e - 1 : Nat) : Int)⟩).neg), .bool ((f.vr x ⟨2, X + 2 ^ dN, f.g.lo + ((e - 1 : Nat) : Int)⟩).x.neg), .slice pN (dig B16 (f.vr x ⟨2, X + 2 ^ dN, f.g.lo + ((e - 1 : Nat) : Int)⟩).x.m).length cN, .int .i64 ((f.vr x ⟨2, X + 2 ^ dN, f.g.lo + ((e - 1 : Nat) : Int)⟩).x.e)], .bool x]) fun Al W I => d0r (by rw [hD]) rfl I.fa.1 (by omega) I.below
 refine zb I 135 (decide ((e : Int) > 0)) (false) (f135) fun Al W I => ?_
 refine zd [0] I fun Al W I => ?_
 refine zk [0, 1, 2, 3] I fun I => ?_
 refine zki 4 I .i64 ((e : Int) - 1) ((e : Int) - 1) (iwo) fun I => ?_
 refine zkm 5 I .i64 (if (((e : Int) - 1) : Int) > 0 then ((e : Int) - 1) else 0) (((e - 1 : Nat) : Int)) ((by split <;> omega)) fun I => ?_
 refine zki 6 I .i64 (f.g.lo + ((e - 1 : Nat) : Int)) (f.g.lo + ((e - 1 : Nat) : Int)) (iwo) fun I => ?_
 refine zk [8] I fun I => ?_
 refine zo 7 I fun I => ?_
 refine zg I (fun Al W I => have hzW := I.bel.size; c0s f x (lk 0 Al 2) (lk 0 Al 1) X p54 c54 _ (f.g.lo + ((e - 1 : Nat) : Int)) W I.fa.2.1 (by omega) (by omega) (I.box 2 4 _) (I.box 1 62 _)) fun Al V Iv _ hB _ kz => ?_
 rintro _ W ⟨pN, cN, rfl, oN, hb⟩
 have hD : f.dec x e X = ⟨2, X, f.g.lo + ((e - 1 : Nat) : Int)⟩ := by unfold Fm.dec; rw [if_neg (by omega), if_neg qo, if_neg (by omega), if_pos (by have := oFa f135; omega)]; simp only [Dc.mk.injEq, true_and]; have := oFa f135; omega
 refine ⟨_, rfl, kz _ _ hb fun I => ?_⟩
 have I := I.rf oN (hB _) Iv
 refine zo 9 I fun I => ?_
 refine zn I fun Al W I => ?_
 refine zk [10] I fun I => ?_
 exact zret I (v := fun Al => .tuple #[.agg #[.int .i64 (((f.vr x ⟨2, X, f.g.lo + ((e - 1 : Nat) : Int)⟩).cls : Nat) : Int), .bool ((f.vr x ⟨2, X, f.g.lo + ((e - 1 : Nat) : Int)⟩).neg), .bool ((f.vr x ⟨2, X, f.g.lo + ((e - 1 : Nat) : Int)⟩).x.neg), .slice pN (dig B16 (f.vr x ⟨2, X, f.g.lo + ((e - 1 : Nat) : Int)⟩).x.m).length cN, .int .i64 ((f.vr x ⟨2, X, f.g.lo + ((e - 1 : Nat) : Int)⟩).x.e)], .bool x]) fun Al W I => d0r (by rw [hD]) rfl I.fa.1 (by omega) I.below
theorem v0l (a N n : Nat) (h : (dig B16 a).length ≤ n) : (dig B16 (a * 2 ^ N)).length ≤ n + (N / 16 + 1) := by
 refine Nat.le_trans (d0n a0b a (2 ^ N)) ?_
 rw [k0s]; omega
theorem k0l {a : Nat} {n : Int} (h : (dig B16 a).length ≤ 2000000) (hn : -10000000 ≤ n ∧ n ≤ 10000000) : (dig B16 (numP a n)).length ≤ 2700000 := by
 have := v0l a n.toNat _ h; unfold numP; omega
theorem o0g {a : Nat} {n : Int} (h : (dig B16 a).length ≤ 2000000) (hn : -10000000 ≤ n ∧ n ≤ 10000000) : (dig B16 (denP a n)).length ≤ 2700000 := by
 have := v0l a (-n).toNat _ h; unfold denP; omega
def i1d (w : World) (q0 : Option Addr) (x y z : Nat) (en : Ending) (w' : World) : Prop :=
 ∃ p c q d r f, en = .returned (.tuple #[.slice p (dig B16 x).length c, .slice q (dig B16 y).length d, .slice r (dig B16 z).length f]) ∧ Rd w' .i64 p (dig B16 x) ∧ (0 < (dig B16 x).length → w.heap.size ≤ blk p) ∧
  Rd w' .i64 q (dig B16 y) ∧ (0 < (dig B16 y).length → w.heap.size ≤ blk q) ∧ Rd w' .i64 r (dig B16 z) ∧ (r = q0 ∨ (0 < (dig B16 z).length → w.heap.size ≤ blk r)) ∧ Below w.heap.size w w'
theorem h0j (g : Bool) (p q : Option Addr) (c d : Nat) (a b : Nat) (x n : Int) (w : World) (hp : Rd w .i64 p (dig B16 a)) (hq : Rd w .i64 q (dig B16 b))
 (hl : (dig B16 a).length ≤ 2000000) (hl2 : (dig B16 b).length ≤ 2000000) (hb : 0 < b) (hn : -10000000 ≤ x - n ∧ x - n ≤ 10000000) (_ : -1000000000 ≤ x ∧ x ≤ 1000000000) :
 Calls Tryz.prog 76 #[.agg #[.bool g, .slice p (dig B16 a).length c, .slice q (dig B16 b).length d, .int .i64 x], .int .i64 n] w (i1d w q (qP a b (x - n)) (rP a b (x - n)) (denP b (x - n))) := by
 have l1 := k0l hl hn
 have l2 := o0g hl2 hn
 have h0 := h0q hb (x - n)
 unfold qP rP
 by_cases h : n ≤ x
 · obtain ⟨N, hN⟩ : ∃ N : Nat, x - n = N := ⟨(x - n).toNat, by omega⟩
   have hNb : N ≤ 10000000 := by omega
   have e1 : denP b (x - n) = b := by rw [hN]; unfold denP; rw [show (-(N : Int)).toNat = 0 by omega, Nat.pow_zero, Nat.mul_one]
   have HN := hi0 (show numP a (x - n) = a * 2 ^ N by rw [hN]; unfold numP; rw [Int.toNat_natCast])
   rw [e1] at l2 h0 ⊢
   generalize numP a (x - n) = X at *
   have HNN := hi0 hN
   clear e1 hN
   go_enter Tryz.func76, Tryz.ntmps76
   go_wp2_with fail
   refine s0u (fun W1 hb1 hz1 Q => ?_)
   replace hp := hp.past hb1
   replace hq := hq.past hb1
   have hs1 := hb1
   obtain ⟨Q_0, Q_1, Q_2, Q_3⟩ := Q.e4
   go_quiet (fail)
   clear Q_0 Q_1 Q_2 Q_3
   have hb2 := below_drewN (Below.refl (W1).heap.size (W1)) nq
   replace Q := Q.past hb2
   replace hp := hp.past hb2
   replace hq := hq.past hb2
   have hs2 := hs1.trans (hb2.mono hs1.size)
   generalize (W1).drewN nq = w2 at *
   have hN := HNN.out
   obtain ⟨Q_0, Q_1, Q_2, Q_3⟩ := Q.e4
   go_wp2_with fail
   clear Q_0 Q_1 Q_2 Q_3
   clear hN
   ((with_reducible refine (h0h p _ c a N _ hp rfl (by omega) (by omega)).mono ?_))
   rintro e3 w3 ⟨p1, c1, rfl, ho1, hc1, hf1, hb3⟩
   replace Q := Q.past hb3
   replace hp := hp.past hb3
   replace hq := hq.past hb3
   have hs3 := hs2.trans (hb3.mono hs2.size)
   rw [← HN.out] at ho1 hf1 ⊢
   obtain ⟨Q_0, Q_1, Q_2, Q_3⟩ := Q.e4
   go_wp2_with fail
   clear Q_0 Q_1 Q_2 Q_3
   ((with_reducible refine (m0l p1 q _ _ c1 d X b _ ho1 hq rfl rfl (by omega) (by omega) h0).mono ?_))
   rintro e4 w4 ⟨p2, c2, q2, d2, rfl, hr2, hc2, hf2, hr3, hc3, hf3, hb4⟩
   replace Q := Q.past hb4
   replace hp := hp.past hb4
   replace hq := hq.past hb4
   replace ho1 := ho1.past hb4
   have hs4 := hs3.trans (hb4.mono hs3.size)
   go_wp2_with fail
   refine bodyPost_ret (v := .tuple #[.slice p2 (dig B16 (X / b)).length c2, .slice q2 (dig B16 (X % b)).length d2, .slice q (dig B16 b).length d]) (by simp [results, Tryz.results76, go_sem]) rfl ?_
   have hz := hs3.size
   exact ⟨p2, c2, q2, d2, q, d, rfl, hr2, fun h => Nat.le_trans hz (hf2 h), hr3, fun h => Nat.le_trans hz (hf3 h), hq, .inl rfl, hs4⟩
 · obtain ⟨N, hN⟩ : ∃ N : Nat, n - x = N := ⟨(n - x).toNat, by omega⟩
   have hNb : N ≤ 10000000 := by omega
   have e1 : numP a (x - n) = a := by unfold numP; rw [show (x - n).toNat = 0 by omega, Nat.pow_zero, Nat.mul_one]
   have HN := hi0 (show denP b (x - n) = b * 2 ^ N by unfold denP; rw [show (-(x - n)).toNat = N by omega])
   rw [e1] at l1 ⊢
   generalize denP b (x - n) = X at *
   have HNN := hi0 hN
   clear e1 hN
   go_enter Tryz.func76, Tryz.ntmps76
   go_wp2_with fail
   refine s0u (fun W1 hb1 hz1 Q => ?_)
   replace hp := hp.past hb1
   replace hq := hq.past hb1
   have hs1 := hb1
   obtain ⟨Q_0, Q_1, Q_2, Q_3⟩ := Q.e4
   go_quiet (fail)
   clear Q_0 Q_1 Q_2 Q_3
   have hb2 := below_drewN (Below.refl (W1).heap.size (W1)) nq
   replace Q := Q.past hb2
   replace hp := hp.past hb2
   replace hq := hq.past hb2
   have hs2 := hs1.trans (hb2.mono hs1.size)
   generalize (W1).drewN nq = w2 at *
   have hN := HNN.out
   obtain ⟨Q_0, Q_1, Q_2, Q_3⟩ := Q.e4
   go_wp2_with fail
   clear Q_0 Q_1 Q_2 Q_3
   clear hN
   ((with_reducible refine (h0h q _ d b N _ hq rfl (by omega) (by omega)).mono ?_))
   rintro e3 w3 ⟨p1, c1, rfl, ho1, hc1, hf1, hb3⟩
   replace Q := Q.past hb3
   replace hp := hp.past hb3
   replace hq := hq.past hb3
   have hs3 := hs2.trans (hb3.mono hs2.size)
   rw [← HN.out] at ho1 hf1 ⊢
   obtain ⟨Q_0, Q_1, Q_2, Q_3⟩ := Q.e4
   go_wp2_with fail
   clear Q_0 Q_1 Q_2 Q_3
   ((with_reducible refine (m0l p p1 _ _ c c1 a X _ hp ho1 rfl rfl (by omega) (by omega) h0).mono ?_))
   rintro e4 w4 ⟨p2, c2, q2, d2, rfl, hr2, hc2, hf2, hr3, hc3, hf3, hb4⟩
   replace Q := Q.past hb4
   replace hp := hp.past hb4
   replace hq := hq.past hb4
   replace ho1 := ho1.past hb4
   have hs4 := hs3.trans (hb4.mono hs3.size)
   go_wp2_with fail
   refine bodyPost_ret (v := .tuple #[.slice p2 (dig B16 (a / X)).length c2, .slice q2 (dig B16 (a % X)).length d2, .slice p1 (dig B16 X).length c1]) (by simp [results, Tryz.results76, go_sem]) rfl ?_
   have hz := hs3.size
   have hz2 := hs2.size
   exact ⟨p2, c2, q2, d2, p1, c1, rfl, hr2, fun h => Nat.le_trans hz (hf2 h), hr3, fun h => Nat.le_trans hz (hf3 h), ho1, .inr fun h => Nat.le_trans hz2 (hf1 h), hs4⟩
end Go.Proofs.YtmacohmclpnphaaGreatDoor
namespace Go.Slip
theorem p0v {xs : List Nat} (h : ∀ x ∈ xs, x < 256) : b0b (b0q xs) = xs := by
 unfold b0b b0q
 simp only [List.map_map]
 rw [show (xs.map (UInt8.toNat ∘ UInt8.ofNat)) = xs.map id from List.map_congr_left fun x hx => by
  have := h x hx
  simp only [Function.comp, id]
  rw [UInt8.toNat_ofNat']
  omega]
 simp
end Go.Slip
namespace Go.Proofs.YtmacohmclpnphaaGreatDoor
open Go.RowKit Go.Slip
def t0v (n cls : Int) (a : Din) : Int := if IsFm n then a0k (fmt n) cls a else 6
theorem x0a (n : Int) (cls : Int) (a : Din) (w : World) (ha : InD w a) (hT : TabW w) :
 Calls Tryz.prog 42 #[.int .i64 n, .agg #[.int .i64 cls, .bool a.g, .slice a.p a.xs.length a.c, .int .i64 a.e]] w (r0q w (t0v n cls a) (o0c (fmt n) cls a)) := by
 unfold t0v
 by_cases hn : IsFm n
 · rw [if_pos hn]; exact b1h n cls a w hn ha hT
 · rw [if_neg hn]
   have HF := fun W => hi0 (j0d n hn W)
   generalize o0c (fmt n) cls a = s
   have hT146 : e0h Tryz.prog 146 12 := c0j (by kernel_rfl) (by kernel_rfl)
   refine calls_of_wp Tryz.func42 rfl ?_
   refine b0c (a' := ⟨((.int .i64 n) :: (.agg #[.int .i64 cls, .bool a.g, .slice a.p a.xs.length a.c, .int .i64 a.e]) :: us 145 []).toArray, []⟩) (by kernel_rfl) ?_
   refine ye ?_
   refine yw 0 rfl 3 #[.int .i64 cls, .bool a.g, .slice a.p a.xs.length a.c, .int .i64 a.e] 75 (fun V1 hbV1 hzV1 b3 => ?_)
   refine yzt 2 ?_
   refine ye ?_
   refine yc 1 rfl 13 ((HF V1).out) (fun Gx hGx => ?_)
   rintro eV2 V2 ⟨rfl, hbV2⟩
   have hzV2 := hbV2.size
   refine ⟨_, rfl, hGx _ _ ?_⟩
   clear hGx Gx
   refine yw 3 rfl 6 #[.int .i64 0, .int .i64 0, .int .i64 0, .int .i64 0, .int .i64 0, .int .i64 0, .int .i64 0, .bool false, .bool false, .bool false, .bool false, .nilFunc] 146 (fun V3 hbV3 hzV3 b6 => ?_)
   have boV4 := b6
   refine ysw 0 rfl b6 hT146 #[.int .i64 0, .int .i64 0, .int .i64 0, .int .i64 0, .int .i64 0, .int .i64 0, .int .i64 0, .bool false, .bool false, .bool false, .bool false, .nilFunc] ?_
   clear b6
   intro V4 hOV4 b6
   have hzV4 := hOV4.size
   refine yzt 1 ?_
   refine wp_seq ?_
   refine yq ?_
   refine yT ?_
   refine yq ?_
   refine wp_ret ?_
   repeat (first | with_reducible refine a0x ?_ | with_reducible refine a0o ?_)
   refine yret (.tuple #[Go.Value.string (ByteArray.mk #[]), .int .i64 6]) (res2 Tryz.results42 rvt rvt) ?_
   exact a0l (r := 6) rfl (by decide) rfl ((a0g (a0g hbV1 hbV2) hbV3).trans (hOV4.below (by omega)))
end Go.Proofs.YtmacohmclpnphaaGreatDoor
namespace Go.Slip
open Go.RowKit
theorem RdV.grown {w w' : World} {p : Option Addr} {vs : List Value} {row : Option Nat} (h : RdV w p vs) (hg : w.grownBy w' row) (hne : 0 < vs.length → some (blk p) ≠ row) : RdV w' p vs :=
 h.same fun h0 => hg.block _ (h.lt h0) (hne h0)
theorem Rf.grown {w w' : World} {base : Nat} {p : Option Addr} {c : Nat} {xs : List Nat} {row : Option Nat} (h : Rf w base p c xs) (hg : w.grownBy w' row) (hne : 0 < xs.length → some (blk p) ≠ row) : Rf w' base p c xs :=
 ⟨h.rd.same fun h0 => hg.block _ (h.rd.lt h0) (hne h0), h.cap, h.at_⟩
section
variable {P : Program} {ops : Array Oper} {Q : Exit → Act → World → Prop} {a : Act} {w : World} {rest : List Oper} {o : Oper} {K : Act → World → Prop}
end
end Go.Slip
namespace Go.Proofs.YtmacohmclpnphaaGreatDoor
open Go.RowKit Go.Slip
theorem x0b (f : Fm) {k : Nat} (h : k ≠ 2) (g : Bool) (d d' : Dv) : f.encP k g d = f.encP k g d' := by
 unfold Fm.encP
 rw [if_neg h, if_neg h]
theorem t0w {f : Fm} (G : c0l f) {neg : Bool} {e x : Nat} (he : e < 2 ^ f.E) (hx : x < 2 ^ f.F) : a0s f (b0q (f.str neg e x)) = f.pat neg e x := by
 have ho : f.ord = 1 → f.size % 2 = 0 := fun _ => by have := G.sz; omega
 unfold a0s
 rw [p0v (by unfold Fm.str; exact h0r (by rw [d0e]; exact ho) (r0c _ _)), j1z G he hx]
theorem p0w {r : Nat} (h : (dig B32 r).length ≤ 1200) : b0o (dig B32 r) = 0 := by rw [Go.Slip.v0u, if_neg (by omega)]
structure Is (a : Din) (v : Vl) : Prop where
 g : a.g = v.neg
 xs : a.xs = dig B32 v.d
 e : a.e = v.pow
theorem Is.num {a : Din} {v : Vl} (h : Is a v) (f : Fm) : numD f a = bare ⟨v.neg, v.d, wid f.g * v.pow⟩ := by
 unfold numD
 rw [h.g, h.xs, h.e, a0u a0a]
def dinV (v : Vl) (p : Option Addr) (c : Nat) : Din := ⟨v.neg, p, c, dig B32 v.d, v.pow⟩
theorem i1e {v : Vl} {p : Option Addr} {c base : Nat} {w : World} (h : Own w base .u32 141 p c (dig B32 v.d)) (hl : (dig B32 v.d).length ≤ 1000) : InD w (dinV v p c) :=
 ⟨h.rd, h.le_cap, by show (dig B32 v.d).length ≤ _; omega, b0a a0a _⟩
end Go.Proofs.YtmacohmclpnphaaGreatDoor
namespace Go.Slip
theorem v0m (g : Bool) (x : Int) : bare ⟨g, 0, x⟩ = ⟨false, 0, 0⟩ := by unfold bare; simp
def rv (neg : Bool) (num den : Nat) (e : Int) (g : Gd) (way : Int) : Dv := bare ⟨(a0m neg num den e g way).neg, (a0m neg num den e g way).d, wid g * (a0m neg num den e g way).pow⟩
theorem b1l (neg : Bool) (den : Nat) (e : Int) (g : Gd) (way : Int) : rv neg 0 den e g way = ⟨false, 0, 0⟩ := by
 unfold rv a0m
 rw [if_pos rfl]
 exact v0m _ _
def okP (p : Pl) (g : Gd) : Bool := !p.over && (!p.under || g.grad)
theorem l1w {neg : Bool} {num den : Nat} {e : Int} {g : Gd} {way : Int} (hd : 0 < den) (G : h0v g) (hok : okP (a0m neg num den e g way) g = true) : b0r (rv neg num den e g way) g = true := by
 by_cases h0 : num = 0
 · subst h0; rw [b1l]; rfl
 · have hK := l0y (num := num) (by omega) hd e (w := wid g) (D := g.digs.toNat) (b0f g).1 (by have := G.d1; omega)
   have hD : 1 ≤ g.digs.toNat := by have := G.d1; omega
   unfold rv a0m at *
   rw [if_neg h0] at *
   generalize theK num den e (wid g) g.digs.toNat = K at *
   have hq := q_lt hd hD (a1a hd hK (z0z g K))
   have hover : powP neg num den e (wid g) g.digs.toNat way (powK g K) ≤ g.hi := by
    unfold okP at hok
    have : (fitK neg num den e g way K).over = decide (g.hi < powP neg num den e (wid g) g.digs.toNat way (powK g K)) := rfl
    rw [this] at hok
    simp only [Bool.and_eq_true, Bool.not_eq_true', decide_eq_false_iff_not] at hok
    omega
   have hunder : g.lo ≤ K ∨ g.grad = true := by
    unfold okP at hok
    have : (fitK neg num den e g way K).under = decide (K < g.lo) := rfl
    rw [this] at hok
    simp only [Bool.and_eq_true, Bool.or_eq_true, Bool.not_eq_true', decide_eq_false_iff_not] at hok
    rcases hok.2 with h | h
    · left; omega
    · right; exact h
   show b0r (bare ⟨neg, digP neg num den e (wid g) g.digs.toNat way (powK g K), wid g * (if digP neg num den e (wid g) g.digs.toNat way (powK g K) = 0 then 0 else powP neg num den e (wid g) g.digs.toNat way (powK g K))⟩) g = true
   by_cases hd0 : digP neg num den e (wid g) g.digs.toNat way (powK g K) = 0
   · rw [hd0, v0m]; rfl
   · rw [if_neg hd0, ← j0t]
     have hDD : g.digs = (g.digs.toNat : Int) := by have := G.d1; omega
     have habs : (sg neg (digP neg num den e (wid g) g.digs.toNat way (powK g K))).natAbs = digP neg num den e (wid g) g.digs.toNat way (powK g K) := by unfold sg; cases neg <;> simp
     have hlow : g.lo ≤ powK g K ∧ (2 ^ (wid g * (g.digs.toNat - 1)) ≤ qP num den (e - wid g * powK g K) ∨ (g.grad = true ∧ powK g K = g.lo)) := by
      by_cases hu : K < g.lo
      · have hg : g.grad = true := by rcases hunder with h | h; omega; exact h
        have : powK g K = g.lo := by unfold powK; rw [if_pos ⟨hu, hg⟩]
        exact ⟨by omega, .inr ⟨hg, this⟩⟩
      · have : powK g K = K := by unfold powK; rw [if_neg (fun h => hu h.1)]
        rw [this]
        exact ⟨by omega, .inl hK.yes⟩
     have hww : wid g * (g.digs.toNat - 1) < wid g * g.digs.toNat := Nat.mul_lt_mul_of_pos_left (by omega) (b0f g).1
     refine i0i G hDD ?_ ?_ ?_ hover
     · rw [habs]
       unfold digP
       by_cases hl : g0m neg num den e (wid g) g.digs.toNat way (powK g K)
       · rw [if_pos hl]; exact Nat.pow_lt_pow_right (by omega) hww
       · rw [if_neg hl]
         unfold g0m at hl
         by_cases hu : upP neg num den e (wid g) way (powK g K) = true
         · exact (a0w _ _).1 (by have : ¬ wid g * g.digs.toNat < blen (dUp neg num den e (wid g) way (powK g K)) := fun h => hl ⟨hu, h⟩; omega)
         · have : upP neg num den e (wid g) way (powK g K) = false := by simpa using hu
           unfold dUp; rw [this]; simpa using hq
     · rw [habs]
       unfold digP powP
       by_cases hl : g0m neg num den e (wid g) g.digs.toNat way (powK g K)
       · rw [if_pos hl, if_pos hl]; exact .inr (.inl (Nat.le_refl _))
       · rw [if_neg hl, if_neg hl]
         rcases hlow.2 with h | h
         · exact .inr (.inl (by unfold dUp; omega))
         · exact .inr (.inr h)
     · unfold powP; split <;> omega
theorem e1i {w D : Nat} (hD : 1 ≤ D) : w * D = w * (D - 1) + w := by
 obtain ⟨c, rfl⟩ : ∃ c, D = c + 1 := ⟨D - 1, by omega⟩
 simp only [Nat.add_sub_cancel]; grind
theorem e1j {g : Gd} (G : h0v g) {z : Int} {k : Int} (hz : z ≠ 0) (hlt : z.natAbs < 2 ^ (wid g * g.digs.toNat)) (hk : g.lo ≤ k) (hfull : 2 ^ (wid g * (g.digs.toNat - 1)) ≤ z.natAbs ∨ k = g.lo) : stepK (norm z (wid g * k)) g = k := by
 have wp := b0f g
 have hD : 1 ≤ g.digs.toNat := by have := G.d1; omega
 have ht := v0b hz (wid g * k)
 have hb1 : blen z.natAbs ≤ wid g * g.digs.toNat := (a0w _ _).2 hlt
 have hb0 := (c0o z.natAbs).2 (by omega)
 unfold stepK upK
 rw [ht]
 generalize g.digs.toNat = D at *
 have hb := e0j ((wid g : Int) * k + (blen z.natAbs : Nat) - 1) (wid g) (by omega)
 generalize ((wid g : Int) * k + (blen z.natAbs : Nat) - 1) / (wid g : Int) = f at *
 have e1 := e1i (w := wid g) hD
 have e3 : ((wid g * (D - 1) : Nat) : Int) = wid g * D - wid g := by
  have : ((wid g * D : Nat) : Int) = (wid g * (D - 1) : Nat) + (wid g : Nat) := by rw [e1]; simp
  rw [Int.natCast_mul] at this
  omega
 have e4 : ((wid g * D : Nat) : Int) = wid g * D := Int.natCast_mul _ _
 have eK : ∀ j : Int, (wid g : Int) * (j - D + 1) = wid g * j - wid g * D + wid g := fun j => by grind
 have w0 : (0 : Int) ≤ wid g := by omega
 have step : ∀ j l : Int, wid g * j < (wid g : Int) * l + wid g → j ≤ l := fun j l h => by
  rcases Int.lt_or_le l j with h1 | h1
  · have h2 : (wid g : Int) * (l + 1) ≤ wid g * j := Int.mul_le_mul_of_nonneg_left (by omega) w0
    rw [Int.mul_add] at h2
    omega
  · exact h1
 have hupper : f - D + 1 ≤ k := step _ _ (by rw [eK]; omega)
 rcases hfull with h | h
 · have h3 : wid g * (D - 1) < blen z.natAbs := by
    rcases Nat.lt_or_ge (wid g * (D - 1)) (blen z.natAbs) with h' | h'
    · exact h'
    · have := (a0w _ _).1 h'; omega
   have hlower : k ≤ f - D + 1 := step _ _ (by rw [eK]; omega)
   omega
 · omega
theorem p0x (z : Int) (e : Int) : zOf (norm z e) e = z := by
 have := u0n z (Int.le_refl e)
 simpa using this
theorem b1m {neg : Bool} {num den : Nat} {e : Int} {g : Gd} {way : Int} (hd : 0 < den) (G : h0v g) : (dig B32 (a0m neg num den e g way).d).length ≤ 16 := by
 unfold a0m
 by_cases h0 : num = 0
 · rw [if_pos h0]; simp [a0c]
 · rw [if_neg h0]
   have hK := l0y (num := num) (by omega) hd e (w := wid g) (D := g.digs.toNat) (b0f g).1 (by have := G.d1; omega)
   have h1 := v0c (neg := neg) (way := way) hd G hK
   have h2 : wid g * g.digs.toNat ≤ 480 := by
    have := Nat.mul_le_mul (b0f g).2 (show g.digs.toNat ≤ 120 by have := G.d2; omega)
    omega
   exact Nat.le_trans (a0j a0a (Nat.le_of_lt h1)) (g0n h2)
theorem k1s {neg : Bool} {num den : Nat} {e : Int} {g : Gd} {way : Int} (_ : 0 < den) (G : h0v g) (hok : okP (a0m neg num den e g way) g = true) : -17000 ≤ (a0m neg num den e g way).pow ∧ (a0m neg num den e g way).pow ≤ 17000 := by
 unfold a0m at *
 by_cases h0 : num = 0
 · rw [if_pos h0]; simp
 · rw [if_neg h0] at *
   generalize theK num den e (wid g) g.digs.toNat = K at *
   have hover : powP neg num den e (wid g) g.digs.toNat way (powK g K) ≤ g.hi := by
    unfold okP at hok
    have : (fitK neg num den e g way K).over = decide (g.hi < powP neg num den e (wid g) g.digs.toNat way (powK g K)) := rfl
    rw [this] at hok
    simp only [Bool.and_eq_true, Bool.not_eq_true', decide_eq_false_iff_not] at hok
    omega
   have hlow : g.lo ≤ powK g K := by
    unfold okP at hok
    have : (fitK neg num den e g way K).under = decide (K < g.lo) := rfl
    rw [this] at hok
    simp only [Bool.and_eq_true, Bool.or_eq_true, Bool.not_eq_true', decide_eq_false_iff_not] at hok
    unfold powK
    rcases hok.2 with h | h
    · rw [if_neg (fun k => h k.1)]; omega
    · by_cases hu : K < g.lo
      · rw [if_pos ⟨hu, h⟩]; omega
      · rw [if_neg (fun k => hu k.1)]; omega
   have h1 := G.l1
   have h2 := G.h2
   have hp : (fitK neg num den e g way K).pow = if digP neg num den e (wid g) g.digs.toNat way (powK g K) = 0 then 0 else powP neg num den e (wid g) g.digs.toNat way (powK g K) := rfl
   rw [hp]
   have h3 : powK g K ≤ powP neg num den e (wid g) g.digs.toNat way (powK g K) := by unfold powP; split <;> omega
   split
   · omega
   · omega
end Go.Slip
namespace Go.Proofs.YtmacohmclpnphaaGreatDoor
open Go.RowKit Go.Slip
structure ResF (f : Fm) (r : Vr) : Prop where
 c : 1 ≤ r.cls ∧ r.cls ≤ 5
 c1 : r.cls = 1 → r.neg = true → f.fam ≠ 3
 c2 : r.cls = 2 → b0r r.x f.g = true ∧ Bare r.x ∧ r.x.m ≠ 0 ∧ r.x.neg = r.neg
 c3 : r.cls = 3 → f.fam = 1
 c4 : r.cls = 4 → f.fam = 1 ∧ r.neg = false
 c5 : r.cls = 5 → f.fam = 3 ∧ r.neg = false
 x0 : r.cls ≠ 2 → r.x = vz
structure VRep (f : Fm) (v : Vl) (r : Vr) : Prop where
 cls : v.cls = r.cls
 neg : v.neg = r.neg
 num : r.cls = 2 → bare ⟨v.neg, v.d, wid f.g * v.pow⟩ = r.x
 oth : r.cls ≠ 2 → v.d = 0 ∧ v.pow = 0
 len : (dig B32 v.d).length ≤ 1000
 lo : -20000 ≤ v.pow
 hi : v.pow ≤ 20000
theorem k1t {f : Fm} {v : Vl} {r : Vr} (R : ResF f r) (V : VRep f v r) (p : Option Addr) (c : Nat) :
 a0k f (v.cls : Int) (dinV v p c) = 0 ∧ o0c f (v.cls : Int) (dinV v p c) = b0q (f.strP (f.encP r.cls r.neg r.x)) := by
 have hinf : f.inf = false ↔ f.fam ≠ 1 := by unfold Fm.inf; simp
 have hres : f.res = false ↔ f.fam ≠ 3 := by unfold Fm.res; simp
 have hres1 : f.res = true ↔ f.fam = 3 := by unfold Fm.res; simp
 have hc := R.c
 have hcl := V.cls
 have hlo := V.lo
 have hhi := V.hi
 have hE : b0o (dinV v p c).xs = 0 := p0w (by have := V.len; omega)
 have hN : r.cls = 2 → numD f (dinV v p c) = r.x := fun h => by
  rw [← V.num h]
  unfold numD dinV
  simp only [a0u a0a]
 refine ⟨?_, ?_⟩
 · unfold a0k
   rw [if_neg (by omega), if_neg (by omega), if_neg]
   · by_cases h2 : r.cls = 2
     · obtain ⟨i1, i2, i3, i4⟩ := R.c2 h2
       rw [if_pos (by omega), if_neg (by show ¬ (v.pow < _ ∨ _ < v.pow); omega), hN h2, i1, if_neg]
       rintro (h | h)
       · have h0 : v.d = 0 := (a0d a0a _).1 h
         have := V.num h2
         rw [h0] at this
         exact i3 (by rw [← this]; rfl)
       · cases h
     · obtain ⟨o1, o2⟩ := V.oth h2
       rw [if_neg (by omega), if_neg]
       rintro (h | h | ⟨h, k⟩)
       · have : (dig B32 v.d).length = 0 := by rw [o1, a0c]; rfl
         have h : 0 < (dig B32 v.d).length := h
         omega
       · exact h o2
       · have hg : r.neg = true := by rw [← V.neg]; exact h
         have k4 := R.c4
         have k5 := R.c5
         rw [hg] at k4 k5
         rcases k with k | k
         · rcases (show r.cls = 4 ∨ r.cls = 5 by omega) with q | q
           · exact absurd (k4 q).2 (by decide)
           · exact absurd (k5 q).2 (by decide)
         · rcases (show r.cls = 1 ∨ r.cls = 3 ∨ r.cls = 4 ∨ r.cls = 5 by omega) with q | q | q | q
           · exact R.c1 q hg (hres1.1 k)
           · have := R.c3 q; have := hres1.1 k; omega
           · exact absurd (k4 q).2 (by decide)
           · exact absurd (k5 q).2 (by decide)
   · rintro (⟨h | h, k⟩ | ⟨h, k⟩)
     · exact hinf.1 k (R.c3 (by omega))
     · exact hinf.1 k (R.c4 (by omega)).1
     · exact hres.1 k (R.c5 (by omega)).1
 · unfold o0c
   rw [show ((v.cls : Int)).toNat = r.cls by omega, show (dinV v p c).g = r.neg from V.neg]
   by_cases h2 : r.cls = 2
   · rw [hN h2]
   · rw [x0b f h2 r.neg _ r.x]
theorem k1u {neg : Bool} {num den : Nat} {e : Int} {g : Gd} {way : Int} (hd : 0 < den) (G : h0v g) (ho : (a0m neg num den e g way).over = false)
 (hu : (a0m neg num den e g way).under = true → g.grad = false → g.lo ≤ (a0m neg num den e g way).pow ∧ (a0m neg num den e g way).d ≠ 0) :
 b0r (rv neg num den e g way) g = true := by
 by_cases hok : okP (a0m neg num den e g way) g = true
 · exact l1w hd G hok
 · unfold okP at hok
   rw [ho] at hok
   simp only [Bool.not_false, Bool.true_and, Bool.or_eq_true, Bool.not_eq_true', not_or, Bool.not_eq_false, Bool.not_eq_true] at hok
   obtain ⟨h1, h2⟩ := hok
   obtain ⟨h3, h4⟩ := hu h1 h2
   by_cases h0 : num = 0
   · subst h0; rw [b1l]; rfl
   · unfold rv
     unfold a0m at *
     rw [if_neg h0] at *
     generalize theK num den e (wid g) g.digs.toNat = K at *
     have hk : K < g.lo := oTr h1
     have hp : powK g K = K := by unfold powK; rw [if_neg (fun h => by rw [h2] at h; cases h.2)]
     have e1 : (fitK neg num den e g way K).pow = if digP neg num den e (wid g) g.digs.toNat way (powK g K) = 0 then 0 else powP neg num den e (wid g) g.digs.toNat way (powK g K) := rfl
     have e2 : (fitK neg num den e g way K).d = digP neg num den e (wid g) g.digs.toNat way (powK g K) := rfl
     have e3 : (fitK neg num den e g way K).neg = neg := rfl
     rw [e2] at h4
     rw [e1, if_neg h4] at h3
     rw [e1, e2, e3, if_neg h4]
     rw [hp] at h3 h4 ⊢
     have hl : g0m neg num den e (wid g) g.digs.toNat way K := by
      by_cases h : g0m neg num den e (wid g) g.digs.toNat way K
      · exact h
      · unfold powP at h3; rw [if_neg h] at h3; omega
     unfold digP powP at *
     rw [if_pos hl] at h3
     rw [if_pos hl, if_pos hl]
     have hd1 := G.d1
     have hgl := G.le
     have hww : wid g * (g.digs.toNat - 1) < wid g * g.digs.toNat := Nat.mul_lt_mul_of_pos_left (by omega) (b0f g).1
     have habs : (sg neg (2 ^ (wid g * (g.digs.toNat - 1)))).natAbs = 2 ^ (wid g * (g.digs.toNat - 1)) := by unfold sg; cases neg <;> simp [Int.natAbs_pow]
     rw [← j0t]
     refine i0i G (show g.digs = (g.digs.toNat : Int) by omega) ?_ ?_ h3 (by omega)
     · rw [habs]; exact Nat.pow_lt_pow_right (by omega) hww
     · rw [habs]; exact .inr (.inl (Nat.le_refl _))
theorem p0y {g : Bool} {m : Nat} {e : Int} (h : m ≠ 0) : (bare ⟨g, m, e⟩).neg = g ∧ (bare ⟨g, m, e⟩).m ≠ 0 := by
 unfold bare
 rw [if_neg h]
 refine ⟨rfl, fun h2 => ?_⟩
 have := (c0h m (by omega)).2
 simp only at h2
 rw [h2] at this
 simp at this
/-! ### What comes -/
theorem t0x {f : Fm} (G : c0l f) (g : Bool) : ResF f (f.zeroM g) := by
 have := G.fam
 refine ⟨by show 1 ≤ 1 ∧ 1 ≤ 5; omega, fun _ h h3 => ?_, fun h => (by cases h), fun h => (by cases h), fun h => (by cases h), fun h => (by cases h), fun _ => rfl⟩
 have h : (g && decide (f.fam = 1)) = true := h
 simp [h3] at h
theorem x0c {f : Fm} (G : c0l f) : ResF f f.nothM := by
 have hf := G.fam
 unfold Fm.nothM
 rcases hf with h | h | h <;> rw [h] <;> refine ⟨?_, ?_, ?_, ?_, ?_, ?_, fun _ => rfl⟩ <;> simp [h]
theorem k1v {f : Fm} (h : f.fam = 1) (g : Bool) : ResF f (infM g) :=
 ⟨by show 1 ≤ 3 ∧ 3 ≤ 5; omega, fun h => (by cases h), fun h => (by cases h), fun _ => h, fun h => (by cases h), fun h => (by cases h), fun _ => rfl⟩
theorem e1k {f : Fm} (G : c0l f) (g : Bool) : 2 ^ (wid f.g * f.g.digs.toNat) - 1 ≠ 0 ∧ b0r (f.greatM g).x f.g = true := by
 have GG := c0c G.g
 have hd1 := GG.d1
 have hgl := GG.le
 have wp := b0f f.g
 have hww : wid f.g * (f.g.digs.toNat - 1) < wid f.g * f.g.digs.toNat := Nat.mul_lt_mul_of_pos_left (by omega) wp.1
 have h1 : 2 ^ (wid f.g * (f.g.digs.toNat - 1)) < 2 ^ (wid f.g * f.g.digs.toNat) := Nat.pow_lt_pow_right (by omega) hww
 have h2 : 0 < 2 ^ (wid f.g * (f.g.digs.toNat - 1)) := Nat.pow_pos (by omega)
 refine ⟨by omega, ?_⟩
 show b0r (bare ⟨g, 2 ^ (wid f.g * f.g.digs.toNat) - 1, wid f.g * f.g.hi⟩) f.g = true
 have habs : (sg g (2 ^ (wid f.g * f.g.digs.toNat) - 1)).natAbs = 2 ^ (wid f.g * f.g.digs.toNat) - 1 := by unfold sg; cases g <;> simp only [if_true, Bool.false_eq_true, if_false, Int.natAbs_neg, Int.natAbs_natCast]
 rw [← j0t]
 refine i0i GG (show f.g.digs = (f.g.digs.toNat : Int) by omega) ?_ ?_ hgl (Int.le_refl _)
 · rw [habs]; omega
 · rw [habs]; exact .inr (.inl (by omega))
theorem v0n {f : Fm} (G : c0l f) (g : Bool) : ResF f (f.greatM g) := by
 obtain ⟨h1, h2⟩ := e1k G g
 exact ⟨by show 1 ≤ 2 ∧ 2 ≤ 5; omega, fun h => (by cases h), fun _ => ⟨h2, f0r _, (p0y h1).2, (p0y h1).1⟩, fun h => (by cases h), fun h => (by cases h), fun h => (by cases h), fun h => absurd rfl h⟩
theorem r0v {f : Fm} (G : c0l f) (g : Bool) : VRep f ⟨2, g, 2 ^ (wid f.g * f.g.digs.toNat) - 1, f.g.hi⟩ (f.greatM g) := by
 have GG := c0c G.g
 have h1 := GG.h1
 have h2 := GG.h2
 have hd2 := GG.d2
 have wp := b0f f.g
 have hm : wid f.g * f.g.digs.toNat ≤ 4 * 120 := Nat.mul_le_mul wp.2 (by omega)
 refine ⟨rfl, rfl, fun _ => rfl, fun h => absurd rfl h, ?_, by show _ ≤ f.g.hi; omega, by show f.g.hi ≤ _; omega⟩
 exact Nat.le_trans (a0j a0a (Nat.sub_le _ _)) (Nat.le_trans (g0n hm) (by omega))
theorem g0d {f : Fm} {k : Nat} {g : Bool} {x : Dv} (h : k ≠ 2) : VRep f ⟨k, g, 0, 0⟩ ⟨k, g, x⟩ :=
 ⟨rfl, rfl, fun e => absurd e h, fun _ => ⟨rfl, rfl⟩, by show (dig B32 0).length ≤ _; rw [a0c]; decide, by show (-20000 : Int) ≤ 0; decide, by show (0 : Int) ≤ 20000; decide⟩
def _root_.Go.Slip.Fm.placedV (f : Fm) (p : Pl) (way : Int) : Vl :=
 if p.over then (if f.fam = 2 then ⟨2, p.neg, 2 ^ (wid f.g * f.g.digs.toNat) - 1, f.g.hi⟩ else if f.fam = 3 then ⟨f.nothM.cls, false, 0, 0⟩ else if way ≤ 2 ∨ (way = 4 ∧ p.neg = false) ∨ (way = 5 ∧ p.neg = true) then ⟨3, p.neg, 0, 0⟩ else ⟨2, p.neg, 2 ^ (wid f.g * f.g.digs.toNat) - 1, f.g.hi⟩)
 else if p.under = true ∧ f.fam ≠ 1 ∧ p.pow < f.g.lo then ⟨1, false, 0, 0⟩
 else if p.d = 0 then ⟨1, p.neg && decide (f.fam = 1), 0, 0⟩
 else ⟨2, p.neg, p.d, p.pow⟩
theorem b1n {f : Fm} (_G : c0l f) : f.nothM.cls ≠ 2 := by unfold Fm.nothM; simp only; split <;> (try split) <;> omega
theorem o0h {f : Fm} (G : c0l f) {neg : Bool} {num den : Nat} {e way : Int} (hd : 0 < den) :
 ResF f (f.placedM (a0m neg num den e f.g way) way).1 ∧ VRep f (f.placedV (a0m neg num den e f.g way) way) (f.placedM (a0m neg num den e f.g way) way).1 := by
 have GG := c0c G.g
 have hin := fun h1 h2 => k1u (neg := neg) (num := num) (e := e) (way := way) hd GG h1 h2
 have hlen := b1m (neg := neg) (num := num) (e := e) (way := way) hd GG
 have hpw := fun h => k1s (neg := neg) (num := num) (e := e) (way := way) hd GG h
 have hpw2 : (a0m neg num den e f.g way).over = false → (a0m neg num den e f.g way).pow ≤ 17000 := by
  intro h
  have hh := GG.h2
  unfold a0m at *
  by_cases h0 : num = 0
  · rw [if_pos h0]; simp
  · rw [if_neg h0] at *
    generalize theK num den e (wid f.g) f.g.digs.toNat = K at *
    have h1 : powP neg num den e (wid f.g) f.g.digs.toNat way (powK f.g K) ≤ f.g.hi := by
     have h : decide (f.g.hi < powP neg num den e (wid f.g) f.g.digs.toNat way (powK f.g K)) = false := h
     have := oFa h
     omega
    show (if digP neg num den e (wid f.g) f.g.digs.toNat way (powK f.g K) = 0 then 0 else powP neg num den e (wid f.g) f.g.digs.toNat way (powK f.g K)) ≤ 17000
    split <;> omega
 unfold rv at hin
 have hgr := G.grad
 have l1 := GG.l1
 generalize a0m neg num den e f.g way = p at *
 unfold Fm.placedM Fm.placedV
 cases ho : p.over with
 | true =>
  simp only [if_true]
  by_cases h2 : f.fam = 2
  · rw [if_pos h2, if_pos h2]; exact ⟨v0n G _, r0v G _⟩
  · rw [if_neg h2, if_neg h2]
    by_cases h3 : f.fam = 3
    · rw [if_pos h3, if_pos h3]; exact ⟨x0c G, g0d (b1n G)⟩
    · have hf : f.fam = 1 := by have := G.fam; omega
      rw [if_neg h3, if_neg h3]
      split
      · exact ⟨k1v hf _, g0d (by decide)⟩
      · exact ⟨v0n G _, r0v G _⟩
 | false =>
  simp only [Bool.false_eq_true, if_false]
  by_cases hz : p.under = true ∧ f.fam ≠ 1 ∧ p.pow < f.g.lo
  · rw [if_pos hz, if_pos hz]
    exact ⟨t0x G _, g0d (by decide)⟩
  · rw [if_neg hz, if_neg hz]
    by_cases hd0 : p.d = 0
    · rw [if_pos hd0, if_pos hd0]
      exact ⟨t0x G _, g0d (by decide)⟩
    · rw [if_neg hd0, if_neg hd0]
      have hu : p.under = true → f.g.grad = false → f.g.lo ≤ p.pow ∧ p.d ≠ 0 := fun h1 h2 => by
       rw [hgr] at h2
       have := oFa h2
       refine ⟨?_, hd0⟩
       rcases Int.lt_or_le p.pow f.g.lo with h | h
       · exact absurd ⟨h1, this, h⟩ hz
       · exact h
      obtain ⟨b1, b2⟩ := p0y (g := p.neg) (e := wid f.g * p.pow) hd0
      have hlo : -17000 ≤ p.pow := by
       by_cases hok : okP p f.g = true
       · exact (hpw hok).1
       · unfold okP at hok
         rw [ho] at hok
         simp only [Bool.not_false, Bool.true_and, Bool.or_eq_true, Bool.not_eq_true', not_or, Bool.not_eq_false, Bool.not_eq_true] at hok
         have := (hu hok.1 hok.2).1
         omega
      have hhi := hpw2 ho
      refine ⟨⟨by show 1 ≤ 2 ∧ 2 ≤ 5; omega, fun h => (by cases h), fun _ => ⟨hin ho hu, f0r _, b2, b1⟩, fun h => (by cases h), fun h => (by cases h), fun h => (by cases h), fun h => absurd rfl h⟩, ?_⟩
      exact ⟨rfl, rfl, fun _ => rfl, fun h => absurd rfl h, by show (dig B32 p.d).length ≤ _; omega, by show _ ≤ p.pow; omega, by show p.pow ≤ _; omega⟩
theorem e1l (f : Fm) (n way a c : Int) (g : Bool) (u : Nat) (w : World) (U : Bt w u 182 #[.int .i64 n, .int .i64 way, .int .i64 f.g.rad, .int .i64 f.g.digs, .int .i64 f.g.lo, .int .i64 f.g.hi, .bool f.g.grad, .int .u8 (famB f), .int .i64 a]) (hd : 0 ≤ f.g.digs ∧ f.g.digs ≤ 1000) (hc : bits .or .i64 a 5 = c) (h1 : f.fam = 1) (hw : 1 ≤ way ∧ way ≤ 5) :
 Calls Tryz.prog 180 #[.pointer (some ⟨u, 0, none⟩), .bool g] w (k0t f n way c u w (if way ≤ 2 ∨ (way = 4 ∧ g = false) ∨ (way = 5 ∧ g = true) then ⟨3, g, 0, 0⟩ else ⟨2, g, 2 ^ (wid f.g * f.g.digs.toNat) - 1, f.g.hi⟩)) := by
 have hF : famB f = 65 := by unfold famB; rw [if_pos h1]
 rcases (show way = 1 ∨ way = 2 ∨ way = 3 ∨ way = 4 ∨ way = 5 by omega) with rfl | rfl | rfl | rfl | rfl <;> cases g
 · rw [if_pos (by decide)]
   have HR := fun W u hU => hi0 (c0t f n 1 a 5 c u W hU hc)
   have I := Inv.startW w u 182 (uS f n 1 a) [] U True.intro True.intro
   refine a0f [.p 0 0, .v (.bool false)] I Tryz.func180 ?_
   refine zge I 0 182 (fun Al W I => (HR W _ (I.box 0 182 _)).out) fun Al V Iv _ _ kz => ?_
   rintro _ W ⟨rfl, hO, hB⟩
   refine ⟨_, rfl, kz _ (uS f n 1 c) _ hO hB fun I => ?_⟩
   refine zb I 13 ((famB f) == 66) (false) (bFn (by rw [hF]; decide)) fun Al W I => ?_
   refine zb I 18 ((famB f) == 67) (false) (bFn (by rw [hF]; decide)) fun Al W I => ?_
   refine zq I (fun Al W I => k0k false W) fun Al W I => ?_
   exact zret I fun Al W I => d0b (k := 3) rfl I.bel (I.boxE 182 _)
 · rw [if_pos (by decide)]
   have HR := fun W u hU => hi0 (c0t f n 1 a 5 c u W hU hc)
   have I := Inv.startW w u 182 (uS f n 1 a) [] U True.intro True.intro
   refine a0f [.p 0 0, .v (.bool true)] I Tryz.func180 ?_
   refine zge I 0 182 (fun Al W I => (HR W _ (I.box 0 182 _)).out) fun Al V Iv _ _ kz => ?_
   rintro _ W ⟨rfl, hO, hB⟩
   refine ⟨_, rfl, kz _ (uS f n 1 c) _ hO hB fun I => ?_⟩
   refine zb I 13 ((famB f) == 66) (false) (bFn (by rw [hF]; decide)) fun Al W I => ?_
   refine zb I 18 ((famB f) == 67) (false) (bFn (by rw [hF]; decide)) fun Al W I => ?_
   refine zq I (fun Al W I => k0k true W) fun Al W I => ?_
   exact zret I fun Al W I => d0b (k := 3) rfl I.bel (I.boxE 182 _)
 · rw [if_pos (by decide)]
   have HR := fun W u hU => hi0 (c0t f n 2 a 5 c u W hU hc)
   have I := Inv.startW w u 182 (uS f n 2 a) [] U True.intro True.intro
   refine a0f [.p 0 0, .v (.bool false)] I Tryz.func180 ?_
   refine zge I 0 182 (fun Al W I => (HR W _ (I.box 0 182 _)).out) fun Al V Iv _ _ kz => ?_
   rintro _ W ⟨rfl, hO, hB⟩
   refine ⟨_, rfl, kz _ (uS f n 2 c) _ hO hB fun I => ?_⟩
   refine zb I 13 ((famB f) == 66) (false) (bFn (by rw [hF]; decide)) fun Al W I => ?_
   refine zb I 18 ((famB f) == 67) (false) (bFn (by rw [hF]; decide)) fun Al W I => ?_
   refine zq I (fun Al W I => k0k false W) fun Al W I => ?_
   exact zret I fun Al W I => d0b (k := 3) rfl I.bel (I.boxE 182 _)
 · rw [if_pos (by decide)]
   have HR := fun W u hU => hi0 (c0t f n 2 a 5 c u W hU hc)
   have I := Inv.startW w u 182 (uS f n 2 a) [] U True.intro True.intro
   refine a0f [.p 0 0, .v (.bool true)] I Tryz.func180 ?_
   refine zge I 0 182 (fun Al W I => (HR W _ (I.box 0 182 _)).out) fun Al V Iv _ _ kz => ?_
   rintro _ W ⟨rfl, hO, hB⟩
   refine ⟨_, rfl, kz _ (uS f n 2 c) _ hO hB fun I => ?_⟩
   refine zb I 13 ((famB f) == 66) (false) (bFn (by rw [hF]; decide)) fun Al W I => ?_
   refine zb I 18 ((famB f) == 67) (false) (bFn (by rw [hF]; decide)) fun Al W I => ?_
   refine zq I (fun Al W I => k0k true W) fun Al W I => ?_
   exact zret I fun Al W I => d0b (k := 3) rfl I.bel (I.boxE 182 _)
 · rw [if_neg (by decide)]
   have HR := fun W u hU => hi0 (c0t f n 3 a 5 c u W hU hc)
   have HG := fun W u hU => hi0 (g0c f n 3 c false u W hU hd)
   generalize 2 ^ (wid f.g * f.g.digs.toNat) - 1 = m at *
   have I := Inv.startW w u 182 (uS f n 3 a) [] U True.intro True.intro
   refine a0f [.p 0 0, .v (.bool false)] I Tryz.func180 ?_
   refine zge I 0 182 (fun Al W I => (HR W _ (I.box 0 182 _)).out) fun Al V Iv _ _ kz => ?_
   rintro _ W ⟨rfl, hO, hB⟩
   refine ⟨_, rfl, kz _ (uS f n 3 c) _ hO hB fun I => ?_⟩
   refine zb I 13 ((famB f) == 66) (false) (bFn (by rw [hF]; decide)) fun Al W I => ?_
   refine zb I 18 ((famB f) == 67) (false) (bFn (by rw [hF]; decide)) fun Al W I => ?_
   refine zqo I (fun Al W I => (HG W _ (I.box 0 182 _)).out) fun Al W p59 c59 I => ?_
   exact zret I fun Al W I => ⟨p59, c59, rfl, I.fa.1.mono (by omega), I.bel, I.boxE 182 _⟩
 · rw [if_neg (by decide)]
   have HR := fun W u hU => hi0 (c0t f n 3 a 5 c u W hU hc)
   have HG := fun W u hU => hi0 (g0c f n 3 c true u W hU hd)
   generalize 2 ^ (wid f.g * f.g.digs.toNat) - 1 = m at *
   have I := Inv.startW w u 182 (uS f n 3 a) [] U True.intro True.intro
   refine a0f [.p 0 0, .v (.bool true)] I Tryz.func180 ?_
   refine zge I 0 182 (fun Al W I => (HR W _ (I.box 0 182 _)).out) fun Al V Iv _ _ kz => ?_
   rintro _ W ⟨rfl, hO, hB⟩
   refine ⟨_, rfl, kz _ (uS f n 3 c) _ hO hB fun I => ?_⟩
   refine zb I 13 ((famB f) == 66) (false) (bFn (by rw [hF]; decide)) fun Al W I => ?_
   refine zb I 18 ((famB f) == 67) (false) (bFn (by rw [hF]; decide)) fun Al W I => ?_
   refine zqo I (fun Al W I => (HG W _ (I.box 0 182 _)).out) fun Al W p59 c59 I => ?_
   exact zret I fun Al W I => ⟨p59, c59, rfl, I.fa.1.mono (by omega), I.bel, I.boxE 182 _⟩
 · rw [if_pos (by decide)]
   have HR := fun W u hU => hi0 (c0t f n 4 a 5 c u W hU hc)
   have I := Inv.startW w u 182 (uS f n 4 a) [] U True.intro True.intro
   refine a0f [.p 0 0, .v (.bool false)] I Tryz.func180 ?_
   refine zge I 0 182 (fun Al W I => (HR W _ (I.box 0 182 _)).out) fun Al V Iv _ _ kz => ?_
   rintro _ W ⟨rfl, hO, hB⟩
   refine ⟨_, rfl, kz _ (uS f n 4 c) _ hO hB fun I => ?_⟩
   refine zb I 13 ((famB f) == 66) (false) (bFn (by rw [hF]; decide)) fun Al W I => ?_
   refine zb I 18 ((famB f) == 67) (false) (bFn (by rw [hF]; decide)) fun Al W I => ?_
   refine zq I (fun Al W I => k0k false W) fun Al W I => ?_
   exact zret I fun Al W I => d0b (k := 3) rfl I.bel (I.boxE 182 _)
 · rw [if_neg (by decide)]
   have HR := fun W u hU => hi0 (c0t f n 4 a 5 c u W hU hc)
   have HG := fun W u hU => hi0 (g0c f n 4 c true u W hU hd)
   generalize 2 ^ (wid f.g * f.g.digs.toNat) - 1 = m at *
   have I := Inv.startW w u 182 (uS f n 4 a) [] U True.intro True.intro
   refine a0f [.p 0 0, .v (.bool true)] I Tryz.func180 ?_
   refine zge I 0 182 (fun Al W I => (HR W _ (I.box 0 182 _)).out) fun Al V Iv _ _ kz => ?_
   rintro _ W ⟨rfl, hO, hB⟩
   refine ⟨_, rfl, kz _ (uS f n 4 c) _ hO hB fun I => ?_⟩
   refine zb I 13 ((famB f) == 66) (false) (bFn (by rw [hF]; decide)) fun Al W I => ?_
   refine zb I 18 ((famB f) == 67) (false) (bFn (by rw [hF]; decide)) fun Al W I => ?_
   refine zqo I (fun Al W I => (HG W _ (I.box 0 182 _)).out) fun Al W p59 c59 I => ?_
   exact zret I fun Al W I => ⟨p59, c59, rfl, I.fa.1.mono (by omega), I.bel, I.boxE 182 _⟩
 · rw [if_neg (by decide)]
   have HR := fun W u hU => hi0 (c0t f n 5 a 5 c u W hU hc)
   have HG := fun W u hU => hi0 (g0c f n 5 c false u W hU hd)
   generalize 2 ^ (wid f.g * f.g.digs.toNat) - 1 = m at *
   have I := Inv.startW w u 182 (uS f n 5 a) [] U True.intro True.intro
   refine a0f [.p 0 0, .v (.bool false)] I Tryz.func180 ?_
   refine zge I 0 182 (fun Al W I => (HR W _ (I.box 0 182 _)).out) fun Al V Iv _ _ kz => ?_
   rintro _ W ⟨rfl, hO, hB⟩
   refine ⟨_, rfl, kz _ (uS f n 5 c) _ hO hB fun I => ?_⟩
   refine zb I 13 ((famB f) == 66) (false) (bFn (by rw [hF]; decide)) fun Al W I => ?_
   refine zb I 18 ((famB f) == 67) (false) (bFn (by rw [hF]; decide)) fun Al W I => ?_
   refine zqo I (fun Al W I => (HG W _ (I.box 0 182 _)).out) fun Al W p59 c59 I => ?_
   exact zret I fun Al W I => ⟨p59, c59, rfl, I.fa.1.mono (by omega), I.bel, I.boxE 182 _⟩
 · rw [if_pos (by decide)]
   have HR := fun W u hU => hi0 (c0t f n 5 a 5 c u W hU hc)
   have I := Inv.startW w u 182 (uS f n 5 a) [] U True.intro True.intro
   refine a0f [.p 0 0, .v (.bool true)] I Tryz.func180 ?_
   refine zge I 0 182 (fun Al W I => (HR W _ (I.box 0 182 _)).out) fun Al V Iv _ _ kz => ?_
   rintro _ W ⟨rfl, hO, hB⟩
   refine ⟨_, rfl, kz _ (uS f n 5 c) _ hO hB fun I => ?_⟩
   refine zb I 13 ((famB f) == 66) (false) (bFn (by rw [hF]; decide)) fun Al W I => ?_
   refine zb I 18 ((famB f) == 67) (false) (bFn (by rw [hF]; decide)) fun Al W I => ?_
   refine zq I (fun Al W I => k0k true W) fun Al W I => ?_
   exact zret I fun Al W I => d0b (k := 3) rfl I.bel (I.boxE 182 _)
theorem f1x (f : Fm) (n way a c : Int) (p : Pl) (u : Nat) (w : World) (U : Bt w u 182 #[.int .i64 n, .int .i64 way, .int .i64 f.g.rad, .int .i64 f.g.digs, .int .i64 f.g.lo, .int .i64 f.g.hi, .bool f.g.grad, .int .u8 (famB f), .int .i64 a]) (G : c0l f) (hc : bits .or .i64 a 5 = c) (hw : 1 ≤ way ∧ way ≤ 5) (ho : p.over = true) :
 Calls Tryz.prog 180 #[.pointer (some ⟨u, 0, none⟩), .bool p.neg] w (k0t f n way c u w (f.placedV p way)) := by
 have GG := c0c G.g
 have h1 := GG.d1
 have h2 := GG.d2
 have hf := G.fam
 unfold Fm.placedV
 rw [if_pos ho]
 by_cases f2 : f.fam = 2
 · rw [if_pos f2]; exact e1b f n way a c p.neg u w U (by omega) hc f2
 · rw [if_neg f2]
   by_cases f3 : f.fam = 3
   · rw [if_pos f3]; exact e1c f n way a c p.neg u w U hc (by omega) f2
   · rw [if_neg f3]; exact e1l f n way a c p.neg u w U (by omega) hc (by omega) hw
def i0o (f : Fm) (n way c : Int) (u : Nat) (w : World) (base : Nat) (v : Vl) (en : Ending) (w' : World) : Prop :=
 ∃ p k, en = .returned (.agg #[.int .i64 (v.cls : Int), .bool v.neg, .slice p (dig B32 v.d).length k, .int .i64 v.pow]) ∧ Own w' base .u32 141 p k (dig B32 v.d) ∧ Kp [u] w w' ∧ Bt w' u 182 #[.int .i64 n, .int .i64 way, .int .i64 f.g.rad, .int .i64 f.g.digs, .int .i64 f.g.lo, .int .i64 f.g.hi, .bool f.g.grad, .int .u8 (famB f), .int .i64 c]
theorem k0t.ub {f : Fm} {n way c : Int} {u base : Nat} {w w' : World} {v : Vl} {en : Ending} (h : k0t f n way c u w v en w') (hb : base ≤ w.heap.size) : i0o f n way c u w base v en w' := by
 obtain ⟨p, k, h1, h2, h3, h4⟩ := h
 exact ⟨p, k, h1, h2.mono hb, h3, h4⟩
theorem f0h {f : Fm} {n way c : Int} {u k base : Nat} {g : Bool} {w w' : World} {en : Ending} (h : en = .returned (.agg #[.int .i64 (k : Int), .bool g, .slice none 0 0, .int .i64 0])) (hk : Kp [u] w w') (hb : Bt w' u 182 #[.int .i64 n, .int .i64 way, .int .i64 f.g.rad, .int .i64 f.g.digs, .int .i64 f.g.lo, .int .i64 f.g.hi, .bool f.g.grad, .int .u8 (famB f), .int .i64 c]) : i0o f n way c u w base ⟨k, g, 0, 0⟩ en w' := by
 refine ⟨none, 0, ?_, ?_, hk, hb⟩
 · rw [h, a0c]; rfl
 · show Own _ _ _ _ _ _ (dig B32 0); rw [a0c]; exact Own.nil _ _ _ _
theorem pl_n (f : Fm) (n way : Int) (ng : Bool) (d : Nat) (pw : Int) (pp : Option Addr) (cc base u : Nat) (w : World) (U : Bt w u 182 #[.int .i64 n, .int .i64 way, .int .i64 f.g.rad, .int .i64 f.g.digs, .int .i64 f.g.lo, .int .i64 f.g.hi, .bool f.g.grad, .int .u8 (famB f), .int .i64 0]) (hp : Own w base .u32 141 pp cc (dig B32 d)) (ex un : Bool) :
 Calls Tryz.prog 166 #[.pointer (some ⟨u, 0, none⟩), .agg #[.bool ng, .slice pp (dig B32 d).length cc, .int .i64 pw, .bool ex, .bool false, .bool un]] w (i0o f n way (((f.placedM ⟨ng, d, pw, ex, false, un⟩ way).2 : Nat) : Int) u w base (f.placedV ⟨ng, d, pw, ex, false, un⟩ way)) := by
 have hV : f.placedV ⟨ng, d, pw, ex, false, un⟩ way = if un = true ∧ f.fam ≠ 1 ∧ pw < f.g.lo then ⟨1, false, 0, 0⟩ else if d = 0 then ⟨1, ng && decide (f.fam = 1), 0, 0⟩ else ⟨2, ng, d, pw⟩ := by unfold Fm.placedV; simp only [Bool.false_eq_true, if_false]
 have hM : (f.placedM ⟨ng, d, pw, ex, false, un⟩ way).2 = if un = true ∧ f.fam ≠ 1 ∧ pw < f.g.lo then 3 else f.flP ⟨ng, d, pw, ex, false, un⟩ := by
  unfold Fm.placedM; simp only [Bool.false_eq_true, if_false]
  split
  · rfl
  · split <;> rfl
 have hFL : f.flP ⟨ng, d, pw, ex, false, un⟩ = if un then (if f.fam = 1 then (if ex then 0 else 3) else 3) else if ex then 0 else 1 := rfl
 have hF1 : f.fam = 1 → (famB f != 65) = false := fun h => by unfold famB; rw [if_pos h]; rfl
 have hF2 : f.fam ≠ 1 → (famB f != 65) = true := fun h => by unfold famB; rw [if_neg h]; split <;> rfl
 have hB1 : (famB f != 65) = true → f.fam ≠ 1 := fun h k => by rw [hF1 k] at h; cases h
 have hB2 : (famB f != 65) = false → f.fam = 1 := fun h => Classical.byContradiction fun k => by rw [hF2 k] at h; cases h
 have hz := a0d a0a d
 have HR9 := fun W u hU => hi0 (c0t f n way 0 1 1 u W hU (by decide +kernel))
 have HR3 := fun k (hk : k = 0 ∨ k = 1) W u hU => hi0 (c0t f n way k 3 3 u W hU (by rcases hk with rfl | rfl <;> decide +kernel))
 have HR2 := fun k (hk : k = 1) W u hU => hi0 (c0t f n way k 2 3 u W hU (by subst hk; decide +kernel))
 have HZ := fun k W u hU => hi0 (f1t f n way k ng u W hU)
 rw [hFL] at hM
 generalize (f.placedM ⟨ng, d, pw, ex, false, un⟩ way).2 = FL at *
 generalize f.placedV ⟨ng, d, pw, ex, false, un⟩ way = v at *
 clear hFL
 generalize (ng && decide (f.fam = 1)) = q at *
 have I := Inv.startW w u 182 (uS f n way 0) [ownF base .u32 141 pp cc (dig B32 d)] U ⟨hp, True.intro⟩ ⟨fun hf => hp.far U (by kernel_rfl) hf.1 hf.2, True.intro⟩
 refine a0f [.p 0 0, .v (.agg #[.bool ng, .slice pp (dig B32 d).length cc, .int .i64 pw, .bool ex, .bool false, .bool un])] I Tryz.func166 ?_
 obtain ⟨ne, hne⟩ : ∃ ne, (!ex) = ne := ⟨_, rfl⟩
 refine zb I 7 (!ex) (ne) (hne) fun Al W I => ?_
 refine zcut I (some 2000007) (fun fr bx gs => ∃ (U1 : Nat → Value) (k1 : Int), fr = (.p 0 0 :: .v (.agg #[.bool ng, .slice pp (dig B32 d).length cc, .int .i64 pw, .bool ex, .bool false, .bool un]) :: .v undef :: .p 1 0 :: .p 2 0 :: sw U1 5 2 (.v (.bool ne) :: sw U1 8 2 (.v undef :: sw U1 11 6 (.v undef :: sw U1 18 18 (.v undef :: .v (U1 37) :: .v undef :: sw U1 39 12 (.v undef :: sw U1 52 11 []))))) : List SV) ∧ bx = [⟨182, (uS f n way k1), false⟩, ⟨87, [.v (.bool ng), .v (.slice pp (dig B32 d).length cc), .v (.int .i64 pw), .v (.bool ex), .v (.bool false), .v (.bool un)], false⟩, ⟨75, [.v (.int .i64 0), .v (.bool false), .v (.slice none 0 0), .v (.int .i64 0)], false⟩] ∧ gs = [ownF base .u32 141 pp cc (dig B32 d)] ∧ (k1 = if ex then 0 else 1)) ?_ ?_
 · intro J hJ Al W I
   rcases Bool.eq_false_or_eq_true ne with rfl | rfl
   · refine zge I 0 182 (fun Al W I => (HR9 W _ (I.box 0 182 _)).out) fun Al V Iv _ _ kz => ?_
     rintro _ W ⟨rfl, hO, hB⟩
     refine ⟨_, rfl, kz _ (uS f n way 1) _ hO hB fun I => ?_⟩
     exact b0d I J fun Al W U I => hJ _ _ _ _ _ ⟨U, 1, rfl, rfl, rfl, (by revert hne; cases ex <;> simp)⟩ (I.pick [0])
   exact b0d I J fun Al W U I => hJ _ _ _ _ _ ⟨U, 0, rfl, rfl, rfl, (by revert hne; cases ex <;> simp)⟩ (I.pick [0])
 rintro _ _ _ ⟨U1, k1, rfl, rfl, rfl, hk1⟩ Al W I
 refine zcut I (some 1000000) (fun fr bx gs => ∃ (U2 : Nat → Value) (k2 : Int), fr = (.p 0 0 :: .v (.agg #[.bool ng, .slice pp (dig B32 d).length cc, .int .i64 pw, .bool ex, .bool false, .bool un]) :: .v undef :: .p 1 0 :: .p 2 0 :: sw U2 5 2 (.v (.bool ne) :: sw U2 8 43 (.v undef :: sw U2 52 11 [])) : List SV) ∧ bx = [⟨182, (uS f n way k2), false⟩, ⟨87, [.v (.bool ng), .v (.slice pp (dig B32 d).length cc), .v (.int .i64 pw), .v (.bool ex), .v (.bool false), .v (.bool un)], false⟩, ⟨75, [.v (.int .i64 0), .v (.bool false), .v (.slice none 0 0), .v (.int .i64 0)], false⟩] ∧ gs = [ownF base .u32 141 pp cc (dig B32 d)] ∧ ((FL : Int) = k2) ∧ (¬ (un = true ∧ f.fam ≠ 1 ∧ pw < f.g.lo))) ?_ ?_
 · intro J hJ Al W I
   rcases Bool.eq_false_or_eq_true (un) with f19 | f19
   · refine zb I 19 (un) (true) (f19) fun Al W I => ?_
     rcases Bool.eq_false_or_eq_true ((famB f) != 65) with f25 | f25
     · refine zb I 25 ((famB f) != 65) (true) (f25) fun Al W I => ?_
       refine zge I 0 182 (fun Al W I => (HR3 k1 (by rw [hk1]; split <;> simp) W _ (I.box 0 182 _)).out) fun Al V Iv _ _ kz => ?_
       rintro _ W ⟨rfl, hO, hB⟩
       refine ⟨_, rfl, kz _ (uS f n way 3) _ hO hB fun I => ?_⟩
       by_cases f36 : pw < f.g.lo
       · refine zd [] I fun Al W I => ?_
         refine zk [0, 1, 2, 3, 4, 5, 6] I fun I => ?_
         refine zkb 7 I (decide (pw < f.g.lo)) (true) (dTr f36) fun I => ?_
         refine zret I (v := fun Al => .agg #[.int .i64 1, .bool false, .slice none 0 0, .int .i64 0]) fun Al W I => ?_
         first | (rw [hV, hM, if_pos ⟨f19, hB1 f25, f36⟩, if_pos ⟨f19, hB1 f25, f36⟩]; exact f0h (k := 1) rfl I.bel (I.boxE 182 _)) | (rw [hV, hk2, if_neg hlo, if_neg (fun h => by have := hz.2 h; have := bnF f51; omega)]; exact ⟨pp, cc, rfl, I.fa.1, I.bel, I.boxE 182 _⟩)
       refine zd [] I fun Al W I => ?_
       refine zk [0, 1, 2, 3, 4, 5, 6] I fun I => ?_
       refine zkb 7 I (decide (pw < f.g.lo)) (false) (dFa f36) fun I => ?_
       exact b0d I J fun Al W U I => hJ _ _ _ _ _ ⟨U, 3, rfl, rfl, rfl, (by have h1 := hB1 f25; rw [hM, if_neg (fun h => f36 h.2.2), if_pos f19, if_neg h1]; rfl), (fun h => f36 h.2.2)⟩ (I.pick [0])
     refine zb I 25 ((famB f) != 65) (false) (f25) fun Al W I => ?_
     refine zb I 40 (un) (true) (f19) fun Al W I => ?_
     rcases Bool.eq_false_or_eq_true (!ex) with f44 | f44
     · refine zb I 44 (!ex) (true) (f44) fun Al W I => ?_
       refine zge I 0 182 (fun Al W I => (HR2 k1 (by rw [hk1]; revert f44; cases ex <;> simp) W _ (I.box 0 182 _)).out) fun Al V Iv _ _ kz => ?_
       rintro _ W ⟨rfl, hO, hB⟩
       refine ⟨_, rfl, kz _ (uS f n way 3) _ hO hB fun I => ?_⟩
       exact b0d I J fun Al W U I => hJ _ _ _ _ _ ⟨U, 3, rfl, rfl, rfl, (by have h1 := hB2 f25; rw [hM, if_neg (fun h => h.2.1 h1), if_pos f19, if_pos h1]; revert f44; cases ex <;> simp), (fun h => by have h1 := hB2 f25; exact h.2.1 h1)⟩ (I.pick [0])
     refine zb I 44 (!ex) (false) (f44) fun Al W I => ?_
     exact b0d I J fun Al W U I => hJ _ _ _ _ _ ⟨U, k1, rfl, rfl, rfl, (by have h1 := hB2 f25; rw [hM, if_neg (fun h => h.2.1 h1), if_pos f19, if_pos h1, hk1]; revert f44; cases ex <;> simp), (fun h => by have h1 := hB2 f25; exact h.2.1 h1)⟩ (I.pick [0])
   refine zb I 19 (un) (false) (f19) fun Al W I => ?_
   refine zb I 40 (un) (false) (f19) fun Al W I => ?_
   exact b0d I J fun Al W U I => hJ _ _ _ _ _ ⟨U, k1, rfl, rfl, rfl, (by rw [hM, if_neg (fun h => by rw [f19] at h; cases h.1), if_neg (by rw [f19]; simp), hk1]; split <;> rfl), (fun h => by rw [f19] at h; cases h.1)⟩ (I.pick [0])
 rintro _ _ _ ⟨U2, k2, rfl, rfl, rfl, hk2, hlo⟩ Al W I
 rcases Bool.eq_false_or_eq_true ((((dig B32 d).length : Nat) : Int) == 0) with f51 | f51
 · refine zb I 51 ((((dig B32 d).length : Nat) : Int) == 0) (true) (f51) fun Al W I => ?_
   refine zq I (fun Al W I => (HZ k2 W _ (I.box 0 182 _)).out) fun Al W I => ?_
   rw [hV, hk2, if_neg hlo, if_pos (hz.1 (by have := beq_iff_eq.1 f51; omega))]
   exact zret I fun Al W I => f0h (k := 1) rfl I.bel (I.boxE 182 _)
 refine zb I 51 ((((dig B32 d).length : Nat) : Int) == 0) (false) (f51) fun Al W I => ?_
 refine zret I (v := fun Al => .agg #[.int .i64 2, .bool ng, .slice pp (dig B32 d).length cc, .int .i64 pw]) fun Al W I => ?_
 first | (rw [hV, hM, if_pos ⟨f19, hB1 f25, f36⟩, if_pos ⟨f19, hB1 f25, f36⟩]; exact f0h (k := 1) rfl I.bel (I.boxE 182 _)) | (rw [hV, hk2, if_neg hlo, if_neg (fun h => by have := hz.2 h; have := bnF f51; omega)]; exact ⟨pp, cc, rfl, I.fa.1, I.bel, I.boxE 182 _⟩)
theorem l1x (f : Fm) (n way : Int) (p : Pl) (pp : Option Addr) (cc base u : Nat) (w : World) (U : Bt w u 182 #[.int .i64 n, .int .i64 way, .int .i64 f.g.rad, .int .i64 f.g.digs, .int .i64 f.g.lo, .int .i64 f.g.hi, .bool f.g.grad, .int .u8 (famB f), .int .i64 0]) (hb : base ≤ w.heap.size) (G : c0l f) (hw : 1 ≤ way ∧ way ≤ 5) (ho : p.over = true) :
 Calls Tryz.prog 166 #[.pointer (some ⟨u, 0, none⟩), .agg #[.bool p.neg, .slice pp (dig B32 p.d).length cc, .int .i64 p.pow, .bool true, .bool true, .bool p.under]] w (i0o f n way 5 u w base (f.placedV p way)) := by
 have HO := fun W u hU => hi0 (f1x f n way 0 5 p u W hU G (by decide +kernel) hw ho)
 generalize f.placedV p way = v at *
 have I := Inv.startW w u 182 (uS f n way 0) [] U True.intro True.intro
 refine a0f [.p 0 0, .v (.agg #[.bool p.neg, .slice pp (dig B32 p.d).length cc, .int .i64 p.pow, .bool true, .bool true, .bool p.under])] I Tryz.func166 ?_
 refine zge I 0 182 (fun Al W I => (HO W _ (I.box 0 182 _)).out) fun Al V Iv _ _ kz => ?_
 rintro _ W ⟨p16, c16, rfl, o16, hO, hB⟩
 refine ⟨_, rfl, kz _ (uS f n way 5) _ hO hB fun I => ?_⟩
 have I := I.ownB base o16
 exact zret I fun Al W I => ⟨p16, c16, rfl, I.fa.1, I.bel, I.boxE 182 _⟩
theorem l1y (f : Fm) (n way : Int) (p : Pl) (pp : Option Addr) (cc base u : Nat) (w : World) (U : Bt w u 182 #[.int .i64 n, .int .i64 way, .int .i64 f.g.rad, .int .i64 f.g.digs, .int .i64 f.g.lo, .int .i64 f.g.hi, .bool f.g.grad, .int .u8 (famB f), .int .i64 0]) (hb : base ≤ w.heap.size) (G : c0l f) (hw : 1 ≤ way ∧ way ≤ 5) (ho : p.over = true) :
 Calls Tryz.prog 166 #[.pointer (some ⟨u, 0, none⟩), .agg #[.bool p.neg, .slice pp (dig B32 p.d).length cc, .int .i64 p.pow, .bool false, .bool true, .bool p.under]] w (i0o f n way 5 u w base (f.placedV p way)) := by
 have HO := fun W u hU => hi0 (f1x f n way 1 5 p u W hU G (by decide +kernel) hw ho)
 have HR := fun W u hU => hi0 (c0t f n way 0 1 1 u W hU (by decide +kernel))
 generalize f.placedV p way = v at *
 have I := Inv.startW w u 182 (uS f n way 0) [] U True.intro True.intro
 refine a0f [.p 0 0, .v (.agg #[.bool p.neg, .slice pp (dig B32 p.d).length cc, .int .i64 p.pow, .bool false, .bool true, .bool p.under])] I Tryz.func166 ?_
 refine zge I 0 182 (fun Al W I => (HR W _ (I.box 0 182 _)).out) fun Al V Iv _ _ kz => ?_
 rintro _ W ⟨rfl, hO, hB⟩
 refine ⟨_, rfl, kz _ (uS f n way 1) _ hO hB fun I => ?_⟩
 refine zge I 0 182 (fun Al W I => (HO W _ (I.box 0 182 _)).out) fun Al V Iv _ _ kz => ?_
 rintro _ W ⟨p16, c16, rfl, o16, hO, hB⟩
 refine ⟨_, rfl, kz _ (uS f n way 5) _ hO hB fun I => ?_⟩
 have I := I.ownB base o16
 exact zret I fun Al W I => ⟨p16, c16, rfl, I.fa.1, I.bel, I.boxE 182 _⟩
theorem i1f (f : Fm) (n way : Int) (p : Pl) (pp : Option Addr) (cc base u : Nat) (w : World) (U : Bt w u 182 #[.int .i64 n, .int .i64 way, .int .i64 f.g.rad, .int .i64 f.g.digs, .int .i64 f.g.lo, .int .i64 f.g.hi, .bool f.g.grad, .int .u8 (famB f), .int .i64 0]) (hp : Own w base .u32 141 pp cc (dig B32 p.d)) (hb : base ≤ w.heap.size) (G : c0l f) (hw : 1 ≤ way ∧ way ≤ 5) :
 Calls Tryz.prog 166 #[.pointer (some ⟨u, 0, none⟩), .agg #[.bool p.neg, .slice pp (dig B32 p.d).length cc, .int .i64 p.pow, .bool p.exact, .bool p.over, .bool p.under]] w (i0o f n way (((f.placedM p way).2 : Nat) : Int) u w base (f.placedV p way)) := by
 obtain ⟨ng, d, pw, ex, ov, un⟩ := p
 cases ov with
 | true =>
  have e : (f.placedM ⟨ng, d, pw, ex, true, un⟩ way).2 = 5 := by unfold Fm.placedM; rw [if_pos rfl]
  rw [e]
  cases ex
  · exact l1y f n way ⟨ng, d, pw, false, true, un⟩ pp cc base u w U hb G hw rfl
  · exact l1x f n way ⟨ng, d, pw, true, true, un⟩ pp cc base u w U hb G hw rfl
 | false =>
  exact pl_n f n way ng d pw pp cc base u w U hp ex un
theorem r0w (ng : Bool) (p q : Option Addr) (c d : Nat) (num den : Nat) (e : Int) (g : Gd) (way : Int) (w : World) (hp : Rd w .u32 p (dig B32 num)) (hq : Rd w .u32 q (dig B32 den))
 (hl : (dig B32 num).length ≤ 100000) (hl2 : (dig B32 den).length ≤ 100000) (hn : 0 < num) (hd : 0 < den) (he : -1000000 ≤ e ∧ e ≤ 1000000) (G : h0v g) (hw1 : 1 ≤ way) (hw2 : way ≤ 5) :
 Calls Tryz.prog 72 #[.agg #[.bool ng, .slice p (dig B32 num).length c, .slice q (dig B32 den).length d, .int .i64 e], .agg #[.int .i64 g.rad, .int .i64 g.digs, .int .i64 g.lo, .int .i64 g.hi, .bool g.grad], .int .i64 way] w (v0h w (a0m ng num den e g way)) := by
 have h := t0o ng p q c d num den e g way (theK num den e (wid g) g.digs.toNat) w hp hq hl hl2 hn hd he G hw1 hw2 (l0y hn hd e (b0f g).1 (by have := G.d1; omega))
 unfold a0m
 rw [if_neg (by omega)]
 exact h
theorem l1z (f : Fm) (n way : Int) (ng : Bool) (p q : Option Addr) (c d : Nat) (num den : Nat) (e : Int) (u : Nat) (w : World) (U : Bt w u 182 #[.int .i64 n, .int .i64 way, .int .i64 f.g.rad, .int .i64 f.g.digs, .int .i64 f.g.lo, .int .i64 f.g.hi, .bool f.g.grad, .int .u8 (famB f), .int .i64 0]) (hp : Rd w .u32 p (dig B32 num)) (hq : Rd w .u32 q (dig B32 den))
 (hl : (dig B32 num).length ≤ 100000) (hl2 : (dig B32 den).length ≤ 100000) (hn : 0 < num) (hd : 0 < den) (he : -1000000 ≤ e ∧ e ≤ 1000000) (G : c0l f) (hw : 1 ≤ way ∧ way ≤ 5) :
 Calls Tryz.prog 122 #[.pointer (some ⟨u, 0, none⟩), .agg #[.bool ng, .slice p (dig B32 num).length c, .slice q (dig B32 den).length d, .int .i64 e]] w
  (k0t f n way (((f.placedM (a0m ng num den e f.g way) way).2 : Nat) : Int) u w (f.placedV (a0m ng num den e f.g way) way)) := by
 have GG := c0c G.g
 have HF := fun W h1 h2 => hi0 (r0w ng p q c d num den e f.g way W h1 h2 hl hl2 hn hd he GG hw.1 hw.2)
 have HP := fun pp cc base u W U h1 h2 => hi0 (i1f f n way (a0m ng num den e f.g way) pp cc base u W U h1 h2 G hw)
 have hR := b1m (neg := ng) (num := num) (e := e) (way := way) hd GG
 generalize (f.placedM (a0m ng num den e f.g way) way).2 = fl at *
 generalize f.placedV (a0m ng num den e f.g way) way = v at *
 generalize a0m ng num den e f.g way = P at *
 have I := Inv.startW w u 182 (uS f n way 0) [rdF .u32 p (dig B32 num), rdF .u32 q (dig B32 den)] U ⟨hp, hq, True.intro⟩ ⟨fun hf => hp.far U (by kernel_rfl) hf.1 hf.2, fun hf => hq.far U (by kernel_rfl) hf.1 hf.2, True.intro⟩
 refine a0f [.p 0 0, .v (.agg #[.bool ng, .slice p (dig B32 num).length c, .slice q (dig B32 den).length d, .int .i64 e])] I Tryz.func122 ?_
 refine zcut I none (fun fr bx gs => ∃ (U1 : Nat → Value) (p16 : Option Addr) (c16 : Nat), fr = (.p 0 0 :: .v (.agg #[.bool ng, .slice p (dig B32 num).length c, .slice q (dig B32 den).length d, .int .i64 e]) :: .v undef :: .p 1 0 :: .p 2 0 :: sw U1 5 12 [] : List SV) ∧ bx = [⟨182, (uS f n way (fl : Int)), false⟩, ⟨122, [.v (.bool ng), .v (.slice p (dig B32 num).length c), .v (.slice q (dig B32 den).length d), .v (.int .i64 e)], false⟩, ⟨75, [.v (.int .i64 (v.cls : Int)), .v (.bool v.neg), .v (.slice p16 (dig B32 v.d).length c16), .v (.int .i64 v.pow)], false⟩] ∧ gs = [ownF w.heap.size .u32 141 p16 c16 (dig B32 v.d), rdF .u32 p (dig B32 num), rdF .u32 q (dig B32 den)]) ?_ ?_
 · intro J hJ Al W I
   refine zd [0, 2] I fun Al W I => ?_
   refine zk [0, 1, 2, 3, 4, 6, 7, 8] I fun I => ?_
   refine zo2 5 9 I (fun I => ?_) (fun I => ?_)
   · refine zn I fun Al W I => ?_
     refine zo 9 I fun I => ?_
     refine zn I fun Al W I => ?_
     refine zo 10 I fun I => ?_
     refine zqo I (fun Al W I => (HF W I.fa.1 I.fa.2.1).out) fun Al W p15 c15 I => ?_
     refine zo 11 I fun I => ?_
     refine zge I 0 182 (fun Al W I => have hzW := I.bel.size; (HP p15 c15 _ _ W (I.box 0 182 _) I.fa.1 (by omega)).out) fun Al V Iv _ _ kz => ?_
     rintro _ W ⟨p16, c16, rfl, o16, hO, hB⟩
     refine ⟨_, rfl, kz _ (uS f n way (fl : Int)) _ hO hB fun I => ?_⟩
     have I := I.own o16
     refine zo 12 I fun I => ?_
     refine zn I fun Al W I => ?_
     exact b0d I J fun Al W U I => hJ _ _ _ _ _ ⟨U, p16, c16, rfl, rfl, rfl⟩ (I.pick [0, 2, 3])
   refine zn I fun Al W I => ?_
   refine zo 5 I fun I => ?_
   refine zn I fun Al W I => ?_
   refine zo 10 I fun I => ?_
   refine zqo I (fun Al W I => (HF W I.fa.1 I.fa.2.1).out) fun Al W p15 c15 I => ?_
   refine zo 11 I fun I => ?_
   refine zge I 0 182 (fun Al W I => have hzW := I.bel.size; (HP p15 c15 _ _ W (I.box 0 182 _) I.fa.1 (by omega)).out) fun Al V Iv _ _ kz => ?_
   rintro _ W ⟨p16, c16, rfl, o16, hO, hB⟩
   refine ⟨_, rfl, kz _ (uS f n way (fl : Int)) _ hO hB fun I => ?_⟩
   have I := I.own o16
   refine zo 12 I fun I => ?_
   refine zn I fun Al W I => ?_
   exact b0d I J fun Al W U I => hJ _ _ _ _ _ ⟨U, p16, c16, rfl, rfl, rfl⟩ (I.pick [0, 2, 3])
 rintro _ _ _ ⟨U1, p16, c16, rfl, rfl, rfl⟩ Al W I
 exact zret I fun Al W I => ⟨p16, c16, rfl, I.fa.1, I.bel, I.boxE 182 _⟩
structure VrOk (r : Vr) : Prop where
 c : 1 ≤ r.cls ∧ r.cls ≤ 5
 x0 : r.cls ≠ 2 → r.x = vz
 x2 : r.cls = 2 → r.x.m ≠ 0 ∧ r.x.neg = r.neg
 bare : Bare r.x
 len : (dig B32 r.x.m).length ≤ 20
 lo : -18000 ≤ r.x.e
 hi : r.x.e ≤ 18000
def k0m (f : Fm) (n way : Int) (u : Nat) (w : World) (base : Nat) (r : Vr × Nat) (en : Ending) (w' : World) : Prop :=
 ∃ v, VRep f v r.1 ∧ i0o f n way ((r.2 : Nat) : Int) u w base v en w'
theorem r0x {f : Fm} {n way : Int} {u k fl base : Nat} {g : Bool} {x : Dv} {w w' : World} {en : Ending} (hk2 : k ≠ 2) (h : en = .returned (.agg #[.int .i64 (k : Int), .bool g, .slice none 0 0, .int .i64 0])) (hk : Kp [u] w w') (hb : Bt w' u 182 #[.int .i64 n, .int .i64 way, .int .i64 f.g.rad, .int .i64 f.g.digs, .int .i64 f.g.lo, .int .i64 f.g.hi, .bool f.g.grad, .int .u8 (famB f), .int .i64 (fl : Int)]) : k0m f n way u w base (⟨k, g, x⟩, fl) en w' :=
 ⟨⟨k, g, 0, 0⟩, g0d hk2, f0h h hk hb⟩
theorem k0m.mono {f : Fm} {n way : Int} {u base b' : Nat} {w w' : World} {r : Vr × Nat} {en : Ending} (h : k0m f n way u w base r en w') (hb : b' ≤ base) : k0m f n way u w b' r en w' := by
 obtain ⟨v, h1, p, k, h2, h3, h4, h5⟩ := h
 exact ⟨v, h1, p, k, h2, h3.mono hb, h4, h5⟩
theorem e1m (f : Fm) (n way : Int) (x : Dv) (p : Option Addr) (c u : Nat) (w : World) (U : Bt w u 182 #[.int .i64 n, .int .i64 way, .int .i64 f.g.rad, .int .i64 f.g.digs, .int .i64 f.g.lo, .int .i64 f.g.hi, .bool f.g.grad, .int .u8 (famB f), .int .i64 0]) (hp : Rd w .u32 p (dig B32 x.m))
 (hl : (dig B32 x.m).length ≤ 100000) (he : -1000000 ≤ x.e ∧ x.e ≤ 1000000) (G : c0l f) (hw : 1 ≤ way ∧ way ≤ 5) :
 Calls Tryz.prog 69 #[.pointer (some ⟨u, 0, none⟩), .agg #[.bool x.neg, .slice p (dig B32 x.m).length c, .int .i64 x.e]] w (k0m f n way u w w.heap.size (f.numM x way)) := by
 have hs : e0v ⟨x.neg, x.m, x.e⟩ = e0v x := rfl
 have HS := fun W => hi0 (d0y x.neg p _ c x.e x.m W rfl)
 rw [hs] at HS
 have h0 := b1c x
 by_cases hx : x.m = 0
 · have hn : f.numM x way = (⟨1, false, vz⟩, 0) := by unfold Fm.numM Fm.zeroM; rw [if_pos hx]; simp
   rw [hn]
   have HZ := fun W u hU => hi0 (f1t f n way 0 false u W hU)
   rw [Bool.false_and] at HZ
   have hd := h0.2 hx
   generalize e0v x = sx at *
   have I := Inv.startW w u 182 (uS f n way 0) [rdF .u32 p (dig B32 x.m)] U ⟨hp, True.intro⟩ ⟨fun hf => hp.far U (by kernel_rfl) hf.1 hf.2, True.intro⟩
   refine a0f [.p 0 0, .v (.agg #[.bool x.neg, .slice p (dig B32 x.m).length c, .int .i64 x.e])] I Tryz.func69 ?_
   refine zq I (fun Al W I => (HS W).out) fun Al W I => ?_
   refine zb I 7 (sx == 0) (true) (beq_iff_eq.2 hd) fun Al W I => ?_
   refine zq I (fun Al W I => (HZ W _ (I.box 0 182 _)).out) fun Al W I => ?_
   exact zret I fun Al W I => r0x (k := 1) (by decide) rfl I.bel (I.boxE 182 _)
 · have hn : f.numM x way = f.placedM (a0m x.neg x.m 1 x.e f.g way) way := by unfold Fm.numM; rw [if_neg hx]
   rw [hn]
   have hd : e0v x ≠ 0 := fun h => hx (h0.1 h)
   have l1 : (dig B32 1).length ≤ 1 := by rw [a0e a0a]; unfold B32; omega
   have HF := fun p q c d u W U h1 h2 => hi0 (l1z f n way x.neg p q c d x.m 1 x.e u W U h1 h2 hl (by omega) (by omega) (by omega) he G hw)
   have HV := (o0h G (neg := x.neg) (num := x.m) (den := 1) (e := x.e) (way := way) (by omega)).2
   have hm : f.placedM (a0m x.neg x.m 1 x.e f.g way) way = ((f.placedM (a0m x.neg x.m 1 x.e f.g way) way).1, (f.placedM (a0m x.neg x.m 1 x.e f.g way) way).2) := rfl
   rw [hm]
   generalize (f.placedM (a0m x.neg x.m 1 x.e f.g way) way).1 = r at *
   generalize (f.placedM (a0m x.neg x.m 1 x.e f.g way) way).2 = fl at *
   generalize f.placedV (a0m x.neg x.m 1 x.e f.g way) way = v at *
   generalize e0v x = sx at *
   have I := Inv.startW w u 182 (uS f n way 0) [rdF .u32 p (dig B32 x.m)] U ⟨hp, True.intro⟩ ⟨fun hf => hp.far U (by kernel_rfl) hf.1 hf.2, True.intro⟩
   refine a0f [.p 0 0, .v (.agg #[.bool x.neg, .slice p (dig B32 x.m).length c, .int .i64 x.e])] I Tryz.func69 ?_
   refine zq I (fun Al W I => (HS W).out) fun Al W I => ?_
   refine zb I 7 (sx == 0) (false) (bFn hd) fun Al W I => ?_
   refine zd [0, 2] I fun Al W I => ?_
   refine zk [0, 1, 2, 3, 4, 5, 6, 8, 9, 10] I fun I => ?_
   refine zo 7 I fun I => ?_
   refine zqo I (fun Al W I => have hzW := I.bel.size; sof 1 1 rfl (by omega) W) fun Al W p17 c17 I => ?_
   refine zk [11] I fun I => ?_
   refine zo 12 I fun I => ?_
   refine zge I 0 182 (fun Al W I => (HF p p17 c c17 _ W (I.box 0 182 _) I.fa.2.1 I.fa.1.rd).out) fun Al V Iv _ _ kz => ?_
   rintro _ W ⟨p22, c22, rfl, o22, hO, hB⟩
   refine ⟨_, rfl, kz _ (uS f n way (fl : Int)) _ hO hB fun I => ?_⟩
   have I := I.own o22
   refine zo 13 I fun I => ?_
   refine zn I fun Al W I => ?_
   exact zret I fun Al W I => ⟨v, HV, p22, c22, rfl, I.fa.1.mono (by omega), I.bel, I.boxE 182 _⟩
structure Vp where
 v : Vl
 p : Option Addr
 c : Nat
def Vp.cells (x : Vp) : List Value := [.int .i64 (x.v.cls : Int), .bool x.v.neg, .slice x.p (dig B32 x.v.d).length x.c, .int .i64 x.v.pow]
theorem Vp.len (x : Vp) : x.cells.length = 4 := rfl
theorem r0y (x y : Dv) (p q : Option Addr) (c d base : Nat) (w : World) (hx : Bare x) (hy : Bare y) (sx : SmD x) (sy : SmD y) (hp : Own w base .u32 141 p c (dig B32 x.m)) (hq : Own w base .u32 141 q d (dig B32 y.m)) (hT : TabW w) (hb : base ≤ w.heap.size) :
 Calls Tryz.prog 66 #[.agg #[.bool x.neg, .slice p (dig B32 x.m).length c, .int .i64 x.e], .agg #[.bool y.neg, .slice q (dig B32 y.m).length d, .int .i64 y.e]] w (f0u w base (d0l x y)) := by
 have h1 := sx.len
 have h2 := sy.len
 have h3 := sx.lo
 have h4 := sx.hi
 have h5 := sy.lo
 have h6 := sy.hi
 have := y0h x.neg y.neg p q _ c _ d base x.e y.e x.m y.m w hp hq rfl rfl (by omega) (by omega) (by omega) (by omega) hT hb
 rw [show (⟨x.neg, x.m, x.e⟩ : Dv) = x from rfl, show (⟨y.neg, y.m, y.e⟩ : Dv) = y from rfl, c1e hx hy] at this
 exact this
theorem VrOk.sm {r : Vr} (R : VrOk r) : SmD r.x := ⟨by have := R.len; omega, by have := R.lo; omega, by have := R.hi; omega⟩
def two (a b : Vp) : List Vp := [a, b]
theorem r0z (n : Int) (w : World) : Calls Tryz.prog 43 #[.int .i64 n] w fun en w' => en = .returned (.tuple #[.agg #[.int .i64 (fmt n).g.rad, .int .i64 (fmt n).g.digs, .int .i64 (fmt n).g.lo, .int .i64 (fmt n).g.hi, .bool (fmt n).g.grad], .int .i64 (g0q n)]) ∧ Below w.heap.size w w' := by
 by_cases hn : IsFm n
 · have h0 : g0q n = 0 := by unfold g0q; rw [if_pos hn]
   rw [h0]
   have HF := fun W => hi0 (h0g n hn W)
   generalize fmt n = f at *
   have I := Inv.start w [] True.intro
   refine a0f [.v (.int .i64 n)] I Tryz.func43 ?_
   refine zq I (fun Al W I => (HF W).out) fun Al W I => ?_
   exact zrb I
 · have h0 : g0q n = 6 := by unfold g0q; rw [if_neg hn]
   rw [h0, t0s hn]
   have HF := fun W => hi0 (j0d n hn W)
   have I := Inv.start w [] True.intro
   refine a0f [.v (.int .i64 n)] I Tryz.func43 ?_
   refine zq I (fun Al W I => (HF W).out) fun Al W I => ?_
   exact zrb I
theorem v0o (n way : Int) (w : World) (h : ¬ (IsFm n ∧ 1 ≤ way ∧ way ≤ 5)) : Calls Tryz.prog 63 #[.int .i64 n, .int .i64 way] w fun en w' => en = .returned (.tuple #[.pointer none, .int .i64 6]) ∧ Below w.heap.size w w' := by
 have HG := fun W => hi0 (r0z n W)
 by_cases hn : IsFm n
 · have he : g0q n = 0 := by unfold g0q; rw [if_pos hn]
   have h' : way < 1 ∨ 5 < way := by by_cases k : 1 ≤ way ∧ way ≤ 5; exact absurd ⟨hn, k⟩ h; omega
   rw [he] at HG
   generalize fmt n = f at *
   have I := Inv.start w [] True.intro
   refine a0f [.v (.int .i64 n), .v (.int .i64 way)] I Tryz.func63 ?_
   refine zq I (fun Al W I => (HG W).out) fun Al W I => ?_
   by_cases h1 : way < 1
   · refine zb I 18 (decide (way < 1)) (true) (dTr h1) fun Al W I => ?_
     exact zrb I
   refine zb I 18 (decide (way < 1)) (false) (dFa h1) fun Al W I => ?_
   refine zb I 21 (decide (way > 5)) (true) (dTr (by omega)) fun Al W I => ?_
   exact zrb I
 · have he : g0q n = 6 := by unfold g0q; rw [if_neg hn]
   rw [he] at HG
   generalize fmt n = f at *
   have I := Inv.start w [] True.intro
   refine a0f [.v (.int .i64 n), .v (.int .i64 way)] I Tryz.func63 ?_
   refine zq I (fun Al W I => (HG W).out) fun Al W I => ?_
   exact zrb I
def m0p (f : Fm) (n way : Int) (w : World) (en : Ending) (w' : World) : Prop :=
 ∃ u, en = .returned (.tuple #[.pointer (some ⟨u, 0, none⟩), .int .i64 0]) ∧ w.heap.size ≤ u ∧ Bt w' u 182 #[.int .i64 n, .int .i64 way, .int .i64 f.g.rad, .int .i64 f.g.digs, .int .i64 f.g.lo, .int .i64 f.g.hi, .bool f.g.grad, .int .u8 (famB f), .int .i64 0] ∧ Below w.heap.size w w'
theorem b1o (n way : Int) (w : World) (hn : IsFm n) (hw : 1 ≤ way ∧ way ≤ 5) : Calls Tryz.prog 63 #[.int .i64 n, .int .i64 way] w (m0p (fmt n) n way w) := by
 have HG := fun W => hi0 (r0z n W)
 have he : g0q n = 0 := by unfold g0q; rw [if_pos hn]
 rw [he] at HG
 have G := e0k hn
 generalize fmt n = f at *
 have hrad := G.rad
 have hgr := G.grad
 by_cases f2 : f.fam = 2
 · have hBf : famB f = 66 := by unfold famB; rw [if_neg (by omega), if_pos f2]
   rw [if_pos f2] at hrad
   have I := Inv.start w [] True.intro
   refine a0f [.v (.int .i64 n), .v (.int .i64 way)] I Tryz.func63 ?_
   refine zq I (fun Al W I => (HG W).out) fun Al W I => ?_
   refine zb I 18 (decide (way < 1)) (false) (dFa (by omega)) fun Al W I => ?_
   refine zb I 21 (decide (way > 5)) (false) (dFa (by omega)) fun Al W I => ?_
   refine zb I 31 (f.g.rad == 16) (true) (beq_iff_eq.2 hrad) fun Al W I => ?_
   exact zret I (v := fun Al => .tuple #[.pointer (some ⟨(lk 0 Al 1), 0, none⟩), .int .i64 0]) fun Al W I => ⟨_, rfl, (I.geB 1), by rw [hBf]; exact (I.box 1 182 _), I.below⟩
 · rw [if_neg f2] at hrad
   by_cases f1 : f.fam = 1
   · have hBf : famB f = 65 := by unfold famB; rw [if_pos f1]
     rw [decide_eq_true f1] at hgr
     unfold m0p
     rw [hBf, hgr]
     simp only [hgr] at HG
     have I := Inv.start w [] True.intro
     refine a0f [.v (.int .i64 n), .v (.int .i64 way)] I Tryz.func63 ?_
     refine zq I (fun Al W I => (HG W).out) fun Al W I => ?_
     refine zb I 18 (decide (way < 1)) (false) (dFa (by omega)) fun Al W I => ?_
     refine zb I 21 (decide (way > 5)) (false) (dFa (by omega)) fun Al W I => ?_
     refine zb I 31 (f.g.rad == 16) (false) (bFn (by omega)) fun Al W I => ?_
     exact zret I fun Al W I => ⟨_, rfl, (I.geB 1), (I.box 1 182 _), I.below⟩
   · have hBf : famB f = 67 := by unfold famB; rw [if_neg f1, if_neg f2]
     rw [decide_eq_false f1] at hgr
     unfold m0p
     rw [hBf, hgr]
     simp only [hgr] at HG
     have I := Inv.start w [] True.intro
     refine a0f [.v (.int .i64 n), .v (.int .i64 way)] I Tryz.func63 ?_
     refine zq I (fun Al W I => (HG W).out) fun Al W I => ?_
     refine zb I 18 (decide (way < 1)) (false) (dFa (by omega)) fun Al W I => ?_
     refine zb I 21 (decide (way > 5)) (false) (dFa (by omega)) fun Al W I => ?_
     refine zb I 31 (f.g.rad == 16) (false) (bFn (by omega)) fun Al W I => ?_
     exact zret I fun Al W I => ⟨_, rfl, (I.geB 1), (I.box 1 182 _), I.below⟩
theorem k1w (n way fl : Int) (a : Vp) (r : Vr) (base u : Nat) (w : World) (U : Bt w u 182 #[.int .i64 n, .int .i64 way, .int .i64 (fmt n).g.rad, .int .i64 (fmt n).g.digs, .int .i64 (fmt n).g.lo, .int .i64 (fmt n).g.hi, .bool (fmt n).g.grad, .int .u8 (famB (fmt n)), .int .i64 fl]) (oa : Own w base .u32 141 a.p a.c (dig B32 a.v.d)) (hn : IsFm n) (V : VRep (fmt n) a.v r) (R : ResF (fmt n) r) (hT : TabW w) :
 Calls Tryz.prog 68 #[.pointer (some ⟨u, 0, none⟩), .agg #[.int .i64 (a.v.cls : Int), .bool a.v.neg, .slice a.p (dig B32 a.v.d).length a.c, .int .i64 a.v.pow]] w fun en w' => en = .returned (.tuple #[.string (b0q ((fmt n).strP ((fmt n).encP r.cls r.neg r.x))), .int .i64 fl, .int .i64 0]) ∧ Below w.heap.size w w' := by
 have HE := fun W (h1 : Own W base .u32 141 a.p a.c (dig B32 a.v.d)) h2 => hi0 (x0a n (a.v.cls : Int) (dinV a.v a.p a.c) W (i1e h1 V.len) h2)
 obtain ⟨e1, e2⟩ := k1t R V a.p a.c
 unfold t0v r0q at HE
 rw [if_pos hn, e1, e2] at HE
 simp only [if_true] at HE
 have HE2 : ∀ W, Own W base .u32 141 a.p a.c (dig B32 a.v.d) → TabW W → Hid (Calls Tryz.prog 42 #[.int .i64 n, .agg #[.int .i64 (a.v.cls : Int), .bool a.v.neg, .slice a.p (dig B32 a.v.d).length a.c, .int .i64 a.v.pow]] W fun en w' => en = .returned (.tuple #[.string (b0q ((fmt n).strP ((fmt n).encP r.cls r.neg r.x))), .int .i64 0]) ∧ Below W.heap.size W w') := HE
 clear HE e1 e2 V R
 generalize b0q ((fmt n).strP ((fmt n).encP r.cls r.neg r.x)) = s at *
 generalize fmt n = f at *
 have I := Inv.startR w [u] [⟨182, (uS f n way fl), true⟩] [ownF base .u32 141 a.p a.c (dig B32 a.v.d), tabF] ⟨U, True.intro⟩ ⟨oa, hT, True.intro⟩
 refine a0f [.p 0 0, .v (.agg #[.int .i64 (a.v.cls : Int), .bool a.v.neg, .slice a.p (dig B32 a.v.d).length a.c, .int .i64 a.v.pow])] I Tryz.func68 ?_
 refine zd [] I fun Al W I => ?_
 refine zk [0, 1, 2, 3, 4] I fun I => ?_
 refine zo 5 I fun I => ?_
 refine zq I (fun Al W I => (HE2 W I.fa.1 I.fa.2.1).out) fun Al W I => ?_
 refine zk [6, 7, 8, 9, 10] I fun I => ?_
 refine zd [] I fun Al W I => ?_
 refine zk [0, 1, 2, 3, 4, 5, 6, 7] I fun I => ?_
 exact zrb I
end Go.Proofs.YtmacohmclpnphaaGreatDoor
namespace Go.Slip
open Go.RowKit
theorem p0z {P : Program} {w : World} {b : Nat} {t : TypeId} {vs : Array Value} (h : Bt w b t vs) {ty : TypeId} (hT : d0h P ty) {m : Nat} (v : Value) (hv : vs[m]? = some v) : (VO.ld ty (.pointer (some (at_ (some ⟨b, 0, none⟩) m)))).sem.run P w = .ok v w := by
 have := s0v h hT m v hv
 show (Instr.loadAt _ _).run P w = _
 unfold at_
 simpa using this
end Go.Slip
namespace Go.Proofs.YtmacohmclpnphaaGreatDoor
open Go.RowKit Go.Slip
theorem e1n : g0l Tryz.prog 96 9 (.string ByteArray.empty) 16 := tyV (by kernel_rfl) (by kernel_rfl) (by omega) rfl rfl
theorem e1o : d0h Tryz.prog 9 := c0k (by kernel_rfl) (by kernel_rfl)
def errL (n : Int) : List ByteArray → Int
 | [] => 0
 | s :: r => if a0z n s = 0 then errL n r else a0z n s
theorem b1p (n : Int) : ∀ (L : List ByteArray), errL n L ≠ 0 → ∃ (j : Nat) (s : ByteArray), L[j]? = some s ∧ errL n L = a0z n s ∧ a0z n s ≠ 0 ∧ ∀ i t, i < j → L[i]? = some t → a0z n t = 0
 | [], h => absurd rfl h
 | s :: r, h => by
  unfold errL at h ⊢
  by_cases hs : a0z n s = 0
  · rw [if_pos hs] at h ⊢
    obtain ⟨j, t, h1, h2, h3, h4⟩ := b1p n r h
    refine ⟨j + 1, t, by simpa using h1, h2, h3, fun i u hi hu => ?_⟩
    cases i with
    | zero => simp only [List.getElem?_cons_zero, Option.some.injEq] at hu; rw [← hu]; exact hs
    | succ i => exact h4 i u (by omega) (by simpa using hu)
  · rw [if_neg hs]
    exact ⟨0, s, rfl, rfl, hs, fun i t hi => by omega⟩
theorem m0q (n : Int) : ∀ {L : List ByteArray}, errL n L = 0 → ∀ s, s ∈ L → a0z n s = 0
 | [], _, s, h => by simp at h
 | t :: r, h, s, hs => by
  unfold errL at h
  by_cases ht : a0z n t = 0
  · rw [if_pos ht] at h
    rcases List.mem_cons.1 hs with rfl | hs
    · exact ht
    · exact m0q n h s hs
  · rw [if_neg ht] at h
    exact absurd h ht
def errR (n way : Int) (L : List ByteArray) : Int := if IsFm n then (if errL n L = 0 then (if 1 ≤ way ∧ way ≤ 5 then 0 else 6) else errL n L) else 6
def strR (n : Int) (r : Vr) : ByteArray := b0q ((fmt n).strP ((fmt n).encP r.cls r.neg r.x))
structure VrF (f : Fm) (r : Vr) : Prop where
 ok : VrOk r
 inf : r.cls = 3 → f.fam = 1
def refD (n : Int) (s : ByteArray) : Vr := (fmt n).refN (a0s (fmt n) s)
theorem k1x {f : Fm} (G : c0l f) (neg : Bool) {e frac : Nat} (h : e < 2 ^ f.E) : (f.dec neg e frac).p = 0 ∨ (f.g.lo ≤ (f.dec neg e frac).p ∧ (f.dec neg e frac).p ≤ f.g.hi + 1) := by
 have h3 := G.hi1
 have h4 := G.hi2
 have h5 := G.hi3
 have h6 := G.fam
 have gg := (c0c G.g).le
 have e1 := G.e1
 have hE1 : (2 : Nat) ^ 7 ≤ 2 ^ f.E := Nat.pow_le_pow_right (by omega) e1
 unfold Fm.dec
 generalize 2 ^ f.E = T at *
 repeat' split
 all_goals first | exact .inl rfl | (right; simp only; omega)
theorem i1g {f : Fm} (neg : Bool) {e frac : Nat} (h : (f.dec neg e frac).c = 3) : f.fam = 1 := by
 have h : (f.dec neg e frac).cls = 3 := by
  unfold Dc.c at h
  split at h <;> omega
 unfold Fm.dec at h
 split at h
 · simp at h
 · split at h
   · rename_i k
     exact k.1
   · split at h
     · split at h <;> simp at h
     · split at h
       · simp at h
       · split at h
         · simp at h
         · split at h <;> simp at h
theorem b1q {n : Int} {s : ByteArray} (hn : IsFm n) : VrF (fmt n) (refD n s) := by
 have G := e0k hn
 have GG := c0c G.g
 obtain ⟨w1, w2, w3⟩ := n0v G.g
 have he : (fmt n).exp (a0s (fmt n) s) < 2 ^ (fmt n).E := Nat.mod_lt _ (Nat.pow_pos (by omega))
 have hx : (fmt n).frac (a0s (fmt n) s) < 2 ^ (fmt n).F := Nat.mod_lt _ (Nat.pow_pos (by omega))
 have hm := h1j (f := fmt n) ((fmt n).neg (a0s (fmt n) s)) (e := (fmt n).exp (a0s (fmt n) s)) hx
 have hp := k1x G ((fmt n).neg (a0s (fmt n) s)) (frac := (fmt n).frac (a0s (fmt n) s)) he
 have hi := fun h => i1g (f := fmt n) ((fmt n).neg (a0s (fmt n) s)) (e := (fmt n).exp (a0s (fmt n) s)) (frac := (fmt n).frac (a0s (fmt n) s)) h
 have hcls := a1e (fmt n) ((fmt n).neg (a0s (fmt n) s)) ((fmt n).exp (a0s (fmt n) s)) ((fmt n).frac (a0s (fmt n) s))
 have z2 := G.f2
 unfold refD Fm.refN Fm.decN
 generalize (fmt n).dec ((fmt n).neg (a0s (fmt n) s)) ((fmt n).exp (a0s (fmt n) s)) ((fmt n).frac (a0s (fmt n) s)) = D at *
 generalize (fmt n).neg (a0s (fmt n) s) = g at *
 generalize fmt n = f at *
 have hc : 1 ≤ D.c ∧ D.c ≤ 5 := by unfold Dc.c; split <;> omega
 have hml : (dig B32 D.m).length ≤ 3 := a0q hm (by omega)
 have wp := b0f f.g
 have hwp : -17010 ≤ (wid f.g : Int) * D.p ∧ (wid f.g : Int) * D.p ≤ 17010 := by
  rcases hp with h | ⟨h1, h2⟩
  · rw [h, Int.mul_zero]; omega
  · have a1 : (wid f.g : Int) * f.g.lo ≤ wid f.g * D.p := Int.mul_le_mul_of_nonneg_left h1 (by omega)
    have a2 : (wid f.g : Int) * D.p ≤ wid f.g * (f.g.hi + 1) := Int.mul_le_mul_of_nonneg_left h2 (by omega)
    rw [Int.mul_add, Int.mul_one] at a2
    omega
 refine ⟨⟨hc, fun h => ?_, fun h => ?_, ?_, ?_, ?_, ?_⟩, hi⟩
 · have h : ¬ D.c = 2 := h
   unfold Fm.vr
   simp only [if_neg h]
   rfl
 · have h : D.c = 2 := h
   have hm0 := f1s h
   unfold Fm.vr
   simp only [h, if_true]
   obtain ⟨b1, b2⟩ := p0y (g := g) (e := (wid f.g : Int) * D.p) hm0
   exact ⟨b2, by rw [b1]; rfl⟩
 · unfold Fm.vr
   simp only
   split
   · exact f0r _
   · exact .inr rfl
 · unfold Fm.vr
   simp only
   split
   · exact Nat.le_trans (k0x a0a _) (by show (dig B32 D.m).length ≤ _; omega)
   · show (dig B32 0).length ≤ _; rw [a0c]; decide
 · unfold Fm.vr
   simp only
   split
   · have := u0m (⟨g, D.m, wid f.g * D.p⟩ : Dv) (n := 3) hml (lo := -17100) (hi := 17100) (by simp only; omega) (by simp only; omega) (by omega) (by omega)
     omega
   · show (-18000 : Int) ≤ 0; decide
 · unfold Fm.vr
   simp only
   split
   · have := u0m (⟨g, D.m, wid f.g * D.p⟩ : Dv) (n := 3) hml (lo := -17100) (hi := 17100) (by simp only; omega) (by simp only; omega) (by omega) (by omega)
     omega
   · show (0 : Int) ≤ 18000; decide
theorem e1p {n : Int} {s : ByteArray} (h0 : a0z n s = 0) : VRep (fmt n) (decP n s) (refD n s) := by
 obtain ⟨hn, hs⟩ := d0a.1 h0
 have G := e0k hn
 have hd : decP n s = (fmt n).valN (a0s (fmt n) s) := by unfold decP; rw [if_pos h0]
 have he : (fmt n).exp (a0s (fmt n) s) < 2 ^ (fmt n).E := Nat.mod_lt _ (Nat.pow_pos (by omega))
 have hx : (fmt n).frac (a0s (fmt n) s) < 2 ^ (fmt n).F := Nat.mod_lt _ (Nat.pow_pos (by omega))
 have hb := l1u G ((fmt n).neg (a0s (fmt n) s)) he hx ((fmt n).neg (a0s (fmt n) s))
 have hk := d1x (fmt n) ((fmt n).neg (a0s (fmt n) s)) ((fmt n).decN (a0s (fmt n) s))
 have ho := d1z (fmt n) ((fmt n).neg (a0s (fmt n) s)) ((fmt n).decN (a0s (fmt n) s))
 rw [hd]
 exact ⟨rfl, rfl, fun _ => hk, fun h => ho h, hb.1, hb.2.1, hb.2.2⟩
/-! ### Results -/
theorem f1y {f : Fm} (G : c0l f) (x : Dv) (way : Int) : ResF f (f.numM x way).1 := by
 unfold Fm.numM
 split
 · exact t0x G _
 · exact (o0h G (by omega)).1
def _root_.Go.Slip.Vr.opp (r : Vr) : Vr := if r.cls ≤ 3 then ⟨r.cls, !r.neg, b0h r.x⟩ else r
theorem i1h {f : Fm} (G : c0l f) {r : Vr} (R : ResF f r) : CanF f r.cls r.neg r.x :=
 ⟨R.c, R.c1, fun h => ⟨b1a G (R.c2 h).1 (R.c2 h).2.2.1, (R.c2 h).2.1, (R.c2 h).2.2.1, (R.c2 h).2.2.2⟩, R.c3, R.c4, R.c5⟩
theorem e1q {n : Int} (hn : IsFm n) {r : Vr} (R : ResF (fmt n) r) : a0z n (strR n r) = 0 ∧ refD n (strR n r) = r := by
 have G := e0k hn
 have C := i1h G R
 have hlt := h1s G (cls := r.cls) (g := r.neg) (d := r.x) (fun h => (C.c2 h).1)
 have hs : (strR n r).size = (fmt n).size := by unfold strR; rw [v0w]; exact h1k _ _ _ _
 refine ⟨d0a.2 ⟨hn, hs⟩, ?_⟩
 have hv := h1u G C
 obtain ⟨q1, q2, q3⟩ := a1f (f := fmt n) (neg := ((fmt n).encP r.cls r.neg r.x).neg) hlt.1 hlt.2
 unfold refD Fm.refN Fm.decN strR Fm.strP
 rw [t0w G hlt.1 hlt.2, q1, q2, q3, hv]
 by_cases h2 : r.cls = 2
 · rw [if_pos h2]
 · rw [if_neg h2, show (⟨false, 0, 0⟩ : Dv) = r.x from (R.x0 h2).symm]
def outS (n way : Int) (L : List ByteArray) (R : Vr × Nat) : ByteArray := if errR n way L = 0 then strR n R.1 else b0q []
def outF (n way : Int) (L : List ByteArray) (R : Vr × Nat) : Nat := if errR n way L = 0 then R.2 else 0
def q0a (n way : Int) (L : List ByteArray) (R : Vr × Nat) (w : World) (en : Ending) (w' : World) : Prop :=
 (if errR n way L = 0 then en = .returned (.tuple #[.string (strR n R.1), .int .i64 ((R.2 : Nat) : Int), .int .i64 (errR n way L)]) else en = .returned (.tuple #[.string (b0q []), .int .i64 0, .int .i64 (errR n way L)])) ∧ Below w.heap.size w w'
theorem s0a {n way : Int} {L : List ByteArray} (h0 : errR n way L = 0) : IsFm n ∧ errL n L = 0 ∧ 1 ≤ way ∧ way ≤ 5 := by
 have hn : IsFm n := by unfold errR at h0; split at h0; assumption; omega
 unfold errR at h0
 rw [if_pos hn] at h0
 have hL : errL n L = 0 := by split at h0; assumption; contradiction
 rw [if_pos hL] at h0
 exact ⟨hn, hL, by split at h0; assumption; omega⟩
theorem i1i {n way : Int} {L : List ByteArray} {R : Vr × Nat} {w : World} {fn : FuncId} {args : Array Value} (h : Calls Tryz.prog fn args w (q0a n way L R w)) :
 Calls Tryz.prog fn args w fun en w' => en = .returned (.tuple #[.string (outS n way L R), .int .i64 ((outF n way L R : Nat) : Int), .int .i64 (errR n way L)]) ∧ Below w.heap.size w w' := by
 refine h.mono fun en w' hh => ⟨?_, hh.2⟩
 unfold outS outF
 have := hh.1
 by_cases h0 : errR n way L = 0
 · rw [if_pos h0] at this ⊢; rw [if_pos h0]; exact this
 · rw [if_neg h0] at this ⊢; rw [if_neg h0]; exact this
end Go.Proofs.YtmacohmclpnphaaGreatDoor
namespace Go.Slip
theorem m1a (n : Int) : bits .and .i64 n 4611686018427387903 = n % 4611686018427387904 := by
 have h1 : (BitVec.ofInt 64 4611686018427387903).toNat = 2 ^ 62 - 1 := by decide
 have h2 : (BitVec.ofInt 64 n).toNat = (n % 18446744073709551616).toNat := by rw [BitVec.toNat_ofInt]; rfl
 have key : (BitVec.ofInt 64 n &&& BitVec.ofInt 64 4611686018427387903).toNat = (n % 4611686018427387904).toNat := by
  rw [BitVec.toNat_and, h2, h1, Nat.and_two_pow_sub_one_eq_mod]
  omega
 show IntKind.i64.wrap ((BitVec.ofInt 64 n &&& BitVec.ofInt 64 4611686018427387903).toNat : Nat) = _
 rw [key, Int.toNat_of_nonneg (by omega)]
 exact iwo
def intD (n : Int) : Dv := norm n 0
theorem q0b (m : Nat) (e : Int) : bare ⟨false, m, e⟩ = norm (m : Int) e := (j0t false m e).symm
theorem o0i (a b : Int) (j k : Nat) : d0l (norm a j) (norm b k) = norm (a * 2 ^ j + b * 2 ^ k) 0 := by
 have h : ∀ (c : Int) (i : Nat), (0 : Int) ≤ (norm c i).e ∧ zOf (norm c i) 0 = c * 2 ^ i := fun c i => by
  have e : norm c (i : Int) = norm (c * 2 ^ i) 0 := by rw [n0o]; congr 1; omega
  rw [e]
  exact ⟨j1d _ (Int.le_refl 0), p0x _ _⟩
 rw [j0u _ _ (h a j).1 (h b k).1, (h a j).2, (h b k).2]
end Go.Slip
namespace Go.Proofs.YtmacohmclpnphaaGreatDoor
open Go.RowKit Go.Slip
theorem e1r (n : Int) (v : Vl) (r : Vr) (p : Option Addr) (c b0 : Nat) (w : World) (hn : IsFm n) (hp : Own w b0 .u32 141 p c (dig B32 v.d)) (V : VRep (fmt n) v r) (R : VrOk r) (hT : TabW w) :
 Calls Tryz.prog 71 #[.int .i64 n, .agg #[.int .i64 (v.cls : Int), .bool v.neg, .slice p (dig B32 v.d).length c, .int .i64 v.pow]] w (f0u w w.heap.size r.x) := by
 have HG := fun W => hi0 (d1w n W)
 have h0 : g0q n = 0 := by unfold g0q; rw [if_pos hn]
 rw [h0] at HG
 generalize fmt n = f at *
 have hx : bare ⟨v.neg, v.d, wid f.g * v.pow⟩ = r.x := by
  by_cases h2 : r.cls = 2
  · exact V.num h2
  · rw [R.x0 h2, (V.oth h2).1]; rfl
 have hl := V.len
 have hlo := V.lo
 have hhi := V.hi
 have wp := b0f f.g
 have hmu := n0z (wd := wid f.g) (k := v.pow) (B := 20000) wp.2 ⟨hlo, hhi⟩
 rw [← hx, ← r0p]
 clear hx R V h0
 have hwd : wid f.g = if f.g.rad = 16 then 4 else 1 := rfl
 generalize hmw : (wid f.g : Int) * v.pow = mw at *
 have HMW := hi0 hmw
 have HH := fun W (c : Nat) h1 h0 h2 => hi0 (m0b p _ c mw v.d W h1 rfl h0 (by omega) (by omega) h2)
 clear hmw
 generalize bare ⟨false, v.d, mw⟩ = d at *
 obtain ⟨rb, hrb⟩ : ∃ b, (f.g.rad == 16) = b := ⟨_, rfl⟩
 have HRB := hi0 hrb
 have h4 : rb = true → (4 : Int) = ((wid f.g : Nat) : Int) := fun h => by rw [h] at hrb; rw [hwd, if_pos (beq_iff_eq.1 hrb)]; rfl
 have h1 : rb = false → (1 : Int) = ((wid f.g : Nat) : Int) := fun h => by rw [h] at hrb; rw [hwd, if_neg (bnF hrb)]; rfl
 clear hrb hwd
 have I := Inv.start w [ownF b0 .u32 141 p c (dig B32 v.d), tabF] ⟨hp, hT, True.intro⟩
 refine a0f [.v (.int .i64 n), .v (.agg #[.int .i64 (v.cls : Int), .bool v.neg, .slice p (dig B32 v.d).length c, .int .i64 v.pow])] I Tryz.func71 ?_
 refine zq I (fun Al W I => (HG W).out) fun Al W I => ?_
 refine zb I 16 (f.g.rad == 16) (rb) (HRB.out) fun Al W I => ?_
 refine zcut I (some 2000016) (fun fr bx gs => ∃ (U1 : Nat → Value) (k1 : Int), fr = (.v (.int .i64 n) :: .v (.agg #[.int .i64 (v.cls : Int), .bool v.neg, .slice p (dig B32 v.d).length c, .int .i64 v.pow]) :: .v undef :: .p 0 0 :: .p 1 0 :: .p 2 0 :: .v (U1 6) :: .v (.int .i64 k1) :: .v undef :: sw U1 9 7 (.v (.bool rb) :: sw U1 17 8 (.v undef :: sw U1 26 3 [])) : List SV) ∧ bx = [⟨75, [.v (.int .i64 (v.cls : Int)), .v (.bool v.neg), .v (.slice p (dig B32 v.d).length c), .v (.int .i64 v.pow)], false⟩, ⟨112, [.v (.bool false), .v (.slice none 0 0), .v (.int .i64 0)], false⟩, ⟨54, [.v (.int .i64 f.g.rad), .v (.int .i64 f.g.digs), .v (.int .i64 f.g.lo), .v (.int .i64 f.g.hi), .v (.bool f.g.grad)], false⟩] ∧ gs = [ownF b0 .u32 141 p c (dig B32 v.d), tabF] ∧ (k1 = ((wid f.g : Nat) : Int))) ?_ ?_
 · intro J hJ Al W I
   rcases Bool.eq_false_or_eq_true rb with rfl | rfl
   · exact b0d I J fun Al W U I => hJ _ _ _ _ _ ⟨U, 4, rfl, rfl, rfl, h4 rfl⟩ (I.pick [0, 1])
   exact b0d I J fun Al W U I => hJ _ _ _ _ _ ⟨U, 1, rfl, rfl, rfl, h1 rfl⟩ (I.pick [0, 1])
 rintro _ _ _ ⟨U1, k1, rfl, rfl, rfl, hk1⟩ Al W I
 refine zi I 22 .i64 (k1 * v.pow) (mw) ((by rw [hk1, HMW.out]; exact iwo)) fun Al W I => ?_
 refine zqo I (fun Al W I => (HH W c I.fa.1.rd I.fa.1.le_cap I.fa.2.1).out) fun Al W p23 c23 I => ?_
 by_cases ng : v.neg = true
 · refine zb I 25 (v.neg) (true) (ng) fun Al W I => ?_
   refine zq I (fun Al W I => t0j d.neg p23 _ c23 d.e d.m W rfl) fun Al W I => ?_
   rw [if_pos ng]
   exact zret I fun Al W I => ⟨p23, c23, rfl, I.fa.1.mono (by omega), I.below⟩
 refine zb I 25 (v.neg) (false) ((by simpa using ng)) fun Al W I => ?_
 rw [if_neg ng]
 exact zret I fun Al W I => ⟨p23, c23, rfl, I.fa.1.mono (by omega), I.below⟩
end Go.Proofs.YtmacohmclpnphaaGreatDoor
namespace Go.Slip
theorem t0y (z e : Int) : b0h (norm z e) = norm (-z) e := by
 by_cases h : z = 0
 · subst h; rfl
 · have h1 : (bare (ofZ z e)).m ≠ 0 := n0u h e
   unfold norm at *
   unfold ofZ bare at *
   simp only at h1 ⊢
   rw [if_neg (by omega)] at h1
   rw [if_neg (by omega), if_neg (by omega)]
   unfold b0h
   simp only at h1 ⊢
   rw [Int.natAbs_neg, decide_eq_true (Nat.pos_of_ne_zero h1), Bool.and_true]
   simp only [Dv.mk.injEq, and_true]
   by_cases k : z < 0
   · rw [decide_eq_true k, decide_eq_false (by omega)]; rfl
   · rw [decide_eq_false k, decide_eq_true (by omega)]; rfl
def RepG (g : Gd) (z : Nat) (k : Int) : Prop := 0 < z ∧ z < 2 ^ (wid g * g.digs.toNat) ∧ (g.lo < k ∨ g.grad = false → 2 ^ (wid g * (g.digs.toNat - 1)) ≤ z) ∧ g.lo ≤ k
theorem RepG.stepK {g : Gd} (G : h0v g) {z : Nat} {k : Int} (h : RepG g z k) {s : Int} (hs : s.natAbs = z) : stepK (norm s (wid g * k)) g = k := by
 obtain ⟨h1, h2, h3, h4⟩ := h
 refine e1j G (by omega) (by omega) h4 ?_
 rcases Int.lt_or_le g.lo k with h | h
 · left; rw [hs]; exact h3 (.inl h)
 · right; omega
end Go.Slip
namespace Go.Proofs.YtmacohmclpnphaaGreatDoor
open Go.RowKit Go.Slip
theorem i1j {n : Int} (h : -9223372036854775808 ≤ n ∧ n ≤ 9223372036854775807) : (dig B32 (intD n).m).length ≤ 2 ∧ -100 ≤ (intD n).e ∧ (intD n).e ≤ 100 ∧ Bare (intD n) := by
 have hl : (dig B32 n.natAbs).length ≤ 2 := (a0e a0a _ 2).2 (by unfold B32; omega)
 have h1 := k0x a0a ⟨decide (n < 0), n.natAbs, 0⟩
 have h2 := u0m ⟨decide (n < 0), n.natAbs, 0⟩ (n := 2) hl (lo := -1) (hi := 1) (by simp only; omega) (by simp only; omega) (by omega) (by omega)
 have h3 := f0r ⟨decide (n < 0), n.natAbs, 0⟩
 have e : intD n = bare ⟨decide (n < 0), n.natAbs, 0⟩ := rfl
 rw [← e] at h1 h2 h3
 simp only at h1
 exact ⟨by omega, by omega, by omega, h3⟩
theorem h0k {m : Nat} {e : Int} (h : m < 18446744073709551616) (he : 0 ≤ e ∧ e ≤ 62) : SmD (norm (m : Int) e) ∧ Bare (norm (m : Int) e) := by
 have hl : (dig B32 m).length ≤ 2 := (a0e a0a _ 2).2 (by unfold B32; omega)
 have h1 := k0x a0a ⟨false, m, e⟩
 have h2 := u0m ⟨false, m, e⟩ (n := 2) hl (lo := -1) (hi := 100) (by simp only; omega) (by simp only; omega) (by omega) (by omega)
 rw [q0b] at h1 h2
 simp only at h1
 exact ⟨⟨by omega, by omega, by omega⟩, by rw [← q0b]; exact f0r _⟩
theorem t0z (n fm way : Int) (w : World) (hr : -9223372036854775808 ≤ n ∧ n ≤ 9223372036854775807) (hT : TabW w) :
 Calls Tryz.prog 16 #[.int .i64 n, .int .i64 fm, .int .i64 way] w (q0a fm way [] ((fmt fm).numM (intD n) way) w) := by
 unfold q0a
 by_cases hok : IsFm fm ∧ 1 ≤ way ∧ way ≤ 5
 · obtain ⟨hn, hw⟩ := hok
   have h0 : errR fm way [] = 0 := by unfold errR; rw [if_pos hn, if_pos (show errL fm [] = 0 from rfl), if_pos hw]
   simp only [h0, if_true]
   have HO := fun W => hi0 (b1o fm way W hn hw)
   have RS : ResF (fmt fm) ((fmt fm).numM (intD n) way).1 := f1y (e0k hn) _ _
   obtain ⟨b1, b2, b3, b4⟩ := i1j hr
   have HNU := fun (x : Dv) (hx : x = intD n) W p c u (h1 : Bt W u 182 #[.int .i64 fm, .int .i64 way, .int .i64 (fmt fm).g.rad, .int .i64 (fmt fm).g.digs, .int .i64 (fmt fm).g.lo, .int .i64 (fmt fm).g.hi, .bool (fmt fm).g.grad, .int .u8 (famB (fmt fm)), .int .i64 0]) (h2 : Rd W .u32 p (dig B32 x.m)) => hi0 (show Calls Tryz.prog 69 #[.pointer (some ⟨u, 0, none⟩), .agg #[.bool x.neg, .slice p (dig B32 x.m).length c, .int .i64 x.e]] W (k0m (fmt fm) fm way u W W.heap.size ((fmt fm).numM (intD n) way)) from by
     subst hx; exact e1m (fmt fm) fm way _ p c u W h1 h2 (by omega) (by omega) (e0k hn) hw)
   obtain ⟨rS, flS, hS⟩ : ∃ rS flS, (fmt fm).numM (intD n) way = (rS, flS) := ⟨_, _, rfl⟩
   rw [hS] at HNU RS ⊢
   have HTL := fun W (v : Vl) p c b u h1 h2 h3 h4 => hi0 (k1w fm way (flS : Int) ⟨v, p, c⟩ rS b u W h1 h2 hn h3 RS h4)
   rw [show b0q ((fmt fm).strP ((fmt fm).encP rS.cls rS.neg rS.x)) = strR fm rS from rfl] at HTL
   clear hS RS h0
   generalize strR fm rS = str at *
   generalize fmt fm = f at *
   -- the lower bits
   obtain ⟨N1, hN1⟩ : ∃ N1 : Nat, (N1 : Int) = n % 4611686018427387904 := ⟨(n % 4611686018427387904).toNat, by omega⟩
   have HW := fun (m : Nat) (e : Int) (hm : m < 18446744073709551616) (he : 0 ≤ e ∧ e ≤ 62) W p c h1 h2 h3 => hi0 ((q0b m e) ▸ m0b p _ c e m W h1 rfl h2 (by have : (dig B32 m).length ≤ 2 := (a0e a0a _ 2).2 (by unfold B32; omega); omega) (by omega) h3)
   have HPL := fun (m k : Nat) (e : Int) (hm : m < 18446744073709551616) (hk : k < 18446744073709551616) (he : 0 ≤ e ∧ e ≤ 62) W p q c d b h1 h2 h3 h4 => hi0 (r0y (norm (m : Int) e) (norm (k : Int) 0) p q c d b W (h0k hm he).2 (h0k hk (by omega)).2 (h0k hm he).1 (h0k hk (by omega)).1 h1 h2 h3 h4)
   have HPR := fun (m k : Nat) (hm : m < 18446744073709551616) (hk : k < 18446744073709551616) W p q c d b h1 h2 h3 h4 => hi0 (r0y (norm (m : Int) 0) (norm (k : Int) 62) p q c d b W (h0k hm (by omega)).2 (h0k hk (by omega)).2 (h0k hm (by omega)).1 (h0k hk (by omega)).1 h1 h2 h3 h4)
   have hI : ∀ z : Int, norm z 0 = intD z := fun _ => rfl
   have eP : ∀ m : Nat, (m : Int) < 4611686018427387904 → (m : Int) = n → norm (m : Int) 0 = intD n := fun m _ h => by rw [h]; rfl
   have e2 : ∀ a b : Nat, (a : Int) * 2 + b = -n → b0h (d0l (norm (a : Int) 1) (norm (b : Int) 0)) = intD n := fun a b h => by
    have := o0i a b 1 0
    simp only [Int.natCast_one, Int.natCast_zero, Int.pow_succ, Int.pow_zero, Int.one_mul, Int.mul_one] at this
    rw [this, t0y, h, Int.neg_neg]
    rfl
   have e3 : ∀ m : Nat, (m : Int) + 4611686018427387904 = n → d0l (norm (m : Int) 0) (norm ((1 : Nat) : Int) 62) = intD n := fun m h => by
    have := o0i m 1 0 62
    simp only [Int.natCast_zero, Int.pow_zero, Int.mul_one] at this
    rw [show ((1 : Nat) : Int) = 1 from rfl, show (62 : Int) = ((62 : Nat) : Int) from rfl, this, show (m : Int) + 1 * 2 ^ 62 = n by omega]
    rfl
   have hN2 : (N1 : Int) < 4611686018427387904 ∧ 0 ≤ (N1 : Int) := by omega
   have HAND := hi0 ((m1a n).trans hN1.symm)
   have td : n < 0 → n.tdiv 2 = -((-n) / 2) ∧ n.tmod 2 = -((-n) % 2) := fun h => by
    have a1 := Int.neg_tdiv (-n) 2
    have a2 := Int.neg_tmod (-n) 2
    rw [Int.neg_neg] at a1 a2
    rw [a1, a2, Int.tdiv_eq_ediv_of_nonneg (by omega), Int.tmod_eq_emod_of_nonneg (by omega)]
    exact ⟨rfl, rfl⟩
   obtain ⟨qa, hqa⟩ : ∃ qa : Nat, n < 0 → (qa : Int) = -(n.tdiv 2) := ⟨(-(n.tdiv 2)).toNat, fun h => by have := td h; omega⟩
   obtain ⟨qb, hqb⟩ : ∃ qb : Nat, n < 0 → (qb : Int) = -(n.tmod 2) := ⟨(-(n.tmod 2)).toNat, fun h => by have := td h; omega⟩
   have hq3 : n < 0 → (qa : Int) * 2 + qb = -n := fun h => by have := hqa h; have := hqb h; have := td h; omega
   have I := Inv.start w [tabF] ⟨hT, True.intro⟩
   refine a0f [.v (.int .i64 n), .v (.int .i64 fm), .v (.int .i64 way)] I Tryz.func16 ?_
   refine zg I (fun Al W I => (HO W).out) fun Al V Iv _ hB _ kz => ?_
   rintro _ W ⟨u15, rfl, hge, hB, hb⟩
   refine ⟨_, rfl, kz _ _ hb fun I => ?_⟩
   refine l1q Iv hb 0 u15 182 [(.int .i64 fm), (.int .i64 way), (.int .i64 f.g.rad), (.int .i64 f.g.digs), (.int .i64 f.g.lo), (.int .i64 f.g.hi), (.bool f.g.grad), (.int .u8 (famB f)), (.int .i64 0)] hge hB fun Al hAl_15 I => ?_
   refine l1r I 16 0 u15 hAl_15 fun Al W I => ?_
   refine zbin I 22 _ (fun _ _ _ _ _ => z0j .i64 (n) (4611686018427387903) ((N1 : Int)) ((HAND.out))) fun Al W I => ?_
   refine zqo I (fun Al W I => have hzW := I.bel.size; sof (N1 : Int) N1 rfl (by omega) W) fun Al W p23 c23 I => ?_
   refine zqo I (fun Al W I => have hzW := I.bel.size; (HW N1 0 (by omega) (by omega) W p23 c23 I.fa.1.rd I.fa.1.le_cap I.fa.2.1).out) fun Al W p24 c24 I => ?_
   by_cases hneg : n < 0
   · refine zb I 26 (decide (n < 0)) (true) (dTr hneg) fun Al W I => ?_
     refine zbin I 28 _ (fun _ _ _ _ _ => t0g .i64 (n) (2) ((n.tdiv 2)) (by omega) ((by exact IntWalk.i64_in _ (by have := td hneg; omega)))) fun Al W I => ?_
     refine zi I 29 .i64 (0 - (n.tdiv 2)) (-(n.tdiv 2)) ((iwo).trans (by omega)) fun Al W I => ?_
     refine zqo I (fun Al W I => have hzW := I.bel.size; sof _ qa (by first | exact (hqa hneg).symm | omega) (by have := hqa hneg; have := td hneg; omega) W) fun Al W p30 c30 I => ?_
     refine zqo I (fun Al W I => have hzW := I.bel.size; (HW qa 1 (by have := hqa hneg; have := td hneg; omega) (by omega) W p30 c30 I.fa.1.rd I.fa.1.le_cap I.fa.2.2.2.1).out) fun Al W p31 c31 I => ?_
     refine zbin I 33 _ (fun _ _ _ _ _ => z0i .i64 (n) (2) ((n.tmod 2)) (by omega) (rfl)) fun Al W I => ?_
     refine zi I 34 .i64 (0 - (n.tmod 2)) (-(n.tmod 2)) ((iwo).trans (by omega)) fun Al W I => ?_
     refine zqo I (fun Al W I => have hzW := I.bel.size; sof _ qb (by first | exact (hqb hneg).symm | omega) (by have := hqb hneg; have := td hneg; omega) W) fun Al W p35 c35 I => ?_
     refine zqo I (fun Al W I => have hzW := I.bel.size; (HW qb 0 (by have := hqb hneg; have := td hneg; omega) (by omega) W p35 c35 I.fa.1.rd I.fa.1.le_cap I.fa.2.2.2.2.2.1).out) fun Al W p36 c36 I => ?_
     refine zqo I (fun Al W I => have hzW := I.bel.size; (HPL qa qb 1 (by have := hqa hneg; have := td hneg; omega) (by have := hqb hneg; have := td hneg; omega) (by omega) W p31 p36 c31 c36 _ I.fa.2.2.1 I.fa.1 I.fa.2.2.2.2.2.2.1 I.bel.size).out) fun Al W p37 c37 I => ?_
     refine zq I (fun Al W I => t0j (d0l (norm (qa : Int) 1) (norm (qb : Int) 0)).neg p37 _ c37 (d0l (norm (qa : Int) 1) (norm (qb : Int) 0)).e (d0l (norm (qa : Int) 1) (norm (qb : Int) 0)).m W rfl) fun Al W I => ?_
     refine zge I 0 182 (fun Al W I => (HNU _ (e2 qa qb (hq3 hneg)) W p37 c37 _ (I.box 0 182 _) I.fa.1.rd).out) fun Al V Iv _ _ kz => ?_
     rintro _ W ⟨v48, hR48, p48, c48, rfl, o48, hO, hB⟩
     refine ⟨_, rfl, kz _ (uS f fm way (flS : Int)) _ hO hB fun I => ?_⟩
     have I := I.own o48
     refine zq I (fun Al W I => (HTL W v48 p48 c48 _ _ (I.box 0 182 _) I.fa.1 hR48 I.fa.2.2.2.2.2.2.2.2.1).out) fun Al W I => ?_
     exact zrb I
   refine zb I 26 (decide (n < 0)) (false) (dFa hneg) fun Al W I => ?_
   by_cases hbig : n ≥ 4611686018427387904
   · refine zb I 40 (decide (n ≥ 4611686018427387904)) (true) (dTr hbig) fun Al W I => ?_
     refine zcut I none (fun fr bx gs => ∃ (U1 : Nat → Value) (p44 : Option Addr) (c44 : Nat), fr = (.v (.int .i64 n) :: .v (.int .i64 fm) :: .v (.int .i64 way) :: su 3 (.v (Go.Value.string (ByteArray.mk #[])) :: .v (.int .i64 0) :: .v (.int .i64 0) :: .p 0 0 :: .v (.int .i64 0) :: .p 1 0 :: sw U1 12 7 (.v (.bool false) :: sw U1 20 6 (.v (.bool false) :: sw U1 27 13 (.v (.bool true) :: sw U1 41 12 [])))) : List SV) ∧ bx = [⟨182, (uS f fm way 0), false⟩, ⟨112, [.v (.bool ((d0l (norm (N1 : Int) 0) (norm ((1 : Nat) : Int) 62)).neg)), .v (.slice p44 (dig B32 (d0l (norm (N1 : Int) 0) (norm ((1 : Nat) : Int) 62)).m).length c44), .v (.int .i64 ((d0l (norm (N1 : Int) 0) (norm ((1 : Nat) : Int) 62)).e))], false⟩] ∧ gs = [ownF w.heap.size .u32 141 p44 c44 (dig B32 (d0l (norm (N1 : Int) 0) (norm ((1 : Nat) : Int) 62)).m), ownF w.heap.size .u32 141 p24 c24 (dig B32 (norm (N1 : Int) 0).m), ownF w.heap.size .u32 141 p23 c23 (dig B32 N1), tabF]) ?_ ?_
     · intro J hJ Al W I
       refine zd [1] I fun Al W I => ?_
       refine zo2 0 1 I (fun I => ?_) (fun I => ?_)
       · refine zn I fun Al W I => ?_
         refine zo 1 I fun I => ?_
         refine zqo I (fun Al W I => p0l W) fun Al W p42 c42 I => ?_
         refine zo 2 I fun I => ?_
         refine zqo I (fun Al W I => have hzW := I.bel.size; (HW 1 62 (by omega) (by omega) W p42 c42 I.fa.1.rd I.fa.1.le_cap I.fa.2.2.2.1).out) fun Al W p43 c43 I => ?_
         refine zo 3 I fun I => ?_
         refine zqo I (fun Al W I => have hzW := I.bel.size; (HPR N1 1 (by omega) (by omega) W p24 p43 c24 c43 _ I.fa.2.2.1 I.fa.1 I.fa.2.2.2.2.1 I.bel.size).out) fun Al W p44 c44 I => ?_
         refine zo 4 I fun I => ?_
         refine zn I fun Al W I => ?_
         exact b0d I J fun Al W U I => hJ _ _ _ _ _ ⟨U, p44, c44, rfl, rfl, rfl⟩ (I.pick [0, 3, 4, 5])
       refine zqo I (fun Al W I => p0l W) fun Al W p42 c42 I => ?_
       refine zo2 0 2 I (fun I => ?_) (fun I => ?_)
       · refine zn I fun Al W I => ?_
         refine zo 2 I fun I => ?_
         refine zqo I (fun Al W I => have hzW := I.bel.size; (HW 1 62 (by omega) (by omega) W p42 c42 I.fa.1.rd I.fa.1.le_cap I.fa.2.2.2.1).out) fun Al W p43 c43 I => ?_
         refine zo 3 I fun I => ?_
         refine zqo I (fun Al W I => have hzW := I.bel.size; (HPR N1 1 (by omega) (by omega) W p24 p43 c24 c43 _ I.fa.2.2.1 I.fa.1 I.fa.2.2.2.2.1 I.bel.size).out) fun Al W p44 c44 I => ?_
         refine zo 4 I fun I => ?_
         refine zn I fun Al W I => ?_
         exact b0d I J fun Al W U I => hJ _ _ _ _ _ ⟨U, p44, c44, rfl, rfl, rfl⟩ (I.pick [0, 3, 4, 5])
       refine zqo I (fun Al W I => have hzW := I.bel.size; (HW 1 62 (by omega) (by omega) W p42 c42 I.fa.1.rd I.fa.1.le_cap I.fa.2.2.2.1).out) fun Al W p43 c43 I => ?_
       refine zo 0 I fun I => ?_
       refine zn I fun Al W I => ?_
       refine zo 3 I fun I => ?_
       refine zqo I (fun Al W I => have hzW := I.bel.size; (HPR N1 1 (by omega) (by omega) W p24 p43 c24 c43 _ I.fa.2.2.1 I.fa.1 I.fa.2.2.2.2.1 I.bel.size).out) fun Al W p44 c44 I => ?_
       refine zo 4 I fun I => ?_
       refine zn I fun Al W I => ?_
       exact b0d I J fun Al W U I => hJ _ _ _ _ _ ⟨U, p44, c44, rfl, rfl, rfl⟩ (I.pick [0, 3, 4, 5])
     rintro _ _ _ ⟨U1, p44, c44, rfl, rfl, rfl⟩ Al W I
     refine zge I 0 182 (fun Al W I => have hzW := I.bel.size; (HNU _ (e3 N1 (by omega)) W p44 c44 _ (I.box 0 182 _) I.fa.1.rd).out) fun Al V Iv _ _ kz => ?_
     rintro _ W ⟨v48, hR48, p48, c48, rfl, o48, hO, hB⟩
     refine ⟨_, rfl, kz _ (uS f fm way (flS : Int)) _ hO hB fun I => ?_⟩
     have I := I.own o48
     refine zq I (fun Al W I => (HTL W v48 p48 c48 _ _ (I.box 0 182 _) I.fa.1 hR48 I.fa.2.2.2.2.1).out) fun Al W I => ?_
     exact zrb I
   refine zb I 40 (decide (n ≥ 4611686018427387904)) (false) (dFa hbig) fun Al W I => ?_
   refine zge I 0 182 (fun Al W I => have hzW := I.bel.size; (HNU _ (eP N1 (by omega) (by omega)) W p24 c24 _ (I.box 0 182 _) I.fa.1.rd).out) fun Al V Iv _ _ kz => ?_
   rintro _ W ⟨v48, hR48, p48, c48, rfl, o48, hO, hB⟩
   refine ⟨_, rfl, kz _ (uS f fm way (flS : Int)) _ hO hB fun I => ?_⟩
   have I := I.own o48
   refine zq I (fun Al W I => (HTL W v48 p48 c48 _ _ (I.box 0 182 _) I.fa.1 hR48 I.fa.2.2.2.1).out) fun Al W I => ?_
   exact zrb I
 · have h0 : errR fm way [] = 6 := by
    unfold errR
    by_cases hn : IsFm fm
    · rw [if_pos hn, if_pos (show errL fm [] = 0 from rfl), if_neg (fun h => hok ⟨hn, h⟩)]
    · rw [if_neg hn]
   simp only [h0, show ((6 : Int) = 0) = False by simp, if_false]
   have HO := fun W => hi0 (v0o fm way W hok)
   have I := Inv.start w [] True.intro
   refine a0f [.v (.int .i64 n), .v (.int .i64 fm), .v (.int .i64 way)] I Tryz.func16 ?_
   refine zq I (fun Al W I => (HO W).out) fun Al W I => ?_
   exact zrb I
def q0c (v : Nat) (neg : Bool) : Int × Bool := if v < 9223372036854775808 then (if neg = true then -(v : Int) else v, true) else (-9223372036854775808, neg && decide (v = 9223372036854775808))
theorem i1k {v i : Nat} (hi : i < 2) : bits .or .u64 (((v % B32 ^ i : Nat) : Int)) (((v / B32 ^ i % B32 * 2 ^ (32 * i) : Nat)) : Int) = ((v % B32 ^ (i + 1) : Nat) : Int) := by
 have hB : B32 = 4294967296 := rfl
 have hx : v / B32 ^ i % B32 < B32 := Nat.mod_lt _ (by unfold B32; omega)
 rcases (show i = 0 ∨ i = 1 by omega) with rfl | rfl
 · simp only [Nat.pow_zero, Nat.mod_one, Nat.div_one, Nat.mul_zero, Nat.mul_one, Nat.zero_add, Nat.pow_one]
   rw [u64_or_nat 0 (v % B32) (by omega) (by rw [hB]; omega), Nat.zero_or]
 · simp only [Nat.pow_one, Nat.mul_one]
   have h1 : v % B32 < 4294967296 := by rw [hB]; omega
   have h2 : v / B32 % B32 * 2 ^ 32 < 18446744073709551616 := by rw [hB]; omega
   rw [u64_or_nat _ _ (by omega) h2, Nat.or_comm, nat_join 32 (v / B32 % B32 * 2 ^ 32) (v % B32) (by omega) (by omega)]
   have : v % B32 ^ (1 + 1) = v % B32 + B32 * (v / B32 % B32) := by
    rw [show (1 + 1) = 2 from rfl, Nat.pow_two, Nat.mod_mul]
   rw [this, hB]
   omega
theorem i1l {v i : Nat} : dg (dig B32 v) i = v / B32 ^ i % B32 := o0d a0a v i
theorem u0a (p : Option Addr) (c : Nat) (v : Nat) (neg : Bool) (w : World) (hp : Rd w .u32 p (dig B32 v)) (hv : v < 18446744073709551616) :
 Calls Tryz.prog 73 #[.slice p (dig B32 v).length c, .bool neg] w fun en w' => en = .returned (.tuple #[.int .i64 (q0c v neg).1, .bool (q0c v neg).2]) ∧ Below w.heap.size w w' := by
 have hl : (dig B32 v).length ≤ 2 := (a0e a0a _ 2).2 (by unfold B32; omega)
 have HL := fun W h => hi0 (stay (f0m p _ c v W h rfl (by omega)))
 have hbl : blen v < 64 ↔ v < 9223372036854775808 := by
  have := a0w v 63
  omega
 have hfull : v % B32 ^ (dig B32 v).length = v := Nat.mod_eq_of_lt ((a0e a0a v _).1 (Nat.le_refl _))
 have hstep : ∀ i, i < (dig B32 v).length → bits .or .u64 (((v % B32 ^ i : Nat) : Int)) (((dg (dig B32 v) i * 2 ^ (32 * i) : Nat)) : Int) = ((v % B32 ^ (i + 1) : Nat) : Int) := fun i h => by rw [i1l]; exact i1k (by omega)
 have hsh : ∀ i, i < (dig B32 v).length → IntKind.u64.wrap (((dg (dig B32 v) i : Nat) : Int) * 2 ^ (min (32 * (i : Int)).toNat IntKind.u64.bits)) = ((dg (dig B32 v) i * 2 ^ (32 * i) : Nat) : Int) := fun i h => by
  have hx : dg (dig B32 v) i < 4294967296 := by rw [i1l]; exact Nat.mod_lt _ (by unfold B32; omega)
  rcases (show i = 0 ∨ i = 1 by omega) with rfl | rfl
  · simp only [Nat.mul_zero, Nat.pow_zero, Nat.mul_one]
    rw [show min (32 * ((0 : Nat) : Int)).toNat IntKind.u64.bits = 0 from rfl, Int.pow_zero, Int.mul_one]
    exact IntWalk.u64_in _ (by omega)
  · rw [show min (32 * ((1 : Nat) : Int)).toNat IntKind.u64.bits = 32 from rfl, Nat.mul_one]
    rw [IntWalk.u64_in _ (by omega)]
    simp
 have HU : ∀ X : Int, 0 ≤ X → X < 9223372036854775808 → IntKind.i64.wrap X = X := fun X h1 h2 => iwo
 have hM : q0c v neg = if v < 9223372036854775808 then (if neg = true then -(v : Int) else v, true) else (-9223372036854775808, neg && decide (v = 9223372036854775808)) := rfl
 have hdg : ∀ i, dg (dig B32 v) i < 4294967296 := fun i => by rw [i1l]; exact Nat.mod_lt _ (by unfold B32; omega)
 generalize blen v = bl at *
 have I := Inv.start w [rdF .u32 p (dig B32 v)] ⟨hp, True.intro⟩
 refine a0f [.v (.slice p (dig B32 v).length c), .v (.bool neg)] I Tryz.func73 ?_
 refine w0k I (fun gk fr bx gs => ∃ (U900 : Nat → Value) (i : Nat) (u : Nat), fr = (.v (.slice p (dig B32 v).length c) :: .v (.bool neg) :: su 2 (.v (.int .i64 0) :: .v (.bool false) :: .v (.int .u64 (u : Int)) :: sw U900 7 2 (.v (.slice p (dig B32 v).length c) :: .v (.int .i64 (((dig B32 v).length : Nat) : Int)) :: .v (.int .i64 (i : Int)) :: sw U900 12 12 (.v undef :: sw U900 25 9 (.v undef :: sw U900 35 10 [])))) : List SV) ∧ bx = [] ∧ gs = [rdF .u32 p (dig B32 v)] ∧ (u = v % B32 ^ i) ∧ (gk + i = (dig B32 v).length)) ((dig B32 v).length) (fun Al W U I => ⟨_, ⟨U, 0, 0, rfl, rfl, rfl, (by rw [Nat.pow_zero, Nat.mod_one]), (by omega)⟩, I.pick [0]⟩) ?_
 rintro J gk0 _ _ _ ⟨U900, i, u, rfl, rfl, rfl, hu, hgk⟩ hJ Al W I
 rcases Bool.eq_false_or_eq_true (decide ((i : Int) < (((dig B32 v).length : Nat) : Int))) with f12 | f12
 · refine zb I 12 (decide ((i : Int) < (((dig B32 v).length : Nat) : Int))) (true) (f12) fun Al W I => ?_
   refine zx I 14 (fun _ => .pointer (some (at_ p i))) (fun Al W I => (h0a (m := i) (n := (dig B32 v).length) (c := c) k1h I.fa.1.solid (by have := oTr f12; omega))) fun Al W I => ?_
   refine zx I 15 (fun _ => .int .u32 ((dg (dig B32 v) i : Nat) : Int)) (fun Al W I => (a1u I.fa.1 k1i (by have := oTr f12; omega))) fun Al W I => ?_
   refine zi I 18 .u64 ((dg (dig B32 v) i : Nat) : Int) (((dg (dig B32 v) i : Nat) : Int)) ((by exact IntWalk.u64_in _ (by have := hdg i; omega))) fun Al W I => ?_
   refine zi I 20 .i64 ((32 : Int) * (i : Int)) ((32 : Int) * (i : Int)) (iwo) fun Al W I => ?_
   refine zbin I 21 _ (fun _ _ _ _ _ => c0i .u64 (((dg (dig B32 v) i : Nat) : Int)) .i64 ((32 : Int) * (i : Int)) (((dg (dig B32 v) i * 2 ^ (32 * i) : Nat) : Int)) (by omega) ((hsh i (by have := oTr f12; omega)))) fun Al W I => ?_
   refine zbin I 22 _ (fun _ _ _ _ _ => f1m .u64 (u : Int) (((dg (dig B32 v) i * 2 ^ (32 * i) : Nat) : Int)) (((v % B32 ^ (i + 1) : Nat) : Int)) ((by rw [hu]; exact hstep i (by have := oTr f12; omega)))) fun Al W I => ?_
   refine zi I 23 .i64 ((i : Int) + 1) ((i : Int) + 1) (iwo) fun Al W I => ?_
   exact b0d I J fun Al W U I => hJ (gk0 - 1) _ _ _ _ _ ((by have := oTr f12; omega)) ⟨U, i + 1, v % B32 ^ (i + 1), rfl, rfl, rfl, rfl, (by have := oTr f12; omega)⟩ (I.pick [0])
 refine zb I 12 (decide ((i : Int) < (((dig B32 v).length : Nat) : Int))) (false) (f12) fun Al W I => ?_
 by_cases hs : v < 9223372036854775808
 · by_cases ng : neg = true
   · have hi : i = (dig B32 v).length := by have := oFa f12; omega
     rw [hi, hfull] at hu
     refine zq I (fun Al W I => (HL W I.fa.1).out) fun Al W I => ?_
     refine zb I 27 (decide ((bl : Int) < 64)) (true) (dTr (by omega)) fun Al W I => ?_
     refine zb I 29 (neg) (true) (ng) fun Al W I => ?_
     refine zi I 32 .i64 (u : Int) (u : Int) (iwo) fun Al W I => ?_
     refine zi I 33 .i64 (0 - (u : Int)) (-(u : Int)) ((iwo).trans (by omega)) fun Al W I => ?_
     exact zret I (v := fun Al => .tuple #[.int .i64 (-(u : Int)), .bool true]) fun Al W I => ⟨by rw [hM, if_pos hs, if_pos ng, hu], I.below⟩
   have hi : i = (dig B32 v).length := by have := oFa f12; omega
   rw [hi, hfull] at hu
   refine zq I (fun Al W I => (HL W I.fa.1).out) fun Al W I => ?_
   refine zb I 27 (decide ((bl : Int) < 64)) (true) (dTr (by omega)) fun Al W I => ?_
   refine zb I 29 (neg) (false) ((by simpa using ng)) fun Al W I => ?_
   refine zq I (fun Al W I => (HL W I.fa.1).out) fun Al W I => ?_
   refine zb I 37 (decide ((bl : Int) < 64)) (true) (dTr (by omega)) fun Al W I => ?_
   refine zi I 39 .i64 (u : Int) (u : Int) (iwo) fun Al W I => ?_
   exact zret I (v := fun Al => .tuple #[.int .i64 (u : Int), .bool true]) fun Al W I => ⟨by rw [hM, if_pos hs, if_neg ng, hu], I.below⟩
 by_cases ng : neg = true
 · have hi : i = (dig B32 v).length := by have := oFa f12; omega
   rw [hi, hfull] at hu
   refine zq I (fun Al W I => (HL W I.fa.1).out) fun Al W I => ?_
   refine zb I 27 (decide ((bl : Int) < 64)) (false) (dFa (by omega)) fun Al W I => ?_
   refine zq I (fun Al W I => (HL W I.fa.1).out) fun Al W I => ?_
   refine zb I 37 (decide ((bl : Int) < 64)) (false) (dFa (by omega)) fun Al W I => ?_
   refine zb I 41 (neg) (true) (ng) fun Al W I => ?_
   exact zret I (v := fun Al => .tuple #[.int .i64 (-9223372036854775808), .bool ((u : Int) == 9223372036854775808)]) fun Al W I => ⟨by rw [hM, if_neg hs, ng, Bool.true_and, hu]; exact congrArg (fun b => Ending.returned (.tuple #[.int .i64 (-9223372036854775808), .bool b])) (Bool.eq_iff_iff.2 (by simp; omega)), I.below⟩
 have hi : i = (dig B32 v).length := by have := oFa f12; omega
 rw [hi, hfull] at hu
 refine zq I (fun Al W I => (HL W I.fa.1).out) fun Al W I => ?_
 refine zb I 27 (decide ((bl : Int) < 64)) (false) (dFa (by omega)) fun Al W I => ?_
 refine zq I (fun Al W I => (HL W I.fa.1).out) fun Al W I => ?_
 refine zb I 37 (decide ((bl : Int) < 64)) (false) (dFa (by omega)) fun Al W I => ?_
 refine zb I 41 (neg) (false) ((by simpa using ng)) fun Al W I => ?_
 exact zret I (v := fun Al => .tuple #[.int .i64 (-9223372036854775808), .bool false]) fun Al W I => ⟨by rw [hM, if_neg hs, show neg = false by simpa using ng]; rfl, I.below⟩
def c0n : Gd := ⟨2, 64, 0, 0, true⟩
theorem s0b : h0v c0n := ⟨.inl rfl, by decide, by decide, by decide, by decide, by decide, by decide, by decide⟩
def j0k (x : Dv) (way : Int) : Int × Nat :=
 if (q0c (a0m x.neg x.m 1 x.e c0n way).d (a0m x.neg x.m 1 x.e c0n way).neg).2 = true ∧ (a0m x.neg x.m 1 x.e c0n way).over = false then
  ((q0c (a0m x.neg x.m 1 x.e c0n way).d (a0m x.neg x.m 1 x.e c0n way).neg).1, if (a0m x.neg x.m 1 x.e c0n way).exact = true then 0 else 1) else (0, 16)
def m0r (r : Vr) (way : Int) : Int × Nat := if r.cls = 1 then (0, 0) else if r.cls ≠ 2 then (0, 16) else j0k r.x way
def s0c (n way : Int) (s : ByteArray) (w : World) (en : Ending) (w' : World) : Prop :=
 en = .returned (.tuple #[.int .i64 (if errR n way [s] = 0 then (m0r (refD n s) way).1 else 0), .int .i64 (if errR n way [s] = 0 then ((m0r (refD n s) way).2 : Int) else 0), .int .i64 (errR n way [s])]) ∧ Below w.heap.size w w'
theorem m0s (n way : Int) (s : ByteArray) (w : World) (hT : TabW w) : Calls Tryz.prog 20 #[.int .i64 n, .string s, .int .i64 way] w (s0c n way s w) := by
 unfold s0c
 have HD := fun W h => hi0 (w0v n s W h)
 by_cases hp : a0z n s = 0
 · have hn := (d0a.1 hp).1
   have hL : errL n [s] = 0 := by unfold errL errL; simp [hp]
   rw [hp] at HD
   by_cases hw : 1 ≤ way ∧ way ≤ 5
   · have h0 : errR n way [s] = 0 := by unfold errR; rw [if_pos hn, if_pos hL, if_pos hw]
     simp only [h0, if_true]
     have HO := fun W => hi0 (b1o n way W hn hw)
     have F := b1q (s := s) hn
     have V := e1p hp
     have HX := fun W p c b h1 h2 => hi0 (e1r n (decP n s) (refD n s) p c b W hn h1 V F.ok h2)
     have hcl := V.cls
     have hc := F.ok.c
     have hx2 := F.ok.x2
     have sm := F.ok.sm
     have hT0 : m0r (refD n s) way = if (refD n s).cls = 1 then (0, 0) else if (refD n s).cls ≠ 2 then (0, 16) else j0k (refD n s).x way := rfl
     generalize m0r (refD n s) way = TT at *
     generalize decP n s = v at *
     generalize refD n s = r at *
     generalize fmt n = f at *
     have s1 := sm.len
     have s2 := sm.lo
     have s3 := sm.hi
     have d1 : (dig B32 1).length ≤ 1 := by rw [e0w a0a (by omega) (by unfold B32; omega)]; simp
     have HF := fun (h : r.cls = 2) W p q c d h1 h2 => hi0 (r0w r.x.neg p q c d r.x.m 1 r.x.e c0n way W h1 h2 (by omega) (by omega) (by have := (hx2 h).1; omega) (by omega) (by omega) s0b hw.1 hw.2)
     have hlt : r.cls = 2 → (a0m r.x.neg r.x.m 1 r.x.e c0n way).d < 18446744073709551616 := fun h => by
      have h0 := (hx2 h).1
      unfold a0m
      rw [if_neg h0]
      exact v0c (show 0 < 1 by omega) s0b (l0y (by omega) (by omega) _ (b0f _).1 (by decide))
     unfold j0k at hT0
     generalize a0m r.x.neg r.x.m 1 r.x.e c0n way = P at *
     have HMa := fun (h : r.cls = 2) W p c h1 => hi0 (u0a p c P.d P.neg W h1 (hlt h))
     obtain ⟨mi, mb, hm⟩ : ∃ mi mb, q0c P.d P.neg = (mi, mb) := ⟨_, _, rfl⟩
     rw [hm] at HMa hT0
     simp only at HMa hT0
     clear hm hlt F V sm
     have I := Inv.start w [tabF] ⟨hT, True.intro⟩
     refine a0f [.v (.int .i64 n), .v (.string s), .v (.int .i64 way)] I Tryz.func20 ?_
     refine zqo I (fun Al W I => (HD W I.fa.1).out) fun Al W p22 c22 I => ?_
     refine zg I (fun Al W I => (HO W).out) fun Al V Iv _ hB _ kz => ?_
     rintro _ W ⟨u31, rfl, hge, hB, hb⟩
     refine ⟨_, rfl, kz _ _ hb fun I => ?_⟩
     by_cases h1 : r.cls = 1
     · refine zb I 39 ((v.cls : Int) == 1) (true) (dTr (by omega)) fun Al W I => ?_
       refine zret I (v := fun Al => .tuple #[.int .i64 0, .int .i64 0, .int .i64 0]) fun Al W I => ?_
       first | exact ⟨by rw [hT0, if_pos h1]; rfl, I.below⟩ | exact ⟨by rw [hT0, if_neg h1, if_pos h2]; rfl, I.below⟩ | exact ⟨by rw [hT0, if_neg h1, if_neg (by omega), if_neg (fun h => hmb h.1)]; rfl, I.below⟩ | exact ⟨by rw [hT0, if_neg h1, if_neg (by omega), if_neg (fun h => absurd (h.2.symm.trans hov) (by decide))]; rfl, I.below⟩ | exact ⟨by rw [hT0, if_neg h1, if_neg (by omega), if_pos ⟨hmb, by simpa using hov⟩, if_pos hex]; rfl, I.below⟩ | exact ⟨by rw [hT0, if_neg h1, if_neg (by omega), if_pos ⟨hmb, by simpa using hov⟩, if_neg hex]; rfl, I.below⟩
     refine zb I 39 ((v.cls : Int) == 1) (false) (dFa (by omega)) fun Al W I => ?_
     by_cases h2 : r.cls = 2
     · refine zb I 42 ((v.cls : Int) != 2) (false) (bne_eq_false_iff_eq.2 (by omega)) fun Al W I => ?_
       refine zqo I (fun Al W I => (HX W p22 c22 _ I.fa.1 I.fa.2.1).out) fun Al W p45 c45 I => ?_
       refine zd [] I fun Al W I => ?_
       refine zk [0, 1, 2, 3, 4, 5, 7, 8, 9, 11, 12] I fun I => ?_
       refine zo2 6 14 I (fun I => ?_) (fun I => ?_)
       · refine zqo I (fun Al W I => p0l W) fun Al W p53 c53 I => ?_
         refine zk [10] I fun I => ?_
         refine zo2 13 14 I (fun I => ?_) (fun I => ?_)
         · refine zqo I (fun Al W I => (HF h2 W p45 p53 c45 c53 I.fa.2.1.rd I.fa.1.rd).out) fun Al W p60 c60 I => ?_
           refine zo 14 I fun I => ?_
           refine zn I fun Al W I => ?_
           refine zo 15 I fun I => ?_
           refine zn I fun Al W I => ?_
           refine zq I (fun Al W I => (HMa h2 W p60 c60 I.fa.1.rd).out) fun Al W I => ?_
           by_cases hmb : mb = true
           · by_cases hov : P.over = true
             · refine zb I 70 (mb) (true) (hmb) fun Al W I => ?_
               refine zb I 72 (P.over) (true) (hov) fun Al W I => ?_
               refine zret I (v := fun Al => .tuple #[.int .i64 0, .int .i64 16, .int .i64 0]) fun Al W I => ?_
               first | exact ⟨by rw [hT0, if_pos h1]; rfl, I.below⟩ | exact ⟨by rw [hT0, if_neg h1, if_pos h2]; rfl, I.below⟩ | exact ⟨by rw [hT0, if_neg h1, if_neg (by omega), if_neg (fun h => hmb h.1)]; rfl, I.below⟩ | exact ⟨by rw [hT0, if_neg h1, if_neg (by omega), if_neg (fun h => absurd (h.2.symm.trans hov) (by decide))]; rfl, I.below⟩ | exact ⟨by rw [hT0, if_neg h1, if_neg (by omega), if_pos ⟨hmb, by simpa using hov⟩, if_pos hex]; rfl, I.below⟩ | exact ⟨by rw [hT0, if_neg h1, if_neg (by omega), if_pos ⟨hmb, by simpa using hov⟩, if_neg hex]; rfl, I.below⟩
             refine zb I 70 (mb) (true) (hmb) fun Al W I => ?_
             refine zb I 72 (P.over) (false) ((by simpa using hov)) fun Al W I => ?_
             by_cases hex : P.exact = true
             · refine zb I 76 (P.exact) (true) (hex) fun Al W I => ?_
               refine zret I (v := fun Al => .tuple #[.int .i64 mi, .int .i64 0, .int .i64 0]) fun Al W I => ?_
               first | exact ⟨by rw [hT0, if_pos h1]; rfl, I.below⟩ | exact ⟨by rw [hT0, if_neg h1, if_pos h2]; rfl, I.below⟩ | exact ⟨by rw [hT0, if_neg h1, if_neg (by omega), if_neg (fun h => hmb h.1)]; rfl, I.below⟩ | exact ⟨by rw [hT0, if_neg h1, if_neg (by omega), if_neg (fun h => absurd (h.2.symm.trans hov) (by decide))]; rfl, I.below⟩ | exact ⟨by rw [hT0, if_neg h1, if_neg (by omega), if_pos ⟨hmb, by simpa using hov⟩, if_pos hex]; rfl, I.below⟩ | exact ⟨by rw [hT0, if_neg h1, if_neg (by omega), if_pos ⟨hmb, by simpa using hov⟩, if_neg hex]; rfl, I.below⟩
             refine zb I 76 (P.exact) (false) ((by simpa using hex)) fun Al W I => ?_
             refine zret I (v := fun Al => .tuple #[.int .i64 mi, .int .i64 1, .int .i64 0]) fun Al W I => ?_
             first | exact ⟨by rw [hT0, if_pos h1]; rfl, I.below⟩ | exact ⟨by rw [hT0, if_neg h1, if_pos h2]; rfl, I.below⟩ | exact ⟨by rw [hT0, if_neg h1, if_neg (by omega), if_neg (fun h => hmb h.1)]; rfl, I.below⟩ | exact ⟨by rw [hT0, if_neg h1, if_neg (by omega), if_neg (fun h => absurd (h.2.symm.trans hov) (by decide))]; rfl, I.below⟩ | exact ⟨by rw [hT0, if_neg h1, if_neg (by omega), if_pos ⟨hmb, by simpa using hov⟩, if_pos hex]; rfl, I.below⟩ | exact ⟨by rw [hT0, if_neg h1, if_neg (by omega), if_pos ⟨hmb, by simpa using hov⟩, if_neg hex]; rfl, I.below⟩
           by_cases hov : P.over = true
           · refine zb I 70 (mb) (false) ((by simpa using hmb)) fun Al W I => ?_
             refine zret I (v := fun Al => .tuple #[.int .i64 0, .int .i64 16, .int .i64 0]) fun Al W I => ?_
             first | exact ⟨by rw [hT0, if_pos h1]; rfl, I.below⟩ | exact ⟨by rw [hT0, if_neg h1, if_pos h2]; rfl, I.below⟩ | exact ⟨by rw [hT0, if_neg h1, if_neg (by omega), if_neg (fun h => hmb h.1)]; rfl, I.below⟩ | exact ⟨by rw [hT0, if_neg h1, if_neg (by omega), if_neg (fun h => absurd (h.2.symm.trans hov) (by decide))]; rfl, I.below⟩ | exact ⟨by rw [hT0, if_neg h1, if_neg (by omega), if_pos ⟨hmb, by simpa using hov⟩, if_pos hex]; rfl, I.below⟩ | exact ⟨by rw [hT0, if_neg h1, if_neg (by omega), if_pos ⟨hmb, by simpa using hov⟩, if_neg hex]; rfl, I.below⟩
           refine zb I 70 (mb) (false) ((by simpa using hmb)) fun Al W I => ?_
           refine zret I (v := fun Al => .tuple #[.int .i64 0, .int .i64 16, .int .i64 0]) fun Al W I => ?_
           first | exact ⟨by rw [hT0, if_pos h1]; rfl, I.below⟩ | exact ⟨by rw [hT0, if_neg h1, if_pos h2]; rfl, I.below⟩ | exact ⟨by rw [hT0, if_neg h1, if_neg (by omega), if_neg (fun h => hmb h.1)]; rfl, I.below⟩ | exact ⟨by rw [hT0, if_neg h1, if_neg (by omega), if_neg (fun h => absurd (h.2.symm.trans hov) (by decide))]; rfl, I.below⟩ | exact ⟨by rw [hT0, if_neg h1, if_neg (by omega), if_pos ⟨hmb, by simpa using hov⟩, if_pos hex]; rfl, I.below⟩ | exact ⟨by rw [hT0, if_neg h1, if_neg (by omega), if_pos ⟨hmb, by simpa using hov⟩, if_neg hex]; rfl, I.below⟩
         refine zn I fun Al W I => ?_
         refine zo 13 I fun I => ?_
         refine zqo I (fun Al W I => (HF h2 W p45 p53 c45 c53 I.fa.2.1.rd I.fa.1.rd).out) fun Al W p60 c60 I => ?_
         refine zo 15 I fun I => ?_
         refine zn I fun Al W I => ?_
         refine zq I (fun Al W I => (HMa h2 W p60 c60 I.fa.1.rd).out) fun Al W I => ?_
         by_cases hmb : mb = true
         · by_cases hov : P.over = true
           · refine zb I 70 (mb) (true) (hmb) fun Al W I => ?_
             refine zb I 72 (P.over) (true) (hov) fun Al W I => ?_
             refine zret I (v := fun Al => .tuple #[.int .i64 0, .int .i64 16, .int .i64 0]) fun Al W I => ?_
             first | exact ⟨by rw [hT0, if_pos h1]; rfl, I.below⟩ | exact ⟨by rw [hT0, if_neg h1, if_pos h2]; rfl, I.below⟩ | exact ⟨by rw [hT0, if_neg h1, if_neg (by omega), if_neg (fun h => hmb h.1)]; rfl, I.below⟩ | exact ⟨by rw [hT0, if_neg h1, if_neg (by omega), if_neg (fun h => absurd (h.2.symm.trans hov) (by decide))]; rfl, I.below⟩ | exact ⟨by rw [hT0, if_neg h1, if_neg (by omega), if_pos ⟨hmb, by simpa using hov⟩, if_pos hex]; rfl, I.below⟩ | exact ⟨by rw [hT0, if_neg h1, if_neg (by omega), if_pos ⟨hmb, by simpa using hov⟩, if_neg hex]; rfl, I.below⟩
           refine zb I 70 (mb) (true) (hmb) fun Al W I => ?_
           refine zb I 72 (P.over) (false) ((by simpa using hov)) fun Al W I => ?_
           by_cases hex : P.exact = true
           · refine zb I 76 (P.exact) (true) (hex) fun Al W I => ?_
             refine zret I (v := fun Al => .tuple #[.int .i64 mi, .int .i64 0, .int .i64 0]) fun Al W I => ?_
             first | exact ⟨by rw [hT0, if_pos h1]; rfl, I.below⟩ | exact ⟨by rw [hT0, if_neg h1, if_pos h2]; rfl, I.below⟩ | exact ⟨by rw [hT0, if_neg h1, if_neg (by omega), if_neg (fun h => hmb h.1)]; rfl, I.below⟩ | exact ⟨by rw [hT0, if_neg h1, if_neg (by omega), if_neg (fun h => absurd (h.2.symm.trans hov) (by decide))]; rfl, I.below⟩ | exact ⟨by rw [hT0, if_neg h1, if_neg (by omega), if_pos ⟨hmb, by simpa using hov⟩, if_pos hex]; rfl, I.below⟩ | exact ⟨by rw [hT0, if_neg h1, if_neg (by omega), if_pos ⟨hmb, by simpa using hov⟩, if_neg hex]; rfl, I.below⟩
           refine zb I 76 (P.exact) (false) ((by simpa using hex)) fun Al W I => ?_
           refine zret I (v := fun Al => .tuple #[.int .i64 mi, .int .i64 1, .int .i64 0]) fun Al W I => ?_
           first | exact ⟨by rw [hT0, if_pos h1]; rfl, I.below⟩ | exact ⟨by rw [hT0, if_neg h1, if_pos h2]; rfl, I.below⟩ | exact ⟨by rw [hT0, if_neg h1, if_neg (by omega), if_neg (fun h => hmb h.1)]; rfl, I.below⟩ | exact ⟨by rw [hT0, if_neg h1, if_neg (by omega), if_neg (fun h => absurd (h.2.symm.trans hov) (by decide))]; rfl, I.below⟩ | exact ⟨by rw [hT0, if_neg h1, if_neg (by omega), if_pos ⟨hmb, by simpa using hov⟩, if_pos hex]; rfl, I.below⟩ | exact ⟨by rw [hT0, if_neg h1, if_neg (by omega), if_pos ⟨hmb, by simpa using hov⟩, if_neg hex]; rfl, I.below⟩
         by_cases hov : P.over = true
         · refine zb I 70 (mb) (false) ((by simpa using hmb)) fun Al W I => ?_
           refine zret I (v := fun Al => .tuple #[.int .i64 0, .int .i64 16, .int .i64 0]) fun Al W I => ?_
           first | exact ⟨by rw [hT0, if_pos h1]; rfl, I.below⟩ | exact ⟨by rw [hT0, if_neg h1, if_pos h2]; rfl, I.below⟩ | exact ⟨by rw [hT0, if_neg h1, if_neg (by omega), if_neg (fun h => hmb h.1)]; rfl, I.below⟩ | exact ⟨by rw [hT0, if_neg h1, if_neg (by omega), if_neg (fun h => absurd (h.2.symm.trans hov) (by decide))]; rfl, I.below⟩ | exact ⟨by rw [hT0, if_neg h1, if_neg (by omega), if_pos ⟨hmb, by simpa using hov⟩, if_pos hex]; rfl, I.below⟩ | exact ⟨by rw [hT0, if_neg h1, if_neg (by omega), if_pos ⟨hmb, by simpa using hov⟩, if_neg hex]; rfl, I.below⟩
         refine zb I 70 (mb) (false) ((by simpa using hmb)) fun Al W I => ?_
         refine zret I (v := fun Al => .tuple #[.int .i64 0, .int .i64 16, .int .i64 0]) fun Al W I => ?_
         first | exact ⟨by rw [hT0, if_pos h1]; rfl, I.below⟩ | exact ⟨by rw [hT0, if_neg h1, if_pos h2]; rfl, I.below⟩ | exact ⟨by rw [hT0, if_neg h1, if_neg (by omega), if_neg (fun h => hmb h.1)]; rfl, I.below⟩ | exact ⟨by rw [hT0, if_neg h1, if_neg (by omega), if_neg (fun h => absurd (h.2.symm.trans hov) (by decide))]; rfl, I.below⟩ | exact ⟨by rw [hT0, if_neg h1, if_neg (by omega), if_pos ⟨hmb, by simpa using hov⟩, if_pos hex]; rfl, I.below⟩ | exact ⟨by rw [hT0, if_neg h1, if_neg (by omega), if_pos ⟨hmb, by simpa using hov⟩, if_neg hex]; rfl, I.below⟩
       refine zn I fun Al W I => ?_
       refine zo 6 I fun I => ?_
       refine zqo I (fun Al W I => p0l W) fun Al W p53 c53 I => ?_
       refine zk [10] I fun I => ?_
       refine zo 13 I fun I => ?_
       refine zqo I (fun Al W I => (HF h2 W p45 p53 c45 c53 I.fa.2.1.rd I.fa.1.rd).out) fun Al W p60 c60 I => ?_
       refine zo 15 I fun I => ?_
       refine zn I fun Al W I => ?_
       refine zq I (fun Al W I => (HMa h2 W p60 c60 I.fa.1.rd).out) fun Al W I => ?_
       by_cases hmb : mb = true
       · by_cases hov : P.over = true
         · refine zb I 70 (mb) (true) (hmb) fun Al W I => ?_
           refine zb I 72 (P.over) (true) (hov) fun Al W I => ?_
           refine zret I (v := fun Al => .tuple #[.int .i64 0, .int .i64 16, .int .i64 0]) fun Al W I => ?_
           first | exact ⟨by rw [hT0, if_pos h1]; rfl, I.below⟩ | exact ⟨by rw [hT0, if_neg h1, if_pos h2]; rfl, I.below⟩ | exact ⟨by rw [hT0, if_neg h1, if_neg (by omega), if_neg (fun h => hmb h.1)]; rfl, I.below⟩ | exact ⟨by rw [hT0, if_neg h1, if_neg (by omega), if_neg (fun h => absurd (h.2.symm.trans hov) (by decide))]; rfl, I.below⟩ | exact ⟨by rw [hT0, if_neg h1, if_neg (by omega), if_pos ⟨hmb, by simpa using hov⟩, if_pos hex]; rfl, I.below⟩ | exact ⟨by rw [hT0, if_neg h1, if_neg (by omega), if_pos ⟨hmb, by simpa using hov⟩, if_neg hex]; rfl, I.below⟩
         refine zb I 70 (mb) (true) (hmb) fun Al W I => ?_
         refine zb I 72 (P.over) (false) ((by simpa using hov)) fun Al W I => ?_
         by_cases hex : P.exact = true
         · refine zb I 76 (P.exact) (true) (hex) fun Al W I => ?_
           refine zret I (v := fun Al => .tuple #[.int .i64 mi, .int .i64 0, .int .i64 0]) fun Al W I => ?_
           first | exact ⟨by rw [hT0, if_pos h1]; rfl, I.below⟩ | exact ⟨by rw [hT0, if_neg h1, if_pos h2]; rfl, I.below⟩ | exact ⟨by rw [hT0, if_neg h1, if_neg (by omega), if_neg (fun h => hmb h.1)]; rfl, I.below⟩ | exact ⟨by rw [hT0, if_neg h1, if_neg (by omega), if_neg (fun h => absurd (h.2.symm.trans hov) (by decide))]; rfl, I.below⟩ | exact ⟨by rw [hT0, if_neg h1, if_neg (by omega), if_pos ⟨hmb, by simpa using hov⟩, if_pos hex]; rfl, I.below⟩ | exact ⟨by rw [hT0, if_neg h1, if_neg (by omega), if_pos ⟨hmb, by simpa using hov⟩, if_neg hex]; rfl, I.below⟩
         refine zb I 76 (P.exact) (false) ((by simpa using hex)) fun Al W I => ?_
         refine zret I (v := fun Al => .tuple #[.int .i64 mi, .int .i64 1, .int .i64 0]) fun Al W I => ?_
         first | exact ⟨by rw [hT0, if_pos h1]; rfl, I.below⟩ | exact ⟨by rw [hT0, if_neg h1, if_pos h2]; rfl, I.below⟩ | exact ⟨by rw [hT0, if_neg h1, if_neg (by omega), if_neg (fun h => hmb h.1)]; rfl, I.below⟩ | exact ⟨by rw [hT0, if_neg h1, if_neg (by omega), if_neg (fun h => absurd (h.2.symm.trans hov) (by decide))]; rfl, I.below⟩ | exact ⟨by rw [hT0, if_neg h1, if_neg (by omega), if_pos ⟨hmb, by simpa using hov⟩, if_pos hex]; rfl, I.below⟩ | exact ⟨by rw [hT0, if_neg h1, if_neg (by omega), if_pos ⟨hmb, by simpa using hov⟩, if_neg hex]; rfl, I.below⟩
       by_cases hov : P.over = true
       · refine zb I 70 (mb) (false) ((by simpa using hmb)) fun Al W I => ?_
         refine zret I (v := fun Al => .tuple #[.int .i64 0, .int .i64 16, .int .i64 0]) fun Al W I => ?_
         first | exact ⟨by rw [hT0, if_pos h1]; rfl, I.below⟩ | exact ⟨by rw [hT0, if_neg h1, if_pos h2]; rfl, I.below⟩ | exact ⟨by rw [hT0, if_neg h1, if_neg (by omega), if_neg (fun h => hmb h.1)]; rfl, I.below⟩ | exact ⟨by rw [hT0, if_neg h1, if_neg (by omega), if_neg (fun h => absurd (h.2.symm.trans hov) (by decide))]; rfl, I.below⟩ | exact ⟨by rw [hT0, if_neg h1, if_neg (by omega), if_pos ⟨hmb, by simpa using hov⟩, if_pos hex]; rfl, I.below⟩ | exact ⟨by rw [hT0, if_neg h1, if_neg (by omega), if_pos ⟨hmb, by simpa using hov⟩, if_neg hex]; rfl, I.below⟩
       refine zb I 70 (mb) (false) ((by simpa using hmb)) fun Al W I => ?_
       refine zret I (v := fun Al => .tuple #[.int .i64 0, .int .i64 16, .int .i64 0]) fun Al W I => ?_
       first | exact ⟨by rw [hT0, if_pos h1]; rfl, I.below⟩ | exact ⟨by rw [hT0, if_neg h1, if_pos h2]; rfl, I.below⟩ | exact ⟨by rw [hT0, if_neg h1, if_neg (by omega), if_neg (fun h => hmb h.1)]; rfl, I.below⟩ | exact ⟨by rw [hT0, if_neg h1, if_neg (by omega), if_neg (fun h => absurd (h.2.symm.trans hov) (by decide))]; rfl, I.below⟩ | exact ⟨by rw [hT0, if_neg h1, if_neg (by omega), if_pos ⟨hmb, by simpa using hov⟩, if_pos hex]; rfl, I.below⟩ | exact ⟨by rw [hT0, if_neg h1, if_neg (by omega), if_pos ⟨hmb, by simpa using hov⟩, if_neg hex]; rfl, I.below⟩
     refine zb I 42 ((v.cls : Int) != 2) (true) (bne_iff_ne.2 (by omega)) fun Al W I => ?_
     refine zret I (v := fun Al => .tuple #[.int .i64 0, .int .i64 16, .int .i64 0]) fun Al W I => ?_
     first | exact ⟨by rw [hT0, if_pos h1]; rfl, I.below⟩ | exact ⟨by rw [hT0, if_neg h1, if_pos h2]; rfl, I.below⟩ | exact ⟨by rw [hT0, if_neg h1, if_neg (by omega), if_neg (fun h => hmb h.1)]; rfl, I.below⟩ | exact ⟨by rw [hT0, if_neg h1, if_neg (by omega), if_neg (fun h => absurd (h.2.symm.trans hov) (by decide))]; rfl, I.below⟩ | exact ⟨by rw [hT0, if_neg h1, if_neg (by omega), if_pos ⟨hmb, by simpa using hov⟩, if_pos hex]; rfl, I.below⟩ | exact ⟨by rw [hT0, if_neg h1, if_neg (by omega), if_pos ⟨hmb, by simpa using hov⟩, if_neg hex]; rfl, I.below⟩
   · have h0 : errR n way [s] = 6 := by unfold errR; rw [if_pos hn, if_pos hL, if_neg hw]
     simp only [h0, show ((6 : Int) = 0) = False by simp, if_false]
     have HO := fun W => hi0 (v0o n way W (fun h => hw h.2))
     generalize decP n s = v at *
     have I := Inv.start w [tabF] ⟨hT, True.intro⟩
     refine a0f [.v (.int .i64 n), .v (.string s), .v (.int .i64 way)] I Tryz.func20 ?_
     refine zqo I (fun Al W I => (HD W I.fa.1).out) fun Al W p22 c22 I => ?_
     refine zq I (fun Al W I => (HO W).out) fun Al W I => ?_
     exact zrb I
 · have h0 : errR n way [s] = a0z n s := by
    unfold errR
    by_cases hn : IsFm n
    · have : errL n [s] = a0z n s := by unfold errL errL; simp [hp]
      rw [if_pos hn, this, if_neg hp]
    · rw [if_neg hn]
      unfold a0z
      rw [if_neg hn]
   simp only [h0, if_neg hp]
   generalize decP n s = v at *
   generalize a0z n s = ep at *
   have I := Inv.start w [tabF] ⟨hT, True.intro⟩
   refine a0f [.v (.int .i64 n), .v (.string s), .v (.int .i64 way)] I Tryz.func20 ?_
   refine zqo I (fun Al W I => (HD W I.fa.1).out) fun Al W p22 c22 I => ?_
   refine zb I 26 (ep != 0) (true) (bne_iff_ne.2 hp) fun Al W I => ?_
   exact zrb I
theorem j0l (w : World) (hT : TabW w) : Calls Tryz.prog 19 #[] w fun en w' => en = .returned (.bool true) ∧ Below w.heap.size w w' := by
 have R3 : ResF (fmt 4) ((fmt 4).numM (intD 3) 1).1 := f1y (e0k (by decide)) _ _
 obtain ⟨q1, q2⟩ := e1q (n := 4) (by decide) R3
 have hA : ((fmt 4).numM (intD 3) 1).2 = 0 ∧ m0r ((fmt 4).numM (intD 3) 1).1 1 = (3, 0) := by decide +kernel
 have h0 : errR 4 1 [] = 0 := by decide
 have h1 : errR 4 1 [strR 4 ((fmt 4).numM (intD 3) 1).1] = 0 := by
  unfold errR
  have : errL 4 [strR 4 ((fmt 4).numM (intD 3) 1).1] = 0 := by unfold errL errL; simp [q1]
  rw [if_pos (by decide), if_pos this, if_pos (by decide)]
 have HF := fun W h => hi0 (i1i (t0z 3 4 1 W (by decide) h))
 have HI := fun W h => hi0 (m0s 4 1 (strR 4 ((fmt 4).numM (intD 3) 1).1) W h)
 unfold s0c at HI
 unfold outS outF at HF
 simp only [h0, h1, q2, hA.1, hA.2, if_true] at HF HI
 clear q1 q2 hA h0 h1 R3
 generalize strR 4 ((fmt 4).numM (intD 3) 1).1 = str at *
 have I := Inv.start w [tabF] ⟨hT, True.intro⟩
 refine a0f [] I Tryz.func19 ?_
 refine zq I (fun Al W I => (HF W I.fa.1).out) fun Al W I => ?_
 refine zq I (fun Al W I => (HI W I.fa.1).out) fun Al W I => ?_
 refine zb I 22 (((0 : Nat) : Int) == 0) (true) (rfl) fun Al W I => ?_
 refine zb I 34 (((0 : Nat) : Int) == 0) (true) (rfl) fun Al W I => ?_
 exact zrb I
def k0n : Gd := ⟨2, 17000, 0, 17000, true⟩
def lowB : Dv := ⟨true, 9223372036854775809, 0⟩
def topB : Dv := ⟨false, 9223372036854775808, 0⟩
theorem q_ge {m t : Nat} {n : Int} (hm : 0 < m) (h : (t : Int) ≤ blen m - 1 + n) : 2 ^ t ≤ qP m 1 n := by
 have hb := e0z m hm
 have h1 := (c0o m).2 hm
 unfold qP numP denP
 rw [Nat.one_mul]
 by_cases hn : 0 ≤ n
 · rw [show (-n).toNat = 0 by omega, Nat.pow_zero, Nat.div_one]
   refine Nat.le_trans ?_ (Nat.mul_le_mul_right _ hb)
   rw [← Nat.pow_add]
   exact Nat.pow_le_pow_right (by decide) (by omega)
 · rw [show n.toNat = 0 by omega, Nat.pow_zero, Nat.mul_one, Nat.le_div_iff_mul_le (Nat.two_pow_pos _), ← Nat.pow_add]
   exact Nat.le_trans (Nat.pow_le_pow_right (by decide) (by omega)) hb
theorem q_lt {m t : Nat} {n : Int} (h : (blen m : Int) + n ≤ t) : qP m 1 n < 2 ^ t := by
 unfold qP numP denP
 rw [Nat.one_mul]
 by_cases hn : 0 ≤ n
 · rw [show (-n).toNat = 0 by omega, Nat.pow_zero, Nat.div_one]
   refine Nat.lt_of_lt_of_le (Nat.mul_lt_mul_of_pos_right ((a0w m _).1 (Nat.le_refl _)) (Nat.two_pow_pos _)) ?_
   rw [← Nat.pow_add]
   exact Nat.pow_le_pow_right (by decide) (by omega)
 · rw [show n.toNat = 0 by omega, Nat.pow_zero, Nat.mul_one, Nat.div_lt_iff_lt_mul (Nat.two_pow_pos _), ← Nat.pow_add]
   exact (a0w m _).1 (by omega)
theorem e1s : blen 1 = 1 := by
 have h1 := (c0o 1).2 (by omega)
 have h2 := (a0w 1 1).2 (by decide)
 omega
theorem v0p {m D : Nat} {e : Int} (hm : 0 < m) (hD : 1 ≤ D) : theK m 1 e 1 D = blen m + e - D := by
 unfold theK
 rw [e1s, Int.natCast_one, Int.ediv_one, if_pos]
 · omega
 · unfold e0i
   rw [Nat.one_mul]
   exact q_ge hm (by omega)
theorem f1z (neg : Bool) (m : Nat) (e way k : Int) : qP m 1 (e - ((1 : Nat) : Int) * k) ≤ dUp neg m 1 e 1 way k ∧ dUp neg m 1 e 1 way k ≤ qP m 1 (e - ((1 : Nat) : Int) * k) + 1 := by
 unfold dUp; split <;> omega
theorem m0t {neg : Bool} {d p : Nat} :
 (rCmp lowB ⟨neg, d, (p : Nat)⟩ < 0 ↔ (neg = true → d * 2 ^ p ≤ 9223372036854775808)) ∧ (rCmp ⟨neg, d, (p : Nat)⟩ topB < 0 ↔ (neg = false → d * 2 ^ p < 9223372036854775808)) := by
 obtain ⟨z, hz⟩ : ∃ z : Nat, z = d * 2 ^ p := ⟨_, rfl⟩
 have e1 : zOf lowB 0 = -9223372036854775809 := by decide
 have e2 : zOf topB 0 = 9223372036854775808 := by decide
 have e3 : zOf ⟨neg, d, (p : Nat)⟩ 0 = if neg = true then -(z : Int) else (z : Int) := by
  unfold zOf sg
  simp only [Int.sub_zero, Int.toNat_natCast]
  rw [hz]
 rw [← hz, u0p lowB ⟨neg, d, (p : Nat)⟩ (e := 0) (by decide) (by simp only; omega), u0p ⟨neg, d, (p : Nat)⟩ topB (e := 0) (by simp only; omega) (by decide), e1, e2, e3, Int.sign_neg_iff, Int.sign_neg_iff]
 clear e1 e2 e3 hz
 cases neg
 · rw [if_neg (by decide)]
   exact ⟨⟨fun _ k => (by cases k), fun _ => by omega⟩, ⟨fun h _ => by omega, fun h => by have := h rfl; omega⟩⟩
 · rw [if_pos rfl]
   exact ⟨⟨fun h _ => by omega, fun h => by have := h rfl; omega⟩, ⟨fun _ k => (by cases k), fun _ => by omega⟩⟩
theorem v0q {d : Nat} (h : d ≤ 2 ^ 17000) : (dig B16 d).length ≤ 1100 := by
 obtain ⟨E, hE⟩ : ∃ E, E = 17000 := ⟨_, rfl⟩
 obtain ⟨L, hL⟩ : ∃ L, L = 1100 := ⟨_, rfl⟩
 rw [← hE] at h
 rw [← hL]
 refine (a0e a0b _ L).2 (Nat.lt_of_le_of_lt h ?_)
 rw [show B16 = 2 ^ 16 from rfl, ← Nat.pow_mul]
 exact Nat.pow_lt_pow_right (by decide) (by omega)
theorem k1y (g : Gd) (h : g.lo = 0) (h2 : g.grad = true) (K : Int) : powK g K = if K < 0 then 0 else K := by
 unfold powK
 rw [h, h2]
 by_cases k : K < 0
 · rw [if_pos ⟨k, rfl⟩, if_pos k]
 · rw [if_neg (fun q => k q.1), if_neg k]
theorem u0b {a b : Nat} (h : a ≤ b) : 2 ^ a ≤ 2 ^ b := Nat.pow_le_pow_right (by decide) h
theorem e1t {neg : Bool} {m D : Nat} {e way k : Int} (hD : 65 ≤ D) (hq : 2 ^ 64 ≤ qP m 1 (e - ((1 : Nat) : Int) * k)) (hq2 : qP m 1 (e - ((1 : Nat) : Int) * k) < 2 ^ D) : 2 ^ 64 ≤ digP neg m 1 e 1 D way k ∧ digP neg m 1 e 1 D way k ≤ 2 ^ D := by
 have hu := f1z neg m e way k
 unfold digP
 rw [Nat.one_mul]
 split
 · exact ⟨u0b (by omega), u0b (by omega)⟩
 · exact ⟨Nat.le_trans hq hu.1, by have := hu.2; omega⟩
structure k1z (x : Dv) (way : Int) (P : Pl) : Prop where
 neg : P.neg = x.neg
 len : (dig B16 P.d).length ≤ 1100
 pow : ∃ p : Nat, P.pow = (p : Nat) ∧ p ≤ 20001
 is : (P.pow = 0 ∧ (P.d < 9223372036854775808 ∨ (x.neg = true ∧ P.d = 9223372036854775808)) ∧ j0k x way = (if x.neg = true then -(P.d : Int) else P.d, if P.exact = true then 0 else 1)) ∨
  (¬ (rCmp lowB ⟨P.neg, P.d, P.pow⟩ < 0 ∧ rCmp ⟨P.neg, P.d, P.pow⟩ topB < 0) ∧ j0k x way = (0, 16))
theorem b1r {x : Dv} {way : Int} (h0 : x.m ≠ 0) (hT : (blen x.m : Int) + x.e ≤ 20000) : k1z x way (a0m x.neg x.m 1 x.e k0n way) := by
 have hm : 0 < x.m := by omega
 unfold a0m
 rw [if_neg h0]
 have hK1 : theK x.m 1 x.e (wid k0n) k0n.digs.toNat = blen x.m + x.e - (17000 : Nat) := v0p hm (by decide)
 have hK2 : theK x.m 1 x.e (wid c0n) c0n.digs.toNat = blen x.m + x.e - (64 : Nat) := v0p hm (by decide)
 have hW : j0k x way = if (q0c (fitK x.neg x.m 1 x.e c0n way (blen x.m + x.e - (64 : Nat))).d x.neg).2 = true ∧ (fitK x.neg x.m 1 x.e c0n way (blen x.m + x.e - (64 : Nat))).over = false then ((q0c (fitK x.neg x.m 1 x.e c0n way (blen x.m + x.e - (64 : Nat))).d x.neg).1, if (fitK x.neg x.m 1 x.e c0n way (blen x.m + x.e - (64 : Nat))).exact = true then 0 else 1) else (0, 16) := by
  unfold j0k a0m
  rw [if_neg h0, hK2]
  rfl
 rw [hK1]
 have E0 := k1y k0n rfl rfl (blen x.m + x.e - (17000 : Nat))
 have E1 := k1y c0n rfl rfl (blen x.m + x.e - (64 : Nat))
 have Q := fun k => f1z x.neg x.m x.e way k
 have hP : ∀ K, fitK x.neg x.m 1 x.e k0n way K = ⟨x.neg, digP x.neg x.m 1 x.e 1 17000 way (powK k0n K), if digP x.neg x.m 1 x.e 1 17000 way (powK k0n K) = 0 then 0 else powP x.neg x.m 1 x.e 1 17000 way (powK k0n K), decide (rP x.m 1 (x.e - ((1 : Nat) : Int) * powK k0n K) = 0), decide (17000 < powP x.neg x.m 1 x.e 1 17000 way (powK k0n K)), decide (K < 0)⟩ := fun K => rfl
 have hP2 : ∀ K, fitK x.neg x.m 1 x.e c0n way K = ⟨x.neg, digP x.neg x.m 1 x.e 1 64 way (powK c0n K), if digP x.neg x.m 1 x.e 1 64 way (powK c0n K) = 0 then 0 else powP x.neg x.m 1 x.e 1 64 way (powK c0n K), decide (rP x.m 1 (x.e - ((1 : Nat) : Int) * powK c0n K) = 0), decide (0 < powP x.neg x.m 1 x.e 1 64 way (powK c0n K)), decide (K < 0)⟩ := fun K => rfl
 rw [hP, E0]
 rw [hP2, E1] at hW
 simp only at hW
 obtain ⟨T, hTT⟩ : ∃ T : Int, T = blen x.m + x.e := ⟨_, rfl⟩
 rw [← hTT] at hW hT ⊢
 by_cases h64 : T ≤ 64
 · have k1 : (if T - (17000 : Nat) < 0 then 0 else T - (17000 : Nat)) = (0 : Int) := by rw [if_pos (by omega)]
   have k2 : (if T - (64 : Nat) < 0 then 0 else T - (64 : Nat)) = (0 : Int) := by split <;> omega
   rw [k1]
   rw [k2] at hW
   have hq : qP x.m 1 (x.e - ((1 : Nat) : Int) * 0) < 2 ^ 64 := q_lt (by omega)
   have hu := Q 0
   have hnl : ¬ g0m x.neg x.m 1 x.e 1 17000 way 0 := fun h => by
    have h2 := h.2
    have := (a0w (dUp x.neg x.m 1 x.e 1 way 0) 65).2 (by omega)
    omega
   have d1 : digP x.neg x.m 1 x.e 1 17000 way 0 = dUp x.neg x.m 1 x.e 1 way 0 := by unfold digP; rw [if_neg hnl]
   have p1 : powP x.neg x.m 1 x.e 1 17000 way 0 = 0 := by unfold powP; rw [if_neg hnl]
   rw [d1, p1, show (if dUp x.neg x.m 1 x.e 1 way 0 = 0 then (0 : Int) else 0) = 0 by split <;> rfl]
   have hd2 : digP x.neg x.m 1 x.e 1 64 way 0 = if g0m x.neg x.m 1 x.e 1 64 way 0 then 2 ^ (1 * (64 - 1)) else dUp x.neg x.m 1 x.e 1 way 0 := rfl
   have hp2 : powP x.neg x.m 1 x.e 1 64 way 0 = if g0m x.neg x.m 1 x.e 1 64 way 0 then 0 + 1 else 0 := rfl
   have hlg : g0m x.neg x.m 1 x.e 1 64 way 0 → 2 ^ 64 ≤ dUp x.neg x.m 1 x.e 1 way 0 := fun h => by
    have h2 := h.2
    rcases Nat.lt_or_ge (dUp x.neg x.m 1 x.e 1 way 0) (2 ^ 64) with q | q
    · have := (a0w _ 64).2 q; omega
    · exact q
   rw [hd2, hp2] at hW
   have hlen : (dig B16 (dUp x.neg x.m 1 x.e 1 way 0)).length ≤ 1100 := by
    have q1 : dUp x.neg x.m 1 x.e 1 way 0 ≤ 2 ^ 64 := by omega
    exact (v0q (Nat.le_trans q1 (@u0b 64 17000 (by decide))))
   generalize dUp x.neg x.m 1 x.e 1 way 0 = u at *
   obtain ⟨ex, hex⟩ : ∃ ex, ex = decide (rP x.m 1 (x.e - ((1 : Nat) : Int) * 0) = 0) := ⟨_, rfl⟩
   rw [← hex] at hW ⊢
   have hcm := m0t (neg := x.neg) (d := u) (p := 0)
   rw [Nat.pow_zero, Nat.mul_one] at hcm
   refine ⟨rfl, hlen, ⟨0, rfl, by omega⟩, ?_⟩
   simp only
   by_cases hl : g0m x.neg x.m 1 x.e 1 64 way 0
   · right
     rw [if_pos hl, if_pos hl] at hW
     refine ⟨fun h => ?_, by rw [hW, if_neg (fun h => by have := h.2; simp at this)]⟩
     have a1 := hcm.1.1 h.1
     have a2 := hcm.2.1 h.2
     have := hlg hl
     cases hneg : x.neg
     · have := a2 hneg; omega
     · have := a1 hneg; omega
   · rw [if_neg hl, if_neg hl] at hW
     unfold q0c at hW
     by_cases hu1 : u < 9223372036854775808
     · left
       refine ⟨trivial, .inl hu1, ?_⟩
       rw [hW, if_pos hu1, if_pos ⟨rfl, by decide⟩]
     · rw [if_neg hu1] at hW
       by_cases hu2 : x.neg = true ∧ u = 9223372036854775808
       · left
         refine ⟨trivial, .inr hu2, ?_⟩
         rw [hW, if_pos ⟨by rw [hu2.1, hu2.2]; rfl, by decide⟩, if_pos hu2.1, hu2.2]
         rfl
       · right
         refine ⟨fun h => ?_, by rw [hW, if_neg (fun h => hu2 (by have := h.1; simpa using this))]⟩
         have a1 := hcm.1.1 h.1
         have a2 := hcm.2.1 h.2
         cases hneg : x.neg
         · have := a2 hneg; omega
         · have := a1 hneg; exact hu2 ⟨hneg, by omega⟩
 · have hp2 : T - (64 : Nat) ≤ powP x.neg x.m 1 x.e 1 64 way (T - (64 : Nat)) := by unfold powP; split <;> omega
   rw [if_neg (show ¬ T - (64 : Nat) < 0 by omega)] at hW
   rw [if_neg (fun h => by have h2 := oFa h.2; omega)] at hW
   obtain ⟨k, hk, hk0, hkT, hq, hq2⟩ : ∃ k : Int, (if T - (17000 : Nat) < 0 then 0 else T - (17000 : Nat)) = k ∧ 0 ≤ k ∧ k ≤ 20000 ∧ 2 ^ 64 ≤ qP x.m 1 (x.e - ((1 : Nat) : Int) * k) ∧ qP x.m 1 (x.e - ((1 : Nat) : Int) * k) < 2 ^ 17000 := by
    refine ⟨_, rfl, ?_, ?_, ?_, ?_⟩
    · split <;> omega
    · split <;> omega
    · exact q_ge hm (by split <;> omega)
    · exact @q_lt x.m 17000 _ (by split <;> omega)
   rw [hk]
   have hu := Q k
   have hd := e1t (neg := x.neg) (way := way) (D := 17000) (by decide) hq hq2
   have hpw : k ≤ powP x.neg x.m 1 x.e 1 17000 way k ∧ powP x.neg x.m 1 x.e 1 17000 way k ≤ k + 1 := by unfold powP; split <;> omega
   have hlen := v0q hd.2
   have hd1 := hd.1
   generalize digP x.neg x.m 1 x.e 1 17000 way k = d at *
   generalize powP x.neg x.m 1 x.e 1 17000 way k = p at *
   rw [if_neg (show ¬ d = 0 by omega)]
   obtain ⟨pn, rfl⟩ : ∃ pn : Nat, p = pn := ⟨p.toNat, by omega⟩
   refine ⟨rfl, hlen, ⟨pn, rfl, by omega⟩, .inr ⟨fun h => ?_, hW⟩⟩
   have hcm := m0t (neg := x.neg) (d := d) (p := pn)
   have a1 := hcm.1.1 h.1
   have a2 := hcm.2.1 h.2
   have hm2 : d * 1 ≤ d * 2 ^ pn := Nat.mul_le_mul_left _ Nat.one_le_two_pow
   generalize d * 2 ^ pn = z at *
   cases hneg : x.neg
   · have := a2 hneg; omega
   · have := a1 hneg; omega
def u0c (w : World) (d : Pl) (en : Ending) (w' : World) : Prop :=
 ∃ p c, en = .returned (.agg #[.bool d.neg, .slice p (dig B16 d.d).length c, .int .i64 d.pow, .bool d.exact, .bool d.over, .bool d.under]) ∧ Rd w' .i64 p (dig B16 d.d) ∧ (0 < (dig B16 d.d).length → w.heap.size ≤ blk p) ∧ Below w.heap.size w w'
theorem b1s (g : Gd) : wid g = 1 ∨ wid g = 4 := by unfold wid; split <;> simp
theorem i1m {x : Int} {wd : Nat} (h : wd = 1 ∨ wd = 4) (hx : -800000 ≤ x) : (x + 800000).tdiv wd = (x + 800000) / wd ∧ (800000 : Int).tdiv wd = 800000 / wd ∧ (x + 800000) / wd - 800000 / wd = x / wd := by
 refine ⟨Int.tdiv_eq_ediv_of_nonneg (by omega), Int.tdiv_eq_ediv_of_nonneg (by omega), ?_⟩
 rcases h with rfl | rfl <;> omega
theorem b1t {w : World} {b : Nat} (h : Bx w b #[.int .i64 1]) : Rd w .i64 (some ⟨b, 0, none⟩) (dig B16 1) := by
 rw [e0w a0b (by omega) (by unfold B16; omega)]
 refine ⟨fun _ => ⟨rfl, rfl⟩, fun j hj => ?_⟩
 obtain rfl : j = 0 := by simp at hj; omega
 exact h.e1
theorem e1u (w : World) (T : TypeId) : Rd (w.alloc (.cells #[.int .i64 2] T)) .i64 (some ⟨w.heap.size, 0, none⟩) (dig B16 2) := by
 rw [e0w a0b (by omega) (by unfold B16; omega)]
 exact (g1a w .i64 T 2 (by omega)).rd
theorem m0u : (dig B16 2).length = 1 := by rw [e0w a0b (by omega) (by unfold B16; omega)]; rfl
theorem m0v : (dig B16 1).length = 1 := by rw [e0w a0b (by omega) (by unfold B16; omega)]; rfl
end Go.Proofs.YtmacohmclpnphaaGreatDoor
