/- The references' division: of more than one digit. -/
import Derived.Deep.LoopGhost
import Derived.Lib.Strings
import Derived.Shelf.Strings.Trim
import Derived.Shelf.Strconv.Atoi
import Derived.Shelf.LaysM
import Derived.Shelf.Strconv.Itoa3
import Derived.Test.YtbamiajjampgnaaGreatDoorProg
import Derived.LaidSub
import Derived.Lib.LaidTab
import Derived.Test.YtbamiajjampgnaaGreatDoorTRf1
import Derived.Test.YtbamiajjampgnaaGreatDoorTRf2
import Derived.Test.YtbamiajjampgnaaGreatDoorTRf3
import Derived.Test.YtbamiajjampgnaaGreatDoorTRf4
import Derived.Test.YtbamiajjampgnaaGreatDoorTRf5
import Derived.Test.YtbamiajjampgnaaGreatDoorTRf6
set_option maxHeartbeats 8000000
set_option maxRecDepth 100000
namespace Go.Proofs.YtbamiajjampgnaaGreatDoor
open Go.RowKit Go.Slip
theorem _root_.Go.Slip.SmallRel.skip {B : Nat} {L xs : List Nat} {d k r : Nat} (h : SmallRel B L xs d (k + 1) r) (hk : k < xs.length) (hL : k < L.length) (hx : dg xs k < B) (hz : dg L k = 0) (hlt : r * B + dg xs k < d) : SmallRel B L xs d k (r * B + dg xs k) := by
 have h1 := (h.step hk hL hx).1
 rw [Nat.div_eq_of_lt hlt, Nat.mod_eq_of_lt hlt, g1d L k hz] at h1
 exact h1
theorem o0d {B R j : Nat} : R / B ^ j = B * (R / B ^ (j + 1)) + R / B ^ j % B := by
 rw [Nat.pow_succ, ← Nat.div_div_eq_div_mul, Nat.div_add_mod]
theorem e1y {B : Nat} (hB : 2 ≤ B) (R j : Nat) : dg (dig B R) j = R / B ^ j % B := by
 have h1 := h0r (B := B) (by omega) (dig B R) (b0d hB R) j
 have h2 := f0i B (dig B R) j
 rw [b0c hB] at h1
 rw [h1] at h2
 rw [h2, Nat.add_mul_mod_self_left, Nat.mod_eq_of_lt (a0j (by omega) _ (b0d hB R) j)]
theorem i1u {R n k tp : Nat} (hk : k ≤ n) (h : tp = R / B16 ^ (n + 1 - k)) : 65536 * tp + dg (dig B16 R) (n - k) = R / B16 ^ (n - k) := by
 rw [e1y a0g, h, show n + 1 - k = n - k + 1 by omega]
 exact (o0d (B := B16)).symm
theorem q1e {R n k : Nat} (hk : k ≤ n + 1) (h : R < B16 ^ (n + 1)) : R / B16 ^ (n + 1 - k) < B16 ^ k := by
 rw [Nat.div_lt_iff_lt_mul (Nat.pow_pos f0g), ← Nat.pow_add, show k + (n + 1 - k) = n + 1 by omega]
 exact h
theorem e1z {b n : Nat} (h2 : (dig B16 b).length = n + 2) : dg (dig B16 b) (n + 1) * 65536 + dg (dig B16 b) n = b / B16 ^ n ∧ B16 ≤ b / B16 ^ n := by
 have hb : b < B16 ^ (n + 2) := (a0e a0g b _).1 (by omega)
 have h0 : 0 < b := by
  have := a0f a0g b
  omega
 have h1 := d0j a0g b h0
 rw [h2] at h1
 have e1 : b / B16 ^ (n + 2) = 0 := Nat.div_eq_of_lt hb
 have e2 : b / B16 ^ n = B16 * (b / B16 ^ (n + 1)) + b / B16 ^ n % B16 := o0d
 have e3 : b / B16 ^ (n + 1) = B16 * (b / B16 ^ (n + 2)) + b / B16 ^ (n + 1) % B16 := o0d
 rw [e1y a0g, e1y a0g]
 have e4 : b / B16 ^ (n + 1) % B16 = b / B16 ^ (n + 1) := by rw [e1] at e3; omega
 refine ⟨by rw [e4, show (65536 : Nat) = B16 from rfl, Nat.mul_comm]; exact e2.symm, ?_⟩
 rw [Nat.le_div_iff_mul_le (Nat.pow_pos f0g), Nat.mul_comm, ← Nat.pow_succ]
 exact h1
theorem u0e (p q : Option Addr) (n m c e0 : Nat) (a b nn : Nat) (w : World) (hp : Rd w .i64 p (dig B16 a)) (hq : Rd w .i64 q (dig B16 b)) (hn : n = (dig B16 a).length) (hm : m = (dig B16 b).length)
 (hl : (dig B16 a).length ≤ 100000000) (hl2 : (dig B16 b).length ≤ 100000000) (h2 : (dig B16 b).length = nn + 2) :
 Calls Tryz.prog 54 #[.slice p n c, .slice q m e0] w (w0f w .i64 (dig B16 (a / b)) (dig B16 (a % b))) := by
 subst hn hm
 have HA := hi0 (b0c a0g a)
 have HXL := hi0 (b0d a0g a)
 generalize dig B16 a = xs at *
 obtain ⟨hun, hub⟩ := e1z h2
 obtain ⟨ys, hys⟩ : ∃ ys, ys = dig B16 b := ⟨_, rfl⟩
 rw [← hys] at hq hl2 h2 hun ⊢
 obtain ⟨b1, hb1⟩ : ∃ b1, dg ys (nn + 1) = b1 := ⟨_, rfl⟩
 obtain ⟨b0, hb0⟩ : ∃ b0, dg ys nn = b0 := ⟨_, rfl⟩
 rw [hb1, hb0] at hun
 have hb1l : b1 < 65536 := by rw [← hb1, hys]; exact a0j (B := 65536) (by omega) _ (b0d a0g b) _
 have hb0l : b0 < 65536 := by rw [← hb0, hys]; exact a0j (B := 65536) (by omega) _ (b0d a0g b) _
 obtain ⟨un, hunn⟩ : ∃ un, un = b1 * 65536 + b0 := ⟨_, rfl⟩
 rw [← hunn] at hun
 have hul : un < 4294967296 := by omega
 have HUN := hi0 hun
 have HUB := hi0 (show B16 ≤ un by rw [hun]; exact hub)
 have eun : (b1 : Int) * 65536 + (b0 : Nat) = (un : Nat) := by omega
 have HYS := hi0 hys
 have HN := hi0 h2
 have y2 : 2 ≤ ys.length := by omega
 have hsx := hp.solid
 have hsy := hq.solid
 have t1 : ((ys.length : Int) == 1) = false := bFn (by omega)
 have hcb1 := hq.cells (ys.length - 1) (by omega)
 have hcb0 := hq.cells (ys.length - 2) (by omega)
 rw [show ys.length - 1 = nn + 1 by omega, hb1, show nn + 1 = ys.length - 1 by omega] at hcb1
 rw [show ys.length - 2 = nn by omega, hb0, show nn = ys.length - 2 by omega] at hcb0
 have HB : Hid (0 < b) := by
  have := a0f a0g b
  rw [← hys] at this
  show 0 < b
  omega
 have HBL := hi0 (show b < B16 ^ (nn + 2) from (a0e a0g b _).1 (by rw [← hys]; omega))
 clear hys h2 hun hub hunn hb1 hb0
 go_enter Tryz.func54, Tryz.ntmps54
 go_wp2_with (refine g0p rfl _ _ _ rfl tyN .i64 .i64 xs.length _ _ rfl rfl ?_ ?_ ?_ ?_; omega; omega; omega; intro p1 c1 w1 ho1 hb1 hz1)
 have hsz1 := hb1.size
 have hp1l : p1.isSome = true → blk p1 < w1.heap.size := fun h => (ho1.blk_lt h).2
 go_loopw [10, 11] (fun rv iv wr => ∃ (k r : Nat) (L : List Nat) (pr : Option Addr) (cr : Nat), iv = .int .i64 ((k : Int) - 1) ∧ rv = .slice pr (dig B16 r).length cr ∧ k ≤ xs.length ∧ Hid (L.length = xs.length) ∧ Rd wr .i64 pr (dig B16 r) ∧ (dig B16 r).length ≤ cr ∧
     (0 < (dig B16 r).length → w1.heap.size ≤ blk pr) ∧ Own wr w.heap.size .i64 3 p1 c1 L ∧ Below w.heap.size w wr ∧ w1.heap.size ≤ wr.heap.size ∧ Hid (SmallRel B16 L xs b k r ∧ ∀ i, i < k → dg L i = 0))
  (fun _ iv _ => (intOf iv + 1).toNat)
 case atStart => exact ⟨xs.length, 0, _, none, 0, rfl, by rw [a0c]; rfl, Nat.le_refl _, List.length_replicate, by rw [a0c]; exact Rd.nil _ _ _, by rw [a0c]; simp, by rw [a0c]; simp, ho1, hb1, Nat.le_refl _,
   ⟨⟨fun x hx => by rw [(List.mem_replicate.1 hx).2]; exact f0g, HB.out, by simp⟩, fun i _ => c0j _ _⟩⟩
 case round =>
  obtain ⟨k, r, L, pr, cr, rfl, rfl, hk, hL, hrr, hrc, hrb, hoL, hbL, hszL, HR⟩ := hrel
  have hpL := hp.past hbL
  have hqL := hq.past hbL
  by_cases h0 : 0 < k
  · obtain ⟨j, rfl⟩ : ∃ j, k = j + 1 := ⟨k - 1, by omega⟩
    have ej : ((j + 1 : Nat) : Int) - 1 = j := by omega
    rw [ej]
    have hc1 := hpL.cells j (by omega)
    have hxd := a0j (B := 65536) (by omega) xs HXL.out j
    obtain ⟨x, hx⟩ : ∃ x, dg xs j = x := ⟨_, rfl⟩
    rw [hx] at hc1 hxd
    obtain ⟨R, hRR⟩ : ∃ R, R = r * B16 + x := ⟨_, rfl⟩
    have HX := hi0 hx
    have HRR := hi0 hRR
    have hrl : (dig B16 r).length ≤ ys.length := by rw [HYS.out]; exact a0i a0g (Nat.le_of_lt HR.out.1.2.1)
    have HLD : Hid (∀ y ∈ [x] ++ dig B16 r, y < B16) := by
     intro y hy
     rcases List.mem_append.1 hy with h | h
     · simp at h; rw [h]; exact hxd
     · exact b0d a0g r y h
    have HVR : Hid (val B16 ([x] ++ dig B16 r) = R) := by
     show val B16 ([x] ++ dig B16 r) = R
     rw [List.singleton_append, val_cons, b0c a0g, hRR, Nat.mul_comm B16 r]; omega
    have HRB := hi0 (show R < b * B16 by have := HR.out.1.push (by rw [hx]; exact hxd); rw [hRR, ← hx, Nat.mul_comm r B16]; omega)
    clear hx hRR ej
    have hxs := hsx
    go_wp2_with (first
      | (refine a0p rfl _ _ rfl tyN _ ?_ rfl ?_; omega; intro p2 w2 ho2 hb2 hz2 hp2)
      | (at_builtin; rw [Int.toNat_natCast] at ho2; refine a0w rfl _ _ _ rfl tyN _ _ _ _ _ ho2 rfl _ _ _ _ (hrr.past hb2) rfl rfl rfl ?_ ?_ ?_; (simp; omega); (have := hb2.size; omega); intro p3 c3 w3 ho3 hg3 hb3 hn3))
    refine (d0l p3 _ c3 ([x] ++ dig B16 r) _ ho3.rd rfl ho3.le_cap HLD.out (by simp; omega)).mono ?_
    rintro e w4 ⟨rfl, rfl⟩
    rw [HVR.out]
    have hrt := ho3.take (dig B16 (val B16 ([x] ++ dig B16 r))).length
    rw [b0b a0g _ HLD.out, HVR.out] at hrt
    have hrn : 0 < (dig B16 R).length → w1.heap.size ≤ blk p3 := fun h => by
     have := (hrt.blk_lt (hrt.rd.solid h).1).1
     omega
    have hb23 := hb2.trans hb3
    have hoL3 := hoL.past hb23
    have hs3 := hbL.trans (hb23.mono hbL.size)
    have hsz3 : w1.heap.size ≤ w3.heap.size := Nat.le_trans hszL hb23.size
    have hrR := hrt.rd
    have hrl2 : (dig B16 R).length ≤ ys.length + 1 := by
     rw [a0e a0g, HN.out, show nn + 2 + 1 = (nn + 2) + 1 by omega, Nat.pow_succ]
     exact Nat.lt_of_lt_of_le HRB.out (Nat.mul_le_mul_right _ (Nat.le_of_lt HBL.out))
    clear hb2 hb3 hz2 hp2 ho2 ho3 hg3 hn3 hb23 hrt hrr hrc hrb hoL hbL hszL hpL hc1
    have hq3 := hq.past hs3
    have hq3b : Rd w3 .i64 q (dig B16 b) := by rw [← HYS.out]; exact hq3
    have lyb := hi0 (show ys.length = (dig B16 b).length by rw [← HYS.out])
    have lyb2 : (dig B16 b).length ≤ 100000000 := by rw [← HYS.out]; exact hl2
    go_wp2_with fail
    refine (f0c p3 q _ _ _ e0 R b _ hrR hq3b rfl lyb.out (by omega) (by omega)).mono ?_
    rintro e w5 ⟨rfl, hb5⟩
    have hrR := hrR.past hb5
    have hoL5 := hoL3.past hb5
    have hs5 := hs3.trans (hb5.mono hs3.size)
    have hsz5 : w1.heap.size ≤ w5.heap.size := Nat.le_trans hsz3 hb5.size
    have hsb5 := hs5.size
    have hq5 := hq.past hs5
    clear hb5 hoL3 hs3 hsz3 hq3 hq3b
    by_cases hRb : R < b
    · have hC : cmpN R b ≤ -1 := by rw [g0s hRb]; omega
      have HS : Hid (SmallRel B16 L xs b j R ∧ ∀ i, i < j → dg L i = 0) := by
       have h := HR.out.1.skip (by omega) (by rw [hL.out]; omega) (by rw [HX.out]; exact hxd) (HR.out.2 j (by omega)) (by rw [HX.out, ← HRR.out]; exact hRb)
       rw [HX.out, ← HRR.out] at h
       exact ⟨h, fun i hi => HR.out.2 i (by omega)⟩
      clear hRb
      go_wp2_with fail
      go_roundw
      case rel => exact ⟨j, R, L, p3, _, rfl, rfl, by omega, hL, hrR, Nat.le_refl _, hrn, hoL5, hs5, hsz5, HS⟩
      case measure => first | (simp [intOf]; done) | (simp [intOf]; omega)
    · have hC : 0 ≤ cmpN R b := by unfold cmpN; rw [if_neg hRb]; split <;> omega
      have HRb := hi0 hRb
      have hsr := hrR.solid
      have c1 := hq5.cells (ys.length - 1) (by omega)
      have c0 := hq5.cells (ys.length - 2) (by omega)
      have i1 := (hq.cells (ys.length - 1) (by omega)).symm.trans hcb1
      have i0 := (hq.cells (ys.length - 2) (by omega)).symm.trans hcb0
      simp only [Option.some.injEq, Value.int.injEq, true_and] at i1 i0
      rw [i1] at c1
      rw [i0] at c0
      clear i1 i0 hRb
      have f1 : (0 : Int) ≤ (ys.length : Int) - 1 := by omega
      have f2 : (ys.length : Int) - 1 < (ys.length : Int) := by omega
      have f3 : (0 : Int) ≤ (ys.length : Int) - 2 := by omega
      have f4 : (ys.length : Int) - 2 < (ys.length : Int) := by omega
      have e1 : IntKind.i64.wrap ((ys.length : Int) - 1) = (ys.length : Int) - 1 := iwo
      have e2 : IntKind.i64.wrap ((ys.length : Int) - 2) = (ys.length : Int) - 2 := iwo
      have e3 : ((ys.length : Int) - 1).toNat = ys.length - 1 := by omega
      have e4 : ((ys.length : Int) - 2).toNat = ys.length - 2 := by omega
      have e5 : IntKind.i64.wrap ((b1 : Int) * 65536) = (b1 : Int) * 65536 := iwo
      have e6 : IntKind.i64.wrap (un : Int) = (un : Int) := iwo
      go_wp2_with fail
      go_quiet (fail)
      clear f1 f2 f3 f4 e1 e2 e3 e4 e5 e6 c1 c0
      have hrR := hrR.drewN nq
      have hoL6 := hoL5.drewN nq
      have hs6 := below_drewN hs5 nq
      have hq6 := hq5.drewN nq
      have hsz6 : w1.heap.size ≤ (w5.drewN nq).heap.size := hsz5
      generalize w5.drewN nq = w6 at *
      clear hoL5 hs5 hq5 hsz5 hsb5
      go_wp2_with fail
      have HRn := hi0 (show R < B16 ^ (ys.length + 1) by rw [HN.out, Nat.pow_succ]; exact Nat.lt_of_lt_of_le HRB.out (Nat.mul_le_mul_right _ (Nat.le_of_lt HBL.out)))
      go_loop [12, 14] (fun tv kv => ∃ (kk tp : Nat), kv = .int .i64 kk ∧ tv = .int .i64 tp ∧ kk ≤ 3 ∧ tp < 281474976710656 ∧ (kk < 3 → tp < 4294967296) ∧ Hid (tp = R / B16 ^ (ys.length + 1 - kk))) (fun _ kv => 3 - (intOf kv).toNat)
      case atStart => exact ⟨0, 0, rfl, rfl, by omega, by omega, fun _ => by omega, (show 0 = R / B16 ^ (ys.length + 1 - 0) from (Nat.div_eq_of_lt HRn.out).symm)⟩
      case round =>
       obtain ⟨kk, tp, rfl, rfl, hkk, htp, htp2, HT⟩ := hrel
       by_cases hk3 : kk < 3
       · have htp3 := htp2 hk3
         obtain ⟨dd, hdd⟩ : ∃ dd, dg (dig B16 R) (ys.length - kk) = dd := ⟨_, rfl⟩
         have hstep := i1u (R := R) (n := ys.length) (k := kk) (by omega) HT.out
         rw [hdd] at hstep
         have hlt := q1e (R := R) (n := ys.length) (k := kk + 1) (by omega) HRn.out
         rw [show ys.length + 1 - (kk + 1) = ys.length - kk by omega, ← hstep] at hlt
         have hlt3 : 65536 * tp + dd < 281474976710656 := Nat.lt_of_lt_of_le hlt (Nat.le_trans (Nat.pow_le_pow_right f0g (show kk + 1 ≤ 3 by omega)) (by decide))
         have hlt2 : kk + 1 < 3 → 65536 * tp + dd < 4294967296 := fun h => Nat.lt_of_lt_of_le hlt (Nat.le_trans (Nat.pow_le_pow_right f0g (show kk + 1 ≤ 2 by omega)) (by decide))
         have HS : Hid (65536 * tp + dd = R / B16 ^ (ys.length + 1 - (kk + 1))) := by rw [show ys.length + 1 - (kk + 1) = ys.length - kk by omega]; exact hstep
         have hddl : dd < 65536 := by rw [← hdd]; exact a0j (B := 65536) (by omega) _ (b0d a0g R) _
         have g1 : (0 : Int) ≤ (ys.length : Int) - (kk : Int) := by omega
         have g3 : ((ys.length : Int) - (kk : Int)).toNat = ys.length - kk := by omega
         clear hlt hstep
         by_cases hat : ys.length - kk < (dig B16 R).length
         · have hcr := hrR.cells (ys.length - kk) hat
           rw [hdd] at hcr
           have g2 : (ys.length : Int) - (kk : Int) < ((dig B16 R).length : Int) := by omega
           have HL2 := hi0 hlt2
           clear hat hdd hlt2 htp2
           go_wp2_with fail
           go_round
           case rel => exact ⟨kk + 1, 65536 * tp + dd, by go_num, by go_num, by omega, hlt3, HL2.out, HS⟩
           case measure => simp [intOf]; omega
         · have hd0 : dd = 0 := by rw [← hdd]; exact b0m (by omega)
           subst hd0
           have g2 : ((dig B16 R).length : Int) ≤ (ys.length : Int) - (kk : Int) := by omega
           have HL2 := hi0 hlt2
           clear hat hdd hlt2 htp2
           go_wp2_with fail
           go_round
           case rel => exact ⟨kk + 1, 65536 * tp + 0, by go_num, by go_num, by omega, hlt3, HL2.out, HS⟩
           case measure => simp [intOf]; omega
       · obtain rfl : kk = 3 := by omega
         have hT : tp = R / B16 ^ nn := by have := HT.out; rw [HN.out, show nn + 2 + 1 - 3 = nn by omega] at this; exact this
         obtain ⟨ht1, ht2⟩ := z0c (P := B16 ^ nn) (Nat.pow_pos f0g) (by rw [← HUN.out]; exact HUB.out) HRB.out
         rw [← hT, ← HUN.out] at ht1 ht2
         have hqd : R / b < 65536 := by rw [Nat.div_lt_iff_lt_mul HB.out, Nat.mul_comm]; exact HRB.out
         obtain ⟨xq, hxq⟩ : ∃ xq, xq = tp / (un + 1) := ⟨_, rfl⟩
         obtain ⟨qd, hqq⟩ : ∃ qd, qd = R / b := ⟨_, rfl⟩
         rw [← hxq, ← hqq] at ht1 ht2
         rw [← hqq] at hqd
         have ex : (tp : Int) / ((un : Int) + 1) = (xq : Nat) := by rw [hxq]; rfl
         have HQD := hi0 hqq
         have hu1 : (1 : Int) ≤ (un : Int) + 1 := by omega
         clear hT hxq hqq hk3 htp2
         go_wp2_with fail
         obtain ⟨d0, hd0⟩ : ∃ d0 : Nat, (d0 : Int) = min 65535 (max 0 ((xq : Int) - 1) + 4) := ⟨(min 65535 (max 0 ((xq : Int) - 1) + 4)).toNat, by omega⟩
         have hd1 : qd ≤ d0 := by omega
         have hd2 : d0 ≤ 65535 := by omega
         have HD0 := hi0 hd0
         clear hd0 ex ht1 ht2 hu1
         go_loopg [10, 17] d0 (fun g rv dv wr2 => ∃ (d : Nat), d = g ∧ rv = .slice p3 (dig B16 R).length (dig B16 R).length ∧ dv = .int .i64 d ∧ qd ≤ d ∧ d ≤ 65535 ∧ Below w6.heap.size w6 wr2)
         case atStart => exact ⟨d0, rfl, rfl, congrArg (Value.int .i64) HD0.out.symm, hd1, hd2, Below.refl _ _⟩
         case round =>
          obtain ⟨d, rfl, rfl, rfl, hqd1, hdl, hb7⟩ := hrel
          have ld : (dig B16 d).length ≤ 1 := (a0e a0g d 1).2 (by unfold B16; omega)
          have lbd : (dig B16 (b * d)).length ≤ 100000001 := by have := b0h a0g b d; omega
          go_wp2_with fail
          ((with_reducible refine (o0c d _ (by omega)).mono ?_))
          rintro e w8 ⟨p8, c8, rfl, hr8, -, -, hb8⟩
          have hs8 := hb7.trans (hb8.mono hb7.size)
          have hq8 : Rd w8 .i64 q (dig B16 b) := by rw [← HYS.out]; exact hq6.past hs8
          clear hb7 hb8
          go_wp2_with fail
          ((with_reducible refine (i0b q p8 _ _ e0 c8 b d _ hq8 hr8 lyb.out rfl (by omega)).mono ?_))
          rintro e w9 ⟨p9, c9, rfl, hr9, -, -, hb9⟩
          have hs9 := hs8.trans (hb9.mono hs8.size)
          clear hs8 hb9 hr8 hq8
          go_wp2_with fail
          ((with_reducible refine (f0c p9 p3 _ _ c9 _ (b * d) R _ hr9 (hrR.past hs9) rfl rfl (by omega) (by omega)).mono ?_))
          rintro e w10 ⟨rfl, hb10⟩
          have hs10 := hs9.trans (hb10.mono hs9.size)
          have hr10 := hr9.past hb10
          have hrR10 := hrR.past hs10
          clear hs9 hb10 hr9
          by_cases hle : b * d ≤ R
          · have hC2 : cmpN (b * d) R ≤ 0 := by unfold cmpN; split; omega; rw [if_neg (by omega)]; omega
            have hdq : d = qd := by
             have : d ≤ qd := by rw [HQD.out, Nat.le_div_iff_mul_le HB.out, Nat.mul_comm]; exact hle
             omega
            have HMM := hi0 (show R - b * d = R % b by rw [hdq, HQD.out]; have := Nat.div_add_mod R b; omega)
            have HS : Hid (SmallRel B16 (L.set j d) xs b j (R % b) ∧ ∀ i, i < j → dg (L.set j d) i = 0) := by
             have h := (HR.out.1.step (by omega) (by rw [hL.out]; omega) (by rw [HX.out]; exact hxd)).1
             rw [HX.out, ← HRR.out, ← HQD.out, ← hdq] at h
             exact ⟨h, fun i hi => by rw [b0p (by omega)]; exact HR.out.2 i (by omega)⟩
            have HLE := hi0 hle
            clear hdq hle
            go_wp2_with fail
            ((with_reducible refine (w0m p3 p9 _ _ _ c9 R (b * d) _ hrR10 hr10 rfl rfl (by omega) HLE.out).mono ?_))
            rw [HMM.out]
            rintro e w11 ⟨p11, c11, rfl, hr11, hl11, hk11, hb11⟩
            have hs11 := hs10.trans (hb11.mono hs10.size)
            have hk12 : 0 < (dig B16 (R % b)).length → w1.heap.size ≤ blk p11 := fun h => by
             have := hk11 h
             have := hs10.size
             omega
            have hoL11 := hoL6.past hs11
            have hbw11 := hs6.trans (hs11.mono hs6.size)
            have hsz11 : w1.heap.size ≤ w11.heap.size := Nat.le_trans hsz6 hs11.size
            have hsL := hoL11.solid
            rw [hL.out] at hsL
            have hjL : j < L.length := by rw [hL.out]; omega
            have hps := hi0 (hoL11.rd.solid (by omega)).1
            clear hs10 hb11 hrR10 hr10 hk11 hC2
            go_wp2_with (refine a0v rfl _ _ _ rfl 3 tyN _ _ _ _ hoL11 j hjL _ ?_ rfl rfl ?_; omega; intro w12 ho12 hg12 hb12)
            rw [Int.toNat_natCast] at ho12
            have hz12 := hg12.size
            go_roundw
            case rel => exact ⟨j, R % b, _, p11, c11, rfl, rfl, by omega, (by show (List.set _ _ _).length = _; rw [List.length_set]; exact hL.out), hr11.written hg12 (fun h0 h1 => by have := hk12 h0; have := hp1l h1; omega) hps.out, hl11, hk12, ho12, hbw11.trans hb12, Nat.le_trans hsz11 hz12, HS⟩
            case measure => first | (simp [intOf]; done) | (simp [intOf]; omega)
          · have hC2 : 1 ≤ cmpN (b * d) R := by rw [l0e (by omega)]; omega
            have hd1 : qd ≤ d - 1 ∧ 1 ≤ d := by
             have : qd ≠ d := by
              intro h
              have h1 := Nat.div_mul_le_self R b
              rw [← HQD.out, h, Nat.mul_comm] at h1
              exact hle h1
             omega
            obtain ⟨hd3, hd4⟩ := hd1
            have ed : (d : Int) - 1 = ((d - 1 : Nat) : Int) := by omega
            clear hle
            go_wp2_with fail
            go_roundg (d - 1)
            case measure => omega
            case rel => exact ⟨d - 1, rfl, rfl, rfl, hd3, by omega, hs10⟩
  · obtain rfl : k = 0 := by omega
    obtain ⟨hv, hm⟩ := HR.out.1.done HA.out
    have HM := hi0 hm
    have HV := hi0 hv
    have HLB := hi0 HR.out.1.1
    clear hv hm
    go_wp2_with fail
    refine (d0l p1 xs.length c1 L _ hoL.rd hL.out.symm (by rw [hL.out]; exact hL.out ▸ hoL.le_cap) HLB.out (by rw [hL.out]; omega)).mono ?_
    rintro e w3 ⟨rfl, rfl⟩
    rw [HV.out]
    go_wp2_with fail
    go_ret2
    have ht := b0b a0g L HLB.out
    have ho3 := hoL.take (dig B16 (val B16 L)).length
    rw [ht, HV.out] at ho3
    rw [← HM.out]
    exact ⟨p1, _, pr, _, rfl, ho3.rd, Nat.le_refl _, i0a ho3, hrr, hrc, fun h => Nat.le_trans hsz1 (hrb h), hbL⟩
theorem w0s (p q : Option Addr) (n m c e0 : Nat) (a b : Nat) (w : World) (hp : Rd w .i64 p (dig B16 a)) (hq : Rd w .i64 q (dig B16 b)) (hn : n = (dig B16 a).length) (hm : m = (dig B16 b).length)
 (hl : (dig B16 a).length ≤ 100000000) (hl2 : (dig B16 b).length ≤ 100000000) (hb : 0 < b) :
 Calls Tryz.prog 54 #[.slice p n c, .slice q m e0] w (w0f w .i64 (dig B16 (a / b)) (dig B16 (a % b))) := by
 by_cases h1 : (dig B16 b).length = 1
 · obtain ⟨h2, h3⟩ := o0q a0g h1
   rw [h1] at hm
   rw [n0t a0g h2 h3] at hq
   exact n0u p q n m c e0 a b w hp hq hn hm (by omega) h2 h3
 · have h0 : (dig B16 b).length ≠ 0 := by
    have := a0f a0g b
    omega
   exact u0e p q n m c e0 a b ((dig B16 b).length - 2) w hp hq hn hm hl hl2 (by omega)
instance decDv : DecidableEq Dv := fun a b => decidable_of_iff (a.neg = b.neg ∧ a.m = b.m ∧ a.e = b.e) ⟨fun h => Dv.ext' h.1 h.2.1 h.2.2, fun h => by subst h; exact ⟨rfl, rfl, rfl⟩⟩
structure InF (w : World) (base : Nat) (a : Rw) : Prop where
 rd : Rd w .i64 a.p (dig B16 a.m)
 cap : (dig B16 a.m).length ≤ a.c
 len : (dig B16 a.m).length ≤ 1000000
 lo : -1000000 ≤ a.e
 hi : a.e ≤ 1000000
 at_ : 0 < (dig B16 a.m).length → base ≤ blk a.p
theorem InF.past {w w' : World} {base : Nat} {a : Rw} (h : InF w base a) (hb : Below w.heap.size w w') : InF w' base a := ⟨h.rd.past hb, h.cap, h.len, h.lo, h.hi, h.at_⟩
theorem InF.drew {w : World} {base : Nat} {a : Rw} (h : InF w base a) : InF w.drew base a := ⟨h.rd.drew, h.cap, h.len, h.lo, h.hi, h.at_⟩
theorem InF.mono {w : World} {base base' : Nat} {a : Rw} (h : InF w base a) (hb : base' ≤ base) : InF w base' a := ⟨h.rd, h.cap, h.len, h.lo, h.hi, fun k => Nat.le_trans hb (h.at_ k)⟩
theorem InF.only {w w' : World} {base k : Nat} {a : Rw} (h : InF w base a) (hb : Only k w w') (hne : 0 < (dig B16 a.m).length → blk a.p ≠ k) : InF w' base a := ⟨h.rd.only hb hne, h.cap, h.len, h.lo, h.hi, h.at_⟩
theorem InF.lt {w : World} {base : Nat} {a : Rw} (h : InF w base a) : 0 < (dig B16 a.m).length → blk a.p < w.heap.size := fun k => h.rd.lt k
def GRf (w : World) (xs : List Nat) (en : Ending) (w' : World) : Prop :=
 ∃ p c, en = .returned (.slice p xs.length c) ∧ Rf w' w.heap.size p c xs ∧ Below w.heap.size w w'
theorem f0m.grf {w w' : World} {xs : List Nat} {en : Ending} (h : f0m w .i64 xs en w') : GRf w xs en w' := by
 obtain ⟨p, c, h1, h2, h3, h4, h5⟩ := h
 exact ⟨p, c, h1, b1q h2 h3 h4, h5⟩
def GNf (w : World) (base : Nat) (d : Dv) (en : Ending) (w' : World) : Prop :=
 ∃ p c, en = .returned (.agg #[.bool d.neg, .slice p (dig B16 d.m).length c, .int .i64 d.e]) ∧ Rf w' base p c (dig B16 d.m) ∧ Below w.heap.size w w'
theorem r1j (N : Int) (n : Nat) (h : N = n) (hn : n ≤ 9223372036854775807) (w : World) : Calls Tryz.prog 95 #[.int .i64 N] w (GRf w (dig B16 n)) := by
 subst h; exact (o0c n w hn).mono fun _ _ => f0m.grf
theorem q1f (N : Int) (n : Nat) (h : N = n) (hn : n ≤ 1000000000) (w : World) : Calls Tryz.prog 72 #[.int .i64 N] w (GRf w (dig B16 (2 ^ n))) := by
 subst h; exact (n0w n w hn).mono fun _ _ => f0m.grf
theorem i1v (p q : Option Addr) (n m c d : Nat) (a b x : Nat) (w : World) (hp : Rd w .i64 p (dig B16 a)) (hq : Rd w .i64 q (dig B16 b)) (hn : n = (dig B16 a).length) (hm : m = (dig B16 b).length)
 (hl : (dig B16 a).length ≤ 100000000) (hl2 : (dig B16 b).length ≤ 100000000) (h : a + b = x) :
 Calls Tryz.prog 75 #[.slice p n c, .slice q m d] w (GRf w (dig B16 x)) := by
 subst h; exact (w0k p q n m c d a b w hp hq hn hm (by omega)).mono fun _ _ => f0m.grf
theorem y0o (p q : Option Addr) (n m c d : Nat) (a b x : Nat) (w : World) (hp : Rd w .i64 p (dig B16 a)) (hq : Rd w .i64 q (dig B16 b)) (hn : n = (dig B16 a).length) (hm : m = (dig B16 b).length)
 (hl : (dig B16 a).length ≤ 100000000) (hl2 : (dig B16 b).length ≤ 100000000) (h : a * b = x) :
 Calls Tryz.prog 53 #[.slice p n c, .slice q m d] w (GRf w (dig B16 x)) := by
 subst h; exact (i0b p q n m c d a b w hp hq hn hm (by omega)).mono fun _ _ => f0m.grf
theorem rup (p : Option Addr) (n c : Nat) (a N x : Nat) (M : Int) (w : World) (hp : Rd w .i64 p (dig B16 a)) (hn : n = (dig B16 a).length) (hl : (dig B16 a).length ≤ 100000000) (hN : N ≤ 1000000000) (hM : M = N) (h : a * 2 ^ N = x) :
 Calls Tryz.prog 93 #[.slice p n c, .int .i64 M] w (GRf w (dig B16 x)) := by
 subst h hM; exact (e1i p n c a N w hp hn hl hN).mono fun _ _ => f0m.grf
theorem q1g {w w' : World} {d : Dv} {en : Ending} (h : t0p w (fun _ => False) d en w') : GNf w w.heap.size d en w' := by
 obtain ⟨p, c, h1, h2, h3, h4, h5⟩ := h
 exact ⟨p, c, h1, q1s h2 h3 h4, h5⟩
theorem p0v (g : Bool) (p : Option Addr) (n c : Nat) (e : Int) (m : Nat) (d : Dv) (w : World) (hp : Rd w .i64 p (dig B16 m)) (hn : n = (dig B16 m).length) (hl : (dig B16 m).length ≤ 1000000) (he : -1000000 ≤ e ∧ e ≤ 1000000) (h : bare ⟨g, m, e⟩ = d) :
 Calls Tryz.prog 51 #[.agg #[.bool g, .slice p n c, .int .i64 e]] w (GNf w w.heap.size d) := by
 subst h
 exact (u0b g p n c e m w hp hn (by omega) (by omega)).mono fun _ _ => q1g
theorem f0d (s e f d l g k : Int) (w : World) : Calls Tryz.prog 59 #[.int .i64 s, .int .i64 e, .int .i64 f, .int .i64 d, .int .i64 l, .int .i64 g, .int .i64 k] w
 fun en w' => en = .returned (.agg #[.int .i64 s, .int .i64 e, .int .i64 f, .int .i64 2, .int .i64 d, .int .i64 l, .int .i64 g, .bool (k == 1), .int .i64 k]) ∧ Below w.heap.size w w' := by
 have I := Inv.start w [] True.intro
 refine a0h [.v (.int .i64 s), .v (.int .i64 e), .v (.int .i64 f), .v (.int .i64 d), .v (.int .i64 l), .v (.int .i64 g), .v (.int .i64 k)] I Tryz.func59 ?_
 exact zrb I
theorem i0d (n : Int) (hn : IsFm n) (w : World) : Calls Tryz.prog 16 #[.int .i64 n] w
 fun e w' => e = .returned (.tuple #[.agg #[.int .i64 (((fmt n).size : Nat) : Int), .int .i64 (((fmt n).E : Nat) : Int), .int .i64 (((fmt n).F : Nat) : Int), .int .i64 (fmt n).g.rad, .int .i64 (fmt n).g.digs, .int .i64 (fmt n).g.lo, .int .i64 (fmt n).g.hi, .bool (fmt n).g.grad, .int .i64 (((fmt n).fam : Nat) : Int)], .bool true]) ∧ Below w.heap.size w w' := by
 rcases k0m hn with rfl | rfl | rfl | rfl | rfl | rfl | rfl | rfl
 · have I := Inv.start w [] True.intro
   refine a0h [.v (.int .i64 1)] I Tryz.func16 ?_
   refine zq I (fun Al W I => f0d 4 8 23 24 (-149) 104 1 W) fun Al W I => ?_
   exact zret I (v := fun Al => .tuple #[.agg #[.int .i64 4, .int .i64 8, .int .i64 23, .int .i64 2, .int .i64 24, .int .i64 (-149), .int .i64 104, .bool true, .int .i64 1], .bool true]) fun Al W I => ⟨by kernel_rfl, I.below⟩
 · have I := Inv.start w [] True.intro
   refine a0h [.v (.int .i64 2)] I Tryz.func16 ?_
   refine zq I (fun Al W I => f0d 8 11 52 53 (-1074) 971 1 W) fun Al W I => ?_
   exact zret I (v := fun Al => .tuple #[.agg #[.int .i64 8, .int .i64 11, .int .i64 52, .int .i64 2, .int .i64 53, .int .i64 (-1074), .int .i64 971, .bool true, .int .i64 1], .bool true]) fun Al W I => ⟨by kernel_rfl, I.below⟩
 · have I := Inv.start w [] True.intro
   refine a0h [.v (.int .i64 3)] I Tryz.func16 ?_
   refine zq I (fun Al W I => f0d 10 15 64 64 (-16445) 16320 1 W) fun Al W I => ?_
   exact zret I (v := fun Al => .tuple #[.agg #[.int .i64 10, .int .i64 15, .int .i64 64, .int .i64 2, .int .i64 64, .int .i64 (-16445), .int .i64 16320, .bool true, .int .i64 1], .bool true]) fun Al W I => ⟨by kernel_rfl, I.below⟩
 · have I := Inv.start w [] True.intro
   refine a0h [.v (.int .i64 4)] I Tryz.func16 ?_
   exact zret I (v := fun Al => .tuple #[.agg #[.int .i64 4, .int .i64 7, .int .i64 24, .int .i64 16, .int .i64 6, .int .i64 (-70), .int .i64 57, .bool false, .int .i64 2], .bool true]) fun Al W I => ⟨by kernel_rfl, I.below⟩
 · have I := Inv.start w [] True.intro
   refine a0h [.v (.int .i64 5)] I Tryz.func16 ?_
   exact zret I (v := fun Al => .tuple #[.agg #[.int .i64 8, .int .i64 7, .int .i64 56, .int .i64 16, .int .i64 14, .int .i64 (-78), .int .i64 49, .bool false, .int .i64 2], .bool true]) fun Al W I => ⟨by kernel_rfl, I.below⟩
 · have I := Inv.start w [] True.intro
   refine a0h [.v (.int .i64 6)] I Tryz.func16 ?_
   refine zq I (fun Al W I => f0d 4 8 23 24 (-151) 103 3 W) fun Al W I => ?_
   exact zret I (v := fun Al => .tuple #[.agg #[.int .i64 4, .int .i64 8, .int .i64 23, .int .i64 2, .int .i64 24, .int .i64 (-151), .int .i64 103, .bool false, .int .i64 3], .bool true]) fun Al W I => ⟨by kernel_rfl, I.below⟩
 · have I := Inv.start w [] True.intro
   refine a0h [.v (.int .i64 7)] I Tryz.func16 ?_
   refine zq I (fun Al W I => f0d 8 8 55 56 (-183) 71 3 W) fun Al W I => ?_
   exact zret I (v := fun Al => .tuple #[.agg #[.int .i64 8, .int .i64 8, .int .i64 55, .int .i64 2, .int .i64 56, .int .i64 (-183), .int .i64 71, .bool false, .int .i64 3], .bool true]) fun Al W I => ⟨by kernel_rfl, I.below⟩
 · have I := Inv.start w [] True.intro
   refine a0h [.v (.int .i64 8)] I Tryz.func16 ?_
   refine zq I (fun Al W I => f0d 8 11 52 53 (-1076) 970 3 W) fun Al W I => ?_
   exact zret I (v := fun Al => .tuple #[.agg #[.int .i64 8, .int .i64 11, .int .i64 52, .int .i64 2, .int .i64 53, .int .i64 (-1076), .int .i64 970, .bool false, .int .i64 3], .bool true]) fun Al W I => ⟨by kernel_rfl, I.below⟩
theorem s0c (n : Int) (hn : ¬ IsFm n) (w : World) : Calls Tryz.prog 16 #[.int .i64 n] w
 fun e w' => e = .returned (.tuple #[.agg #[.int .i64 (((fmt n).size : Nat) : Int), .int .i64 (((fmt n).E : Nat) : Int), .int .i64 (((fmt n).F : Nat) : Int), .int .i64 (fmt n).g.rad, .int .i64 (fmt n).g.digs, .int .i64 (fmt n).g.lo, .int .i64 (fmt n).g.hi, .bool (fmt n).g.grad, .int .i64 (((fmt n).fam : Nat) : Int)], .bool false]) ∧ Below w.heap.size w w' := by
 rw [s0a hn]
 unfold IsFm at hn
 have I := Inv.start w [] True.intro
 refine a0h [.v (.int .i64 n)] I Tryz.func16 ?_
 refine zb I 7 (n == 1) (false) (bFn (by omega)) fun Al W I => ?_
 refine zb I 11 (n == 2) (false) (bFn (by omega)) fun Al W I => ?_
 refine zb I 15 (n == 3) (false) (bFn (by omega)) fun Al W I => ?_
 refine zb I 19 (n == 4) (false) (bFn (by omega)) fun Al W I => ?_
 refine zb I 23 (n == 5) (false) (bFn (by omega)) fun Al W I => ?_
 refine zb I 27 (n == 6) (false) (bFn (by omega)) fun Al W I => ?_
 refine zb I 31 (n == 7) (false) (bFn (by omega)) fun Al W I => ?_
 refine zb I 35 (n == 8) (false) (bFn (by omega)) fun Al W I => ?_
 exact zret I (v := fun Al => .tuple #[.agg #[.int .i64 0, .int .i64 0, .int .i64 0, .int .i64 0, .int .i64 0, .int .i64 0, .int .i64 0, .bool false, .int .i64 0], .bool false]) fun Al W I => ⟨by kernel_rfl, I.below⟩
theorem w0t (n : Int) (s : ByteArray) (w : World) : Calls Tryz.prog 22 #[.int .i64 n, .string s] w
 fun e w' => e = .returned (.int .i64 (b0g n s)) ∧ Below w.heap.size w w' := by
 by_cases hn : IsFm n
 · have HF := fun W => hi0 (i0d n hn W)
   by_cases hs : s.size = (fmt n).size
   · rw [b0l.2 ⟨hn, hs⟩]
     generalize fmt n = f at *
     have I := Inv.start w [] True.intro
     refine a0h [.v (.int .i64 n), .v (.string s)] I Tryz.func22 ?_
     refine zq I (fun Al W I => (HF W).out) fun Al W I => ?_
     refine zb I 18 ((s.size : Int) != (f.size : Int)) (false) (by simp [hs]) fun Al W I => ?_
     exact zrb I
   · rw [show b0g n s = 1 by unfold b0g; rw [if_pos hn, if_neg hs]]
     generalize fmt n = f at *
     have I := Inv.start w [] True.intro
     refine a0h [.v (.int .i64 n), .v (.string s)] I Tryz.func22 ?_
     refine zq I (fun Al W I => (HF W).out) fun Al W I => ?_
     refine zb I 18 ((s.size : Int) != (f.size : Int)) (true) (bne_iff_ne.2 (fun h => hs (by omega))) fun Al W I => ?_
     exact zrb I
 · have HF := fun W => hi0 (s0c n hn W)
   rw [show b0g n s = 6 by unfold b0g; rw [if_neg hn]]
   generalize fmt n = f at *
   have I := Inv.start w [] True.intro
   refine a0h [.v (.int .i64 n), .v (.string s)] I Tryz.func22 ?_
   refine zq I (fun Al W I => (HF W).out) fun Al W I => ?_
   exact zrb I
theorem k1x {n : Int} (h : IsFm n) : (fmt n).ext = decide (n = 3) := by
 rcases k0m h with rfl | rfl | rfl | rfl | rfl | rfl | rfl | rfl <;> rfl
theorem u0f (n : Int) (i : Nat) (w : World) (hn : IsFm n) (hi : i < (fmt n).size) : Calls Tryz.prog 143 #[.int .i64 n, .int .i64 (i : Int)] w
 fun e w' => e = .returned (.int .i64 ((plc (fmt n).ord (fmt n).size i : Nat) : Int)) ∧ Below w.heap.size w w' := by
 have HF := fun W => hi0 (i0d n hn W)
 have G := c0d hn
 have z1 := G.sz
 have he := k1x hn
 generalize fmt n = f at *
 by_cases h3 : n = 3
 · rw [decide_eq_true h3] at he
   have hp : ((plc f.ord f.size i : Nat) : Int) = (f.size : Int) - 1 - i := by unfold plc Fm.ord; rw [he, if_pos rfl, if_pos rfl]; omega
   rw [hp]
   have I := Inv.start w [] True.intro
   refine a0h [.v (.int .i64 n), .v (.int .i64 (i : Int))] I Tryz.func143 ?_
   refine zq I (fun Al W I => (HF W).out) fun Al W I => ?_
   refine zb I 14 (n == 3) (true) (beq_iff_eq.2 h3) fun Al W I => ?_
   refine zi I 17 .i64 ((f.size : Int) - 1) ((f.size : Int) - 1) (iwo) fun Al W I => ?_
   refine zi I 19 .i64 (((f.size : Int) - 1) - (i : Int)) (((f.size : Int) - 1) - (i : Int)) (iwo) fun Al W I => ?_
   exact zrb I
 · rw [decide_eq_false h3] at he
   by_cases hf : f.fam = 3
   · have hp : ((plc f.ord f.size i : Nat) : Int) = (i : Int) + 1 - 2 * ((i % 2 : Nat) : Int) := by unfold plc Fm.ord; rw [he, if_neg (show ¬ (false = true) by simp), if_pos hf, if_neg (by omega), if_pos rfl]; omega
     rw [hp]
     have I := Inv.start w [] True.intro
     refine a0h [.v (.int .i64 n), .v (.int .i64 (i : Int))] I Tryz.func143 ?_
     refine zq I (fun Al W I => (HF W).out) fun Al W I => ?_
     refine zb I 14 (n == 3) (false) (bFn h3) fun Al W I => ?_
     refine zb I 23 ((f.fam : Int) == 3) (true) (beq_iff_eq.2 (by omega)) fun Al W I => ?_
     refine zi I 25 .i64 ((i : Int) + 1) ((i : Int) + 1) (iwo) fun Al W I => ?_
     refine zbin I 27 _ (fun _ _ _ _ _ => q0w .i64 (i : Int) (2) (((i % 2 : Nat) : Int)) ((show (2 : Int) ≠ 0 by omega)) ((by exact (Int.ofNat_tmod i 2).symm))) fun Al W I => ?_
     refine zi I 28 .i64 ((2 : Int) * ((i % 2 : Nat) : Int)) ((2 : Int) * ((i % 2 : Nat) : Int)) (iwo) fun Al W I => ?_
     refine zi I 29 .i64 (((i : Int) + 1) - ((2 : Int) * ((i % 2 : Nat) : Int))) (((i : Int) + 1) - ((2 : Int) * ((i % 2 : Nat) : Int))) (iwo) fun Al W I => ?_
     exact zrb I
   · have hp : ((plc f.ord f.size i : Nat) : Int) = (i : Int) := by unfold plc Fm.ord; rw [he, if_neg (show ¬ (false = true) by simp), if_neg hf, if_neg (by omega), if_neg (by omega)]
     rw [hp]
     have I := Inv.start w [] True.intro
     refine a0h [.v (.int .i64 n), .v (.int .i64 (i : Int))] I Tryz.func143 ?_
     refine zq I (fun Al W I => (HF W).out) fun Al W I => ?_
     refine zb I 14 (n == 3) (false) (bFn h3) fun Al W I => ?_
     refine zb I 23 ((f.fam : Int) == 3) (false) (bFn (by omega)) fun Al W I => ?_
     exact zrb I
theorem k1y : Tryz.prog.underlying 156 = some (.slice 5) := by kernel_rfl
theorem q1h : Tryz.prog.underlying 5 = some (.int .u8) := by kernel_rfl
theorem f1a : Tryz.prog.underlying 9 = some .string := by kernel_rfl
theorem u0g (xs ys : List Nat) : a0d xs ++ a0d ys = a0d (xs ++ ys) := by
 apply ByteArray.ext
 simp [a0d]
theorem u0h (xs : List Nat) (s : ByteArray) (h : s = a0d xs) (j : Nat) (hj : j < s.size) (hx : dg xs j < 256) : (s[j]'hj).toNat = dg xs j := by
 subst h
 have hj2 : j < xs.length := by rw [← a0m xs]; exact hj
 rw [a0t hj2] at hx ⊢
 have e : (a0d xs)[j]'hj = UInt8.ofNat xs[j] := by
  have h1 : (a0d xs)[j]'hj = ((a0d xs).data.toList)[j]'(by rw [o0z]; simpa using hj2) := by rw [Array.getElem_toList]; rfl
  rw [h1]
  simp only [o0z, List.getElem_map]
 rw [e, UInt8.toNat_ofNat', Nat.mod_eq_of_lt hx]
theorem i0p (xs : List Nat) (k : Nat) : (a0d xs).extract k (a0d xs).size = a0d (xs.drop k) := by
 apply ByteArray.ext
 rw [ByteArray.data_extract]
 apply Array.ext'
 rw [Array.toList_extract, a0m]
 simp [a0d, List.map_drop, List.extract]
 rw [List.take_of_length_le (by simp)]
theorem j0c (D : List Nat) (x : Nat) (s : ByteArray) (h : s = a0d (Txt D)) : a0d [x + 48] ++ s = a0d (Txt (D ++ [x])) := by
 rw [h, u0g, i1t]; rfl
theorem i0e (p : Option Addr) (n c : Nat) (a : Nat) (w : World) (hp : Rd w .i64 p (dig B16 a)) (hn : n = (dig B16 a).length) (hl : (dig B16 a).length ≤ 10000000) :
 Calls Tryz.prog 35 #[.slice p n c] w fun e w' => e = .returned (.string (a0d (a0r a))) ∧ Below w.heap.size w w' := by
 subst hn
 go_enter Tryz.func35, Tryz.ntmps35
 go_wp2
 go_loopg [0, 3] a (fun g av sv wr => ∃ (A : Nat) (D : List Nat) (q : Option Addr) (d : Nat) (s : ByteArray), av = .slice q (dig B16 A).length d ∧ sv = .string s ∧ A ≤ g ∧ Rd wr .i64 q (dig B16 A) ∧ (dig B16 A).length ≤ 10000000 ∧ Below w.heap.size w wr ∧
     Hid (s = a0d (Txt D)) ∧ s.size ≤ 160000000 ∧ D.length ≤ 160000000 ∧ Hid (k0u a D A))
 case atStart => exact ⟨a, [], p, c, _, rfl, rfl, Nat.le_refl _, hp, hl, Below.refl _ _, rfl, Nat.zero_le _, Nat.zero_le _, k0u.start a⟩
 case round =>
  obtain ⟨A, D, q, d, s, rfl, rfl, hg, hq, hlA, hb, hS, hsz, hD, HR⟩ := hrel
  go_wp2_with (refine a0p rfl _ _ (by rfl) tyN 10000 (by omega) (by rfl) ?_; intro p2 w2 ho2 hb2 hz2 hp2)
  have hr2 : Rd w2 .i64 p2 [10000] := ho2.rd
  refine (n0u q p2 _ 1 d 1 A 10000 _ (hq.past hb2) hr2 rfl rfl (by omega) (by omega) (by omega)).mono ?_
  rintro e w3 ⟨p3, c3, p4, c4, rfl, hr3, -, -, hr4, -, -, hb3⟩
  have hb4 := hb.trans ((hb2.mono hb.size).trans (hb3.mono (Nat.le_trans hb.size hb2.size)))
  have HE := hi0 HR.out.enter
  have hq3 : (dig B16 (A / 10000)).length ≤ 10000000 := Nat.le_trans (a0i a0g (Nat.div_le_self _ _)) hlA
  have hAd : A / 10000 < A ∨ A / 10000 = 0 := by omega
  have hrl : A % 10000 < 10000 := Nat.mod_lt _ (by omega)
  generalize A / 10000 = B at *
  generalize A % 10000 = r at *
  have hs4 := hr4.solid
  clear hb hb2 hb3 ho2 hr2 hz2 hp2 hq
  by_cases h0 : r = 0
  · subst h0
    rw [a0c] at *
    go_wp2
    go_loopw [3, 6, 7] (fun sv dv iv wr2 => ∃ (i t : Nat) (D2 : List Nat) (s2 : ByteArray), iv = .int .i64 i ∧ dv = .int .i64 t ∧ sv = .string s2 ∧ i ≤ 4 ∧ t < 10000 ∧ Below w.heap.size w wr2 ∧ Hid (s2 = a0d (Txt D2)) ∧ Hid (D2.length = D.length + i) ∧ s2.size ≤ 160000000 + i ∧ Hid (u0d a D2 i t B) ∧ Rd wr2 .i64 p3 (dig B16 B))
     (fun _ _ iv _ => 4 - (intOf iv).toNat)
    case atStart => exact ⟨0, 0, D, s, rfl, rfl, rfl, by omega, hrl, hb4, hS, rfl, by omega, HE, hr3⟩
    case round =>
     obtain ⟨i, t, D2, s2, rfl, rfl, rfl, hi, ht, hb5, hS2, hD2, hz2, HG, hr5⟩ := hrel
     by_cases h4 : i < 4
     · have HN := hi0 (HG.out.step h4)
       have hone : (a0d [48 + t % 10]).size ≤ 1 := by rw [a0m]; simp
       go_wp2_with (first
         | (refine a0p rfl _ _ rfl l0c _ ?_ rfl ?_; omega; intro p6 w6 ho6 hb6 hz6 hp6)
         | (refine v0b rfl _ _ _ (by rfl) k1y q1h f1a _ _ _ _ ho6.rd ?_ (by rfl) ?_; simp))
       go_roundw
       case measure => simp [intOf]; omega
       case rel =>
        refine ⟨i + 1, t / 10, D2 ++ [t % 10], _, by go_num, by go_num, rfl, by omega, by omega, hb5.trans (hb6.mono hb5.size), ?_, ?_, ?_, HN, hr5.past hb6⟩
        · show _ = a0d (Txt (D2 ++ [t % 10]))
          rw [← j0c D2 (t % 10) s2 hS2.out, Nat.add_comm]
        · show (D2 ++ [t % 10]).length = D.length + (i + 1)
          rw [List.length_append, List.length_singleton, hD2.out]; omega
        · rw [ByteArray.size_append, a0m]; simp; omega
     · obtain rfl : i = 4 := by omega
       have HO := hi0 HG.out.leave
       by_cases hB : 0 < B
       · have hlB : 1 ≤ (dig B16 B).length := List.length_pos_iff.2 ((c0y a0g B).2.2.2 hB)
         have hsb := HO.out.size hB
         have hAB : B < A := by omega
         have hs3 : s2.size ≤ D2.length := by rw [hS2.out, a0m, g0k]; exact Nat.le_refl _
         go_wp2
         go_roundg B
         case measure => omega
         case rel => exact ⟨B, D2, p3, c3, s2, rfl, rfl, Nat.le_refl _, hr5, hq3, hb5, hS2, by omega, by omega, HO⟩
       · obtain rfl : B = 0 := by omega
         rw [a0c] at *
         have hs3 : s2.size = D2.length := by rw [hS2.out, a0m, g0k]
         have hs5 : D2.length ≤ s2.size := by omega
         have hs6 : 4 ≤ s2.size := by rw [hs3, hD2.out]; omega
         have HS3 := hi0 hs3
         have HV := hi0 (show val 10 D2 = a by have := HO.out.2; rw [this]; simp)
         clear hs3
         go_wp2
         go_loop [8] (fun kv => ∃ (k : Nat), kv = .int .i64 k ∧ k < s2.size ∧ Hid (∀ j, D2.length - k ≤ j → dg D2 j = 0)) (fun kv => s2.size - (intOf kv).toNat)
         case atStart => exact ⟨0, rfl, by omega, fun j hj => b0m (by omega)⟩
         case round =>
          obtain ⟨k, rfl, hk, HZ⟩ := hrel
          have hkd : dg D2 (D2.length - 1 - k) < 10 := a0j (by omega) D2 HO.out.1 _
          have hgt := u0h (Txt D2) s2 hS2.out k hk (by rw [y0n (by rw [← HS3.out]; exact hk)]; omega)
          rw [y0n (by rw [← HS3.out]; exact hk)] at hgt
          by_cases hk1 : k + 1 < s2.size
          · by_cases hk2 : dg D2 (D2.length - 1 - k) = 0
            · rw [hk2] at hgt
              have HN : Hid (∀ j, D2.length - (k + 1) ≤ j → dg D2 j = 0) := fun j hj => by
               by_cases hjk : j = D2.length - 1 - k
               · rw [hjk]; exact hk2
               · exact HZ.out j (by omega)
              clear hk2 hkd
              go_wp2
              go_round
              case rel => exact ⟨k + 1, by go_num, hk1, HN⟩
              case measure => simp [intOf]; omega
            · obtain ⟨v, hv⟩ : ∃ v, v = dg D2 (D2.length - 1 - k) + 48 := ⟨_, rfl⟩
              rw [← hv] at hgt
              have hv1 : 49 ≤ v := by omega
              have hv2 : v ≤ 57 := by omega
              have HD := hi0 (k0v D2 k HO.out.1 (by have := HS3.out; omega) HZ.out (.inr hk2))
              rw [HV.out] at HD
              clear hk2 hkd hv
              go_wp2
              go_ret
              rw [← HD.out, ← i0p, ← hS2.out]
              exact ⟨rfl, hb5⟩
          · have HD := hi0 (k0v D2 k HO.out.1 (by have := HS3.out; omega) HZ.out (.inl (by have := HS3.out; omega)))
            rw [HV.out] at HD
            clear hgt hkd
            go_wp2
            go_ret
            rw [← HD.out, ← i0p, ← hS2.out]
            exact ⟨rfl, hb5⟩
  · have hr0 : 1 ≤ r := by omega
    have e1 := n0t (B := B16) a0g hr0 (by unfold B16; omega)
    rw [e1] at hr4 hs4 ⊢
    simp only [List.length_singleton] at hs4
    have hc4 : w3.cell? (at_ p4 0) = some (.int .i64 (r : Nat)) := hr4.cells 0 (by simp)
    clear h0 e1
    go_wp2
    go_loopw [3, 6, 7] (fun sv dv iv wr2 => ∃ (i t : Nat) (D2 : List Nat) (s2 : ByteArray), iv = .int .i64 i ∧ dv = .int .i64 t ∧ sv = .string s2 ∧ i ≤ 4 ∧ t < 10000 ∧ Below w.heap.size w wr2 ∧ Hid (s2 = a0d (Txt D2)) ∧ Hid (D2.length = D.length + i) ∧ s2.size ≤ 160000000 + i ∧ Hid (u0d a D2 i t B) ∧ Rd wr2 .i64 p3 (dig B16 B))
     (fun _ _ iv _ => 4 - (intOf iv).toNat)
    case atStart => exact ⟨0, r, D, s, rfl, rfl, rfl, by omega, hrl, hb4, hS, rfl, by omega, HE, hr3⟩
    case round =>
     obtain ⟨i, t, D2, s2, rfl, rfl, rfl, hi, ht, hb5, hS2, hD2, hz2, HG, hr5⟩ := hrel
     by_cases h4 : i < 4
     · have HN := hi0 (HG.out.step h4)
       have hone : (a0d [48 + t % 10]).size ≤ 1 := by rw [a0m]; simp
       go_wp2_with (first
         | (refine a0p rfl _ _ rfl l0c _ ?_ rfl ?_; omega; intro p6 w6 ho6 hb6 hz6 hp6)
         | (refine v0b rfl _ _ _ (by rfl) k1y q1h f1a _ _ _ _ ho6.rd ?_ (by rfl) ?_; simp))
       go_roundw
       case measure => simp [intOf]; omega
       case rel =>
        refine ⟨i + 1, t / 10, D2 ++ [t % 10], _, by go_num, by go_num, rfl, by omega, by omega, hb5.trans (hb6.mono hb5.size), ?_, ?_, ?_, HN, hr5.past hb6⟩
        · show _ = a0d (Txt (D2 ++ [t % 10]))
          rw [← j0c D2 (t % 10) s2 hS2.out, Nat.add_comm]
        · show (D2 ++ [t % 10]).length = D.length + (i + 1)
          rw [List.length_append, List.length_singleton, hD2.out]; omega
        · rw [ByteArray.size_append, a0m]; simp; omega
     · obtain rfl : i = 4 := by omega
       have HO := hi0 HG.out.leave
       by_cases hB : 0 < B
       · have hlB : 1 ≤ (dig B16 B).length := List.length_pos_iff.2 ((c0y a0g B).2.2.2 hB)
         have hsb := HO.out.size hB
         have hAB : B < A := by omega
         have hs3 : s2.size ≤ D2.length := by rw [hS2.out, a0m, g0k]; exact Nat.le_refl _
         go_wp2
         go_roundg B
         case measure => omega
         case rel => exact ⟨B, D2, p3, c3, s2, rfl, rfl, Nat.le_refl _, hr5, hq3, hb5, hS2, by omega, by omega, HO⟩
       · obtain rfl : B = 0 := by omega
         rw [a0c] at *
         have hs3 : s2.size = D2.length := by rw [hS2.out, a0m, g0k]
         have hs5 : D2.length ≤ s2.size := by omega
         have hs6 : 4 ≤ s2.size := by rw [hs3, hD2.out]; omega
         have HS3 := hi0 hs3
         have HV := hi0 (show val 10 D2 = a by have := HO.out.2; rw [this]; simp)
         clear hs3
         go_wp2
         go_loop [8] (fun kv => ∃ (k : Nat), kv = .int .i64 k ∧ k < s2.size ∧ Hid (∀ j, D2.length - k ≤ j → dg D2 j = 0)) (fun kv => s2.size - (intOf kv).toNat)
         case atStart => exact ⟨0, rfl, by omega, fun j hj => b0m (by omega)⟩
         case round =>
          obtain ⟨k, rfl, hk, HZ⟩ := hrel
          have hkd : dg D2 (D2.length - 1 - k) < 10 := a0j (by omega) D2 HO.out.1 _
          have hgt := u0h (Txt D2) s2 hS2.out k hk (by rw [y0n (by rw [← HS3.out]; exact hk)]; omega)
          rw [y0n (by rw [← HS3.out]; exact hk)] at hgt
          by_cases hk1 : k + 1 < s2.size
          · by_cases hk2 : dg D2 (D2.length - 1 - k) = 0
            · rw [hk2] at hgt
              have HN : Hid (∀ j, D2.length - (k + 1) ≤ j → dg D2 j = 0) := fun j hj => by
               by_cases hjk : j = D2.length - 1 - k
               · rw [hjk]; exact hk2
               · exact HZ.out j (by omega)
              clear hk2 hkd
              go_wp2
              go_round
              case rel => exact ⟨k + 1, by go_num, hk1, HN⟩
              case measure => simp [intOf]; omega
            · obtain ⟨v, hv⟩ : ∃ v, v = dg D2 (D2.length - 1 - k) + 48 := ⟨_, rfl⟩
              rw [← hv] at hgt
              have hv1 : 49 ≤ v := by omega
              have hv2 : v ≤ 57 := by omega
              have HD := hi0 (k0v D2 k HO.out.1 (by have := HS3.out; omega) HZ.out (.inr hk2))
              rw [HV.out] at HD
              clear hk2 hkd hv
              go_wp2
              go_ret
              rw [← HD.out, ← i0p, ← hS2.out]
              exact ⟨rfl, hb5⟩
          · have HD := hi0 (k0v D2 k HO.out.1 (by have := HS3.out; omega) HZ.out (.inl (by have := HS3.out; omega)))
            rw [HV.out] at HD
            clear hgt hkd
            go_wp2
            go_ret
            rw [← HD.out, ← i0p, ← hS2.out]
            exact ⟨rfl, hb5⟩
end Go.Proofs.YtbamiajjampgnaaGreatDoor
namespace Go.Slip
open Go.RowKit
theorem h0g (s : ByteArray) : a0d (a0b s) = s := by
 unfold a0d a0b
 rw [List.map_map, show (UInt8.ofNat ∘ UInt8.toNat) = id from funext fun x => by simp]
 simp
theorem s0d {s r : ByteArray} (h : a0b s = a0b r) : s = r := by rw [← h0g s, h, h0g]
theorem n1g {s : ByteArray} : s = ByteArray.mk #[] ↔ a0b s = [] := ⟨fun h => by subst h; rfl, fun h => s0d (by rw [h]; rfl)⟩
def Byt (l : List Nat) : Prop := ∀ x ∈ l, x < 256
theorem Byt.of (s : ByteArray) : Byt (a0b s) := i0i s
theorem Byt.drop {l : List Nat} (h : Byt l) (k : Nat) : Byt (l.drop k) := fun x hx => h x (List.mem_of_mem_drop hx)
theorem Byt.take {l : List Nat} (h : Byt l) (k : Nat) : Byt (l.take k) := fun x hx => h x (List.mem_of_mem_take hx)
theorem Byt.append {l m : List Nat} (h : Byt l) (k : Byt m) : Byt (l ++ m) := fun x hx => (List.mem_append.1 hx).elim (h x) (k x)
theorem h0h {l : List Nat} (h : Byt l) (i j : Nat) : (a0d l).extract i j = a0d ((l.take j).drop i) := s0d (by rw [c0w, b0f h, b0f ((h.take j).drop i)])
theorem n1h (xs ys : List Nat) : a0d xs ++ a0d ys = a0d (xs ++ ys) := by
 apply ByteArray.ext
 simp [a0d]
theorem s0e {l : List Nat} (h : Byt l) : a0d l = ByteArray.mk #[] ↔ l = [] := by rw [n1g, b0f h]
section
variable {P : Program} {W : World}
theorem i1w {s r : ByteArray} (h : s.size + r.size ≤ 9223372036854775807) {t : TypeId} {x y : Operand} : (do eqGuard .add t x y (.string s) (.string r); binOp .add t (.string s) (.string r) : Sem Value).run P W = .ok (.string (s ++ r)) W := by
 simp [go_sem, eqGuard, h]
theorem h0i {s r : ByteArray} {b : Bool} (h : (s = r) ↔ b = true) {t : TypeId} {x y : Operand} : (do eqGuard .eql t x y (.string s) (.string r); binOp .eql t (.string s) (.string r) : Sem Value).run P W = .ok (.bool b) W := by
 cases b
 · have : ¬ s = r := fun k => by have := h.1 k; cases this
   have k : ¬ s.toList = r.toList := fun e => this (by rw [Lib.toList_data, Lib.toList_data] at e; rw [← Lib.mk_data s, e, Lib.mk_data])
   simp [go_sem, eqGuard, k]
 · have := h.2 rfl
   subst this
   simp [go_sem, eqGuard]
theorem i1x {s r : ByteArray} {b : Bool} (h : (s = r) ↔ b = false) {t : TypeId} {x y : Operand} : (do eqGuard .neq t x y (.string s) (.string r); binOp .neq t (.string s) (.string r) : Sem Value).run P W = .ok (.bool b) W := by
 cases b
 · have := h.2 rfl
   subst this
   simp [go_sem, eqGuard]
 · have : ¬ s = r := fun k => by have := h.1 k; cases this
   have k : ¬ s.toList = r.toList := fun e => this (by rw [Lib.toList_data, Lib.toList_data] at e; rw [← Lib.mk_data s, e, Lib.mk_data])
   simp [go_sem, eqGuard, k]
theorem y0p {t : TypeId} (ht : P.underlying t = some .string) {s : ByteArray} {i : Int} {j : Nat} (hi : i = j) (hj : j < s.size) : (VO.sx t (.string s) (.int .i64 i)).sem.run P W = .ok (.int .u8 ((dg (a0b s) j : Nat) : Int)) W := by
 subst hi
 rw [← z0k s j hj]
 simp [VO.sem, go_sem, ht, hj]
theorem g0l {t : TypeId} (ht : P.underlying t = some .string) {s : ByteArray} {lo : Option Value} {hi : Option Value} {i j : Nat} (h1 : lo = none ∧ i = 0 ∨ lo = some (.int .i64 i)) (h2 : hi = none ∧ j = s.size ∨ hi = some (.int .i64 j)) (hij : i ≤ j) (hj : j ≤ s.size) : (VO.sl t (.string s) lo hi none).sem.run P W = .ok (.string (s.extract i j)) W := by
 rcases h1 with ⟨rfl, rfl⟩ | rfl <;> rcases h2 with ⟨rfl, rfl⟩ | rfl <;> simp [VO.sem, go_sem, ht, hij, hj]
end
end Go.Slip
namespace Go.Slip
def mayT (c : Nat) : List Nat → Bool × List Nat
 | b :: r => if b = c then (true, r) else (false, b :: r)
 | [] => (false, [])
theorem m0o {l : List Nat} (h : Byt l) (c : Nat) : Byt (mayT c l).2 := by
 cases l with
 | nil => exact h
 | cons b r =>
  show Byt (if b = c then (true, r) else (false, b :: r)).2
  split
  · exact h.drop 1
  · exact h
theorem q1i {l : List Nat} {j : Nat} (hj : j ≤ l.length) (h : ∀ i, i < j → isDg (dg l i) = true) (hs : j < l.length → isDg (dg l j) = false) : l.takeWhile isDg = l.take j ∧ l.dropWhile isDg = l.drop j := by
 have e := List.take_append_drop j l
 have h1 : ∀ x ∈ l.take j, isDg x = true := fun x hx => by
  obtain ⟨i, hi, rfl⟩ := List.mem_iff_getElem.1 hx
  rw [List.getElem_take]
  have := h i (by rw [List.length_take] at hi; omega)
  rwa [a0t (by rw [List.length_take] at hi; omega)] at this
 rcases Nat.lt_or_ge j l.length with h2 | h2
 · have h3 := hs h2
   rw [a0t h2] at h3
   have h4 := n0q h3 (l.drop (j + 1)) h1
   rw [← List.drop_eq_getElem_cons h2, e] at h4
   exact h4
 · have h4 := y0f h1
   rw [List.take_of_length_le h2] at h4 ⊢
   rw [List.drop_of_length_le h2]
   exact h4
end Go.Slip
namespace Go.Proofs.YtbamiajjampgnaaGreatDoor
open Go.RowKit Go.Slip
theorem uSt : Tryz.prog.underlying 9 = some .string := by kernel_rfl
theorem n1i (l : List Nat) (hb : Byt l) (c u : Nat) (w : World) (U : Bt w u 170 #[.string (a0d l)]) :
 Calls Tryz.prog 106 #[.pointer (some ⟨u, 0, none⟩), .int .u8 (c : Int)] w fun en w' => en = .returned (.bool (mayT c l).1) ∧ Kp [u] w w' ∧ Bt w' u 170 #[.string (a0d (mayT c l).2)] := by
 cases l with
 | nil =>
  have I := Inv.startW w u 170 [.v (.string (a0d []))] [] U True.intro True.intro
  refine a0h [.p 0 0, .v (.int .u8 (c : Int))] I Tryz.func106 ?_
  refine zbin I 9 _ (fun _ _ _ _ _ => h0i (s := a0d []) (r := ⟨#[]⟩) (iff_of_true rfl rfl)) fun Al W I => ?_
  exact zret I fun Al W I => ⟨rfl, I.bel, I.boxE 170 _⟩
 | cons b r =>
  have hn : a0d (b :: r) ≠ ByteArray.mk #[] := fun h => by have := (s0e hb).1 h; cases this
  have h0 : dg (a0b (a0d (b :: r))) 0 = b := by rw [b0f hb]; rfl
  have hz : 0 < (a0d (b :: r)).size := by rw [a0m]; exact Nat.succ_pos _
  have hd : (a0d (b :: r)).extract 1 (a0d (b :: r)).size = a0d r := by rw [h0h hb, a0m, List.take_length]; rfl
  rw [show mayT c (b :: r) = if b = c then (true, r) else (false, b :: r) from rfl]
  generalize hs : a0d (b :: r) = s at *
  have I := Inv.startW w u 170 [.v (.string s)] [] U True.intro True.intro
  refine a0h [.p 0 0, .v (.int .u8 (c : Int))] I Tryz.func106 ?_
  refine zbin I 9 _ (fun _ _ _ _ _ => h0i (s := s) (r := ⟨#[]⟩) (b := false) (iff_of_false hn Bool.false_ne_true)) fun Al W I => ?_
  refine zx I 15 (fun _ => .int .u8 (b : Int)) (fun Al W I => (by rw [← h0]; exact y0p uSt rfl hz)) fun Al W I => ?_
  rcases Bool.eq_false_or_eq_true ((b : Int) != (c : Int)) with f17 | f17
  · refine zb I 17 ((b : Int) != (c : Int)) (true) (f17) fun Al W I => ?_
    refine zret I (v := fun Al => .bool false) fun Al W I => ?_
    first | (rw [if_neg (fun h => bne_iff_ne.1 f17 (by rw [h]))]; exact ⟨rfl, I.bel, hs ▸ I.boxE 170 _⟩) | (rw [if_pos (by have h : (b : Int) = c := (by simpa using f17); omega)]; exact ⟨rfl, I.bel, I.boxE 170 _⟩)
  refine zb I 17 ((b : Int) != (c : Int)) (false) (f17) fun Al W I => ?_
  refine zx I 24 (fun _ => .string (a0d r)) (fun Al W I => (by rw [← hd]; exact g0l uSt (.inr rfl) (.inl ⟨rfl, rfl⟩) hz (Nat.le_refl _))) fun Al W I => ?_
  refine zret I (v := fun Al => .bool true) fun Al W I => ?_
  (rw [if_pos (by have h : (b : Int) = c := (by simpa using f17); omega)]; exact ⟨rfl, I.bel, I.boxE 170 _⟩)
theorem a1l (l : List Nat) (hb : Byt l) (hl : l.length ≤ 1000000000) (u : Nat) (w : World) (U : Bt w u 170 #[.string (a0d l)]) :
 Calls Tryz.prog 107 #[.pointer (some ⟨u, 0, none⟩)] w fun en w' => en = .returned (.string (a0d (l.takeWhile isDg))) ∧ Kp [u] w w' ∧ Bt w' u 170 #[.string (a0d (l.dropWhile isDg))] := by
 have hg : a0b (a0d l) = l := b0f hb
 have hz : (a0d l).size = l.length := a0m l
 have ht := fun j => h0h hb 0 j
 have hd : ∀ j, (a0d l).extract j (a0d l).size = a0d (l.drop j) := fun j => by rw [h0h hb, a0m, List.take_length]
 have hT := fun (j : Nat) h1 h2 h3 => q1i (l := l) (j := j) h1 h2 h3
 generalize a0d l = s at *
 have I := Inv.startW w u 170 [.v (.string s)] [] U True.intro True.intro
 refine a0h [.p 0 0] I Tryz.func107 ?_
 refine i0u I (fun gk fr bx gs => ∃ (U900 : Nat → Value) (j : Nat), fr = (.p 0 0 :: .v undef :: .v (Go.Value.string (ByteArray.mk #[])) :: .v (.int .i64 (j : Int)) :: .v undef :: sw U900 5 43 [] : List SV) ∧ bx = [⟨170, [.v (.string s)], false⟩] ∧ gs = [] ∧ (j ≤ l.length) ∧ (∀ i, i < j → isDg (dg l i) = true) ∧ (gk + j = l.length)) l.length (fun Al W U I => ⟨_, ⟨U, 0, rfl, rfl, rfl, (Nat.zero_le _), (fun i hi => absurd hi (Nat.not_lt_zero i)), (Nat.add_zero _)⟩, I.pick []⟩) ?_
 rintro J0 gk0 _ _ _ ⟨U900, j, rfl, rfl, rfl, hj, hall, hgk⟩ hJ0 Al W I
 rcases Bool.eq_false_or_eq_true (decide ((j : Int) < (s.size : Int))) with f11 | f11
 · refine zb I 11 (decide ((j : Int) < (s.size : Int))) (true) (f11) fun Al W I => ?_
   refine zx I 18 (fun _ => .int .u8 ((dg l j : Nat) : Int)) (fun Al W I => (by rw [← hg]; exact y0p uSt rfl (by have := oTr f11; omega))) fun Al W I => ?_
   rcases Bool.eq_false_or_eq_true (decide (((dg l j : Nat) : Int) ≥ 48)) with f19 | f19
   · refine zb I 19 (decide (((dg l j : Nat) : Int) ≥ 48)) (true) (f19) fun Al W I => ?_
     refine zx I 27 (fun _ => .int .u8 ((dg l j : Nat) : Int)) (fun Al W I => (by rw [← hg]; exact y0p uSt rfl (by have := oTr f11; omega))) fun Al W I => ?_
     rcases Bool.eq_false_or_eq_true (decide (((dg l j : Nat) : Int) ≤ 57)) with f28 | f28
     · refine zb I 28 (decide (((dg l j : Nat) : Int) ≤ 57)) (true) (f28) fun Al W I => ?_
       refine zi I 31 .i64 ((j : Int) + 1) ((((j + 1 : Nat) : Int))) ((by have := oTr f11; exact iwo)) fun Al W I => ?_
       exact a0k I J0 fun Al W U I => hJ0 (gk0 - 1) _ _ _ _ _ ((by have := oTr f11; omega)) ⟨U, j + 1, rfl, rfl, rfl, (by have := oTr f11; omega), (fun i hi => by have := oTr f19; have := oTr f28; exact (Nat.lt_or_ge i j).elim (fun h => hall i h) (fun h => by rw [show i = j by omega]; exact r0i (by omega))), (by have := oTr f11; omega)⟩ (I.pick [])
     refine zb I 28 (decide (((dg l j : Nat) : Int) ≤ 57)) (false) (f28) fun Al W I => ?_
     refine zx I 37 (fun _ => .string (s.extract 0 j)) (fun Al W I => (g0l uSt (.inl ⟨rfl, rfl⟩) (.inr rfl) (Nat.zero_le _) (by omega))) fun Al W I => ?_
     refine zx I 44 (fun _ => .string (s.extract j s.size)) (fun Al W I => (g0l uSt (.inr rfl) (.inl ⟨rfl, rfl⟩) (by omega) (Nat.le_refl _))) fun Al W I => ?_
     have hst : j < l.length → isDg (dg l j) = false := fun hjl => by ((have := oFa f28; unfold isDg; rw [decide_eq_false (p := dg l j ≤ 57) (by omega), Bool.and_false]))
     obtain ⟨e1, e2⟩ := hT j hj hall hst
     rw [e1, e2, ← hd j]
     exact zret I (v := fun Al => .string (s.extract 0 j)) fun Al W I => ⟨by rw [ht j]; rfl, I.bel, I.boxE 170 _⟩
   refine zb I 19 (decide (((dg l j : Nat) : Int) ≥ 48)) (false) (f19) fun Al W I => ?_
   refine zx I 37 (fun _ => .string (s.extract 0 j)) (fun Al W I => (g0l uSt (.inl ⟨rfl, rfl⟩) (.inr rfl) (Nat.zero_le _) (by omega))) fun Al W I => ?_
   refine zx I 44 (fun _ => .string (s.extract j s.size)) (fun Al W I => (g0l uSt (.inr rfl) (.inl ⟨rfl, rfl⟩) (by omega) (Nat.le_refl _))) fun Al W I => ?_
   have hst : j < l.length → isDg (dg l j) = false := fun hjl => by ((have := oFa f19; unfold isDg; rw [decide_eq_false (by omega)]; rfl))
   obtain ⟨e1, e2⟩ := hT j hj hall hst
   rw [e1, e2, ← hd j]
   exact zret I (v := fun Al => .string (s.extract 0 j)) fun Al W I => ⟨by rw [ht j]; rfl, I.bel, I.boxE 170 _⟩
 refine zb I 11 (decide ((j : Int) < (s.size : Int))) (false) (f11) fun Al W I => ?_
 refine zx I 37 (fun _ => .string (s.extract 0 j)) (fun Al W I => (g0l uSt (.inl ⟨rfl, rfl⟩) (.inr rfl) (Nat.zero_le _) (by omega))) fun Al W I => ?_
 refine zx I 44 (fun _ => .string (s.extract j s.size)) (fun Al W I => (g0l uSt (.inr rfl) (.inl ⟨rfl, rfl⟩) (by omega) (Nat.le_refl _))) fun Al W I => ?_
 have hst : j < l.length → isDg (dg l j) = false := fun hjl => by ((have := oFa f11; exfalso; omega))
 obtain ⟨e1, e2⟩ := hT j hj hall hst
 rw [e1, e2, ← hd j]
 exact zret I (v := fun Al => .string (s.extract 0 j)) fun Al W I => ⟨by rw [ht j]; rfl, I.bel, I.boxE 170 _⟩
end Go.Proofs.YtbamiajjampgnaaGreatDoor
namespace Go.Proofs.YtbamiajjampgnaaGreatDoor
def w0u : Go.Shelf.Ren := ⟨fun | 161 => 45 | 231 => 109 | 227 => 110 | 233 => 111 | 235 => 112 | 228 => 162 | 197 => 163 | 151 => 164 | 260 => 194 | 152 => 195 | 137 => 202 | 119 => 203 | 224 => 204 | 225 => 205 | 217 => 214 | 266 => 221 | n => n, fun | 9 => 9 | 4 => 4 | 3 => 3 | 5 => 5 | 117 => 182 | 116 => 181 | 0 => 0 | 124 => 185 | 105 => 233 | 21 => 21 | 119 => 263 | 46 => 178 | 139 => 266 | 138 => 265 | n => n, fun | 3 => 3 | 4 => 4 | n => n⟩
theorem n1j : Go.Proofs.Lays.n161 Tryz.prog w0u := by constructor <;> first | (intros; kernel_rfl) | (constructor <;> (intros; kernel_rfl))
def w0v : Go.Shelf.Ren := ⟨fun | 172 => 108 | 244 => 160 | 245 => 161 | 247 => 189 | 279 => 190 | 280 => 191 | 281 => 192 | 282 => 193 | 287 => 199 | 316 => 200 | 171 => 142 | 205 => 201 | 321 => 212 | 322 => 213 | 243 => 183 | 246 => 197 | 283 => 208 | 284 => 209 | 285 => 210 | 286 => 211 | 129 => 217 | 317 => 216 | 318 => 218 | 319 => 219 | 320 => 220 | 337 => 165 | 338 => 222 | n => n, fun | 9 => 9 | 3 => 3 | 75 => 174 | 76 => 175 | 4 => 4 | 5 => 5 | 167 => 248 | 37 => 156 | 0 => 0 | 85 => 249 | 2 => 2 | 168 => 251 | 53 => 177 | 175 => 257 | 46 => 178 | 210 => 261 | 127 => 277 | 145 => 280 | 143 => 278 | 21 => 21 | 171 => 271 | 173 => 274 | 212 => 282 | 51 => 143 | 20 => 20 | 213 => 283 | 232 => 255 | 233 => 285 | 80 => 172 | n => n, fun | 15 => 1 | 16 => 2 | 17 => 6 | 18 => 0 | 19 => 7 | n => n⟩
theorem n1k : Go.Proofs.Lays.n172 Tryz.prog w0v := by constructor <;> first | (intros; kernel_rfl) | (constructor <;> (intros; kernel_rfl))
def u0i : Go.Shelf.Ren := ⟨fun | 171 => 142 | 243 => 183 | 246 => 197 | 283 => 208 | 284 => 209 | 285 => 210 | 286 => 211 | 129 => 217 | 317 => 216 | 318 => 218 | 319 => 219 | 320 => 220 | 337 => 165 | 338 => 222 | n => n, fun | 3 => 3 | 9 => 9 | 2 => 2 | 4 => 4 | 171 => 271 | 0 => 0 | 53 => 177 | 37 => 156 | 5 => 5 | 173 => 274 | 212 => 282 | 51 => 143 | 20 => 20 | 213 => 283 | 46 => 178 | 232 => 255 | 233 => 285 | n => n, fun | 17 => 6 | 18 => 0 | 19 => 7 | n => n⟩
theorem i1y : Go.Proofs.LaysM.n171 Tryz.prog u0i := by constructor <;> first | (intros; kernel_rfl) | (constructor <;> (intros; kernel_rfl))
end Go.Proofs.YtbamiajjampgnaaGreatDoor
namespace Go.Slip
open Go.RowKit
theorem u0j (d : Nat) (h : d < 10) : (UInt8.ofNat (48 + d)).toNat = d + 48 := by rw [UInt8.toNat_ofNat', Nat.mod_eq_of_lt (by omega)]; omega
theorem p0w (u : Nat) : (Lib.decDigits u).map UInt8.toNat = a0r u := by
 have hz : ∀ v, 0 < v → a0r v = (dig 10 v).reverse.map (· + 48) := fun v h => by unfold a0r; rw [if_neg (by omega)]
 induction u using Nat.strongRecOn with
 | _ u ih =>
  rw [Lib.decDigits]
  by_cases h : u < 10
  · rw [dif_pos h, List.map_cons, List.map_nil, u0j u h]
    by_cases h0 : u = 0
    · subst h0; rfl
    · rw [hz u (by omega), c0k (B := 10) (by omega) (by omega), Nat.mod_eq_of_lt h, Nat.div_eq_of_lt h, a0c]; rfl
  · rw [dif_neg h, List.map_append, ih (u / 10) (by omega), List.map_cons, List.map_nil, u0j _ (Nat.mod_lt _ (by omega)), hz u (by omega), hz (u / 10) (by omega), c0k (B := 10) (n := u) (by omega) (by omega)]
    simp
theorem a1m (n : Int) : (⟨(Lib.itoa n).toArray⟩ : ByteArray) = a0d (d0w n) := by
 apply s0d
 have hb : Byt (d0w n) := by
  intro x hx
  unfold d0w at hx
  split at hx
  · rcases List.mem_cons.1 hx with rfl | hx
    · omega
    · have := g0f _ x hx; omega
  · have := g0f _ x hx; omega
 rw [b0f hb]
 unfold a0b Lib.itoa d0w
 split
 · rw [show (-n).toNat = n.natAbs by omega, ← p0w]; rfl
 · rw [← p0w]
theorem p0x : ∀ (l : List UInt8) (a : Nat), (∀ y ∈ l, isDg y.toNat = true) → Lib.decFrom a l = some ((l.map UInt8.toNat).foldl (fun a b => 10 * a + (b - 48)) a)
 | [], a, _ => rfl
 | b :: r, a, h => by
  have h1 := e0w.1 (h b List.mem_cons_self)
  have h2 := p0x r (a * 10 + (b.toNat - 48)) fun y hy => h y (List.mem_cons_of_mem b hy)
  rw [Lib.decFrom]
  unfold Lib.digitVal
  rw [if_pos h1]
  simp only
  rw [h2, List.map_cons, List.foldl_cons, Nat.mul_comm a 10]
theorem i1z {m : List UInt8} (hd : ∀ y ∈ m, isDg y.toNat = true) (h2 : m ≠ []) : Lib.atoi m = some ((a0n (m.map UInt8.toNat) : Nat) : Int) := by
 cases m with
 | nil => exact absurd rfl h2
 | cons b r =>
  have hb1 := e0w.1 (hd b List.mem_cons_self)
  have hn : ∀ k : UInt8, k.toNat < 48 → (b == k) = false := fun k hk => bFn fun h => by subst h; omega
  unfold Lib.atoi
  simp only [hn 45 (by decide), hn 43 (by decide), Bool.false_eq_true, if_false]
  unfold Lib.decNat
  rw [if_neg (by simp), p0x _ _ hd]
  rfl
theorem n1l {x : List Nat} (hb : Byt x) (h1 : ∀ y ∈ x, isDg y = true) (h2 : x ≠ []) : Lib.atoi (a0d x).data.toList = some ((a0n x : Nat) : Int) := by
 have e : (a0d x).data.toList.map UInt8.toNat = x := b0f hb
 have k := i1z (m := (a0d x).data.toList) (fun y hy => h1 _ (by rw [← e]; exact List.mem_map_of_mem hy)) (fun h => h2 (by rw [← e, h]; rfl))
 rw [e] at k
 exact k
theorem f1b {l : List Nat} : ∀ x ∈ l.dropWhile (· == 48), x ∈ l := fun _ hx => List.dropWhile_sublist _ |>.subset hx
theorem a1n (l : List Nat) (hb : Byt l) : (⟨(Lib.trimLeftB (a0d l).data.toList 48).toArray⟩ : ByteArray) = a0d (l.dropWhile (· == 48)) := by
 apply s0d
 rw [b0f fun x hx => hb x (f1b x hx)]
 have e : (a0d l).data.toList.map UInt8.toNat = l := b0f hb
 have key : ∀ m : List UInt8, (m.dropWhile (· == 48)).map UInt8.toNat = (m.map UInt8.toNat).dropWhile (· == 48) := by
  intro m
  induction m with
  | nil => rfl
  | cons b r ih =>
   rw [List.map_cons, List.dropWhile_cons, List.dropWhile_cons]
   by_cases h : b = 48
   · subst h; simpa using ih
   · have h1 : (b == 48) = false := bFn h
     have h2 : (b.toNat == 48) = false := bFn fun k => h (UInt8.toNat_inj.1 (by rw [k]; rfl))
     rw [h1, h2]; rfl
 have := key (a0d l).data.toList
 rw [e] at this
 exact this
theorem a1o (l : List Nat) : a0n (l.dropWhile (· == 48)) = a0n l := by
 induction l with
 | nil => rfl
 | cons b r ih =>
  rw [List.dropWhile_cons]
  split
  · rename_i h
    rw [ih, beq_iff_eq.1 h]
    rfl
  · rfl
end Go.Slip
namespace Go.Proofs.YtbamiajjampgnaaGreatDoor
open Go.RowKit Go.Slip
def PowW (w : World) : Prop := Lib.TabIs Tryz.prog w "internal/strconv.uint64pow10" .u64 Lib.pow10Tab ∧ 6 < w.heap.size
theorem PowW.same {w w' : World} (h : PowW w) (hb : w'.heap[6]? = w.heap[6]?) (hs : w.heap.size ≤ w'.heap.size) : PowW w' := by
 refine ⟨?_, Nat.lt_of_lt_of_le h.2 hs⟩
 have h1 := h.1
 unfold Lib.TabIs World.var? at h1 ⊢
 rw [show Tryz.prog.globalNamed "internal/strconv.uint64pow10" = some 6 by kernel_rfl] at h1 ⊢
 simp only [Option.bind_some] at h1 ⊢
 rw [hb]; exact h1
def powF : PF := ⟨PowW, fun a => 6 = a, fun _ _ h hb hs => h.same (hb _ h.2 rfl) hs, fun _ _ h hf => hf ▸ h.2⟩
theorem PowW.past {w w' : World} (h : PowW w) (hb : Below w.heap.size w w') : PowW w' := h.same (hb.block _ h.2) hb.size
theorem j1a (x : List Nat) (h1 : ∀ y ∈ x, isDg y = true) (h2 : x ≠ []) (h3 : x.length ≤ 5) (w : World) : Calls Tryz.prog 108 #[.string (a0d x)] w fun en w' => en = .returned (.tuple #[.int .i64 ((a0n x : Nat) : Int), .nilIface]) ∧ Below w.heap.size w w' := by
 have hb : Byt x := fun y hy => by have := e0w.1 (h1 y hy); omega
 refine (Any.strconv_Atoi n1k (a0d x) _ (by rw [a0m]; omega) (n1l hb h1 h2) w).mono ?_
 rintro e w' ⟨rfl, t, rfl⟩
 exact ⟨rfl, e0q (Nat.le_refl _) _ _⟩
theorem j1b (n : Int) (h : -9223372036854775808 ≤ n ∧ n ≤ 9223372036854775807) (w : World) (hT : PowW w) : Calls Tryz.prog 142 #[.int .i64 n] w fun en w' => en = .returned (.string (a0d (d0w n))) ∧ Below w.heap.size w w' := by
 refine (Any.strconv_Itoa i1y n h.1 h.2 w hT.1).mono ?_
 rintro e w' ⟨rfl, k, os, rfl⟩
 refine ⟨by rw [a1m], ?_⟩
 exact ⟨rfl, rfl, rfl, by simp [Sort.grow], fun b hb => by simp [Sort.grow]; rw [Array.getElem?_append_left hb]⟩
theorem j1c (l : List Nat) (hb : Byt l) (w : World) : Calls Tryz.prog 45 #[.string (a0d l), .string ⟨#[48]⟩] w fun en w' => en = .returned (.string (a0d (l.dropWhile (· == 48)))) ∧ Below w.heap.size w w' := by
 refine (Any.strings_TrimLeft_one n1j (a0d l) 48 (by decide) w).mono ?_
 rintro e w' ⟨rfl, rfl⟩
 exact ⟨by rw [a1n l hb], Below.refl _ _⟩
end Go.Proofs.YtbamiajjampgnaaGreatDoor
namespace Go.Proofs.YtbamiajjampgnaaGreatDoor
open Go.ChangeShapes Go.WideShapes Go.ChangeAt Go.RowKit Go.Slip
def s0f : List (String × DataW Unit) := [("math/bits.deBruijn32tab", Rows.laid_math_bits_deBruijn32tab), ("math/bits.deBruijn64tab", Rows.laid_math_bits_deBruijn64tab), ("internal/strconv.uint64pow10", Rows.laid_internal_strconv_uint64pow10), ("unicode/utf8.acceptRanges", Rows.laid_unicode_utf8_acceptRanges), ("strconv.ErrRange", Rows.laid_strconv_ErrRange), ("strconv.ErrSyntax", Rows.laid_strconv_ErrSyntax), ("unicode/utf8.first", Rows.laid_unicode_utf8_first)]
theorem f1c : s0f.filter (fun x => x.1 == "math/bits.deBruijn32tab") = [("math/bits.deBruijn32tab", Rows.laid_math_bits_deBruijn32tab)] := by kernel_rfl
theorem f1d : s0f.filter (fun x => x.1 == "internal/strconv.uint64pow10") = [("internal/strconv.uint64pow10", Lib.tabData .u64 Lib.pow10Tab)] := by kernel_rfl
theorem j1d {W : World} (h : laidMetH Tryz.prog s0f W) : TabW W ∧ PowW W := by
 have h1 := h.filter (fun x => x.1 == "math/bits.deBruijn32tab")
 have h2 := h.filter (fun x => x.1 == "internal/strconv.uint64pow10")
 rw [f1c] at h1
 rw [f1d, MakeChecks.laidMetH_plain _ _ _ (by kernel_rfl)] at h2
 have hg : Tryz.prog.globalNamed "internal/strconv.uint64pow10" = some 6 := by kernel_rfl
 have h3 := Lib.tabIs_of_head (t := 282) (e := 177) (n := 20) hg (by kernel_rfl) (by kernel_rfl) (by kernel_rfl) (by kernel_rfl) (by kernel_rfl) h2
 exact ⟨v0g h1, h3, World.block_lt_of_cell? W _ (h3.cell hg 0 (by decide))⟩
end Go.Proofs.YtbamiajjampgnaaGreatDoor
namespace Go.Slip
open Go.RowKit
theorem u0k (l : List Nat) : m0i l = mayT 45 l := by
 cases l with
 | nil => rfl
 | cons b r =>
  rw [show mayT 45 (b :: r) = if b = 45 then (true, r) else (false, b :: r) from rfl]
  split
  · rename_i h; subst h; rfl
  · rename_i h; exact r0j r h
theorem u0l (l : List Nat) : q0x l = if (mayT 46 l).1 = true then (if (mayT 46 l).2.takeWhile isDg = [] then none else some ((mayT 46 l).2.takeWhile isDg, (mayT 46 l).2.dropWhile isDg)) else some ([], (mayT 46 l).2) := by
 cases l with
 | nil => rfl
 | cons b r =>
  rw [show mayT 46 (b :: r) = if b = 46 then (true, r) else (false, b :: r) from rfl]
  by_cases h : b = 46
  · subst h; rfl
  · rw [if_neg h, p0n r h]; rfl
theorem j1e (l : List Nat) : powT l = if (mayT 101 l).1 = true then (if (mayT 45 (mayT 101 l).2).2.takeWhile isDg = [] ∨ 5 < ((mayT 45 (mayT 101 l).2).2.takeWhile isDg).length then none else some (if (mayT 45 (mayT 101 l).2).1 then -(a0n ((mayT 45 (mayT 101 l).2).2.takeWhile isDg) : Int) else a0n ((mayT 45 (mayT 101 l).2).2.takeWhile isDg), (mayT 45 (mayT 101 l).2).2.dropWhile isDg)) else some (0, (mayT 101 l).2) := by
 cases l with
 | nil => rfl
 | cons b r =>
  rw [show mayT 101 (b :: r) = if b = 101 then (true, r) else (false, b :: r) from rfl]
  by_cases h : b = 101
  · subst h
    rw [if_pos rfl, if_pos rfl, ← u0k]
    rfl
  · rw [if_neg h, if_neg Bool.false_ne_true]
    unfold powT
    split
    · rename_i heq
      injection heq with h1 _
      exact absurd h1 h
    · rfl
theorem o0e (l : List Nat) : (∀ x ∈ l.takeWhile isDg, isDg x = true ∧ x ∈ l) ∧ (∀ x ∈ l.dropWhile isDg, x ∈ l) ∧ (l.takeWhile isDg).length ≤ l.length ∧ (l.dropWhile isDg).length ≤ l.length := by
 induction l with
 | nil => exact ⟨fun _ h => (nomatch h), fun x hx => hx, Nat.le_refl _, Nat.le_refl _⟩
 | cons b r ih =>
  obtain ⟨h1, h2, h3, h4⟩ := ih
  rw [List.takeWhile_cons, List.dropWhile_cons]
  cases hb : isDg b
  · exact ⟨fun _ h => (nomatch h), fun x hx => hx, Nat.zero_le _, Nat.le_refl _⟩
  · rw [if_pos rfl, if_pos rfl]
    refine ⟨fun x hx => ?_, fun x hx => List.mem_cons_of_mem _ (h2 x hx), by rw [List.length_cons, List.length_cons]; omega, by rw [List.length_cons]; omega⟩
    rcases List.mem_cons.1 hx with rfl | hx
    · exact ⟨hb, List.mem_cons_self⟩
    · exact ⟨(h1 x hx).1, List.mem_cons_of_mem _ (h1 x hx).2⟩
theorem f1e {l : List Nat} (h : Byt l) : Byt (l.takeWhile isDg) ∧ Byt (l.dropWhile isDg) := ⟨fun x hx => h x ((o0e l).1 x hx).2, fun x hx => h x ((o0e l).2.1 x hx)⟩
theorem i0q (c : Nat) (l : List Nat) : (mayT c l).2.length ≤ l.length := by
 cases l with
 | nil => exact Nat.le_refl _
 | cons b r =>
  rw [show mayT c (b :: r) = if b = c then (true, r) else (false, b :: r) from rfl]
  split
  · exact Nat.le_succ _
  · exact Nat.le_refl _
def numE (g : Bool) (d : List Nat) (pw : Int) (l : List Nat) : Option Numl :=
 if d = [] then none else match powT l with | none => none | some (e, r) => if r = [] then some ⟨g, d, e + pw⟩ else none
theorem f1f (l : List Nat) : numl l = match q0x ((mayT 45 l).2.dropWhile isDg) with | none => none | some (f, r) => numE (mayT 45 l).1 ((mayT 45 l).2.takeWhile isDg ++ f) (-(f.length : Int)) r := by
 unfold numl
 rw [u0k]
 rfl
theorem m0p {o : Option Numl} {g : Bool} {d : List Nat} {pw e q : Int} {l r : List Nat} (h : o = numE g d pw l) (hd : d.isEmpty = false) (hp : powT l = some (e, r)) (hq : q = e + pw) : o = if r.isEmpty = true then some ⟨g, d, q⟩ else none := by
 subst hq
 rw [h]
 unfold numE
 rw [if_neg (fun k => by rw [k] at hd; cases hd), hp]
 cases r <;> rfl
abbrev LN := List Nat
theorem c0t {P : Program} {W : World} (xs ys : List Nat) (h : xs.length + ys.length ≤ 9223372036854775807) {t : TypeId} {x y : Operand} : (do eqGuard .add t x y (.string (a0d xs)) (.string (a0d ys)); binOp .add t (.string (a0d xs)) (.string (a0d ys)) : Sem Value).run P W = .ok (.string (a0d (xs ++ ys))) W := by
 rw [← n1h]
 exact i1w (by rw [a0m, a0m]; exact h)
theorem h0j {P : Program} {W : World} {l : List Nat} (h : Byt l) {t : TypeId} {x y : Operand} : (do eqGuard .eql t x y (.string (a0d l)) (.string ⟨#[]⟩); binOp .eql t (.string (a0d l)) (.string ⟨#[]⟩) : Sem Value).run P W = .ok (.bool l.isEmpty) W :=
 h0i ((s0e h).trans List.isEmpty_iff.symm)
end Go.Slip
namespace Go.Proofs.YtbamiajjampgnaaGreatDoor
open Go.RowKit Go.Slip
theorem w0w (t : ByteArray) (w : World) (ht : t.size ≤ 1000) :
 Calls Tryz.prog 43 #[.string t] w fun en w' => ∃ g ds pw ok, en = .returned (.tuple #[.bool g, .string (a0d ds), .int .i64 pw, .bool ok]) ∧ (numl (a0b t) = (if ok = true then some ⟨g, ds, pw⟩ else none) ∧ Byt ds) ∧ Below w.heap.size w w' := by
 have hb0 := Byt.of t
 have hl0 : (a0b t).length ≤ 1000 := by rw [a0z]; exact ht
 have hN := f1f (a0b t)
 have hst := h0g t
 generalize a0b t = l0 at *
 rw [← hst]
 clear hst
 have hM := fun c l hb u W U => hi0 (n1i l hb c u W U)
 have hD := fun l hb hl u W U => hi0 (a1l l hb hl u W U)
 have hA := fun x h1 h2 h3 W => hi0 (j1a x h1 h2 h3 W)
 -- the parts, one behind the other
 have hb1 := m0o hb0 45
 have hl1 := i0q 45 l0
 obtain ⟨g, l1, e1⟩ : ∃ g l1, mayT 45 l0 = (g, l1) := ⟨_, _, rfl⟩
 have m1 := hM 45 l0 hb0
 rw [e1] at hb1 hl1 m1
 have hb2 := f1e hb1
 have hs2 := o0e l1
 have d2 := hD l1 hb1 (by simp only at hl1; omega)
 rw [e1] at hN
 simp only at hN hb1 hl1 hb2 hs2 m1
 generalize l1.takeWhile isDg = d at *
 generalize l1.dropWhile isDg = l2 at *
 rw [u0l] at hN
 have hb3 := m0o hb2.2 46
 have hl3 := i0q 46 l2
 have m3 := hM 46 l2 hb2.2
 obtain ⟨p, l3, e3⟩ : ∃ p l3, mayT 46 l2 = (p, l3) := ⟨_, _, rfl⟩
 rw [e3] at hb3 hl3 m3 hN
 have hb4 := f1e hb3
 have hs4 := o0e l3
 have d4 := hD l3 hb3 (by simp only at hl3; omega)
 simp only at hN hb3 hl3 hb4 hs4 m3
 generalize l3.takeWhile isDg = f at *
 generalize l3.dropWhile isDg = l4 at *
 have hN1 : numl l0 = (match (if p = true then if f = [] then none else some (f, l4) else some ([], l3) : Option (List Nat × List Nat)) with | none => none | some (f, r) => numE g (d ++ f) (-(f.length : Int)) r) := hN
 clear hN
 have I := Inv.start w [] True.intro
 refine a0h [.v (.string (a0d l0))] I Tryz.func43 ?_
 refine zge I 0 170 (fun Al W I => (m1 _ W (I.box 0 170 _)).out) fun Al V Iv _ _ kz => ?_
 rintro _ W ⟨rfl, hO, hB⟩
 refine ⟨_, rfl, kz _ [.v (.string (a0d l1))] _ hO hB fun I => ?_⟩
 refine zge I 0 170 (fun Al W I => (d2 _ W (I.box 0 170 _)).out) fun Al V Iv _ _ kz => ?_
 rintro _ W ⟨rfl, hO, hB⟩
 refine ⟨_, rfl, kz _ [.v (.string (a0d l2))] _ hO hB fun I => ?_⟩
 refine zge I 0 170 (fun Al W I => (m3 _ W (I.box 0 170 _)).out) fun Al V Iv _ _ kz => ?_
 rintro _ W ⟨rfl, hO, hB⟩
 refine ⟨_, rfl, kz _ [.v (.string (a0d l3))] _ hO hB fun I => ?_⟩
 refine zcut I (some 2000023) (fun fr bx gs => ∃ (U1 : Nat → Value) (D : LN) (pw : Int) (lr : LN), fr = (.v (.string (a0d l0)) :: .v undef :: sw U1 2 4 (.p 0 0 :: .v (.bool g) :: .v (.string (a0d D)) :: .v (.int .i64 pw) :: .v (U1 10) :: su 3 (sw U1 14 9 (.v (.bool p) :: sw U1 24 11 (.v undef :: .v (U1 36) :: .v undef :: sw U1 38 10 (.v undef :: sw U1 49 5 (.v undef :: sw U1 55 13 [])))))) : List SV) ∧ bx = [⟨170, [.v (.string (a0d lr))], false⟩] ∧ gs = [] ∧ (numl l0 = numE g D pw lr) ∧ (Byt D) ∧ (Byt lr) ∧ (lr.length ≤ 1000) ∧ (-1000 ≤ pw ∧ pw ≤ 0)) ?_ ?_
 · intro J hJ Al W I
   rcases Bool.eq_false_or_eq_true p with rfl | rfl
   · refine zge I 0 170 (fun Al W I => (d4 _ W (I.box 0 170 _)).out) fun Al V Iv _ _ kz => ?_
     rintro _ W ⟨rfl, hO, hB⟩
     refine ⟨_, rfl, kz _ [.v (.string (a0d l4))] _ hO hB fun I => ?_⟩
     rcases Bool.eq_false_or_eq_true (f.isEmpty) with f27 | f27
     · refine zbin I 27 (.bool true) (fun _ _ _ _ W => ((h0j hb4.1)).trans (congrArg (fun z => Result.ok (Value.bool z) W) (show (f.isEmpty) = true from f27))) fun Al W I => ?_
       exact zret I (v := fun Al => .tuple #[.bool false, Go.Value.string (ByteArray.mk #[]), .int .i64 0, .bool false]) fun Al W I => ⟨false, [], 0, false, rfl, ⟨by rw [hN1, if_pos rfl, if_pos (List.isEmpty_iff.1 f27)]; rfl, fun _ h => (nomatch h)⟩, I.below⟩
     refine zbin I 27 (.bool false) (fun _ _ _ _ W => ((h0j hb4.1)).trans (congrArg (fun z => Result.ok (Value.bool z) W) (show (f.isEmpty) = false from f27))) fun Al W I => ?_
     refine zbin I 30 _ (fun _ _ _ _ _ => (c0t d f (by omega))) fun Al W I => ?_
     refine zi I 33 .i64 (0 - (((a0d f).size : Nat) : Int)) ((-(f.length : Int))) ((by rw [a0m, Int.zero_sub]; exact iwo)) fun Al W I => ?_
     exact a0k I J fun Al W U I => hJ _ _ _ _ _ ⟨U, (d ++ f), (-(f.length : Int)), l4, rfl, rfl, rfl, (by rw [hN1, if_pos rfl, if_neg (fun h => by rw [h] at f27; cases f27)]), (hb2.1.append hb4.1), hb4.2, (by omega), (by omega)⟩ (I.pick [])
   exact a0k I J fun Al W U I => hJ _ _ _ _ _ ⟨U, d, 0, l3, rfl, rfl, rfl, (by rw [hN1, if_neg Bool.false_ne_true]; simp), hb2.1, hb3, (by omega), (by omega)⟩ (I.pick [])
 rintro _ _ _ ⟨U1, D, pw, lr, rfl, rfl, rfl, hN2, hbD, hbl, hll, hpw⟩ Al W I
 rcases Bool.eq_false_or_eq_true (D.isEmpty) with f35 | f35
 · refine zbin I 35 (.bool true) (fun _ _ _ _ W => ((h0j hbD)).trans (congrArg (fun z => Result.ok (Value.bool z) W) (show (D.isEmpty) = true from f35))) fun Al W I => ?_
   refine zret I (v := fun Al => .tuple #[.bool false, Go.Value.string (ByteArray.mk #[]), .int .i64 0, .bool false]) fun Al W I => ?_
   first | exact ⟨false, [], 0, false, rfl, ⟨by rw [hN2]; unfold numE; rw [if_pos (List.isEmpty_iff.1 f35)]; rfl, fun _ h => (nomatch h)⟩, I.below⟩ | exact ⟨g, D, q, le.isEmpty, rfl, ⟨m0p hN2 f35 hQ (by omega), hbD⟩, I.below⟩
 refine zbin I 35 (.bool false) (fun _ _ _ _ W => ((h0j hbD)).trans (congrArg (fun z => Result.ok (Value.bool z) W) (show (D.isEmpty) = false from f35))) fun Al W I => ?_
 have hb5 := m0o hbl 101
 have hl5 := i0q 101 lr
 have m5 := hM 101 lr hbl
 have hP := j1e lr
 obtain ⟨pe, l5, e5⟩ : ∃ pe l5, mayT 101 lr = (pe, l5) := ⟨_, _, rfl⟩
 rw [e5] at hb5 hl5 m5 hP
 simp only at hb5 hl5 m5 hP
 refine zge I 0 170 (fun Al W I => (m5 _ W (I.box 0 170 _)).out) fun Al V Iv _ _ kz => ?_
 rintro _ W ⟨rfl, hO, hB⟩
 refine ⟨_, rfl, kz _ [.v (.string (a0d l5))] _ hO hB fun I => ?_⟩
 refine zcut I (some 2000037) (fun fr bx gs => ∃ (U2 : Nat → Value) (q : Int) (le : LN), fr = (.v (.string (a0d l0)) :: .v undef :: sw U2 2 4 (.p 0 0 :: .v (.bool g) :: .v (.string (a0d D)) :: .v (.int .i64 q) :: .v (U1 10) :: sw U2 11 12 (.v (.bool p) :: sw U2 24 3 (.v (U1 27) :: sw U2 28 7 (.v (.bool false) :: .v (U2 36) :: .v (.bool pe) :: sw U2 38 30 [])))) : List SV) ∧ bx = [⟨170, [.v (.string (a0d le))], false⟩] ∧ gs = [] ∧ (powT lr = some (q - pw, le)) ∧ (Byt le)) ?_ ?_
 · intro J hJ Al W I
   rcases Bool.eq_false_or_eq_true pe with rfl | rfl
   · rw [if_pos rfl] at hP
     have hb6 := m0o hb5 45
     have hl6 := i0q 45 l5
     have m6 := hM 45 l5 hb5
     obtain ⟨mi, l6, e6⟩ : ∃ mi l6, mayT 45 l5 = (mi, l6) := ⟨_, _, rfl⟩
     rw [e6] at hb6 hl6 m6 hP
     have d6 := hD l6 hb6 (by simp only at hl6; omega)
     simp only at hb6 hl6 m6 hP
     have hb7 := f1e hb6
     have hs7 := o0e l6
     generalize l6.takeWhile isDg = x at *
     generalize l6.dropWhile isDg = l7 at *
     have hx10 : x.length ≤ 5 → a0n x < 100000 := fun h => Nat.lt_of_lt_of_le (g0w x fun j hj => by rw [a0t hj]; exact (e0w.1 (hs7.1 _ (List.getElem_mem hj)).1).2) (Nat.pow_le_pow_right (n := 10) (by omega) h)
     refine zge I 0 170 (fun Al W I => (m6 _ W (I.box 0 170 _)).out) fun Al V Iv _ _ kz => ?_
     rintro _ W ⟨rfl, hO, hB⟩
     refine ⟨_, rfl, kz _ [.v (.string (a0d l6))] _ hO hB fun I => ?_⟩
     refine zge I 0 170 (fun Al W I => (d6 _ W (I.box 0 170 _)).out) fun Al V Iv _ _ kz => ?_
     rintro _ W ⟨rfl, hO, hB⟩
     refine ⟨_, rfl, kz _ [.v (.string (a0d l7))] _ hO hB fun I => ?_⟩
     rcases Bool.eq_false_or_eq_true (x.isEmpty) with f43 | f43
     · refine zbin I 43 (.bool true) (fun _ _ _ _ W => ((h0j hb7.1)).trans (congrArg (fun z => Result.ok (Value.bool z) W) (show (x.isEmpty) = true from f43))) fun Al W I => ?_
       refine zret I (v := fun Al => .tuple #[.bool false, Go.Value.string (ByteArray.mk #[]), .int .i64 0, .bool false]) fun Al W I => ?_
       first | exact ⟨false, [], 0, false, rfl, ⟨by rw [hN2]; unfold numE; rw [if_pos (List.isEmpty_iff.1 f35)]; rfl, fun _ h => (nomatch h)⟩, I.below⟩ | exact ⟨false, [], 0, false, rfl, ⟨by rw [hN2]; unfold numE; rw [if_neg (fun h => by rw [h] at f35; cases f35), hP, if_pos (by exact .inl (List.isEmpty_iff.1 f43))]; rfl, fun _ h => (nomatch h)⟩, I.below⟩ | exact ⟨g, D, q, le.isEmpty, rfl, ⟨m0p hN2 f35 hQ (by omega), hbD⟩, I.below⟩
     refine zbin I 43 (.bool false) (fun _ _ _ _ W => ((h0j hb7.1)).trans (congrArg (fun z => Result.ok (Value.bool z) W) (show (x.isEmpty) = false from f43))) fun Al W I => ?_
     rcases Bool.eq_false_or_eq_true (decide ((((a0d x).size : Nat) : Int) > 5)) with f47 | f47
     · refine zb I 47 (decide ((((a0d x).size : Nat) : Int) > 5)) (true) (f47) fun Al W I => ?_
       refine zret I (v := fun Al => .tuple #[.bool false, Go.Value.string (ByteArray.mk #[]), .int .i64 0, .bool false]) fun Al W I => ?_
       first | exact ⟨false, [], 0, false, rfl, ⟨by rw [hN2]; unfold numE; rw [if_pos (List.isEmpty_iff.1 f35)]; rfl, fun _ h => (nomatch h)⟩, I.below⟩ | exact ⟨false, [], 0, false, rfl, ⟨by rw [hN2]; unfold numE; rw [if_neg (fun h => by rw [h] at f35; cases f35), hP, if_pos (by first | exact .inl (List.isEmpty_iff.1 f43) | exact .inr (by have := oTr f47; rw [a0m] at this; omega))]; rfl, fun _ h => (nomatch h)⟩, I.below⟩ | exact ⟨g, D, q, le.isEmpty, rfl, ⟨m0p hN2 f35 hQ (by omega), hbD⟩, I.below⟩
     refine zb I 47 (decide ((((a0d x).size : Nat) : Int) > 5)) (false) (f47) fun Al W I => ?_
     refine zq I (fun Al W I => have hzW := I.bel.size; (hA x (fun y hy => (hs7.1 y hy).1) (fun h => by rw [h] at f43; cases f43) (by have := oFa f47; rw [a0m] at this; omega) W).out) fun Al W I => ?_
     have hx5 : x.length ≤ 5 := by have := oFa f47; rw [a0m] at this; omega
     have hx6 := hx10 hx5
     rw [if_neg (fun h => h.elim (fun h => by rw [h] at f43; cases f43) (fun h => by omega))] at hP
     refine zcut I (some 2000054) (fun fr bx gs => ∃ (U3 : Nat → Value) (nn : Int), fr = (.v (.string (a0d l0)) :: .v undef :: sw U1 2 4 (.p 0 0 :: .v (.bool g) :: .v (.string (a0d D)) :: .v (.int .i64 pw) :: .v (U1 10) :: .v (.bool mi) :: .v (.string (a0d x)) :: .v (.int .i64 nn) :: sw U3 14 9 (.v (.bool p) :: sw U3 24 3 (.v (U1 27) :: sw U3 28 7 (.v (.bool false) :: .v (U3 36) :: .v (.bool true) :: sw U3 38 10 (.v (.bool false) :: sw U3 49 5 (.v (.bool mi) :: sw U3 55 13 [])))))) : List SV) ∧ bx = [⟨170, [.v (.string (a0d l7))], false⟩] ∧ gs = [] ∧ ((if mi then -((a0n x : Nat) : Int) else ((a0n x : Nat) : Int)) = nn)) ?_ ?_
     · intro J hJ Al W I
       rcases Bool.eq_false_or_eq_true mi with rfl | rfl
       · refine zi I 56 .i64 (0 - ((a0n x : Nat) : Int)) ((-((a0n x : Nat) : Int))) ((by rw [Int.zero_sub]; exact iwo)) fun Al W I => ?_
         exact a0k I J fun Al W U I => hJ _ _ _ _ _ ⟨U, -((a0n x : Nat) : Int), rfl, rfl, rfl, rfl⟩ (I.pick [])
       exact a0k I J fun Al W U I => hJ _ _ _ _ _ ⟨U, ((a0n x : Nat) : Int), rfl, rfl, rfl, rfl⟩ (I.pick [])
     rintro _ _ _ ⟨U3, nn, rfl, rfl, rfl, hnn⟩ Al W I
     rw [hnn] at hP
     have hnb : -100000 ≤ nn ∧ nn ≤ 100000 := by rw [← hnn]; split <;> omega
     refine zi I 59 .i64 (pw + nn) ((nn + pw)) ((by rw [Int.add_comm]; exact iwo)) fun Al W I => ?_
     exact a0k I J fun Al W U I => hJ _ _ _ _ _ ⟨U, nn + pw, l7, rfl, rfl, rfl, (by rw [hP]; congr 2; omega), hb7.2⟩ (I.pick [])
   exact a0k I J fun Al W U I => hJ _ _ _ _ _ ⟨U, pw, l5, rfl, rfl, rfl, (by rw [hP, if_neg Bool.false_ne_true]; congr 2; omega), hb5⟩ (I.pick [])
 rintro _ _ _ ⟨U2, q, le, rfl, rfl, rfl, hQ, hbe⟩ Al W I
 refine zd [] I fun Al W I => ?_
 refine zk [0, 1, 2, 3, 4, 5, 6, 8, 9, 10] I fun I => ?_
 refine zo 7 I fun I => ?_
 refine zbin I 67 _ (fun _ _ _ _ _ => (h0j hbe)) fun Al W I => ?_
 refine zk [11] I fun I => ?_
 refine zret I (v := fun Al => .tuple #[.bool g, .string (a0d D), .int .i64 q, .bool le.isEmpty]) fun Al W I => ?_
 first | exact ⟨false, [], 0, false, rfl, ⟨by rw [hN2]; unfold numE; rw [if_pos (List.isEmpty_iff.1 f35)]; rfl, fun _ h => (nomatch h)⟩, I.below⟩ | exact ⟨g, D, q, le.isEmpty, rfl, ⟨m0p hN2 f35 hQ (by omega), hbD⟩, I.below⟩
end Go.Proofs.YtbamiajjampgnaaGreatDoor
namespace Go.Slip
open Go.RowKit
def ratL (l : List Nat) : Bool × Nat × Nat × Int := if errT l.length (numl l) = 0 then (match numl l with | some q => f0l q | none => (false, 0, 0, 0)) else (false, 0, 0, 0)
theorem j1f {l : List Nat} (h : 400 < l.length) : errT l.length (numl l) = 2 ∧ ratL l = (false, 0, 0, 0) := by
 have h1 : errT l.length (numl l) = 2 := by unfold errT; rw [if_pos h]
 exact ⟨h1, by unfold ratL; rw [h1]; rfl⟩
theorem j1g {l : List Nat} (h : ¬ 400 < l.length) (hn : numl l = none) : errT l.length (numl l) = 1 ∧ ratL l = (false, 0, 0, 0) := by
 have h1 : errT l.length (numl l) = 1 := by unfold errT; rw [if_neg h, hn]
 exact ⟨h1, by unfold ratL; rw [h1]; rfl⟩
theorem f1g {l : List Nat} (h : ¬ 400 < l.length) {q : Numl} (hn : numl l = some q) (hp : q.pow < -6000 ∨ 6000 < q.pow) : errT l.length (numl l) = 3 ∧ ratL l = (false, 0, 0, 0) := by
 have h1 : errT l.length (numl l) = 3 := by unfold errT; rw [if_neg h, hn]; exact if_pos hp
 exact ⟨h1, by unfold ratL; rw [h1]; rfl⟩
theorem f1h {l : List Nat} (h : ¬ 400 < l.length) {q : Numl} (hn : numl l = some q) (hp : ¬ (q.pow < -6000 ∨ 6000 < q.pow)) : errT l.length (numl l) = 0 ∧ ratL l = f0l q := by
 have h1 : errT l.length (numl l) = 0 := by unfold errT; rw [if_neg h, hn]; exact if_neg hp
 exact ⟨h1, by unfold ratL; rw [h1, hn]; rfl⟩
theorem a1p {l f r : List Nat} (h : q0x l = some (f, r)) : (∀ x ∈ f, isDg x = true) ∧ f.length ≤ l.length := by
 rw [u0l] at h
 have hl := i0q 46 l
 have hs := o0e (mayT 46 l).2
 split at h
 · split at h
   · cases h
   · injection h with h; injection h with h1 h2; subst h1
     exact ⟨fun x hx => (hs.1 x hx).1, by omega⟩
 · injection h with h; injection h with h1 h2; subst h1
   exact ⟨fun _ hx => (nomatch hx), Nat.zero_le _⟩
theorem u0m {l : List Nat} {q : Numl} (h : numl l = some q) : (∀ x ∈ q.ds, isDg x = true) ∧ q.ds.length ≤ 2 * l.length := by
 rw [f1f] at h
 have hl := i0q 45 l
 have hs := o0e (mayT 45 l).2
 generalize (mayT 45 l).2 = m at *
 cases hf : q0x (m.dropWhile isDg) with
 | none => rw [hf] at h; cases h
 | some fr =>
  obtain ⟨f, r⟩ := fr
  rw [hf] at h
  simp only at h
  have hF := a1p hf
  unfold numE at h
  split at h
  · cases h
  · split at h
    · cases h
    · split at h
      · injection h with h
        subst h
        exact ⟨fun x hx => (List.mem_append.1 hx).elim (fun k => (hs.1 x k).1) (hF.1 x), by rw [List.length_append]; omega⟩
      · cases h
theorem a1q {q : Numl} (h : a0n q.ds = 0) : f0l q = (false, 0, 1, 0) := by unfold f0l; rw [if_pos h]
theorem j1h {q : Numl} (h : a0n q.ds ≠ 0) (hp : 0 ≤ q.pow) : f0l q = (q.neg, a0n q.ds / 2 ^ tz (a0n q.ds) * 5 ^ q.pow.toNat, 1, tz (a0n q.ds) + q.pow) := by unfold f0l; rw [if_neg h, if_pos hp]
theorem j1i {q : Numl} (h : a0n q.ds ≠ 0) (hp : ¬ 0 ≤ q.pow) {n f : Nat} (hc : b0r (a0n q.ds / 2 ^ tz (a0n q.ds)) (-q.pow).toNat = (n, f)) : f0l q = (q.neg, n, 5 ^ f, tz (a0n q.ds) + q.pow) := by unfold f0l; rw [if_neg h, if_neg hp, hc]
theorem n1m {B : Nat} (hB : 10 ≤ B) {l : List Nat} (h : ∀ x ∈ l, isDg x = true) : (dig B (a0n l)).length ≤ l.length := by
 rw [a0e (by omega)]
 exact Nat.lt_of_lt_of_le (g0w l fun j hj => by rw [a0t hj]; exact (e0w.1 (h _ (List.getElem_mem hj))).2) (Nat.pow_le_pow_left hB _)
theorem f1i {l : List Nat} (h : ∀ x ∈ l, isDg x = true) : k1i (a0d l) := fun j hj => by
 have hb : Byt l := fun x hx => by have := e0w.1 (h x hx); omega
 rw [a0m] at hj
 rw [b0f hb, a0t hj]
 exact e0w.1 (h _ (List.getElem_mem hj))
theorem m0e {n P : Nat} (h : P = 0 ∨ n % 5 ≠ 0) : b0r n P = (n, P) := by
 cases P with
 | zero => rfl
 | succ P => rw [b0r, if_neg (h.resolve_left (by omega))]
theorem u0n {n P : Nat} (h0 : 0 < P) (h : n % 5 = 0) : b0r n P = b0r (n / 5) (P - 1) := by
 cases P with
 | zero => omega
 | succ P => rw [b0r, if_pos h]; rfl
end Go.Slip
namespace Go.Proofs.YtbamiajjampgnaaGreatDoor
open Go.RowKit Go.Slip
theorem n1n (p : Option Addr) (c m : Nat) (w : World) (hp : Rd w .u32 p (dig B32 m)) (hc : (dig B32 m).length ≤ c) (hl : (dig B32 m).length ≤ 1000000) (hT : TabW w) :
 Calls Tryz.prog 47 #[.slice p (dig B32 m).length c] w fun en w' => ∃ q d, en = .returned (.tuple #[.slice q (dig B32 (m / 2 ^ tz m)).length d, .int .i64 ((tz m : Nat) : Int)]) ∧ Own w' w.heap.size .u32 143 q d (dig B32 (m / 2 ^ tz m)) ∧ Below w.heap.size w w' := by
 have htz := e1k m hl
 have HZ := fun W h hT => hi0 ((k0a p _ c m W h rfl (by omega) hT).mono fun _ _ ⟨h1, h2⟩ => ⟨h1, h2 ▸ Below.refl _ _⟩ : Calls Tryz.prog 113 #[.slice p (dig B32 m).length c] W fun en W' => en = .returned (.int .i64 ((tz m : Nat) : Int)) ∧ Below W.heap.size W W')
 have HS := fun W h => hi0 (sshr p _ c m (tz m) _ _ W h rfl hc (by omega) (by omega) rfl rfl)
 generalize tz m = z at *
 have I := Inv.start w [rdF .u32 p (dig B32 m), tabF] ⟨hp, hT, True.intro⟩
 refine a0h [.v (.slice p (dig B32 m).length c)] I Tryz.func47 ?_
 refine zq I (fun Al W I => (HZ W I.fa.1 I.fa.2.1).out) fun Al W I => ?_
 refine zqo I (fun Al W I => (HS W I.fa.1).out) fun Al W p9 c9 I => ?_
 exact zret I fun Al W I => ⟨p9, c9, rfl, I.fa.1, I.below⟩
def m0q (w : World) (er : Int) (R : Bool × Nat × Nat × Int) (en : Ending) (w' : World) : Prop :=
 ∃ p c q d, en = .returned (.tuple #[.agg #[.bool R.1, .slice p (dig B32 R.2.1).length c, .slice q (dig B32 R.2.2.1).length d, .int .i64 R.2.2.2], .int .i64 er]) ∧ Own w' w.heap.size .u32 143 p c (dig B32 R.2.1) ∧ Own w' w.heap.size .u32 143 q d (dig B32 R.2.2.1) ∧ Below w.heap.size w w'
theorem b0u {w w' : World} {er k : Int} {R : Bool × Nat × Nat × Int} {en : Ending} (h : er = k ∧ R = (false, 0, 0, 0)) (he : en = .returned (.tuple #[.agg #[.bool false, .slice none 0 0, .slice none 0 0, .int .i64 0], .int .i64 k])) (hb : Below w.heap.size w w') : m0q w er R en w' := by
 obtain ⟨rfl, rfl⟩ := h
 have e : dig B32 0 = [] := a0c _
 refine ⟨none, 0, none, 0, ?_, ?_, ?_, hb⟩
 · rw [he]; simp only [e]; rfl
 · show Own _ _ _ _ _ _ (dig B32 0); rw [e]; exact Own.nil _ _ _ _
 · show Own _ _ _ _ _ _ (dig B32 0); rw [e]; exact Own.nil _ _ _ _
theorem u0o {w w' : World} {p : Option Addr} {c : Nat} {en : Ending} (he : en = .returned (.tuple #[.agg #[.bool false, .slice none 0 0, .slice p (dig B32 1).length c, .int .i64 0], .int .i64 0])) (h : Own w' w.heap.size .u32 143 p c (dig B32 1)) (hb : Below w.heap.size w w') : m0q w 0 (false, 0, 1, 0) en w' := by
 have e : dig B32 0 = [] := a0c _
 refine ⟨none, 0, p, c, ?_, ?_, h, hb⟩
 · rw [he]; simp only [e]; rfl
 · show Own _ _ _ _ _ _ (dig B32 0); rw [e]; exact Own.nil _ _ _ _
theorem u0p (t : ByteArray) (w : World) (hT : TabW w) : Calls Tryz.prog 11 #[.string t] w (m0q w (errT (a0b t).length (numl (a0b t))) (ratL (a0b t))) := by
 have hz : t.size = (a0b t).length := (a0z t).symm
 have HN := fun W h => hi0 (w0w t W h)
 have h1 := @j1f (a0b t)
 have h2 := @j1g (a0b t)
 have h3 := @f1g (a0b t)
 have h4 := @f1h (a0b t)
 have h5 := @u0m (a0b t)
 generalize errT (a0b t).length (numl (a0b t)) = er at *
 generalize ratL (a0b t) = R at *
 generalize numl (a0b t) = N at *
 generalize (a0b t).length = L at *
 have HTr := fun l hb W => hi0 (j1c l hb W)
 have HPa := fun s h1 h2 W => hi0 (d1y s W h1 h2)
 have HO := fun (k : Nat) hk W => hi0 (sof (k : Int) k rfl hk W)
 have HPw := fun p c K W base ho hb hK => hi0 (y0h base p c 5 K W ho hb (by omega) hK)
 have HMu := fun p q c d a b W hp hq hl => hi0 (r0o p q _ _ c d a b W hp hq rfl rfl hl)
 have HOd := fun p c m W hp hc hl hT => hi0 (n1n p c m W hp hc hl hT)
 have HDv := fun p q c d a W hp hq hl => hi0 (h0b p q _ _ c d a 5 W hp hq rfl rfl hl (Nat.le_trans ((a0e a0a 5 1).2 (by decide)) (by omega)) (by omega))
 have I := Inv.start w [tabF] ⟨hT, True.intro⟩
 refine a0h [.v (.string t)] I Tryz.func11 ?_
 rcases Bool.eq_false_or_eq_true (decide ((t.size : Int) > 400)) with f16 | f16
 · refine zb I 16 (decide ((t.size : Int) > 400)) (true) (f16) fun Al W I => ?_
   exact zret I fun Al W I => b0u (h1 (by have := oTr f16; omega)) rfl I.below
 refine zb I 16 (decide ((t.size : Int) > 400)) (false) (f16) fun Al W I => ?_
 refine zg I (fun Al W I => have hzW := I.bel.size; (HN W (by have := oFa f16; omega)).out) fun Al V Iv _ hB _ kz => ?_
 rintro _ W ⟨g, ds, pw, ok, rfl, hN, hb⟩
 refine ⟨_, rfl, kz _ _ hb fun I => ?_⟩
 rcases Bool.eq_false_or_eq_true (!ok) with f26 | f26
 · refine zb I 26 (!ok) (true) (f26) fun Al W I => ?_
   exact zret I (v := fun Al => .tuple #[.agg #[.bool false, .slice none 0 0, .slice none 0 0, .int .i64 0], .int .i64 1]) fun Al W I => b0u (h2 (by have := oFa f16; omega) (by rw [hN.1, if_neg (by simpa using f26)])) rfl I.below
 refine zb I 26 (!ok) (false) (f26) fun Al W I => ?_
 rcases Bool.eq_false_or_eq_true (decide (pw < (-6000))) with f29 | f29
 · have hN2 : N = some ⟨g, ds, pw⟩ := by rw [hN.1, if_pos (by simpa using f26)]
   refine zb I 29 (decide (pw < (-6000))) (true) (f29) fun Al W I => ?_
   refine zret I (v := fun Al => .tuple #[.agg #[.bool false, .slice none 0 0, .slice none 0 0, .int .i64 0], .int .i64 3]) fun Al W I => ?_
   first | exact b0u (h2 (by have := oFa f16; omega) (by rw [hN.1, if_neg (by simpa using f26)])) rfl I.below | exact b0u (h3 (by have := oFa f16; omega) hN2 (by exact .inl (oTr f29))) rfl I.below
 have hN2 : N = some ⟨g, ds, pw⟩ := by rw [hN.1, if_pos (by simpa using f26)]
 refine zb I 29 (decide (pw < (-6000))) (false) (f29) fun Al W I => ?_
 rcases Bool.eq_false_or_eq_true (decide (pw > 6000)) with f32 | f32
 · refine zb I 32 (decide (pw > 6000)) (true) (f32) fun Al W I => ?_
   refine zret I (v := fun Al => .tuple #[.agg #[.bool false, .slice none 0 0, .slice none 0 0, .int .i64 0], .int .i64 3]) fun Al W I => ?_
   first | exact b0u (h2 (by have := oFa f16; omega) (by rw [hN.1, if_neg (by simpa using f26)])) rfl I.below | exact b0u (h3 (by have := oFa f16; omega) hN2 (by exact .inr (oTr f32))) rfl I.below
 refine zb I 32 (decide (pw > 6000)) (false) (f32) fun Al W I => ?_
 have hdg := (h5 hN2).1
 have hdl := (h5 hN2).2
 have hrk := h4 (by have := oFa f16; omega) hN2 (fun (h : pw < -6000 ∨ 6000 < pw) => by have := oFa f29; have := oFa f32; omega)
 have hpw : -6000 ≤ pw ∧ pw ≤ 6000 := by have := oFa f29; have := oFa f32; omega
 have tr := HTr ds hN.2
 have hzd : ∀ x ∈ ds.dropWhile (· == 48), isDg x = true := fun x hx => hdg x (f1b x hx)
 have hzl : (ds.dropWhile (· == 48)).length ≤ ds.length := (List.dropWhile_sublist _).length_le
 have hnm := a1o ds
 generalize ds.dropWhile (· == 48) = dz at *
 have pz := HPa (a0d dz) (by rw [a0m]; simp only at hdl; omega) (f1i hzd)
 have hSl : (dig B32 (a0n ds)).length ≤ 800 := by rw [← hnm]; exact Nat.le_trans (n1m (B := B32) (by decide) hzd) (by simp only at hdl; omega)
 rw [b0f (fun x hx => by have := e0w.1 (hzd x hx); omega), hnm] at pz
 have r0 := a1q (q := ⟨g, ds, pw⟩)
 have r1 := j1h (q := ⟨g, ds, pw⟩)
 have r2 := fun h hp n f => j1i (q := ⟨g, ds, pw⟩) h hp (n := n) (f := f)
 simp only at r0 r1 r2
 generalize a0n ds = S at *
 have hod := fun p c W hp hc hl hT => HOd p c S W hp hc hl hT
 have hol : (dig B32 (S / 2 ^ tz S)).length ≤ 800 := Nat.le_trans (a0i a0a (Nat.div_le_self _ _)) hSl
 have hzb := e1k S hSl
 have hS0 := a0f a0a S
 generalize S / 2 ^ tz S = o at *
 generalize tz S = z at *
 have h5l : ∀ k, k ≤ 6000 → (dig B32 (5 ^ k)).length ≤ 6001 := fun k hk => h0e (K := 6001) a0a (by decide) (by omega) (by omega)
 refine zq I (fun Al W I => (tr W).out) fun Al W I => ?_
 refine zg I (fun Al W I => (pz W).out) fun Al V Iv _ hB _ kz => ?_
 rintro _ W ⟨p37, c37, rfl, o37, hb⟩
 refine ⟨_, rfl, kz _ _ hb fun I => ?_⟩
 have I := I.own o37
 rcases Bool.eq_false_or_eq_true ((((dig B32 S).length : Nat) : Int) == 0) with f40 | f40
 · refine zb I 40 ((((dig B32 S).length : Nat) : Int) == 0) (true) (f40) fun Al W I => ?_
   refine zqo I (fun Al W I => have hzW := I.bel.size; (HO 1 (by omega) W).out) fun Al W p41 c41 I => ?_
   refine zret I (v := fun Al => .tuple #[.agg #[.bool false, .slice none 0 0, .slice p41 (dig B32 1).length c41, .int .i64 0], .int .i64 0]) fun Al W I => ?_
   first | exact b0u (h2 (by have := oFa f16; omega) (by rw [hN.1, if_neg (by simpa using f26)])) rfl I.below | (rw [hrk.1, hrk.2, r0 (hS0.1 (by have := beq_iff_eq.1 f40; omega))]; exact u0o rfl I.fa.1 I.below)
 refine zb I 40 ((((dig B32 S).length : Nat) : Int) == 0) (false) (f40) fun Al W I => ?_
 refine zg I (fun Al W I => have hzW := I.bel.size; (hod p37 c37 W I.fa.1.rd I.fa.1.le_cap (by omega) I.fa.2.1).out) fun Al V Iv _ hB _ kz => ?_
 rintro _ W ⟨p45, c45, rfl, o45, hb⟩
 refine ⟨_, rfl, kz _ _ hb fun I => ?_⟩
 have I := I.own o45
 refine zg I (fun Al W I => have hzW := I.bel.size; (HO 5 (by omega) W).out) fun Al V Iv _ hB _ kz => ?_
 rintro _ W ⟨p48, c48, rfl, o48, hb⟩
 refine ⟨_, rfl, kz _ _ hb fun I => ?_⟩
 have I := I.own o48
 refine zi I 51 .i64 (0 - pw) ((-pw)) ((by rw [Int.zero_sub]; exact iwo)) fun Al W I => ?_
 refine zm I 52 .i64 (if ((-pw) : Int) > pw then (-pw) else pw) ((pw.natAbs : Int)) ((by omega)) fun Al W I => ?_
 refine zg I (fun Al W I => have hzW := I.bel.size; (HPw p48 c48 pw.natAbs W _ I.fa.1 I.below.size (by omega)).out) fun Al V Iv _ hB _ kz => ?_
 rintro _ W ⟨p53, c53, rfl, o53, hb⟩
 refine ⟨_, rfl, kz _ _ hb fun I => ?_⟩
 have I := I.own o53
 refine zqo I (fun Al W I => have hzW := I.bel.size; (HO 1 (by omega) W).out) fun Al W p56 c56 I => ?_
 refine zi I 59 .i64 ((z : Int) + pw) (((z : Int) + pw)) ((by exact iwo)) fun Al W I => ?_
 rcases Bool.eq_false_or_eq_true (decide (pw ≥ 0)) with f62 | f62
 · refine zb I 62 (decide (pw ≥ 0)) (true) (f62) fun Al W I => ?_
   refine zqo I (fun Al W I => have hzW := I.bel.size; (HMu p45 p53 c45 c53 o (5 ^ pw.natAbs) W I.fa.2.2.2.1.rd I.fa.2.1.rd (by have := h5l pw.natAbs (by omega); omega)).out) fun Al W p65 c65 I => ?_
   refine zret I (v := fun Al => .tuple #[.agg #[.bool g, .slice p65 (dig B32 (o * 5 ^ pw.natAbs)).length c65, .slice p56 (dig B32 1).length c56, .int .i64 ((z : Int) + pw)], .int .i64 0]) fun Al W I => ?_
   first | exact b0u (h2 (by have := oFa f16; omega) (by rw [hN.1, if_neg (by simpa using f26)])) rfl I.below | (rw [hrk.1, hrk.2, r1 (fun h => by have := hS0.2 h; have := bnF f40; omega) (oTr f62)]; have e := oTr f62; rw [show pw.toNat = pw.natAbs by omega]; exact ⟨p65, c65, p56, c56, rfl, I.fa.1, I.fa.2.1, I.below⟩)
 refine zb I 62 (decide (pw ≥ 0)) (false) (f62) fun Al W I => ?_
 refine i0u I (fun gk fr bx gs => ∃ (U900 : Nat → Value) (n : Nat) (P : Nat) (x : Int) (pn : Option Addr) (cn : Nat), fr = (.v (.string t) :: .v undef :: .p 0 0 :: .v (.int .i64 0) :: .v (.bool g) :: .v (.string (a0d ds)) :: .v (.int .i64 x) :: .v (.bool ok) :: .v (.slice p45 (dig B32 o).length c45) :: .v (.int .i64 (z : Int)) :: .v (.slice p53 (dig B32 (5 ^ pw.natAbs)).length c53) :: .p 1 0 :: sw U900 12 4 (.v (.bool false) :: sw U900 17 9 (.v (.bool false) :: sw U900 27 6 (.v (.bool false) :: sw U900 34 6 (.v (.bool false) :: sw U900 41 21 (.v (.bool false) :: sw U900 63 27 []))))) : List SV) ∧ bx = [⟨25, [.v (.bool false), .v (.slice none 0 0), .v (.slice none 0 0), .v (.int .i64 0)], false⟩, ⟨25, [.v (.bool g), .v (.slice pn (dig B32 n).length cn), .v (.slice p56 (dig B32 1).length c56), .v (.int .i64 ((z : Int) + pw))], false⟩] ∧ gs = [ownF w.heap.size .u32 143 pn cn (dig B32 n), ownF w.heap.size .u32 143 p56 c56 (dig B32 1), tabF] ∧ (b0r n P = b0r o pw.natAbs) ∧ (P ≤ 6000) ∧ (x = -(P : Int)) ∧ ((dig B32 n).length ≤ 800) ∧ (gk = P)) pw.natAbs (fun Al W U I => ⟨_, ⟨U, o, pw.natAbs, pw, p45, c45, rfl, rfl, rfl, rfl, (by omega), (by have := oFa f62; omega), hol, rfl⟩, I.pick [3, 0, 5]⟩) ?_
 rintro J0 gk0 _ _ _ ⟨U900, n, P, x, pn, cn, rfl, rfl, rfl, hcf, hPl, hx, hnl, hgk⟩ hJ0 Al W I
 rcases Bool.eq_false_or_eq_true (decide (x < 0)) with f69 | f69
 · refine zb I 69 (decide (x < 0)) (true) (f69) fun Al W I => ?_
   refine zd [] I fun Al W I => ?_
   refine zk [0, 1] I fun I => ?_
   refine zo 2 I fun I => ?_
   refine zqo I (fun Al W I => have hzW := I.bel.size; (HO 5 (by omega) W).out) fun Al W p73 c73 I => ?_
   refine zo 3 I fun I => ?_
   refine zg I (fun Al W I => have hzW := I.bel.size; (HDv pn p73 cn c73 n W I.fa.2.1.rd I.fa.1.rd (by omega)).out) fun Al V Iv _ hB _ kz => ?_
   rintro _ W ⟨p74, c74, q74, d74, rfl, a74, b74, hb, -⟩
   refine ⟨_, rfl, kz _ _ hb fun I => ?_⟩
   have I := I.own a74
   have I := I.own b74
   refine zk [4, 5, 6, 7, 8] I fun I => ?_
   rcases Bool.eq_false_or_eq_true (decide ((((dig B32 (n % 5)).length : Nat) : Int) > 0)) with f79 | f79
   · refine zb I 79 (decide ((((dig B32 (n % 5)).length : Nat) : Int) > 0)) (true) (f79) fun Al W I => ?_
     have hfin := m0e (n := n) (P := P) (by exact .inr (by have := oTr f79; have := a0f a0a (n % 5); omega))
     rw [hcf] at hfin
     refine zqo I (fun Al W I => have hzW := I.bel.size; (HO 5 (by omega) W).out) fun Al W p84 c84 I => ?_
     refine zi I 86 .i64 (0 - x) ((P : Int)) ((by rw [hx, show (0 : Int) - -(P : Int) = (P : Int) by omega]; exact iwo)) fun Al W I => ?_
     refine zqo I (fun Al W I => have hzW := I.bel.size; (HPw p84 c84 P W _ I.fa.1 I.below.size (by omega)).out) fun Al W p87 c87 I => ?_
     refine zret I (v := fun Al => .tuple #[.agg #[.bool g, .slice pn (dig B32 n).length cn, .slice p87 (dig B32 (5 ^ P)).length c87, .int .i64 ((z : Int) + pw)], .int .i64 0]) fun Al W I => ?_
     first | exact b0u (h2 (by have := oFa f16; omega) (by rw [hN.1, if_neg (by simpa using f26)])) rfl I.below | (rw [hrk.1, hrk.2, r2 (fun h => by have := hS0.2 h; have := bnF f40; omega) (oFa f62) n P (by rw [← hfin]; have := oFa f62; congr 1; omega)]; exact ⟨pn, cn, p87, c87, rfl, I.fa.2.2.2.2.2.1, I.fa.1, I.below⟩)
   refine zb I 79 (decide ((((dig B32 (n % 5)).length : Nat) : Int) > 0)) (false) (f79) fun Al W I => ?_
   refine zi I 82 .i64 (x + 1) ((x + 1)) ((by exact iwo)) fun Al W I => ?_
   exact a0k I J0 fun Al W U I => hJ0 (P - 1) _ _ _ _ _ ((by have := oTr f69; omega)) ⟨U, n / 5, P - 1, x + 1, p74, c74, rfl, rfl, rfl, (by rw [← hcf]; exact (u0n (by have := oTr f69; omega) (by have := oFa f79; have := a0f a0a (n % 5); omega)).symm), (by omega), (by have := oTr f69; omega), (Nat.le_trans (a0i a0a (Nat.div_le_self _ _)) hnl), rfl⟩ (I.pick [1, 4, 5])
 refine zb I 69 (decide (x < 0)) (false) (f69) fun Al W I => ?_
 have hfin := m0e (n := n) (P := P) (by exact .inl (by have := oFa f69; omega))
 rw [hcf] at hfin
 refine zqo I (fun Al W I => have hzW := I.bel.size; (HO 5 (by omega) W).out) fun Al W p84 c84 I => ?_
 refine zi I 86 .i64 (0 - x) ((P : Int)) ((by rw [hx, show (0 : Int) - -(P : Int) = (P : Int) by omega]; exact iwo)) fun Al W I => ?_
 refine zqo I (fun Al W I => have hzW := I.bel.size; (HPw p84 c84 P W _ I.fa.1 I.below.size (by omega)).out) fun Al W p87 c87 I => ?_
 refine zret I (v := fun Al => .tuple #[.agg #[.bool g, .slice pn (dig B32 n).length cn, .slice p87 (dig B32 (5 ^ P)).length c87, .int .i64 ((z : Int) + pw)], .int .i64 0]) fun Al W I => ?_
 first | exact b0u (h2 (by have := oFa f16; omega) (by rw [hN.1, if_neg (by simpa using f26)])) rfl I.below | (rw [hrk.1, hrk.2, r2 (fun h => by have := hS0.2 h; have := bnF f40; omega) (oFa f62) n P (by rw [← hfin]; have := oFa f62; congr 1; omega)]; exact ⟨pn, cn, p87, c87, rfl, I.fa.2.2.1, I.fa.1, I.below⟩)
end Go.Proofs.YtbamiajjampgnaaGreatDoor
namespace Go.Slip
open Go.RowKit
def e0t (c : Nat) (g : Bool) : List Nat := if c = 2 then [] else (if g then [45] else []) ++ (if c = 1 then [48] else if c = 3 then [105, 110, 102] else if c = 4 then [110, 111, 110, 101] else [114, 101, 115, 101, 114, 118, 101, 100])
def l0u (c : Nat) : List Nat := if c = 1 then [48] else if c = 3 then [105, 110, 102] else if c = 4 then [110, 111, 110, 101] else if c = 5 then [114, 101, 115, 101, 114, 118, 101, 100] else []
theorem g0m (c : Nat) (g : Bool) : Byt (e0t c g) := by
 unfold e0t
 intro x hx
 split at hx
 · exact (nomatch hx)
 · rcases List.mem_append.1 hx with h | h
   · split at h
     · simp at h; omega
     · exact (nomatch h)
   · repeat' split at h
     all_goals (simp at h; omega)
theorem c0i {c : Nat} {g : Bool} : e0t c g = [] ↔ c = 2 := by
 unfold e0t
 by_cases h : c = 2
 · rw [if_pos h]; exact iff_of_true rfl h
 · rw [if_neg h]
   refine iff_of_false (fun k => ?_) h
   have k2 := (List.append_eq_nil_iff.1 k).2
   repeat' split at k2
   all_goals cases k2
theorem m0r (n : Nat) : Byt (a0r n) := fun x hx => by have := g0f n x hx; omega
theorem f1j (p : Int) : Byt (d0w p) := by
 unfold d0w
 split
 · intro x hx
   rcases List.mem_cons.1 hx with rfl | hx
   · omega
   · exact m0r _ x hx
 · exact m0r _
end Go.Slip
namespace Go.Proofs.YtbamiajjampgnaaGreatDoor
open Go.RowKit Go.Slip
theorem n1o (u : Int) (w : World) (hu : -100000 ≤ u ∧ u ≤ 100000) :
 Calls Tryz.prog 182 #[.int .i64 u] w fun en w' => ∃ p c q d, en = .returned (.tuple #[.slice p (dig B32 (10 ^ u.toNat)).length c, .slice q (dig B32 (10 ^ (-u).toNat)).length d]) ∧ Own w' w.heap.size .u32 143 p c (dig B32 (10 ^ u.toNat)) ∧ Own w' w.heap.size .u32 143 q d (dig B32 (10 ^ (-u).toNat)) ∧ Below w.heap.size w w' := by
 have HO := fun (k : Nat) hk W => hi0 (sof (k : Int) k rfl hk W)
 have HPw := fun p c K W base ho hb hK => hi0 (y0h base p c 10 K W ho hb (by omega) hK)
 have e1 : u < 0 → u.toNat = 0 ∧ (-u).toNat = u.natAbs := fun h => by omega
 have e2 : ¬ u < 0 → u.toNat = u.natAbs ∧ (-u).toNat = 0 := fun h => by omega
 have I := Inv.start w [] True.intro
 refine a0h [.v (.int .i64 u)] I Tryz.func182 ?_
 refine zqo I (fun Al W I => have hzW := I.bel.size; (HO 10 (by omega) W).out) fun Al W p5 c5 I => ?_
 refine zi I 8 .i64 (0 - u) ((-u)) ((by rw [Int.zero_sub]; exact iwo)) fun Al W I => ?_
 refine zm I 9 .i64 (if ((-u) : Int) > u then (-u) else u) ((u.natAbs : Int)) ((by omega)) fun Al W I => ?_
 refine zqo I (fun Al W I => have hzW := I.bel.size; (HPw p5 c5 u.natAbs W _ I.fa.1 I.below.size (by omega)).out) fun Al W p10 c10 I => ?_
 rcases Bool.eq_false_or_eq_true (decide (u < 0)) with f12 | f12
 · refine zb I 12 (decide (u < 0)) (true) (f12) fun Al W I => ?_
   refine zqo I (fun Al W I => have hzW := I.bel.size; (HO 1 (by omega) W).out) fun Al W p13 c13 I => ?_
   refine zret I (v := fun Al => .tuple #[.slice p13 (dig B32 1).length c13, .slice p10 (dig B32 (10 ^ u.natAbs)).length c10]) fun Al W I => ?_
   (obtain ⟨h1, h2⟩ := e1 (oTr f12); rw [h1, h2, Nat.pow_zero]; exact ⟨p13, c13, p10, c10, rfl, I.fa.1, I.fa.2.1, I.below⟩)
 refine zb I 12 (decide (u < 0)) (false) (f12) fun Al W I => ?_
 refine zqo I (fun Al W I => have hzW := I.bel.size; (HO 1 (by omega) W).out) fun Al W p16 c16 I => ?_
 refine zret I (v := fun Al => .tuple #[.slice p10 (dig B32 (10 ^ u.natAbs)).length c10, .slice p16 (dig B32 1).length c16]) fun Al W I => ?_
 (obtain ⟨h1, h2⟩ := e2 (oFa f12); rw [h1, h2, Nat.pow_zero]; exact ⟨p10, c10, p16, c16, rfl, I.fa.2.1, I.fa.1, I.below⟩)
def n1p (w : World) (a b c : Nat) (en : Ending) (w' : World) : Prop :=
 ∃ p x q y r z, en = .returned (.tuple #[.slice p (dig B32 a).length x, .slice q (dig B32 b).length y, .slice r (dig B32 c).length z]) ∧ Own w' w.heap.size .u32 143 p x (dig B32 a) ∧ Own w' w.heap.size .u32 143 q y (dig B32 b) ∧ Own w' w.heap.size .u32 143 r z (dig B32 c) ∧ Below w.heap.size w w'
theorem w0x (g : Bool) (num : Nat) (E u : Int) (p q : Option Addr) (a b : Nat) (w : World) (hp : Rd w .u32 p (dig B32 num)) (hq : Rd w .u32 q (dig B32 1)) (hl : (dig B32 num).length ≤ 1000) (hE : -100000 ≤ E ∧ E ≤ 100000) (hu : -100000 ≤ u ∧ u ≤ 100000) :
 Calls Tryz.prog 141 #[.agg #[.bool g, .slice p (dig B32 num).length a, .slice q (dig B32 1).length b, .int .i64 E], .int .i64 u] w (n1p w (q10 (numP num E) (denP 1 E) u) (r10 (numP num E) (denP 1 E) u) (d10 (denP 1 E) u)) := by
 have hN : num * 10 ^ u.toNat * 2 ^ E.toNat = n10 (numP num E) u := by unfold n10 numP; grind
 have hD : 1 * 10 ^ (-u).toNat * 2 ^ (-E).toNat = d10 (denP 1 E) u := by unfold d10 denP; grind
 have hd0 : 0 < d10 (denP 1 E) u := n0o (d0t (by omega) E) u
 have eq : q10 (numP num E) (denP 1 E) u = n10 (numP num E) u / d10 (denP 1 E) u := rfl
 have er : r10 (numP num E) (denP 1 E) u = n10 (numP num E) u % d10 (denP 1 E) u := rfl
 rw [eq, er, ← hN, ← hD]
 rw [← hD] at hd0
 clear eq er hN hD
 have l1 : (dig B32 1).length ≤ 1 := (a0e a0a 1 1).2 (by decide)
 have l10 : ∀ k : Nat, k ≤ 100000 → (dig B32 (10 ^ k)).length ≤ 100001 := fun k hk => h0e (K := 100001) a0a (by decide) (by omega) (by omega)
 have l2 : ∀ k : Nat, k ≤ 100000 → (dig B32 (2 ^ k)).length ≤ 100001 := fun k hk => h0e (K := 100001) a0a (by decide) (by omega) (by omega)
 have k1 := l10 u.toNat (by omega)
 have k2 := l10 (-u).toNat (by omega)
 have k3 := l2 E.toNat (by omega)
 have k4 := l2 (-E).toNat (by omega)
 have m1 := b0h a0a num (10 ^ u.toNat)
 have m2 := b0h a0a 1 (10 ^ (-u).toNat)
 have m3 := b0h a0a (num * 10 ^ u.toNat) (2 ^ E.toNat)
 have m4 := b0h a0a (1 * 10 ^ (-u).toNat) (2 ^ (-E).toNat)
 have HTn := fun W => hi0 (n1o u W hu)
 have e1 : E.toNat = 0 ∨ (E : Int) = (E.toNat : Nat) := by omega
 have e2 : 0 ≤ E → (-E).toNat = 0 := by omega
 have e3 : ¬ 0 ≤ E → E.toNat = 0 := by omega
 generalize 10 ^ u.toNat = U at *
 generalize 10 ^ (-u).toNat = V2 at *
 have HM1 := fun W r c h h2 => hi0 (r0o p r _ _ a c num U W h h2 rfl rfl (by omega))
 have HM2 := fun W r c h h2 => hi0 (r0o q r _ _ b c 1 V2 W h h2 rfl rfl (by omega))
 generalize num * U = X at *
 generalize 1 * V2 = Y at *
 have HS := fun W r c x (n : Nat) (M : Int) h (h1 : (dig B32 x).length ≤ 102001) (h2 : n ≤ 100000) h3 => hi0 (sshl r _ c x n (x * 2 ^ n) M W h rfl (by omega) (by omega) h3 rfl)
 have HDv := fun W r s c d x y h h2 (h3 : (dig B32 x).length ≤ 300000) (h4 : (dig B32 y).length ≤ 300000) h5 => hi0 (h0b r s _ _ c d x y W h h2 rfl rfl (by omega) (by omega) h5)
 have I := Inv.start w [rdF .u32 p (dig B32 num), rdF .u32 q (dig B32 1)] ⟨hp, hq, True.intro⟩
 refine a0h [.v (.agg #[.bool g, .slice p (dig B32 num).length a, .slice q (dig B32 1).length b, .int .i64 E]), .v (.int .i64 u)] I Tryz.func141 ?_
 refine zg I (fun Al W I => (HTn W).out) fun Al V Iv _ hB _ kz => ?_
 rintro _ W ⟨p15, c15, q15, d15, rfl, o15, r15, hb⟩
 refine ⟨_, rfl, kz _ _ hb fun I => ?_⟩
 have I := I.own o15
 have I := I.own r15
 refine zd [] I fun Al W I => ?_
 refine zk [0, 1, 2, 4, 5, 6] I fun I => ?_
 refine zo 3 I fun I => ?_
 refine zqo I (fun Al W I => (HM1 W p15 c15 I.fa.2.2.1 I.fa.2.1.rd).out) fun Al W p21 c21 I => ?_
 refine zo 7 I fun I => ?_
 refine zqo I (fun Al W I => (HM2 W q15 d15 I.fa.2.2.2.2.1 I.fa.2.1.rd).out) fun Al W p25 c25 I => ?_
 refine zk [8, 9] I fun I => ?_
 rcases Bool.eq_false_or_eq_true (decide (E ≥ 0)) with f28 | f28
 · refine zb I 28 (decide (E ≥ 0)) (true) (f28) fun Al W I => ?_
   refine zqo I (fun Al W I => have hzW := I.bel.size; (HS W p21 c21 X E.toNat E I.fa.2.1.rd (by omega) (by omega) (by have := oTr f28; omega)).out) fun Al W p32 c32 I => ?_
   refine zg I (fun Al W I => have hzW := I.bel.size; (HDv W p32 p25 c32 c25 (X * 2 ^ E.toNat) Y I.fa.1.rd I.fa.2.1.rd (by omega) (by omega) (by have h := e2 (oTr f28); rw [h, Nat.pow_zero, Nat.mul_one] at hd0; exact hd0)).out) fun Al V Iv _ hB _ kz => ?_
   rintro _ W ⟨p41, c41, q41, d41, rfl, o41, r41, hb, -⟩
   refine ⟨_, rfl, kz _ _ hb fun I => ?_⟩
   have I := I.own o41
   have I := I.own r41
   refine zret I (v := fun Al => .tuple #[.slice p41 (dig B32 (X * 2 ^ E.toNat / Y)).length c41, .slice q41 (dig B32 (X * 2 ^ E.toNat % Y)).length d41, .slice p25 (dig B32 Y).length c25]) fun Al W I => ?_
   (have h := e2 (oTr f28); rw [h, Nat.pow_zero, Nat.mul_one]; exact ⟨p41, c41, q41, d41, p25, c25, rfl, I.fa.2.1, I.fa.1, I.fa.2.2.2.1, I.below⟩)
 refine zb I 28 (decide (E ≥ 0)) (false) (f28) fun Al W I => ?_
 refine zi I 36 .i64 (0 - E) ((-E)) ((by rw [Int.zero_sub]; exact iwo)) fun Al W I => ?_
 refine zqo I (fun Al W I => have hzW := I.bel.size; (HS W p25 c25 Y (-E).toNat (-E) I.fa.1.rd (by omega) (by omega) (by have := oFa f28; omega)).out) fun Al W p37 c37 I => ?_
 refine zg I (fun Al W I => have hzW := I.bel.size; (HDv W p21 p37 c21 c37 X (Y * 2 ^ (-E).toNat) I.fa.2.2.1.rd I.fa.1.rd (by omega) (by omega) hd0).out) fun Al V Iv _ hB _ kz => ?_
 rintro _ W ⟨p41, c41, q41, d41, rfl, o41, r41, hb, -⟩
 refine ⟨_, rfl, kz _ _ hb fun I => ?_⟩
 have I := I.own o41
 have I := I.own r41
 refine zret I (v := fun Al => .tuple #[.slice p41 (dig B32 (X / (Y * 2 ^ (-E).toNat))).length c41, .slice q41 (dig B32 (X % (Y * 2 ^ (-E).toNat))).length d41, .slice p37 (dig B32 (Y * 2 ^ (-E).toNat)).length c37]) fun Al W I => ?_
 (have h := e3 (oFa f28); rw [h, Nat.pow_zero, Nat.mul_one]; exact ⟨p41, c41, q41, d41, p37, c37, rfl, I.fa.2.1, I.fa.1, I.fa.2.2.1, I.below⟩)
theorem p0y (n : Int) (v : Vl) (p : Option Addr) (c base : Nat) (w : World) (hp : Own w base .u32 143 p c (dig B32 v.d)) (hpw : -100000 ≤ v.pow ∧ v.pow ≤ 100000) :
 Calls Tryz.prog 65 #[.int .i64 n, .agg #[.int .i64 (v.cls : Int), .bool v.neg, .slice p (dig B32 v.d).length c, .int .i64 v.pow]] w fun en w' => ∃ q d, en = .returned (.agg #[.bool v.neg, .slice p (dig B32 v.d).length c, .slice q (dig B32 1).length d, .int .i64 (wid (fmt n).g * v.pow)]) ∧ Own w' w.heap.size .u32 143 q d (dig B32 1) ∧ Below w.heap.size w w' := by
 have HG := fun W => hi0 (y0k n W)
 have HO := fun (k : Nat) hk W => hi0 (sof (k : Int) k rfl hk W)
 have wp := b0j (fmt n).g
 have hw : wid (fmt n).g = if (fmt n).g.rad = 16 then 4 else 1 := rfl
 have hm := t0w (wd := wid (fmt n).g) (k := v.pow) (B := 100000) wp.2 hpw
 generalize wid (fmt n).g = wd at *
 generalize (fmt n).g = gg at *
 generalize d0c n = er at *
 obtain ⟨bb, hbb⟩ : ∃ bb, (gg.rad == 16) = bb := ⟨_, rfl⟩
 have I := Inv.start w [ownF base .u32 143 p c (dig B32 v.d)] ⟨hp, True.intro⟩
 refine a0h [.v (.int .i64 n), .v (.agg #[.int .i64 (v.cls : Int), .bool v.neg, .slice p (dig B32 v.d).length c, .int .i64 v.pow])] I Tryz.func65 ?_
 refine zq I (fun Al W I => (HG W).out) fun Al W I => ?_
 refine zb I 15 (gg.rad == 16) (bb) (hbb) fun Al W I => ?_
 refine zcut I (some 2000015) (fun fr bx gs => ∃ (U1 : Nat → Value) (k : Int), fr = (.v (.int .i64 n) :: .v (.agg #[.int .i64 (v.cls : Int), .bool v.neg, .slice p (dig B32 v.d).length c, .int .i64 v.pow]) :: .v undef :: .p 0 0 :: .p 1 0 :: .p 2 0 :: .v (U1 6) :: .v (.int .i64 k) :: sw U1 8 7 (.v (.bool bb) :: sw U1 16 10 []) : List SV) ∧ bx = [⟨66, [.v (.int .i64 (v.cls : Int)), .v (.bool v.neg), .v (.slice p (dig B32 v.d).length c), .v (.int .i64 v.pow)], false⟩, ⟨25, [.v (.bool false), .v (.slice none 0 0), .v (.slice none 0 0), .v (.int .i64 0)], false⟩, ⟨40, [.v (.int .i64 gg.rad), .v (.int .i64 gg.digs), .v (.int .i64 gg.lo), .v (.int .i64 gg.hi), .v (.bool gg.grad)], false⟩] ∧ gs = [ownF base .u32 143 p c (dig B32 v.d)] ∧ ((wd : Int) = k)) ?_ ?_
 · intro J hJ Al W I
   rcases Bool.eq_false_or_eq_true bb with rfl | rfl
   · exact a0k I J fun Al W U I => hJ _ _ _ _ _ ⟨U, 4, rfl, rfl, rfl, (by rw [hw, if_pos (beq_iff_eq.1 hbb)]; rfl)⟩ (I.pick [0])
   exact a0k I J fun Al W U I => hJ _ _ _ _ _ ⟨U, 1, rfl, rfl, rfl, (by rw [hw, if_neg (bnF hbb)]; rfl)⟩ (I.pick [0])
 rintro _ _ _ ⟨U1, k, rfl, rfl, rfl, hk⟩ Al W I
 refine zd [1] I fun Al W I => ?_
 refine zk [0, 1, 2, 3, 5, 6, 7] I fun I => ?_
 refine zki 8 I .i64 (k * v.pow) (((wd : Int) * v.pow)) ((by rw [← hk]; exact iwo)) fun I => ?_
 refine zo 4 I fun I => ?_
 refine zqo I (fun Al W I => have hzW := I.bel.size; (HO 1 (by omega) W).out) fun Al W p20 c20 I => ?_
 refine zk [9] I fun I => ?_
 refine zo 10 I fun I => ?_
 refine zn I fun Al W I => ?_
 exact zret I fun Al W I => ⟨p20, c20, rfl, I.fa.1, I.below⟩
theorem k0w (g : Bool) (s : List Nat) (p : Int) (w : World) (hs : Byt s) (h0 : s ≠ []) (hl : s.length ≤ 100) (hp : -100000 < p ∧ p < 100000) (hT : PowW w) :
 Calls Tryz.prog 68 #[.bool g, .string (a0d s), .int .i64 p] w fun en w' => en = .returned (.string (a0d (numT g s p))) ∧ Below w.heap.size w w' := by
 have hz := a0m s
 have h1 := h0h hs 0 1
 have h2 : (a0d s).extract 1 (a0d s).size = a0d (s.drop 1) := by rw [h0h hs, hz, List.take_length]
 have hI := fun W h => hi0 (j1b p (by omega) W h)
 have hil : (d0w p).length ≤ 6 := by
  have h : (a0r p.natAbs).length ≤ 5 := (b0e _ 5 (by omega)).2 (by omega)
  unfold d0w
  split
  · rw [List.length_cons, show (-p).toNat = p.natAbs by omega]; omega
  · rw [show p.toNat = p.natAbs by omega]; omega
 have hl0 : 0 < s.length := List.length_pos_iff.2 h0
 have ha : (s.take 1).length = 1 := by rw [List.length_take]; omega
 have hb : (s.drop 1).length = s.length - 1 := by rw [List.length_drop]
 have eN : numT g s p = (if g then [45] else []) ++ (s.take 1 ++ ((if 1 < s.length then 46 :: s.drop 1 else []) ++ 101 :: d0w p)) := rfl
 rw [List.drop_zero] at h1
 generalize s.take 1 = a at *
 generalize s.drop 1 = b at *
 generalize d0w p = ip at *
 generalize a0d s = S at *
 obtain ⟨q, hq⟩ : ∃ q, decide ((S.size : Int) > 1) = q := ⟨_, rfl⟩
 have I := Inv.start w [powF] ⟨hT, True.intro⟩
 refine a0h [.v (.bool g), .v (.string S), .v (.int .i64 p)] I Tryz.func68 ?_
 refine zx I 9 (fun _ => .string (a0d a)) (fun Al W I => (by rw [← h1]; exact g0l uSt (.inl ⟨rfl, rfl⟩) (.inr rfl) (Nat.zero_le _) (by omega))) fun Al W I => ?_
 refine zb I 12 (decide ((S.size : Int) > 1)) (q) (hq) fun Al W I => ?_
 refine zcut I (some 2000012) (fun fr bx gs => ∃ (U1 : Nat → Value) (Y : LN), fr = (.v (.bool g) :: .v (.string S) :: .v (.int .i64 p) :: su 3 (.v (Go.Value.string (ByteArray.mk #[])) :: .v (.string (a0d Y)) :: sw U1 8 4 (.v (.bool q) :: sw U1 13 5 (.v undef :: sw U1 19 7 []))) : List SV) ∧ bx = [] ∧ gs = [powF] ∧ (Y = a ++ (if 1 < s.length then 46 :: b else [])) ∧ (Y.length ≤ 200)) ?_ ?_
 · intro J hJ Al W I
   rcases Bool.eq_false_or_eq_true q with rfl | rfl
   · refine zx I 15 (fun _ => .string (a0d b)) (fun Al W I => (by rw [← h2]; exact g0l uSt (.inr rfl) (.inl ⟨rfl, rfl⟩) (by omega) (Nat.le_refl _))) fun Al W I => ?_
     refine zbin I 16 _ (fun _ _ _ _ _ => (c0t [46] b (by simp; omega))) fun Al W I => ?_
     refine zbin I 17 _ (fun _ _ _ _ _ => (c0t a (46 :: b) (by simp; omega))) fun Al W I => ?_
     exact a0k I J fun Al W U I => hJ _ _ _ _ _ ⟨U, (a ++ 46 :: b), rfl, rfl, rfl, (by rw [if_pos (by have := oTr hq; omega)]), (by rw [List.length_append, List.length_cons]; omega)⟩ (I.pick [0])
   exact a0k I J fun Al W U I => hJ _ _ _ _ _ ⟨U, a, rfl, rfl, rfl, (by rw [if_neg (by have := oFa hq; omega), List.append_nil]), (by omega)⟩ (I.pick [0])
 rintro _ _ _ ⟨U1, Y, rfl, rfl, rfl, hY, hYl⟩ Al W I
 refine zcut I (some 2000018) (fun fr bx gs => ∃ (U2 : Nat → Value) (X : LN), fr = (.v (.bool g) :: .v (.string S) :: .v (.int .i64 p) :: su 3 (.v (Go.Value.string (ByteArray.mk #[])) :: .v (.string (a0d X)) :: sw U2 8 4 (.v (.bool q) :: sw U2 13 5 (.v (.bool g) :: sw U2 19 7 []))) : List SV) ∧ bx = [] ∧ gs = [powF] ∧ (X ++ 101 :: ip = numT g s p) ∧ (X.length ≤ 300)) ?_ ?_
 · intro J hJ Al W I
   rcases Bool.eq_false_or_eq_true g with rfl | rfl
   · refine zbin I 20 _ (fun _ _ _ _ _ => (c0t [45] Y (by simp; omega))) fun Al W I => ?_
     exact a0k I J fun Al W U I => hJ _ _ _ _ _ ⟨U, (45 :: Y), rfl, rfl, rfl, (by rw [eN, if_pos rfl, hY]; simp), (by rw [List.length_cons]; omega)⟩ (I.pick [0])
   exact a0k I J fun Al W U I => hJ _ _ _ _ _ ⟨U, Y, rfl, rfl, rfl, (by rw [eN, if_neg Bool.false_ne_true, hY]; simp), (by omega)⟩ (I.pick [0])
 rintro _ _ _ ⟨U2, X, rfl, rfl, rfl, hX, hXl⟩ Al W I
 refine zbin I 22 _ (fun _ _ _ _ _ => (c0t X [101] (by simp; omega))) fun Al W I => ?_
 refine zq I (fun Al W I => (hI W I.fa.1).out) fun Al W I => ?_
 refine zbin I 25 _ (fun _ _ _ _ _ => (c0t (X ++ [101]) ip (by simp; omega))) fun Al W I => ?_
 exact zret I (v := fun Al => .string (a0d (X ++ [101] ++ ip))) fun Al W I => ⟨by rw [← hX]; simp, I.below⟩
theorem j1j (a b : Vl) (p q : Option Addr) (c d b1 b2 : Nat) (w : World) (hp : Own w b1 .u32 143 p c (dig B32 a.d)) (hq : Own w b2 .u32 143 q d (dig B32 b.d)) (h1 : (dig B32 a.d).length ≤ 100000) (h2 : (dig B32 b.d).length ≤ 100000) :
 Calls Tryz.prog 69 #[.agg #[.int .i64 (a.cls : Int), .bool a.neg, .slice p (dig B32 a.d).length c, .int .i64 a.pow], .agg #[.int .i64 (b.cls : Int), .bool b.neg, .slice q (dig B32 b.d).length d, .int .i64 b.pow]] w fun en w' => en = .returned (.bool (decide (a.cls = b.cls ∧ a.neg = b.neg ∧ a.pow = b.pow ∧ a.d = b.d))) ∧ Below w.heap.size w w' := by
 have HC := fun W hp hq => hi0 (e0s p q _ _ c d a.d b.d W hp hq rfl rfl (by omega) (by omega))
 have hc : cmpN a.d b.d = 0 ↔ a.d = b.d := ⟨n0x, fun h => by rw [h, m0u]⟩
 obtain ⟨ac, an, ad, ap⟩ := a
 obtain ⟨bc, bn, bd, bp⟩ := b
 simp only at HC hc hp hq h1 h2 ⊢
 generalize cmpN ad bd = k at *
 have I := Inv.start w [ownF b1 .u32 143 p c (dig B32 ad), ownF b2 .u32 143 q d (dig B32 bd)] ⟨hp, hq, True.intro⟩
 refine a0h [.v (.agg #[.int .i64 (ac : Int), .bool an, .slice p (dig B32 ad).length c, .int .i64 ap]), .v (.agg #[.int .i64 (bc : Int), .bool bn, .slice q (dig B32 bd).length d, .int .i64 bp])] I Tryz.func69 ?_
 refine zcut I (some 3000001) (fun fr bx gs => ∃ (U1 : Nat → Value) (r : Bool), fr = (.v (.agg #[.int .i64 (ac : Int), .bool an, .slice p (dig B32 ad).length c, .int .i64 ap]) :: .v (.agg #[.int .i64 (bc : Int), .bool bn, .slice q (dig B32 bd).length d, .int .i64 bp]) :: .p 0 0 :: .p 1 0 :: .v (.bool r) :: sw U1 5 27 [] : List SV) ∧ bx = [⟨66, [.v (.int .i64 (ac : Int)), .v (.bool an), .v (.slice p (dig B32 ad).length c), .v (.int .i64 ap)], false⟩, ⟨66, [.v (.int .i64 (bc : Int)), .v (.bool bn), .v (.slice q (dig B32 bd).length d), .v (.int .i64 bp)], false⟩] ∧ gs = [ownF b1 .u32 143 p c (dig B32 ad), ownF b2 .u32 143 q d (dig B32 bd)] ∧ (r = decide (ac = bc ∧ an = bn ∧ ap = bp ∧ ad = bd))) ?_ ?_
 · intro J hJ Al W I
   rcases Bool.eq_false_or_eq_true ((ac : Int) == (bc : Int)) with f9 | f9
   · refine zb I 9 ((ac : Int) == (bc : Int)) (true) (f9) fun Al W I => ?_
     rcases Bool.eq_false_or_eq_true (an == bn) with f15 | f15
     · refine zb I 15 (an == bn) (true) (f15) fun Al W I => ?_
       rcases Bool.eq_false_or_eq_true (ap == bp) with f22 | f22
       · refine zb I 22 (ap == bp) (true) (f22) fun Al W I => ?_
         refine zq I (fun Al W I => (HC W I.fa.1.rd I.fa.2.1.rd).out) fun Al W I => ?_
         rcases Bool.eq_false_or_eq_true (k == 0) with f30 | f30
         · refine zb I 30 (k == 0) (true) (f30) fun Al W I => ?_
           exact a0k I J fun Al W U I => hJ _ _ _ _ _ ⟨U, true, rfl, rfl, rfl, (by exact (decide_eq_true ⟨by have := beq_iff_eq.1 f9; omega, beq_iff_eq.1 f15, beq_iff_eq.1 f22, hc.1 (beq_iff_eq.1 f30)⟩).symm)⟩ (I.pick [0, 1])
         refine zb I 30 (k == 0) (false) (f30) fun Al W I => ?_
         exact a0k I J fun Al W U I => hJ _ _ _ _ _ ⟨U, false, rfl, rfl, rfl, (by exact (dFa (fun h => bnF f30 (hc.2 h.2.2.2))).symm)⟩ (I.pick [0, 1])
       refine zb I 22 (ap == bp) (false) (f22) fun Al W I => ?_
       exact a0k I J fun Al W U I => hJ _ _ _ _ _ ⟨U, false, rfl, rfl, rfl, (by exact (dFa (fun h => bnF f22 h.2.2.1)).symm)⟩ (I.pick [0, 1])
     refine zb I 15 (an == bn) (false) (f15) fun Al W I => ?_
     exact a0k I J fun Al W U I => hJ _ _ _ _ _ ⟨U, false, rfl, rfl, rfl, (by exact (dFa (fun h => bnF f15 h.2.1)).symm)⟩ (I.pick [0, 1])
   refine zb I 9 ((ac : Int) == (bc : Int)) (false) (f9) fun Al W I => ?_
   exact a0k I J fun Al W U I => hJ _ _ _ _ _ ⟨U, false, rfl, rfl, rfl, (by exact (dFa (fun h => by have := bnF f9; have := h.1; omega)).symm)⟩ (I.pick [0, 1])
 rintro _ _ _ ⟨U1, r, rfl, rfl, rfl, hr⟩ Al W I
 exact zret I (v := fun Al => .bool r) fun Al W I => ⟨by rw [hr], I.below⟩
theorem p0z : Tryz.prog.underlying 207 = some (.map 3 9) := by kernel_rfl
theorem f1k (c : Nat) : (∃ i, Instr.findNow (.int .i64) (.int .i64 (c : Int)) [⟨.int .i64 1, .string ⟨#[48]⟩, 0⟩, ⟨.int .i64 3, .string ⟨#[105, 110, 102]⟩, 1⟩, ⟨.int .i64 4, .string ⟨#[110, 111, 110, 101]⟩, 2⟩, ⟨.int .i64 5, .string ⟨#[114, 101, 115, 101, 114, 118, 101, 100]⟩, 3⟩] 0 = some (some (i, .string (a0d (l0u c))))) ∨ (l0u c = [] ∧ Instr.findNow (.int .i64) (.int .i64 (c : Int)) [⟨.int .i64 1, .string ⟨#[48]⟩, 0⟩, ⟨.int .i64 3, .string ⟨#[105, 110, 102]⟩, 1⟩, ⟨.int .i64 4, .string ⟨#[110, 111, 110, 101]⟩, 2⟩, ⟨.int .i64 5, .string ⟨#[114, 101, 115, 101, 114, 118, 101, 100]⟩, 3⟩] 0 = some none) := by
 by_cases h1 : c = 1
 · subst h1; exact .inl ⟨0, rfl⟩
 by_cases h3 : c = 3
 · subst h3; exact .inl ⟨1, rfl⟩
 by_cases h4 : c = 4
 · subst h4; exact .inl ⟨2, rfl⟩
 by_cases h5 : c = 5
 · subst h5; exact .inl ⟨3, rfl⟩
 refine .inr ⟨by unfold l0u; rw [if_neg h1, if_neg h3, if_neg h4, if_neg h5], ?_⟩
 have e1 : ((c : Int) == 1) = false := bFn (by omega)
 have e3 : ((c : Int) == 3) = false := bFn (by omega)
 have e4 : ((c : Int) == 4) = false := bFn (by omega)
 have e5 : ((c : Int) == 5) = false := bFn (by omega)
 simp only [Instr.findNow, Instr.sameNow, e1, e3, e4, e5, if_true]
theorem f1l {W : World} {b c : Nat} (hb : W.heap[b]? = some (.map #[⟨.int .i64 1, .string ⟨#[48]⟩, 0⟩, ⟨.int .i64 3, .string ⟨#[105, 110, 102]⟩, 1⟩, ⟨.int .i64 4, .string ⟨#[110, 111, 110, 101]⟩, 2⟩, ⟨.int .i64 5, .string ⟨#[114, 101, 115, 101, 114, 118, 101, 100]⟩, 3⟩] 4)) : (VO.lk 207 (.map (some b)) (.int .i64 (c : Int)) false).sem.run Tryz.prog W = .ok (.string (a0d (l0u c))) W := by
 rcases f1k c with h | ⟨h1, h2⟩
 · exact q1a p0z Tryz.underlying3 hb _ h
 · rw [h1]
   exact i0c p0z Tryz.underlying3 hb _ (by kernel_rfl) h2
theorem y0q (v : Vl) (p : Option Addr) (c base : Nat) (w : World) (hp : Own w base .u32 143 p c (dig B32 v.d)) (hc : 1 ≤ v.cls ∧ v.cls ≤ 5) (hT : TabW w) :
 Calls Tryz.prog 63 #[.agg #[.int .i64 (v.cls : Int), .bool v.neg, .slice p (dig B32 v.d).length c, .int .i64 v.pow]] w fun en w' => en = .returned (.string (a0d (e0t v.cls v.neg))) ∧ Below w.heap.size w w' := by
 have HF := fun W b h => hi0 (@f1l W b v.cls h)
 have hw : e0t v.cls v.neg = if v.cls = 2 then [] else (if v.neg then [45] else []) ++ l0u v.cls := by
  unfold e0t l0u
  by_cases h2 : v.cls = 2
  · rw [if_pos h2, if_pos h2]
  · rw [if_neg h2, if_neg h2]
    congr 1
    by_cases h1 : v.cls = 1
    · rw [if_pos h1, if_pos h1]
    · by_cases h3 : v.cls = 3
      · rw [if_neg h1, if_neg h1, if_pos h3, if_pos h3]
      · by_cases h4 : v.cls = 4
        · rw [if_neg h1, if_neg h1, if_neg h3, if_neg h3, if_pos h4, if_pos h4]
        · rw [if_neg h1, if_neg h1, if_neg h3, if_neg h3, if_neg h4, if_neg h4, if_pos (by omega)]
 have h2 : v.cls = 2 → l0u v.cls = [] := fun h => by rw [h]; rfl
 have hl : (l0u v.cls).length ≤ 8 := by
  unfold l0u
  repeat' split
  all_goals decide
 generalize l0u v.cls = S at *
 generalize e0t v.cls v.neg = R at *
 have I := Inv.start w [ownF base .u32 143 p c (dig B32 v.d), tabF] ⟨hp, hT, True.intro⟩
 refine a0h [.v (.agg #[.int .i64 (v.cls : Int), .bool v.neg, .slice p (dig B32 v.d).length c, .int .i64 v.pow])] I Tryz.func63 ?_
 refine zmkm I 207 fun Al W m4_b m4_ge I => ?_
 refine zins I p0z Tryz.underlying3 1 (Go.Value.string (ByteArray.mk #[48])) m4_ge (fun Al W I => ⟨r0y I.fa.1 I.fa.2.1, fun e => by have h2 := hT.2; have e : 0 = m4_b := e; have h3 := m4_ge; omega, True.intro⟩) fun Al W I => ?_
 refine zins I p0z Tryz.underlying3 3 (Go.Value.string (ByteArray.mk #[105, 110, 102])) m4_ge (fun Al W I => ⟨r0y I.fa.1 I.fa.2.1, fun e => by have h2 := hT.2; have e : 0 = m4_b := e; have h3 := m4_ge; omega, True.intro⟩) fun Al W I => ?_
 refine zins I p0z Tryz.underlying3 4 (Go.Value.string (ByteArray.mk #[110, 111, 110, 101])) m4_ge (fun Al W I => ⟨r0y I.fa.1 I.fa.2.1, fun e => by have h2 := hT.2; have e : 0 = m4_b := e; have h3 := m4_ge; omega, True.intro⟩) fun Al W I => ?_
 refine zins I p0z Tryz.underlying3 5 (Go.Value.string (ByteArray.mk #[114, 101, 115, 101, 114, 118, 101, 100])) m4_ge (fun Al W I => ⟨r0y I.fa.1 I.fa.2.1, fun e => by have h2 := hT.2; have e : 0 = m4_b := e; have h3 := m4_ge; omega, True.intro⟩) fun Al W I => ?_
 refine zx I 8 (fun _ => .string (a0d S)) (fun Al W I => (HF _ _ I.fa.1).out) fun Al W I => ?_
 rcases Bool.eq_false_or_eq_true (v.neg) with f11 | f11
 · refine zb I 11 (v.neg) (true) (f11) fun Al W I => ?_
   rcases Bool.eq_false_or_eq_true ((v.cls : Int) != 2) with f14 | f14
   · refine zb I 14 ((v.cls : Int) != 2) (true) (f14) fun Al W I => ?_
     refine zbin I 17 _ (fun _ _ _ _ _ => (c0t [45] S (by simp; omega))) fun Al W I => ?_
     refine zret I (v := fun Al => .string (a0d (45 :: S))) fun Al W I => ?_
     first | (rw [hw, if_neg (fun h => by have := bne_iff_ne.1 f14; omega), f11]; exact ⟨rfl, I.below⟩) | (have h := h2 (by have : (v.cls : Int) = 2 := (by simpa using f14); omega); rw [hw, if_pos (by have : (v.cls : Int) = 2 := (by simpa using f14); omega), h]; exact ⟨rfl, I.below⟩) | (rw [hw, f11]; by_cases h : v.cls = 2; (rw [if_pos h, h2 h]; exact ⟨rfl, I.below⟩); rw [if_neg h]; exact ⟨rfl, I.below⟩)
   refine zb I 14 ((v.cls : Int) != 2) (false) (f14) fun Al W I => ?_
   refine zret I (v := fun Al => .string (a0d S)) fun Al W I => ?_
   first | (have h := h2 (by have : (v.cls : Int) = 2 := (by simpa using f14); omega); rw [hw, if_pos (by have : (v.cls : Int) = 2 := (by simpa using f14); omega), h]; exact ⟨rfl, I.below⟩) | (rw [hw, f11]; by_cases h : v.cls = 2; (rw [if_pos h, h2 h]; exact ⟨rfl, I.below⟩); rw [if_neg h]; exact ⟨rfl, I.below⟩)
 refine zb I 11 (v.neg) (false) (f11) fun Al W I => ?_
 refine zret I (v := fun Al => .string (a0d S)) fun Al W I => ?_
 (rw [hw, f11]; by_cases h : v.cls = 2; (rw [if_pos h, h2 h]; exact ⟨rfl, I.below⟩); rw [if_neg h]; exact ⟨rfl, I.below⟩)
end Go.Proofs.YtbamiajjampgnaaGreatDoor
namespace Go.Slip
open Go.RowKit
theorem f1m {N D k : Nat} {P : Int} (h : theP N D = P) : decM N D k = if k < (a0r (dT N D (k - 1 - P))).length then ((a0r (dT N D (k - 1 - P))).take k, P + 1) else (a0r (dT N D (k - 1 - P)), P) := by subst h; rfl
theorem q1j {x : Int} (h : -40000 ≤ x ∧ x ≤ 40000) : -20000 ≤ (x * 30103).tdiv 100000 ∧ (x * 30103).tdiv 100000 ≤ 20000 := by
 rcases Int.le_total 0 x with h1 | h1
 · rw [Int.tdiv_eq_ediv_of_nonneg (by omega)]; omega
 · rw [show x * 30103 = -((-x) * 30103) by omega, Int.neg_tdiv, Int.tdiv_eq_ediv_of_nonneg (by omega)]; omega
end Go.Slip
namespace Go.Proofs.YtbamiajjampgnaaGreatDoor
open Go.RowKit Go.Slip
theorem n1q (n : Nat) : bits .and .u32 ((dg (dig B32 n) 0 : Nat) : Int) 1 = ((n % 2 : Nat) : Int) := by
 have h0 : dg (dig B32 n) 0 = n % 4294967296 := by
  by_cases h : n = 0
  · subst h; rw [a0c]; rfl
  · rw [c0k a0a (by omega)]; rfl
 rw [h0]
 have h := u32_and_nat (n % 4294967296) 1 (by omega) (by omega)
 rw [show ((1 : Nat) : Int) = 1 from rfl] at h
 rw [h, Nat.and_one_is_mod]
 omega
theorem m0f (g : Bool) (num : Nat) (E : Int) (k : Nat) (p q : Option Addr) (a b b1 b2 : Nat) (w : World) (hp : Own w b1 .u32 143 p a (dig B32 num)) (hq : Own w b2 .u32 143 q b (dig B32 1)) (h0 : 0 < num) (hl : (dig B32 num).length ≤ 100) (hE : -30000 ≤ E ∧ E ≤ 30000) (hk : 1 ≤ k ∧ k ≤ 100) :
 Calls Tryz.prog 67 #[.agg #[.bool g, .slice p (dig B32 num).length a, .slice q (dig B32 1).length b, .int .i64 E], .int .i64 (k : Int)] w fun en w' => en = .returned (.tuple #[.string (a0d (decM (numP num E) (denP 1 E) k).1), .int .i64 (decM (numP num E) (denP 1 E) k).2]) ∧ Below w.heap.size w w' := by
 have hN0 : 0 < numP num E := i0m h0 E
 have hD0 : 0 < denP 1 E := d0t (by omega) E
 have hP := j0n hN0 hD0
 have hbd := hP.bd hD0
 have hlong := fun x => hP.long hD0 hk.1 x
 have hshort := fun x => hP.short hD0 hk.1 x
 have hdec := f1m (k := k) (rfl : theP (numP num E) (denP 1 E) = _)
 have hlo : 0 < q10 (numP num E) (denP 1 E) (k - 1 - theP (numP num E) (denP 1 E)) := Nat.lt_of_lt_of_le (c0h (k - 1)) ((h0v hD0 _ _).2 ((hP.iff _).2 (by omega)))
 have HSc := fun u W hp hq hu => hi0 (w0x g num E u p q a b W hp hq (by omega) (by omega) hu)
 have bn := c0f num
 have bN : blen (numP num E) ≤ 33300 := by
  refine Nat.le_trans ((a0x _ (blen num + E.toNat)).2 ?_) (by omega)
  unfold numP
  have h1 := (a0x num _).1 (Nat.le_refl _)
  calc num * 2 ^ E.toNat < 2 ^ blen num * 2 ^ E.toNat := Nat.mul_lt_mul_of_pos_right h1 (Nat.pow_pos (by omega))
   _ = 2 ^ (blen num + E.toNat) := (Nat.pow_add _ _ _).symm
 have bD : blen (denP 1 E) ≤ 30001 := by
  refine Nat.le_trans ((a0x _ ((-E).toNat + 1)).2 ?_) (by omega)
  unfold denP
  rw [Nat.one_mul]
  exact Nat.pow_lt_pow_right (by omega) (by omega)
 have hql : ∀ u : Int, -100000 ≤ u ∧ u ≤ 100000 → (dig B32 (q10 (numP num E) (denP 1 E) u)).length ≤ 200000 ∧ (dig B32 (d10 (denP 1 E) u)).length ≤ 200000 := fun u hu => by
  have l10 : ∀ j : Nat, j ≤ 100000 → (dig B32 (10 ^ j)).length ≤ 100001 := fun j hj => h0e (K := 100001) a0a (by decide) (by omega) (by omega)
  have k1 := l10 u.toNat (by omega)
  have k2 := l10 (-u).toNat (by omega)
  have m1 := b0h a0a (numP num E) (10 ^ u.toNat)
  have m2 := b0h a0a (denP 1 E) (10 ^ (-u).toNat)
  have c1 := x0z _ _ bN
  have c2 := x0z _ _ bD
  refine ⟨Nat.le_trans (a0i a0a (Nat.div_le_self _ _)) ?_, ?_⟩
  · unfold n10; omega
  · unfold d10; omega
 have hrl : ∀ u : Int, r10 (numP num E) (denP 1 E) u < d10 (denP 1 E) u := fun u => Nat.mod_lt _ (n0o hD0 u)
 have hdT : ∀ u, dT (numP num E) (denP 1 E) u = q10 (numP num E) (denP 1 E) u + if upT (numP num E) (denP 1 E) u then 1 else 0 := fun u => rfl
 have hup : ∀ u, upT (numP num E) (denP 1 E) u = decide (0 < cmpN (r10 (numP num E) (denP 1 E) u * 2) (d10 (denP 1 E) u) ∨ (cmpN (r10 (numP num E) (denP 1 E) u * 2) (d10 (denP 1 E) u) = 0 ∧ q10 (numP num E) (denP 1 E) u % 2 = 1)) := fun u => by unfold upT; rw [Bool.decide_or, Bool.decide_and]
 have hP2 : -12000 ≤ theP (numP num E) (denP 1 E) ∧ theP (numP num E) (denP 1 E) ≤ 12000 := by omega
 generalize decM (numP num E) (denP 1 E) k = R at *
 generalize theP (numP num E) (denP 1 E) = P at *
 clear hbd bN bD hN0 hD0 hP
 generalize numP num E = N at *
 generalize denP 1 E = D at *
 have HL := fun W p c x h hl => hi0 ((h0z p _ c x W h rfl hl).mono fun _ _ ⟨h1, h2⟩ => ⟨h1, h2 ▸ Below.refl _ _⟩ : Calls Tryz.prog 136 #[.slice p (dig B32 x).length c] W fun en W' => en = .returned (.int .i64 ((blen x : Nat) : Int)) ∧ Below W.heap.size W W')
 have HDe := fun W p c x h hl => hi0 (w0q p _ c x W h rfl hl)
 have HSh := fun W p c x h hl => hi0 (sshl p _ c x 1 (x * 2) 1 W h rfl hl (by omega) rfl (by rw [Nat.pow_one]))
 have HCm := fun W p q c d x y h h2 hl hl2 => hi0 (e0s p q _ _ c d x y W h h2 rfl rfl hl hl2)
 have HO := fun W => hi0 (sof 1 1 rfl (by omega) W)
 have HAd := fun W p q c d x h h2 hl => hi0 (sadd p q _ _ c d x 1 _ W h h2 rfl rfl hl (Nat.le_trans ((a0e a0a 1 1).2 (by decide)) (by omega)) rfl)
 have l1 := (a0x 1 1).2 (by decide)
 have d1 : (dig B32 1).length ≤ 1 := (a0e a0a 1 1).2 (by decide)
 have hes := fun x h => @q1j x h
 have I := Inv.start w [ownF b1 .u32 143 p a (dig B32 num), ownF b2 .u32 143 q b (dig B32 1)] ⟨hp, hq, True.intro⟩
 refine a0h [.v (.agg #[.bool g, .slice p (dig B32 num).length a, .slice q (dig B32 1).length b, .int .i64 E]), .v (.int .i64 (k : Int))] I Tryz.func67 ?_
 refine zd [] I fun Al W I => ?_
 refine zk [0, 1, 3, 4, 7, 8] I fun I => ?_
 refine zo 2 I fun I => ?_
 refine zq I (fun Al W I => have hzW := I.bel.size; (HL W p a num I.fa.1.rd (by omega)).out) fun Al W I => ?_
 refine zo 5 I fun I => ?_
 refine zq I (fun Al W I => have hzW := I.bel.size; (HL W q b 1 I.fa.2.1.rd (by omega)).out) fun Al W I => ?_
 refine zki 6 I .i64 (((blen num : Nat) : Int) - ((blen 1 : Nat) : Int)) (((blen num : Int) - blen 1)) (iwo) fun I => ?_
 refine zki 9 I .i64 (((blen num : Int) - blen 1) + E) (((blen num : Int) - blen 1 + E)) (iwo) fun I => ?_
 refine zk [10] I fun I => ?_
 refine zi I 24 .i64 (((blen num : Int) - blen 1 + E) * 30103) ((((blen num : Int) - blen 1 + E) * 30103)) ((by exact iwo)) fun Al W I => ?_
 refine zbin I 25 _ (fun _ _ _ _ _ => j0j .i64 ((((blen num : Int) - blen 1 + E) * 30103)) (100000) (((((blen num : Int) - blen 1 + E) * 30103).tdiv 100000)) (by omega) ((by have := hes ((blen num : Int) - blen 1 + E) (by omega); exact iwo))) fun Al W I => ?_
 refine i0u I (fun gk fr bx gs => ∃ (U900 : Nat → Value) (pw : Int), fr = (.v (.agg #[.bool g, .slice p (dig B32 num).length a, .slice q (dig B32 1).length b, .int .i64 E]) :: .v (.int .i64 (k : Int)) :: .p 0 0 :: .v undef :: sw U900 4 2 (.v (.int .i64 ((blen num : Int) - blen 1 + E)) :: .v (.int .i64 pw) :: sw U900 8 81 []) : List SV) ∧ bx = [⟨25, [.v (.bool g), .v (.slice p (dig B32 num).length a), .v (.slice q (dig B32 1).length b), .v (.int .i64 E)], false⟩] ∧ gs = [ownF b1 .u32 143 p a (dig B32 num), ownF b2 .u32 143 q b (dig B32 1)] ∧ (-20000 ≤ pw ∧ pw ≤ 20000) ∧ (gk = (pw - P).natAbs)) (((((blen num : Int) - blen 1 + E) * 30103).tdiv 100000 - P).natAbs) (fun Al W U I => ⟨_, ⟨U, _, rfl, rfl, rfl, (by have := hes ((blen num : Int) - blen 1 + E) (by omega); omega), rfl⟩, I.pick [0, 1]⟩) ?_
 rintro J0 gk0 _ _ _ ⟨U900, pw, rfl, rfl, rfl, hpw, hgk⟩ hJ0 Al W I
 have hq2 := hql ((k : Int) - 1 - pw) (by omega)
 have hl2 := hlong pw
 have hs2 := hshort pw
 refine zi I 29 .i64 ((k : Int) - 1) (((k : Int) - 1)) ((by exact iwo)) fun Al W I => ?_
 refine zi I 31 .i64 (((k : Int) - 1) - pw) (((k : Int) - 1 - pw)) ((by exact iwo)) fun Al W I => ?_
 refine zg I (fun Al W I => have hzW := I.bel.size; (HSc ((k : Int) - 1 - pw) W I.fa.1.rd I.fa.2.1.rd (by omega)).out) fun Al V Iv _ hB _ kz => ?_
 rintro _ W ⟨p32, c32, q32, d32, r32, z32, rfl, o32, s32, v32, hb⟩
 refine ⟨_, rfl, kz _ _ hb fun I => ?_⟩
 have I := I.own o32
 have I := I.own s32
 have I := I.own v32
 refine zq I (fun Al W I => have hzW := I.bel.size; (HDe W p32 c32 (q10 N D ((k : Int) - 1 - pw)) I.fa.2.2.1.rd (by omega)).out) fun Al W I => ?_
 rcases Bool.eq_false_or_eq_true (decide ((((a0d (a0r (q10 N D ((k : Int) - 1 - pw)))).size : Nat) : Int) > (k : Int))) with f42 | f42
 · refine zb I 42 (decide ((((a0d (a0r (q10 N D ((k : Int) - 1 - pw)))).size : Nat) : Int) > (k : Int))) (true) (f42) fun Al W I => ?_
   have hlt : pw < P := hl2.1 (by have := oTr f42; rw [a0m] at this; omega)
   refine zi I 44 .i64 (pw + 1) ((pw + 1)) ((by exact iwo)) fun Al W I => ?_
   exact a0k I J0 fun Al W U I => hJ0 ((pw + 1 - P).natAbs) _ _ _ _ _ ((by omega)) ⟨U, (pw + 1), rfl, rfl, rfl, (by omega), rfl⟩ (I.pick [3, 4])
 refine zb I 42 (decide ((((a0d (a0r (q10 N D ((k : Int) - 1 - pw)))).size : Nat) : Int) > (k : Int))) (false) (f42) fun Al W I => ?_
 rcases Bool.eq_false_or_eq_true (decide ((((a0d (a0r (q10 N D ((k : Int) - 1 - pw)))).size : Nat) : Int) < (k : Int))) with f49 | f49
 · refine zb I 49 (decide ((((a0d (a0r (q10 N D ((k : Int) - 1 - pw)))).size : Nat) : Int) < (k : Int))) (true) (f49) fun Al W I => ?_
   have hgt : P < pw := hs2.1 (by exact .inl (by have := oTr f49; rw [a0m] at this; omega))
   refine zi I 56 .i64 (pw - 1) ((pw - 1)) ((by exact iwo)) fun Al W I => ?_
   exact a0k I J0 fun Al W U I => hJ0 ((pw - 1 - P).natAbs) _ _ _ _ _ ((by omega)) ⟨U, (pw - 1), rfl, rfl, rfl, (by omega), rfl⟩ (I.pick [3, 4])
 refine zb I 49 (decide ((((a0d (a0r (q10 N D ((k : Int) - 1 - pw)))).size : Nat) : Int) < (k : Int))) (false) (f49) fun Al W I => ?_
 rcases Bool.eq_false_or_eq_true ((((dig B32 (q10 N D ((k : Int) - 1 - pw))).length : Nat) : Int) == 0) with f53 | f53
 · refine zb I 53 ((((dig B32 (q10 N D ((k : Int) - 1 - pw))).length : Nat) : Int) == 0) (true) (f53) fun Al W I => ?_
   have hgt : P < pw := hs2.1 (by exact .inr (by have := beq_iff_eq.1 f53; have := a0f a0a (q10 N D ((k : Int) - 1 - pw)); omega))
   refine zi I 56 .i64 (pw - 1) ((pw - 1)) ((by exact iwo)) fun Al W I => ?_
   exact a0k I J0 fun Al W U I => hJ0 ((pw - 1 - P).natAbs) _ _ _ _ _ ((by omega)) ⟨U, (pw - 1), rfl, rfl, rfl, (by omega), rfl⟩ (I.pick [3, 4])
 refine zb I 53 ((((dig B32 (q10 N D ((k : Int) - 1 - pw))).length : Nat) : Int) == 0) (false) (f53) fun Al W I => ?_
 have hpP : pw = P := by have h1 : ¬ pw < P := fun h => oFa f42 (by rw [a0m]; have := hl2.2 h; omega); have h2 : ¬ P < pw := fun h => (hs2.2 h).elim (fun h => oFa f49 (by rw [a0m]; omega)) (fun h => bnF f53 (by have := a0f a0a (q10 N D ((k : Int) - 1 - pw)); omega)); omega
 subst hpP
 refine zqo I (fun Al W I => have hzW := I.bel.size; (HSh W q32 d32 (r10 N D ((k : Int) - 1 - pw)) I.fa.2.1.rd (by have := a0i a0a (Nat.le_of_lt (hrl ((k : Int) - 1 - pw))); omega)).out) fun Al W p58 c58 I => ?_
 refine zq I (fun Al W I => have hzW := I.bel.size; (HCm W p58 r32 c58 z32 (r10 N D ((k : Int) - 1 - pw) * 2) (d10 D ((k : Int) - 1 - pw)) I.fa.1.rd I.fa.2.1.rd (by have := a0i a0a (Nat.le_of_lt (hrl ((k : Int) - 1 - pw))); have := b0h a0a (r10 N D ((k : Int) - 1 - pw)) 2; have := (a0e a0a 2 1).2 (by decide); omega) (by omega)).out) fun Al W I => ?_
 refine zcut I (some 3000010) (fun fr bx gs => ∃ (U1 : Nat → Value) (up : Bool), fr = (.v (.agg #[.bool g, .slice p (dig B32 num).length a, .slice q (dig B32 1).length b, .int .i64 E]) :: .v (.int .i64 (k : Int)) :: .p 0 0 :: .v undef :: sw U900 4 2 (.v (.int .i64 ((blen num : Int) - blen 1 + E)) :: .v (.int .i64 pw) :: .v (.slice p32 (dig B32 (q10 N D ((k : Int) - 1 - pw))).length c32) :: .v (.slice q32 (dig B32 (r10 N D ((k : Int) - 1 - pw))).length d32) :: .v (.slice r32 (dig B32 (d10 D ((k : Int) - 1 - pw))).length z32) :: .v (.string (a0d (a0r (q10 N D ((k : Int) - 1 - pw))))) :: .v (.int .i64 (cmpN (r10 N D ((k : Int) - 1 - pw) * 2) (d10 D ((k : Int) - 1 - pw)))) :: sw U1 13 25 (.v (.bool false) :: sw U1 39 6 (.v (.bool false) :: sw U1 46 27 (.v (.bool up) :: sw U1 74 7 (.v (U900 81) :: sw U1 82 7 []))))) : List SV) ∧ bx = [⟨25, [.v (.bool g), .v (.slice p (dig B32 num).length a), .v (.slice q (dig B32 1).length b), .v (.int .i64 E)], false⟩] ∧ gs = [ownF w.heap.size .u32 143 p58 c58 (dig B32 (r10 N D ((k : Int) - 1 - pw) * 2)), ownF w.heap.size .u32 143 r32 z32 (dig B32 (d10 D ((k : Int) - 1 - pw))), ownF w.heap.size .u32 143 q32 d32 (dig B32 (r10 N D ((k : Int) - 1 - pw))), ownF w.heap.size .u32 143 p32 c32 (dig B32 (q10 N D ((k : Int) - 1 - pw))), ownF b1 .u32 143 p a (dig B32 num), ownF b2 .u32 143 q b (dig B32 1)] ∧ (up = upT N D ((k : Int) - 1 - pw))) ?_ ?_
 · intro J hJ Al W I
   rcases Bool.eq_false_or_eq_true (decide ((cmpN (r10 N D ((k : Int) - 1 - pw) * 2) (d10 D ((k : Int) - 1 - pw))) > 0)) with f62 | f62
   · refine zb I 62 (decide ((cmpN (r10 N D ((k : Int) - 1 - pw) * 2) (d10 D ((k : Int) - 1 - pw))) > 0)) (true) (f62) fun Al W I => ?_
     exact a0k I J fun Al W U I => hJ _ _ _ _ _ ⟨U, true, rfl, rfl, rfl, (by rw [hup]; symm; exact dTr (.inl (oTr f62)))⟩ (I.pick [0, 1, 2, 3, 4, 5])
   refine zb I 62 (decide ((cmpN (r10 N D ((k : Int) - 1 - pw) * 2) (d10 D ((k : Int) - 1 - pw))) > 0)) (false) (f62) fun Al W I => ?_
   rcases Bool.eq_false_or_eq_true ((cmpN (r10 N D ((k : Int) - 1 - pw) * 2) (d10 D ((k : Int) - 1 - pw))) == 0) with f65 | f65
   · refine zb I 65 ((cmpN (r10 N D ((k : Int) - 1 - pw) * 2) (d10 D ((k : Int) - 1 - pw))) == 0) (true) (f65) fun Al W I => ?_
     refine zx I 68 (fun _ => .pointer (some (at_ p32 0))) (fun Al W I => (f0s (m := 0) (n := (dig B32 (q10 N D ((k : Int) - 1 - pw))).length) (c := c32) e1g I.fa.2.2.2.1.rd.solid (by have := a0f a0a (q10 N D ((k : Int) - 1 - pw)); omega))) fun Al W I => ?_
     refine zx I 69 (fun _ => .int .u32 ((dg (dig B32 (q10 N D ((k : Int) - 1 - pw))) 0 : Nat) : Int)) (fun Al W I => (p0r I.fa.2.2.2.1.rd h1v (by have := a0f a0a (q10 N D ((k : Int) - 1 - pw)); omega))) fun Al W I => ?_
     refine zbin I 70 _ (fun _ _ _ _ _ => n0j .u32 ((dg (dig B32 (q10 N D ((k : Int) - 1 - pw))) 0 : Nat) : Int) (1) (((q10 N D ((k : Int) - 1 - pw) % 2 : Nat) : Int)) ((by exact n1q _))) fun Al W I => ?_
     rcases Bool.eq_false_or_eq_true (((q10 N D ((k : Int) - 1 - pw) % 2 : Nat) : Int) == 1) with f71 | f71
     · refine zb I 71 (((q10 N D ((k : Int) - 1 - pw) % 2 : Nat) : Int) == 1) (true) (f71) fun Al W I => ?_
       exact a0k I J fun Al W U I => hJ _ _ _ _ _ ⟨U, true, rfl, rfl, rfl, (by rw [hup]; symm; exact dTr (.inr ⟨beq_iff_eq.1 f65, by have := beq_iff_eq.1 f71; omega⟩))⟩ (I.pick [0, 1, 2, 3, 4, 5])
     refine zb I 71 (((q10 N D ((k : Int) - 1 - pw) % 2 : Nat) : Int) == 1) (false) (f71) fun Al W I => ?_
     exact a0k I J fun Al W U I => hJ _ _ _ _ _ ⟨U, false, rfl, rfl, rfl, (by rw [hup]; symm; exact dFa (fun h => h.elim (oFa f62) (fun h => bnF f71 (by have := h.2; omega))))⟩ (I.pick [0, 1, 2, 3, 4, 5])
   refine zb I 65 ((cmpN (r10 N D ((k : Int) - 1 - pw) * 2) (d10 D ((k : Int) - 1 - pw))) == 0) (false) (f65) fun Al W I => ?_
   exact a0k I J fun Al W U I => hJ _ _ _ _ _ ⟨U, false, rfl, rfl, rfl, (by rw [hup]; symm; exact dFa (fun h => h.elim (oFa f62) (fun h => bnF f65 h.1)))⟩ (I.pick [0, 1, 2, 3, 4, 5])
 rintro _ _ _ ⟨U1, up, rfl, rfl, rfl, hup2⟩ Al W I
 refine zcut I (some 2000073) (fun fr bx gs => ∃ (U2 : Nat → Value) (s : LN) (pf : Int), fr = (.v (.agg #[.bool g, .slice p (dig B32 num).length a, .slice q (dig B32 1).length b, .int .i64 E]) :: .v (.int .i64 (k : Int)) :: .p 0 0 :: .v undef :: sw U900 4 2 (.v (.int .i64 ((blen num : Int) - blen 1 + E)) :: .v (.int .i64 pf) :: .v (.slice p32 (dig B32 (q10 N D ((k : Int) - 1 - pw))).length c32) :: .v (.slice q32 (dig B32 (r10 N D ((k : Int) - 1 - pw))).length d32) :: .v (.slice r32 (dig B32 (d10 D ((k : Int) - 1 - pw))).length z32) :: .v (.string (a0d s)) :: .v (.int .i64 (cmpN (r10 N D ((k : Int) - 1 - pw) * 2) (d10 D ((k : Int) - 1 - pw)))) :: sw U2 13 25 (.v (.bool false) :: sw U2 39 6 (.v (.bool false) :: sw U2 46 27 (.v (.bool up) :: sw U2 74 15 [])))) : List SV) ∧ bx = [⟨25, [.v (.bool g), .v (.slice p (dig B32 num).length a), .v (.slice q (dig B32 1).length b), .v (.int .i64 E)], false⟩] ∧ gs = [ownF w.heap.size .u32 143 p58 c58 (dig B32 (r10 N D ((k : Int) - 1 - pw) * 2)), ownF w.heap.size .u32 143 r32 z32 (dig B32 (d10 D ((k : Int) - 1 - pw))), ownF w.heap.size .u32 143 q32 d32 (dig B32 (r10 N D ((k : Int) - 1 - pw))), ownF w.heap.size .u32 143 p32 c32 (dig B32 (q10 N D ((k : Int) - 1 - pw))), ownF b1 .u32 143 p a (dig B32 num), ownF b2 .u32 143 q b (dig B32 1)] ∧ (R = (s, pf))) ?_ ?_
 · intro J hJ Al W I
   rcases Bool.eq_false_or_eq_true up with rfl | rfl
   · refine zqo I (fun Al W I => (HO W).out) fun Al W p75 c75 I => ?_
     refine zqo I (fun Al W I => have hzW := I.bel.size; (HAd W p32 p75 c32 c75 (q10 N D ((k : Int) - 1 - pw)) I.fa.2.2.2.2.1.rd I.fa.1.rd (by omega)).out) fun Al W p76 c76 I => ?_
     refine zq I (fun Al W I => have hzW := I.bel.size; (HDe W p76 c76 (q10 N D ((k : Int) - 1 - pw) + 1) I.fa.1.rd (by have := g0o a0a (q10 N D ((k : Int) - 1 - pw)) 1; omega)).out) fun Al W I => ?_
     rcases Bool.eq_false_or_eq_true (decide ((((a0d (a0r (q10 N D ((k : Int) - 1 - pw) + 1))).size : Nat) : Int) > (k : Int))) with f81 | f81
     · refine zb I 81 (decide ((((a0d (a0r (q10 N D ((k : Int) - 1 - pw) + 1))).size : Nat) : Int) > (k : Int))) (true) (f81) fun Al W I => ?_
       refine zx I 84 (fun _ => .string (a0d ((a0r (q10 N D ((k : Int) - 1 - pw) + 1)).take k))) (fun Al W I => (by rw [show (a0r (q10 N D ((k : Int) - 1 - pw) + 1)).take k = ((a0r (q10 N D ((k : Int) - 1 - pw) + 1)).take k).drop 0 from rfl, ← h0h (m0r _)]; exact g0l uSt (.inl ⟨rfl, rfl⟩) (.inr rfl) (Nat.zero_le _) (by have := oTr f81; omega))) fun Al W I => ?_
       refine zi I 86 .i64 (pw + 1) ((pw + 1)) ((by exact iwo)) fun Al W I => ?_
       exact a0k I J fun Al W U I => hJ _ _ _ _ _ ⟨U, ((a0r (q10 N D ((k : Int) - 1 - pw) + 1)).take k), (pw + 1), rfl, rfl, rfl, (by rw [hdec, hdT, ← hup2, if_pos rfl, if_pos (by have := oTr f81; rw [a0m] at this; omega)])⟩ (I.pick [2, 3, 4, 5, 6, 7])
     refine zb I 81 (decide ((((a0d (a0r (q10 N D ((k : Int) - 1 - pw) + 1))).size : Nat) : Int) > (k : Int))) (false) (f81) fun Al W I => ?_
     exact a0k I J fun Al W U I => hJ _ _ _ _ _ ⟨U, (a0r (q10 N D ((k : Int) - 1 - pw) + 1)), pw, rfl, rfl, rfl, (by rw [hdec, hdT, ← hup2, if_pos rfl, if_neg (by have := oFa f81; rw [a0m] at this; omega)])⟩ (I.pick [2, 3, 4, 5, 6, 7])
   exact a0k I J fun Al W U I => hJ _ _ _ _ _ ⟨U, (a0r (q10 N D ((k : Int) - 1 - pw))), pw, rfl, rfl, rfl, (by rw [hdec, hdT, ← hup2, if_neg Bool.false_ne_true, Nat.add_zero, if_neg (by have h := fun h => Int.lt_irrefl _ (hl2.1 h); omega)])⟩ (I.pick [0, 1, 2, 3, 4, 5])
 rintro _ _ _ ⟨U2, s, pf, rfl, rfl, rfl, hs⟩ Al W I
 exact zret I (v := fun Al => .tuple #[.string (a0d s), .int .i64 pf]) fun Al W I => ⟨by rw [hs], I.below⟩
end Go.Proofs.YtbamiajjampgnaaGreatDoor
namespace Go.Slip
theorem s0g (c : Nat) {j : Nat} (h : j < 8) : (e0d c).take (j + 1) = (e0d c).take j ++ [c / (128 / 2 ^ j) % 2 == 1] := by
 match j, h with
 | 0, _ => rfl
 | 1, _ => rfl
 | 2, _ => rfl
 | 3, _ => rfl
 | 4, _ => rfl
 | 5, _ => rfl
 | 6, _ => rfl
 | 7, _ => rfl
theorem q1k {k j : Nat} (h : k = 128 / 2 ^ j) (hj : j ≤ 8) : k = 0 ↔ j = 8 := by
 subst h
 match j, hj with
 | 0, _ => decide
 | 1, _ => decide
 | 2, _ => decide
 | 3, _ => decide
 | 4, _ => decide
 | 5, _ => decide
 | 6, _ => decide
 | 7, _ => decide
 | 8, _ => decide
theorem r1k {k j : Nat} (h : k = 128 / 2 ^ j) : k ≤ 128 := by rw [h]; exact Nat.div_le_self _ _
theorem m0g : ∀ (x y : List Nat), f0y (x ++ y) = f0y x ++ f0y y
 | [], _ => rfl
 | c :: r, y => by show e0d c ++ f0y (r ++ y) = _; rw [m0g r y]; simp [f0y]
theorem a1r (L : List Nat) {i : Nat} (h : i < L.length) : f0y (L.take (i + 1)) = f0y (L.take i) ++ (e0d (dg L i)).take 8 := by
 rw [← List.take_append_getElem h, m0g, a0t h]
 congr 1
end Go.Slip
namespace Go.Proofs.YtbamiajjampgnaaGreatDoor
open Go.RowKit Go.Slip
def GBs (w : World) (bs : List Bool) (en : Ending) (w' : World) : Prop :=
 ∃ p c, en = .returned (.slice p bs.length c) ∧ OwnV w' w.heap.size 4 p c (bs.map Value.bool) ∧ Below w.heap.size w w'
theorem s0h (n : Int) (s : ByteArray) (w : World) (hn : IsFm n) (hs : s.size = (fmt n).size) :
 Calls Tryz.prog 70 #[.int .i64 n, .string s] w (GBs w (f0y (ordL (fmt n).ord (a0b s)))) := by
 have G := c0d hn
 have z1 := G.sz
 have HP := fun i W h => hi0 (u0f n i W hn h)
 generalize fmt n = f at *
 have hl0 : (a0b s).length = f.size := by rw [a0z, hs]
 have hlL : (ordL f.ord (a0b s)).length = f.size := by rw [b0x, hl0]
 have hbL := i0l (o := f.ord) (xs := a0b s) (fun _ => by omega) (i0i s)
 have hdg : ∀ i, i < f.size → dg (a0b s) (plc f.ord f.size i) = dg (ordL f.ord (a0b s)) i := fun i hi => by rw [l0p (by omega), hl0]
 have hpl : ∀ i, i < f.size → plc f.ord f.size i < s.size := fun i hi => by rw [hs]; exact d1b (fun _ => by omega) hi
 generalize ordL f.ord (a0b s) = L at *
 have hsucc := fun i (h : i < f.size) => a1r L (i := i) (by omega)
 have hdb := p1v hbL
 have hlen : ∀ i, i ≤ f.size → (f0y (L.take i)).length = 8 * i := fun i hi => by rw [h0x, List.length_take]; omega
 have hall : L.take f.size = L := List.take_of_length_le (by omega)
 clear hbL hl0
 have I := Inv.start w [] True.intro
 refine a0h [.v (.int .i64 n), .v (.string s)] I Tryz.func70 ?_
 have I := I.ownv (OwnV.nil _ w.heap.size 4) (Nat.le_refl _)
 refine i0u I (fun gk fr bx gs => ∃ (U900 : Nat → Value) (i : Nat) (p5 : Option Addr) (c5 : Nat) (n5 : Nat) (xs : List Value), fr = (.v (.int .i64 n) :: .v (.string s) :: su 2 (.v (.slice none 0 0) :: .v (.slice p5 n5 c5) :: .v (.int .i64 (i : Int)) :: sw U900 7 27 []) : List SV) ∧ bx = [] ∧ gs = [h0k w.heap.size 4 p5 c5 xs] ∧ (xs = (f0y (L.take i)).map Value.bool) ∧ (n5 = 8 * i) ∧ (gk + i = f.size)) f.size (fun Al W U I => ⟨_, ⟨U, 0, none, 0, 0, [], rfl, rfl, rfl, (by rw [List.take_zero]; rfl), (by omega), (by omega)⟩, I.pick [0]⟩) ?_
 rintro J0 gk0 _ _ _ ⟨U900, i, p5, c5, n5, xs, rfl, rfl, rfl, hx, hn5, hgk⟩ hJ0 Al W I
 rcases Bool.eq_false_or_eq_true (decide ((i : Int) < (s.size : Int))) with f12 | f12
 · refine zb I 12 (decide ((i : Int) < (s.size : Int))) (true) (f12) fun Al W I => ?_
   refine zq I (fun Al W I => have hzW := I.bel.size; (HP i W (by have := oTr f12; omega)).out) fun Al W I => ?_
   refine zx I 19 (fun _ => .int .u8 ((dg L i : Nat) : Int)) (fun Al W I => (by rw [← hdg i (by have := oTr f12; omega)]; exact y0p uStr rfl (hpl i (by have := oTr f12; omega)))) fun Al W I => ?_
   refine zi I 20 .i64 ((dg L i : Nat) : Int) (((dg L i : Nat) : Int)) ((IntWalk.i64_in _ (by have := hdb i; omega))) fun Al W I => ?_
   refine i0u I (fun gk fr bx gs => ∃ (U901 : Nat → Value) (j : Nat) (k : Nat) (p7 : Option Addr) (c7 : Nat) (n7 : Nat) (ys : List Value), fr = (.v (.int .i64 n) :: .v (.string s) :: su 2 (.v (.slice none 0 0) :: .v (.slice p7 n7 c7) :: .v (.int .i64 (i : Int)) :: .v (.int .i64 ((dg L i : Nat) : Int)) :: .v (.int .i64 (k : Int)) :: sw U901 9 3 (.v (.bool true) :: sw U901 13 21 [])) : List SV) ∧ bx = [] ∧ gs = [h0k w.heap.size 4 p7 c7 ys] ∧ (ys = (f0y (L.take i) ++ (e0d (dg L i)).take j).map Value.bool) ∧ (n7 = 8 * i + j) ∧ (k = 128 / 2 ^ j) ∧ (gk + j = 8)) 8 (fun Al W U I => ⟨_, ⟨U, 0, 128, p5, c5, n5, xs, rfl, rfl, rfl, (by rw [List.take_zero, List.append_nil]; exact hx), hn5, (by decide), (by omega)⟩, I.pick [0]⟩) ?_
   rintro J1 gk1 _ _ _ ⟨U901, j, k, p7, c7, n7, ys, rfl, rfl, rfl, hy, hn7, hk, hgk1⟩ hJ1 Al W I
   have hi8 : (f0y (L.take i)).length = 8 * i := hlen i (by have := oTr f12; omega)
   have hyl : n7 = ys.length := by rw [hn7, hy, List.length_map, List.length_append, hi8, List.length_take, m0b]; omega
   have hk0 : k = 0 ↔ j = 8 := q1k hk (by omega)
   rcases Bool.eq_false_or_eq_true (decide ((k : Int) > 0)) with f22 | f22
   · refine zb I 22 (decide ((k : Int) > 0)) (true) (f22) fun Al W I => ?_
     refine zbin I 28 _ (fun _ _ _ _ _ => j0j .i64 (((dg L i : Nat) : Int)) (k : Int) (((dg L i / k : Nat) : Int)) ((by have := oTr f22; omega)) ((by rw [show ((dg L i : Nat) : Int).tdiv (k : Int) = ((dg L i / k : Nat) : Int) from (Int.ofNat_tdiv _ _).symm]; have h1 := hdb i; have h2 := Nat.div_le_self (dg L i) k; generalize dg L i / k = qq at *; exact iwo))) fun Al W I => ?_
     refine zbin I 29 _ (fun _ _ _ _ _ => q0w .i64 (((dg L i / k : Nat) : Int)) (2) (((dg L i / k % 2 : Nat) : Int)) ((show (2 : Int) ≠ 0 by omega)) ((by exact (Int.ofNat_tmod _ 2).symm))) fun Al W I => ?_
     refine zb I 30 (((dg L i / k % 2 : Nat) : Int) == 1) ((dg L i / k % 2 == 1)) ((by exact j0r _)) fun Al W I => ?_
     refine zapv I [] j0q 121 n7 1 (8 * i + (j + 1)) (fun Al => some ⟨(lk 0 Al 0), 0, none⟩) 1 ([Value.bool (dg L i / k % 2 == 1)]) hyl rfl (by omega) (by have := oTr f12; omega) rfl (us := ys ++ ([Value.bool (dg L i / k % 2 == 1)])) (fun Al W I => l1u (I.box 0 4 _)) (fun Al W I h9 => True.intro) (fun Al W p32 c32 I => ?_)
     refine zbin I 24 _ (fun _ _ _ _ _ => j0j .i64 (k : Int) (2) (((k / 2 : Nat) : Int)) ((show (2 : Int) ≠ 0 by omega)) ((by rw [show (k : Int).tdiv 2 = ((k / 2 : Nat) : Int) from (Int.ofNat_tdiv k 2).symm]; exact IntWalk.i64_in _ (by have := r1k hk; omega)))) fun Al W I => ?_
     exact k1o 0 I J1 fun Al W U I => hJ1 (gk1 - 1) _ _ _ _ _ ((by have := oTr f22; omega)) ⟨U, j + 1, k / 2, p32, c32, 8 * i + (j + 1), ys ++ [Value.bool (dg L i / k % 2 == 1)], rfl, rfl, rfl, (by rw [s0g _ (show j < 8 by have := oTr f22; omega), ← hk, ← List.append_assoc, List.map_append (l₁ := _ ++ _), hy]; rfl), rfl, (by rw [hk, Nat.div_div_eq_div_mul, Nat.pow_succ]), (by have := oTr f22; omega)⟩ (I.pick [0])
   refine zb I 22 (decide ((k : Int) > 0)) (false) (f22) fun Al W I => ?_
   refine zi I 14 .i64 ((i : Int) + 1) (((i + 1 : Nat) : Int)) ((by rw [show ((i : Int) + 1) = ((i + 1 : Nat) : Int) by omega]; exact IntWalk.i64_in _ (by have := oTr f12; omega))) fun Al W I => ?_
   have I := I.ownv (OwnV.nil _ w.heap.size 4) (Nat.le_refl _)
   exact a0k I J0 fun Al W U I => hJ0 (gk0 - 1) _ _ _ _ _ ((by have := oTr f12; omega)) ⟨U, i + 1, p7, c7, n7, ys, rfl, rfl, rfl, (by rw [hsucc i (by have := oTr f12; omega), hy, hk0.1 (by have := oFa f22; omega)]), (by have := hk0.1 (by have := oFa f22; omega); omega), (by have := oTr f12; omega)⟩ (I.pick [1])
 refine zb I 12 (decide ((i : Int) < (s.size : Int))) (false) (f12) fun Al W I => ?_
 have hi : i = f.size := by have := oFa f12; omega
 have hL8 : (f0y L).length = n5 := by rw [← hall, hlen _ (Nat.le_refl _)]; omega
 rw [hi, hall] at hx
 exact zret I (v := fun Al => .slice p5 n5 c5) fun Al W I => ⟨p5, c5, by rw [hL8], by rw [← hx]; exact I.fa.1, I.below⟩
end Go.Proofs.YtbamiajjampgnaaGreatDoor
namespace Go.Slip
theorem k0x (bs : List Bool) {i : Nat} (h : i < bs.length) : vb (bs.take i) * 2 + (bs.getD i false).toNat = vb (bs.take (i + 1)) := by
 rw [t0b bs i h, Nat.mul_comm, List.getD_eq_getElem?_getD, List.getElem?_eq_getElem h]
 rfl
theorem y0r (bs : List Bool) {i : Nat} (h : i < bs.length) : (bs.map Value.bool)[i]? = some (.bool (bs.getD i false)) := by
 rw [List.getElem?_map, List.getD_eq_getElem?_getD, List.getElem?_eq_getElem h]
 rfl
end Go.Slip
namespace Go.Proofs.YtbamiajjampgnaaGreatDoor
open Go.RowKit Go.Slip
theorem i0f : dig B16 2 = [2] := by rw [c0k a0g (by omega), show 2 / B16 = 0 by unfold B16; omega, a0c, show 2 % B16 = 2 by unfold B16; omega]
theorem d0s {x n k : Nat} (h : x < 2 ^ n) (hk : n ≤ 16 * k) : (dig B16 x).length ≤ k := by
 rw [a0e a0g]
 unfold B16
 rw [show (65536 : Nat) = 2 ^ 16 from rfl, ← Nat.pow_mul]
 exact Nat.lt_of_lt_of_le h (Nat.pow_le_pow_right (by omega) hk)
theorem u0q (bs : List Bool) (p : Option Addr) (n c : Nat) (w : World) (hp : RdV w p (bs.map Value.bool)) (hn : n = bs.length) (hl : bs.length ≤ 200) :
 Calls Tryz.prog 71 #[.slice p n c] w (GRf w (dig B16 (vb bs))) := by
 subst hn
 have hd : ∀ i, (dig B16 (vb (bs.take i))).length ≤ 100 := fun i => d0s (n := 200) (Nat.lt_of_lt_of_le (l0o _) (Nat.pow_le_pow_right (by omega) (by rw [List.length_take]; omega))) (by omega)
 have hd2 : ∀ i, (dig B16 (vb (bs.take i) * 2)).length ≤ 101 := fun i => d0s (n := 201) (by have h := l0o (bs.take i); have h2 : 2 ^ (bs.take i).length ≤ 2 ^ 200 := Nat.pow_le_pow_right (by omega) (by rw [List.length_take]; omega); rw [show 201 = 200 + 1 from rfl, Nat.pow_succ]; generalize 2 ^ 200 = T at *; omega) (by omega)
 have hsucc := fun i h => k0x bs (i := i) h
 have hall : bs.take bs.length = bs := List.take_length
 have hget := fun i h => y0r bs (i := i) h
 have hln : (bs.map Value.bool).length = bs.length := List.length_map ..
 have I := Inv.start w [rdvF p (bs.map Value.bool)] ⟨hp, True.intro⟩
 refine a0h [.v (.slice p bs.length c)] I Tryz.func71 ?_
 have I := I.rfA (s0u _ w.heap.size none) (fun _ h => h) (fun _ _ h => by cases h) (Nat.le_refl _)
 refine i0u I (fun gk fr bx gs => ∃ (U900 : Nat → Value) (i : Nat) (p3 : Option Addr) (c3 : Nat) (n3 : Nat) (ds : List Nat), fr = (.v (.slice p bs.length c) :: .v undef :: .v (.slice none 0 0) :: .v (.slice p3 n3 c3) :: .v (.int .i64 (i : Int)) :: sw U900 5 17 [] : List SV) ∧ bx = [] ∧ gs = [rfF w.heap.size p3 c3 ds, rdvF p (bs.map Value.bool)] ∧ (ds = dig B16 (vb (bs.take i))) ∧ (n3 = (dig B16 (vb (bs.take i))).length) ∧ (gk + i = bs.length)) bs.length (fun Al W U I => ⟨_, ⟨U, 0, none, 0, 0, [], rfl, rfl, rfl, (by rw [List.take_zero, c1x, a0c]), (by rw [List.take_zero, c1x, a0c]; rfl), (by omega)⟩, I.pick [0, 1]⟩) ?_
 rintro J0 gk0 _ _ _ ⟨U900, i, p3, c3, n3, ds, rfl, rfl, rfl, hds, hn3, hgk⟩ hJ0 Al W I
 rcases Bool.eq_false_or_eq_true (decide ((i : Int) < (bs.length : Int))) with f8 | f8
 · refine zb I 8 (decide ((i : Int) < (bs.length : Int))) (true) (f8) fun Al W I => ?_
   refine zlv I 12 2 3 (dig B16 2) i0f fun Al W p12 I => ?_
   refine zqr I (fun Al W I => have hzW := I.bel.size; y0o p3 p12 n3 _ c3 1 (vb (bs.take i)) 2 (vb (bs.take i) * 2) W (by rw [← hds]; exact I.fa.2.1.rd) I.fa.1.rd hn3 rfl (by have := hd i; omega) (by rw [i0f]; decide) rfl) fun Al W p13 c13 I => ?_
   have I := I.rfA (s0u _ w.heap.size none) (fun _ h => h) (fun _ _ h => by cases h) (Nat.le_refl _)
   refine zx I 16 (fun _ => .pointer (some (at_ p i))) (fun Al W I => f0s (c := c) j0q (by have h := I.fa.2.2.2.2.1.solid; rw [hln] at h; exact h) (by have := oTr f8; omega)) fun Al W I => ?_
   rcases Bool.eq_false_or_eq_true (bs.getD i false) with f17 | f17
   · refine zx I 17 (fun _ => .bool true) (fun Al W I => (l0z I.fa.2.2.2.2.1 n0s (hget i (by have := oTr f8; omega))).trans (congrArg (fun z => Result.ok (Value.bool z) W) (show (bs.getD i false) = true from f17))) fun Al W I => ?_
     refine zlv I 19 1 3 (dig B16 1) g0i fun Al W p19 I => ?_
     refine zqr I (fun Al W I => have hzW := I.bel.size; i1v p13 p19 _ _ c13 1 (vb (bs.take i) * 2) 1 (vb (bs.take (i + 1))) W I.fa.2.2.1.rd I.fa.1.rd rfl rfl (by have := hd2 i; omega) (by rw [g0i]; decide) (by rw [← hsucc i (by have := oTr f8; omega), f17, Bool.toNat_true])) fun Al W p20 c20 I => ?_
     have I := I.rfA (s0u _ w.heap.size none) (fun _ h => h) (fun _ _ h => by cases h) (Nat.le_refl _)
     refine zi I 10 .i64 ((i : Int) + 1) (((i + 1 : Nat) : Int)) ((by rw [show ((i : Int) + 1) = ((i + 1 : Nat) : Int) by omega]; exact IntWalk.i64_in _ (by have := oTr f8; omega))) fun Al W I => ?_
     exact a0k I J0 fun Al W U I => hJ0 (gk0 - 1) _ _ _ _ _ ((by have := oTr f8; omega)) ⟨U, i + 1, p20, c20, (dig B16 (vb (bs.take (i + 1)))).length, dig B16 (vb (bs.take (i + 1))), rfl, rfl, rfl, rfl, rfl, (by have := oTr f8; omega)⟩ (I.pick [1, 7])
   refine zx I 17 (fun _ => .bool false) (fun Al W I => (l0z I.fa.2.2.2.2.1 n0s (hget i (by have := oTr f8; omega))).trans (congrArg (fun z => Result.ok (Value.bool z) W) (show (bs.getD i false) = false from f17))) fun Al W I => ?_
   refine zi I 10 .i64 ((i : Int) + 1) (((i + 1 : Nat) : Int)) ((by rw [show ((i : Int) + 1) = ((i + 1 : Nat) : Int) by omega]; exact IntWalk.i64_in _ (by have := oTr f8; omega))) fun Al W I => ?_
   exact a0k I J0 fun Al W U I => hJ0 (gk0 - 1) _ _ _ _ _ ((by have := oTr f8; omega)) ⟨U, i + 1, p13, c13, (dig B16 (vb (bs.take i) * 2)).length, dig B16 (vb (bs.take i) * 2), rfl, rfl, rfl, (by rw [← hsucc i (by have := oTr f8; omega), f17, Bool.toNat_false, Nat.add_zero]), (by rw [← hsucc i (by have := oTr f8; omega), f17, Bool.toNat_false, Nat.add_zero]), (by have := oTr f8; omega)⟩ (I.pick [1, 4])
 refine zb I 8 (decide ((i : Int) < (bs.length : Int))) (false) (f8) fun Al W I => ?_
 have hi : i = bs.length := by have := oFa f8; omega
 rw [hi, hall] at hds hn3
 exact zret I (v := fun Al => .slice p3 n3 c3) fun Al W I => ⟨p3, c3, by rw [hn3], by rw [← hds]; exact I.fa.1, I.below⟩
def f1n (w : World) (v : Vr) (en : Ending) (w' : World) : Prop :=
 ∃ p c, en = .returned (.agg #[.int .i64 (v.cls : Int), .bool v.neg, .bool v.x.neg, .slice p (dig B16 v.x.m).length c, .int .i64 v.x.e]) ∧ Rf w' w.heap.size p c (dig B16 v.x.m) ∧ Below w.heap.size w w'
theorem u0r {w w' : World} {k : Nat} {n : Bool} {en : Ending} (h : en = .returned (.agg #[.int .i64 (k : Int), .bool n, .bool false, .slice none 0 0, .int .i64 0])) (hb : Below w.heap.size w w') : f1n w ⟨k, n, ⟨false, 0, 0⟩⟩ en w' := by
 refine ⟨none, 0, ?_, ?_, hb⟩
 · rw [h, a0c]; rfl
 · rw [a0c]; exact s0u _ _ _
theorem d0d (f : Fm) (g : Bool) (bg bf x : Nat) (p : Option Addr) (c b0 : Nat) (pw : Int) (w : World) (hp : Rf w b0 p c (dig B16 x)) (hl : (dig B16 x).length ≤ 1000) (hpw : -100000 ≤ pw ∧ pw ≤ 100000)
 (Bg : Bt w bg 4 #[.bool g]) (Bf : Bt w bf 42 #[.int .i64 (f.size : Int), .int .i64 (f.E : Int), .int .i64 (f.F : Int), .int .i64 f.g.rad, .int .i64 f.g.digs, .int .i64 f.g.lo, .int .i64 f.g.hi, .bool f.g.grad, .int .i64 (f.fam : Int)]) :
 Calls Tryz.prog 73 #[.slice p (dig B16 x).length c, .int .i64 pw, .pointer (some ⟨bg, 0, none⟩), .pointer (some ⟨bf, 0, none⟩)] w (f1n w (f.vr g ⟨2, x, pw⟩)) := by
 have hx0 := a0f a0g x
 have wp := b0j f.g
 have lg := Bg.lt
 have lf := Bf.lt
 have hmu := t0w (wd := wid f.g) (k := pw) (B := 100000) wp.2 hpw
 by_cases h0 : x = 0
 · have hv : f.vr g ⟨2, x, pw⟩ = ⟨1, g, ⟨false, 0, 0⟩⟩ := by unfold Fm.vr Dc.c; simp [h0]
   have hb0 : bare ⟨g, x, wid f.g * pw⟩ = ⟨false, 0, 0⟩ := by rw [h0]; rfl
   rw [hv]
   generalize hmw : (wid f.g : Int) * pw = mw at *
   have HMW := hi0 hmw
   clear hmw
   have I := Inv.startR w [bg, bf] [⟨4, [.v (.bool g)], true⟩, ⟨42, [.v (.int .i64 (f.size : Int)), .v (.int .i64 (f.E : Int)), .v (.int .i64 (f.F : Int)), .v (.int .i64 f.g.rad), .v (.int .i64 f.g.digs), .v (.int .i64 f.g.lo), .v (.int .i64 f.g.hi), .v (.bool f.g.grad), .v (.int .i64 (f.fam : Int))], true⟩] [rfF b0 p c (dig B16 x)] ⟨Bg, Bf, True.intro⟩ ⟨hp, True.intro⟩
   refine a0h [.v (.slice p (dig B16 x).length c), .v (.int .i64 pw), .p 0 0, .p 1 0] I Tryz.func73 ?_
   refine zcut I none (fun fr bx gs => ∃ (U1 : Nat → Value) (p16 : Option Addr) (c16 : Nat), fr = (.v (.slice p (dig B16 x).length c) :: .v (.int .i64 pw) :: .p 0 0 :: .p 1 0 :: su 2 (.p 2 0 :: .p 3 0 :: sw U1 8 12 (.v undef :: sw U1 21 5 [])) : List SV) ∧ bx = [⟨4, [.v (.bool g)], true⟩, ⟨42, [.v (.int .i64 (f.size : Int)), .v (.int .i64 (f.E : Int)), .v (.int .i64 (f.F : Int)), .v (.int .i64 f.g.rad), .v (.int .i64 f.g.digs), .v (.int .i64 f.g.lo), .v (.int .i64 f.g.hi), .v (.bool f.g.grad), .v (.int .i64 (f.fam : Int))], true⟩, ⟨49, [.v (.int .i64 0), .v (.bool false), .v (.bool false), .v (.slice none 0 0), .v (.int .i64 0)], false⟩, ⟨47, [.v (.bool false), .v (.slice p16 (dig B16 0).length c16), .v (.int .i64 0)], false⟩] ∧ gs = [rfF w.heap.size p16 c16 (dig B16 0), rfF b0 p c (dig B16 x)]) ?_ ?_
   · intro J hJ Al W I
     refine zd [] I fun Al W I => ?_
     refine zk [0, 1, 2, 3, 5] I fun I => ?_
     refine zo2 4 9 I (fun I => ?_) (fun I => ?_)
     · refine zq I (fun Al W I => f0t f.g W) fun Al W I => ?_
       refine zki 6 I .i64 (((wid f.g : Nat) : Int) * pw) (mw) ((by rw [HMW.out]; exact iwo)) fun I => ?_
       refine zk [7] I fun I => ?_
       refine zo2 8 9 I (fun I => ?_) (fun I => ?_)
       · refine zqr I (fun Al W I => have hzW := I.bel.size; p0v g p _ c mw x ⟨false, 0, 0⟩ W I.fa.1.rd rfl (by omega) (by omega) hb0) fun Al W p16 c16 I => ?_
         refine zo 9 I fun I => ?_
         refine zn I fun Al W I => ?_
         refine zo 10 I fun I => ?_
         refine zn I fun Al W I => ?_
         exact a0k I J fun Al W U I => hJ _ _ _ _ _ ⟨U, p16, c16, rfl, rfl, rfl⟩ (I.pick [0, 1])
       refine zn I fun Al W I => ?_
       refine zo 8 I fun I => ?_
       refine zqr I (fun Al W I => have hzW := I.bel.size; p0v g p _ c mw x ⟨false, 0, 0⟩ W I.fa.1.rd rfl (by omega) (by omega) hb0) fun Al W p16 c16 I => ?_
       refine zo 10 I fun I => ?_
       refine zn I fun Al W I => ?_
       exact a0k I J fun Al W U I => hJ _ _ _ _ _ ⟨U, p16, c16, rfl, rfl, rfl⟩ (I.pick [0, 1])
     refine zn I fun Al W I => ?_
     refine zo 4 I fun I => ?_
     refine zq I (fun Al W I => f0t f.g W) fun Al W I => ?_
     refine zki 6 I .i64 (((wid f.g : Nat) : Int) * pw) (mw) ((by rw [HMW.out]; exact iwo)) fun I => ?_
     refine zk [7] I fun I => ?_
     refine zo 8 I fun I => ?_
     refine zqr I (fun Al W I => have hzW := I.bel.size; p0v g p _ c mw x ⟨false, 0, 0⟩ W I.fa.1.rd rfl (by omega) (by omega) hb0) fun Al W p16 c16 I => ?_
     refine zo 10 I fun I => ?_
     refine zn I fun Al W I => ?_
     exact a0k I J fun Al W U I => hJ _ _ _ _ _ ⟨U, p16, c16, rfl, rfl, rfl⟩ (I.pick [0, 1])
   rintro _ _ _ ⟨U1, p16, c16, rfl, rfl, rfl⟩ Al W I
   refine zb I 20 ((((dig B16 0).length : Nat) : Int) == 0) (true) (beq_iff_eq.2 (by rw [a0c]; rfl)) fun Al W I => ?_
   exact zret I fun Al W I => u0r rfl I.below
 · have hv : f.vr g ⟨2, x, pw⟩ = ⟨2, g, bare ⟨g, x, wid f.g * pw⟩⟩ := by unfold Fm.vr Dc.c; simp [h0]
   have hne : (bare ⟨g, x, wid f.g * pw⟩ : Dv).m ≠ 0 := by
    unfold bare
    rw [if_neg h0]
    have := (b0t x (by omega)).2
    intro h
    simp only at h
    rw [h] at this
    simp at this
   rw [hv]
   generalize hmw : (wid f.g : Int) * pw = mw at *
   have HMW := hi0 hmw
   clear hmw
   generalize hd : bare ⟨g, x, mw⟩ = d at *
   have HD := hi0 hd
   clear hd
   have hd0 := a0f a0g d.m
   have I := Inv.startR w [bg, bf] [⟨4, [.v (.bool g)], true⟩, ⟨42, [.v (.int .i64 (f.size : Int)), .v (.int .i64 (f.E : Int)), .v (.int .i64 (f.F : Int)), .v (.int .i64 f.g.rad), .v (.int .i64 f.g.digs), .v (.int .i64 f.g.lo), .v (.int .i64 f.g.hi), .v (.bool f.g.grad), .v (.int .i64 (f.fam : Int))], true⟩] [rfF b0 p c (dig B16 x)] ⟨Bg, Bf, True.intro⟩ ⟨hp, True.intro⟩
   refine a0h [.v (.slice p (dig B16 x).length c), .v (.int .i64 pw), .p 0 0, .p 1 0] I Tryz.func73 ?_
   refine zcut I none (fun fr bx gs => ∃ (U1 : Nat → Value) (p16 : Option Addr) (c16 : Nat), fr = (.v (.slice p (dig B16 x).length c) :: .v (.int .i64 pw) :: .p 0 0 :: .p 1 0 :: su 2 (.p 2 0 :: .p 3 0 :: sw U1 8 12 (.v undef :: sw U1 21 5 [])) : List SV) ∧ bx = [⟨4, [.v (.bool g)], true⟩, ⟨42, [.v (.int .i64 (f.size : Int)), .v (.int .i64 (f.E : Int)), .v (.int .i64 (f.F : Int)), .v (.int .i64 f.g.rad), .v (.int .i64 f.g.digs), .v (.int .i64 f.g.lo), .v (.int .i64 f.g.hi), .v (.bool f.g.grad), .v (.int .i64 (f.fam : Int))], true⟩, ⟨49, [.v (.int .i64 0), .v (.bool false), .v (.bool false), .v (.slice none 0 0), .v (.int .i64 0)], false⟩, ⟨47, [.v (.bool d.neg), .v (.slice p16 (dig B16 d.m).length c16), .v (.int .i64 d.e)], false⟩] ∧ gs = [rfF w.heap.size p16 c16 (dig B16 d.m), rfF b0 p c (dig B16 x)]) ?_ ?_
   · intro J hJ Al W I
     refine zd [] I fun Al W I => ?_
     refine zk [0, 1, 2, 3, 5] I fun I => ?_
     refine zo2 4 9 I (fun I => ?_) (fun I => ?_)
     · refine zq I (fun Al W I => f0t f.g W) fun Al W I => ?_
       refine zki 6 I .i64 (((wid f.g : Nat) : Int) * pw) (mw) ((by rw [HMW.out]; exact iwo)) fun I => ?_
       refine zk [7] I fun I => ?_
       refine zo2 8 9 I (fun I => ?_) (fun I => ?_)
       · refine zqr I (fun Al W I => have hzW := I.bel.size; p0v g p _ c mw x d W I.fa.1.rd rfl (by omega) (by omega) HD.out) fun Al W p16 c16 I => ?_
         refine zo 9 I fun I => ?_
         refine zn I fun Al W I => ?_
         refine zo 10 I fun I => ?_
         refine zn I fun Al W I => ?_
         exact a0k I J fun Al W U I => hJ _ _ _ _ _ ⟨U, p16, c16, rfl, rfl, rfl⟩ (I.pick [0, 1])
       refine zn I fun Al W I => ?_
       refine zo 8 I fun I => ?_
       refine zqr I (fun Al W I => have hzW := I.bel.size; p0v g p _ c mw x d W I.fa.1.rd rfl (by omega) (by omega) HD.out) fun Al W p16 c16 I => ?_
       refine zo 10 I fun I => ?_
       refine zn I fun Al W I => ?_
       exact a0k I J fun Al W U I => hJ _ _ _ _ _ ⟨U, p16, c16, rfl, rfl, rfl⟩ (I.pick [0, 1])
     refine zn I fun Al W I => ?_
     refine zo 4 I fun I => ?_
     refine zq I (fun Al W I => f0t f.g W) fun Al W I => ?_
     refine zki 6 I .i64 (((wid f.g : Nat) : Int) * pw) (mw) ((by rw [HMW.out]; exact iwo)) fun I => ?_
     refine zk [7] I fun I => ?_
     refine zo 8 I fun I => ?_
     refine zqr I (fun Al W I => have hzW := I.bel.size; p0v g p _ c mw x d W I.fa.1.rd rfl (by omega) (by omega) HD.out) fun Al W p16 c16 I => ?_
     refine zo 10 I fun I => ?_
     refine zn I fun Al W I => ?_
     exact a0k I J fun Al W U I => hJ _ _ _ _ _ ⟨U, p16, c16, rfl, rfl, rfl⟩ (I.pick [0, 1])
   rintro _ _ _ ⟨U1, p16, c16, rfl, rfl, rfl⟩ Al W I
   refine zb I 20 ((((dig B16 d.m).length : Nat) : Int) == 0) (false) (bFn (by omega)) fun Al W I => ?_
   exact zret I fun Al W I => ⟨p16, c16, rfl, I.fa.1.mono (by omega), I.below⟩
end Go.Proofs.YtbamiajjampgnaaGreatDoor
namespace Go.Slip
theorem o0r (r : List Bool) {i : Nat} (h : i < r.length) : (r.take (i + 1)).all id = ((r.take i).all id && r.getD i false) := by
 rw [r0f r i h, List.getD_eq_getElem?_getD, List.getElem?_eq_getElem h]
 rfl
theorem q0a {X F d : Nat} (h : X < 2 ^ F) (hF : F ≤ 64) (hd : d ≤ 120) : X + 2 ^ d < 2 ^ 122 := by
 have h1 : 2 ^ F ≤ 2 ^ 64 := Nat.pow_le_pow_right (by omega) hF
 have h2 : 2 ^ d ≤ 2 ^ 120 := Nat.pow_le_pow_right (by omega) hd
 omega
theorem j1k {a b : Nat} (h : cmpN a b < 0) : a < b := by
 unfold cmpN at h
 split at h
 · assumption
 · split at h <;> omega
theorem w0y {a b : Nat} (h : ¬ cmpN a b < 0) : ¬ a < b := fun k => by
 apply h
 rw [g0s k]
 decide
theorem j1l {w : World} {p : Option Addr} {x : Bool} {r : List Bool} (h : RdV w p ((x :: r).map Value.bool)) (E : Nat) : RdV w (p.map (·.add (1 + E))) ((r.drop E).map Value.bool) := by
 have := h.drop (1 + E)
 rw [show ((x :: r).map Value.bool).drop (1 + E) = (r.drop E).map Value.bool by rw [Nat.add_comm, List.map_cons, List.drop_succ_cons, List.map_drop]] at this
 exact this
end Go.Slip
namespace Go.Proofs.YtbamiajjampgnaaGreatDoor
open Go.RowKit Go.Slip
def s0i (w : World) (v : Vr) (g : Bool) (en : Ending) (w' : World) : Prop :=
 ∃ p c, en = .returned (.tuple #[.agg #[.int .i64 (v.cls : Int), .bool v.neg, .bool v.x.neg, .slice p (dig B16 v.x.m).length c, .int .i64 v.x.e], .bool g]) ∧ Rf w' w.heap.size p c (dig B16 v.x.m) ∧ Below w.heap.size w w'
theorem c0n {w w' : World} {v : Vr} {k : Nat} {n g : Bool} {en : Ending} (hv : v = ⟨k, n, ⟨false, 0, 0⟩⟩) (h : en = .returned (.tuple #[.agg #[.int .i64 (k : Int), .bool n, .bool false, .slice none 0 0, .int .i64 0], .bool g])) (hb : Below w.heap.size w w') : s0i w v g en w' := by
 subst hv
 refine ⟨none, 0, ?_, ?_, hb⟩
 · rw [h, a0c]; rfl
 · rw [a0c]; exact s0u _ _ _
theorem e0a {w w' : World} {v u : Vr} {g : Bool} {p : Option Addr} {c base : Nat} {en : Ending} (hv : v = u) (h : en = .returned (.tuple #[.agg #[.int .i64 (u.cls : Int), .bool u.neg, .bool u.x.neg, .slice p (dig B16 u.x.m).length c, .int .i64 u.x.e], .bool g])) (ho : Rf w' base p c (dig B16 u.x.m)) (hB : w.heap.size ≤ base) (hb : Below w.heap.size w w') : s0i w v g en w' := by
 subst hv
 exact ⟨p, c, h, ho.mono hB, hb⟩
theorem o0f (f : Fm) (g : Bool) {k : Nat} (hk : k ≠ 2) : f.vr g ⟨k, 0, 0⟩ = ⟨k, if k ≤ 3 then g else false, ⟨false, 0, 0⟩⟩ := by
 unfold Fm.vr Dc.c
 simp [hk]
theorem o0g (n : Int) (s : ByteArray) (w : World) (hn : IsFm n) (hs : s.size = (fmt n).size) :
 Calls Tryz.prog 23 #[.int .i64 n, .string s] w (s0i w ((fmt n).refN (a0s (fmt n) s)) ((fmt n).neg (a0s (fmt n) s))) := by
 have G := c0d hn
 have hext := k1x hn
 have HF := fun W => hi0 (i0d n hn W)
 have HB := fun W => hi0 (s0h n s W hn hs)
 generalize fmt n = f at *
 have z1 := G.sz
 have z2 := G.e2
 have z3 := G.f2
 have z4 := G.bits
 have z5 := G.lo
 have z6 := G.f1
 have hl0 : (a0b s).length = f.size := by rw [a0z, hs]
 have hlL : (ordL f.ord (a0b s)).length = f.size := by rw [b0x, hl0]
 have hN : a0s f s = vb (f0y (ordL f.ord (a0b s))) := (v0y _ (i0l (fun _ => by omega) (i0i s))).symm
 have hlB : (f0y (ordL f.ord (a0b s))).length = 1 + f.E + f.F := by rw [h0x, hlL]; omega
 rw [hN]
 clear hN
 generalize f0y (ordL f.ord (a0b s)) = bs at *
 obtain ⟨x, r, rfl⟩ : ∃ x r, bs = x :: r := by
  cases bs with
  | nil => simp at hlB; omega
  | cons x r => exact ⟨x, r, rfl⟩
 have hr : r.length = f.E + f.F := by rw [List.length_cons] at hlB; omega
 unfold Fm.refN Fm.decN
 rw [y0b hr, y0c hr, t0a hr]
 have hEl : (r.take f.E).length = f.E := by rw [List.length_take]; omega
 have hXl : (r.drop f.E).length = f.F := by rw [List.length_drop]; omega
 have hones := d1a (r.take f.E)
 rw [hEl] at hones
 have hElt := l0o (r.take f.E)
 rw [hEl] at hElt
 have hXlt := l0o (r.drop f.E)
 rw [hXl] at hXlt
 have HV := fun W p m c h hm => hi0 (u0q (r.drop f.E) p m c W h hm (by omega))
 have hvt := fun i h => k0x r (i := i) h
 have hat := fun i h => o0r r (i := i) h
 have hev : ∀ i, i ≤ f.E → vb (r.take i) < 32768 := fun i hi => Nat.lt_of_lt_of_le (l0o _) (by rw [List.length_take, show (32768 : Nat) = 2 ^ 15 from rfl]; exact Nat.pow_le_pow_right (by omega) (by omega))
 have hget := fun i h => y0r r (i := i) h
 generalize hEE : vb (r.take f.E) = EE at *
 generalize hXX : vb (r.drop f.E) = X at *
 have hXd := d0s hXlt (k := 4) (by omega)
 have hX0 := a0f a0g X
 have h15 : EE < 32768 := Nat.lt_of_lt_of_le hElt (by rw [show (32768 : Nat) = 2 ^ 15 from rfl]; exact Nat.pow_le_pow_right (by omega) (by omega))
 have hg := b0w G.g
 have hd1 := hg.d1
 have hd2 := hg.d2
 obtain ⟨dN, hdN⟩ : ∃ dN : Nat, f.g.digs - 1 = (dN : Int) := ⟨(f.g.digs - 1).toNat, by omega⟩
 have hdl : (dig B16 (2 ^ dN)).length ≤ 8 := d0s (n := 121) (Nat.pow_lt_pow_right (by omega) (by omega)) (by omega)
 have hd1F := G.d1
 have hextF := G.ext
 have hfam := G.fam
 have hln : (List.map Value.bool (x :: r)).length = (x :: r).length := List.length_map ..
 have hlr : (x :: r).length = 1 + f.E + f.F := hlB
 clear hXX hl0 hlL hXl hs
 have I := Inv.start w [] True.intro
 refine a0h [.v (.int .i64 n), .v (.string s)] I Tryz.func23 ?_
 refine zq I (fun Al W I => (HF W).out) fun Al W I => ?_
 refine zg I (fun Al W I => (HB W).out) fun Al V Iv _ hB _ kz => ?_
 rintro _ W ⟨p8, c8, rfl, o8, hb⟩
 refine ⟨_, rfl, kz _ _ hb fun I => ?_⟩
 have I := I.ownv o8
 refine zx I 26 (fun _ => .pointer (some (at_ p8 0))) (fun Al W I => f0s (p := p8) (n := (x :: r).length) (c := c8) (m := 0) j0q (by have h := I.fa.1.rd.solid; rw [hln] at h; exact h) (by omega)) fun Al W I => ?_
 refine zx I 27 (fun _ => .bool x) (fun Al W I => l0z I.fa.1.rd n0s (m := 0) rfl) fun Al W I => ?_
 refine i0u I (fun gk fr bx gs => ∃ (U900 : Nat → Value) (i : Nat) (e : Nat) (o : Bool), fr = (.v (.int .i64 n) :: .v (.string s) :: su 2 (.p 0 0 :: .v (.bool false) :: .p 1 0 :: .v (U900 7) :: .v (.slice p8 (x :: r).length c8) :: .p 2 0 :: .v (.int .i64 (e : Int)) :: .v (.bool o) :: .v (.int .i64 ((i + 1 : Nat) : Int)) :: su 4 (sw U900 17 48 (su 2 (sw U900 67 8 (.v undef :: sw U900 76 2 (su 2 (sw U900 80 15 (su 2 (sw U900 97 3 (.v undef :: sw U900 101 12 (.v undef :: sw U900 114 11 (.v undef :: sw U900 126 2 (.v undef :: sw U900 129 6 (.v undef :: sw U900 136 12 [])))))))))))))) : List SV) ∧ bx = [⟨49, [.v (.int .i64 0), .v (.bool false), .v (.bool false), .v (.slice none 0 0), .v (.int .i64 0)], false⟩, ⟨42, [.v (.int .i64 (f.size : Int)), .v (.int .i64 (f.E : Int)), .v (.int .i64 (f.F : Int)), .v (.int .i64 f.g.rad), .v (.int .i64 f.g.digs), .v (.int .i64 f.g.lo), .v (.int .i64 f.g.hi), .v (.bool f.g.grad), .v (.int .i64 (f.fam : Int))], false⟩, ⟨4, [.v (.bool x)], false⟩] ∧ gs = [h0k w.heap.size 4 p8 c8 ((x :: r).map Value.bool)] ∧ (e = vb (r.take i)) ∧ (o = (r.take i).all id) ∧ (gk + i = f.E)) f.E (fun Al W U I => ⟨_, ⟨U, 0, 0, true, rfl, rfl, rfl, rfl, rfl, (by omega)⟩, I.pick [0]⟩) ?_
 rintro J0 gk0 _ _ _ ⟨U900, i, e, o, rfl, rfl, rfl, he, ho, hgk⟩ hJ0 Al W I
 have hel : e < 32768 := by rw [he]; exact hev i (by omega)
 rcases Bool.eq_false_or_eq_true (decide (((i + 1 : Nat) : Int) ≤ (f.E : Int))) with f31 | f31
 · refine zb I 31 (decide (((i + 1 : Nat) : Int) ≤ (f.E : Int))) (true) (f31) fun Al W I => ?_
   refine zi I 35 .i64 ((2 : Int) * (e : Int)) (((2 * e : Nat) : Int)) ((by rw [show ((2 : Int) * (e : Int)) = ((2 * e : Nat) : Int) by omega]; exact iwo)) fun Al W I => ?_
   refine zx I 38 (fun _ => .pointer (some (at_ p8 (i + 1)))) (fun Al W I => f0s (p := p8) (n := (x :: r).length) (c := c8) (m := i + 1) j0q (by have h := I.fa.1.rd.solid; rw [hln] at h; exact h) (by have := oTr f31; omega)) fun Al W I => ?_
   rcases Bool.eq_false_or_eq_true (r.getD i false) with f39 | f39
   · refine zx I 39 (fun _ => .bool true) (fun Al W I => (l0z I.fa.1.rd n0s (m := i + 1) (by rw [List.map_cons, List.getElem?_cons_succ]; exact hget i (by have := oTr f31; omega))).trans (congrArg (fun z => Result.ok (Value.bool z) W) (show (r.getD i false) = true from f39))) fun Al W I => ?_
     refine zi I 41 .i64 (((2 * e : Nat) : Int) + 1) (((2 * e + 1 : Nat) : Int)) ((by rw [show (((2 * e : Nat) : Int) + 1) = ((2 * e + 1 : Nat) : Int) by omega]; exact iwo)) fun Al W I => ?_
     rcases Bool.eq_false_or_eq_true (o) with f43 | f43
     · refine zb I 43 (o) (true) (f43) fun Al W I => ?_
       refine zx I 46 (fun _ => .pointer (some (at_ p8 (i + 1)))) (fun Al W I => f0s (p := p8) (n := (x :: r).length) (c := c8) (m := i + 1) j0q (by have h := I.fa.1.rd.solid; rw [hln] at h; exact h) (by have := oTr f31; omega)) fun Al W I => ?_
       refine zx I 47 (fun _ => .bool true) (fun Al W I => (l0z I.fa.1.rd n0s (m := i + 1) (by rw [List.map_cons, List.getElem?_cons_succ]; exact hget i (by have := oTr f31; omega))).trans (congrArg (fun z => Result.ok (Value.bool z) W) (show (r.getD i false) = true from f39))) fun Al W I => ?_
       refine zi I 33 .i64 (((i + 1 : Nat) : Int) + 1) (((i + 1 + 1 : Nat) : Int)) ((by rw [show (((i + 1 : Nat) : Int) + 1) = ((i + 1 + 1 : Nat) : Int) by omega]; exact IntWalk.i64_in _ (by have := oTr f31; omega))) fun Al W I => ?_
       exact a0k I J0 fun Al W U I => hJ0 (gk0 - 1) _ _ _ _ _ ((by have := oTr f31; omega)) ⟨U, i + 1, 2 * e + 1, true, rfl, rfl, rfl, (by rw [← hvt i (by have := oTr f31; omega), f39, he, Bool.toNat_true, Nat.mul_comm]), (by rw [hat i (by have := oTr f31; omega), f39, ← ho, f43]; rfl), (by have := oTr f31; omega)⟩ (I.pick [0])
     refine zb I 43 (o) (false) (f43) fun Al W I => ?_
     refine zi I 33 .i64 (((i + 1 : Nat) : Int) + 1) (((i + 1 + 1 : Nat) : Int)) ((by rw [show (((i + 1 : Nat) : Int) + 1) = ((i + 1 + 1 : Nat) : Int) by omega]; exact IntWalk.i64_in _ (by have := oTr f31; omega))) fun Al W I => ?_
     exact a0k I J0 fun Al W U I => hJ0 (gk0 - 1) _ _ _ _ _ ((by have := oTr f31; omega)) ⟨U, i + 1, 2 * e + 1, false, rfl, rfl, rfl, (by rw [← hvt i (by have := oTr f31; omega), f39, he, Bool.toNat_true, Nat.mul_comm]), (by rw [hat i (by have := oTr f31; omega), f39, ← ho, f43]; rfl), (by have := oTr f31; omega)⟩ (I.pick [0])
   refine zx I 39 (fun _ => .bool false) (fun Al W I => (l0z I.fa.1.rd n0s (m := i + 1) (by rw [List.map_cons, List.getElem?_cons_succ]; exact hget i (by have := oTr f31; omega))).trans (congrArg (fun z => Result.ok (Value.bool z) W) (show (r.getD i false) = false from f39))) fun Al W I => ?_
   rcases Bool.eq_false_or_eq_true (o) with f43 | f43
   · refine zb I 43 (o) (true) (f43) fun Al W I => ?_
     refine zx I 46 (fun _ => .pointer (some (at_ p8 (i + 1)))) (fun Al W I => f0s (p := p8) (n := (x :: r).length) (c := c8) (m := i + 1) j0q (by have h := I.fa.1.rd.solid; rw [hln] at h; exact h) (by have := oTr f31; omega)) fun Al W I => ?_
     refine zx I 47 (fun _ => .bool false) (fun Al W I => (l0z I.fa.1.rd n0s (m := i + 1) (by rw [List.map_cons, List.getElem?_cons_succ]; exact hget i (by have := oTr f31; omega))).trans (congrArg (fun z => Result.ok (Value.bool z) W) (show (r.getD i false) = false from f39))) fun Al W I => ?_
     refine zi I 33 .i64 (((i + 1 : Nat) : Int) + 1) (((i + 1 + 1 : Nat) : Int)) ((by rw [show (((i + 1 : Nat) : Int) + 1) = ((i + 1 + 1 : Nat) : Int) by omega]; exact IntWalk.i64_in _ (by have := oTr f31; omega))) fun Al W I => ?_
     exact a0k I J0 fun Al W U I => hJ0 (gk0 - 1) _ _ _ _ _ ((by have := oTr f31; omega)) ⟨U, i + 1, 2 * e, false, rfl, rfl, rfl, (by rw [← hvt i (by have := oTr f31; omega), f39, he, Bool.toNat_false, Nat.mul_comm, Nat.add_zero]), (by rw [hat i (by have := oTr f31; omega), f39, ← ho, f43]; rfl), (by have := oTr f31; omega)⟩ (I.pick [0])
   refine zb I 43 (o) (false) (f43) fun Al W I => ?_
   refine zi I 33 .i64 (((i + 1 : Nat) : Int) + 1) (((i + 1 + 1 : Nat) : Int)) ((by rw [show (((i + 1 : Nat) : Int) + 1) = ((i + 1 + 1 : Nat) : Int) by omega]; exact IntWalk.i64_in _ (by have := oTr f31; omega))) fun Al W I => ?_
   exact a0k I J0 fun Al W U I => hJ0 (gk0 - 1) _ _ _ _ _ ((by have := oTr f31; omega)) ⟨U, i + 1, 2 * e, false, rfl, rfl, rfl, (by rw [← hvt i (by have := oTr f31; omega), f39, he, Bool.toNat_false, Nat.mul_comm, Nat.add_zero]), (by rw [hat i (by have := oTr f31; omega), f39, ← ho, f43]; rfl), (by have := oTr f31; omega)⟩ (I.pick [0])
 refine zb I 31 (decide (((i + 1 : Nat) : Int) ≤ (f.E : Int))) (false) (f31) fun Al W I => ?_
 have hiE : i = f.E := by have := oFa f31; omega
 have heE : e = EE := by rw [he, hiE, hEE]
 have hoE : o = true ↔ EE = 2 ^ f.E - 1 := by rw [ho, hiE]; exact hones
 clear he ho hgk hel hev hget hvt hat hones hEE
 subst heE
 refine zi I 52 .i64 ((1 : Int) + (f.E : Int)) (((1 + f.E : Nat) : Int)) ((by rw [show ((1 : Int) + (f.E : Int)) = ((1 + f.E : Nat) : Int) by omega]; exact iwo)) fun Al W I => ?_
 refine zx I 53 (fun _ => .slice (p8.map (·.add (1 + f.E))) ((x :: r).length - (1 + f.E)) (c8 - (1 + f.E))) (fun Al W I => o1z j0q (m := 1 + f.E) (by omega) (by have := I.fa.1.le_cap; rw [hln] at this; omega) (by have := I.fa.1.le_cap; rw [hln] at this; omega)) fun Al W I => ?_
 refine zqr I (fun Al W I => have hzW := I.bel.size; (HV W (p8.map (·.add (1 + f.E))) ((x :: r).length - (1 + f.E)) (c8 - (1 + f.E)) (j1l I.fa.1.rd f.E) (by rw [List.length_drop, hlr]; omega)).out) fun Al W p54 c54 I => ?_
 refine zi I 58 .i64 (f.g.digs - 1) ((dN : Int)) ((by rw [hdN]; exact iwo)) fun Al W I => ?_
 refine zqr I (fun Al W I => have hzW := I.bel.size; q1f (dN : Int) dN rfl (by omega) W) fun Al W p59 c59 I => ?_
 rcases Bool.eq_false_or_eq_true ((f.fam : Int) == 2) with f67 | f67
 · refine zb I 67 ((f.fam : Int) == 2) (true) (f67) fun Al W I => ?_
   refine zd [0] I fun Al W I => ?_
   refine zk [0, 1, 2, 3] I fun I => ?_
   refine zki 4 I .i64 (f.g.lo + (e : Int)) (f.g.lo + (e : Int)) (iwo) fun I => ?_
   refine zk [6] I fun I => ?_
   refine zo 5 I fun I => ?_
   refine zg I (fun Al W I => have hzW := I.bel.size; d0d f x (lk 0 Al 2) (lk 0 Al 1) (X) p54 c54 _ (f.g.lo + (e : Int)) W I.fa.2.1 (by omega) (by omega) (I.box 2 4 _) (I.box 1 42 _)) fun Al V Iv _ hB _ kz => ?_
   rintro _ W ⟨pN, cN, rfl, oN, hb⟩
   have hD : f.dec x e X = ⟨2, X, f.g.lo + (e : Int)⟩ := by unfold Fm.dec; rw [if_pos (by have := beq_iff_eq.1 f67; omega)]
   refine ⟨_, rfl, kz _ _ hb fun I => ?_⟩
   have I := I.rf oN (hB _) Iv
   refine zo 7 I fun I => ?_
   refine zn I fun Al W I => ?_
   refine zk [8] I fun I => ?_
   exact zret I (v := fun Al => .tuple #[.agg #[.int .i64 (((f.vr x ⟨2, X, f.g.lo + (e : Int)⟩).cls : Nat) : Int), .bool ((f.vr x ⟨2, X, f.g.lo + (e : Int)⟩).neg), .bool ((f.vr x ⟨2, X, f.g.lo + (e : Int)⟩).x.neg), .slice pN (dig B16 (f.vr x ⟨2, X, f.g.lo + (e : Int)⟩).x.m).length cN, .int .i64 ((f.vr x ⟨2, X, f.g.lo + (e : Int)⟩).x.e)], .bool x]) fun Al W I => e0a (by rw [hD]) rfl I.fa.1 (by omega) I.below
 refine zb I 67 ((f.fam : Int) == 2) (false) (f67) fun Al W I => ?_
 rcases Bool.eq_false_or_eq_true ((f.fam : Int) == 3) with f76 | f76
 · refine zb I 76 ((f.fam : Int) == 3) (true) (f76) fun Al W I => ?_
   rcases Bool.eq_false_or_eq_true ((e : Int) == 0) with f78 | f78
   · refine zb I 78 ((e : Int) == 0) (true) (f78) fun Al W I => ?_
     rcases Bool.eq_false_or_eq_true (x) with f79 | f79
     · refine zb I 79 (x) (true) (f79) fun Al W I => ?_
       refine zd [0] I fun Al W I => ?_
       have hD : f.dec x e X = ⟨5, 0, 0⟩ := by unfold Fm.dec; rw [if_neg (by have := beq_iff_eq.1 f76; omega), if_neg (by have := beq_iff_eq.1 f76; omega), if_pos ⟨by have := beq_iff_eq.1 f76; omega, by have := beq_iff_eq.1 f78; omega⟩, if_pos f79]
       refine zk [0, 1] I fun I => ?_
       refine zo 2 I fun I => ?_
       refine zn I fun Al W I => ?_
       refine zk [3] I fun I => ?_
       exact zret I (v := fun Al => .tuple #[.agg #[.int .i64 5, .bool false, .bool false, .slice none 0 0, .int .i64 0], .bool x]) fun Al W I => c0n (by rw [hD, o0f f x (by omega), if_neg (by omega)]) rfl I.below
     refine zb I 79 (x) (false) (f79) fun Al W I => ?_
     refine zd [0] I fun Al W I => ?_
     have hD : f.dec x e X = ⟨1, 0, 0⟩ := by unfold Fm.dec; rw [if_neg (by have := beq_iff_eq.1 f76; omega), if_neg (by have := beq_iff_eq.1 f76; omega), if_pos ⟨by have := beq_iff_eq.1 f76; omega, by have := beq_iff_eq.1 f78; omega⟩, if_neg (by rw [f79]; simp)]
     refine zk [0, 1] I fun I => ?_
     refine zo 2 I fun I => ?_
     refine zn I fun Al W I => ?_
     refine zk [3] I fun I => ?_
     exact zret I (v := fun Al => .tuple #[.agg #[.int .i64 1, .bool false, .bool false, .slice none 0 0, .int .i64 0], .bool x]) fun Al W I => c0n (by rw [hD, o0f f x (by omega), if_pos (by omega), f79]) rfl I.below
   refine zb I 78 ((e : Int) == 0) (false) (f78) fun Al W I => ?_
   refine zd [0] I fun Al W I => ?_
   refine zk [0, 1, 2, 4, 5] I fun I => ?_
   refine zki 6 I .i64 (f.g.lo + (e : Int)) (f.g.lo + (e : Int)) (iwo) fun I => ?_
   refine zki 7 I .i64 ((f.g.lo + (e : Int)) - 1) ((f.g.lo + (e : Int)) - 1) (iwo) fun I => ?_
   refine zk [9] I fun I => ?_
   refine zo 3 I fun I => ?_
   have q76 : f.fam = 3 := by have := beq_iff_eq.1 f76; omega
   have q78 : e ≠ 0 := by have := bnF f78; omega
   have qx : f.ext = false := by cases hh : f.ext with | false => rfl | true => exact absurd (hextF hh).1 (by omega)
   have qF : dN = f.F := by have := hd1F (by omega) qx; omega
   refine zqr I (fun Al W I => have hzW := I.bel.size; i1v p54 p59 _ _ c54 c59 X (2 ^ dN) (X + 2 ^ dN) W I.fa.2.1.rd I.fa.1.rd rfl rfl (by omega) (by omega) rfl) fun Al W p87 c87 I => ?_
   refine zo 8 I fun I => ?_
   refine zg I (fun Al W I => have hzW := I.bel.size; d0d f x (lk 0 Al 2) (lk 0 Al 1) (X + 2 ^ dN) p87 c87 _ (f.g.lo + (e : Int) - 1) W I.fa.1 (by have := d0s (x := X + 2 ^ dN) (n := 122) (k := 8) (q0a hXlt (by omega) (by omega)) (by omega); omega) (by omega) (I.box 2 4 _) (I.box 1 42 _)) fun Al V Iv _ hB _ kz => ?_
   rintro _ W ⟨pN, cN, rfl, oN, hb⟩
   have hD : f.dec x e X = ⟨2, X + 2 ^ dN, f.g.lo + e - 1⟩ := by unfold Fm.dec; rw [if_neg (by omega), if_neg (by omega), if_neg (by omega), if_neg q78, if_pos qx, qF]
   refine ⟨_, rfl, kz _ _ hb fun I => ?_⟩
   have I := I.rf oN (hB _) Iv
   refine zo 10 I fun I => ?_
   refine zn I fun Al W I => ?_
   refine zk [11] I fun I => ?_
   exact zret I (v := fun Al => .tuple #[.agg #[.int .i64 (((f.vr x ⟨2, X + 2 ^ dN, f.g.lo + (e : Int) - 1⟩).cls : Nat) : Int), .bool ((f.vr x ⟨2, X + 2 ^ dN, f.g.lo + (e : Int) - 1⟩).neg), .bool ((f.vr x ⟨2, X + 2 ^ dN, f.g.lo + (e : Int) - 1⟩).x.neg), .slice pN (dig B16 (f.vr x ⟨2, X + 2 ^ dN, f.g.lo + (e : Int) - 1⟩).x.m).length cN, .int .i64 ((f.vr x ⟨2, X + 2 ^ dN, f.g.lo + (e : Int) - 1⟩).x.e)], .bool x]) fun Al W I => e0a (by rw [hD]) rfl I.fa.1 (by omega) I.below
 refine zb I 76 ((f.fam : Int) == 3) (false) (f76) fun Al W I => ?_
 have q1 : f.fam = 1 := by have := bnF f67; have := bnF f76; omega
 rcases Bool.eq_false_or_eq_true (n == 3) with f95 | f95
 · refine zb I 95 (n == 3) (true) (f95) fun Al W I => ?_
   have qx : f.ext = true := by rw [hext]; exact dTr (beq_iff_eq.1 f95)
   have qN : dN = 63 := by have := (hextF qx).2.2; omega
   rcases Bool.eq_false_or_eq_true (o) with f96 | f96
   · refine zb I 96 (o) (true) (f96) fun Al W I => ?_
     refine zq I (fun Al W I => have hzW := I.bel.size; f0c p54 p59 _ _ c54 c59 X (2 ^ dN) W I.fa.2.1.rd I.fa.1.rd rfl rfl (by omega) (by omega)) fun Al W I => ?_
     rcases Bool.eq_false_or_eq_true ((cmpN X (2 ^ dN)) == 0) with f100 | f100
     · refine zb I 100 ((cmpN X (2 ^ dN)) == 0) (true) (f100) fun Al W I => ?_
       refine zd [0] I fun Al W I => ?_
       have hD : f.dec x e X = ⟨3, 0, 0⟩ := by unfold Fm.dec; rw [if_neg (by omega), if_pos ⟨q1, hoE.1 f96⟩, if_pos (.inr ⟨qx, by have := n0x (beq_iff_eq.1 f100); rw [qN] at this; exact this⟩)]
       refine zk [0, 1, 2] I fun I => ?_
       refine zo 3 I fun I => ?_
       refine zn I fun Al W I => ?_
       refine zk [4] I fun I => ?_
       exact zret I (v := fun Al => .tuple #[.agg #[.int .i64 3, .bool x, .bool false, .slice none 0 0, .int .i64 0], .bool x]) fun Al W I => c0n (by rw [hD, o0f f x (by omega), if_pos (by omega)]) rfl I.below
     refine zb I 100 ((cmpN X (2 ^ dN)) == 0) (false) (f100) fun Al W I => ?_
     refine zd [0] I fun Al W I => ?_
     have hD : f.dec x e X = ⟨4, 0, 0⟩ := by unfold Fm.dec; rw [if_neg (by omega), if_pos ⟨q1, hoE.1 f96⟩, if_neg (fun h => by rcases h with h | h <;> first | (have k := h.1; rw [qx] at k; cases k; done) | (have k := bnF f100; apply k; rw [qN, h.2]; exact m0u _))]
     refine zk [0, 1] I fun I => ?_
     refine zo 2 I fun I => ?_
     refine zn I fun Al W I => ?_
     refine zk [3] I fun I => ?_
     exact zret I (v := fun Al => .tuple #[.agg #[.int .i64 4, .bool false, .bool false, .slice none 0 0, .int .i64 0], .bool x]) fun Al W I => c0n (by rw [hD, o0f f x (by omega), if_neg (by omega)]) rfl I.below
   refine zb I 96 (o) (false) (f96) fun Al W I => ?_
   have qo : ¬ (f.fam = 1 ∧ e = 2 ^ f.E - 1) := fun h => by have k := hoE.2 h.2; first | (rw [f96] at k; cases k; done)
   rcases Bool.eq_false_or_eq_true (decide ((e : Int) > 0)) with f107 | f107
   · refine zb I 107 (decide ((e : Int) > 0)) (true) (f107) fun Al W I => ?_
     refine zq I (fun Al W I => have hzW := I.bel.size; f0c p54 p59 _ _ c54 c59 X (2 ^ dN) W I.fa.2.1.rd I.fa.1.rd rfl rfl (by omega) (by omega)) fun Al W I => ?_
     rcases Bool.eq_false_or_eq_true (decide ((cmpN X (2 ^ dN)) < 0)) with f112 | f112
     · refine zb I 112 (decide ((cmpN X (2 ^ dN)) < 0)) (true) (f112) fun Al W I => ?_
       refine zd [0] I fun Al W I => ?_
       have hD : f.dec x e X = ⟨4, 0, 0⟩ := by unfold Fm.dec; rw [if_neg (by omega), if_neg qo, if_neg (by omega), if_neg (by have := oTr f107; omega), if_neg (by rw [qx]; simp), if_pos (by have k := j1k (oTr f112); rw [qN] at k; exact k)]
       refine zk [0, 1] I fun I => ?_
       refine zo 2 I fun I => ?_
       refine zn I fun Al W I => ?_
       refine zk [3] I fun I => ?_
       exact zret I (v := fun Al => .tuple #[.agg #[.int .i64 4, .bool false, .bool false, .slice none 0 0, .int .i64 0], .bool x]) fun Al W I => c0n (by rw [hD, o0f f x (by omega), if_neg (by omega)]) rfl I.below
     refine zb I 112 (decide ((cmpN X (2 ^ dN)) < 0)) (false) (f112) fun Al W I => ?_
     refine zd [0] I fun Al W I => ?_
     refine zk [0, 1, 2, 3] I fun I => ?_
     refine zki 4 I .i64 ((e : Int) - 1) ((e : Int) - 1) (iwo) fun I => ?_
     refine zkm 5 I .i64 (if (((e : Int) - 1) : Int) > 0 then ((e : Int) - 1) else 0) (((e - 1 : Nat) : Int)) ((by split <;> omega)) fun I => ?_
     refine zki 6 I .i64 (f.g.lo + ((e - 1 : Nat) : Int)) (f.g.lo + ((e - 1 : Nat) : Int)) (iwo) fun I => ?_
     refine zk [8] I fun I => ?_
     refine zo 7 I fun I => ?_
     refine zg I (fun Al W I => have hzW := I.bel.size; d0d f x (lk 0 Al 2) (lk 0 Al 1) X p54 c54 _ (f.g.lo + ((e - 1 : Nat) : Int)) W I.fa.2.1 (by omega) (by omega) (I.box 2 4 _) (I.box 1 42 _)) fun Al V Iv _ hB _ kz => ?_
     rintro _ W ⟨pN, cN, rfl, oN, hb⟩
     have hD : f.dec x e X = ⟨2, X, f.g.lo + ((e - 1 : Nat) : Int)⟩ := by unfold Fm.dec; rw [if_neg (by omega), if_neg qo, if_neg (by omega), if_neg (by have := oTr f107; omega), if_neg (by rw [qx]; simp), if_neg (by have k := w0y (oFa f112); rw [qN] at k; exact k)]; simp only [Dc.mk.injEq, true_and]; have := oTr f107; omega
     refine ⟨_, rfl, kz _ _ hb fun I => ?_⟩
     have I := I.rf oN (hB _) Iv
     refine zo 9 I fun I => ?_
     refine zn I fun Al W I => ?_
     refine zk [10] I fun I => ?_
     exact zret I (v := fun Al => .tuple #[.agg #[.int .i64 (((f.vr x ⟨2, X, f.g.lo + ((e - 1 : Nat) : Int)⟩).cls : Nat) : Int), .bool ((f.vr x ⟨2, X, f.g.lo + ((e - 1 : Nat) : Int)⟩).neg), .bool ((f.vr x ⟨2, X, f.g.lo + ((e - 1 : Nat) : Int)⟩).x.neg), .slice pN (dig B16 (f.vr x ⟨2, X, f.g.lo + ((e - 1 : Nat) : Int)⟩).x.m).length cN, .int .i64 ((f.vr x ⟨2, X, f.g.lo + ((e - 1 : Nat) : Int)⟩).x.e)], .bool x]) fun Al W I => e0a (by rw [hD]) rfl I.fa.1 (by omega) I.below
   refine zb I 107 (decide ((e : Int) > 0)) (false) (f107) fun Al W I => ?_
   refine zd [0] I fun Al W I => ?_
   refine zk [0, 1, 2, 3] I fun I => ?_
   refine zki 4 I .i64 ((e : Int) - 1) ((e : Int) - 1) (iwo) fun I => ?_
   refine zkm 5 I .i64 (if (((e : Int) - 1) : Int) > 0 then ((e : Int) - 1) else 0) (((e - 1 : Nat) : Int)) ((by split <;> omega)) fun I => ?_
   refine zki 6 I .i64 (f.g.lo + ((e - 1 : Nat) : Int)) (f.g.lo + ((e - 1 : Nat) : Int)) (iwo) fun I => ?_
   refine zk [8] I fun I => ?_
   refine zo 7 I fun I => ?_
   refine zg I (fun Al W I => have hzW := I.bel.size; d0d f x (lk 0 Al 2) (lk 0 Al 1) X p54 c54 _ (f.g.lo + ((e - 1 : Nat) : Int)) W I.fa.2.1 (by omega) (by omega) (I.box 2 4 _) (I.box 1 42 _)) fun Al V Iv _ hB _ kz => ?_
   rintro _ W ⟨pN, cN, rfl, oN, hb⟩
   have hD : f.dec x e X = ⟨2, X, f.g.lo + ((e - 1 : Nat) : Int)⟩ := by unfold Fm.dec; rw [if_neg (by omega), if_neg qo, if_neg (by omega), if_pos (by have := oFa f107; omega)]; simp only [Dc.mk.injEq, true_and]; have := oFa f107; omega
   refine ⟨_, rfl, kz _ _ hb fun I => ?_⟩
   have I := I.rf oN (hB _) Iv
   refine zo 9 I fun I => ?_
   refine zn I fun Al W I => ?_
   refine zk [10] I fun I => ?_
   exact zret I (v := fun Al => .tuple #[.agg #[.int .i64 (((f.vr x ⟨2, X, f.g.lo + ((e - 1 : Nat) : Int)⟩).cls : Nat) : Int), .bool ((f.vr x ⟨2, X, f.g.lo + ((e - 1 : Nat) : Int)⟩).neg), .bool ((f.vr x ⟨2, X, f.g.lo + ((e - 1 : Nat) : Int)⟩).x.neg), .slice pN (dig B16 (f.vr x ⟨2, X, f.g.lo + ((e - 1 : Nat) : Int)⟩).x.m).length cN, .int .i64 ((f.vr x ⟨2, X, f.g.lo + ((e - 1 : Nat) : Int)⟩).x.e)], .bool x]) fun Al W I => e0a (by rw [hD]) rfl I.fa.1 (by omega) I.below
 refine zb I 95 (n == 3) (false) (f95) fun Al W I => ?_
 have qx : f.ext = false := by rw [hext]; exact dFa (bnF f95)
 have qF : dN = f.F := by have := hd1F (by omega) qx; omega
 rcases Bool.eq_false_or_eq_true (o) with f125 | f125
 · refine zb I 125 (o) (true) (f125) fun Al W I => ?_
   rcases Bool.eq_false_or_eq_true ((((dig B16 X).length : Nat) : Int) == 0) with f128 | f128
   · refine zb I 128 ((((dig B16 X).length : Nat) : Int) == 0) (true) (f128) fun Al W I => ?_
     refine zd [0] I fun Al W I => ?_
     have hD : f.dec x e X = ⟨3, 0, 0⟩ := by unfold Fm.dec; rw [if_neg (by omega), if_pos ⟨q1, hoE.1 f125⟩, if_pos (.inl ⟨qx, hX0.1 (by have := beq_iff_eq.1 f128; omega)⟩)]
     refine zk [0, 1, 2] I fun I => ?_
     refine zo 3 I fun I => ?_
     refine zn I fun Al W I => ?_
     refine zk [4] I fun I => ?_
     exact zret I (v := fun Al => .tuple #[.agg #[.int .i64 3, .bool x, .bool false, .slice none 0 0, .int .i64 0], .bool x]) fun Al W I => c0n (by rw [hD, o0f f x (by omega), if_pos (by omega)]) rfl I.below
   refine zb I 128 ((((dig B16 X).length : Nat) : Int) == 0) (false) (f128) fun Al W I => ?_
   refine zd [0] I fun Al W I => ?_
   have hD : f.dec x e X = ⟨4, 0, 0⟩ := by unfold Fm.dec; rw [if_neg (by omega), if_pos ⟨q1, hoE.1 f125⟩, if_neg (fun h => by rcases h with h | h <;> first | (have k := h.1; rw [qx] at k; cases k; done) | (have k := bnF f128; have k2 := hX0.2 h.2; omega))]
   refine zk [0, 1] I fun I => ?_
   refine zo 2 I fun I => ?_
   refine zn I fun Al W I => ?_
   refine zk [3] I fun I => ?_
   exact zret I (v := fun Al => .tuple #[.agg #[.int .i64 4, .bool false, .bool false, .slice none 0 0, .int .i64 0], .bool x]) fun Al W I => c0n (by rw [hD, o0f f x (by omega), if_neg (by omega)]) rfl I.below
 refine zb I 125 (o) (false) (f125) fun Al W I => ?_
 have qo : ¬ (f.fam = 1 ∧ e = 2 ^ f.E - 1) := fun h => by have k := hoE.2 h.2; rw [f125] at k; cases k
 rcases Bool.eq_false_or_eq_true (decide ((e : Int) > 0)) with f135 | f135
 · refine zb I 135 (decide ((e : Int) > 0)) (true) (f135) fun Al W I => ?_
   refine zqr I (fun Al W I => have hzW := I.bel.size; i1v p54 p59 _ _ c54 c59 X (2 ^ dN) (X + 2 ^ dN) W I.fa.2.1.rd I.fa.1.rd rfl rfl (by omega) (by omega) rfl) fun Al W p138 c138 I => ?_
   refine zd [0] I fun Al W I => ?_
   refine zk [0, 1, 2, 3] I fun I => ?_
   refine zki 4 I .i64 ((e : Int) - 1) ((e : Int) - 1) (iwo) fun I => ?_
   refine zkm 5 I .i64 (if (((e : Int) - 1) : Int) > 0 then ((e : Int) - 1) else 0) (((e - 1 : Nat) : Int)) ((by split <;> omega)) fun I => ?_
   refine zki 6 I .i64 (f.g.lo + ((e - 1 : Nat) : Int)) (f.g.lo + ((e - 1 : Nat) : Int)) (iwo) fun I => ?_
   refine zk [8] I fun I => ?_
   refine zo 7 I fun I => ?_
   refine zg I (fun Al W I => have hzW := I.bel.size; d0d f x (lk 0 Al 2) (lk 0 Al 1) (X + 2 ^ dN) p138 c138 _ (f.g.lo + ((e - 1 : Nat) : Int)) W I.fa.1 (by have := d0s (x := X + 2 ^ dN) (n := 122) (k := 8) (q0a hXlt (by omega) (by omega)) (by omega); omega) (by omega) (I.box 2 4 _) (I.box 1 42 _)) fun Al V Iv _ hB _ kz => ?_
   rintro _ W ⟨pN, cN, rfl, oN, hb⟩
   have hD : f.dec x e X = ⟨2, X + 2 ^ dN, f.g.lo + ((e - 1 : Nat) : Int)⟩ := by unfold Fm.dec; rw [if_neg (by omega), if_neg qo, if_neg (by omega), if_neg (by have := oTr f135; omega), if_pos qx, qF]; simp only [Dc.mk.injEq, true_and]; have := oTr f135; omega
   refine ⟨_, rfl, kz _ _ hb fun I => ?_⟩
   have I := I.rf oN (hB _) Iv
   refine zo 9 I fun I => ?_
   refine zn I fun Al W I => ?_
   refine zk [10] I fun I => ?_
   exact zret I (v := fun Al => .tuple #[.agg #[.int .i64 (((f.vr x ⟨2, X + 2 ^ dN, f.g.lo + ((e - 1 : Nat) : Int)⟩).cls : Nat) : Int), .bool ((f.vr x ⟨2, X + 2 ^ dN, f.g.lo + ((e - 1 : Nat) : Int)⟩).neg), .bool ((f.vr x ⟨2, X + 2 ^ dN, f.g.lo + ((e - 1 : Nat) : Int)⟩).x.neg), .slice pN (dig B16 (f.vr x ⟨2, X + 2 ^ dN, f.g.lo + ((e - 1 : Nat) : Int)⟩).x.m).length cN, .int .i64 ((f.vr x ⟨2, X + 2 ^ dN, f.g.lo + ((e - 1 : Nat) : Int)⟩).x.e)], .bool x]) fun Al W I => e0a (by rw [hD]) rfl I.fa.1 (by omega) I.below
 refine zb I 135 (decide ((e : Int) > 0)) (false) (f135) fun Al W I => ?_
 refine zd [0] I fun Al W I => ?_
 refine zk [0, 1, 2, 3] I fun I => ?_
 refine zki 4 I .i64 ((e : Int) - 1) ((e : Int) - 1) (iwo) fun I => ?_
 refine zkm 5 I .i64 (if (((e : Int) - 1) : Int) > 0 then ((e : Int) - 1) else 0) (((e - 1 : Nat) : Int)) ((by split <;> omega)) fun I => ?_
 refine zki 6 I .i64 (f.g.lo + ((e - 1 : Nat) : Int)) (f.g.lo + ((e - 1 : Nat) : Int)) (iwo) fun I => ?_
 refine zk [8] I fun I => ?_
 refine zo 7 I fun I => ?_
 refine zg I (fun Al W I => have hzW := I.bel.size; d0d f x (lk 0 Al 2) (lk 0 Al 1) X p54 c54 _ (f.g.lo + ((e - 1 : Nat) : Int)) W I.fa.2.1 (by omega) (by omega) (I.box 2 4 _) (I.box 1 42 _)) fun Al V Iv _ hB _ kz => ?_
 rintro _ W ⟨pN, cN, rfl, oN, hb⟩
 have hD : f.dec x e X = ⟨2, X, f.g.lo + ((e - 1 : Nat) : Int)⟩ := by unfold Fm.dec; rw [if_neg (by omega), if_neg qo, if_neg (by omega), if_pos (by have := oFa f135; omega)]; simp only [Dc.mk.injEq, true_and]; have := oFa f135; omega
 refine ⟨_, rfl, kz _ _ hb fun I => ?_⟩
 have I := I.rf oN (hB _) Iv
 refine zo 9 I fun I => ?_
 refine zn I fun Al W I => ?_
 refine zk [10] I fun I => ?_
 exact zret I (v := fun Al => .tuple #[.agg #[.int .i64 (((f.vr x ⟨2, X, f.g.lo + ((e - 1 : Nat) : Int)⟩).cls : Nat) : Int), .bool ((f.vr x ⟨2, X, f.g.lo + ((e - 1 : Nat) : Int)⟩).neg), .bool ((f.vr x ⟨2, X, f.g.lo + ((e - 1 : Nat) : Int)⟩).x.neg), .slice pN (dig B16 (f.vr x ⟨2, X, f.g.lo + ((e - 1 : Nat) : Int)⟩).x.m).length cN, .int .i64 ((f.vr x ⟨2, X, f.g.lo + ((e - 1 : Nat) : Int)⟩).x.e)], .bool x]) fun Al W I => e0a (by rw [hD]) rfl I.fa.1 (by omega) I.below
end Go.Proofs.YtbamiajjampgnaaGreatDoor
namespace Go.Slip
end Go.Slip
namespace Go.Proofs.YtbamiajjampgnaaGreatDoor
open Go.RowKit Go.Slip
def w0z (n cls : Int) (a : Din) : Int := if IsFm n then a0q (fmt n) cls a else 6
theorem a1s (n : Int) (cls : Int) (a : Din) (w : World) (ha : InD w a) (hT : TabW w) :
 Calls Tryz.prog 154 #[.int .i64 n, .agg #[.int .i64 cls, .bool a.g, .slice a.p a.xs.length a.c, .int .i64 a.e]] w (u0c w (w0z n cls a) (p0u (fmt n) cls a)) := by
 unfold w0z
 by_cases hn : IsFm n
 · rw [if_pos hn]; exact e1x n cls a w hn ha hT
 · rw [if_neg hn]
   have HF := fun W => hi0 (h0y n hn W)
   generalize p0u (fmt n) cls a = s
   have I := Inv.start w [] True.intro
   refine a0h [.v (.int .i64 n), .v (.agg #[.int .i64 cls, .bool a.g, .slice a.p a.xs.length a.c, .int .i64 a.e])] I Tryz.func154 ?_
   refine zq I (fun Al W I => (HF W).out) fun Al W I => ?_
   exact zret I fun Al W I => a0u (r := 6) rfl (by decide) rfl I.below
def a5 : Din := ⟨false, none, 0, [], 0⟩
theorem a1t (f : Fm) {k : Nat} (h : k ≠ 2) (g : Bool) (d d' : Dv) : f.encP k g d = f.encP k g d' := by
 unfold Fm.encP
 rw [if_neg h, if_neg h]
theorem x0a {f : Fm} (G : d0b f) {neg : Bool} {e x : Nat} (he : e < 2 ^ f.E) (hx : x < 2 ^ f.F) : a0s f (a0d (f.str neg e x)) = f.pat neg e x := by
 have ho : f.ord = 1 → f.size % 2 = 0 := fun _ => by have := G.sz; omega
 unfold a0s
 rw [b0f (by unfold Fm.str; exact i0l (by rw [d0r]; exact ho) (t0c _ _)), p1e G he hx]
theorem s0j {r : Nat} (h : (dig B32 r).length ≤ 1200) : b0k (dig B32 r) = 0 := by rw [Go.Slip.o0x, if_neg (by omega)]
structure Is (a : Din) (v : Vl) : Prop where
 g : a.g = v.neg
 xs : a.xs = dig B32 v.d
 e : a.e = v.pow
theorem Is.num {a : Din} {v : Vl} (h : Is a v) (f : Fm) : numD f a = bare ⟨v.neg, v.d, wid f.g * v.pow⟩ := by
 unfold numD
 rw [h.g, h.xs, h.e, b0c a0a]
def dinV (v : Vl) (p : Option Addr) (c : Nat) : Din := ⟨v.neg, p, c, dig B32 v.d, v.pow⟩
theorem n1r {v : Vl} {p : Option Addr} {c base : Nat} {w : World} (h : Own w base .u32 143 p c (dig B32 v.d)) (hl : (dig B32 v.d).length ≤ 1000) : InD w (dinV v p c) :=
 ⟨h.rd, h.le_cap, by show (dig B32 v.d).length ≤ _; omega, b0d a0a _⟩
structure ResF (f : Fm) (r : Vr) : Prop where
 c : 1 ≤ r.cls ∧ r.cls ≤ 5
 c1 : r.cls = 1 → r.neg = true → f.fam ≠ 3
 c2 : r.cls = 2 → a0y r.x f.g = true ∧ Bare r.x ∧ r.x.m ≠ 0 ∧ r.x.neg = r.neg
 c3 : r.cls = 3 → f.fam = 1
 c4 : r.cls = 4 → f.fam = 1 ∧ r.neg = false
 c5 : r.cls = 5 → f.fam = 3 ∧ r.neg = false
 x0 : r.cls ≠ 2 → r.x = vz
structure VRep (f : Fm) (v : Vl) (r : Vr) : Prop where
 cls : v.cls = r.cls
 neg : v.neg = r.neg
 num : r.cls = 2 → bare ⟨v.neg, v.d, wid f.g * v.pow⟩ = r.x
 oth : r.cls ≠ 2 → v.d = 0 ∧ v.pow = 0
 len : (dig B32 v.d).length ≤ 1000
 lo : -20000 ≤ v.pow
 hi : v.pow ≤ 20000
theorem q1l {f : Fm} {v : Vl} {r : Vr} (R : ResF f r) (V : VRep f v r) (p : Option Addr) (c : Nat) :
 a0q f (v.cls : Int) (dinV v p c) = 0 ∧ p0u f (v.cls : Int) (dinV v p c) = a0d (f.strP (f.encP r.cls r.neg r.x)) := by
 have hinf : f.inf = false ↔ f.fam ≠ 1 := by unfold Fm.inf; simp
 have hres : f.res = false ↔ f.fam ≠ 3 := by unfold Fm.res; simp
 have hres1 : f.res = true ↔ f.fam = 3 := by unfold Fm.res; simp
 have hc := R.c
 have hcl := V.cls
 have hlo := V.lo
 have hhi := V.hi
 have hE : b0k (dinV v p c).xs = 0 := s0j (by have := V.len; omega)
 have hN : r.cls = 2 → numD f (dinV v p c) = r.x := fun h => by
  rw [← V.num h]
  unfold numD dinV
  simp only [b0c a0a]
 refine ⟨?_, ?_⟩
 · unfold a0q
   rw [if_neg (by omega), if_neg (by omega), if_neg]
   · by_cases h2 : r.cls = 2
     · obtain ⟨i1, i2, i3, i4⟩ := R.c2 h2
       rw [if_pos (by omega), if_neg (by show ¬ (v.pow < _ ∨ _ < v.pow); omega), hN h2, i1, if_neg]
       rintro (h | h)
       · have h0 : v.d = 0 := (a0f a0a _).1 h
         have := V.num h2
         rw [h0] at this
         exact i3 (by rw [← this]; rfl)
       · cases h
     · obtain ⟨o1, o2⟩ := V.oth h2
       rw [if_neg (by omega), if_neg]
       rintro (h | h | ⟨h, k⟩)
       · have : (dig B32 v.d).length = 0 := by rw [o1, a0c]; rfl
         have h : 0 < (dig B32 v.d).length := h
         omega
       · exact h o2
       · have hg : r.neg = true := by rw [← V.neg]; exact h
         have k4 := R.c4
         have k5 := R.c5
         rw [hg] at k4 k5
         rcases k with k | k
         · rcases (show r.cls = 4 ∨ r.cls = 5 by omega) with q | q
           · exact absurd (k4 q).2 (by decide)
           · exact absurd (k5 q).2 (by decide)
         · rcases (show r.cls = 1 ∨ r.cls = 3 ∨ r.cls = 4 ∨ r.cls = 5 by omega) with q | q | q | q
           · exact R.c1 q hg (hres1.1 k)
           · have := R.c3 q; have := hres1.1 k; omega
           · exact absurd (k4 q).2 (by decide)
           · exact absurd (k5 q).2 (by decide)
   · rintro (⟨h | h, k⟩ | ⟨h, k⟩)
     · exact hinf.1 k (R.c3 (by omega))
     · exact hinf.1 k (R.c4 (by omega)).1
     · exact hres.1 k (R.c5 (by omega)).1
 · unfold p0u
   rw [show ((v.cls : Int)).toNat = r.cls by omega, show (dinV v p c).g = r.neg from V.neg]
   by_cases h2 : r.cls = 2
   · rw [hN h2]
   · rw [a1t f h2 r.neg _ r.x]
theorem q1m {neg : Bool} {num den : Nat} {e : Int} {g : Gd} {way : Int} (hd : 0 < den) (G : e0r g) (ho : (a0o neg num den e g way).over = false)
 (hu : (a0o neg num den e g way).under = true → g.grad = false → g.lo ≤ (a0o neg num den e g way).pow ∧ (a0o neg num den e g way).d ≠ 0) :
 a0y (rv neg num den e g way) g = true := by
 by_cases hok : okP (a0o neg num den e g way) g = true
 · exact p1b hd G hok
 · unfold okP at hok
   rw [ho] at hok
   simp only [Bool.not_false, Bool.true_and, Bool.or_eq_true, Bool.not_eq_true', not_or, Bool.not_eq_false, Bool.not_eq_true] at hok
   obtain ⟨h1, h2⟩ := hok
   obtain ⟨h3, h4⟩ := hu h1 h2
   by_cases h0 : num = 0
   · subst h0; rw [v0x]; rfl
   · unfold rv
     unfold a0o at *
     rw [if_neg h0] at *
     generalize theK num den e (wid g) g.digs.toNat = K at *
     have hk : K < g.lo := oTr h1
     have hp : powK g K = K := by unfold powK; rw [if_neg (fun h => by rw [h2] at h; cases h.2)]
     have e1 : (fitK neg num den e g way K).pow = if digP neg num den e (wid g) g.digs.toNat way (powK g K) = 0 then 0 else powP neg num den e (wid g) g.digs.toNat way (powK g K) := rfl
     have e2 : (fitK neg num den e g way K).d = digP neg num den e (wid g) g.digs.toNat way (powK g K) := rfl
     have e3 : (fitK neg num den e g way K).neg = neg := rfl
     rw [e2] at h4
     rw [e1, if_neg h4] at h3
     rw [e1, e2, e3, if_neg h4]
     rw [hp] at h3 h4 ⊢
     have hl : h0m neg num den e (wid g) g.digs.toNat way K := by
      by_cases h : h0m neg num den e (wid g) g.digs.toNat way K
      · exact h
      · unfold powP at h3; rw [if_neg h] at h3; omega
     unfold digP powP at *
     rw [if_pos hl] at h3
     rw [if_pos hl, if_pos hl]
     have hd1 := G.d1
     have hgl := G.le
     have hww : wid g * (g.digs.toNat - 1) < wid g * g.digs.toNat := Nat.mul_lt_mul_of_pos_left (by omega) (b0j g).1
     have habs : (sg neg (2 ^ (wid g * (g.digs.toNat - 1)))).natAbs = 2 ^ (wid g * (g.digs.toNat - 1)) := by unfold sg; cases neg <;> simp [Int.natAbs_pow]
     rw [← j0l]
     refine j0m G (show g.digs = (g.digs.toNat : Int) by omega) ?_ ?_ h3 (by omega)
     · rw [habs]; exact Nat.pow_lt_pow_right (by omega) hww
     · rw [habs]; exact .inr (.inl (Nat.le_refl _))
theorem s0k {g : Bool} {m : Nat} {e : Int} (h : m ≠ 0) : (bare ⟨g, m, e⟩).neg = g ∧ (bare ⟨g, m, e⟩).m ≠ 0 := by
 unfold bare
 rw [if_neg h]
 refine ⟨rfl, fun h2 => ?_⟩
 have := (b0t m (by omega)).2
 simp only at h2
 rw [h2] at this
 simp at this
/-! ### What comes -/
theorem x0b {f : Fm} (G : d0b f) (g : Bool) : ResF f (f.zeroM g) := by
 have := G.fam
 refine ⟨by show 1 ≤ 1 ∧ 1 ≤ 5; omega, fun _ h h3 => ?_, fun h => (by cases h), fun h => (by cases h), fun h => (by cases h), fun h => (by cases h), fun _ => rfl⟩
 have h : (g && decide (f.fam = 1)) = true := h
 simp [h3] at h
theorem a1u {f : Fm} (G : d0b f) : ResF f f.nothM := by
 have hf := G.fam
 unfold Fm.nothM
 rcases hf with h | h | h <;> rw [h] <;> refine ⟨?_, ?_, ?_, ?_, ?_, ?_, fun _ => rfl⟩ <;> simp [h]
theorem q1n {f : Fm} (h : f.fam = 1) (g : Bool) : ResF f (infM g) :=
 ⟨by show 1 ≤ 3 ∧ 3 ≤ 5; omega, fun h => (by cases h), fun h => (by cases h), fun _ => h, fun h => (by cases h), fun h => (by cases h), fun _ => rfl⟩
theorem j1m {f : Fm} (G : d0b f) (g : Bool) : 2 ^ (wid f.g * f.g.digs.toNat) - 1 ≠ 0 ∧ a0y (f.greatM g).x f.g = true := by
 have GG := b0w G.g
 have hd1 := GG.d1
 have hgl := GG.le
 have wp := b0j f.g
 have hww : wid f.g * (f.g.digs.toNat - 1) < wid f.g * f.g.digs.toNat := Nat.mul_lt_mul_of_pos_left (by omega) wp.1
 have h1 : 2 ^ (wid f.g * (f.g.digs.toNat - 1)) < 2 ^ (wid f.g * f.g.digs.toNat) := Nat.pow_lt_pow_right (by omega) hww
 have h2 : 0 < 2 ^ (wid f.g * (f.g.digs.toNat - 1)) := Nat.pow_pos (by omega)
 refine ⟨by omega, ?_⟩
 show a0y (bare ⟨g, 2 ^ (wid f.g * f.g.digs.toNat) - 1, wid f.g * f.g.hi⟩) f.g = true
 have habs : (sg g (2 ^ (wid f.g * f.g.digs.toNat) - 1)).natAbs = 2 ^ (wid f.g * f.g.digs.toNat) - 1 := by unfold sg; cases g <;> simp only [if_true, Bool.false_eq_true, if_false, Int.natAbs_neg, Int.natAbs_natCast]
 rw [← j0l]
 refine j0m GG (show f.g.digs = (f.g.digs.toNat : Int) by omega) ?_ ?_ hgl (Int.le_refl _)
 · rw [habs]; omega
 · rw [habs]; exact .inr (.inl (by omega))
theorem y0s {f : Fm} (G : d0b f) (g : Bool) : ResF f (f.greatM g) := by
 obtain ⟨h1, h2⟩ := j1m G g
 exact ⟨by show 1 ≤ 2 ∧ 2 ≤ 5; omega, fun h => (by cases h), fun _ => ⟨h2, j0z _, (s0k h1).2, (s0k h1).1⟩, fun h => (by cases h), fun h => (by cases h), fun h => (by cases h), fun h => absurd rfl h⟩
theorem u0s {f : Fm} (G : d0b f) (g : Bool) : VRep f ⟨2, g, 2 ^ (wid f.g * f.g.digs.toNat) - 1, f.g.hi⟩ (f.greatM g) := by
 have GG := b0w G.g
 have h1 := GG.h1
 have h2 := GG.h2
 have hd2 := GG.d2
 have wp := b0j f.g
 have hm : wid f.g * f.g.digs.toNat ≤ 4 * 120 := Nat.mul_le_mul wp.2 (by omega)
 refine ⟨rfl, rfl, fun _ => rfl, fun h => absurd rfl h, ?_, by show _ ≤ f.g.hi; omega, by show f.g.hi ≤ _; omega⟩
 exact Nat.le_trans (a0i a0a (Nat.sub_le _ _)) (Nat.le_trans (g0x hm) (by omega))
theorem g0n {f : Fm} {k : Nat} {g : Bool} {x : Dv} (h : k ≠ 2) : VRep f ⟨k, g, 0, 0⟩ ⟨k, g, x⟩ :=
 ⟨rfl, rfl, fun e => absurd e h, fun _ => ⟨rfl, rfl⟩, by show (dig B32 0).length ≤ _; rw [a0c]; decide, by show (-20000 : Int) ≤ 0; decide, by show (0 : Int) ≤ 20000; decide⟩
def _root_.Go.Slip.Fm.placedV (f : Fm) (p : Pl) (way : Int) : Vl :=
 if p.over then (if f.fam = 2 then ⟨2, p.neg, 2 ^ (wid f.g * f.g.digs.toNat) - 1, f.g.hi⟩ else if f.fam = 3 then ⟨f.nothM.cls, false, 0, 0⟩ else if way ≤ 2 ∨ (way = 4 ∧ p.neg = false) ∨ (way = 5 ∧ p.neg = true) then ⟨3, p.neg, 0, 0⟩ else ⟨2, p.neg, 2 ^ (wid f.g * f.g.digs.toNat) - 1, f.g.hi⟩)
 else if p.under = true ∧ f.fam ≠ 1 ∧ p.pow < f.g.lo then ⟨1, false, 0, 0⟩
 else if p.d = 0 then ⟨1, p.neg && decide (f.fam = 1), 0, 0⟩
 else ⟨2, p.neg, p.d, p.pow⟩
theorem f1o {f : Fm} (_G : d0b f) : f.nothM.cls ≠ 2 := by unfold Fm.nothM; simp only; split <;> (try split) <;> omega
theorem l0v {f : Fm} (G : d0b f) {neg : Bool} {num den : Nat} {e way : Int} (hd : 0 < den) :
 ResF f (f.placedM (a0o neg num den e f.g way) way).1 ∧ VRep f (f.placedV (a0o neg num den e f.g way) way) (f.placedM (a0o neg num den e f.g way) way).1 := by
 have GG := b0w G.g
 have hin := fun h1 h2 => q1m (neg := neg) (num := num) (e := e) (way := way) hd GG h1 h2
 have hlen := e1s (neg := neg) (num := num) (e := e) (way := way) hd GG
 have hpw := fun h => q1b (neg := neg) (num := num) (e := e) (way := way) hd GG h
 have hpw2 : (a0o neg num den e f.g way).over = false → (a0o neg num den e f.g way).pow ≤ 17000 := by
  intro h
  have hh := GG.h2
  unfold a0o at *
  by_cases h0 : num = 0
  · rw [if_pos h0]; simp
  · rw [if_neg h0] at *
    generalize theK num den e (wid f.g) f.g.digs.toNat = K at *
    have h1 : powP neg num den e (wid f.g) f.g.digs.toNat way (powK f.g K) ≤ f.g.hi := by
     have h : decide (f.g.hi < powP neg num den e (wid f.g) f.g.digs.toNat way (powK f.g K)) = false := h
     have := oFa h
     omega
    show (if digP neg num den e (wid f.g) f.g.digs.toNat way (powK f.g K) = 0 then 0 else powP neg num den e (wid f.g) f.g.digs.toNat way (powK f.g K)) ≤ 17000
    split <;> omega
 unfold rv at hin
 have hgr := G.grad
 have l1 := GG.l1
 generalize a0o neg num den e f.g way = p at *
 unfold Fm.placedM Fm.placedV
 cases ho : p.over with
 | true =>
  simp only [if_true]
  by_cases h2 : f.fam = 2
  · rw [if_pos h2, if_pos h2]; exact ⟨y0s G _, u0s G _⟩
  · rw [if_neg h2, if_neg h2]
    by_cases h3 : f.fam = 3
    · rw [if_pos h3, if_pos h3]; exact ⟨a1u G, g0n (f1o G)⟩
    · have hf : f.fam = 1 := by have := G.fam; omega
      rw [if_neg h3, if_neg h3]
      split
      · exact ⟨q1n hf _, g0n (by decide)⟩
      · exact ⟨y0s G _, u0s G _⟩
 | false =>
  simp only [Bool.false_eq_true, if_false]
  by_cases hz : p.under = true ∧ f.fam ≠ 1 ∧ p.pow < f.g.lo
  · rw [if_pos hz, if_pos hz]
    exact ⟨x0b G _, g0n (by decide)⟩
  · rw [if_neg hz, if_neg hz]
    by_cases hd0 : p.d = 0
    · rw [if_pos hd0, if_pos hd0]
      exact ⟨x0b G _, g0n (by decide)⟩
    · rw [if_neg hd0, if_neg hd0]
      have hu : p.under = true → f.g.grad = false → f.g.lo ≤ p.pow ∧ p.d ≠ 0 := fun h1 h2 => by
       rw [hgr] at h2
       have := oFa h2
       refine ⟨?_, hd0⟩
       rcases Int.lt_or_le p.pow f.g.lo with h | h
       · exact absurd ⟨h1, this, h⟩ hz
       · exact h
      obtain ⟨b1, b2⟩ := s0k (g := p.neg) (e := wid f.g * p.pow) hd0
      have hlo : -17000 ≤ p.pow := by
       by_cases hok : okP p f.g = true
       · exact (hpw hok).1
       · unfold okP at hok
         rw [ho] at hok
         simp only [Bool.not_false, Bool.true_and, Bool.or_eq_true, Bool.not_eq_true', not_or, Bool.not_eq_false, Bool.not_eq_true] at hok
         have := (hu hok.1 hok.2).1
         omega
      have hhi := hpw2 ho
      refine ⟨⟨by show 1 ≤ 2 ∧ 2 ≤ 5; omega, fun h => (by cases h), fun _ => ⟨hin ho hu, j0z _, b2, b1⟩, fun h => (by cases h), fun h => (by cases h), fun h => (by cases h), fun h => absurd rfl h⟩, ?_⟩
      exact ⟨rfl, rfl, fun _ => rfl, fun h => absurd rfl h, by show (dig B32 p.d).length ≤ _; omega, by show _ ≤ p.pow; omega, by show p.pow ≤ _; omega⟩
theorem j1n (f : Fm) (n way a c : Int) (g : Bool) (u : Nat) (w : World) (U : Bt w u 223 #[.int .i64 n, .int .i64 way, .int .i64 f.g.rad, .int .i64 f.g.digs, .int .i64 f.g.lo, .int .i64 f.g.hi, .bool f.g.grad, .int .u8 (famB f), .int .i64 a]) (hd : 0 ≤ f.g.digs ∧ f.g.digs ≤ 1000) (hc : bits .or .i64 a 5 = c) (h1 : f.fam = 1) (hw : 1 ≤ way ∧ way ≤ 5) :
 Calls Tryz.prog 196 #[.pointer (some ⟨u, 0, none⟩), .bool g] w (m0d f n way c u w (if way ≤ 2 ∨ (way = 4 ∧ g = false) ∨ (way = 5 ∧ g = true) then ⟨3, g, 0, 0⟩ else ⟨2, g, 2 ^ (wid f.g * f.g.digs.toNat) - 1, f.g.hi⟩)) := by
 have hF : famB f = 65 := by unfold famB; rw [if_pos h1]
 rcases (show way = 1 ∨ way = 2 ∨ way = 3 ∨ way = 4 ∨ way = 5 by omega) with rfl | rfl | rfl | rfl | rfl <;> cases g
 · rw [if_pos (by decide)]
   have HR := fun W u hU => hi0 (d0f f n 1 a 5 c u W hU hc)
   have I := Inv.startW w u 223 (uS f n 1 a) [] U True.intro True.intro
   refine a0h [.p 0 0, .v (.bool false)] I Tryz.func196 ?_
   refine zge I 0 223 (fun Al W I => (HR W _ (I.box 0 223 _)).out) fun Al V Iv _ _ kz => ?_
   rintro _ W ⟨rfl, hO, hB⟩
   refine ⟨_, rfl, kz _ (uS f n 1 c) _ hO hB fun I => ?_⟩
   refine zb I 13 ((famB f) == 66) (false) (bFn (by rw [hF]; decide)) fun Al W I => ?_
   refine zb I 18 ((famB f) == 67) (false) (bFn (by rw [hF]; decide)) fun Al W I => ?_
   refine zq I (fun Al W I => l0t false W) fun Al W I => ?_
   exact zret I fun Al W I => d0m (k := 3) rfl I.bel (I.boxE 223 _)
 · rw [if_pos (by decide)]
   have HR := fun W u hU => hi0 (d0f f n 1 a 5 c u W hU hc)
   have I := Inv.startW w u 223 (uS f n 1 a) [] U True.intro True.intro
   refine a0h [.p 0 0, .v (.bool true)] I Tryz.func196 ?_
   refine zge I 0 223 (fun Al W I => (HR W _ (I.box 0 223 _)).out) fun Al V Iv _ _ kz => ?_
   rintro _ W ⟨rfl, hO, hB⟩
   refine ⟨_, rfl, kz _ (uS f n 1 c) _ hO hB fun I => ?_⟩
   refine zb I 13 ((famB f) == 66) (false) (bFn (by rw [hF]; decide)) fun Al W I => ?_
   refine zb I 18 ((famB f) == 67) (false) (bFn (by rw [hF]; decide)) fun Al W I => ?_
   refine zq I (fun Al W I => l0t true W) fun Al W I => ?_
   exact zret I fun Al W I => d0m (k := 3) rfl I.bel (I.boxE 223 _)
 · rw [if_pos (by decide)]
   have HR := fun W u hU => hi0 (d0f f n 2 a 5 c u W hU hc)
   have I := Inv.startW w u 223 (uS f n 2 a) [] U True.intro True.intro
   refine a0h [.p 0 0, .v (.bool false)] I Tryz.func196 ?_
   refine zge I 0 223 (fun Al W I => (HR W _ (I.box 0 223 _)).out) fun Al V Iv _ _ kz => ?_
   rintro _ W ⟨rfl, hO, hB⟩
   refine ⟨_, rfl, kz _ (uS f n 2 c) _ hO hB fun I => ?_⟩
   refine zb I 13 ((famB f) == 66) (false) (bFn (by rw [hF]; decide)) fun Al W I => ?_
   refine zb I 18 ((famB f) == 67) (false) (bFn (by rw [hF]; decide)) fun Al W I => ?_
   refine zq I (fun Al W I => l0t false W) fun Al W I => ?_
   exact zret I fun Al W I => d0m (k := 3) rfl I.bel (I.boxE 223 _)
 · rw [if_pos (by decide)]
   have HR := fun W u hU => hi0 (d0f f n 2 a 5 c u W hU hc)
   have I := Inv.startW w u 223 (uS f n 2 a) [] U True.intro True.intro
   refine a0h [.p 0 0, .v (.bool true)] I Tryz.func196 ?_
   refine zge I 0 223 (fun Al W I => (HR W _ (I.box 0 223 _)).out) fun Al V Iv _ _ kz => ?_
   rintro _ W ⟨rfl, hO, hB⟩
   refine ⟨_, rfl, kz _ (uS f n 2 c) _ hO hB fun I => ?_⟩
   refine zb I 13 ((famB f) == 66) (false) (bFn (by rw [hF]; decide)) fun Al W I => ?_
   refine zb I 18 ((famB f) == 67) (false) (bFn (by rw [hF]; decide)) fun Al W I => ?_
   refine zq I (fun Al W I => l0t true W) fun Al W I => ?_
   exact zret I fun Al W I => d0m (k := 3) rfl I.bel (I.boxE 223 _)
 · rw [if_neg (by decide)]
   have HR := fun W u hU => hi0 (d0f f n 3 a 5 c u W hU hc)
   have HG := fun W u hU => hi0 (g0j f n 3 c false u W hU hd)
   generalize 2 ^ (wid f.g * f.g.digs.toNat) - 1 = m at *
   have I := Inv.startW w u 223 (uS f n 3 a) [] U True.intro True.intro
   refine a0h [.p 0 0, .v (.bool false)] I Tryz.func196 ?_
   refine zge I 0 223 (fun Al W I => (HR W _ (I.box 0 223 _)).out) fun Al V Iv _ _ kz => ?_
   rintro _ W ⟨rfl, hO, hB⟩
   refine ⟨_, rfl, kz _ (uS f n 3 c) _ hO hB fun I => ?_⟩
   refine zb I 13 ((famB f) == 66) (false) (bFn (by rw [hF]; decide)) fun Al W I => ?_
   refine zb I 18 ((famB f) == 67) (false) (bFn (by rw [hF]; decide)) fun Al W I => ?_
   refine zqo I (fun Al W I => (HG W _ (I.box 0 223 _)).out) fun Al W p59 c59 I => ?_
   exact zret I fun Al W I => ⟨p59, c59, rfl, I.fa.1.mono (by omega), I.bel, I.boxE 223 _⟩
 · rw [if_neg (by decide)]
   have HR := fun W u hU => hi0 (d0f f n 3 a 5 c u W hU hc)
   have HG := fun W u hU => hi0 (g0j f n 3 c true u W hU hd)
   generalize 2 ^ (wid f.g * f.g.digs.toNat) - 1 = m at *
   have I := Inv.startW w u 223 (uS f n 3 a) [] U True.intro True.intro
   refine a0h [.p 0 0, .v (.bool true)] I Tryz.func196 ?_
   refine zge I 0 223 (fun Al W I => (HR W _ (I.box 0 223 _)).out) fun Al V Iv _ _ kz => ?_
   rintro _ W ⟨rfl, hO, hB⟩
   refine ⟨_, rfl, kz _ (uS f n 3 c) _ hO hB fun I => ?_⟩
   refine zb I 13 ((famB f) == 66) (false) (bFn (by rw [hF]; decide)) fun Al W I => ?_
   refine zb I 18 ((famB f) == 67) (false) (bFn (by rw [hF]; decide)) fun Al W I => ?_
   refine zqo I (fun Al W I => (HG W _ (I.box 0 223 _)).out) fun Al W p59 c59 I => ?_
   exact zret I fun Al W I => ⟨p59, c59, rfl, I.fa.1.mono (by omega), I.bel, I.boxE 223 _⟩
 · rw [if_pos (by decide)]
   have HR := fun W u hU => hi0 (d0f f n 4 a 5 c u W hU hc)
   have I := Inv.startW w u 223 (uS f n 4 a) [] U True.intro True.intro
   refine a0h [.p 0 0, .v (.bool false)] I Tryz.func196 ?_
   refine zge I 0 223 (fun Al W I => (HR W _ (I.box 0 223 _)).out) fun Al V Iv _ _ kz => ?_
   rintro _ W ⟨rfl, hO, hB⟩
   refine ⟨_, rfl, kz _ (uS f n 4 c) _ hO hB fun I => ?_⟩
   refine zb I 13 ((famB f) == 66) (false) (bFn (by rw [hF]; decide)) fun Al W I => ?_
   refine zb I 18 ((famB f) == 67) (false) (bFn (by rw [hF]; decide)) fun Al W I => ?_
   refine zq I (fun Al W I => l0t false W) fun Al W I => ?_
   exact zret I fun Al W I => d0m (k := 3) rfl I.bel (I.boxE 223 _)
 · rw [if_neg (by decide)]
   have HR := fun W u hU => hi0 (d0f f n 4 a 5 c u W hU hc)
   have HG := fun W u hU => hi0 (g0j f n 4 c true u W hU hd)
   generalize 2 ^ (wid f.g * f.g.digs.toNat) - 1 = m at *
   have I := Inv.startW w u 223 (uS f n 4 a) [] U True.intro True.intro
   refine a0h [.p 0 0, .v (.bool true)] I Tryz.func196 ?_
   refine zge I 0 223 (fun Al W I => (HR W _ (I.box 0 223 _)).out) fun Al V Iv _ _ kz => ?_
   rintro _ W ⟨rfl, hO, hB⟩
   refine ⟨_, rfl, kz _ (uS f n 4 c) _ hO hB fun I => ?_⟩
   refine zb I 13 ((famB f) == 66) (false) (bFn (by rw [hF]; decide)) fun Al W I => ?_
   refine zb I 18 ((famB f) == 67) (false) (bFn (by rw [hF]; decide)) fun Al W I => ?_
   refine zqo I (fun Al W I => (HG W _ (I.box 0 223 _)).out) fun Al W p59 c59 I => ?_
   exact zret I fun Al W I => ⟨p59, c59, rfl, I.fa.1.mono (by omega), I.bel, I.boxE 223 _⟩
 · rw [if_neg (by decide)]
   have HR := fun W u hU => hi0 (d0f f n 5 a 5 c u W hU hc)
   have HG := fun W u hU => hi0 (g0j f n 5 c false u W hU hd)
   generalize 2 ^ (wid f.g * f.g.digs.toNat) - 1 = m at *
   have I := Inv.startW w u 223 (uS f n 5 a) [] U True.intro True.intro
   refine a0h [.p 0 0, .v (.bool false)] I Tryz.func196 ?_
   refine zge I 0 223 (fun Al W I => (HR W _ (I.box 0 223 _)).out) fun Al V Iv _ _ kz => ?_
   rintro _ W ⟨rfl, hO, hB⟩
   refine ⟨_, rfl, kz _ (uS f n 5 c) _ hO hB fun I => ?_⟩
   refine zb I 13 ((famB f) == 66) (false) (bFn (by rw [hF]; decide)) fun Al W I => ?_
   refine zb I 18 ((famB f) == 67) (false) (bFn (by rw [hF]; decide)) fun Al W I => ?_
   refine zqo I (fun Al W I => (HG W _ (I.box 0 223 _)).out) fun Al W p59 c59 I => ?_
   exact zret I fun Al W I => ⟨p59, c59, rfl, I.fa.1.mono (by omega), I.bel, I.boxE 223 _⟩
 · rw [if_pos (by decide)]
   have HR := fun W u hU => hi0 (d0f f n 5 a 5 c u W hU hc)
   have I := Inv.startW w u 223 (uS f n 5 a) [] U True.intro True.intro
   refine a0h [.p 0 0, .v (.bool true)] I Tryz.func196 ?_
   refine zge I 0 223 (fun Al W I => (HR W _ (I.box 0 223 _)).out) fun Al V Iv _ _ kz => ?_
   rintro _ W ⟨rfl, hO, hB⟩
   refine ⟨_, rfl, kz _ (uS f n 5 c) _ hO hB fun I => ?_⟩
   refine zb I 13 ((famB f) == 66) (false) (bFn (by rw [hF]; decide)) fun Al W I => ?_
   refine zb I 18 ((famB f) == 67) (false) (bFn (by rw [hF]; decide)) fun Al W I => ?_
   refine zq I (fun Al W I => l0t true W) fun Al W I => ?_
   exact zret I fun Al W I => d0m (k := 3) rfl I.bel (I.boxE 223 _)
theorem k1z (f : Fm) (n way a c : Int) (p : Pl) (u : Nat) (w : World) (U : Bt w u 223 #[.int .i64 n, .int .i64 way, .int .i64 f.g.rad, .int .i64 f.g.digs, .int .i64 f.g.lo, .int .i64 f.g.hi, .bool f.g.grad, .int .u8 (famB f), .int .i64 a]) (G : d0b f) (hc : bits .or .i64 a 5 = c) (hw : 1 ≤ way ∧ way ≤ 5) (ho : p.over = true) :
 Calls Tryz.prog 196 #[.pointer (some ⟨u, 0, none⟩), .bool p.neg] w (m0d f n way c u w (f.placedV p way)) := by
 have GG := b0w G.g
 have h1 := GG.d1
 have h2 := GG.d2
 have hf := G.fam
 unfold Fm.placedV
 rw [if_pos ho]
 by_cases f2 : f.fam = 2
 · rw [if_pos f2]; exact i1p f n way a c p.neg u w U (by omega) hc f2
 · rw [if_neg f2]
   by_cases f3 : f.fam = 3
   · rw [if_pos f3]; exact i1q f n way a c p.neg u w U hc (by omega) f2
   · rw [if_neg f3]; exact j1n f n way a c p.neg u w U (by omega) hc (by omega) hw
def j0t (f : Fm) (n way c : Int) (u : Nat) (w : World) (base : Nat) (v : Vl) (en : Ending) (w' : World) : Prop :=
 ∃ p k, en = .returned (.agg #[.int .i64 (v.cls : Int), .bool v.neg, .slice p (dig B32 v.d).length k, .int .i64 v.pow]) ∧ Own w' base .u32 143 p k (dig B32 v.d) ∧ Kp [u] w w' ∧ Bt w' u 223 #[.int .i64 n, .int .i64 way, .int .i64 f.g.rad, .int .i64 f.g.digs, .int .i64 f.g.lo, .int .i64 f.g.hi, .bool f.g.grad, .int .u8 (famB f), .int .i64 c]
theorem m0d.ub {f : Fm} {n way c : Int} {u base : Nat} {w w' : World} {v : Vl} {en : Ending} (h : m0d f n way c u w v en w') (hb : base ≤ w.heap.size) : j0t f n way c u w base v en w' := by
 obtain ⟨p, k, h1, h2, h3, h4⟩ := h
 exact ⟨p, k, h1, h2.mono hb, h3, h4⟩
theorem m0h {f : Fm} {n way c : Int} {u k base : Nat} {g : Bool} {w w' : World} {en : Ending} (h : en = .returned (.agg #[.int .i64 (k : Int), .bool g, .slice none 0 0, .int .i64 0])) (hk : Kp [u] w w') (hb : Bt w' u 223 #[.int .i64 n, .int .i64 way, .int .i64 f.g.rad, .int .i64 f.g.digs, .int .i64 f.g.lo, .int .i64 f.g.hi, .bool f.g.grad, .int .u8 (famB f), .int .i64 c]) : j0t f n way c u w base ⟨k, g, 0, 0⟩ en w' := by
 refine ⟨none, 0, ?_, ?_, hk, hb⟩
 · rw [h, a0c]; rfl
 · show Own _ _ _ _ _ _ (dig B32 0); rw [a0c]; exact Own.nil _ _ _ _
theorem pl_n (f : Fm) (n way : Int) (ng : Bool) (d : Nat) (pw : Int) (pp : Option Addr) (cc base u : Nat) (w : World) (U : Bt w u 223 #[.int .i64 n, .int .i64 way, .int .i64 f.g.rad, .int .i64 f.g.digs, .int .i64 f.g.lo, .int .i64 f.g.hi, .bool f.g.grad, .int .u8 (famB f), .int .i64 0]) (hp : Own w base .u32 143 pp cc (dig B32 d)) (ex un : Bool) :
 Calls Tryz.prog 176 #[.pointer (some ⟨u, 0, none⟩), .agg #[.bool ng, .slice pp (dig B32 d).length cc, .int .i64 pw, .bool ex, .bool false, .bool un]] w (j0t f n way (((f.placedM ⟨ng, d, pw, ex, false, un⟩ way).2 : Nat) : Int) u w base (f.placedV ⟨ng, d, pw, ex, false, un⟩ way)) := by
 have hV : f.placedV ⟨ng, d, pw, ex, false, un⟩ way = if un = true ∧ f.fam ≠ 1 ∧ pw < f.g.lo then ⟨1, false, 0, 0⟩ else if d = 0 then ⟨1, ng && decide (f.fam = 1), 0, 0⟩ else ⟨2, ng, d, pw⟩ := by unfold Fm.placedV; simp only [Bool.false_eq_true, if_false]
 have hM : (f.placedM ⟨ng, d, pw, ex, false, un⟩ way).2 = if un = true ∧ f.fam ≠ 1 ∧ pw < f.g.lo then 3 else f.flP ⟨ng, d, pw, ex, false, un⟩ := by
  unfold Fm.placedM; simp only [Bool.false_eq_true, if_false]
  split
  · rfl
  · split <;> rfl
 have hFL : f.flP ⟨ng, d, pw, ex, false, un⟩ = if un then (if f.fam = 1 then (if ex then 0 else 3) else 3) else if ex then 0 else 1 := rfl
 have hF1 : f.fam = 1 → (famB f != 65) = false := fun h => by unfold famB; rw [if_pos h]; rfl
 have hF2 : f.fam ≠ 1 → (famB f != 65) = true := fun h => by unfold famB; rw [if_neg h]; split <;> rfl
 have hB1 : (famB f != 65) = true → f.fam ≠ 1 := fun h k => by rw [hF1 k] at h; cases h
 have hB2 : (famB f != 65) = false → f.fam = 1 := fun h => Classical.byContradiction fun k => by rw [hF2 k] at h; cases h
 have hz := a0f a0a d
 have HR9 := fun W u hU => hi0 (d0f f n way 0 1 1 u W hU (by decide +kernel))
 have HR3 := fun k (hk : k = 0 ∨ k = 1) W u hU => hi0 (d0f f n way k 3 3 u W hU (by rcases hk with rfl | rfl <;> decide +kernel))
 have HR2 := fun k (hk : k = 1) W u hU => hi0 (d0f f n way k 2 3 u W hU (by subst hk; decide +kernel))
 have HZ := fun k W u hU => hi0 (k1w f n way k ng u W hU)
 rw [hFL] at hM
 generalize (f.placedM ⟨ng, d, pw, ex, false, un⟩ way).2 = FL at *
 generalize f.placedV ⟨ng, d, pw, ex, false, un⟩ way = v at *
 clear hFL
 generalize (ng && decide (f.fam = 1)) = q at *
 have I := Inv.startW w u 223 (uS f n way 0) [ownF base .u32 143 pp cc (dig B32 d)] U ⟨hp, True.intro⟩ ⟨fun hf => hp.far U (by kernel_rfl) hf.1 hf.2, True.intro⟩
 refine a0h [.p 0 0, .v (.agg #[.bool ng, .slice pp (dig B32 d).length cc, .int .i64 pw, .bool ex, .bool false, .bool un])] I Tryz.func176 ?_
 obtain ⟨ne, hne⟩ : ∃ ne, (!ex) = ne := ⟨_, rfl⟩
 refine zb I 7 (!ex) (ne) (hne) fun Al W I => ?_
 refine zcut I (some 2000007) (fun fr bx gs => ∃ (U1 : Nat → Value) (k1 : Int), fr = (.p 0 0 :: .v (.agg #[.bool ng, .slice pp (dig B32 d).length cc, .int .i64 pw, .bool ex, .bool false, .bool un]) :: .v undef :: .p 1 0 :: .p 2 0 :: sw U1 5 2 (.v (.bool ne) :: sw U1 8 2 (.v undef :: sw U1 11 6 (.v undef :: sw U1 18 18 (.v undef :: .v (U1 37) :: .v undef :: sw U1 39 12 (.v undef :: sw U1 52 11 []))))) : List SV) ∧ bx = [⟨223, (uS f n way k1), false⟩, ⟨116, [.v (.bool ng), .v (.slice pp (dig B32 d).length cc), .v (.int .i64 pw), .v (.bool ex), .v (.bool false), .v (.bool un)], false⟩, ⟨66, [.v (.int .i64 0), .v (.bool false), .v (.slice none 0 0), .v (.int .i64 0)], false⟩] ∧ gs = [ownF base .u32 143 pp cc (dig B32 d)] ∧ (k1 = if ex then 0 else 1)) ?_ ?_
 · intro J hJ Al W I
   rcases Bool.eq_false_or_eq_true ne with rfl | rfl
   · refine zge I 0 223 (fun Al W I => (HR9 W _ (I.box 0 223 _)).out) fun Al V Iv _ _ kz => ?_
     rintro _ W ⟨rfl, hO, hB⟩
     refine ⟨_, rfl, kz _ (uS f n way 1) _ hO hB fun I => ?_⟩
     exact a0k I J fun Al W U I => hJ _ _ _ _ _ ⟨U, 1, rfl, rfl, rfl, (by revert hne; cases ex <;> simp)⟩ (I.pick [0])
   exact a0k I J fun Al W U I => hJ _ _ _ _ _ ⟨U, 0, rfl, rfl, rfl, (by revert hne; cases ex <;> simp)⟩ (I.pick [0])
 rintro _ _ _ ⟨U1, k1, rfl, rfl, rfl, hk1⟩ Al W I
 refine zcut I (some 1000000) (fun fr bx gs => ∃ (U2 : Nat → Value) (k2 : Int), fr = (.p 0 0 :: .v (.agg #[.bool ng, .slice pp (dig B32 d).length cc, .int .i64 pw, .bool ex, .bool false, .bool un]) :: .v undef :: .p 1 0 :: .p 2 0 :: sw U2 5 2 (.v (.bool ne) :: sw U2 8 43 (.v undef :: sw U2 52 11 [])) : List SV) ∧ bx = [⟨223, (uS f n way k2), false⟩, ⟨116, [.v (.bool ng), .v (.slice pp (dig B32 d).length cc), .v (.int .i64 pw), .v (.bool ex), .v (.bool false), .v (.bool un)], false⟩, ⟨66, [.v (.int .i64 0), .v (.bool false), .v (.slice none 0 0), .v (.int .i64 0)], false⟩] ∧ gs = [ownF base .u32 143 pp cc (dig B32 d)] ∧ ((FL : Int) = k2) ∧ (¬ (un = true ∧ f.fam ≠ 1 ∧ pw < f.g.lo))) ?_ ?_
 · intro J hJ Al W I
   rcases Bool.eq_false_or_eq_true (un) with f19 | f19
   · refine zb I 19 (un) (true) (f19) fun Al W I => ?_
     rcases Bool.eq_false_or_eq_true ((famB f) != 65) with f25 | f25
     · refine zb I 25 ((famB f) != 65) (true) (f25) fun Al W I => ?_
       refine zge I 0 223 (fun Al W I => (HR3 k1 (by rw [hk1]; split <;> simp) W _ (I.box 0 223 _)).out) fun Al V Iv _ _ kz => ?_
       rintro _ W ⟨rfl, hO, hB⟩
       refine ⟨_, rfl, kz _ (uS f n way 3) _ hO hB fun I => ?_⟩
       by_cases f36 : pw < f.g.lo
       · refine zd [] I fun Al W I => ?_
         refine zk [0, 1, 2, 3, 4, 5, 6] I fun I => ?_
         refine zkb 7 I (decide (pw < f.g.lo)) (true) (dTr f36) fun I => ?_
         refine zret I (v := fun Al => .agg #[.int .i64 1, .bool false, .slice none 0 0, .int .i64 0]) fun Al W I => ?_
         (rw [hV, hM, if_pos ⟨f19, hB1 f25, f36⟩, if_pos ⟨f19, hB1 f25, f36⟩]; exact m0h (k := 1) rfl I.bel (I.boxE 223 _))
       refine zd [] I fun Al W I => ?_
       refine zk [0, 1, 2, 3, 4, 5, 6] I fun I => ?_
       refine zkb 7 I (decide (pw < f.g.lo)) (false) (dFa f36) fun I => ?_
       exact a0k I J fun Al W U I => hJ _ _ _ _ _ ⟨U, 3, rfl, rfl, rfl, (by have h1 := hB1 f25; rw [hM, if_neg (fun h => f36 h.2.2), if_pos f19, if_neg h1]; rfl), (fun h => f36 h.2.2)⟩ (I.pick [0])
     refine zb I 25 ((famB f) != 65) (false) (f25) fun Al W I => ?_
     refine zb I 40 (un) (true) (f19) fun Al W I => ?_
     rcases Bool.eq_false_or_eq_true (!ex) with f44 | f44
     · refine zb I 44 (!ex) (true) (f44) fun Al W I => ?_
       refine zge I 0 223 (fun Al W I => (HR2 k1 (by rw [hk1]; revert f44; cases ex <;> simp) W _ (I.box 0 223 _)).out) fun Al V Iv _ _ kz => ?_
       rintro _ W ⟨rfl, hO, hB⟩
       refine ⟨_, rfl, kz _ (uS f n way 3) _ hO hB fun I => ?_⟩
       exact a0k I J fun Al W U I => hJ _ _ _ _ _ ⟨U, 3, rfl, rfl, rfl, (by have h1 := hB2 f25; rw [hM, if_neg (fun h => h.2.1 h1), if_pos f19, if_pos h1]; revert f44; cases ex <;> simp), (fun h => by have h1 := hB2 f25; exact h.2.1 h1)⟩ (I.pick [0])
     refine zb I 44 (!ex) (false) (f44) fun Al W I => ?_
     exact a0k I J fun Al W U I => hJ _ _ _ _ _ ⟨U, k1, rfl, rfl, rfl, (by have h1 := hB2 f25; rw [hM, if_neg (fun h => h.2.1 h1), if_pos f19, if_pos h1, hk1]; revert f44; cases ex <;> simp), (fun h => by have h1 := hB2 f25; exact h.2.1 h1)⟩ (I.pick [0])
   refine zb I 19 (un) (false) (f19) fun Al W I => ?_
   refine zb I 40 (un) (false) (f19) fun Al W I => ?_
   exact a0k I J fun Al W U I => hJ _ _ _ _ _ ⟨U, k1, rfl, rfl, rfl, (by rw [hM, if_neg (fun h => by rw [f19] at h; cases h.1), if_neg (by rw [f19]; simp), hk1]; split <;> rfl), (fun h => by rw [f19] at h; cases h.1)⟩ (I.pick [0])
 rintro _ _ _ ⟨U2, k2, rfl, rfl, rfl, hk2, hlo⟩ Al W I
 rcases Bool.eq_false_or_eq_true ((((dig B32 d).length : Nat) : Int) == 0) with f51 | f51
 · refine zb I 51 ((((dig B32 d).length : Nat) : Int) == 0) (true) (f51) fun Al W I => ?_
   refine zq I (fun Al W I => (HZ k2 W _ (I.box 0 223 _)).out) fun Al W I => ?_
   rw [hV, hk2, if_neg hlo, if_pos (hz.1 (by have := beq_iff_eq.1 f51; omega))]
   exact zret I fun Al W I => m0h (k := 1) rfl I.bel (I.boxE 223 _)
 refine zb I 51 ((((dig B32 d).length : Nat) : Int) == 0) (false) (f51) fun Al W I => ?_
 refine zret I (v := fun Al => .agg #[.int .i64 2, .bool ng, .slice pp (dig B32 d).length cc, .int .i64 pw]) fun Al W I => ?_
 (rw [hV, hk2, if_neg hlo, if_neg (fun h => by have := hz.2 h; have := bnF f51; omega)]; exact ⟨pp, cc, rfl, I.fa.1, I.bel, I.boxE 223 _⟩)
theorem r1l (f : Fm) (n way : Int) (p : Pl) (pp : Option Addr) (cc base u : Nat) (w : World) (U : Bt w u 223 #[.int .i64 n, .int .i64 way, .int .i64 f.g.rad, .int .i64 f.g.digs, .int .i64 f.g.lo, .int .i64 f.g.hi, .bool f.g.grad, .int .u8 (famB f), .int .i64 0]) (hb : base ≤ w.heap.size) (G : d0b f) (hw : 1 ≤ way ∧ way ≤ 5) (ho : p.over = true) :
 Calls Tryz.prog 176 #[.pointer (some ⟨u, 0, none⟩), .agg #[.bool p.neg, .slice pp (dig B32 p.d).length cc, .int .i64 p.pow, .bool true, .bool true, .bool p.under]] w (j0t f n way 5 u w base (f.placedV p way)) := by
 have HO := fun W u hU => hi0 (k1z f n way 0 5 p u W hU G (by decide +kernel) hw ho)
 generalize f.placedV p way = v at *
 have I := Inv.startW w u 223 (uS f n way 0) [] U True.intro True.intro
 refine a0h [.p 0 0, .v (.agg #[.bool p.neg, .slice pp (dig B32 p.d).length cc, .int .i64 p.pow, .bool true, .bool true, .bool p.under])] I Tryz.func176 ?_
 refine zge I 0 223 (fun Al W I => (HO W _ (I.box 0 223 _)).out) fun Al V Iv _ _ kz => ?_
 rintro _ W ⟨p16, c16, rfl, o16, hO, hB⟩
 refine ⟨_, rfl, kz _ (uS f n way 5) _ hO hB fun I => ?_⟩
 have I := I.ownB base o16
 exact zret I fun Al W I => ⟨p16, c16, rfl, I.fa.1, I.bel, I.boxE 223 _⟩
theorem r1m (f : Fm) (n way : Int) (p : Pl) (pp : Option Addr) (cc base u : Nat) (w : World) (U : Bt w u 223 #[.int .i64 n, .int .i64 way, .int .i64 f.g.rad, .int .i64 f.g.digs, .int .i64 f.g.lo, .int .i64 f.g.hi, .bool f.g.grad, .int .u8 (famB f), .int .i64 0]) (hb : base ≤ w.heap.size) (G : d0b f) (hw : 1 ≤ way ∧ way ≤ 5) (ho : p.over = true) :
 Calls Tryz.prog 176 #[.pointer (some ⟨u, 0, none⟩), .agg #[.bool p.neg, .slice pp (dig B32 p.d).length cc, .int .i64 p.pow, .bool false, .bool true, .bool p.under]] w (j0t f n way 5 u w base (f.placedV p way)) := by
 have HO := fun W u hU => hi0 (k1z f n way 1 5 p u W hU G (by decide +kernel) hw ho)
 have HR := fun W u hU => hi0 (d0f f n way 0 1 1 u W hU (by decide +kernel))
 generalize f.placedV p way = v at *
 have I := Inv.startW w u 223 (uS f n way 0) [] U True.intro True.intro
 refine a0h [.p 0 0, .v (.agg #[.bool p.neg, .slice pp (dig B32 p.d).length cc, .int .i64 p.pow, .bool false, .bool true, .bool p.under])] I Tryz.func176 ?_
 refine zge I 0 223 (fun Al W I => (HR W _ (I.box 0 223 _)).out) fun Al V Iv _ _ kz => ?_
 rintro _ W ⟨rfl, hO, hB⟩
 refine ⟨_, rfl, kz _ (uS f n way 1) _ hO hB fun I => ?_⟩
 refine zge I 0 223 (fun Al W I => (HO W _ (I.box 0 223 _)).out) fun Al V Iv _ _ kz => ?_
 rintro _ W ⟨p16, c16, rfl, o16, hO, hB⟩
 refine ⟨_, rfl, kz _ (uS f n way 5) _ hO hB fun I => ?_⟩
 have I := I.ownB base o16
 exact zret I fun Al W I => ⟨p16, c16, rfl, I.fa.1, I.bel, I.boxE 223 _⟩
theorem n1s (f : Fm) (n way : Int) (p : Pl) (pp : Option Addr) (cc base u : Nat) (w : World) (U : Bt w u 223 #[.int .i64 n, .int .i64 way, .int .i64 f.g.rad, .int .i64 f.g.digs, .int .i64 f.g.lo, .int .i64 f.g.hi, .bool f.g.grad, .int .u8 (famB f), .int .i64 0]) (hp : Own w base .u32 143 pp cc (dig B32 p.d)) (hb : base ≤ w.heap.size) (G : d0b f) (hw : 1 ≤ way ∧ way ≤ 5) :
 Calls Tryz.prog 176 #[.pointer (some ⟨u, 0, none⟩), .agg #[.bool p.neg, .slice pp (dig B32 p.d).length cc, .int .i64 p.pow, .bool p.exact, .bool p.over, .bool p.under]] w (j0t f n way (((f.placedM p way).2 : Nat) : Int) u w base (f.placedV p way)) := by
 obtain ⟨ng, d, pw, ex, ov, un⟩ := p
 cases ov with
 | true =>
  have e : (f.placedM ⟨ng, d, pw, ex, true, un⟩ way).2 = 5 := by unfold Fm.placedM; rw [if_pos rfl]
  rw [e]
  cases ex
  · exact r1m f n way ⟨ng, d, pw, false, true, un⟩ pp cc base u w U hb G hw rfl
  · exact r1l f n way ⟨ng, d, pw, true, true, un⟩ pp cc base u w U hb G hw rfl
 | false =>
  exact pl_n f n way ng d pw pp cc base u w U hp ex un
theorem u0t (ng : Bool) (p q : Option Addr) (c d : Nat) (num den : Nat) (e : Int) (g : Gd) (way : Int) (w : World) (hp : Rd w .u32 p (dig B32 num)) (hq : Rd w .u32 q (dig B32 den))
 (hl : (dig B32 num).length ≤ 100000) (hl2 : (dig B32 den).length ≤ 100000) (hn : 0 < num) (hd : 0 < den) (he : -1000000 ≤ e ∧ e ≤ 1000000) (G : e0r g) (hw1 : 1 ≤ way) (hw2 : way ≤ 5) :
 Calls Tryz.prog 66 #[.agg #[.bool ng, .slice p (dig B32 num).length c, .slice q (dig B32 den).length d, .int .i64 e], .agg #[.int .i64 g.rad, .int .i64 g.digs, .int .i64 g.lo, .int .i64 g.hi, .bool g.grad], .int .i64 way] w (y0i w (a0o ng num den e g way)) := by
 have h := r0v ng p q c d num den e g way (theK num den e (wid g) g.digs.toNat) w hp hq hl hl2 hn hd he G hw1 hw2 (j0k hn hd e (b0j g).1 (by have := G.d1; omega))
 unfold a0o
 rw [if_neg (by omega)]
 exact h
theorem r1n (f : Fm) (n way : Int) (ng : Bool) (p q : Option Addr) (c d : Nat) (num den : Nat) (e : Int) (u : Nat) (w : World) (U : Bt w u 223 #[.int .i64 n, .int .i64 way, .int .i64 f.g.rad, .int .i64 f.g.digs, .int .i64 f.g.lo, .int .i64 f.g.hi, .bool f.g.grad, .int .u8 (famB f), .int .i64 0]) (hp : Rd w .u32 p (dig B32 num)) (hq : Rd w .u32 q (dig B32 den))
 (hl : (dig B32 num).length ≤ 100000) (hl2 : (dig B32 den).length ≤ 100000) (hn : 0 < num) (hd : 0 < den) (he : -1000000 ≤ e ∧ e ≤ 1000000) (G : d0b f) (hw : 1 ≤ way ∧ way ≤ 5) :
 Calls Tryz.prog 127 #[.pointer (some ⟨u, 0, none⟩), .agg #[.bool ng, .slice p (dig B32 num).length c, .slice q (dig B32 den).length d, .int .i64 e]] w
  (m0d f n way (((f.placedM (a0o ng num den e f.g way) way).2 : Nat) : Int) u w (f.placedV (a0o ng num den e f.g way) way)) := by
 have GG := b0w G.g
 have HF := fun W h1 h2 => hi0 (u0t ng p q c d num den e f.g way W h1 h2 hl hl2 hn hd he GG hw.1 hw.2)
 have HP := fun pp cc base u W U h1 h2 => hi0 (n1s f n way (a0o ng num den e f.g way) pp cc base u W U h1 h2 G hw)
 have hR := e1s (neg := ng) (num := num) (e := e) (way := way) hd GG
 generalize (f.placedM (a0o ng num den e f.g way) way).2 = fl at *
 generalize f.placedV (a0o ng num den e f.g way) way = v at *
 generalize a0o ng num den e f.g way = P at *
 have I := Inv.startW w u 223 (uS f n way 0) [rdF .u32 p (dig B32 num), rdF .u32 q (dig B32 den)] U ⟨hp, hq, True.intro⟩ ⟨fun hf => hp.far U (by kernel_rfl) hf.1 hf.2, fun hf => hq.far U (by kernel_rfl) hf.1 hf.2, True.intro⟩
 refine a0h [.p 0 0, .v (.agg #[.bool ng, .slice p (dig B32 num).length c, .slice q (dig B32 den).length d, .int .i64 e])] I Tryz.func127 ?_
 refine zcut I none (fun fr bx gs => ∃ (U1 : Nat → Value) (p16 : Option Addr) (c16 : Nat), fr = (.p 0 0 :: .v (.agg #[.bool ng, .slice p (dig B32 num).length c, .slice q (dig B32 den).length d, .int .i64 e]) :: .v undef :: .p 1 0 :: .p 2 0 :: sw U1 5 12 [] : List SV) ∧ bx = [⟨223, (uS f n way (fl : Int)), false⟩, ⟨25, [.v (.bool ng), .v (.slice p (dig B32 num).length c), .v (.slice q (dig B32 den).length d), .v (.int .i64 e)], false⟩, ⟨66, [.v (.int .i64 (v.cls : Int)), .v (.bool v.neg), .v (.slice p16 (dig B32 v.d).length c16), .v (.int .i64 v.pow)], false⟩] ∧ gs = [ownF w.heap.size .u32 143 p16 c16 (dig B32 v.d), rdF .u32 p (dig B32 num), rdF .u32 q (dig B32 den)]) ?_ ?_
 · intro J hJ Al W I
   refine zd [0, 2] I fun Al W I => ?_
   refine zk [0, 1, 2, 3, 4, 6, 7, 8] I fun I => ?_
   refine zo2 5 9 I (fun I => ?_) (fun I => ?_)
   · refine zn I fun Al W I => ?_
     refine zo 9 I fun I => ?_
     refine zn I fun Al W I => ?_
     refine zo 10 I fun I => ?_
     refine zqo I (fun Al W I => (HF W I.fa.1 I.fa.2.1).out) fun Al W p15 c15 I => ?_
     refine zo 11 I fun I => ?_
     refine zge I 0 223 (fun Al W I => have hzW := I.bel.size; (HP p15 c15 _ _ W (I.box 0 223 _) I.fa.1 (by omega)).out) fun Al V Iv _ _ kz => ?_
     rintro _ W ⟨p16, c16, rfl, o16, hO, hB⟩
     refine ⟨_, rfl, kz _ (uS f n way (fl : Int)) _ hO hB fun I => ?_⟩
     have I := I.own o16
     refine zo 12 I fun I => ?_
     refine zn I fun Al W I => ?_
     exact a0k I J fun Al W U I => hJ _ _ _ _ _ ⟨U, p16, c16, rfl, rfl, rfl⟩ (I.pick [0, 2, 3])
   refine zn I fun Al W I => ?_
   refine zo 5 I fun I => ?_
   refine zn I fun Al W I => ?_
   refine zo 10 I fun I => ?_
   refine zqo I (fun Al W I => (HF W I.fa.1 I.fa.2.1).out) fun Al W p15 c15 I => ?_
   refine zo 11 I fun I => ?_
   refine zge I 0 223 (fun Al W I => have hzW := I.bel.size; (HP p15 c15 _ _ W (I.box 0 223 _) I.fa.1 (by omega)).out) fun Al V Iv _ _ kz => ?_
   rintro _ W ⟨p16, c16, rfl, o16, hO, hB⟩
   refine ⟨_, rfl, kz _ (uS f n way (fl : Int)) _ hO hB fun I => ?_⟩
   have I := I.own o16
   refine zo 12 I fun I => ?_
   refine zn I fun Al W I => ?_
   exact a0k I J fun Al W U I => hJ _ _ _ _ _ ⟨U, p16, c16, rfl, rfl, rfl⟩ (I.pick [0, 2, 3])
 rintro _ _ _ ⟨U1, p16, c16, rfl, rfl, rfl⟩ Al W I
 exact zret I fun Al W I => ⟨p16, c16, rfl, I.fa.1, I.bel, I.boxE 223 _⟩
end Go.Proofs.YtbamiajjampgnaaGreatDoor
