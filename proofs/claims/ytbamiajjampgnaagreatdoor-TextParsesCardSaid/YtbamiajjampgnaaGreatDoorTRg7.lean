/- The references' division: of more than one digit. -/
import Derived.Lib.Strings
import Derived.Shelf.Strings.Trim
import Derived.Shelf.Strconv.Atoi
import Derived.Shelf.LaysM
import Derived.Shelf.Strconv.Itoa3
import Derived.Test.YtbamiajjampgnaaGreatDoorProg
import Derived.LaidSub
import Derived.Lib.LaidTab
import Derived.Test.YtbamiajjampgnaaGreatDoorTRg1
import Derived.Test.YtbamiajjampgnaaGreatDoorTRg2
import Derived.Test.YtbamiajjampgnaaGreatDoorTRg3
import Derived.Test.YtbamiajjampgnaaGreatDoorTRg4
import Derived.Test.YtbamiajjampgnaaGreatDoorTRg5
import Derived.Test.YtbamiajjampgnaaGreatDoorTRg6
set_option maxHeartbeats 8000000
set_option maxRecDepth 100000
namespace Go.Proofs.YtbamiajjampgnaaGreatDoor
open Go.RowKit Go.Slip
theorem _root_.Go.Slip.SmallRel.skip {B : Nat} {L xs : List Nat} {d k r : Nat} (h : SmallRel B L xs d (k + 1) r) (hk : k < xs.length) (hL : k < L.length) (hx : dg xs k < B) (hz : dg L k = 0) (hlt : r * B + dg xs k < d) : SmallRel B L xs d k (r * B + dg xs k) := by
 have h1 := (h.step hk hL hx).1
 rw [Nat.div_eq_of_lt hlt, Nat.mod_eq_of_lt hlt, h1k L k hz] at h1
 exact h1
theorem o0j {B R j : Nat} : R / B ^ j = B * (R / B ^ (j + 1)) + R / B ^ j % B := by
 rw [Nat.pow_succ, ← Nat.div_div_eq_div_mul, Nat.div_add_mod]
theorem g1e {B : Nat} (hB : 2 ≤ B) (R j : Nat) : dg (dig B R) j = R / B ^ j % B := by
 have h1 := h0v (B := B) (by omega) (dig B R) (b0d hB R) j
 have h2 := f0o B (dig B R) j
 rw [b0a hB] at h1
 rw [h1] at h2
 rw [h2, Nat.add_mul_mod_self_left, Nat.mod_eq_of_lt (a0n (by omega) _ (b0d hB R) j)]
theorem k1c {R n k tp : Nat} (hk : k ≤ n) (h : tp = R / B16 ^ (n + 1 - k)) : 65536 * tp + dg (dig B16 R) (n - k) = R / B16 ^ (n - k) := by
 rw [g1e a0f, h, show n + 1 - k = n - k + 1 by omega]
 exact (o0j (B := B16)).symm
theorem r1k {R n k : Nat} (hk : k ≤ n + 1) (h : R < B16 ^ (n + 1)) : R / B16 ^ (n + 1 - k) < B16 ^ k := by
 rw [Nat.div_lt_iff_lt_mul (Nat.pow_pos e0u), ← Nat.pow_add, show k + (n + 1 - k) = n + 1 by omega]
 exact h
theorem g1f {b n : Nat} (h2 : (dig B16 b).length = n + 2) : dg (dig B16 b) (n + 1) * 65536 + dg (dig B16 b) n = b / B16 ^ n ∧ B16 ≤ b / B16 ^ n := by
 have hb : b < B16 ^ (n + 2) := (a0h a0f b _).1 (by omega)
 have h0 : 0 < b := by
  have := a0d a0f b
  omega
 have h1 := d0m a0f b h0
 rw [h2] at h1
 have e1 : b / B16 ^ (n + 2) = 0 := Nat.div_eq_of_lt hb
 have e2 : b / B16 ^ n = B16 * (b / B16 ^ (n + 1)) + b / B16 ^ n % B16 := o0j
 have e3 : b / B16 ^ (n + 1) = B16 * (b / B16 ^ (n + 2)) + b / B16 ^ (n + 1) % B16 := o0j
 rw [g1e a0f, g1e a0f]
 have e4 : b / B16 ^ (n + 1) % B16 = b / B16 ^ (n + 1) := by rw [e1] at e3; omega
 refine ⟨by rw [e4, show (65536 : Nat) = B16 from rfl, Nat.mul_comm]; exact e2.symm, ?_⟩
 rw [Nat.le_div_iff_mul_le (Nat.pow_pos e0u), Nat.mul_comm, ← Nat.pow_succ]
 exact h1
theorem v0a (p q : Option Addr) (n m c e0 : Nat) (a b nn : Nat) (w : World) (hp : Rd w .i64 p (dig B16 a)) (hq : Rd w .i64 q (dig B16 b)) (hn : n = (dig B16 a).length) (hm : m = (dig B16 b).length)
 (hl : (dig B16 a).length ≤ 100000000) (hl2 : (dig B16 b).length ≤ 100000000) (h2 : (dig B16 b).length = nn + 2) :
 Calls Tryz.prog 54 #[.slice p n c, .slice q m e0] w (w0z w .i64 (dig B16 (a / b)) (dig B16 (a % b))) := by
 subst hn hm
 have HA := hi0 (b0a a0f a)
 have HXL := hi0 (b0d a0f a)
 generalize dig B16 a = xs at *
 obtain ⟨hun, hub⟩ := g1f h2
 obtain ⟨ys, hys⟩ : ∃ ys, ys = dig B16 b := ⟨_, rfl⟩
 rw [← hys] at hq hl2 h2 hun ⊢
 obtain ⟨b1, hb1⟩ : ∃ b1, dg ys (nn + 1) = b1 := ⟨_, rfl⟩
 obtain ⟨b0, hb0⟩ : ∃ b0, dg ys nn = b0 := ⟨_, rfl⟩
 rw [hb1, hb0] at hun
 have hb1l : b1 < 65536 := by rw [← hb1, hys]; exact a0n (B := 65536) (by omega) _ (b0d a0f b) _
 have hb0l : b0 < 65536 := by rw [← hb0, hys]; exact a0n (B := 65536) (by omega) _ (b0d a0f b) _
 obtain ⟨un, hunn⟩ : ∃ un, un = b1 * 65536 + b0 := ⟨_, rfl⟩
 rw [← hunn] at hun
 have hul : un < 4294967296 := by omega
 have HUN := hi0 hun
 have HUB := hi0 (show B16 ≤ un by rw [hun]; exact hub)
 have eun : (b1 : Int) * 65536 + (b0 : Nat) = (un : Nat) := by omega
 have HYS := hi0 hys
 have HN := hi0 h2
 have y2 : 2 ≤ ys.length := by omega
 have hsx := hp.solid
 have hsy := hq.solid
 have t1 : ((ys.length : Int) == 1) = false := bFn (by omega)
 have hcb1 := hq.cells (ys.length - 1) (by omega)
 have hcb0 := hq.cells (ys.length - 2) (by omega)
 rw [show ys.length - 1 = nn + 1 by omega, hb1, show nn + 1 = ys.length - 1 by omega] at hcb1
 rw [show ys.length - 2 = nn by omega, hb0, show nn = ys.length - 2 by omega] at hcb0
 have HB : Hid (0 < b) := by
  have := a0d a0f b
  rw [← hys] at this
  show 0 < b
  omega
 have HBL := hi0 (show b < B16 ^ (nn + 2) from (a0h a0f b _).1 (by rw [← hys]; omega))
 clear hys h2 hun hub hunn hb1 hb0
 go_enter Tryz.func54, Tryz.ntmps54
 go_wp2_with (refine h0a rfl _ _ _ rfl tyN .i64 .i64 xs.length _ _ rfl rfl ?_ ?_ ?_ ?_; omega; omega; omega; intro p1 c1 w1 ho1 hb1 hz1)
 have hsz1 := hb1.size
 have hp1l : p1.isSome = true → blk p1 < w1.heap.size := fun h => (ho1.blk_lt h).2
 go_loopw [10, 11] (fun rv iv wr => ∃ (k r : Nat) (L : List Nat) (pr : Option Addr) (cr : Nat), iv = .int .i64 ((k : Int) - 1) ∧ rv = .slice pr (dig B16 r).length cr ∧ k ≤ xs.length ∧ Hid (L.length = xs.length) ∧ Rd wr .i64 pr (dig B16 r) ∧ (dig B16 r).length ≤ cr ∧
     (0 < (dig B16 r).length → w1.heap.size ≤ blk pr) ∧ Own wr w.heap.size .i64 3 p1 c1 L ∧ Below w.heap.size w wr ∧ w1.heap.size ≤ wr.heap.size ∧ Hid (SmallRel B16 L xs b k r ∧ ∀ i, i < k → dg L i = 0))
  (fun _ iv _ => (intOf iv + 1).toNat)
 case atStart => exact ⟨xs.length, 0, _, none, 0, rfl, by rw [a0c]; rfl, Nat.le_refl _, List.length_replicate, by rw [a0c]; exact Rd.nil _ _ _, by rw [a0c]; simp, by rw [a0c]; simp, ho1, hb1, Nat.le_refl _,
   ⟨⟨fun x hx => by rw [(List.mem_replicate.1 hx).2]; exact e0u, HB.out, by simp⟩, fun i _ => c0o _ _⟩⟩
 case round =>
  obtain ⟨k, r, L, pr, cr, rfl, rfl, hk, hL, hrr, hrc, hrb, hoL, hbL, hszL, HR⟩ := hrel
  have hpL := hp.past hbL
  have hqL := hq.past hbL
  by_cases h0 : 0 < k
  · obtain ⟨j, rfl⟩ : ∃ j, k = j + 1 := ⟨k - 1, by omega⟩
    have ej : ((j + 1 : Nat) : Int) - 1 = j := by omega
    rw [ej]
    have hc1 := hpL.cells j (by omega)
    have hxd := a0n (B := 65536) (by omega) xs HXL.out j
    obtain ⟨x, hx⟩ : ∃ x, dg xs j = x := ⟨_, rfl⟩
    rw [hx] at hc1 hxd
    obtain ⟨R, hRR⟩ : ∃ R, R = r * B16 + x := ⟨_, rfl⟩
    have HX := hi0 hx
    have HRR := hi0 hRR
    have hrl : (dig B16 r).length ≤ ys.length := by rw [HYS.out]; exact a0i a0f (Nat.le_of_lt HR.out.1.2.1)
    have HLD : Hid (∀ y ∈ [x] ++ dig B16 r, y < B16) := by
     intro y hy
     rcases List.mem_append.1 hy with h | h
     · simp at h; rw [h]; exact hxd
     · exact b0d a0f r y h
    have HVR : Hid (val B16 ([x] ++ dig B16 r) = R) := by
     show val B16 ([x] ++ dig B16 r) = R
     rw [List.singleton_append, val_cons, b0a a0f, hRR, Nat.mul_comm B16 r]; omega
    have HRB := hi0 (show R < b * B16 by have := HR.out.1.push (by rw [hx]; exact hxd); rw [hRR, ← hx, Nat.mul_comm r B16]; omega)
    clear hx hRR ej
    have hxs := hsx
    go_wp2_with (first
      | (refine a0t rfl _ _ rfl tyN _ ?_ rfl ?_; omega; intro p2 w2 ho2 hb2 hz2 hp2)
      | (at_builtin; rw [Int.toNat_natCast] at ho2; refine a0w rfl _ _ _ rfl tyN _ _ _ _ _ ho2 rfl _ _ _ _ (hrr.past hb2) rfl rfl rfl ?_ ?_ ?_; (simp; omega); (have := hb2.size; omega); intro p3 c3 w3 ho3 hg3 hb3 hn3))
    refine (d0p p3 _ c3 ([x] ++ dig B16 r) _ ho3.rd rfl ho3.le_cap HLD.out (by simp; omega)).mono ?_
    rintro e w4 ⟨rfl, rfl⟩
    rw [HVR.out]
    have hrt := ho3.take (dig B16 (val B16 ([x] ++ dig B16 r))).length
    rw [b0c a0f _ HLD.out, HVR.out] at hrt
    have hrn : 0 < (dig B16 R).length → w1.heap.size ≤ blk p3 := fun h => by
     have := (hrt.blk_lt (hrt.rd.solid h).1).1
     omega
    have hb23 := hb2.trans hb3
    have hoL3 := hoL.past hb23
    have hs3 := hbL.trans (hb23.mono hbL.size)
    have hsz3 : w1.heap.size ≤ w3.heap.size := Nat.le_trans hszL hb23.size
    have hrR := hrt.rd
    have hrl2 : (dig B16 R).length ≤ ys.length + 1 := by
     rw [a0h a0f, HN.out, show nn + 2 + 1 = (nn + 2) + 1 by omega, Nat.pow_succ]
     exact Nat.lt_of_lt_of_le HRB.out (Nat.mul_le_mul_right _ (Nat.le_of_lt HBL.out))
    clear hb2 hb3 hz2 hp2 ho2 ho3 hg3 hn3 hb23 hrt hrr hrc hrb hoL hbL hszL hpL hc1
    have hq3 := hq.past hs3
    have hq3b : Rd w3 .i64 q (dig B16 b) := by rw [← HYS.out]; exact hq3
    have lyb := hi0 (show ys.length = (dig B16 b).length by rw [← HYS.out])
    have lyb2 : (dig B16 b).length ≤ 100000000 := by rw [← HYS.out]; exact hl2
    go_wp2_with fail
    refine (l0u p3 q _ _ _ e0 R b _ hrR hq3b rfl lyb.out (by omega) (by omega)).mono ?_
    rintro e w5 ⟨rfl, hb5⟩
    have hrR := hrR.past hb5
    have hoL5 := hoL3.past hb5
    have hs5 := hs3.trans (hb5.mono hs3.size)
    have hsz5 : w1.heap.size ≤ w5.heap.size := Nat.le_trans hsz3 hb5.size
    have hsb5 := hs5.size
    have hq5 := hq.past hs5
    clear hb5 hoL3 hs3 hsz3 hq3 hq3b
    by_cases hRb : R < b
    · have hC : cmpN R b ≤ -1 := by rw [j0h hRb]; omega
      have HS : Hid (SmallRel B16 L xs b j R ∧ ∀ i, i < j → dg L i = 0) := by
       have h := HR.out.1.skip (by omega) (by rw [hL.out]; omega) (by rw [HX.out]; exact hxd) (HR.out.2 j (by omega)) (by rw [HX.out, ← HRR.out]; exact hRb)
       rw [HX.out, ← HRR.out] at h
       exact ⟨h, fun i hi => HR.out.2 i (by omega)⟩
      clear hRb
      go_wp2_with fail
      go_roundw
      case rel => exact ⟨j, R, L, p3, _, rfl, rfl, by omega, hL, hrR, Nat.le_refl _, hrn, hoL5, hs5, hsz5, HS⟩
      case measure => first | (simp [intOf]; done) | (simp [intOf]; omega)
    · have hC : 0 ≤ cmpN R b := by unfold cmpN; rw [if_neg hRb]; split <;> omega
      have HRb := hi0 hRb
      have hsr := hrR.solid
      have c1 := hq5.cells (ys.length - 1) (by omega)
      have c0 := hq5.cells (ys.length - 2) (by omega)
      have i1 := (hq.cells (ys.length - 1) (by omega)).symm.trans hcb1
      have i0 := (hq.cells (ys.length - 2) (by omega)).symm.trans hcb0
      simp only [Option.some.injEq, Value.int.injEq, true_and] at i1 i0
      rw [i1] at c1
      rw [i0] at c0
      clear i1 i0 hRb
      have f1 : (0 : Int) ≤ (ys.length : Int) - 1 := by omega
      have f2 : (ys.length : Int) - 1 < (ys.length : Int) := by omega
      have f3 : (0 : Int) ≤ (ys.length : Int) - 2 := by omega
      have f4 : (ys.length : Int) - 2 < (ys.length : Int) := by omega
      have e1 : IntKind.i64.wrap ((ys.length : Int) - 1) = (ys.length : Int) - 1 := iwo
      have e2 : IntKind.i64.wrap ((ys.length : Int) - 2) = (ys.length : Int) - 2 := iwo
      have e3 : ((ys.length : Int) - 1).toNat = ys.length - 1 := by omega
      have e4 : ((ys.length : Int) - 2).toNat = ys.length - 2 := by omega
      have e5 : IntKind.i64.wrap ((b1 : Int) * 65536) = (b1 : Int) * 65536 := iwo
      have e6 : IntKind.i64.wrap (un : Int) = (un : Int) := iwo
      go_wp2_with fail
      go_quiet (fail)
      clear f1 f2 f3 f4 e1 e2 e3 e4 e5 e6 c1 c0
      have hrR := hrR.drewN nq
      have hoL6 := hoL5.drewN nq
      have hs6 := below_drewN hs5 nq
      have hq6 := hq5.drewN nq
      have hsz6 : w1.heap.size ≤ (w5.drewN nq).heap.size := hsz5
      generalize w5.drewN nq = w6 at *
      clear hoL5 hs5 hq5 hsz5 hsb5
      go_wp2_with fail
      have HRn := hi0 (show R < B16 ^ (ys.length + 1) by rw [HN.out, Nat.pow_succ]; exact Nat.lt_of_lt_of_le HRB.out (Nat.mul_le_mul_right _ (Nat.le_of_lt HBL.out)))
      go_loop [12, 14] (fun tv kv => ∃ (kk tp : Nat), kv = .int .i64 kk ∧ tv = .int .i64 tp ∧ kk ≤ 3 ∧ tp < 281474976710656 ∧ (kk < 3 → tp < 4294967296) ∧ Hid (tp = R / B16 ^ (ys.length + 1 - kk))) (fun _ kv => 3 - (intOf kv).toNat)
      case atStart => exact ⟨0, 0, rfl, rfl, by omega, by omega, fun _ => by omega, (show 0 = R / B16 ^ (ys.length + 1 - 0) from (Nat.div_eq_of_lt HRn.out).symm)⟩
      case round =>
       obtain ⟨kk, tp, rfl, rfl, hkk, htp, htp2, HT⟩ := hrel
       by_cases hk3 : kk < 3
       · have htp3 := htp2 hk3
         obtain ⟨dd, hdd⟩ : ∃ dd, dg (dig B16 R) (ys.length - kk) = dd := ⟨_, rfl⟩
         have hstep := k1c (R := R) (n := ys.length) (k := kk) (by omega) HT.out
         rw [hdd] at hstep
         have hlt := r1k (R := R) (n := ys.length) (k := kk + 1) (by omega) HRn.out
         rw [show ys.length + 1 - (kk + 1) = ys.length - kk by omega, ← hstep] at hlt
         have hlt3 : 65536 * tp + dd < 281474976710656 := Nat.lt_of_lt_of_le hlt (Nat.le_trans (Nat.pow_le_pow_right e0u (show kk + 1 ≤ 3 by omega)) (by decide))
         have hlt2 : kk + 1 < 3 → 65536 * tp + dd < 4294967296 := fun h => Nat.lt_of_lt_of_le hlt (Nat.le_trans (Nat.pow_le_pow_right e0u (show kk + 1 ≤ 2 by omega)) (by decide))
         have HS : Hid (65536 * tp + dd = R / B16 ^ (ys.length + 1 - (kk + 1))) := by rw [show ys.length + 1 - (kk + 1) = ys.length - kk by omega]; exact hstep
         have hddl : dd < 65536 := by rw [← hdd]; exact a0n (B := 65536) (by omega) _ (b0d a0f R) _
         have g1 : (0 : Int) ≤ (ys.length : Int) - (kk : Int) := by omega
         have g3 : ((ys.length : Int) - (kk : Int)).toNat = ys.length - kk := by omega
         clear hlt hstep
         by_cases hat : ys.length - kk < (dig B16 R).length
         · have hcr := hrR.cells (ys.length - kk) hat
           rw [hdd] at hcr
           have g2 : (ys.length : Int) - (kk : Int) < ((dig B16 R).length : Int) := by omega
           have HL2 := hi0 hlt2
           clear hat hdd hlt2 htp2
           go_wp2_with fail
           go_round
           case rel => exact ⟨kk + 1, 65536 * tp + dd, by go_num, by go_num, by omega, hlt3, HL2.out, HS⟩
           case measure => simp [intOf]; omega
         · have hd0 : dd = 0 := by rw [← hdd]; exact b0s (by omega)
           subst hd0
           have g2 : ((dig B16 R).length : Int) ≤ (ys.length : Int) - (kk : Int) := by omega
           have HL2 := hi0 hlt2
           clear hat hdd hlt2 htp2
           go_wp2_with fail
           go_round
           case rel => exact ⟨kk + 1, 65536 * tp + 0, by go_num, by go_num, by omega, hlt3, HL2.out, HS⟩
           case measure => simp [intOf]; omega
       · obtain rfl : kk = 3 := by omega
         have hT : tp = R / B16 ^ nn := by have := HT.out; rw [HN.out, show nn + 2 + 1 - 3 = nn by omega] at this; exact this
         obtain ⟨ht1, ht2⟩ := a1f (P := B16 ^ nn) (Nat.pow_pos e0u) (by rw [← HUN.out]; exact HUB.out) HRB.out
         rw [← hT, ← HUN.out] at ht1 ht2
         have hqd : R / b < 65536 := by rw [Nat.div_lt_iff_lt_mul HB.out, Nat.mul_comm]; exact HRB.out
         obtain ⟨xq, hxq⟩ : ∃ xq, xq = tp / (un + 1) := ⟨_, rfl⟩
         obtain ⟨qd, hqq⟩ : ∃ qd, qd = R / b := ⟨_, rfl⟩
         rw [← hxq, ← hqq] at ht1 ht2
         rw [← hqq] at hqd
         have ex : (tp : Int) / ((un : Int) + 1) = (xq : Nat) := by rw [hxq]; rfl
         have HQD := hi0 hqq
         have hu1 : (1 : Int) ≤ (un : Int) + 1 := by omega
         clear hT hxq hqq hk3 htp2
         go_wp2_with fail
         obtain ⟨d0, hd0⟩ : ∃ d0 : Nat, (d0 : Int) = min 65535 (max 0 ((xq : Int) - 1) + 4) := ⟨(min 65535 (max 0 ((xq : Int) - 1) + 4)).toNat, by omega⟩
         have hd1 : qd ≤ d0 := by omega
         have hd2 : d0 ≤ 65535 := by omega
         have HD0 := hi0 hd0
         clear hd0 ex ht1 ht2 hu1
         go_loopg [10, 17] d0 (fun g rv dv wr2 => ∃ (d : Nat), d = g ∧ rv = .slice p3 (dig B16 R).length (dig B16 R).length ∧ dv = .int .i64 d ∧ qd ≤ d ∧ d ≤ 65535 ∧ Below w6.heap.size w6 wr2)
         case atStart => exact ⟨d0, rfl, rfl, congrArg (Value.int .i64) HD0.out.symm, hd1, hd2, Below.refl _ _⟩
         case round =>
          obtain ⟨d, rfl, rfl, rfl, hqd1, hdl, hb7⟩ := hrel
          have ld : (dig B16 d).length ≤ 1 := (a0h a0f d 1).2 (by unfold B16; omega)
          have lbd : (dig B16 (b * d)).length ≤ 100000001 := by have := b0i a0f b d; omega
          go_wp2_with fail
          ((with_reducible refine (j0r d _ (by omega)).mono ?_))
          rintro e w8 ⟨p8, c8, rfl, hr8, -, -, hb8⟩
          have hs8 := hb7.trans (hb8.mono hb7.size)
          have hq8 : Rd w8 .i64 q (dig B16 b) := by rw [← HYS.out]; exact hq6.past hs8
          clear hb7 hb8
          go_wp2_with fail
          ((with_reducible refine (e0p q p8 _ _ e0 c8 b d _ hq8 hr8 lyb.out rfl (by omega)).mono ?_))
          rintro e w9 ⟨p9, c9, rfl, hr9, -, -, hb9⟩
          have hs9 := hs8.trans (hb9.mono hs8.size)
          clear hs8 hb9 hr8 hq8
          go_wp2_with fail
          ((with_reducible refine (l0u p9 p3 _ _ c9 _ (b * d) R _ hr9 (hrR.past hs9) rfl rfl (by omega) (by omega)).mono ?_))
          rintro e w10 ⟨rfl, hb10⟩
          have hs10 := hs9.trans (hb10.mono hs9.size)
          have hr10 := hr9.past hb10
          have hrR10 := hrR.past hs10
          clear hs9 hb10 hr9
          by_cases hle : b * d ≤ R
          · have hC2 : cmpN (b * d) R ≤ 0 := by unfold cmpN; split; omega; rw [if_neg (by omega)]; omega
            have hdq : d = qd := by
             have : d ≤ qd := by rw [HQD.out, Nat.le_div_iff_mul_le HB.out, Nat.mul_comm]; exact hle
             omega
            have HMM := hi0 (show R - b * d = R % b by rw [hdq, HQD.out]; have := Nat.div_add_mod R b; omega)
            have HS : Hid (SmallRel B16 (L.set j d) xs b j (R % b) ∧ ∀ i, i < j → dg (L.set j d) i = 0) := by
             have h := (HR.out.1.step (by omega) (by rw [hL.out]; omega) (by rw [HX.out]; exact hxd)).1
             rw [HX.out, ← HRR.out, ← HQD.out, ← hdq] at h
             exact ⟨h, fun i hi => by rw [b0o (by omega)]; exact HR.out.2 i (by omega)⟩
            have HLE := hi0 hle
            clear hdq hle
            go_wp2_with fail
            ((with_reducible refine (o0d p3 p9 _ _ _ c9 R (b * d) _ hrR10 hr10 rfl rfl (by omega) HLE.out).mono ?_))
            rw [HMM.out]
            rintro e w11 ⟨p11, c11, rfl, hr11, hl11, hk11, hb11⟩
            have hs11 := hs10.trans (hb11.mono hs10.size)
            have hk12 : 0 < (dig B16 (R % b)).length → w1.heap.size ≤ blk p11 := fun h => by
             have := hk11 h
             have := hs10.size
             omega
            have hoL11 := hoL6.past hs11
            have hbw11 := hs6.trans (hs11.mono hs6.size)
            have hsz11 : w1.heap.size ≤ w11.heap.size := Nat.le_trans hsz6 hs11.size
            have hsL := hoL11.solid
            rw [hL.out] at hsL
            have hjL : j < L.length := by rw [hL.out]; omega
            have hps := hi0 (hoL11.rd.solid (by omega)).1
            clear hs10 hb11 hrR10 hr10 hk11 hC2
            go_wp2_with (refine a0v rfl _ _ _ rfl 3 tyN _ _ _ _ hoL11 j hjL _ ?_ rfl rfl ?_; omega; intro w12 ho12 hg12 hb12)
            rw [Int.toNat_natCast] at ho12
            have hz12 := hg12.size
            go_roundw
            case rel => exact ⟨j, R % b, _, p11, c11, rfl, rfl, by omega, (by show (List.set _ _ _).length = _; rw [List.length_set]; exact hL.out), hr11.written hg12 (fun h0 h1 => by have := hk12 h0; have := hp1l h1; omega) hps.out, hl11, hk12, ho12, hbw11.trans hb12, Nat.le_trans hsz11 hz12, HS⟩
            case measure => first | (simp [intOf]; done) | (simp [intOf]; omega)
          · have hC2 : 1 ≤ cmpN (b * d) R := by rw [m0x (by omega)]; omega
            have hd1 : qd ≤ d - 1 ∧ 1 ≤ d := by
             have : qd ≠ d := by
              intro h
              have h1 := Nat.div_mul_le_self R b
              rw [← HQD.out, h, Nat.mul_comm] at h1
              exact hle h1
             omega
            obtain ⟨hd3, hd4⟩ := hd1
            have ed : (d : Int) - 1 = ((d - 1 : Nat) : Int) := by omega
            clear hle
            go_wp2_with fail
            go_roundg (d - 1)
            case measure => omega
            case rel => exact ⟨d - 1, rfl, rfl, rfl, hd3, by omega, hs10⟩
  · obtain rfl : k = 0 := by omega
    obtain ⟨hv, hm⟩ := HR.out.1.done HA.out
    have HM := hi0 hm
    have HV := hi0 hv
    have HLB := hi0 HR.out.1.1
    clear hv hm
    go_wp2_with fail
    refine (d0p p1 xs.length c1 L _ hoL.rd hL.out.symm (by rw [hL.out]; exact hL.out ▸ hoL.le_cap) HLB.out (by rw [hL.out]; omega)).mono ?_
    rintro e w3 ⟨rfl, rfl⟩
    rw [HV.out]
    go_wp2_with fail
    go_ret2
    have ht := b0c a0f L HLB.out
    have ho3 := hoL.take (dig B16 (val B16 L)).length
    rw [ht, HV.out] at ho3
    rw [← HM.out]
    exact ⟨p1, _, pr, _, rfl, ho3.rd, Nat.le_refl _, i0e ho3, hrr, hrc, fun h => Nat.le_trans hsz1 (hrb h), hbL⟩
theorem h0m (p q : Option Addr) (n m c e0 : Nat) (a b : Nat) (w : World) (hp : Rd w .i64 p (dig B16 a)) (hq : Rd w .i64 q (dig B16 b)) (hn : n = (dig B16 a).length) (hm : m = (dig B16 b).length)
 (hl : (dig B16 a).length ≤ 100000000) (hl2 : (dig B16 b).length ≤ 100000000) (hb : 0 < b) :
 Calls Tryz.prog 54 #[.slice p n c, .slice q m e0] w (w0z w .i64 (dig B16 (a / b)) (dig B16 (a % b))) := by
 by_cases h1 : (dig B16 b).length = 1
 · obtain ⟨h2, h3⟩ := o0y a0f h1
   rw [h1] at hm
   rw [f0q a0f h2 h3] at hq
   exact x0a p q n m c e0 a b w hp hq hn hm (by omega) h2 h3
 · have h0 : (dig B16 b).length ≠ 0 := by
    have := a0d a0f b
    omega
   exact v0a p q n m c e0 a b ((dig B16 b).length - 2) w hp hq hn hm hl hl2 (by omega)
instance decDv : DecidableEq Dv := fun a b => decidable_of_iff (a.neg = b.neg ∧ a.m = b.m ∧ a.e = b.e) ⟨fun h => Dv.ext' h.1 h.2.1 h.2.2, fun h => by subst h; exact ⟨rfl, rfl, rfl⟩⟩
structure InF (w : World) (base : Nat) (a : Rw) : Prop where
 rd : Rd w .i64 a.p (dig B16 a.m)
 cap : (dig B16 a.m).length ≤ a.c
 len : (dig B16 a.m).length ≤ 1000000
 lo : -1000000 ≤ a.e
 hi : a.e ≤ 1000000
 at_ : 0 < (dig B16 a.m).length → base ≤ blk a.p
theorem InF.past {w w' : World} {base : Nat} {a : Rw} (h : InF w base a) (hb : Below w.heap.size w w') : InF w' base a := ⟨h.rd.past hb, h.cap, h.len, h.lo, h.hi, h.at_⟩
theorem InF.drew {w : World} {base : Nat} {a : Rw} (h : InF w base a) : InF w.drew base a := ⟨h.rd.drew, h.cap, h.len, h.lo, h.hi, h.at_⟩
theorem InF.mono {w : World} {base base' : Nat} {a : Rw} (h : InF w base a) (hb : base' ≤ base) : InF w base' a := ⟨h.rd, h.cap, h.len, h.lo, h.hi, fun k => Nat.le_trans hb (h.at_ k)⟩
theorem InF.only {w w' : World} {base k : Nat} {a : Rw} (h : InF w base a) (hb : Only k w w') (hne : 0 < (dig B16 a.m).length → blk a.p ≠ k) : InF w' base a := ⟨h.rd.only hb hne, h.cap, h.len, h.lo, h.hi, h.at_⟩
theorem InF.lt {w : World} {base : Nat} {a : Rw} (h : InF w base a) : 0 < (dig B16 a.m).length → blk a.p < w.heap.size := fun k => h.rd.lt k
def GRf (w : World) (xs : List Nat) (en : Ending) (w' : World) : Prop :=
 ∃ p c, en = .returned (.slice p xs.length c) ∧ Rf w' w.heap.size p c xs ∧ Below w.heap.size w w'
theorem d0y.grf {w w' : World} {xs : List Nat} {en : Ending} (h : d0y w .i64 xs en w') : GRf w xs en w' := by
 obtain ⟨p, c, h1, h2, h3, h4, h5⟩ := h
 exact ⟨p, c, h1, c1u h2 h3 h4, h5⟩
def GNf (w : World) (base : Nat) (d : Dv) (en : Ending) (w' : World) : Prop :=
 ∃ p c, en = .returned (.agg #[.bool d.neg, .slice p (dig B16 d.m).length c, .int .i64 d.e]) ∧ Rf w' base p c (dig B16 d.m) ∧ Below w.heap.size w w'
theorem r1l (N : Int) (n : Nat) (h : N = n) (hn : n ≤ 9223372036854775807) (w : World) : Calls Tryz.prog 95 #[.int .i64 N] w (GRf w (dig B16 n)) := by
 subst h; exact (j0r n w hn).mono fun _ _ => d0y.grf
theorem x0n (N : Int) (n : Nat) (h : N = n) (hn : n ≤ 1000000000) (w : World) : Calls Tryz.prog 72 #[.int .i64 N] w (GRf w (dig B16 (2 ^ n))) := by
 subst h; exact (j0q n w hn).mono fun _ _ => d0y.grf
theorem s1r (p q : Option Addr) (n m c d : Nat) (a b x : Nat) (w : World) (hp : Rd w .i64 p (dig B16 a)) (hq : Rd w .i64 q (dig B16 b)) (hn : n = (dig B16 a).length) (hm : m = (dig B16 b).length)
 (hl : (dig B16 a).length ≤ 100000000) (hl2 : (dig B16 b).length ≤ 100000000) (h : a + b = x) :
 Calls Tryz.prog 75 #[.slice p n c, .slice q m d] w (GRf w (dig B16 x)) := by
 subst h; exact (j0p p q n m c d a b w hp hq hn hm (by omega)).mono fun _ _ => d0y.grf
theorem r1m (p q : Option Addr) (n m c d : Nat) (a b x : Nat) (w : World) (hp : Rd w .i64 p (dig B16 a)) (hq : Rd w .i64 q (dig B16 b)) (hn : n = (dig B16 a).length) (hm : m = (dig B16 b).length)
 (hl : (dig B16 a).length ≤ 100000000) (hl2 : (dig B16 b).length ≤ 100000000) (h : a * b = x) :
 Calls Tryz.prog 53 #[.slice p n c, .slice q m d] w (GRf w (dig B16 x)) := by
 subst h; exact (e0p p q n m c d a b w hp hq hn hm (by omega)).mono fun _ _ => d0y.grf
theorem o1e (p q : Option Addr) (n m c d : Nat) (a b x : Nat) (w : World) (hp : Rd w .i64 p (dig B16 a)) (hq : Rd w .i64 q (dig B16 b)) (hn : n = (dig B16 a).length) (hm : m = (dig B16 b).length)
 (hl : (dig B16 a).length ≤ 100000000) (hab : b ≤ a) (h : a - b = x) :
 Calls Tryz.prog 123 #[.slice p n c, .slice q m d] w (GRf w (dig B16 x)) := by
 subst h; exact (o0d p q n m c d a b w hp hq hn hm (by omega) hab).mono fun _ _ => d0y.grf
theorem r1n {w w' : World} {d : Dv} {en : Ending} (h : u0m w (fun _ => False) d en w') : GNf w w.heap.size d en w' := by
 obtain ⟨p, c, h1, h2, h3, h4, h5⟩ := h
 exact ⟨p, c, h1, r1z h2 h3 h4, h5⟩
theorem g1g (g : Bool) (p : Option Addr) (n c : Nat) (e : Int) (m : Nat) (d : Dv) (w : World) (hp : Rd w .i64 p (dig B16 m)) (hn : n = (dig B16 m).length) (hl : (dig B16 m).length ≤ 1000000) (he : -1000000 ≤ e ∧ e ≤ 1000000) (h : bare ⟨g, m, e⟩ = d) :
 Calls Tryz.prog 51 #[.agg #[.bool g, .slice p n c, .int .i64 e]] w (GNf w w.heap.size d) := by
 subst h
 exact (u0w g p n c e m w hp hn (by omega) (by omega)).mono fun _ _ => r1n
theorem f0l (s e f d l g k : Int) (w : World) : Calls Tryz.prog 59 #[.int .i64 s, .int .i64 e, .int .i64 f, .int .i64 d, .int .i64 l, .int .i64 g, .int .i64 k] w
 fun en w' => en = .returned (.agg #[.int .i64 s, .int .i64 e, .int .i64 f, .int .i64 2, .int .i64 d, .int .i64 l, .int .i64 g, .bool (k == 1), .int .i64 k]) ∧ Below w.heap.size w w' := by
 have I := Inv.start w [] True.intro
 refine a0g [.v (.int .i64 s), .v (.int .i64 e), .v (.int .i64 f), .v (.int .i64 d), .v (.int .i64 l), .v (.int .i64 g), .v (.int .i64 k)] I Tryz.func59 ?_
 exact zrb I
theorem i0h (n : Int) (hn : IsFm n) (w : World) : Calls Tryz.prog 16 #[.int .i64 n] w
 fun e w' => e = .returned (.tuple #[.agg #[.int .i64 (((fmt n).size : Nat) : Int), .int .i64 (((fmt n).E : Nat) : Int), .int .i64 (((fmt n).F : Nat) : Int), .int .i64 (fmt n).g.rad, .int .i64 (fmt n).g.digs, .int .i64 (fmt n).g.lo, .int .i64 (fmt n).g.hi, .bool (fmt n).g.grad, .int .i64 (((fmt n).fam : Nat) : Int)], .bool true]) ∧ Below w.heap.size w w' := by
 rcases k0p hn with rfl | rfl | rfl | rfl | rfl | rfl | rfl | rfl
 · have I := Inv.start w [] True.intro
   refine a0g [.v (.int .i64 1)] I Tryz.func16 ?_
   refine zq I (fun Al W I => f0l 4 8 23 24 (-149) 104 1 W) fun Al W I => ?_
   exact zret I (v := fun Al => .tuple #[.agg #[.int .i64 4, .int .i64 8, .int .i64 23, .int .i64 2, .int .i64 24, .int .i64 (-149), .int .i64 104, .bool true, .int .i64 1], .bool true]) fun Al W I => ⟨by kernel_rfl, I.below⟩
 · have I := Inv.start w [] True.intro
   refine a0g [.v (.int .i64 2)] I Tryz.func16 ?_
   refine zq I (fun Al W I => f0l 8 11 52 53 (-1074) 971 1 W) fun Al W I => ?_
   exact zret I (v := fun Al => .tuple #[.agg #[.int .i64 8, .int .i64 11, .int .i64 52, .int .i64 2, .int .i64 53, .int .i64 (-1074), .int .i64 971, .bool true, .int .i64 1], .bool true]) fun Al W I => ⟨by kernel_rfl, I.below⟩
 · have I := Inv.start w [] True.intro
   refine a0g [.v (.int .i64 3)] I Tryz.func16 ?_
   refine zq I (fun Al W I => f0l 10 15 64 64 (-16445) 16320 1 W) fun Al W I => ?_
   exact zret I (v := fun Al => .tuple #[.agg #[.int .i64 10, .int .i64 15, .int .i64 64, .int .i64 2, .int .i64 64, .int .i64 (-16445), .int .i64 16320, .bool true, .int .i64 1], .bool true]) fun Al W I => ⟨by kernel_rfl, I.below⟩
 · have I := Inv.start w [] True.intro
   refine a0g [.v (.int .i64 4)] I Tryz.func16 ?_
   exact zret I (v := fun Al => .tuple #[.agg #[.int .i64 4, .int .i64 7, .int .i64 24, .int .i64 16, .int .i64 6, .int .i64 (-70), .int .i64 57, .bool false, .int .i64 2], .bool true]) fun Al W I => ⟨by kernel_rfl, I.below⟩
 · have I := Inv.start w [] True.intro
   refine a0g [.v (.int .i64 5)] I Tryz.func16 ?_
   exact zret I (v := fun Al => .tuple #[.agg #[.int .i64 8, .int .i64 7, .int .i64 56, .int .i64 16, .int .i64 14, .int .i64 (-78), .int .i64 49, .bool false, .int .i64 2], .bool true]) fun Al W I => ⟨by kernel_rfl, I.below⟩
 · have I := Inv.start w [] True.intro
   refine a0g [.v (.int .i64 6)] I Tryz.func16 ?_
   refine zq I (fun Al W I => f0l 4 8 23 24 (-151) 103 3 W) fun Al W I => ?_
   exact zret I (v := fun Al => .tuple #[.agg #[.int .i64 4, .int .i64 8, .int .i64 23, .int .i64 2, .int .i64 24, .int .i64 (-151), .int .i64 103, .bool false, .int .i64 3], .bool true]) fun Al W I => ⟨by kernel_rfl, I.below⟩
 · have I := Inv.start w [] True.intro
   refine a0g [.v (.int .i64 7)] I Tryz.func16 ?_
   refine zq I (fun Al W I => f0l 8 8 55 56 (-183) 71 3 W) fun Al W I => ?_
   exact zret I (v := fun Al => .tuple #[.agg #[.int .i64 8, .int .i64 8, .int .i64 55, .int .i64 2, .int .i64 56, .int .i64 (-183), .int .i64 71, .bool false, .int .i64 3], .bool true]) fun Al W I => ⟨by kernel_rfl, I.below⟩
 · have I := Inv.start w [] True.intro
   refine a0g [.v (.int .i64 8)] I Tryz.func16 ?_
   refine zq I (fun Al W I => f0l 8 11 52 53 (-1076) 970 3 W) fun Al W I => ?_
   exact zret I (v := fun Al => .tuple #[.agg #[.int .i64 8, .int .i64 11, .int .i64 52, .int .i64 2, .int .i64 53, .int .i64 (-1076), .int .i64 970, .bool false, .int .i64 3], .bool true]) fun Al W I => ⟨by kernel_rfl, I.below⟩
theorem s0p (n : Int) (hn : ¬ IsFm n) (w : World) : Calls Tryz.prog 16 #[.int .i64 n] w
 fun e w' => e = .returned (.tuple #[.agg #[.int .i64 (((fmt n).size : Nat) : Int), .int .i64 (((fmt n).E : Nat) : Int), .int .i64 (((fmt n).F : Nat) : Int), .int .i64 (fmt n).g.rad, .int .i64 (fmt n).g.digs, .int .i64 (fmt n).g.lo, .int .i64 (fmt n).g.hi, .bool (fmt n).g.grad, .int .i64 (((fmt n).fam : Nat) : Int)], .bool false]) ∧ Below w.heap.size w w' := by
 rw [s0n hn]
 unfold IsFm at hn
 have I := Inv.start w [] True.intro
 refine a0g [.v (.int .i64 n)] I Tryz.func16 ?_
 refine zb I 7 (n == 1) (false) (bFn (by omega)) fun Al W I => ?_
 refine zb I 11 (n == 2) (false) (bFn (by omega)) fun Al W I => ?_
 refine zb I 15 (n == 3) (false) (bFn (by omega)) fun Al W I => ?_
 refine zb I 19 (n == 4) (false) (bFn (by omega)) fun Al W I => ?_
 refine zb I 23 (n == 5) (false) (bFn (by omega)) fun Al W I => ?_
 refine zb I 27 (n == 6) (false) (bFn (by omega)) fun Al W I => ?_
 refine zb I 31 (n == 7) (false) (bFn (by omega)) fun Al W I => ?_
 refine zb I 35 (n == 8) (false) (bFn (by omega)) fun Al W I => ?_
 exact zret I (v := fun Al => .tuple #[.agg #[.int .i64 0, .int .i64 0, .int .i64 0, .int .i64 0, .int .i64 0, .int .i64 0, .int .i64 0, .bool false, .int .i64 0], .bool false]) fun Al W I => ⟨by kernel_rfl, I.below⟩
theorem b0w (n : Int) (w : World) : Calls Tryz.prog 16 #[.int .i64 n] w
 fun e w' => e = .returned (.tuple #[.agg #[.int .i64 (((fmt n).size : Nat) : Int), .int .i64 (((fmt n).E : Nat) : Int), .int .i64 (((fmt n).F : Nat) : Int), .int .i64 (fmt n).g.rad, .int .i64 (fmt n).g.digs, .int .i64 (fmt n).g.lo, .int .i64 (fmt n).g.hi, .bool (fmt n).g.grad, .int .i64 (((fmt n).fam : Nat) : Int)], .bool (decide (IsFm n))]) ∧ Below w.heap.size w w' := by
 by_cases hn : IsFm n
 · rw [decide_eq_true hn]; exact i0h n hn w
 · rw [decide_eq_false hn]; exact s0p n hn w
theorem l1y {n : Int} (h : IsFm n) : (fmt n).ext = decide (n = 3) := by
 rcases k0p h with rfl | rfl | rfl | rfl | rfl | rfl | rfl | rfl <;> rfl
theorem v0b (n : Int) (i : Nat) (w : World) (hn : IsFm n) (hi : i < (fmt n).size) : Calls Tryz.prog 143 #[.int .i64 n, .int .i64 (i : Int)] w
 fun e w' => e = .returned (.int .i64 ((plc (fmt n).ord (fmt n).size i : Nat) : Int)) ∧ Below w.heap.size w w' := by
 have HF := fun W => hi0 (i0h n hn W)
 have G := b0m hn
 have z1 := G.sz
 have he := l1y hn
 generalize fmt n = f at *
 by_cases h3 : n = 3
 · rw [decide_eq_true h3] at he
   have hp : ((plc f.ord f.size i : Nat) : Int) = (f.size : Int) - 1 - i := by unfold plc Fm.ord; rw [he, if_pos rfl, if_pos rfl]; omega
   rw [hp]
   have I := Inv.start w [] True.intro
   refine a0g [.v (.int .i64 n), .v (.int .i64 (i : Int))] I Tryz.func143 ?_
   refine zq I (fun Al W I => (HF W).out) fun Al W I => ?_
   refine zb I 14 (n == 3) (true) (beq_iff_eq.2 h3) fun Al W I => ?_
   refine zi I 17 .i64 ((f.size : Int) - 1) ((f.size : Int) - 1) (iwo) fun Al W I => ?_
   refine zi I 19 .i64 (((f.size : Int) - 1) - (i : Int)) (((f.size : Int) - 1) - (i : Int)) (iwo) fun Al W I => ?_
   exact zrb I
 · rw [decide_eq_false h3] at he
   by_cases hf : f.fam = 3
   · have hp : ((plc f.ord f.size i : Nat) : Int) = (i : Int) + 1 - 2 * ((i % 2 : Nat) : Int) := by unfold plc Fm.ord; rw [he, if_neg (show ¬ (false = true) by simp), if_pos hf, if_neg (by omega), if_pos rfl]; omega
     rw [hp]
     have I := Inv.start w [] True.intro
     refine a0g [.v (.int .i64 n), .v (.int .i64 (i : Int))] I Tryz.func143 ?_
     refine zq I (fun Al W I => (HF W).out) fun Al W I => ?_
     refine zb I 14 (n == 3) (false) (bFn h3) fun Al W I => ?_
     refine zb I 23 ((f.fam : Int) == 3) (true) (beq_iff_eq.2 (by omega)) fun Al W I => ?_
     refine zi I 25 .i64 ((i : Int) + 1) ((i : Int) + 1) (iwo) fun Al W I => ?_
     refine zbin I 27 _ (fun _ _ _ _ _ => n1a .i64 (i : Int) (2) (((i % 2 : Nat) : Int)) ((show (2 : Int) ≠ 0 by omega)) ((by exact (Int.ofNat_tmod i 2).symm))) fun Al W I => ?_
     refine zi I 28 .i64 ((2 : Int) * ((i % 2 : Nat) : Int)) ((2 : Int) * ((i % 2 : Nat) : Int)) (iwo) fun Al W I => ?_
     refine zi I 29 .i64 (((i : Int) + 1) - ((2 : Int) * ((i % 2 : Nat) : Int))) (((i : Int) + 1) - ((2 : Int) * ((i % 2 : Nat) : Int))) (iwo) fun Al W I => ?_
     exact zrb I
   · have hp : ((plc f.ord f.size i : Nat) : Int) = (i : Int) := by unfold plc Fm.ord; rw [he, if_neg (show ¬ (false = true) by simp), if_neg hf, if_neg (by omega), if_neg (by omega)]
     rw [hp]
     have I := Inv.start w [] True.intro
     refine a0g [.v (.int .i64 n), .v (.int .i64 (i : Int))] I Tryz.func143 ?_
     refine zq I (fun Al W I => (HF W).out) fun Al W I => ?_
     refine zb I 14 (n == 3) (false) (bFn h3) fun Al W I => ?_
     refine zb I 23 ((f.fam : Int) == 3) (false) (bFn (by omega)) fun Al W I => ?_
     exact zrb I
theorem z0m (a N n : Nat) (h : (dig B16 a).length ≤ n) : (dig B16 (a * 2 ^ N)).length ≤ n + (N / 16 + 1) := by
 refine Nat.le_trans (b0i a0f a (2 ^ N)) ?_
 rw [m0c]; omega
theorem l0w {a : Nat} {n : Int} (h : (dig B16 a).length ≤ 2000000) (hn : -10000000 ≤ n ∧ n ≤ 10000000) : (dig B16 (numP a n)).length ≤ 2700000 := by
 have := z0m a n.toNat _ h; unfold numP; omega
theorem q0g {a : Nat} {n : Int} (h : (dig B16 a).length ≤ 2000000) (hn : -10000000 ≤ n ∧ n ≤ 10000000) : (dig B16 (denP a n)).length ≤ 2700000 := by
 have := z0m a (-n).toNat _ h; unfold denP; omega
def o1f (w : World) (q0 : Option Addr) (x y z : Nat) (en : Ending) (w' : World) : Prop :=
 ∃ p c q d r f, en = .returned (.tuple #[.slice p (dig B16 x).length c, .slice q (dig B16 y).length d, .slice r (dig B16 z).length f]) ∧ Rd w' .i64 p (dig B16 x) ∧ (0 < (dig B16 x).length → w.heap.size ≤ blk p) ∧
  Rd w' .i64 q (dig B16 y) ∧ (0 < (dig B16 y).length → w.heap.size ≤ blk q) ∧ Rd w' .i64 r (dig B16 z) ∧ (r = q0 ∨ (0 < (dig B16 z).length → w.heap.size ≤ blk r)) ∧ Below w.heap.size w w'
theorem i0i (g : Bool) (p q : Option Addr) (c d : Nat) (a b : Nat) (x n : Int) (w : World) (hp : Rd w .i64 p (dig B16 a)) (hq : Rd w .i64 q (dig B16 b))
 (hl : (dig B16 a).length ≤ 2000000) (hl2 : (dig B16 b).length ≤ 2000000) (hb : 0 < b) (hn : -10000000 ≤ x - n ∧ x - n ≤ 10000000) (_ : -1000000000 ≤ x ∧ x ≤ 1000000000) :
 Calls Tryz.prog 131 #[.agg #[.bool g, .slice p (dig B16 a).length c, .slice q (dig B16 b).length d, .int .i64 x], .int .i64 n] w (o1f w q (qP a b (x - n)) (rP a b (x - n)) (denP b (x - n))) := by
 have l1 := l0w hl hn
 have l2 := q0g hl2 hn
 have h0 := d0l hb (x - n)
 unfold qP rP
 by_cases h : n ≤ x
 · obtain ⟨N, hN⟩ : ∃ N : Nat, x - n = N := ⟨(x - n).toNat, by omega⟩
   have hNb : N ≤ 10000000 := by omega
   have e1 : denP b (x - n) = b := by rw [hN]; unfold denP; rw [show (-(N : Int)).toNat = 0 by omega, Nat.pow_zero, Nat.mul_one]
   have HN := hi0 (show numP a (x - n) = a * 2 ^ N by rw [hN]; unfold numP; rw [Int.toNat_natCast])
   rw [e1] at l2 h0 ⊢
   generalize numP a (x - n) = X at *
   have HNN := hi0 hN
   clear e1 hN
   go_enter Tryz.func131, Tryz.ntmps131
   go_wp2_with fail
   refine w0d (fun W1 hb1 hz1 Q => ?_)
   replace hp := hp.past hb1
   replace hq := hq.past hb1
   have hs1 := hb1
   obtain ⟨Q_0, Q_1, Q_2, Q_3⟩ := Q.e4
   go_quiet (fail)
   clear Q_0 Q_1 Q_2 Q_3
   have hb2 := below_drewN (Below.refl (W1).heap.size (W1)) nq
   replace Q := Q.past hb2
   replace hp := hp.past hb2
   replace hq := hq.past hb2
   have hs2 := hs1.trans (hb2.mono hs1.size)
   generalize (W1).drewN nq = w2 at *
   have hN := HNN.out
   obtain ⟨Q_0, Q_1, Q_2, Q_3⟩ := Q.e4
   go_wp2_with fail
   clear Q_0 Q_1 Q_2 Q_3
   clear hN
   ((with_reducible refine (o0b p _ c a N _ hp rfl (by omega) (by omega)).mono ?_))
   rintro e3 w3 ⟨p1, c1, rfl, ho1, hc1, hf1, hb3⟩
   replace Q := Q.past hb3
   replace hp := hp.past hb3
   replace hq := hq.past hb3
   have hs3 := hs2.trans (hb3.mono hs2.size)
   rw [← HN.out] at ho1 hf1 ⊢
   obtain ⟨Q_0, Q_1, Q_2, Q_3⟩ := Q.e4
   go_wp2_with fail
   clear Q_0 Q_1 Q_2 Q_3
   ((with_reducible refine (h0m p1 q _ _ c1 d X b _ ho1 hq rfl rfl (by omega) (by omega) h0).mono ?_))
   rintro e4 w4 ⟨p2, c2, q2, d2, rfl, hr2, hc2, hf2, hr3, hc3, hf3, hb4⟩
   replace Q := Q.past hb4
   replace hp := hp.past hb4
   replace hq := hq.past hb4
   replace ho1 := ho1.past hb4
   have hs4 := hs3.trans (hb4.mono hs3.size)
   go_wp2_with fail
   refine bodyPost_ret (v := .tuple #[.slice p2 (dig B16 (X / b)).length c2, .slice q2 (dig B16 (X % b)).length d2, .slice q (dig B16 b).length d]) (by simp [results, Tryz.results131, go_sem]) rfl ?_
   have hz := hs3.size
   exact ⟨p2, c2, q2, d2, q, d, rfl, hr2, fun h => Nat.le_trans hz (hf2 h), hr3, fun h => Nat.le_trans hz (hf3 h), hq, .inl rfl, hs4⟩
 · obtain ⟨N, hN⟩ : ∃ N : Nat, n - x = N := ⟨(n - x).toNat, by omega⟩
   have hNb : N ≤ 10000000 := by omega
   have e1 : numP a (x - n) = a := by unfold numP; rw [show (x - n).toNat = 0 by omega, Nat.pow_zero, Nat.mul_one]
   have HN := hi0 (show denP b (x - n) = b * 2 ^ N by unfold denP; rw [show (-(x - n)).toNat = N by omega])
   rw [e1] at l1 ⊢
   generalize denP b (x - n) = X at *
   have HNN := hi0 hN
   clear e1 hN
   go_enter Tryz.func131, Tryz.ntmps131
   go_wp2_with fail
   refine w0d (fun W1 hb1 hz1 Q => ?_)
   replace hp := hp.past hb1
   replace hq := hq.past hb1
   have hs1 := hb1
   obtain ⟨Q_0, Q_1, Q_2, Q_3⟩ := Q.e4
   go_quiet (fail)
   clear Q_0 Q_1 Q_2 Q_3
   have hb2 := below_drewN (Below.refl (W1).heap.size (W1)) nq
   replace Q := Q.past hb2
   replace hp := hp.past hb2
   replace hq := hq.past hb2
   have hs2 := hs1.trans (hb2.mono hs1.size)
   generalize (W1).drewN nq = w2 at *
   have hN := HNN.out
   obtain ⟨Q_0, Q_1, Q_2, Q_3⟩ := Q.e4
   go_wp2_with fail
   clear Q_0 Q_1 Q_2 Q_3
   clear hN
   ((with_reducible refine (o0b q _ d b N _ hq rfl (by omega) (by omega)).mono ?_))
   rintro e3 w3 ⟨p1, c1, rfl, ho1, hc1, hf1, hb3⟩
   replace Q := Q.past hb3
   replace hp := hp.past hb3
   replace hq := hq.past hb3
   have hs3 := hs2.trans (hb3.mono hs2.size)
   rw [← HN.out] at ho1 hf1 ⊢
   obtain ⟨Q_0, Q_1, Q_2, Q_3⟩ := Q.e4
   go_wp2_with fail
   clear Q_0 Q_1 Q_2 Q_3
   ((with_reducible refine (h0m p p1 _ _ c c1 a X _ hp ho1 rfl rfl (by omega) (by omega) h0).mono ?_))
   rintro e4 w4 ⟨p2, c2, q2, d2, rfl, hr2, hc2, hf2, hr3, hc3, hf3, hb4⟩
   replace Q := Q.past hb4
   replace hp := hp.past hb4
   replace hq := hq.past hb4
   replace ho1 := ho1.past hb4
   have hs4 := hs3.trans (hb4.mono hs3.size)
   go_wp2_with fail
   refine bodyPost_ret (v := .tuple #[.slice p2 (dig B16 (a / X)).length c2, .slice q2 (dig B16 (a % X)).length d2, .slice p1 (dig B16 X).length c1]) (by simp [results, Tryz.results131, go_sem]) rfl ?_
   have hz := hs3.size
   have hz2 := hs2.size
   exact ⟨p2, c2, q2, d2, p1, c1, rfl, hr2, fun h => Nat.le_trans hz (hf2 h), hr3, fun h => Nat.le_trans hz (hf3 h), ho1, .inr fun h => Nat.le_trans hz2 (hf1 h), hs4⟩
def x0o (w : World) (d : Pl) (en : Ending) (w' : World) : Prop :=
 ∃ p c, en = .returned (.agg #[.bool d.neg, .slice p (dig B16 d.d).length c, .int .i64 d.pow, .bool d.exact, .bool d.over, .bool d.under]) ∧ Rd w' .i64 p (dig B16 d.d) ∧ (0 < (dig B16 d.d).length → w.heap.size ≤ blk p) ∧ Below w.heap.size w w'
theorem g1h (g : Gd) : wid g = 1 ∨ wid g = 4 := by unfold wid; split <;> simp
theorem o1g {x : Int} {wd : Nat} (h : wd = 1 ∨ wd = 4) (hx : -800000 ≤ x) : (x + 800000).tdiv wd = (x + 800000) / wd ∧ (800000 : Int).tdiv wd = 800000 / wd ∧ (x + 800000) / wd - 800000 / wd = x / wd := by
 refine ⟨Int.tdiv_eq_ediv_of_nonneg (by omega), Int.tdiv_eq_ediv_of_nonneg (by omega), ?_⟩
 rcases h with rfl | rfl <;> omega
theorem o0k (ng : Bool) (p q : Option Addr) (c d m : Nat) (e : Int) (g : Gd) (way : Int) (w : World) :
 Calls Tryz.prog 61 #[.agg #[.bool ng, .slice p 0 c, .slice q m d, .int .i64 e], .agg #[.int .i64 g.rad, .int .i64 g.digs, .int .i64 g.lo, .int .i64 g.hi, .bool g.grad], .int .i64 way] w (x0o w ⟨false, 0, 0, true, false, false⟩) := by
 go_enter Tryz.func61, Tryz.ntmps61
 go_upto_region 2 with (fail)
 refine m1j (fun W1 hb1 hz1 Q G R => ?_)
 have hs1 := hb1
 obtain ⟨R_0, R_1, R_2, R_3, R_4, R_5⟩ := R.e6
 have R_f0 := R.f 0
 have R_f1 := R.f 1
 have R_f2 := R.f 2
 have R_f3 := R.f 3
 have R_f4 := R.f 4
 have R_f5 := R.f 5
 go_wp2_with fail
 clear R_0 R_1 R_2 R_3 R_4 R_5 R_f0 R_f1 R_f2 R_f3 R_f4 R_f5
 obtain ⟨R_0, R_1, R_2, R_3, R_4, R_5⟩ := R.e6
 refine bodyPost_ret (v := .agg #[.bool false, .slice none 0 0, .int .i64 0, .bool true, .bool false, .bool false]) (by simp [results, Tryz.results61, go_sem, R_0, R_1, R_2, R_3, R_4, R_5]) rfl ?_
 exact ⟨none, 0, by simp [a0c], by simp only [a0c]; exact Rd.nil _ _ _, by simp [a0c], hs1.trans ((m0k W1 (w.heap.size + 1 + 1) _ _ _ _ _ _).below (by omega))⟩
theorem g1i {w : World} {b : Nat} (h : Bx w b #[.int .i64 1]) : Rd w .i64 (some ⟨b, 0, none⟩) (dig B16 1) := by
 rw [f0q a0f (by omega) (by unfold B16; omega)]
 refine ⟨fun _ => ⟨rfl, rfl⟩, fun j hj => ?_⟩
 obtain rfl : j = 0 := by simp at hj; omega
 exact h.e1
theorem k1d (w : World) (T : TypeId) : Rd (w.alloc (.cells #[.int .i64 2] T)) .i64 (some ⟨w.heap.size, 0, none⟩) (dig B16 2) := by
 rw [f0q a0f (by omega) (by unfold B16; omega)]
 exact (c1c w .i64 T 2 (by omega)).rd
theorem o0l : (dig B16 2).length = 1 := by rw [f0q a0f (by omega) (by unfold B16; omega)]; rfl
theorem o0m : (dig B16 1).length = 1 := by rw [f0q a0f (by omega) (by unfold B16; omega)]; rfl
theorem p0b (ng : Bool) (p q : Option Addr) (c d : Nat) (num den : Nat) (e : Int) (g : Gd) (way K : Int) (w : World) (hp : Rd w .i64 p (dig B16 num)) (hq : Rd w .i64 q (dig B16 den))
 (hl : (dig B16 num).length ≤ 20000) (hl2 : (dig B16 den).length ≤ 20000) (hn : 0 < num) (hd : 0 < den) (he : -200000 ≤ e ∧ e ≤ 200000) (G : e0d g) (hw1 : 1 ≤ way) (hw2 : way ≤ 5) (hK : IsK num den e (wid g) g.digs.toNat K) :
 Calls Tryz.prog 61 #[.agg #[.bool ng, .slice p (dig B16 num).length c, .slice q (dig B16 den).length d, .int .i64 e], .agg #[.int .i64 g.rad, .int .i64 g.digs, .int .i64 g.lo, .int .i64 g.hi, .bool g.grad], .int .i64 way] w (x0o w (fitK ng num den e g way K)) := by
 obtain ⟨_, gd1, gd2, gl1, gl2, gh1, gh2, gle⟩ := G
 obtain ⟨pf, hpf⟩ : ∃ pf, fitK ng num den e g way K = pf := ⟨_, rfl⟩
 rw [hpf]
 have HPF := hi0 hpf
 have HWD := fun W => hi0 (f0z g W)
 have wp := b0e g
 have wc0 := g1h g
 obtain ⟨wd, hwd⟩ : ∃ wd, wid g = wd := ⟨_, rfl⟩
 rw [hwd] at wp HWD hK wc0
 have HW := hi0 hwd
 have HWC := hi0 wc0
 obtain ⟨rad, digs, lo, hi, grad⟩ := g
 simp only at *
 obtain ⟨D, rfl⟩ : ∃ D : Nat, digs = D := ⟨digs.toNat, by omega⟩
 rw [Int.toNat_natCast] at hK
 have hD : 1 ≤ D := by omega
 have hnum0 : 0 < (dig B16 num).length := by have := a0d a0f num; omega
 have hden0 : 0 < (dig B16 den).length := by have := a0d a0f den; omega
 have bn := g0u num
 have bd := g0u den
 obtain ⟨F1, F2⟩ := r0g hn hd e (w := wd) (D := D) (by omega) hD _ rfl
 obtain ⟨x, hx⟩ : ∃ x : Int, (blen num : Int) - blen den + e = x := ⟨_, rfl⟩
 have hxb : -600000 ≤ x ∧ x ≤ 600000 := by omega
 have hxw := i0t (wd := wd) wp.1 hxb
 have e0 : IntKind.i64.wrap ((blen num : Int) - blen den) = (blen num : Int) - blen den := iwo
 have e1 : IntKind.i64.wrap ((blen num : Int) - blen den + e) = x := by rw [iwo, hx]
 rw [hx] at F1 F2
 have HX := hi0 hx
 have hK1 := hK.le hd F1
 have hK2 : K ≤ x / wd - D + 2 := by
  rcases Int.lt_or_le (x / wd - D + 2) K with h | h
  · exact absurd (g0q hd hK.yes (by omega)) F2
  · exact h
 have HK := hi0 hK
 have t0 : (((dig B16 num).length : Int) == 0) = false := bFn (by omega)
 have HPP := hi0 (show 0 < (dig B16 num).length → blk p < w.heap.size from fun h => hp.lt h)
 clear hpf hwd hx F1 F2 hK wc0
 go_enter Tryz.func61, Tryz.ntmps61
 go_wp2_with fail
 refine a1i (fun W1 hb1 hz1 Q G R => ?_)
 replace hp := hp.past hb1
 replace hq := hq.past hb1
 have hs1 := hb1
 ((with_reducible refine ((HWD _).out).mono ?_))
 rintro e2 w2 ⟨rfl, hb2⟩
 replace Q := Q.past hb2
 replace G := G.past hb2
 replace R := R.past hb2
 replace hp := hp.past hb2
 replace hq := hq.past hb2
 have hs2 := hs1.trans (hb2.mono hs1.size)
 obtain ⟨Q_0, Q_1, Q_2, Q_3⟩ := Q.e4
 obtain ⟨G_0, G_1, G_2, G_3, G_4⟩ := G.e5
 obtain ⟨R_0, R_1, R_2, R_3, R_4, R_5⟩ := R.e6
 go_wp2_with fail
 clear Q_0 Q_1 Q_2 Q_3 G_0 G_1 G_2 G_3 G_4 R_0 R_1 R_2 R_3 R_4 R_5
 obtain ⟨Q_0, Q_1, Q_2, Q_3⟩ := Q.e4
 go_quiet ((first | (go_at_call_of 130 (Value.slice p (dig B16 num).length c); exact Calls.quiet_of_same ((e0e p _ c num _ (hp.drewN _) rfl (by omega)).mono fun _ _ h => ⟨h.1, h.2.symm⟩)) | (go_at_call_of 130 (Value.slice q (dig B16 den).length d); exact Calls.quiet_of_same ((e0e q _ d den _ (hq.drewN _) rfl (by omega)).mono fun _ _ h => ⟨h.1, h.2.symm⟩))))
 clear Q_0 Q_1 Q_2 Q_3
 have hb3 := below_drewN (Below.refl (w2).heap.size (w2)) nq
 replace Q := Q.past hb3
 replace G := G.past hb3
 replace R := R.past hb3
 replace hp := hp.past hb3
 replace hq := hq.past hb3
 have hs3 := hs2.trans (hb3.mono hs2.size)
 generalize (w2).drewN nq = w3 at *
 clear e0 e1 t0
 obtain ⟨Q_0, Q_1, Q_2, Q_3⟩ := Q.e4
 obtain ⟨G_0, G_1, G_2, G_3, G_4⟩ := G.e5
 obtain ⟨R_0, R_1, R_2, R_3, R_4, R_5⟩ := R.e6
 go_wp2_with fail
 clear Q_0 Q_1 Q_2 Q_3 G_0 G_1 G_2 G_3 G_4 R_0 R_1 R_2 R_3 R_4 R_5
 obtain ⟨f1, f2, f3⟩ := o1g HWC.out (show -800000 ≤ x by omega)
 have e0 : IntKind.i64.wrap (x + 800000) = x + 800000 := iwo
 have hq1 := i0t (wd := wd) (x := x + 800000) (B := 1400000) wp.1 (by omega)
 have hq2 := i0t (wd := wd) (x := 800000) (B := 800000) wp.1 (by omega)
 have e1 : IntKind.i64.wrap ((x + 800000).tdiv (wd : Int)) = (x + 800000) / (wd : Int) := by rw [f1, iwo]
 have e2 : IntKind.i64.wrap ((800000 : Int).tdiv (wd : Int)) = 800000 / (wd : Int) := by rw [f2, iwo]
 have e3 : IntKind.i64.wrap ((x + 800000) / (wd : Int) - 800000 / (wd : Int)) = x / (wd : Int) := by rw [f3, iwo]
 have e4 : IntKind.i64.wrap (x / (wd : Int) - (D : Int)) = x / wd - D := iwo
 have e5 : IntKind.i64.wrap (x / (wd : Int) - (D : Int) + 2) = x / wd - D + 2 := iwo
 have t0 : ((wd : Int) == 0) = false := bFn (by omega)
 clear f1 f2 f3
 obtain ⟨G_0, G_1, G_2, G_3, G_4⟩ := G.e5
 go_quiet (fail)
 clear G_0 G_1 G_2 G_3 G_4
 have hb4 := below_drewN (Below.refl (w3).heap.size (w3)) nq
 replace Q := Q.past hb4
 replace G := G.past hb4
 replace R := R.past hb4
 replace hp := hp.past hb4
 replace hq := hq.past hb4
 have hs4 := hs3.trans (hb4.mono hs3.size)
 generalize (w3).drewN nq = w4 at *
 clear e0 e1 e2 e3 e4 e5 t0
 obtain ⟨k0, hk0⟩ : ∃ k0, x / (wd : Int) - D + 2 = k0 := ⟨_, rfl⟩
 have hk0b : -700000 ≤ k0 ∧ k0 ≤ 700000 := by omega
 rw [hk0] at hK2 ⊢
 have hK1 : k0 - 2 ≤ K := by omega
 have hm0 : -601000 ≤ (wd : Int) * k0 ∧ (wd : Int) * k0 ≤ 601000 := by
  have h1 := e0w x wd wp.1
  have h2 : (wd : Int) * k0 = wd * (x / wd) - wd * D + wd * 2 := by rw [← hk0]; grind
  have h3 : (wd : Int) * D ≤ 4 * 120 := Int.mul_le_mul (by omega) (by omega) (by omega) (by omega)
  have h4 : 0 ≤ (wd : Int) * D := Int.mul_nonneg (by omega) (by omega)
  omega
 clear hk0 hxw hq1 hq2
 obtain ⟨Q_0, Q_1, Q_2, Q_3⟩ := Q.e4
 go_wp2_with fail
 clear Q_0 Q_1 Q_2 Q_3
 ((with_reducible refine (i0i ng p q c d num den e ((wd : Int) * k0) _ hp hq (by omega) (by omega) hd (by omega) (by omega)).mono ?_))
 rintro e5 w5 ⟨p1, c1, q1, d1, r1, f1, rfl, hr1, hf1, hr2, hf2, hr3, hf3, hb5⟩
 replace Q := Q.past hb5
 replace G := G.past hb5
 replace R := R.past hb5
 replace hp := hp.past hb5
 replace hq := hq.past hb5
 have hs5 := hs4.trans (hb5.mono hs4.size)
 go_wp2_with fail
 obtain ⟨N1, hN1⟩ : ∃ N1 : Nat, N1 = wd * (D - 1) := ⟨_, rfl⟩
 have hN1b : N1 ≤ 480 := by rw [hN1]; exact Nat.le_trans (Nat.mul_le_mul wp.2 (show D - 1 ≤ 120 by omega)) (by omega)
 have HN1 := hi0 hN1
 clear hN1
 have hpp : 0 < (dig B16 num).length → blk p < w.heap.size := fun h => HPP.out h
 have hsw : W1.heap.size ≤ w4.heap.size := by have := hb2.size; have := hb3.size; have := hb4.size; omega
 go_loopg [9, 10, 11, 12] (k0 - K).toNat (fun gk kv av bv cv wr => ∃ (k : Int) (p2 q2 r2 : Option Addr) (c2 d2 f2 : Nat), kv = .int .i64 k ∧ (gk : Int) = k - K ∧ k ≤ k0 ∧ K ≤ k ∧
   av = .slice p2 (dig B16 (qP num den (e - wd * k))).length c2 ∧ bv = .slice q2 (dig B16 (rP num den (e - wd * k))).length d2 ∧ cv = .slice r2 (dig B16 (denP den (e - wd * k))).length f2 ∧
   Rd wr .i64 p2 (dig B16 (qP num den (e - wd * k))) ∧ (0 < (dig B16 (qP num den (e - wd * k))).length → W1.heap.size ≤ blk p2) ∧ Rd wr .i64 q2 (dig B16 (rP num den (e - wd * k))) ∧ Rd wr .i64 r2 (dig B16 (denP den (e - wd * k))) ∧ Below w5.heap.size w5 wr)
 case atStart => exact ⟨k0, p1, q1, r1, c1, d1, f1, rfl, by omega, by omega, by omega, rfl, rfl, rfl, hr1, fun h => Nat.le_trans hsw (hf1 h), hr2, hr3, Below.refl _ _⟩
 case round =>
  obtain ⟨k, p2, q2, r2, c2, d2, f2, rfl, hgk, hkk, hKk, rfl, rfl, rfl, hr4, hf4, hr5, hr6, hb7⟩ := hrel
  have hs7 := hs5.trans (hb7.mono hs5.size)
  replace Q := Q.past hb7
  replace G := G.past hb7
  replace R := R.past hb7
  replace hp := hp.past hb7
  replace hq := hq.past hb7
  have hmk : -610000 ≤ (wd : Int) * k ∧ (wd : Int) * k ≤ 610000 := by
   have hkd : k = k0 ∨ k = k0 - 1 ∨ k = k0 - 2 := by omega
   rcases hkd with rfl | rfl | rfl
   · omega
   · rw [Int.mul_sub]; omega
   · rw [Int.mul_sub]; omega
  have lq : (dig B16 (qP num den (e - wd * k))).length ≤ 2700000 := Nat.le_trans (a0i a0f (Nat.div_le_self _ _)) (l0w (by omega) (by omega))
  have hbq := g0u (qP num den (e - wd * k))
  have e0 : IntKind.i64.wrap ((D : Int) - 1) = ((D - 1 : Nat) : Int) := by rw [iwo]; omega
  have e1 : IntKind.i64.wrap ((wd : Int) * ((D - 1 : Nat) : Int)) = (N1 : Int) := by rw [IntWalk.i64_in _ (by rw [← Int.natCast_mul, ← HN1.out]; omega), ← Int.natCast_mul, ← HN1.out]
  have e2 : IntKind.i64.wrap ((N1 : Int) + 1) = (N1 : Int) + 1 := iwo
  go_wp2_with fail
  obtain ⟨G_0, G_1, G_2, G_3, G_4⟩ := G.e5
  go_quiet ((go_at_call 130; exact Calls.quiet_of_same ((e0e p2 _ c2 _ _ (hr4.drewN _) rfl (by clear e0 e1 e2; omega)).mono fun _ _ h => ⟨h.1, h.2.symm⟩)))
  clear G_0 G_1 G_2 G_3 G_4
  have hb8 := below_drewN (Below.refl (wr).heap.size (wr)) nq
  replace Q := Q.past hb8
  replace G := G.past hb8
  replace R := R.past hb8
  replace hp := hp.past hb8
  replace hq := hq.past hb8
  replace hr4 := hr4.past hb8
  replace hr5 := hr5.past hb8
  replace hr6 := hr6.past hb8
  have hs8 := hs7.trans (hb8.mono hs7.size)
  generalize (wr).drewN nq = w8 at *
  clear e0 e1 e2
  by_cases hfull : d0n num den e wd D k
  · have hkK : k = K := by have := HK.out.le hd hfull; omega
    subst hkK
    have hC : ¬ ((blen (qP num den (e - wd * k)) : Nat) : Int) < (N1 : Int) + 1 := by
     unfold d0n at hfull
     rw [← HN1.out] at hfull
     have := (a0z (qP num den (e - wd * k)) N1)
     omega
    clear hfull
    obtain ⟨k1, hk1⟩ : ∃ k1, powK ⟨rad, D, lo, hi, grad⟩ k = k1 := ⟨_, rfl⟩
    have HK1 := hi0 hk1
    have hmk1 : -620000 ≤ (wd : Int) * k1 ∧ (wd : Int) * k1 ≤ 620000 := by
     have hlo := m0b (k := lo) wp.2 (B := 17000) ⟨by omega, by omega⟩
     rw [← hk1]; unfold powK; split
     · simp only; omega
     · omega
    have hk1b : -800000 ≤ k1 ∧ k1 ≤ 800000 := by
     rw [← hk1]; unfold powK; split
     · simp only; omega
     · omega
    clear hk1
    obtain ⟨un, hun⟩ : ∃ un, decide (k < lo) = un := ⟨_, rfl⟩
    have hz8 := R.lt
    have hsw8 : W1.heap.size ≤ w8.heap.size := by have := hb5.size; have := hb7.size; have := hb8.size; omega
    obtain ⟨Q_0, Q_1, Q_2, Q_3⟩ := Q.e4
    obtain ⟨G_0, G_1, G_2, G_3, G_4⟩ := G.e5
    go_upto_region 11 with (fail)
    clear Q_0 Q_1 Q_2 Q_3 G_0 G_1 G_2 G_3 G_4
    have HUN := hi0 hun
    clear hun
    have hr4o := hr4
    have hr5o := hr5
    have hr6o := hr6
    have hqo := hq
    refine w0d (fun W9 hb9 hz9 P => ?_)
    replace Q := Q.past hb9
    replace G := G.past hb9
    replace R := R.past hb9
    replace hp := hp.past hb9
    replace hq := hq.past hb9
    replace hr4 := hr4.past hb9
    replace hr5 := hr5.past hb9
    replace hr6 := hr6.past hb9
    have hs9 := hs8.trans (hb9.mono hs8.size)
    obtain ⟨b1, hb1⟩ : ∃ b1, (un && grad) = b1 := ⟨_, rfl⟩
    have HB1 := hi0 hb1
    clear hb1
    have hp4 : 0 < (dig B16 (qP num den (e - wd * k))).length → blk p2 ≠ w8.heap.size := fun h => by have := hr4o.lt h; omega
    have hp5 : 0 < (dig B16 (rP num den (e - wd * k))).length → blk q2 ≠ w8.heap.size := fun h => by have := hr5o.lt h; omega
    have hp6 : 0 < (dig B16 (denP den (e - wd * k))).length → blk r2 ≠ w8.heap.size := fun h => by have := hr6o.lt h; omega
    have hpq : 0 < (dig B16 den).length → blk q ≠ w8.heap.size := fun h => by have := hqo.lt h; omega
    clear hr4o hr5o hr6o hqo
    have hzP := P.lt
    go_cut [85] (fun s85 wx => s85 = .bool b1 ∧ wx = W9)
    case first =>
     obtain ⟨P_0, P_1, P_2, P_3, P_4, P_5⟩ := P.e6
     obtain ⟨G_0, G_1, G_2, G_3, G_4⟩ := G.e5
     cases un <;> cases grad <;> (go_wp2_with fail; go_meet; exact ⟨by rw [← HB1.out]; rfl, rfl⟩)
    case rest =>
     obtain ⟨rfl, rfl⟩ := hcut
     go_upto_if 85 with (fail)
     go_cut [10, 11, 12] (fun s11 s12 s13 wx => ∃ (p3 q3 r3 : Option Addr) (c3 d3 f3 : Nat), s11 = .slice p3 (dig B16 (qP num den (e - wd * k1))).length c3 ∧ s12 = .slice q3 (dig B16 (rP num den (e - wd * k1))).length d3 ∧ s13 = .slice r3 (dig B16 (denP den (e - wd * k1))).length f3 ∧
       Bx wx w8.heap.size #[.bool ng, .slice none 0 0, .int .i64 k1, .bool false, .bool false, .bool un] ∧
       Rd wx .i64 p3 (dig B16 (qP num den (e - wd * k1))) ∧ (0 < (dig B16 (qP num den (e - wd * k1))).length → W1.heap.size ≤ blk p3) ∧ Rd wx .i64 q3 (dig B16 (rP num den (e - wd * k1))) ∧ Rd wx .i64 r3 (dig B16 (denP den (e - wd * k1))) ∧
       (0 < (dig B16 (qP num den (e - wd * k1))).length → blk p3 ≠ w8.heap.size) ∧ (0 < (dig B16 (rP num den (e - wd * k1))).length → blk q3 ≠ w8.heap.size) ∧ (0 < (dig B16 (denP den (e - wd * k1))).length → blk r3 ≠ w8.heap.size) ∧ Keep w8.heap.size wc wx)
     case first =>
      cases b1
      · obtain rfl : k = k1 := by
         have h1 := HK1.out; have h2 := HB1.out; have h3 := HUN.out
         unfold powK at h1
         rw [if_neg (by rintro ⟨a1, a2⟩; simp only at a1 a2; subst a2; rw [← h3, decide_eq_true a1] at h2; simp at h2)] at h1
         exact h1
        go_wp2_with fail
        go_meet
        exact ⟨p2, q2, r2, c2, d2, f2, rfl, rfl, rfl, P, hr4, hf4, hr5, hr6, hp4, hp5, hp6, Below.keep (Below.refl _ _) _⟩
      · obtain rfl : lo = k1 := by
         have h1 := HK1.out; have h2 := HB1.out; have h3 := HUN.out
         unfold powK at h1
         rw [if_pos ⟨by cases un; (simp at h2); simpa using h3, by cases un; (simp at h2); simpa using h2⟩] at h1
         exact h1
        obtain ⟨G_0, G_1, G_2, G_3, G_4⟩ := G.e5
        obtain ⟨P_0, P_1, P_2, P_3, P_4, P_5⟩ := P.e6
        have P_f0 := P.f 0
        have P_f1 := P.f 1
        have P_f2 := P.f 2
        have P_f3 := P.f 3
        have P_f4 := P.f 4
        have P_f5 := P.f 5
        go_upto_region 13 with (fail)
        clear G_0 G_1 G_2 G_3 G_4 P_0 P_1 P_2 P_3 P_4 P_5 P_f0 P_f1 P_f2 P_f3 P_f4 P_f5
        refine c1q P (fun W10 hO10 P => ?_)
        replace P : Bx W10 w8.heap.size #[.bool ng, .slice none 0 0, .int .i64 lo, .bool false, .bool false, .bool un] := P
        replace Q := Q.only hO10 (by omega)
        replace G := G.only hO10 (by omega)
        have hqb : 0 < (dig B16 den).length → blk q < wc.heap.size := fun h => hq.lt h
        replace hp := hp.only hO10 (fun h => by have := hpp h; omega)
        replace hq := hq.only hO10 hpq
        have hz10 := hO10.size
        have HZ10 := hi0 hz10
        clear hz10
        obtain ⟨Q_0, Q_1, Q_2, Q_3⟩ := Q.e4
        obtain ⟨G_0, G_1, G_2, G_3, G_4⟩ := G.e5
        go_wp2_with fail
        clear Q_0 Q_1 Q_2 Q_3 G_0 G_1 G_2 G_3 G_4
        ((with_reducible refine (i0i ng p q c d num den e ((wd : Int) * lo) _ hp hq (by omega) (by omega) hd (by omega) (by omega)).mono ?_))
        rintro e11 w11 ⟨p3, c3, q3, d3, r3, f3, rfl, hr7, hf7, hr8, hf8, hr9, hrq, hb11⟩
        have hz10 := HZ10.out
        go_wp2_with fail
        go_meet
        refine ⟨p3, q3, r3, c3, d3, f3, rfl, rfl, rfl, P.past hb11, hr7, fun h => ?_, hr8, hr9, fun h => ?_, fun h => ?_, fun h => ?_, hO10.keep.trans (Below.keep hb11 _)⟩
        · have := hf7 h; omega
        · have := hf7 h; omega
        · have := hf8 h; omega
        · rcases hrq with rfl | hrq
          · exact hpq hden0
          · have := hrq h; omega
     case rest =>
      obtain ⟨p3, q3, r3, c3, d3, f3, rfl, rfl, rfl, P, hr7, hf7, hr8, hr9, hn7, hn8, hn9, hkb⟩ := hcut
      have hs9z := hs9.size
      have hs10 := hs9.trans (hkb.below (B := w.heap.size) (by omega) hs9z)
      have hzz : w8.heap.size < wc.heap.size := P.lt
      replace Q := Q.keep hkb (by omega)
      replace G := G.keep hkb (by omega)
      replace R := R.keep hkb (by omega)
      clear hkb hr4 hr5 hr6 hp hq
      have lX : (dig B16 (qP num den (e - wd * k1))).length ≤ 2700000 := Nat.le_trans (a0i a0f (Nat.div_le_self _ _)) (l0w (by omega) (by omega))
      have lZ : (dig B16 (denP den (e - wd * k1))).length ≤ 2700000 := q0g (by omega) (by omega)
      have lY : (dig B16 (rP num den (e - wd * k1))).length ≤ 2700000 := Nat.le_trans (a0i a0f (Nat.le_of_lt (Nat.mod_lt _ (d0l hd _)))) lZ
      obtain ⟨X, hX⟩ : ∃ X, qP num den (e - wd * k1) = X := ⟨_, rfl⟩
      obtain ⟨Y, hY⟩ : ∃ Y, rP num den (e - wd * k1) = Y := ⟨_, rfl⟩
      obtain ⟨Z, hZ⟩ : ∃ Z, denP den (e - wd * k1) = Z := ⟨_, rfl⟩
      rw [hX] at hr7 hf7 hn7 lX ⊢
      rw [hY] at hr8 hn8 lY ⊢
      rw [hZ] at hr9 hn9 lZ ⊢
      have HXX := hi0 hX
      have HYY := hi0 hY
      have HZZ := hi0 hZ
      obtain ⟨xb, hxb⟩ : ∃ xb, (((dig B16 Y).length : Int) == 0) = xb := ⟨_, rfl⟩
      clear hX hY hZ
      obtain ⟨P_0, P_1, P_2, P_3, P_4, P_5⟩ := P.e6
      have P_f0 := P.f 0
      have P_f1 := P.f 1
      have P_f2 := P.f 2
      have P_f3 := P.f 3
      have P_f4 := P.f 4
      have P_f5 := P.f 5
      go_upto_region 15 with (fail)
      clear P_0 P_1 P_2 P_3 P_4 P_5 P_f0 P_f1 P_f2 P_f3 P_f4 P_f5
      refine c1q P (fun W11 hO11 P => ?_)
      replace P : Bx W11 w8.heap.size #[.bool ng, .slice none 0 0, .int .i64 k1, .bool xb, .bool false, .bool un] := P
      replace Q := Q.only hO11 (by omega)
      replace G := G.only hO11 (by omega)
      replace R := R.only hO11 (by omega)
      replace hr7 := hr7.only hO11 hn7
      replace hr8 := hr8.only hO11 hn8
      replace hr9 := hr9.only hO11 hn9
      have hs11 := hs10.trans (hO11.below (B := w.heap.size) (by omega))
      clear hO11
      obtain ⟨od, hod⟩ : ∃ od, decide (X % 2 = 1) = od := ⟨_, rfl⟩
      have HOD := hi0 hod
      have HXB := hi0 hxb
      clear hod hxb
      go_cut [14] (fun s15 wx => s15 = .bool od ∧ wx = W11)
      case first =>
       by_cases hX0 : 0 < (dig B16 X).length
       · have hx0 : 0 < X := by have := a0d a0f X; omega
         have hcell := hr7.cells 0 hX0
         have hsol := hr7.solid
         have hd0 : dg (dig B16 X) 0 = X % B16 := by rw [c0p a0f hx0]; rfl
         rw [hd0] at hcell
         have hlt0 : X % B16 < 65536 := Nat.mod_lt _ e0u
         have hbit : (((X % B16 : Nat) : Int) % 2 == 1) = od := by
          rw [← HOD.out]
          by_cases h : X % 2 = 1
          · rw [decide_eq_true h]; exact beq_iff_eq.2 (by unfold B16; omega)
          · rw [decide_eq_false h]; exact bFn (by unfold B16; omega)
         generalize X % B16 = x0 at *
         clear hd0
         go_wp2_with fail
         go_meet
         exact ⟨rfl, rfl⟩
       · have hx0 : X = 0 := by have := a0d a0f X; omega
         have hod0 : od = false := by rw [← HOD.out, hx0]; rfl
         subst hod0
         have hX1 : ¬ (0 : Int) < ((dig B16 X).length : Int) := by omega
         clear hx0
         go_wp2_with fail
         go_meet
         exact ⟨rfl, rfl⟩
      case rest =>
       obtain ⟨rfl, rfl⟩ := hcut
       obtain ⟨ub, hub⟩ : ∃ ub, upP ng num den e wd way k1 = ub := ⟨_, rfl⟩
       have HUB := hi0 hub
       clear hub
       go_upto_region 16 with (fail)
       go_cut [127] (fun s wx => s = .bool ub ∧ Below wc.heap.size wc wx)
       case first =>
        have hYY := HYY.out
        have hXX := HXX.out
        have hZZ := HZZ.out
        have hUB := HUB.out
        unfold upP at hUB
        rw [hYY, hXX, hZZ, HOD.out] at hUB
        have HUB2 := hi0 hUB
        clear hYY hXX hZZ hUB
        cases xb
        · have hY0 : Y ≠ 0 := by
           have := HXB.out
           intro h0
           rw [h0, a0c] at this
           simp at this
          have HU3 : Hid (e0x way ng od (cmpN (Y * 2) Z) = ub) := by
           have := HUB2.out
           rw [decide_eq_true hY0, Bool.true_and] at this
           exact this
          have lY2 : (dig B16 (Y * 2)).length ≤ 3000000 := by have := b0i a0f Y 2; have := o0l; omega
          have l2 := Nat.le_of_eq o0l
          have HL2 := hi0 o0l.symm
          clear hY0
          go_region_held3 (fun w' => w'.cell? ⟨w8.heap.size, 3, none⟩ = some (.bool false) ∧ w'.cell? ⟨w.heap.size, 0, none⟩ = some (.bool ng))
           (first | exact ⟨P.e6.2.2.2.1, Q.e4.1⟩ | exact ⟨(P.drew).e6.2.2.2.1, (Q.drew).e4.1⟩ | exact ⟨((P.drew).laid _).e6.2.2.2.1, ((Q.drew).laid _).e4.1⟩ | exact ⟨(((P.drew).laid _).past hbs).e6.2.2.2.1, (((Q.drew).laid _).past hbs).e4.1⟩ | exact ⟨((((P.drew).laid _).past hbs).past hbk).e6.2.2.2.1, ((((Q.drew).laid _).past hbs).past hbk).e4.1⟩)
           (first
             | (go_at_call 53; refine (e0p q3 (some ⟨wc.heap.size, 0, none⟩) _ _ d3 1 Y 2 _ (hr8.drew.laid _) (k1d wc.drew _) rfl HL2.out (by omega)).mono ?_; rintro es ws ⟨ps, cs, rfl, hos, hcs, hfs, hbs⟩)
             | (go_at_call 76; refine (l0u ps r3 _ _ cs f3 _ _ _ hos ((hr9.drew.laid _).past hbs) rfl rfl (by omega) (by omega)).mono ?_; rintro ek wk ⟨rfl, hbk⟩)
             | (go_at_call 132; refine (x0f way ng od _ _ hw1 hw2).mono ?_; rintro ef wf ⟨rfl, rfl⟩))
          all_goals (go_wp2_with fail)
          all_goals go_meet
          all_goals (refine ⟨by rw [HU3.out], ?_⟩)
          all_goals (exact (((Below.refl _ _).drew.trans (c0c wc.drew _)).trans (hbs.mono (by simp))).trans (hbk.mono (by have hzd : wc.drew.heap.size = wc.heap.size := rfl; have := hbs.size; simp at this; omega)))
        · have hub0 : ub = false := by
           have h0 : Y = 0 := by
            have := HXB.out
            have h1 := a0d a0f Y
            have h2 : ((dig B16 Y).length : Int) = 0 := by simpa using this
            omega
           have := HUB2.out
           rw [h0] at this
           simpa using this.symm
          subst hub0
          obtain ⟨P_0, P_1, P_2, P_3, P_4, P_5⟩ := P.e6
          go_quiet (fail)
          go_wp2_with fail
          go_meet
          exact ⟨rfl, below_drewN (Below.refl _ _) _⟩
       case rest =>
        obtain ⟨rfl, hbc⟩ := hcut
        have hs12 := hs11.trans (hbc.mono hs11.size)
        replace Q := Q.past hbc
        replace G := G.past hbc
        replace R := R.past hbc
        replace P := P.past hbc
        replace hr7 := hr7.past hbc
        have hzc := hbc.size
        clear hbc hr9 hr8
        obtain ⟨dd, hdd⟩ : ∃ dd, digP ng num den e wd D way k1 = dd := ⟨_, rfl⟩
        obtain ⟨k2, hk2⟩ : ∃ k2, powP ng num den e wd D way k1 = k2 := ⟨_, rfl⟩
        have HDD : Hid (dd = (if ub = true ∧ wd * D < blen (X + if ub then 1 else 0) then 2 ^ N1 else X + if ub then 1 else 0) ∧ k2 = if ub = true ∧ wd * D < blen (X + if ub then 1 else 0) then k1 + 1 else k1) := by
         rw [← hdd, ← hk2]
         exact j0j (D := D) HUB.out HXX.out HN1.out
        have HDD0 := hi0 hdd
        have HKK0 := hi0 hk2
        clear hdd hk2
        have hzz2 : w8.heap.size < wc.heap.size := P.lt
        go_upto_if 127 with (fail)
        go_cut [10] (fun s11 wx => ∃ (p4 : Option Addr) (c4 : Nat), s11 = .slice p4 (dig B16 dd).length c4 ∧ Rd wx .i64 p4 (dig B16 dd) ∧ (0 < (dig B16 dd).length → W1.heap.size ≤ blk p4) ∧ (0 < (dig B16 dd).length → blk p4 ≠ w8.heap.size) ∧
          Bx wx w8.heap.size #[.bool ng, .slice none 0 0, .int .i64 k2, .bool xb, .bool false, .bool un] ∧ Keep w8.heap.size wc wx)
        case first =>
         cases ub
         · obtain ⟨rfl, rfl⟩ : dd = X ∧ k2 = k1 := by simpa using HDD.out
           go_wp2_with fail
           go_meet
           exact ⟨p3, c3, rfl, hr7, hf7, hn7, P, Below.keep (Below.refl _ _) _⟩
         · have lX1 : (dig B16 (X + 1)).length ≤ 2800000 := by have := g0z a0f X 1; have := o0m; omega
           have hbl := g0u (X + 1)
           have l1 := Nat.le_of_eq o0m
           have HL1 := hi0 o0m.symm
           go_wp2_with fail
           refine p0p (fun W13 hb13 hz13 L1 => ?_)
           replace G := G.past hb13
           replace P := P.past hb13
           replace hr7 := hr7.past hb13
           have hs13 := hb13
           ((with_reducible refine (j0p p3 (some ⟨wc.heap.size, 0, none⟩) _ _ c3 1 X 1 _ hr7 (g1i L1) rfl HL1.out (by omega)).mono ?_))
           rintro e14 w14 ⟨p6, c6, rfl, hr10, hc10, hf10, hb14⟩
           replace G := G.past hb14
           replace P := P.past hb14
           replace L1 := L1.past hb14
           replace hr7 := hr7.past hb14
           have hs14 := hs13.trans (hb14.mono hs13.size)
           obtain ⟨G_0, G_1, G_2, G_3, G_4⟩ := G.e5
           obtain ⟨P_0, P_1, P_2, P_3, P_4, P_5⟩ := P.e6
           have L1_0 := L1.e1
           go_wp2_with fail
           clear G_0 G_1 G_2 G_3 G_4 P_0 P_1 P_2 P_3 P_4 P_5 L1_0
           have hwD : wd * D ≤ 480 := Nat.le_trans (Nat.mul_le_mul wp.2 (show D ≤ 120 by omega)) (by omega)
           have e0 : IntKind.i64.wrap ((wd : Int) * (D : Int)) = ((wd * D : Nat) : Int) := by rw [IntWalk.i64_in _ (by rw [← Int.natCast_mul]; omega), Int.natCast_mul]
           obtain ⟨G_0, G_1, G_2, G_3, G_4⟩ := G.e5
           go_quiet ((go_at_call 130; exact Calls.quiet_of_same ((e0e p6 _ c6 (X + 1) _ (hr10.drewN _) rfl (by clear e0; omega)).mono fun _ _ h => ⟨h.1, h.2.symm⟩)))
           clear G_0 G_1 G_2 G_3 G_4
           have hb15 := below_drewN (Below.refl (w14).heap.size (w14)) nq
           replace G := G.past hb15
           replace P := P.past hb15
           replace L1 := L1.past hb15
           replace hr7 := hr7.past hb15
           replace hr10 := hr10.past hb15
           have hs15 := hs14.trans (hb15.mono hs14.size)
           generalize (w14).drewN nq = w15 at *
           clear e0
           have hz13 := hb13.size
           have hz14 := hb14.size
           by_cases hlong : wd * D < blen (X + 1)
           · obtain ⟨rfl, rfl⟩ : dd = 2 ^ N1 ∧ k2 = k1 + 1 := by simpa [hlong] using HDD.out
             go_wp2_with fail
             have e0 : IntKind.i64.wrap ((D : Int) - 1) = ((D - 1 : Nat) : Int) := by rw [iwo]; omega
             have e1 : IntKind.i64.wrap ((wd : Int) * ((D - 1 : Nat) : Int)) = (N1 : Int) := by rw [IntWalk.i64_in _ (by rw [← Int.natCast_mul, ← HN1.out]; omega), ← Int.natCast_mul, ← HN1.out]
             have e2 : IntKind.i64.wrap (k1 + 1) = k1 + 1 := iwo
             obtain ⟨P_0, P_1, P_2, P_3, P_4, P_5⟩ := P.e6
             have P_f0 := P.f 0
             have P_f1 := P.f 1
             have P_f2 := P.f 2
             have P_f3 := P.f 3
             have P_f4 := P.f 4
             have P_f5 := P.f 5
             obtain ⟨G_0, G_1, G_2, G_3, G_4⟩ := G.e5
             go_region_with (go_at_call 72; refine (j0q N1 _ (by clear e0 e1 e2; omega)).mono ?_; rintro ep wq ⟨pp, cp, rfl, hrp, hcp, hfp, hbp⟩; have PP := P.drew.past hbp; obtain ⟨PP_0, PP_1, PP_2, PP_3, PP_4, PP_5⟩ := PP.e6; have PP_f2 := PP.f 2; have GG := G.drew.past hbp; obtain ⟨GG_0, GG_1, GG_2, GG_3, GG_4⟩ := GG.e5)
             all_goals (clear e0 e1 e2)
             all_goals (have hzd : w15.drew.heap.size = w15.heap.size := rfl; have hz15 := hb15.size)
             all_goals (go_wp2_with fail)
             all_goals go_meet
             all_goals (have hO := f0b wq w8.heap.size 2 (.int .i64 (k1 + 1)))
             all_goals (exact ⟨pp, cp, rfl, hrp.only hO (fun h => by have := hfp h; omega), fun h => by have := hfp h; omega, fun h => by have := hfp h; omega, PP.set 2 _, (Below.keep (hs15.drew.trans (hbp.mono (by omega))) _).trans hO.keep⟩)
           · obtain ⟨rfl, rfl⟩ : dd = X + 1 ∧ k2 = k1 := by simpa [hlong] using HDD.out
             go_wp2_with fail
             go_meet
             exact ⟨p6, c6, rfl, hr10, fun h => by have := hf10 h; omega, fun h => by have := hf10 h; omega, P, Below.keep hs15 _⟩
        case rest =>
         obtain ⟨p4, c4, rfl, hr11, hf11, hn11, P, hkb⟩ := hcut
         have hs12z := hs12.size
         have hs15 := hs12.trans (hkb.below (B := w.heap.size) (by omega) hs12z)
         replace G := G.keep hkb (by omega)
         replace R := R.keep hkb (by omega)
         clear hkb
         obtain ⟨ov, hov⟩ : ∃ ov, decide (hi < k2) = ov := ⟨_, rfl⟩
         have HPF2 : Hid (pf = ⟨ng, dd, if dd = 0 then 0 else k2, xb, ov, un⟩) := by
          have h1 := HPF.out
          rw [r0h HW.out (Int.toNat_natCast D) HK1.out HDD0.out HKK0.out HYY.out] at h1
          have h6 := HXB.out; have h7 := HUN.out
          simp only at h1
          rw [hov, h7] at h1
          rw [← h1]
          have h9 : decide (Y = 0) = xb := by
           rw [← h6]
           have := a0d a0f Y
           by_cases h0 : Y = 0
           · rw [decide_eq_true h0, h0, a0c]; rfl
           · rw [decide_eq_false h0]; exact (bFn (by omega)).symm
          rw [h9]
          rfl
         go_wp2_with fail
         obtain ⟨P_0, P_1, P_2, P_3, P_4, P_5⟩ := P.e6
         have P_f0 := P.f 0
         have P_f1 := P.f 1
         have P_f2 := P.f 2
         have P_f3 := P.f 3
         have P_f4 := P.f 4
         have P_f5 := P.f 5
         obtain ⟨G_0, G_1, G_2, G_3, G_4⟩ := G.e5
         go_region
         have HOV := hi0 hov
         clear hov
         clear P_0 P_1 P_2 P_3 P_4 P_5 P_f0 P_f1 P_f2 P_f3 P_f4 P_f5 G_0 G_1 G_2 G_3 G_4
         have hK20 : Keep w8.heap.size wc ((wc.setCell ⟨w8.heap.size, 1, none⟩ (.slice p4 (dig B16 dd).length c4)).setCell ⟨w8.heap.size, 4, none⟩ (.bool ov)).drew :=
          ((f0b wc w8.heap.size 1 (.slice p4 (dig B16 dd).length c4)).trans (f0b _ w8.heap.size 4 (.bool ov))).keep.trans (Below.keep (Below.refl _ _).drew _)
         replace P : Bx ((wc.setCell ⟨w8.heap.size, 1, none⟩ (.slice p4 (dig B16 dd).length c4)).setCell ⟨w8.heap.size, 4, none⟩ (.bool ov)).drew w8.heap.size #[.bool ng, .slice p4 (dig B16 dd).length c4, .int .i64 k2, .bool xb, .bool ov, .bool un] := ((P.set 1 (.slice p4 (dig B16 dd).length c4)).set 4 (.bool ov)).drew
         replace R := R.keep hK20 (by omega)
         replace hr11 := hr11.keep hK20 hn11
         have hs15z := hs15.size
         have hs20 := hs15.trans (hK20.below (B := w.heap.size) (by omega) hs15z)
         clear hK20
         generalize ((wc.setCell ⟨w8.heap.size, 1, none⟩ (.slice p4 (dig B16 dd).length c4)).setCell ⟨w8.heap.size, 4, none⟩ (.bool ov)).drew = W20 at *
         by_cases hd0 : dd = 0
         · have hdl : (((dig B16 dd).length : Int) == 0) = true := by rw [hd0, a0c]; rfl
           have HD0 := hi0 hd0
           clear hd0
           obtain ⟨P_0, P_1, P_2, P_3, P_4, P_5⟩ := P.e6
           have P_f0 := P.f 0
           have P_f1 := P.f 1
           have P_f2 := P.f 2
           have P_f3 := P.f 3
           have P_f4 := P.f 4
           have P_f5 := P.f 5
           go_upto_region 23 with (fail)
           clear P_0 P_1 P_2 P_3 P_4 P_5 P_f0 P_f1 P_f2 P_f3 P_f4 P_f5
           refine c1q P (fun W17 hO17 P => ?_)
           replace P : Bx W17 w8.heap.size #[.bool ng, .slice p4 (dig B16 dd).length c4, .int .i64 0, .bool xb, .bool ov, .bool un] := P
           replace R := R.only hO17 (by omega)
           replace hr11 := hr11.only hO17 hn11
           have hs17 := hs20.trans (hO17.below (B := w.heap.size) (by omega))
           clear hO17
           obtain ⟨P_0, P_1, P_2, P_3, P_4, P_5⟩ := P.e6
           obtain ⟨R_0, R_1, R_2, R_3, R_4, R_5⟩ := R.e6
           have R_f0 := R.f 0
           have R_f1 := R.f 1
           have R_f2 := R.f 2
           have R_f3 := R.f 3
           have R_f4 := R.f 4
           have R_f5 := R.f 5
           go_wp2_with fail
           clear P_0 P_1 P_2 P_3 P_4 P_5 R_0 R_1 R_2 R_3 R_4 R_5 R_f0 R_f1 R_f2 R_f3 R_f4 R_f5
           obtain ⟨R_0, R_1, R_2, R_3, R_4, R_5⟩ := R.e6
           refine bodyPost_ret (v := .agg #[.bool ng, .slice p4 (dig B16 dd).length c4, .int .i64 0, .bool xb, .bool ov, .bool un]) (by simp [results, Tryz.results61, go_sem, R_0, R_1, R_2, R_3, R_4, R_5]) rfl ?_
           rw [HPF2.out, if_pos HD0.out]
           have hO := m0k W17 (w.heap.size + 1 + 1) (.bool ng) (.slice p4 (dig B16 dd).length c4) (.int .i64 0) (.bool xb) (.bool ov) (.bool un)
           exact ⟨p4, c4, rfl, hr11.only hO (fun h => by have := hf11 h; omega), fun h => by have := hf11 h; omega, hs17.trans (hO.below (by omega))⟩
         · have hdl : (((dig B16 dd).length : Int) == 0) = false := bFn (by have := a0d a0f dd; omega)
           have HD0 := hi0 hd0
           clear hd0
           obtain ⟨P_0, P_1, P_2, P_3, P_4, P_5⟩ := P.e6
           obtain ⟨R_0, R_1, R_2, R_3, R_4, R_5⟩ := R.e6
           have R_f0 := R.f 0
           have R_f1 := R.f 1
           have R_f2 := R.f 2
           have R_f3 := R.f 3
           have R_f4 := R.f 4
           have R_f5 := R.f 5
           go_wp2_with fail
           clear P_0 P_1 P_2 P_3 P_4 P_5 R_0 R_1 R_2 R_3 R_4 R_5 R_f0 R_f1 R_f2 R_f3 R_f4 R_f5
           obtain ⟨R_0, R_1, R_2, R_3, R_4, R_5⟩ := R.e6
           refine bodyPost_ret (v := .agg #[.bool ng, .slice p4 (dig B16 dd).length c4, .int .i64 k2, .bool xb, .bool ov, .bool un]) (by simp [results, Tryz.results61, go_sem, R_0, R_1, R_2, R_3, R_4, R_5]) rfl ?_
           rw [HPF2.out, if_neg HD0.out]
           have hO := m0k W20 (w.heap.size + 1 + 1) (.bool ng) (.slice p4 (dig B16 dd).length c4) (.int .i64 k2) (.bool xb) (.bool ov) (.bool un)
           exact ⟨p4, c4, rfl, hr11.only hO (fun h => by have := hf11 h; omega), fun h => by have := hf11 h; omega, hs20.trans (hO.below (by omega))⟩
  · have hC : ((blen (qP num den (e - wd * k)) : Nat) : Int) < (N1 : Int) + 1 := by
     unfold d0n at hfull
     rw [← HN1.out] at hfull
     have := (a0z (qP num den (e - wd * k)) N1)
     omega
    have hk1 : K ≤ k - 1 := by
     rcases Int.lt_or_le (k - 1) K with h | h
     · obtain rfl : k = K := by omega
       exact absurd HK.out.yes hfull
     · exact h
    clear hfull
    have hmk2 : -620000 ≤ (wd : Int) * (k - 1) ∧ (wd : Int) * (k - 1) ≤ 620000 := by rw [Int.mul_sub]; omega
    obtain ⟨Q_0, Q_1, Q_2, Q_3⟩ := Q.e4
    go_wp2_with fail
    clear Q_0 Q_1 Q_2 Q_3
    ((with_reducible refine (i0i ng p q c d num den e ((wd : Int) * (k - 1)) _ hp hq (by omega) (by omega) hd (by omega) (by omega)).mono ?_))
    rintro e9 w9 ⟨p3, c3, q3, d3, r3, f3, rfl, hr7, hf7, hr8, hf8, hr9, -, hb9⟩
    replace Q := Q.past hb9
    replace G := G.past hb9
    replace R := R.past hb9
    replace hp := hp.past hb9
    replace hq := hq.past hb9
    have hs9 := hs8.trans (hb9.mono hs8.size)
    go_wp2_with fail
    have hsw8 : W1.heap.size ≤ w8.heap.size := by have := hb5.size; have := hb7.size; have := hb8.size; omega
    go_roundg (gk - 1)
    case measure => omega
    case rel => exact ⟨k - 1, p3, q3, r3, c3, d3, f3, by go_num, by omega, by omega, hk1, rfl, rfl, rfl, hr7, fun h => Nat.le_trans hsw8 (hf7 h), hr8, hr9, (hb7.trans (hb8.mono hb7.size)).trans (hb9.mono (Nat.le_trans hb7.size hb8.size))⟩
theorem p0c (ng : Bool) (p q : Option Addr) (c d : Nat) (num den : Nat) (e : Int) (g : Gd) (way : Int) (w : World) (hp : Rd w .i64 p (dig B16 num)) (hq : Rd w .i64 q (dig B16 den))
 (hl : (dig B16 num).length ≤ 20000) (hl2 : (dig B16 den).length ≤ 20000) (hd : 0 < den) (he : -200000 ≤ e ∧ e ≤ 200000) (G : e0d g) (hw1 : 1 ≤ way) (hw2 : way ≤ 5) :
 Calls Tryz.prog 61 #[.agg #[.bool ng, .slice p (dig B16 num).length c, .slice q (dig B16 den).length d, .int .i64 e], .agg #[.int .i64 g.rad, .int .i64 g.digs, .int .i64 g.lo, .int .i64 g.hi, .bool g.grad], .int .i64 way] w (x0o w (a0l ng num den e g way)) := by
 by_cases hn : num = 0
 · subst hn
   have h := o0k ng p q c d (dig B16 den).length e g way w
   unfold a0l
   rw [if_pos rfl, a0c]
   exact h
 · unfold a0l
   rw [if_neg hn]
   have wp := b0e g
   have hd1 := G.d1
   exact p0b ng p q c d num den e g way _ w hp hq hl hl2 (by omega) hd he G hw1 hw2 (h0z (by omega) hd e (by omega) (by omega))
end Go.Proofs.YtbamiajjampgnaaGreatDoor
namespace Go.Slip
open Go.RowKit
theorem f0d (s : ByteArray) : a0e (a0b s) = s := by
 unfold a0e a0b
 rw [List.map_map, show (UInt8.ofNat ∘ UInt8.toNat) = id from funext fun x => by simp]
 simp
theorem s0q {s r : ByteArray} (h : a0b s = a0b r) : s = r := by rw [← f0d s, h, f0d]
theorem o1h {s : ByteArray} : s = ByteArray.mk #[] ↔ a0b s = [] := ⟨fun h => by subst h; rfl, fun h => s0q (by rw [h]; rfl)⟩
def Byt (l : List Nat) : Prop := ∀ x ∈ l, x < 256
theorem Byt.of (s : ByteArray) : Byt (a0b s) := p0t s
theorem Byt.drop {l : List Nat} (h : Byt l) (k : Nat) : Byt (l.drop k) := fun x hx => h x (List.mem_of_mem_drop hx)
theorem Byt.take {l : List Nat} (h : Byt l) (k : Nat) : Byt (l.take k) := fun x hx => h x (List.mem_of_mem_take hx)
theorem Byt.append {l m : List Nat} (h : Byt l) (k : Byt m) : Byt (l ++ m) := fun x hx => (List.mem_append.1 hx).elim (h x) (k x)
theorem j0s {l : List Nat} (h : Byt l) (i j : Nat) : (a0e l).extract i j = a0e ((l.take j).drop i) := s0q (by rw [d0b, a0s h, a0s ((h.take j).drop i)])
theorem o1i (xs ys : List Nat) : a0e xs ++ a0e ys = a0e (xs ++ ys) := by
 apply ByteArray.ext
 simp [a0e]
theorem s0r {l : List Nat} (h : Byt l) : a0e l = ByteArray.mk #[] ↔ l = [] := by rw [o1h, a0s h]
section
variable {P : Program} {W : World}
theorem k1e {s r : ByteArray} (h : s.size + r.size ≤ 9223372036854775807) {t : TypeId} {x y : Operand} : (do eqGuard .add t x y (.string s) (.string r); binOp .add t (.string s) (.string r) : Sem Value).run P W = .ok (.string (s ++ r)) W := by
 simp [go_sem, eqGuard, h]
theorem m0s {s r : ByteArray} {b : Bool} (h : (s = r) ↔ b = true) {t : TypeId} {x y : Operand} : (do eqGuard .eql t x y (.string s) (.string r); binOp .eql t (.string s) (.string r) : Sem Value).run P W = .ok (.bool b) W := by
 cases b
 · have : ¬ s = r := fun k => by have := h.1 k; cases this
   have k : ¬ s.toList = r.toList := fun e => this (by rw [Lib.toList_data, Lib.toList_data] at e; rw [← Lib.mk_data s, e, Lib.mk_data])
   simp [go_sem, eqGuard, k]
 · have := h.2 rfl
   subst this
   simp [go_sem, eqGuard]
theorem k1f {s r : ByteArray} {b : Bool} (h : (s = r) ↔ b = false) {t : TypeId} {x y : Operand} : (do eqGuard .neq t x y (.string s) (.string r); binOp .neq t (.string s) (.string r) : Sem Value).run P W = .ok (.bool b) W := by
 cases b
 · have := h.2 rfl
   subst this
   simp [go_sem, eqGuard]
 · have : ¬ s = r := fun k => by have := h.1 k; cases this
   have k : ¬ s.toList = r.toList := fun e => this (by rw [Lib.toList_data, Lib.toList_data] at e; rw [← Lib.mk_data s, e, Lib.mk_data])
   simp [go_sem, eqGuard, k]
theorem m0f {t : TypeId} (ht : P.underlying t = some .string) {s : ByteArray} {i : Int} {j : Nat} (hi : i = j) (hj : j < s.size) : (VO.sx t (.string s) (.int .i64 i)).sem.run P W = .ok (.int .u8 ((dg (a0b s) j : Nat) : Int)) W := by
 subst hi
 rw [← p0s s j hj]
 simp [VO.sem, go_sem, ht, hj]
theorem i0j {t : TypeId} (ht : P.underlying t = some .string) {s : ByteArray} {lo : Option Value} {hi : Option Value} {i j : Nat} (h1 : lo = none ∧ i = 0 ∨ lo = some (.int .i64 i)) (h2 : hi = none ∧ j = s.size ∨ hi = some (.int .i64 j)) (hij : i ≤ j) (hj : j ≤ s.size) : (VO.sl t (.string s) lo hi none).sem.run P W = .ok (.string (s.extract i j)) W := by
 rcases h1 with ⟨rfl, rfl⟩ | rfl <;> rcases h2 with ⟨rfl, rfl⟩ | rfl <;> simp [VO.sem, go_sem, ht, hij, hj]
end
end Go.Slip
namespace Go.Slip
def mayT (c : Nat) : List Nat → Bool × List Nat
 | b :: r => if b = c then (true, r) else (false, b :: r)
 | [] => (false, [])
theorem m0t {l : List Nat} (h : Byt l) (c : Nat) : Byt (mayT c l).2 := by
 cases l with
 | nil => exact h
 | cons b r =>
  show Byt (if b = c then (true, r) else (false, b :: r)).2
  split
  · exact h.drop 1
  · exact h
theorem l1z {l : List Nat} {j : Nat} (hj : j ≤ l.length) (h : ∀ i, i < j → isDg (dg l i) = true) (hs : j < l.length → isDg (dg l j) = false) : l.takeWhile isDg = l.take j ∧ l.dropWhile isDg = l.drop j := by
 have e := List.take_append_drop j l
 have h1 : ∀ x ∈ l.take j, isDg x = true := fun x hx => by
  obtain ⟨i, hi, rfl⟩ := List.mem_iff_getElem.1 hx
  rw [List.getElem_take]
  have := h i (by rw [List.length_take] at hi; omega)
  rwa [a0x (by rw [List.length_take] at hi; omega)] at this
 rcases Nat.lt_or_ge j l.length with h2 | h2
 · have h3 := hs h2
   rw [a0x h2] at h3
   have h4 := n0x h3 (l.drop (j + 1)) h1
   rw [← List.drop_eq_getElem_cons h2, e] at h4
   exact h4
 · have h4 := z0c h1
   rw [List.take_of_length_le h2] at h4 ⊢
   rw [List.drop_of_length_le h2]
   exact h4
end Go.Slip
namespace Go.Proofs.YtbamiajjampgnaaGreatDoor
open Go.RowKit Go.Slip
theorem uSt : Tryz.prog.underlying 9 = some .string := by kernel_rfl
theorem o1j (l : List Nat) (hb : Byt l) (c u : Nat) (w : World) (U : Bt w u 170 #[.string (a0e l)]) :
 Calls Tryz.prog 106 #[.pointer (some ⟨u, 0, none⟩), .int .u8 (c : Int)] w fun en w' => en = .returned (.bool (mayT c l).1) ∧ Kp [u] w w' ∧ Bt w' u 170 #[.string (a0e (mayT c l).2)] := by
 cases l with
 | nil =>
  have I := Inv.startW w u 170 [.v (.string (a0e []))] [] U True.intro True.intro
  refine a0g [.p 0 0, .v (.int .u8 (c : Int))] I Tryz.func106 ?_
  refine zbin I 9 _ (fun _ _ _ _ _ => m0s (s := a0e []) (r := ⟨#[]⟩) (iff_of_true rfl rfl)) fun Al W I => ?_
  exact zret I fun Al W I => ⟨rfl, I.bel, I.boxE 170 _⟩
 | cons b r =>
  have hn : a0e (b :: r) ≠ ByteArray.mk #[] := fun h => by have := (s0r hb).1 h; cases this
  have h0 : dg (a0b (a0e (b :: r))) 0 = b := by rw [a0s hb]; rfl
  have hz : 0 < (a0e (b :: r)).size := by rw [a0r]; exact Nat.succ_pos _
  have hd : (a0e (b :: r)).extract 1 (a0e (b :: r)).size = a0e r := by rw [j0s hb, a0r, List.take_length]; rfl
  rw [show mayT c (b :: r) = if b = c then (true, r) else (false, b :: r) from rfl]
  generalize hs : a0e (b :: r) = s at *
  have I := Inv.startW w u 170 [.v (.string s)] [] U True.intro True.intro
  refine a0g [.p 0 0, .v (.int .u8 (c : Int))] I Tryz.func106 ?_
  refine zbin I 9 _ (fun _ _ _ _ _ => m0s (s := s) (r := ⟨#[]⟩) (b := false) (iff_of_false hn Bool.false_ne_true)) fun Al W I => ?_
  refine zx I 15 (fun _ => .int .u8 (b : Int)) (fun Al W I => (by rw [← h0]; exact m0f uSt rfl hz)) fun Al W I => ?_
  rcases Bool.eq_false_or_eq_true ((b : Int) != (c : Int)) with f17 | f17
  · refine zb I 17 ((b : Int) != (c : Int)) (true) (f17) fun Al W I => ?_
    refine zret I (v := fun Al => .bool false) fun Al W I => ?_
    first | (rw [if_neg (fun h => bne_iff_ne.1 f17 (by rw [h]))]; exact ⟨rfl, I.bel, hs ▸ I.boxE 170 _⟩) | (rw [if_pos (by have h : (b : Int) = c := (by simpa using f17); omega)]; exact ⟨rfl, I.bel, I.boxE 170 _⟩)
  refine zb I 17 ((b : Int) != (c : Int)) (false) (f17) fun Al W I => ?_
  refine zx I 24 (fun _ => .string (a0e r)) (fun Al W I => (by rw [← hd]; exact i0j uSt (.inr rfl) (.inl ⟨rfl, rfl⟩) hz (Nat.le_refl _))) fun Al W I => ?_
  refine zret I (v := fun Al => .bool true) fun Al W I => ?_
  (rw [if_pos (by have h : (b : Int) = c := (by simpa using f17); omega)]; exact ⟨rfl, I.bel, I.boxE 170 _⟩)
theorem b1n (l : List Nat) (hb : Byt l) (hl : l.length ≤ 1000000000) (u : Nat) (w : World) (U : Bt w u 170 #[.string (a0e l)]) :
 Calls Tryz.prog 107 #[.pointer (some ⟨u, 0, none⟩)] w fun en w' => en = .returned (.string (a0e (l.takeWhile isDg))) ∧ Kp [u] w w' ∧ Bt w' u 170 #[.string (a0e (l.dropWhile isDg))] := by
 have hg : a0b (a0e l) = l := a0s hb
 have hz : (a0e l).size = l.length := a0r l
 have ht := fun j => j0s hb 0 j
 have hd : ∀ j, (a0e l).extract j (a0e l).size = a0e (l.drop j) := fun j => by rw [j0s hb, a0r, List.take_length]
 have hT := fun (j : Nat) h1 h2 h3 => l1z (l := l) (j := j) h1 h2 h3
 generalize a0e l = s at *
 have I := Inv.startW w u 170 [.v (.string s)] [] U True.intro True.intro
 refine a0g [.p 0 0] I Tryz.func107 ?_
 refine h0p I (fun gk fr bx gs => ∃ (U900 : Nat → Value) (j : Nat), fr = (.p 0 0 :: .v undef :: .v (Go.Value.string (ByteArray.mk #[])) :: .v (.int .i64 (j : Int)) :: .v undef :: sw U900 5 43 [] : List SV) ∧ bx = [⟨170, [.v (.string s)], false⟩] ∧ gs = [] ∧ (j ≤ l.length) ∧ (∀ i, i < j → isDg (dg l i) = true) ∧ (gk + j = l.length)) l.length (fun Al W U I => ⟨_, ⟨U, 0, rfl, rfl, rfl, (Nat.zero_le _), (fun i hi => absurd hi (Nat.not_lt_zero i)), (Nat.add_zero _)⟩, I.pick []⟩) ?_
 rintro J0 gk0 _ _ _ ⟨U900, j, rfl, rfl, rfl, hj, hall, hgk⟩ hJ0 Al W I
 rcases Bool.eq_false_or_eq_true (decide ((j : Int) < (s.size : Int))) with f11 | f11
 · refine zb I 11 (decide ((j : Int) < (s.size : Int))) (true) (f11) fun Al W I => ?_
   refine zx I 18 (fun _ => .int .u8 ((dg l j : Nat) : Int)) (fun Al W I => (by rw [← hg]; exact m0f uSt rfl (by have := oTr f11; omega))) fun Al W I => ?_
   rcases Bool.eq_false_or_eq_true (decide (((dg l j : Nat) : Int) ≥ 48)) with f19 | f19
   · refine zb I 19 (decide (((dg l j : Nat) : Int) ≥ 48)) (true) (f19) fun Al W I => ?_
     refine zx I 27 (fun _ => .int .u8 ((dg l j : Nat) : Int)) (fun Al W I => (by rw [← hg]; exact m0f uSt rfl (by have := oTr f11; omega))) fun Al W I => ?_
     rcases Bool.eq_false_or_eq_true (decide (((dg l j : Nat) : Int) ≤ 57)) with f28 | f28
     · refine zb I 28 (decide (((dg l j : Nat) : Int) ≤ 57)) (true) (f28) fun Al W I => ?_
       refine zi I 31 .i64 ((j : Int) + 1) ((((j + 1 : Nat) : Int))) ((by have := oTr f11; exact iwo)) fun Al W I => ?_
       exact a0j I J0 fun Al W U I => hJ0 (gk0 - 1) _ _ _ _ _ ((by have := oTr f11; omega)) ⟨U, j + 1, rfl, rfl, rfl, (by have := oTr f11; omega), (fun i hi => by have := oTr f19; have := oTr f28; exact (Nat.lt_or_ge i j).elim (fun h => hall i h) (fun h => by rw [show i = j by omega]; exact r0v (by omega))), (by have := oTr f11; omega)⟩ (I.pick [])
     refine zb I 28 (decide (((dg l j : Nat) : Int) ≤ 57)) (false) (f28) fun Al W I => ?_
     refine zx I 37 (fun _ => .string (s.extract 0 j)) (fun Al W I => (i0j uSt (.inl ⟨rfl, rfl⟩) (.inr rfl) (Nat.zero_le _) (by omega))) fun Al W I => ?_
     refine zx I 44 (fun _ => .string (s.extract j s.size)) (fun Al W I => (i0j uSt (.inr rfl) (.inl ⟨rfl, rfl⟩) (by omega) (Nat.le_refl _))) fun Al W I => ?_
     have hst : j < l.length → isDg (dg l j) = false := fun hjl => by ((have := oFa f28; unfold isDg; rw [decide_eq_false (p := dg l j ≤ 57) (by omega), Bool.and_false]))
     obtain ⟨e1, e2⟩ := hT j hj hall hst
     rw [e1, e2, ← hd j]
     exact zret I (v := fun Al => .string (s.extract 0 j)) fun Al W I => ⟨by rw [ht j]; rfl, I.bel, I.boxE 170 _⟩
   refine zb I 19 (decide (((dg l j : Nat) : Int) ≥ 48)) (false) (f19) fun Al W I => ?_
   refine zx I 37 (fun _ => .string (s.extract 0 j)) (fun Al W I => (i0j uSt (.inl ⟨rfl, rfl⟩) (.inr rfl) (Nat.zero_le _) (by omega))) fun Al W I => ?_
   refine zx I 44 (fun _ => .string (s.extract j s.size)) (fun Al W I => (i0j uSt (.inr rfl) (.inl ⟨rfl, rfl⟩) (by omega) (Nat.le_refl _))) fun Al W I => ?_
   have hst : j < l.length → isDg (dg l j) = false := fun hjl => by ((have := oFa f19; unfold isDg; rw [decide_eq_false (by omega)]; rfl))
   obtain ⟨e1, e2⟩ := hT j hj hall hst
   rw [e1, e2, ← hd j]
   exact zret I (v := fun Al => .string (s.extract 0 j)) fun Al W I => ⟨by rw [ht j]; rfl, I.bel, I.boxE 170 _⟩
 refine zb I 11 (decide ((j : Int) < (s.size : Int))) (false) (f11) fun Al W I => ?_
 refine zx I 37 (fun _ => .string (s.extract 0 j)) (fun Al W I => (i0j uSt (.inl ⟨rfl, rfl⟩) (.inr rfl) (Nat.zero_le _) (by omega))) fun Al W I => ?_
 refine zx I 44 (fun _ => .string (s.extract j s.size)) (fun Al W I => (i0j uSt (.inr rfl) (.inl ⟨rfl, rfl⟩) (by omega) (Nat.le_refl _))) fun Al W I => ?_
 have hst : j < l.length → isDg (dg l j) = false := fun hjl => by ((have := oFa f11; exfalso; omega))
 obtain ⟨e1, e2⟩ := hT j hj hall hst
 rw [e1, e2, ← hd j]
 exact zret I (v := fun Al => .string (s.extract 0 j)) fun Al W I => ⟨by rw [ht j]; rfl, I.bel, I.boxE 170 _⟩
end Go.Proofs.YtbamiajjampgnaaGreatDoor
namespace Go.Proofs.YtbamiajjampgnaaGreatDoor
def x0p : Go.Shelf.Ren := ⟨fun | 161 => 45 | 231 => 109 | 227 => 110 | 233 => 111 | 235 => 112 | 228 => 162 | 197 => 163 | 151 => 164 | 260 => 194 | 152 => 195 | 137 => 202 | 119 => 203 | 224 => 204 | 225 => 205 | 217 => 214 | 266 => 221 | n => n, fun | 9 => 9 | 4 => 4 | 3 => 3 | 5 => 5 | 117 => 182 | 116 => 181 | 0 => 0 | 124 => 185 | 105 => 233 | 21 => 21 | 119 => 263 | 46 => 178 | 139 => 266 | 138 => 265 | n => n, fun | 3 => 3 | 4 => 4 | n => n⟩
theorem o1k : Go.Proofs.Lays.n161 Tryz.prog x0p := by constructor <;> first | (intros; kernel_rfl) | (constructor <;> (intros; kernel_rfl))
def x0q : Go.Shelf.Ren := ⟨fun | 172 => 108 | 244 => 160 | 245 => 161 | 247 => 189 | 279 => 190 | 280 => 191 | 281 => 192 | 282 => 193 | 287 => 199 | 316 => 200 | 171 => 142 | 205 => 201 | 321 => 212 | 322 => 213 | 243 => 183 | 246 => 197 | 283 => 208 | 284 => 209 | 285 => 210 | 286 => 211 | 129 => 217 | 317 => 216 | 318 => 218 | 319 => 219 | 320 => 220 | 337 => 165 | 338 => 222 | n => n, fun | 9 => 9 | 3 => 3 | 75 => 174 | 76 => 175 | 4 => 4 | 5 => 5 | 167 => 248 | 37 => 156 | 0 => 0 | 85 => 249 | 2 => 2 | 168 => 251 | 53 => 177 | 175 => 257 | 46 => 178 | 210 => 261 | 127 => 277 | 145 => 280 | 143 => 278 | 21 => 21 | 171 => 271 | 173 => 274 | 212 => 282 | 51 => 143 | 20 => 20 | 213 => 283 | 232 => 255 | 233 => 285 | 80 => 172 | n => n, fun | 15 => 1 | 16 => 2 | 17 => 6 | 18 => 0 | 19 => 7 | n => n⟩
theorem o1l : Go.Proofs.Lays.n172 Tryz.prog x0q := by constructor <;> first | (intros; kernel_rfl) | (constructor <;> (intros; kernel_rfl))
def v0c : Go.Shelf.Ren := ⟨fun | 171 => 142 | 243 => 183 | 246 => 197 | 283 => 208 | 284 => 209 | 285 => 210 | 286 => 211 | 129 => 217 | 317 => 216 | 318 => 218 | 319 => 219 | 320 => 220 | 337 => 165 | 338 => 222 | n => n, fun | 3 => 3 | 9 => 9 | 2 => 2 | 4 => 4 | 171 => 271 | 0 => 0 | 53 => 177 | 37 => 156 | 5 => 5 | 173 => 274 | 212 => 282 | 51 => 143 | 20 => 20 | 213 => 283 | 46 => 178 | 232 => 255 | 233 => 285 | n => n, fun | 17 => 6 | 18 => 0 | 19 => 7 | n => n⟩
theorem k1g : Go.Proofs.LaysM.n171 Tryz.prog v0c := by constructor <;> first | (intros; kernel_rfl) | (constructor <;> (intros; kernel_rfl))
end Go.Proofs.YtbamiajjampgnaaGreatDoor
namespace Go.Slip
open Go.RowKit
theorem v0d (d : Nat) (h : d < 10) : (UInt8.ofNat (48 + d)).toNat = d + 48 := by rw [UInt8.toNat_ofNat', Nat.mod_eq_of_lt (by omega)]; omega
theorem q0h (u : Nat) : (Lib.decDigits u).map UInt8.toNat = b0f u := by
 have hz : ∀ v, 0 < v → b0f v = (dig 10 v).reverse.map (· + 48) := fun v h => by unfold b0f; rw [if_neg (by omega)]
 induction u using Nat.strongRecOn with
 | _ u ih =>
  rw [Lib.decDigits]
  by_cases h : u < 10
  · rw [dif_pos h, List.map_cons, List.map_nil, v0d u h]
    by_cases h0 : u = 0
    · subst h0; rfl
    · rw [hz u (by omega), c0p (B := 10) (by omega) (by omega), Nat.mod_eq_of_lt h, Nat.div_eq_of_lt h, a0c]; rfl
  · rw [dif_neg h, List.map_append, ih (u / 10) (by omega), List.map_cons, List.map_nil, v0d _ (Nat.mod_lt _ (by omega)), hz u (by omega), hz (u / 10) (by omega), c0p (B := 10) (n := u) (by omega) (by omega)]
    simp
theorem b1o (n : Int) : (⟨(Lib.itoa n).toArray⟩ : ByteArray) = a0e (f0t n) := by
 apply s0q
 have hb : Byt (f0t n) := by
  intro x hx
  unfold f0t at hx
  split at hx
  · rcases List.mem_cons.1 hx with rfl | hx
    · omega
    · have := g0p _ x hx; omega
  · have := g0p _ x hx; omega
 rw [a0s hb]
 unfold a0b Lib.itoa f0t
 split
 · rw [show (-n).toNat = n.natAbs by omega, ← q0h]; rfl
 · rw [← q0h]
theorem q0i : ∀ (l : List UInt8) (a : Nat), (∀ y ∈ l, isDg y.toNat = true) → Lib.decFrom a l = some ((l.map UInt8.toNat).foldl (fun a b => 10 * a + (b - 48)) a)
 | [], a, _ => rfl
 | b :: r, a, h => by
  have h1 := c0z.1 (h b List.mem_cons_self)
  have h2 := q0i r (a * 10 + (b.toNat - 48)) fun y hy => h y (List.mem_cons_of_mem b hy)
  rw [Lib.decFrom]
  unfold Lib.digitVal
  rw [if_pos h1]
  simp only
  rw [h2, List.map_cons, List.foldl_cons, Nat.mul_comm a 10]
theorem k1h {m : List UInt8} (hd : ∀ y ∈ m, isDg y.toNat = true) (h2 : m ≠ []) : Lib.atoi m = some ((a0k (m.map UInt8.toNat) : Nat) : Int) := by
 cases m with
 | nil => exact absurd rfl h2
 | cons b r =>
  have hb1 := c0z.1 (hd b List.mem_cons_self)
  have hn : ∀ k : UInt8, k.toNat < 48 → (b == k) = false := fun k hk => bFn fun h => by subst h; omega
  unfold Lib.atoi
  simp only [hn 45 (by decide), hn 43 (by decide), Bool.false_eq_true, if_false]
  unfold Lib.decNat
  rw [if_neg (by simp), q0i _ _ hd]
  rfl
theorem o1m {x : List Nat} (hb : Byt x) (h1 : ∀ y ∈ x, isDg y = true) (h2 : x ≠ []) : Lib.atoi (a0e x).data.toList = some ((a0k x : Nat) : Int) := by
 have e : (a0e x).data.toList.map UInt8.toNat = x := a0s hb
 have k := k1h (m := (a0e x).data.toList) (fun y hy => h1 _ (by rw [← e]; exact List.mem_map_of_mem hy)) (fun h => h2 (by rw [← e, h]; rfl))
 rw [e] at k
 exact k
theorem g1j {l : List Nat} : ∀ x ∈ l.dropWhile (· == 48), x ∈ l := fun _ hx => List.dropWhile_sublist _ |>.subset hx
theorem b1p (l : List Nat) (hb : Byt l) : (⟨(Lib.trimLeftB (a0e l).data.toList 48).toArray⟩ : ByteArray) = a0e (l.dropWhile (· == 48)) := by
 apply s0q
 rw [a0s fun x hx => hb x (g1j x hx)]
 have e : (a0e l).data.toList.map UInt8.toNat = l := a0s hb
 have key : ∀ m : List UInt8, (m.dropWhile (· == 48)).map UInt8.toNat = (m.map UInt8.toNat).dropWhile (· == 48) := by
  intro m
  induction m with
  | nil => rfl
  | cons b r ih =>
   rw [List.map_cons, List.dropWhile_cons, List.dropWhile_cons]
   by_cases h : b = 48
   · subst h; simpa using ih
   · have h1 : (b == 48) = false := bFn h
     have h2 : (b.toNat == 48) = false := bFn fun k => h (UInt8.toNat_inj.1 (by rw [k]; rfl))
     rw [h1, h2]; rfl
 have := key (a0e l).data.toList
 rw [e] at this
 exact this
theorem b1q (l : List Nat) : a0k (l.dropWhile (· == 48)) = a0k l := by
 induction l with
 | nil => rfl
 | cons b r ih =>
  rw [List.dropWhile_cons]
  split
  · rename_i h
    rw [ih, beq_iff_eq.1 h]
    rfl
  · rfl
end Go.Slip
namespace Go.Proofs.YtbamiajjampgnaaGreatDoor
open Go.RowKit Go.Slip
def PowW (w : World) : Prop := Lib.TabIs Tryz.prog w "internal/strconv.uint64pow10" .u64 Lib.pow10Tab ∧ 6 < w.heap.size
theorem PowW.same {w w' : World} (h : PowW w) (hb : w'.heap[6]? = w.heap[6]?) (hs : w.heap.size ≤ w'.heap.size) : PowW w' := by
 refine ⟨?_, Nat.lt_of_lt_of_le h.2 hs⟩
 have h1 := h.1
 unfold Lib.TabIs World.var? at h1 ⊢
 rw [show Tryz.prog.globalNamed "internal/strconv.uint64pow10" = some 6 by kernel_rfl] at h1 ⊢
 simp only [Option.bind_some] at h1 ⊢
 rw [hb]; exact h1
def powF : PF := ⟨PowW, fun a => 6 = a, fun _ _ h hb hs => h.same (hb _ h.2 rfl) hs, fun _ _ h hf => hf ▸ h.2⟩
theorem PowW.past {w w' : World} (h : PowW w) (hb : Below w.heap.size w w') : PowW w' := h.same (hb.block _ h.2) hb.size
theorem k1i (x : List Nat) (h1 : ∀ y ∈ x, isDg y = true) (h2 : x ≠ []) (h3 : x.length ≤ 5) (w : World) : Calls Tryz.prog 108 #[.string (a0e x)] w fun en w' => en = .returned (.tuple #[.int .i64 ((a0k x : Nat) : Int), .nilIface]) ∧ Below w.heap.size w w' := by
 have hb : Byt x := fun y hy => by have := c0z.1 (h1 y hy); omega
 refine (Any.strconv_Atoi o1l (a0e x) _ (by rw [a0r]; omega) (o1m hb h1 h2) w).mono ?_
 rintro e w' ⟨rfl, t, rfl⟩
 exact ⟨rfl, e0v (Nat.le_refl _) _ _⟩
theorem k1j (n : Int) (h : -9223372036854775808 ≤ n ∧ n ≤ 9223372036854775807) (w : World) (hT : PowW w) : Calls Tryz.prog 142 #[.int .i64 n] w fun en w' => en = .returned (.string (a0e (f0t n))) ∧ Below w.heap.size w w' := by
 refine (Any.strconv_Itoa k1g n h.1 h.2 w hT.1).mono ?_
 rintro e w' ⟨rfl, k, os, rfl⟩
 refine ⟨by rw [b1o], ?_⟩
 exact ⟨rfl, rfl, rfl, by simp [Sort.grow], fun b hb => by simp [Sort.grow]; rw [Array.getElem?_append_left hb]⟩
theorem k1k (l : List Nat) (hb : Byt l) (w : World) : Calls Tryz.prog 45 #[.string (a0e l), .string ⟨#[48]⟩] w fun en w' => en = .returned (.string (a0e (l.dropWhile (· == 48)))) ∧ Below w.heap.size w w' := by
 refine (Any.strings_TrimLeft_one o1k (a0e l) 48 (by decide) w).mono ?_
 rintro e w' ⟨rfl, rfl⟩
 exact ⟨by rw [b1p l hb], Below.refl _ _⟩
end Go.Proofs.YtbamiajjampgnaaGreatDoor
namespace Go.Proofs.YtbamiajjampgnaaGreatDoor
open Go.ChangeShapes Go.WideShapes Go.ChangeAt Go.RowKit Go.Slip
def s0s : List (String × DataW Unit) := [("math/bits.deBruijn32tab", Rows.laid_math_bits_deBruijn32tab), ("math/bits.deBruijn64tab", Rows.laid_math_bits_deBruijn64tab), ("internal/strconv.uint64pow10", Rows.laid_internal_strconv_uint64pow10), ("unicode/utf8.acceptRanges", Rows.laid_unicode_utf8_acceptRanges), ("strconv.ErrRange", Rows.laid_strconv_ErrRange), ("strconv.ErrSyntax", Rows.laid_strconv_ErrSyntax), ("unicode/utf8.first", Rows.laid_unicode_utf8_first)]
theorem g1k : s0s.filter (fun x => x.1 == "math/bits.deBruijn32tab") = [("math/bits.deBruijn32tab", Rows.laid_math_bits_deBruijn32tab)] := by kernel_rfl
theorem g1l : s0s.filter (fun x => x.1 == "internal/strconv.uint64pow10") = [("internal/strconv.uint64pow10", Lib.tabData .u64 Lib.pow10Tab)] := by kernel_rfl
theorem k1l {W : World} (h : laidMetH Tryz.prog s0s W) : TabW W ∧ PowW W := by
 have h1 := h.filter (fun x => x.1 == "math/bits.deBruijn32tab")
 have h2 := h.filter (fun x => x.1 == "internal/strconv.uint64pow10")
 rw [g1k] at h1
 rw [g1l, MakeChecks.laidMetH_plain _ _ _ (by kernel_rfl)] at h2
 have hg : Tryz.prog.globalNamed "internal/strconv.uint64pow10" = some 6 := by kernel_rfl
 have h3 := Lib.tabIs_of_head (t := 282) (e := 177) (n := 20) hg (by kernel_rfl) (by kernel_rfl) (by kernel_rfl) (by kernel_rfl) (by kernel_rfl) h2
 exact ⟨w0c h1, h3, World.block_lt_of_cell? W _ (h3.cell hg 0 (by decide))⟩
end Go.Proofs.YtbamiajjampgnaaGreatDoor
namespace Go.Slip
open Go.RowKit
theorem v0e (l : List Nat) : m0l l = mayT 45 l := by
 cases l with
 | nil => rfl
 | cons b r =>
  rw [show mayT 45 (b :: r) = if b = 45 then (true, r) else (false, b :: r) from rfl]
  split
  · rename_i h; subst h; rfl
  · rename_i h; exact r0w r h
theorem i0k (l : List Nat) : o0x l = if (mayT 46 l).1 = true then (if (mayT 46 l).2.takeWhile isDg = [] then none else some ((mayT 46 l).2.takeWhile isDg, (mayT 46 l).2.dropWhile isDg)) else some ([], (mayT 46 l).2) := by
 cases l with
 | nil => rfl
 | cons b r =>
  rw [show mayT 46 (b :: r) = if b = 46 then (true, r) else (false, b :: r) from rfl]
  by_cases h : b = 46
  · subst h; rfl
  · rw [if_neg h, p0z r h]; rfl
theorem s0t (l : List Nat) : powT l = if (mayT 101 l).1 = true then (if (mayT 45 (mayT 101 l).2).2.takeWhile isDg = [] ∨ 5 < ((mayT 45 (mayT 101 l).2).2.takeWhile isDg).length then none else some (if (mayT 45 (mayT 101 l).2).1 then -(a0k ((mayT 45 (mayT 101 l).2).2.takeWhile isDg) : Int) else a0k ((mayT 45 (mayT 101 l).2).2.takeWhile isDg), (mayT 45 (mayT 101 l).2).2.dropWhile isDg)) else some (0, (mayT 101 l).2) := by
 cases l with
 | nil => rfl
 | cons b r =>
  rw [show mayT 101 (b :: r) = if b = 101 then (true, r) else (false, b :: r) from rfl]
  by_cases h : b = 101
  · subst h
    rw [if_pos rfl, if_pos rfl, ← v0e]
    rfl
  · rw [if_neg h, if_neg Bool.false_ne_true]
    unfold powT
    split
    · rename_i heq
      injection heq with h1 _
      exact absurd h1 h
    · rfl
theorem o0n (l : List Nat) : (∀ x ∈ l.takeWhile isDg, isDg x = true ∧ x ∈ l) ∧ (∀ x ∈ l.dropWhile isDg, x ∈ l) ∧ (l.takeWhile isDg).length ≤ l.length ∧ (l.dropWhile isDg).length ≤ l.length := by
 induction l with
 | nil => exact ⟨fun _ h => (nomatch h), fun x hx => hx, Nat.le_refl _, Nat.le_refl _⟩
 | cons b r ih =>
  obtain ⟨h1, h2, h3, h4⟩ := ih
  rw [List.takeWhile_cons, List.dropWhile_cons]
  cases hb : isDg b
  · exact ⟨fun _ h => (nomatch h), fun x hx => hx, Nat.zero_le _, Nat.le_refl _⟩
  · rw [if_pos rfl, if_pos rfl]
    refine ⟨fun x hx => ?_, fun x hx => List.mem_cons_of_mem _ (h2 x hx), by rw [List.length_cons, List.length_cons]; omega, by rw [List.length_cons]; omega⟩
    rcases List.mem_cons.1 hx with rfl | hx
    · exact ⟨hb, List.mem_cons_self⟩
    · exact ⟨(h1 x hx).1, List.mem_cons_of_mem _ (h1 x hx).2⟩
theorem g1m {l : List Nat} (h : Byt l) : Byt (l.takeWhile isDg) ∧ Byt (l.dropWhile isDg) := ⟨fun x hx => h x ((o0n l).1 x hx).2, fun x hx => h x ((o0n l).2.1 x hx)⟩
theorem i0v (c : Nat) (l : List Nat) : (mayT c l).2.length ≤ l.length := by
 cases l with
 | nil => exact Nat.le_refl _
 | cons b r =>
  rw [show mayT c (b :: r) = if b = c then (true, r) else (false, b :: r) from rfl]
  split
  · exact Nat.le_succ _
  · exact Nat.le_refl _
def numE (g : Bool) (d : List Nat) (pw : Int) (l : List Nat) : Option Numl :=
 if d = [] then none else match powT l with | none => none | some (e, r) => if r = [] then some ⟨g, d, e + pw⟩ else none
theorem x0r (l : List Nat) : numl l = match o0x ((mayT 45 l).2.dropWhile isDg) with | none => none | some (f, r) => numE (mayT 45 l).1 ((mayT 45 l).2.takeWhile isDg ++ f) (-(f.length : Int)) r := by
 unfold numl
 rw [v0e]
 rfl
theorem g0a {o : Option Numl} {g : Bool} {d : List Nat} {pw e q : Int} {l r : List Nat} (h : o = numE g d pw l) (hd : d.isEmpty = false) (hp : powT l = some (e, r)) (hq : q = e + pw) : o = if r.isEmpty = true then some ⟨g, d, q⟩ else none := by
 subst hq
 rw [h]
 unfold numE
 rw [if_neg (fun k => by rw [k] at hd; cases hd), hp]
 cases r <;> rfl
abbrev LN := List Nat
theorem f0e {P : Program} {W : World} (xs ys : List Nat) (h : xs.length + ys.length ≤ 9223372036854775807) {t : TypeId} {x y : Operand} : (do eqGuard .add t x y (.string (a0e xs)) (.string (a0e ys)); binOp .add t (.string (a0e xs)) (.string (a0e ys)) : Sem Value).run P W = .ok (.string (a0e (xs ++ ys))) W := by
 rw [← o1i]
 exact k1e (by rw [a0r, a0r]; exact h)
theorem f0f {P : Program} {W : World} {l : List Nat} (h : Byt l) {t : TypeId} {x y : Operand} : (do eqGuard .eql t x y (.string (a0e l)) (.string ⟨#[]⟩); binOp .eql t (.string (a0e l)) (.string ⟨#[]⟩) : Sem Value).run P W = .ok (.bool l.isEmpty) W :=
 m0s ((s0r h).trans List.isEmpty_iff.symm)
end Go.Slip
namespace Go.Proofs.YtbamiajjampgnaaGreatDoor
open Go.RowKit Go.Slip
theorem x0s (t : ByteArray) (w : World) (ht : t.size ≤ 1000) :
 Calls Tryz.prog 43 #[.string t] w fun en w' => ∃ g ds pw ok, en = .returned (.tuple #[.bool g, .string (a0e ds), .int .i64 pw, .bool ok]) ∧ (numl (a0b t) = (if ok = true then some ⟨g, ds, pw⟩ else none) ∧ Byt ds) ∧ Below w.heap.size w w' := by
 have hb0 := Byt.of t
 have hl0 : (a0b t).length ≤ 1000 := by rw [a0p]; exact ht
 have hN := x0r (a0b t)
 have hst := f0d t
 generalize a0b t = l0 at *
 rw [← hst]
 clear hst
 have hM := fun c l hb u W U => hi0 (o1j l hb c u W U)
 have hD := fun l hb hl u W U => hi0 (b1n l hb hl u W U)
 have hA := fun x h1 h2 h3 W => hi0 (k1i x h1 h2 h3 W)
 -- the parts, one behind the other
 have hb1 := m0t hb0 45
 have hl1 := i0v 45 l0
 obtain ⟨g, l1, e1⟩ : ∃ g l1, mayT 45 l0 = (g, l1) := ⟨_, _, rfl⟩
 have m1 := hM 45 l0 hb0
 rw [e1] at hb1 hl1 m1
 have hb2 := g1m hb1
 have hs2 := o0n l1
 have d2 := hD l1 hb1 (by simp only at hl1; omega)
 rw [e1] at hN
 simp only at hN hb1 hl1 hb2 hs2 m1
 generalize l1.takeWhile isDg = d at *
 generalize l1.dropWhile isDg = l2 at *
 rw [i0k] at hN
 have hb3 := m0t hb2.2 46
 have hl3 := i0v 46 l2
 have m3 := hM 46 l2 hb2.2
 obtain ⟨p, l3, e3⟩ : ∃ p l3, mayT 46 l2 = (p, l3) := ⟨_, _, rfl⟩
 rw [e3] at hb3 hl3 m3 hN
 have hb4 := g1m hb3
 have hs4 := o0n l3
 have d4 := hD l3 hb3 (by simp only at hl3; omega)
 simp only at hN hb3 hl3 hb4 hs4 m3
 generalize l3.takeWhile isDg = f at *
 generalize l3.dropWhile isDg = l4 at *
 have hN1 : numl l0 = (match (if p = true then if f = [] then none else some (f, l4) else some ([], l3) : Option (List Nat × List Nat)) with | none => none | some (f, r) => numE g (d ++ f) (-(f.length : Int)) r) := hN
 clear hN
 have I := Inv.start w [] True.intro
 refine a0g [.v (.string (a0e l0))] I Tryz.func43 ?_
 refine zge I 0 170 (fun Al W I => (m1 _ W (I.box 0 170 _)).out) fun Al V Iv _ _ kz => ?_
 rintro _ W ⟨rfl, hO, hB⟩
 refine ⟨_, rfl, kz _ [.v (.string (a0e l1))] _ hO hB fun I => ?_⟩
 refine zge I 0 170 (fun Al W I => (d2 _ W (I.box 0 170 _)).out) fun Al V Iv _ _ kz => ?_
 rintro _ W ⟨rfl, hO, hB⟩
 refine ⟨_, rfl, kz _ [.v (.string (a0e l2))] _ hO hB fun I => ?_⟩
 refine zge I 0 170 (fun Al W I => (m3 _ W (I.box 0 170 _)).out) fun Al V Iv _ _ kz => ?_
 rintro _ W ⟨rfl, hO, hB⟩
 refine ⟨_, rfl, kz _ [.v (.string (a0e l3))] _ hO hB fun I => ?_⟩
 refine zcut I (some 2000023) (fun fr bx gs => ∃ (U1 : Nat → Value) (D : LN) (pw : Int) (lr : LN), fr = (.v (.string (a0e l0)) :: .v undef :: sw U1 2 4 (.p 0 0 :: .v (.bool g) :: .v (.string (a0e D)) :: .v (.int .i64 pw) :: .v (U1 10) :: su 3 (sw U1 14 9 (.v (.bool p) :: sw U1 24 11 (.v undef :: .v (U1 36) :: .v undef :: sw U1 38 10 (.v undef :: sw U1 49 5 (.v undef :: sw U1 55 13 [])))))) : List SV) ∧ bx = [⟨170, [.v (.string (a0e lr))], false⟩] ∧ gs = [] ∧ (numl l0 = numE g D pw lr) ∧ (Byt D) ∧ (Byt lr) ∧ (lr.length ≤ 1000) ∧ (-1000 ≤ pw ∧ pw ≤ 0)) ?_ ?_
 · intro J hJ Al W I
   rcases Bool.eq_false_or_eq_true p with rfl | rfl
   · refine zge I 0 170 (fun Al W I => (d4 _ W (I.box 0 170 _)).out) fun Al V Iv _ _ kz => ?_
     rintro _ W ⟨rfl, hO, hB⟩
     refine ⟨_, rfl, kz _ [.v (.string (a0e l4))] _ hO hB fun I => ?_⟩
     rcases Bool.eq_false_or_eq_true (f.isEmpty) with f27 | f27
     · refine zbin I 27 (.bool true) (fun _ _ _ _ W => ((f0f hb4.1)).trans (congrArg (fun z => Result.ok (Value.bool z) W) (show (f.isEmpty) = true from f27))) fun Al W I => ?_
       exact zret I (v := fun Al => .tuple #[.bool false, Go.Value.string (ByteArray.mk #[]), .int .i64 0, .bool false]) fun Al W I => ⟨false, [], 0, false, rfl, ⟨by rw [hN1, if_pos rfl, if_pos (List.isEmpty_iff.1 f27)]; rfl, fun _ h => (nomatch h)⟩, I.below⟩
     refine zbin I 27 (.bool false) (fun _ _ _ _ W => ((f0f hb4.1)).trans (congrArg (fun z => Result.ok (Value.bool z) W) (show (f.isEmpty) = false from f27))) fun Al W I => ?_
     refine zbin I 30 _ (fun _ _ _ _ _ => (f0e d f (by omega))) fun Al W I => ?_
     refine zi I 33 .i64 (0 - (((a0e f).size : Nat) : Int)) ((-(f.length : Int))) ((by rw [a0r, Int.zero_sub]; exact iwo)) fun Al W I => ?_
     exact a0j I J fun Al W U I => hJ _ _ _ _ _ ⟨U, (d ++ f), (-(f.length : Int)), l4, rfl, rfl, rfl, (by rw [hN1, if_pos rfl, if_neg (fun h => by rw [h] at f27; cases f27)]), (hb2.1.append hb4.1), hb4.2, (by omega), (by omega)⟩ (I.pick [])
   exact a0j I J fun Al W U I => hJ _ _ _ _ _ ⟨U, d, 0, l3, rfl, rfl, rfl, (by rw [hN1, if_neg Bool.false_ne_true]; simp), hb2.1, hb3, (by omega), (by omega)⟩ (I.pick [])
 rintro _ _ _ ⟨U1, D, pw, lr, rfl, rfl, rfl, hN2, hbD, hbl, hll, hpw⟩ Al W I
 rcases Bool.eq_false_or_eq_true (D.isEmpty) with f35 | f35
 · refine zbin I 35 (.bool true) (fun _ _ _ _ W => ((f0f hbD)).trans (congrArg (fun z => Result.ok (Value.bool z) W) (show (D.isEmpty) = true from f35))) fun Al W I => ?_
   refine zret I (v := fun Al => .tuple #[.bool false, Go.Value.string (ByteArray.mk #[]), .int .i64 0, .bool false]) fun Al W I => ?_
   first | exact ⟨false, [], 0, false, rfl, ⟨by rw [hN2]; unfold numE; rw [if_pos (List.isEmpty_iff.1 f35)]; rfl, fun _ h => (nomatch h)⟩, I.below⟩ | exact ⟨g, D, q, le.isEmpty, rfl, ⟨g0a hN2 f35 hQ (by omega), hbD⟩, I.below⟩
 refine zbin I 35 (.bool false) (fun _ _ _ _ W => ((f0f hbD)).trans (congrArg (fun z => Result.ok (Value.bool z) W) (show (D.isEmpty) = false from f35))) fun Al W I => ?_
 have hb5 := m0t hbl 101
 have hl5 := i0v 101 lr
 have m5 := hM 101 lr hbl
 have hP := s0t lr
 obtain ⟨pe, l5, e5⟩ : ∃ pe l5, mayT 101 lr = (pe, l5) := ⟨_, _, rfl⟩
 rw [e5] at hb5 hl5 m5 hP
 simp only at hb5 hl5 m5 hP
 refine zge I 0 170 (fun Al W I => (m5 _ W (I.box 0 170 _)).out) fun Al V Iv _ _ kz => ?_
 rintro _ W ⟨rfl, hO, hB⟩
 refine ⟨_, rfl, kz _ [.v (.string (a0e l5))] _ hO hB fun I => ?_⟩
 refine zcut I (some 2000037) (fun fr bx gs => ∃ (U2 : Nat → Value) (q : Int) (le : LN), fr = (.v (.string (a0e l0)) :: .v undef :: sw U2 2 4 (.p 0 0 :: .v (.bool g) :: .v (.string (a0e D)) :: .v (.int .i64 q) :: .v (U1 10) :: sw U2 11 12 (.v (.bool p) :: sw U2 24 3 (.v (U1 27) :: sw U2 28 7 (.v (.bool false) :: .v (U2 36) :: .v (.bool pe) :: sw U2 38 30 [])))) : List SV) ∧ bx = [⟨170, [.v (.string (a0e le))], false⟩] ∧ gs = [] ∧ (powT lr = some (q - pw, le)) ∧ (Byt le)) ?_ ?_
 · intro J hJ Al W I
   rcases Bool.eq_false_or_eq_true pe with rfl | rfl
   · rw [if_pos rfl] at hP
     have hb6 := m0t hb5 45
     have hl6 := i0v 45 l5
     have m6 := hM 45 l5 hb5
     obtain ⟨mi, l6, e6⟩ : ∃ mi l6, mayT 45 l5 = (mi, l6) := ⟨_, _, rfl⟩
     rw [e6] at hb6 hl6 m6 hP
     have d6 := hD l6 hb6 (by simp only at hl6; omega)
     simp only at hb6 hl6 m6 hP
     have hb7 := g1m hb6
     have hs7 := o0n l6
     generalize l6.takeWhile isDg = x at *
     generalize l6.dropWhile isDg = l7 at *
     have hx10 : x.length ≤ 5 → a0k x < 100000 := fun h => Nat.lt_of_lt_of_le (f0y x fun j hj => by rw [a0x hj]; exact (c0z.1 (hs7.1 _ (List.getElem_mem hj)).1).2) (Nat.pow_le_pow_right (n := 10) (by omega) h)
     refine zge I 0 170 (fun Al W I => (m6 _ W (I.box 0 170 _)).out) fun Al V Iv _ _ kz => ?_
     rintro _ W ⟨rfl, hO, hB⟩
     refine ⟨_, rfl, kz _ [.v (.string (a0e l6))] _ hO hB fun I => ?_⟩
     refine zge I 0 170 (fun Al W I => (d6 _ W (I.box 0 170 _)).out) fun Al V Iv _ _ kz => ?_
     rintro _ W ⟨rfl, hO, hB⟩
     refine ⟨_, rfl, kz _ [.v (.string (a0e l7))] _ hO hB fun I => ?_⟩
     rcases Bool.eq_false_or_eq_true (x.isEmpty) with f43 | f43
     · refine zbin I 43 (.bool true) (fun _ _ _ _ W => ((f0f hb7.1)).trans (congrArg (fun z => Result.ok (Value.bool z) W) (show (x.isEmpty) = true from f43))) fun Al W I => ?_
       refine zret I (v := fun Al => .tuple #[.bool false, Go.Value.string (ByteArray.mk #[]), .int .i64 0, .bool false]) fun Al W I => ?_
       first | exact ⟨false, [], 0, false, rfl, ⟨by rw [hN2]; unfold numE; rw [if_pos (List.isEmpty_iff.1 f35)]; rfl, fun _ h => (nomatch h)⟩, I.below⟩ | exact ⟨false, [], 0, false, rfl, ⟨by rw [hN2]; unfold numE; rw [if_neg (fun h => by rw [h] at f35; cases f35), hP, if_pos (by exact .inl (List.isEmpty_iff.1 f43))]; rfl, fun _ h => (nomatch h)⟩, I.below⟩ | exact ⟨g, D, q, le.isEmpty, rfl, ⟨g0a hN2 f35 hQ (by omega), hbD⟩, I.below⟩
     refine zbin I 43 (.bool false) (fun _ _ _ _ W => ((f0f hb7.1)).trans (congrArg (fun z => Result.ok (Value.bool z) W) (show (x.isEmpty) = false from f43))) fun Al W I => ?_
     rcases Bool.eq_false_or_eq_true (decide ((((a0e x).size : Nat) : Int) > 5)) with f47 | f47
     · refine zb I 47 (decide ((((a0e x).size : Nat) : Int) > 5)) (true) (f47) fun Al W I => ?_
       refine zret I (v := fun Al => .tuple #[.bool false, Go.Value.string (ByteArray.mk #[]), .int .i64 0, .bool false]) fun Al W I => ?_
       first | exact ⟨false, [], 0, false, rfl, ⟨by rw [hN2]; unfold numE; rw [if_pos (List.isEmpty_iff.1 f35)]; rfl, fun _ h => (nomatch h)⟩, I.below⟩ | exact ⟨false, [], 0, false, rfl, ⟨by rw [hN2]; unfold numE; rw [if_neg (fun h => by rw [h] at f35; cases f35), hP, if_pos (by first | exact .inl (List.isEmpty_iff.1 f43) | exact .inr (by have := oTr f47; rw [a0r] at this; omega))]; rfl, fun _ h => (nomatch h)⟩, I.below⟩ | exact ⟨g, D, q, le.isEmpty, rfl, ⟨g0a hN2 f35 hQ (by omega), hbD⟩, I.below⟩
     refine zb I 47 (decide ((((a0e x).size : Nat) : Int) > 5)) (false) (f47) fun Al W I => ?_
     refine zq I (fun Al W I => have hzW := I.bel.size; (hA x (fun y hy => (hs7.1 y hy).1) (fun h => by rw [h] at f43; cases f43) (by have := oFa f47; rw [a0r] at this; omega) W).out) fun Al W I => ?_
     have hx5 : x.length ≤ 5 := by have := oFa f47; rw [a0r] at this; omega
     have hx6 := hx10 hx5
     rw [if_neg (fun h => h.elim (fun h => by rw [h] at f43; cases f43) (fun h => by omega))] at hP
     refine zcut I (some 2000054) (fun fr bx gs => ∃ (U3 : Nat → Value) (nn : Int), fr = (.v (.string (a0e l0)) :: .v undef :: sw U1 2 4 (.p 0 0 :: .v (.bool g) :: .v (.string (a0e D)) :: .v (.int .i64 pw) :: .v (U1 10) :: .v (.bool mi) :: .v (.string (a0e x)) :: .v (.int .i64 nn) :: sw U3 14 9 (.v (.bool p) :: sw U3 24 3 (.v (U1 27) :: sw U3 28 7 (.v (.bool false) :: .v (U3 36) :: .v (.bool true) :: sw U3 38 10 (.v (.bool false) :: sw U3 49 5 (.v (.bool mi) :: sw U3 55 13 [])))))) : List SV) ∧ bx = [⟨170, [.v (.string (a0e l7))], false⟩] ∧ gs = [] ∧ ((if mi then -((a0k x : Nat) : Int) else ((a0k x : Nat) : Int)) = nn)) ?_ ?_
     · intro J hJ Al W I
       rcases Bool.eq_false_or_eq_true mi with rfl | rfl
       · refine zi I 56 .i64 (0 - ((a0k x : Nat) : Int)) ((-((a0k x : Nat) : Int))) ((by rw [Int.zero_sub]; exact iwo)) fun Al W I => ?_
         exact a0j I J fun Al W U I => hJ _ _ _ _ _ ⟨U, -((a0k x : Nat) : Int), rfl, rfl, rfl, rfl⟩ (I.pick [])
       exact a0j I J fun Al W U I => hJ _ _ _ _ _ ⟨U, ((a0k x : Nat) : Int), rfl, rfl, rfl, rfl⟩ (I.pick [])
     rintro _ _ _ ⟨U3, nn, rfl, rfl, rfl, hnn⟩ Al W I
     rw [hnn] at hP
     have hnb : -100000 ≤ nn ∧ nn ≤ 100000 := by rw [← hnn]; split <;> omega
     refine zi I 59 .i64 (pw + nn) ((nn + pw)) ((by rw [Int.add_comm]; exact iwo)) fun Al W I => ?_
     exact a0j I J fun Al W U I => hJ _ _ _ _ _ ⟨U, nn + pw, l7, rfl, rfl, rfl, (by rw [hP]; congr 2; omega), hb7.2⟩ (I.pick [])
   exact a0j I J fun Al W U I => hJ _ _ _ _ _ ⟨U, pw, l5, rfl, rfl, rfl, (by rw [hP, if_neg Bool.false_ne_true]; congr 2; omega), hb5⟩ (I.pick [])
 rintro _ _ _ ⟨U2, q, le, rfl, rfl, rfl, hQ, hbe⟩ Al W I
 refine zd [] I fun Al W I => ?_
 refine zk [0, 1, 2, 3, 4, 5, 6, 8, 9, 10] I fun I => ?_
 refine zo 7 I fun I => ?_
 refine zbin I 67 _ (fun _ _ _ _ _ => (f0f hbe)) fun Al W I => ?_
 refine zk [11] I fun I => ?_
 refine zret I (v := fun Al => .tuple #[.bool g, .string (a0e D), .int .i64 q, .bool le.isEmpty]) fun Al W I => ?_
 first | exact ⟨false, [], 0, false, rfl, ⟨by rw [hN2]; unfold numE; rw [if_pos (List.isEmpty_iff.1 f35)]; rfl, fun _ h => (nomatch h)⟩, I.below⟩ | exact ⟨g, D, q, le.isEmpty, rfl, ⟨g0a hN2 f35 hQ (by omega), hbD⟩, I.below⟩
end Go.Proofs.YtbamiajjampgnaaGreatDoor
namespace Go.Slip
open Go.RowKit
def ratL (l : List Nat) : Bool × Nat × Nat × Int := if errT l.length (numl l) = 0 then (match numl l with | some q => e0z q | none => (false, 0, 0, 0)) else (false, 0, 0, 0)
theorem z0n {l : List Nat} (h : 400 < l.length) : errT l.length (numl l) = 2 ∧ ratL l = (false, 0, 0, 0) := by
 have h1 : errT l.length (numl l) = 2 := by unfold errT; rw [if_pos h]
 exact ⟨h1, by unfold ratL; rw [h1]; rfl⟩
theorem z0o {l : List Nat} (h : ¬ 400 < l.length) (hn : numl l = none) : errT l.length (numl l) = 1 ∧ ratL l = (false, 0, 0, 0) := by
 have h1 : errT l.length (numl l) = 1 := by unfold errT; rw [if_neg h, hn]
 exact ⟨h1, by unfold ratL; rw [h1]; rfl⟩
theorem v0f {l : List Nat} (h : ¬ 400 < l.length) {q : Numl} (hn : numl l = some q) (hp : q.pow < -6000 ∨ 6000 < q.pow) : errT l.length (numl l) = 3 ∧ ratL l = (false, 0, 0, 0) := by
 have h1 : errT l.length (numl l) = 3 := by unfold errT; rw [if_neg h, hn]; exact if_pos hp
 exact ⟨h1, by unfold ratL; rw [h1]; rfl⟩
theorem z0p {l : List Nat} (h : ¬ 400 < l.length) {q : Numl} (hn : numl l = some q) (hp : ¬ (q.pow < -6000 ∨ 6000 < q.pow)) : errT l.length (numl l) = 0 ∧ ratL l = e0z q := by
 have h1 : errT l.length (numl l) = 0 := by unfold errT; rw [if_neg h, hn]; exact if_neg hp
 exact ⟨h1, by unfold ratL; rw [h1, hn]; rfl⟩
theorem b1r {l f r : List Nat} (h : o0x l = some (f, r)) : (∀ x ∈ f, isDg x = true) ∧ f.length ≤ l.length := by
 rw [i0k] at h
 have hl := i0v 46 l
 have hs := o0n (mayT 46 l).2
 split at h
 · split at h
   · cases h
   · injection h with h; injection h with h1 h2; subst h1
     exact ⟨fun x hx => (hs.1 x hx).1, by omega⟩
 · injection h with h; injection h with h1 h2; subst h1
   exact ⟨fun _ hx => (nomatch hx), Nat.zero_le _⟩
theorem o0o {l : List Nat} {q : Numl} (h : numl l = some q) : (∀ x ∈ q.ds, isDg x = true) ∧ q.ds.length ≤ 2 * l.length := by
 rw [x0r] at h
 have hl := i0v 45 l
 have hs := o0n (mayT 45 l).2
 generalize (mayT 45 l).2 = m at *
 cases hf : o0x (m.dropWhile isDg) with
 | none => rw [hf] at h; cases h
 | some fr =>
  obtain ⟨f, r⟩ := fr
  rw [hf] at h
  simp only at h
  have hF := b1r hf
  unfold numE at h
  split at h
  · cases h
  · split at h
    · cases h
    · split at h
      · injection h with h
        subst h
        exact ⟨fun x hx => (List.mem_append.1 hx).elim (fun k => (hs.1 x k).1) (hF.1 x), by rw [List.length_append]; omega⟩
      · cases h
theorem q0j {q : Numl} (h : a0k q.ds = 0) : e0z q = (false, 0, 1, 0) := by unfold e0z; rw [if_pos h]
theorem z0q {q : Numl} (h : a0k q.ds ≠ 0) (hp : 0 ≤ q.pow) : e0z q = (q.neg, a0k q.ds / 2 ^ tz (a0k q.ds) * 5 ^ q.pow.toNat, 1, tz (a0k q.ds) + q.pow) := by unfold e0z; rw [if_neg h, if_pos hp]
theorem z0r {q : Numl} (h : a0k q.ds ≠ 0) (hp : ¬ 0 ≤ q.pow) {n f : Nat} (hc : b0l (a0k q.ds / 2 ^ tz (a0k q.ds)) (-q.pow).toNat = (n, f)) : e0z q = (q.neg, n, 5 ^ f, tz (a0k q.ds) + q.pow) := by unfold e0z; rw [if_neg h, if_neg hp, hc]
theorem g1n {B : Nat} (hB : 10 ≤ B) {l : List Nat} (h : ∀ x ∈ l, isDg x = true) : (dig B (a0k l)).length ≤ l.length := by
 rw [a0h (by omega)]
 exact Nat.lt_of_lt_of_le (f0y l fun j hj => by rw [a0x hj]; exact (c0z.1 (h _ (List.getElem_mem hj))).2) (Nat.pow_le_pow_left hB _)
theorem v0g {l : List Nat} (h : ∀ x ∈ l, isDg x = true) : y0s (a0e l) := fun j hj => by
 have hb : Byt l := fun x hx => by have := c0z.1 (h x hx); omega
 rw [a0r] at hj
 rw [a0s hb, a0x hj]
 exact c0z.1 (h _ (List.getElem_mem hj))
theorem m0g {n P : Nat} (h : P = 0 ∨ n % 5 ≠ 0) : b0l n P = (n, P) := by
 cases P with
 | zero => rfl
 | succ P => rw [b0l, if_neg (h.resolve_left (by omega))]
theorem v0h {n P : Nat} (h0 : 0 < P) (h : n % 5 = 0) : b0l n P = b0l (n / 5) (P - 1) := by
 cases P with
 | zero => omega
 | succ P => rw [b0l, if_pos h]; rfl
end Go.Slip
namespace Go.Proofs.YtbamiajjampgnaaGreatDoor
open Go.RowKit Go.Slip
theorem o1n (p : Option Addr) (c m : Nat) (w : World) (hp : Rd w .u32 p (dig B32 m)) (hc : (dig B32 m).length ≤ c) (hl : (dig B32 m).length ≤ 1000000) (hT : TabW w) :
 Calls Tryz.prog 47 #[.slice p (dig B32 m).length c] w fun en w' => ∃ q d, en = .returned (.tuple #[.slice q (dig B32 (m / 2 ^ tz m)).length d, .int .i64 ((tz m : Nat) : Int)]) ∧ Own w' w.heap.size .u32 143 q d (dig B32 (m / 2 ^ tz m)) ∧ Below w.heap.size w w' := by
 have htz := z0h m hl
 have HZ := fun W h hT => hi0 ((k0b p _ c m W h rfl (by omega) hT).mono fun _ _ ⟨h1, h2⟩ => ⟨h1, h2 ▸ Below.refl _ _⟩ : Calls Tryz.prog 113 #[.slice p (dig B32 m).length c] W fun en W' => en = .returned (.int .i64 ((tz m : Nat) : Int)) ∧ Below W.heap.size W W')
 have HS := fun W h => hi0 (sshr p _ c m (tz m) _ _ W h rfl hc (by omega) (by omega) rfl rfl)
 generalize tz m = z at *
 have I := Inv.start w [rdF .u32 p (dig B32 m), tabF] ⟨hp, hT, True.intro⟩
 refine a0g [.v (.slice p (dig B32 m).length c)] I Tryz.func47 ?_
 refine zq I (fun Al W I => (HZ W I.fa.1 I.fa.2.1).out) fun Al W I => ?_
 refine zqo I (fun Al W I => (HS W I.fa.1).out) fun Al W p9 c9 I => ?_
 exact zret I fun Al W I => ⟨p9, c9, rfl, I.fa.1, I.below⟩
def m0u (w : World) (er : Int) (R : Bool × Nat × Nat × Int) (en : Ending) (w' : World) : Prop :=
 ∃ p c q d, en = .returned (.tuple #[.agg #[.bool R.1, .slice p (dig B32 R.2.1).length c, .slice q (dig B32 R.2.2.1).length d, .int .i64 R.2.2.2], .int .i64 er]) ∧ Own w' w.heap.size .u32 143 p c (dig B32 R.2.1) ∧ Own w' w.heap.size .u32 143 q d (dig B32 R.2.2.1) ∧ Below w.heap.size w w'
theorem b0x {w w' : World} {er k : Int} {R : Bool × Nat × Nat × Int} {en : Ending} (h : er = k ∧ R = (false, 0, 0, 0)) (he : en = .returned (.tuple #[.agg #[.bool false, .slice none 0 0, .slice none 0 0, .int .i64 0], .int .i64 k])) (hb : Below w.heap.size w w') : m0u w er R en w' := by
 obtain ⟨rfl, rfl⟩ := h
 have e : dig B32 0 = [] := a0c _
 refine ⟨none, 0, none, 0, ?_, ?_, ?_, hb⟩
 · rw [he]; simp only [e]; rfl
 · show Own _ _ _ _ _ _ (dig B32 0); rw [e]; exact Own.nil _ _ _ _
 · show Own _ _ _ _ _ _ (dig B32 0); rw [e]; exact Own.nil _ _ _ _
theorem v0i {w w' : World} {p : Option Addr} {c : Nat} {en : Ending} (he : en = .returned (.tuple #[.agg #[.bool false, .slice none 0 0, .slice p (dig B32 1).length c, .int .i64 0], .int .i64 0])) (h : Own w' w.heap.size .u32 143 p c (dig B32 1)) (hb : Below w.heap.size w w') : m0u w 0 (false, 0, 1, 0) en w' := by
 have e : dig B32 0 = [] := a0c _
 refine ⟨none, 0, p, c, ?_, ?_, h, hb⟩
 · rw [he]; simp only [e]; rfl
 · show Own _ _ _ _ _ _ (dig B32 0); rw [e]; exact Own.nil _ _ _ _
theorem v0j (t : ByteArray) (w : World) (hT : TabW w) : Calls Tryz.prog 11 #[.string t] w (m0u w (errT (a0b t).length (numl (a0b t))) (ratL (a0b t))) := by
 have hz : t.size = (a0b t).length := (a0p t).symm
 have HN := fun W h => hi0 (x0s t W h)
 have h1 := @z0n (a0b t)
 have h2 := @z0o (a0b t)
 have h3 := @v0f (a0b t)
 have h4 := @z0p (a0b t)
 have h5 := @o0o (a0b t)
 generalize errT (a0b t).length (numl (a0b t)) = er at *
 generalize ratL (a0b t) = R at *
 generalize numl (a0b t) = N at *
 generalize (a0b t).length = L at *
 have HTr := fun l hb W => hi0 (k1k l hb W)
 have HPa := fun s h1 h2 W => hi0 (f1i s W h1 h2)
 have HO := fun (k : Nat) hk W => hi0 (sof (k : Int) k rfl hk W)
 have HPw := fun p c K W base ho hb hK => hi0 (z0f base p c 5 K W ho hb (by omega) hK)
 have HMu := fun p q c d a b W hp hq hl => hi0 (s0b p q _ _ c d a b W hp hq rfl rfl hl)
 have HOd := fun p c m W hp hc hl hT => hi0 (o1n p c m W hp hc hl hT)
 have HDv := fun p q c d a W hp hq hl => hi0 (h0k p q _ _ c d a 5 W hp hq rfl rfl hl (Nat.le_trans ((a0h a0a 5 1).2 (by decide)) (by omega)) (by omega))
 have I := Inv.start w [tabF] ⟨hT, True.intro⟩
 refine a0g [.v (.string t)] I Tryz.func11 ?_
 rcases Bool.eq_false_or_eq_true (decide ((t.size : Int) > 400)) with f16 | f16
 · refine zb I 16 (decide ((t.size : Int) > 400)) (true) (f16) fun Al W I => ?_
   exact zret I fun Al W I => b0x (h1 (by have := oTr f16; omega)) rfl I.below
 refine zb I 16 (decide ((t.size : Int) > 400)) (false) (f16) fun Al W I => ?_
 refine zg I (fun Al W I => have hzW := I.bel.size; (HN W (by have := oFa f16; omega)).out) fun Al V Iv _ hB _ kz => ?_
 rintro _ W ⟨g, ds, pw, ok, rfl, hN, hb⟩
 refine ⟨_, rfl, kz _ _ hb fun I => ?_⟩
 rcases Bool.eq_false_or_eq_true (!ok) with f26 | f26
 · refine zb I 26 (!ok) (true) (f26) fun Al W I => ?_
   exact zret I (v := fun Al => .tuple #[.agg #[.bool false, .slice none 0 0, .slice none 0 0, .int .i64 0], .int .i64 1]) fun Al W I => b0x (h2 (by have := oFa f16; omega) (by rw [hN.1, if_neg (by simpa using f26)])) rfl I.below
 refine zb I 26 (!ok) (false) (f26) fun Al W I => ?_
 rcases Bool.eq_false_or_eq_true (decide (pw < (-6000))) with f29 | f29
 · have hN2 : N = some ⟨g, ds, pw⟩ := by rw [hN.1, if_pos (by simpa using f26)]
   refine zb I 29 (decide (pw < (-6000))) (true) (f29) fun Al W I => ?_
   refine zret I (v := fun Al => .tuple #[.agg #[.bool false, .slice none 0 0, .slice none 0 0, .int .i64 0], .int .i64 3]) fun Al W I => ?_
   first | exact b0x (h2 (by have := oFa f16; omega) (by rw [hN.1, if_neg (by simpa using f26)])) rfl I.below | exact b0x (h3 (by have := oFa f16; omega) hN2 (by exact .inl (oTr f29))) rfl I.below
 have hN2 : N = some ⟨g, ds, pw⟩ := by rw [hN.1, if_pos (by simpa using f26)]
 refine zb I 29 (decide (pw < (-6000))) (false) (f29) fun Al W I => ?_
 rcases Bool.eq_false_or_eq_true (decide (pw > 6000)) with f32 | f32
 · refine zb I 32 (decide (pw > 6000)) (true) (f32) fun Al W I => ?_
   refine zret I (v := fun Al => .tuple #[.agg #[.bool false, .slice none 0 0, .slice none 0 0, .int .i64 0], .int .i64 3]) fun Al W I => ?_
   first | exact b0x (h2 (by have := oFa f16; omega) (by rw [hN.1, if_neg (by simpa using f26)])) rfl I.below | exact b0x (h3 (by have := oFa f16; omega) hN2 (by exact .inr (oTr f32))) rfl I.below
 refine zb I 32 (decide (pw > 6000)) (false) (f32) fun Al W I => ?_
 have hdg := (h5 hN2).1
 have hdl := (h5 hN2).2
 have hrk := h4 (by have := oFa f16; omega) hN2 (fun (h : pw < -6000 ∨ 6000 < pw) => by have := oFa f29; have := oFa f32; omega)
 have hpw : -6000 ≤ pw ∧ pw ≤ 6000 := by have := oFa f29; have := oFa f32; omega
 have tr := HTr ds hN.2
 have hzd : ∀ x ∈ ds.dropWhile (· == 48), isDg x = true := fun x hx => hdg x (g1j x hx)
 have hzl : (ds.dropWhile (· == 48)).length ≤ ds.length := (List.dropWhile_sublist _).length_le
 have hnm := b1q ds
 generalize ds.dropWhile (· == 48) = dz at *
 have pz := HPa (a0e dz) (by rw [a0r]; simp only at hdl; omega) (v0g hzd)
 have hSl : (dig B32 (a0k ds)).length ≤ 800 := by rw [← hnm]; exact Nat.le_trans (g1n (B := B32) (by decide) hzd) (by simp only at hdl; omega)
 rw [a0s (fun x hx => by have := c0z.1 (hzd x hx); omega), hnm] at pz
 have r0 := q0j (q := ⟨g, ds, pw⟩)
 have r1 := z0q (q := ⟨g, ds, pw⟩)
 have r2 := fun h hp n f => z0r (q := ⟨g, ds, pw⟩) h hp (n := n) (f := f)
 simp only at r0 r1 r2
 generalize a0k ds = S at *
 have hod := fun p c W hp hc hl hT => HOd p c S W hp hc hl hT
 have hol : (dig B32 (S / 2 ^ tz S)).length ≤ 800 := Nat.le_trans (a0i a0a (Nat.div_le_self _ _)) hSl
 have hzb := z0h S hSl
 have hS0 := a0d a0a S
 generalize S / 2 ^ tz S = o at *
 generalize tz S = z at *
 have h5l : ∀ k, k ≤ 6000 → (dig B32 (5 ^ k)).length ≤ 6001 := fun k hk => i0r (K := 6001) a0a (by decide) (by omega) (by omega)
 refine zq I (fun Al W I => (tr W).out) fun Al W I => ?_
 refine zg I (fun Al W I => (pz W).out) fun Al V Iv _ hB _ kz => ?_
 rintro _ W ⟨p37, c37, rfl, o37, hb⟩
 refine ⟨_, rfl, kz _ _ hb fun I => ?_⟩
 have I := I.own o37
 rcases Bool.eq_false_or_eq_true ((((dig B32 S).length : Nat) : Int) == 0) with f40 | f40
 · refine zb I 40 ((((dig B32 S).length : Nat) : Int) == 0) (true) (f40) fun Al W I => ?_
   refine zqo I (fun Al W I => have hzW := I.bel.size; (HO 1 (by omega) W).out) fun Al W p41 c41 I => ?_
   refine zret I (v := fun Al => .tuple #[.agg #[.bool false, .slice none 0 0, .slice p41 (dig B32 1).length c41, .int .i64 0], .int .i64 0]) fun Al W I => ?_
   first | exact b0x (h2 (by have := oFa f16; omega) (by rw [hN.1, if_neg (by simpa using f26)])) rfl I.below | (rw [hrk.1, hrk.2, r0 (hS0.1 (by have := beq_iff_eq.1 f40; omega))]; exact v0i rfl I.fa.1 I.below)
 refine zb I 40 ((((dig B32 S).length : Nat) : Int) == 0) (false) (f40) fun Al W I => ?_
 refine zg I (fun Al W I => have hzW := I.bel.size; (hod p37 c37 W I.fa.1.rd I.fa.1.le_cap (by omega) I.fa.2.1).out) fun Al V Iv _ hB _ kz => ?_
 rintro _ W ⟨p45, c45, rfl, o45, hb⟩
 refine ⟨_, rfl, kz _ _ hb fun I => ?_⟩
 have I := I.own o45
 refine zg I (fun Al W I => have hzW := I.bel.size; (HO 5 (by omega) W).out) fun Al V Iv _ hB _ kz => ?_
 rintro _ W ⟨p48, c48, rfl, o48, hb⟩
 refine ⟨_, rfl, kz _ _ hb fun I => ?_⟩
 have I := I.own o48
 refine zi I 51 .i64 (0 - pw) ((-pw)) ((by rw [Int.zero_sub]; exact iwo)) fun Al W I => ?_
 refine zm I 52 .i64 (if ((-pw) : Int) > pw then (-pw) else pw) ((pw.natAbs : Int)) ((by omega)) fun Al W I => ?_
 refine zg I (fun Al W I => have hzW := I.bel.size; (HPw p48 c48 pw.natAbs W _ I.fa.1 I.below.size (by omega)).out) fun Al V Iv _ hB _ kz => ?_
 rintro _ W ⟨p53, c53, rfl, o53, hb⟩
 refine ⟨_, rfl, kz _ _ hb fun I => ?_⟩
 have I := I.own o53
 refine zqo I (fun Al W I => have hzW := I.bel.size; (HO 1 (by omega) W).out) fun Al W p56 c56 I => ?_
 refine zi I 59 .i64 ((z : Int) + pw) (((z : Int) + pw)) ((by exact iwo)) fun Al W I => ?_
 rcases Bool.eq_false_or_eq_true (decide (pw ≥ 0)) with f62 | f62
 · refine zb I 62 (decide (pw ≥ 0)) (true) (f62) fun Al W I => ?_
   refine zqo I (fun Al W I => have hzW := I.bel.size; (HMu p45 p53 c45 c53 o (5 ^ pw.natAbs) W I.fa.2.2.2.1.rd I.fa.2.1.rd (by have := h5l pw.natAbs (by omega); omega)).out) fun Al W p65 c65 I => ?_
   refine zret I (v := fun Al => .tuple #[.agg #[.bool g, .slice p65 (dig B32 (o * 5 ^ pw.natAbs)).length c65, .slice p56 (dig B32 1).length c56, .int .i64 ((z : Int) + pw)], .int .i64 0]) fun Al W I => ?_
   first | exact b0x (h2 (by have := oFa f16; omega) (by rw [hN.1, if_neg (by simpa using f26)])) rfl I.below | (rw [hrk.1, hrk.2, r1 (fun h => by have := hS0.2 h; have := bnF f40; omega) (oTr f62)]; have e := oTr f62; rw [show pw.toNat = pw.natAbs by omega]; exact ⟨p65, c65, p56, c56, rfl, I.fa.1, I.fa.2.1, I.below⟩)
 refine zb I 62 (decide (pw ≥ 0)) (false) (f62) fun Al W I => ?_
 refine h0p I (fun gk fr bx gs => ∃ (U900 : Nat → Value) (n : Nat) (P : Nat) (x : Int) (pn : Option Addr) (cn : Nat), fr = (.v (.string t) :: .v undef :: .p 0 0 :: .v (.int .i64 0) :: .v (.bool g) :: .v (.string (a0e ds)) :: .v (.int .i64 x) :: .v (.bool ok) :: .v (.slice p45 (dig B32 o).length c45) :: .v (.int .i64 (z : Int)) :: .v (.slice p53 (dig B32 (5 ^ pw.natAbs)).length c53) :: .p 1 0 :: sw U900 12 4 (.v (.bool false) :: sw U900 17 9 (.v (.bool false) :: sw U900 27 6 (.v (.bool false) :: sw U900 34 6 (.v (.bool false) :: sw U900 41 21 (.v (.bool false) :: sw U900 63 27 []))))) : List SV) ∧ bx = [⟨25, [.v (.bool false), .v (.slice none 0 0), .v (.slice none 0 0), .v (.int .i64 0)], false⟩, ⟨25, [.v (.bool g), .v (.slice pn (dig B32 n).length cn), .v (.slice p56 (dig B32 1).length c56), .v (.int .i64 ((z : Int) + pw))], false⟩] ∧ gs = [ownF w.heap.size .u32 143 pn cn (dig B32 n), ownF w.heap.size .u32 143 p56 c56 (dig B32 1), tabF] ∧ (b0l n P = b0l o pw.natAbs) ∧ (P ≤ 6000) ∧ (x = -(P : Int)) ∧ ((dig B32 n).length ≤ 800) ∧ (gk = P)) pw.natAbs (fun Al W U I => ⟨_, ⟨U, o, pw.natAbs, pw, p45, c45, rfl, rfl, rfl, rfl, (by omega), (by have := oFa f62; omega), hol, rfl⟩, I.pick [3, 0, 5]⟩) ?_
 rintro J0 gk0 _ _ _ ⟨U900, n, P, x, pn, cn, rfl, rfl, rfl, hcf, hPl, hx, hnl, hgk⟩ hJ0 Al W I
 rcases Bool.eq_false_or_eq_true (decide (x < 0)) with f69 | f69
 · refine zb I 69 (decide (x < 0)) (true) (f69) fun Al W I => ?_
   refine zd [] I fun Al W I => ?_
   refine zk [0, 1] I fun I => ?_
   refine zo 2 I fun I => ?_
   refine zqo I (fun Al W I => have hzW := I.bel.size; (HO 5 (by omega) W).out) fun Al W p73 c73 I => ?_
   refine zo 3 I fun I => ?_
   refine zg I (fun Al W I => have hzW := I.bel.size; (HDv pn p73 cn c73 n W I.fa.2.1.rd I.fa.1.rd (by omega)).out) fun Al V Iv _ hB _ kz => ?_
   rintro _ W ⟨p74, c74, q74, d74, rfl, a74, b74, hb, -⟩
   refine ⟨_, rfl, kz _ _ hb fun I => ?_⟩
   have I := I.own a74
   have I := I.own b74
   refine zk [4, 5, 6, 7, 8] I fun I => ?_
   rcases Bool.eq_false_or_eq_true (decide ((((dig B32 (n % 5)).length : Nat) : Int) > 0)) with f79 | f79
   · refine zb I 79 (decide ((((dig B32 (n % 5)).length : Nat) : Int) > 0)) (true) (f79) fun Al W I => ?_
     have hfin := m0g (n := n) (P := P) (by exact .inr (by have := oTr f79; have := a0d a0a (n % 5); omega))
     rw [hcf] at hfin
     refine zqo I (fun Al W I => have hzW := I.bel.size; (HO 5 (by omega) W).out) fun Al W p84 c84 I => ?_
     refine zi I 86 .i64 (0 - x) ((P : Int)) ((by rw [hx, show (0 : Int) - -(P : Int) = (P : Int) by omega]; exact iwo)) fun Al W I => ?_
     refine zqo I (fun Al W I => have hzW := I.bel.size; (HPw p84 c84 P W _ I.fa.1 I.below.size (by omega)).out) fun Al W p87 c87 I => ?_
     refine zret I (v := fun Al => .tuple #[.agg #[.bool g, .slice pn (dig B32 n).length cn, .slice p87 (dig B32 (5 ^ P)).length c87, .int .i64 ((z : Int) + pw)], .int .i64 0]) fun Al W I => ?_
     first | exact b0x (h2 (by have := oFa f16; omega) (by rw [hN.1, if_neg (by simpa using f26)])) rfl I.below | (rw [hrk.1, hrk.2, r2 (fun h => by have := hS0.2 h; have := bnF f40; omega) (oFa f62) n P (by rw [← hfin]; have := oFa f62; congr 1; omega)]; exact ⟨pn, cn, p87, c87, rfl, I.fa.2.2.2.2.2.1, I.fa.1, I.below⟩)
   refine zb I 79 (decide ((((dig B32 (n % 5)).length : Nat) : Int) > 0)) (false) (f79) fun Al W I => ?_
   refine zi I 82 .i64 (x + 1) ((x + 1)) ((by exact iwo)) fun Al W I => ?_
   exact a0j I J0 fun Al W U I => hJ0 (P - 1) _ _ _ _ _ ((by have := oTr f69; omega)) ⟨U, n / 5, P - 1, x + 1, p74, c74, rfl, rfl, rfl, (by rw [← hcf]; exact (v0h (by have := oTr f69; omega) (by have := oFa f79; have := a0d a0a (n % 5); omega)).symm), (by omega), (by have := oTr f69; omega), (Nat.le_trans (a0i a0a (Nat.div_le_self _ _)) hnl), rfl⟩ (I.pick [1, 4, 5])
 refine zb I 69 (decide (x < 0)) (false) (f69) fun Al W I => ?_
 have hfin := m0g (n := n) (P := P) (by exact .inl (by have := oFa f69; omega))
 rw [hcf] at hfin
 refine zqo I (fun Al W I => have hzW := I.bel.size; (HO 5 (by omega) W).out) fun Al W p84 c84 I => ?_
 refine zi I 86 .i64 (0 - x) ((P : Int)) ((by rw [hx, show (0 : Int) - -(P : Int) = (P : Int) by omega]; exact iwo)) fun Al W I => ?_
 refine zqo I (fun Al W I => have hzW := I.bel.size; (HPw p84 c84 P W _ I.fa.1 I.below.size (by omega)).out) fun Al W p87 c87 I => ?_
 refine zret I (v := fun Al => .tuple #[.agg #[.bool g, .slice pn (dig B32 n).length cn, .slice p87 (dig B32 (5 ^ P)).length c87, .int .i64 ((z : Int) + pw)], .int .i64 0]) fun Al W I => ?_
 first | exact b0x (h2 (by have := oFa f16; omega) (by rw [hN.1, if_neg (by simpa using f26)])) rfl I.below | (rw [hrk.1, hrk.2, r2 (fun h => by have := hS0.2 h; have := bnF f40; omega) (oFa f62) n P (by rw [← hfin]; have := oFa f62; congr 1; omega)]; exact ⟨pn, cn, p87, c87, rfl, I.fa.2.2.1, I.fa.1, I.below⟩)
end Go.Proofs.YtbamiajjampgnaaGreatDoor
namespace Go.Slip
open Go.RowKit
def l0c (c : Nat) (g : Bool) : List Nat := if c = 2 then [] else (if g then [45] else []) ++ (if c = 1 then [48] else if c = 3 then [105, 110, 102] else if c = 4 then [110, 111, 110, 101] else [114, 101, 115, 101, 114, 118, 101, 100])
def p0d (c : Nat) : List Nat := if c = 1 then [48] else if c = 3 then [105, 110, 102] else if c = 4 then [110, 111, 110, 101] else if c = 5 then [114, 101, 115, 101, 114, 118, 101, 100] else []
theorem v0k (c : Nat) (g : Bool) : Byt (l0c c g) := by
 unfold l0c
 intro x hx
 split at hx
 · exact (nomatch hx)
 · rcases List.mem_append.1 hx with h | h
   · split at h
     · simp at h; omega
     · exact (nomatch h)
   · repeat' split at h
     all_goals (simp at h; omega)
theorem i0l {c : Nat} {g : Bool} : l0c c g = [] ↔ c = 2 := by
 unfold l0c
 by_cases h : c = 2
 · rw [if_pos h]; exact iff_of_true rfl h
 · rw [if_neg h]
   refine iff_of_false (fun k => ?_) h
   have k2 := (List.append_eq_nil_iff.1 k).2
   repeat' split at k2
   all_goals cases k2
theorem s0u (n : Nat) : Byt (b0f n) := fun x hx => by have := g0p n x hx; omega
theorem g1o (p : Int) : Byt (f0t p) := by
 unfold f0t
 split
 · intro x hx
   rcases List.mem_cons.1 hx with rfl | hx
   · omega
   · exact s0u _ x hx
 · exact s0u _
end Go.Slip
namespace Go.Proofs.YtbamiajjampgnaaGreatDoor
open Go.RowKit Go.Slip
theorem o1o (u : Int) (w : World) (hu : -100000 ≤ u ∧ u ≤ 100000) :
 Calls Tryz.prog 182 #[.int .i64 u] w fun en w' => ∃ p c q d, en = .returned (.tuple #[.slice p (dig B32 (10 ^ u.toNat)).length c, .slice q (dig B32 (10 ^ (-u).toNat)).length d]) ∧ Own w' w.heap.size .u32 143 p c (dig B32 (10 ^ u.toNat)) ∧ Own w' w.heap.size .u32 143 q d (dig B32 (10 ^ (-u).toNat)) ∧ Below w.heap.size w w' := by
 have HO := fun (k : Nat) hk W => hi0 (sof (k : Int) k rfl hk W)
 have HPw := fun p c K W base ho hb hK => hi0 (z0f base p c 10 K W ho hb (by omega) hK)
 have e1 : u < 0 → u.toNat = 0 ∧ (-u).toNat = u.natAbs := fun h => by omega
 have e2 : ¬ u < 0 → u.toNat = u.natAbs ∧ (-u).toNat = 0 := fun h => by omega
 have I := Inv.start w [] True.intro
 refine a0g [.v (.int .i64 u)] I Tryz.func182 ?_
 refine zqo I (fun Al W I => have hzW := I.bel.size; (HO 10 (by omega) W).out) fun Al W p5 c5 I => ?_
 refine zi I 8 .i64 (0 - u) ((-u)) ((by rw [Int.zero_sub]; exact iwo)) fun Al W I => ?_
 refine zm I 9 .i64 (if ((-u) : Int) > u then (-u) else u) ((u.natAbs : Int)) ((by omega)) fun Al W I => ?_
 refine zqo I (fun Al W I => have hzW := I.bel.size; (HPw p5 c5 u.natAbs W _ I.fa.1 I.below.size (by omega)).out) fun Al W p10 c10 I => ?_
 rcases Bool.eq_false_or_eq_true (decide (u < 0)) with f12 | f12
 · refine zb I 12 (decide (u < 0)) (true) (f12) fun Al W I => ?_
   refine zqo I (fun Al W I => have hzW := I.bel.size; (HO 1 (by omega) W).out) fun Al W p13 c13 I => ?_
   refine zret I (v := fun Al => .tuple #[.slice p13 (dig B32 1).length c13, .slice p10 (dig B32 (10 ^ u.natAbs)).length c10]) fun Al W I => ?_
   (obtain ⟨h1, h2⟩ := e1 (oTr f12); rw [h1, h2, Nat.pow_zero]; exact ⟨p13, c13, p10, c10, rfl, I.fa.1, I.fa.2.1, I.below⟩)
 refine zb I 12 (decide (u < 0)) (false) (f12) fun Al W I => ?_
 refine zqo I (fun Al W I => have hzW := I.bel.size; (HO 1 (by omega) W).out) fun Al W p16 c16 I => ?_
 refine zret I (v := fun Al => .tuple #[.slice p10 (dig B32 (10 ^ u.natAbs)).length c10, .slice p16 (dig B32 1).length c16]) fun Al W I => ?_
 (obtain ⟨h1, h2⟩ := e2 (oFa f12); rw [h1, h2, Nat.pow_zero]; exact ⟨p10, c10, p16, c16, rfl, I.fa.2.1, I.fa.1, I.below⟩)
def o1p (w : World) (a b c : Nat) (en : Ending) (w' : World) : Prop :=
 ∃ p x q y r z, en = .returned (.tuple #[.slice p (dig B32 a).length x, .slice q (dig B32 b).length y, .slice r (dig B32 c).length z]) ∧ Own w' w.heap.size .u32 143 p x (dig B32 a) ∧ Own w' w.heap.size .u32 143 q y (dig B32 b) ∧ Own w' w.heap.size .u32 143 r z (dig B32 c) ∧ Below w.heap.size w w'
theorem x0t (g : Bool) (num : Nat) (E u : Int) (p q : Option Addr) (a b : Nat) (w : World) (hp : Rd w .u32 p (dig B32 num)) (hq : Rd w .u32 q (dig B32 1)) (hl : (dig B32 num).length ≤ 1000) (hE : -100000 ≤ E ∧ E ≤ 100000) (hu : -100000 ≤ u ∧ u ≤ 100000) :
 Calls Tryz.prog 141 #[.agg #[.bool g, .slice p (dig B32 num).length a, .slice q (dig B32 1).length b, .int .i64 E], .int .i64 u] w (o1p w (q10 (numP num E) (denP 1 E) u) (r10 (numP num E) (denP 1 E) u) (d10 (denP 1 E) u)) := by
 have hN : num * 10 ^ u.toNat * 2 ^ E.toNat = n10 (numP num E) u := by unfold n10 numP; grind
 have hD : 1 * 10 ^ (-u).toNat * 2 ^ (-E).toNat = d10 (denP 1 E) u := by unfold d10 denP; grind
 have hd0 : 0 < d10 (denP 1 E) u := r0n (d0l (by omega) E) u
 have eq : q10 (numP num E) (denP 1 E) u = n10 (numP num E) u / d10 (denP 1 E) u := rfl
 have er : r10 (numP num E) (denP 1 E) u = n10 (numP num E) u % d10 (denP 1 E) u := rfl
 rw [eq, er, ← hN, ← hD]
 rw [← hD] at hd0
 clear eq er hN hD
 have l1 : (dig B32 1).length ≤ 1 := (a0h a0a 1 1).2 (by decide)
 have l10 : ∀ k : Nat, k ≤ 100000 → (dig B32 (10 ^ k)).length ≤ 100001 := fun k hk => i0r (K := 100001) a0a (by decide) (by omega) (by omega)
 have l2 : ∀ k : Nat, k ≤ 100000 → (dig B32 (2 ^ k)).length ≤ 100001 := fun k hk => i0r (K := 100001) a0a (by decide) (by omega) (by omega)
 have k1 := l10 u.toNat (by omega)
 have k2 := l10 (-u).toNat (by omega)
 have k3 := l2 E.toNat (by omega)
 have k4 := l2 (-E).toNat (by omega)
 have m1 := b0i a0a num (10 ^ u.toNat)
 have m2 := b0i a0a 1 (10 ^ (-u).toNat)
 have m3 := b0i a0a (num * 10 ^ u.toNat) (2 ^ E.toNat)
 have m4 := b0i a0a (1 * 10 ^ (-u).toNat) (2 ^ (-E).toNat)
 have HTn := fun W => hi0 (o1o u W hu)
 have e1 : E.toNat = 0 ∨ (E : Int) = (E.toNat : Nat) := by omega
 have e2 : 0 ≤ E → (-E).toNat = 0 := by omega
 have e3 : ¬ 0 ≤ E → E.toNat = 0 := by omega
 generalize 10 ^ u.toNat = U at *
 generalize 10 ^ (-u).toNat = V2 at *
 have HM1 := fun W r c h h2 => hi0 (s0b p r _ _ a c num U W h h2 rfl rfl (by omega))
 have HM2 := fun W r c h h2 => hi0 (s0b q r _ _ b c 1 V2 W h h2 rfl rfl (by omega))
 generalize num * U = X at *
 generalize 1 * V2 = Y at *
 have HS := fun W r c x (n : Nat) (M : Int) h (h1 : (dig B32 x).length ≤ 102001) (h2 : n ≤ 100000) h3 => hi0 (sshl r _ c x n (x * 2 ^ n) M W h rfl (by omega) (by omega) h3 rfl)
 have HDv := fun W r s c d x y h h2 (h3 : (dig B32 x).length ≤ 300000) (h4 : (dig B32 y).length ≤ 300000) h5 => hi0 (h0k r s _ _ c d x y W h h2 rfl rfl (by omega) (by omega) h5)
 have I := Inv.start w [rdF .u32 p (dig B32 num), rdF .u32 q (dig B32 1)] ⟨hp, hq, True.intro⟩
 refine a0g [.v (.agg #[.bool g, .slice p (dig B32 num).length a, .slice q (dig B32 1).length b, .int .i64 E]), .v (.int .i64 u)] I Tryz.func141 ?_
 refine zg I (fun Al W I => (HTn W).out) fun Al V Iv _ hB _ kz => ?_
 rintro _ W ⟨p15, c15, q15, d15, rfl, o15, r15, hb⟩
 refine ⟨_, rfl, kz _ _ hb fun I => ?_⟩
 have I := I.own o15
 have I := I.own r15
 refine zd [] I fun Al W I => ?_
 refine zk [0, 1, 2, 4, 5, 6] I fun I => ?_
 refine zo 3 I fun I => ?_
 refine zqo I (fun Al W I => (HM1 W p15 c15 I.fa.2.2.1 I.fa.2.1.rd).out) fun Al W p21 c21 I => ?_
 refine zo 7 I fun I => ?_
 refine zqo I (fun Al W I => (HM2 W q15 d15 I.fa.2.2.2.2.1 I.fa.2.1.rd).out) fun Al W p25 c25 I => ?_
 refine zk [8, 9] I fun I => ?_
 rcases Bool.eq_false_or_eq_true (decide (E ≥ 0)) with f28 | f28
 · refine zb I 28 (decide (E ≥ 0)) (true) (f28) fun Al W I => ?_
   refine zqo I (fun Al W I => have hzW := I.bel.size; (HS W p21 c21 X E.toNat E I.fa.2.1.rd (by omega) (by omega) (by have := oTr f28; omega)).out) fun Al W p32 c32 I => ?_
   refine zg I (fun Al W I => have hzW := I.bel.size; (HDv W p32 p25 c32 c25 (X * 2 ^ E.toNat) Y I.fa.1.rd I.fa.2.1.rd (by omega) (by omega) (by have h := e2 (oTr f28); rw [h, Nat.pow_zero, Nat.mul_one] at hd0; exact hd0)).out) fun Al V Iv _ hB _ kz => ?_
   rintro _ W ⟨p41, c41, q41, d41, rfl, o41, r41, hb, -⟩
   refine ⟨_, rfl, kz _ _ hb fun I => ?_⟩
   have I := I.own o41
   have I := I.own r41
   refine zret I (v := fun Al => .tuple #[.slice p41 (dig B32 (X * 2 ^ E.toNat / Y)).length c41, .slice q41 (dig B32 (X * 2 ^ E.toNat % Y)).length d41, .slice p25 (dig B32 Y).length c25]) fun Al W I => ?_
   (have h := e2 (oTr f28); rw [h, Nat.pow_zero, Nat.mul_one]; exact ⟨p41, c41, q41, d41, p25, c25, rfl, I.fa.2.1, I.fa.1, I.fa.2.2.2.1, I.below⟩)
 refine zb I 28 (decide (E ≥ 0)) (false) (f28) fun Al W I => ?_
 refine zi I 36 .i64 (0 - E) ((-E)) ((by rw [Int.zero_sub]; exact iwo)) fun Al W I => ?_
 refine zqo I (fun Al W I => have hzW := I.bel.size; (HS W p25 c25 Y (-E).toNat (-E) I.fa.1.rd (by omega) (by omega) (by have := oFa f28; omega)).out) fun Al W p37 c37 I => ?_
 refine zg I (fun Al W I => have hzW := I.bel.size; (HDv W p21 p37 c21 c37 X (Y * 2 ^ (-E).toNat) I.fa.2.2.1.rd I.fa.1.rd (by omega) (by omega) hd0).out) fun Al V Iv _ hB _ kz => ?_
 rintro _ W ⟨p41, c41, q41, d41, rfl, o41, r41, hb, -⟩
 refine ⟨_, rfl, kz _ _ hb fun I => ?_⟩
 have I := I.own o41
 have I := I.own r41
 refine zret I (v := fun Al => .tuple #[.slice p41 (dig B32 (X / (Y * 2 ^ (-E).toNat))).length c41, .slice q41 (dig B32 (X % (Y * 2 ^ (-E).toNat))).length d41, .slice p37 (dig B32 (Y * 2 ^ (-E).toNat)).length c37]) fun Al W I => ?_
 (have h := e3 (oFa f28); rw [h, Nat.pow_zero, Nat.mul_one]; exact ⟨p41, c41, q41, d41, p37, c37, rfl, I.fa.2.1, I.fa.1, I.fa.2.2.1, I.below⟩)
theorem b1s (n : Int) (v : Vl) (p : Option Addr) (c base : Nat) (w : World) (hp : Own w base .u32 143 p c (dig B32 v.d)) (hpw : -100000 ≤ v.pow ∧ v.pow ≤ 100000) :
 Calls Tryz.prog 65 #[.int .i64 n, .agg #[.int .i64 (v.cls : Int), .bool v.neg, .slice p (dig B32 v.d).length c, .int .i64 v.pow]] w fun en w' => ∃ q d, en = .returned (.agg #[.bool v.neg, .slice p (dig B32 v.d).length c, .slice q (dig B32 1).length d, .int .i64 (wid (fmt n).g * v.pow)]) ∧ Own w' w.heap.size .u32 143 q d (dig B32 1) ∧ Below w.heap.size w w' := by
 have HG := fun W => hi0 (z0j n W)
 have HO := fun (k : Nat) hk W => hi0 (sof (k : Int) k rfl hk W)
 have wp := b0e (fmt n).g
 have hw : wid (fmt n).g = if (fmt n).g.rad = 16 then 4 else 1 := rfl
 have hm := m0b (wd := wid (fmt n).g) (k := v.pow) (B := 100000) wp.2 hpw
 generalize wid (fmt n).g = wd at *
 generalize (fmt n).g = gg at *
 generalize d0f n = er at *
 obtain ⟨bb, hbb⟩ : ∃ bb, (gg.rad == 16) = bb := ⟨_, rfl⟩
 have I := Inv.start w [ownF base .u32 143 p c (dig B32 v.d)] ⟨hp, True.intro⟩
 refine a0g [.v (.int .i64 n), .v (.agg #[.int .i64 (v.cls : Int), .bool v.neg, .slice p (dig B32 v.d).length c, .int .i64 v.pow])] I Tryz.func65 ?_
 refine zq I (fun Al W I => (HG W).out) fun Al W I => ?_
 refine zb I 15 (gg.rad == 16) (bb) (hbb) fun Al W I => ?_
 refine zcut I (some 2000015) (fun fr bx gs => ∃ (U1 : Nat → Value) (k : Int), fr = (.v (.int .i64 n) :: .v (.agg #[.int .i64 (v.cls : Int), .bool v.neg, .slice p (dig B32 v.d).length c, .int .i64 v.pow]) :: .v undef :: .p 0 0 :: .p 1 0 :: .p 2 0 :: .v (U1 6) :: .v (.int .i64 k) :: sw U1 8 7 (.v (.bool bb) :: sw U1 16 10 []) : List SV) ∧ bx = [⟨66, [.v (.int .i64 (v.cls : Int)), .v (.bool v.neg), .v (.slice p (dig B32 v.d).length c), .v (.int .i64 v.pow)], false⟩, ⟨25, [.v (.bool false), .v (.slice none 0 0), .v (.slice none 0 0), .v (.int .i64 0)], false⟩, ⟨40, [.v (.int .i64 gg.rad), .v (.int .i64 gg.digs), .v (.int .i64 gg.lo), .v (.int .i64 gg.hi), .v (.bool gg.grad)], false⟩] ∧ gs = [ownF base .u32 143 p c (dig B32 v.d)] ∧ ((wd : Int) = k)) ?_ ?_
 · intro J hJ Al W I
   rcases Bool.eq_false_or_eq_true bb with rfl | rfl
   · exact a0j I J fun Al W U I => hJ _ _ _ _ _ ⟨U, 4, rfl, rfl, rfl, (by rw [hw, if_pos (beq_iff_eq.1 hbb)]; rfl)⟩ (I.pick [0])
   exact a0j I J fun Al W U I => hJ _ _ _ _ _ ⟨U, 1, rfl, rfl, rfl, (by rw [hw, if_neg (bnF hbb)]; rfl)⟩ (I.pick [0])
 rintro _ _ _ ⟨U1, k, rfl, rfl, rfl, hk⟩ Al W I
 refine zd [1] I fun Al W I => ?_
 refine zk [0, 1, 2, 3, 5, 6, 7] I fun I => ?_
 refine zki 8 I .i64 (k * v.pow) (((wd : Int) * v.pow)) ((by rw [← hk]; exact iwo)) fun I => ?_
 refine zo 4 I fun I => ?_
 refine zqo I (fun Al W I => have hzW := I.bel.size; (HO 1 (by omega) W).out) fun Al W p20 c20 I => ?_
 refine zk [9] I fun I => ?_
 refine zo 10 I fun I => ?_
 refine zn I fun Al W I => ?_
 exact zret I fun Al W I => ⟨p20, c20, rfl, I.fa.1, I.below⟩
theorem s0v (g : Bool) (s : List Nat) (p : Int) (w : World) (hs : Byt s) (h0 : s ≠ []) (hl : s.length ≤ 100) (hp : -100000 < p ∧ p < 100000) (hT : PowW w) :
 Calls Tryz.prog 68 #[.bool g, .string (a0e s), .int .i64 p] w fun en w' => en = .returned (.string (a0e (numT g s p))) ∧ Below w.heap.size w w' := by
 have hz := a0r s
 have h1 := j0s hs 0 1
 have h2 : (a0e s).extract 1 (a0e s).size = a0e (s.drop 1) := by rw [j0s hs, hz, List.take_length]
 have hI := fun W h => hi0 (k1j p (by omega) W h)
 have hil : (f0t p).length ≤ 6 := by
  have h : (b0f p.natAbs).length ≤ 5 := (b0h _ 5 (by omega)).2 (by omega)
  unfold f0t
  split
  · rw [List.length_cons, show (-p).toNat = p.natAbs by omega]; omega
  · rw [show p.toNat = p.natAbs by omega]; omega
 have hl0 : 0 < s.length := List.length_pos_iff.2 h0
 have ha : (s.take 1).length = 1 := by rw [List.length_take]; omega
 have hb : (s.drop 1).length = s.length - 1 := by rw [List.length_drop]
 have eN : numT g s p = (if g then [45] else []) ++ (s.take 1 ++ ((if 1 < s.length then 46 :: s.drop 1 else []) ++ 101 :: f0t p)) := rfl
 rw [List.drop_zero] at h1
 generalize s.take 1 = a at *
 generalize s.drop 1 = b at *
 generalize f0t p = ip at *
 generalize a0e s = S at *
 obtain ⟨q, hq⟩ : ∃ q, decide ((S.size : Int) > 1) = q := ⟨_, rfl⟩
 have I := Inv.start w [powF] ⟨hT, True.intro⟩
 refine a0g [.v (.bool g), .v (.string S), .v (.int .i64 p)] I Tryz.func68 ?_
 refine zx I 9 (fun _ => .string (a0e a)) (fun Al W I => (by rw [← h1]; exact i0j uSt (.inl ⟨rfl, rfl⟩) (.inr rfl) (Nat.zero_le _) (by omega))) fun Al W I => ?_
 refine zb I 12 (decide ((S.size : Int) > 1)) (q) (hq) fun Al W I => ?_
 refine zcut I (some 2000012) (fun fr bx gs => ∃ (U1 : Nat → Value) (Y : LN), fr = (.v (.bool g) :: .v (.string S) :: .v (.int .i64 p) :: su 3 (.v (Go.Value.string (ByteArray.mk #[])) :: .v (.string (a0e Y)) :: sw U1 8 4 (.v (.bool q) :: sw U1 13 5 (.v undef :: sw U1 19 7 []))) : List SV) ∧ bx = [] ∧ gs = [powF] ∧ (Y = a ++ (if 1 < s.length then 46 :: b else [])) ∧ (Y.length ≤ 200)) ?_ ?_
 · intro J hJ Al W I
   rcases Bool.eq_false_or_eq_true q with rfl | rfl
   · refine zx I 15 (fun _ => .string (a0e b)) (fun Al W I => (by rw [← h2]; exact i0j uSt (.inr rfl) (.inl ⟨rfl, rfl⟩) (by omega) (Nat.le_refl _))) fun Al W I => ?_
     refine zbin I 16 _ (fun _ _ _ _ _ => (f0e [46] b (by simp; omega))) fun Al W I => ?_
     refine zbin I 17 _ (fun _ _ _ _ _ => (f0e a (46 :: b) (by simp; omega))) fun Al W I => ?_
     exact a0j I J fun Al W U I => hJ _ _ _ _ _ ⟨U, (a ++ 46 :: b), rfl, rfl, rfl, (by rw [if_pos (by have := oTr hq; omega)]), (by rw [List.length_append, List.length_cons]; omega)⟩ (I.pick [0])
   exact a0j I J fun Al W U I => hJ _ _ _ _ _ ⟨U, a, rfl, rfl, rfl, (by rw [if_neg (by have := oFa hq; omega), List.append_nil]), (by omega)⟩ (I.pick [0])
 rintro _ _ _ ⟨U1, Y, rfl, rfl, rfl, hY, hYl⟩ Al W I
 refine zcut I (some 2000018) (fun fr bx gs => ∃ (U2 : Nat → Value) (X : LN), fr = (.v (.bool g) :: .v (.string S) :: .v (.int .i64 p) :: su 3 (.v (Go.Value.string (ByteArray.mk #[])) :: .v (.string (a0e X)) :: sw U2 8 4 (.v (.bool q) :: sw U2 13 5 (.v (.bool g) :: sw U2 19 7 []))) : List SV) ∧ bx = [] ∧ gs = [powF] ∧ (X ++ 101 :: ip = numT g s p) ∧ (X.length ≤ 300)) ?_ ?_
 · intro J hJ Al W I
   rcases Bool.eq_false_or_eq_true g with rfl | rfl
   · refine zbin I 20 _ (fun _ _ _ _ _ => (f0e [45] Y (by simp; omega))) fun Al W I => ?_
     exact a0j I J fun Al W U I => hJ _ _ _ _ _ ⟨U, (45 :: Y), rfl, rfl, rfl, (by rw [eN, if_pos rfl, hY]; simp), (by rw [List.length_cons]; omega)⟩ (I.pick [0])
   exact a0j I J fun Al W U I => hJ _ _ _ _ _ ⟨U, Y, rfl, rfl, rfl, (by rw [eN, if_neg Bool.false_ne_true, hY]; simp), (by omega)⟩ (I.pick [0])
 rintro _ _ _ ⟨U2, X, rfl, rfl, rfl, hX, hXl⟩ Al W I
 refine zbin I 22 _ (fun _ _ _ _ _ => (f0e X [101] (by simp; omega))) fun Al W I => ?_
 refine zq I (fun Al W I => (hI W I.fa.1).out) fun Al W I => ?_
 refine zbin I 25 _ (fun _ _ _ _ _ => (f0e (X ++ [101]) ip (by simp; omega))) fun Al W I => ?_
 exact zret I (v := fun Al => .string (a0e (X ++ [101] ++ ip))) fun Al W I => ⟨by rw [← hX]; simp, I.below⟩
theorem k1m (a b : Vl) (p q : Option Addr) (c d b1 b2 : Nat) (w : World) (hp : Own w b1 .u32 143 p c (dig B32 a.d)) (hq : Own w b2 .u32 143 q d (dig B32 b.d)) (h1 : (dig B32 a.d).length ≤ 100000) (h2 : (dig B32 b.d).length ≤ 100000) :
 Calls Tryz.prog 69 #[.agg #[.int .i64 (a.cls : Int), .bool a.neg, .slice p (dig B32 a.d).length c, .int .i64 a.pow], .agg #[.int .i64 (b.cls : Int), .bool b.neg, .slice q (dig B32 b.d).length d, .int .i64 b.pow]] w fun en w' => en = .returned (.bool (decide (a.cls = b.cls ∧ a.neg = b.neg ∧ a.pow = b.pow ∧ a.d = b.d))) ∧ Below w.heap.size w w' := by
 have HC := fun W hp hq => hi0 (e0y p q _ _ c d a.d b.d W hp hq rfl rfl (by omega) (by omega))
 have hc : cmpN a.d b.d = 0 ↔ a.d = b.d := ⟨u0y, fun h => by rw [h, v0x]⟩
 obtain ⟨ac, an, ad, ap⟩ := a
 obtain ⟨bc, bn, bd, bp⟩ := b
 simp only at HC hc hp hq h1 h2 ⊢
 generalize cmpN ad bd = k at *
 have I := Inv.start w [ownF b1 .u32 143 p c (dig B32 ad), ownF b2 .u32 143 q d (dig B32 bd)] ⟨hp, hq, True.intro⟩
 refine a0g [.v (.agg #[.int .i64 (ac : Int), .bool an, .slice p (dig B32 ad).length c, .int .i64 ap]), .v (.agg #[.int .i64 (bc : Int), .bool bn, .slice q (dig B32 bd).length d, .int .i64 bp])] I Tryz.func69 ?_
 refine zcut I (some 3000001) (fun fr bx gs => ∃ (U1 : Nat → Value) (r : Bool), fr = (.v (.agg #[.int .i64 (ac : Int), .bool an, .slice p (dig B32 ad).length c, .int .i64 ap]) :: .v (.agg #[.int .i64 (bc : Int), .bool bn, .slice q (dig B32 bd).length d, .int .i64 bp]) :: .p 0 0 :: .p 1 0 :: .v (.bool r) :: sw U1 5 27 [] : List SV) ∧ bx = [⟨66, [.v (.int .i64 (ac : Int)), .v (.bool an), .v (.slice p (dig B32 ad).length c), .v (.int .i64 ap)], false⟩, ⟨66, [.v (.int .i64 (bc : Int)), .v (.bool bn), .v (.slice q (dig B32 bd).length d), .v (.int .i64 bp)], false⟩] ∧ gs = [ownF b1 .u32 143 p c (dig B32 ad), ownF b2 .u32 143 q d (dig B32 bd)] ∧ (r = decide (ac = bc ∧ an = bn ∧ ap = bp ∧ ad = bd))) ?_ ?_
 · intro J hJ Al W I
   rcases Bool.eq_false_or_eq_true ((ac : Int) == (bc : Int)) with f9 | f9
   · refine zb I 9 ((ac : Int) == (bc : Int)) (true) (f9) fun Al W I => ?_
     rcases Bool.eq_false_or_eq_true (an == bn) with f15 | f15
     · refine zb I 15 (an == bn) (true) (f15) fun Al W I => ?_
       rcases Bool.eq_false_or_eq_true (ap == bp) with f22 | f22
       · refine zb I 22 (ap == bp) (true) (f22) fun Al W I => ?_
         refine zq I (fun Al W I => (HC W I.fa.1.rd I.fa.2.1.rd).out) fun Al W I => ?_
         rcases Bool.eq_false_or_eq_true (k == 0) with f30 | f30
         · refine zb I 30 (k == 0) (true) (f30) fun Al W I => ?_
           exact a0j I J fun Al W U I => hJ _ _ _ _ _ ⟨U, true, rfl, rfl, rfl, (by exact (decide_eq_true ⟨by have := beq_iff_eq.1 f9; omega, beq_iff_eq.1 f15, beq_iff_eq.1 f22, hc.1 (beq_iff_eq.1 f30)⟩).symm)⟩ (I.pick [0, 1])
         refine zb I 30 (k == 0) (false) (f30) fun Al W I => ?_
         exact a0j I J fun Al W U I => hJ _ _ _ _ _ ⟨U, false, rfl, rfl, rfl, (by exact (dFa (fun h => bnF f30 (hc.2 h.2.2.2))).symm)⟩ (I.pick [0, 1])
       refine zb I 22 (ap == bp) (false) (f22) fun Al W I => ?_
       exact a0j I J fun Al W U I => hJ _ _ _ _ _ ⟨U, false, rfl, rfl, rfl, (by exact (dFa (fun h => bnF f22 h.2.2.1)).symm)⟩ (I.pick [0, 1])
     refine zb I 15 (an == bn) (false) (f15) fun Al W I => ?_
     exact a0j I J fun Al W U I => hJ _ _ _ _ _ ⟨U, false, rfl, rfl, rfl, (by exact (dFa (fun h => bnF f15 h.2.1)).symm)⟩ (I.pick [0, 1])
   refine zb I 9 ((ac : Int) == (bc : Int)) (false) (f9) fun Al W I => ?_
   exact a0j I J fun Al W U I => hJ _ _ _ _ _ ⟨U, false, rfl, rfl, rfl, (by exact (dFa (fun h => by have := bnF f9; have := h.1; omega)).symm)⟩ (I.pick [0, 1])
 rintro _ _ _ ⟨U1, r, rfl, rfl, rfl, hr⟩ Al W I
 exact zret I (v := fun Al => .bool r) fun Al W I => ⟨by rw [hr], I.below⟩
theorem q0k : Tryz.prog.underlying 207 = some (.map 3 9) := by kernel_rfl
theorem g1p (c : Nat) : (∃ i, Instr.findNow (.int .i64) (.int .i64 (c : Int)) [⟨.int .i64 1, .string ⟨#[48]⟩, 0⟩, ⟨.int .i64 3, .string ⟨#[105, 110, 102]⟩, 1⟩, ⟨.int .i64 4, .string ⟨#[110, 111, 110, 101]⟩, 2⟩, ⟨.int .i64 5, .string ⟨#[114, 101, 115, 101, 114, 118, 101, 100]⟩, 3⟩] 0 = some (some (i, .string (a0e (p0d c))))) ∨ (p0d c = [] ∧ Instr.findNow (.int .i64) (.int .i64 (c : Int)) [⟨.int .i64 1, .string ⟨#[48]⟩, 0⟩, ⟨.int .i64 3, .string ⟨#[105, 110, 102]⟩, 1⟩, ⟨.int .i64 4, .string ⟨#[110, 111, 110, 101]⟩, 2⟩, ⟨.int .i64 5, .string ⟨#[114, 101, 115, 101, 114, 118, 101, 100]⟩, 3⟩] 0 = some none) := by
 by_cases h1 : c = 1
 · subst h1; exact .inl ⟨0, rfl⟩
 by_cases h3 : c = 3
 · subst h3; exact .inl ⟨1, rfl⟩
 by_cases h4 : c = 4
 · subst h4; exact .inl ⟨2, rfl⟩
 by_cases h5 : c = 5
 · subst h5; exact .inl ⟨3, rfl⟩
 refine .inr ⟨by unfold p0d; rw [if_neg h1, if_neg h3, if_neg h4, if_neg h5], ?_⟩
 have e1 : ((c : Int) == 1) = false := bFn (by omega)
 have e3 : ((c : Int) == 3) = false := bFn (by omega)
 have e4 : ((c : Int) == 4) = false := bFn (by omega)
 have e5 : ((c : Int) == 5) = false := bFn (by omega)
 simp only [Instr.findNow, Instr.sameNow, e1, e3, e4, e5, if_true]
theorem g1q {W : World} {b c : Nat} (hb : W.heap[b]? = some (.map #[⟨.int .i64 1, .string ⟨#[48]⟩, 0⟩, ⟨.int .i64 3, .string ⟨#[105, 110, 102]⟩, 1⟩, ⟨.int .i64 4, .string ⟨#[110, 111, 110, 101]⟩, 2⟩, ⟨.int .i64 5, .string ⟨#[114, 101, 115, 101, 114, 118, 101, 100]⟩, 3⟩] 4)) : (VO.lk 207 (.map (some b)) (.int .i64 (c : Int)) false).sem.run Tryz.prog W = .ok (.string (a0e (p0d c))) W := by
 rcases g1p c with h | ⟨h1, h2⟩
 · exact r1g q0k Tryz.underlying3 hb _ h
 · rw [h1]
   exact i0g q0k Tryz.underlying3 hb _ (by kernel_rfl) h2
theorem k1n (v : Vl) (p : Option Addr) (c base : Nat) (w : World) (hp : Own w base .u32 143 p c (dig B32 v.d)) (hc : 1 ≤ v.cls ∧ v.cls ≤ 5) (hT : TabW w) :
 Calls Tryz.prog 63 #[.agg #[.int .i64 (v.cls : Int), .bool v.neg, .slice p (dig B32 v.d).length c, .int .i64 v.pow]] w fun en w' => en = .returned (.string (a0e (l0c v.cls v.neg))) ∧ Below w.heap.size w w' := by
 have HF := fun W b h => hi0 (@g1q W b v.cls h)
 have hw : l0c v.cls v.neg = if v.cls = 2 then [] else (if v.neg then [45] else []) ++ p0d v.cls := by
  unfold l0c p0d
  by_cases h2 : v.cls = 2
  · rw [if_pos h2, if_pos h2]
  · rw [if_neg h2, if_neg h2]
    congr 1
    by_cases h1 : v.cls = 1
    · rw [if_pos h1, if_pos h1]
    · by_cases h3 : v.cls = 3
      · rw [if_neg h1, if_neg h1, if_pos h3, if_pos h3]
      · by_cases h4 : v.cls = 4
        · rw [if_neg h1, if_neg h1, if_neg h3, if_neg h3, if_pos h4, if_pos h4]
        · rw [if_neg h1, if_neg h1, if_neg h3, if_neg h3, if_neg h4, if_neg h4, if_pos (by omega)]
 have h2 : v.cls = 2 → p0d v.cls = [] := fun h => by rw [h]; rfl
 have hl : (p0d v.cls).length ≤ 8 := by
  unfold p0d
  repeat' split
  all_goals decide
 generalize p0d v.cls = S at *
 generalize l0c v.cls v.neg = R at *
 have I := Inv.start w [ownF base .u32 143 p c (dig B32 v.d), tabF] ⟨hp, hT, True.intro⟩
 refine a0g [.v (.agg #[.int .i64 (v.cls : Int), .bool v.neg, .slice p (dig B32 v.d).length c, .int .i64 v.pow])] I Tryz.func63 ?_
 refine zmkm I 207 fun Al W m4_b m4_ge I => ?_
 refine zins I q0k Tryz.underlying3 1 (Go.Value.string (ByteArray.mk #[48])) m4_ge (fun Al W I => ⟨s0l I.fa.1 I.fa.2.1, fun e => by have h2 := hT.2; have e : 0 = m4_b := e; have h3 := m4_ge; omega, True.intro⟩) fun Al W I => ?_
 refine zins I q0k Tryz.underlying3 3 (Go.Value.string (ByteArray.mk #[105, 110, 102])) m4_ge (fun Al W I => ⟨s0l I.fa.1 I.fa.2.1, fun e => by have h2 := hT.2; have e : 0 = m4_b := e; have h3 := m4_ge; omega, True.intro⟩) fun Al W I => ?_
 refine zins I q0k Tryz.underlying3 4 (Go.Value.string (ByteArray.mk #[110, 111, 110, 101])) m4_ge (fun Al W I => ⟨s0l I.fa.1 I.fa.2.1, fun e => by have h2 := hT.2; have e : 0 = m4_b := e; have h3 := m4_ge; omega, True.intro⟩) fun Al W I => ?_
 refine zins I q0k Tryz.underlying3 5 (Go.Value.string (ByteArray.mk #[114, 101, 115, 101, 114, 118, 101, 100])) m4_ge (fun Al W I => ⟨s0l I.fa.1 I.fa.2.1, fun e => by have h2 := hT.2; have e : 0 = m4_b := e; have h3 := m4_ge; omega, True.intro⟩) fun Al W I => ?_
 refine zx I 8 (fun _ => .string (a0e S)) (fun Al W I => (HF _ _ I.fa.1).out) fun Al W I => ?_
 rcases Bool.eq_false_or_eq_true (v.neg) with f11 | f11
 · refine zb I 11 (v.neg) (true) (f11) fun Al W I => ?_
   rcases Bool.eq_false_or_eq_true ((v.cls : Int) != 2) with f14 | f14
   · refine zb I 14 ((v.cls : Int) != 2) (true) (f14) fun Al W I => ?_
     refine zbin I 17 _ (fun _ _ _ _ _ => (f0e [45] S (by simp; omega))) fun Al W I => ?_
     refine zret I (v := fun Al => .string (a0e (45 :: S))) fun Al W I => ?_
     first | (rw [hw, if_neg (fun h => by have := bne_iff_ne.1 f14; omega), f11]; exact ⟨rfl, I.below⟩) | (have h := h2 (by have : (v.cls : Int) = 2 := (by simpa using f14); omega); rw [hw, if_pos (by have : (v.cls : Int) = 2 := (by simpa using f14); omega), h]; exact ⟨rfl, I.below⟩) | (rw [hw, f11]; by_cases h : v.cls = 2; (rw [if_pos h, h2 h]; exact ⟨rfl, I.below⟩); rw [if_neg h]; exact ⟨rfl, I.below⟩)
   refine zb I 14 ((v.cls : Int) != 2) (false) (f14) fun Al W I => ?_
   refine zret I (v := fun Al => .string (a0e S)) fun Al W I => ?_
   first | (have h := h2 (by have : (v.cls : Int) = 2 := (by simpa using f14); omega); rw [hw, if_pos (by have : (v.cls : Int) = 2 := (by simpa using f14); omega), h]; exact ⟨rfl, I.below⟩) | (rw [hw, f11]; by_cases h : v.cls = 2; (rw [if_pos h, h2 h]; exact ⟨rfl, I.below⟩); rw [if_neg h]; exact ⟨rfl, I.below⟩)
 refine zb I 11 (v.neg) (false) (f11) fun Al W I => ?_
 refine zret I (v := fun Al => .string (a0e S)) fun Al W I => ?_
 (rw [hw, f11]; by_cases h : v.cls = 2; (rw [if_pos h, h2 h]; exact ⟨rfl, I.below⟩); rw [if_neg h]; exact ⟨rfl, I.below⟩)
end Go.Proofs.YtbamiajjampgnaaGreatDoor
namespace Go.Slip
open Go.RowKit
theorem o1q {N D k : Nat} {P : Int} (h : theP N D = P) : decM N D k = if k < (b0f (dT N D (k - 1 - P))).length then ((b0f (dT N D (k - 1 - P))).take k, P + 1) else (b0f (dT N D (k - 1 - P)), P) := by subst h; rfl
theorem r1o {x : Int} (h : -40000 ≤ x ∧ x ≤ 40000) : -20000 ≤ (x * 30103).tdiv 100000 ∧ (x * 30103).tdiv 100000 ≤ 20000 := by
 rcases Int.le_total 0 x with h1 | h1
 · rw [Int.tdiv_eq_ediv_of_nonneg (by omega)]; omega
 · rw [show x * 30103 = -((-x) * 30103) by omega, Int.neg_tdiv, Int.tdiv_eq_ediv_of_nonneg (by omega)]; omega
end Go.Slip
namespace Go.Proofs.YtbamiajjampgnaaGreatDoor
open Go.RowKit Go.Slip
theorem o1r (n : Nat) : bits .and .u32 ((dg (dig B32 n) 0 : Nat) : Int) 1 = ((n % 2 : Nat) : Int) := by
 have h0 : dg (dig B32 n) 0 = n % 4294967296 := by
  by_cases h : n = 0
  · subst h; rw [a0c]; rfl
  · rw [c0p a0a (by omega)]; rfl
 rw [h0]
 have h := u32_and_nat (n % 4294967296) 1 (by omega) (by omega)
 rw [show ((1 : Nat) : Int) = 1 from rfl] at h
 rw [h, Nat.and_one_is_mod]
 omega
theorem v0l (g : Bool) (num : Nat) (E : Int) (k : Nat) (p q : Option Addr) (a b b1 b2 : Nat) (w : World) (hp : Own w b1 .u32 143 p a (dig B32 num)) (hq : Own w b2 .u32 143 q b (dig B32 1)) (h0 : 0 < num) (hl : (dig B32 num).length ≤ 100) (hE : -30000 ≤ E ∧ E ≤ 30000) (hk : 1 ≤ k ∧ k ≤ 100) :
 Calls Tryz.prog 67 #[.agg #[.bool g, .slice p (dig B32 num).length a, .slice q (dig B32 1).length b, .int .i64 E], .int .i64 (k : Int)] w fun en w' => en = .returned (.tuple #[.string (a0e (decM (numP num E) (denP 1 E) k).1), .int .i64 (decM (numP num E) (denP 1 E) k).2]) ∧ Below w.heap.size w w' := by
 have hN0 : 0 < numP num E := k0s h0 E
 have hD0 : 0 < denP 1 E := d0l (by omega) E
 have hP := l0q hN0 hD0
 have hbd := hP.bd hD0
 have hlong := fun x => hP.long hD0 hk.1 x
 have hshort := fun x => hP.short hD0 hk.1 x
 have hdec := o1q (k := k) (rfl : theP (numP num E) (denP 1 E) = _)
 have hlo : 0 < q10 (numP num E) (denP 1 E) (k - 1 - theP (numP num E) (denP 1 E)) := Nat.lt_of_lt_of_le (c0w (k - 1)) ((j0m hD0 _ _).2 ((hP.iff _).2 (by omega)))
 have HSc := fun u W hp hq hu => hi0 (x0t g num E u p q a b W hp hq (by omega) (by omega) hu)
 have bn := c0m num
 have bN : blen (numP num E) ≤ 33300 := by
  refine Nat.le_trans ((a0z _ (blen num + E.toNat)).2 ?_) (by omega)
  unfold numP
  have h1 := (a0z num _).1 (Nat.le_refl _)
  calc num * 2 ^ E.toNat < 2 ^ blen num * 2 ^ E.toNat := Nat.mul_lt_mul_of_pos_right h1 (Nat.pow_pos (by omega))
   _ = 2 ^ (blen num + E.toNat) := (Nat.pow_add _ _ _).symm
 have bD : blen (denP 1 E) ≤ 30001 := by
  refine Nat.le_trans ((a0z _ ((-E).toNat + 1)).2 ?_) (by omega)
  unfold denP
  rw [Nat.one_mul]
  exact Nat.pow_lt_pow_right (by omega) (by omega)
 have hql : ∀ u : Int, -100000 ≤ u ∧ u ≤ 100000 → (dig B32 (q10 (numP num E) (denP 1 E) u)).length ≤ 200000 ∧ (dig B32 (d10 (denP 1 E) u)).length ≤ 200000 := fun u hu => by
  have l10 : ∀ j : Nat, j ≤ 100000 → (dig B32 (10 ^ j)).length ≤ 100001 := fun j hj => i0r (K := 100001) a0a (by decide) (by omega) (by omega)
  have k1 := l10 u.toNat (by omega)
  have k2 := l10 (-u).toNat (by omega)
  have m1 := b0i a0a (numP num E) (10 ^ u.toNat)
  have m2 := b0i a0a (denP 1 E) (10 ^ (-u).toNat)
  have c1 := y0y _ _ bN
  have c2 := y0y _ _ bD
  refine ⟨Nat.le_trans (a0i a0a (Nat.div_le_self _ _)) ?_, ?_⟩
  · unfold n10; omega
  · unfold d10; omega
 have hrl : ∀ u : Int, r10 (numP num E) (denP 1 E) u < d10 (denP 1 E) u := fun u => Nat.mod_lt _ (r0n hD0 u)
 have hdT : ∀ u, dT (numP num E) (denP 1 E) u = q10 (numP num E) (denP 1 E) u + if upT (numP num E) (denP 1 E) u then 1 else 0 := fun u => rfl
 have hup : ∀ u, upT (numP num E) (denP 1 E) u = decide (0 < cmpN (r10 (numP num E) (denP 1 E) u * 2) (d10 (denP 1 E) u) ∨ (cmpN (r10 (numP num E) (denP 1 E) u * 2) (d10 (denP 1 E) u) = 0 ∧ q10 (numP num E) (denP 1 E) u % 2 = 1)) := fun u => by unfold upT; rw [Bool.decide_or, Bool.decide_and]
 have hP2 : -12000 ≤ theP (numP num E) (denP 1 E) ∧ theP (numP num E) (denP 1 E) ≤ 12000 := by omega
 generalize decM (numP num E) (denP 1 E) k = R at *
 generalize theP (numP num E) (denP 1 E) = P at *
 clear hbd bN bD hN0 hD0 hP
 generalize numP num E = N at *
 generalize denP 1 E = D at *
 have HL := fun W p c x h hl => hi0 ((i0d p _ c x W h rfl hl).mono fun _ _ ⟨h1, h2⟩ => ⟨h1, h2 ▸ Below.refl _ _⟩ : Calls Tryz.prog 136 #[.slice p (dig B32 x).length c] W fun en W' => en = .returned (.int .i64 ((blen x : Nat) : Int)) ∧ Below W.heap.size W W')
 have HDe := fun W p c x h hl => hi0 (x0j p _ c x W h rfl hl)
 have HSh := fun W p c x h hl => hi0 (sshl p _ c x 1 (x * 2) 1 W h rfl hl (by omega) rfl (by rw [Nat.pow_one]))
 have HCm := fun W p q c d x y h h2 hl hl2 => hi0 (e0y p q _ _ c d x y W h h2 rfl rfl hl hl2)
 have HO := fun W => hi0 (sof 1 1 rfl (by omega) W)
 have HAd := fun W p q c d x h h2 hl => hi0 (sadd p q _ _ c d x 1 _ W h h2 rfl rfl hl (Nat.le_trans ((a0h a0a 1 1).2 (by decide)) (by omega)) rfl)
 have l1 := (a0z 1 1).2 (by decide)
 have d1 : (dig B32 1).length ≤ 1 := (a0h a0a 1 1).2 (by decide)
 have hes := fun x h => @r1o x h
 have I := Inv.start w [ownF b1 .u32 143 p a (dig B32 num), ownF b2 .u32 143 q b (dig B32 1)] ⟨hp, hq, True.intro⟩
 refine a0g [.v (.agg #[.bool g, .slice p (dig B32 num).length a, .slice q (dig B32 1).length b, .int .i64 E]), .v (.int .i64 (k : Int))] I Tryz.func67 ?_
 refine zd [] I fun Al W I => ?_
 refine zk [0, 1, 3, 4, 7, 8] I fun I => ?_
 refine zo 2 I fun I => ?_
 refine zq I (fun Al W I => have hzW := I.bel.size; (HL W p a num I.fa.1.rd (by omega)).out) fun Al W I => ?_
 refine zo 5 I fun I => ?_
 refine zq I (fun Al W I => have hzW := I.bel.size; (HL W q b 1 I.fa.2.1.rd (by omega)).out) fun Al W I => ?_
 refine zki 6 I .i64 (((blen num : Nat) : Int) - ((blen 1 : Nat) : Int)) (((blen num : Int) - blen 1)) (iwo) fun I => ?_
 refine zki 9 I .i64 (((blen num : Int) - blen 1) + E) (((blen num : Int) - blen 1 + E)) (iwo) fun I => ?_
 refine zk [10] I fun I => ?_
 refine zi I 24 .i64 (((blen num : Int) - blen 1 + E) * 30103) ((((blen num : Int) - blen 1 + E) * 30103)) ((by exact iwo)) fun Al W I => ?_
 refine zbin I 25 _ (fun _ _ _ _ _ => l0n .i64 ((((blen num : Int) - blen 1 + E) * 30103)) (100000) (((((blen num : Int) - blen 1 + E) * 30103).tdiv 100000)) (by omega) ((by have := hes ((blen num : Int) - blen 1 + E) (by omega); exact iwo))) fun Al W I => ?_
 refine h0p I (fun gk fr bx gs => ∃ (U900 : Nat → Value) (pw : Int), fr = (.v (.agg #[.bool g, .slice p (dig B32 num).length a, .slice q (dig B32 1).length b, .int .i64 E]) :: .v (.int .i64 (k : Int)) :: .p 0 0 :: .v undef :: sw U900 4 2 (.v (.int .i64 ((blen num : Int) - blen 1 + E)) :: .v (.int .i64 pw) :: sw U900 8 81 []) : List SV) ∧ bx = [⟨25, [.v (.bool g), .v (.slice p (dig B32 num).length a), .v (.slice q (dig B32 1).length b), .v (.int .i64 E)], false⟩] ∧ gs = [ownF b1 .u32 143 p a (dig B32 num), ownF b2 .u32 143 q b (dig B32 1)] ∧ (-20000 ≤ pw ∧ pw ≤ 20000) ∧ (gk = (pw - P).natAbs)) (((((blen num : Int) - blen 1 + E) * 30103).tdiv 100000 - P).natAbs) (fun Al W U I => ⟨_, ⟨U, _, rfl, rfl, rfl, (by have := hes ((blen num : Int) - blen 1 + E) (by omega); omega), rfl⟩, I.pick [0, 1]⟩) ?_
 rintro J0 gk0 _ _ _ ⟨U900, pw, rfl, rfl, rfl, hpw, hgk⟩ hJ0 Al W I
 have hq2 := hql ((k : Int) - 1 - pw) (by omega)
 have hl2 := hlong pw
 have hs2 := hshort pw
 refine zi I 29 .i64 ((k : Int) - 1) (((k : Int) - 1)) ((by exact iwo)) fun Al W I => ?_
 refine zi I 31 .i64 (((k : Int) - 1) - pw) (((k : Int) - 1 - pw)) ((by exact iwo)) fun Al W I => ?_
 refine zg I (fun Al W I => have hzW := I.bel.size; (HSc ((k : Int) - 1 - pw) W I.fa.1.rd I.fa.2.1.rd (by omega)).out) fun Al V Iv _ hB _ kz => ?_
 rintro _ W ⟨p32, c32, q32, d32, r32, z32, rfl, o32, s32, v32, hb⟩
 refine ⟨_, rfl, kz _ _ hb fun I => ?_⟩
 have I := I.own o32
 have I := I.own s32
 have I := I.own v32
 refine zq I (fun Al W I => have hzW := I.bel.size; (HDe W p32 c32 (q10 N D ((k : Int) - 1 - pw)) I.fa.2.2.1.rd (by omega)).out) fun Al W I => ?_
 rcases Bool.eq_false_or_eq_true (decide ((((a0e (b0f (q10 N D ((k : Int) - 1 - pw)))).size : Nat) : Int) > (k : Int))) with f42 | f42
 · refine zb I 42 (decide ((((a0e (b0f (q10 N D ((k : Int) - 1 - pw)))).size : Nat) : Int) > (k : Int))) (true) (f42) fun Al W I => ?_
   have hlt : pw < P := hl2.1 (by have := oTr f42; rw [a0r] at this; omega)
   refine zi I 44 .i64 (pw + 1) ((pw + 1)) ((by exact iwo)) fun Al W I => ?_
   exact a0j I J0 fun Al W U I => hJ0 ((pw + 1 - P).natAbs) _ _ _ _ _ ((by omega)) ⟨U, (pw + 1), rfl, rfl, rfl, (by omega), rfl⟩ (I.pick [3, 4])
 refine zb I 42 (decide ((((a0e (b0f (q10 N D ((k : Int) - 1 - pw)))).size : Nat) : Int) > (k : Int))) (false) (f42) fun Al W I => ?_
 rcases Bool.eq_false_or_eq_true (decide ((((a0e (b0f (q10 N D ((k : Int) - 1 - pw)))).size : Nat) : Int) < (k : Int))) with f49 | f49
 · refine zb I 49 (decide ((((a0e (b0f (q10 N D ((k : Int) - 1 - pw)))).size : Nat) : Int) < (k : Int))) (true) (f49) fun Al W I => ?_
   have hgt : P < pw := hs2.1 (by exact .inl (by have := oTr f49; rw [a0r] at this; omega))
   refine zi I 56 .i64 (pw - 1) ((pw - 1)) ((by exact iwo)) fun Al W I => ?_
   exact a0j I J0 fun Al W U I => hJ0 ((pw - 1 - P).natAbs) _ _ _ _ _ ((by omega)) ⟨U, (pw - 1), rfl, rfl, rfl, (by omega), rfl⟩ (I.pick [3, 4])
 refine zb I 49 (decide ((((a0e (b0f (q10 N D ((k : Int) - 1 - pw)))).size : Nat) : Int) < (k : Int))) (false) (f49) fun Al W I => ?_
 rcases Bool.eq_false_or_eq_true ((((dig B32 (q10 N D ((k : Int) - 1 - pw))).length : Nat) : Int) == 0) with f53 | f53
 · refine zb I 53 ((((dig B32 (q10 N D ((k : Int) - 1 - pw))).length : Nat) : Int) == 0) (true) (f53) fun Al W I => ?_
   have hgt : P < pw := hs2.1 (by exact .inr (by have := beq_iff_eq.1 f53; have := a0d a0a (q10 N D ((k : Int) - 1 - pw)); omega))
   refine zi I 56 .i64 (pw - 1) ((pw - 1)) ((by exact iwo)) fun Al W I => ?_
   exact a0j I J0 fun Al W U I => hJ0 ((pw - 1 - P).natAbs) _ _ _ _ _ ((by omega)) ⟨U, (pw - 1), rfl, rfl, rfl, (by omega), rfl⟩ (I.pick [3, 4])
 refine zb I 53 ((((dig B32 (q10 N D ((k : Int) - 1 - pw))).length : Nat) : Int) == 0) (false) (f53) fun Al W I => ?_
 have hpP : pw = P := by have h1 : ¬ pw < P := fun h => oFa f42 (by rw [a0r]; have := hl2.2 h; omega); have h2 : ¬ P < pw := fun h => (hs2.2 h).elim (fun h => oFa f49 (by rw [a0r]; omega)) (fun h => bnF f53 (by have := a0d a0a (q10 N D ((k : Int) - 1 - pw)); omega)); omega
 subst hpP
 refine zqo I (fun Al W I => have hzW := I.bel.size; (HSh W q32 d32 (r10 N D ((k : Int) - 1 - pw)) I.fa.2.1.rd (by have := a0i a0a (Nat.le_of_lt (hrl ((k : Int) - 1 - pw))); omega)).out) fun Al W p58 c58 I => ?_
 refine zq I (fun Al W I => have hzW := I.bel.size; (HCm W p58 r32 c58 z32 (r10 N D ((k : Int) - 1 - pw) * 2) (d10 D ((k : Int) - 1 - pw)) I.fa.1.rd I.fa.2.1.rd (by have := a0i a0a (Nat.le_of_lt (hrl ((k : Int) - 1 - pw))); have := b0i a0a (r10 N D ((k : Int) - 1 - pw)) 2; have := (a0h a0a 2 1).2 (by decide); omega) (by omega)).out) fun Al W I => ?_
 refine zcut I (some 3000010) (fun fr bx gs => ∃ (U1 : Nat → Value) (up : Bool), fr = (.v (.agg #[.bool g, .slice p (dig B32 num).length a, .slice q (dig B32 1).length b, .int .i64 E]) :: .v (.int .i64 (k : Int)) :: .p 0 0 :: .v undef :: sw U900 4 2 (.v (.int .i64 ((blen num : Int) - blen 1 + E)) :: .v (.int .i64 pw) :: .v (.slice p32 (dig B32 (q10 N D ((k : Int) - 1 - pw))).length c32) :: .v (.slice q32 (dig B32 (r10 N D ((k : Int) - 1 - pw))).length d32) :: .v (.slice r32 (dig B32 (d10 D ((k : Int) - 1 - pw))).length z32) :: .v (.string (a0e (b0f (q10 N D ((k : Int) - 1 - pw))))) :: .v (.int .i64 (cmpN (r10 N D ((k : Int) - 1 - pw) * 2) (d10 D ((k : Int) - 1 - pw)))) :: sw U1 13 25 (.v (.bool false) :: sw U1 39 6 (.v (.bool false) :: sw U1 46 27 (.v (.bool up) :: sw U1 74 7 (.v (U900 81) :: sw U1 82 7 []))))) : List SV) ∧ bx = [⟨25, [.v (.bool g), .v (.slice p (dig B32 num).length a), .v (.slice q (dig B32 1).length b), .v (.int .i64 E)], false⟩] ∧ gs = [ownF w.heap.size .u32 143 p58 c58 (dig B32 (r10 N D ((k : Int) - 1 - pw) * 2)), ownF w.heap.size .u32 143 r32 z32 (dig B32 (d10 D ((k : Int) - 1 - pw))), ownF w.heap.size .u32 143 q32 d32 (dig B32 (r10 N D ((k : Int) - 1 - pw))), ownF w.heap.size .u32 143 p32 c32 (dig B32 (q10 N D ((k : Int) - 1 - pw))), ownF b1 .u32 143 p a (dig B32 num), ownF b2 .u32 143 q b (dig B32 1)] ∧ (up = upT N D ((k : Int) - 1 - pw))) ?_ ?_
 · intro J hJ Al W I
   rcases Bool.eq_false_or_eq_true (decide ((cmpN (r10 N D ((k : Int) - 1 - pw) * 2) (d10 D ((k : Int) - 1 - pw))) > 0)) with f62 | f62
   · refine zb I 62 (decide ((cmpN (r10 N D ((k : Int) - 1 - pw) * 2) (d10 D ((k : Int) - 1 - pw))) > 0)) (true) (f62) fun Al W I => ?_
     exact a0j I J fun Al W U I => hJ _ _ _ _ _ ⟨U, true, rfl, rfl, rfl, (by rw [hup]; symm; exact dTr (.inl (oTr f62)))⟩ (I.pick [0, 1, 2, 3, 4, 5])
   refine zb I 62 (decide ((cmpN (r10 N D ((k : Int) - 1 - pw) * 2) (d10 D ((k : Int) - 1 - pw))) > 0)) (false) (f62) fun Al W I => ?_
   rcases Bool.eq_false_or_eq_true ((cmpN (r10 N D ((k : Int) - 1 - pw) * 2) (d10 D ((k : Int) - 1 - pw))) == 0) with f65 | f65
   · refine zb I 65 ((cmpN (r10 N D ((k : Int) - 1 - pw) * 2) (d10 D ((k : Int) - 1 - pw))) == 0) (true) (f65) fun Al W I => ?_
     refine zx I 68 (fun _ => .pointer (some (at_ p32 0))) (fun Al W I => (h0o (m := 0) (n := (dig B32 (q10 N D ((k : Int) - 1 - pw))).length) (c := c32) f1q I.fa.2.2.2.1.rd.solid (by have := a0d a0a (q10 N D ((k : Int) - 1 - pw)); omega))) fun Al W I => ?_
     refine zx I 69 (fun _ => .int .u32 ((dg (dig B32 (q10 N D ((k : Int) - 1 - pw))) 0 : Nat) : Int)) (fun Al W I => (q0b I.fa.2.2.2.1.rd j1c (by have := a0d a0a (q10 N D ((k : Int) - 1 - pw)); omega))) fun Al W I => ?_
     refine zbin I 70 _ (fun _ _ _ _ _ => n0m .u32 ((dg (dig B32 (q10 N D ((k : Int) - 1 - pw))) 0 : Nat) : Int) (1) (((q10 N D ((k : Int) - 1 - pw) % 2 : Nat) : Int)) ((by exact o1r _))) fun Al W I => ?_
     rcases Bool.eq_false_or_eq_true (((q10 N D ((k : Int) - 1 - pw) % 2 : Nat) : Int) == 1) with f71 | f71
     · refine zb I 71 (((q10 N D ((k : Int) - 1 - pw) % 2 : Nat) : Int) == 1) (true) (f71) fun Al W I => ?_
       exact a0j I J fun Al W U I => hJ _ _ _ _ _ ⟨U, true, rfl, rfl, rfl, (by rw [hup]; symm; exact dTr (.inr ⟨beq_iff_eq.1 f65, by have := beq_iff_eq.1 f71; omega⟩))⟩ (I.pick [0, 1, 2, 3, 4, 5])
     refine zb I 71 (((q10 N D ((k : Int) - 1 - pw) % 2 : Nat) : Int) == 1) (false) (f71) fun Al W I => ?_
     exact a0j I J fun Al W U I => hJ _ _ _ _ _ ⟨U, false, rfl, rfl, rfl, (by rw [hup]; symm; exact dFa (fun h => h.elim (oFa f62) (fun h => bnF f71 (by have := h.2; omega))))⟩ (I.pick [0, 1, 2, 3, 4, 5])
   refine zb I 65 ((cmpN (r10 N D ((k : Int) - 1 - pw) * 2) (d10 D ((k : Int) - 1 - pw))) == 0) (false) (f65) fun Al W I => ?_
   exact a0j I J fun Al W U I => hJ _ _ _ _ _ ⟨U, false, rfl, rfl, rfl, (by rw [hup]; symm; exact dFa (fun h => h.elim (oFa f62) (fun h => bnF f65 h.1)))⟩ (I.pick [0, 1, 2, 3, 4, 5])
 rintro _ _ _ ⟨U1, up, rfl, rfl, rfl, hup2⟩ Al W I
 refine zcut I (some 2000073) (fun fr bx gs => ∃ (U2 : Nat → Value) (s : LN) (pf : Int), fr = (.v (.agg #[.bool g, .slice p (dig B32 num).length a, .slice q (dig B32 1).length b, .int .i64 E]) :: .v (.int .i64 (k : Int)) :: .p 0 0 :: .v undef :: sw U900 4 2 (.v (.int .i64 ((blen num : Int) - blen 1 + E)) :: .v (.int .i64 pf) :: .v (.slice p32 (dig B32 (q10 N D ((k : Int) - 1 - pw))).length c32) :: .v (.slice q32 (dig B32 (r10 N D ((k : Int) - 1 - pw))).length d32) :: .v (.slice r32 (dig B32 (d10 D ((k : Int) - 1 - pw))).length z32) :: .v (.string (a0e s)) :: .v (.int .i64 (cmpN (r10 N D ((k : Int) - 1 - pw) * 2) (d10 D ((k : Int) - 1 - pw)))) :: sw U2 13 25 (.v (.bool false) :: sw U2 39 6 (.v (.bool false) :: sw U2 46 27 (.v (.bool up) :: sw U2 74 15 [])))) : List SV) ∧ bx = [⟨25, [.v (.bool g), .v (.slice p (dig B32 num).length a), .v (.slice q (dig B32 1).length b), .v (.int .i64 E)], false⟩] ∧ gs = [ownF w.heap.size .u32 143 p58 c58 (dig B32 (r10 N D ((k : Int) - 1 - pw) * 2)), ownF w.heap.size .u32 143 r32 z32 (dig B32 (d10 D ((k : Int) - 1 - pw))), ownF w.heap.size .u32 143 q32 d32 (dig B32 (r10 N D ((k : Int) - 1 - pw))), ownF w.heap.size .u32 143 p32 c32 (dig B32 (q10 N D ((k : Int) - 1 - pw))), ownF b1 .u32 143 p a (dig B32 num), ownF b2 .u32 143 q b (dig B32 1)] ∧ (R = (s, pf))) ?_ ?_
 · intro J hJ Al W I
   rcases Bool.eq_false_or_eq_true up with rfl | rfl
   · refine zqo I (fun Al W I => (HO W).out) fun Al W p75 c75 I => ?_
     refine zqo I (fun Al W I => have hzW := I.bel.size; (HAd W p32 p75 c32 c75 (q10 N D ((k : Int) - 1 - pw)) I.fa.2.2.2.2.1.rd I.fa.1.rd (by omega)).out) fun Al W p76 c76 I => ?_
     refine zq I (fun Al W I => have hzW := I.bel.size; (HDe W p76 c76 (q10 N D ((k : Int) - 1 - pw) + 1) I.fa.1.rd (by have := g0z a0a (q10 N D ((k : Int) - 1 - pw)) 1; omega)).out) fun Al W I => ?_
     rcases Bool.eq_false_or_eq_true (decide ((((a0e (b0f (q10 N D ((k : Int) - 1 - pw) + 1))).size : Nat) : Int) > (k : Int))) with f81 | f81
     · refine zb I 81 (decide ((((a0e (b0f (q10 N D ((k : Int) - 1 - pw) + 1))).size : Nat) : Int) > (k : Int))) (true) (f81) fun Al W I => ?_
       refine zx I 84 (fun _ => .string (a0e ((b0f (q10 N D ((k : Int) - 1 - pw) + 1)).take k))) (fun Al W I => (by rw [show (b0f (q10 N D ((k : Int) - 1 - pw) + 1)).take k = ((b0f (q10 N D ((k : Int) - 1 - pw) + 1)).take k).drop 0 from rfl, ← j0s (s0u _)]; exact i0j uSt (.inl ⟨rfl, rfl⟩) (.inr rfl) (Nat.zero_le _) (by have := oTr f81; omega))) fun Al W I => ?_
       refine zi I 86 .i64 (pw + 1) ((pw + 1)) ((by exact iwo)) fun Al W I => ?_
       exact a0j I J fun Al W U I => hJ _ _ _ _ _ ⟨U, ((b0f (q10 N D ((k : Int) - 1 - pw) + 1)).take k), (pw + 1), rfl, rfl, rfl, (by rw [hdec, hdT, ← hup2, if_pos rfl, if_pos (by have := oTr f81; rw [a0r] at this; omega)])⟩ (I.pick [2, 3, 4, 5, 6, 7])
     refine zb I 81 (decide ((((a0e (b0f (q10 N D ((k : Int) - 1 - pw) + 1))).size : Nat) : Int) > (k : Int))) (false) (f81) fun Al W I => ?_
     exact a0j I J fun Al W U I => hJ _ _ _ _ _ ⟨U, (b0f (q10 N D ((k : Int) - 1 - pw) + 1)), pw, rfl, rfl, rfl, (by rw [hdec, hdT, ← hup2, if_pos rfl, if_neg (by have := oFa f81; rw [a0r] at this; omega)])⟩ (I.pick [2, 3, 4, 5, 6, 7])
   exact a0j I J fun Al W U I => hJ _ _ _ _ _ ⟨U, (b0f (q10 N D ((k : Int) - 1 - pw))), pw, rfl, rfl, rfl, (by rw [hdec, hdT, ← hup2, if_neg Bool.false_ne_true, Nat.add_zero, if_neg (by have h := fun h => Int.lt_irrefl _ (hl2.1 h); omega)])⟩ (I.pick [0, 1, 2, 3, 4, 5])
 rintro _ _ _ ⟨U2, s, pf, rfl, rfl, rfl, hs⟩ Al W I
 exact zret I (v := fun Al => .tuple #[.string (a0e s), .int .i64 pf]) fun Al W I => ⟨by rw [hs], I.below⟩
end Go.Proofs.YtbamiajjampgnaaGreatDoor
namespace Go.Slip
end Go.Slip
namespace Go.Proofs.YtbamiajjampgnaaGreatDoor
open Go.RowKit Go.Slip
def GBs (w : World) (bs : List Bool) (en : Ending) (w' : World) : Prop :=
 ∃ p c, en = .returned (.slice p bs.length c) ∧ OwnV w' w.heap.size 4 p c (bs.map Value.bool) ∧ Below w.heap.size w w'
end Go.Proofs.YtbamiajjampgnaaGreatDoor
namespace Go.Slip
theorem s0w (bs : List Bool) {i : Nat} (h : i < bs.length) : vb (bs.take i) * 2 + (bs.getD i false).toNat = vb (bs.take (i + 1)) := by
 rw [t0z bs i h, Nat.mul_comm, List.getD_eq_getElem?_getD, List.getElem?_eq_getElem h]
 rfl
theorem k1o (bs : List Bool) {i : Nat} (h : i < bs.length) : (bs.map Value.bool)[i]? = some (.bool (bs.getD i false)) := by
 rw [List.getElem?_map, List.getD_eq_getElem?_getD, List.getElem?_eq_getElem h]
 rfl
end Go.Slip
namespace Go.Proofs.YtbamiajjampgnaaGreatDoor
open Go.RowKit Go.Slip
theorem v0m : dig B16 2 = [2] := by rw [c0p a0f (by omega), show 2 / B16 = 0 by unfold B16; omega, a0c, show 2 % B16 = 2 by unfold B16; omega]
theorem g0b {x n k : Nat} (h : x < 2 ^ n) (hk : n ≤ 16 * k) : (dig B16 x).length ≤ k := by
 rw [a0h a0f]
 unfold B16
 rw [show (65536 : Nat) = 2 ^ 16 from rfl, ← Nat.pow_mul]
 exact Nat.lt_of_lt_of_le h (Nat.pow_le_pow_right (by omega) hk)
end Go.Proofs.YtbamiajjampgnaaGreatDoor
namespace Go.Slip
end Go.Slip
namespace Go.Proofs.YtbamiajjampgnaaGreatDoor
open Go.RowKit Go.Slip
def x0u (n cls : Int) (a : Din) : Int := if IsFm n then a0o (fmt n) cls a else 6
theorem b1t (n : Int) (cls : Int) (a : Din) (w : World) (ha : InD w a) (hT : TabW w) :
 Calls Tryz.prog 154 #[.int .i64 n, .agg #[.int .i64 cls, .bool a.g, .slice a.p a.xs.length a.c, .int .i64 a.e]] w (u0z w (x0u n cls a) (q0f (fmt n) cls a)) := by
 unfold x0u
 by_cases hn : IsFm n
 · rw [if_pos hn]; exact g1d n cls a w hn ha hT
 · rw [if_neg hn]
   have HF := fun W => hi0 (i0c n hn W)
   generalize q0f (fmt n) cls a = s
   have I := Inv.start w [] True.intro
   refine a0g [.v (.int .i64 n), .v (.agg #[.int .i64 cls, .bool a.g, .slice a.p a.xs.length a.c, .int .i64 a.e])] I Tryz.func154 ?_
   refine zq I (fun Al W I => (HF W).out) fun Al W I => ?_
   exact zret I fun Al W I => a0u (r := 6) rfl (by decide) rfl I.below
def a5 : Din := ⟨false, none, 0, [], 0⟩
end Go.Proofs.YtbamiajjampgnaaGreatDoor
namespace Go.Slip
theorem q0l : ∀ (k a : Nat), d0i a (k + 1) = (a / 2 ^ k % 2 == 1) :: d0i a k
 | 0, a => by simp [d0i]
 | k + 1, a => by
  rw [d0i, q0l k (a / 2)]
  rw [Nat.div_div_eq_div_mul, ← Nat.pow_succ']
  rfl
def BL (a j k : Nat) : List Value := List.replicate j (.bool false) ++ (d0i a k).map Value.bool
theorem r1p (a j k : Nat) : (BL a j k).length = j + k := by unfold BL; rw [List.length_append, List.length_replicate, List.length_map, b0r]
theorem r1q (a j k : Nat) : (BL a (j + 1) k).set j (.bool (a / 2 ^ k % 2 == 1)) = BL a j (k + 1) := by
 unfold BL
 rw [List.replicate_succ', List.append_assoc, List.set_append_right _ _ (by rw [List.length_replicate]; exact Nat.le_refl _), List.length_replicate, Nat.sub_self, q0l]
 rfl
theorem x0v (bs : List Bool) (i k : Nat) (h : i + k < bs.length) : vb ((bs.drop i).take k) * 2 + (bs.getD (i + k) false).toNat = vb ((bs.drop i).take (k + 1)) := by
 have := s0w (bs.drop i) (i := k) (by rw [List.length_drop]; omega)
 rw [← this]
 congr 2
 rw [List.getD_eq_getElem?_getD, List.getD_eq_getElem?_getD, List.getElem?_drop]
end Go.Slip
namespace Go.Proofs.YtbamiajjampgnaaGreatDoor
open Go.RowKit Go.Slip
theorem k1p (a : Nat) : decide (((((dig B16 (a % 2)).length : Nat) : Int)) > 0) = (a % 2 == 1) := by
 have h := a0d a0f (a % 2)
 rcases Nat.mod_two_eq_zero_or_one a with k | k
 · rw [k] at h ⊢; rw [decide_eq_false (by omega)]; rfl
 · rw [k] at h ⊢; rw [decide_eq_true (by omega)]; rfl
theorem s1s (p q : Option Addr) (n m c e0 : Nat) (a x : Nat) (w : World) (hp : Rd w .i64 p (dig B16 a)) (hq : Rd w .i64 q (dig B16 2)) (hn : n = (dig B16 a).length) (hm : m = (dig B16 2).length) (hl : (dig B16 a).length ≤ 1000000) (hx : a / 2 = x) :
 Calls Tryz.prog 54 #[.slice p n c, .slice q m e0] w fun en w' => ∃ p c r d, en = .returned (.tuple #[.slice p (dig B16 x).length c, .slice r (dig B16 (a % 2)).length d]) ∧ Rf w' w.heap.size p c (dig B16 x) ∧ Below w.heap.size w w' := by
 subst hx
 exact (h0m p q n m c e0 a 2 w hp hq hn hm (by omega) (by rw [v0m]; decide) (by omega)).mono fun e w' ⟨p, c, q, d, h1, h2, h3, h4, _, _, _, h8⟩ => ⟨p, c, q, d, h1, c1u h2 h3 h4, h8⟩
theorem e0i (a many : Nat) (p : Option Addr) (c b0 : Nat) (w : World) (hp : Rf w b0 p c (dig B16 a)) (hl : (dig B16 a).length ≤ 1000) (hm : many ≤ 1000) :
 Calls Tryz.prog 133 #[.slice p (dig B16 a).length c, .int .i64 (many : Int)] w (GBs w (d0i a many)) := by
 have hdl : ∀ k, (dig B16 (a / 2 ^ k)).length ≤ 1000 := fun k => Nat.le_trans (a0i a0f (Nat.div_le_self _ _)) hl
 have hnx : ∀ k, a / 2 ^ k / 2 = a / 2 ^ (k + 1) := fun k => by rw [Nat.div_div_eq_div_mul, Nat.pow_succ]
 have hset := r1q a
 have hlen := r1p a
 have I := Inv.start w [rfF b0 p c (dig B16 a)] ⟨hp, True.intro⟩
 refine a0g [.v (.slice p (dig B16 a).length c), .v (.int .i64 (many : Int))] I Tryz.func133 ?_
 refine zmk I 10 i0f many (BL a many 0) (by omega) (by unfold BL d0i; simp) fun Al W p10 c10 I => ?_
 have I := I.rd I.fa.2.1.rd
 refine zi I 12 .i64 ((many : Int) - 1) ((many : Int) - 1) ((iwo)) fun Al W I => ?_
 refine h0p I (fun gk fr bx gs => ∃ (U900 : Nat → Value) (j : Nat) (k : Nat) (p0 : Option Addr) (c0 : Nat) (n0 : Nat) (ds : List Nat) (bs : List Value), fr = (.v (.slice p0 n0 c0) :: .v (.int .i64 (many : Int)) :: su 2 (.v (.slice none 0 0) :: .v (.slice p10 many c10) :: .v (.int .i64 ((j : Int) - 1)) :: sw U900 7 24 []) : List SV) ∧ bx = [] ∧ gs = [rdF .i64 p0 ds, g0f w.heap.size 4 p10 c10 bs] ∧ (ds = dig B16 (a / 2 ^ k)) ∧ (bs = BL a j k) ∧ (n0 = ds.length) ∧ (j + k = many) ∧ (gk = j)) many (fun Al W U I => ⟨_, ⟨U, many, 0, p, c, (dig B16 a).length, dig B16 a, BL a many 0, rfl, rfl, rfl, (by rw [Nat.pow_zero, Nat.div_one]), rfl, rfl, (by omega), rfl⟩, I.pick [0, 1]⟩) ?_
 rintro J0 gk0 _ _ _ ⟨U900, j, k, p0, c0, n0, ds, bs, rfl, rfl, rfl, hds, hbs, hn0, hjk, hgk⟩ hJ0 Al W I
 rcases Bool.eq_false_or_eq_true (decide (((j : Int) - 1) ≥ 0)) with f14 | f14
 · refine zb I 14 (decide (((j : Int) - 1) ≥ 0)) (true) (f14) fun Al W I => ?_
   refine zlv I 19 2 3 (dig B16 2) v0m fun Al W p19 I => ?_
   refine zg I (fun Al W I => have hzW := I.bel.size; s1s p0 p19 n0 _ c0 1 (a / 2 ^ k) (a / 2 ^ (k + 1)) W (by rw [← hds]; exact I.fa.2.1) I.fa.1.rd (by rw [hn0, hds]) rfl (by have := hdl k; omega) (hnx k)) fun Al V Iv _ hB _ kz => ?_
   rintro _ W ⟨p20, c20, r20, d20, rfl, o20, hb⟩
   refine ⟨_, rfl, kz _ _ hb fun I => ?_⟩
   have I := I.rf o20 (hB _) Iv
   have I := I.rd I.fa.1.rd
   refine zb I 27 (decide ((((dig B16 (a / 2 ^ k % 2)).length : Nat) : Int) > 0)) ((a / 2 ^ k % 2 == 1)) ((k1p (a / 2 ^ k))) fun Al W I => ?_
   refine zx I 28 (fun _ => .pointer (some (at_ p10 (j - 1)))) (fun Al W I => q1p (i := (j : Int) - 1) (n := many) (c := c10) (m := j - 1) i0f (by have := oTr f14; omega) (by have h := I.fa.2.2.2.2.1.rd.solid; rw [hbs, hlen, hjk] at h; exact h) (by have := oTr f14; omega)) fun Al W I => ?_
   have I := I.pick [4, 0, 1, 2, 3]
   refine zput I [0] i0f (j - 1) (.bool (a / 2 ^ k % 2 == 1)) (by rw [hbs, hlen]; have := oTr f14; omega) (by have e := hset (j - 1) k; rw [show j - 1 + 1 = j by have := oTr f14; omega] at e; rw [← e, hbs]) (us := BL a (j - 1) (k + 1)) (fun Al W I h9 => ⟨fun h => by have h1 := o20.at_ h.1; have h2 := (Iv.fa.2.2.1.blk_lt h9).2; have h3 := h.2; omega, True.intro⟩) fun Al W I => ?_
   refine zi I 16 .i64 (((j : Int) - 1) - 1) ((((j - 1 : Nat) : Int) - 1)) ((by rw [show (((j : Int) - 1) - 1) = (((j - 1 : Nat) : Int) - 1) by have := oTr f14; omega]; exact iwo)) fun Al W I => ?_
   exact a0j I J0 fun Al W U I => hJ0 (gk0 - 1) _ _ _ _ _ ((by have := oTr f14; omega)) ⟨U, j - 1, k + 1, p20, c20, (dig B16 (a / 2 ^ (k + 1))).length, dig B16 (a / 2 ^ (k + 1)), BL a (j - 1) (k + 1), rfl, rfl, rfl, rfl, rfl, rfl, (by have := oTr f14; omega), (by omega)⟩ (I.pick [1, 0])
 refine zb I 14 (decide (((j : Int) - 1) ≥ 0)) (false) (f14) fun Al W I => ?_
 have hj : j = 0 := by have := oFa f14; omega
 have hk : k = many := by omega
 exact zret I (v := fun Al => .slice p10 many c10) fun Al W I => ⟨p10, c10, by rw [b0r], (by have h := I.fa.2.1; rw [hbs, hj, hk] at h; exact h), I.below⟩
theorem m0n (n : Int) (bs : List Bool) (m : Nat) (p : Option Addr) (c : Nat) (w : World) (hn : IsFm n) (hp : RdV w p (bs.map Value.bool)) (hm : m = bs.length) (hl : bs.length = 8 * (fmt n).size) :
 Calls Tryz.prog 134 #[.int .i64 n, .slice p m c] w fun en w' => ∃ L : List Nat, en = .returned (.string (a0e L)) ∧ L.length = (fmt n).size ∧ (∀ i, i < (fmt n).size → dg L (plc (fmt n).ord (fmt n).size i) = vb ((bs.drop (8 * i)).take 8)) ∧ Below w.heap.size w w' := by
 subst hm
 have G := b0m hn
 have z1 := G.sz
 have HP := fun i W h => hi0 (v0b n i W hn h)
 generalize fmt n = f at *
 have hpl : ∀ i, i < f.size → plc f.ord f.size i < f.size := fun i hi => t0y (fun _ => by omega) hi
 have hpp : ∀ i j, i < f.size → j < f.size → i ≠ j → plc f.ord f.size i ≠ plc f.ord f.size j := fun i j hi hj hne h => hne (by rw [← r0q (o := f.ord) hi, h, r0q hj])
 have hvb : ∀ i k, vb ((bs.drop i).take k) < 2 ^ k := fun i k => Nat.lt_of_lt_of_le (t0w _) (Nat.pow_le_pow_right (by omega) (by rw [List.length_take]; omega))
 have hv8 : ∀ i, vb ((bs.drop i).take 8) < 256 := fun i => hvb i 8
 have hvk : ∀ i k, k ≤ 8 → vb ((bs.drop i).take k) ≤ 255 := fun i k hk => by have h1 := hvb i k; have h2 : 2 ^ k ≤ 2 ^ 8 := Nat.pow_le_pow_right (by omega) hk; omega
 have hbit := x0v bs
 have hget := fun i h => k1o bs (i := i) h
 have hstep : ∀ (L : List Nat) (i t : Nat), L.length = f.size → i < f.size → (∀ j, j < i → dg L (plc f.ord f.size j) = vb ((bs.drop (8 * j)).take 8)) → t = vb ((bs.drop (8 * i)).take 8) → ∀ j, j < i + 1 → dg (L.set (plc f.ord f.size i) t) (plc f.ord f.size j) = vb ((bs.drop (8 * j)).take 8) := by
  intro L i t hL hi hD ht j hj
  rcases Nat.lt_or_ge j i with h | h
  · rw [b0o (hpp i j hi (by omega) (by omega))]
    exact hD j h
  · obtain rfl : j = i := by omega
    rw [b0k (by rw [hL]; exact hpl j hi), ht]
 have hln : (bs.map Value.bool).length = bs.length := List.length_map ..
 have I := Inv.start w [rdvF p (bs.map Value.bool)] ⟨hp, True.intro⟩
 refine a0g [.v (.int .i64 n), .v (.slice p bs.length c)] I Tryz.func134 ?_
 refine zbin I 11 _ (fun _ _ _ _ _ => l0n .i64 ((bs.length : Int)) (8) ((f.size : Int)) ((by decide)) ((by rw [hl, show ((8 * f.size : Nat) : Int).tdiv 8 = (f.size : Int) by rw [show ((8 : Int)) = ((8 : Nat) : Int) from rfl, ← Int.ofNat_tdiv]; congr 1; omega]; exact iwo))) fun Al W I => ?_
 refine zmk I 12 g0i f.size (vB (List.replicate f.size 0)) (by omega) (e1t _) fun Al W p12 c12 I => ?_
 refine h0p I (fun gk fr bx gs => ∃ (U900 : Nat → Value) (i : Nat) (L : List Nat), fr = (.v (.int .i64 n) :: .v (.slice p bs.length c) :: su 2 (.v (Go.Value.string (ByteArray.mk #[])) :: .v (.slice p12 f.size c12) :: .v (.int .i64 (i : Int)) :: sw U900 7 36 []) : List SV) ∧ bx = [] ∧ gs = [g0f w.heap.size 5 p12 c12 (vB L), rdvF p (bs.map Value.bool)] ∧ (L.length = f.size) ∧ (∀ j, j < i → dg L (plc f.ord f.size j) = vb ((bs.drop (8 * j)).take 8)) ∧ (gk + i = f.size)) f.size (fun Al W U I => ⟨_, ⟨U, 0, List.replicate f.size 0, rfl, rfl, rfl, List.length_replicate, (fun j hj => by omega), (by omega)⟩, I.pick [0, 1]⟩) ?_
 rintro J0 gk0 _ _ _ ⟨U900, i, L, rfl, rfl, rfl, hL, hD, hgk⟩ hJ0 Al W I
 rcases Bool.eq_false_or_eq_true (decide ((i : Int) < (f.size : Int))) with f16 | f16
 · refine zb I 16 (decide ((i : Int) < (f.size : Int))) (true) (f16) fun Al W I => ?_
   refine h0p I (fun gk fr bx gs => ∃ (U901 : Nat → Value) (k : Nat) (t : Nat), fr = (.v (.int .i64 n) :: .v (.slice p bs.length c) :: su 2 (.v (Go.Value.string (ByteArray.mk #[])) :: .v (.slice p12 f.size c12) :: .v (.int .i64 (i : Int)) :: .v (.int .i64 (t : Int)) :: .v (.int .i64 (k : Int)) :: sw U901 9 7 (.v (.bool true) :: sw U901 17 26 [])) : List SV) ∧ bx = [] ∧ gs = [g0f w.heap.size 5 p12 c12 (vB L), rdvF p (bs.map Value.bool)] ∧ (t = vb ((bs.drop (8 * i)).take k)) ∧ (gk + k = 8)) 8 (fun Al W U I => ⟨_, ⟨U, 0, 0, rfl, rfl, rfl, rfl, (by omega)⟩, I.pick [0, 1]⟩) ?_
   rintro J1 gk1 _ _ _ ⟨U901, k, t, rfl, rfl, rfl, ht, hgk1⟩ hJ1 Al W I
   have hi := oTr f16
   have ht8 : t ≤ 255 := by rw [ht]; exact hvk _ k (by omega)
   rcases Bool.eq_false_or_eq_true (decide ((k : Int) < 8)) with f20 | f20
   · refine zb I 20 (decide ((k : Int) < 8)) (true) (f20) fun Al W I => ?_
     refine zi I 24 .i64 ((2 : Int) * (t : Int)) (((2 * t : Nat) : Int)) ((by rw [show ((2 : Int) * (t : Int)) = ((2 * t : Nat) : Int) by omega]; exact iwo)) fun Al W I => ?_
     refine zi I 27 .i64 ((8 : Int) * (i : Int)) (((8 * i : Nat) : Int)) ((by rw [show ((8 : Int) * (i : Int)) = ((8 * i : Nat) : Int) by omega]; exact iwo)) fun Al W I => ?_
     refine zi I 29 .i64 (((8 * i : Nat) : Int) + (k : Int)) (((8 * i + k : Nat) : Int)) ((by rw [show (((8 * i : Nat) : Int) + (k : Int)) = ((8 * i + k : Nat) : Int) by omega]; exact iwo)) fun Al W I => ?_
     refine zx I 30 (fun _ => .pointer (some (at_ p (8 * i + k)))) (fun Al W I => h0o (c := c) i0f (by have h := I.fa.2.1.solid; rw [hln] at h; exact h) (by have := oTr f20; omega)) fun Al W I => ?_
     rcases Bool.eq_false_or_eq_true (bs.getD (8 * i + k) false) with f31 | f31
     · refine zx I 31 (fun _ => .bool true) (fun Al W I => (d1o I.fa.2.1 l1t (hget (8 * i + k) (by have := oTr f20; omega))).trans (congrArg (fun z => Result.ok (Value.bool z) W) (show (bs.getD (8 * i + k) false) = true from f31))) fun Al W I => ?_
       refine zi I 33 .i64 (((2 * t : Nat) : Int) + 1) (((2 * t + 1 : Nat) : Int)) ((by rw [show (((2 * t : Nat) : Int) + 1) = ((2 * t + 1 : Nat) : Int) by omega]; exact iwo)) fun Al W I => ?_
       refine zi I 22 .i64 ((k : Int) + 1) (((k + 1 : Nat) : Int)) ((by rw [show ((k : Int) + 1) = ((k + 1 : Nat) : Int) by omega]; exact iwo)) fun Al W I => ?_
       exact a0j I J1 fun Al W U I => hJ1 (gk1 - 1) _ _ _ _ _ ((by have := oTr f20; omega)) ⟨U, k + 1, 2 * t + 1, rfl, rfl, rfl, (by rw [← hbit (8 * i) k (by have := oTr f20; omega), f31, ht, Bool.toNat_true, Nat.mul_comm]), (by have := oTr f20; omega)⟩ (I.pick [0, 1])
     refine zx I 31 (fun _ => .bool false) (fun Al W I => (d1o I.fa.2.1 l1t (hget (8 * i + k) (by have := oTr f20; omega))).trans (congrArg (fun z => Result.ok (Value.bool z) W) (show (bs.getD (8 * i + k) false) = false from f31))) fun Al W I => ?_
     refine zi I 22 .i64 ((k : Int) + 1) (((k + 1 : Nat) : Int)) ((by rw [show ((k : Int) + 1) = ((k + 1 : Nat) : Int) by omega]; exact iwo)) fun Al W I => ?_
     exact a0j I J1 fun Al W U I => hJ1 (gk1 - 1) _ _ _ _ _ ((by have := oTr f20; omega)) ⟨U, k + 1, 2 * t, rfl, rfl, rfl, (by rw [← hbit (8 * i) k (by have := oTr f20; omega), f31, ht, Bool.toNat_false, Nat.mul_comm, Nat.add_zero]), (by have := oTr f20; omega)⟩ (I.pick [0, 1])
   refine zb I 20 (decide ((k : Int) < 8)) (false) (f20) fun Al W I => ?_
   refine zq I (fun Al W I => have hzW := I.bel.size; (HP i W (by omega)).out) fun Al W I => ?_
   refine zi I 39 .u8 (t : Int) ((t : Int)) ((by rw [x0m, Nat.mod_eq_of_lt (by omega)])) fun Al W I => ?_
   refine zx I 40 (fun _ => .pointer (some (at_ p12 (plc f.ord f.size i)))) (fun Al W I => h0o (c := c12) g0i (by have h := I.fa.1.rd.solid; rw [m0a, hL] at h; exact h) (hpl i (by omega))) fun Al W I => ?_
   refine zput I [0] g0i (plc f.ord f.size i) (.int .u8 (t : Int)) (by rw [m0a, hL]; exact hpl i (by omega)) (e1u _ _ _) (us := vB (L.set (plc f.ord f.size i) t)) (fun Al W I h9 => ⟨fun h => by have h1 := hp.lt h.1; have h2 := (I.fa.1.blk_lt h9).1; have h3 := h.2; omega, True.intro⟩) fun Al W I => ?_
   refine zi I 18 .i64 ((i : Int) + 1) (((i + 1 : Nat) : Int)) ((by rw [show ((i : Int) + 1) = ((i + 1 : Nat) : Int) by omega]; exact iwo)) fun Al W I => ?_
   exact a0j I J0 fun Al W U I => hJ0 (gk0 - 1) _ _ _ _ _ ((by omega)) ⟨U, i + 1, L.set (plc f.ord f.size i) t, rfl, rfl, rfl, (by rw [List.length_set]; exact hL), (hstep L i t hL (by omega) hD (by rw [ht, show k = 8 by have := oFa f20; omega])), (by omega)⟩ (I.pick [0, 1])
 refine zb I 16 (decide ((i : Int) < (f.size : Int))) (false) (f16) fun Al W I => ?_
 refine zx I 42 (fun _ => .string (a0e L)) (fun Al W I => e1s (n := f.size) (c := c12) z0e j1d uStr (e1v I.fa.1).rd hL.symm) fun Al W I => ?_
 have hi : i = f.size := by have := oFa f16; omega
 exact zret I fun Al W I => ⟨L, rfl, hL, fun j hj => hD j (by omega), I.below⟩
end Go.Proofs.YtbamiajjampgnaaGreatDoor
namespace Go.Slip
structure NumR (f : Fm) (d : Dv) (A B K : Int) (X : Nat) : Prop where
 hA : A = (d.e + ((blen d.m : Nat) : Int) - 1 + 80000).tdiv ((wid f.g : Nat) : Int)
 hB : B = (80000 : Int).tdiv ((wid f.g : Nat) : Int)
 a1 : -200000 ≤ A
 a2 : A ≤ 200000
 b1 : 0 ≤ B
 b2 : B ≤ 80000
 mx : max f.g.lo (A - B - f.g.digs + 1) = K
 k1 : f.g.lo ≤ K
 k2 : K ≤ f.g.hi
 m1 : -80000 ≤ wid f.g * K
 m2 : wid f.g * K ≤ 80000
 bl : blen d.m ≤ 40000
 e1 : -20000 ≤ d.e
 e2 : d.e ≤ 20000
 fl : j0b ⟨false, d.m, d.e - wid f.g * K⟩ = X
 xl : (dig B16 X).length ≤ 40
 np : f.numP d = if f.fam = 2 then ⟨d.neg, (K - f.g.lo).toNat, X⟩ else if (blen X : Int) = f.g.digs then ⟨d.neg, (K - f.g.lo).toNat + 1, if f.ext then X else X - 2 ^ f.F⟩ else ⟨d.neg, (K - f.g.lo).toNat, X⟩
end Go.Slip
namespace Go.Proofs.YtbamiajjampgnaaGreatDoor
open Go.RowKit Go.Slip
theorem f0g {x k n : Nat} (h : x < 2 ^ k) (hk : k ≤ 16 * n) : (dig B16 x).length ≤ n := by
 rw [a0h a0f]
 unfold B16
 rw [show (65536 : Nat) = 2 ^ 16 from rfl, ← Nat.pow_mul]
 exact Nat.lt_of_lt_of_le h (Nat.pow_le_pow_right (by omega) hk)
theorem o1s {f : Fm} (G : c0x f) {d : Dv} (hin : a0q d f.g = true) (h0 : d.m ≠ 0) (hB : Bare d) (hl : (dig B32 d.m).length ≤ 1200) : ∃ A B K X, NumR f d A B K X := by
 have N := r0t G hin h0
 have he := y0x G.g hB hin
 have hg := b0n G.g
 have hbl := c0m d.m
 have hpos := (d0k d.m).2 (by omega)
 have wp := b0e f.g
 have w2 : wid f.g = 1 ∨ wid f.g = 4 := by rw [G.w]; split <;> simp
 have hx : -80000 ≤ d.e + (blen d.m : Int) - 1 := by omega
 have h8 := j1p w2 hx
 have hmul := m0b (wd := wid f.g) (k := b0y d f.g) (B := 17000) wp.2 (by have := N.k1; have := N.k2; have := hg.l1; have := hg.h2; omega)
 have hd := e0w (d.e + (blen d.m : Int) - 1) (wid f.g) (by omega)
 have hab := i0t (x := d.e + (blen d.m : Int) - 1 + 80000) (B := 150000) (wd := wid f.g) wp.1 (by omega)
 have hab2 := i0t (x := 80000) (B := 80000) (wd := wid f.g) wp.1 (by omega)
 have hab3 : (0 : Int) ≤ 80000 / (wid f.g : Int) := Int.ediv_nonneg (by omega) (by omega)
 refine ⟨_, _, b0y d f.g, f.fr d, ⟨rfl, rfl, by rw [h8.1]; omega, by rw [h8.1]; omega, by rw [h8.2.1]; omega, by rw [h8.2.1]; omega, ?_, N.k1, N.k2, by omega, by omega, by omega, by omega, by omega, ?_, ?_, rfl⟩⟩
 · rw [h8.1, h8.2.1, h8.2.2]
   have hd1 := hg.d1
   show _ = max f.g.lo (upK d (wid f.g) f.g.digs.toNat)
   unfold upK topD
   congr 1
   omega
 · unfold j0b Fm.fr
   simp only
   rw [if_pos N.e0]
 · have h1 := N.lt
   have hd2 := hg.d2
   exact f0g h1 (by have := Nat.mul_le_mul wp.2 (show f.g.digs.toNat ≤ 120 by omega); omega)
end Go.Proofs.YtbamiajjampgnaaGreatDoor
namespace Go.Slip
theorem x0w {f : Fm} (G : c0x f) {g : Bool} {e x : Nat} (he : e < 2 ^ f.E) (hx : x < 2 ^ f.F) {L : List Nat} (hl : L.length = f.size) (h : ∀ i, i < f.size → dg L (plc f.ord f.size i) = vb (((f.bits g e x).drop (8 * i)).take 8)) : L = f.str g e x := by
 refine q1h G hl fun i hi => ?_
 rw [h i hi, a1w (f.bits g e x) f.size i (by rw [r0r, G.bits]) hi, r0s he hx]
end Go.Slip
namespace Go.Proofs.YtbamiajjampgnaaGreatDoor
open Go.RowKit Go.Slip
theorem r1r (p : Option Addr) (n c : Nat) (e : Int) (m x : Nat) (w : World) (hp : Rd w .i64 p (dig B16 m)) (hn : n = (dig B16 m).length) (hl : (dig B16 m).length ≤ 1000000) (he : -1000000 ≤ e ∧ e ≤ 1000000) (h : j0b ⟨false, m, e⟩ = x) :
 Calls Tryz.prog 36 #[.agg #[.bool false, .slice p n c, .int .i64 e]] w (GRf w (dig B16 x)) := by
 subst h
 exact (o0z false p n c e m w hp hn hl he).mono fun _ _ => d0y.grf
theorem v0n (a many : Nat) (p : Option Addr) (n c b0 : Nat) (w : World) (hn : n = (dig B16 a).length) (hp : Rf w b0 p c (dig B16 a)) (hl : (dig B16 a).length ≤ 1000) (hm : many ≤ 1000) :
 Calls Tryz.prog 133 #[.slice p n c, .int .i64 (many : Int)] w (GBs w (d0i a many)) := by
 subst hn
 exact e0i a many p c b0 w hp hl hm
theorem o0p (n : Int) (v : Vr) (p : Option Addr) (c b0 : Nat) (w : World) (hn : IsFm n) (hp : Rf w b0 p c (dig B16 v.x.m)) (hl : (dig B16 v.x.m).length ≤ 2400)
 (N : v.cls = 2 → a0q v.x (fmt n).g = true ∧ v.x.m ≠ 0 ∧ Bare v.x ∧ v.x.neg = v.neg ∧ (dig B32 v.x.m).length ≤ 1200) :
 Calls Tryz.prog 62 #[.int .i64 n, .agg #[.int .i64 (v.cls : Int), .bool v.neg, .bool v.x.neg, .slice p (dig B16 v.x.m).length c, .int .i64 v.x.e]] w fun en w' => en = .returned (.string (a0e ((fmt n).strP ((fmt n).encP v.cls v.neg v.x)))) ∧ Below w.heap.size w w' := by
 have G := b0m hn
 have hext := l1y hn
 have HF := fun W => hi0 (i0h n hn W)
 have HPT := fun (bs : List Bool) m p c W h1 h2 h3 => hi0 (m0n n bs m p c W hn h1 h2 h3)
 generalize fmt n = f at *
 have z1 := G.sz
 have z2 := G.e2
 have z3 := G.f2
 have z4 := G.bits
 have z5 := G.lo
 have z6 := G.f1
 have z7 := G.hi
 have hlt := e1o G (cls := v.cls) (g := v.neg) (d := v.x) (fun h => r0t G (N h).1 (N h).2.1)
 have hN : v.cls = 2 → ∃ A B K X, NumR f v.x A B K X := fun h => o1s G (N h).1 (N h).2.1 (N h).2.2.1 (N h).2.2.2.2
 have hsn : v.cls = 2 → v.x.neg = v.neg := fun h => (N h).2.2.2.1
 have hF := G.hi1
 have h15 : 2 ^ f.E ≤ 32768 := by rw [show (32768 : Nat) = 2 ^ 15 from rfl]; exact Nat.pow_le_pow_right (by omega) (by omega)
 have h0E : 0 < 2 ^ f.E := Nat.pow_pos (by omega)
 have hpi : ∀ i, i ≤ f.E → 2 ^ i ≤ 32768 := fun i hi => Nat.le_trans (Nat.pow_le_pow_right (by omega) hi) h15
 have hp2 : ∀ i, 2 * 2 ^ i = 2 ^ (i + 1) := fun i => by rw [Nat.pow_succ]; omega
 have hg := b0n G.g
 have hd1 := hg.d1
 have hd2 := hg.d2
 obtain ⟨dN, hdN⟩ : ∃ dN : Nat, f.g.digs - 1 = (dN : Int) := ⟨(f.g.digs - 1).toNat, by omega⟩
 have hdl : (dig B16 (2 ^ dN)).length ≤ 8 := g0b (n := 121) (Nat.pow_lt_pow_right (by omega) (by omega)) (by omega)
 have h63 : (dig B16 (2 ^ 63)).length ≤ 4 := g0b (n := 64) (by omega) (by omega)
 have h62 : (dig B16 (2 ^ 62)).length ≤ 4 := g0b (n := 64) (by omega) (by omega)
 have hFl : (dig B16 (2 ^ (f.F - 1))).length ≤ 4 := g0b (n := 64) (Nat.pow_lt_pow_right (by omega) (by omega)) (by omega)
 have hge : ∀ X : Nat, (blen X : Int) = f.g.digs → 2 ^ dN ≤ X := fun X h => by
  have h1 := f0v X ((d0k X).1 (by omega))
  rw [show blen X - 1 = dN by omega] at h1
  exact h1
 have e3 : v.cls = 3 → f.encP v.cls v.neg v.x = ⟨v.neg, 2 ^ f.E - 1, if f.ext then 2 ^ 63 else 0⟩ := fun h => by rw [h]; rfl
 have e4 : v.cls = 4 → f.encP v.cls v.neg v.x = ⟨v.neg, 2 ^ f.E - 1, if f.ext then 2 ^ 63 + 2 ^ 62 else 2 ^ (f.F - 1)⟩ := fun h => by rw [h]; rfl
 have e5 : v.cls = 5 → f.encP v.cls v.neg v.x = ⟨true, 0, 0⟩ := fun h => by rw [h]; rfl
 have e2 : v.cls = 2 → f.encP v.cls v.neg v.x = f.numP v.x := fun h => by rw [h]; rfl
 have e1 : v.cls ≠ 2 → v.cls ≠ 3 → v.cls ≠ 4 → v.cls ≠ 5 → f.encP v.cls v.neg v.x = ⟨v.neg, 0, 0⟩ := fun h2 h3 h4 h5 => by unfold Fm.encP; rw [if_neg h2, if_neg h3, if_neg h4, if_neg h5]
 have hwd : ((wid f.g : Nat) : Int) ≠ 0 := by have := b0e f.g; omega
 have hd1F := G.d1
 have hln : ∀ (x y : List Bool), (x.map Value.bool ++ y.map Value.bool) = (x ++ y).map Value.bool := fun x y => by rw [List.map_append]
 obtain ⟨en, hen⟩ : ∃ en, f.encP v.cls v.neg v.x = en := ⟨_, rfl⟩
 rw [hen] at hlt e1 e2 e3 e4 e5 ⊢
 have hel : ∀ (g : Bool) (e x : Nat), en = ⟨g, e, x⟩ → (dig B16 e).length ≤ 4 ∧ (dig B16 x).length ≤ 40 := fun g e x h => by subst h; exact ⟨f0g hlt.1 (by omega), f0g hlt.2 (by omega)⟩
 have hstr := fun (L : List Nat) h1 h2 => x0w G (g := en.neg) hlt.1 hlt.2 (L := L) h1 h2
 have hbl := r0r f
 unfold Fm.strP
 clear N hen
 have I := Inv.start w [rfF b0 p c (dig B16 v.x.m)] ⟨hp, True.intro⟩
 refine a0g [.v (.int .i64 n), .v (.agg #[.int .i64 (v.cls : Int), .bool v.neg, .bool v.x.neg, .slice p (dig B16 v.x.m).length c, .int .i64 v.x.e])] I Tryz.func62 ?_
 refine zq I (fun Al W I => (HF W).out) fun Al W I => ?_
 refine h0p I (fun gk fr bx gs => ∃ (U900 : Nat → Value) (i : Nat) (t : Nat), fr = (.v (.int .i64 n) :: .v (.agg #[.int .i64 (v.cls : Int), .bool v.neg, .bool v.x.neg, .slice p (dig B16 v.x.m).length c, .int .i64 v.x.e]) :: .v undef :: .p 0 0 :: .v (Go.Value.string (ByteArray.mk #[])) :: .p 1 0 :: .v (U900 6) :: .v (.int .i64 0) :: .v (.slice none 0 0) :: .v (.bool v.neg) :: .v (.int .i64 (t : Int)) :: .v (.int .i64 (i : Int)) :: su 3 (sw U900 15 18 (su 2 (sw U900 35 47 (.v undef :: sw U900 83 5 (.v undef :: sw U900 89 3 (.v undef :: sw U900 93 7 (.v undef :: sw U900 101 3 (.v undef :: .v (U900 105) :: .v undef :: sw U900 107 7 (.v undef :: sw U900 115 3 (.v undef :: sw U900 119 17 [])))))))))) : List SV) ∧ bx = [⟨49, [.v (.int .i64 (v.cls : Int)), .v (.bool v.neg), .v (.bool v.x.neg), .v (.slice p (dig B16 v.x.m).length c), .v (.int .i64 v.x.e)], false⟩, ⟨42, [.v (.int .i64 (f.size : Int)), .v (.int .i64 (f.E : Int)), .v (.int .i64 (f.F : Int)), .v (.int .i64 f.g.rad), .v (.int .i64 f.g.digs), .v (.int .i64 f.g.lo), .v (.int .i64 f.g.hi), .v (.bool f.g.grad), .v (.int .i64 (f.fam : Int))], false⟩] ∧ gs = [rfF b0 p c (dig B16 v.x.m)] ∧ (t = 2 ^ i) ∧ (gk + i = f.E)) f.E (fun Al W U I => ⟨_, ⟨U, 0, 1, rfl, rfl, rfl, rfl, (by omega)⟩, I.pick [0]⟩) ?_
 rintro J0 gk0 _ _ _ ⟨U900, i, t, rfl, rfl, rfl, ht, hgk⟩ hJ0 Al W I
 have ht15 : t ≤ 32768 := by rw [ht]; exact hpi i (by omega)
 rcases Bool.eq_false_or_eq_true (decide ((i : Int) < (f.E : Int))) with f25 | f25
 · refine zb I 25 (decide ((i : Int) < (f.E : Int))) (true) (f25) fun Al W I => ?_
   refine zi I 29 .i64 ((2 : Int) * (t : Int)) (((2 * t : Nat) : Int)) ((by rw [show ((2 : Int) * (t : Int)) = ((2 * t : Nat) : Int) by omega]; exact iwo)) fun Al W I => ?_
   refine zi I 27 .i64 ((i : Int) + 1) (((i + 1 : Nat) : Int)) ((by rw [show ((i : Int) + 1) = ((i + 1 : Nat) : Int) by omega]; exact IntWalk.i64_in _ (by have := oTr f25; omega))) fun Al W I => ?_
   exact a0j I J0 fun Al W U I => hJ0 (gk0 - 1) _ _ _ _ _ ((by have := oTr f25; omega)) ⟨U, i + 1, 2 * t, rfl, rfl, rfl, (by rw [ht, hp2]), (by have := oTr f25; omega)⟩ (I.pick [0])
 refine zb I 25 (decide ((i : Int) < (f.E : Int))) (false) (f25) fun Al W I => ?_
 have hiE : i = f.E := by have := oFa f25; omega
 have htP : t = 2 ^ f.E := by rw [ht, hiE]
 have I := I.rfA (t0p _ w.heap.size none) (fun _ h => h) (fun _ _ h => by cases h) (Nat.le_refl _)
 refine zi I 31 .i64 ((t : Int) - 1) (((t - 1 : Nat) : Int)) ((by rw [show ((t : Int) - 1) = ((t - 1 : Nat) : Int) by omega]; exact iwo)) fun Al W I => ?_
 refine zcut I (some 1000002) (fun fr bx gs => ∃ (U1 : Nat → Value) (e : Nat) (x : Nat) (g : Bool) (p8 : Option Addr) (c8 : Nat) (n8 : Nat) (ds : List Nat), fr = (.v (.int .i64 n) :: .v (.agg #[.int .i64 (v.cls : Int), .bool v.neg, .bool v.x.neg, .slice p (dig B16 v.x.m).length c, .int .i64 v.x.e]) :: .v undef :: .p 0 0 :: .v (Go.Value.string (ByteArray.mk #[])) :: .p 1 0 :: .v (U1 6) :: .v (.int .i64 (e : Int)) :: .v (.slice p8 n8 c8) :: .v (.bool g) :: .v (.int .i64 ((t - 1 : Nat) : Int)) :: .v (.int .i64 (i : Int)) :: sw U1 12 2 (.v undef :: sw U1 15 10 (.v (.bool false) :: sw U1 26 7 (.v (.int .i64 (v.cls : Int)) :: sw U1 34 102 []))) : List SV) ∧ bx = [⟨49, [.v (.int .i64 (v.cls : Int)), .v (.bool v.neg), .v (.bool v.x.neg), .v (.slice p (dig B16 v.x.m).length c), .v (.int .i64 v.x.e)], false⟩, ⟨42, [.v (.int .i64 (f.size : Int)), .v (.int .i64 (f.E : Int)), .v (.int .i64 (f.F : Int)), .v (.int .i64 f.g.rad), .v (.int .i64 f.g.digs), .v (.int .i64 f.g.lo), .v (.int .i64 f.g.hi), .v (.bool f.g.grad), .v (.int .i64 (f.fam : Int))], false⟩] ∧ gs = [rfF w.heap.size p8 c8 ds, rfF b0 p c (dig B16 v.x.m)] ∧ (ds = dig B16 x) ∧ (n8 = ds.length) ∧ (en = ⟨g, e, x⟩)) ?_ ?_
 · intro J hJ Al W I
   rcases Bool.eq_false_or_eq_true ((v.cls : Int) == 2) with f35 | f35
   · refine zb I 35 ((v.cls : Int) == 2) (true) (f35) fun Al W I => ?_
     have c2 : v.cls = 2 := by have := beq_iff_eq.1 f35; omega
     obtain ⟨A, B, K, X, R⟩ := hN c2
     obtain ⟨hA, hB, ra1, ra2, rb1, rb2, rmx, rk1, rk2, rm1, rm2, rbl, re1, re2, rfl0, rxl, rnp⟩ := R
     rw [← e2 c2] at rnp
     generalize hmw : ((wid f.g : Nat) : Int) * K = mw at *
     refine zq I (fun Al W I => f0z f.g W) fun Al W I => ?_
     refine zd [] I fun Al W I => ?_
     refine zk [0, 1, 2, 3, 4, 5, 6, 7, 8, 13, 15] I fun I => ?_
     refine t0r 16 I _ (fun _ _ _ _ => l0n .i64 (80000) ((wid f.g : Nat) : Int) (B) (hwd) ((by rw [← hB]; exact iwo))) fun I => ?_
     refine zk [18, 19, 20] I fun I => ?_
     refine zo 9 I fun I => ?_
     refine zq I (fun Al W I => have hzW := I.bel.size; stay (e0e p _ c v.x.m W I.fa.2.1.rd rfl (by omega))) fun Al W I => ?_
     refine zki 10 I .i64 (v.x.e + ((blen v.x.m : Nat) : Int)) (v.x.e + ((blen v.x.m : Nat) : Int)) (iwo) fun I => ?_
     refine zki 11 I .i64 ((v.x.e + ((blen v.x.m : Nat) : Int)) - 1) ((v.x.e + ((blen v.x.m : Nat) : Int)) - 1) (iwo) fun I => ?_
     refine zki 12 I .i64 (((v.x.e + ((blen v.x.m : Nat) : Int)) - 1) + 80000) (((v.x.e + ((blen v.x.m : Nat) : Int)) - 1) + 80000) (iwo) fun I => ?_
     refine t0r 14 I _ (fun _ _ _ _ => l0n .i64 (((v.x.e + ((blen v.x.m : Nat) : Int)) - 1) + 80000) ((wid f.g : Nat) : Int) (A) (hwd) ((by rw [← hA]; exact iwo))) fun I => ?_
     refine zki 17 I .i64 (A - B) (A - B) (iwo) fun I => ?_
     refine zki 21 I .i64 ((A - B) - f.g.digs) ((A - B) - f.g.digs) (iwo) fun I => ?_
     refine zki 22 I .i64 (((A - B) - f.g.digs) + 1) (((A - B) - f.g.digs) + 1) (iwo) fun I => ?_
     refine zkm 23 I .i64 (if ((((A - B) - f.g.digs) + 1) : Int) > f.g.lo then (((A - B) - f.g.digs) + 1) else f.g.lo) (K) (((r1d _ _).trans rmx)) fun I => ?_
     refine zk [24] I fun I => ?_
     refine zi I 71 .i64 (((wid f.g : Nat) : Int) * K) (mw) ((by rw [hmw]; exact iwo)) fun Al W I => ?_
     refine zi I 72 .i64 (v.x.e - mw) (v.x.e - mw) (iwo) fun Al W I => ?_
     refine zqr I (fun Al W I => have hzW := I.bel.size; r1r p _ c (v.x.e - mw) v.x.m X W I.fa.2.1.rd rfl (by omega) (by omega) rfl0) fun Al W p74 c74 I => ?_
     refine zi I 79 .i64 (K - f.g.lo) ((((K - f.g.lo).toNat : Nat) : Int)) ((by rw [show (((K - f.g.lo).toNat : Nat) : Int) = K - f.g.lo by omega]; exact iwo)) fun Al W I => ?_
     rcases Bool.eq_false_or_eq_true ((f.fam : Int) != 2) with f82 | f82
     · refine zb I 82 ((f.fam : Int) != 2) (true) (f82) fun Al W I => ?_
       by_cases h88 : ((blen X : Nat) : Int) = f.g.digs
       · refine zd [] I fun Al W I => ?_
         refine zk [0, 2, 3, 4] I fun I => ?_
         refine zo 1 I fun I => ?_
         refine zq I (fun Al W I => have hzW := I.bel.size; stay (e0e p74 _ c74 X W I.fa.1.rd rfl (by omega))) fun Al W I => ?_
         refine zkb 5 I (((blen X : Nat) : Int) == f.g.digs) (true) (beq_iff_eq.2 h88) fun I => ?_
         refine zi I 90 .i64 ((((K - f.g.lo).toNat : Nat) : Int) + 1) ((((K - f.g.lo).toNat + 1 : Nat) : Int)) ((by rw [show ((((K - f.g.lo).toNat : Nat) : Int) + 1) = (((K - f.g.lo).toNat + 1 : Nat) : Int) by omega]; exact iwo)) fun Al W I => ?_
         rcases Bool.eq_false_or_eq_true (n != 3) with f92 | f92
         · refine zb I 92 (n != 3) (true) (f92) fun Al W I => ?_
           refine zi I 97 .i64 (f.g.digs - 1) ((dN : Int)) ((by rw [hdN]; exact iwo)) fun Al W I => ?_
           refine zqr I (fun Al W I => have hzW := I.bel.size; x0n (dN : Int) dN rfl (by omega) W) fun Al W p98 c98 I => ?_
           refine zqr I (fun Al W I => have hzW := I.bel.size; o1e p74 p98 _ _ c74 c98 X (2 ^ dN) (X - 2 ^ dN) W I.fa.2.1.rd I.fa.1.rd rfl rfl (by omega) (hge X h88) rfl) fun Al W p99 c99 I => ?_
           exact a0j I J fun Al W U I => hJ _ _ _ _ _ ⟨U, (K - f.g.lo).toNat + 1, X - 2 ^ dN, v.neg, p99, c99, (dig B16 (X - 2 ^ dN)).length, dig B16 (X - 2 ^ dN), rfl, rfl, rfl, rfl, rfl, (by have c3 : n ≠ 3 := bne_iff_ne.1 f92; have cx : f.ext = false := (by rw [hext]; exact dFa c3); have cf : f.fam ≠ 2 := (by have := bne_iff_ne.1 f82; omega); have cF := hd1F cf cx; rw [rnp, if_neg cf, if_pos h88, hsn c2, if_neg (by rw [cx]; simp), show dN = f.F by omega])⟩ (I.pick [0, 4])
         refine zb I 92 (n != 3) (false) (f92) fun Al W I => ?_
         exact a0j I J fun Al W U I => hJ _ _ _ _ _ ⟨U, (K - f.g.lo).toNat + 1, X, v.neg, p74, c74, (dig B16 X).length, dig B16 X, rfl, rfl, rfl, rfl, rfl, (by have c3 : n = 3 := (by simpa using f92); have cx : f.ext = true := (by rw [hext]; exact dTr c3); have cf : f.fam ≠ 2 := (by have := bne_iff_ne.1 f82; omega); rw [rnp, if_neg cf, if_pos h88, hsn c2, if_pos cx])⟩ (I.pick [0, 2])
       refine zd [] I fun Al W I => ?_
       refine zk [0, 2, 3, 4] I fun I => ?_
       refine zo 1 I fun I => ?_
       refine zq I (fun Al W I => have hzW := I.bel.size; stay (e0e p74 _ c74 X W I.fa.1.rd rfl (by omega))) fun Al W I => ?_
       refine zkb 5 I (((blen X : Nat) : Int) == f.g.digs) (false) (bFn h88) fun I => ?_
       exact a0j I J fun Al W U I => hJ _ _ _ _ _ ⟨U, (K - f.g.lo).toNat, X, v.neg, p74, c74, (dig B16 X).length, dig B16 X, rfl, rfl, rfl, rfl, rfl, (by have cf : f.fam ≠ 2 := (by have := bne_iff_ne.1 f82; omega); rw [rnp, if_neg cf, if_neg h88, hsn c2])⟩ (I.pick [0, 2])
     refine zb I 82 ((f.fam : Int) != 2) (false) (f82) fun Al W I => ?_
     exact a0j I J fun Al W U I => hJ _ _ _ _ _ ⟨U, (K - f.g.lo).toNat, X, v.neg, p74, c74, (dig B16 X).length, dig B16 X, rfl, rfl, rfl, rfl, rfl, (by have cf : f.fam = 2 := (by have h82 : (f.fam : Int) = 2 := (by simpa using f82); omega); rw [rnp, if_pos cf, hsn c2])⟩ (I.pick [0, 2])
   refine zb I 35 ((v.cls : Int) == 2) (false) (f35) fun Al W I => ?_
   rcases Bool.eq_false_or_eq_true ((v.cls : Int) == 3) with f101 | f101
   · refine zb I 101 ((v.cls : Int) == 3) (true) (f101) fun Al W I => ?_
     rcases Bool.eq_false_or_eq_true (n == 3) with f104 | f104
     · refine zb I 104 (n == 3) (true) (f104) fun Al W I => ?_
       refine zqr I (fun Al W I => have hzW := I.bel.size; x0n 63 63 rfl (by omega) W) fun Al W p105 c105 I => ?_
       exact a0j I J fun Al W U I => hJ _ _ _ _ _ ⟨U, t - 1, 2 ^ 63, v.neg, p105, c105, (dig B16 (2 ^ 63)).length, dig B16 (2 ^ 63), rfl, rfl, rfl, rfl, rfl, (by have c3 : n = 3 := beq_iff_eq.1 f104; have cx : f.ext = true := (by rw [hext]; exact dTr c3); rw [e3 (by have := beq_iff_eq.1 f101; omega), if_pos cx, htP])⟩ (I.pick [0, 2])
     refine zb I 104 (n == 3) (false) (f104) fun Al W I => ?_
     exact a0j I J fun Al W U I => hJ _ _ _ _ _ ⟨U, t - 1, 0, v.neg, none, 0, 0, [], rfl, rfl, rfl, (by rw [a0c]), rfl, (by have c3 : n ≠ 3 := bnF f104; have cx : f.ext = false := (by rw [hext]; exact dFa c3); rw [e3 (by have := beq_iff_eq.1 f101; omega), if_neg (by rw [cx]; simp), htP])⟩ (I.pick [0, 1])
   refine zb I 101 ((v.cls : Int) == 3) (false) (f101) fun Al W I => ?_
   rcases Bool.eq_false_or_eq_true ((v.cls : Int) == 4) with f107 | f107
   · refine zb I 107 ((v.cls : Int) == 4) (true) (f107) fun Al W I => ?_
     refine zi I 111 .i64 ((f.F : Int) - 1) (((f.F - 1 : Nat) : Int)) ((by rw [show ((f.F : Int) - 1) = ((f.F - 1 : Nat) : Int) by omega]; exact iwo)) fun Al W I => ?_
     refine zqr I (fun Al W I => have hzW := I.bel.size; x0n ((f.F - 1 : Nat) : Int) (f.F - 1) rfl (by omega) W) fun Al W p112 c112 I => ?_
     rcases Bool.eq_false_or_eq_true (n == 3) with f114 | f114
     · refine zb I 114 (n == 3) (true) (f114) fun Al W I => ?_
       refine zqr I (fun Al W I => have hzW := I.bel.size; x0n 63 63 rfl (by omega) W) fun Al W p115 c115 I => ?_
       refine zqr I (fun Al W I => have hzW := I.bel.size; x0n 62 62 rfl (by omega) W) fun Al W p116 c116 I => ?_
       refine zqr I (fun Al W I => have hzW := I.bel.size; s1r p115 p116 _ _ c115 c116 (2 ^ 63) (2 ^ 62) (2 ^ 63 + 2 ^ 62) W I.fa.2.1.rd I.fa.1.rd rfl rfl (by omega) (by omega) rfl) fun Al W p117 c117 I => ?_
       exact a0j I J fun Al W U I => hJ _ _ _ _ _ ⟨U, t - 1, 2 ^ 63 + 2 ^ 62, v.neg, p117, c117, (dig B16 (2 ^ 63 + 2 ^ 62)).length, dig B16 (2 ^ 63 + 2 ^ 62), rfl, rfl, rfl, rfl, rfl, (by have c3 : n = 3 := beq_iff_eq.1 f114; have cx : f.ext = true := (by rw [hext]; exact dTr c3); rw [e4 (by have := beq_iff_eq.1 f107; omega), if_pos cx, htP])⟩ (I.pick [0, 5])
     refine zb I 114 (n == 3) (false) (f114) fun Al W I => ?_
     exact a0j I J fun Al W U I => hJ _ _ _ _ _ ⟨U, t - 1, 2 ^ (f.F - 1), v.neg, p112, c112, (dig B16 (2 ^ (f.F - 1))).length, dig B16 (2 ^ (f.F - 1)), rfl, rfl, rfl, rfl, rfl, (by have c3 : n ≠ 3 := bnF f114; have cx : f.ext = false := (by rw [hext]; exact dFa c3); rw [e4 (by have := beq_iff_eq.1 f107; omega), if_neg (by rw [cx]; simp), htP])⟩ (I.pick [0, 2])
   refine zb I 107 ((v.cls : Int) == 4) (false) (f107) fun Al W I => ?_
   rcases Bool.eq_false_or_eq_true ((v.cls : Int) == 5) with f119 | f119
   · refine zb I 119 ((v.cls : Int) == 5) (true) (f119) fun Al W I => ?_
     exact a0j I J fun Al W U I => hJ _ _ _ _ _ ⟨U, 0, 0, true, none, 0, 0, [], rfl, rfl, rfl, (by rw [a0c]), rfl, (by rw [e5 (by have := beq_iff_eq.1 f119; omega)])⟩ (I.pick [0, 1])
   refine zb I 119 ((v.cls : Int) == 5) (false) (f119) fun Al W I => ?_
   exact a0j I J fun Al W U I => hJ _ _ _ _ _ ⟨U, 0, 0, v.neg, none, 0, 0, [], rfl, rfl, rfl, (by rw [a0c]), rfl, (by rw [e1 (by have := bnF f35; omega) (by have := bnF f101; omega) (by have := bnF f107; omega) (by have := bnF f119; omega)])⟩ (I.pick [0, 1])
 rintro _ _ _ ⟨U1, e, x, g, p8, c8, n8, ds, rfl, rfl, rfl, hds, hn8, hP⟩ Al W I
 refine zcut I none (fun fr bx gs => ∃ (U2 : Nat → Value) (p127 : Option Addr) (c127 : Nat), fr = (.v (.int .i64 n) :: .v (.agg #[.int .i64 (v.cls : Int), .bool v.neg, .bool v.x.neg, .slice p (dig B16 v.x.m).length c, .int .i64 v.x.e]) :: .v undef :: .p 0 0 :: .v (Go.Value.string (ByteArray.mk #[])) :: .p 1 0 :: .v (U2 6) :: .v (.int .i64 (e : Int)) :: .v (.slice p8 n8 c8) :: .v (.bool g) :: .v (.int .i64 ((t - 1 : Nat) : Int)) :: .v (.int .i64 (i : Int)) :: sw U1 12 2 (.v (.slice p127 (1 + f.E) c127) :: sw U2 15 10 (.v (.bool false) :: sw U2 26 7 (.v (.int .i64 (v.cls : Int)) :: .v (U1 34) :: sw U2 35 47 (.v (U1 82) :: sw U2 83 5 (.v (U1 88) :: sw U2 89 3 (.v (U1 92) :: sw U2 93 7 (.v (U1 100) :: sw U2 101 3 (.v (U1 104) :: .v (U2 105) :: .v (U1 106) :: sw U2 107 7 (.v (U1 114) :: sw U2 115 3 (.v (U1 118) :: sw U2 119 17 [])))))))))) : List SV) ∧ bx = [⟨49, [.v (.int .i64 (v.cls : Int)), .v (.bool v.neg), .v (.bool v.x.neg), .v (.slice p (dig B16 v.x.m).length c), .v (.int .i64 v.x.e)], false⟩, ⟨42, [.v (.int .i64 (f.size : Int)), .v (.int .i64 (f.E : Int)), .v (.int .i64 (f.F : Int)), .v (.int .i64 f.g.rad), .v (.int .i64 f.g.digs), .v (.int .i64 f.g.lo), .v (.int .i64 f.g.hi), .v (.bool f.g.grad), .v (.int .i64 (f.fam : Int))], false⟩] ∧ gs = [g0f w.heap.size 4 p127 c127 ([.bool g] ++ ((d0i e f.E).map Value.bool)), rfF w.heap.size p8 c8 ds]) ?_ ?_
 · intro J hJ Al W I
   refine zd [] I fun Al W I => ?_
   refine zk [0, 2, 4, 5] I fun I => ?_
   refine zo2 1 3 I (fun I => ?_) (fun I => ?_)
   · refine zlo I 121 1 4 [.bool g] fun Al W b121 hq_121 I => ?_
     refine zo 3 I fun I => ?_
     refine zqr I (fun Al W I => have hzW := I.bel.size; r1l (e : Int) e rfl (by rw [hP] at hlt; have := hlt.1; simp only at this; omega) W) fun Al W p123 c123 I => ?_
     refine zo 6 I fun I => ?_
     refine zg I (fun Al W I => have hzW := I.bel.size; e0i e f.E p123 c123 _ W I.fa.1 (by have := (hel _ _ _ hP).1; omega) (by omega)) fun Al V Iv _ hB _ kz => ?_
     rintro _ W ⟨p126, c126, rfl, o126, hb⟩
     refine ⟨_, rfl, kz _ _ hb fun I => ?_⟩
     have I := I.ownv o126
     refine zo 7 I fun I => ?_
     have I := I.pick [2, 0, 1, 3, 4]
     refine zapv I [2] i0f 121 1 ((d0i e f.E).length) (1 + f.E) (fun Al => p126) c126 ((d0i e f.E).map Value.bool) rfl (by rw [List.length_map]) (by rw [b0r]) (by omega) rfl (us := [.bool g] ++ ((d0i e f.E).map Value.bool)) (fun Al W I => I.fa.2.1.rd) (fun Al W I h9 => ⟨(hq_121 h9).1, True.intro⟩) (fun Al W p127 c127 I => ?_) (hone := allb _)
     refine zk [8] I fun I => ?_
     exact a0j I J fun Al W U I => hJ _ _ _ _ _ ⟨U, p127, c127, rfl, rfl, rfl⟩ (I.pick [0, 1])
   refine zqr I (fun Al W I => have hzW := I.bel.size; r1l (e : Int) e rfl (by rw [hP] at hlt; have := hlt.1; simp only at this; omega) W) fun Al W p123 c123 I => ?_
   refine zo2 1 6 I (fun I => ?_) (fun I => ?_)
   · refine zlo I 121 1 4 [.bool g] fun Al W b121 hq_121 I => ?_
     refine zo 6 I fun I => ?_
     refine zg I (fun Al W I => have hzW := I.bel.size; e0i e f.E p123 c123 _ W I.fa.2.1 (by have := (hel _ _ _ hP).1; omega) (by omega)) fun Al V Iv _ hB _ kz => ?_
     rintro _ W ⟨p126, c126, rfl, o126, hb⟩
     refine ⟨_, rfl, kz _ _ hb fun I => ?_⟩
     have I := I.ownv o126
     refine zo 7 I fun I => ?_
     have I := I.pick [1, 0, 2, 3, 4]
     refine zapv I [2] i0f 121 1 ((d0i e f.E).length) (1 + f.E) (fun Al => p126) c126 ((d0i e f.E).map Value.bool) rfl (by rw [List.length_map]) (by rw [b0r]) (by omega) rfl (us := [.bool g] ++ ((d0i e f.E).map Value.bool)) (fun Al W I => I.fa.2.1.rd) (fun Al W I h9 => ⟨(hq_121 h9).2.1, True.intro⟩) (fun Al W p127 c127 I => ?_) (hone := allb _)
     refine zk [8] I fun I => ?_
     exact a0j I J fun Al W U I => hJ _ _ _ _ _ ⟨U, p127, c127, rfl, rfl, rfl⟩ (I.pick [0, 1])
   refine zg I (fun Al W I => have hzW := I.bel.size; e0i e f.E p123 c123 _ W I.fa.1 (by have := (hel _ _ _ hP).1; omega) (by omega)) fun Al V Iv _ hB _ kz => ?_
   rintro _ W ⟨p126, c126, rfl, o126, hb⟩
   refine ⟨_, rfl, kz _ _ hb fun I => ?_⟩
   have I := I.ownv o126
   refine zo 1 I fun I => ?_
   refine zlo I 121 1 4 [.bool g] fun Al W b121 hq_121 I => ?_
   refine zo 7 I fun I => ?_
   refine zapv I [2] i0f 121 1 ((d0i e f.E).length) (1 + f.E) (fun Al => p126) c126 ((d0i e f.E).map Value.bool) rfl (by rw [List.length_map]) (by rw [b0r]) (by omega) rfl (us := [.bool g] ++ ((d0i e f.E).map Value.bool)) (fun Al W I => I.fa.2.1.rd) (fun Al W I h9 => ⟨(hq_121 h9).2.2.1, True.intro⟩) (fun Al W p127 c127 I => ?_) (hone := allb _)
   refine zk [8] I fun I => ?_
   exact a0j I J fun Al W U I => hJ _ _ _ _ _ ⟨U, p127, c127, rfl, rfl, rfl⟩ (I.pick [0, 1])
 rintro _ _ _ ⟨U2, p127, c127, rfl, rfl, rfl⟩ Al W I
 refine zg I (fun Al W I => have hzW := I.bel.size; v0n x f.F p8 n8 c8 _ W (by rw [hn8, hds]) (by rw [← hds]; exact I.fa.2.1) (by have := (hel _ _ _ hP).2; omega) (by omega)) fun Al V Iv _ hB _ kz => ?_
 rintro _ W ⟨p133, c133, rfl, o133, hb⟩
 refine ⟨_, rfl, kz _ _ hb fun I => ?_⟩
 have I := I.ownv o133
 have I := I.pick [1, 0, 2]
 refine zapv I [] i0f 121 (1 + f.E) ((d0i x f.F).length) (1 + f.E + f.F) (fun Al => p133) c133 ((d0i x f.F).map Value.bool) (by simp [b0r] <;> omega) (by rw [List.length_map]) (by rw [b0r]) (by omega) rfl (us := ([.bool g] ++ ((d0i e f.E).map Value.bool)) ++ ((d0i x f.F).map Value.bool)) (fun Al W I => I.fa.2.1.rd) (fun Al W I h9 => True.intro) (fun Al W p134 c134 I => ?_) (hone := allb _)
 refine zg I (fun Al W I => have hzW := I.bel.size; (HPT (f.bits g e x) (1 + f.E + f.F) p134 c134 W (by have h := I.fa.1.rd; simpa [Fm.bits] using h) (by rw [hbl]) (by rw [hbl]; omega)).out) fun Al V Iv _ hB _ kz => ?_
 rintro _ W ⟨L, rfl, hL, hD, hb⟩
 refine ⟨_, rfl, kz _ _ hb fun I => ?_⟩
 rw [hP] at hstr ⊢
 exact zret I (v := fun Al => .string (a0e L)) fun Al W I => ⟨by rw [hstr L hL hD], I.below⟩
theorem b1u (f : Fm) {k : Nat} (h : k ≠ 2) (g : Bool) (d d' : Dv) : f.encP k g d = f.encP k g d' := by
 unfold Fm.encP
 rw [if_neg h, if_neg h]
theorem x0x {f : Fm} (G : c0x f) {neg : Bool} {e x : Nat} (he : e < 2 ^ f.E) (hx : x < 2 ^ f.F) : a0y f (a0e (f.str neg e x)) = f.pat neg e x := by
 have ho : f.ord = 1 → f.size % 2 = 0 := fun _ => by have := G.sz; omega
 unfold a0y
 rw [a0s (by unfold Fm.str; exact p0y (by rw [c0n]; exact ho) (u0a _ _)), q1i G he hx]
theorem s0x {r : Nat} (h : (dig B32 r).length ≤ 1200) : b0j (dig B32 r) = 0 := by rw [Go.Slip.p0j, if_neg (by omega)]
structure Is (a : Din) (v : Vl) : Prop where
 g : a.g = v.neg
 xs : a.xs = dig B32 v.d
 e : a.e = v.pow
theorem Is.num {a : Din} {v : Vl} (h : Is a v) (f : Fm) : numD f a = bare ⟨v.neg, v.d, wid f.g * v.pow⟩ := by
 unfold numD
 rw [h.g, h.xs, h.e, b0a a0a]
def dinV (v : Vl) (p : Option Addr) (c : Nat) : Din := ⟨v.neg, p, c, dig B32 v.d, v.pow⟩
theorem o1t {v : Vl} {p : Option Addr} {c base : Nat} {w : World} (h : Own w base .u32 143 p c (dig B32 v.d)) (hl : (dig B32 v.d).length ≤ 1000) : InD w (dinV v p c) :=
 ⟨h.rd, h.le_cap, by show (dig B32 v.d).length ≤ _; omega, b0d a0a _⟩
structure ResF (f : Fm) (r : Vr) : Prop where
 c : 1 ≤ r.cls ∧ r.cls ≤ 5
 c1 : r.cls = 1 → r.neg = true → f.fam ≠ 3
 c2 : r.cls = 2 → a0q r.x f.g = true ∧ Bare r.x ∧ r.x.m ≠ 0 ∧ r.x.neg = r.neg
 c3 : r.cls = 3 → f.fam = 1
 c4 : r.cls = 4 → f.fam = 1 ∧ r.neg = false
 c5 : r.cls = 5 → f.fam = 3 ∧ r.neg = false
 x0 : r.cls ≠ 2 → r.x = vz
structure VRep (f : Fm) (v : Vl) (r : Vr) : Prop where
 cls : v.cls = r.cls
 neg : v.neg = r.neg
 num : r.cls = 2 → bare ⟨v.neg, v.d, wid f.g * v.pow⟩ = r.x
 oth : r.cls ≠ 2 → v.d = 0 ∧ v.pow = 0
 len : (dig B32 v.d).length ≤ 1000
 lo : -20000 ≤ v.pow
 hi : v.pow ≤ 20000
theorem r1s {f : Fm} {v : Vl} {r : Vr} (R : ResF f r) (V : VRep f v r) (p : Option Addr) (c : Nat) :
 a0o f (v.cls : Int) (dinV v p c) = 0 ∧ q0f f (v.cls : Int) (dinV v p c) = a0e (f.strP (f.encP r.cls r.neg r.x)) := by
 have hinf : f.inf = false ↔ f.fam ≠ 1 := by unfold Fm.inf; simp
 have hres : f.res = false ↔ f.fam ≠ 3 := by unfold Fm.res; simp
 have hres1 : f.res = true ↔ f.fam = 3 := by unfold Fm.res; simp
 have hc := R.c
 have hcl := V.cls
 have hlo := V.lo
 have hhi := V.hi
 have hE : b0j (dinV v p c).xs = 0 := s0x (by have := V.len; omega)
 have hN : r.cls = 2 → numD f (dinV v p c) = r.x := fun h => by
  rw [← V.num h]
  unfold numD dinV
  simp only [b0a a0a]
 refine ⟨?_, ?_⟩
 · unfold a0o
   rw [if_neg (by omega), if_neg (by omega), if_neg]
   · by_cases h2 : r.cls = 2
     · obtain ⟨i1, i2, i3, i4⟩ := R.c2 h2
       rw [if_pos (by omega), if_neg (by show ¬ (v.pow < _ ∨ _ < v.pow); omega), hN h2, i1, if_neg]
       rintro (h | h)
       · have h0 : v.d = 0 := (a0d a0a _).1 h
         have := V.num h2
         rw [h0] at this
         exact i3 (by rw [← this]; rfl)
       · cases h
     · obtain ⟨o1, o2⟩ := V.oth h2
       rw [if_neg (by omega), if_neg]
       rintro (h | h | ⟨h, k⟩)
       · have : (dig B32 v.d).length = 0 := by rw [o1, a0c]; rfl
         have h : 0 < (dig B32 v.d).length := h
         omega
       · exact h o2
       · have hg : r.neg = true := by rw [← V.neg]; exact h
         have k4 := R.c4
         have k5 := R.c5
         rw [hg] at k4 k5
         rcases k with k | k
         · rcases (show r.cls = 4 ∨ r.cls = 5 by omega) with q | q
           · exact absurd (k4 q).2 (by decide)
           · exact absurd (k5 q).2 (by decide)
         · rcases (show r.cls = 1 ∨ r.cls = 3 ∨ r.cls = 4 ∨ r.cls = 5 by omega) with q | q | q | q
           · exact R.c1 q hg (hres1.1 k)
           · have := R.c3 q; have := hres1.1 k; omega
           · exact absurd (k4 q).2 (by decide)
           · exact absurd (k5 q).2 (by decide)
   · rintro (⟨h | h, k⟩ | ⟨h, k⟩)
     · exact hinf.1 k (R.c3 (by omega))
     · exact hinf.1 k (R.c4 (by omega)).1
     · exact hres.1 k (R.c5 (by omega)).1
 · unfold q0f
   rw [show ((v.cls : Int)).toNat = r.cls by omega, show (dinV v p c).g = r.neg from V.neg]
   by_cases h2 : r.cls = 2
   · rw [hN h2]
   · rw [b1u f h2 r.neg _ r.x]
theorem r1t {neg : Bool} {num den : Nat} {e : Int} {g : Gd} {way : Int} (hd : 0 < den) (G : e0d g) (ho : (a0l neg num den e g way).over = false)
 (hu : (a0l neg num den e g way).under = true → g.grad = false → g.lo ≤ (a0l neg num den e g way).pow ∧ (a0l neg num den e g way).d ≠ 0) :
 a0q (rv neg num den e g way) g = true := by
 by_cases hok : okP (a0l neg num den e g way) g = true
 · exact q1d hd G hok
 · unfold okP at hok
   rw [ho] at hok
   simp only [Bool.not_false, Bool.true_and, Bool.or_eq_true, Bool.not_eq_true', not_or, Bool.not_eq_false, Bool.not_eq_true] at hok
   obtain ⟨h1, h2⟩ := hok
   obtain ⟨h3, h4⟩ := hu h1 h2
   by_cases h0 : num = 0
   · subst h0; rw [w0s]; rfl
   · unfold rv
     unfold a0l at *
     rw [if_neg h0] at *
     generalize theK num den e (wid g) g.digs.toNat = K at *
     have hk : K < g.lo := oTr h1
     have hp : powK g K = K := by unfold powK; rw [if_neg (fun h => by rw [h2] at h; cases h.2)]
     have e1 : (fitK neg num den e g way K).pow = if digP neg num den e (wid g) g.digs.toNat way (powK g K) = 0 then 0 else powP neg num den e (wid g) g.digs.toNat way (powK g K) := rfl
     have e2 : (fitK neg num den e g way K).d = digP neg num den e (wid g) g.digs.toNat way (powK g K) := rfl
     have e3 : (fitK neg num den e g way K).neg = neg := rfl
     rw [e2] at h4
     rw [e1, if_neg h4] at h3
     rw [e1, e2, e3, if_neg h4]
     rw [hp] at h3 h4 ⊢
     have hl : h0q neg num den e (wid g) g.digs.toNat way K := by
      by_cases h : h0q neg num den e (wid g) g.digs.toNat way K
      · exact h
      · unfold powP at h3; rw [if_neg h] at h3; omega
     unfold digP powP at *
     rw [if_pos hl] at h3
     rw [if_pos hl, if_pos hl]
     have hd1 := G.d1
     have hgl := G.le
     have hww : wid g * (g.digs.toNat - 1) < wid g * g.digs.toNat := Nat.mul_lt_mul_of_pos_left (by omega) (b0e g).1
     have habs : (sg neg (2 ^ (wid g * (g.digs.toNat - 1)))).natAbs = 2 ^ (wid g * (g.digs.toNat - 1)) := by unfold sg; cases neg <;> simp [Int.natAbs_pow]
     rw [← j0k]
     refine j0l G (show g.digs = (g.digs.toNat : Int) by omega) ?_ ?_ h3 (by omega)
     · rw [habs]; exact Nat.pow_lt_pow_right (by omega) hww
     · rw [habs]; exact .inr (.inl (Nat.le_refl _))
theorem s0y {g : Bool} {m : Nat} {e : Int} (h : m ≠ 0) : (bare ⟨g, m, e⟩).neg = g ∧ (bare ⟨g, m, e⟩).m ≠ 0 := by
 unfold bare
 rw [if_neg h]
 refine ⟨rfl, fun h2 => ?_⟩
 have := (b0u m (by omega)).2
 simp only at h2
 rw [h2] at this
 simp at this
/-! ### What comes -/
theorem x0y {f : Fm} (G : c0x f) (g : Bool) : ResF f (f.zeroM g) := by
 have := G.fam
 refine ⟨by show 1 ≤ 1 ∧ 1 ≤ 5; omega, fun _ h h3 => ?_, fun h => (by cases h), fun h => (by cases h), fun h => (by cases h), fun h => (by cases h), fun _ => rfl⟩
 have h : (g && decide (f.fam = 1)) = true := h
 simp [h3] at h
theorem b1v {f : Fm} (G : c0x f) : ResF f f.nothM := by
 have hf := G.fam
 unfold Fm.nothM
 rcases hf with h | h | h <;> rw [h] <;> refine ⟨?_, ?_, ?_, ?_, ?_, ?_, fun _ => rfl⟩ <;> simp [h]
theorem r1u {f : Fm} (h : f.fam = 1) (g : Bool) : ResF f (infM g) :=
 ⟨by show 1 ≤ 3 ∧ 3 ≤ 5; omega, fun h => (by cases h), fun h => (by cases h), fun _ => h, fun h => (by cases h), fun h => (by cases h), fun _ => rfl⟩
theorem k1q {f : Fm} (G : c0x f) (g : Bool) : 2 ^ (wid f.g * f.g.digs.toNat) - 1 ≠ 0 ∧ a0q (f.greatM g).x f.g = true := by
 have GG := b0n G.g
 have hd1 := GG.d1
 have hgl := GG.le
 have wp := b0e f.g
 have hww : wid f.g * (f.g.digs.toNat - 1) < wid f.g * f.g.digs.toNat := Nat.mul_lt_mul_of_pos_left (by omega) wp.1
 have h1 : 2 ^ (wid f.g * (f.g.digs.toNat - 1)) < 2 ^ (wid f.g * f.g.digs.toNat) := Nat.pow_lt_pow_right (by omega) hww
 have h2 : 0 < 2 ^ (wid f.g * (f.g.digs.toNat - 1)) := Nat.pow_pos (by omega)
 refine ⟨by omega, ?_⟩
 show a0q (bare ⟨g, 2 ^ (wid f.g * f.g.digs.toNat) - 1, wid f.g * f.g.hi⟩) f.g = true
 have habs : (sg g (2 ^ (wid f.g * f.g.digs.toNat) - 1)).natAbs = 2 ^ (wid f.g * f.g.digs.toNat) - 1 := by unfold sg; cases g <;> simp only [if_true, Bool.false_eq_true, if_false, Int.natAbs_neg, Int.natAbs_natCast]
 rw [← j0k]
 refine j0l GG (show f.g.digs = (f.g.digs.toNat : Int) by omega) ?_ ?_ hgl (Int.le_refl _)
 · rw [habs]; omega
 · rw [habs]; exact .inr (.inl (by omega))
theorem z0s {f : Fm} (G : c0x f) (g : Bool) : ResF f (f.greatM g) := by
 obtain ⟨h1, h2⟩ := k1q G g
 exact ⟨by show 1 ≤ 2 ∧ 2 ≤ 5; omega, fun h => (by cases h), fun _ => ⟨h2, k0a _, (s0y h1).2, (s0y h1).1⟩, fun h => (by cases h), fun h => (by cases h), fun h => (by cases h), fun h => absurd rfl h⟩
theorem v0o {f : Fm} (G : c0x f) (g : Bool) : VRep f ⟨2, g, 2 ^ (wid f.g * f.g.digs.toNat) - 1, f.g.hi⟩ (f.greatM g) := by
 have GG := b0n G.g
 have h1 := GG.h1
 have h2 := GG.h2
 have hd2 := GG.d2
 have wp := b0e f.g
 have hm : wid f.g * f.g.digs.toNat ≤ 4 * 120 := Nat.mul_le_mul wp.2 (by omega)
 refine ⟨rfl, rfl, fun _ => rfl, fun h => absurd rfl h, ?_, by show _ ≤ f.g.hi; omega, by show f.g.hi ≤ _; omega⟩
 exact Nat.le_trans (a0i a0a (Nat.sub_le _ _)) (Nat.le_trans (h0g hm) (by omega))
theorem g0w {f : Fm} {k : Nat} {g : Bool} {x : Dv} (h : k ≠ 2) : VRep f ⟨k, g, 0, 0⟩ ⟨k, g, x⟩ :=
 ⟨rfl, rfl, fun e => absurd e h, fun _ => ⟨rfl, rfl⟩, by show (dig B32 0).length ≤ _; rw [a0c]; decide, by show (-20000 : Int) ≤ 0; decide, by show (0 : Int) ≤ 20000; decide⟩
def _root_.Go.Slip.Fm.placedV (f : Fm) (p : Pl) (way : Int) : Vl :=
 if p.over then (if f.fam = 2 then ⟨2, p.neg, 2 ^ (wid f.g * f.g.digs.toNat) - 1, f.g.hi⟩ else if f.fam = 3 then ⟨f.nothM.cls, false, 0, 0⟩ else if way ≤ 2 ∨ (way = 4 ∧ p.neg = false) ∨ (way = 5 ∧ p.neg = true) then ⟨3, p.neg, 0, 0⟩ else ⟨2, p.neg, 2 ^ (wid f.g * f.g.digs.toNat) - 1, f.g.hi⟩)
 else if p.under = true ∧ f.fam ≠ 1 ∧ p.pow < f.g.lo then ⟨1, false, 0, 0⟩
 else if p.d = 0 then ⟨1, p.neg && decide (f.fam = 1), 0, 0⟩
 else ⟨2, p.neg, p.d, p.pow⟩
theorem g1r {f : Fm} (_G : c0x f) : f.nothM.cls ≠ 2 := by unfold Fm.nothM; simp only; split <;> (try split) <;> omega
theorem g0x {f : Fm} (G : c0x f) {neg : Bool} {num den : Nat} {e way : Int} (hd : 0 < den) :
 ResF f (f.placedM (a0l neg num den e f.g way) way).1 ∧ VRep f (f.placedV (a0l neg num den e f.g way) way) (f.placedM (a0l neg num den e f.g way) way).1 := by
 have GG := b0n G.g
 have hin := fun h1 h2 => r1t (neg := neg) (num := num) (e := e) (way := way) hd GG h1 h2
 have hlen := x0k (neg := neg) (num := num) (e := e) (way := way) hd GG
 have hpw := fun h => r1h (neg := neg) (num := num) (e := e) (way := way) hd GG h
 have hpw2 : (a0l neg num den e f.g way).over = false → (a0l neg num den e f.g way).pow ≤ 17000 := by
  intro h
  have hh := GG.h2
  unfold a0l at *
  by_cases h0 : num = 0
  · rw [if_pos h0]; simp
  · rw [if_neg h0] at *
    generalize theK num den e (wid f.g) f.g.digs.toNat = K at *
    have h1 : powP neg num den e (wid f.g) f.g.digs.toNat way (powK f.g K) ≤ f.g.hi := by
     have h : decide (f.g.hi < powP neg num den e (wid f.g) f.g.digs.toNat way (powK f.g K)) = false := h
     have := oFa h
     omega
    show (if digP neg num den e (wid f.g) f.g.digs.toNat way (powK f.g K) = 0 then 0 else powP neg num den e (wid f.g) f.g.digs.toNat way (powK f.g K)) ≤ 17000
    split <;> omega
 unfold rv at hin
 have hgr := G.grad
 have l1 := GG.l1
 generalize a0l neg num den e f.g way = p at *
 unfold Fm.placedM Fm.placedV
 cases ho : p.over with
 | true =>
  simp only [if_true]
  by_cases h2 : f.fam = 2
  · rw [if_pos h2, if_pos h2]; exact ⟨z0s G _, v0o G _⟩
  · rw [if_neg h2, if_neg h2]
    by_cases h3 : f.fam = 3
    · rw [if_pos h3, if_pos h3]; exact ⟨b1v G, g0w (g1r G)⟩
    · have hf : f.fam = 1 := by have := G.fam; omega
      rw [if_neg h3, if_neg h3]
      split
      · exact ⟨r1u hf _, g0w (by decide)⟩
      · exact ⟨z0s G _, v0o G _⟩
 | false =>
  simp only [Bool.false_eq_true, if_false]
  by_cases hz : p.under = true ∧ f.fam ≠ 1 ∧ p.pow < f.g.lo
  · rw [if_pos hz, if_pos hz]
    exact ⟨x0y G _, g0w (by decide)⟩
  · rw [if_neg hz, if_neg hz]
    by_cases hd0 : p.d = 0
    · rw [if_pos hd0, if_pos hd0]
      exact ⟨x0y G _, g0w (by decide)⟩
    · rw [if_neg hd0, if_neg hd0]
      have hu : p.under = true → f.g.grad = false → f.g.lo ≤ p.pow ∧ p.d ≠ 0 := fun h1 h2 => by
       rw [hgr] at h2
       have := oFa h2
       refine ⟨?_, hd0⟩
       rcases Int.lt_or_le p.pow f.g.lo with h | h
       · exact absurd ⟨h1, this, h⟩ hz
       · exact h
      obtain ⟨b1, b2⟩ := s0y (g := p.neg) (e := wid f.g * p.pow) hd0
      have hlo : -17000 ≤ p.pow := by
       by_cases hok : okP p f.g = true
       · exact (hpw hok).1
       · unfold okP at hok
         rw [ho] at hok
         simp only [Bool.not_false, Bool.true_and, Bool.or_eq_true, Bool.not_eq_true', not_or, Bool.not_eq_false, Bool.not_eq_true] at hok
         have := (hu hok.1 hok.2).1
         omega
      have hhi := hpw2 ho
      refine ⟨⟨by show 1 ≤ 2 ∧ 2 ≤ 5; omega, fun h => (by cases h), fun _ => ⟨hin ho hu, k0a _, b2, b1⟩, fun h => (by cases h), fun h => (by cases h), fun h => (by cases h), fun h => absurd rfl h⟩, ?_⟩
      exact ⟨rfl, rfl, fun _ => rfl, fun h => absurd rfl h, by show (dig B32 p.d).length ≤ _; omega, by show _ ≤ p.pow; omega, by show p.pow ≤ _; omega⟩
end Go.Proofs.YtbamiajjampgnaaGreatDoor
