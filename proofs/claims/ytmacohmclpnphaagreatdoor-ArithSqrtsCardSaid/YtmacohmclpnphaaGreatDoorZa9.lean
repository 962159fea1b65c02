/- limb.Of, limb.Pow, limb.Root. -/
import Derived.Laws.BitsLemmas
import Derived.Carry
import Derived.Deep.RegionHeld3
import Derived.Test.YtmacohmclpnphaaGreatDoorZa1
import Derived.Test.YtmacohmclpnphaaGreatDoorZa2
import Derived.Test.YtmacohmclpnphaaGreatDoorZa3
import Derived.Test.YtmacohmclpnphaaGreatDoorZa4
import Derived.Test.YtmacohmclpnphaaGreatDoorZa5
import Derived.Test.YtmacohmclpnphaaGreatDoorZa6
import Derived.Test.YtmacohmclpnphaaGreatDoorZa7
import Derived.Test.YtmacohmclpnphaaGreatDoorZa8
set_option maxHeartbeats 8000000
set_option maxRecDepth 100000
namespace Go.Proofs.YtmacohmclpnphaaGreatDoor
open Go.RowKit Go.Slip
theorem x0v (n : Int) : bits .and .i64 n 1 = n % 2 := by
 have h1 : (BitVec.ofInt 64 1).toNat = 2 ^ 1 - 1 := by decide
 have key : (BitVec.ofInt 64 n &&& BitVec.ofInt 64 1).toNat = (n % ((2 ^ 64 : Nat) : Int)).toNat % 2 ^ 1 := by
  rw [BitVec.toNat_and, BitVec.toNat_ofInt, h1, Nat.and_two_pow_sub_one_eq_mod]
 show IntKind.i64.wrap ((BitVec.ofInt 64 n &&& BitVec.ofInt 64 1).toNat : Nat) = n % 2
 rw [key, IntKind.wrap_i64]
 omega
def d0f (a K e f k : Nat) : Prop := e + f * k = K ∧ (1 ≤ k → 1 ≤ f) ∧ a = a
theorem d0f.start (a K : Nat) : d0f a K 0 1 K := ⟨by omega, fun _ => by omega, rfl⟩
theorem d0f.odd {a K e f k : Nat} (h : d0f a K e f k) (h1 : k % 2 = 1) : d0f a K (e + f) (f + f) (k / 2) := by
 refine ⟨?_, fun _ => by have := h.2.1; omega, rfl⟩
 have h2 := h.1
 obtain ⟨u, rfl⟩ : ∃ u, k = 2 * u + 1 := ⟨k / 2, by omega⟩
 rw [show (2 * u + 1) / 2 = u by omega]
 grind
theorem d0f.last {a K e f : Nat} (h : d0f a K e f 1) : d0f a K (e + f) f 0 := ⟨by have := h.1; omega, fun h => by omega, rfl⟩
theorem d0f.one {a K e f k : Nat} (h : d0f a K e f k) (h1 : k = 1) : d0f a K (e + f) f (k / 2) := by subst h1; exact h.last
theorem d0f.even {a K e f k : Nat} (h : d0f a K e f k) (h0 : 0 < k) (h1 : k % 2 = 0) : d0f a K e (f + f) (k / 2) := by
 refine ⟨?_, fun _ => by have := h.2.1; omega, rfl⟩
 have h2 := h.1
 obtain ⟨u, rfl⟩ : ∃ u, k = 2 * u := ⟨k / 2, by omega⟩
 rw [show (2 * u) / 2 = u by omega]
 grind
theorem d0f.le {a K e f k : Nat} (h : d0f a K e f k) (h0 : 0 < k) : e + f ≤ K := by
 have h2 := h.1
 have : f * 1 ≤ f * k := Nat.mul_le_mul_left _ h0
 omega
theorem d0f.le2 {a K e f k : Nat} (h : d0f a K e f k) : e ≤ K := by have := h.1; omega
theorem d0f.done {a K e f : Nat} (h : d0f a K e f 0) : e = K := by have := h.1; omega
theorem l1m {a K e : Nat} (h : e ≤ K) : (dig B32 (a ^ e)).length ≤ K * (dig B32 a).length + 1 := by
 refine Nat.le_trans (i0w a0b a e) ?_
 have := Nat.mul_le_mul_right (dig B32 a).length h
 omega
theorem l1n (p : Option Addr) (n c : Nat) (a K : Nat) (w : World) (hp : Rd w .u32 p (dig B32 a)) (hn : n = (dig B32 a).length) (hK : K ≤ 1000) (hl : (dig B32 a).length ≤ 100000) :
 Calls Tryz.prog 170 #[.slice p n c, .int .i64 K] w (f0j w .u32 141 (dig B32 (a ^ K))) := by
 subst hn
 have hKl : K * (dig B32 a).length + 1 ≤ 100000001 := by have := Nat.mul_le_mul hK hl; omega
 have PL : ∀ e, e ≤ K → (dig B32 (a ^ e)).length ≤ 100000001 := fun e he => Nat.le_trans (l1m he) hKl
 have PL := hi0 PL
 have E1 := hi0 (show dig B32 1 = dig B32 (a ^ 0) by rw [Nat.pow_zero])
 have E2 := hi0 (show dig B32 a = dig B32 (a ^ 1) by rw [Nat.pow_one])
 have hp1 : Rd w .u32 p (dig B32 (a ^ 1)) := by rw [Nat.pow_one]; exact hp
 go_enter Tryz.func170, Tryz.ntmps170
 go_wp2_with fail
 refine (p0s 1 _ (by omega)).mono ?_
 rw [E1.out, E2.out]
 rintro e w1 ⟨po, co, rfl, hoo, hb1⟩
 go_wp2_with fail
 go_loopw [0, 1, 5] (fun av kv ov wr => ∃ (e f k : Nat) (pa : Option Addr) (ca : Nat) (po : Option Addr) (co : Nat), kv = .int .i64 k ∧ av = .slice pa (dig B32 (a ^ f)).length ca ∧ ov = .slice po (dig B32 (a ^ e)).length co ∧ k ≤ K ∧
     Rd wr .u32 pa (dig B32 (a ^ f)) ∧ Own wr w.heap.size .u32 141 po co (dig B32 (a ^ e)) ∧ Below w.heap.size w wr ∧ Hid (d0f a K e f k))
  (fun _ kv _ _ => (intOf kv).toNat)
 case atStart => exact ⟨0, 1, K, p, c, po, co, rfl, (by rw [Nat.pow_one]), rfl, Nat.le_refl _, hp1.past hb1, hoo, hb1, d0f.start a K⟩
 case round =>
  obtain ⟨e, f, k, pa, ca, po, co, rfl, rfl, rfl, hk, hra, hoo, hb, HR⟩ := hrel
  by_cases h0 : 0 < k
  · have hef := HR.out.le h0
    have l1 := PL.out e (by omega)
    have l2 := PL.out f (by omega)
    by_cases h1 : k % 2 = 1
    · have hbit : bits BinOp.and IntKind.i64 (k : Int) 1 = 1 := by rw [x0v]; omega
      have eef := hi0 (show a ^ e * a ^ f = a ^ (e + f) from (Nat.pow_add _ _ _).symm)
      by_cases h2 : 1 < k
      · have HS := hi0 (HR.out.odd h1)
        have eff := hi0 (show a ^ f * a ^ f = a ^ (f + f) from (Nat.pow_add _ _ _).symm)
        clear h1
        go_wp2_with fail
        refine (l0g po pa _ _ co ca (a ^ e) (a ^ f) _ hoo.rd hra rfl rfl (by omega)).mono ?_
        rw [eef.out]
        rintro e w2 ⟨p2, c2, rfl, ho2, hb2⟩
        have hra := hra.past hb2
        have hb2 := hb.trans (hb2.mono hb.size)
        go_wp2_with fail
        refine (l0g pa pa _ _ ca ca (a ^ f) (a ^ f) _ hra hra rfl rfl (by omega)).mono ?_
        rw [eff.out]
        rintro e w3 ⟨p3, c3, rfl, ho3, hb3⟩
        have ho2 := (ho2.past hb3).mono hb.size
        have hb3 := hb2.trans (hb3.mono hb2.size)
        go_wp2_with fail
        go_roundw
        case rel => exact ⟨_, _, k / 2, p3, c3, p2, c2, by go_num, rfl, rfl, by omega, ho3.rd, ho2, hb3, HS⟩
        case measure => simp [intOf]; omega
      · have HS := hi0 (HR.out.one (by omega))
        clear h1
        go_wp2_with fail
        refine (l0g po pa _ _ co ca (a ^ e) (a ^ f) _ hoo.rd hra rfl rfl (by omega)).mono ?_
        rw [eef.out]
        rintro e w2 ⟨p2, c2, rfl, ho2, hb2⟩
        have hra := hra.past hb2
        have hb2 := hb.trans (hb2.mono hb.size)
        go_wp2_with fail
        go_roundw
        case rel => exact ⟨_, _, k / 2, pa, ca, p2, c2, by go_num, rfl, rfl, by omega, hra, ho2.mono hb.size, hb2, HS⟩
        case measure => simp [intOf]; omega
    · have hbit : bits BinOp.and IntKind.i64 (k : Int) 1 = 0 := by rw [x0v]; omega
      have HS := hi0 (HR.out.even h0 (by omega))
      have eff := hi0 (show a ^ f * a ^ f = a ^ (f + f) from (Nat.pow_add _ _ _).symm)
      have h2 : 1 < k := by omega
      clear h1
      go_wp2_with fail
      refine (l0g pa pa _ _ ca ca (a ^ f) (a ^ f) _ hra hra rfl rfl (by omega)).mono ?_
      rw [eff.out]
      rintro e w3 ⟨p3, c3, rfl, ho3, hb3⟩
      have hoo := hoo.past hb3
      have hb3 := hb.trans (hb3.mono hb.size)
      go_wp2_with fail
      go_roundw
      case rel => exact ⟨_, _, k / 2, p3, c3, po, co, by go_num, rfl, rfl, by omega, ho3.rd, hoo, hb3, HS⟩
      case measure => simp [intOf]; omega
  · obtain rfl : k = 0 := by omega
    go_wp2_with fail
    go_ret
    rw [← HR.out.done]
    exact ⟨po, co, rfl, hoo, hb⟩
def h1j (w : World) (a k : Nat) (en : Ending) (w' : World) : Prop :=
 ∃ r, r ^ k ≤ a ∧ a < (r + 1) ^ k ∧ ∃ p c, en = .returned (.slice p (dig B32 r).length c) ∧ Own w' w.heap.size .u32 141 p c (dig B32 r) ∧ Below w.heap.size w w'
theorem w0g (N : Nat) : (dig B32 (2 ^ N)).length = N / 32 + 1 := by
 rw [← h0b (B := B32) (w := 32) (by decide) (by omega) N]; simp
theorem w0h (a : Nat) : blen a ≤ 32 * (dig B32 a).length := by
 rw [b0e, Nat.pow_mul]
 exact (a0g a0b a _).1 (Nat.le_refl _)
theorem e1g (p : Option Addr) (n c : Nat) (k : Nat) (w : World) (hn : n = 0) (hk : 1 ≤ k) :
 Calls Tryz.prog 129 #[.slice p n c, .int .i64 k] w (h1j w 0 k) := by
 subst hn
 have h1 := hi0 (show 0 ^ k ≤ 0 by rw [Nat.zero_pow hk]; exact Nat.le_refl _)
 have h2 := hi0 (show 0 < (0 + 1) ^ k from Nat.pow_pos (by omega))
 go_enter Tryz.func129, Tryz.ntmps129
 go_wp2_with fail
 refine (f0k p 0 c [] _ (Rd.nil _ _ _) rfl (by simp)).mono ?_
 rintro e w2 ⟨p2, c2, rfl, ho2, hb2⟩
 go_wp2_with fail
 go_ret
 exact ⟨0, h1.out, h2.out, p2, c2, by rw [a0c]; rfl, by rw [a0c]; exact ho2, hb2⟩
theorem h1k (p : Option Addr) (n c : Nat) (a : Nat) (w : World) (hp : Rd w .u32 p (dig B32 a)) (hn : n = (dig B32 a).length) (hl : (dig B32 a).length ≤ 10000) (h0 : 0 < (dig B32 a).length) :
 Calls Tryz.prog 129 #[.slice p n c, .int .i64 1] w (h1j w a 1) := by
 subst hn
 have h1 := hi0 (show a ^ 1 ≤ a by rw [Nat.pow_one]; exact Nat.le_refl _)
 have h2 := hi0 (show a < (a + 1) ^ 1 by rw [Nat.pow_one]; omega)
 have t1 : (((dig B32 a).length : Int) == 0) = false := bFn (by omega)
 go_enter Tryz.func129, Tryz.ntmps129
 go_wp2_with fail
 refine (f0k p _ c _ _ hp rfl (by omega)).mono ?_
 rintro e w2 ⟨p2, c2, rfl, ho2, hb2⟩
 go_wp2_with fail
 go_ret
 exact ⟨a, h1.out, h2.out, p2, c2, rfl, ho2, hb2⟩
theorem e1h (p : Option Addr) (n c : Nat) (a k kk : Nat) (w : World) (hp : Rd w .u32 p (dig B32 a)) (hn : n = (dig B32 a).length) (hl : (dig B32 a).length ≤ 10000) (h0 : 0 < (dig B32 a).length) (hk : 2 ≤ k) (hk2 : k ≤ 1000) (hkk : k = kk + 1) :
 Calls Tryz.prog 129 #[.slice p n c, .int .i64 k] w (h1j w a k) := by
 subst hn
 have ha : 0 < a := by
  have := a0f a0b a
  omega
 have HA := hi0 ha
 have t1 : (((dig B32 a).length : Int) == 0) = false := bFn (by omega)
 have t2 : ((k : Int) == 1) = false := bFn (by omega)
 have hbl := w0h a
 obtain ⟨N, hN⟩ : ∃ N, N = (blen a + k - 1) / k := ⟨_, rfl⟩
 have hN1 : blen a ≤ N * (kk + 1) := by
  rw [← hkk, hN]
  have := c0q (blen a + k - 1) k (by omega)
  rw [Nat.add_mul, Nat.one_mul] at this
  omega
 have hN2 : N ≤ blen a + k := by rw [hN]; exact Nat.le_trans (Nat.div_le_self _ _) (by omega)
 have eN : ((blen a : Int) + (k : Int) - 1) / (k : Int) = (N : Nat) := by
  rw [hN, show (blen a : Int) + (k : Int) - 1 = ((blen a + k - 1 : Nat) : Int) by omega]; rfl
 have HN := hi0 (y0f N hN1)
 rw [← hkk] at HN
 have ek : (k : Int) - 1 = (kk : Nat) := by omega
 have hkk1 : kk ≤ 1000 := by omega
 have LB : (dig B32 (2 ^ N)).length ≤ 11033 := by have := w0g N; omega
 have HK := hi0 hkk
 have k0 : (0 : Int) ≤ (blen a : Int) + (k : Int) - 1 := by omega
 have k1 : (1 : Int) ≤ (k : Int) := by omega
 have hN3 : N ≤ 1000000000 := by omega
 have E1 := hi0 (Nat.one_mul (2 ^ N))
 clear hN hN1 hkk ha
 go_enter Tryz.func129, Tryz.ntmps129
 go_wp2_with fail
 refine (p0s 1 _ (by omega)).mono ?_
 rintro e w1 ⟨p1, c1, rfl, ho1, hb1⟩
 go_wp2_with fail
 refine (f0n p _ c a _ (hp.past hb1) rfl (by omega)).mono ?_
 rintro e w2 ⟨rfl, rfl⟩
 go_wp2_with fail
 refine (h0c p1 _ c1 1 N _ ho1.rd rfl (by have := (a0g a0b 1 1).2 (by unfold B32; omega); omega) hN3).mono ?_
 rw [E1.out]
 rintro e w3 ⟨p3, c3, rfl, ho3, hb3⟩
 have hs3 := hb1.trans (hb3.mono hb1.size)
 have ho3 := ho3.mono hb1.size
 clear hb1 hb3 ho1 eN k0
 go_wp2_with fail
 go_loopg [5] (2 ^ N) (fun g xv wr => ∃ (X : Nat) (px : Option Addr) (cx : Nat), X = g ∧ xv = .slice px (dig B32 X).length cx ∧ Own wr w.heap.size .u32 141 px cx (dig B32 X) ∧ Below w.heap.size w wr ∧ Hid (a < (X + 1) ^ k ∧ X ≤ 2 ^ N))
 case atStart => exact ⟨2 ^ N, p3, c3, rfl, rfl, ho3, hs3, ⟨HN.out, Nat.le_refl _⟩⟩
 case round =>
  obtain ⟨X, px, cx, rfl, rfl, hox, hb, HR⟩ := hrel
  have hX : 0 < X := by
   rcases Nat.eq_zero_or_pos X with h | h
   · have h2 := HR.out.1
     have h3 := HA.out
     rw [h, Nat.zero_add, Nat.one_pow] at h2
     omega
   · exact h
  have lx : (dig B32 X).length ≤ 11033 := Nat.le_trans (a0h a0b HR.out.2) LB
  have HXP := hi0 (show 0 < X ^ kk from Nat.pow_pos hX)
  have lxp : (dig B32 (X ^ kk)).length ≤ 100000000 := by
   have h1 := i0w a0b X kk
   have h2 := Nat.mul_le_mul hkk1 lx
   omega
  obtain ⟨q, hq⟩ : ∃ q, q = a / X ^ kk := ⟨_, rfl⟩
  have lq : (dig B32 q).length ≤ 10000 := by rw [hq]; exact Nat.le_trans (a0h a0b (Nat.div_le_self _ _)) hl
  have HQ := hi0 hq
  obtain ⟨y, hy⟩ : ∃ y, y = (X * kk + q) / k := ⟨_, rfl⟩
  have HY := hi0 hy
  have hy2 : y = (X * kk + a / X ^ kk) / (kk + 1) := by rw [hy, hq, HK.out]
  have HAB := hi0 (l0z hX hy2)
  have HST := hi0 (fun h : X ≤ y => m0z hX hy2 h)
  rw [← HK.out] at HAB HST
  have lk : (dig B32 kk).length ≤ 1 := (a0g a0b kk 1).2 (by unfold B32; omega)
  have lm : (dig B32 (X * kk)).length ≤ 11034 := by have := b0y a0b X kk; omega
  have ls : (dig B32 (X * kk + q)).length ≤ 100000 := by have := c0p a0b (X * kk) q; omega
  have ly : (dig B32 y).length ≤ 100000 := by rw [hy]; exact Nat.le_trans (a0h a0b (Nat.div_le_self _ _)) ls
  clear hy hy2 hq
  go_wp2_with fail
  refine (l1n px _ cx X kk _ hox.rd rfl hkk1 (by omega)).mono ?_
  rintro e w4 ⟨p4, c4, rfl, ho4, hb4⟩
  have hs4 := hb.trans (hb4.mono hb.size)
  have hox4 := hox.past hb4
  go_wp2_with fail
  refine (j0l p p4 _ _ c c4 a (X ^ kk) _ (hp.past hs4) ho4.rd rfl rfl (by omega) lxp HXP.out).mono ?_
  rw [← HQ.out]
  rintro e w5 ⟨p5, c5, q5, d5, rfl, ho5, -, hb5, -⟩
  have hs5 := hs4.trans (hb5.mono hs4.size)
  have hox5 := hox4.past hb5
  clear hox hox4 hb4 hb5 hs4 ho4
  go_wp2_with fail
  refine (p0s kk _ (by omega)).mono ?_
  rintro e w6 ⟨p6, c6, rfl, ho6, hb6⟩
  have hs6 := hs5.trans (hb6.mono hs5.size)
  have hox6 := hox5.past hb6
  have hq6 := ho5.rd.past hb6
  clear hox5 hb6 hs5 ho5
  go_wp2_with fail
  refine (l0g px p6 _ _ cx c6 X kk _ hox6.rd ho6.rd rfl rfl (by omega)).mono ?_
  rintro e w7 ⟨p7, c7, rfl, ho7, hb7⟩
  have hs7 := hs6.trans (hb7.mono hs6.size)
  have hox7 := hox6.past hb7
  have hq7 := hq6.past hb7
  clear hox6 hb7 hs6 hq6 ho6
  go_wp2_with fail
  refine (m0u p7 p5 _ _ c7 c5 (X * kk) q _ ho7.rd hq7 rfl rfl (by omega) (by omega)).mono ?_
  rintro e w8 ⟨p8, c8, rfl, ho8, hb8⟩
  have hs8 := hs7.trans (hb8.mono hs7.size)
  have hox8 := hox7.past hb8
  clear hox7 hb8 hs7 hq7 ho7
  go_wp2_with fail
  refine (t0d p8 _ c8 (X * kk + q) k _ ho8.rd rfl (by omega) (by omega) (by omega)).mono ?_
  rw [← HY.out]
  rintro e w9 ⟨p9, c9, rfl, ho9, hb9⟩
  have hs9 := hs8.trans (hb9.mono hs8.size)
  have hox9 := hox8.past hb9
  have hsz8 := hs8.size
  clear hox8 hb9 ho8
  go_wp2_with fail
  refine (d0x p9 px _ _ c9 cx y X _ ho9.rd hox9.rd rfl rfl (by omega) (by omega)).mono ?_
  rintro e w10 ⟨rfl, hb10⟩
  have hs10 := hs9.trans (hb10.mono hs9.size)
  have hox10 := hox9.past hb10
  have hoy10 := ho9.past hb10
  clear hox9 hb10 hs9 ho9
  by_cases hyx : X ≤ y
  · have hC : 0 ≤ cmpN y X := by unfold cmpN; rw [if_neg (by omega)]; split <;> omega
    have H1 := hi0 (HST.out hyx)
    have H2 := hi0 HR.out.1
    go_wp2_with fail
    go_ret
    exact ⟨X, H1.out, H2.out, px, cx, rfl, hox10, hs10⟩
  · have hC : cmpN y X ≤ -1 := by rw [f0z (by omega)]; omega
    have hlt : y < X := by omega
    clear hyx
    have hle := hi0 (show y ≤ 2 ^ N from Nat.le_trans (Nat.le_of_lt hlt) HR.out.2)
    go_wp2_with fail
    go_roundg y
    case measure => omega
    case rel => exact ⟨y, p9, c9, rfl, rfl, hoy10.mono hsz8, hs10, ⟨HAB.out, hle.out⟩⟩
theorem u0a (p : Option Addr) (n c : Nat) (a k : Nat) (w : World) (hp : Rd w .u32 p (dig B32 a)) (hn : n = (dig B32 a).length) (hl : (dig B32 a).length ≤ 10000) (hk : 1 ≤ k) (hk2 : k ≤ 1000) :
 Calls Tryz.prog 129 #[.slice p n c, .int .i64 k] w (h1j w a k) := by
 by_cases h0 : (dig B32 a).length = 0
 · have e := (a0f a0b a).1 h0
   subst e
   exact e1g p n c k w (by omega) hk
 · by_cases h1 : k = 1
   · subst h1
     exact h1k p n c a w hp hn hl (by omega)
   · exact e1h p n c a k (k - 1) w hp hn hl (by omega) (by omega) hk2 (by omega)
def _root_.Go.Slip.Fm.sqrtM (f : Fm) (a : Vr) (way : Int) : Vr × Nat :=
 if 4 ≤ a.cls then f.offM else if a.cls = 1 then (f.zeroM a.neg, 0) else if a.neg = true then f.lostM else if a.cls = 3 then (a, 0) else f.numM (h0n a.x (300 - blen a.x.m)) way
theorem h1l (p : Option Addr) (c a : Nat) (w : World) (hp : Rd w .u32 p (dig B32 a)) (hl : (dig B32 a).length ≤ 10000) : Calls Tryz.prog 129 #[.slice p (dig B32 a).length c, .int .i64 2] w (f0j w .u32 141 (dig B32 (isq a))) := by
 refine (u0a p _ c a 2 w hp rfl hl (by omega) (by omega)).mono fun en w' ⟨r, k1, k2, h⟩ => ?_
 rw [i1h k1 k2]
 exact h
theorem o1f (f : Fm) (n way : Int) (a : Vp) (ra : Vr) (base u : Nat) (w : World) (U : Bt w u 182 #[.int .i64 n, .int .i64 way, .int .i64 f.g.rad, .int .i64 f.g.digs, .int .i64 f.g.lo, .int .i64 f.g.hi, .bool f.g.grad, .int .u8 (famB f), .int .i64 0]) (oa : Own w base .u32 141 a.p a.c (dig B32 a.v.d)) (hb : base ≤ w.heap.size)
 (A1 : AtV f a ra) (G : c0i f) (hw : 1 ≤ way ∧ way ≤ 5) (hT : TabW w) :
 Calls Tryz.prog 56 #[.pointer (some ⟨u, 0, none⟩), .agg #[.int .i64 (a.v.cls : Int), .bool a.v.neg, .slice a.p (dig B32 a.v.d).length a.c, .int .i64 a.v.pow]] w (g0j f n way u w base (f.sqrtM ra way)) := by
 have hM : f.sqrtM ra way = if 4 ≤ a.v.cls then f.offM else if a.v.cls = 1 then (f.zeroM a.v.neg, 0) else if a.v.neg = true then f.lostM else if a.v.cls = 3 then (ra, 0) else f.numM (h0n ra.x (300 - blen ra.x.m)) way := by
  unfold Fm.sqrtM; rw [A1.rep.cls, A1.rep.neg]
 have hca : a.v.cls ≤ 5 := by rw [A1.rep.cls]; exact A1.ok.c.2
 have HY := fun W b0 u h1 h2 h3 => hi0 (d1y f n way [a] b0 1 u W h1 h2 rfl (by simp) (by simp [hca]) G h3)
 have HN := fun W b0 u h1 h2 h3 => hi0 (i1p f n way 0 [a] b0 1 u W h1 h2 rfl (by simp) h3)
 have HL := fun W u h1 => hi0 (k1z f n way u W h1)
 have HZ := fun W u h1 => hi0 (x0q f n way 0 a.v.neg u W h1)
 have HA := fun W u h1 h2 h3 => hi0 (k1y f n way 0 a.v ra a.p a.c base u W h1 h2 A1.rep A1.ok h3)
 have hoffm : f.offM = (⟨f.nothM.cls, false, vz⟩, f.offM.2) := rfl
 have hk2 := o0o G
 have hlostm : f.lostM = (⟨f.nothM.cls, false, vz⟩, 16) := rfl
 have VA := A1.rep
 have sa := A1.ok.sm
 have hl1 := A1.ok.len
 have hl2 := sa.lo
 have hl3 := sa.hi
 have HLX := fun W p c h => hi0 (stay (f0n p _ c ra.x.m W h rfl (by omega)))
 have hLX := e0e ra.x.m
 obtain ⟨N0, hN0⟩ : ∃ N0, 300 - blen ra.x.m = N0 := ⟨_, rfl⟩
 have m1 : max 0 (300 - ((blen ra.x.m : Nat) : Int)) = (N0 : Int) := by omega
 rw [hN0] at hM
 generalize blen ra.x.m = LX at *
 have hev : g0f ra.x.e N0 = if (ra.x.e - N0) % 2 = 0 then N0 else N0 + 1 := rfl
 have HE0 := hi0 (i0n ra.x.e N0)
 have hnb := k0o ra.x.e N0
 unfold h0n at hM
 obtain ⟨N, hN⟩ : ∃ N, g0f ra.x.e N0 = N := ⟨_, rfl⟩
 rw [hN] at hM hev HE0 hnb
 clear hN
 have hpe : ((ra.x.e - (N0 : Int)).tmod 2 != 0) = !decide ((ra.x.e - (N0 : Int)) % 2 = 0) := m1y _
 obtain ⟨par, hpar⟩ : ∃ b, ((ra.x.e - (N0 : Int)).tmod 2 != 0) = b := ⟨_, rfl⟩
 have hNt : par = true → (N0 : Int) + 1 = N := fun h => by
  rw [hpar, h] at hpe
  have : ¬ (ra.x.e - (N0 : Int)) % 2 = 0 := by simpa using hpe.symm
  rw [if_neg this] at hev; omega
 have hNf : par = false → (N0 : Int) = N := fun h => by
  rw [hpar, h] at hpe
  have : (ra.x.e - (N0 : Int)) % 2 = 0 := by simpa using hpe.symm
  rw [if_pos this] at hev; omega
 have HPAR := hi0 hpar
 clear hpar hpe hev
 have HSX := fun W M p c h hM => hi0 (fshl p _ c ra.x.m N _ M W h rfl (by omega) (by omega) hM rfl)
 have lXN : (dig B32 (ra.x.m * 2 ^ N)).length ≤ 1700 := by have := j0d ra.x.m N; omega
 have hst : c0s ra.x.m N (isq (ra.x.m * 2 ^ N)) 1 ra.x.e = ⟨false, isq (ra.x.m * 2 ^ N) * 2 ^ 1 + (if isq (ra.x.m * 2 ^ N) * isq (ra.x.m * 2 ^ N) ≠ ra.x.m * 2 ^ N then 1 else 0), (ra.x.e - N) / 2 - 1⟩ := by unfold c0s; rw [Nat.mul_comm]; rfl
 rw [hst] at hM
 clear hst
 generalize ra.x.m * 2 ^ N = XN at *
 have HRT := fun W p c h => hi0 (h1l p c XN W h (by omega))
 have lR : (dig B32 (isq XN)).length ≤ 1700 := Nat.le_trans (a0h a0b (i1i XN)) lXN
 generalize isq XN = R at *
 have lRR := b0y a0b R R
 have HS1 := fun W p c h => hi0 (fshl p _ c R 1 _ 1 W h rfl (by omega) (by omega) rfl rfl)
 have HMU := fun W p c h => hi0 (l0g p p _ _ c c R R W h h rfl rfl (by omega))
 have HCM := fun W p q c d h1 h2 => hi0 (d0x p q _ _ c d (R * R) XN W h1 h2 rfl rfl (by omega) (by omega))
 have lQ0 : (dig B32 (R * 2 ^ 1)).length ≤ 1702 := by have := j0d R 1; omega
 generalize hQ0 : R * 2 ^ 1 = Q0 at *
 clear hQ0
 have l1 : (dig B32 1).length ≤ 1 := by rw [e0c a0b (by omega) (by unfold B32; omega)]; simp
 have HAD := fun W p q c d h1 h2 => hi0 (m0u p q _ _ c d Q0 1 W h1 h2 rfl rfl (by omega) (by omega))
 have lQ1 : (dig B32 (Q0 + 1)).length ≤ 1800 := Nat.le_trans (c0p a0b Q0 1) (by omega)
 obtain ⟨sb, hsb⟩ : ∃ b, (cmpN (R * R) XN != 0) = b := ⟨_, rfl⟩
 have hc0 : cmpN (R * R) XN = 0 ↔ R * R = XN := by unfold cmpN; split <;> (try split) <;> omega
 obtain ⟨Q, hQ⟩ : ∃ Q, Q0 + (if R * R ≠ XN then 1 else 0) = Q := ⟨_, rfl⟩
 rw [hQ] at hM
 have hQt : sb = true → Q0 + 1 = Q := fun h => by
  rw [h, bne_iff_ne] at hsb
  rw [← hQ, if_pos (fun k => hsb (hc0.2 k))]
 have hQf : sb = false → Q0 = Q := fun h => by
  rw [h, bne_eq_false_iff_eq] at hsb
  rw [← hQ, if_neg (fun k => k (hc0.1 hsb))]
  rfl
 have lQ : (dig B32 Q).length ≤ 1800 := by
  cases sb
  · rw [← hQf rfl]; omega
  · rw [← hQt rfl]; omega
 have HSB := hi0 hsb
 clear hsb hc0 hQ
 obtain ⟨E2, hE2⟩ : ∃ E2, (ra.x.e - (N : Int)) / 2 = E2 := ⟨_, rfl⟩
 rw [hE2] at hM
 have hE2b : -110000 ≤ E2 ∧ E2 ≤ 100000 := by omega
 have H4 : ∀ k : Int, k = N → IntKind.i64.wrap ((ra.x.e - k).tdiv 2) = E2 := fun k h => by
  rw [h, m1z HE0.out, hE2]; exact iwo
 clear hE2 HE0 hN0
 have hr1 := k0b a0b ⟨false, Q, E2 - 1⟩
 have hr2 := s0o ⟨false, Q, E2 - 1⟩ (n := 1800) (by simp only; omega) (lo := -600000) (hi := 400000) (by simp only; omega) (by simp only; omega) (by omega) (by omega)
 have HW := fun W p (n : Nat) c (q : n = (dig B32 Q).length) (h1 : Rd W .u32 p (dig B32 Q)) (h2 : n ≤ c) h3 => hi0 (n0y p n c (E2 - 1) Q W h1 q h2 (by omega) (by omega) h3)
 generalize bare ⟨false, Q, E2 - 1⟩ = rt at *
 simp only at hr1
 have HNU := fun W p c u h1 h2 => hi0 (x0r f n way rt p c u W h1 h2 (by omega) (by omega) G hw)
 obtain ⟨rS, flS, hS⟩ : ∃ rS flS, f.numM rt way = (rS, flS) := ⟨_, _, rfl⟩
 rw [hS] at HNU hM
 generalize f.sqrtM ra way = RR at *
 generalize f.offM.2 = flo at *
 generalize f.nothM.cls = kN at *
 clear hS
 have I := Inv.startW w u 182 (uS f n way 0) [ownF base .u32 141 a.p a.c (dig B32 a.v.d), tabF] U ⟨oa, hT, True.intro⟩ ⟨fun hf => oa.far U (by kernel_rfl) hf.1 hf.2, fun hf => hT.far U (by kernel_rfl) hf, True.intro⟩
 refine a0d [.p 0 0, .v (.agg #[.int .i64 (a.v.cls : Int), .bool a.v.neg, .slice a.p (dig B32 a.v.d).length a.c, .int .i64 a.v.pow])] I Tryz.func56 ?_
 by_cases hof : 4 ≤ a.v.cls
 · refine zge I 0 182 (fun Al W I => (HY W _ _ (I.box 0 182 _) (I.box 3 75 _) (by simpa using hof)).out) fun Al V Iv _ _ kz => ?_
   rintro _ W ⟨rfl, hO, hB⟩
   refine ⟨_, rfl, kz _ (uS f n way (flo : Int)) _ hO hB fun I => ?_⟩
   rw [hM, if_pos hof, hoffm]
   exact zret I fun Al W I => b0c hk2 rfl I.bel (I.boxE 182 _)
 refine zq I (fun Al W I => have hzW := I.bel.size; (HN W _ _ (I.box 0 182 _) (I.box 3 75 _) (by simp only [List.mem_cons, List.mem_nil_iff, or_false]; rintro x rfl; omega)).out) fun Al W I => ?_
 by_cases z1 : a.v.cls = 1
 · refine zqd I (fun Al W I => q0d a.v.cls a.v.neg a.p (dig B32 a.v.d).length a.c a.v.pow W) (dTr z1) fun Al W I => ?_
   refine zq I (fun Al W I => (HZ W _ (I.box 0 182 _)).out) fun Al W I => ?_
   rw [hM, if_neg hof, if_pos z1]
   exact zret I fun Al W I => b0c (k := 1) (by decide) rfl I.bel (I.boxE 182 _)
 refine zqd I (fun Al W I => q0d a.v.cls a.v.neg a.p (dig B32 a.v.d).length a.c a.v.pow W) (dFa z1) fun Al W I => ?_
 by_cases ng : a.v.neg = true
 · refine zb I 30 (a.v.neg) (true) (ng) fun Al W I => ?_
   refine zge I 0 182 (fun Al W I => (HL W _ (I.box 0 182 _)).out) fun Al V Iv _ _ kz => ?_
   rintro _ W ⟨rfl, hO, hB⟩
   refine ⟨_, rfl, kz _ (uS f n way 16) _ hO hB fun I => ?_⟩
   rw [hM, if_neg hof, if_neg z1, if_pos ng, hlostm]
   exact zret I fun Al W I => b0c hk2 rfl I.bel (I.boxE 182 _)
 refine zb I 30 (a.v.neg) (false) ((by simpa using ng)) fun Al W I => ?_
 by_cases z3 : a.v.cls = 3
 · refine zqd I (fun Al W I => a0i a.v.cls a.v.neg a.p (dig B32 a.v.d).length a.c a.v.pow W) (dTr z3) fun Al W I => ?_
   rw [hM, if_neg hof, if_neg z1, if_neg ng, if_pos z3]
   exact zret I fun Al W I => ⟨a.v, VA, a.p, a.c, rfl, I.fa.1, I.bel, I.boxE 182 _⟩
 refine zqd I (fun Al W I => a0i a.v.cls a.v.neg a.p (dig B32 a.v.d).length a.c a.v.pow W) (dFa z3) fun Al W I => ?_
 refine zg I (fun Al W I => (HA W _ (I.box 0 182 _) I.fa.1 I.fa.2.1).out) fun Al V Iv _ hB _ kz => ?_
 rintro _ W ⟨p39, c39, rfl, o39, hb⟩
 refine ⟨_, rfl, kz _ _ hb fun I => ?_⟩
 have I := I.ownB base o39
 refine zq I (fun Al W I => (HLX W p39 c39 I.fa.1.rd).out) fun Al W I => ?_
 refine zi I 44 .i64 ((300 : Int) - (LX : Int)) ((300 : Int) - (LX : Int)) (iwo) fun Al W I => ?_
 refine zm I 45 .i64 (if (((300 : Int) - (LX : Int)) : Int) > 0 then ((300 : Int) - (LX : Int)) else 0) ((N0 : Int)) (((i1k _ _).trans m1)) fun Al W I => ?_
 refine zi I 50 .i64 (ra.x.e - (N0 : Int)) (ra.x.e - (N0 : Int)) (iwo) fun Al W I => ?_
 refine zbin I 51 _ (fun _ _ _ _ _ => v0i .i64 (ra.x.e - (N0 : Int)) (2) ((ra.x.e - (N0 : Int)).tmod 2) (by omega) (rfl)) fun Al W I => ?_
 refine zb I 52 (((ra.x.e - (N0 : Int)).tmod 2) != 0) (par) (HPAR.out) fun Al W I => ?_
 refine zcut I (some 2000052) (fun fr bx gs => ∃ (U1 : Nat → Value) (k1 : Int), fr = (.p 0 0 :: .v (.agg #[.int .i64 (a.v.cls : Int), .bool a.v.neg, .slice a.p (dig B32 a.v.d).length a.c, .int .i64 a.v.pow]) :: .v undef :: .p 1 0 :: .p 2 0 :: .p 4 0 :: .v (.bool false) :: .p 5 0 :: .v (.int .i64 k1) :: su 3 (sw U1 12 7 (.v (.bool false) :: .v (U1 20) :: .v (.bool false) :: sw U1 22 6 (.v (.bool false) :: sw U1 29 4 (.v (.bool false) :: sw U1 34 18 (.v (.bool par) :: sw U1 53 16 (.v undef :: sw U1 70 14 [])))))) : List SV) ∧ bx = [⟨182, (uS f n way 0), false⟩, ⟨75, [.v (.int .i64 (a.v.cls : Int)), .v (.bool a.v.neg), .v (.slice a.p (dig B32 a.v.d).length a.c), .v (.int .i64 a.v.pow)], false⟩, ⟨75, [.v (.int .i64 0), .v (.bool false), .v (.slice none 0 0), .v (.int .i64 0)], false⟩, ⟨75, [.v (.int .i64 (a.v.cls : Int)), .v (.bool a.v.neg), .v (.slice a.p (dig B32 a.v.d).length a.c), .v (.int .i64 a.v.pow)], false⟩, ⟨75, [.v (.int .i64 0), .v (.bool false), .v (.slice none 0 0), .v (.int .i64 0)], false⟩, ⟨112, [.v (.bool ra.x.neg), .v (.slice p39 (dig B32 ra.x.m).length c39), .v (.int .i64 ra.x.e)], false⟩] ∧ gs = [ownF base .u32 141 p39 c39 (dig B32 ra.x.m), ownF base .u32 141 a.p a.c (dig B32 a.v.d), tabF] ∧ (k1 = (N : Int))) ?_ ?_
 · intro J hJ Al W I
   rcases Bool.eq_false_or_eq_true par with rfl | rfl
   · refine zi I 54 .i64 ((N0 : Int) + 1) ((N0 : Int) + 1) (iwo) fun Al W I => ?_
     exact a0y I J fun Al W U I => hJ _ _ _ _ _ ⟨U, (N0 : Int) + 1, rfl, rfl, rfl, hNt rfl⟩ (I.pick [0, 1, 2])
   exact a0y I J fun Al W U I => hJ _ _ _ _ _ ⟨U, (N0 : Int), rfl, rfl, rfl, hNf rfl⟩ (I.pick [0, 1, 2])
 rintro _ _ _ ⟨U1, k1, rfl, rfl, rfl, hk1⟩ Al W I
 refine zg I (fun Al W I => (HSX W k1 p39 c39 I.fa.1.rd hk1).out) fun Al V Iv _ hB _ kz => ?_
 rintro _ W ⟨p59, c59, rfl, o59, hb⟩
 refine ⟨_, rfl, kz _ _ hb fun I => ?_⟩
 have I := I.ownB base o59
 refine zg I (fun Al W I => (HRT W p59 c59 I.fa.1.rd).out) fun Al V Iv _ hB _ kz => ?_
 rintro _ W ⟨p61, c61, rfl, o61, hb⟩
 refine ⟨_, rfl, kz _ _ hb fun I => ?_⟩
 have I := I.ownB base o61
 refine zg I (fun Al W I => (HS1 W p61 c61 I.fa.1.rd).out) fun Al V Iv _ hB _ kz => ?_
 rintro _ W ⟨p63, c63, rfl, o63, hb⟩
 refine ⟨_, rfl, kz _ _ hb fun I => ?_⟩
 have I := I.ownB base o63
 refine zg I (fun Al W I => (HMU W p61 c61 I.fa.2.1.rd).out) fun Al V Iv _ hB _ kz => ?_
 rintro _ W ⟨p66, c66, rfl, o66, hb⟩
 refine ⟨_, rfl, kz _ _ hb fun I => ?_⟩
 have I := I.ownB base o66
 refine zq I (fun Al W I => (HCM W p66 p59 c66 c59 I.fa.1.rd I.fa.2.2.2.1.rd).out) fun Al W I => ?_
 refine zb I 69 ((cmpN (R * R) XN) != 0) (sb) (HSB.out) fun Al W I => ?_
 refine zcut I (some 2000069) (fun fr bx gs => ∃ (U2 : Nat → Value) (Qv : Nat) (pq : Option Addr) (cq : Nat), fr = (.p 0 0 :: .v (.agg #[.int .i64 (a.v.cls : Int), .bool a.v.neg, .slice a.p (dig B32 a.v.d).length a.c, .int .i64 a.v.pow]) :: .v undef :: .p 1 0 :: .p 2 0 :: .p 4 0 :: .v (.bool false) :: .p 5 0 :: .v (.int .i64 k1) :: .v (.slice p59 (dig B32 XN).length c59) :: .v (.slice p61 (dig B32 R).length c61) :: .v (.slice pq (dig B32 Qv).length cq) :: sw U2 12 7 (.v (.bool false) :: .v (U2 20) :: .v (.bool false) :: sw U2 22 6 (.v (.bool false) :: sw U2 29 4 (.v (.bool false) :: sw U2 34 18 (.v (.bool par) :: sw U2 53 16 (.v (.bool sb) :: sw U2 70 14 []))))) : List SV) ∧ bx = [⟨182, (uS f n way 0), false⟩, ⟨75, [.v (.int .i64 (a.v.cls : Int)), .v (.bool a.v.neg), .v (.slice a.p (dig B32 a.v.d).length a.c), .v (.int .i64 a.v.pow)], false⟩, ⟨75, [.v (.int .i64 0), .v (.bool false), .v (.slice none 0 0), .v (.int .i64 0)], false⟩, ⟨75, [.v (.int .i64 (a.v.cls : Int)), .v (.bool a.v.neg), .v (.slice a.p (dig B32 a.v.d).length a.c), .v (.int .i64 a.v.pow)], false⟩, ⟨75, [.v (.int .i64 0), .v (.bool false), .v (.slice none 0 0), .v (.int .i64 0)], false⟩, ⟨112, [.v (.bool ra.x.neg), .v (.slice p39 (dig B32 ra.x.m).length c39), .v (.int .i64 ra.x.e)], false⟩] ∧ gs = [ownF base .u32 141 pq cq (dig B32 Qv), ownF base .u32 141 p66 c66 (dig B32 (R * R)), ownF base .u32 141 p63 c63 (dig B32 Q0), ownF base .u32 141 p61 c61 (dig B32 R), ownF base .u32 141 p59 c59 (dig B32 XN), ownF base .u32 141 p39 c39 (dig B32 ra.x.m), ownF base .u32 141 a.p a.c (dig B32 a.v.d), tabF] ∧ (Qv = Q)) ?_ ?_
 · intro J hJ Al W I
   rcases Bool.eq_false_or_eq_true sb with rfl | rfl
   · refine zg I (fun Al W I => k1d W) fun Al V Iv _ hB _ kz => ?_
     rintro _ W ⟨p71, c71, rfl, o71, hb⟩
     refine ⟨_, rfl, kz _ _ hb fun I => ?_⟩
     have I := I.ownB base o71
     refine zg I (fun Al W I => (HAD W p63 p71 c63 c71 I.fa.2.2.1.rd I.fa.1.rd).out) fun Al V Iv _ hB _ kz => ?_
     rintro _ W ⟨p72, c72, rfl, o72, hb⟩
     refine ⟨_, rfl, kz _ _ hb fun I => ?_⟩
     have I := I.ownB base o72
     exact a0y I J fun Al W U I => hJ _ _ _ _ _ ⟨U, Q0 + 1, p72, c72, rfl, rfl, rfl, hQt rfl⟩ (I.pick [0, 2, 3, 4, 5, 6, 7, 8])
   exact a0y I J fun Al W U I => hJ _ _ _ _ _ ⟨U, Q0, p63, c63, rfl, rfl, rfl, hQf rfl⟩ (I.pick [1, 0, 1, 2, 3, 4, 5, 6])
 rintro _ _ _ ⟨U2, Qv, pq, cq, rfl, rfl, rfl, hQv⟩ Al W I
 refine zi I 79 .i64 (ra.x.e - k1) (ra.x.e - k1) (iwo) fun Al W I => ?_
 refine zbin I 80 _ (fun _ _ _ _ _ => r0h .i64 (ra.x.e - k1) (2) (E2) (by omega) ((H4 _ hk1))) fun Al W I => ?_
 refine zi I 81 .i64 (E2 - 1) (E2 - 1) (iwo) fun Al W I => ?_
 refine zg I (fun Al W I => (HW W pq (dig B32 Qv).length cq (by rw [hQv]) (hQv ▸ I.fa.1.rd) I.fa.1.le_cap I.fa.2.2.2.2.2.2.2.1).out) fun Al V Iv _ hB _ kz => ?_
 rintro _ W ⟨p82, c82, rfl, o82, hb⟩
 refine ⟨_, rfl, kz _ _ hb fun I => ?_⟩
 have I := I.ownB base o82
 refine zge I 0 182 (fun Al W I => (HNU W p82 c82 _ (I.box 0 182 _) I.fa.1.rd).out) fun Al V Iv _ _ kz => ?_
 rintro _ W ⟨v83, hR83, p83, c83, rfl, o83, hO, hB⟩
 refine ⟨_, rfl, kz _ (uS f n way (flS : Int)) _ hO hB fun I => ?_⟩
 have I := I.ownB base o83
 rw [hM, if_neg hof, if_neg z1, if_neg ng, if_neg z3]
 exact zret I fun Al W I => ⟨v83, hR83, p83, c83, rfl, I.fa.1, I.bel, I.boxE 182 _⟩
theorem h1m {n : Int} {xs : List Vp} {s : ByteArray} (h : xs.map (·.v) = [s].map (decP n)) : ∃ x, xs = [x] ∧ x.v = decP n s := by
 cases xs with
 | nil => simp at h
 | cons x l =>
  cases l with
  | nil => simp only [List.map_cons, List.map_nil, List.cons.injEq, and_true] at h; exact ⟨x, rfl, h⟩
  | cons _ _ => simp at h
theorem e1i {f : Fm} (G : c0i f) {a : Vr} (A : VrF f a) (way : Int) : ResF f (f.sqrtM a way).1 := by
 unfold Fm.sqrtM
 split
 · exact g0u G
 · split
   · exact o0n G _
   · split
     · exact g0u G
     · split
       · rename_i h; exact w0e h A
       · exact i1r G _ _
theorem e1j (n way : Int) (s : ByteArray) (h0 : errL n [s] = 0) (hw : 1 ≤ way ∧ way ≤ 5) : l1b n way [s] 55 ((fmt n).sqrtM (refD n s) way) := by
 intro xs vs p c base u w hxs hvs oS oL U hT hb
 have hs := f0r n h0 s (by simp)
 have hn := (c0t.1 hs).1
 obtain ⟨x, rfl, hx⟩ := h1m hxs
 have ox := oL x (by simp)
 have HA := fun W u h1 h2 h3 h4 => hi0 (o1f (fmt n) n way x (refD n s) base u W h1 h2 h3 (e1c hs hx) (b0z hn) hw h4)
 generalize (fmt n).sqrtM (refD n s) way = R at *
 generalize fmt n = f at *
 subst hvs
 clear oL hx hxs h0 hs hn
 obtain ⟨r, fl⟩ := R
 have I := Inv.startW w u 182 (uS f n way 0) [h0p base 75 4 p c [s].length ([x].flatMap Vp.cells), ownF base .u32 141 x.p x.c (dig B32 x.v.d), tabF] U ⟨oS, ox, hT, True.intro⟩ ⟨fun hf => oS.far U (by kernel_rfl) hf.1 hf.2, fun hf => ox.far U (by kernel_rfl) hf.1 hf.2, fun hf => hT.far U (by kernel_rfl) hf, True.intro⟩
 refine a0d [.p 0 0, .v (.slice p [s].length c)] I Tryz.func55 ?_
 refine zx I 7 (fun _ => .pointer (some (at_ p (0 * 4)))) (fun Al W I => (m0f (m := 0) (n := [s].length) (c := c) v0y I.fa.1.solid (by simp))) fun Al W I => ?_
 refine zx I 8 (fun _ => .agg #[.int .i64 (x.v.cls : Int), .bool x.v.neg, .slice x.p (dig B32 x.v.d).length x.c, .int .i64 x.v.pow]) (fun Al W I => (q0c (m := 0 * 4) I.fa.1 v0z x.cells rfl rfl)) fun Al W I => ?_
 refine zge I 0 182 (fun Al W I => have hzW := I.bel.size; (HA W _ (I.box 0 182 _) I.fa.2.1 (by omega) I.fa.2.2.1).out) fun Al V Iv _ _ kz => ?_
 rintro _ W ⟨v9, hR9, p9, c9, rfl, o9, hO, hB⟩
 refine ⟨_, rfl, kz _ (uS f n way (fl : Int)) _ hO hB fun I => ?_⟩
 have I := I.ownB base o9
 exact zret I fun Al W I => ⟨v9, hR9, p9, c9, rfl, I.fa.1, I.bel, I.boxE 182 _⟩
theorem u0b (n way : Int) (s : ByteArray) (w : World) (hT : TabW w) : Calls Tryz.prog 14 #[.int .i64 n, .string s, .int .i64 way] w (f0d n way [s] ((fmt n).sqrtM (refD n s) way) w) := by
 unfold f0d
 by_cases h0 : errR n way [s] = 0
 · obtain ⟨hn, hL, hw⟩ := k0z h0
   have HR := fun b m W h1 h2 h3 => hi0 (i1q n way [s] 55 _ b m W h1 h2 (by simp) h3 (fun _ _ => by kernel_rfl) h0 (e1j n way s hL hw) (e1i (b0z hn) (l0w hn) way))
   simp only [h0, if_true]
   generalize strR n ((fmt n).sqrtM (refD n s) way).1 = str at *
   generalize ((fmt n).sqrtM (refD n s) way).2 = fl at *
   have I := Inv.start w [tabF] ⟨hT, True.intro⟩
   refine a0d [.v (.int .i64 n), .v (.string s), .v (.int .i64 way)] I Tryz.func14 ?_
   refine zq I (fun Al W I => (HR _ 1 W (I.box 0 9 _) rfl I.fa.1).out) fun Al W I => ?_
   exact zrb I
 · have HR := fun b m W h1 h2 h3 => hi0 (e1b n way [s] 55 b m W h1 h2 (by simp) h3 h0)
   simp only [if_neg h0]
   generalize errR n way [s] = er at *
   have I := Inv.start w [tabF] ⟨hT, True.intro⟩
   refine a0d [.v (.int .i64 n), .v (.string s), .v (.int .i64 way)] I Tryz.func14 ?_
   refine zq I (fun Al W I => (HR _ 1 W (I.box 0 9 _) rfl I.fa.1).out) fun Al W I => ?_
   exact zrb I
theorem h1n {m n : Nat} (h : (dig B16 m).length ≤ n) : (dig B32 m).length ≤ n := (a0g a0b _ _).2 (Nat.lt_of_lt_of_le ((a0g a0e _ _).1 h) (Nat.pow_le_pow_left (by unfold B16 B32; omega) n))
theorem z0t (m : Nat) (e : Int) : (bare ⟨false, m, e⟩).neg = false := by unfold bare; split <;> rfl
theorem u0c {x : Dv} {N : Nat} (h0 : x.m ≠ 0) (hN : 300 ≤ blen x.m + N) : (h0n x N).m ≠ 0 ∧ (h0n x N).neg = false := by
 have l1 := k0o x.e N
 have hb := n0x (X := x.m) (n := g0f x.e N) (b := 149) (by omega) (by omega)
 unfold h0n
 generalize g0f x.e N = n at *
 have hR : 0 < isq (x.m * 2 ^ n) := (c0j _).1 (by omega)
 exact ⟨j0r hR, z0t _ _⟩
theorem h1o {n : Int} (hn : IsFm n) {x : Dv} (h0 : x.m ≠ 0) (way : Int) : (fmt n).numM (h0n x (300 - blen x.m)) way = (fmt n).numM (h0n x 300) way := by
 have hD : 1 ≤ (fmt n).g.digs.toNat := by have := (b0n (b0z hn).g).d1; omega
 have hw : wid (fmt n).g * (fmt n).g.digs.toNat ≤ 140 := by
  rcases k0f hn with rfl | rfl | rfl | rfl | rfl | rfl | rfl | rfl <;> decide +kernel
 obtain ⟨a1, a2⟩ := u0c (x := x) (N := 300 - blen x.m) h0 (by omega)
 obtain ⟨b1, b2⟩ := u0c (x := x) (N := 300) h0 (by omega)
 unfold Fm.numM
 rw [if_neg a1, if_neg b1, a2, b2, z0s (N := 300 - blen x.m) (M := 300) h0 hD hw (by omega) (by omega)]
theorem s0c (n way : Int) (a : Wp) (ba : Nat) (w : World) (hn : IsFm n) (hw : 1 ≤ way ∧ way ≤ 5) (oa : Rf w ba a.p a.c (dig B16 a.r.x.m)) (A1 : VrOk a.r) :
 Calls Tryz.prog 15 #[.int .i64 n, .agg #[.int .i64 (a.r.cls : Int), .bool a.r.neg, .bool a.r.x.neg, .slice a.p (dig B16 a.r.x.m).length a.c, .int .i64 a.r.x.e], .int .i64 way] w (GVf w w.heap.size ((fmt n).sqrtM a.r way)) := by
 have HY := fun W b0 h1 h2 => hi0 (z0o n [a] b0 1 W hn h1 rfl (by simp) h2)
 have HN := fun W b0 h1 h2 => hi0 (e1d n [a] b0 1 W hn h1 rfl (by simp) h2)
 have HL := fun W => hi0 (w0d n W hn)
 have HZ := fun g W => hi0 (i0d n g W hn)
 have hoffm : (fmt n).offM = (⟨(fmt n).nothM.cls, false, vz⟩, (fmt n).offM.2) := rfl
 have hlostm : (fmt n).lostM = (⟨(fmt n).nothM.cls, false, vz⟩, 16) := rfl
 have hzm : (fmt n).zeroM a.r.neg = ⟨1, a.r.neg && decide ((fmt n).fam = 1), vz⟩ := rfl
 have vza := A1.x0
 have ca := A1.c
 have sm := A1.sm
 have s1 := A1.len
 have s2 := A1.lo
 have s3 := A1.hi
 have s4 := n0f a.r.x.m
 have hM : (fmt n).sqrtM a.r way = if 4 ≤ a.r.cls then (fmt n).offM else if a.r.cls = 1 then ((fmt n).zeroM a.r.neg, 0) else if a.r.neg = true then (fmt n).lostM else if a.r.cls = 3 then (a.r, 0) else (fmt n).numM (h0n a.r.x 300) way := by
  unfold Fm.sqrtM
  by_cases c4 : 4 ≤ a.r.cls
  · rw [if_pos c4, if_pos c4]
  · rw [if_neg c4, if_neg c4]
    by_cases c1 : a.r.cls = 1
    · rw [if_pos c1, if_pos c1]
    · rw [if_neg c1, if_neg c1]
      by_cases c5 : a.r.neg = true
      · rw [if_pos c5, if_pos c5]
      · rw [if_neg c5, if_neg c5]
        by_cases c3 : a.r.cls = 3
        · rw [if_pos c3, if_pos c3]
        · rw [if_neg c3, if_neg c3, h1o hn (A1.x2 (by omega)).1]
 have h2 : a.r.cls = 2 → 0 < a.r.x.m := fun h => by have := (A1.x2 h).1; omega
 have hev : g0f a.r.x.e 300 = if (a.r.x.e - ((300 : Nat) : Int)) % 2 = 0 then 300 else 300 + 1 := rfl
 have HE0 := hi0 (i0n a.r.x.e 300)
 have hnb := k0o a.r.x.e 300
 unfold h0n at hM
 obtain ⟨N, hN⟩ : ∃ N, g0f a.r.x.e 300 = N := ⟨_, rfl⟩
 rw [hN] at hM hev HE0 hnb
 clear hN
 have hpe : ((a.r.x.e - 300).tmod 2 != 0) = !decide ((a.r.x.e - 300) % 2 = 0) := m1y _
 obtain ⟨par, hpar⟩ : ∃ b, ((a.r.x.e - 300).tmod 2 != 0) = b := ⟨_, rfl⟩
 have hNt : par = true → a.r.x.e - 300 - 1 = a.r.x.e - (N : Int) := fun h => by
  rw [hpar, h] at hpe
  have : ¬ (a.r.x.e - 300) % 2 = 0 := by simpa using hpe.symm
  rw [if_neg (by omega)] at hev; omega
 have hNf : par = false → a.r.x.e - 300 = a.r.x.e - (N : Int) := fun h => by
  rw [hpar, h] at hpe
  have : (a.r.x.e - 300) % 2 = 0 := by simpa using hpe.symm
  rw [if_pos (by omega)] at hev; omega
 have HPAR := hi0 hpar
 clear hpar hpe hev
 have HSX := fun W M p c h hM => hi0 (rup p _ c a.r.x.m N _ M W h rfl (by omega) (by omega) hM rfl)
 have lXN : (dig B16 (a.r.x.m * 2 ^ N)).length ≤ 3000 := by have := d1c a.r.x.m N; omega
 have hXp : a.r.cls = 2 → 0 < a.r.x.m * 2 ^ N := fun h => Nat.mul_pos (h2 h) (Nat.pow_pos (by omega))
 have hst : c0s a.r.x.m N (isq (a.r.x.m * 2 ^ N)) 1 a.r.x.e = ⟨false, isq (a.r.x.m * 2 ^ N) * 2 + (if isq (a.r.x.m * 2 ^ N) * isq (a.r.x.m * 2 ^ N) ≠ a.r.x.m * 2 ^ N then 1 else 0), (a.r.x.e - N) / 2 - 1⟩ := by unfold c0s; rw [Nat.mul_comm]; rfl
 rw [hst] at hM
 clear hst
 generalize a.r.x.m * 2 ^ N = XN at *
 have HRT := fun W p c h hc => hi0 ((s0b p _ c XN W h rfl (by omega) (hXp hc)).mono fun _ _ => d0h.grf)
 have lR : (dig B16 (isq XN)).length ≤ 3000 := Nat.le_trans (a0h a0e (i1i XN)) lXN
 generalize isq XN = R at *
 have lRR := b0y a0e R R
 have d2 : dig B16 2 = [2] := e0c a0e (by omega) (by unfold B16; omega)
 have d1 : dig B16 1 = [1] := e0c a0e (by omega) (by unfold B16; omega)
 have HT2 := fun W p c q h (h1 : Rd W .i64 q [2]) => hi0 (d1k p q _ _ c 1 R 2 _ W h (d2 ▸ h1) rfl rfl (by omega) (by rw [d2]; simp) rfl)
 have HTR := fun W p c h => hi0 (d1k p p _ _ c c R R _ W h h rfl rfl (by omega) (by omega) rfl)
 have HCM := fun W p q c d h1 h2 => hi0 (e0g p q _ _ c d (R * R) XN W h1 h2 rfl rfl (by omega) (by omega))
 have lQ0 : (dig B16 (R * 2)).length ≤ 3002 := by have := b0y a0e R 2; rw [d2] at this; simp at this; omega
 generalize hQ0 : R * 2 = Q0 at *
 clear hQ0
 have HAD := fun W p c q h (h1 : Rd W .i64 q [1]) => hi0 (d1j p q _ _ c 1 Q0 1 _ W h (d1 ▸ h1) rfl rfl (by omega) (by rw [d1]; simp) rfl)
 rw [d2] at HT2
 rw [d1] at HAD
 have lQ1 : (dig B16 (Q0 + 1)).length ≤ 3100 := Nat.le_trans (c0p a0e Q0 1) (by rw [d1]; simp; omega)
 obtain ⟨sb, hsb⟩ : ∃ b, (cmpN (R * R) XN != 0) = b := ⟨_, rfl⟩
 have hc0 : cmpN (R * R) XN = 0 ↔ R * R = XN := by unfold cmpN; split <;> (try split) <;> omega
 obtain ⟨Q, hQ⟩ : ∃ Q, Q0 + (if R * R ≠ XN then 1 else 0) = Q := ⟨_, rfl⟩
 rw [hQ] at hM
 have hQt : sb = true → Q0 + 1 = Q := fun h => by
  rw [h, bne_iff_ne] at hsb
  rw [← hQ, if_pos (fun k => hsb (hc0.2 k))]
 have hQf : sb = false → Q0 = Q := fun h => by
  rw [h, bne_eq_false_iff_eq] at hsb
  rw [← hQ, if_neg (fun k => k (hc0.1 hsb))]
  rfl
 have lQ : (dig B16 Q).length ≤ 3100 := by
  cases sb
  · rw [← hQf rfl]; omega
  · rw [← hQt rfl]; omega
 have HSB := hi0 hsb
 clear hsb hc0 hQ
 obtain ⟨E2, hE2⟩ : ∃ E2, (a.r.x.e - (N : Int)) / 2 = E2 := ⟨_, rfl⟩
 rw [hE2] at hM
 have hE2b : -10000 ≤ E2 ∧ E2 ≤ 10000 := by omega
 have H4 : ∀ k : Int, k = a.r.x.e - N → IntKind.i64.wrap (k.tdiv 2) = E2 := fun k h => by
  rw [h, m1z HE0.out, hE2]; exact iwo
 clear hE2 HE0
 have hr1 := k0b a0e ⟨false, Q, E2 - 1⟩
 have hr2 := s0o ⟨false, Q, E2 - 1⟩ (n := 3100) (h1n lQ) (lo := -20000) (hi := 20000) (by simp only; omega) (by simp only; omega) (by omega) (by omega)
 have HW := fun W p (m : Nat) c (q : m = (dig B16 Q).length) (h1 : Rd W .i64 p (dig B16 Q)) => hi0 (k0u false p m c (E2 - 1) Q _ W h1 q (by omega) (by omega) rfl)
 generalize bare ⟨false, Q, E2 - 1⟩ = rt at *
 simp only at hr1
 have HF := fun W p c b h1 => hi0 (w0c n way rt p c b W hn hw h1 (by omega) (by omega))
 obtain ⟨rS, flS, hS⟩ : ∃ rS flS, (fmt n).numM rt way = (rS, flS) := ⟨_, _, rfl⟩
 rw [hS] at HF hM
 unfold GVf at HF
 simp only at HF
 generalize (fmt n).sqrtM a.r way = RR at *
 generalize (fmt n).offM.2 = flo at *
 generalize (fmt n).nothM.cls = kN at *
 clear hS
 have I := Inv.start w [rfF ba a.p a.c (dig B16 a.r.x.m)] ⟨oa, True.intro⟩
 refine a0d [.v (.int .i64 n), .v (.agg #[.int .i64 (a.r.cls : Int), .bool a.r.neg, .bool a.r.x.neg, .slice a.p (dig B16 a.r.x.m).length a.c, .int .i64 a.r.x.e]), .v (.int .i64 way)] I Tryz.func15 ?_
 by_cases hof : 4 ≤ a.r.cls
 · refine zq I (fun Al W I => (HY W _ (I.box 2 32 _) (by simpa using hof)).out) fun Al W I => ?_
   rw [hM, if_pos hof, hoffm]
   exact zret I fun Al W I => b0t (fl := flo) rfl I.below
 refine zq I (fun Al W I => have hzW := I.bel.size; (HN W _ (I.box 2 32 _) (by simp only [List.mem_cons, List.mem_nil_iff, or_false]; rintro x rfl; omega)).out) fun Al W I => ?_
 by_cases z1 : a.r.cls = 1
 · refine zb I 28 ((a.r.cls : Int) == 1) (true) (beq_iff_eq.2 (by omega)) fun Al W I => ?_
   refine zq I (fun Al W I => (HZ a.r.neg W).out) fun Al W I => ?_
   rw [hM, if_neg hof, if_pos z1, hzm]
   exact zret I fun Al W I => b0t (k := 1) (fl := 0) rfl I.below
 refine zb I 28 ((a.r.cls : Int) == 1) (false) (bFn (by omega)) fun Al W I => ?_
 by_cases ng : a.r.neg = true
 · refine zb I 34 (a.r.neg) (true) (ng) fun Al W I => ?_
   refine zq I (fun Al W I => (HL W).out) fun Al W I => ?_
   rw [hM, if_neg hof, if_neg z1, if_pos ng, hlostm]
   exact zret I fun Al W I => b0t (k := kN) (fl := 16) rfl I.below
 refine zb I 34 (a.r.neg) (false) ((by simpa using ng)) fun Al W I => ?_
 by_cases z3 : a.r.cls = 3
 · refine zb I 41 ((a.r.cls : Int) == 3) (true) (beq_iff_eq.2 (by omega)) fun Al W I => ?_
   rw [hM, if_neg hof, if_neg z1, if_neg ng, if_pos z3]
   exact zret I fun Al W I => ⟨a.p, a.c, rfl, p1j (vza (by omega)), I.below⟩
 refine zb I 41 ((a.r.cls : Int) == 3) (false) (bFn (by omega)) fun Al W I => ?_
 refine zi I 46 .i64 (a.r.x.e - 300) (a.r.x.e - 300) (iwo) fun Al W I => ?_
 refine zbin I 48 _ (fun _ _ _ _ _ => v0i .i64 (a.r.x.e - 300) (2) ((a.r.x.e - 300).tmod 2) (by omega) (rfl)) fun Al W I => ?_
 refine zb I 49 (((a.r.x.e - 300).tmod 2) != 0) (par) (HPAR.out) fun Al W I => ?_
 refine zcut I (some 2000049) (fun fr bx gs => ∃ (U1 : Nat → Value) (k1 : Int), fr = (.v (.int .i64 n) :: .v (.agg #[.int .i64 (a.r.cls : Int), .bool a.r.neg, .bool a.r.x.neg, .slice a.p (dig B16 a.r.x.m).length a.c, .int .i64 a.r.x.e]) :: .v (.int .i64 way) :: .v undef :: .p 0 0 :: .v undef :: .p 1 0 :: .v (.int .i64 0) :: .p 3 0 :: .v (.int .i64 0) :: .v (.bool false) :: .v (.int .i64 k1) :: su 3 (sw U1 15 8 (.v (.bool false) :: sw U1 24 4 (.v (.bool false) :: sw U1 29 5 (.v (.bool false) :: sw U1 35 6 (.v (.bool false) :: sw U1 42 7 (.v (.bool par) :: sw U1 50 21 (.v undef :: sw U1 72 14 []))))))) : List SV) ∧ bx = [⟨32, [.v (.int .i64 (a.r.cls : Int)), .v (.bool a.r.neg), .v (.bool a.r.x.neg), .v (.slice a.p (dig B16 a.r.x.m).length a.c), .v (.int .i64 a.r.x.e)], false⟩, ⟨32, [.v (.int .i64 0), .v (.bool false), .v (.bool false), .v (.slice none 0 0), .v (.int .i64 0)], false⟩, ⟨32, [.v (.int .i64 (a.r.cls : Int)), .v (.bool a.r.neg), .v (.bool a.r.x.neg), .v (.slice a.p (dig B16 a.r.x.m).length a.c), .v (.int .i64 a.r.x.e)], false⟩, ⟨32, [.v (.int .i64 0), .v (.bool false), .v (.bool false), .v (.slice none 0 0), .v (.int .i64 0)], false⟩] ∧ gs = [rfF ba a.p a.c (dig B16 a.r.x.m)] ∧ (k1 = a.r.x.e - (N : Int))) ?_ ?_
 · intro J hJ Al W I
   rcases Bool.eq_false_or_eq_true par with rfl | rfl
   · refine zi I 51 .i64 ((a.r.x.e - 300) - 1) ((a.r.x.e - 300) - 1) (iwo) fun Al W I => ?_
     exact a0y I J fun Al W U I => hJ _ _ _ _ _ ⟨U, a.r.x.e - 300 - 1, rfl, rfl, rfl, hNt rfl⟩ (I.pick [0])
   exact a0y I J fun Al W U I => hJ _ _ _ _ _ ⟨U, a.r.x.e - 300, rfl, rfl, rfl, hNf rfl⟩ (I.pick [0])
 rintro _ _ _ ⟨U1, k1, rfl, rfl, rfl, hk1⟩ Al W I
 refine zi I 59 .i64 (a.r.x.e - k1) (a.r.x.e - k1) (iwo) fun Al W I => ?_
 refine zqr I (fun Al W I => have hzW := I.bel.size; (HSX W (a.r.x.e - k1) a.p a.c I.fa.1.rd (by omega)).out) fun Al W p60 c60 I => ?_
 refine zqr I (fun Al W I => have hzW := I.bel.size; (HRT W p60 c60 I.fa.1.rd (by omega)).out) fun Al W p62 c62 I => ?_
 refine zqr I (fun Al W I => (HT2 W p62 c62 (some ⟨(lk 0 Al 4), 0, none⟩) I.fa.1.rd (d1u (I.box 4 3 _))).out) fun Al W p65 c65 I => ?_
 refine zqr I (fun Al W I => (HTR W p62 c62 I.fa.2.1.rd).out) fun Al W p68 c68 I => ?_
 refine zq I (fun Al W I => (HCM W p68 p60 c68 c60 I.fa.1.rd I.fa.2.2.2.1.rd).out) fun Al W I => ?_
 refine zb I 71 ((cmpN (R * R) XN) != 0) (sb) (HSB.out) fun Al W I => ?_
 refine zcut I (some 2000071) (fun fr bx gs => ∃ (U2 : Nat → Value) (Qv : Nat) (pq : Option Addr) (cq : Nat), fr = (.v (.int .i64 n) :: .v (.agg #[.int .i64 (a.r.cls : Int), .bool a.r.neg, .bool a.r.x.neg, .slice a.p (dig B16 a.r.x.m).length a.c, .int .i64 a.r.x.e]) :: .v (.int .i64 way) :: .v undef :: .p 0 0 :: .v undef :: .p 1 0 :: .v (.int .i64 0) :: .p 3 0 :: .v (.int .i64 0) :: .v (.bool false) :: .v (.int .i64 k1) :: .v (.slice p60 (dig B16 XN).length c60) :: .v (.slice p62 (dig B16 R).length c62) :: .v (.slice pq (dig B16 Qv).length cq) :: sw U2 15 8 (.v (.bool false) :: sw U2 24 4 (.v (.bool false) :: sw U2 29 5 (.v (.bool false) :: sw U2 35 6 (.v (.bool false) :: sw U2 42 7 (.v (.bool par) :: sw U2 50 21 (.v (.bool sb) :: sw U2 72 14 [])))))) : List SV) ∧ bx = [⟨32, [.v (.int .i64 (a.r.cls : Int)), .v (.bool a.r.neg), .v (.bool a.r.x.neg), .v (.slice a.p (dig B16 a.r.x.m).length a.c), .v (.int .i64 a.r.x.e)], false⟩, ⟨32, [.v (.int .i64 0), .v (.bool false), .v (.bool false), .v (.slice none 0 0), .v (.int .i64 0)], false⟩, ⟨32, [.v (.int .i64 (a.r.cls : Int)), .v (.bool a.r.neg), .v (.bool a.r.x.neg), .v (.slice a.p (dig B16 a.r.x.m).length a.c), .v (.int .i64 a.r.x.e)], false⟩, ⟨32, [.v (.int .i64 0), .v (.bool false), .v (.bool false), .v (.slice none 0 0), .v (.int .i64 0)], false⟩, ⟨3, [.v (.int .i64 2)], false⟩] ∧ gs = [rfF w.heap.size pq cq (dig B16 Qv), rfF w.heap.size p68 c68 (dig B16 (R * R)), rfF w.heap.size p65 c65 (dig B16 Q0), rfF w.heap.size p62 c62 (dig B16 R), rfF w.heap.size p60 c60 (dig B16 XN), rfF ba a.p a.c (dig B16 a.r.x.m)] ∧ (Qv = Q)) ?_ ?_
 · intro J hJ Al W I
   rcases Bool.eq_false_or_eq_true sb with rfl | rfl
   · refine zqr I (fun Al W I => (HAD W p65 c65 (some ⟨(lk 0 Al 5), 0, none⟩) I.fa.2.1.rd (d1u (I.box 5 3 _))).out) fun Al W p74 c74 I => ?_
     exact o0p 5 I J fun Al W U I => hJ _ _ _ _ _ ⟨U, Q0 + 1, p74, c74, rfl, rfl, rfl, hQt rfl⟩ (I.pick [0, 1, 2, 3, 4, 5])
   exact a0y I J fun Al W U I => hJ _ _ _ _ _ ⟨U, Q0, p65, c65, rfl, rfl, rfl, hQf rfl⟩ (I.pick [1, 0, 1, 2, 3, 4])
 rintro _ _ _ ⟨U2, Qv, pq, cq, rfl, rfl, rfl, hQv⟩ Al W I
 refine zbin I 78 _ (fun _ _ _ _ _ => r0h .i64 (k1) (2) (E2) (by omega) ((H4 _ hk1))) fun Al W I => ?_
 refine zi I 79 .i64 (E2 - 1) (E2 - 1) (iwo) fun Al W I => ?_
 refine zqr I (fun Al W I => (HW W pq (dig B16 Qv).length cq (by rw [hQv]) (hQv ▸ I.fa.1.rd)).out) fun Al W p81 c81 I => ?_
 refine zqr I (fun Al W I => (HF W p81 c81 _ I.fa.1).out) fun Al W p83 c83 I => ?_
 rw [hM, if_neg hof, if_neg z1, if_neg ng, if_neg z3]
 exact zret I fun Al W I => ⟨p83, c83, rfl, I.fa.1, I.below⟩
theorem o1g {n : Int} {xs : List Wp} {s : ByteArray} (h : xs.map (·.r) = [s].map (refD n)) : ∃ p1 c1, xs = [⟨refD n s, p1, c1⟩] := by
 cases xs with
 | nil => simp at h
 | cons x l =>
  cases l with
  | nil => simp only [List.map_cons, List.map_nil, List.cons.injEq, and_true] at h; rw [← h]; exact ⟨x.p, x.c, rfl⟩
  | cons _ _ => simp at h
def l1o (w : World) (r : Vr) (en : Ending) (w' : World) : Prop :=
 ∃ p1 c1 p c, en = .returned (.tuple #[.slice p 1 c, .int .i64 0]) ∧ OwnS w' w.heap.size 32 5 p c 1 ((⟨r, p1, c1⟩ : Wp).cells) ∧ Rf w' w.heap.size p1 c1 (dig B16 r.x.m) ∧ Below w.heap.size w w'
theorem z0u (n way : Int) (s : ByteArray) (b : Nat) (w : World) (hB0 : Bt w b 9 #[.string s]) (h0 : errR n way [s] = 0) :
 Calls Tryz.prog 10 #[.int .i64 n, .int .i64 way, .slice (some ⟨b, 0, none⟩) 1 1] w (l1o w (refD n s)) := by
 refine (e1f n way [s] b 1 w hB0 rfl (by simp) h0).mono fun en w' hh => ?_
 obtain ⟨xs, vs, p, c, h1, h2, h3, h4, h5, h6⟩ := hh
 obtain ⟨p1, c1, rfl⟩ := o1g h2
 subst h3
 exact ⟨p1, c1, p, c, h1, h4, h5 ⟨refD n s, p1, c1⟩ (by simp), h6⟩
theorem p0d (n way : Int) (s : ByteArray) (b : Nat) (w : World) (hB0 : Bt w b 9 #[.string s]) (h0 : errR n way [s] ≠ 0) :
 Calls Tryz.prog 10 #[.int .i64 n, .int .i64 way, .slice (some ⟨b, 0, none⟩) 1 1] w fun en w' => en = .returned (.tuple #[.slice none 0 0, .int .i64 (errR n way [s])]) ∧ Below w.heap.size w w' :=
 z0p n way [s] b 1 w hB0 rfl (by simp) h0
theorem l1p {n way : Int} {s : ByteArray} {R : Vr × Nat} {w : World} {fn : FuncId} {args : Array Value} (h : Calls Tryz.prog fn args w (f0d n way [s] R w)) (h0 : errR n way [s] = 0) :
 Calls Tryz.prog fn args w fun en w' => en = .returned (.tuple #[.string (strR n R.1), .int .i64 ((R.2 : Nat) : Int), .int .i64 0]) ∧ Below w.heap.size w w' := by
 unfold f0d at h
 simp only [h0, if_true] at h
 exact h
theorem p0e (n : Int) (s : ByteArray) (way : Int) (w : World) (hT : TabW w) : Calls Tryz.prog 4 #[.int .i64 n, .string s, .int .i64 way] w fun en w' => en = .returned (.bool true) ∧ Below w.heap.size w w' := by
 have HB0 := fun W h => hi0 (p0c W h)
 by_cases h0 : errR n way [s] = 0
 · obtain ⟨hn, hL, hw⟩ := k0z h0
   have HR := fun W h => hi0 (l1p (u0b n way s W h) h0)
   have HO := fun W b h => hi0 (z0u n way s b W h h0)
   have A1 := (l0w (s := s) hn).ok
   have HF := fun W p1 c1 b1 h1 => hi0 (s0c n way ⟨refD n s, p1, c1⟩ b1 W hn hw h1 A1)
   have RS : ResF (fmt n) ((fmt n).sqrtM (refD n s) way).1 := e1i (b0z hn) (l0w hn) way
   generalize refD n s = r1 at *
   obtain ⟨rS, flS, hS⟩ : ∃ rS flS, (fmt n).sqrtM r1 way = (rS, flS) := ⟨_, _, rfl⟩
   simp only [hS] at HF HR RS
   unfold GVf at HF
   simp only at HF
   have HP := fun W p c b h => hi0 (t0y n rS flS p c b W hn h RS)
   generalize strR n rS = str at *
   clear hS RS A1 h0 hL
   have I := Inv.start w [tabF] ⟨hT, True.intro⟩
   refine a0d [.v (.int .i64 n), .v (.string s), .v (.int .i64 way)] I Tryz.func4 ?_
   refine zq I (fun Al W I => (HR W I.fa.1).out) fun Al W I => ?_
   refine zg I (fun Al W I => (HO W _ (I.box 0 9 _)).out) fun Al V Iv _ hB _ kz => ?_
   rintro _ W ⟨p1, c1, p, c, rfl, oS, o1, hb⟩
   refine ⟨_, rfl, kz _ _ hb fun I => ?_⟩
   have I := I.owns oS
   have I := I.rf o1 (hB _) Iv
   refine zx I 35 (fun _ => .pointer (some (at_ p (0 * 5)))) (fun Al W I => (m0f (m := 0) (n := 1) (c := c) tvV I.fa.2.1.solid (by omega))) fun Al W I => ?_
   refine zx I 36 (fun _ => .agg #[.int .i64 (r1.cls : Int), .bool r1.neg, .bool r1.x.neg, .slice p1 (dig B16 r1.x.m).length c1, .int .i64 r1.x.e]) (fun Al W I => (q0c (m := 0 * 5) I.fa.2.1 agV (⟨r1, p1, c1⟩ : Wp).cells rfl rfl)) fun Al W I => ?_
   refine zqr I (fun Al W I => (HF W p1 c1 _ I.fa.1).out) fun Al W p38 c38 I => ?_
   refine zq I (fun Al W I => (HB0 W I.fa.2.2.2.1).out) fun Al W I => ?_
   refine zq I (fun Al W I => (HP W p38 c38 _ I.fa.1).out) fun Al W I => ?_
   exact zrb I
 · have HR := fun W h => hi0 (h1h (u0b n way s W h) h0)
   have HO := fun W b h => hi0 (p0d n way s b W h h0)
   generalize errR n way [s] = er at *
   have HP := fun fl v hv W => hi0 (s0a n er fl v hv W h0)
   have I := Inv.start w [tabF] ⟨hT, True.intro⟩
   refine a0d [.v (.int .i64 n), .v (.string s), .v (.int .i64 way)] I Tryz.func4 ?_
   refine zq I (fun Al W I => (HR W I.fa.1).out) fun Al W I => ?_
   refine zq I (fun Al W I => (HO W _ (I.box 0 9 _)).out) fun Al W I => ?_
   refine zb I 31 (er == 0) (false) (bFn h0) fun Al W I => ?_
   refine zq I (fun Al W I => (HB0 W I.fa.1).out) fun Al W I => ?_
   refine zq I (fun Al W I => (HP 0 _ ⟨0, false, false, none, 0, 0, 0, rfl⟩ W).out) fun Al W I => ?_
   exact zrb I
end Go.Proofs.YtmacohmclpnphaaGreatDoor
