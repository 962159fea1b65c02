/- limb.Of, limb.Pow, limb.Root. -/
import Derived.Test.YtlegnbigddhmlaaZLimb13
import Derived.Test.YtlegnbigddhmlaaZA
import Derived.Test.YtlegnbigddhmlaaZLimbOf
import Derived.Laws.BitsLemmas
namespace Go.Proofs.Ytlegnbigddhmlaa
open Go.RowKit Go.Slip

theorem i64_and1 (n : Int) : bits .and .i64 n 1 = n % 2 := by
  have h1 : (BitVec.ofInt 64 1).toNat = 2 ^ 1 - 1 := by decide
  have key : (BitVec.ofInt 64 n &&& BitVec.ofInt 64 1).toNat = (n % ((2 ^ 64 : Nat) : Int)).toNat % 2 ^ 1 := by
    rw [BitVec.toNat_and, BitVec.toNat_ofInt, h1, Nat.and_two_pow_sub_one_eq_mod]
  show IntKind.i64.wrap ((BitVec.ofInt 64 n &&& BitVec.ofInt 64 1).toNat : Nat) = n % 2
  rw [key, IntKind.wrap_i64]
  omega

/-- What the round of 'Pow' knows. -/
def PowRel (a K e f k : Nat) : Prop := e + f * k = K ∧ (1 ≤ k → 1 ≤ f) ∧ a = a

theorem PowRel.start (a K : Nat) : PowRel a K 0 1 K := ⟨by omega, fun _ => by omega, rfl⟩
theorem PowRel.odd {a K e f k : Nat} (h : PowRel a K e f k) (h1 : k % 2 = 1) : PowRel a K (e + f) (f + f) (k / 2) := by
  refine ⟨?_, fun _ => by have := h.2.1; omega, rfl⟩
  have h2 := h.1
  obtain ⟨u, rfl⟩ : ∃ u, k = 2 * u + 1 := ⟨k / 2, by omega⟩
  rw [show (2 * u + 1) / 2 = u by omega]
  grind
theorem PowRel.last {a K e f : Nat} (h : PowRel a K e f 1) : PowRel a K (e + f) f 0 := ⟨by have := h.1; omega, fun h => by omega, rfl⟩
theorem PowRel.one {a K e f k : Nat} (h : PowRel a K e f k) (h1 : k = 1) : PowRel a K (e + f) f (k / 2) := by subst h1; exact h.last
theorem PowRel.even {a K e f k : Nat} (h : PowRel a K e f k) (h0 : 0 < k) (h1 : k % 2 = 0) : PowRel a K e (f + f) (k / 2) := by
  refine ⟨?_, fun _ => by have := h.2.1; omega, rfl⟩
  have h2 := h.1
  obtain ⟨u, rfl⟩ : ∃ u, k = 2 * u := ⟨k / 2, by omega⟩
  rw [show (2 * u) / 2 = u by omega]
  grind
theorem PowRel.le {a K e f k : Nat} (h : PowRel a K e f k) (h0 : 0 < k) : e + f ≤ K := by
  have h2 := h.1
  have : f * 1 ≤ f * k := Nat.mul_le_mul_left _ h0
  omega
theorem PowRel.le2 {a K e f k : Nat} (h : PowRel a K e f k) : e ≤ K := by have := h.1; omega
theorem PowRel.done {a K e f : Nat} (h : PowRel a K e f 0) : e = K := by have := h.1; omega

theorem pow_len {a K e : Nat} (h : e ≤ K) : (dig B32 (a ^ e)).length ≤ K * (dig B32 a).length + 1 := by
  refine Nat.le_trans (dig_len_pow_le B32_two a e) ?_
  have := Nat.mul_le_mul_right (dig B32 a).length h
  omega

set_option maxHeartbeats 1000000 in
theorem pow_any (p : Option Addr) (n c : Nat) (a K : Nat) (w : World) (hp : Rd w .u32 p (dig B32 a)) (hn : n = (dig B32 a).length) (hK : K ≤ 1000) (hl : (dig B32 a).length ≤ 100000) :
    Calls Try.prog 49 #[.slice p n c, .int .i64 K] w (Gives w .u32 26 (dig B32 (a ^ K))) := by
  subst hn
  have hKl : K * (dig B32 a).length + 1 ≤ 100000001 := by have := Nat.mul_le_mul hK hl; omega
  have PL : ∀ e, e ≤ K → (dig B32 (a ^ e)).length ≤ 100000001 := fun e he => Nat.le_trans (pow_len he) hKl
  have PL := Lib.hid PL
  have E1 := Lib.hid (show dig B32 1 = dig B32 (a ^ 0) by rw [Nat.pow_zero])
  have E2 := Lib.hid (show dig B32 a = dig B32 (a ^ 1) by rw [Nat.pow_one])
  have hp1 : Rd w .u32 p (dig B32 (a ^ 1)) := by rw [Nat.pow_one]; exact hp
  go_enter Try.func49, Try.ntmps49
  go_wp2_with fail
  refine (of_any 1 _ (by omega)).mono ?_
  rw [E1.out, E2.out]
  rintro e w1 ⟨po, co, rfl, hoo, hb1⟩
  go_wp2_with fail
  go_loopw [0, 1, 5] (fun av kv ov wr => ∃ (e f k : Nat) (pa : Option Addr) (ca : Nat) (po : Option Addr) (co : Nat), kv = .int .i64 k ∧ av = .slice pa (dig B32 (a ^ f)).length ca ∧ ov = .slice po (dig B32 (a ^ e)).length co ∧ k ≤ K ∧
      Rd wr .u32 pa (dig B32 (a ^ f)) ∧ Own wr w.heap.size .u32 26 po co (dig B32 (a ^ e)) ∧ Below w.heap.size w wr ∧ Hid (PowRel a K e f k))
    (fun _ kv _ _ => (intOf kv).toNat)
  case atStart => exact ⟨0, 1, K, p, c, po, co, rfl, (by rw [Nat.pow_one]), rfl, Nat.le_refl _, hp1.past hb1, hoo, hb1, PowRel.start a K⟩
  case round =>
    obtain ⟨e, f, k, pa, ca, po, co, rfl, rfl, rfl, hk, hra, hoo, hb, HR⟩ := hrel
    by_cases h0 : 0 < k
    · have hef := HR.out.le h0
      have l1 := PL.out e (by omega)
      have l2 := PL.out f (by omega)
      by_cases h1 : k % 2 = 1
      · have hbit : bits BinOp.and IntKind.i64 (k : Int) 1 = 1 := by rw [i64_and1]; omega
        have eef := Lib.hid (show a ^ e * a ^ f = a ^ (e + f) from (Nat.pow_add _ _ _).symm)
        by_cases h2 : 1 < k
        · have HS := Lib.hid (HR.out.odd h1)
          have eff := Lib.hid (show a ^ f * a ^ f = a ^ (f + f) from (Nat.pow_add _ _ _).symm)
          clear h1
          go_wp2_with fail
          refine (mul_any po pa _ _ co ca (a ^ e) (a ^ f) _ hoo.rd hra rfl rfl (by omega)).mono ?_
          rw [eef.out]
          rintro e w2 ⟨p2, c2, rfl, ho2, hb2⟩
          have hra := hra.past hb2
          have hb2 := hb.trans (hb2.mono hb.size)
          go_wp2_with fail
          refine (mul_any pa pa _ _ ca ca (a ^ f) (a ^ f) _ hra hra rfl rfl (by omega)).mono ?_
          rw [eff.out]
          rintro e w3 ⟨p3, c3, rfl, ho3, hb3⟩
          have ho2 := (ho2.past hb3).mono hb.size
          have hb3 := hb2.trans (hb3.mono hb2.size)
          go_wp2_with fail
          go_roundw
          case rel => exact ⟨_, _, k / 2, p3, c3, p2, c2, by go_num, rfl, rfl, by omega, ho3.rd, ho2, hb3, HS⟩
          case measure => simp [intOf]; omega
        · have HS := Lib.hid (HR.out.one (by omega))
          clear h1
          go_wp2_with fail
          refine (mul_any po pa _ _ co ca (a ^ e) (a ^ f) _ hoo.rd hra rfl rfl (by omega)).mono ?_
          rw [eef.out]
          rintro e w2 ⟨p2, c2, rfl, ho2, hb2⟩
          have hra := hra.past hb2
          have hb2 := hb.trans (hb2.mono hb.size)
          go_wp2_with fail
          go_roundw
          case rel => exact ⟨_, _, k / 2, pa, ca, p2, c2, by go_num, rfl, rfl, by omega, hra, ho2.mono hb.size, hb2, HS⟩
          case measure => simp [intOf]; omega
      · have hbit : bits BinOp.and IntKind.i64 (k : Int) 1 = 0 := by rw [i64_and1]; omega
        have HS := Lib.hid (HR.out.even h0 (by omega))
        have eff := Lib.hid (show a ^ f * a ^ f = a ^ (f + f) from (Nat.pow_add _ _ _).symm)
        have h2 : 1 < k := by omega
        clear h1
        go_wp2_with fail
        refine (mul_any pa pa _ _ ca ca (a ^ f) (a ^ f) _ hra hra rfl rfl (by omega)).mono ?_
        rw [eff.out]
        rintro e w3 ⟨p3, c3, rfl, ho3, hb3⟩
        have hoo := hoo.past hb3
        have hb3 := hb.trans (hb3.mono hb.size)
        go_wp2_with fail
        go_roundw
        case rel => exact ⟨_, _, k / 2, p3, c3, po, co, by go_num, rfl, rfl, by omega, ho3.rd, hoo, hb3, HS⟩
        case measure => simp [intOf]; omega
    · obtain rfl : k = 0 := by omega
      go_wp2_with fail
      go_ret
      rw [← HR.out.done]
      exact ⟨po, co, rfl, hoo, hb⟩

/-- What Root leaves. -/
def RootG (w : World) (a k : Nat) (en : Ending) (w' : World) : Prop :=
  ∃ r, r ^ k ≤ a ∧ a < (r + 1) ^ k ∧ ∃ p c, en = .returned (.slice p (dig B32 r).length c) ∧ Own w' w.heap.size .u32 26 p c (dig B32 r) ∧ Below w.heap.size w w'

/-- The same, with an errno beside it. -/
def RootE (w : World) (a k : Nat) (en : Ending) (w' : World) : Prop :=
  ∃ r, r ^ k ≤ a ∧ a < (r + 1) ^ k ∧ ∃ p c, en = .returned (.tuple #[.slice p (dig B32 r).length c, .int .i64 0]) ∧ Own w' w.heap.size .u32 26 p c (dig B32 r) ∧ Below w.heap.size w w'

theorem dig_len_two (N : Nat) : (dig B32 (2 ^ N)).length = N / 32 + 1 := by
  rw [← pow2_dig (B := B32) (w := 32) (by decide) (by omega) N]; simp

theorem blen_le_len (a : Nat) : blen a ≤ 32 * (dig B32 a).length := by
  rw [blen_le, Nat.pow_mul]
  exact (dig_len_le B32_two a _).1 (Nat.le_refl _)

set_option maxHeartbeats 1000000 in
set_option maxRecDepth 100000 in
theorem root_zero (p : Option Addr) (n c : Nat) (k : Nat) (w : World) (hn : n = 0) (hk : 1 ≤ k) :
    Calls Try.prog 31 #[.slice p n c, .int .i64 k] w (RootG w 0 k) := by
  subst hn
  have h1 := Lib.hid (show 0 ^ k ≤ 0 by rw [Nat.zero_pow hk]; exact Nat.le_refl _)
  have h2 := Lib.hid (show 0 < (0 + 1) ^ k from Nat.pow_pos (by omega))
  go_enter Try.func31, Try.ntmps31
  go_wp2_with fail
  refine (clone_any p 0 c [] _ (Rd.nil _ _ _) rfl (by simp)).mono ?_
  rintro e w2 ⟨p2, c2, rfl, ho2, hb2⟩
  go_wp2_with fail
  go_ret
  exact ⟨0, h1.out, h2.out, p2, c2, by rw [dig_zero]; rfl, by rw [dig_zero]; exact ho2, hb2⟩

set_option maxHeartbeats 1000000 in
set_option maxRecDepth 100000 in
theorem root_one (p : Option Addr) (n c : Nat) (a : Nat) (w : World) (hp : Rd w .u32 p (dig B32 a)) (hn : n = (dig B32 a).length) (hl : (dig B32 a).length ≤ 10000) (h0 : 0 < (dig B32 a).length) :
    Calls Try.prog 31 #[.slice p n c, .int .i64 1] w (RootG w a 1) := by
  subst hn
  have h1 := Lib.hid (show a ^ 1 ≤ a by rw [Nat.pow_one]; exact Nat.le_refl _)
  have h2 := Lib.hid (show a < (a + 1) ^ 1 by rw [Nat.pow_one]; omega)
  have t1 : (((dig B32 a).length : Int) == 0) = false := beq_eq_false_iff_ne.2 (by omega)
  go_enter Try.func31, Try.ntmps31
  go_wp2_with fail
  refine (clone_any p _ c _ _ hp rfl (by omega)).mono ?_
  rintro e w2 ⟨p2, c2, rfl, ho2, hb2⟩
  go_wp2_with fail
  go_ret
  exact ⟨a, h1.out, h2.out, p2, c2, rfl, ho2, hb2⟩

set_option maxHeartbeats 2000000 in
set_option maxRecDepth 100000 in
theorem root_more (p : Option Addr) (n c : Nat) (a k kk : Nat) (w : World) (hp : Rd w .u32 p (dig B32 a)) (hn : n = (dig B32 a).length) (hl : (dig B32 a).length ≤ 10000) (h0 : 0 < (dig B32 a).length) (hk : 2 ≤ k) (hk2 : k ≤ 1000) (hkk : k = kk + 1) :
    Calls Try.prog 31 #[.slice p n c, .int .i64 k] w (RootG w a k) := by
  subst hn
  have ha : 0 < a := by
    have := dig_len_zero B32_two a
    omega
  have HA := Lib.hid ha
  have t1 : (((dig B32 a).length : Int) == 0) = false := beq_eq_false_iff_ne.2 (by omega)
  have t2 : ((k : Int) == 1) = false := beq_eq_false_iff_ne.2 (by omega)
  have hbl := blen_le_len a
  obtain ⟨N, hN⟩ : ∃ N, N = (blen a + k - 1) / k := ⟨_, rfl⟩
  have hN1 : blen a ≤ N * (kk + 1) := by
    rw [← hkk, hN]
    have := lt_succ_div (blen a + k - 1) k (by omega)
    rw [Nat.add_mul, Nat.one_mul] at this
    omega
  have hN2 : N ≤ blen a + k := by rw [hN]; exact Nat.le_trans (Nat.div_le_self _ _) (by omega)
  have eN : ((blen a : Int) + (k : Int) - 1) / (k : Int) = (N : Nat) := by
    rw [hN, show (blen a : Int) + (k : Int) - 1 = ((blen a + k - 1 : Nat) : Int) by omega]; rfl
  have HN := Lib.hid (root_start N hN1)
  rw [← hkk] at HN
  have ek : (k : Int) - 1 = (kk : Nat) := by omega
  have hkk1 : kk ≤ 1000 := by omega
  have LB : (dig B32 (2 ^ N)).length ≤ 11033 := by have := dig_len_two N; omega
  have HK := Lib.hid hkk
  have k0 : (0 : Int) ≤ (blen a : Int) + (k : Int) - 1 := by omega
  have k1 : (1 : Int) ≤ (k : Int) := by omega
  have hN3 : N ≤ 1000000000 := by omega
  have E1 := Lib.hid (Nat.one_mul (2 ^ N))
  clear hN hN1 hkk ha
  go_enter Try.func31, Try.ntmps31
  go_wp2_with fail
  refine (of_any 1 _ (by omega)).mono ?_
  rintro e w1 ⟨p1, c1, rfl, ho1, hb1⟩
  go_wp2_with fail
  refine (len_any p _ c a _ (hp.past hb1) rfl (by omega)).mono ?_
  rintro e w2 ⟨rfl, rfl⟩
  go_wp2_with fail
  refine (shl_any p1 _ c1 1 N _ ho1.rd rfl (by have := (dig_len_le B32_two 1 1).2 (by unfold B32; omega); omega) hN3).mono ?_
  rw [E1.out]
  rintro e w3 ⟨p3, c3, rfl, ho3, hb3⟩
  have hs3 := hb1.trans (hb3.mono hb1.size)
  have ho3 := ho3.mono hb1.size
  clear hb1 hb3 ho1 eN k0
  go_wp2_with fail
  go_loopg [5] (2 ^ N) (fun g xv wr => ∃ (X : Nat) (px : Option Addr) (cx : Nat), X = g ∧ xv = .slice px (dig B32 X).length cx ∧ Own wr w.heap.size .u32 26 px cx (dig B32 X) ∧ Below w.heap.size w wr ∧ Hid (a < (X + 1) ^ k ∧ X ≤ 2 ^ N))
  case atStart => exact ⟨2 ^ N, p3, c3, rfl, rfl, ho3, hs3, ⟨HN.out, Nat.le_refl _⟩⟩
  case round =>
    obtain ⟨X, px, cx, rfl, rfl, hox, hb, HR⟩ := hrel
    have hX : 0 < X := by
      rcases Nat.eq_zero_or_pos X with h | h
      · have h2 := HR.out.1
        have h3 := HA.out
        rw [h, Nat.zero_add, Nat.one_pow] at h2
        omega
      · exact h
    have lx : (dig B32 X).length ≤ 11033 := Nat.le_trans (dig_len_mono B32_two HR.out.2) LB
    have HXP := Lib.hid (show 0 < X ^ kk from Nat.pow_pos hX)
    have lxp : (dig B32 (X ^ kk)).length ≤ 100000000 := by
      have h1 := dig_len_pow_le B32_two X kk
      have h2 := Nat.mul_le_mul hkk1 lx
      omega
    obtain ⟨q, hq⟩ : ∃ q, q = a / X ^ kk := ⟨_, rfl⟩
    have lq : (dig B32 q).length ≤ 10000 := by rw [hq]; exact Nat.le_trans (dig_len_mono B32_two (Nat.div_le_self _ _)) hl
    have HQ := Lib.hid hq
    obtain ⟨y, hy⟩ : ∃ y, y = (X * kk + q) / k := ⟨_, rfl⟩
    have HY := Lib.hid hy
    have hy2 : y = (X * kk + a / X ^ kk) / (kk + 1) := by rw [hy, hq, HK.out]
    have HAB := Lib.hid (newton_above hX hy2)
    have HST := Lib.hid (fun h : X ≤ y => newton_stop hX hy2 h)
    rw [← HK.out] at HAB HST
    have lk : (dig B32 kk).length ≤ 1 := (dig_len_le B32_two kk 1).2 (by unfold B32; omega)
    have lm : (dig B32 (X * kk)).length ≤ 11034 := by have := dig_len_mul B32_two X kk; omega
    have ls : (dig B32 (X * kk + q)).length ≤ 100000 := by have := dig_len_add B32_two (X * kk) q; omega
    have ly : (dig B32 y).length ≤ 100000 := by rw [hy]; exact Nat.le_trans (dig_len_mono B32_two (Nat.div_le_self _ _)) ls
    clear hy hy2 hq
    go_wp2_with fail
    refine (pow_any px _ cx X kk _ hox.rd rfl hkk1 (by omega)).mono ?_
    rintro e w4 ⟨p4, c4, rfl, ho4, hb4⟩
    have hs4 := hb.trans (hb4.mono hb.size)
    have hox4 := hox.past hb4
    go_wp2_with fail
    refine (limbDiv_any p p4 _ _ c c4 a (X ^ kk) _ (hp.past hs4) ho4.rd rfl rfl (by omega) lxp HXP.out).mono ?_
    rw [← HQ.out]
    rintro e w5 ⟨p5, c5, q5, d5, rfl, ho5, -, hb5, -⟩
    have hs5 := hs4.trans (hb5.mono hs4.size)
    have hox5 := hox4.past hb5
    clear hox hox4 hb4 hb5 hs4 ho4
    go_wp2_with fail
    refine (of_any kk _ (by omega)).mono ?_
    rintro e w6 ⟨p6, c6, rfl, ho6, hb6⟩
    have hs6 := hs5.trans (hb6.mono hs5.size)
    have hox6 := hox5.past hb6
    have hq6 := ho5.rd.past hb6
    clear hox5 hb6 hs5 ho5
    go_wp2_with fail
    refine (mul_any px p6 _ _ cx c6 X kk _ hox6.rd ho6.rd rfl rfl (by omega)).mono ?_
    rintro e w7 ⟨p7, c7, rfl, ho7, hb7⟩
    have hs7 := hs6.trans (hb7.mono hs6.size)
    have hox7 := hox6.past hb7
    have hq7 := hq6.past hb7
    clear hox6 hb7 hs6 hq6 ho6
    go_wp2_with fail
    refine (add_any p7 p5 _ _ c7 c5 (X * kk) q _ ho7.rd hq7 rfl rfl (by omega) (by omega)).mono ?_
    rintro e w8 ⟨p8, c8, rfl, ho8, hb8⟩
    have hs8 := hs7.trans (hb8.mono hs7.size)
    have hox8 := hox7.past hb8
    clear hox7 hb8 hs7 hq7 ho7
    go_wp2_with fail
    refine (small_any p8 _ c8 (X * kk + q) k _ ho8.rd rfl (by omega) (by omega) (by omega)).mono ?_
    rw [← HY.out]
    rintro e w9 ⟨p9, c9, rfl, ho9, hb9⟩
    have hs9 := hs8.trans (hb9.mono hs8.size)
    have hox9 := hox8.past hb9
    have hsz8 := hs8.size
    clear hox8 hb9 ho8
    go_wp2_with fail
    refine (cmp_any p9 px _ _ c9 cx y X _ ho9.rd hox9.rd rfl rfl (by omega) (by omega)).mono ?_
    rintro e w10 ⟨rfl, hb10⟩
    have hs10 := hs9.trans (hb10.mono hs9.size)
    have hox10 := hox9.past hb10
    have hoy10 := ho9.past hb10
    clear hox9 hb10 hs9 ho9
    by_cases hyx : X ≤ y
    · have hC : 0 ≤ cmpN y X := by unfold cmpN; rw [if_neg (by omega)]; split <;> omega
      have H1 := Lib.hid (HST.out hyx)
      have H2 := Lib.hid HR.out.1
      go_wp2_with fail
      go_ret
      exact ⟨X, H1.out, H2.out, px, cx, rfl, hox10, hs10⟩
    · have hC : cmpN y X ≤ -1 := by rw [cmpN_lt (by omega)]; omega
      have hlt : y < X := by omega
      clear hyx
      have hle := Lib.hid (show y ≤ 2 ^ N from Nat.le_trans (Nat.le_of_lt hlt) HR.out.2)
      go_wp2_with fail
      go_roundg y
      case measure => omega
      case rel => exact ⟨y, p9, c9, rfl, rfl, hoy10.mono hsz8, hs10, ⟨HAB.out, hle.out⟩⟩

theorem limbRoot_any (p : Option Addr) (n c : Nat) (a k : Nat) (w : World) (hp : Rd w .u32 p (dig B32 a)) (hn : n = (dig B32 a).length) (hl : (dig B32 a).length ≤ 10000) (hk : 1 ≤ k) (hk2 : k ≤ 1000) :
    Calls Try.prog 31 #[.slice p n c, .int .i64 k] w (RootG w a k) := by
  by_cases h0 : (dig B32 a).length = 0
  · have e := (dig_len_zero B32_two a).1 h0
    subst e
    exact root_zero p n c k w (by omega) hk
  · by_cases h1 : k = 1
    · subst h1
      exact root_one p n c a w hp hn hl (by omega)
    · exact root_more p n c a k (k - 1) w hp hn hl (by omega) (by omega) hk2 (by omega)

end Go.Proofs.Ytlegnbigddhmlaa
