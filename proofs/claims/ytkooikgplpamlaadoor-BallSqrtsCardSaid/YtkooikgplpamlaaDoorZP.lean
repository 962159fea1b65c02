/- The reference DOver, of numbers by what they are.
   The references: RootOf of squares, DRoot.
   The reference DRoot.
   The reference DRoot, of numbers by what they are. -/
import Derived.Test.YtkooikgplpamlaaDoorZRBa5
import Derived.Test.YtkooikgplpamlaaDoorZL
import Derived.Test.YtkooikgplpamlaaDoorZJ
import Derived.Test.YtkooikgplpamlaaDoorZA
import Derived.Test.YtkooikgplpamlaaDoorZR
import Derived.Test.YtkooikgplpamlaaDoorZRef10
import Derived.Test.YtkooikgplpamlaaDoorZK
import Derived.Deep.LoopGhost
namespace Go.Proofs.YtkooikgplpamlaaDoor
open Go.RowKit Go.Slip

theorem sm_of {x : Rw} {d : Dv} (e : x.v = d) (h : SmD d) : Sm x := by subst e; exact ⟨h.len, h.lo, h.hi⟩

theorem doverG_any (x y : Rw) (n : Int) (base base' : Nat) (up : Bool) (a c d : Dv) (w : World) (ex : x.v = a) (ey : y.v = c) (hx : InF w base x) (hy : InF w base' y) (sa : SmD a) (sc : SmD c) (hB : Bare a) (h0 : 0 < c.m) (hn : 0 ≤ n) (hn2 : n ≤ 5000) (e : rOver a c n.toNat up = d) :
    Calls Tryd.prog 22 #[.agg #[.bool x.g, .slice x.p (dig B16 x.m).length x.c, .int .i64 x.e], .agg #[.bool y.g, .slice y.p (dig B16 y.m).length y.c, .int .i64 y.e], .int .i64 n, .bool up] w (GivesFW w w.heap.size d) := by
  have s1 := sm_of ex sa
  have s2 := sm_of ey sc
  subst ex ey e
  have h := doverF_any x y n.toNat base base' up w hx hy s1 s2 hB h0 (by omega)
  rw [show ((n.toNat : Nat) : Int) = n by omega] at h
  exact h

theorem overEnds {a b a' b' : Dv} (ha : Bare a) (hb : Bare b) (sa : SmD a) (sb : SmD b) (sa' : SmD a') (sb' : SmD b') (h1 : 0 < a'.m) (h2 : 0 < b'.m) (n : Int) (hn : n ≤ 4096) :
    ∃ dl dh, overL a b a' b' n = rCut dl n.toNat false ∧ overH a b a' b' n = rCut dh n.toNat true ∧ (dig B16 (rCut dl n.toNat false).m).length ≤ 100000000 ∧ (dig B16 (rCut dh n.toNat true).m).length ≤ 100000000 ∧
      ∃ p1 p2 p3 p4 r1 r2 r3 r4 zl zh, rOver a a' n.toNat false = p1 ∧ rOver a b' n.toNat false = p2 ∧ rOver b a' n.toNat false = p3 ∧ rOver b b' n.toNat false = p4 ∧ rOver a a' n.toNat true = r1 ∧ rOver a b' n.toNat true = r2 ∧ rOver b a' n.toNat true = r3 ∧ rOver b b' n.toNat true = r4 ∧
        rLow p1 [p2, p3, p4] = dl ∧ rHigh p1 [p2, p3, p4] = zh ∧ rLow r1 [r2, r3, r4] = zl ∧ rHigh r1 [r2, r3, r4] = dh := by
  have B := fun (x y : Dv) (u : Bool) => rOver_bare x y n.toNat u
  have hl : ∀ u, ∀ x ∈ [rOver a b' n.toNat u, rOver b a' n.toNat u, rOver b b' n.toNat u], Bare x := fun u => three_of (P := Bare) (B _ _ _) (B _ _ _) (B _ _ _)
  have k2 : Bare (rLow (rOver a a' n.toNat false) [rOver a b' n.toNat false, rOver b a' n.toNat false, rOver b b' n.toNat false]) := by
    rw [← low_eq _ _ (B _ _ _) (hl false)]
    exact (low_bare (B _ _ _) (hl false)).1
  have k3 : Bare (rHigh (rOver a a' n.toNat true) [rOver a b' n.toNat true, rOver b a' n.toNat true, rOver b b' n.toNat true]) := by
    rw [← high_eq _ _ (B _ _ _) (hl true)]
    exact (low_bare (B _ _ _) (hl true)).2
  have eL : overL a b a' b' n = rCut (rLow (rOver a a' n.toNat false) [rOver a b' n.toNat false, rOver b a' n.toNat false, rOver b b' n.toNat false]) n.toNat false := by
    unfold overL; rw [pOver_eq ha h1, pOver_eq ha h2, pOver_eq hb h1, pOver_eq hb h2, low_eq _ _ (B _ _ _) (hl false), pCut_eq k2]
  have eH : overH a b a' b' n = rCut (rHigh (rOver a a' n.toNat true) [rOver a b' n.toNat true, rOver b a' n.toNat true, rOver b b' n.toNat true]) n.toNat true := by
    unfold overH; rw [pOver_eq ha h1, pOver_eq ha h2, pOver_eq hb h1, pOver_eq hb h2, high_eq _ _ (B _ _ _) (hl true), pCut_eq k3]
  have l1 := len16 (overL_len (n := n) hn sa sb sa' sb')
  have l2 := len16 (overH_len (n := n) hn sa sb sa' sb')
  rw [eL] at l1
  rw [eH] at l2
  exact ⟨_, _, eL, eH, l1, l2, _, _, _, _, _, _, _, _, _, _, rfl, rfl, rfl, rfl, rfl, rfl, rfl, rfl, rfl, rfl, rfl, rfl⟩

end Go.Proofs.YtkooikgplpamlaaDoor

namespace Go.Proofs.YtkooikgplpamlaaDoor
open Go.RowKit Go.Slip

set_option maxHeartbeats 4000000 in
set_option maxRecDepth 100000 in
theorem refRootOf_any (p : Option Addr) (n c : Nat) (a : Nat) (w : World) (hp : Rd w .i64 p (dig B16 a)) (hn : n = (dig B16 a).length) (hl : (dig B16 a).length ≤ 1000000) (h0 : 0 < a) :
    Calls Tryd.prog 77 #[.slice p n c, .int .i64 2] w (GivesR w .i64 (dig B16 (isq a))) := by
  subst hn
  have hla := dig_len_zero B16_two a
  have t1 : decide (0 < (dig B16 a).length) = true := decide_eq_true (by omega)
  have HLN := fun W h => Lib.hid (refLen_any p _ c a W h rfl (by omega))
  have hbl : blen a ≤ 16000000 := by have := blen_len16 a; omega
  have HH := Lib.hid (half_root (a := a))
  obtain ⟨N, hN⟩ : ∃ N, N = (blen a + 1) / 2 := ⟨_, rfl⟩
  have hNb : N ≤ 10000000 := by omega
  rw [← hN] at HH
  have eN : ((blen a : Int) + 1) / 2 = (N : Int) := by omega
  have hbn : (0 : Int) ≤ (blen a : Int) := by omega
  generalize blen a = bl at *
  have HN := Lib.hid hN
  clear hN hla
  have HPW := fun W => Lib.hid (refPow2_any N W (by omega))
  have LB : (dig B16 (2 ^ N)).length ≤ 700000 := by
    have h2 : (dig B16 (2 ^ N)).length = N / 16 + 1 := by
      rw [← pow2_dig (B := B16) (w := 16) (by decide) (by omega) N]; simp
    omega
  go_enter Tryd.func77, Tryd.ntmps77
  go_wp2_with fail
  ((with_reducible refine (((HLN _ hp).out)).mono ?_))
  rintro _ _ ⟨rfl, rfl⟩
  go_wp2_with fail
  ((with_reducible refine (HPW _).out.mono ?_))
  rintro e3 w3 ⟨p3, c3, rfl, hr3, hc3, hf3, hb3⟩
  have hs3 := hb3
  clear HPW HLN eN hbn
  go_wp2_with fail
  go_loopg [5] (2 ^ N) (fun g xv wr => ∃ (X : Nat) (px : Option Addr) (cx : Nat), X = g ∧ xv = .slice px (dig B16 X).length cx ∧ Rd wr .i64 px (dig B16 X) ∧ (dig B16 X).length ≤ cx ∧ (0 < (dig B16 X).length → w.heap.size ≤ blk px) ∧ Below w.heap.size w wr ∧ Hid (a < (X + 1) ^ 2 ∧ X ≤ 2 ^ N))
  case atStart => exact ⟨2 ^ N, p3, c3, rfl, rfl, hr3, hc3, hf3, hs3, ⟨HH.out, Nat.le_refl _⟩⟩
  case round =>
    obtain ⟨X, px, cx, rfl, rfl, hrx, hcx, hfx, hb, HR⟩ := hrel
    have hX : 0 < X := by
      rcases Nat.eq_zero_or_pos X with h | h
      · have h2 := HR.out.1
        rw [h, Nat.zero_add, Nat.one_pow] at h2
        omega
      · exact h
    have lx : (dig B16 X).length ≤ 700000 := Nat.le_trans (dig_len_mono B16_two HR.out.2) LB
    obtain ⟨q, hq⟩ : ∃ q, q = a / X := ⟨_, rfl⟩
    have lq : (dig B16 q).length ≤ 1000000 := by rw [hq]; exact Nat.le_trans (dig_len_mono B16_two (Nat.div_le_self _ _)) hl
    have HQ := Lib.hid hq
    obtain ⟨y, hy⟩ : ∃ y, y = (X + q) / 2 := ⟨_, rfl⟩
    have HY := Lib.hid (show (X + q) / 2 ^ 1 = y from hy.symm)
    have hy2 : y = (X * 1 + a / X ^ 1) / (1 + 1) := by rw [hy, hq, Nat.pow_one, Nat.mul_one]
    have HAB := Lib.hid (newton_above hX hy2)
    have HST := Lib.hid (fun h : X ≤ y => newton_stop hX hy2 h)
    have ls : (dig B16 (X + q)).length ≤ 1700002 := by have := dig_len_add B16_two X q; omega
    have ly : (dig B16 y).length ≤ 1700002 := by rw [hy]; exact Nat.le_trans (dig_len_mono B16_two (Nat.div_le_self _ _)) ls
    have HDN := fun W p c h => Lib.hid (show Calls Tryd.prog 98 #[.slice p (dig B16 (X + q)).length c, .int .i64 1] W (GivesR W .i64 (dig B16 y)) by have h := refDown_any p _ c (X + q) 1 W h rfl (by omega) (by omega); rw [HY.out] at h; exact h)
    clear hy hy2 hq
    have hs0 := hb
    go_wp2_with fail
    ((with_reducible refine (refInto_all p px _ _ c cx a X _ (hp.past hb) hrx rfl rfl (by omega) (by omega) hX).mono ?_))
    rw [← HQ.out]
    rintro e4 w4 ⟨p4, c4, q4, d4, rfl, hr4, hc4, hf4, -, -, -, hb4⟩
    have hs4 := hs0.trans (hb4.mono hs0.size)
    have hrx4 := hrx.past hb4
    go_wp2_with fail
    ((with_reducible refine (refPlus_any px p4 _ _ cx c4 X q _ hrx4 hr4 rfl rfl (by omega)).mono ?_))
    rintro e5 w5 ⟨p5, c5, rfl, hr5, hc5, hf5, hb5⟩
    have hs5 := hs4.trans (hb5.mono hs4.size)
    have hrx5 := hrx4.past hb5
    go_wp2_with fail
    ((with_reducible refine (HDN _ _ _ hr5).out.mono ?_))
    rintro e6 w6 ⟨p6, c6, rfl, hr6, hc6, hf6, hb6⟩
    have hs6 := hs5.trans (hb6.mono hs5.size)
    have hrx6 := hrx5.past hb6
    have z0 := hs0.size
    have z4 := hs4.size
    have z5 := hs5.size
    go_wp2_with fail
    have hcb := cmpN_bd y X
    have hcs : 0 ≤ cmpN y X ↔ X ≤ y := by unfold cmpN; split <;> (try split) <;> omega
    ((with_reducible refine (refCmp_any p6 px _ _ c6 cx y X _ hr6 hrx6 rfl rfl (by omega) (by omega)).mono ?_))
    generalize cmpN y X = cm at *
    rintro e7 w7 ⟨rfl, hb7⟩
    have hs7 := hs6.trans (hb7.mono hs6.size)
    by_cases hxy : X ≤ y
    · have t2 : decide (0 ≤ cm) = true := decide_eq_true (hcs.2 hxy)
      have HE := Lib.hid (isq_is (HST.out hxy) HR.out.1)
      go_wp2
      go_ret
      rw [HE.out]
      exact ⟨px, cx, rfl, hrx6.past hb7, hcx, hfx, hs7⟩
    · have t2 : decide (0 ≤ cm) = false := decide_eq_false (fun h => hxy (hcs.1 h))
      have hyb := HR.out.2
      have hlt : y < X := by omega
      have hle := Lib.hid (show y ≤ 2 ^ N from Nat.le_trans (Nat.le_of_lt hlt) HR.out.2)
      clear hxy hyb
      go_wp2_with fail
      go_roundg y
      case measure => omega
      case rel => exact ⟨y, p6, c6, rfl, rfl, hr6.past hb7, hc6, fun h => Nat.le_trans z5 (hf6 h), hs7, ⟨HAB.out, hle.out⟩⟩

theorem rRoot_bd {a : Dv} (b : Nat) (up : Bool) (hb : b ≤ 5000) (hal : (dig B32 a.m).length ≤ 1300) (ha1 : -100000 ≤ a.e) (ha2 : a.e ≤ 100000) : FitF (rRoot a b up) := by
  obtain ⟨h1, h2, h3⟩ := rRoot_bd32 b up hb hal ha1 ha2
  have := B16_len32 (rRoot a b up).m
  exact ⟨by omega, by omega, by omega⟩

end Go.Proofs.YtkooikgplpamlaaDoor

namespace Go.Proofs.YtkooikgplpamlaaDoor
open Go.RowKit Go.Slip



set_option maxHeartbeats 8000000 in
set_option maxRecDepth 100000 in
theorem drootF_any (x : Rw) (b base : Nat) (up : Bool) (w : World) (hx : InF w base x) (sx : Sm x) (hb : b ≤ 5000) :
    Calls Tryd.prog 36 #[.agg #[.bool x.g, .slice x.p (dig B16 x.m).length x.c, .int .i64 x.e], .int .i64 b, .bool up] w (GivesFW w w.heap.size (rRoot x.v b up)) := by
  have HFit := Lib.hid (rRoot_bd (a := x.v) b up hb sx.len sx.lo sx.hi)
  have HJ := Lib.hid (show rRoot x.v b up = if x.m = 0 then zeroD else rCut (bare (stickyR x.m (evenN x.e (2 * b + 8)) (isq (x.m * 2 ^ evenN x.e (2 * b + 8))) 2 x.e)) b up from rfl)
  generalize rRoot x.v b up = ro at *
  by_cases h0 : x.m = 0
  · have HK := Lib.hid (HJ.out.trans (if_pos h0))
    have hl0 : (dig B16 x.m).length = 0 := by rw [h0, dig_zero]; rfl
    have t1 : (((dig B16 x.m).length : Int) == 0) = true := by rw [hl0]; rfl
    clear HJ h0 hl0
    go_enter Tryd.func36, Tryd.ntmps36
    go_upto_region 1 with (fail)
    refine wp_lay2 (fun W1 hb1 hz1 A R => ?_)
    have hs1 := hb1
    obtain ⟨A_0, A_1, A_2⟩ := A.e3
    obtain ⟨R_0, R_1, R_2⟩ := R.e3
    have R_f0 := R.f 0
    have R_f1 := R.f 1
    have R_f2 := R.f 2
    go_wp2_with fail
    clear A_0 A_1 A_2 R_0 R_1 R_2 R_f0 R_f1 R_f2
    obtain ⟨R_0, R_1, R_2⟩ := R.e3
    refine bodyPost_ret (v := .agg #[.bool false, .slice none 0 0, .int .i64 0]) (by simp [results, Tryd.results36, go_sem, R_0, R_1, R_2]) rfl ?_
    have hO := only3 W1 (w.heap.size + 1) (.bool false) (.slice none 0 0) (.int .i64 0)
    exact ⟨⟨false, none, 0, 0, 0⟩, HK.out.symm, by simp only [dig_zero]; rfl, ⟨by simp only [dig_zero]; exact Rd.nil _ _ _, by simp [dig_zero], by simp [dig_zero], by simp, by simp, by simp [dig_zero]⟩, hs1.trans (hO.below (by omega))⟩
  · have hl0 : 0 < (dig B16 x.m).length := by have := dig_len_zero B16_two x.m; omega
    have t1 : (((dig B16 x.m).length : Int) == 0) = false := beq_eq_false_iff_ne.2 (by omega)
    have HK := Lib.hid (HJ.out.trans (if_neg h0))
    have hm0 : 0 < x.m := by omega
    clear HJ h0 hl0
    have sx1 := sx.len
    have sx2 := sx.lo
    have sx3 := sx.hi
    have l16 := B16_len32 x.m
    have hev := evenN_if x.e (2 * b + 8)
    have HE0 := Lib.hid (evenN_even x.e (2 * b + 8))
    obtain ⟨N, hN⟩ : ∃ N, evenN x.e (2 * b + 8) = N := ⟨_, rfl⟩
    rw [hN] at HK hev HE0
    have hNb : N ≤ 2 * b + 9 := by split at hev <;> omega
    clear hN
    have HK := Lib.hid (HK.out.trans (show rCut (bare (stickyR x.m N (isq (x.m * 2 ^ N)) 2 x.e)) b up = rCut (bare ⟨false, 2 ^ 2 * isq (x.m * 2 ^ N) + (if isq (x.m * 2 ^ N) * isq (x.m * 2 ^ N) ≠ x.m * 2 ^ N then 1 else 0), (x.e - N) / 2 - 2⟩) b up from rfl))
    have HUP := fun W h => Lib.hid (refUp_any x.p _ x.c x.m N W h rfl (by omega) (by omega))
    have lXN : (dig B32 (x.m * 2 ^ N)).length ≤ 1700 := by have := len_shl x.m N; omega
    have hXN0 : 0 < x.m * 2 ^ N := Nat.mul_pos hm0 (Nat.pow_pos (by omega))
    generalize x.m * 2 ^ N = XN at *
    have lXN16 := B16_len32 XN
    have HRT := fun W p c h => Lib.hid (refRootOf_any p _ c XN W h rfl (by omega) hXN0)
    have hrt := isq_root XN
    have hrle : isq XN ≤ XN := by
      rcases Nat.eq_zero_or_pos (isq XN) with h | h
      · omega
      · exact Nat.le_trans (Nat.le_mul_of_pos_right _ h) hrt.1
    have lR : (dig B32 (isq XN)).length ≤ 1700 := Nat.le_trans (dig_len_mono B32_two hrle) lXN
    clear hrt hrle
    generalize isq XN = RT at *
    have lR16 := B16_len32 RT
    have d1 : (dig B16 4).length = 1 := by rw [dig_small B16_two (by omega) (by decide)]; rfl
    have HTM := fun W p c h1 q d (h2 : Bx W q #[.int .i64 4]) => Lib.hid (refTimes_any p (some ⟨q, 0, none⟩) (dig B16 RT).length 1 c d RT 4 W h1 (by
      rw [dig_small B16_two (by omega) (by decide)]
      refine ⟨fun _ => ⟨rfl, rfl⟩, fun j hj => ?_⟩
      obtain rfl : j = 0 := by simp at hj; omega
      exact h2.e1) rfl d1.symm (by omega))
    clear d1
    have HQQ := fun W p c h => Lib.hid (refTimes_any p p _ _ c c RT RT W h h rfl rfl (by omega))
    have lRR : (dig B16 (RT * RT)).length ≤ 20000 := by have := dig_len_mul B16_two RT RT; omega
    have HCM := fun W p c h1 q d h2 => Lib.hid (refCmp_any p q _ _ c d (RT * RT) XN W h1 h2 rfl rfl (by omega) (by omega))
    rw [show 2 ^ 2 * RT = RT * 4 from Nat.mul_comm _ _] at HK
    have lM : (dig B32 (RT * 4)).length ≤ 1702 := by
      refine Nat.le_trans (dig_len_mul B32_two _ _) ?_
      have : (dig B32 4).length ≤ 1 := (dig_len_le B32_two 4 1).2 (by decide)
      omega
    generalize RT * 4 = Q4 at *
    have lM16 := B16_len32 Q4
    have o1 : (dig B16 1).length = 1 := by rw [dig_small B16_two (by omega) (by decide)]; rfl
    have HPL := fun W p c h1 q d h2 => Lib.hid (refPlus_any p q (dig B16 Q4).length 1 c d Q4 1 W h1 h2 rfl o1.symm (by omega))
    have lM1 : (dig B16 (Q4 + 1)).length ≤ 3800 := by have := dig_len_add B16_two Q4 1; omega
    have lM2 : (dig B32 (Q4 + 1)).length ≤ 1704 := by have := dig_len_add B32_two Q4 1; have : (dig B32 1).length ≤ 1 := (dig_len_le B32_two 1 1).2 (by decide); omega
    clear o1
    obtain ⟨E2, hE2⟩ : ∃ E2, (x.e - (N : Int)) / 2 = E2 := ⟨_, rfl⟩
    rw [hE2] at HK
    have hE2b : -100000 ≤ E2 ∧ E2 ≤ 100000 := by omega
    have HE2 := Lib.hid hE2
    clear hE2
    obtain ⟨E, hE⟩ : ∃ E, E2 - 2 = E := ⟨_, rfl⟩
    rw [hE] at HK
    have hEb : -100100 ≤ E ∧ E ≤ 100100 := by omega
    have HEE := Lib.hid hE
    clear hE
    by_cases hpar : (x.e + ((2 * b + 8 : Nat) : Int)) % 2 = 0
    · rw [if_pos hpar] at hev
      have eN : 2 * (b : Int) + 8 = (N : Int) := by omega
      have t2 : ((x.e + (N : Int)).tmod 2 != 0) = false := by rw [tmod2, hev, hpar]; rfl
      clear hev hpar
      go_enter Tryd.func36, Tryd.ntmps36
      go_upto_region 1 with (fail)
      refine wp_lay2 (fun W1 hb1 hz1 A R => ?_)
      replace hx := hx.past hb1
      have hs1 := hb1
      obtain ⟨A_0, A_1, A_2⟩ := A.e3
      go_upto_region 6 with (fail)
      clear A_0 A_1 A_2
      clear eN t2
      obtain ⟨A_0, A_1, A_2⟩ := A.e3
      go_wp2_with fail
      clear A_0 A_1 A_2
      ((with_reducible refine (HUP _ hx.rd).out.mono ?_))
      rintro e2 w2 ⟨p2, c2, rfl, hr2, hc2, hf2, hb2⟩
      replace A := A.past hb2
      replace R := R.past hb2
      replace hx := hx.past hb2
      have hs2 := hs1.trans (hb2.mono hs1.size)
      go_wp2_with fail
      ((with_reducible refine (HRT _ _ _ hr2).out.mono ?_))
      rintro e3 w3 ⟨p3, c3, rfl, hr3, hc3, hf3, hb3⟩
      replace A := A.past hb3
      replace R := R.past hb3
      replace hx := hx.past hb3
      replace hr2 := hr2.past hb3
      have hs3 := hs2.trans (hb3.mono hs2.size)
      go_upto_region 8 with (fail)
      have hAl := A.lt
      have hRl3 := R.lt
      have hz3 := hs3.size
      have e1 : IntKind.i64.wrap (x.e - (N : Int)) = x.e - (N : Int) := IntWalk.i64_in _ (by omega)
      have e2 : IntKind.i64.wrap ((x.e - (N : Int)).tdiv 2) = E2 := by rw [tdiv2 HE0.out, HE2.out]; exact IntWalk.i64_in _ (by omega)
      have e3 : IntKind.i64.wrap (E2 - 2) = E := by rw [HEE.out]; exact IntWalk.i64_in _ (by omega)
      have e5 : IntKind.i64.wrap E2 = E2 := IntWalk.i64_in _ (by omega)
      have e4 : (x.e - (N : Int)).tdiv 2 = E2 := by rw [tdiv2 HE0.out, HE2.out]
      go_cut [10] (fun s10 wx => ∃ (kx : Nat) (px : Option Addr) (cx : Nat), s10 = .pointer (some ⟨kx, 0, none⟩) ∧ Bx wx kx #[.bool false, .slice px (dig B16 Q4).length cx, .int .i64 E] ∧ w3.heap.size ≤ kx ∧ Rd wx .i64 px (dig B16 Q4) ∧ (dig B16 Q4).length ≤ cx ∧ (0 < (dig B16 Q4).length → w3.heap.size ≤ blk px) ∧ (0 < (dig B16 Q4).length → blk px ≠ kx) ∧ Below w3.heap.size w3 wx)
      case first =>
        obtain ⟨V0, hV0⟩ : ∃ V0, V0 = (w3).drew := ⟨_, rfl⟩
        have hbV0 : Below (w3).heap.size (w3) V0 := by rw [hV0]; exact (Below.refl _ _).drew
        have hzV0 := hbV0.size
        refine wp_region_held_drew (S := fun w' => (w'.cell? ⟨w.heap.size, 0, none⟩ = some (.bool x.g) ∧ w'.cell? ⟨w.heap.size, 1, none⟩ = some (.slice x.p (dig B16 x.m).length x.c) ∧ w'.cell? ⟨w.heap.size, 2, none⟩ = some (.int .i64 x.e))) (by kernel_rfl) (by rw [← hV0]; exact (A.past (hbV0)).e3) (fun hHeld => ?_)
        clear hHeld
        rw [← hV0]
        clear hV0
        refine wpAnyH_take (i := 0) (v := .slice p3 (dig B16 RT).length c3) rfl (by kernel_rfl) (by kernel_rfl) (by kernel_rfl) (fun _ _ _ h => h) (.inl ⟨by rfl, fun w' hSw => ?_⟩) (A.past (hbV0)).e3 ?_
        · (try dsimp only at hSw)
          first | (go_simp; done) | (go_simp; with_reducible rfl)
        try simp only [List.getElem_toArray, List.getElem_cons_zero, Act.put, List.setIfInBounds_toArray, List.set_cons_zero, List.set_cons_succ]
        refine wpAnyH_take (i := 3) (v := .pointer (some ⟨w.heap.size, 2, none⟩)) rfl (by kernel_rfl) (by kernel_rfl) (by kernel_rfl) (fun _ _ _ h => h) (.inl ⟨by rfl, fun w' hSw => ?_⟩) (A.past (hbV0)).e3 ?_
        · (try dsimp only at hSw)
          first | (go_simp; done) | (go_simp; with_reducible rfl)
        try simp only [List.getElem_toArray, List.getElem_cons_succ, List.getElem_cons_zero, Act.put, List.setIfInBounds_toArray, List.set_cons_zero, List.set_cons_succ]
        refine wpAnyH_take (i := 4) (v := .int .i64 x.e) rfl (by kernel_rfl) (by kernel_rfl) (by kernel_rfl) (fun _ _ _ h => h) (.inl ⟨by rfl, fun w' hSw => ?_⟩) (A.past (hbV0)).e3 ?_
        · (try dsimp only at hSw)
          first | (go_simp; done) | (go_simp; with_reducible rfl)
        try simp only [List.getElem_toArray, List.getElem_cons_succ, List.getElem_cons_zero, Act.put, List.setIfInBounds_toArray, List.set_cons_zero, List.set_cons_succ]
        refine wpAnyH_take (i := 5) (v := .int .i64 N) rfl (by kernel_rfl) (by kernel_rfl) (by kernel_rfl) (fun _ _ _ h => h) (.inl ⟨by rfl, fun w' hSw => ?_⟩) (A.past (hbV0)).e3 ?_
        · (try dsimp only at hSw)
          first | (go_simp; done) | (go_simp; with_reducible rfl)
        try simp only [List.getElem_toArray, List.getElem_cons_succ, List.getElem_cons_zero, Act.put, List.setIfInBounds_toArray, List.set_cons_zero, List.set_cons_succ]
        refine wpAnyH_take (i := 6) (v := .int .i64 (x.e - N)) rfl (by kernel_rfl) (by kernel_rfl) (by kernel_rfl) (fun _ _ _ h => h) (.inl ⟨by rfl, fun w' hSw => ?_⟩) (A.past (hbV0)).e3 ?_
        · (try dsimp only at hSw)
          first | (go_simp; done) | (go_simp; with_reducible rfl)
        try simp only [List.getElem_toArray, List.getElem_cons_succ, List.getElem_cons_zero, Act.put, List.setIfInBounds_toArray, List.set_cons_zero, List.set_cons_succ]
        refine wpAnyH_take (i := 7) (v := .int .i64 E2) rfl (by kernel_rfl) (by kernel_rfl) (by kernel_rfl) (fun _ _ _ h => h) (.inl ⟨by rfl, fun w' hSw => ?_⟩) (A.past (hbV0)).e3 ?_
        · (try dsimp only at hSw)
          first | (go_simp; done) | (go_simp; with_reducible rfl)
        try simp only [List.getElem_toArray, List.getElem_cons_succ, List.getElem_cons_zero, Act.put, List.setIfInBounds_toArray, List.set_cons_zero, List.set_cons_succ]
        refine wpAnyH_take (i := 8) (v := .int .i64 E) rfl (by kernel_rfl) (by kernel_rfl) (by kernel_rfl) (fun _ _ _ h => h) (.inl ⟨by rfl, fun w' hSw => ?_⟩) (A.past (hbV0)).e3 ?_
        · (try dsimp only at hSw)
          first | (go_simp; done) | (go_simp; with_reducible rfl)
        try simp only [List.getElem_toArray, List.getElem_cons_succ, List.getElem_cons_zero, Act.put, List.setIfInBounds_toArray, List.set_cons_zero, List.set_cons_succ]
        refine wpAnyH_ready (rs := [1, 10]) (by kernel_rfl) (by simp) ?_
        refine AllReadyH.cons rfl (fun K hK => ?_) ?_
        · skip
          go_simp
          refine hK.out _ _ ((A.past (hbV0)).laid _).e3 (fun _ => ?_)
          refine anyH_lay (fun V1 hbV1 hzV1 L => ?_)
          clear hK K
          try simp only [List.getElem_toArray, List.getElem_cons_succ, List.getElem_cons_zero, Act.put, List.setIfInBounds_toArray, List.set_cons_zero, List.set_cons_succ]
          refine wpAnyH_ready (rs := [2, 10]) (by kernel_rfl) (by simp) ?_
          refine AllReadyH.cons rfl (fun K hK => ?_) ?_
          · skip
            go_simp
            go_at_call 60; ((with_reducible refine ((HTM _ _ _ (hr3.past (below_thru (hbV0) hbV1)) _ _ L).out).mono ?_)); rintro exV2 V2 ⟨pz, cz, rfl, hrz, hcz, hfz, hbV2⟩
            have lhrz := fun h => hrz.lt h
            have ahrz := hfz
            have hzV2 := hbV2.size
            refine hK.out _ _ (A.past (below_thru (below_thru (hbV0) hbV1) hbV2)).e3 (fun _ => ?_)
            clear hK K
            try simp only [List.getElem_toArray, List.getElem_cons_succ, List.getElem_cons_zero, Act.put, List.setIfInBounds_toArray, List.set_cons_zero, List.set_cons_succ]
            refine wpAnyH_take (i := 9) (v := .agg #[.bool false, .slice pz (dig B16 Q4).length cz, .int .i64 E]) rfl (by kernel_rfl) (by kernel_rfl) (by kernel_rfl) (fun _ _ _ h => h) (.inl ⟨by rfl, fun w' hSw => ?_⟩) (A.past (below_thru (below_thru (hbV0) hbV1) hbV2)).e3 ?_
            · (try dsimp only at hSw)
              first | (go_simp; done) | (go_simp; with_reducible rfl)
            try simp only [List.getElem_toArray, List.getElem_cons_succ, List.getElem_cons_zero, Act.put, List.setIfInBounds_toArray, List.set_cons_zero, List.set_cons_succ]
            refine wpAnyH_ready (rs := [10]) (by kernel_rfl) (by simp) ?_
            refine AllReadyH.cons rfl (fun K hK => ?_) AllReadyH.nil
            go_simp
            refine hK.out _ _ ((A.past (below_thru (below_thru (hbV0) hbV1) hbV2)).laid _).e3 (fun _ => ?_)
            refine anyH_lay (fun V3 hbV3 hzV3 X => ?_)
            clear hK K
            try simp only [List.getElem_toArray, List.getElem_cons_succ, List.getElem_cons_zero, Act.put, List.setIfInBounds_toArray, List.set_cons_zero, List.set_cons_succ]
            refine wpAnyH_ready (rs := [11]) (by kernel_rfl) (by simp) ?_
            refine AllReadyH.cons rfl (fun K hK => ?_) AllReadyH.nil
            obtain ⟨X_0, X_1, X_2⟩ := X.e3
            have X_f0 := X.f 0
            have X_f1 := X.f 1
            have X_f2 := X.f 2
            go_simp
            clear X_0 X_1 X_2 X_f0 X_f1 X_f2
            refine hK.out _ _ ((A.past (below_thru (below_thru (below_thru (hbV0) hbV1) hbV2) hbV3)).only (only3 _ _ _ _ _) (by omega)).e3 (fun _ => ?_)
            refine anyH_put3 X (fun V4 hOV4 X => ?_)
            have hzV4 := Nat.le_of_eq hOV4.size
            have hyV4 := Nat.le_of_eq hOV4.size.symm
            clear hK K
            try simp only [List.getElem_toArray, List.getElem_cons_succ, List.getElem_cons_zero, Act.put, List.setIfInBounds_toArray, List.set_cons_zero, List.set_cons_succ]
            refine wpAnyH_done (by kernel_rfl) ?_ _
            go_wp2_with fail
            go_meet
            exact ⟨V2.heap.size, pz, cz, rfl, X, by omega, (hrz.past ((hbV3).trans (hOV4.below (by omega)))), hcz, fun h => by have := hfz h; omega, fun h => by have := hfz h; have := lhrz h; omega, ((below_thru (below_thru (below_thru (hbV0) hbV1) hbV2) hbV3).trans (hOV4.below (by omega)))⟩
          refine AllReadyH.cons rfl (fun K hK => ?_) AllReadyH.nil
          go_simp
          refine hK.out _ _ ((A.past (below_thru (hbV0) hbV1)).laid _).e3 (fun _ => ?_)
          refine anyH_lay (fun V2 hbV2 hzV2 X => ?_)
          clear hK K
          try simp only [List.getElem_toArray, List.getElem_cons_succ, List.getElem_cons_zero, Act.put, List.setIfInBounds_toArray, List.set_cons_zero, List.set_cons_succ]
          refine wpAnyH_ready (rs := [2]) (by kernel_rfl) (by simp) ?_
          refine AllReadyH.cons rfl (fun K hK => ?_) AllReadyH.nil
          go_simp
          go_at_call 60; ((with_reducible refine ((HTM _ _ _ (hr3.past (below_thru (below_thru (hbV0) hbV1) hbV2)) _ _ (L.past (hbV2))).out).mono ?_)); rintro exV3 V3 ⟨pz, cz, rfl, hrz, hcz, hfz, hbV3⟩
          have lhrz := fun h => hrz.lt h
          have ahrz := hfz
          have hzV3 := hbV3.size
          refine hK.out _ _ (A.past (below_thru (below_thru (below_thru (hbV0) hbV1) hbV2) hbV3)).e3 (fun _ => ?_)
          clear hK K
          try simp only [List.getElem_toArray, List.getElem_cons_succ, List.getElem_cons_zero, Act.put, List.setIfInBounds_toArray, List.set_cons_zero, List.set_cons_succ]
          refine wpAnyH_take (i := 9) (v := .agg #[.bool false, .slice pz (dig B16 Q4).length cz, .int .i64 E]) rfl (by kernel_rfl) (by kernel_rfl) (by kernel_rfl) (fun _ _ _ h => h) (.inl ⟨by rfl, fun w' hSw => ?_⟩) (A.past (below_thru (below_thru (below_thru (hbV0) hbV1) hbV2) hbV3)).e3 ?_
          · (try dsimp only at hSw)
            first | (go_simp; done) | (go_simp; with_reducible rfl)
          try simp only [List.getElem_toArray, List.getElem_cons_succ, List.getElem_cons_zero, Act.put, List.setIfInBounds_toArray, List.set_cons_zero, List.set_cons_succ]
          refine wpAnyH_ready (rs := [11]) (by kernel_rfl) (by simp) ?_
          refine AllReadyH.cons rfl (fun K hK => ?_) AllReadyH.nil
          replace X := (X.past (hbV3))
          obtain ⟨X_0, X_1, X_2⟩ := X.e3
          have X_f0 := X.f 0
          have X_f1 := X.f 1
          have X_f2 := X.f 2
          go_simp
          clear X_0 X_1 X_2 X_f0 X_f1 X_f2
          refine hK.out _ _ ((A.past (below_thru (below_thru (below_thru (hbV0) hbV1) hbV2) hbV3)).only (only3 _ _ _ _ _) (by omega)).e3 (fun _ => ?_)
          refine anyH_put3 X (fun V4 hOV4 X => ?_)
          have hzV4 := Nat.le_of_eq hOV4.size
          have hyV4 := Nat.le_of_eq hOV4.size.symm
          clear hK K
          try simp only [List.getElem_toArray, List.getElem_cons_succ, List.getElem_cons_zero, Act.put, List.setIfInBounds_toArray, List.set_cons_zero, List.set_cons_succ]
          refine wpAnyH_done (by kernel_rfl) ?_ _
          go_wp2_with fail
          go_meet
          exact ⟨V1.heap.size, pz, cz, rfl, X, by omega, (hrz.only hOV4 (by omega)), hcz, fun h => by have := hfz h; omega, fun h => by have := hfz h; have := lhrz h; omega, ((below_thru (below_thru (below_thru (hbV0) hbV1) hbV2) hbV3).trans (hOV4.below (by omega)))⟩
        refine AllReadyH.cons rfl (fun K hK => ?_) AllReadyH.nil
        go_simp
        refine hK.out _ _ ((A.past (hbV0)).laid _).e3 (fun _ => ?_)
        refine anyH_lay (fun V1 hbV1 hzV1 X => ?_)
        clear hK K
        try simp only [List.getElem_toArray, List.getElem_cons_succ, List.getElem_cons_zero, Act.put, List.setIfInBounds_toArray, List.set_cons_zero, List.set_cons_succ]
        refine wpAnyH_ready (rs := [1]) (by kernel_rfl) (by simp) ?_
        refine AllReadyH.cons rfl (fun K hK => ?_) AllReadyH.nil
        go_simp
        refine hK.out _ _ ((A.past (below_thru (hbV0) hbV1)).laid _).e3 (fun _ => ?_)
        refine anyH_lay (fun V2 hbV2 hzV2 L => ?_)
        clear hK K
        try simp only [List.getElem_toArray, List.getElem_cons_succ, List.getElem_cons_zero, Act.put, List.setIfInBounds_toArray, List.set_cons_zero, List.set_cons_succ]
        refine wpAnyH_ready (rs := [2]) (by kernel_rfl) (by simp) ?_
        refine AllReadyH.cons rfl (fun K hK => ?_) AllReadyH.nil
        go_simp
        go_at_call 60; ((with_reducible refine ((HTM _ _ _ (hr3.past (below_thru (below_thru (hbV0) hbV1) hbV2)) _ _ L).out).mono ?_)); rintro exV3 V3 ⟨pz, cz, rfl, hrz, hcz, hfz, hbV3⟩
        have lhrz := fun h => hrz.lt h
        have ahrz := hfz
        have hzV3 := hbV3.size
        refine hK.out _ _ (A.past (below_thru (below_thru (below_thru (hbV0) hbV1) hbV2) hbV3)).e3 (fun _ => ?_)
        clear hK K
        try simp only [List.getElem_toArray, List.getElem_cons_succ, List.getElem_cons_zero, Act.put, List.setIfInBounds_toArray, List.set_cons_zero, List.set_cons_succ]
        refine wpAnyH_take (i := 9) (v := .agg #[.bool false, .slice pz (dig B16 Q4).length cz, .int .i64 E]) rfl (by kernel_rfl) (by kernel_rfl) (by kernel_rfl) (fun _ _ _ h => h) (.inl ⟨by rfl, fun w' hSw => ?_⟩) (A.past (below_thru (below_thru (below_thru (hbV0) hbV1) hbV2) hbV3)).e3 ?_
        · (try dsimp only at hSw)
          first | (go_simp; done) | (go_simp; with_reducible rfl)
        try simp only [List.getElem_toArray, List.getElem_cons_succ, List.getElem_cons_zero, Act.put, List.setIfInBounds_toArray, List.set_cons_zero, List.set_cons_succ]
        refine wpAnyH_ready (rs := [11]) (by kernel_rfl) (by simp) ?_
        refine AllReadyH.cons rfl (fun K hK => ?_) AllReadyH.nil
        replace X := (X.past (below_thru (hbV2) hbV3))
        obtain ⟨X_0, X_1, X_2⟩ := X.e3
        have X_f0 := X.f 0
        have X_f1 := X.f 1
        have X_f2 := X.f 2
        go_simp
        clear X_0 X_1 X_2 X_f0 X_f1 X_f2
        refine hK.out _ _ ((A.past (below_thru (below_thru (below_thru (hbV0) hbV1) hbV2) hbV3)).only (only3 _ _ _ _ _) (by omega)).e3 (fun _ => ?_)
        refine anyH_put3 X (fun V4 hOV4 X => ?_)
        have hzV4 := Nat.le_of_eq hOV4.size
        have hyV4 := Nat.le_of_eq hOV4.size.symm
        clear hK K
        try simp only [List.getElem_toArray, List.getElem_cons_succ, List.getElem_cons_zero, Act.put, List.setIfInBounds_toArray, List.set_cons_zero, List.set_cons_succ]
        refine wpAnyH_done (by kernel_rfl) ?_ _
        go_wp2_with fail
        go_meet
        exact ⟨V0.heap.size, pz, cz, rfl, X, by omega, (hrz.only hOV4 (by omega)), hcz, fun h => by have := hfz h; omega, fun h => by have := hfz h; have := lhrz h; omega, ((below_thru (below_thru (below_thru (hbV0) hbV1) hbV2) hbV3).trans (hOV4.below (by omega)))⟩
      case rest =>
        obtain ⟨kx, pm, cm, rfl, X, hkx, hrm, hcm, hfm, hnm, hb4⟩ := hcut
        clear e1 e2 e3 e4 e5 HTM HUP HRT
        replace A := A.past hb4
        replace R := R.past hb4
        replace hx := hx.past hb4
        replace hr2 := hr2.past hb4
        replace hr3 := hr3.past hb4
        have hs4 := hs3.trans (hb4.mono hs3.size)
        obtain ⟨w4, hw4⟩ : ∃ w4, w4 = wc := ⟨_, rfl⟩
        subst hw4
        have hz4 := hb4.size
        have hXl := X.lt
        go_wp2_with fail
        ((with_reducible refine (HQQ _ _ _ hr3).out.mono ?_))
        rintro e5 w5 ⟨p5, c5, rfl, hr5, hc5, hf5, hb5⟩
        have hr5 := hr5
        replace R := R.past hb5
        replace X := X.past hb5
        replace hrm := hrm.past hb5
        replace hr2 := hr2.past hb5
        replace hr3 := hr3.past hb5
        have hs5 := hs4.trans (hb5.mono hs4.size)
        go_wp2_with fail
        ((with_reducible refine (HCM _ _ _ hr5 _ _ hr2).out.mono ?_))
        rintro e6 w6 ⟨rfl, hb6⟩
        replace R := R.past hb6
        replace X := X.past hb6
        replace hrm := hrm.past hb6
        replace hr2 := hr2.past hb6
        replace hr3 := hr3.past hb6
        replace hr5 := hr5.past hb6
        have hs6 := hs5.trans (hb6.mono hs5.size)
        have hz6 := hs6.size
        have hX6 := X.lt
        by_cases hex : RT * RT = XN
        · have t3 : (cmpN (RT * RT) XN != 0) = false := by unfold cmpN; simp [hex]
          have HM := Lib.hid (HK.out.trans (show rCut (bare ⟨false, Q4 + (if RT * RT ≠ XN then 1 else 0), E⟩) b up = rCut (bare ⟨false, Q4, E⟩) b up by rw [if_neg (by simpa using hex), Nat.add_zero]))
          clear hex HK HQQ HCM
          generalize cmpN (RT * RT) XN = cq at *
          go_upto_region 11 with (fail)
          obtain ⟨r0, hr0⟩ : ∃ r0, bare ⟨false, Q4, E⟩ = r0 := ⟨_, rfl⟩
          have hq1 := bare_len B16_two ⟨false, Q4, E⟩
          have hq2 := bare_e ⟨false, Q4, E⟩ (n := 2810) (by simp only; omega) (lo := -300000) (hi := 200000) (by simp only; omega) (by simp only; omega) (by omega) (by omega)
          rw [hr0] at hq1 hq2
          simp only at hq1
          have HMM := fun p c => Lib.hid (show rCut (Rw.v ⟨r0.neg, p, c, r0.m, r0.e⟩) b up = ro by rw [HM.out, hr0]; rfl)
          have HFF := fun p c => Lib.hid (show FitF (rCut (Rw.v ⟨r0.neg, p, c, r0.m, r0.e⟩) b up) by rw [(HMM p c).out]; exact HFit.out)
          have hRW := R.lt
          have HRR := Lib.hid hr0
          clear hr0 HM
          obtain ⟨X_0, X_1, X_2⟩ := X.e3
          go_wp2_with fail
          clear X_0 X_1 X_2
          ((with_reducible refine ((refBared_any false pm _ cm E (Q4) _ (hrm) rfl (by omega) (by omega))).mono ?_))
          rintro e8 w8 ⟨p8, c8, rfl, hr8, hc8, hf8, hb8⟩
          replace R := R.past hb8
          replace X := X.past hb8
          replace hrm := hrm.past hb8
          have hs8 := hs6.trans (hb8.mono hs6.size)
          rw [HRR.out] at hr8 hc8 hf8 ⊢
          go_wp2_with fail
          have hRX : w.heap.size + 1 + 1 ≤ w8.heap.size := R.lt
          ((with_reducible refine ((dcutF_any ⟨r0.neg, p8, c8, r0.m, r0.e⟩ (w.heap.size + 1 + 1) b up _ ⟨hr8, hc8, by simp only; omega, by simp only; omega, by simp only; omega, fun h => by (rcases hf8 h with h | h; (exact h.elim); (simp only; omega))⟩ (by omega) hRX (HFF _ _).out)).mono ?_))
          rintro e9 w9 ⟨r9, hr9, rfl, hf9, hb9⟩
          replace R := R.past hb9
          replace X := X.past hb9
          replace hrm := hrm.past hb9
          have hs9 := hs8.trans (hb9.mono hs8.size)
          have HR9 := Lib.hid (hr9.trans (HMM _ _).out)
          clear hr9
          obtain ⟨R_0, R_1, R_2⟩ := R.e3
          have R_f0 := R.f 0
          have R_f1 := R.f 1
          have R_f2 := R.f 2
          go_wp2_with fail
          clear R_0 R_1 R_2 R_f0 R_f1 R_f2
          obtain ⟨R_0, R_1, R_2⟩ := R.e3
          refine bodyPost_ret (v := .agg #[.bool r9.g, .slice r9.p (dig B16 r9.m).length r9.c, .int .i64 r9.e]) (by simp [results, Tryd.results36, go_sem, R_0, R_1, R_2]) rfl ?_
          have hO := only3 w9 (w.heap.size + 1) (.bool r9.g) (.slice r9.p (dig B16 r9.m).length r9.c) (.int .i64 r9.e)
          exact ⟨r9, HR9.out, rfl, (hf9.only hO (fun h => by have := hf9.at_ h; omega)).mono (by omega), hs9.trans (hO.below (by omega))⟩
        · have t3 : (cmpN (RT * RT) XN != 0) = true := by unfold cmpN; split <;> (try split) <;> simp_all <;> omega
          have HM := Lib.hid (HK.out.trans (show rCut (bare ⟨false, Q4 + (if RT * RT ≠ XN then 1 else 0), E⟩) b up = rCut (bare ⟨false, Q4 + 1, E⟩) b up by rw [if_pos hex]))
          clear hex HK HQQ HCM
          generalize cmpN (RT * RT) XN = cq at *
          go_upto_region 10 with (fail)
          obtain ⟨X_0, X_1, X_2⟩ := X.e3
          go_wp2_with fail
          clear X_0 X_1 X_2
          refine calls_lay1 (fun W15 hb15 hz15 L => ?_)
          replace R := R.past hb15
          replace X := X.past hb15
          replace hrm := hrm.past hb15
          have hs15 := hs6.trans (hb15.mono hs6.size)
          ((with_reducible refine (HPL _ pm cm hrm _ 1 (rd_lit16 L)).out.mono ?_))
          rintro e16 w16 ⟨p6, c6, rfl, hr6, hc6, hf6, hb16⟩
          replace R := R.past hb16
          replace X := X.past hb16
          have hs16 := hs15.trans (hb16.mono hs15.size)
          have zz5 := hb15.size
          have zz6 := hb16.size
          obtain ⟨X_0, X_1, X_2⟩ := X.e3
          have X_f0 := X.f 0
          have X_f1 := X.f 1
          have X_f2 := X.f 2
          go_upto_region 11 with (fail)
          clear X_0 X_1 X_2 X_f0 X_f1 X_f2
          refine wp_put1of3 X (fun W7 hO7 X => ?_)
          replace R := R.only hO7 (by omega)
          replace hr6 := hr6.only hO7 (fun h => by have := hf6 h; omega)
          have hs7 := hs16.trans (hO7.below (B := w.heap.size) (by omega))
          obtain ⟨r0, hr0⟩ : ∃ r0, bare ⟨false, Q4 + 1, E⟩ = r0 := ⟨_, rfl⟩
          have hq1 := bare_len B16_two ⟨false, Q4 + 1, E⟩
          have hq2 := bare_e ⟨false, Q4 + 1, E⟩ (n := 2810) (by simp only; omega) (lo := -300000) (hi := 200000) (by simp only; omega) (by simp only; omega) (by omega) (by omega)
          rw [hr0] at hq1 hq2
          simp only at hq1
          have HMM := fun p c => Lib.hid (show rCut (Rw.v ⟨r0.neg, p, c, r0.m, r0.e⟩) b up = ro by rw [HM.out, hr0]; rfl)
          have HFF := fun p c => Lib.hid (show FitF (rCut (Rw.v ⟨r0.neg, p, c, r0.m, r0.e⟩) b up) by rw [(HMM p c).out]; exact HFit.out)
          have hRW := R.lt
          have HRR := Lib.hid hr0
          clear hr0 HM
          obtain ⟨X_0, X_1, X_2⟩ := X.e3
          go_wp2_with fail
          clear X_0 X_1 X_2
          ((with_reducible refine ((refBared_any false p6 _ c6 E (Q4 + 1) _ (hr6) rfl (by omega) (by omega))).mono ?_))
          rintro e8 w8 ⟨p8, c8, rfl, hr8, hc8, hf8, hb8⟩
          replace R := R.past hb8
          replace X := X.past hb8
          replace hr6 := hr6.past hb8
          have hs8 := hs7.trans (hb8.mono hs7.size)
          rw [HRR.out] at hr8 hc8 hf8 ⊢
          go_wp2_with fail
          have hRX : w.heap.size + 1 + 1 ≤ w8.heap.size := R.lt
          ((with_reducible refine ((dcutF_any ⟨r0.neg, p8, c8, r0.m, r0.e⟩ (w.heap.size + 1 + 1) b up _ ⟨hr8, hc8, by simp only; omega, by simp only; omega, by simp only; omega, fun h => by (rcases hf8 h with h | h; (exact h.elim); (simp only; omega))⟩ (by omega) hRX (HFF _ _).out)).mono ?_))
          rintro e9 w9 ⟨r9, hr9, rfl, hf9, hb9⟩
          replace R := R.past hb9
          replace X := X.past hb9
          replace hr6 := hr6.past hb9
          have hs9 := hs8.trans (hb9.mono hs8.size)
          have HR9 := Lib.hid (hr9.trans (HMM _ _).out)
          clear hr9
          obtain ⟨R_0, R_1, R_2⟩ := R.e3
          have R_f0 := R.f 0
          have R_f1 := R.f 1
          have R_f2 := R.f 2
          go_wp2_with fail
          clear R_0 R_1 R_2 R_f0 R_f1 R_f2
          obtain ⟨R_0, R_1, R_2⟩ := R.e3
          refine bodyPost_ret (v := .agg #[.bool r9.g, .slice r9.p (dig B16 r9.m).length r9.c, .int .i64 r9.e]) (by simp [results, Tryd.results36, go_sem, R_0, R_1, R_2]) rfl ?_
          have hO := only3 w9 (w.heap.size + 1) (.bool r9.g) (.slice r9.p (dig B16 r9.m).length r9.c) (.int .i64 r9.e)
          exact ⟨r9, HR9.out, rfl, (hf9.only hO (fun h => by have := hf9.at_ h; omega)).mono (by omega), hs9.trans (hO.below (by omega))⟩
    · rw [if_neg hpar] at hev
      obtain ⟨N0, hN0⟩ : ∃ N0, N0 = 2 * b + 8 := ⟨_, rfl⟩
      rw [← hN0] at hpar hev
      have eN : 2 * (b : Int) + 8 = (N0 : Int) := by omega
      have eN1 : (N0 : Int) + 1 = (N : Int) := by omega
      have t2 : ((x.e + (N0 : Int)).tmod 2 != 0) = true := by rw [tmod2, decide_eq_false hpar]; rfl
      have hN0b : N0 ≤ 10008 := by omega
      clear hev hpar hN0
      go_enter Tryd.func36, Tryd.ntmps36
      go_upto_region 1 with (fail)
      refine wp_lay2 (fun W1 hb1 hz1 A R => ?_)
      replace hx := hx.past hb1
      have hs1 := hb1
      obtain ⟨A_0, A_1, A_2⟩ := A.e3
      go_upto_region 6 with (fail)
      clear A_0 A_1 A_2
      clear eN eN1 t2
      obtain ⟨A_0, A_1, A_2⟩ := A.e3
      go_wp2_with fail
      clear A_0 A_1 A_2
      ((with_reducible refine (HUP _ hx.rd).out.mono ?_))
      rintro e2 w2 ⟨p2, c2, rfl, hr2, hc2, hf2, hb2⟩
      replace A := A.past hb2
      replace R := R.past hb2
      replace hx := hx.past hb2
      have hs2 := hs1.trans (hb2.mono hs1.size)
      go_wp2_with fail
      ((with_reducible refine (HRT _ _ _ hr2).out.mono ?_))
      rintro e3 w3 ⟨p3, c3, rfl, hr3, hc3, hf3, hb3⟩
      replace A := A.past hb3
      replace R := R.past hb3
      replace hx := hx.past hb3
      replace hr2 := hr2.past hb3
      have hs3 := hs2.trans (hb3.mono hs2.size)
      go_upto_region 8 with (fail)
      have hAl := A.lt
      have hRl3 := R.lt
      have hz3 := hs3.size
      have e1 : IntKind.i64.wrap (x.e - (N : Int)) = x.e - (N : Int) := IntWalk.i64_in _ (by omega)
      have e2 : IntKind.i64.wrap ((x.e - (N : Int)).tdiv 2) = E2 := by rw [tdiv2 HE0.out, HE2.out]; exact IntWalk.i64_in _ (by omega)
      have e3 : IntKind.i64.wrap (E2 - 2) = E := by rw [HEE.out]; exact IntWalk.i64_in _ (by omega)
      have e5 : IntKind.i64.wrap E2 = E2 := IntWalk.i64_in _ (by omega)
      have e4 : (x.e - (N : Int)).tdiv 2 = E2 := by rw [tdiv2 HE0.out, HE2.out]
      go_cut [10] (fun s10 wx => ∃ (kx : Nat) (px : Option Addr) (cx : Nat), s10 = .pointer (some ⟨kx, 0, none⟩) ∧ Bx wx kx #[.bool false, .slice px (dig B16 Q4).length cx, .int .i64 E] ∧ w3.heap.size ≤ kx ∧ Rd wx .i64 px (dig B16 Q4) ∧ (dig B16 Q4).length ≤ cx ∧ (0 < (dig B16 Q4).length → w3.heap.size ≤ blk px) ∧ (0 < (dig B16 Q4).length → blk px ≠ kx) ∧ Below w3.heap.size w3 wx)
      case first =>
        obtain ⟨V0, hV0⟩ : ∃ V0, V0 = (w3).drew := ⟨_, rfl⟩
        have hbV0 : Below (w3).heap.size (w3) V0 := by rw [hV0]; exact (Below.refl _ _).drew
        have hzV0 := hbV0.size
        refine wp_region_held_drew (S := fun w' => (w'.cell? ⟨w.heap.size, 0, none⟩ = some (.bool x.g) ∧ w'.cell? ⟨w.heap.size, 1, none⟩ = some (.slice x.p (dig B16 x.m).length x.c) ∧ w'.cell? ⟨w.heap.size, 2, none⟩ = some (.int .i64 x.e))) (by kernel_rfl) (by rw [← hV0]; exact (A.past (hbV0)).e3) (fun hHeld => ?_)
        clear hHeld
        rw [← hV0]
        clear hV0
        refine wpAnyH_take (i := 0) (v := .slice p3 (dig B16 RT).length c3) rfl (by kernel_rfl) (by kernel_rfl) (by kernel_rfl) (fun _ _ _ h => h) (.inl ⟨by rfl, fun w' hSw => ?_⟩) (A.past (hbV0)).e3 ?_
        · (try dsimp only at hSw)
          first | (go_simp; done) | (go_simp; with_reducible rfl)
        try simp only [List.getElem_toArray, List.getElem_cons_zero, Act.put, List.setIfInBounds_toArray, List.set_cons_zero, List.set_cons_succ]
        refine wpAnyH_take (i := 3) (v := .pointer (some ⟨w.heap.size, 2, none⟩)) rfl (by kernel_rfl) (by kernel_rfl) (by kernel_rfl) (fun _ _ _ h => h) (.inl ⟨by rfl, fun w' hSw => ?_⟩) (A.past (hbV0)).e3 ?_
        · (try dsimp only at hSw)
          first | (go_simp; done) | (go_simp; with_reducible rfl)
        try simp only [List.getElem_toArray, List.getElem_cons_succ, List.getElem_cons_zero, Act.put, List.setIfInBounds_toArray, List.set_cons_zero, List.set_cons_succ]
        refine wpAnyH_take (i := 4) (v := .int .i64 x.e) rfl (by kernel_rfl) (by kernel_rfl) (by kernel_rfl) (fun _ _ _ h => h) (.inl ⟨by rfl, fun w' hSw => ?_⟩) (A.past (hbV0)).e3 ?_
        · (try dsimp only at hSw)
          first | (go_simp; done) | (go_simp; with_reducible rfl)
        try simp only [List.getElem_toArray, List.getElem_cons_succ, List.getElem_cons_zero, Act.put, List.setIfInBounds_toArray, List.set_cons_zero, List.set_cons_succ]
        refine wpAnyH_take (i := 5) (v := .int .i64 N) rfl (by kernel_rfl) (by kernel_rfl) (by kernel_rfl) (fun _ _ _ h => h) (.inl ⟨by rfl, fun w' hSw => ?_⟩) (A.past (hbV0)).e3 ?_
        · (try dsimp only at hSw)
          first | (go_simp; done) | (go_simp; with_reducible rfl)
        try simp only [List.getElem_toArray, List.getElem_cons_succ, List.getElem_cons_zero, Act.put, List.setIfInBounds_toArray, List.set_cons_zero, List.set_cons_succ]
        refine wpAnyH_take (i := 6) (v := .int .i64 (x.e - N)) rfl (by kernel_rfl) (by kernel_rfl) (by kernel_rfl) (fun _ _ _ h => h) (.inl ⟨by rfl, fun w' hSw => ?_⟩) (A.past (hbV0)).e3 ?_
        · (try dsimp only at hSw)
          first | (go_simp; done) | (go_simp; with_reducible rfl)
        try simp only [List.getElem_toArray, List.getElem_cons_succ, List.getElem_cons_zero, Act.put, List.setIfInBounds_toArray, List.set_cons_zero, List.set_cons_succ]
        refine wpAnyH_take (i := 7) (v := .int .i64 E2) rfl (by kernel_rfl) (by kernel_rfl) (by kernel_rfl) (fun _ _ _ h => h) (.inl ⟨by rfl, fun w' hSw => ?_⟩) (A.past (hbV0)).e3 ?_
        · (try dsimp only at hSw)
          first | (go_simp; done) | (go_simp; with_reducible rfl)
        try simp only [List.getElem_toArray, List.getElem_cons_succ, List.getElem_cons_zero, Act.put, List.setIfInBounds_toArray, List.set_cons_zero, List.set_cons_succ]
        refine wpAnyH_take (i := 8) (v := .int .i64 E) rfl (by kernel_rfl) (by kernel_rfl) (by kernel_rfl) (fun _ _ _ h => h) (.inl ⟨by rfl, fun w' hSw => ?_⟩) (A.past (hbV0)).e3 ?_
        · (try dsimp only at hSw)
          first | (go_simp; done) | (go_simp; with_reducible rfl)
        try simp only [List.getElem_toArray, List.getElem_cons_succ, List.getElem_cons_zero, Act.put, List.setIfInBounds_toArray, List.set_cons_zero, List.set_cons_succ]
        refine wpAnyH_ready (rs := [1, 10]) (by kernel_rfl) (by simp) ?_
        refine AllReadyH.cons rfl (fun K hK => ?_) ?_
        · skip
          go_simp
          refine hK.out _ _ ((A.past (hbV0)).laid _).e3 (fun _ => ?_)
          refine anyH_lay (fun V1 hbV1 hzV1 L => ?_)
          clear hK K
          try simp only [List.getElem_toArray, List.getElem_cons_succ, List.getElem_cons_zero, Act.put, List.setIfInBounds_toArray, List.set_cons_zero, List.set_cons_succ]
          refine wpAnyH_ready (rs := [2, 10]) (by kernel_rfl) (by simp) ?_
          refine AllReadyH.cons rfl (fun K hK => ?_) ?_
          · skip
            go_simp
            go_at_call 60; ((with_reducible refine ((HTM _ _ _ (hr3.past (below_thru (hbV0) hbV1)) _ _ L).out).mono ?_)); rintro exV2 V2 ⟨pz, cz, rfl, hrz, hcz, hfz, hbV2⟩
            have lhrz := fun h => hrz.lt h
            have ahrz := hfz
            have hzV2 := hbV2.size
            refine hK.out _ _ (A.past (below_thru (below_thru (hbV0) hbV1) hbV2)).e3 (fun _ => ?_)
            clear hK K
            try simp only [List.getElem_toArray, List.getElem_cons_succ, List.getElem_cons_zero, Act.put, List.setIfInBounds_toArray, List.set_cons_zero, List.set_cons_succ]
            refine wpAnyH_take (i := 9) (v := .agg #[.bool false, .slice pz (dig B16 Q4).length cz, .int .i64 E]) rfl (by kernel_rfl) (by kernel_rfl) (by kernel_rfl) (fun _ _ _ h => h) (.inl ⟨by rfl, fun w' hSw => ?_⟩) (A.past (below_thru (below_thru (hbV0) hbV1) hbV2)).e3 ?_
            · (try dsimp only at hSw)
              first | (go_simp; done) | (go_simp; with_reducible rfl)
            try simp only [List.getElem_toArray, List.getElem_cons_succ, List.getElem_cons_zero, Act.put, List.setIfInBounds_toArray, List.set_cons_zero, List.set_cons_succ]
            refine wpAnyH_ready (rs := [10]) (by kernel_rfl) (by simp) ?_
            refine AllReadyH.cons rfl (fun K hK => ?_) AllReadyH.nil
            go_simp
            refine hK.out _ _ ((A.past (below_thru (below_thru (hbV0) hbV1) hbV2)).laid _).e3 (fun _ => ?_)
            refine anyH_lay (fun V3 hbV3 hzV3 X => ?_)
            clear hK K
            try simp only [List.getElem_toArray, List.getElem_cons_succ, List.getElem_cons_zero, Act.put, List.setIfInBounds_toArray, List.set_cons_zero, List.set_cons_succ]
            refine wpAnyH_ready (rs := [11]) (by kernel_rfl) (by simp) ?_
            refine AllReadyH.cons rfl (fun K hK => ?_) AllReadyH.nil
            obtain ⟨X_0, X_1, X_2⟩ := X.e3
            have X_f0 := X.f 0
            have X_f1 := X.f 1
            have X_f2 := X.f 2
            go_simp
            clear X_0 X_1 X_2 X_f0 X_f1 X_f2
            refine hK.out _ _ ((A.past (below_thru (below_thru (below_thru (hbV0) hbV1) hbV2) hbV3)).only (only3 _ _ _ _ _) (by omega)).e3 (fun _ => ?_)
            refine anyH_put3 X (fun V4 hOV4 X => ?_)
            have hzV4 := Nat.le_of_eq hOV4.size
            have hyV4 := Nat.le_of_eq hOV4.size.symm
            clear hK K
            try simp only [List.getElem_toArray, List.getElem_cons_succ, List.getElem_cons_zero, Act.put, List.setIfInBounds_toArray, List.set_cons_zero, List.set_cons_succ]
            refine wpAnyH_done (by kernel_rfl) ?_ _
            go_wp2_with fail
            go_meet
            exact ⟨V2.heap.size, pz, cz, rfl, X, by omega, (hrz.past ((hbV3).trans (hOV4.below (by omega)))), hcz, fun h => by have := hfz h; omega, fun h => by have := hfz h; have := lhrz h; omega, ((below_thru (below_thru (below_thru (hbV0) hbV1) hbV2) hbV3).trans (hOV4.below (by omega)))⟩
          refine AllReadyH.cons rfl (fun K hK => ?_) AllReadyH.nil
          go_simp
          refine hK.out _ _ ((A.past (below_thru (hbV0) hbV1)).laid _).e3 (fun _ => ?_)
          refine anyH_lay (fun V2 hbV2 hzV2 X => ?_)
          clear hK K
          try simp only [List.getElem_toArray, List.getElem_cons_succ, List.getElem_cons_zero, Act.put, List.setIfInBounds_toArray, List.set_cons_zero, List.set_cons_succ]
          refine wpAnyH_ready (rs := [2]) (by kernel_rfl) (by simp) ?_
          refine AllReadyH.cons rfl (fun K hK => ?_) AllReadyH.nil
          go_simp
          go_at_call 60; ((with_reducible refine ((HTM _ _ _ (hr3.past (below_thru (below_thru (hbV0) hbV1) hbV2)) _ _ (L.past (hbV2))).out).mono ?_)); rintro exV3 V3 ⟨pz, cz, rfl, hrz, hcz, hfz, hbV3⟩
          have lhrz := fun h => hrz.lt h
          have ahrz := hfz
          have hzV3 := hbV3.size
          refine hK.out _ _ (A.past (below_thru (below_thru (below_thru (hbV0) hbV1) hbV2) hbV3)).e3 (fun _ => ?_)
          clear hK K
          try simp only [List.getElem_toArray, List.getElem_cons_succ, List.getElem_cons_zero, Act.put, List.setIfInBounds_toArray, List.set_cons_zero, List.set_cons_succ]
          refine wpAnyH_take (i := 9) (v := .agg #[.bool false, .slice pz (dig B16 Q4).length cz, .int .i64 E]) rfl (by kernel_rfl) (by kernel_rfl) (by kernel_rfl) (fun _ _ _ h => h) (.inl ⟨by rfl, fun w' hSw => ?_⟩) (A.past (below_thru (below_thru (below_thru (hbV0) hbV1) hbV2) hbV3)).e3 ?_
          · (try dsimp only at hSw)
            first | (go_simp; done) | (go_simp; with_reducible rfl)
          try simp only [List.getElem_toArray, List.getElem_cons_succ, List.getElem_cons_zero, Act.put, List.setIfInBounds_toArray, List.set_cons_zero, List.set_cons_succ]
          refine wpAnyH_ready (rs := [11]) (by kernel_rfl) (by simp) ?_
          refine AllReadyH.cons rfl (fun K hK => ?_) AllReadyH.nil
          replace X := (X.past (hbV3))
          obtain ⟨X_0, X_1, X_2⟩ := X.e3
          have X_f0 := X.f 0
          have X_f1 := X.f 1
          have X_f2 := X.f 2
          go_simp
          clear X_0 X_1 X_2 X_f0 X_f1 X_f2
          refine hK.out _ _ ((A.past (below_thru (below_thru (below_thru (hbV0) hbV1) hbV2) hbV3)).only (only3 _ _ _ _ _) (by omega)).e3 (fun _ => ?_)
          refine anyH_put3 X (fun V4 hOV4 X => ?_)
          have hzV4 := Nat.le_of_eq hOV4.size
          have hyV4 := Nat.le_of_eq hOV4.size.symm
          clear hK K
          try simp only [List.getElem_toArray, List.getElem_cons_succ, List.getElem_cons_zero, Act.put, List.setIfInBounds_toArray, List.set_cons_zero, List.set_cons_succ]
          refine wpAnyH_done (by kernel_rfl) ?_ _
          go_wp2_with fail
          go_meet
          exact ⟨V1.heap.size, pz, cz, rfl, X, by omega, (hrz.only hOV4 (by omega)), hcz, fun h => by have := hfz h; omega, fun h => by have := hfz h; have := lhrz h; omega, ((below_thru (below_thru (below_thru (hbV0) hbV1) hbV2) hbV3).trans (hOV4.below (by omega)))⟩
        refine AllReadyH.cons rfl (fun K hK => ?_) AllReadyH.nil
        go_simp
        refine hK.out _ _ ((A.past (hbV0)).laid _).e3 (fun _ => ?_)
        refine anyH_lay (fun V1 hbV1 hzV1 X => ?_)
        clear hK K
        try simp only [List.getElem_toArray, List.getElem_cons_succ, List.getElem_cons_zero, Act.put, List.setIfInBounds_toArray, List.set_cons_zero, List.set_cons_succ]
        refine wpAnyH_ready (rs := [1]) (by kernel_rfl) (by simp) ?_
        refine AllReadyH.cons rfl (fun K hK => ?_) AllReadyH.nil
        go_simp
        refine hK.out _ _ ((A.past (below_thru (hbV0) hbV1)).laid _).e3 (fun _ => ?_)
        refine anyH_lay (fun V2 hbV2 hzV2 L => ?_)
        clear hK K
        try simp only [List.getElem_toArray, List.getElem_cons_succ, List.getElem_cons_zero, Act.put, List.setIfInBounds_toArray, List.set_cons_zero, List.set_cons_succ]
        refine wpAnyH_ready (rs := [2]) (by kernel_rfl) (by simp) ?_
        refine AllReadyH.cons rfl (fun K hK => ?_) AllReadyH.nil
        go_simp
        go_at_call 60; ((with_reducible refine ((HTM _ _ _ (hr3.past (below_thru (below_thru (hbV0) hbV1) hbV2)) _ _ L).out).mono ?_)); rintro exV3 V3 ⟨pz, cz, rfl, hrz, hcz, hfz, hbV3⟩
        have lhrz := fun h => hrz.lt h
        have ahrz := hfz
        have hzV3 := hbV3.size
        refine hK.out _ _ (A.past (below_thru (below_thru (below_thru (hbV0) hbV1) hbV2) hbV3)).e3 (fun _ => ?_)
        clear hK K
        try simp only [List.getElem_toArray, List.getElem_cons_succ, List.getElem_cons_zero, Act.put, List.setIfInBounds_toArray, List.set_cons_zero, List.set_cons_succ]
        refine wpAnyH_take (i := 9) (v := .agg #[.bool false, .slice pz (dig B16 Q4).length cz, .int .i64 E]) rfl (by kernel_rfl) (by kernel_rfl) (by kernel_rfl) (fun _ _ _ h => h) (.inl ⟨by rfl, fun w' hSw => ?_⟩) (A.past (below_thru (below_thru (below_thru (hbV0) hbV1) hbV2) hbV3)).e3 ?_
        · (try dsimp only at hSw)
          first | (go_simp; done) | (go_simp; with_reducible rfl)
        try simp only [List.getElem_toArray, List.getElem_cons_succ, List.getElem_cons_zero, Act.put, List.setIfInBounds_toArray, List.set_cons_zero, List.set_cons_succ]
        refine wpAnyH_ready (rs := [11]) (by kernel_rfl) (by simp) ?_
        refine AllReadyH.cons rfl (fun K hK => ?_) AllReadyH.nil
        replace X := (X.past (below_thru (hbV2) hbV3))
        obtain ⟨X_0, X_1, X_2⟩ := X.e3
        have X_f0 := X.f 0
        have X_f1 := X.f 1
        have X_f2 := X.f 2
        go_simp
        clear X_0 X_1 X_2 X_f0 X_f1 X_f2
        refine hK.out _ _ ((A.past (below_thru (below_thru (below_thru (hbV0) hbV1) hbV2) hbV3)).only (only3 _ _ _ _ _) (by omega)).e3 (fun _ => ?_)
        refine anyH_put3 X (fun V4 hOV4 X => ?_)
        have hzV4 := Nat.le_of_eq hOV4.size
        have hyV4 := Nat.le_of_eq hOV4.size.symm
        clear hK K
        try simp only [List.getElem_toArray, List.getElem_cons_succ, List.getElem_cons_zero, Act.put, List.setIfInBounds_toArray, List.set_cons_zero, List.set_cons_succ]
        refine wpAnyH_done (by kernel_rfl) ?_ _
        go_wp2_with fail
        go_meet
        exact ⟨V0.heap.size, pz, cz, rfl, X, by omega, (hrz.only hOV4 (by omega)), hcz, fun h => by have := hfz h; omega, fun h => by have := hfz h; have := lhrz h; omega, ((below_thru (below_thru (below_thru (hbV0) hbV1) hbV2) hbV3).trans (hOV4.below (by omega)))⟩
      case rest =>
        obtain ⟨kx, pm, cm, rfl, X, hkx, hrm, hcm, hfm, hnm, hb4⟩ := hcut
        clear e1 e2 e3 e4 e5 HTM HUP HRT
        replace A := A.past hb4
        replace R := R.past hb4
        replace hx := hx.past hb4
        replace hr2 := hr2.past hb4
        replace hr3 := hr3.past hb4
        have hs4 := hs3.trans (hb4.mono hs3.size)
        obtain ⟨w4, hw4⟩ : ∃ w4, w4 = wc := ⟨_, rfl⟩
        subst hw4
        have hz4 := hb4.size
        have hXl := X.lt
        go_wp2_with fail
        ((with_reducible refine (HQQ _ _ _ hr3).out.mono ?_))
        rintro e5 w5 ⟨p5, c5, rfl, hr5, hc5, hf5, hb5⟩
        have hr5 := hr5
        replace R := R.past hb5
        replace X := X.past hb5
        replace hrm := hrm.past hb5
        replace hr2 := hr2.past hb5
        replace hr3 := hr3.past hb5
        have hs5 := hs4.trans (hb5.mono hs4.size)
        go_wp2_with fail
        ((with_reducible refine (HCM _ _ _ hr5 _ _ hr2).out.mono ?_))
        rintro e6 w6 ⟨rfl, hb6⟩
        replace R := R.past hb6
        replace X := X.past hb6
        replace hrm := hrm.past hb6
        replace hr2 := hr2.past hb6
        replace hr3 := hr3.past hb6
        replace hr5 := hr5.past hb6
        have hs6 := hs5.trans (hb6.mono hs5.size)
        have hz6 := hs6.size
        have hX6 := X.lt
        by_cases hex : RT * RT = XN
        · have t3 : (cmpN (RT * RT) XN != 0) = false := by unfold cmpN; simp [hex]
          have HM := Lib.hid (HK.out.trans (show rCut (bare ⟨false, Q4 + (if RT * RT ≠ XN then 1 else 0), E⟩) b up = rCut (bare ⟨false, Q4, E⟩) b up by rw [if_neg (by simpa using hex), Nat.add_zero]))
          clear hex HK HQQ HCM
          generalize cmpN (RT * RT) XN = cq at *
          go_upto_region 11 with (fail)
          obtain ⟨r0, hr0⟩ : ∃ r0, bare ⟨false, Q4, E⟩ = r0 := ⟨_, rfl⟩
          have hq1 := bare_len B16_two ⟨false, Q4, E⟩
          have hq2 := bare_e ⟨false, Q4, E⟩ (n := 2810) (by simp only; omega) (lo := -300000) (hi := 200000) (by simp only; omega) (by simp only; omega) (by omega) (by omega)
          rw [hr0] at hq1 hq2
          simp only at hq1
          have HMM := fun p c => Lib.hid (show rCut (Rw.v ⟨r0.neg, p, c, r0.m, r0.e⟩) b up = ro by rw [HM.out, hr0]; rfl)
          have HFF := fun p c => Lib.hid (show FitF (rCut (Rw.v ⟨r0.neg, p, c, r0.m, r0.e⟩) b up) by rw [(HMM p c).out]; exact HFit.out)
          have hRW := R.lt
          have HRR := Lib.hid hr0
          clear hr0 HM
          obtain ⟨X_0, X_1, X_2⟩ := X.e3
          go_wp2_with fail
          clear X_0 X_1 X_2
          ((with_reducible refine ((refBared_any false pm _ cm E (Q4) _ (hrm) rfl (by omega) (by omega))).mono ?_))
          rintro e8 w8 ⟨p8, c8, rfl, hr8, hc8, hf8, hb8⟩
          replace R := R.past hb8
          replace X := X.past hb8
          replace hrm := hrm.past hb8
          have hs8 := hs6.trans (hb8.mono hs6.size)
          rw [HRR.out] at hr8 hc8 hf8 ⊢
          go_wp2_with fail
          have hRX : w.heap.size + 1 + 1 ≤ w8.heap.size := R.lt
          ((with_reducible refine ((dcutF_any ⟨r0.neg, p8, c8, r0.m, r0.e⟩ (w.heap.size + 1 + 1) b up _ ⟨hr8, hc8, by simp only; omega, by simp only; omega, by simp only; omega, fun h => by (rcases hf8 h with h | h; (exact h.elim); (simp only; omega))⟩ (by omega) hRX (HFF _ _).out)).mono ?_))
          rintro e9 w9 ⟨r9, hr9, rfl, hf9, hb9⟩
          replace R := R.past hb9
          replace X := X.past hb9
          replace hrm := hrm.past hb9
          have hs9 := hs8.trans (hb9.mono hs8.size)
          have HR9 := Lib.hid (hr9.trans (HMM _ _).out)
          clear hr9
          obtain ⟨R_0, R_1, R_2⟩ := R.e3
          have R_f0 := R.f 0
          have R_f1 := R.f 1
          have R_f2 := R.f 2
          go_wp2_with fail
          clear R_0 R_1 R_2 R_f0 R_f1 R_f2
          obtain ⟨R_0, R_1, R_2⟩ := R.e3
          refine bodyPost_ret (v := .agg #[.bool r9.g, .slice r9.p (dig B16 r9.m).length r9.c, .int .i64 r9.e]) (by simp [results, Tryd.results36, go_sem, R_0, R_1, R_2]) rfl ?_
          have hO := only3 w9 (w.heap.size + 1) (.bool r9.g) (.slice r9.p (dig B16 r9.m).length r9.c) (.int .i64 r9.e)
          exact ⟨r9, HR9.out, rfl, (hf9.only hO (fun h => by have := hf9.at_ h; omega)).mono (by omega), hs9.trans (hO.below (by omega))⟩
        · have t3 : (cmpN (RT * RT) XN != 0) = true := by unfold cmpN; split <;> (try split) <;> simp_all <;> omega
          have HM := Lib.hid (HK.out.trans (show rCut (bare ⟨false, Q4 + (if RT * RT ≠ XN then 1 else 0), E⟩) b up = rCut (bare ⟨false, Q4 + 1, E⟩) b up by rw [if_pos hex]))
          clear hex HK HQQ HCM
          generalize cmpN (RT * RT) XN = cq at *
          go_upto_region 10 with (fail)
          obtain ⟨X_0, X_1, X_2⟩ := X.e3
          go_wp2_with fail
          clear X_0 X_1 X_2
          refine calls_lay1 (fun W15 hb15 hz15 L => ?_)
          replace R := R.past hb15
          replace X := X.past hb15
          replace hrm := hrm.past hb15
          have hs15 := hs6.trans (hb15.mono hs6.size)
          ((with_reducible refine (HPL _ pm cm hrm _ 1 (rd_lit16 L)).out.mono ?_))
          rintro e16 w16 ⟨p6, c6, rfl, hr6, hc6, hf6, hb16⟩
          replace R := R.past hb16
          replace X := X.past hb16
          have hs16 := hs15.trans (hb16.mono hs15.size)
          have zz5 := hb15.size
          have zz6 := hb16.size
          obtain ⟨X_0, X_1, X_2⟩ := X.e3
          have X_f0 := X.f 0
          have X_f1 := X.f 1
          have X_f2 := X.f 2
          go_upto_region 11 with (fail)
          clear X_0 X_1 X_2 X_f0 X_f1 X_f2
          refine wp_put1of3 X (fun W7 hO7 X => ?_)
          replace R := R.only hO7 (by omega)
          replace hr6 := hr6.only hO7 (fun h => by have := hf6 h; omega)
          have hs7 := hs16.trans (hO7.below (B := w.heap.size) (by omega))
          obtain ⟨r0, hr0⟩ : ∃ r0, bare ⟨false, Q4 + 1, E⟩ = r0 := ⟨_, rfl⟩
          have hq1 := bare_len B16_two ⟨false, Q4 + 1, E⟩
          have hq2 := bare_e ⟨false, Q4 + 1, E⟩ (n := 2810) (by simp only; omega) (lo := -300000) (hi := 200000) (by simp only; omega) (by simp only; omega) (by omega) (by omega)
          rw [hr0] at hq1 hq2
          simp only at hq1
          have HMM := fun p c => Lib.hid (show rCut (Rw.v ⟨r0.neg, p, c, r0.m, r0.e⟩) b up = ro by rw [HM.out, hr0]; rfl)
          have HFF := fun p c => Lib.hid (show FitF (rCut (Rw.v ⟨r0.neg, p, c, r0.m, r0.e⟩) b up) by rw [(HMM p c).out]; exact HFit.out)
          have hRW := R.lt
          have HRR := Lib.hid hr0
          clear hr0 HM
          obtain ⟨X_0, X_1, X_2⟩ := X.e3
          go_wp2_with fail
          clear X_0 X_1 X_2
          ((with_reducible refine ((refBared_any false p6 _ c6 E (Q4 + 1) _ (hr6) rfl (by omega) (by omega))).mono ?_))
          rintro e8 w8 ⟨p8, c8, rfl, hr8, hc8, hf8, hb8⟩
          replace R := R.past hb8
          replace X := X.past hb8
          replace hr6 := hr6.past hb8
          have hs8 := hs7.trans (hb8.mono hs7.size)
          rw [HRR.out] at hr8 hc8 hf8 ⊢
          go_wp2_with fail
          have hRX : w.heap.size + 1 + 1 ≤ w8.heap.size := R.lt
          ((with_reducible refine ((dcutF_any ⟨r0.neg, p8, c8, r0.m, r0.e⟩ (w.heap.size + 1 + 1) b up _ ⟨hr8, hc8, by simp only; omega, by simp only; omega, by simp only; omega, fun h => by (rcases hf8 h with h | h; (exact h.elim); (simp only; omega))⟩ (by omega) hRX (HFF _ _).out)).mono ?_))
          rintro e9 w9 ⟨r9, hr9, rfl, hf9, hb9⟩
          replace R := R.past hb9
          replace X := X.past hb9
          replace hr6 := hr6.past hb9
          have hs9 := hs8.trans (hb9.mono hs8.size)
          have HR9 := Lib.hid (hr9.trans (HMM _ _).out)
          clear hr9
          obtain ⟨R_0, R_1, R_2⟩ := R.e3
          have R_f0 := R.f 0
          have R_f1 := R.f 1
          have R_f2 := R.f 2
          go_wp2_with fail
          clear R_0 R_1 R_2 R_f0 R_f1 R_f2
          obtain ⟨R_0, R_1, R_2⟩ := R.e3
          refine bodyPost_ret (v := .agg #[.bool r9.g, .slice r9.p (dig B16 r9.m).length r9.c, .int .i64 r9.e]) (by simp [results, Tryd.results36, go_sem, R_0, R_1, R_2]) rfl ?_
          have hO := only3 w9 (w.heap.size + 1) (.bool r9.g) (.slice r9.p (dig B16 r9.m).length r9.c) (.int .i64 r9.e)
          exact ⟨r9, HR9.out, rfl, (hf9.only hO (fun h => by have := hf9.at_ h; omega)).mono (by omega), hs9.trans (hO.below (by omega))⟩

end Go.Proofs.YtkooikgplpamlaaDoor

namespace Go.Slip

theorem rCut_again {d : Dv} (b : Nat) (up : Bool) (hb : 0 < b) : rCut (rCut d b up) b up = rCut d b up := by
  have h := cut_bits (a := d) (b := b) up hb
  generalize rCut d b up = r at *
  unfold rCut
  rw [if_pos h]

theorem rRoot_again {a : Dv} (b : Nat) (up : Bool) (hb : 0 < b) : rCut (rRoot a b up) b up = rRoot a b up := by
  unfold rRoot
  by_cases h : a.m = 0
  · rw [if_pos h]
    unfold rCut
    rw [if_pos (by show blen 0 ≤ b; rw [blen_zero]; omega)]
  · rw [if_neg h]
    exact rCut_again b up hb

end Go.Slip
namespace Go.Proofs.YtkooikgplpamlaaDoor
open Go.RowKit Go.Slip

theorem drootG_any (x : Rw) (n : Int) (base : Nat) (up : Bool) (a d : Dv) (w : World) (ex : x.v = a) (hx : InF w base x) (sa : SmD a) (hn : 0 ≤ n) (hn2 : n ≤ 5000) (e : rRoot a n.toNat up = d) :
    Calls Tryd.prog 36 #[.agg #[.bool x.g, .slice x.p (dig B16 x.m).length x.c, .int .i64 x.e], .int .i64 n, .bool up] w (GivesFW w w.heap.size d) := by
  have s1 := sm_of ex sa
  subst ex e
  have h := drootF_any x n.toNat base up w hx s1 (by omega)
  rw [show ((n.toNat : Nat) : Int) = n by omega] at h
  exact h

end Go.Proofs.YtkooikgplpamlaaDoor
