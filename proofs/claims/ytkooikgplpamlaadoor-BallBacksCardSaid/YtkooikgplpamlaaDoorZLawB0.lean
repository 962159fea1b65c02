/- The laws' ballBegun; the law BallChecks: its walk. -/
import Derived.Test.YtkooikgplpamlaaDoorZJ
import Derived.Test.YtkooikgplpamlaaDoorZL
import Derived.Test.YtkooikgplpamlaaDoorZLawD1
namespace Go.Slip

theorem blen_is {n k : Nat} (h1 : n < 2 ^ k) (h2 : ¬ n < 2 ^ (k - 1)) (hk : 0 < k) : blen n = k := by
  have a := (blen_le n k).2 h1
  have b : ¬ blen n ≤ k - 1 := fun h => h2 ((blen_le n (k - 1)).1 h)
  omega

theorem begun_over (up : Bool) : pOver ⟨false, 1, 0⟩ ⟨false, 3, 0⟩ 2 up = if up then ⟨false, 3, -3⟩ else ⟨false, 1, -2⟩ := by
  unfold pOver
  rw [if_neg (by simp)]
  simp only [blen_is (n := 3) (k := 2) (by decide) (by decide) (by decide), blen_is (n := 1) (k := 1) (by decide) (by decide) (by decide)]
  have h1 : stickyQ (xor false false) 1 3 (2 + 2 + 2 - 1) 1 (0 - 0) = ⟨false, 21, -6⟩ := by unfold stickyQ; rfl
  rw [h1, bare_of (d := ⟨false, 21, -6⟩) (.inl rfl)]
  unfold pCut
  simp only [blen_is (n := 21) (k := 5) (by decide) (by decide) (by decide)]
  rw [if_neg (by omega)]
  cases up
  · have : (⟨false, 21 / 2 ^ (5 - 2) + (if false ≠ false then 1 else 0), -6 + ((5 - 2 : Nat) : Int)⟩ : Dv) = ⟨false, 1 * 2 ^ 1, -3⟩ := rfl
    rw [this, bare_shift, bare_of (.inl rfl)]
    rfl
  · have : (⟨false, 21 / 2 ^ (5 - 2) + (if true ≠ false then 1 else 0), -6 + ((5 - 2 : Nat) : Int)⟩ : Dv) = ⟨false, 3, -3⟩ := rfl
    rw [this, bare_of (.inl rfl)]
    rfl

theorem pCmp_self {a : Dv} (ha : Bare a) : pCmp a a = 0 := by
  rw [rCmp_eq ha ha, rCmp_zOf a a (Int.le_refl _) (Int.le_refl _)]; simp

theorem low_same {a : Dv} (ha : Bare a) : lowD a [a, a, a] = a := by
  have h := pCmp_self ha
  simp [lowD, h]
theorem high_same {a : Dv} (ha : Bare a) : highD a [a, a, a] = a := by
  have h := pCmp_self ha
  simp [highD, h]

theorem begun_ends : overL ⟨false, 1, 0⟩ ⟨false, 1, 0⟩ ⟨false, 3, 0⟩ ⟨false, 3, 0⟩ 2 = ⟨false, 1, -2⟩ ∧ overH ⟨false, 1, 0⟩ ⟨false, 1, 0⟩ ⟨false, 3, 0⟩ ⟨false, 3, 0⟩ 2 = ⟨false, 3, -3⟩ := by
  have h2 : (2 : Int).toNat = 2 := rfl
  constructor
  · unfold overL
    rw [h2, begun_over]
    simp only [Bool.false_eq_true, if_false]
    rw [low_same (.inl rfl)]
    unfold pCut
    simp only [blen_is (n := 1) (k := 1) (by decide) (by decide) (by decide)]
    rw [if_pos (by omega)]
  · unfold overH
    rw [h2, begun_over]
    simp only [if_true]
    rw [high_same (.inl rfl)]
    unfold pCut
    simp only [blen_is (n := 3) (k := 2) (by decide) (by decide) (by decide)]
    rw [if_pos (by omega)]

end Go.Slip
namespace Go.Proofs.YtkooikgplpamlaaDoor
open Go.RowKit Go.Slip

theorem dig_of_lt {k : Nat} (h0 : 0 < k) (h : k < 4294967296) : dig B32 k = [k] := by rw [dig_pos B32_two h0, show k / B32 = 0 by unfold B32; omega, dig_zero, show k % B32 = k by unfold B32; omega]

theorem errD_lit {g : Bool} {m : Nat} {e : Int} (h : (dig B32 m).length ≤ 1) (h1 : -20000 ≤ e) (h2 : e ≤ 20000) : errD ⟨g, m, e⟩ = 0 := by
  unfold errD
  rw [if_neg (by simp only; omega), if_neg (by simp only; omega)]

theorem begun_div (p1 p2 p3 p4 : Option Addr) : divE 2 ⟨false, p1, 1, [1], 0⟩ ⟨false, p2, 1, [1], 0⟩ ⟨false, p3, 1, [3], 0⟩ ⟨false, p4, 1, [3], 0⟩ = 0 ∧ divL 2 ⟨false, p1, 1, [1], 0⟩ ⟨false, p2, 1, [1], 0⟩ ⟨false, p3, 1, [3], 0⟩ ⟨false, p4, 1, [3], 0⟩ = ⟨false, 1, -2⟩ ∧ divH 2 ⟨false, p1, 1, [1], 0⟩ ⟨false, p2, 1, [1], 0⟩ ⟨false, p3, 1, [3], 0⟩ ⟨false, p4, 1, [3], 0⟩ = ⟨false, 3, -3⟩ := by
  have v1 := lit_v 1 p1 (by omega)
  have v2 := lit_v 1 p2 (by omega)
  have v3 := lit_v 3 p3 (by omega)
  have v4 := lit_v 3 p4 (by omega)
  have b1 : errBall ⟨false, p1, 1, [1], 0⟩ ⟨false, p2, 1, [1], 0⟩ = 0 := by
    unfold errBall errDy2
    rw [v1, v2, pCmp_self (a := ⟨false, 1, 0⟩) (.inl rfl)]
    simp [lit_ok 1 p1 (by omega), lit_ok 1 p2 (by omega)]
  have b2 : errBall ⟨false, p3, 1, [3], 0⟩ ⟨false, p4, 1, [3], 0⟩ = 0 := by
    unfold errBall errDy2
    rw [v3, v4, pCmp_self (a := ⟨false, 3, 0⟩) (.inl rfl)]
    simp [lit_ok 3 p3 (by omega), lit_ok 3 p4 (by omega)]
  have hc : errC 2 [(⟨false, p1, 1, [1], 0⟩, ⟨false, p2, 1, [1], 0⟩), (⟨false, p3, 1, [3], 0⟩, ⟨false, p4, 1, [3], 0⟩)] = 0 := by
    unfold errC
    rw [firstErrB_two]
    simp only [b1, b2, if_true]
    rw [if_neg (by omega)]
  have hd : divC 2 ⟨false, p1, 1, [1], 0⟩ ⟨false, p2, 1, [1], 0⟩ ⟨false, p3, 1, [3], 0⟩ ⟨false, p4, 1, [3], 0⟩ = 0 := by
    unfold divC
    rw [hc, v3, v4, if_pos rfl, if_neg]
    rintro ⟨h, _⟩
    have : dSign ⟨false, 3, 0⟩ = 1 := rfl
    omega
  have hb : errB ⟨false, 1, -2⟩ ⟨false, 3, -3⟩ = 0 := by
    unfold errB
    rw [errD_lit (by rw [dig_of_lt (by omega) (by omega)]; simp) (by omega) (by omega), if_pos rfl]
    exact errD_lit (by rw [dig_of_lt (by omega) (by omega)]; simp) (by omega) (by omega)
  obtain ⟨k1, k2⟩ := begun_ends
  refine ⟨?_, ?_, ?_⟩
  · unfold divE
    rw [hd, if_pos rfl, v1, v2, v3, v4, k1, k2, hb]
  · unfold divL
    rw [hd, if_pos rfl, v1, v2, v3, v4, k1, k2]
    unfold doneL
    rw [if_pos hb]
  · unfold divH
    rw [hd, if_pos rfl, v1, v2, v3, v4, k1, k2]
    unfold doneH
    rw [if_pos hb]

theorem in_lit {w : World} {b k : Nat} (hk : k < 4294967296) (h : Bx w b #[.int .u32 (k : Int)]) : InD w ⟨false, some ⟨b, 0, none⟩, 1, [k], 0⟩ :=
  ⟨⟨fun _ => ⟨rfl, rfl⟩, fun j hj => by
    obtain rfl : j = 0 := by simp at hj; omega
    exact h.e1⟩, by simp, by simp, by intro x hx; simp at hx; subst hx; unfold B32; exact hk⟩

set_option maxHeartbeats 4000000 in
set_option maxRecDepth 100000 in
theorem ballBegun_any (w : World) (hT : TabW w) :
    Calls Tryd.prog 14 #[] w fun e w' => e = .returned (.bool true) ∧ Below w.heap.size w w' := by
  have HDIV := fun (p1 p2 p3 p4 : Option Addr) W k1 k2 k3 k4 k5 => Lib.hid (show Calls Tryd.prog 17 #[.agg #[.bool false, .slice p1 1 1, .int .i64 0, .bool false, .slice p2 1 1, .int .i64 0], .agg #[.bool false, .slice p3 1 1, .int .i64 0, .bool false, .slice p4 1 1, .int .i64 0], .int .i64 2] W (GivesBE W W.heap.size ⟨false, 1, -2⟩ ⟨false, 3, -3⟩ 0) by
    have h := bDiv_any ⟨false, p1, 1, [1], 0⟩ ⟨false, p2, 1, [1], 0⟩ ⟨false, p3, 1, [3], 0⟩ ⟨false, p4, 1, [3], 0⟩ 2 W k1 k2 k3 k4 k5
    obtain ⟨e1, e2, e3⟩ := begun_div p1 p2 p3 p4
    rw [e1, e2, e3] at h
    exact h)
  have HS1 := fun (p q : Option Addr) c d W k1 k2 => Lib.hid (show Calls Tryd.prog 47 #[.agg #[.bool false, .slice p 1 c, .int .i64 (-2)], .agg #[.bool false, .slice q 1 d, .int .i64 (-2)]] W fun en w' => en = .returned (.bool true) ∧ Below W.heap.size W w' by
    have h := refSameDyad_dec false false p q 1 c 1 d (-2) (-2) 1 1 W k1 k2 (by rw [dig_of_lt (by omega) (by omega)]; rfl) (by rw [dig_of_lt (by omega) (by omega)]; rfl) (by rw [dig_of_lt (by omega) (by omega)]; simp) (by rw [dig_of_lt (by omega) (by omega)]; simp)
    simp only [decide_true] at h
    exact h)
  have HS2 := fun (p q : Option Addr) c d W k1 k2 => Lib.hid (show Calls Tryd.prog 47 #[.agg #[.bool false, .slice p 1 c, .int .i64 (-3)], .agg #[.bool false, .slice q 1 d, .int .i64 (-3)]] W fun en w' => en = .returned (.bool true) ∧ Below W.heap.size W w' by
    have h := refSameDyad_dec false false p q 1 c 1 d (-3) (-3) 3 3 W k1 k2 (by rw [dig_of_lt (by omega) (by omega)]; rfl) (by rw [dig_of_lt (by omega) (by omega)]; rfl) (by rw [dig_of_lt (by omega) (by omega)]; simp) (by rw [dig_of_lt (by omega) (by omega)]; simp)
    simp only [decide_true] at h
    exact h)
  have HG1 := Lib.hid (dig_of_lt (show 0 < 1 by omega) (show 1 < 4294967296 by omega))
  have HG3 := Lib.hid (dig_of_lt (show 0 < 3 by omega) (show 3 < 4294967296 by omega))
  go_enter Tryd.func14, Tryd.ntmps14
  go_upto_region 2 with (fail)
  refine wp_lay3 (fun W1 hb1 hz1 N1 N2 O => ?_)
  replace hT := hT.past hb1
  have hs1 := hb1
  go_upto_region 3 with (fail)
  refine wp_lay3 (fun W2 hb2 hz2 N3 N4 T => ?_)
  replace N1 := N1.past hb2
  replace N2 := N2.past hb2
  replace O := O.past hb2
  replace hT := hT.past hb2
  have hs2 := hs1.trans (hb2.mono hs1.size)
  obtain ⟨O_0, O_1, O_2, O_3, O_4, O_5⟩ := O.e6
  obtain ⟨T_0, T_1, T_2, T_3, T_4, T_5⟩ := T.e6
  go_wp2_with fail
  clear O_0 O_1 O_2 O_3 O_4 O_5 T_0 T_1 T_2 T_3 T_4 T_5
  ((with_reducible refine (HDIV _ _ _ _ _ (in_lit (k := 1) (by omega) N1) (in_lit (k := 1) (by omega) N2) (in_lit (k := 3) (by omega) N3) (in_lit (k := 3) (by omega) N4) hT).out.mono ?_))
  rintro e3 w3 ⟨p3, c3, q3, d3, rfl, ho3, hq3, hb3⟩
  simp only [HG1.out, HG3.out, List.length_cons, List.length_nil, Nat.zero_add]
  have hs3 := hs2.trans (hb3.mono hs2.size)
  go_upto_region 4 with (fail)
  refine wp_lay1 (fun W4 hb4 hz4 Z => ?_)
  replace ho3 := ho3.past hb4
  replace hq3 := hq3.past hb4
  have hs4 := hs3.trans (hb4.mono hs3.size)
  obtain ⟨Z_0, Z_1, Z_2, Z_3, Z_4, Z_5⟩ := Z.e6
  go_wp2_with fail
  clear Z_0 Z_1 Z_2 Z_3 Z_4 Z_5
  refine calls_lay1 (fun W5 hb5 hz5 L1 => ?_)
  replace Z := Z.past hb5
  replace ho3 := ho3.past hb5
  replace hq3 := hq3.past hb5
  have hs5 := hs4.trans (hb5.mono hs4.size)
  ((with_reducible refine ((HS1 p3 _ c3 _ _ ho3.rd (by rw [HG1.out]; exact (in_lit (k := 1) (by omega) L1).rd)).out).mono ?_))
  rintro e6 w6 ⟨rfl, hb6⟩
  replace Z := Z.past hb6
  replace L1 := L1.past hb6
  replace ho3 := ho3.past hb6
  replace hq3 := hq3.past hb6
  have hs6 := hs5.trans (hb6.mono hs5.size)
  obtain ⟨Z_0, Z_1, Z_2, Z_3, Z_4, Z_5⟩ := Z.e6
  go_wp2_with fail
  clear Z_0 Z_1 Z_2 Z_3 Z_4 Z_5
  refine calls_lay1 (fun W7 hb7 hz7 L3 => ?_)
  replace Z := Z.past hb7
  replace L1 := L1.past hb7
  replace ho3 := ho3.past hb7
  replace hq3 := hq3.past hb7
  have hs7 := hs6.trans (hb7.mono hs6.size)
  ((with_reducible refine ((HS2 q3 _ d3 _ _ hq3.rd (by rw [HG3.out]; exact (in_lit (k := 3) (by omega) L3).rd)).out).mono ?_))
  rintro e8 w8 ⟨rfl, hb8⟩
  replace Z := Z.past hb8
  replace L1 := L1.past hb8
  replace L3 := L3.past hb8
  replace ho3 := ho3.past hb8
  replace hq3 := hq3.past hb8
  have hs8 := hs7.trans (hb8.mono hs7.size)
  go_wp2
  go_ret
  exact ⟨rfl, hs8⟩

set_option maxHeartbeats 2000000 in
set_option maxRecDepth 100000 in
theorem lawBChk_row (a b : Din) (w : World) (ha : InD w a) (hb : InD w b) (hT : TabW w) :
    Calls Tryd.prog 3 #[.agg #[.bool a.g, .slice a.p a.xs.length a.c, .int .i64 a.e, .bool b.g, .slice b.p b.xs.length b.c, .int .i64 b.e]] w fun e w' => e = .returned (.bool true) ∧ Below w.heap.size w w' := by
  have HC := fun W k1 k2 k3 => Lib.hid (ballCheck_any a b W k1 k2 k3)
  have HD := fun W k1 k2 => Lib.hid (refCheckBall_any a b W k1 k2)
  obtain ⟨er, her⟩ : ∃ er, errBall a b = er := ⟨_, rfl⟩
  rw [her] at HC HD
  clear her
  have t1 : (er == er) = true := by simp
  go_enter Tryd.func3, Tryd.ntmps3
  go_upto_region 1 with (fail)
  refine wp_lay1 (fun W1 hb1 hz1 A => ?_)
  replace ha := ha.past hb1
  replace hb := hb.past hb1
  replace hT := hT.past hb1
  have hs1 := hb1
  go_region_held3 (fun w' => w'.cell? ⟨w.heap.size, 0, none⟩ = some (.bool a.g) ∧ w'.cell? ⟨w.heap.size, 1, none⟩ = some (.slice a.p a.xs.length a.c) ∧ w'.cell? ⟨w.heap.size, 2, none⟩ = some (.int .i64 a.e) ∧ w'.cell? ⟨w.heap.size, 3, none⟩ = some (.bool b.g) ∧ w'.cell? ⟨w.heap.size, 4, none⟩ = some (.slice b.p b.xs.length b.c) ∧ w'.cell? ⟨w.heap.size, 5, none⟩ = some (.int .i64 b.e))
    (first | with_reducible exact A.e6 | with_reducible exact A.drew.e6 | with_reducible exact (A.drew.past hb2).e6 | with_reducible exact ((A.drew.past hb2).past hb3).e6 | with_reducible exact (((A.drew.past hb2).past hb3).past hb4).e6)
    (first
      | (go_at_call 14; ((with_reducible refine (ballBegun_any _ hT.drew).mono ?_)); rintro e2 w2 ⟨rfl, hb2⟩)
      | (go_at_call 15; ((with_reducible refine (HC _ (ha.drew.past hb2) (hb.drew.past hb2) (hT.drew.past hb2)).out.mono ?_)); rintro e3 w3 ⟨rfl, hb3⟩)
      | (go_at_call 16; ((with_reducible refine (HD _ ((ha.drew.past hb2).past hb3) ((hb.drew.past hb2).past hb3)).out.mono ?_)); rintro e4 w4 ⟨rfl, hb4⟩))
  all_goals (go_wp2_with fail)
  all_goals go_ret
  all_goals (exact ⟨rfl, ((hs1.drew.trans (hb2.mono hs1.size)).trans (hb3.mono (Nat.le_trans hs1.size hb2.size))).trans (hb4.mono (Nat.le_trans (Nat.le_trans hs1.size hb2.size) hb3.size))⟩)

end Go.Proofs.YtkooikgplpamlaaDoor
