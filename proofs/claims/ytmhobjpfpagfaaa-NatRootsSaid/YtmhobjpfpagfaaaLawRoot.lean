/- The law NatRoots: its walk. -/
import Derived.Test.YtmhobjpfpagfaaaLaw0
import Derived.Test.YtmhobjpfpagfaaaNat10
import Derived.Test.YtmhobjpfpagfaaaRef11
import Derived.Test.YtmhobjpfpagfaaaRef4
import Derived.Test.YtmhobjpfpagfaaaRef3
namespace Go.Proofs.Ytmhobjpfpagfaaa
open Go.RowKit Go.Slip

theorem root_le {r k a : Nat} (hk : 1 ≤ k) (h : r ^ k ≤ a) : r ≤ a := by
  rcases Nat.eq_zero_or_pos r with h0 | h0
  · omega
  · refine Nat.le_trans ?_ h
    obtain ⟨j, rfl⟩ : ∃ j, k = j + 1 := ⟨k - 1, by omega⟩
    rw [Nat.pow_succ]
    exact Nat.le_mul_of_pos_left _ (Nat.pow_pos h0)

set_option maxHeartbeats 1000000 in
set_option maxRecDepth 100000 in
theorem lawRoot_good (p : Option Addr) (n c : Nat) (a k : Nat) (w : World) (hp : Rd w .u32 p (dig B32 a)) (hn : n = (dig B32 a).length) (hl : (dig B32 a).length ≤ 1200) (hk : 1 ≤ k) (hk2 : k ≤ 10) :
    Calls Try.prog 5 #[.slice p n c, .int .i64 k] w fun e w' => e = .returned (.bool true) ∧ Below w.heap.size w w' := by
  subst hn
  have hE := Lib.hid (errNat_dig hl)
  have HM := Lib.hid (natRoot_good p _ c a k w hp rfl hl hk hk2)
  have HXa := Lib.hid (dig_lt B32_two a)
  have HVa := Lib.hid (val_dig B32_two a)
  have laa := Nat.le_of_eq (dig_len_halves a).symm
  go_enter Try.func5, Try.ntmps5
  go_wp2_with fail
  refine HM.out.mono ?_
  rintro e w1 ⟨r, hr1, hr2, p1, c1, rfl, ho1, hb1⟩
  have hrle := root_le hk hr1
  have lr := dig_len_mono B32_two hrle
  have lr16 := dig_len_mono B16_two hrle
  have lr161 := dig_len_add B16_two r 1
  have lone : (dig B16 1).length ≤ 1 := (dig_len_le B16_two 1 1).2 (by unfold B16; omega)
  have HEr := Lib.hid (errNat_dig (show (dig B32 r).length ≤ 1200 by omega))
  have HXr := Lib.hid (dig_lt B32_two r)
  have HVr := Lib.hid (val_dig B32_two r)
  have E1 : Hid ([1] = dig B16 1) := by
    show [1] = dig B16 1
    rw [dig_pos B16_two (by omega), show 1 / B16 = 0 by decide, dig_zero]; rfl
  have hC1 : cmpN (r ^ k) a ≤ 0 := by unfold cmpN; split; omega; rw [if_neg (by omega)]; omega
  have hC2 : 1 ≤ cmpN ((r + 1) ^ k) a := by rw [cmpN_gt hr2]; omega
  have PL1 := pow_len16 (a := r) (K := k) (e := k) (Nat.le_refl _)
  have PL2 := pow_len16 (a := r + 1) (K := k) (e := k) (Nat.le_refl _)
  have hm1 := Nat.mul_le_mul hk2 (show (dig B16 r).length ≤ 2400 by omega)
  have hm2 := Nat.mul_le_mul hk2 (show (dig B16 (r + 1)).length ≤ 2402 by omega)
  clear hr1 hr2 hrle
  go_wp2_with fail
  refine (refCheckNat_any p _ c _ _ (hp.past hb1) rfl (by omega)).mono ?_
  rintro e w2 ⟨rfl, rfl⟩
  rw [hE.out]
  go_wp2_with fail
  refine (natBegun_any _).mono ?_
  rintro e w3 ⟨rfl, hb3⟩
  have hs3 := hb1.trans (hb3.mono hb1.size)
  have ho3 := ho1.past hb3
  clear hb1 hb3 ho1
  go_wp2_with fail
  refine (refCheckNat_any p1 _ c1 _ _ ho3.rd rfl (by omega)).mono ?_
  rintro e w4 ⟨rfl, rfl⟩
  rw [HEr.out]
  go_wp2_with fail
  refine (refOf_any p1 _ c1 _ _ ho3.rd rfl HXr.out (by omega)).mono ?_
  rw [HVr.out]
  rintro e w5 ⟨p5, c5, rfl, ho5, -, -, hb5⟩
  have hs5 := hs3.trans (hb5.mono hs3.size)
  clear hb5 ho3 hs3
  go_wp2_with fail
  refine (refOf_any p _ c _ _ (hp.past hs5) rfl HXa.out (by omega)).mono ?_
  rw [HVa.out]
  rintro e w6 ⟨p6, c6, rfl, ho6, -, -, hb6⟩
  have hs6 := hs5.trans (hb6.mono hs5.size)
  have ho5 := ho5.past hb6
  clear hb6 hs5
  go_wp2_with fail
  refine (refPower_any p5 _ c5 r k _ ho5 rfl (by omega) (by omega)).mono ?_
  rintro e w7 ⟨p7, c7, rfl, ho7, -, -, hb7⟩
  have hs7 := hs6.trans (hb7.mono hs6.size)
  have ho5 := ho5.past hb7
  have ho6 := ho6.past hb7
  clear hb7 hs6
  go_wp2_with fail
  refine (refCmp_any p7 p6 _ _ c7 c6 _ _ _ ho7 ho6 rfl rfl (by omega) (by omega)).mono ?_
  rintro e w8 ⟨rfl, hb8⟩
  have hs8 := hs7.trans (hb8.mono hs7.size)
  have ho5 := ho5.past hb8
  have ho6 := ho6.past hb8
  clear hb8 hs7 ho7
  go_wp2_with fail
  have ho9 := (own_one w8 .i64 3 1 (by omega)).rd
  simp only [show Int.toNat 1 = 1 from rfl] at ho9
  rw [E1.out] at ho9
  have l1 := Lib.hid (show 1 = (dig B16 1).length by rw [← E1.out]; rfl)
  have hs9 := hs8.trans (((Below.refl _ _).alloc (Nat.le_refl _) (.cells #[.int .i64 1] 3)).mono hs8.size)
  refine (refPlus_any p5 _ _ 1 c5 1 r 1 _ (ho5.laid _) ho9 rfl l1.out (by omega)).mono ?_
  rintro e w10 ⟨p10, c10, rfl, ho10, -, -, hb10⟩
  have hs10 := hs9.trans (hb10.mono hs9.size)
  have ho6 := (ho6.laid _).past hb10
  clear hb10 hs9 ho9 ho5
  go_wp2_with fail
  refine (refPower_any p10 _ c10 (r + 1) k _ ho10 rfl (by omega) (by omega)).mono ?_
  rintro e w11 ⟨p11, c11, rfl, ho11, -, -, hb11⟩
  have hs11 := hs10.trans (hb11.mono hs10.size)
  have ho6 := ho6.past hb11
  clear hb11 hs10 ho10
  go_wp2_with fail
  refine (refCmp_any p11 p6 _ _ c11 c6 _ _ _ ho11 ho6 rfl rfl (by omega) (by omega)).mono ?_
  rintro e w12 ⟨rfl, hb12⟩
  have hs12 := hs11.trans (hb12.mono hs11.size)
  clear hb12 hs11 ho11 ho6
  go_wp2_with fail
  go_ret
  exact ⟨ret_bool (decide_eq_true (show (0 : Int) < cmpN ((r + 1) ^ k) a by omega)), hs12⟩

set_option maxHeartbeats 1000000 in
set_option maxRecDepth 100000 in
theorem lawRoot_row (p : Option Addr) (n c : Nat) (xs : List Nat) (i : Int) (w : World)
    (hp : Rd w .u32 p xs) (hn : n = xs.length) (hl : xs.length ≤ 9223372036854775807) (hx : ∀ x ∈ xs, x < B32) (_ : (Lit.int .i64 i).wf = true) :
    Calls Try.prog 5 #[.slice p n c, .int .i64 i] w fun e w' => e = .returned (.bool true) ∧ Below w.heap.size w w' := by
  subst hn
  by_cases he : errNat xs = 0
  · by_cases hi : i < 1 ∨ 10 < i
    · have HM := Lib.hid (natRoot_range p _ c xs i w hp rfl hl he hi)
      have hE := Lib.hid he
      clear he hx
      rcases hi with hi | hi
      · go_enter Try.func5, Try.ntmps5
        go_wp2_with fail
        refine HM.out.mono ?_
        rintro e w1 ⟨p1, c1, rfl, ho1, hb1⟩
        go_wp2_with fail
        refine (refCheckNat_any p _ c _ _ (hp.past hb1) rfl hl).mono ?_
        rintro e w2 ⟨rfl, rfl⟩
        rw [hE.out]
        go_wp2_with fail
        refine (natBegun_any _).mono ?_
        rintro e w3 ⟨rfl, hb3⟩
        have hs3 := hb1.trans (hb3.mono hb1.size)
        clear hb1 hb3
        go_wp2_with fail
        refine (natBegun_any _).mono ?_
        rintro e w4 ⟨rfl, hb4⟩
        go_wp2_with fail
        go_ret
        exact ⟨rfl, hs3.trans (hb4.mono hs3.size)⟩
      · go_enter Try.func5, Try.ntmps5
        go_wp2_with fail
        refine HM.out.mono ?_
        rintro e w1 ⟨p1, c1, rfl, ho1, hb1⟩
        go_wp2_with fail
        refine (refCheckNat_any p _ c _ _ (hp.past hb1) rfl hl).mono ?_
        rintro e w2 ⟨rfl, rfl⟩
        rw [hE.out]
        go_wp2_with fail
        refine (natBegun_any _).mono ?_
        rintro e w3 ⟨rfl, hb3⟩
        have hs3 := hb1.trans (hb3.mono hb1.size)
        clear hb1 hb3
        go_wp2_with fail
        refine (natBegun_any _).mono ?_
        rintro e w4 ⟨rfl, hb4⟩
        go_wp2_with fail
        go_ret
        exact ⟨rfl, hs3.trans (hb4.mono hs3.size)⟩
    · obtain ⟨ex, lx⟩ := errNat_ok hx he
      obtain ⟨k, rfl⟩ : ∃ k : Nat, i = k := ⟨i.toNat, by omega⟩
      generalize val B32 xs = a at *
      subst ex
      exact lawRoot_good p _ c a k w hp rfl lx (by omega) (by omega)
  · have HM := Lib.hid (natRoot_err p _ c xs i w hp rfl hl he)
    have hb1 : (errNat xs == 0) = false := by simpa using he
    have hb2 : (errNat xs != 0) = true := by simpa using he
    clear he hx
    go_enter Try.func5, Try.ntmps5
    go_wp2_with fail
    refine HM.out.mono ?_
    rintro e w1 ⟨p1, c1, rfl, ho1, hb1⟩
    go_wp2_with fail
    refine (refCheckNat_any p _ c _ _ (hp.past hb1) rfl hl).mono ?_
    rintro e w2 ⟨rfl, rfl⟩
    go_wp2_with fail
    refine (natBegun_any _).mono ?_
    rintro e w3 ⟨rfl, hb3⟩
    have hs3 := hb1.trans (hb3.mono hb1.size)
    clear hb1 hb3
    go_wp2_with fail
    refine (natBegun_any _).mono ?_
    rintro e w4 ⟨rfl, hb4⟩
    go_wp2_with fail
    go_ret
    exact ⟨rfl, hs3.trans (hb4.mono hs3.size)⟩

end Go.Proofs.Ytmhobjpfpagfaaa
