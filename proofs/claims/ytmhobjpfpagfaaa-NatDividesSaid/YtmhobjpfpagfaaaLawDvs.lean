/- The law NatDivides: its walk. -/
import Derived.Test.YtmhobjpfpagfaaaLaw0
import Derived.Test.YtmhobjpfpagfaaaNat10
namespace Go.Proofs.Ytmhobjpfpagfaaa
open Go.RowKit Go.Slip

theorem cmpS_lt {a b : Nat} (ha : (dig B32 a).length ≤ 1200) (hb : (dig B32 b).length ≤ 1200) (h : a < b) : cmpS (dig B32 a) (dig B32 b) = -1 ∧ err2 (dig B32 a) (dig B32 b) = 0 := by
  have h1 := err2_good (errNat_dig ha) (errNat_dig hb)
  refine ⟨?_, h1⟩
  unfold cmpS
  rw [if_pos h1, val_dig B32_two, val_dig B32_two, cmpN_lt h]

set_option maxHeartbeats 1000000 in
set_option maxRecDepth 100000 in
theorem lawDvs_row (p : Option Addr) (n c : Nat) (xs : List Nat) (q : Option Addr) (m d : Nat) (ys : List Nat) (w : World)
    (hp : Rd w .u32 p xs) (hn : n = xs.length) (hl : xs.length ≤ 9223372036854775807) (hx : ∀ x ∈ xs, x < B32)
    (hq : Rd w .u32 q ys) (hm : m = ys.length) (hl2 : ys.length ≤ 9223372036854775807) (hy : ∀ x ∈ ys, x < B32) :
    Calls Try.prog 4 #[.slice p n c, .slice q m d] w fun e w' => e = .returned (.bool true) ∧ Below w.heap.size w w' := by
  subst hn hm
  by_cases he : err2 xs ys = 0
  · obtain ⟨hxs, hys⟩ := err2_ok he
    obtain ⟨ex, lx⟩ := errNat_ok hx hxs
    obtain ⟨ey, ly⟩ := errNat_ok hy hys
    by_cases h0 : ys.length = 0
    · obtain rfl : ys = [] := List.eq_nil_of_length_eq_zero h0
      have HX := Lib.hid hxs
      clear hxs hys hx hy he ex ey h0
      go_enter Try.func4, Try.ntmps4
      go_wp2_with fail
      refine (natBegun_any _).mono ?_
      rintro e w1 ⟨rfl, hb1⟩
      go_wp2_with fail
      refine (natDiv_range p q _ c 0 d xs _ (hp.past hb1) rfl rfl hl HX.out).mono ?_
      rintro e w2 ⟨p2, c2, q2, d2, rfl, ho2, ho3, hb2⟩
      go_wp2_with fail
      go_ret
      exact ⟨rfl, hb1.trans (hb2.mono hb1.size)⟩
    · have hb0 : 0 < val B32 ys := by
        rcases Nat.eq_zero_or_pos (val B32 ys) with h | h
        · rw [h, dig_zero] at ey; rw [ey] at h0; simp at h0
        · exact h
      clear hxs hys hx hy he h0 hl hl2
      generalize val B32 xs = a at *
      generalize val B32 ys = b at *
      subst ex ey
      have e1 := Lib.hid (show a / b * b + a % b = a by rw [Nat.mul_comm]; exact Nat.div_add_mod a b)
      have lq : (dig B32 (a / b)).length ≤ 1200 := Nat.le_trans (dig_len_mono B32_two (Nat.div_le_self a b)) lx
      have lr : (dig B32 (a % b)).length ≤ 1200 := Nat.le_trans (dig_len_mono B32_two (Nat.mod_le a b)) lx
      have lm : (dig B32 (a / b * b)).length ≤ 1200 := Nat.le_trans (dig_len_mono B32_two (Nat.div_mul_le_self a b)) lx
      obtain ⟨hc1, hc2⟩ := cmpS_lt lr ly (Nat.mod_lt a hb0)
      have HC1 := Lib.hid hc1
      have HC2 := Lib.hid hc2
      clear hc1 hc2
      have HB0 := Lib.hid hb0
      clear hb0
      go_enter Try.func4, Try.ntmps4
      go_wp2_with fail
      refine (natBegun_any _).mono ?_
      rintro e w1 ⟨rfl, hb1⟩
      go_wp2_with fail
      refine (natDiv_good p q _ c _ d a b _ (hp.past hb1) (hq.past hb1) rfl rfl lx ly HB0.out).mono ?_
      generalize a / b = qq at *
      generalize a % b = rr at *
      rintro e w2 ⟨p2, c2, q2, d2, rfl, ho2, ho3, hb2⟩
      have hs2 := hb1.trans (hb2.mono hb1.size)
      clear hb1 hb2
      go_wp2_with fail
      refine (natMul_good p2 q _ c2 _ d qq b _ ho2.rd (hq.past hs2) rfl rfl lq ly lm).mono ?_
      rintro e w3 ⟨p3, c3, rfl, ho4, hb3⟩
      have hs3 := hs2.trans (hb3.mono hs2.size)
      have ho3 := ho3.past hb3
      clear hs2 hb3 ho2
      go_wp2_with fail
      refine (natAdd_good p3 q2 _ c3 _ d2 (qq * b) rr _ ho4.rd ho3.rd rfl rfl lm lr (by rw [e1.out]; exact lx)).mono ?_
      rw [e1.out]
      rintro e w4 ⟨p5, c5, rfl, ho5, hb4⟩
      have hs4 := hs3.trans (hb4.mono hs3.size)
      have ho3 := ho3.past hb4
      clear hs3 hb4 ho4
      go_wp2_with fail
      refine (natCompare_any q2 q _ d2 _ d _ _ _ ho3.rd (hq.past hs4) rfl rfl (by omega) (by omega) (dig_lt B32_two _) (dig_lt B32_two _)).mono ?_
      rw [HC1.out, HC2.out]
      rintro e w5 ⟨rfl, hb5⟩
      have hs5 := hs4.trans (hb5.mono hs4.size)
      have ho5 := ho5.past hb5
      clear hs4 hb5 ho3
      go_wp2_with fail
      refine (refSameNat_any p5 p _ c5 _ c _ _ _ ho5.rd (hp.past hs5) rfl rfl rfl (by omega)).mono ?_
      rintro e w6 ⟨rfl, hb6⟩
      go_wp2_with fail
      go_ret
      exact ⟨rfl, hs5.trans (hb6.mono hs5.size)⟩
  · have hb : (err2 xs ys == 0) = false := by simpa using he
    have hb' : (err2 xs ys != 0) = true := by simpa using he
    have HE := Lib.hid he
    clear he
    go_enter Try.func4, Try.ntmps4
    go_wp2_with fail
    refine (natBegun_any _).mono ?_
    rintro e w1 ⟨rfl, hb1⟩
    go_wp2_with fail
    refine (natDiv_err p q _ c _ d xs ys _ (hp.past hb1) (hq.past hb1) rfl rfl hl hl2 HE.out).mono ?_
    rintro e w2 ⟨p2, c2, q2, d2, rfl, ho2, ho3, hb2⟩
    go_wp2_with fail
    go_ret
    exact ⟨rfl, hb1.trans (hb2.mono hb1.size)⟩

end Go.Proofs.Ytmhobjpfpagfaaa
