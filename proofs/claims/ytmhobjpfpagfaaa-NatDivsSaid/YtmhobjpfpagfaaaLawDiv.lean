/- The law NatDivs: its walk. -/
import Derived.Test.YtmhobjpfpagfaaaLaw0
import Derived.Test.YtmhobjpfpagfaaaNat10
import Derived.Test.YtmhobjpfpagfaaaRef10
namespace Go.Proofs.Ytmhobjpfpagfaaa
open Go.RowKit Go.Slip

set_option maxHeartbeats 1000000 in
set_option maxRecDepth 100000 in
theorem lawDiv_row (p : Option Addr) (n c : Nat) (xs : List Nat) (q : Option Addr) (m d : Nat) (ys : List Nat) (w : World)
    (hp : Rd w .u32 p xs) (hn : n = xs.length) (hl : xs.length ≤ 9223372036854775807) (hx : ∀ x ∈ xs, x < B32)
    (hq : Rd w .u32 q ys) (hm : m = ys.length) (hl2 : ys.length ≤ 9223372036854775807) (hy : ∀ x ∈ ys, x < B32) :
    Calls Try.prog 3 #[.slice p n c, .slice q m d] w fun e w' => e = .returned (.bool true) ∧ Below w.heap.size w w' := by
  subst hn hm
  by_cases he : err2 xs ys = 0
  · obtain ⟨hxs, hys⟩ := err2_ok he
    obtain ⟨ex, lx⟩ := errNat_ok hx hxs
    obtain ⟨ey, ly⟩ := errNat_ok hy hys
    by_cases h0 : ys.length = 0
    · obtain rfl : ys = [] := List.eq_nil_of_length_eq_zero h0
      have HM := Lib.hid (natDiv_range p q _ c 0 d xs w hp rfl rfl hl hxs)
      have hE := Lib.hid he
      clear hxs hys hx hy he ex ey h0
      go_enter Try.func3, Try.ntmps3
      go_wp2_with fail
      refine HM.out.mono ?_
      rintro e w1 ⟨p1, c1, q1, d1, rfl, ho1, ho2, hb1⟩
      have hp1 := hp.past hb1
      go_wp2_with fail
      refine (refTwoNats_any p q _ c _ d xs [] _ hp1 (Rd.nil _ _ _) rfl rfl hl hl2).mono ?_
      rintro e w2 ⟨rfl, rfl⟩
      rw [hE.out]
      go_wp2_with fail
      refine (natBegun_any _).mono ?_
      rintro e w7 ⟨rfl, hb7⟩
      have hs7 := hb1.trans (hb7.mono hb1.size)
      clear hb1 hb7
      go_wp2_with fail
      refine (natIs_err p1 none c1 0 0 3 _ (by omega)).mono ?_
      rintro e w8 ⟨rfl, hb8⟩
      have hs8 := hs7.trans (hb8.mono hs7.size)
      clear hs7 hb8
      go_wp2_with fail
      refine (natIs_err q1 none d1 0 0 3 _ (by omega)).mono ?_
      rintro e w9 ⟨rfl, hb9⟩
      go_wp2_with fail
      go_ret
      exact ⟨rfl, hs8.trans (hb9.mono hs8.size)⟩
    · have hb0 : 0 < val B32 ys := by
        rcases Nat.eq_zero_or_pos (val B32 ys) with h | h
        · rw [h, dig_zero] at ey; rw [ey] at h0; simp at h0
        · exact h
      have HM := Lib.hid (natDiv_good p q xs.length c ys.length d (val B32 xs) (val B32 ys) w (by rwa [← ex]) (by rwa [← ey]) (by rw [← ex]) (by rw [← ey]) (by rwa [← ex]) (by rwa [← ey]) hb0)
      have hE := Lib.hid he
      have HX := Lib.hid hx
      have HY := Lib.hid hy
      have lxx := Nat.le_of_eq (dig_len_halves (val B32 xs)).symm
      have lyy := Nat.le_of_eq (dig_len_halves (val B32 ys)).symm
      rw [← ex] at lxx
      rw [← ey] at lyy
      have t1 : ((ys.length : Int) == 0) = false := beq_eq_false_iff_ne.2 (by omega)
      have hlr := dig_len_mono B16_two (Nat.div_le_self (val B32 xs) (val B32 ys))
      have hlr2 := dig_len_mono B16_two (Nat.mod_le (val B32 xs) (val B32 ys))
      have HB0 := Lib.hid hb0
      clear hxs hys hx hy he ex ey h0 hb0
      generalize hqq : val B32 xs / val B32 ys = qq at HM hlr
      generalize hrr : val B32 xs % val B32 ys = rr at HM hlr2
      have HQ := Lib.hid hqq
      have HR := Lib.hid hrr
      clear hqq hrr
      go_enter Try.func3, Try.ntmps3
      go_wp2_with fail
      refine HM.out.mono ?_
      rintro e w1 ⟨p1, c1, q1, d1, rfl, ho1, ho2, hb1⟩
      have hp1 := hp.past hb1
      have hq1 := hq.past hb1
      go_wp2_with fail
      refine (refTwoNats_any p q _ c _ d xs ys _ hp1 hq1 rfl rfl hl hl2).mono ?_
      rintro e w2 ⟨rfl, rfl⟩
      rw [hE.out]
      go_wp2_with fail
      refine (refOf_any p _ c xs _ hp1 rfl HX.out (by omega)).mono ?_
      rintro e w3 ⟨p3, c3, rfl, ho3, -, -, hb3⟩
      go_wp2_with fail
      refine (refOf_any q _ d ys _ (hq1.past hb3) rfl HY.out (by omega)).mono ?_
      rintro e w4 ⟨p4, c4, rfl, ho4, -, -, hb4⟩
      go_wp2_with fail
      refine (refInto_all p3 p4 _ _ c3 c4 _ _ _ (ho3.past hb4) ho4 rfl rfl (by omega) (by omega) HB0.out).mono ?_
      rw [HQ.out, HR.out]
      rintro e w5 ⟨p5, c5, q5, d5, rfl, ho5, -, -, ho6, -, -, hb5⟩
      have hs3 := hb1.trans (hb3.mono hb1.size)
      have hs4 := hs3.trans (hb4.mono hs3.size)
      have hs5 := hs4.trans (hb5.mono hs4.size)
      have hr1 := ((ho1.rd.past hb3).past hb4).past hb5
      have hr2 := ((ho2.rd.past hb3).past hb4).past hb5
      clear hb1 hb3 hb4 hb5 hs3 hs4 ho1 ho2 ho3 ho4 hp1 hq1
      go_wp2_with fail
      refine (natBegun_any _).mono ?_
      rintro e w7 ⟨rfl, hb7⟩
      have hs7 := hs5.trans (hb7.mono hs5.size)
      have hr1 := hr1.past hb7
      have hr2 := hr2.past hb7
      have ho5 := ho5.past hb7
      have ho6 := ho6.past hb7
      clear hb7 hs5
      go_wp2_with fail
      refine (natIs_ok p1 p5 _ c1 _ c5 qq _ hr1 ho5 rfl rfl (by omega)).mono ?_
      rintro e w8 ⟨rfl, hb8⟩
      have hs8 := hs7.trans (hb8.mono hs7.size)
      have hr2 := hr2.past hb8
      have ho6 := ho6.past hb8
      clear hs7 hb8 hr1 ho5
      go_wp2_with fail
      refine (natIs_ok q1 q5 _ d1 _ d5 rr _ hr2 ho6 rfl rfl (by omega)).mono ?_
      rintro e w9 ⟨rfl, hb9⟩
      go_wp2_with fail
      go_ret
      exact ⟨rfl, hs8.trans (hb9.mono hs8.size)⟩
  · have HM := Lib.hid (natDiv_err p q _ c _ d xs ys w hp hq rfl rfl hl hl2 he)
    have hb : (err2 xs ys == 0) = false := by simpa using he
    have hE := Lib.hid he
    clear he
    go_enter Try.func3, Try.ntmps3
    go_wp2_with fail
    refine HM.out.mono ?_
    rintro e w1 ⟨p1, c1, q1, d1, rfl, ho1, ho2, hb1⟩
    have hp1 := hp.past hb1
    have hq1 := hq.past hb1
    go_wp2_with fail
    refine (refTwoNats_any p q _ c _ d xs ys _ hp1 hq1 rfl rfl hl hl2).mono ?_
    rintro e w2 ⟨rfl, rfl⟩
    go_wp2_with fail
    refine (natBegun_any _).mono ?_
    rintro e w7 ⟨rfl, hb7⟩
    have hs7 := hb1.trans (hb7.mono hb1.size)
    clear hb1 hb7
    go_wp2_with fail
    refine (natIs_err p1 none c1 0 0 _ _ hE.out).mono ?_
    rintro e w8 ⟨rfl, hb8⟩
    have hs8 := hs7.trans (hb8.mono hs7.size)
    clear hs7 hb8
    go_wp2_with fail
    refine (natIs_err q1 none d1 0 0 _ _ hE.out).mono ?_
    rintro e w9 ⟨rfl, hb9⟩
    go_wp2_with fail
    go_ret
    exact ⟨rfl, hs8.trans (hb9.mono hs8.size)⟩

end Go.Proofs.Ytmhobjpfpagfaaa
