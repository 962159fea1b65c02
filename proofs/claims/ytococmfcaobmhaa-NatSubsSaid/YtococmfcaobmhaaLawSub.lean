/- The law NatSubs: its walk. -/
import Derived.Test.YtococmfcaobmhaaLaw0
import Derived.Test.YtococmfcaobmhaaNat7
import Derived.Test.YtococmfcaobmhaaRef5
namespace Go.Proofs.Ytococmfcaobmhaa
open Go.RowKit Go.Slip

set_option maxHeartbeats 1000000 in
set_option maxRecDepth 100000 in
theorem lawSub_row (p : Option Addr) (n c : Nat) (xs : List Nat) (q : Option Addr) (m d : Nat) (ys : List Nat) (w : World)
    (hp : Rd w .u32 p xs) (hn : n = xs.length) (hl : xs.length ≤ 9223372036854775807) (hx : ∀ x ∈ xs, x < B32)
    (hq : Rd w .u32 q ys) (hm : m = ys.length) (hl2 : ys.length ≤ 9223372036854775807) (hy : ∀ x ∈ ys, x < B32) :
    Calls Try.prog 12 #[.slice p n c, .slice q m d] w fun e w' => e = .returned (.bool true) ∧ Below w.heap.size w w' := by
  subst hn hm
  have HM := Lib.hid (natSub_any p q _ c _ d xs ys w hp hq rfl rfl hl hl2 hx hy)
  by_cases he : err2 xs ys = 0
  · obtain ⟨hxs, hys⟩ := err2_ok he
    obtain ⟨ex, lx⟩ := errNat_ok hx hxs
    obtain ⟨ey, ly⟩ := errNat_ok hy hys
    have hS : errSub xs ys = if val B32 xs < val B32 ys then 3 else 0 := by unfold errSub; rw [if_pos he]
    rw [hS] at HM
    have hE := Lib.hid he
    have HX := Lib.hid hx
    have HY := Lib.hid hy
    have lxx := Nat.le_of_eq (dig_len_halves (val B32 xs)).symm
    have lyy := Nat.le_of_eq (dig_len_halves (val B32 ys)).symm
    rw [← ex] at lxx
    rw [← ey] at lyy
    have EX := Lib.hid ex
    clear hxs hys hx hy he ex ey hS
    by_cases hab : val B32 xs < val B32 ys
    · rw [if_pos hab] at HM
      have h1 : natE 3 (val B32 xs - val B32 ys) = 3 := by unfold natE; rw [if_neg (by omega)]
      have h2 : natL 3 (val B32 xs - val B32 ys) = [] := by unfold natL; rw [h1, if_neg (by omega)]
      rw [h1, h2] at HM
      have hC : cmpN (val B32 xs) (val B32 ys) ≤ -1 := by rw [cmpN_lt hab]; omega
      clear h1 h2
      go_enter Try.func12, Try.ntmps12
      go_wp2_with fail
      refine HM.out.mono ?_
      rintro e w1 ⟨p1, c1, rfl, ho1, hb1⟩
      have hp1 := hp.past hb1
      have hq1 := hq.past hb1
      go_wp2_with fail
      refine (refTwoNats_any p q _ c _ d xs ys _ hp1 hq1 rfl rfl hl hl2).mono ?_
      rintro e w2 ⟨rfl, rfl⟩
      rw [hE.out]
      go_wp2_with fail
      refine (refOf_any p _ c xs _ hp1 rfl HX.out (by omega)).mono ?_
      rintro e w3 ⟨p3, c3, rfl, ho3, -, -, hb3⟩
      go_wp2_with fail
      refine (refOf_any q _ d ys _ (hq1.past hb3) rfl HY.out (by omega)).mono ?_
      rintro e w4 ⟨p4, c4, rfl, ho4, -, -, hb4⟩
      go_wp2_with fail
      refine (refCmp_any p3 p4 _ _ c3 c4 _ _ _ (ho3.past hb4) ho4 rfl rfl (by omega) (by omega)).mono ?_
      rintro e w5 ⟨rfl, hb5⟩
      go_wp2_with fail
      refine (natBegun_any _).mono ?_
      rintro e w7 ⟨rfl, hb7⟩
      have hs3 := hb1.trans (hb3.mono hb1.size)
      have hs4 := hs3.trans (hb4.mono hs3.size)
      have hs5 := hs4.trans (hb5.mono hs4.size)
      have hs7 := hs5.trans (hb7.mono hs5.size)
      clear hb1 hb3 hb4 hb5 hb7 hs3 hs4 hs5
      go_wp2_with fail
      refine (natIs_err p1 none c1 0 0 3 _ (by omega)).mono ?_
      rintro e w8 ⟨rfl, hb8⟩
      go_wp2_with fail
      go_ret
      exact ⟨rfl, hs7.trans (hb8.mono hs7.size)⟩
    · rw [if_neg hab] at HM
      have hC : 0 ≤ cmpN (val B32 xs) (val B32 ys) := by unfold cmpN; rw [if_neg hab]; split <;> omega
      have hlr := dig_len_mono B32_two (show val B32 xs - val B32 ys ≤ val B32 xs by omega)
      have hlr2 := dig_len_mono B16_two (show val B32 xs - val B32 ys ≤ val B32 xs by omega)
      rw [← EX.out] at hlr
      have hE0 := natE_good (e := 0) rfl (Nat.le_trans hlr lx)
      rw [natL_good hE0, hE0] at HM
      have hba : val B32 ys ≤ val B32 xs := by omega
      clear hE0 hab
      generalize hr : val B32 xs - val B32 ys = r at HM hlr hlr2
      have hR := Lib.hid hr
      clear hr
      go_enter Try.func12, Try.ntmps12
      go_wp2_with fail
      refine HM.out.mono ?_
      rintro e w1 ⟨p1, c1, rfl, ho1, hb1⟩
      have hp1 := hp.past hb1
      have hq1 := hq.past hb1
      go_wp2_with fail
      refine (refTwoNats_any p q _ c _ d xs ys _ hp1 hq1 rfl rfl hl hl2).mono ?_
      rintro e w2 ⟨rfl, rfl⟩
      rw [hE.out]
      go_wp2_with fail
      refine (refOf_any p _ c xs _ hp1 rfl HX.out (by omega)).mono ?_
      rintro e w3 ⟨p3, c3, rfl, ho3, -, -, hb3⟩
      go_wp2_with fail
      refine (refOf_any q _ d ys _ (hq1.past hb3) rfl HY.out (by omega)).mono ?_
      rintro e w4 ⟨p4, c4, rfl, ho4, -, -, hb4⟩
      go_wp2_with fail
      refine (refCmp_any p3 p4 _ _ c3 c4 _ _ _ (ho3.past hb4) ho4 rfl rfl (by omega) (by omega)).mono ?_
      rintro e w5 ⟨rfl, hb5⟩
      have hs3 := hb1.trans (hb3.mono hb1.size)
      have hs4 := hs3.trans (hb4.mono hs3.size)
      have hs5 := hs4.trans (hb5.mono hs4.size)
      have hr1 := ((ho1.rd.past hb3).past hb4).past hb5
      have hp5 := hp.past hs5
      have hq5 := hq.past hs5
      clear hb1 hb3 hb4 hb5 hs3 hs4 ho1 ho3 ho4 hp1 hq1
      go_wp2_with fail
      refine (refOf_any p _ c xs _ hp5 rfl HX.out (by omega)).mono ?_
      rintro e w6 ⟨p6, c6, rfl, ho6, -, -, hb6⟩
      go_wp2_with fail
      refine (refOf_any q _ d ys _ (hq5.past hb6) rfl HY.out (by omega)).mono ?_
      rintro e w7 ⟨p7, c7, rfl, ho7, -, -, hb7⟩
      go_wp2_with fail
      refine (refLess_any p6 p7 _ _ c6 c7 _ _ _ (ho6.past hb7) ho7 rfl rfl (by omega) hba).mono ?_
      rw [hR.out]
      rintro e w8 ⟨p8, c8, rfl, ho8, -, -, hb8⟩
      have hs6 := hs5.trans (hb6.mono hs5.size)
      have hs7 := hs6.trans (hb7.mono hs6.size)
      have hs8 := hs7.trans (hb8.mono hs7.size)
      have hr8 := ((hr1.past hb6).past hb7).past hb8
      clear hb6 hb7 hb8 hs5 hs6 hs7 ho6 ho7 hr1 hp5 hq5
      go_wp2_with fail
      refine (natBegun_any _).mono ?_
      rintro e w9 ⟨rfl, hb9⟩
      have hs9 := hs8.trans (hb9.mono hs8.size)
      have hr9 := hr8.past hb9
      have ho9 := ho8.past hb9
      clear hb9 hs8 hr8 ho8
      go_wp2_with fail
      refine (natIs_ok p1 p8 _ c1 _ c8 r _ hr9 ho9 rfl rfl (by omega)).mono ?_
      rintro e w10 ⟨rfl, hb10⟩
      go_wp2_with fail
      go_ret
      exact ⟨rfl, hs9.trans (hb10.mono hs9.size)⟩
  · have hS : errSub xs ys = err2 xs ys := by unfold errSub; rw [if_neg he]
    rw [hS] at HM
    have h1 : natE (err2 xs ys) (val B32 xs - val B32 ys) = err2 xs ys := by unfold natE; rw [if_neg he]
    have h2 : natL (err2 xs ys) (val B32 xs - val B32 ys) = [] := by unfold natL; rw [h1, if_neg he]
    rw [h1, h2] at HM
    have hb : (err2 xs ys == 0) = false := by simpa using he
    have hE := Lib.hid he
    clear h1 h2 he hS
    go_enter Try.func12, Try.ntmps12
    go_wp2_with fail
    refine HM.out.mono ?_
    rintro e w1 ⟨p1, c1, rfl, ho1, hb1⟩
    have hp1 := hp.past hb1
    have hq1 := hq.past hb1
    go_wp2_with fail
    refine (refTwoNats_any p q _ c _ d xs ys _ hp1 hq1 rfl rfl hl hl2).mono ?_
    rintro e w2 ⟨rfl, rfl⟩
    go_wp2_with fail
    refine (natBegun_any _).mono ?_
    rintro e w7 ⟨rfl, hb7⟩
    go_wp2_with fail
    refine (natIs_err p1 none c1 0 0 _ _ hE.out).mono ?_
    rintro e w8 ⟨rfl, hb8⟩
    go_wp2_with fail
    go_ret
    have hs7 := hb1.trans (hb7.mono hb1.size)
    exact ⟨rfl, hs7.trans (hb8.mono hs7.size)⟩

end Go.Proofs.Ytococmfcaobmhaa
