/- The laws NatCompares, NatBits: their walks. -/
import Derived.Test.YtococmfcaobmhaaLaw0
import Derived.Test.YtococmfcaobmhaaNat5
import Derived.Test.YtococmfcaobmhaaRef4
namespace Go.Proofs.Ytococmfcaobmhaa
open Go.RowKit Go.Slip

set_option maxHeartbeats 1000000 in
theorem lawCmp_row (p : Option Addr) (n c : Nat) (xs : List Nat) (q : Option Addr) (m d : Nat) (ys : List Nat) (w : World)
    (hp : Rd w .u32 p xs) (hn : n = xs.length) (hl : xs.length ≤ 9223372036854775807) (hx : ∀ x ∈ xs, x < B32)
    (hq : Rd w .u32 q ys) (hm : m = ys.length) (hl2 : ys.length ≤ 9223372036854775807) (hy : ∀ x ∈ ys, x < B32) :
    Calls Try.prog 6 #[.slice p n c, .slice q m d] w fun e w' => e = .returned (.bool true) ∧ Below w.heap.size w w' := by
  subst hn hm
  have HM := Lib.hid (natCompare_any p q _ c _ d xs ys w hp hq rfl rfl hl hl2 hx hy)
  by_cases he : err2 xs ys = 0
  · obtain ⟨hxs, hys⟩ := err2_ok he
    have hS : cmpS xs ys = cmpN (val B32 xs) (val B32 ys) := by unfold cmpS; rw [if_pos he]
    obtain ⟨ex, lx⟩ := errNat_ok hx hxs
    obtain ⟨ey, ly⟩ := errNat_ok hy hys
    have hE := Lib.hid he
    rw [he, hS] at HM
    have HX := Lib.hid hx
    have HY := Lib.hid hy
    have lxx := Nat.le_of_eq (dig_len_halves (val B32 xs)).symm
    have lyy := Nat.le_of_eq (dig_len_halves (val B32 ys)).symm
    rw [← ex] at lxx
    rw [← ey] at lyy
    have t : (cmpN (val B32 xs) (val B32 ys) == cmpN (val B32 xs) (val B32 ys)) = true := by simp
    clear hxs hys hx hy he ex ey hS
    generalize hr : cmpN (val B32 xs) (val B32 ys) = r at HM t
    have HR := Lib.hid hr
    clear hr
    go_enter Try.func6, Try.ntmps6
    go_wp2_with fail
    refine HM.out.mono ?_
    rintro e w1 ⟨rfl, hb1⟩
    have hp1 := hp.past hb1
    have hq1 := hq.past hb1
    go_wp2_with fail
    refine (refTwoNats_any p q _ c _ d xs ys _ hp1 hq1 rfl rfl hl hl2).mono ?_
    rintro e w2 ⟨rfl, rfl⟩
    rw [hE.out]
    go_wp2_with fail
    refine (refOf_any p _ c xs _ hp1 rfl HX.out (by omega)).mono ?_
    rintro e w3 ⟨p3, c3, rfl, ho3, -, -, hb3⟩
    go_wp2_with fail
    refine (refOf_any q _ d ys _ (hq1.past hb3) rfl HY.out (by omega)).mono ?_
    rintro e w4 ⟨p4, c4, rfl, ho4, -, -, hb4⟩
    go_wp2_with fail
    refine (refCmp_any p3 p4 _ _ c3 c4 _ _ _ (ho3.past hb4) ho4 rfl rfl (by omega) (by omega)).mono ?_
    rw [HR.out]
    rintro e w5 ⟨rfl, hb5⟩
    have hs3 := hb1.trans (hb3.mono hb1.size)
    have hs4 := hs3.trans (hb4.mono hs3.size)
    have hs5 := hs4.trans (hb5.mono hs4.size)
    go_wp2_with fail
    refine (natBegun_any _).mono ?_
    rintro e w7 ⟨rfl, hb7⟩
    have hs7 := hs5.trans (hb7.mono hs5.size)
    go_wp2_with fail
    go_ret
    exact ⟨rfl, hs7⟩
  · have hS : cmpS xs ys = 0 := by unfold cmpS; rw [if_neg he]
    rw [hS] at HM
    have hb : (err2 xs ys == 0) = false := by simpa using he
    have t : (err2 xs ys == err2 xs ys) = true := by simp
    clear hS he
    go_enter Try.func6, Try.ntmps6
    go_wp2_with fail
    refine HM.out.mono ?_
    rintro e w1 ⟨rfl, hb1⟩
    have hp1 := hp.past hb1
    have hq1 := hq.past hb1
    go_wp2_with fail
    refine (refTwoNats_any p q _ c _ d xs ys _ hp1 hq1 rfl rfl hl hl2).mono ?_
    rintro e w2 ⟨rfl, rfl⟩
    go_wp2_with fail
    refine (natBegun_any _).mono ?_
    rintro e w7 ⟨rfl, hb7⟩
    go_wp2_with fail
    go_ret
    exact ⟨rfl, hb1.trans (hb7.mono hb1.size)⟩

set_option maxHeartbeats 1000000 in
theorem lawBits_row (p : Option Addr) (n c : Nat) (xs : List Nat) (w : World)
    (hp : Rd w .u32 p xs) (hn : n = xs.length) (hl : xs.length ≤ 9223372036854775807) (hx : ∀ x ∈ xs, x < B32) :
    Calls Try.prog 7 #[.slice p n c] w fun e w' => e = .returned (.bool true) ∧ Below w.heap.size w w' := by
  subst hn
  have HM := Lib.hid (natBits_any p _ c xs w hp rfl hl hx)
  by_cases he : errNat xs = 0
  · have hS : bitsS xs = (blen (val B32 xs) : Nat) := by unfold bitsS; rw [if_pos he]
    obtain ⟨ex, lx⟩ := errNat_ok hx he
    have hE := Lib.hid he
    rw [he, hS] at HM
    have HX := Lib.hid hx
    have lxx := Nat.le_of_eq (dig_len_halves (val B32 xs)).symm
    rw [← ex] at lxx
    clear hx he ex hS
    go_enter Try.func7, Try.ntmps7
    go_wp2_with fail
    refine HM.out.mono ?_
    rintro e w1 ⟨rfl, hb1⟩
    have hp1 := hp.past hb1
    go_wp2_with fail
    refine (refCheckNat_any p _ c xs _ hp1 rfl hl).mono ?_
    rintro e w2 ⟨rfl, rfl⟩
    rw [hE.out]
    go_wp2_with fail
    refine (refOf_any p _ c xs _ hp1 rfl HX.out (by omega)).mono ?_
    rintro e w3 ⟨p3, c3, rfl, ho3, -, -, hb3⟩
    go_wp2_with fail
    refine (refLen_any p3 _ c3 _ _ ho3 rfl (by omega)).mono ?_
    rintro e w5 ⟨rfl, rfl⟩
    have hs3 := hb1.trans (hb3.mono hb1.size)
    go_wp2_with fail
    refine (natBegun_any _).mono ?_
    rintro e w7 ⟨rfl, hb7⟩
    have hs7 := hs3.trans (hb7.mono hs3.size)
    go_wp2_with fail
    go_ret
    exact ⟨rfl, hs7⟩
  · have hS : bitsS xs = 0 := by unfold bitsS; rw [if_neg he]
    rw [hS] at HM
    have hb : (errNat xs == 0) = false := by simpa using he
    have t : (errNat xs == errNat xs) = true := by simp
    clear hS he
    go_enter Try.func7, Try.ntmps7
    go_wp2_with fail
    refine HM.out.mono ?_
    rintro e w1 ⟨rfl, hb1⟩
    have hp1 := hp.past hb1
    go_wp2_with fail
    refine (refCheckNat_any p _ c xs _ hp1 rfl hl).mono ?_
    rintro e w2 ⟨rfl, rfl⟩
    go_wp2_with fail
    refine (natBegun_any _).mono ?_
    rintro e w7 ⟨rfl, hb7⟩
    go_wp2_with fail
    go_ret
    exact ⟨rfl, hb1.trans (hb7.mono hb1.size)⟩

end Go.Proofs.Ytococmfcaobmhaa
