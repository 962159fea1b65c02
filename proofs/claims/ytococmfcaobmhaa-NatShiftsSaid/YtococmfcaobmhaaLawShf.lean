/- The law NatShifts: its walk. -/
import Derived.Test.YtococmfcaobmhaaLaw0
import Derived.Test.YtococmfcaobmhaaNat8
import Derived.Test.YtococmfcaobmhaaRef6
namespace Go.Proofs.Ytococmfcaobmhaa
open Go.RowKit Go.Slip


set_option maxHeartbeats 1000000 in
theorem lawShf_up (p : Option Addr) (n c : Nat) (xs : List Nat) (N : Nat) (w : World)
    (hp : Rd w .u32 p xs) (hn : n = xs.length) (hx : ∀ x ∈ xs, x < B32) (he : errNat xs = 0) (hN : N ≤ 40000) :
    Calls Try.prog 11 #[.slice p n c, .int .i64 N] w fun e w' => e = .returned (.bool true) ∧ Below w.heap.size w w' := by
  subst hn
  obtain ⟨ex, lx⟩ := errNat_ok hx he
  have HM := Lib.hid (natShift_up p _ c (val B32 xs) N w (by rw [← ex]; exact hp) rfl (by rw [← ex]; exact lx) hN)
  rw [← ex] at HM
  have hE := Lib.hid he
  have HX := Lib.hid hx
  have lxx := Nat.le_of_eq (dig_len_halves (val B32 xs)).symm
  rw [← ex] at lxx
  have hlp := Nat.le_of_eq (dig_len_pow2 N)
  have hlm := dig_len_mul B16_two (val B32 xs) (2 ^ N)
  clear hx he ex
  generalize hr : val B32 xs * 2 ^ N = r at HM hlm
  have hR := Lib.hid hr
  clear hr
  go_enter Try.func11, Try.ntmps11
  go_wp2_with fail
  refine HM.out.mono ?_
  rintro e w1 ⟨p1, c1, rfl, ho1, hb1⟩
  have hp1 := hp.past hb1
  go_wp2_with fail
  refine (refCheckNat_any p _ c xs _ hp1 rfl (by omega)).mono ?_
  rintro e w2 ⟨rfl, rfl⟩
  rw [hE.out]
  go_wp2_with fail
  refine (refOf_any p _ c xs _ hp1 rfl HX.out (by omega)).mono ?_
  rintro e w3 ⟨p3, c3, rfl, ho3, -, -, hb3⟩
  go_wp2_with fail
  refine (refUp_any p3 _ c3 _ N _ ho3 rfl (by omega) (by omega)).mono ?_
  rw [hR.out]
  rintro e w5 ⟨p5, c5, rfl, ho5, -, -, hb5⟩
  go_wp2_with fail
  refine (long_any p5 _ c5 r _ ho5 rfl (by omega)).mono ?_
  rintro e w6 ⟨rfl, hb6⟩
  go_wp2_with fail
  refine (natBegun_any _).mono ?_
  rintro e w7 ⟨rfl, hb7⟩
  have hs3 := hb1.trans (hb3.mono hb1.size)
  have hs5 := hs3.trans (hb5.mono hs3.size)
  have hs6 := hs5.trans (hb6.mono hs5.size)
  have hs7 := hs6.trans (hb7.mono hs6.size)
  have hr7 := (((ho1.rd.past hb3).past hb5).past hb6).past hb7
  have hr5 := (ho5.past hb6).past hb7
  clear hb1 hb3 hb5 hb6 hb7 hs3 hs5 hs6
  go_wp2_with fail
  refine (natIs_any p1 p5 _ c1 _ c5 0 r _ hr7 (fun _ => ⟨hr5, rfl⟩) rfl (fun _ => by omega)).mono ?_
  rintro e w8 ⟨rfl, hb8⟩
  go_wp2_with fail
  go_ret
  exact ⟨rfl, hs7.trans (hb8.mono hs7.size)⟩

set_option maxHeartbeats 1000000 in
theorem lawShf_down (p : Option Addr) (n c : Nat) (xs : List Nat) (N : Nat) (w : World)
    (hp : Rd w .u32 p xs) (hn : n = xs.length) (hc : n ≤ c) (hx : ∀ x ∈ xs, x < B32) (he : errNat xs = 0) (hN : N ≤ 40000) (h0 : 0 < N) :
    Calls Try.prog 11 #[.slice p n c, .int .i64 (-(N : Int))] w fun e w' => e = .returned (.bool true) ∧ Below w.heap.size w w' := by
  subst hn
  obtain ⟨ex, lx⟩ := errNat_ok hx he
  have HM := Lib.hid (natShift_down2 p xs.length c (val B32 xs) N w (by rw [← ex]; exact hp) (by rw [← ex]) hc (by rw [← ex]; exact lx) hN h0)
  have hE := Lib.hid he
  have HX := Lib.hid hx
  have lxx := Nat.le_of_eq (dig_len_halves (val B32 xs)).symm
  rw [← ex] at lxx
  have hlm := dig_len_mono B16_two (Nat.div_le_self (val B32 xs) (2 ^ N))
  clear hx he ex
  generalize hr : val B32 xs / 2 ^ N = r at HM hlm
  have hR := Lib.hid hr
  clear hr
  go_enter Try.func11, Try.ntmps11
  go_wp2_with fail
  refine HM.out.mono ?_
  rintro e w1 ⟨p1, c1, rfl, ho1, hb1⟩
  have hp1 := hp.past hb1
  go_wp2_with fail
  refine (refCheckNat_any p _ c xs _ hp1 rfl (by omega)).mono ?_
  rintro e w2 ⟨rfl, rfl⟩
  rw [hE.out]
  go_wp2_with fail
  refine (refOf_any p _ c xs _ hp1 rfl HX.out (by omega)).mono ?_
  rintro e w3 ⟨p3, c3, rfl, ho3, -, -, hb3⟩
  go_wp2_with fail
  refine (refDown_any p3 _ c3 _ N _ ho3 rfl (by omega) (by omega)).mono ?_
  rw [hR.out]
  rintro e w5 ⟨p5, c5, rfl, ho5, -, -, hb5⟩
  go_wp2_with fail
  refine (long_any p5 _ c5 r _ ho5 rfl (by omega)).mono ?_
  rintro e w6 ⟨rfl, hb6⟩
  go_wp2_with fail
  refine (natBegun_any _).mono ?_
  rintro e w7 ⟨rfl, hb7⟩
  have hs3 := hb1.trans (hb3.mono hb1.size)
  have hs5 := hs3.trans (hb5.mono hs3.size)
  have hs6 := hs5.trans (hb6.mono hs5.size)
  have hs7 := hs6.trans (hb7.mono hs6.size)
  have hr7 := (((ho1.rd.past hb3).past hb5).past hb6).past hb7
  have hr5 := (ho5.past hb6).past hb7
  clear hb1 hb3 hb5 hb6 hb7 hs3 hs5 hs6
  go_wp2_with fail
  refine (natIs_any p1 p5 _ c1 _ c5 0 r _ hr7 (fun _ => ⟨hr5, rfl⟩) rfl (fun _ => by omega)).mono ?_
  rintro e w8 ⟨rfl, hb8⟩
  go_wp2_with fail
  go_ret
  exact ⟨rfl, hs7.trans (hb8.mono hs7.size)⟩



set_option maxHeartbeats 1000000 in
theorem lawShf_range (p : Option Addr) (n c : Nat) (xs : List Nat) (i : Int) (w : World)
    (hp : Rd w .u32 p xs) (hn : n = xs.length) (hl : xs.length ≤ 9223372036854775807) (he : errNat xs = 0) (hi : i < -40000 ∨ 40000 < i) :
    Calls Try.prog 11 #[.slice p n c, .int .i64 i] w fun e w' => e = .returned (.bool true) ∧ Below w.heap.size w w' := by
  subst hn
  have HM := Lib.hid (natShift_range p _ c xs i w hp rfl hl he hi)
  have hE := Lib.hid he
  have hE2 := Lib.hid (show (3 : Int) ≠ 0 by omega)
  clear he
  rcases hi with hi | hi
  · go_enter Try.func11, Try.ntmps11
    go_wp2_with fail
    refine HM.out.mono ?_
    rintro e w1 ⟨p1, c1, rfl, ho1, hb1⟩
    have hp1 := hp.past hb1
    go_wp2_with fail
    refine (refCheckNat_any p _ c xs _ hp1 rfl hl).mono ?_
    rintro e w2 ⟨rfl, rfl⟩
    try rw [hE.out]
    go_wp2_with fail
    refine (natBegun_any _).mono ?_
    rintro e w7 ⟨rfl, hb7⟩
    have hs7 := hb1.trans (hb7.mono hb1.size)
    go_wp2_with fail
    refine (natIs_err p1 none c1 0 0 3 _ hE2.out).mono ?_
    rintro e w8 ⟨rfl, hb8⟩
    go_wp2_with fail
    go_ret
    exact ⟨rfl, hs7.trans (hb8.mono hs7.size)⟩
  · go_enter Try.func11, Try.ntmps11
    go_wp2_with fail
    refine HM.out.mono ?_
    rintro e w1 ⟨p1, c1, rfl, ho1, hb1⟩
    have hp1 := hp.past hb1
    go_wp2_with fail
    refine (refCheckNat_any p _ c xs _ hp1 rfl hl).mono ?_
    rintro e w2 ⟨rfl, rfl⟩
    try rw [hE.out]
    go_wp2_with fail
    refine (natBegun_any _).mono ?_
    rintro e w7 ⟨rfl, hb7⟩
    have hs7 := hb1.trans (hb7.mono hb1.size)
    go_wp2_with fail
    refine (natIs_err p1 none c1 0 0 3 _ hE2.out).mono ?_
    rintro e w8 ⟨rfl, hb8⟩
    go_wp2_with fail
    go_ret
    exact ⟨rfl, hs7.trans (hb8.mono hs7.size)⟩

set_option maxHeartbeats 1000000 in
theorem lawShf_err (p : Option Addr) (n c : Nat) (xs : List Nat) (i : Int) (w : World)
    (hp : Rd w .u32 p xs) (hn : n = xs.length) (hl : xs.length ≤ 9223372036854775807) (he : errNat xs ≠ 0) :
    Calls Try.prog 11 #[.slice p n c, .int .i64 i] w fun e w' => e = .returned (.bool true) ∧ Below w.heap.size w w' := by
  subst hn
  have HM := Lib.hid (natShift_err p _ c xs i w hp rfl hl he)
  have hE := Lib.hid he
  have hE2 := Lib.hid he
  have hb : (errNat xs == 0) = false := by simpa using he
  clear he
  go_enter Try.func11, Try.ntmps11
  go_wp2_with fail
  refine HM.out.mono ?_
  rintro e w1 ⟨p1, c1, rfl, ho1, hb1⟩
  have hp1 := hp.past hb1
  go_wp2_with fail
  refine (refCheckNat_any p _ c xs _ hp1 rfl hl).mono ?_
  rintro e w2 ⟨rfl, rfl⟩
  try rw [hE.out]
  go_wp2_with fail
  refine (natBegun_any _).mono ?_
  rintro e w7 ⟨rfl, hb7⟩
  have hs7 := hb1.trans (hb7.mono hb1.size)
  go_wp2_with fail
  refine (natIs_err p1 none c1 0 0 (errNat xs) _ hE2.out).mono ?_
  rintro e w8 ⟨rfl, hb8⟩
  go_wp2_with fail
  go_ret
  exact ⟨rfl, hs7.trans (hb8.mono hs7.size)⟩

theorem lawShf_row (p : Option Addr) (n c : Nat) (xs : List Nat) (i : Int) (w : World)
    (hp : Rd w .u32 p xs) (hn : n = xs.length) (hl : xs.length ≤ 9223372036854775807) (hx : ∀ x ∈ xs, x < B32) (hc : n ≤ c) (_hw : (Lit.int .i64 i).wf = true) :
    Calls Try.prog 11 #[.slice p n c, .int .i64 i] w fun e w' => e = .returned (.bool true) ∧ Below w.heap.size w w' := by
  by_cases he : errNat xs = 0
  · by_cases hi : i < -40000 ∨ 40000 < i
    · exact lawShf_range p n c xs i w hp hn hl he hi
    · by_cases h0 : i < 0
      · obtain ⟨N, hN⟩ : ∃ N : Nat, i = -(N : Int) := ⟨(-i).toNat, by omega⟩
        subst hN
        exact lawShf_down p n c xs N w hp hn hc hx he (by omega) (by omega)
      · obtain ⟨N, hN⟩ : ∃ N : Nat, i = (N : Int) := ⟨i.toNat, by omega⟩
        subst hN
        exact lawShf_up p n c xs N w hp hn hx he (by omega)
  · exact lawShf_err p n c xs i w hp hn hl he

end Go.Proofs.Ytococmfcaobmhaa
