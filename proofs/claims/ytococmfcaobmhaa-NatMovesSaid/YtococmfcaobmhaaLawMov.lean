/- The law NatMoves: its walk. -/
import Derived.Test.YtococmfcaobmhaaLaw0
import Derived.Test.YtococmfcaobmhaaNat8
namespace Go.Proofs.Ytococmfcaobmhaa
open Go.RowKit Go.Slip

/-- Which of n things a raw number speaks of. -/
def chs (c : Int) (n : Nat) : Nat := ((if c < 0 then -(c + 1) else c) % (n : Int)).toNat

theorem chs_lt (c : Int) (n : Nat) (h : 0 < n) : chs c n < n := by
  unfold chs
  have h1 := Int.emod_lt_of_pos (if c < 0 then -(c + 1) else c) (show (0 : Int) < (n : Int) by omega)
  have h2 := Int.emod_nonneg (if c < 0 then -(c + 1) else c) (show (n : Int) ≠ 0 by omega)
  omega

theorem choose_any (i : Int) (n : Nat) (w : World) (hi : -9223372036854775808 ≤ i ∧ i ≤ 9223372036854775807) (hn : 0 < n) (hn2 : n ≤ 1000000000) :
    Calls Try.prog 44 #[.int .i64 i, .int .i64 n] w fun e w' => e = .returned (.int .i64 (chs i n : Nat)) ∧ w = w' := by
  by_cases h : i < 0
  · have hc : ((chs i n : Nat) : Int) = (-(i + 1)) % (n : Int) := by
      unfold chs; rw [if_pos h, Int.toNat_of_nonneg (Int.emod_nonneg _ (by omega))]
    have HC := Lib.hid hc
    clear hc
    go_enter Try.func44, Try.ntmps44
    go_wp2
    go_ret
    refine ⟨ret_int ?_, rfl⟩
    rw [HC.out, ← Int.neg_tmod, Int.tmod_eq_emod_of_nonneg (by omega)]
  · have hc : ((chs i n : Nat) : Int) = i % (n : Int) := by
      unfold chs; rw [if_neg h, Int.toNat_of_nonneg (Int.emod_nonneg _ (by omega))]
    have HC := Lib.hid hc
    clear hc
    go_enter Try.func44, Try.ntmps44
    go_wp2
    go_ret
    exact ⟨ret_int HC.out.symm, rfl⟩


theorem bits_good {r : Nat} (h : (dig B32 r).length ≤ 1200) : errNat (dig B32 r) = 0 ∧ bitsS (dig B32 r) = (blen r : Nat) := by
  have h1 := errNat_dig h
  exact ⟨h1, by unfold bitsS; rw [if_pos h1, val_dig B32_two]⟩

theorem natBits_good (p : Option Addr) (n c : Nat) (r : Nat) (w : World) (hp : Rd w .u32 p (dig B32 r)) (hn : n = (dig B32 r).length) (hl : (dig B32 r).length ≤ 1200) :
    Calls Try.prog 31 #[.slice p n c] w fun e w' => e = .returned (.tuple #[.int .i64 (blen r : Nat), .int .i64 0]) ∧ Below w.heap.size w w' := by
  have h := natBits_any p n c _ w hp hn (by omega) (dig_lt B32_two r)
  rw [(bits_good hl).1, (bits_good hl).2] at h
  exact h

theorem blen_mul_pow (a N : Nat) (h : 0 < a) : blen (a * 2 ^ N) = blen a + N := by
  have h1 := blen_pow a h
  have h2 := (blen_le a (blen a)).1 (Nat.le_refl _)
  have h3 := (blen_pos a).2 h
  obtain ⟨m, hm⟩ : ∃ m, blen a = m + 1 := ⟨blen a - 1, by omega⟩
  rw [hm] at h1 h2 ⊢
  have e : blen (a * 2 ^ N) = (m + N) + 1 := by
    refine blen_eq ?_ ?_
    · rw [Nat.pow_add]; exact Nat.mul_le_mul_right _ h1
    · rw [show m + N + 1 = (m + 1) + N by omega, Nat.pow_add]; exact Nat.mul_lt_mul_of_pos_right h2 (Nat.pow_pos (by omega))
  omega

/-- A shift back. -/
theorem natShift_back (p : Option Addr) (n c : Nat) (a N : Nat) (w : World) (hp : Rd w .u32 p (dig B32 (a * 2 ^ N))) (hn : n = (dig B32 (a * 2 ^ N)).length) (hc : n ≤ c) (hl : (dig B32 (a * 2 ^ N)).length ≤ 1200) (hN : N ≤ 40000) :
    Calls Try.prog 39 #[.slice p n c, .int .i64 (-(N : Int))] w (GivesE w (dig B32 a) 0) := by
  by_cases h0 : 0 < N
  · have h := natShift_down p n c _ N w hp hn hc hl hN h0
    rw [Nat.mul_div_cancel _ (Nat.pow_pos (by omega))] at h
    exact h
  · obtain rfl : N = 0 := by omega
    rw [Nat.pow_zero, Nat.mul_one] at *
    have h := natShift_up p n c a 0 w hp hn hl (by omega)
    rw [Nat.pow_zero, Nat.mul_one] at h
    have eg := natE_good (e := 0) rfl hl
    rw [natL_good eg, eg] at h
    exact h

theorem natShift_good (p : Option Addr) (n c : Nat) (a N : Nat) (w : World) (hp : Rd w .u32 p (dig B32 a)) (hn : n = (dig B32 a).length) (hl : (dig B32 a).length ≤ 1200) (hN : N ≤ 40000) (hr : (dig B32 (a * 2 ^ N)).length ≤ 1200) :
    Calls Try.prog 39 #[.slice p n c, .int .i64 N] w (GivesE w (dig B32 (a * 2 ^ N)) 0) := by
  have h := natShift_up p n c a N w hp hn hl hN
  have eg := natE_good (e := 0) rfl hr
  rw [natL_good eg, eg] at h
  exact h

theorem blen_le_len {a k : Nat} (h : (dig B32 a).length ≤ k) : blen a ≤ 32 * k := (blen_le _ _).2 (by
  have := (dig_len_le B32_two a k).1 h
  rwa [show B32 = 2 ^ 32 from rfl, ← Nat.pow_mul] at this)

theorem dig_one : dig B32 1 = [1] := (dig_eq B32_two [1] 1 (by unfold B32; simp) (by simp [Tight]) (by simp)).symm

set_option maxHeartbeats 2000000 in
set_option maxRecDepth 100000 in
theorem lawMov_good (p : Option Addr) (n c : Nat) (a : Nat) (i : Int) (w : World)
    (hp : Rd w .u32 p (dig B32 a)) (hn : n = (dig B32 a).length) (hl : (dig B32 a).length ≤ 1200) (hw : -9223372036854775808 ≤ i ∧ i ≤ 9223372036854775807) (hr : (dig B32 (a * 2 ^ chs i 3000)).length ≤ 1200) :
    Calls Try.prog 13 #[.slice p n c, .int .i64 i] w fun e w' => e = .returned (.bool true) ∧ Below w.heap.size w w' := by
  subst hn
  have HC := Lib.hid (fun w => choose_any i 3000 w hw (by omega) (by omega))
  have hN := chs_lt i 3000 (by omega)
  generalize chs i 3000 = N at *
  have HB := Lib.hid (natBits_good p _ c a · · rfl hl)
  have HB2 := Lib.hid (natBits_good · _ · (a * 2 ^ N) · · rfl hr)
  have hu1 := blen_le_len hl
  have ha : (blen a ≤ 0 ∧ blen (a * 2 ^ N) ≤ 0) ∨ (0 < blen a ∧ blen (a * 2 ^ N) ≤ blen a + N ∧ blen a + N ≤ blen (a * 2 ^ N)) := by
    rcases Nat.eq_zero_or_pos a with h | h
    · left; rw [h, Nat.zero_mul, blen_zero]; omega
    · right
      have := (blen_pos a).2 h
      rw [blen_mul_pow a N h]; omega
  generalize blen a = u at *
  generalize blen (a * 2 ^ N) = v at *
  go_enter Try.func13, Try.ntmps13
  go_wp2_with fail
  refine (natBegun_any _).mono ?_
  rintro e w1 ⟨rfl, hb1⟩
  go_wp2_with fail
  refine (HC.out _).mono ?_
  rintro e w2 ⟨rfl, rfl⟩
  go_wp2_with fail
  refine (natShift_good p _ c a N _ (hp.past hb1) rfl hl (by omega) hr).mono ?_
  rintro e w2 ⟨p2, c2, rfl, ho2, hb2⟩
  have hs2 := hb1.trans (hb2.mono hb1.size)
  go_wp2_with (refine wpl_build1 rfl _ _ (by rfl) tyNat 1 (by omega) (by rfl) ?_; intro p3 w3 ho3 hb3 hz3 hp3)
  have hs3 := hs2.trans (hb3.mono hs2.size)
  have hr2 := ho2.rd.past hb3
  have hcc2 := ho2.le_cap
  have hr3 : Rd w3 .u32 p3 (dig B32 1) := by rw [dig_one]; exact ho3.rd
  clear ho2 ho3 hb1 hb2 hb3 hs2
  refine (natShift_good p3 1 1 1 N _ hr3 (by rw [dig_one]; rfl) (by rw [dig_one]; simp) (by omega) (by rw [Nat.one_mul, dig_len_pow32]; omega)).mono ?_
  rw [Nat.one_mul]
  rintro e w4 ⟨p4, c4, rfl, ho4, hb4⟩
  have hs4 := hs3.trans (hb4.mono hs3.size)
  have hr4 := hr2.past hb4
  clear hb4 hs3 hr2 hr3
  go_wp2_with fail
  refine (natMul_good p p4 _ c _ c4 a (2 ^ N) _ (hp.past hs4) ho4.rd rfl rfl hl (by rw [dig_len_pow32]; omega) hr).mono ?_
  rintro e w5 ⟨p5, c5, rfl, ho5, hb5⟩
  have hs5 := hs4.trans (hb5.mono hs4.size)
  have hr5 := hr4.past hb5
  clear hb5 hs4 hr4 ho4
  go_wp2_with fail
  refine (natShift_back p2 _ c2 a N _ hr5 rfl hcc2 hr (by omega)).mono ?_
  rintro e w6 ⟨p6, c6, rfl, ho6, hb6⟩
  have hs6 := hs5.trans (hb6.mono hs5.size)
  have hr6 := hr5.past hb6
  have ho5 := ho5.past hb6
  clear hb6 hs5 hr5
  go_wp2_with fail
  refine (HB.out _ (hp.past hs6)).mono ?_
  rintro e w7 ⟨rfl, hb7⟩
  have hs7 := hs6.trans (hb7.mono hs6.size)
  have hr7 := hr6.past hb7
  have ho5 := ho5.past hb7
  have ho6 := ho6.past hb7
  clear hb7 hs6 hr6
  go_wp2_with fail
  refine (HB2.out p2 c2 _ hr7).mono ?_
  rintro e w8 ⟨rfl, hb8⟩
  have hs8 := hs7.trans (hb8.mono hs7.size)
  have hr8 := hr7.past hb8
  have ho5 := ho5.past hb8
  have ho6 := ho6.past hb8
  clear hb8 hs7 hr7
  go_wp2_with fail
  refine (refSameNat_any p2 p5 _ c2 _ c5 _ _ _ hr8 ho5.rd rfl rfl rfl (by omega)).mono ?_
  rintro e w9 ⟨rfl, hb9⟩
  have hs9 := hs8.trans (hb9.mono hs8.size)
  have ho6 := ho6.past hb9
  clear hb9 hs8 hr8 ho5
  go_wp2_with fail
  refine (refSameNat_any p6 p _ c6 _ c _ _ _ ho6.rd (hp.past hs9) rfl rfl rfl (by omega)).mono ?_
  rintro e w10 ⟨rfl, hb10⟩
  have hs10 := hs9.trans (hb10.mono hs9.size)
  clear hb10 hs9 ho6
  rcases ha with ⟨h1, h2⟩ | ⟨h1, h2, h3⟩
  · go_wp2_with fail
    go_ret
    exact ⟨rfl, hs10⟩
  · obtain rfl : v = u + N := by omega
    clear h2 h3
    go_wp2_with fail
    go_ret
    exact ⟨rfl, hs10⟩

set_option maxHeartbeats 1000000 in
set_option maxRecDepth 100000 in
theorem lawMov_long (p : Option Addr) (n c : Nat) (a : Nat) (i : Int) (w : World)
    (hp : Rd w .u32 p (dig B32 a)) (hn : n = (dig B32 a).length) (hl : (dig B32 a).length ≤ 1200) (hw : -9223372036854775808 ≤ i ∧ i ≤ 9223372036854775807) (hr : natE 0 (a * 2 ^ chs i 3000) ≠ 0) :
    Calls Try.prog 13 #[.slice p n c, .int .i64 i] w fun e w' => e = .returned (.bool true) ∧ Below w.heap.size w w' := by
  subst hn
  have HC := Lib.hid (fun w => choose_any i 3000 w hw (by omega) (by omega))
  have hN := chs_lt i 3000 (by omega)
  generalize chs i 3000 = N at *
  have hb : (natE 0 (a * 2 ^ N) == 0) = false := by simpa using hr
  have hb' : (natE 0 (a * 2 ^ N) != 0) = true := by simpa using hr
  clear hr
  go_enter Try.func13, Try.ntmps13
  go_wp2_with fail
  refine (natBegun_any _).mono ?_
  rintro e w1 ⟨rfl, hb1⟩
  go_wp2_with fail
  refine (HC.out _).mono ?_
  rintro e w2 ⟨rfl, rfl⟩
  go_wp2_with fail
  refine (natShift_up p _ c a N _ (hp.past hb1) rfl hl (by omega)).mono ?_
  rintro e w2 ⟨p2, c2, rfl, ho2, hb2⟩
  have hs2 := hb1.trans (hb2.mono hb1.size)
  go_wp2_with fail
  go_ret
  exact ⟨rfl, hs2⟩

set_option maxHeartbeats 1000000 in
set_option maxRecDepth 100000 in
theorem lawMov_err (p : Option Addr) (n c : Nat) (xs : List Nat) (i : Int) (w : World)
    (hp : Rd w .u32 p xs) (hn : n = xs.length) (hl : xs.length ≤ 9223372036854775807) (hw : -9223372036854775808 ≤ i ∧ i ≤ 9223372036854775807) (he : errNat xs ≠ 0) :
    Calls Try.prog 13 #[.slice p n c, .int .i64 i] w fun e w' => e = .returned (.bool true) ∧ Below w.heap.size w w' := by
  subst hn
  have HC := Lib.hid (fun w => choose_any i 3000 w hw (by omega) (by omega))
  have HS := Lib.hid he
  have hb : (errNat xs == 0) = false := by simpa using he
  have hb' : (errNat xs != 0) = true := by simpa using he
  clear he
  generalize chs i 3000 = N at *
  go_enter Try.func13, Try.ntmps13
  go_wp2_with fail
  refine (natBegun_any _).mono ?_
  rintro e w1 ⟨rfl, hb1⟩
  go_wp2_with fail
  refine (HC.out _).mono ?_
  rintro e w2 ⟨rfl, rfl⟩
  go_wp2_with fail
  refine (natShift_err p _ c xs N _ (hp.past hb1) rfl hl HS.out).mono ?_
  rintro e w2 ⟨p2, c2, rfl, ho2, hb2⟩
  have hs2 := hb1.trans (hb2.mono hb1.size)
  go_wp2_with fail
  go_ret
  exact ⟨rfl, hs2⟩

theorem int_range {i : Int} (h : (Lit.int .i64 i).wf = true) : -9223372036854775808 ≤ i ∧ i ≤ 9223372036854775807 := by
  simp [Lit.wf, IntKind.min, IntKind.max, IntKind.signed, IntKind.bits] at h
  omega

theorem lawMov_row (p : Option Addr) (n c : Nat) (xs : List Nat) (i : Int) (w : World)
    (hp : Rd w .u32 p xs) (hn : n = xs.length) (hl : xs.length ≤ 9223372036854775807) (hx : ∀ x ∈ xs, x < B32) (hw : (Lit.int .i64 i).wf = true) :
    Calls Try.prog 13 #[.slice p n c, .int .i64 i] w fun e w' => e = .returned (.bool true) ∧ Below w.heap.size w w' := by
  have hw := int_range hw
  by_cases he : errNat xs = 0
  · obtain ⟨ex, lx⟩ := errNat_ok hx he
    rw [ex] at hp hn lx
    by_cases hr : natE 0 (val B32 xs * 2 ^ chs i 3000) = 0
    · exact lawMov_good p n c _ i w hp hn lx hw (natE_zero hr).2
    · exact lawMov_long p n c _ i w hp hn lx hw hr
  · exact lawMov_err p n c xs i w hp hn hl hw he

end Go.Proofs.Ytococmfcaobmhaa
