/- nat.Shift. -/
import Derived.Test.YtlegnbigddhmlaaZNat6
import Derived.Test.YtlegnbigddhmlaaZC
namespace Go.Proofs.Ytlegnbigddhmlaa
open Go.RowKit Go.Slip

theorem dig_len_pow32 (N : Nat) : (dig B32 (2 ^ N)).length = N / 32 + 1 := by
  rw [← pow2_dig (B := B32) (w := 32) (by decide) (by omega) N]; simp

set_option maxHeartbeats 1000000 in
theorem natShift_up (p : Option Addr) (n c : Nat) (a N : Nat) (w : World) (hp : Rd w .u32 p (dig B32 a)) (hn : n = (dig B32 a).length) (hl : (dig B32 a).length ≤ 1200) (hN : N ≤ 40000) :
    Calls Try.prog 10 #[.slice p n c, .int .i64 N] w (GivesE w (natL 0 (a * 2 ^ N)) (natE 0 (a * 2 ^ N))) := by
  subst hn
  have hE := Lib.hid (errNat_dig hl)
  have hlm : (dig B32 (a * 2 ^ N)).length ≤ 1000000000 := by
    refine Nat.le_trans (dig_len_mul B32_two _ _) ?_
    rw [dig_len_pow32]
    omega
  go_enter Try.func10, Try.ntmps10
  go_wp2_with fail
  refine (check1_new p c _ _ _ hp rfl (by omega)).mono ?_
  rintro e w1 ⟨rfl, rfl⟩
  rw [hE.out]
  go_wp2_with fail
  refine (shl_any p _ c a N _ (hp.laid _) rfl (by omega) (by omega)).mono ?_
  rintro e w2 ⟨p2, c2, rfl, ho2, hb2⟩
  go_wp2_with fail
  refine (natDone_any p2 _ c2 w2 _ (a * 2 ^ N) ho2 rfl (by omega)).mono ?_
  rintro e w3 ⟨⟨p3, c3, rfl, ho3⟩, rfl⟩
  go_wp2_with fail
  go_ret2
  exact ⟨p3, c3, rfl, ho3.mono (by simp), (((Below.refl _ _).alloc (Nat.le_refl _) _)).trans (hb2.mono (by simp))⟩

set_option maxHeartbeats 1000000 in
theorem natShift_down (p : Option Addr) (n c : Nat) (a N : Nat) (w : World) (hp : Rd w .u32 p (dig B32 a)) (hn : n = (dig B32 a).length) (hc : n ≤ c) (hl : (dig B32 a).length ≤ 1200) (hN : N ≤ 40000) (h0 : 0 < N) :
    Calls Try.prog 10 #[.slice p n c, .int .i64 (-(N : Int))] w (GivesE w (dig B32 (a / 2 ^ N)) 0) := by
  subst hn
  have hE := Lib.hid (errNat_dig hl)
  go_enter Try.func10, Try.ntmps10
  go_wp2_with fail
  refine (check1_new p c _ _ _ hp rfl (by omega)).mono ?_
  rintro e w1 ⟨rfl, rfl⟩
  rw [hE.out]
  go_wp2_with fail
  refine (shr_any p _ c a N _ (hp.laid _) rfl hc (by omega) (by omega)).mono ?_
  rintro e w2 ⟨p2, c2, rfl, ho2, hb2⟩
  go_wp2_with fail
  go_ret2
  exact ⟨p2, c2, rfl, ho2.mono (by simp), (((Below.refl _ _).alloc (Nat.le_refl _) _)).trans (hb2.mono (by simp))⟩

theorem natShift_down2 (p : Option Addr) (n c : Nat) (a N : Nat) (w : World) (hp : Rd w .u32 p (dig B32 a)) (hn : n = (dig B32 a).length) (hc : n ≤ c) (hl : (dig B32 a).length ≤ 1200) (hN : N ≤ 40000) (h0 : 0 < N) :
    Calls Try.prog 10 #[.slice p n c, .int .i64 (-(N : Int))] w (GivesE w (natL 0 (a / 2 ^ N)) (natE 0 (a / 2 ^ N))) := by
  have eg := natE_good (e := 0) (r := a / 2 ^ N) rfl (Nat.le_trans (dig_len_mono B32_two (Nat.div_le_self _ _)) hl)
  rw [natL_good eg, eg]
  exact natShift_down p n c a N w hp hn hc hl hN h0

set_option maxHeartbeats 1000000 in
theorem natShift_range (p : Option Addr) (n c : Nat) (xs : List Nat) (i : Int) (w : World) (hp : Rd w .u32 p xs) (hn : n = xs.length) (hl : xs.length ≤ 9223372036854775807) (he : errNat xs = 0) (hi : i < -40000 ∨ 40000 < i) :
    Calls Try.prog 10 #[.slice p n c, .int .i64 i] w (GivesE w [] 3) := by
  subst hn
  have hE := Lib.hid he
  clear he
  rcases hi with hi | hi
  · go_enter Try.func10, Try.ntmps10
    go_wp2_with fail
    refine (check1_new p c _ _ _ hp rfl (by omega)).mono ?_
    rintro e w1 ⟨rfl, rfl⟩
    rw [hE.out]
    go_wp2_with fail
    go_ret2
    exact ⟨none, 0, rfl, Own.nil _ _ _ _, ((Below.refl _ _).alloc (Nat.le_refl _) _)⟩
  · go_enter Try.func10, Try.ntmps10
    go_wp2_with fail
    refine (check1_new p c _ _ _ hp rfl (by omega)).mono ?_
    rintro e w1 ⟨rfl, rfl⟩
    rw [hE.out]
    go_wp2_with fail
    go_ret2
    exact ⟨none, 0, rfl, Own.nil _ _ _ _, ((Below.refl _ _).alloc (Nat.le_refl _) _)⟩

set_option maxHeartbeats 1000000 in
theorem natShift_err (p : Option Addr) (n c : Nat) (xs : List Nat) (i : Int) (w : World) (hp : Rd w .u32 p xs) (hn : n = xs.length) (hl : xs.length ≤ 9223372036854775807) (he : errNat xs ≠ 0) :
    Calls Try.prog 10 #[.slice p n c, .int .i64 i] w (GivesE w [] (errNat xs)) := by
  subst hn
  have hb : (errNat xs == 0) = false := by simpa using he
  have hb2 : (errNat xs != 0) = true := by simpa using he
  clear he
  go_enter Try.func10, Try.ntmps10
  go_wp2_with fail
  refine (check1_new p c _ _ _ hp rfl (by omega)).mono ?_
  rintro e w1 ⟨rfl, rfl⟩
  go_wp2_with fail
  go_ret2
  exact ⟨none, 0, rfl, Own.nil _ _ _ _, ((Below.refl _ _).alloc (Nat.le_refl _) _)⟩

end Go.Proofs.Ytlegnbigddhmlaa
