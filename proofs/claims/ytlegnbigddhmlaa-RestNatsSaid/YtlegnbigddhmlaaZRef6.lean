/- The references' powers of 2 and shifts. -/
import Derived.Test.YtlegnbigddhmlaaZRef2
import Derived.Test.YtlegnbigddhmlaaZA
import Derived.Test.YtlegnbigddhmlaaZB
import Derived.Deep.LoopGhost
namespace Go.Proofs.Ytlegnbigddhmlaa
open Go.RowKit Go.Slip

set_option maxHeartbeats 1000000 in
theorem refPow2_any (N : Nat) (w : World) (hN : N ≤ 1000000000) :
    Calls Try.prog 34 #[.int .i64 N] w (GivesR w .i64 (dig B16 (2 ^ N))) := by
  have hs : N % 16 < 16 := Nat.mod_lt _ (by omega)
  have HD := Lib.hid (pow2_dig (B := B16) (w := 16) (by decide) (by omega) N)
  go_enter Try.func34, Try.ntmps34
  go_wp2_with (refine wpl_make rfl _ _ _ rfl tyN .i64 .i64 (N / 16 + 1) _ _ rfl rfl ?_ ?_ ?_ ?_; omega; omega; omega; intro p1 c1 w1 ho1 hb1 hz1)
  go_loop [4, 5] (fun dv iv => ∃ (i t : Nat), iv = .int .i64 i ∧ dv = .int .i64 t ∧ i ≤ N % 16 ∧ t ≤ 65536 ∧ Hid (t = 2 ^ i)) (fun _ iv => N % 16 - (intOf iv).toNat)
  case atStart => exact ⟨0, 1, rfl, rfl, Nat.zero_le _, by omega, rfl⟩
  case round =>
    obtain ⟨i, t, rfl, rfl, hi, ht, HT⟩ := hrel
    by_cases h1 : i < N % 16
    · have HS : Hid (2 * t = 2 ^ (i + 1)) := by show 2 * t = 2 ^ (i + 1); rw [HT.out, Nat.pow_succ]; omega
      have hb : 2 * t ≤ 65536 := by
        rw [HS.out]; exact Nat.pow_le_pow_right (show 0 < 2 by omega) (show i + 1 ≤ 16 by omega)
      go_wp2
      go_round
      case rel => exact ⟨i + 1, 2 * t, by go_num, by go_num, by omega, hb, HS⟩
      case measure => simp [intOf]; omega
    · obtain rfl : i = N % 16 := by omega
      have hso := ho1.solid
      rw [List.length_replicate] at hso
      have hsm := hso
      go_wp2_with (refine wpl_store rfl _ _ _ rfl 3 tyN _ _ _ _ ho1 (N / 16) (by simp) _ ?_ rfl rfl ?_; omega; intro w3 ho3 hg3 hb3)
      go_ret
      rw [Int.toNat_natCast, HT.out, HD.out] at ho3
      refine ⟨p1, c1, ?_, ho3.rd, ho3.le_cap, own_blk ho3, hb1.trans hb3⟩
      rw [← HD.out]; simp


theorem dig_len_pow2 (N : Nat) : (dig B16 (2 ^ N)).length = N / 16 + 1 := by
  rw [← pow2_dig (B := B16) (w := 16) (by decide) (by omega) N]; simp

set_option maxHeartbeats 1000000 in
theorem refUp_any (p : Option Addr) (n c : Nat) (a N : Nat) (w : World) (hp : Rd w .i64 p (dig B16 a)) (hn : n = (dig B16 a).length) (hl : (dig B16 a).length ≤ 100000000) (hN : N ≤ 1000000000) :
    Calls Try.prog 18 #[.slice p n c, .int .i64 N] w (GivesR w .i64 (dig B16 (a * 2 ^ N))) := by
  subst hn
  by_cases h0 : (dig B16 a).length = 0
  · have : a = 0 := (dig_len_zero B16_two a).1 h0
    subst this
    rw [Nat.zero_mul]
    rw [dig_zero] at *
    go_enter Try.func18, Try.ntmps18
    go_wp2
    go_ret
    exact ⟨none, 0, rfl, Rd.nil _ _ _, by simp, by simp, Below.refl _ _⟩
  · have hlp := Nat.le_of_eq (dig_len_pow2 N)
    have h1 : 1 ≤ (dig B16 a).length := by omega
    clear h0
    go_enter Try.func18, Try.ntmps18
    go_wp2_with fail
    refine (refPow2_any N _ hN).mono ?_
    rintro e w1 ⟨p1, c1, rfl, ho1, -, -, hb1⟩
    go_wp2_with fail
    refine (refTimes_any p p1 _ _ c c1 a (2 ^ N) _ (hp.past hb1) ho1 rfl rfl (by omega)).mono ?_
    rintro e w2 ⟨p2, c2, rfl, ho2, hc2, hn2, hb2⟩
    go_wp2_with fail
    go_ret
    exact ⟨p2, c2, rfl, ho2, hc2, fun h => Nat.le_trans hb1.size (hn2 h), hb1.trans (hb2.mono hb1.size)⟩

theorem down_done {O Y : List Nat} {N a : Nat} (h : DownRel B16 (2 ^ (N % 16)) O Y Y.length) (hY : val B16 Y = a / B16 ^ (N / 16)) : val B16 O = a / 2 ^ N := by
  rw [h.done, hY, shift_split (B := B16) (w := 16) (by decide)]

end Go.Proofs.Ytlegnbigddhmlaa
