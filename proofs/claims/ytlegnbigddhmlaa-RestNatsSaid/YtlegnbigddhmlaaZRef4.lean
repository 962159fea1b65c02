/- The references' comparison, length in bits, difference. -/
import Derived.Test.YtlegnbigddhmlaaZRef3
import Derived.Test.YtlegnbigddhmlaaZLimb6
import Derived.Lib.Strings
import Derived.Lib.Slices
import Derived.Lib.Small
import Derived.Lib.Walk
import Derived.Lib.BitFns
namespace Go.Proofs.Ytlegnbigddhmlaa
open Go.RowKit Go.Slip

set_option maxHeartbeats 1000000 in
set_option maxRecDepth 100000 in
theorem refCmp_any (p q : Option Addr) (n m c d : Nat) (a b : Nat) (w : World) (hp : Rd w .i64 p (dig B16 a)) (hq : Rd w .i64 q (dig B16 b)) (hn : n = (dig B16 a).length) (hm : m = (dig B16 b).length)
    (hl : (dig B16 a).length ≤ 1000000000) (hl2 : (dig B16 b).length ≤ 1000000000) :
    Calls Try.prog 35 #[.slice p n c, .slice q m d] w fun e w' => e = .returned (.int .i64 (cmpN a b)) ∧ Below w.heap.size w w' := by
  subst hn hm
  by_cases hlt : (dig B16 a).length < (dig B16 b).length
  · have H := Lib.hid (cmpN_lt (dig_len_lt B16_two hlt))
    go_enter Try.func35, Try.ntmps35
    go_wp2
    go_ret
    exact ⟨ret_cmp H.out, Below.refl _ _⟩
  · by_cases hgt : (dig B16 b).length < (dig B16 a).length
    · have H := Lib.hid (cmpN_gt (dig_len_lt B16_two hgt))
      go_enter Try.func35, Try.ntmps35
      go_wp2
      go_ret
      exact ⟨ret_cmp H.out, Below.refl _ _⟩
    · have hle : (dig B16 b).length = (dig B16 a).length := by omega
      have HXL := Lib.hid (dig_lt B16_two a)
      have HYL := Lib.hid (dig_lt B16_two b)
      have HA := Lib.hid (val_dig B16_two a)
      have HB := Lib.hid (val_dig B16_two b)
      rw [hle]
      have HL := Lib.hid hle
      have hly := Nat.le_of_eq hle.symm
      clear hlt hgt hle
      generalize dig B16 a = xs at *
      generalize dig B16 b = ys at *
      have hsx := hp.solid
      have hsy := hq.solid
      rw [HL.out] at hsy
      go_enter Try.func35, Try.ntmps35
      go_wp2
      go_loopw [5] (fun iv wr => ∃ (k : Nat), iv = .int .i64 ((k : Int) - 1) ∧ k ≤ xs.length ∧ Below w.heap.size w wr ∧ Hid (xs.drop k = ys.drop k)) (fun iv _ => (intOf iv + 1).toNat)
      case atStart => exact ⟨xs.length, rfl, Nat.le_refl _, Below.refl _ _, (show xs.drop _ = ys.drop _ by rw [List.drop_length, List.drop_of_length_le (by have := HL.out; omega)])⟩
      case round =>
        obtain ⟨k, rfl, hk, hb, HD⟩ := hrel
        by_cases h0 : 0 < k
        · obtain ⟨k, rfl⟩ : ∃ j, k = j + 1 := ⟨k - 1, by omega⟩
          have ej : ((k + 1 : Nat) : Int) - 1 = k := by omega
          rw [ej]
          have hxd := getD_lt (B := 65536) (by omega) xs HXL.out k
          have hyd := getD_lt (B := 65536) (by omega) ys HYL.out k
          have hc1 := (hp.past hb).cells k (by omega)
          have hc2 := (hq.past hb).cells k (by omega)
          have i1 : (k : Int) < (xs.length : Int) := by omega
          have i0 : (0 : Int) ≤ (k : Int) := by omega
          clear ej
          by_cases h1 : dg xs k < dg ys k
          · have H := Lib.hid (cmpN_lt (by have := val_cmp xs ys HXL.out k (by omega) HL.out.symm HD.out h1; rwa [HA.out, HB.out] at this))
            go_wp2_with fail
            go_quiet (fail)
            go_wp2
            go_ret
            exact ⟨ret_cmp H.out, hb.trans (by first | exact below_drewN (Below.refl _ _) _ | exact below_drewN (below_drewN (Below.refl _ _) _) _)⟩
          · by_cases h2 : dg ys k < dg xs k
            · have H := Lib.hid (cmpN_gt (by have := val_cmp ys xs HYL.out k (by have := HL.out; omega) HL.out HD.out.symm h2; rwa [HA.out, HB.out] at this))
              go_wp2_with fail
              go_quiet (fail)
              go_wp2_with fail
              go_quiet (fail)
              go_wp2
              go_ret
              exact ⟨ret_cmp H.out, hb.trans (by first | exact below_drewN (Below.refl _ _) _ | exact below_drewN (below_drewN (Below.refl _ _) _) _)⟩
            · have h3 : dg xs k = dg ys k := by omega
              have HE := Lib.hid (drop_eq_of (by omega) HL.out.symm HD.out h3)
              rw [← h3] at hc2
              clear h3 h1 h2
              go_wp2_with fail
              go_quiet (fail)
              go_wp2_with fail
              go_quiet (fail)
              go_wp2
              go_roundw
              case rel => exact ⟨k, rfl, by omega, hb.trans (by first | exact below_drewN (Below.refl _ _) _ | exact below_drewN (below_drewN (Below.refl _ _) _) _), HE⟩
              case measure => first | (simp [intOf]; done) | (simp [intOf]; omega)
        · obtain rfl : k = 0 := by omega
          have H : cmpN a b = 0 := by
            have := HD.out
            simp only [List.drop_zero] at this
            rw [← HA.out, ← HB.out, this]; exact cmpN_eq _
          have H := Lib.hid H
          go_wp2
          go_ret
          exact ⟨ret_cmp H.out, hb⟩

end Go.Proofs.Ytlegnbigddhmlaa
