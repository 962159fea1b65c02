/- The references' numbers of machine numbers, and of decimal digits. -/
import Derived.Test.YtlegnbigddhmlaaZRef3
import Derived.Test.YtlegnbigddhmlaaZA
import Derived.Test.YtlegnbigddhmlaaZRef7
import Derived.Test.YtlegnbigddhmlaaZB
import Derived.Deep.LoopGhost
import Derived.Deep.RegionHeld3
namespace Go.Proofs.Ytlegnbigddhmlaa
open Go.RowKit Go.Slip

set_option maxHeartbeats 1000000 in
theorem refFrom_any (N : Nat) (w : World) (hN : N ≤ 9223372036854775807) :
    Calls Try.prog 36 #[.int .i64 N] w (GivesR w .i64 (dig B16 N)) := by
  have hlN : (dig B16 N).length ≤ 4 := (dig_len_le B16_two N 4).2 (by unfold B16; omega)
  go_enter Try.func36, Try.ntmps36
  go_wp2
  go_loopg [0, 3] N (fun g nv ov wr => ∃ (m : Nat) (t : Option Addr) (e : Nat) (O : List Nat), nv = .int .i64 m ∧ ov = .slice t O.length e ∧ m ≤ g ∧ m ≤ 9223372036854775807 ∧ Hid (O ++ dig B16 m = dig B16 N) ∧
      Own wr w.heap.size .i64 3 t e O ∧ Below w.heap.size w wr)
  case atStart => exact ⟨N, none, 0, [], rfl, rfl, Nat.le_refl _, hN, rfl, Own.nil _ _ _ _, Below.refl _ _⟩
  case round =>
    obtain ⟨m, t, e, O, rfl, rfl, hg, hm, HR, hoq, hb⟩ := hrel
    have hOl : O.length ≤ 4 := by have := congrArg List.length HR.out; rw [List.length_append] at this; omega
    by_cases h0 : 0 < m
    · have HS : Hid ((O ++ [m % B16]) ++ dig B16 (m / B16) = dig B16 N) := by
        show _ = _
        rw [← HR.out, dig_pos B16_two h0, List.append_assoc]; rfl
      go_wp2_with (first
        | (refine wpl_build1 rfl _ _ rfl tyN _ ?_ rfl ?_; omega; intro p2 w2 ho2 hb2 hz2 hp2)
        | (at_builtin; refine wpl_append rfl _ _ _ rfl tyN _ _ _ _ _ (hoq.past hb2) rfl _ _ _ _ ho2.rd rfl rfl rfl ?_ ?_ ?_; (simp; omega); (have := hb2.size; have := hb.size; omega); intro p3 c3 w3 ho3 hg3 hb3 hn3))
      have hb4 := hb.trans ((hb2.mono hb.size).trans hb3)
      have e4 : ((m : Int) % 65536).toNat = m % B16 := by unfold B16; omega
      rw [e4] at ho3
      go_roundg (m / 65536)
      case measure => omega
      case rel => exact ⟨m / 65536, p3, c3, _, by go_num, by simp, Nat.le_refl _, by omega, HS, ho3, hb4⟩
    · obtain rfl : m = 0 := by omega
      have HD : Hid (O = dig B16 N) := by show _ = _; rw [← HR.out, dig_zero, List.append_nil]
      go_wp2
      go_ret
      exact givesR_of HD.out rfl hoq hb

theorem numOf_take_len (s : ByteArray) (hd : AllDig s) (k : Nat) (hk : k ≤ s.size) : (dig B16 (numOf ((bytesOf s).take k))).length ≤ k := by
  rw [dig_len_le B16_two]
  have h1 := numOf_lt ((bytesOf s).take k) (fun j hj => by
    rw [List.length_take, bytesOf_length] at hj
    rw [dg_take (by omega)]
    exact (hd j (by omega)).2)
  rw [List.length_take, bytesOf_length, Nat.min_eq_left hk] at h1
  exact Nat.lt_of_lt_of_le h1 (Nat.pow_le_pow_left (by unfold B16; omega) k)

theorem dig_ten : dig B16 10 = [10] := dig_small B16_two (by omega) (by unfold B16; omega)

end Go.Proofs.Ytlegnbigddhmlaa
