/- The references' numbers of machine numbers, and of decimal digits. -/
import Derived.Test.YtococmfcaobmhaaRef3
import Derived.Test.YtococmfcaobmhaaNum5
import Derived.Test.YtococmfcaobmhaaRef7
import Derived.Test.YtococmfcaobmhaaBase3
import Derived.Test.YtococmfcaobmhaaNum6
import Derived.Deep.LoopGhost
import Derived.Deep.RegionHeld3
namespace Go.Proofs.Ytococmfcaobmhaa
open Go.RowKit Go.Slip

set_option maxHeartbeats 1000000 in
theorem refFrom_any (N : Nat) (w : World) (hN : N ≤ 9223372036854775807) :
    Calls Try.prog 59 #[.int .i64 N] w (GivesR w .i64 (dig B16 N)) := by
  have hlN : (dig B16 N).length ≤ 4 := (dig_len_le B16_two N 4).2 (by unfold B16; omega)
  go_enter Try.func59, Try.ntmps59
  go_wp2
  go_loopg [0, 3] N (fun g nv ov wr => ∃ (m : Nat) (t : Option Addr) (e : Nat) (O : List Nat), nv = .int .i64 m ∧ ov = .slice t O.length e ∧ m ≤ g ∧ m ≤ 9223372036854775807 ∧ Hid (O ++ dig B16 m = dig B16 N) ∧
      Own wr w.heap.size .i64 3 t e O ∧ Below w.heap.size w wr)
  case atStart => exact ⟨N, none, 0, [], rfl, rfl, Nat.le_refl _, hN, rfl, Own.nil _ _ _ _, Below.refl _ _⟩
  case round =>
    obtain ⟨m, t, e, O, rfl, rfl, hg, hm, HR, hoq, hb⟩ := hrel
    have hOl : O.length ≤ 4 := by have := congrArg List.length HR.out; rw [List.length_append] at this; omega
    by_cases h0 : 0 < m
    · have HS : Hid ((O ++ [m % B16]) ++ dig B16 (m / B16) = dig B16 N) := by
        show _ = _
        rw [← HR.out, dig_pos B16_two h0, List.append_assoc]; rfl
      go_wp2_with (first
        | (refine wpl_build1 rfl _ _ rfl tyN _ ?_ rfl ?_; omega; intro p2 w2 ho2 hb2 hz2 hp2)
        | (at_builtin; refine wpl_append rfl _ _ _ rfl tyN _ _ _ _ _ (hoq.past hb2) rfl _ _ _ _ ho2.rd rfl rfl rfl ?_ ?_ ?_; (simp; omega); (have := hb2.size; have := hb.size; omega); intro p3 c3 w3 ho3 hg3 hb3 hn3))
      have hb4 := hb.trans ((hb2.mono hb.size).trans hb3)
      have e4 : ((m : Int) % 65536).toNat = m % B16 := by unfold B16; omega
      rw [e4] at ho3
      go_roundg (m / 65536)
      case measure => omega
      case rel => exact ⟨m / 65536, p3, c3, _, by go_num, by simp, Nat.le_refl _, by omega, HS, ho3, hb4⟩
    · obtain rfl : m = 0 := by omega
      have HD : Hid (O = dig B16 N) := by show _ = _; rw [← HR.out, dig_zero, List.append_nil]
      go_wp2
      go_ret
      exact givesR_of HD.out rfl hoq hb

theorem refIsDigit_any (s : ByteArray) (j : Nat) (w : World) (hj : j < s.size) :
    Calls Try.prog 34 #[.string s, .int .i64 j] w fun e w' => e = .returned (.bool (decide (48 ≤ dg (bytesOf s) j ∧ dg (bytesOf s) j ≤ 57))) ∧ w = w' := by
  have hg := dg_bytesOf s j hj
  have hlt := getD_lt (B := 256) (by omega) _ (bytesOf_lt s) j
  generalize dg (bytesOf s) j = v at *
  by_cases h1 : 48 ≤ v
  · by_cases h2 : v ≤ 57
    · rw [show decide (48 ≤ v ∧ v ≤ 57) = true from decide_eq_true ⟨h1, h2⟩]
      go_enter Try.func34, Try.ntmps34
      go_wp2
      go_ret
      exact ⟨ret_bool (by simp; omega), rfl⟩
    · rw [show decide (48 ≤ v ∧ v ≤ 57) = false from decide_eq_false (fun h => h2 h.2)]
      go_enter Try.func34, Try.ntmps34
      go_wp2
      go_ret
      exact ⟨ret_bool (by simp; omega), rfl⟩
  · rw [show decide (48 ≤ v ∧ v ≤ 57) = false from decide_eq_false (fun h => h1 h.1)]
    go_enter Try.func34, Try.ntmps34
    go_wp2
    go_ret
    exact ⟨rfl, rfl⟩

def AllDig (s : ByteArray) : Prop := ∀ j, j < s.size → 48 ≤ dg (bytesOf s) j ∧ dg (bytesOf s) j ≤ 57

theorem numOf_take_len (s : ByteArray) (hd : AllDig s) (k : Nat) (hk : k ≤ s.size) : (dig B16 (numOf ((bytesOf s).take k))).length ≤ k := by
  rw [dig_len_le B16_two]
  have h1 := numOf_lt ((bytesOf s).take k) (fun j hj => by
    rw [List.length_take, bytesOf_length] at hj
    rw [dg_take (by omega)]
    exact (hd j (by omega)).2)
  rw [List.length_take, bytesOf_length, Nat.min_eq_left hk] at h1
  exact Nat.lt_of_lt_of_le h1 (Nat.pow_le_pow_left (by unfold B16; omega) k)

theorem dig_ten : dig B16 10 = [10] := dig_small B16_two (by omega) (by unfold B16; omega)

set_option maxHeartbeats 1000000 in
theorem refUndecimal_any (s : ByteArray) (w : World) (hs : s.size ≤ 100000000) (hd : AllDig s) :
    Calls Try.prog 35 #[.string s] w (GivesR w .i64 (dig B16 (numOf (bytesOf s)))) := by
  have HD := Lib.hid hd
  have HT := Lib.hid (bytesOf_length s)
  clear hd
  go_enter Try.func35, Try.ntmps35
  go_wp2
  go_loopg [3, 4] s.size (fun g av iv wr => ∃ (k : Nat) (t : Option Addr) (e : Nat) (a : Nat), iv = .int .i64 k ∧ av = .slice t (dig B16 a).length e ∧ g + k = s.size ∧ Hid (a = numOf ((bytesOf s).take k)) ∧
      Rd wr .i64 t (dig B16 a) ∧ (dig B16 a).length ≤ e ∧ (0 < (dig B16 a).length → w.heap.size ≤ blk t) ∧ Below w.heap.size w wr)
  case atStart => exact ⟨0, none, 0, 0, rfl, by rw [dig_zero]; rfl, by omega, (show 0 = numOf (List.take 0 _) by simp [numOf]), by rw [dig_zero]; exact Rd.nil _ _ _, by rw [dig_zero]; simp, by rw [dig_zero]; simp, Below.refl _ _⟩
  case round =>
    obtain ⟨k, t, e, a, rfl, rfl, hg, HA, hr, hc, hbk, hb⟩ := hrel
    have hal : (dig B16 a).length ≤ k := by rw [HA.out]; exact numOf_take_len s HD.out k (by omega)
    by_cases hlt : k < s.size
    · have hgt := dg_bytesOf s k hlt
      obtain ⟨hv1, hv2⟩ := HD.out k hlt
      obtain ⟨v, hv⟩ : ∃ v, dg (bytesOf s) k = v + 48 := ⟨dg (bytesOf s) k - 48, by omega⟩
      have HN : Hid (10 * a + v = numOf ((bytesOf s).take (k + 1))) := by
        show _ = _
        rw [numOf_take_succ _ _ (by rw [HT.out]; exact hlt), ← HA.out, hv]; omega
      rw [hv] at hgt
      have hv9 : v ≤ 9 := by omega
      clear hv hv1 hv2
      have hml := dig_len_mul B16_two a 10
      rw [dig_ten] at hml
      simp only [List.length_singleton] at hml
      have hvl : (dig B16 v).length ≤ 1 := (dig_len_le B16_two v 1).2 (by unfold B16; omega)
      have hvB : v ≤ 9223372036854775807 := by omega
      have hTB : (dig B16 a).length + (dig B16 10).length ≤ 1000000000 := by rw [dig_ten]; simp; omega
      have hPB : (dig B16 (a * 10)).length + (dig B16 v).length ≤ 1000000000 := by omega
      have e0 : IntKind.i64.wrap ((v : Int) + 48) = (v : Int) + 48 := IntWalk.i64_in _ (by omega)
      have e1 : IntKind.i64.wrap ((v : Int) + 48 - 48) = (v : Int) := by rw [show (v : Int) + 48 - 48 = v by omega]; exact IntWalk.i64_in _ (by omega)
      have e2 : IntKind.i64.wrap (v : Int) = (v : Int) := IntWalk.i64_in _ (by omega)
      have hten : Rd (wr.alloc (.cells #[.int .i64 10] 3)).drew .i64 (some ⟨wr.heap.size, 0, none⟩) (dig B16 10) := by rw [dig_ten]; exact (own_one wr .i64 3 10 (by decide)).drew.rd
      have hrt := (hr.laid (.cells #[.int .i64 10] 3)).drew
      have hone := Lib.hid (show 1 = (dig B16 10).length by rw [dig_ten]; rfl)
      have i0 : (0 : Int) ≤ (k : Int) := by omega
      have i1 : (k : Int) < (s.size : Int) := by omega
      go_wp2_with fail
      go_region_held3 (fun w' => True) (exact trivial)
        (first
          | (go_at_call 59; refine (refFrom_any v _ hvB).mono ?_; rintro e4 w4 ⟨p4, c4, rfl, ho4, -, -, hb4⟩)
          | (go_at_call 37; refine (refPlus_any p3 p4 _ _ c3 c4 (a * 10) v _ (ho3.past hb4) ho4 rfl rfl hPB).mono ?_; rintro e5 w5 ⟨p5, c5, rfl, ho5, hc5, hn5, hb5⟩)
          | (go_at_call 20; refine (refTimes_any t (some ⟨wr.heap.size, 0, none⟩) (dig B16 a).length 1 e 1 a 10 (wr.alloc (.cells #[.int .i64 10] 3)).drew hrt hten rfl hone.out hTB).mono ?_; rintro e3 w3 ⟨p3, c3, rfl, ho3, -, -, hb3⟩))
      all_goals
        have hA := hb.trans (((Below.refl w.heap.size wr).alloc hb.size (.cells #[.int .i64 10] 3)).drew)
        have h3 := hA.trans (hb3.mono hA.size)
        have h4 := h3.trans (hb4.mono h3.size)
        have h5 := h4.trans (hb5.mono h4.size)
        clear e0 e1 e2 hten hrt hb3 hb4 hb5
        rw [Nat.mul_comm a 10] at ho5 hc5 hn5 ⊢
        go_wp2
        go_roundg (s.size - 1 - k)
        case measure => omega
        case rel => exact ⟨k + 1, p5, c5, 10 * a + v, by go_num, rfl, by omega, HN, ho5, hc5, fun h => Nat.le_trans h4.size (hn5 h), h5⟩
    · obtain rfl : k = s.size := by omega
      have HE : Hid (a = numOf (bytesOf s)) := by
        show _ = _
        rw [HA.out, List.take_of_length_le (by rw [HT.out]; exact Nat.le_refl _)]
      go_wp2
      go_ret
      rw [← HE.out]
      exact ⟨t, e, rfl, hr, hc, hbk, hb⟩

end Go.Proofs.Ytococmfcaobmhaa
