/- limb.Cmp, limb.Len, bits.Sub32, limb.Sub. -/
import Derived.Test.YtlegnbigddhmlaaZC
import Derived.Test.YtlegnbigddhmlaaZA
import Derived.Deep.LoopGhost
import Derived.Laws.BitsAllLaws
import Derived.Test.YtlegnbigddhmlaaZBits1
namespace Go.Proofs.Ytlegnbigddhmlaa
open Go.RowKit Go.Slip

theorem top_bit (x : Nat) (h : x < 4294967296) : x / 2147483648 = (x.testBit 31).toNat := by
  rw [Nat.toNat_testBit]; omega

theorem top_bit2 (x : Nat) (h : x < 4294967296) : x.testBit 31 = decide (2147483648 ≤ x) := by
  have := top_bit x h
  cases hb : x.testBit 31 <;> rw [hb] at this <;> simp at this <;> simp <;> omega

theorem owed_nat (x y c : Nat) (hx : x < 4294967296) (hy : y < 4294967296) (hc : c ≤ 1) :
    (((4294967295 ^^^ x) &&& y) ||| ((4294967295 ^^^ (x ^^^ y)) &&& subD x y c)) / 2147483648 = subB x y c := by
  have hd : subD x y c < 4294967296 := Nat.mod_lt _ (by omega)
  have h1 : ((4294967295 ^^^ x) &&& y) ||| ((4294967295 ^^^ (x ^^^ y)) &&& subD x y c) < 2 ^ 32 :=
    Nat.or_lt_two_pow (Nat.and_lt_two_pow _ (by omega)) (Nat.and_lt_two_pow _ (by omega))
  rw [top_bit _ (by omega)]
  simp only [Nat.testBit_or, Nat.testBit_and, Nat.testBit_xor]
  rw [top_bit2 x hx, top_bit2 y hy, top_bit2 _ hd, show Nat.testBit 4294967295 31 = true by decide]
  by_cases b1 : 2147483648 ≤ x <;> by_cases b2 : 2147483648 ≤ y <;> by_cases b3 : 2147483648 ≤ subD x y c <;> simp [b1, b2, b3, subB] <;> unfold subD at b3 <;> first | omega | (split <;> omega)

theorem owed (x y c : Nat) (hx : x < 4294967296) (hy : y < 4294967296) (hc : c ≤ 1) (d : Int) (hd : d = (subD x y c : Nat)) :
    bits .or .u32 (bits .and .u32 (bits .xor .u32 IntKind.u32.max x) y) (bits .and .u32 (bits .xor .u32 IntKind.u32.max (bits .xor .u32 x y)) d) / 2147483648 = (subB x y c : Nat) := by
  subst hd
  have hdl : subD x y c < 4294967296 := Nat.mod_lt _ (by omega)
  have e : IntKind.u32.max = ((4294967295 : Nat) : Int) := by decide
  have l1 : 4294967295 ^^^ x < 2 ^ 32 := Nat.xor_lt_two_pow (by omega) (by omega)
  have l2 : x ^^^ y < 2 ^ 32 := Nat.xor_lt_two_pow (by omega) (by omega)
  have l3 : 4294967295 ^^^ (x ^^^ y) < 2 ^ 32 := Nat.xor_lt_two_pow (by omega) (by omega)
  rw [e, u32_xor_nat _ _ (by omega) (by omega), u32_xor_nat _ _ (by omega) (by omega), u32_xor_nat _ _ (by omega) (by omega), u32_and_nat _ _ (by omega) (by omega), u32_and_nat _ _ (by omega) (by omega)]
  have l4 : (4294967295 ^^^ x) &&& y < 2 ^ 32 := Nat.and_lt_two_pow _ (by omega)
  have l5 : (4294967295 ^^^ (x ^^^ y)) &&& subD x y c < 2 ^ 32 := Nat.and_lt_two_pow _ (by omega)
  rw [u32_or_nat _ _ (by omega) (by omega), ← owed_nat x y c hx hy hc]
  rfl

set_option maxHeartbeats 400000 in
theorem sub32_any (x y c : Nat) (w : World) (hx : x < 4294967296) (hy : y < 4294967296) (hc : c ≤ 1) :
    Calls Try.prog 52 #[.int .u32 x, .int .u32 y, .int .u32 c] w fun e w' =>
      e = .returned (.tuple #[.int .u32 (subD x y c : Nat), .int .u32 (subB x y c : Nat)]) ∧ w = w' := by
  have hd : ((x : Int) - y - c) % 4294967296 = (subD x y c : Nat) := by unfold subD; omega
  have ho := Lib.hid (owed x y c hx hy hc _ hd)
  have hd := Lib.hid hd
  go_enter Try.func52, Try.ntmps52
  go_wp2
  go_ret2
  refine ⟨?_, rfl⟩
  rw [← ho.out, ← hd.out]
  rfl


theorem ret_cmp {a b : Nat} {c : Int} (h : cmpN a b = c) : Ending.returned (.int .i64 c) = .returned (.int .i64 (cmpN a b)) := by rw [h]

set_option maxHeartbeats 1000000 in
set_option maxRecDepth 100000 in
theorem cmp_any (p q : Option Addr) (n m c d : Nat) (a b : Nat) (w : World) (hp : Rd w .u32 p (dig B32 a)) (hq : Rd w .u32 q (dig B32 b)) (hn : n = (dig B32 a).length) (hm : m = (dig B32 b).length)
    (hl : (dig B32 a).length ≤ 1000000000) (hl2 : (dig B32 b).length ≤ 1000000000) :
    Calls Try.prog 42 #[.slice p n c, .slice q m d] w fun e w' => e = .returned (.int .i64 (cmpN a b)) ∧ Below w.heap.size w w' := by
  subst hn hm
  by_cases hlt : (dig B32 a).length < (dig B32 b).length
  · have H := Lib.hid (cmpN_lt (dig_len_lt B32_two hlt))
    go_enter Try.func42, Try.ntmps42
    go_wp2
    go_ret
    exact ⟨ret_cmp H.out, Below.refl _ _⟩
  · by_cases hgt : (dig B32 b).length < (dig B32 a).length
    · have H := Lib.hid (cmpN_gt (dig_len_lt B32_two hgt))
      go_enter Try.func42, Try.ntmps42
      go_wp2
      go_ret
      exact ⟨ret_cmp H.out, Below.refl _ _⟩
    · have hle : (dig B32 b).length = (dig B32 a).length := by omega
      have HXL := Lib.hid (dig_lt B32_two a)
      have HYL := Lib.hid (dig_lt B32_two b)
      have HA := Lib.hid (val_dig B32_two a)
      have HB := Lib.hid (val_dig B32_two b)
      rw [hle]
      have HL := Lib.hid hle
      have hly := Nat.le_of_eq hle.symm
      clear hlt hgt hle
      generalize dig B32 a = xs at *
      generalize dig B32 b = ys at *
      have hsx := hp.solid
      have hsy := hq.solid
      rw [HL.out] at hsy
      go_enter Try.func42, Try.ntmps42
      go_wp2
      go_loopw [5] (fun iv wr => ∃ (k : Nat), iv = .int .i64 ((k : Int) - 1) ∧ k ≤ xs.length ∧ Below w.heap.size w wr ∧ Hid (xs.drop k = ys.drop k)) (fun iv _ => (intOf iv + 1).toNat)
      case atStart => exact ⟨xs.length, rfl, Nat.le_refl _, Below.refl _ _, (show xs.drop _ = ys.drop _ by rw [List.drop_length, List.drop_of_length_le (by have := HL.out; omega)])⟩
      case round =>
        obtain ⟨k, rfl, hk, hb, HD⟩ := hrel
        by_cases h0 : 0 < k
        · obtain ⟨k, rfl⟩ : ∃ j, k = j + 1 := ⟨k - 1, by omega⟩
          have ej : ((k + 1 : Nat) : Int) - 1 = k := by omega
          rw [ej]
          have hxd := getD_lt (B := 4294967296) (by omega) xs HXL.out k
          have hyd := getD_lt (B := 4294967296) (by omega) ys HYL.out k
          have hc1 := (hp.past hb).cells k (by omega)
          have hc2 := (hq.past hb).cells k (by omega)
          have i1 : (k : Int) < (xs.length : Int) := by omega
          have i0 : (0 : Int) ≤ (k : Int) := by omega
          clear ej
          by_cases h1 : dg xs k < dg ys k
          · have H := Lib.hid (cmpN_lt (by have := val_cmp xs ys HXL.out k (by omega) HL.out.symm HD.out h1; rwa [HA.out, HB.out] at this))
            go_wp2_with fail
            go_quiet (fail)
            go_wp2_with fail
            go_quiet (fail)
            go_wp2
            go_ret
            exact ⟨ret_cmp H.out, hb.trans (below_drewN (below_drewN (Below.refl _ _) _) _)⟩
          · by_cases h2 : dg ys k < dg xs k
            · have H := Lib.hid (cmpN_gt (by have := val_cmp ys xs HYL.out k (by have := HL.out; omega) HL.out HD.out.symm h2; rwa [HA.out, HB.out] at this))
              go_wp2_with fail
              go_quiet (fail)
              go_wp2_with fail
              go_quiet (fail)
              go_wp2
              go_ret
              exact ⟨ret_cmp H.out, hb.trans (below_drewN (below_drewN (Below.refl _ _) _) _)⟩
            · have h3 : dg xs k = dg ys k := by omega
              have HE := Lib.hid (drop_eq_of (by omega) HL.out.symm HD.out h3)
              rw [← h3] at hc2
              clear h3 h1 h2
              go_wp2_with fail
              go_quiet (fail)
              go_wp2
              go_roundw
              case rel => exact ⟨k, rfl, by omega, hb.trans (below_drewN (Below.refl _ _) _), HE⟩
              case measure => first | (simp [intOf]; done) | (simp [intOf]; omega)
        · obtain rfl : k = 0 := by omega
          have H : cmpN a b = 0 := by
            have := HD.out
            simp only [List.drop_zero] at this
            rw [← HA.out, ← HB.out, this]; exact cmpN_eq _
          have H := Lib.hid H
          go_wp2
          go_ret
          exact ⟨ret_cmp H.out, hb⟩


theorem bitLen_blen (x : Nat) (h : x < 2 ^ 64) : Lib.bitLen x = blen x := by
  induction x using Nat.strongRecOn with
  | _ x ih =>
    by_cases h0 : x = 0
    · subst h0; rw [blen_zero]; decide
    · rw [Lib.bitLen_half x h0 h, blen_half x (by omega), ih (x / 2) (by omega) (by omega)]; omega

theorem len32_any (x : Nat) (w : World) (h1 : x < 4294967296) :
    Calls Try.prog 51 #[.int .u32 x] w fun e w' => e = .returned (.int .i64 (blen x : Nat)) ∧ w = w' := by
  have h := len32_int x w (by omega) (by omega)
  rw [Int.toNat_natCast, bitLen_blen x (by omega)] at h
  exact h

theorem len_any (p : Option Addr) (n c : Nat) (a : Nat) (w : World) (hp : Rd w .u32 p (dig B32 a)) (hn : n = (dig B32 a).length) (hl : (dig B32 a).length ≤ 1000000000) :
    Calls Try.prog 48 #[.slice p n c] w fun e w' => e = .returned (.int .i64 (blen a : Nat)) ∧ w = w' := by
  subst hn
  by_cases h0 : 0 < a
  · obtain ⟨hb, ht⟩ := blen_dig (B := B32) (s := 32) (by decide) B32_two a h0
    have hl0 : 0 < (dig B32 a).length := List.length_pos_iff.2 ((dig_spec B32_two a).2.2.2 h0)
    have HB := Lib.hid hb
    have hd := getD_lt (B := 4294967296) (by omega) _ (dig_lt B32_two a) ((dig B32 a).length - 1)
    clear hb
    generalize dig B32 a = xs at *
    have hs := hp.solid
    have hc := hp.cells (xs.length - 1) (by omega)
    have hbd : blen (dg xs (xs.length - 1)) ≤ 32 := (blen_le _ 32).2 (by omega)
    generalize dg xs (xs.length - 1) = d at *
    go_enter Try.func48, Try.ntmps48
    go_wp2_with (go_at_call 51; refine (len32_any d _ hd).mono ?_; rintro e w1 ⟨rfl, rfl⟩)
    go_ret
    rw [HB.out]
    exact ⟨ret_int (by omega), rfl⟩
  · obtain rfl : a = 0 := by omega
    rw [blen_zero]
    rw [dig_zero] at *
    go_enter Try.func48, Try.ntmps48
    go_wp2
    go_ret
    exact ⟨rfl, rfl⟩

end Go.Proofs.Ytlegnbigddhmlaa
