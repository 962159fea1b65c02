/- limb.Cmp, limb.Len, bits.Sub32, limb.Sub.
   limb.Sub. -/
import Derived.Test.YtcbjidcpcompoaaDoorZC
import Derived.Test.YtcbjidcpcompoaaDoorZA
import Derived.Deep.LoopGhost
import Derived.Laws.BitsAllLaws
import Derived.Test.YtcbjidcpcompoaaDoorZBits1
namespace Go.Proofs.YtcbjidcpcompoaaDoor
open Go.RowKit Go.Slip

theorem top_bit (x : Nat) (h : x < 4294967296) : x / 2147483648 = (x.testBit 31).toNat := by
  rw [Nat.toNat_testBit]; omega

theorem top_bit2 (x : Nat) (h : x < 4294967296) : x.testBit 31 = decide (2147483648 ≤ x) := by
  have := top_bit x h
  cases hb : x.testBit 31 <;> rw [hb] at this <;> simp at this <;> simp <;> omega

theorem owed_nat (x y c : Nat) (hx : x < 4294967296) (hy : y < 4294967296) (hc : c ≤ 1) :
    (((4294967295 ^^^ x) &&& y) ||| ((4294967295 ^^^ (x ^^^ y)) &&& subD x y c)) / 2147483648 = subB x y c := by
  have hd : subD x y c < 4294967296 := Nat.mod_lt _ (by omega)
  have h1 : ((4294967295 ^^^ x) &&& y) ||| ((4294967295 ^^^ (x ^^^ y)) &&& subD x y c) < 2 ^ 32 :=
    Nat.or_lt_two_pow (Nat.and_lt_two_pow _ (by omega)) (Nat.and_lt_two_pow _ (by omega))
  rw [top_bit _ (by omega)]
  simp only [Nat.testBit_or, Nat.testBit_and, Nat.testBit_xor]
  rw [top_bit2 x hx, top_bit2 y hy, top_bit2 _ hd, show Nat.testBit 4294967295 31 = true by decide]
  by_cases b1 : 2147483648 ≤ x <;> by_cases b2 : 2147483648 ≤ y <;> by_cases b3 : 2147483648 ≤ subD x y c <;> simp [b1, b2, b3, subB] <;> unfold subD at b3 <;> first | omega | (split <;> omega)

theorem owed (x y c : Nat) (hx : x < 4294967296) (hy : y < 4294967296) (hc : c ≤ 1) (d : Int) (hd : d = (subD x y c : Nat)) :
    bits .or .u32 (bits .and .u32 (bits .xor .u32 IntKind.u32.max x) y) (bits .and .u32 (bits .xor .u32 IntKind.u32.max (bits .xor .u32 x y)) d) / 2147483648 = (subB x y c : Nat) := by
  subst hd
  have hdl : subD x y c < 4294967296 := Nat.mod_lt _ (by omega)
  have e : IntKind.u32.max = ((4294967295 : Nat) : Int) := by decide
  have l1 : 4294967295 ^^^ x < 2 ^ 32 := Nat.xor_lt_two_pow (by omega) (by omega)
  have l2 : x ^^^ y < 2 ^ 32 := Nat.xor_lt_two_pow (by omega) (by omega)
  have l3 : 4294967295 ^^^ (x ^^^ y) < 2 ^ 32 := Nat.xor_lt_two_pow (by omega) (by omega)
  rw [e, u32_xor_nat _ _ (by omega) (by omega), u32_xor_nat _ _ (by omega) (by omega), u32_xor_nat _ _ (by omega) (by omega), u32_and_nat _ _ (by omega) (by omega), u32_and_nat _ _ (by omega) (by omega)]
  have l4 : (4294967295 ^^^ x) &&& y < 2 ^ 32 := Nat.and_lt_two_pow _ (by omega)
  have l5 : (4294967295 ^^^ (x ^^^ y)) &&& subD x y c < 2 ^ 32 := Nat.and_lt_two_pow _ (by omega)
  rw [u32_or_nat _ _ (by omega) (by omega), ← owed_nat x y c hx hy hc]
  rfl

set_option maxHeartbeats 400000 in
theorem sub32_any (x y c : Nat) (w : World) (hx : x < 4294967296) (hy : y < 4294967296) (hc : c ≤ 1) :
    Calls Tryd.prog 78 #[.int .u32 x, .int .u32 y, .int .u32 c] w fun e w' =>
      e = .returned (.tuple #[.int .u32 (subD x y c : Nat), .int .u32 (subB x y c : Nat)]) ∧ w = w' := by
  have hd : ((x : Int) - y - c) % 4294967296 = (subD x y c : Nat) := by unfold subD; omega
  have ho := Lib.hid (owed x y c hx hy hc _ hd)
  have hd := Lib.hid hd
  go_enter Tryd.func78, Tryd.ntmps78
  go_wp2
  go_ret2
  refine ⟨?_, rfl⟩
  rw [← ho.out, ← hd.out]
  rfl


theorem ret_cmp {a b : Nat} {c : Int} (h : cmpN a b = c) : Ending.returned (.int .i64 c) = .returned (.int .i64 (cmpN a b)) := by rw [h]

set_option maxHeartbeats 1000000 in
set_option maxRecDepth 100000 in
theorem cmp_any (p q : Option Addr) (n m c d : Nat) (a b : Nat) (w : World) (hp : Rd w .u32 p (dig B32 a)) (hq : Rd w .u32 q (dig B32 b)) (hn : n = (dig B32 a).length) (hm : m = (dig B32 b).length)
    (hl : (dig B32 a).length ≤ 1000000000) (hl2 : (dig B32 b).length ≤ 1000000000) :
    Calls Tryd.prog 65 #[.slice p n c, .slice q m d] w fun e w' => e = .returned (.int .i64 (cmpN a b)) ∧ Below w.heap.size w w' := by
  subst hn hm
  by_cases hlt : (dig B32 a).length < (dig B32 b).length
  · have H := Lib.hid (cmpN_lt (dig_len_lt B32_two hlt))
    go_enter Tryd.func65, Tryd.ntmps65
    go_wp2
    go_ret
    exact ⟨ret_cmp H.out, Below.refl _ _⟩
  · by_cases hgt : (dig B32 b).length < (dig B32 a).length
    · have H := Lib.hid (cmpN_gt (dig_len_lt B32_two hgt))
      go_enter Tryd.func65, Tryd.ntmps65
      go_wp2
      go_ret
      exact ⟨ret_cmp H.out, Below.refl _ _⟩
    · have hle : (dig B32 b).length = (dig B32 a).length := by omega
      have HXL := Lib.hid (dig_lt B32_two a)
      have HYL := Lib.hid (dig_lt B32_two b)
      have HA := Lib.hid (val_dig B32_two a)
      have HB := Lib.hid (val_dig B32_two b)
      rw [hle]
      have HL := Lib.hid hle
      have hly := Nat.le_of_eq hle.symm
      clear hlt hgt hle
      generalize dig B32 a = xs at *
      generalize dig B32 b = ys at *
      have hsx := hp.solid
      have hsy := hq.solid
      rw [HL.out] at hsy
      go_enter Tryd.func65, Tryd.ntmps65
      go_wp2
      go_loopw [5] (fun iv wr => ∃ (k : Nat), iv = .int .i64 ((k : Int) - 1) ∧ k ≤ xs.length ∧ Below w.heap.size w wr ∧ Hid (xs.drop k = ys.drop k)) (fun iv _ => (intOf iv + 1).toNat)
      case atStart => exact ⟨xs.length, rfl, Nat.le_refl _, Below.refl _ _, (show xs.drop _ = ys.drop _ by rw [List.drop_length, List.drop_of_length_le (by have := HL.out; omega)])⟩
      case round =>
        obtain ⟨k, rfl, hk, hb, HD⟩ := hrel
        by_cases h0 : 0 < k
        · obtain ⟨k, rfl⟩ : ∃ j, k = j + 1 := ⟨k - 1, by omega⟩
          have ej : ((k + 1 : Nat) : Int) - 1 = k := by omega
          rw [ej]
          have hxd := getD_lt (B := 4294967296) (by omega) xs HXL.out k
          have hyd := getD_lt (B := 4294967296) (by omega) ys HYL.out k
          have hc1 := (hp.past hb).cells k (by omega)
          have hc2 := (hq.past hb).cells k (by omega)
          have i1 : (k : Int) < (xs.length : Int) := by omega
          have i0 : (0 : Int) ≤ (k : Int) := by omega
          clear ej
          by_cases h1 : dg xs k < dg ys k
          · have H := Lib.hid (cmpN_lt (by have := val_cmp xs ys HXL.out k (by omega) HL.out.symm HD.out h1; rwa [HA.out, HB.out] at this))
            go_wp2_with fail
            go_quiet (fail)
            go_wp2_with fail
            go_quiet (fail)
            go_wp2
            go_ret
            exact ⟨ret_cmp H.out, hb.trans (below_drewN (below_drewN (Below.refl _ _) _) _)⟩
          · by_cases h2 : dg ys k < dg xs k
            · have H := Lib.hid (cmpN_gt (by have := val_cmp ys xs HYL.out k (by have := HL.out; omega) HL.out HD.out.symm h2; rwa [HA.out, HB.out] at this))
              go_wp2_with fail
              go_quiet (fail)
              go_wp2_with fail
              go_quiet (fail)
              go_wp2
              go_ret
              exact ⟨ret_cmp H.out, hb.trans (below_drewN (below_drewN (Below.refl _ _) _) _)⟩
            · have h3 : dg xs k = dg ys k := by omega
              have HE := Lib.hid (drop_eq_of (by omega) HL.out.symm HD.out h3)
              rw [← h3] at hc2
              clear h3 h1 h2
              go_wp2_with fail
              go_quiet (fail)
              go_wp2
              go_roundw
              case rel => exact ⟨k, rfl, by omega, hb.trans (below_drewN (Below.refl _ _) _), HE⟩
              case measure => first | (simp [intOf]; done) | (simp [intOf]; omega)
        · obtain rfl : k = 0 := by omega
          have H : cmpN a b = 0 := by
            have := HD.out
            simp only [List.drop_zero] at this
            rw [← HA.out, ← HB.out, this]; exact cmpN_eq _
          have H := Lib.hid H
          go_wp2
          go_ret
          exact ⟨ret_cmp H.out, hb⟩


theorem bitLen_blen (x : Nat) (h : x < 2 ^ 64) : Lib.bitLen x = blen x := by
  induction x using Nat.strongRecOn with
  | _ x ih =>
    by_cases h0 : x = 0
    · subst h0; rw [blen_zero]; decide
    · rw [Lib.bitLen_half x h0 h, blen_half x (by omega), ih (x / 2) (by omega) (by omega)]; omega

theorem len32_any (x : Nat) (w : World) (h1 : x < 4294967296) :
    Calls Tryd.prog 76 #[.int .u32 x] w fun e w' => e = .returned (.int .i64 (blen x : Nat)) ∧ w = w' := by
  have h := len32_int x w (by omega) (by omega)
  rw [Int.toNat_natCast, bitLen_blen x (by omega)] at h
  exact h

theorem len_any (p : Option Addr) (n c : Nat) (a : Nat) (w : World) (hp : Rd w .u32 p (dig B32 a)) (hn : n = (dig B32 a).length) (hl : (dig B32 a).length ≤ 1000000000) :
    Calls Tryd.prog 63 #[.slice p n c] w fun e w' => e = .returned (.int .i64 (blen a : Nat)) ∧ w = w' := by
  subst hn
  by_cases h0 : 0 < a
  · obtain ⟨hb, ht⟩ := blen_dig (B := B32) (s := 32) (by decide) B32_two a h0
    have hl0 : 0 < (dig B32 a).length := List.length_pos_iff.2 ((dig_spec B32_two a).2.2.2 h0)
    have HB := Lib.hid hb
    have hd := getD_lt (B := 4294967296) (by omega) _ (dig_lt B32_two a) ((dig B32 a).length - 1)
    clear hb
    generalize dig B32 a = xs at *
    have hs := hp.solid
    have hc := hp.cells (xs.length - 1) (by omega)
    have hbd : blen (dg xs (xs.length - 1)) ≤ 32 := (blen_le _ 32).2 (by omega)
    generalize dg xs (xs.length - 1) = d at *
    go_enter Tryd.func63, Tryd.ntmps63
    go_wp2_with (go_at_call 76; refine (len32_any d _ hd).mono ?_; rintro e w1 ⟨rfl, rfl⟩)
    go_ret
    rw [HB.out]
    exact ⟨ret_int (by omega), rfl⟩
  · obtain rfl : a = 0 := by omega
    rw [blen_zero]
    rw [dig_zero] at *
    go_enter Tryd.func63, Tryd.ntmps63
    go_wp2
    go_ret
    exact ⟨rfl, rfl⟩

end Go.Proofs.YtcbjidcpcompoaaDoor

namespace Go.Proofs.YtcbjidcpcompoaaDoor
open Go.RowKit Go.Slip

set_option maxHeartbeats 1000000 in
set_option maxRecDepth 100000 in
theorem sub_any (p q : Option Addr) (n m c d : Nat) (a b : Nat) (w : World) (hp : Rd w .u32 p (dig B32 a)) (hq : Rd w .u32 q (dig B32 b)) (hn : n = (dig B32 a).length) (hm : m = (dig B32 b).length)
    (hl : (dig B32 a).length ≤ 1000000000) (hab : b ≤ a) :
    Calls Tryd.prog 66 #[.slice p n c, .slice q m d] w (Gives w .u32 66 (dig B32 (a - b))) := by
  subst hn hm
  have hge := dig_len_mono B32_two hab
  have H0 := Lib.hid (SubRel.start a (dig B32 b))
  have HY := Lib.hid (dig_lt B32_two b)
  have HV := Lib.hid (val_dig B32_two b)
  obtain ⟨xs, hxs⟩ : ∃ xs, xs = dig B32 a := ⟨_, rfl⟩
  rw [← hxs] at hp hl hge H0 ⊢
  clear hxs
  generalize dig B32 b = ys at *
  go_enter Tryd.func66, Tryd.ntmps66
  go_wp2_with (go_at_call 70; refine (clone_any _ _ _ xs _ hp rfl hl).mono ?_; rintro e w1 ⟨p1, c1, rfl, ho1, hb1⟩)
  go_loopw [6, 13] (fun cv iv wr => ∃ (i cr : Nat) (L : List Nat), iv = .int .i64 i ∧ cv = .int .u32 cr ∧ i ≤ xs.length ∧ cr ≤ 1 ∧ L.length = xs.length ∧ Own wr w.heap.size .u32 66 p1 c1 L ∧ Below w.heap.size w wr ∧ Hid (SubRel L ys i cr a))
    (fun _ iv _ => xs.length - (intOf iv).toNat)
  case atStart => exact ⟨0, 0, xs, rfl, rfl, Nat.zero_le _, by omega, rfl, ho1, hb1, H0⟩
  case round =>
    obtain ⟨i, cr, L, rfl, rfl, hi, hcr, hL, hoL, hbL, HR⟩ := hrel
    have hqL := hq.past hbL
    by_cases hlt : i < xs.length
    · have hc1 := hoL.rd.cells i (by omega)
      have hsL := hoL.solid
      rw [hL] at hsL
      have hLd := getD_lt (B := 4294967296) (by omega) L HR.out.1 i
      have hyd := getD_lt (B := 4294967296) (by omega) ys HY.out i
      have HS := Lib.hid (HR.out.step (i := i) (by omega) HY.out hcr)
      by_cases hd : i < ys.length
      · have hc2 := hqL.cells i hd
        have hsq := hqL.solid
        have HC' := subB_le (dg L i) (dg ys i) cr
        go_wp2_with (first
          | (go_at_call 78; refine (sub32_any _ _ cr _ hLd hyd hcr).mono ?_; rintro e w2 ⟨rfl, rfl⟩)
          | (refine wpl_store rfl _ _ _ rfl 66 tyNat _ _ _ _ hoL i (by omega) _ ?_ rfl rfl ?_; omega; intro w3 ho3 hg3 hb3))
        rw [Int.toNat_natCast] at ho3
        go_roundw
        case rel => exact ⟨i + 1, subB (dg L i) (dg ys i) cr, _, by go_num, rfl, hlt, HC', by simp [hL], ho3, hbL.trans hb3, HS⟩
        case measure => simp [intOf]; omega
      · by_cases hc0 : cr = 0
        · subst hc0
          have HD := Lib.hid (HR.out.done (by omega) HV.out hab (.inr rfl) (val_lt B32 L HR.out.1))
          go_wp2_with (go_at_call 71; refine (norm_any _ _ _ L _ hoL.rd hL.symm hoL.le_cap HR.out.1 (by omega)).mono ?_; rintro e w3 ⟨rfl, rfl⟩)
          go_ret
          have ht := take_dig_len B32_two L HR.out.1
          have ho2 := hoL.take (dig B32 (val B32 L)).length
          rw [ht, HD.out] at ho2
          rw [HD.out]
          exact ⟨p1, c1, rfl, ho2, hbL⟩
        · have hcp : 1 ≤ cr := by omega
          have ez : dg ys i = 0 := dg_of_ge (by omega)
          rw [ez] at HS
          have HC' := subB_le (dg L i) 0 cr
          clear ez hyd hc0
          go_wp2_with (first
            | (go_at_call 78; refine (sub32_any _ 0 cr _ hLd (by omega) hcr).mono ?_; rintro e w2 ⟨rfl, rfl⟩)
            | (refine wpl_store rfl _ _ _ rfl 66 tyNat _ _ _ _ hoL i (by omega) _ ?_ rfl rfl ?_; omega; intro w3 ho3 hg3 hb3))
          rw [Int.toNat_natCast] at ho3
          go_roundw
          case rel => exact ⟨i + 1, subB (dg L i) 0 cr, _, by go_num, rfl, hlt, HC', by simp [hL], ho3, hbL.trans hb3, HS⟩
          case measure => simp [intOf]; omega
    · obtain rfl : i = xs.length := by omega
      have HD := Lib.hid (HR.out.done hge HV.out hab (.inl (by omega)) (val_lt B32 L HR.out.1))
      go_wp2_with (go_at_call 71; refine (norm_any _ _ _ L _ hoL.rd hL.symm hoL.le_cap HR.out.1 (by omega)).mono ?_; rintro e w3 ⟨rfl, rfl⟩)
      go_ret
      have ht := take_dig_len B32_two L HR.out.1
      have ho2 := hoL.take (dig B32 (val B32 L)).length
      rw [ht, HD.out] at ho2
      rw [HD.out]
      exact ⟨p1, c1, rfl, ho2, hbL⟩

end Go.Proofs.YtcbjidcpcompoaaDoor
