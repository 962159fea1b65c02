/- The references' product. -/
import Derived.Test.YtlegnbigddhmlaaZRef1
namespace Go.Proofs.Ytlegnbigddhmlaa
open Go.RowKit Go.Slip

theorem prod16 {x y : Nat} (hx : x < 65536) (hy : y < 65536) : (x : Int) * y ≤ 4294836225 ∧ 0 ≤ (x : Int) * y := by
  have h : x * y ≤ 65535 * 65535 := Nat.mul_le_mul (by omega) (by omega)
  have e : (x : Int) * y = ((x * y : Nat) : Int) := by simp
  rw [e]; omega

set_option maxHeartbeats 1000000 in
set_option maxRecDepth 100000 in
theorem refTimes_any (p q : Option Addr) (n m c d : Nat) (a b : Nat) (w : World) (hp : Rd w .i64 p (dig B16 a)) (hq : Rd w .i64 q (dig B16 b)) (hn : n = (dig B16 a).length) (hm : m = (dig B16 b).length)
    (hl : (dig B16 a).length + (dig B16 b).length ≤ 1000000000) :
    Calls Try.prog 17 #[.slice p n c, .slice q m d] w (GivesR w .i64 (dig B16 (a * b))) := by
  subst hn hm
  have HA := Lib.hid (val_dig B16_two a)
  have HB := Lib.hid (val_dig B16_two b)
  have HXL := Lib.hid (dig_lt B16_two a)
  have HYL := Lib.hid (dig_lt B16_two b)
  generalize dig B16 a = xs at hp hl HA HXL ⊢
  generalize dig B16 b = ys at hq hl HB HYL ⊢
  have hsx := hp.solid
  have hsy := hq.solid
  go_enter Try.func17, Try.ntmps17
  go_wp2_with (refine wpl_make rfl _ _ _ rfl tyN .i64 .i64 (xs.length + ys.length) _ _ rfl rfl ?_ ?_ ?_ ?_; omega; omega; omega; intro p1 c1 w1 ho1 hb1 hz1)
  go_loopw [6] (fun iv wr => ∃ (i : Nat) (L : List Nat), iv = .int .i64 i ∧ i ≤ xs.length ∧ Hid (L.length = xs.length + ys.length) ∧ Own wr w.heap.size .i64 3 p1 c1 L ∧ Below w.heap.size w wr ∧ Hid (MulOut B16 L xs ys i))
    (fun iv _ => xs.length - (intOf iv).toNat)
  case atStart => exact ⟨0, _, rfl, Nat.zero_le _, List.length_replicate, ho1, hb1, MulOut.start B16 B16_pos xs ys _⟩
  case round =>
    obtain ⟨i, L, rfl, hi, hL, hoL, hbL, HR⟩ := hrel
    by_cases hlt : i < xs.length
    · have hxd := getD_lt (B := 65536) (by omega) xs HXL.out i
      go_wp2
      obtain ⟨wo, rfl⟩ : ∃ wo : World, wo = wr := ⟨_, rfl⟩
      go_loopw [7, 8, 9] (fun cv kv _ wr => ∃ (k cr : Nat) (L : List Nat), kv = .int .i64 k ∧ cv = .int .i64 cr ∧ k ≤ ys.length + 1 ∧ cr < 65536 ∧ Hid (L.length = xs.length + ys.length) ∧ Own wr w.heap.size .i64 3 p1 c1 L ∧ Below w.heap.size w wr ∧ Hid (TimesIn L xs ys i k cr))
        (fun _ kv _ _ => ys.length + 1 - (intOf kv).toNat)
      case atStart => exact ⟨0, 0, L, rfl, rfl, Nat.zero_le _, by omega, hL, hoL, hbL, .inl ⟨Nat.zero_le _, HR.out.enter⟩⟩
      case round =>
        obtain ⟨k, cr, L, rfl, rfl, hk, hcr, hL, hoL, hbL, HR⟩ := hrel
        have hpL := hp.past hbL
        have hqL := hq.past hbL
        have hsL := hoL.solid
        rw [hL.out] at hsL
        by_cases hkt : k < ys.length
        · have hc1 := hpL.cells i hlt
          have hc2 := hqL.cells k hkt
          have hc3 := hoL.rd.cells (i + k) (by rw [hL.out]; omega)
          have hyd := getD_lt (B := 65536) (by omega) ys HYL.out k
          have hLd := getD_lt (B := 65536) (by omega) L HR.out.digits (i + k)
          obtain ⟨hpr, hpr0⟩ := prod16 hxd hyd
          have HS := Lib.hid (HR.out.step hkt (by rw [hL.out]; omega))
          have HC := Lib.hid (HR.out.carry hcr hxd hyd)
          have i0 : (0 : Int) ≤ (i : Int) := by omega
          have i1 : (i : Int) < (xs.length : Int) := by omega
          have k0 : (0 : Int) ≤ (k : Int) := by omega
          have k1 : (k : Int) < (ys.length : Int) := by omega
          go_wp2_with fail
          go_quiet (fail)
          have hoL := hoL.drewN nq
          have hbL := below_drewN hbL nq
          generalize wr.drewN nq = wq at hoL hbL ⊢
          clear hc1 hc2 hc3 hpL hqL
          go_wp2_with (refine wpl_store rfl _ _ _ rfl 3 tyN _ _ _ _ hoL (i + k) (by rw [hL.out]; omega) _ ?_ rfl rfl ?_; omega; intro w3 ho3 hg3 hb3)
          have e3 : (((dg L (i + k) : Int) + cr + dg xs i * dg ys k) % 65536).toNat = (dg L (i + k) + cr + dg xs i * dg ys k) % 65536 := by omega
          rw [e3] at ho3
          go_roundw
          case rel => exact ⟨k + 1, (dg L (i + k) + cr + dg xs i * dg ys k) / 65536, _, by go_num, by go_num, by omega, HC.out, (by show (List.set _ _ _).length = _; rw [List.length_set]; exact hL.out), ho3, hbL.trans hb3, HS⟩
          case measure => simp [intOf]; omega
        · by_cases h0 : 0 < cr
          · obtain ⟨hk2, hz, HS⟩ := HR.out.over hkt h0 hcr (by rw [hL.out]; omega)
            subst hk2
            have hc3 := hoL.rd.cells (i + ys.length) (by rw [hL.out]; omega)
            rw [hz] at hc3
            have HS := Lib.hid HS
            clear hz hkt
            go_wp2_with (refine wpl_store rfl _ _ _ rfl 3 tyN _ _ _ _ hoL (i + ys.length) (by rw [hL.out]; omega) _ ?_ rfl rfl ?_; omega; intro w3 ho3 hg3 hb3)
            have e3 : ((cr : Int) % 65536).toNat = cr := by omega
            rw [e3] at ho3
            go_roundw
            case rel => exact ⟨ys.length + 1, 0, _, by go_num, (by rw [show (cr : Int) / 65536 = ((0 : Nat) : Int) by omega]), by omega, by omega, (by show (List.set _ _ _).length = _; rw [List.length_set]; exact hL.out), ho3, hbL.trans hb3, HS⟩
            case measure => simp [intOf]
          · obtain rfl : cr = 0 := by omega
            have HS := Lib.hid (HR.out.done hkt)
            go_wp2
            go_roundw
            case rel => exact ⟨i + 1, L, by go_num, hlt, hL, hoL, hbL, HS⟩
            case measure => simp [intOf]; omega
    · obtain rfl : i = xs.length := by omega
      go_wp2_with (go_at_call 33; refine (refTrim_any _ _ _ L _ hoL.rd hL.out.symm hoL.le_cap HR.out.1 (by rw [hL.out]; omega)).mono ?_; rintro e w3 ⟨rfl, rfl⟩)
      go_ret
      rw [← HR.out.done (Nat.le_refl _) HA.out HB.out]
      have ht := take_dig_len B16_two L HR.out.1
      have ho2 := hoL.take (dig B16 (val B16 L)).length
      rw [ht] at ho2
      exact ⟨p1, _, rfl, ho2.rd, Nat.le_refl _, own_blk ho2, hbL⟩

end Go.Proofs.Ytlegnbigddhmlaa
