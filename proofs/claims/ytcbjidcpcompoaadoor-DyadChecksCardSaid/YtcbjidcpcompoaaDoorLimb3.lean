/- limb.Mul: it multiplies. -/
import Derived.Test.YtcbjidcpcompoaaDoorLimb2
namespace Go.Proofs.YtcbjidcpcompoaaDoor
open Go.RowKit Go.Slip

theorem mulCarry {L xs ys : List Nat} {i k cr : Nat} (h : MulIn B32 L xs ys i k cr) (hc : cr < 4294967296) (hx : dg xs i < 4294967296) (hy : dg ys k < 4294967296) :
    (dg xs i * dg ys k + dg L (i + k) + cr) / 4294967296 < 4294967296 := by
  have := h.carry (by unfold B32; omega) (by unfold B32; omega) (by unfold B32; omega)
  unfold B32 at this
  omega

theorem prod_le {x y : Nat} (hx : x < 4294967296) (hy : y < 4294967296) : (x : Int) * y ≤ 18446744065119617025 ∧ 0 ≤ (x : Int) * y := by
  have h : x * y ≤ 4294967295 * 4294967295 := Nat.mul_le_mul (by omega) (by omega)
  have e : (x : Int) * y = ((x * y : Nat) : Int) := by simp
  rw [e]; omega

theorem mul_nil {p q : Option Addr} {n m c d : Nat} (w : World) (h : n = 0 ∨ m = 0) :
    Calls Tryd.prog 72 #[.slice p n c, .slice q m d] w (Gives w .u32 66 []) := by
  rcases h with rfl | rfl
  · go_enter Tryd.func72, Tryd.ntmps72
    go_wp2
    go_ret
    exact ⟨none, 0, rfl, Own.nil _ _ _ _, Below.refl _ _⟩
  · by_cases hn : n = 0
    · subst hn
      go_enter Tryd.func72, Tryd.ntmps72
      go_wp2
      go_ret
      exact ⟨none, 0, rfl, Own.nil _ _ _ _, Below.refl _ _⟩
    · have h1 : ((n : Int) == 0) = false := beq_eq_false_iff_ne.2 (by omega)
      go_enter Tryd.func72, Tryd.ntmps72
      go_wp2
      go_ret
      exact ⟨none, 0, rfl, Own.nil _ _ _ _, Below.refl _ _⟩

set_option maxHeartbeats 1000000 in
set_option maxRecDepth 100000 in
theorem mul_pos (p q : Option Addr) (n m c d : Nat) (a b : Nat) (w : World) (xs ys : List Nat) (hxs : xs = dig B32 a) (hys : ys = dig B32 b) (hp : Rd w .u32 p xs) (hq : Rd w .u32 q ys) (hn : n = xs.length) (hm : m = ys.length)
    (h1 : 0 < xs.length) (h2 : 0 < ys.length) (hl : xs.length + ys.length ≤ 1000000000) :
    Calls Tryd.prog 72 #[.slice p n c, .slice q m d] w (Gives w .u32 66 (dig B32 (a * b))) := by
  subst hn hm
  have HA := Lib.hid (show val B32 xs = a by rw [hxs]; exact val_dig B32_two a)
  have HB := Lib.hid (show val B32 ys = b by rw [hys]; exact val_dig B32_two b)
  have HXL := Lib.hid (show ∀ x ∈ xs, x < B32 by rw [hxs]; exact dig_lt B32_two a)
  have HYL := Lib.hid (show ∀ x ∈ ys, x < B32 by rw [hys]; exact dig_lt B32_two b)
  clear hxs hys
  have hsx := hp.solid
  have hsy := hq.solid
  have t1 : ((xs.length : Int) == 0) = false := beq_eq_false_iff_ne.2 (by omega)
  have t2 : ((ys.length : Int) == 0) = false := beq_eq_false_iff_ne.2 (by omega)
  go_enter Tryd.func72, Tryd.ntmps72
  go_wp2_with (refine wpl_make rfl _ _ _ rfl tyNat _ _ (xs.length + ys.length) _ _ rfl rfl ?_ ?_ ?_ ?_; omega; omega; omega; intro p1 c1 w1 ho1 hb1 hz1)
  clear t1 t2
  go_loopw [28] (fun iv wr => ∃ (i : Nat) (L : List Nat), iv = .int .i64 i ∧ i ≤ xs.length ∧ Hid (L.length = xs.length + ys.length) ∧ Own wr w.heap.size .u32 66 p1 c1 L ∧ Below w.heap.size w wr ∧ Hid (MulOut B32 L xs ys i))
    (fun iv _ => xs.length - (intOf iv).toNat)
  case atStart => exact ⟨0, _, rfl, Nat.zero_le _, List.length_replicate, ho1, hb1, MulOut.start B32 (by unfold B32; omega) xs ys _⟩
  case round =>
    obtain ⟨i, L, rfl, hi, hL, hoL, hbL, HR⟩ := hrel
    have hpL := hp.past hbL
    by_cases hlt : i < xs.length
    · have hc1 := hpL.cells i hlt
      go_wp2
      obtain ⟨wo, rfl⟩ : ∃ wo : World, wo = wr := ⟨_, rfl⟩
      go_loopw [8, 35] (fun cv kv wr => ∃ (k cr : Nat) (L : List Nat), kv = .int .i64 k ∧ cv = .int .u64 cr ∧ k ≤ ys.length ∧ cr < 4294967296 ∧ Hid (L.length = xs.length + ys.length) ∧ Own wr w.heap.size .u32 66 p1 c1 L ∧ Below w.heap.size w wr ∧ Hid (MulIn B32 L xs ys i k cr))
        (fun _ kv _ => ys.length - (intOf kv).toNat)
      case atStart => exact ⟨0, 0, L, rfl, rfl, Nat.zero_le _, by omega, hL, hoL, hbL, HR.out.enter⟩
      case round =>
        obtain ⟨k, cr, L, rfl, rfl, hk, hcr, hL, hoL, hbL, HR⟩ := hrel
        have hqL := hq.past hbL
        have hsL := hoL.solid
        rw [hL.out] at hsL
        by_cases hkt : k < ys.length
        · have hc2 := hqL.cells k hkt
          have hc3 := hoL.rd.cells (i + k) (by rw [hL.out]; omega)
          have hxd := getD_lt (B := 4294967296) (by omega) xs HXL.out i
          have hyd := getD_lt (B := 4294967296) (by omega) ys HYL.out k
          have hLd := getD_lt (B := 4294967296) (by omega) L HR.out.1 (i + k)
          obtain ⟨hpr, hpr0⟩ := prod_le hxd hyd
          have HS := Lib.hid (HR.out.step (t := dg xs i * dg ys k + dg L (i + k) + cr) (by unfold B32; omega) hkt (by rw [hL.out]; omega) rfl)
          have HC := Lib.hid (mulCarry HR.out hcr hxd hyd)
          go_wp2_with (refine wpl_store rfl _ _ _ rfl 66 tyNat _ _ _ _ hoL (i + k) (by rw [hL.out]; omega) _ ?_ rfl rfl ?_; omega; intro w3 ho3 hg3 hb3)
          have e3 : (((dg xs i : Int) * dg ys k + dg L (i + k) + cr) % 4294967296).toNat = (dg xs i * dg ys k + dg L (i + k) + cr) % B32 := by unfold B32; omega
          rw [e3] at ho3
          go_roundw
          case rel => exact ⟨k + 1, (dg xs i * dg ys k + dg L (i + k) + cr) / B32, _, by go_num, by unfold B32; go_num, hkt, HC.out, (by rw [List.length_set]; exact hL.out), ho3, hbL.trans hb3, HS⟩
          case measure => simp [intOf]; omega
        · obtain rfl : k = ys.length := by omega
          have hj : i + ys.length < L.length := by rw [hL.out]; omega
          have HS := Lib.hid (HR.out.leave rfl hj (by unfold B32; omega))
          go_wp2_with (refine wpl_store rfl _ _ _ rfl 66 tyNat _ _ _ _ hoL (i + ys.length) hj _ ?_ rfl rfl ?_; omega; intro w3 ho3 hg3 hb3)
          have e3 : ((cr : Int) % 4294967296).toNat = cr := by omega
          first | rw [e3] at ho3 | skip
          go_roundw
          case rel => exact ⟨i + 1, _, by go_num, hlt, (by rw [List.length_set]; exact hL.out), ho3, hbL.trans hb3, HS⟩
          case measure => simp [intOf]; omega
    · obtain rfl : i = xs.length := by omega
      go_wp2_with (go_at_call 71; refine (norm_any _ _ _ L _ hoL.rd hL.out.symm hoL.le_cap HR.out.1 (by rw [hL.out]; omega)).mono ?_; rintro e w3 ⟨rfl, rfl⟩)
      go_ret
      rw [← HR.out.done (Nat.le_refl _) HA.out HB.out]
      have ht := take_dig_len B32_two L HR.out.1
      have ho := hoL.take (dig B32 (val B32 L)).length
      rw [ht] at ho
      exact gives_of rfl rfl ho hbL

theorem mul_any (p q : Option Addr) (n m c d : Nat) (a b : Nat) (w : World) (hp : Rd w .u32 p (dig B32 a)) (hq : Rd w .u32 q (dig B32 b)) (hn : n = (dig B32 a).length) (hm : m = (dig B32 b).length)
    (hl : (dig B32 a).length + (dig B32 b).length ≤ 1000000000) :
    Calls Tryd.prog 72 #[.slice p n c, .slice q m d] w (Gives w .u32 66 (dig B32 (a * b))) := by
  by_cases h1 : 0 < (dig B32 a).length
  · by_cases h2 : 0 < (dig B32 b).length
    · exact mul_pos p q n m c d a b w _ _ rfl rfl hp hq hn hm h1 h2 hl
    · have h0 : b = 0 := (dig_len_zero B32_two b).1 (by omega)
      rw [show dig B32 (a * b) = [] by rw [h0, Nat.mul_zero, dig_zero]]
      exact mul_nil w (.inr (by omega))
  · have h0 : a = 0 := (dig_len_zero B32_two a).1 (by omega)
    rw [show dig B32 (a * b) = [] by rw [h0, Nat.zero_mul, dig_zero]]
    exact mul_nil w (.inl (by omega))

end Go.Proofs.YtcbjidcpcompoaaDoor
