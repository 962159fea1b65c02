/- grid: Round.
   references: CheckGrid, Width, Away, IsWay, CheckRatio.
   The references' sum.
   The references' comparison, length in bits, difference.
   Noughts behind a list of digits to the base of 65536. Plain arithmetic. No program is in sight here.
   The references' powers of 2 and shifts.
   The references' Bared, OfDyad.
   The references' difference.
   The references' DPlus.
   The references' DTimes, Minus, DCmp, FloorOf.
   The references' DCmp.
   references: StepOf.
   codec: value, bare: what parts are worth.
   codec: decode, open, Decode, Class, Size, Grid.
   codec: open, Decode, Class, Size, Grid.
   Decimal digits, four by four, and what is stripped of them: plain arithmetic. No program is in sight here.
   A product and a sum in place; the number that decimal digits make: plain arithmetic. No program is in sight here.
   The references' division: of more than one digit.
   The references' SameNat, SameDyad, whatever the two are; ToDyad.
   The references on balls: OfBall, DSign, CheckBall, SameBall.
   What the references call, said of whole numbers over one power of 2.
   The reference's formats: FormatOf, OpenPattern, place.
   The reference's bits of a pattern: BitsOf, Value.
   The reference's Value, and what DecodeOf's closure tells.
   More steps over slices of any values. No program is in sight here.
   codec: join: a pattern out of its parts.
   What is rounded, as a number: it is in the grid; who is more is rounded to no less. Plain arithmetic. No program is in sight here.
   What is rounded may be told: its bounds. Plain arithmetic. No program is in sight here.
   dyad.Whole, Opposite; grid.Number.
   grid: ratio, Keeps, check, Holds.
   grid: After.
   codec: width, raw, number. -/
import Derived.Deep.LoopGhost
import Derived.Lib.Strings
import Derived.Lib.Slices
import Derived.Lib.Small
import Derived.Lib.Walk
import Derived.Lib.BitFns
import Derived.Deep.RegionHeld3
import Derived.Test.YtlcdfnaaenibgaaGreatDoorZb1
import Derived.Test.YtlcdfnaaenibgaaGreatDoorZb2
import Derived.Test.YtlcdfnaaenibgaaGreatDoorZb3
import Derived.Test.YtlcdfnaaenibgaaGreatDoorZb4
import Derived.Test.YtlcdfnaaenibgaaGreatDoorZb5
set_option maxHeartbeats 8000000
set_option maxRecDepth 100000
namespace Go.Proofs.YtlcdfnaaenibgaaGreatDoor
open Go.RowKit Go.Slip

structure Rin where
 g : Bool
 p : Option Addr
 c : Nat
 xs : List Nat
 q : Option Addr
 d : Nat
 ys : List Nat
 e : Int

structure InR (w : World) (a : Rin) : Prop where
 r1 : Rd w .u32 a.p a.xs
 l1 : a.xs.length ≤ 9223372036854775807
 b1 : ∀ x ∈ a.xs, x < B32
 r2 : Rd w .u32 a.q a.ys
 l2 : a.ys.length ≤ 9223372036854775807
 b2 : ∀ x ∈ a.ys, x < B32

theorem InR.past {w w' : World} {a : Rin} (h : InR w a) (hb : Below w.heap.size w w') : InR w' a := ⟨h.r1.past hb, h.l1, h.b1, h.r2.past hb, h.l2, h.b2⟩


theorem e0y (g : Gd) (w : World) :
 Calls Tryz.prog 78 #[.agg #[.int .i64 g.rad, .int .i64 g.digs, .int .i64 g.lo, .int .i64 g.hi, .bool g.grad]] w fun e w' => e = .returned (.int .i64 (wid g : Nat)) ∧ Below w.heap.size w w' := by
 obtain ⟨rad, digs, lo, hi, grad⟩ := g
 simp only
 unfold wid
 simp only
 have hb : Below w.heap.size w (w.alloc (.cells #[.int .i64 rad, .int .i64 digs, .int .i64 lo, .int .i64 hi, .bool grad] 53)) := c0c _ _
 by_cases h : rad = 16
 · subst h
   go_enter Tryz.func78, Tryz.ntmps78
   go_wp2
   go_ret
   exact ⟨by simp, hb⟩
 · have h1 : (rad == 16) = false := beq_eq_false_iff_ne.2 h
   rw [if_neg h]
   clear h
   go_enter Tryz.func78, Tryz.ntmps78
   go_wp2
   go_ret
   exact ⟨rfl, hb⟩

theorem k0d (k : Int) (w : World) :
 Calls Tryz.prog 28 #[.int .i64 k] w fun e w' => e = .returned (.bool (wayB k)) ∧ w = w' := by
 by_cases h1 : 1 ≤ k
 · by_cases h2 : k ≤ 5
   · rw [q0t h1 h2]
     go_enter Tryz.func28, Tryz.ntmps28
     go_wp2
     go_ret
     exact ⟨rfl, rfl⟩
   · rw [j0t (by omega)]
     go_enter Tryz.func28, Tryz.ntmps28
     go_wp2
     go_ret
     exact ⟨rfl, rfl⟩
 · rw [j0t (by omega)]
   go_enter Tryz.func28, Tryz.ntmps28
   go_wp2
   go_ret
   exact ⟨rfl, rfl⟩


theorem l0w (p q : Option Addr) (n m c d : Nat) (a b : Nat) (w : World) (hp : Rd w .i64 p (dig B16 a)) (hq : Rd w .i64 q (dig B16 b)) (hn : n = (dig B16 a).length) (hm : m = (dig B16 b).length)
 (hl : (dig B16 a).length + (dig B16 b).length ≤ 1000000000) :
 Calls Tryz.prog 79 #[.slice p n c, .slice q m d] w (g0k w .i64 (dig B16 (a + b))) := by
 subst hn hm
 have HXL := Lib.hid (b0k a0i a)
 have HYL := Lib.hid (b0k a0i b)
 obtain ⟨xs, hxs⟩ : ∃ xs, xs = dig B16 a := ⟨_, rfl⟩
 obtain ⟨ys, hys⟩ : ∃ ys, ys = dig B16 b := ⟨_, rfl⟩
 rw [← hxs] at hp hl HXL ⊢
 rw [← hys] at hq hl HYL ⊢
 have HA := Lib.hid hxs
 have HB := Lib.hid hys
 clear hxs hys
 have hsx := hp.solid
 have hsy := hq.solid
 go_enter Tryz.func79, Tryz.ntmps79
 go_wp2
 go_loopg [5, 6, 7] (xs.length + ys.length + 2) (fun g ov cv iv wr => ∃ (i cr : Nat) (t : Option Addr) (e : Nat) (O : List Nat), iv = .int .i64 i ∧ cv = .int .i64 cr ∧ ov = .slice t O.length e ∧ g + i = xs.length + ys.length + 2 ∧ cr ≤ 1 ∧ i ≤ xs.length + ys.length + 1 ∧ Hid (O.length = i) ∧
     Own wr w.heap.size .i64 3 t e O ∧ Below w.heap.size w wr ∧ Hid (g0b O xs ys i cr))
 case atStart => exact ⟨0, 0, none, 0, [], rfl, rfl, rfl, rfl, by omega, by omega, rfl, Own.nil _ _ _ _, Below.refl _ _, g0b.start xs ys⟩
 case round =>
  obtain ⟨i, cr, t, e, O, rfl, rfl, rfl, hg, hcr, hi, hO, hoq, hb, HR⟩ := hrel
  have hpL := hp.past hb
  have hqL := hq.past hb
  have hxd := a0j (B := 65536) (by omega) xs HXL.out i
  have hyd := a0j (B := 65536) (by omega) ys HYL.out i
  have hi2 : 0 < i → cr = 1 → i ≤ xs.length ∨ i ≤ ys.length := fun h1 h2 => by have := HR.out.2.2.2.2; omega
  by_cases h1 : i < xs.length
  · have hc1 := hpL.cells i h1
    have HS := HR.out.step hxd hyd (.inl h1)
    by_cases h2 : i < ys.length
    · have hc2 := hqL.cells i h2
      have HS := Lib.hid HS
      clear hi2
      go_wp2_with (first
        | (refine b0b rfl _ _ rfl tyN _ ?_ rfl ?_; omega; intro p2 w2 ho2 hb2 hz2 hp2)
        | (at_builtin; refine b0a rfl _ _ _ rfl tyN _ _ _ _ _ (hoq.past hb2) rfl _ _ _ _ ho2.rd rfl rfl rfl ?_ ?_ ?_; (have := hO.out; simp; omega); (have := hb2.size; have := hb.size; omega); intro p3 c3 w3 ho3 hg3 hb3 hn3))
      have hb4 := hb.trans ((hb2.mono hb.size).trans hb3)
      have e4 : (((cr : Int) + dg xs i + dg ys i : Int) % 65536).toNat = (cr + dg xs i + dg ys i) % B16 := by unfold B16; omega
      rw [e4] at ho3
      go_roundg (xs.length + ys.length + 1 - i)
      case measure => omega
      case rel => exact ⟨i + 1, (cr + dg xs i + dg ys i) / B16, p3, c3, _, by go_num, (by unfold B16; go_num), by simp, by omega, HS.out.2.2.1, by omega, (by show (O ++ _).length = i + 1; have := hO.out; simp; omega), ho3, hb4, HS⟩
    · have ez : dg ys i = 0 := b0l (by omega)
      rw [ez] at HS
      have HS := Lib.hid HS
      clear ez hyd hi2
      go_wp2_with (first
        | (refine b0b rfl _ _ rfl tyN _ ?_ rfl ?_; omega; intro p2 w2 ho2 hb2 hz2 hp2)
        | (at_builtin; refine b0a rfl _ _ _ rfl tyN _ _ _ _ _ (hoq.past hb2) rfl _ _ _ _ ho2.rd rfl rfl rfl ?_ ?_ ?_; (have := hO.out; simp; omega); (have := hb2.size; have := hb.size; omega); intro p3 c3 w3 ho3 hg3 hb3 hn3))
      have hb4 := hb.trans ((hb2.mono hb.size).trans hb3)
      have e4 : (((cr : Int) + dg xs i : Int) % 65536).toNat = (cr + dg xs i + 0) % B16 := by unfold B16; omega
      rw [e4] at ho3
      go_roundg (xs.length + ys.length + 1 - i)
      case measure => omega
      case rel => exact ⟨i + 1, (cr + dg xs i + 0) / B16, p3, c3, _, by go_num, (by unfold B16; go_num), by simp, by omega, HS.out.2.2.1, by omega, (by show (O ++ _).length = i + 1; have := hO.out; simp; omega), ho3, hb4, HS⟩
  · have ex : dg xs i = 0 := b0l (by omega)
    by_cases h2 : i < ys.length
    · have hc2 := hqL.cells i h2
      have HS := HR.out.step hxd hyd (.inr (.inl h2))
      rw [ex] at HS
      have HS := Lib.hid HS
      clear ex hxd hi2
      go_wp2_with (first
        | (refine b0b rfl _ _ rfl tyN _ ?_ rfl ?_; omega; intro p2 w2 ho2 hb2 hz2 hp2)
        | (at_builtin; refine b0a rfl _ _ _ rfl tyN _ _ _ _ _ (hoq.past hb2) rfl _ _ _ _ ho2.rd rfl rfl rfl ?_ ?_ ?_; (have := hO.out; simp; omega); (have := hb2.size; have := hb.size; omega); intro p3 c3 w3 ho3 hg3 hb3 hn3))
      have hb4 := hb.trans ((hb2.mono hb.size).trans hb3)
      have e4 : (((cr : Int) + dg ys i : Int) % 65536).toNat = (cr + 0 + dg ys i) % B16 := by unfold B16; omega
      rw [e4] at ho3
      go_roundg (xs.length + ys.length + 1 - i)
      case measure => omega
      case rel => exact ⟨i + 1, (cr + 0 + dg ys i) / B16, p3, c3, _, by go_num, (by unfold B16; go_num), by simp, by omega, HS.out.2.2.1, by omega, (by show (O ++ _).length = i + 1; have := hO.out; simp; omega), ho3, hb4, HS⟩
    · have ey : dg ys i = 0 := b0l (by omega)
      by_cases h3 : 0 < cr
      · have HS := HR.out.step hxd hyd (.inr (.inr h3))
        rw [ex, ey] at HS
        have HS := Lib.hid HS
        have hi3 : i ≤ xs.length + ys.length := by
         by_cases h0 : 0 < i
         · have := hi2 h0 (by omega); omega
         · omega
        clear ex ey hxd hyd hi2
        go_wp2_with (first
          | (refine b0b rfl _ _ rfl tyN _ ?_ rfl ?_; omega; intro p2 w2 ho2 hb2 hz2 hp2)
          | (at_builtin; refine b0a rfl _ _ _ rfl tyN _ _ _ _ _ (hoq.past hb2) rfl _ _ _ _ ho2.rd rfl rfl rfl ?_ ?_ ?_; (have := hO.out; simp; omega); (have := hb2.size; have := hb.size; omega); intro p3 c3 w3 ho3 hg3 hb3 hn3))
        have hb4 := hb.trans ((hb2.mono hb.size).trans hb3)
        have e4 : (((cr : Int) : Int) % 65536).toNat = (cr + 0 + 0) % B16 := by unfold B16; omega
        rw [e4] at ho3
        go_roundg (xs.length + ys.length + 1 - i)
        case measure => omega
        case rel => exact ⟨i + 1, (cr + 0 + 0) / B16, p3, c3, _, by go_num, (by unfold B16; go_num), by simp, by omega, HS.out.2.2.1, by omega, (by show (O ++ _).length = i + 1; have := hO.out; simp; omega), ho3, hb4, HS⟩
      · obtain rfl : cr = 0 := by omega
        have HD := Lib.hid (HR.out.done (by omega) (by omega) HA.out HB.out)
        clear ex ey hxd hyd hi2
        go_wp2
        go_ret
        exact x0j HD.out rfl hoq hb


theorem h0f (p q : Option Addr) (n m c d : Nat) (a b : Nat) (w : World) (hp : Rd w .i64 p (dig B16 a)) (hq : Rd w .i64 q (dig B16 b)) (hn : n = (dig B16 a).length) (hm : m = (dig B16 b).length)
 (hl : (dig B16 a).length ≤ 1000000000) (hl2 : (dig B16 b).length ≤ 1000000000) :
 Calls Tryz.prog 80 #[.slice p n c, .slice q m d] w fun e w' => e = .returned (.int .i64 (cmpN a b)) ∧ Below w.heap.size w w' := by
 subst hn hm
 by_cases hlt : (dig B16 a).length < (dig B16 b).length
 · have H := Lib.hid (g0c (g0y a0i hlt))
   go_enter Tryz.func80, Tryz.ntmps80
   go_wp2
   go_ret
   exact ⟨f0e H.out, Below.refl _ _⟩
 · by_cases hgt : (dig B16 b).length < (dig B16 a).length
   · have H := Lib.hid (n0s (g0y a0i hgt))
     go_enter Tryz.func80, Tryz.ntmps80
     go_wp2
     go_ret
     exact ⟨f0e H.out, Below.refl _ _⟩
   · have hle : (dig B16 b).length = (dig B16 a).length := by omega
     have HXL := Lib.hid (b0k a0i a)
     have HYL := Lib.hid (b0k a0i b)
     have HA := Lib.hid (a0y a0i a)
     have HB := Lib.hid (a0y a0i b)
     rw [hle]
     have HL := Lib.hid hle
     have hly := Nat.le_of_eq hle.symm
     clear hlt hgt hle
     generalize dig B16 a = xs at *
     generalize dig B16 b = ys at *
     have hsx := hp.solid
     have hsy := hq.solid
     rw [HL.out] at hsy
     go_enter Tryz.func80, Tryz.ntmps80
     go_wp2
     go_loopw [5] (fun iv wr => ∃ (k : Nat), iv = .int .i64 ((k : Int) - 1) ∧ k ≤ xs.length ∧ Below w.heap.size w wr ∧ Hid (xs.drop k = ys.drop k)) (fun iv _ => (intOf iv + 1).toNat)
     case atStart => exact ⟨xs.length, rfl, Nat.le_refl _, Below.refl _ _, (show xs.drop _ = ys.drop _ by rw [List.drop_length, List.drop_of_length_le (by have := HL.out; omega)])⟩
     case round =>
      obtain ⟨k, rfl, hk, hb, HD⟩ := hrel
      by_cases h0 : 0 < k
      · obtain ⟨k, rfl⟩ : ∃ j, k = j + 1 := ⟨k - 1, by omega⟩
        have ej : ((k + 1 : Nat) : Int) - 1 = k := by omega
        rw [ej]
        have hxd := a0j (B := 65536) (by omega) xs HXL.out k
        have hyd := a0j (B := 65536) (by omega) ys HYL.out k
        have hc1 := (hp.past hb).cells k (by omega)
        have hc2 := (hq.past hb).cells k (by omega)
        have i1 : (k : Int) < (xs.length : Int) := by omega
        have i0 : (0 : Int) ≤ (k : Int) := by omega
        clear ej
        by_cases h1 : dg xs k < dg ys k
        · have H := Lib.hid (g0c (by have := n0t xs ys HXL.out k (by omega) HL.out.symm HD.out h1; rwa [HA.out, HB.out] at this))
          go_wp2_with fail
          go_quiet (fail)
          go_wp2
          go_ret
          exact ⟨f0e H.out, hb.trans (by first | exact below_drewN (Below.refl _ _) _ | exact below_drewN (below_drewN (Below.refl _ _) _) _)⟩
        · by_cases h2 : dg ys k < dg xs k
          · have H := Lib.hid (n0s (by have := n0t ys xs HYL.out k (by have := HL.out; omega) HL.out HD.out.symm h2; rwa [HA.out, HB.out] at this))
            go_wp2_with fail
            go_quiet (fail)
            go_wp2_with fail
            go_quiet (fail)
            go_wp2
            go_ret
            exact ⟨f0e H.out, hb.trans (by first | exact below_drewN (Below.refl _ _) _ | exact below_drewN (below_drewN (Below.refl _ _) _) _)⟩
          · have h3 : dg xs k = dg ys k := by omega
            have HE := Lib.hid (m0v (by omega) HL.out.symm HD.out h3)
            rw [← h3] at hc2
            clear h3 h1 h2
            go_wp2_with fail
            go_quiet (fail)
            go_wp2_with fail
            go_quiet (fail)
            go_wp2
            go_roundw
            case rel => exact ⟨k, rfl, by omega, hb.trans (by first | exact below_drewN (Below.refl _ _) _ | exact below_drewN (below_drewN (Below.refl _ _) _) _), HE⟩
            case measure => first | (simp [intOf]; done) | (simp [intOf]; omega)
      · obtain rfl : k = 0 := by omega
        have H : cmpN a b = 0 := by
         have := HD.out
         simp only [List.drop_zero] at this
         rw [← HA.out, ← HB.out, this]; exact r0r _
        have H := Lib.hid H
        go_wp2
        go_ret
        exact ⟨f0e H.out, hb⟩

end Go.Proofs.YtlcdfnaaenibgaaGreatDoor
namespace Go.Slip

theorem c1n {d r : Nat} (h0 : 0 < d) (h : d < 65536) : tz (d + 65536 * r) = tz d := by
 obtain ⟨h1, h2⟩ := c0s d h0
 have hle : tz d < 16 := by
  rcases Nat.lt_or_ge (tz d) 16 with h3 | h3
  · exact h3
  · have h4 : 2 ^ 16 ≤ 2 ^ tz d := Nat.pow_le_pow_right (by omega) h3
    have h5 : 0 < d / 2 ^ tz d := by
     rcases Nat.eq_zero_or_pos (d / 2 ^ tz d) with h | h
     · rw [h] at h2; simp at h2
     · exact h
    have h6 := Nat.mul_le_mul_left (2 ^ tz d) h5
    simp only [Nat.succ_eq_add_one, Nat.zero_add, Nat.mul_one] at h6
    omega
 obtain ⟨t, ht⟩ : ∃ t, t = tz d := ⟨_, rfl⟩
 rw [← ht] at h1 h2 hle ⊢
 obtain ⟨s, hs⟩ : ∃ s, 16 = t + (s + 1) := ⟨15 - t, by omega⟩
 have e : d + 65536 * r = (d / 2 ^ t + 2 * (2 ^ s * r)) * 2 ^ t := by
  have e1 : (65536 : Nat) = 2 ^ t * (2 ^ s * 2) := by
   rw [show (65536 : Nat) = 2 ^ 16 by decide, hs, Nat.pow_add, Nat.pow_succ]
  rw [e1, Nat.add_mul]
  conv => lhs; rw [← h1]
  grind
 rw [e]
 exact k0z _ _ (by omega)

theorem c1o {xs : List Nat} {a i : Nat} (ha : val B16 xs = a) (hz : ∀ j, j < i → dg xs j = 0) (hd : 0 < dg xs i) (hl : dg xs i < 65536) : tz a = 16 * i + tz (dg xs i) := by
 have h1 := a0v B16 xs i
 have h2 : val B16 (xs.take i) = 0 := by
  have : xs.take i = List.replicate (xs.take i).length 0 := by
   apply c0f
   · simp
   · intro t ht
     simp only [List.length_take] at ht
     rw [i0y (by omega), c0p, hz t (by omega)]
  rw [this, b0u]
 rw [h2, f0m, Nat.zero_add] at h1
 have e : a = (dg xs i + 65536 * val B16 (xs.drop (i + 1))) * 2 ^ (16 * i) := by
  rw [← ha, h1, Nat.pow_mul, show (2 : Nat) ^ 16 = B16 by decide, Nat.mul_comm]
  rfl
 rw [e, t0k (by omega), c1n hd hl]
 omega

def f0l (xs : List Nat) (j n : Nat) : Prop := n = 16 * j ∧ ∀ i, i < j → dg xs i = 0

theorem f0l.start (xs : List Nat) : f0l xs 0 0 := ⟨rfl, fun i hi => by omega⟩
theorem f0l.step {xs : List Nat} {j n : Nat} (h : f0l xs j n) (hz : dg xs j = 0) : f0l xs (j + 1) (n + 16) :=
 ⟨by have := h.1; omega, fun i hi => by
   by_cases he : i = j
   · subst he; exact hz
   · exact h.2 i (by omega)⟩
theorem f0l.lt {xs : List Nat} {j n m : Nat} (h : f0l xs j n) (hv : val B16 xs = m) (h0 : 0 < m) : j < xs.length := by
 rcases Nat.lt_or_ge j xs.length with h1 | h1
 · exact h1
 · have := l0a (B := B16) (xs := xs) (fun i hi => h.2 i (by omega))
   omega

def i0s (m d n : Nat) : Prop := ∃ t, n + tz d = t ∧ t = tz m ∧ 0 < d
theorem i0s.start {xs : List Nat} {j n m : Nat} (h : f0l xs j n) (hv : val B16 xs = m) (h0 : 0 < dg xs j) (hl : dg xs j < 65536) : i0s m (dg xs j) n :=
 ⟨_, rfl, by rw [c1o hv h.2 h0 hl, h.1], h0⟩
theorem i0s.step {m d n : Nat} (h : i0s m d n) (he : d % 2 = 0) : i0s m (d / 2) (n + 1) := by
 obtain ⟨t, h1, h2, h3⟩ := h
 rw [n0x h3 he] at h1
 exact ⟨t, by omega, h2, by omega⟩
theorem i0s.done {m d n : Nat} (h : i0s m d n) (he : d % 2 = 1) : n = tz m := by
 obtain ⟨t, h1, h2, h3⟩ := h
 rw [p0s he] at h1
 omega

theorem v0p (a : Nat) : blen a ≤ 16 * (dig B16 a).length := by
 rw [b0i, Nat.pow_mul]
 exact (a0h a0i a _).1 (Nat.le_refl _)

end Go.Slip
namespace Go.Proofs.YtlcdfnaaenibgaaGreatDoor
open Go.RowKit Go.Slip

theorem l0x (N : Nat) (w : World) (hN : N ≤ 1000000000) :
 Calls Tryz.prog 75 #[.int .i64 N] w (g0k w .i64 (dig B16 (2 ^ N))) := by
 have hs : N % 16 < 16 := Nat.mod_lt _ (by omega)
 have HD := Lib.hid (i0f (B := B16) (w := 16) (by decide) (by omega) N)
 go_enter Tryz.func75, Tryz.ntmps75
 go_wp2_with (refine i0c rfl _ _ _ rfl tyN .i64 .i64 (N / 16 + 1) _ _ rfl rfl ?_ ?_ ?_ ?_; omega; omega; omega; intro p1 c1 w1 ho1 hb1 hz1)
 go_loop [4, 5] (fun dv iv => ∃ (i t : Nat), iv = .int .i64 i ∧ dv = .int .i64 t ∧ i ≤ N % 16 ∧ t ≤ 65536 ∧ Hid (t = 2 ^ i)) (fun _ iv => N % 16 - (intOf iv).toNat)
 case atStart => exact ⟨0, 1, rfl, rfl, Nat.zero_le _, by omega, rfl⟩
 case round =>
  obtain ⟨i, t, rfl, rfl, hi, ht, HT⟩ := hrel
  by_cases h1 : i < N % 16
  · have HS : Hid (2 * t = 2 ^ (i + 1)) := by show 2 * t = 2 ^ (i + 1); rw [HT.out, Nat.pow_succ]; omega
    have hb : 2 * t ≤ 65536 := by
     rw [HS.out]; exact Nat.pow_le_pow_right (show 0 < 2 by omega) (show i + 1 ≤ 16 by omega)
    go_wp2
    go_round
    case rel => exact ⟨i + 1, 2 * t, by go_num, by go_num, by omega, hb, HS⟩
    case measure => simp [intOf]; omega
  · obtain rfl : i = N % 16 := by omega
    have hso := ho1.solid
    rw [List.length_replicate] at hso
    have hsm := hso
    go_wp2_with (refine a0r rfl _ _ _ rfl 3 tyN _ _ _ _ ho1 (N / 16) (by simp) _ ?_ rfl rfl ?_; omega; intro w3 ho3 hg3 hb3)
    go_ret
    rw [Int.toNat_natCast, HT.out, HD.out] at ho3
    refine ⟨p1, c1, ?_, ho3.rd, ho3.le_cap, l0d ho3, hb1.trans hb3⟩
    rw [← HD.out]; simp

theorem q0v (N : Nat) : (dig B16 (2 ^ N)).length = N / 16 + 1 := by
 rw [← i0f (B := B16) (w := 16) (by decide) (by omega) N]; simp

theorem q0w (p : Option Addr) (n c : Nat) (a N : Nat) (w : World) (hp : Rd w .i64 p (dig B16 a)) (hn : n = (dig B16 a).length) (hl : (dig B16 a).length ≤ 100000000) (hN : N ≤ 1000000000) :
 Calls Tryz.prog 122 #[.slice p n c, .int .i64 N] w (g0k w .i64 (dig B16 (a * 2 ^ N))) := by
 subst hn
 by_cases h0 : (dig B16 a).length = 0
 · have : a = 0 := (a0e a0i a).1 h0
   subst this
   rw [Nat.zero_mul]
   rw [a0c] at *
   go_enter Tryz.func122, Tryz.ntmps122
   go_wp2
   go_ret
   exact ⟨none, 0, rfl, Rd.nil _ _ _, by simp, by simp, Below.refl _ _⟩
 · have hlp := Nat.le_of_eq (q0v N)
   have h1 : 1 ≤ (dig B16 a).length := by omega
   clear h0
   go_enter Tryz.func122, Tryz.ntmps122
   go_wp2_with fail
   refine (l0x N _ hN).mono ?_
   rintro e w1 ⟨p1, c1, rfl, ho1, -, -, hb1⟩
   go_wp2_with fail
   refine (k0c p p1 _ _ c c1 a (2 ^ N) _ (hp.past hb1) ho1 rfl rfl (by omega)).mono ?_
   rintro e w2 ⟨p2, c2, rfl, ho2, hc2, hn2, hb2⟩
   go_wp2_with fail
   go_ret
   exact ⟨p2, c2, rfl, ho2, hc2, fun h => Nat.le_trans hb1.size (hn2 h), hb1.trans (hb2.mono hb1.size)⟩

theorem z0k {O Y : List Nat} {N a : Nat} (h : f0c B16 (2 ^ (N % 16)) O Y Y.length) (hY : val B16 Y = a / B16 ^ (N / 16)) : val B16 O = a / 2 ^ N := by
 rw [h.done, hY, k0v (B := B16) (w := 16) (by decide)]

theorem s0v (p : Option Addr) (n c : Nat) (a N : Nat) (w : World) (hp : Rd w .i64 p (dig B16 a)) (hn : n = (dig B16 a).length) (hl : (dig B16 a).length ≤ 1000000000) (hN : N ≤ 9223372036854775807) :
 Calls Tryz.prog 121 #[.slice p n c, .int .i64 N] w (g0k w .i64 (dig B16 (a / 2 ^ N))) := by
 subst hn
 by_cases h0 : (dig B16 a).length ≤ N / 16
 · rw [m0w (w := 16) (by decide) a0i a N h0]
   rw [a0c]
   go_enter Tryz.func121, Tryz.ntmps121
   go_wp2
   go_ret
   exact ⟨none, 0, rfl, Rd.nil _ _ _, by simp, by simp, Below.refl _ _⟩
 · have HXL := Lib.hid (b0k a0i a)
   have HV := Lib.hid (j0y (B := B16) n0o _ (b0k a0i a) (N / 16))
   rw [a0y a0i] at HV
   generalize dig B16 a = xs at *
   have hsx := hp.solid
   have hk : N / 16 < xs.length := by omega
   have HY := Lib.hid (show ∀ x ∈ xs.drop (N / 16), x < B16 from fun x h => HXL.out x (List.mem_of_mem_drop h))
   have hyl : (xs.drop (N / 16)).length = xs.length - N / 16 := List.length_drop
   have hylp : (xs.drop (N / 16)).length + N / 16 ≤ xs.length := by omega
   have hylq : xs.length ≤ (xs.drop (N / 16)).length + N / 16 := by omega
   have HG := Lib.hid (show ∀ j, dg (xs.drop (N / 16)) j = dg xs (N / 16 + j) from fun j => f0b)
   clear h0 hyl
   have hs : N % 16 < 16 := Nat.mod_lt _ (by omega)
   generalize xs.drop (N / 16) = ys at *
   have H0 := Lib.hid (f0c.start B16 (2 ^ (N % 16)) ys)
   have hpm : B16 % 2 ^ (N % 16) = 0 := j0z (w := 16) (by omega)
   have hpm := Lib.hid hpm
   go_enter Tryz.func121, Tryz.ntmps121
   go_wp2
   go_loop [5, 6] (fun dv iv => ∃ (i t : Nat), iv = .int .i64 i ∧ dv = .int .i64 t ∧ i ≤ N % 16 ∧ t ≤ 65536 ∧ Hid (t = 2 ^ i)) (fun _ iv => N % 16 - (intOf iv).toNat)
   case atStart => exact ⟨0, 1, rfl, rfl, Nat.zero_le _, by omega, rfl⟩
   case round =>
    obtain ⟨i, t, rfl, rfl, hi, ht, HT⟩ := hrel
    by_cases h1 : i < N % 16
    · have HS : Hid (2 * t = 2 ^ (i + 1)) := by show 2 * t = 2 ^ (i + 1); rw [HT.out, Nat.pow_succ]; omega
      have hb : 2 * t ≤ 65536 := by
       rw [HS.out]; exact Nat.pow_le_pow_right (show 0 < 2 by omega) (show i + 1 ≤ 16 by omega)
      go_wp2
      go_round
      case rel => exact ⟨i + 1, 2 * t, by go_num, by go_num, by omega, hb, HS⟩
      case measure => simp [intOf]; omega
    · obtain rfl : i = N % 16 := by omega
      have htp : 1 ≤ t := by rw [HT.out]; exact Nat.pow_pos (by omega)
      go_wp2
      rw [← HT.out] at H0 hpm
      go_loopg [7, 8] (ys.length) (fun g ov iv wr => ∃ (i : Nat) (q : Option Addr) (e : Nat) (O : List Nat), iv = .int .i64 ((N / 16 + i : Nat) : Int) ∧ ov = .slice q O.length e ∧ g + i = ys.length ∧ i ≤ ys.length ∧ Hid (O.length = i) ∧
          Own wr w.heap.size .i64 3 q e O ∧ Below w.heap.size w wr ∧ Hid (f0c B16 t O ys i))
      case atStart => exact ⟨0, none, 0, [], by go_num, rfl, by omega, by omega, rfl, Own.nil _ _ _ _, Below.refl _ _, H0⟩
      case round =>
       obtain ⟨i, q, e, O, rfl, rfl, hg, hi, hO, hoq, hb, HR⟩ := hrel
       have hpL := hp.past hb
       have hyd := a0j (B := 65536) (by omega) ys HY.out i
       have hyd2 := a0j (B := 65536) (by omega) ys HY.out (i + 1)
       by_cases hlt : i < ys.length
       · have hc1 := hpL.cells (N / 16 + i) (by omega)
         rw [← HG.out] at hc1
         obtain ⟨v, hv⟩ : ∃ v, v = dg ys i / t := ⟨_, rfl⟩
         have ev : ((dg ys i : Nat) : Int) / (t : Int) = (v : Nat) := by rw [hv]; rfl
         have hvd : v < 65536 := by rw [hv]; exact Nat.lt_of_le_of_lt (Nat.div_le_self _ _) hyd
         by_cases h2 : i + 1 < ys.length
         · have hc2 := hpL.cells (N / 16 + (i + 1)) (by omega)
           rw [← HG.out] at hc2
           obtain ⟨m, hm⟩ : ∃ m, m = dg ys (i + 1) % t := ⟨_, rfl⟩
           obtain ⟨k, hk2⟩ : ∃ k, k = 65536 / t := ⟨_, rfl⟩
           obtain ⟨r, hr⟩ : ∃ r, r = m * k := ⟨_, rfl⟩
           obtain ⟨u, hu⟩ : ∃ u, u = v + r := ⟨_, rfl⟩
           have hue : u = dg ys i / t + dg ys (i + 1) % t * (B16 / t) := by rw [hu, hr, hm, hk2, hv]; rfl
           have hub : u < 65536 := by rw [hue]; exact t0j htp hpm.out hyd
           have HS := Lib.hid (HR.out.step htp hpm.out HY.out hlt u hue)
           have hkb : k ≤ 65536 := by rw [hk2]; exact Nat.div_le_self _ _
           have i0 : (0 : Int) ≤ (N : Int) / 16 + i + 1 := by omega
           have i1 : (N : Int) / 16 + i + 1 < (xs.length : Int) := by omega
           have e1 : IntKind.i64.wrap ((N : Int) / 16 + i + 1) = (N : Int) / 16 + i + 1 := IntWalk.i64_in _ (by omega)
           have e2 : ((dg ys (i + 1) : Nat) : Int).tmod (t : Int) = (m : Nat) := by rw [Int.tmod_eq_emod_of_nonneg (by omega), hm]; rfl
           have e3 : IntKind.i64.wrap ((65536 : Int) / (t : Int)) = (k : Nat) := by rw [hk2]; exact IntWalk.i64_in _ (by have : ((65536 / t : Nat) : Int) = 65536 / (t : Int) := rfl; omega)
           have e4 : IntKind.i64.wrap ((m : Int) * (k : Int)) = (r : Nat) := by
            have : (m : Int) * (k : Int) = (r : Nat) := by rw [hr]; simp
            rw [this]; exact IntWalk.i64_in _ (by omega)
           have e5 : IntKind.i64.wrap ((v : Int) + (r : Int)) = (u : Nat) := by rw [hu]; exact IntWalk.i64_in _ (by omega)
           have e6 : ((N : Int) / 16 + i + 1).toNat = N / 16 + (i + 1) := by omega
           have e7 : ¬ t = 0 := by omega
           have e8 : (65536 : Int).tdiv (t : Int) = (65536 : Int) / (t : Int) := Int.tdiv_eq_ediv_of_nonneg (by omega)
           clear hu hr hm hk2 hv hue
           go_wp2_with fail
           go_quiet (fail)
           have hoq := hoq.drewN nq
           have hb := hb.trans (below_drewN (Below.refl _ wr) nq)
           clear e1 e2 e3 e4 e5 e6 e7 e8 i0 i1 hc1 hc2 hpL
           go_wp2_with (first
             | (refine b0b rfl _ _ rfl tyN _ ?_ rfl ?_; omega; intro p2 w2 ho2 hb2 hz2 hp2)
             | (at_builtin; refine b0a rfl _ _ _ rfl tyN _ _ _ _ _ (hoq.past hb2) rfl _ _ _ _ ho2.rd rfl rfl rfl ?_ ?_ ?_; (have := hO.out; simp; omega); (have := hb2.size; have := hb.size; omega); intro p3 c3 w3 ho3 hg3 hb3 hn3))
           have hb4 := hb.trans ((hb2.mono hb.size).trans hb3)
           rw [Int.toNat_natCast] at ho3
           go_roundg (ys.length - 1 - i)
           case measure => omega
           case rel => exact ⟨i + 1, p3, c3, _, by go_num, by simp, by omega, by omega, (by show (O ++ _).length = _; have := hO.out; rw [List.length_append, List.length_singleton]; omega), ho3, hb4, HS⟩
         · have HS := Lib.hid (HR.out.step htp hpm.out HY.out hlt v (by rw [hv, b0l (show ys.length ≤ i + 1 by omega), Nat.zero_mod, Nat.zero_mul]; rfl))
           clear hv
           go_wp2_with (first
             | (refine b0b rfl _ _ rfl tyN _ ?_ rfl ?_; omega; intro p2 w2 ho2 hb2 hz2 hp2)
             | (at_builtin; refine b0a rfl _ _ _ rfl tyN _ _ _ _ _ (hoq.past hb2) rfl _ _ _ _ ho2.rd rfl rfl rfl ?_ ?_ ?_; (have := hO.out; simp; omega); (have := hb2.size; have := hb.size; omega); intro p3 c3 w3 ho3 hg3 hb3 hn3))
           have hb4 := hb.trans ((hb2.mono hb.size).trans hb3)
           rw [Int.toNat_natCast] at ho3
           go_roundg (ys.length - 1 - i)
           case measure => omega
           case rel => exact ⟨i + 1, p3, c3, _, by go_num, by simp, by omega, by omega, (by show (O ++ _).length = _; have := hO.out; rw [List.length_append, List.length_singleton]; omega), ho3, hb4, HS⟩
       · obtain rfl : i = ys.length := by omega
         have HD := Lib.hid (z0k (by rw [← HT.out]; exact HR.out) HV.out)
         have HX := Lib.hid HR.out.1
         go_wp2_with (go_at_call 112; refine (h0t _ _ _ O _ hoq.rd rfl hoq.le_cap HX.out (by rw [hO.out]; omega)).mono ?_; rintro e w3 ⟨rfl, rfl⟩)
         go_ret
         have ht := b0d a0i O HX.out
         have ho2 := hoq.take (dig B16 (val B16 O)).length
         rw [ht, HD.out] at ho2
         rw [HD.out]
         exact ⟨q, _, rfl, ho2.rd, Nat.le_refl _, l0d ho2, hb⟩


theorem o0z (g : Bool) (p : Option Addr) (c : Nat) (e : Int) (w : World) :
 Calls Tryz.prog 77 #[.agg #[.bool g, .slice p 0 c, .int .i64 e]] w (l0c w (fun _ => False) ⟨false, 0, 0⟩) := by
 go_enter Tryz.func77, Tryz.ntmps77
 go_wp2
 refine bodyPost_ret (v := .agg #[.bool false, .slice none 0 0, .int .i64 0]) (by simp [results, Tryz.results77, go_sem]) rfl ?_
 exact ⟨none, 0, by rw [a0c]; rfl, by rw [a0c]; exact Rd.nil _ _ _, by rw [a0c]; simp, by rw [a0c]; simp, ((Below.refl _ _).alloc (Nat.le_refl _) _).alloc (by simp) _⟩

theorem q0x (g : Bool) (p : Option Addr) (n c : Nat) (e : Int) (m : Nat) (w : World) (hp : Rd w .i64 p (dig B16 m)) (hn : n = (dig B16 m).length) (hl : (dig B16 m).length ≤ 10000000) (h0 : 0 < m)
 (he : -1000000000 ≤ e ∧ e ≤ 1000000000) :
 Calls Tryz.prog 77 #[.agg #[.bool g, .slice p n c, .int .i64 e]] w (l0c w (fun _ => False) (bare ⟨g, m, e⟩)) := by
 subst hn
 have hl0 : 0 < (dig B16 m).length := by
  have := a0e a0i m
  omega
 have t1 : (((dig B16 m).length : Int) == 0) = false := beq_eq_false_iff_ne.2 (by omega)
 obtain ⟨W1, hW1, hs1, A1, R1, hz1⟩ := j1p w (.bool g) (.slice p (dig B16 m).length c) (.int .i64 e) (.bool false) (.slice none 0 0) (.int .i64 0) 30 30
 have hp1 := hp.past hs1
 have HB := Lib.hid (t0l (g := g) (e := e) h0)
 have htz : tz m ≤ 1000000000 := by have := f0o h0; have := v0p m; omega
 have HV := Lib.hid (a0y a0i m)
 have HX := Lib.hid (b0k a0i m)
 have HW1 := Lib.hid hW1
 obtain ⟨xs, hxs⟩ : ∃ xs, xs = dig B16 m := ⟨_, rfl⟩
 have HXS := Lib.hid hxs
 rw [← hxs] at hp hl hl0 t1 A1 hp1 HV HX HW1 ⊢
 have hsx := hp1.solid
 have a1 := A1.c1
 clear hW1 hxs
 go_enter Tryz.func77, Tryz.ntmps77
 go_wp2_with fail
 rw [← HW1.out]
 clear HW1
 go_wp2
 go_loopg [3] xs.length (fun gk nv wr => ∃ (j n : Nat), nv = .int .i64 n ∧ gk + j = xs.length ∧ wr = W1 ∧ Hid (f0l xs j n))
 case atStart => exact ⟨0, 0, rfl, rfl, rfl, f0l.start xs⟩
 case round =>
  obtain ⟨j, n, rfl, hgk, rfl, HO⟩ := hrel
  have hlt := HO.out.lt HV.out h0
  have hd := a0j (B := 65536) (by omega) xs HX.out j
  have hn1 : (n : Int) ≤ 160000000 := by have := HO.out.1; omega
  have e1 : (n : Int) / 16 = (j : Int) := by have := HO.out.1; omega
  have hcell := hp1.cells j hlt
  by_cases hz : dg xs j = 0
  · have HS := Lib.hid (HO.out.step hz)
    rw [hz] at hcell
    have hgi : 0 < gk := by omega
    clear hz
    go_wp2
    go_roundg (gk - 1)
    case measure => omega
    case rel => exact ⟨j + 1, n + 16, by go_num, by omega, rfl, HS⟩
  · have h0d : 0 < dg xs j := by omega
    have HI := Lib.hid (i0s.start HO.out HV.out h0d hd)
    have t2 : (((dg xs j : Nat) : Int) == 0) = false := beq_eq_false_iff_ne.2 (by omega)
    clear hz
    go_wp2
    have hjn : n ≤ 160000000 := by omega
    clear e1 hcell t2 hn1
    obtain ⟨d0, hd0⟩ : ∃ d0, dg xs j = d0 := ⟨_, rfl⟩
    rw [hd0] at HI hd h0d ⊢
    clear hd0
    go_loopg [3, 4] d0 (fun gk nv dv wx => ∃ (n2 : Nat), nv = .int .i64 n2 ∧ dv = .int .i64 gk ∧ gk < 65536 ∧ wx = wr ∧ Hid (i0s m gk n2))
    case atStart => exact ⟨n, rfl, rfl, hd, rfl, HI⟩
    case round =>
     obtain ⟨n2, rfl, rfl, hgl, rfl, HN⟩ := hrel
     have hn2 : n2 ≤ 1000000000 := by obtain ⟨t, h1, h2, h3⟩ := HN.out; omega
     have hg0 : 0 < gk := by obtain ⟨t, h1, h2, h3⟩ := HN.out; omega
     by_cases hev : gk % 2 = 0
     · have HS := Lib.hid (HN.out.step hev)
       have t3 : (gk : Int) % 2 = 0 := by omega
       clear hev
       go_wp2
       go_roundg (gk / 2)
       case measure => omega
       case rel => exact ⟨n2 + 1, by go_num, by go_num, by omega, rfl, HS⟩
     · have HD := HN.out.done (by omega)
       have t3 : (gk : Int) % 2 = 1 := by omega
       subst HD
       obtain ⟨t, ht⟩ : ∃ t, tz m = t := ⟨_, rfl⟩
       have HT := Lib.hid ht
       rw [ht] at htz HB hn2 HN ⊢
       clear ht hev
       go_wp2_with fail
       clear t3
       have e1 : IntKind.i64.wrap (e + (t : Int)) = e + (t : Int) := IntWalk.i64_in _ (by omega)
       have hpm : Rd wr .i64 p (dig B16 m) := by rw [← HXS.out]; exact hp1
       go_region_held3 (fun w' => w'.cell? ⟨w.heap.size, 0, none⟩ = some (.bool g) ∧ w'.cell? ⟨w.heap.size, 1, none⟩ = some (.slice p xs.length c) ∧ w'.cell? ⟨w.heap.size, 2, none⟩ = some (.int .i64 e))
        (first | exact ⟨A1.c0, A1.c1, A1.c2⟩
               | (have D1 := A1.drew; exact ⟨D1.c0, D1.c1, D1.c2⟩)
               | (have D1 := A1.drew.past hb2; exact ⟨D1.c0, D1.c1, D1.c2⟩)
               | (have D1 := A1.drew.past hb2; exact ⟨(((D1.set (by omega)).set (by omega)).set (by omega)).c0, (((D1.set (by omega)).set (by omega)).set (by omega)).c1, (((D1.set (by omega)).set (by omega)).set (by omega)).c2⟩))
        (first | (go_at_call 121; refine (s0v p _ c m t _ hpm.drew (by rw [HXS.out]) (by rw [← HXS.out]; clear e1; omega) (by clear e1; omega)).mono ?_; rintro e2 w2 ⟨p2, c2, rfl, hr2, hc2, hf2, hb2⟩; obtain ⟨d0, d1, d2, f0, f1, f2, dlt⟩ := R1.drew.past hb2))
       all_goals (go_wp2_with fail)
       refine bodyPost_ret (v := .agg #[.bool g, .slice p2 (dig B16 (m / 2 ^ t)).length c2, .int .i64 (e + (t : Int))]) (by simp [results, Tryz.results77, go_sem, d0, d1, d2]) rfl ?_
       rw [HB.out]
       clear e1
       have hzd : wr.drew.heap.size = wr.heap.size := rfl
       exact e0v (d := ⟨g, m / 2 ^ t, e + t⟩) (hs1.drew.trans (hb2.mono hs1.size)) hr2 hc2 (fun h => .inr (by have := hf2 h; simp only at *; omega)) (by omega) (fun h => by have := hf2 h; simp only at *; omega)

theorem e0z (g : Bool) (p : Option Addr) (n c : Nat) (e : Int) (m : Nat) (w : World) (hp : Rd w .i64 p (dig B16 m)) (hn : n = (dig B16 m).length) (hl : (dig B16 m).length ≤ 10000000)
 (he : -1000000000 ≤ e ∧ e ≤ 1000000000) :
 Calls Tryz.prog 77 #[.agg #[.bool g, .slice p n c, .int .i64 e]] w (l0c w (fun _ => False) (bare ⟨g, m, e⟩)) := by
 by_cases h0 : m = 0
 · subst h0
   rw [a0c] at hn
   subst hn
   exact o0z g p c e w
 · exact q0x g p n c e m w hp hn hl (by omega) he


theorem l0y (p q : Option Addr) (n m c d : Nat) (a b : Nat) (w : World) (hp : Rd w .i64 p (dig B16 a)) (hq : Rd w .i64 q (dig B16 b)) (hn : n = (dig B16 a).length) (hm : m = (dig B16 b).length)
 (hl : (dig B16 a).length ≤ 1000000000) (hab : b ≤ a) :
 Calls Tryz.prog 85 #[.slice p n c, .slice q m d] w (g0k w .i64 (dig B16 (a - b))) := by
 subst hn hm
 have hge := a0l a0i hab
 have HXL := Lib.hid (b0k a0i a)
 have HYL := Lib.hid (b0k a0i b)
 have HA := Lib.hid (a0y a0i a)
 have HB := Lib.hid (a0y a0i b)
 generalize dig B16 a = xs at *
 generalize dig B16 b = ys at *
 have hsx := hp.solid
 have hsy := hq.solid
 go_enter Tryz.func85, Tryz.ntmps85
 go_wp2
 go_loopg [5, 6, 7] (xs.length) (fun g ov cv iv wr => ∃ (i cr : Nat) (t : Option Addr) (e : Nat) (O : List Nat), iv = .int .i64 i ∧ cv = .int .i64 cr ∧ ov = .slice t O.length e ∧ g + i = xs.length ∧ cr ≤ 1 ∧ i ≤ xs.length ∧ Hid (O.length = i) ∧
     Own wr w.heap.size .i64 3 t e O ∧ Below w.heap.size w wr ∧ Hid (g0d O xs ys i cr))
 case atStart => exact ⟨0, 0, none, 0, [], rfl, rfl, rfl, by omega, by omega, by omega, rfl, Own.nil _ _ _ _, Below.refl _ _, g0d.start xs ys⟩
 case round =>
  obtain ⟨i, cr, t, e, O, rfl, rfl, rfl, hg, hcr, hi, hO, hoq, hb, HR⟩ := hrel
  have hpL := hp.past hb
  have hqL := hq.past hb
  have hxd := a0j (B := 65536) (by omega) xs HXL.out i
  have hyd := a0j (B := 65536) (by omega) ys HYL.out i
  by_cases h1 : i < xs.length
  · have hc1 := hpL.cells i h1
    by_cases h2 : i < ys.length
    · have hc2 := hqL.cells i h2
      by_cases h3 : dg xs i < dg ys i + cr
      · have HS := Lib.hid (HR.out.step (dg xs i + 65536 - dg ys i - cr) 1 (by unfold B16; omega) (by omega) (by unfold B16; omega))
        go_wp2_with (first
          | (refine b0b rfl _ _ rfl tyN _ ?_ rfl ?_; omega; intro p2 w2 ho2 hb2 hz2 hp2)
          | (at_builtin; refine b0a rfl _ _ _ rfl tyN _ _ _ _ _ (hoq.past hb2) rfl _ _ _ _ ho2.rd rfl rfl rfl ?_ ?_ ?_; (have := hO.out; simp; omega); (have := hb2.size; have := hb.size; omega); intro p3 c3 w3 ho3 hg3 hb3 hn3))
        have hb4 := hb.trans ((hb2.mono hb.size).trans hb3)
        have e4 : ((dg xs i : Int) - cr - dg ys i + 65536).toNat = dg xs i + 65536 - dg ys i - cr := by omega
        rw [e4] at ho3
        go_roundg (xs.length - 1 - i)
        case measure => omega
        case rel => exact ⟨i + 1, 1, p3, c3, _, by go_num, rfl, by simp, by omega, by omega, by omega, (by show (O ++ _).length = i + 1; have := hO.out; simp; omega), ho3, hb4, HS⟩
      · have HS := Lib.hid (HR.out.step (dg xs i - dg ys i - cr) 0 (by unfold B16; omega) (by omega) (by unfold B16; omega))
        go_wp2_with (first
          | (refine b0b rfl _ _ rfl tyN _ ?_ rfl ?_; omega; intro p2 w2 ho2 hb2 hz2 hp2)
          | (at_builtin; refine b0a rfl _ _ _ rfl tyN _ _ _ _ _ (hoq.past hb2) rfl _ _ _ _ ho2.rd rfl rfl rfl ?_ ?_ ?_; (have := hO.out; simp; omega); (have := hb2.size; have := hb.size; omega); intro p3 c3 w3 ho3 hg3 hb3 hn3))
        have hb4 := hb.trans ((hb2.mono hb.size).trans hb3)
        have e4 : ((dg xs i : Int) - cr - dg ys i).toNat = dg xs i - dg ys i - cr := by omega
        rw [e4] at ho3
        go_roundg (xs.length - 1 - i)
        case measure => omega
        case rel => exact ⟨i + 1, 0, p3, c3, _, by go_num, rfl, by simp, by omega, by omega, by omega, (by show (O ++ _).length = i + 1; have := hO.out; simp; omega), ho3, hb4, HS⟩
    · have ez : dg ys i = 0 := b0l (by omega)
      by_cases h3 : dg xs i < cr
      · have HS := Lib.hid (HR.out.step (dg xs i + 65536 - cr) 1 (by unfold B16; omega) (by omega) (by unfold B16; omega))
        clear ez hyd
        go_wp2_with (first
          | (refine b0b rfl _ _ rfl tyN _ ?_ rfl ?_; omega; intro p2 w2 ho2 hb2 hz2 hp2)
          | (at_builtin; refine b0a rfl _ _ _ rfl tyN _ _ _ _ _ (hoq.past hb2) rfl _ _ _ _ ho2.rd rfl rfl rfl ?_ ?_ ?_; (have := hO.out; simp; omega); (have := hb2.size; have := hb.size; omega); intro p3 c3 w3 ho3 hg3 hb3 hn3))
        have hb4 := hb.trans ((hb2.mono hb.size).trans hb3)
        have e4 : ((dg xs i : Int) - cr + 65536).toNat = dg xs i + 65536 - cr := by omega
        rw [e4] at ho3
        go_roundg (xs.length - 1 - i)
        case measure => omega
        case rel => exact ⟨i + 1, 1, p3, c3, _, by go_num, rfl, by simp, by omega, by omega, by omega, (by show (O ++ _).length = i + 1; have := hO.out; simp; omega), ho3, hb4, HS⟩
      · have HS := Lib.hid (HR.out.step (dg xs i - cr) 0 (by unfold B16; omega) (by omega) (by unfold B16; omega))
        clear ez hyd
        go_wp2_with (first
          | (refine b0b rfl _ _ rfl tyN _ ?_ rfl ?_; omega; intro p2 w2 ho2 hb2 hz2 hp2)
          | (at_builtin; refine b0a rfl _ _ _ rfl tyN _ _ _ _ _ (hoq.past hb2) rfl _ _ _ _ ho2.rd rfl rfl rfl ?_ ?_ ?_; (have := hO.out; simp; omega); (have := hb2.size; have := hb.size; omega); intro p3 c3 w3 ho3 hg3 hb3 hn3))
        have hb4 := hb.trans ((hb2.mono hb.size).trans hb3)
        have e4 : ((dg xs i : Int) - cr).toNat = dg xs i - cr := by omega
        rw [e4] at ho3
        go_roundg (xs.length - 1 - i)
        case measure => omega
        case rel => exact ⟨i + 1, 0, p3, c3, _, by go_num, rfl, by simp, by omega, by omega, by omega, (by show (O ++ _).length = i + 1; have := hO.out; simp; omega), ho3, hb4, HS⟩
  · obtain rfl : i = xs.length := by omega
    have HD := Lib.hid (HR.out.done HA.out HB.out hge hab)
    go_wp2_with (go_at_call 112; refine (h0t _ _ _ O _ hoq.rd rfl hoq.le_cap HR.out.1 (by rw [hO.out]; omega)).mono ?_; rintro e w3 ⟨rfl, rfl⟩)
    go_ret
    have ht := b0d a0i O HR.out.1
    have ho2 := hoq.take (dig B16 (val B16 O)).length
    rw [ht, HD.out] at ho2
    rw [HD.out]
    exact ⟨t, _, rfl, ho2.rd, Nat.le_refl _, l0d ho2, hb⟩


theorem q0y (a N : Nat) : (dig B16 (a * 2 ^ N)).length ≤ (dig B16 a).length + (N / 16 + 1) := by
 refine Nat.le_trans (h0p a0i _ _) ?_
 have : (dig B16 (2 ^ N)).length = N / 16 + 1 := by rw [← i0f (B := B16) (w := 16) (by decide) (by omega) N]; simp
 omega

def z0l (a : Nat) (e f : Int) : Int := if a = 0 then f else min e f

theorem c1p (g h : Bool) (a b : Nat) (e f : Int) : f0n ⟨g, a, e⟩ ⟨h, b, f⟩ = if b = 0 then e else z0l a e f := rfl

theorem l0z (a : Nat) : (((dig B16 a).length : Int) == 0) = decide (a = 0) := by
 have := a0e a0i a
 by_cases h : a = 0
 · subst h; rw [a0c]; rfl
 · rw [decide_eq_false h]; exact beq_eq_false_iff_ne.2 (by omega)

theorem q0z (g h : Bool) (p q : Option Addr) (n c m d : Nat) (e f : Int) (a b : Nat) (w : World) (hp : Rd w .i64 p (dig B16 a)) (hq : Rd w .i64 q (dig B16 b)) (hn : n = (dig B16 a).length) (hm : m = (dig B16 b).length)
 (hl : (dig B16 a).length ≤ 1000000) (hl2 : (dig B16 b).length ≤ 1000000) (he : -1000000 ≤ e ∧ e ≤ 1000000) (hf : -1000000 ≤ f ∧ f ≤ 1000000) :
 Calls Tryz.prog 82 #[.agg #[.bool g, .slice p n c, .int .i64 e], .agg #[.bool h, .slice q m d, .int .i64 f]] w (l0c w (fun _ => False) (g0e ⟨g, a, e⟩ ⟨h, b, f⟩)) := by
 subst hn hm
 obtain ⟨W1, hW1, hs1, A1, B1, R1, hz1⟩ := j1q w (.bool g) (.slice p (dig B16 a).length c) (.int .i64 e) (.bool h) (.slice q (dig B16 b).length d) (.int .i64 f) (.bool false) (.slice none 0 0) (.int .i64 0) 30 30 30
 have hp1 := hp.past hs1
 have hq1 := hq.past hs1
 have a1 := A1.c1
 have a2 := A1.c2
 have b1 := B1.c1
 have b2 := B1.c2
 have HW1 := Lib.hid hW1
 clear hW1
 have za := l0z a
 have zb := l0z b
 go_enter Tryz.func82, Tryz.ntmps82
 go_upto_if 16 with (fail)
 rw [← HW1.out]
 clear HW1
 go_cut [5] (fun s5 wx => s5 = .int .i64 (z0l a e f) ∧ wx = W1)
 case first =>
  go_wp2_with fail
  all_goals go_meet
  all_goals (refine ⟨?_, rfl⟩; unfold z0l; simp [*])
 case rest =>
  obtain ⟨rfl, rfl⟩ := hcut
  go_upto_if 22 with (fail)
  go_cut [5] (fun s5 wx => s5 = .int .i64 (f0n ⟨g, a, e⟩ ⟨h, b, f⟩) ∧ wx = wc)
  case first =>
   go_wp2_with fail
   all_goals go_meet
   all_goals (refine ⟨?_, rfl⟩; rw [c1p]; simp [*])
  case rest =>
   obtain ⟨rfl, rfl⟩ := hcut
   clear za zb
   go_wp2_with fail
   clear a1 a2 b1 b2
   obtain ⟨w1, hw1⟩ : ∃ w1, w1 = wc := ⟨_, rfl⟩
   subst hw1
   have HJ := Lib.hid (show g0e ⟨g, a, e⟩ ⟨h, b, f⟩ = bare (e0r g h (a * 2 ^ (e - f0n ⟨g, a, e⟩ ⟨h, b, f⟩).toNat) (b * 2 ^ (f - f0n ⟨g, a, e⟩ ⟨h, b, f⟩).toNat) (f0n ⟨g, a, e⟩ ⟨h, b, f⟩)) from rfl)
   have hk1 : -1000000 ≤ f0n ⟨g, a, e⟩ ⟨h, b, f⟩ ∧ f0n ⟨g, a, e⟩ ⟨h, b, f⟩ ≤ 1000000 := by unfold f0n; simp only; split; omega; split; omega; omega
   generalize f0n ⟨g, a, e⟩ ⟨h, b, f⟩ = k at *
   obtain ⟨N1, hN1⟩ : ∃ N1, N1 = (e - k).toNat := ⟨_, rfl⟩
   obtain ⟨N2, hN2⟩ : ∃ N2, N2 = (f - k).toNat := ⟨_, rfl⟩
   rw [← hN1, ← hN2] at HJ
   have n1 : N1 ≤ 2000000 := by omega
   have n2 : N2 ≤ 2000000 := by omega
   have e1 : IntKind.i64.wrap (e - k) = e - k := IntWalk.i64_in _ (by omega)
   have e2 : IntKind.i64.wrap (f - k) = f - k := IntWalk.i64_in _ (by omega)
   have m1 : max 0 (e - k) = (N1 : Int) := by omega
   have m2 : max 0 (f - k) = (N2 : Int) := by omega
   clear hN1 hN2
   go_cut [6, 7] (fun s6 s7 wx => ∃ (px : Option Addr) (cx : Nat) (py : Option Addr) (cy : Nat), s6 = .slice px (dig B16 (a * 2 ^ N1)).length cx ∧ s7 = .slice py (dig B16 (b * 2 ^ N2)).length cy ∧
     Rd wx .i64 px (dig B16 (a * 2 ^ N1)) ∧ Rd wx .i64 py (dig B16 (b * 2 ^ N2)) ∧ Below w1.heap.size w1 wx)
   case first =>
    go_region_held3 (fun w' => (w'.cell? ⟨w.heap.size, 1, none⟩ = some (.slice p (dig B16 a).length c) ∧ w'.cell? ⟨w.heap.size, 2, none⟩ = some (.int .i64 e)) ∧
        (w'.cell? ⟨w.heap.size + 1, 1, none⟩ = some (.slice q (dig B16 b).length d) ∧ w'.cell? ⟨w.heap.size + 1, 2, none⟩ = some (.int .i64 f)))
     (first | exact ⟨⟨A1.c1, A1.c2⟩, B1.c1, B1.c2⟩
            | (have D1 := A1.drew; have D2 := B1.drew; exact ⟨⟨D1.c1, D1.c2⟩, D2.c1, D2.c2⟩)
            | (have D1 := (A1.drew.past hbx).past hby; have D2 := (B1.drew.past hbx).past hby; exact ⟨⟨D1.c1, D1.c2⟩, D2.c1, D2.c2⟩)
            | (have D1 := (A1.drew.past hby).past hbx; have D2 := (B1.drew.past hby).past hbx; exact ⟨⟨D1.c1, D1.c2⟩, D2.c1, D2.c2⟩)
            | (have D1 := A1.drew.past hbx; have D2 := B1.drew.past hbx; exact ⟨⟨D1.c1, D1.c2⟩, D2.c1, D2.c2⟩)
            | (have D1 := A1.drew.past hby; have D2 := B1.drew.past hby; exact ⟨⟨D1.c1, D1.c2⟩, D2.c1, D2.c2⟩))
     (first
       | (go_at_call_of 122 (Value.slice p (dig B16 a).length c); refine (q0w p _ c a N1 _ ?_ rfl (by clear e1 e2 m1 m2; omega) (by clear e1 e2 m1 m2; omega)).mono ?_; (first | exact hp1.drew | exact hp1.drew.past hby); rintro ex wx ⟨px, cx, rfl, hrx, hcx, hfx, hbx⟩)
       | (go_at_call_of 122 (Value.slice q (dig B16 b).length d); refine (q0w q _ d b N2 _ ?_ rfl (by clear e1 e2 m1 m2; omega) (by clear e1 e2 m1 m2; omega)).mono ?_; (first | exact hq1.drew | exact hq1.drew.past hbx); rintro ey wy ⟨py, cy, rfl, hry, hcy, hfy, hby⟩))
    all_goals (clear e1 e2 m1 m2)
    all_goals (go_wp2_with fail)
    all_goals go_meet
    all_goals (first
      | exact ⟨px, cx, py, cy, rfl, rfl, hrx.past hby, hry, ((Below.refl _ _).drew.trans hbx).trans (hby.mono hbx.size)⟩
      | exact ⟨px, cx, py, cy, rfl, rfl, hrx, hry.past hbx, ((Below.refl _ _).drew.trans hby).trans (hbx.mono hby.size)⟩)
   case rest =>
    obtain ⟨px, cx, py, cy, rfl, rfl, hrx, hry, hb4⟩ := hcut
    clear e1 e2 m1 m2
    have lX : (dig B16 (a * 2 ^ N1)).length ≤ 2000000 := by have := q0y a N1; omega
    have lY : (dig B16 (b * 2 ^ N2)).length ≤ 2000000 := by have := q0y b N2; omega
    generalize a * 2 ^ N1 = x at *
    generalize b * 2 ^ N2 = y at *
    have hs4 := hs1.trans (hb4.mono hs1.size)
    have A4 := A1.past hb4
    have B4 := B1.past hb4
    have R4 := R1.past hb4
    have a0 := A4.c0
    have b0 := B4.c0
    have hzc := hb4.size
    clear a0 b0
    have hxy0 : 0 ≤ k + 1000000 := by omega
    by_cases hgh : g = h
    · subst hgh
      have HK := Lib.hid (HJ.out.trans (congrArg bare (show e0r g g x y k = ⟨g, x + y, k⟩ by unfold e0r; rw [if_pos rfl])))
      have hgg : (g == g) = true := by simp
      have lm : (dig B16 (x + y)).length ≤ 5000000 := by have := e0p a0i x y; omega
      have a0 := A4.c0
      have b0 := B4.c0
      go_wp2_with fail
      clear a0 b0
      obtain ⟨m, hm⟩ : ∃ m, x + y = m := ⟨_, rfl⟩
      have HM := Lib.hid hm
      rw [hm] at HK lm
      clear hm
      go_region_held3 (fun w' => w'.cell? ⟨w.heap.size, 0, none⟩ = some (.bool g))
       (first | exact A4.c0 | exact A4.drew.c0 | exact (A4.drew.past hb6).c0 | exact ((A4.drew.past hb6).past hb7).c0 | exact (((((A4.drew.past hb6).past hb7).set (by omega)).set (by omega)).set (by omega)).c0)
       (first | (go_at_call 79; refine (l0w px py _ _ cx cy x y _ hrx.drew hry.drew rfl rfl (by omega)).mono ?_; rw [HM.out]; rintro e6 w6 ⟨p6, c6, rfl, hr6, hc6, hf6, hb6⟩)
              | (go_at_call 77; refine (e0z g p6 _ c6 k m _ hr6 rfl (by omega) (by omega)).mono ?_; generalize bare ⟨g, m, k⟩ = rr at *; rintro e7 w7 ⟨p7, c7, rfl, hr7, hc7, hf7, hb7⟩; obtain ⟨d0, d1, d2, f0, f1, f2, dlt⟩ := (R4.drew.past hb6).past hb7))
      all_goals (go_wp2_with fail)
      refine bodyPost_ret (v := .agg #[.bool rr.neg, .slice p7 (dig B16 rr.m).length c7, .int .i64 rr.e]) (by simp [results, Tryz.results82, go_sem, d0, d1, d2]) rfl ?_
      rw [HK.out]
      have hzd : wc.drew.heap.size = wc.heap.size := rfl
      have hs6 := hs4.drew.trans (hb6.mono hs4.size)
      have hz6 := hb6.size
      have hzR := R4.lt
      have hzS := hs4.size
      have hf : 0 < (dig B16 rr.m).length → w6.heap.size ≤ blk p7 := fun h => by rcases hf7 h with h | h; exact h.elim; exact h
      exact e0v (hs6.trans (hb7.mono hs6.size)) hr7 hc7 (fun h => .inr (by have := hf h; omega)) (by omega) (fun h => by have := hf h; omega)
    · by_cases hxy : y ≤ x
      · have HK := Lib.hid (HJ.out.trans (congrArg bare (show e0r g h x y k = ⟨g, x - y, k⟩ by unfold e0r; rw [if_neg hgh, if_pos hxy])))
        have hgg : (g == h) = false := by simpa using hgh
        have hC : 0 ≤ cmpN x y := by unfold cmpN; rw [if_neg (by omega)]; split <;> omega
        have HXY := Lib.hid hxy
        have lm : (dig B16 (x - y)).length ≤ 5000000 := by have := a0l a0i (Nat.sub_le x y); omega
        clear hxy hgh
        have a0 := A4.c0
        have b0 := B4.c0
        go_wp2_with fail
        ((with_reducible refine (h0f px py _ _ cx cy x y _ hrx hry rfl rfl (by omega) (by omega)).mono ?_))
        rintro e9 w9 ⟨rfl, hb9⟩
        clear a0 b0
        have hs9 := hs4.trans (hb9.mono hs4.size)
        have hz9 := hb9.size
        replace A4 := A4.past hb9
        replace B4 := B4.past hb9
        replace R4 := R4.past hb9
        replace hrx := hrx.past hb9
        replace hry := hry.past hb9
        go_wp2_with fail
        obtain ⟨m, hm⟩ : ∃ m, x - y = m := ⟨_, rfl⟩
        have HM := Lib.hid hm
        rw [hm] at HK lm
        clear hm
        go_region_held3 (fun w' => w'.cell? ⟨w.heap.size, 0, none⟩ = some (.bool g))
         (first | exact A4.c0 | exact A4.drew.c0 | exact (A4.drew.past hb6).c0 | exact ((A4.drew.past hb6).past hb7).c0 | exact (((((A4.drew.past hb6).past hb7).set (by omega)).set (by omega)).set (by omega)).c0)
         (first | (go_at_call 85; refine (l0y px py _ _ cx cy x y _ hrx.drew hry.drew rfl rfl (by omega) HXY.out).mono ?_; rw [HM.out]; rintro e6 w6 ⟨p6, c6, rfl, hr6, hc6, hf6, hb6⟩)
                | (go_at_call 77; refine (e0z g p6 _ c6 k m _ hr6 rfl (by omega) (by omega)).mono ?_; generalize bare ⟨g, m, k⟩ = rr at *; rintro e7 w7 ⟨p7, c7, rfl, hr7, hc7, hf7, hb7⟩; obtain ⟨d0, d1, d2, f0, f1, f2, dlt⟩ := (R4.drew.past hb6).past hb7))
        all_goals (go_wp2_with fail)
        refine bodyPost_ret (v := .agg #[.bool rr.neg, .slice p7 (dig B16 rr.m).length c7, .int .i64 rr.e]) (by simp [results, Tryz.results82, go_sem, d0, d1, d2]) rfl ?_
        rw [HK.out]
        have hzd : w9.drew.heap.size = w9.heap.size := rfl
        have hs6 := hs9.drew.trans (hb6.mono hs9.size)
        have hz6 := hb6.size
        have hzR := R4.lt
        have hzS := hs9.size
        have hf : 0 < (dig B16 rr.m).length → w6.heap.size ≤ blk p7 := fun h => by rcases hf7 h with h | h; exact h.elim; exact h
        exact e0v (hs6.trans (hb7.mono hs6.size)) hr7 hc7 (fun h => .inr (by have := hf h; omega)) (by omega) (fun h => by have := hf h; omega)
      · have HK := Lib.hid (HJ.out.trans (congrArg bare (show e0r g h x y k = ⟨h, y - x, k⟩ by unfold e0r; rw [if_neg hgh, if_neg hxy])))
        have hgg : (g == h) = false := by simpa using hgh
        have hC : cmpN x y ≤ -1 := by rw [g0c (by omega)]; omega
        have HXY := Lib.hid (show x ≤ y by omega)
        have lm : (dig B16 (y - x)).length ≤ 5000000 := by have := a0l a0i (Nat.sub_le y x); omega
        clear hxy hgh
        have a0 := A4.c0
        have b0 := B4.c0
        go_wp2_with fail
        ((with_reducible refine (h0f px py _ _ cx cy x y _ hrx hry rfl rfl (by omega) (by omega)).mono ?_))
        rintro e9 w9 ⟨rfl, hb9⟩
        clear a0 b0
        have hs9 := hs4.trans (hb9.mono hs4.size)
        have hz9 := hb9.size
        replace A4 := A4.past hb9
        replace B4 := B4.past hb9
        replace R4 := R4.past hb9
        replace hrx := hrx.past hb9
        replace hry := hry.past hb9
        go_wp2_with fail
        obtain ⟨m, hm⟩ : ∃ m, y - x = m := ⟨_, rfl⟩
        have HM := Lib.hid hm
        rw [hm] at HK lm
        clear hm
        go_region_held3 (fun w' => w'.cell? ⟨w.heap.size + 1, 0, none⟩ = some (.bool h))
         (first | exact B4.c0 | exact B4.drew.c0 | exact (B4.drew.past hb6).c0 | exact ((B4.drew.past hb6).past hb7).c0 | exact (((((B4.drew.past hb6).past hb7).set (by omega)).set (by omega)).set (by omega)).c0)
         (first | (go_at_call 85; refine (l0y py px _ _ cy cx y x _ hry.drew hrx.drew rfl rfl (by omega) HXY.out).mono ?_; rw [HM.out]; rintro e6 w6 ⟨p6, c6, rfl, hr6, hc6, hf6, hb6⟩)
                | (go_at_call 77; refine (e0z h p6 _ c6 k m _ hr6 rfl (by omega) (by omega)).mono ?_; generalize bare ⟨h, m, k⟩ = rr at *; rintro e7 w7 ⟨p7, c7, rfl, hr7, hc7, hf7, hb7⟩; obtain ⟨d0, d1, d2, f0, f1, f2, dlt⟩ := (R4.drew.past hb6).past hb7))
        all_goals (go_wp2_with fail)
        refine bodyPost_ret (v := .agg #[.bool rr.neg, .slice p7 (dig B16 rr.m).length c7, .int .i64 rr.e]) (by simp [results, Tryz.results82, go_sem, d0, d1, d2]) rfl ?_
        rw [HK.out]
        have hzd : w9.drew.heap.size = w9.heap.size := rfl
        have hs6 := hs9.drew.trans (hb6.mono hs9.size)
        have hz6 := hb6.size
        have hzR := R4.lt
        have hzS := hs9.size
        have hf : 0 < (dig B16 rr.m).length → w6.heap.size ≤ blk p7 := fun h => by rcases hf7 h with h | h; exact h.elim; exact h
        exact e0v (hs6.trans (hb7.mono hs6.size)) hr7 hc7 (fun h => .inr (by have := hf h; omega)) (by omega) (fun h => by have := hf h; omega)


theorem r0a (P : Nat → Prop) (g : Bool) (p : Option Addr) (n c : Nat) (e : Int) (a : Nat) (w : World) (hp : Rd w .i64 p (dig B16 a)) (hn : n = (dig B16 a).length) (hc : n ≤ c) (hP : 0 < (dig B16 a).length → P (blk p)) :
 Calls Tryz.prog 16 #[.agg #[.bool g, .slice p n c, .int .i64 e]] w (l0c w P (c0b ⟨g, a, e⟩)) := by
 subst hn
 have hz := a0e a0i a
 cases g
 · by_cases h0 : 0 < (dig B16 a).length
   · have t1 : decide ((0 : Int) < ((dig B16 a).length : Int)) = true := decide_eq_true (by omega)
     have hd : c0b ⟨false, a, e⟩ = ⟨true, a, e⟩ := by unfold c0b; simp; (try omega)
     rw [hd]
     clear hd hz
     go_enter Tryz.func16, Tryz.ntmps16
     go_wp2
     refine bodyPost_ret (v := .agg #[.bool true, .slice p (dig B16 a).length c, .int .i64 e]) (by simp [results, Tryz.results16, go_sem]) rfl ?_
     exact ⟨p, c, rfl, (hp.laid _).laid _, hc, fun h => .inl (hP h), d0v _ _ _⟩
   · have t1 : decide ((0 : Int) < ((dig B16 a).length : Int)) = false := decide_eq_false (by omega)
     have hd : c0b ⟨false, a, e⟩ = ⟨false, a, e⟩ := by unfold c0b; simp; (try omega)
     rw [hd]
     clear hd hz
     go_enter Tryz.func16, Tryz.ntmps16
     go_wp2
     refine bodyPost_ret (v := .agg #[.bool false, .slice p (dig B16 a).length c, .int .i64 e]) (by simp [results, Tryz.results16, go_sem]) rfl ?_
     exact ⟨p, c, rfl, (hp.laid _).laid _, hc, fun h => .inl (hP h), d0v _ _ _⟩
 · have t0 := True.intro
   have hd : c0b ⟨true, a, e⟩ = ⟨false, a, e⟩ := by unfold c0b; simp; (try omega)
   rw [hd]
   clear hd hz
   go_enter Tryz.func16, Tryz.ntmps16
   go_wp2
   refine bodyPost_ret (v := .agg #[.bool false, .slice p (dig B16 a).length c, .int .i64 e]) (by simp [results, Tryz.results16, go_sem]) rfl ?_
   exact ⟨p, c, rfl, (hp.laid _).laid _, hc, fun h => .inl (hP h), d0v _ _ _⟩


theorem v0q (a b : Dv) : rCmp a b = if (g0e a (c0b b)).m = 0 then 0 else if (g0e a (c0b b)).neg then -1 else 1 := rfl

theorem s0w (g h : Bool) (p q : Option Addr) (n c m d : Nat) (e f : Int) (a b : Nat) (w : World) (hp : Rd w .i64 p (dig B16 a)) (hq : Rd w .i64 q (dig B16 b)) (hn : n = (dig B16 a).length) (hm : m = (dig B16 b).length) (hcm : m ≤ d)
 (hl : (dig B16 a).length ≤ 1000000) (hl2 : (dig B16 b).length ≤ 1000000) (he : -1000000 ≤ e ∧ e ≤ 1000000) (hf : -1000000 ≤ f ∧ f ≤ 1000000) :
 Calls Tryz.prog 55 #[.agg #[.bool g, .slice p n c, .int .i64 e], .agg #[.bool h, .slice q m d, .int .i64 f]] w fun en w' => en = .returned (.int .i64 (rCmp ⟨g, a, e⟩ ⟨h, b, f⟩)) ∧ Below w.heap.size w w' := by
 subst hn hm
 have hs1 := d0v w (.cells #[.bool g, .slice p (dig B16 a).length c, .int .i64 e] 30) (.cells #[.bool h, .slice q (dig B16 b).length d, .int .i64 f] 30)
 have A1 := (a0u w (.bool g) (.slice p (dig B16 a).length c) (.int .i64 e) 30).laid (.cells #[.bool h, .slice q (dig B16 b).length d, .int .i64 f] 30)
 have B1 := a0u (w.alloc (.cells #[.bool g, .slice p (dig B16 a).length c, .int .i64 e] 30)) (.bool h) (.slice q (dig B16 b).length d) (.int .i64 f) 30
 simp only [World.size_alloc] at B1
 have hp1 := hp.past hs1
 have hq1 := hq.past hs1
 have HC := Lib.hid (v0q ⟨g, a, e⟩ ⟨h, b, f⟩)
 obtain ⟨mi, hmi⟩ : ∃ mi, c0b ⟨h, b, f⟩ = mi := ⟨_, rfl⟩
 have hmm : mi.m = b ∧ mi.e = f := by rw [← hmi]; exact ⟨rfl, rfl⟩
 have HMI := Lib.hid hmi
 rw [hmi] at HC
 clear hmi
 obtain ⟨h', b', f'⟩ := mi
 simp only at hmm
 obtain ⟨rfl, rfl⟩ := hmm
 obtain ⟨⟨gr, mr, xr⟩, hr⟩ : ∃ r, g0e ⟨g, a, e⟩ ⟨h', b', f'⟩ = r := ⟨_, rfl⟩
 rw [hr] at HC
 have HR := Lib.hid hr
 clear hr
 have hz := a0e a0i mr
 obtain ⟨W1, hW1⟩ : ∃ W1, W1 = (w.alloc (.cells #[.bool g, .slice p (dig B16 a).length c, .int .i64 e] 30)).alloc (.cells #[.bool h, .slice q (dig B16 b').length d, .int .i64 f'] 30) := ⟨_, rfl⟩
 have hz1 : W1.heap.size = w.heap.size + 1 + 1 := by rw [hW1]; simp
 rw [← hW1] at hs1 A1 B1 hp1 hq1
 have HW1 := Lib.hid hW1
 clear hW1
 have HZ := Lib.hid hz
 clear hz
 go_enter Tryz.func55, Tryz.ntmps55
 go_wp2_with fail
 rw [← HW1.out]
 clear HW1
 go_cut [5] (fun s5 wx => ∃ (k : Nat) (pr : Option Addr) (cr : Nat), s5 = .pointer (some ⟨k, 0, none⟩) ∧ wx.cell? ⟨k, 0, none⟩ = some (.bool gr) ∧ wx.cell? ⟨k, 1, none⟩ = some (.slice pr (dig B16 mr).length cr) ∧ Below w.heap.size w wx)
 case first =>
  go_region_held3 (fun w' => (w'.cell? ⟨w.heap.size, 0, none⟩ = some (.bool g) ∧ w'.cell? ⟨w.heap.size, 1, none⟩ = some (.slice p (dig B16 a).length c) ∧ w'.cell? ⟨w.heap.size, 2, none⟩ = some (.int .i64 e)) ∧
      (w'.cell? ⟨w.heap.size + 1, 0, none⟩ = some (.bool h) ∧ w'.cell? ⟨w.heap.size + 1, 1, none⟩ = some (.slice q (dig B16 b').length d) ∧ w'.cell? ⟨w.heap.size + 1, 2, none⟩ = some (.int .i64 f')))
   (first | exact ⟨⟨(((A6.set hkA).set hkA).set hkA).c0, (((A6.set hkA).set hkA).set hkA).c1, (((A6.set hkA).set hkA).set hkA).c2⟩, (((B6.set hkB).set hkB).set hkB).c0, (((B6.set hkB).set hkB).set hkB).c1, (((B6.set hkB).set hkB).set hkB).c2⟩
          | exact ⟨⟨(A6.laid _).c0, (A6.laid _).c1, (A6.laid _).c2⟩, (B6.laid _).c0, (B6.laid _).c1, (B6.laid _).c2⟩
          | exact ⟨⟨(A6).c0, (A6).c1, (A6).c2⟩, (B6).c0, (B6).c1, (B6).c2⟩
          | exact ⟨⟨((A1.drew.laid _).past hb2).c0, ((A1.drew.laid _).past hb2).c1, ((A1.drew.laid _).past hb2).c2⟩, ((B1.drew.laid _).past hb2).c0, ((B1.drew.laid _).past hb2).c1, ((B1.drew.laid _).past hb2).c2⟩
          | exact ⟨⟨((A1.drew.past hb2).laid _).c0, ((A1.drew.past hb2).laid _).c1, ((A1.drew.past hb2).laid _).c2⟩, ((B1.drew.past hb2).laid _).c0, ((B1.drew.past hb2).laid _).c1, ((B1.drew.past hb2).laid _).c2⟩
          | exact ⟨⟨(A1.drew.past hb2).c0, (A1.drew.past hb2).c1, (A1.drew.past hb2).c2⟩, (B1.drew.past hb2).c0, (B1.drew.past hb2).c1, (B1.drew.past hb2).c2⟩
          | exact ⟨⟨(A1.drew.laid _).c0, (A1.drew.laid _).c1, (A1.drew.laid _).c2⟩, (B1.drew.laid _).c0, (B1.drew.laid _).c1, (B1.drew.laid _).c2⟩
          | exact ⟨⟨(A1.drew).c0, (A1.drew).c1, (A1.drew).c2⟩, (B1.drew).c0, (B1.drew).c1, (B1.drew).c2⟩
          | exact ⟨⟨(A1).c0, (A1).c1, (A1).c2⟩, (B1).c0, (B1).c1, (B1).c2⟩)
   (first
     | (go_at_call 16; refine (r0a (fun _ => True) h q _ d f' b' _ ?_ rfl hcm (fun _ => trivial)).mono ?_; (first | exact hq1.drew | exact hq1.drew.laid _); rw [HMI.out]; rintro e2 w2 ⟨p2, c2, rfl, hr2, hc2, hf2, hb2⟩)
     | (go_at_call 82; refine (q0z g h' p p2 _ c _ c2 e f' a b' _ ?_ ?_ rfl rfl hl hl2 he hf).mono ?_; (first | exact hp1.drew.past hb2 | exact (hp1.drew.laid _).past hb2 | exact (hp1.drew.past hb2).laid _); (first | exact hr2 | exact hr2.laid _); rw [HR.out]; rintro e3 w3 ⟨p3, c3, rfl, hr3, hc3, hf3, hb3⟩; (first
         | (have K3 := ((a0u W1.drew (.bool false) (.slice none 0 0) (.int .i64 0) 30).past hb2).past hb3; have hK3 : W1.drew.heap.size = W1.heap.size := rfl; rw [hK3, hz1] at K3; clear hK3; have KP := K3.put (.bool gr) (.slice p3 (dig B16 mr).length c3) (.int .i64 xr); obtain ⟨k0, k1, k2, k3, k4, k5, k6⟩ := K3; have hsA := (hs1.alloc hs1.size (.cells #[.bool false, .slice none 0 0, .int .i64 0] 30)).drew; have hs2 := hsA.trans (hb2.mono hsA.size); have hs3 := hs2.trans (hb3.mono hs2.size); have hkK : w.heap.size ≤ w.heap.size + 1 + 1 := Nat.le_succ_of_le (Nat.le_succ _); have A6 := ((A1.drew.laid _).past hb2).past hb3; have B6 := ((B1.drew.laid _).past hb2).past hb3; have hkA : w.heap.size < w.heap.size + 1 + 1 := Nat.lt_succ_of_lt (Nat.lt_succ_self _); have hkB : w.heap.size + 1 < w.heap.size + 1 + 1 := Nat.lt_succ_self _)
         | (have K3 := (a0u w2 (.bool false) (.slice none 0 0) (.int .i64 0) 30).past hb3; have KP := K3.put (.bool gr) (.slice p3 (dig B16 mr).length c3) (.int .i64 xr); obtain ⟨k0, k1, k2, k3, k4, k5, k6⟩ := K3; have hs2 := hs1.drew.trans (hb2.mono hs1.size); have hkK : w.heap.size ≤ w2.heap.size := hs2.size; have hsA := hs2.alloc hs2.size (.cells #[.bool false, .slice none 0 0, .int .i64 0] 30); have hs3 := hsA.trans (hb3.mono hsA.size); have A6 := ((A1.drew.past hb2).laid _).past hb3; have B6 := ((B1.drew.past hb2).laid _).past hb3; have hkA : w.heap.size < w2.heap.size := (A1.drew.past hb2).lt; have hkB : w.heap.size + 1 < w2.heap.size := (B1.drew.past hb2).lt)
         | (have hs2 := hs1.drew.trans (hb2.mono hs1.size); have hs3 := hs2.trans (hb3.mono hs2.size); have A6 := (A1.drew.past hb2).past hb3; have B6 := (B1.drew.past hb2).past hb3))))
  all_goals (go_wp2_with fail)
  all_goals go_meet
  all_goals (first
    | exact ⟨_, p3, c3, rfl, KP.c0, KP.c1, ((hs3.setCell hkK _).setCell hkK _).setCell hkK _⟩
    | exact ⟨w3.heap.size, p3, c3, rfl, (a0u w3 _ _ _ _).c0, (a0u w3 _ _ _ _).c1, hs3.alloc hs3.size _⟩)
 case rest =>
  obtain ⟨k, pr, cr, rfl, k0, k1, hs9⟩ := hcut
  by_cases h0 : mr = 0
  · have hl0 : (dig B16 mr).length = 0 := HZ.out.2 h0
    have HK := Lib.hid (HC.out.trans (by rw [if_pos h0]))
    rw [hl0] at k1
    clear hl0 h0
    go_wp2
    go_ret
    exact ⟨c0r HK.out.symm, hs9⟩
  · have t1 : (((dig B16 mr).length : Int) == 0) = false := beq_eq_false_iff_ne.2 (fun h => h0 (HZ.out.1 (by omega)))
    cases gr
    · have HK := Lib.hid (HC.out.trans (by rw [if_neg h0]))
      clear h0
      go_wp2
      go_ret
      exact ⟨c0r HK.out.symm, hs9⟩
    · have HK := Lib.hid (HC.out.trans (by rw [if_neg h0]))
      clear h0
      go_wp2
      go_ret
      exact ⟨c0r HK.out.symm, hs9⟩

end Go.Proofs.YtlcdfnaaenibgaaGreatDoor
namespace Go.Slip
end Go.Slip
namespace Go.Proofs.YtlcdfnaaenibgaaGreatDoor
open Go.RowKit Go.Slip

theorem m0a : dig B16 1 = [1] := by rw [e0f a0i (by omega), show 1 / B16 = 0 by unfold B16; omega, a0c, show 1 % B16 = 1 by unfold B16; omega]
theorem i1s {w : World} {b : Nat} {t : TypeId} (h : Bt w b t #[.int .i64 1]) : Rf w b (some ⟨b, 0, none⟩) 1 (dig B16 1) := by rw [m0a]; exact d1p (k := 1) h
theorem z0m : 1 = (dig B16 1).length := by rw [m0a]; rfl
theorem stay {P : Program} {f : FuncId} {args : Array Value} {w : World} {E : Ending} (h : Calls P f args w fun e w' => e = E ∧ w = w') : Calls P f args w fun e w' => e = E ∧ Below w.heap.size w w' :=
 h.mono fun e w' ⟨h1, h2⟩ => ⟨h1, by subst h2; exact Below.refl _ _⟩


theorem r0b {a b : Nat} (h : cmpN a b = 0) : a = b := by
 unfold cmpN at h
 split at h
 · omega
 · split at h <;> omega
theorem i1t {n : Nat} (x : Nat) (hl : (dig B32 x).length ≤ n) : tz x ≤ 32 * n := by
 rcases Nat.eq_zero_or_pos x with h | h
 · rw [h, w0w]; omega
 · have h1 := (c0s x h).1
   have h2 := (a0h a0a x n).1 hl
   have h3 : 2 ^ tz x ≤ x := by
    have : 0 < x / 2 ^ tz x := by
     rcases Nat.eq_zero_or_pos (x / 2 ^ tz x) with h4 | h4
     · rw [h4, Nat.mul_zero] at h1; omega
     · exact h4
    have h5 := Nat.mul_le_mul_left (2 ^ tz x) this
    omega
   rw [show B32 = 2 ^ 32 from rfl, ← Nat.pow_mul] at h2
   have h6 := (Nat.pow_lt_pow_iff_right (a := 2) (by omega)).1 (Nat.lt_of_le_of_lt h3 h2)
   omega
theorem k1g (x : Nat) (hl : (dig B32 x).length ≤ 1000) : tz x ≤ 32000 := i1t x hl

def e1f (w : World) (base : Nat) (d : Dc) (en : Ending) (w' : World) : Prop :=
 ∃ p c, en = .returned (.tuple #[.int .i64 (d.cls : Int), .slice p (dig B32 d.m).length c, .int .i64 d.p]) ∧ Own w' base .u32 160 p c (dig B32 d.m) ∧ Below w.heap.size w w'

theorem d0c {w w' : World} {base : Nat} {k : Nat} {en : Ending} (h : en = .returned (.tuple #[.int .i64 (k : Int), .slice none 0 0, .int .i64 0])) (hb : Below w.heap.size w w') : e1f w base ⟨k, 0, 0⟩ en w' := by
 refine ⟨none, 0, ?_, ?_, hb⟩
 · rw [h, a0c]; rfl
 · rw [a0c]; exact Own.nil _ _ _ _

theorem z0n (f : Fm) (g : Bool) (e x : Nat) (p : Option Addr) (c base : Nat) (w : World) (G : c0t f) (hp : Own w base .u32 160 p c (dig B32 x)) (hb : base ≤ w.heap.size) (he : e < 2 ^ f.E) (hx : x < 2 ^ f.F) :
 Calls Tryz.prog 156 #[.agg #[.int .i64 (f.size : Int), .int .i64 (f.E : Int), .int .i64 (f.F : Int), .int .i64 f.g.rad, .int .i64 f.g.digs, .int .i64 f.g.lo, .int .i64 f.g.hi, .bool f.g.grad, .bool f.hid, .bool f.inf, .bool f.res, .func (.func (ordF f)) #[] #[]], .agg #[.bool g, .int .i64 (e : Int), .slice p (dig B32 x).length c]] w (e1f w base (f.dec g e x)) := by
 have z2 := G.e2
 have z3 := G.f2
 have z4 := G.lo
 have hxl := a0p hx (k := 2) (by omega)
 have hx0 := a0e a0a x
 have h0T : 0 < 2 ^ f.E := Nat.pow_pos (by omega)
 have h0T2 : 2 ^ f.E ≤ 2 ^ 15 := Nat.pow_le_pow_right (by omega) (by omega)
 have HSH := Lib.hid (o0t (E := f.E) (by omega))
 by_cases f2 : f.fam = 2
 · have hD : f.dec g e x = ⟨2, x, f.g.lo + e⟩ := by unfold Fm.dec; rw [if_pos f2]
   rw [hD]
   generalize 2 ^ f.E = P at *
   have r1 := G.rad
   rw [if_pos f2] at r1
   have I := Inv.start w [ownF base .u32 160 p c (dig B32 x)] ⟨hp, True.intro⟩
   refine a0b [.v (.agg #[.int .i64 (f.size : Int), .int .i64 (f.E : Int), .int .i64 (f.F : Int), .int .i64 f.g.rad, .int .i64 f.g.digs, .int .i64 f.g.lo, .int .i64 f.g.hi, .bool f.g.grad, .bool f.hid, .bool f.inf, .bool f.res, .func (.func (ordF f)) #[] #[]]), .v (.agg #[.bool g, .int .i64 (e : Int), .slice p (dig B32 x).length c])] I Tryz.func156 ?_
   refine zbin I 11 _ (fun _ _ _ _ _ => c0u .i64 (1) .i64 (f.E : Int) ((P : Int)) (by omega) ((HSH.out))) fun Al W I => ?_
   refine zi I 12 .i64 ((P : Int) - 1) (((P - 1 : Nat) : Int)) ((by rw [show ((P : Int) - 1) = ((P - 1 : Nat) : Int) by omega]; exact IntWalk.i64_in _ (by omega))) fun Al W I => ?_
   refine zb I 20 (f.g.rad == 16) (true) (beq_iff_eq.2 r1) fun Al W I => ?_
   refine zd [] I fun Al W I => ?_
   refine zk [0, 1, 2, 3, 4] I fun I => ?_
   refine zki 5 I .i64 (f.g.lo + (e : Int)) (f.g.lo + (e : Int)) (IntWalk.i64_in _ (by omega)) fun I => ?_
   refine zk [6, 7, 8] I fun I => ?_
   exact zret I fun Al W I => ⟨p, c, rfl, I.fa.1, I.below⟩
 · have r1 := G.rad
   rw [if_neg f2] at r1
   have hr : (f.g.rad == 16) = false := by rw [r1]; rfl
   by_cases f1 : f.fam = 1
   · have hinf : f.inf = true := by unfold Fm.inf; rw [f1]; rfl
     have hres : f.res = false := by unfold Fm.res; rw [f1]; rfl
     by_cases hl : e = 2 ^ f.E - 1
     · by_cases hex : f.ext = false
       · have hhid : f.hid = true := by unfold Fm.hid; rw [f1, hex]; rfl
         by_cases h0 : x = 0
         · have hD : f.dec g e x = ⟨3, 0, 0⟩ := by unfold Fm.dec; rw [if_neg f2, if_pos ⟨f1, hl⟩, if_pos (.inl ⟨hex, h0⟩)]
           rw [hD]
           generalize 2 ^ f.E = P at *
           have I := Inv.start w [ownF base .u32 160 p c (dig B32 x)] ⟨hp, True.intro⟩
           refine a0b [.v (.agg #[.int .i64 (f.size : Int), .int .i64 (f.E : Int), .int .i64 (f.F : Int), .int .i64 f.g.rad, .int .i64 f.g.digs, .int .i64 f.g.lo, .int .i64 f.g.hi, .bool f.g.grad, .bool f.hid, .bool f.inf, .bool f.res, .func (.func (ordF f)) #[] #[]]), .v (.agg #[.bool g, .int .i64 (e : Int), .slice p (dig B32 x).length c])] I Tryz.func156 ?_
           refine zbin I 11 _ (fun _ _ _ _ _ => c0u .i64 (1) .i64 (f.E : Int) ((P : Int)) (by omega) ((HSH.out))) fun Al W I => ?_
           refine zi I 12 .i64 ((P : Int) - 1) (((P - 1 : Nat) : Int)) ((by rw [show ((P : Int) - 1) = ((P - 1 : Nat) : Int) by omega]; exact IntWalk.i64_in _ (by omega))) fun Al W I => ?_
           refine zb I 20 (f.g.rad == 16) (false) (hr) fun Al W I => ?_
           refine zb I 29 (f.inf) (true) (hinf) fun Al W I => ?_
           refine zb I 34 ((e : Int) == ((P - 1 : Nat) : Int)) (true) (beq_iff_eq.2 (by omega)) fun Al W I => ?_
           refine zd [] I fun Al W I => ?_
           refine zk [0] I fun I => ?_
           refine zkb 1 I (f.hid) (true) (hhid) fun I => ?_
           refine zk [2, 3, 4, 5] I fun I => ?_
           refine zkb 6 I ((((dig B32 x).length : Nat) : Int) == 0) (true) (beq_iff_eq.2 (by omega)) fun I => ?_
           refine zk [7, 8, 9, 10, 11, 12, 13, 14, 15, 16, 17, 18, 19] I fun I => ?_
           exact zret I fun Al W I => d0c (k := 3) rfl I.below
         · have hD : f.dec g e x = ⟨4, 0, 0⟩ := by unfold Fm.dec; rw [if_neg f2, if_pos ⟨f1, hl⟩, if_neg (by simp [hex, h0])]
           rw [hD]
           generalize 2 ^ f.E = P at *
           have I := Inv.start w [ownF base .u32 160 p c (dig B32 x)] ⟨hp, True.intro⟩
           refine a0b [.v (.agg #[.int .i64 (f.size : Int), .int .i64 (f.E : Int), .int .i64 (f.F : Int), .int .i64 f.g.rad, .int .i64 f.g.digs, .int .i64 f.g.lo, .int .i64 f.g.hi, .bool f.g.grad, .bool f.hid, .bool f.inf, .bool f.res, .func (.func (ordF f)) #[] #[]]), .v (.agg #[.bool g, .int .i64 (e : Int), .slice p (dig B32 x).length c])] I Tryz.func156 ?_
           refine zbin I 11 _ (fun _ _ _ _ _ => c0u .i64 (1) .i64 (f.E : Int) ((P : Int)) (by omega) ((HSH.out))) fun Al W I => ?_
           refine zi I 12 .i64 ((P : Int) - 1) (((P - 1 : Nat) : Int)) ((by rw [show ((P : Int) - 1) = ((P - 1 : Nat) : Int) by omega]; exact IntWalk.i64_in _ (by omega))) fun Al W I => ?_
           refine zb I 20 (f.g.rad == 16) (false) (hr) fun Al W I => ?_
           refine zb I 29 (f.inf) (true) (hinf) fun Al W I => ?_
           refine zb I 34 ((e : Int) == ((P - 1 : Nat) : Int)) (true) (beq_iff_eq.2 (by omega)) fun Al W I => ?_
           refine zd [] I fun Al W I => ?_
           refine zk [0] I fun I => ?_
           refine zkb 1 I (f.hid) (true) (hhid) fun I => ?_
           refine zk [2, 3, 4, 5] I fun I => ?_
           refine zkb 6 I ((((dig B32 x).length : Nat) : Int) == 0) (false) (beq_eq_false_iff_ne.2 (by omega)) fun I => ?_
           refine zk [7, 8, 9] I fun I => ?_
           refine zkb 10 I (f.hid) (true) (hhid) fun I => ?_
           refine zk [11, 12, 13, 14, 15, 16, 17, 18, 19] I fun I => ?_
           exact zret I fun Al W I => d0c (k := 4) rfl I.below
       · have hex : f.ext = true := by simpa using hex
         have hhid : f.hid = false := by unfold Fm.hid; rw [f1, hex]; rfl
         have hl63 : (dig B32 (2 ^ 63)).length ≤ 2 := a0p (n := 64) (by omega) (by omega)
         by_cases h0 : x = 2 ^ 63
         · have hD : f.dec g e x = ⟨3, 0, 0⟩ := by unfold Fm.dec; rw [if_neg f2, if_pos ⟨f1, hl⟩, if_pos (.inr ⟨hex, h0⟩)]
           have hcm : cmpN x (2 ^ 63) = 0 := by rw [h0]; unfold cmpN; simp
           rw [hD]
           generalize 2 ^ f.E = P at *
           have I := Inv.start w [ownF base .u32 160 p c (dig B32 x)] ⟨hp, True.intro⟩
           refine a0b [.v (.agg #[.int .i64 (f.size : Int), .int .i64 (f.E : Int), .int .i64 (f.F : Int), .int .i64 f.g.rad, .int .i64 f.g.digs, .int .i64 f.g.lo, .int .i64 f.g.hi, .bool f.g.grad, .bool f.hid, .bool f.inf, .bool f.res, .func (.func (ordF f)) #[] #[]]), .v (.agg #[.bool g, .int .i64 (e : Int), .slice p (dig B32 x).length c])] I Tryz.func156 ?_
           refine zbin I 11 _ (fun _ _ _ _ _ => c0u .i64 (1) .i64 (f.E : Int) ((P : Int)) (by omega) ((HSH.out))) fun Al W I => ?_
           refine zi I 12 .i64 ((P : Int) - 1) (((P - 1 : Nat) : Int)) ((by rw [show ((P : Int) - 1) = ((P - 1 : Nat) : Int) by omega]; exact IntWalk.i64_in _ (by omega))) fun Al W I => ?_
           refine zb I 20 (f.g.rad == 16) (false) (hr) fun Al W I => ?_
           refine zb I 29 (f.inf) (true) (hinf) fun Al W I => ?_
           refine zb I 34 ((e : Int) == ((P - 1 : Nat) : Int)) (true) (beq_iff_eq.2 (by omega)) fun Al W I => ?_
           refine zd [] I fun Al W I => ?_
           refine zk [0] I fun I => ?_
           refine zkb 1 I (f.hid) (false) (hhid) fun I => ?_
           refine zk [2, 3, 4, 5, 6, 7, 8, 9] I fun I => ?_
           refine zkb 10 I (f.hid) (false) (hhid) fun I => ?_
           refine zk [11, 12, 13, 14] I fun I => ?_
           refine zo 15 I (fun I => ?_)
           refine zg I (fun Al W I => have hzW := I.bel.size; f0k 63 (2 ^ 63) 63 W (by omega) rfl rfl) fun Al V Iv hzV hB Kz kz => ?_
           rintro _ W ⟨p51, c51, rfl, o51, hb⟩
           refine ⟨_, rfl, kz _ _ hb fun I => ?_⟩
           clear kz Kz
           have I := I.own o51
           refine zo 16 I (fun I => ?_)
           refine zg I (fun Al W I => have hzW := I.bel.size; d0o p p51 _ _ c c51 x (2 ^ 63) W I.fa.2.1.rd I.fa.1.rd rfl rfl (by omega) (by omega)) fun Al V Iv hzV hB Kz kz => ?_
           rintro _ W ⟨rfl, hb⟩
           refine ⟨_, rfl, kz _ _ hb fun I => ?_⟩
           clear kz Kz
           refine zkb 17 I ((cmpN x (2 ^ 63)) == 0) (true) (by rw [hcm]; rfl) fun I => ?_
           refine zk [18, 19] I fun I => ?_
           exact zret I fun Al W I => d0c (k := 3) rfl I.below
         · have hD : f.dec g e x = ⟨4, 0, 0⟩ := by unfold Fm.dec; rw [if_neg f2, if_pos ⟨f1, hl⟩, if_neg (by simp [hex]; omega)]
           have hcm : (cmpN x (2 ^ 63) == 0) = false := by rw [beq_eq_false_iff_ne]; intro h; exact h0 (r0b h)
           rw [hD]
           generalize 2 ^ f.E = P at *
           have I := Inv.start w [ownF base .u32 160 p c (dig B32 x)] ⟨hp, True.intro⟩
           refine a0b [.v (.agg #[.int .i64 (f.size : Int), .int .i64 (f.E : Int), .int .i64 (f.F : Int), .int .i64 f.g.rad, .int .i64 f.g.digs, .int .i64 f.g.lo, .int .i64 f.g.hi, .bool f.g.grad, .bool f.hid, .bool f.inf, .bool f.res, .func (.func (ordF f)) #[] #[]]), .v (.agg #[.bool g, .int .i64 (e : Int), .slice p (dig B32 x).length c])] I Tryz.func156 ?_
           refine zbin I 11 _ (fun _ _ _ _ _ => c0u .i64 (1) .i64 (f.E : Int) ((P : Int)) (by omega) ((HSH.out))) fun Al W I => ?_
           refine zi I 12 .i64 ((P : Int) - 1) (((P - 1 : Nat) : Int)) ((by rw [show ((P : Int) - 1) = ((P - 1 : Nat) : Int) by omega]; exact IntWalk.i64_in _ (by omega))) fun Al W I => ?_
           refine zb I 20 (f.g.rad == 16) (false) (hr) fun Al W I => ?_
           refine zb I 29 (f.inf) (true) (hinf) fun Al W I => ?_
           refine zb I 34 ((e : Int) == ((P - 1 : Nat) : Int)) (true) (beq_iff_eq.2 (by omega)) fun Al W I => ?_
           refine zd [] I fun Al W I => ?_
           refine zk [0] I fun I => ?_
           refine zkb 1 I (f.hid) (false) (hhid) fun I => ?_
           refine zk [2, 3, 4, 5, 6, 7, 8, 9] I fun I => ?_
           refine zkb 10 I (f.hid) (false) (hhid) fun I => ?_
           refine zk [11, 12, 13, 14] I fun I => ?_
           refine zo 15 I (fun I => ?_)
           refine zg I (fun Al W I => have hzW := I.bel.size; f0k 63 (2 ^ 63) 63 W (by omega) rfl rfl) fun Al V Iv hzV hB Kz kz => ?_
           rintro _ W ⟨p51, c51, rfl, o51, hb⟩
           refine ⟨_, rfl, kz _ _ hb fun I => ?_⟩
           clear kz Kz
           have I := I.own o51
           refine zo 16 I (fun I => ?_)
           refine zg I (fun Al W I => have hzW := I.bel.size; d0o p p51 _ _ c c51 x (2 ^ 63) W I.fa.2.1.rd I.fa.1.rd rfl rfl (by omega) (by omega)) fun Al V Iv hzV hB Kz kz => ?_
           rintro _ W ⟨rfl, hb⟩
           refine ⟨_, rfl, kz _ _ hb fun I => ?_⟩
           clear kz Kz
           refine zkb 17 I ((cmpN x (2 ^ 63)) == 0) (false) (hcm) fun I => ?_
           refine zk [18, 19] I fun I => ?_
           exact zret I fun Al W I => d0c (k := 4) rfl I.below
     · by_cases h0 : e = 0
       · have hD : f.dec g e x = ⟨2, x, f.g.lo⟩ := by unfold Fm.dec; rw [if_neg f2, if_neg (fun h => hl h.2), if_neg (by omega), if_pos h0]
         rw [hD]
         generalize 2 ^ f.E = P at *
         have I := Inv.start w [ownF base .u32 160 p c (dig B32 x)] ⟨hp, True.intro⟩
         refine a0b [.v (.agg #[.int .i64 (f.size : Int), .int .i64 (f.E : Int), .int .i64 (f.F : Int), .int .i64 f.g.rad, .int .i64 f.g.digs, .int .i64 f.g.lo, .int .i64 f.g.hi, .bool f.g.grad, .bool f.hid, .bool f.inf, .bool f.res, .func (.func (ordF f)) #[] #[]]), .v (.agg #[.bool g, .int .i64 (e : Int), .slice p (dig B32 x).length c])] I Tryz.func156 ?_
         refine zbin I 11 _ (fun _ _ _ _ _ => c0u .i64 (1) .i64 (f.E : Int) ((P : Int)) (by omega) ((HSH.out))) fun Al W I => ?_
         refine zi I 12 .i64 ((P : Int) - 1) (((P - 1 : Nat) : Int)) ((by rw [show ((P : Int) - 1) = ((P - 1 : Nat) : Int) by omega]; exact IntWalk.i64_in _ (by omega))) fun Al W I => ?_
         refine zb I 20 (f.g.rad == 16) (false) (hr) fun Al W I => ?_
         refine zb I 29 (f.inf) (true) (hinf) fun Al W I => ?_
         refine zb I 34 ((e : Int) == ((P - 1 : Nat) : Int)) (false) (beq_eq_false_iff_ne.2 (by omega)) fun Al W I => ?_
         refine zb I 59 ((e : Int) == 0) (true) (beq_iff_eq.2 (by omega)) fun Al W I => ?_
         refine zb I 62 (f.res) (false) (hres) fun Al W I => ?_
         refine zb I 69 ((e : Int) == 0) (true) (beq_iff_eq.2 (by omega)) fun Al W I => ?_
         refine zd [] I fun Al W I => ?_
         refine zk [0, 1, 2, 3, 4, 5] I fun I => ?_
         exact zret I fun Al W I => ⟨p, c, rfl, I.fa.1, I.below⟩
       · by_cases hex : f.ext = false
         · have hhid : f.hid = true := by unfold Fm.hid; rw [f1, hex]; rfl
           have hD : f.dec g e x = ⟨2, x + 2 ^ f.F, f.g.lo + e - 1⟩ := by unfold Fm.dec; rw [if_neg f2, if_neg (fun h => hl h.2), if_neg (by omega), if_neg h0, if_pos hex]
           have hlF : (dig B32 (2 ^ f.F)).length ≤ 3 := a0p (n := f.F + 1) (Nat.pow_lt_pow_right (by omega) (by omega)) (by omega)
           rw [hD]
           generalize 2 ^ f.E = P at *
           have I := Inv.start w [ownF base .u32 160 p c (dig B32 x)] ⟨hp, True.intro⟩
           refine a0b [.v (.agg #[.int .i64 (f.size : Int), .int .i64 (f.E : Int), .int .i64 (f.F : Int), .int .i64 f.g.rad, .int .i64 f.g.digs, .int .i64 f.g.lo, .int .i64 f.g.hi, .bool f.g.grad, .bool f.hid, .bool f.inf, .bool f.res, .func (.func (ordF f)) #[] #[]]), .v (.agg #[.bool g, .int .i64 (e : Int), .slice p (dig B32 x).length c])] I Tryz.func156 ?_
           refine zbin I 11 _ (fun _ _ _ _ _ => c0u .i64 (1) .i64 (f.E : Int) ((P : Int)) (by omega) ((HSH.out))) fun Al W I => ?_
           refine zi I 12 .i64 ((P : Int) - 1) (((P - 1 : Nat) : Int)) ((by rw [show ((P : Int) - 1) = ((P - 1 : Nat) : Int) by omega]; exact IntWalk.i64_in _ (by omega))) fun Al W I => ?_
           refine zb I 20 (f.g.rad == 16) (false) (hr) fun Al W I => ?_
           refine zb I 29 (f.inf) (true) (hinf) fun Al W I => ?_
           refine zb I 34 ((e : Int) == ((P - 1 : Nat) : Int)) (false) (beq_eq_false_iff_ne.2 (by omega)) fun Al W I => ?_
           refine zb I 59 ((e : Int) == 0) (false) (beq_eq_false_iff_ne.2 (by omega)) fun Al W I => ?_
           refine zb I 69 ((e : Int) == 0) (false) (beq_eq_false_iff_ne.2 (by omega)) fun Al W I => ?_
           refine zb I 75 (f.hid) (true) (hhid) fun Al W I => ?_
           refine zd [] I fun Al W I => ?_
           refine zk [0, 1, 2, 3, 6, 7, 8] I fun I => ?_
           refine zki 9 I .i64 (f.g.lo + (e : Int)) (f.g.lo + (e : Int)) (IntWalk.i64_in _ (by omega)) fun I => ?_
           refine zki 10 I .i64 ((f.g.lo + (e : Int)) - 1) ((f.g.lo + (e : Int)) - 1) (IntWalk.i64_in _ (by omega)) fun I => ?_
           refine zo 4 I (fun I => ?_)
           refine zg I (fun Al W I => have hzW := I.bel.size; f0k f.F (2 ^ f.F) _ W (by omega) rfl rfl) fun Al V Iv hzV hB Kz kz => ?_
           rintro _ W ⟨p80, c80, rfl, o80, hb⟩
           refine ⟨_, rfl, kz _ _ hb fun I => ?_⟩
           clear kz Kz
           have I := I.own o80
           refine zo 5 I (fun I => ?_)
           refine zg I (fun Al W I => have hzW := I.bel.size; sadd p p80 _ _ c c80 x (2 ^ f.F) (x + 2 ^ f.F) W I.fa.2.1.rd I.fa.1.rd rfl rfl (by omega) (by omega) rfl) fun Al V Iv hzV hB Kz kz => ?_
           rintro _ W ⟨p81, c81, rfl, o81, hb⟩
           refine ⟨_, rfl, kz _ _ hb fun I => ?_⟩
           clear kz Kz
           have I := I.own o81
           refine zk [11, 12, 13] I fun I => ?_
           exact zret I fun Al W I => ⟨p81, c81, rfl, I.fa.1.mono (by omega), I.below⟩
         · have hex : f.ext = true := by simpa using hex
           have hhid : f.hid = false := by unfold Fm.hid; rw [f1, hex]; rfl
           by_cases h63 : x < 2 ^ 63
           · have hD : f.dec g e x = ⟨4, 0, 0⟩ := by unfold Fm.dec; rw [if_neg f2, if_neg (fun h => hl h.2), if_neg (by omega), if_neg h0, if_neg (by simp [hex]), if_pos h63]
             have hbl : blen x < 64 := by have := (b0i x 63).2 h63; omega
             rw [hD]
             generalize 2 ^ f.E = P at *
             have I := Inv.start w [ownF base .u32 160 p c (dig B32 x)] ⟨hp, True.intro⟩
             refine a0b [.v (.agg #[.int .i64 (f.size : Int), .int .i64 (f.E : Int), .int .i64 (f.F : Int), .int .i64 f.g.rad, .int .i64 f.g.digs, .int .i64 f.g.lo, .int .i64 f.g.hi, .bool f.g.grad, .bool f.hid, .bool f.inf, .bool f.res, .func (.func (ordF f)) #[] #[]]), .v (.agg #[.bool g, .int .i64 (e : Int), .slice p (dig B32 x).length c])] I Tryz.func156 ?_
             refine zbin I 11 _ (fun _ _ _ _ _ => c0u .i64 (1) .i64 (f.E : Int) ((P : Int)) (by omega) ((HSH.out))) fun Al W I => ?_
             refine zi I 12 .i64 ((P : Int) - 1) (((P - 1 : Nat) : Int)) ((by rw [show ((P : Int) - 1) = ((P - 1 : Nat) : Int) by omega]; exact IntWalk.i64_in _ (by omega))) fun Al W I => ?_
             refine zb I 20 (f.g.rad == 16) (false) (hr) fun Al W I => ?_
             refine zb I 29 (f.inf) (true) (hinf) fun Al W I => ?_
             refine zb I 34 ((e : Int) == ((P - 1 : Nat) : Int)) (false) (beq_eq_false_iff_ne.2 (by omega)) fun Al W I => ?_
             refine zb I 59 ((e : Int) == 0) (false) (beq_eq_false_iff_ne.2 (by omega)) fun Al W I => ?_
             refine zb I 69 ((e : Int) == 0) (false) (beq_eq_false_iff_ne.2 (by omega)) fun Al W I => ?_
             refine zb I 75 (f.hid) (false) (hhid) fun Al W I => ?_
             refine zg I (fun Al W I => have hzW := I.bel.size; stay (f0f p _ c x W I.fa.1.rd rfl (by omega))) fun Al V Iv hzV hB Kz kz => ?_
             rintro _ W ⟨rfl, hb⟩
             refine ⟨_, rfl, kz _ _ hb fun I => ?_⟩
             clear kz Kz
             refine zb I 91 (decide (((blen x : Nat) : Int) < 64)) (true) (decide_eq_true (by omega)) fun Al W I => ?_
             exact zret I fun Al W I => d0c (k := 4) rfl I.below
           · have hD : f.dec g e x = ⟨2, x, f.g.lo + e - 1⟩ := by unfold Fm.dec; rw [if_neg f2, if_neg (fun h => hl h.2), if_neg (by omega), if_neg h0, if_neg (by simp [hex]), if_neg h63]
             have hbl : 64 ≤ blen x := by have := (b0i x 63).1; omega
             rw [hD]
             generalize 2 ^ f.E = P at *
             have I := Inv.start w [ownF base .u32 160 p c (dig B32 x)] ⟨hp, True.intro⟩
             refine a0b [.v (.agg #[.int .i64 (f.size : Int), .int .i64 (f.E : Int), .int .i64 (f.F : Int), .int .i64 f.g.rad, .int .i64 f.g.digs, .int .i64 f.g.lo, .int .i64 f.g.hi, .bool f.g.grad, .bool f.hid, .bool f.inf, .bool f.res, .func (.func (ordF f)) #[] #[]]), .v (.agg #[.bool g, .int .i64 (e : Int), .slice p (dig B32 x).length c])] I Tryz.func156 ?_
             refine zbin I 11 _ (fun _ _ _ _ _ => c0u .i64 (1) .i64 (f.E : Int) ((P : Int)) (by omega) ((HSH.out))) fun Al W I => ?_
             refine zi I 12 .i64 ((P : Int) - 1) (((P - 1 : Nat) : Int)) ((by rw [show ((P : Int) - 1) = ((P - 1 : Nat) : Int) by omega]; exact IntWalk.i64_in _ (by omega))) fun Al W I => ?_
             refine zb I 20 (f.g.rad == 16) (false) (hr) fun Al W I => ?_
             refine zb I 29 (f.inf) (true) (hinf) fun Al W I => ?_
             refine zb I 34 ((e : Int) == ((P - 1 : Nat) : Int)) (false) (beq_eq_false_iff_ne.2 (by omega)) fun Al W I => ?_
             refine zb I 59 ((e : Int) == 0) (false) (beq_eq_false_iff_ne.2 (by omega)) fun Al W I => ?_
             refine zb I 69 ((e : Int) == 0) (false) (beq_eq_false_iff_ne.2 (by omega)) fun Al W I => ?_
             refine zb I 75 (f.hid) (false) (hhid) fun Al W I => ?_
             refine zg I (fun Al W I => have hzW := I.bel.size; stay (f0f p _ c x W I.fa.1.rd rfl (by omega))) fun Al V Iv hzV hB Kz kz => ?_
             rintro _ W ⟨rfl, hb⟩
             refine ⟨_, rfl, kz _ _ hb fun I => ?_⟩
             clear kz Kz
             refine zb I 91 (decide (((blen x : Nat) : Int) < 64)) (false) (decide_eq_false (by omega)) fun Al W I => ?_
             refine zd [] I fun Al W I => ?_
             refine zk [0, 1, 2, 3, 4] I fun I => ?_
             refine zki 5 I .i64 (f.g.lo + (e : Int)) (f.g.lo + (e : Int)) (IntWalk.i64_in _ (by omega)) fun I => ?_
             refine zki 6 I .i64 ((f.g.lo + (e : Int)) - 1) ((f.g.lo + (e : Int)) - 1) (IntWalk.i64_in _ (by omega)) fun I => ?_
             refine zk [7, 8, 9] I fun I => ?_
             exact zret I fun Al W I => ⟨p, c, rfl, I.fa.1, I.below⟩
   · have f3 : f.fam = 3 := by have := G.fam; omega
     have hex : f.ext = false := by
      cases hh : f.ext with
      | false => rfl
      | true => exact absurd (G.ext hh).1 f1
     have hinf : f.inf = false := by unfold Fm.inf; rw [f3]; rfl
     have hres : f.res = true := by unfold Fm.res; rw [f3]; rfl
     have hhid : f.hid = true := by unfold Fm.hid; rw [f3, hex]; rfl
     by_cases h0 : e = 0
     · cases g with
       | true =>
        have hD : f.dec true e x = ⟨5, 0, 0⟩ := by unfold Fm.dec; rw [if_neg f2, if_neg (fun h => f1 h.1), if_pos ⟨f3, h0⟩, if_pos rfl]
        rw [hD]
        generalize 2 ^ f.E = P at *
        have I := Inv.start w [] True.intro
        refine a0b [.v (.agg #[.int .i64 (f.size : Int), .int .i64 (f.E : Int), .int .i64 (f.F : Int), .int .i64 f.g.rad, .int .i64 f.g.digs, .int .i64 f.g.lo, .int .i64 f.g.hi, .bool f.g.grad, .bool f.hid, .bool f.inf, .bool f.res, .func (.func (ordF f)) #[] #[]]), .v (.agg #[.bool true, .int .i64 (e : Int), .slice p (dig B32 x).length c])] I Tryz.func156 ?_
        refine zbin I 11 _ (fun _ _ _ _ _ => c0u .i64 (1) .i64 (f.E : Int) ((P : Int)) (by omega) ((HSH.out))) fun Al W I => ?_
        refine zi I 12 .i64 ((P : Int) - 1) (((P - 1 : Nat) : Int)) ((by rw [show ((P : Int) - 1) = ((P - 1 : Nat) : Int) by omega]; exact IntWalk.i64_in _ (by omega))) fun Al W I => ?_
        refine zb I 20 (f.g.rad == 16) (false) (hr) fun Al W I => ?_
        refine zb I 29 (f.inf) (false) (hinf) fun Al W I => ?_
        refine zb I 59 ((e : Int) == 0) (true) (beq_iff_eq.2 (by omega)) fun Al W I => ?_
        refine zb I 62 (f.res) (true) (hres) fun Al W I => ?_
        exact zret I fun Al W I => d0c (k := 5) rfl I.below
       | false =>
        have hD : f.dec false e x = ⟨1, 0, 0⟩ := by unfold Fm.dec; rw [if_neg f2, if_neg (fun h => f1 h.1), if_pos ⟨f3, h0⟩, if_neg (by simp)]
        rw [hD]
        generalize 2 ^ f.E = P at *
        have hT3 : d0l Tryz.prog 3 := c0x (by kernel_rfl) (by kernel_rfl)
        have hT4 : d0l Tryz.prog 4 := c0x (by kernel_rfl) (by kernel_rfl)
        refine calls_of_wp Tryz.func156 rfl ?_
        refine a0x (a' := ⟨((.agg #[.int .i64 (f.size : Int), .int .i64 (f.E : Int), .int .i64 (f.F : Int), .int .i64 f.g.rad, .int .i64 f.g.digs, .int .i64 f.g.lo, .int .i64 f.g.hi, .bool f.g.grad, .bool f.hid, .bool f.inf, .bool f.res, .func (.func (ordF f)) #[] #[]]) :: (.agg #[.bool false, .int .i64 (e : Int), .slice p (dig B32 x).length c]) :: us 97 []).toArray, []⟩) (by kernel_rfl) ?_
        refine ye ?_
        refine yw 0 rfl 2 #[.int .i64 (f.size : Int), .int .i64 (f.E : Int), .int .i64 (f.F : Int), .int .i64 f.g.rad, .int .i64 f.g.digs, .int .i64 f.g.lo, .int .i64 f.g.hi, .bool f.g.grad, .bool f.hid, .bool f.inf, .bool f.res, .func (.func (ordF f)) #[] #[]] 146 (fun V1 hbV1 hzV1 b2 => ?_)
        refine yw 0 rfl 3 #[.bool false, .int .i64 (e : Int), .slice p (dig B32 x).length c] 190 (fun V2 hbV2 hzV2 b3 => ?_)
        refine yzt 3 ?_
        refine ye ?_
        replace b2 := (b2.past hbV2)
        refine yl 1 rfl 10 b2 hT3 1 ?_
        refine yv 0 rfl 11 (.int .i64 (P : Int)) ?_ (k0p (X := (1)) (Y := (f.E : Int)) (k2 := .i64) (P : Int) (by kernel_rfl) (by kernel_rfl) (by omega) ((HSH.out)))
        refine ya 0 rfl 12 .i64 ((P : Int) - 1) (((P - 1 : Nat) : Int)) ((by rw [show ((P : Int) - 1) = ((P - 1 : Nat) : Int) by omega]; exact IntWalk.i64_in _ (by omega))) ?_
        refine yzt 1 ?_
        refine ye ?_
        refine yl 2 rfl 15 b2 hT3 5 ?_
        refine yzt 1 ?_
        refine wp_seq ?_
        refine wp_block ?_
        refine ye ?_
        refine yl 2 rfl 19 b2 hT3 3 ?_
        refine yb 0 rfl 20 (f.g.rad == 16) (false) (hr) ?_
        refine yzt 1 ?_
        refine yF ?_
        refine ye ?_
        refine ylb 1 rfl 29 b2 hT4 9 (f.inf) false (hinf) ?_
        refine yzt 7 ?_
        refine yF ?_
        refine ye ?_
        refine yl 1 rfl 58 b3 hT3 1 ?_
        refine yb 0 rfl 59 ((e : Int) == 0) (true) (beq_iff_eq.2 (by omega)) ?_
        refine ylb 2 rfl 62 b2 hT4 10 (f.res) true (hres) ?_
        refine yzt 2 ?_
        refine yT ?_
        refine wp_seq ?_
        refine ye ?_
        refine yl 1 rfl 65 b3 hT4 0 ?_
        refine yzt 0 ?_
        refine yF ?_
        refine wp_skip ?_
        refine a0o ?_
        refine yq ?_
        refine wp_ret ?_
        repeat (first | with_reducible refine a0t ?_ | with_reducible refine a0n ?_)
        refine yret (.tuple #[.int .i64 1, .slice none 0 0, .int .i64 0]) (res3 Tryz.results156 rvt rvt rvt) ?_
        exact d0c (k := 1) rfl (a0d hbV1 hbV2)
     · have hD : f.dec g e x = ⟨2, x + 2 ^ f.F, f.g.lo + e - 1⟩ := by unfold Fm.dec; rw [if_neg f2, if_neg (fun h => f1 h.1), if_neg (fun h => h0 h.2), if_neg h0, if_pos hex]
       have hlF : (dig B32 (2 ^ f.F)).length ≤ 3 := a0p (n := f.F + 1) (Nat.pow_lt_pow_right (by omega) (by omega)) (by omega)
       rw [hD]
       generalize 2 ^ f.E = P at *
       have I := Inv.start w [ownF base .u32 160 p c (dig B32 x)] ⟨hp, True.intro⟩
       refine a0b [.v (.agg #[.int .i64 (f.size : Int), .int .i64 (f.E : Int), .int .i64 (f.F : Int), .int .i64 f.g.rad, .int .i64 f.g.digs, .int .i64 f.g.lo, .int .i64 f.g.hi, .bool f.g.grad, .bool f.hid, .bool f.inf, .bool f.res, .func (.func (ordF f)) #[] #[]]), .v (.agg #[.bool g, .int .i64 (e : Int), .slice p (dig B32 x).length c])] I Tryz.func156 ?_
       refine zbin I 11 _ (fun _ _ _ _ _ => c0u .i64 (1) .i64 (f.E : Int) ((P : Int)) (by omega) ((HSH.out))) fun Al W I => ?_
       refine zi I 12 .i64 ((P : Int) - 1) (((P - 1 : Nat) : Int)) ((by rw [show ((P : Int) - 1) = ((P - 1 : Nat) : Int) by omega]; exact IntWalk.i64_in _ (by omega))) fun Al W I => ?_
       refine zb I 20 (f.g.rad == 16) (false) (hr) fun Al W I => ?_
       refine zb I 29 (f.inf) (false) (hinf) fun Al W I => ?_
       refine zb I 59 ((e : Int) == 0) (false) (beq_eq_false_iff_ne.2 (by omega)) fun Al W I => ?_
       refine zb I 69 ((e : Int) == 0) (false) (beq_eq_false_iff_ne.2 (by omega)) fun Al W I => ?_
       refine zb I 75 (f.hid) (true) (hhid) fun Al W I => ?_
       refine zd [] I fun Al W I => ?_
       refine zk [0, 1, 2, 3, 6, 7, 8] I fun I => ?_
       refine zki 9 I .i64 (f.g.lo + (e : Int)) (f.g.lo + (e : Int)) (IntWalk.i64_in _ (by omega)) fun I => ?_
       refine zki 10 I .i64 ((f.g.lo + (e : Int)) - 1) ((f.g.lo + (e : Int)) - 1) (IntWalk.i64_in _ (by omega)) fun I => ?_
       refine zo 4 I (fun I => ?_)
       refine zg I (fun Al W I => have hzW := I.bel.size; f0k f.F (2 ^ f.F) _ W (by omega) rfl rfl) fun Al V Iv hzV hB Kz kz => ?_
       rintro _ W ⟨p80, c80, rfl, o80, hb⟩
       refine ⟨_, rfl, kz _ _ hb fun I => ?_⟩
       clear kz Kz
       have I := I.own o80
       refine zo 5 I (fun I => ?_)
       refine zg I (fun Al W I => have hzW := I.bel.size; sadd p p80 _ _ c c80 x (2 ^ f.F) (x + 2 ^ f.F) W I.fa.2.1.rd I.fa.1.rd rfl rfl (by omega) (by omega) rfl) fun Al V Iv hzV hB Kz kz => ?_
       rintro _ W ⟨p81, c81, rfl, o81, hb⟩
       refine ⟨_, rfl, kz _ _ hb fun I => ?_⟩
       clear kz Kz
       have I := I.own o81
       refine zk [11, 12, 13] I fun I => ?_
       exact zret I fun Al W I => ⟨p81, c81, rfl, I.fa.1.mono (by omega), I.below⟩

theorem z0o (p : Option Addr) (c x : Nat) (pw : Int) (gg : Gd) (base : Nat) (w : World) (hp : Own w base .u32 160 p c (dig B32 x)) (hl : (dig B32 x).length ≤ 1000) (hpw : -100000 ≤ pw ∧ pw ≤ 100000) (hr : gg.rad = 2 ∨ gg.rad = 16) (hT : TabW w) :
 Calls Tryz.prog 157 #[.slice p (dig B32 x).length c, .int .i64 pw, .int .i64 gg.rad] w
  fun en w' => ∃ q d, en = .returned (.tuple #[.slice q (dig B32 (x / 2 ^ (tz x / wid gg * wid gg))).length d, .int .i64 (pw + (tz x / wid gg : Nat))]) ∧ Own w' w.heap.size .u32 160 q d (dig B32 (x / 2 ^ (tz x / wid gg * wid gg))) ∧ Below w.heap.size w w' := by
 have hz := k1g x hl
 rcases hr with hr | hr
 · have hw : wid gg = 1 := by unfold wid; rw [hr]; rfl
   rw [hw]
   generalize htz : tz x = z at *
   have HTZ := Lib.hid htz
   clear htz
   have I := Inv.start w [ownF base .u32 160 p c (dig B32 x), tabF] ⟨hp, hT, True.intro⟩
   refine a0b [.v (.slice p (dig B32 x).length c), .v (.int .i64 pw), .v (.int .i64 gg.rad)] I Tryz.func157 ?_
   refine zb I 11 (gg.rad == 16) (false) (by rw [hr]; rfl) fun Al W I => ?_
   refine zg I (fun Al W I => have hzW := I.bel.size; stay (l0b p _ c x W I.fa.1.rd rfl (by omega) I.fa.2.1)) fun Al V Iv hzV hB Kz kz => ?_
   rintro _ W ⟨rfl, hb⟩
   refine ⟨_, rfl, kz _ _ hb fun I => ?_⟩
   clear kz Kz
   refine zbin I 15 _ (fun _ _ _ _ _ => y0v .i64 ((tz x : Nat) : Int) (1) (((z / 1 : Nat) : Int)) ((by decide)) ((by rw [HTZ.out]; exact (IntWalk.i64_in _ (by simp; omega)).trans (by simp)))) fun Al W I => ?_
   refine zi I 19 .i64 (((z / 1 : Nat) : Int) * 1) (((z / 1 * 1 : Nat) : Int)) (((IntWalk.i64_in _ (by omega)).trans (by omega))) fun Al W I => ?_
   refine zg I (fun Al W I => have hzW := I.bel.size; sshr p _ c x (z / 1 * 1) _ _ W I.fa.1.rd rfl (by have := I.fa.1.le_cap; omega) (by omega) (by omega) rfl rfl) fun Al V Iv hzV hB Kz kz => ?_
   rintro _ W ⟨p20, c20, rfl, o20, hb⟩
   refine ⟨_, rfl, kz _ _ hb fun I => ?_⟩
   clear kz Kz
   have I := I.own o20
   refine zi I 23 .i64 (pw + ((z / 1 : Nat) : Int)) (pw + ((z / 1 : Nat) : Int)) (IntWalk.i64_in _ (by omega)) fun Al W I => ?_
   exact zret I fun Al W I => ⟨p20, c20, rfl, I.fa.1.mono (by omega), I.below⟩
 · have hw : wid gg = 4 := by unfold wid; rw [hr]; rfl
   rw [hw]
   generalize htz : tz x = z at *
   have HTZ := Lib.hid htz
   clear htz
   have I := Inv.start w [ownF base .u32 160 p c (dig B32 x), tabF] ⟨hp, hT, True.intro⟩
   refine a0b [.v (.slice p (dig B32 x).length c), .v (.int .i64 pw), .v (.int .i64 gg.rad)] I Tryz.func157 ?_
   refine zb I 11 (gg.rad == 16) (true) (by rw [hr]; rfl) fun Al W I => ?_
   refine zg I (fun Al W I => have hzW := I.bel.size; stay (l0b p _ c x W I.fa.1.rd rfl (by omega) I.fa.2.1)) fun Al V Iv hzV hB Kz kz => ?_
   rintro _ W ⟨rfl, hb⟩
   refine ⟨_, rfl, kz _ _ hb fun I => ?_⟩
   clear kz Kz
   refine zbin I 15 _ (fun _ _ _ _ _ => y0v .i64 ((tz x : Nat) : Int) (4) (((z / 4 : Nat) : Int)) ((by decide)) ((by rw [HTZ.out, show (z : Int).tdiv 4 = ((z / 4 : Nat) : Int) by rw [Int.tdiv_eq_ediv_of_nonneg (by omega)]; rfl]; exact IntWalk.i64_in _ (by omega)))) fun Al W I => ?_
   refine zi I 19 .i64 (((z / 4 : Nat) : Int) * 4) (((z / 4 * 4 : Nat) : Int)) (((IntWalk.i64_in _ (by omega)).trans (by omega))) fun Al W I => ?_
   refine zg I (fun Al W I => have hzW := I.bel.size; sshr p _ c x (z / 4 * 4) _ _ W I.fa.1.rd rfl (by have := I.fa.1.le_cap; omega) (by omega) (by omega) rfl rfl) fun Al V Iv hzV hB Kz kz => ?_
   rintro _ W ⟨p20, c20, rfl, o20, hb⟩
   refine ⟨_, rfl, kz _ _ hb fun I => ?_⟩
   clear kz Kz
   have I := I.own o20
   refine zi I 23 .i64 (pw + ((z / 4 : Nat) : Int)) (pw + ((z / 4 : Nat) : Int)) (IntWalk.i64_in _ (by omega)) fun Al W I => ?_
   exact zret I fun Al W I => ⟨p20, c20, rfl, I.fa.1.mono (by omega), I.below⟩

def s0x (w : World) (v : Vl) (g : Bool) (en : Ending) (w' : World) : Prop :=
 ∃ p c, en = .returned (.tuple #[.agg #[.int .i64 (v.cls : Int), .bool v.neg, .slice p (dig B32 v.d).length c, .int .i64 v.pow], .bool g]) ∧ Own w' w.heap.size .u32 160 p c (dig B32 v.d) ∧ Below w.heap.size w w'
theorem n0g {w w' : World} {v : Vl} {k : Nat} {n g : Bool} {p : Option Addr} {c d base : Nat} {x : Int} {en : Ending} (hv : v = ⟨k, n, d, x⟩) (h : en = .returned (.tuple #[.agg #[.int .i64 (k : Int), .bool n, .slice p (dig B32 d).length c, .int .i64 x], .bool g]))
 (ho : Own w' base .u32 160 p c (dig B32 d)) (hB : w.heap.size ≤ base) (hb : Below w.heap.size w w') : s0x w v g en w' := by
 subst hv
 exact ⟨p, c, h, ho.mono hB, hb⟩
theorem e0e {w w' : World} {v : Vl} {k : Nat} {n g : Bool} {en : Ending} (hv : v = ⟨k, n, 0, 0⟩) (h : en = .returned (.tuple #[.agg #[.int .i64 (k : Int), .bool n, .slice none 0 0, .int .i64 0], .bool g])) (hb : Below w.heap.size w w') : s0x w v g en w' :=
 n0g (p := none) (c := 0) (base := w.heap.size) hv (by rw [h, a0c]; rfl) (by rw [a0c]; exact Own.nil _ _ _ _) (Nat.le_refl _) hb

theorem v0r (f : Fm) (s : ByteArray) (w : World) (G : c0t f) (hs : s.size = f.size) (hT : TabW w) :
 Calls Tryz.prog 129 #[.agg #[.int .i64 (f.size : Int), .int .i64 (f.E : Int), .int .i64 (f.F : Int), .int .i64 f.g.rad, .int .i64 f.g.digs, .int .i64 f.g.lo, .int .i64 f.g.hi, .bool f.g.grad, .bool f.hid, .bool f.inf, .bool f.res, .func (.func (ordF f)) #[] #[]], .string s] w (s0x w (f.valN (a0s f s)) (f.neg (a0s f s))) := by
 have z2 := G.f2
 have he : f.exp (a0s f s) < 2 ^ f.E := Nat.mod_lt _ (Nat.pow_pos (by omega))
 have hx : f.frac (a0s f s) < 2 ^ f.F := Nat.mod_lt _ (Nat.pow_pos (by omega))
 have HS := fun W => Lib.hid (z0f f s W G hs)
 unfold Fm.valN Fm.decN
 generalize f.neg (a0s f s) = g at *
 generalize f.exp (a0s f s) = e at *
 generalize f.frac (a0s f s) = x at *
 have HV := fun p c base W h1 h2 => Lib.hid (z0n f g e x p c base W G h1 h2 he hx)
 have k1 := x0x f g e x
 have k2 := e1z (f := f) g (e := e) hx
 have k3 := h1r G g (frac := x) he
 have k4 := a0p k2 (k := 3) (by omega)
 have hrd : f.g.rad = 2 ∨ f.g.rad = 16 := by have := G.rad; split at this <;> omega
 clear k2
 generalize f.dec g e x = D at *
 obtain ⟨k, m, pw⟩ := D
 simp only at k1 k3 k4
 have hm0 := a0e a0a m
 rcases k1 with rfl | rfl | rfl | rfl | rfl
 · have hv : f.vl g ⟨1, m, pw⟩ = ⟨1, g, 0, 0⟩ := by unfold Fm.vl Dc.c; simp
   have I := Inv.start w [tabF] ⟨hT, True.intro⟩
   refine a0b [.v (.agg #[.int .i64 (f.size : Int), .int .i64 (f.E : Int), .int .i64 (f.F : Int), .int .i64 f.g.rad, .int .i64 f.g.digs, .int .i64 f.g.lo, .int .i64 f.g.hi, .bool f.g.grad, .bool f.hid, .bool f.inf, .bool f.res, .func (.func (ordF f)) #[] #[]]), .v (.string s)] I Tryz.func129 ?_
   refine zg I (fun Al W I => (HS W).out) fun Al V Iv hzV hB Kz kz => ?_
   rintro _ W ⟨p13, c13, rfl, o13, hb⟩
   refine ⟨_, rfl, kz _ _ hb fun I => ?_⟩
   clear kz Kz
   have I := I.own o13
   refine zg I (fun Al W I => have hzW := I.bel.size; (HV p13 c13 _ W I.fa.1 (by omega)).out) fun Al V Iv hzV hB Kz kz => ?_
   rintro _ W ⟨p17, c17, rfl, o17, hb⟩
   refine ⟨_, rfl, kz _ _ hb fun I => ?_⟩
   clear kz Kz
   have I := I.own o17
   refine zd [1] I fun Al W I => ?_
   refine zk [0, 1, 2] I fun I => ?_
   refine zo 3 I (fun I => ?_)
   refine zn I fun Al W I => ?_
   refine zk [4] I fun I => ?_
   exact zret I fun Al W I => e0e hv rfl I.below
 · by_cases h0 : m = 0
   · have hv : f.vl g ⟨2, m, pw⟩ = ⟨1, g, 0, 0⟩ := by unfold Fm.vl Dc.c; simp [h0]
     have I := Inv.start w [tabF] ⟨hT, True.intro⟩
     refine a0b [.v (.agg #[.int .i64 (f.size : Int), .int .i64 (f.E : Int), .int .i64 (f.F : Int), .int .i64 f.g.rad, .int .i64 f.g.digs, .int .i64 f.g.lo, .int .i64 f.g.hi, .bool f.g.grad, .bool f.hid, .bool f.inf, .bool f.res, .func (.func (ordF f)) #[] #[]]), .v (.string s)] I Tryz.func129 ?_
     refine zg I (fun Al W I => (HS W).out) fun Al V Iv hzV hB Kz kz => ?_
     rintro _ W ⟨p13, c13, rfl, o13, hb⟩
     refine ⟨_, rfl, kz _ _ hb fun I => ?_⟩
     clear kz Kz
     have I := I.own o13
     refine zg I (fun Al W I => have hzW := I.bel.size; (HV p13 c13 _ W I.fa.1 (by omega)).out) fun Al V Iv hzV hB Kz kz => ?_
     rintro _ W ⟨p17, c17, rfl, o17, hb⟩
     refine ⟨_, rfl, kz _ _ hb fun I => ?_⟩
     clear kz Kz
     have I := I.own o17
     refine zb I 28 ((((dig B32 m).length : Nat) : Int) == 0) (true) (beq_iff_eq.2 (by omega)) fun Al W I => ?_
     refine zd [1] I fun Al W I => ?_
     refine zk [0, 1, 2] I fun I => ?_
     refine zo 3 I (fun I => ?_)
     refine zn I fun Al W I => ?_
     refine zk [4] I fun I => ?_
     exact zret I fun Al W I => e0e hv rfl I.below
   · have hv : f.vl g ⟨2, m, pw⟩ = ⟨2, g, m / 2 ^ (tz m / wid f.g * wid f.g), pw + (tz m / wid f.g : Nat)⟩ := by unfold Fm.vl Dc.c; simp [h0]
     have HB := fun p c base W h1 hT => Lib.hid (z0o p c m pw f.g base W h1 (by omega) (by omega) hrd hT)
     generalize m / 2 ^ (tz m / wid f.g * wid f.g) = mm at *
     generalize pw + ((tz m / wid f.g : Nat) : Int) = pp at *
     have I := Inv.start w [tabF] ⟨hT, True.intro⟩
     refine a0b [.v (.agg #[.int .i64 (f.size : Int), .int .i64 (f.E : Int), .int .i64 (f.F : Int), .int .i64 f.g.rad, .int .i64 f.g.digs, .int .i64 f.g.lo, .int .i64 f.g.hi, .bool f.g.grad, .bool f.hid, .bool f.inf, .bool f.res, .func (.func (ordF f)) #[] #[]]), .v (.string s)] I Tryz.func129 ?_
     refine zg I (fun Al W I => (HS W).out) fun Al V Iv hzV hB Kz kz => ?_
     rintro _ W ⟨p13, c13, rfl, o13, hb⟩
     refine ⟨_, rfl, kz _ _ hb fun I => ?_⟩
     clear kz Kz
     have I := I.own o13
     refine zg I (fun Al W I => have hzW := I.bel.size; (HV p13 c13 _ W I.fa.1 (by omega)).out) fun Al V Iv hzV hB Kz kz => ?_
     rintro _ W ⟨p17, c17, rfl, o17, hb⟩
     refine ⟨_, rfl, kz _ _ hb fun I => ?_⟩
     clear kz Kz
     have I := I.own o17
     refine zb I 28 ((((dig B32 m).length : Nat) : Int) == 0) (false) (beq_eq_false_iff_ne.2 (by omega)) fun Al W I => ?_
     refine zg I (fun Al W I => (HB p17 c17 _ W I.fa.1 I.fa.2.2.1).out) fun Al V Iv hzV hB Kz kz => ?_
     rintro _ W ⟨q44, d44, rfl, o44, hb⟩
     refine ⟨_, rfl, kz _ _ hb fun I => ?_⟩
     clear kz Kz
     have I := I.own o44
     refine zd [1] I fun Al W I => ?_
     refine zk [0, 1, 2] I fun I => ?_
     refine zo 3 I (fun I => ?_)
     refine zn I fun Al W I => ?_
     refine zk [4] I fun I => ?_
     exact zret I fun Al W I => n0g hv rfl I.fa.1 (by omega) I.below
 · have hv : f.vl g ⟨3, m, pw⟩ = ⟨3, g, 0, 0⟩ := by unfold Fm.vl Dc.c; simp
   have I := Inv.start w [tabF] ⟨hT, True.intro⟩
   refine a0b [.v (.agg #[.int .i64 (f.size : Int), .int .i64 (f.E : Int), .int .i64 (f.F : Int), .int .i64 f.g.rad, .int .i64 f.g.digs, .int .i64 f.g.lo, .int .i64 f.g.hi, .bool f.g.grad, .bool f.hid, .bool f.inf, .bool f.res, .func (.func (ordF f)) #[] #[]]), .v (.string s)] I Tryz.func129 ?_
   refine zg I (fun Al W I => (HS W).out) fun Al V Iv hzV hB Kz kz => ?_
   rintro _ W ⟨p13, c13, rfl, o13, hb⟩
   refine ⟨_, rfl, kz _ _ hb fun I => ?_⟩
   clear kz Kz
   have I := I.own o13
   refine zg I (fun Al W I => have hzW := I.bel.size; (HV p13 c13 _ W I.fa.1 (by omega)).out) fun Al V Iv hzV hB Kz kz => ?_
   rintro _ W ⟨p17, c17, rfl, o17, hb⟩
   refine ⟨_, rfl, kz _ _ hb fun I => ?_⟩
   clear kz Kz
   have I := I.own o17
   refine zd [1] I fun Al W I => ?_
   refine zk [0, 1, 2] I fun I => ?_
   refine zo 3 I (fun I => ?_)
   refine zn I fun Al W I => ?_
   refine zk [4] I fun I => ?_
   exact zret I fun Al W I => e0e hv rfl I.below
 · have hv : f.vl g ⟨4, m, pw⟩ = ⟨4, false, 0, 0⟩ := by unfold Fm.vl Dc.c; simp
   have I := Inv.start w [tabF] ⟨hT, True.intro⟩
   refine a0b [.v (.agg #[.int .i64 (f.size : Int), .int .i64 (f.E : Int), .int .i64 (f.F : Int), .int .i64 f.g.rad, .int .i64 f.g.digs, .int .i64 f.g.lo, .int .i64 f.g.hi, .bool f.g.grad, .bool f.hid, .bool f.inf, .bool f.res, .func (.func (ordF f)) #[] #[]]), .v (.string s)] I Tryz.func129 ?_
   refine zg I (fun Al W I => (HS W).out) fun Al V Iv hzV hB Kz kz => ?_
   rintro _ W ⟨p13, c13, rfl, o13, hb⟩
   refine ⟨_, rfl, kz _ _ hb fun I => ?_⟩
   clear kz Kz
   have I := I.own o13
   refine zg I (fun Al W I => have hzW := I.bel.size; (HV p13 c13 _ W I.fa.1 (by omega)).out) fun Al V Iv hzV hB Kz kz => ?_
   rintro _ W ⟨p17, c17, rfl, o17, hb⟩
   refine ⟨_, rfl, kz _ _ hb fun I => ?_⟩
   clear kz Kz
   have I := I.own o17
   refine zd [1] I fun Al W I => ?_
   refine zk [0, 1, 2] I fun I => ?_
   refine zo 3 I (fun I => ?_)
   refine zn I fun Al W I => ?_
   refine zk [4] I fun I => ?_
   exact zret I fun Al W I => e0e hv rfl I.below
 · have hv : f.vl g ⟨5, m, pw⟩ = ⟨5, false, 0, 0⟩ := by unfold Fm.vl Dc.c; simp
   have I := Inv.start w [tabF] ⟨hT, True.intro⟩
   refine a0b [.v (.agg #[.int .i64 (f.size : Int), .int .i64 (f.E : Int), .int .i64 (f.F : Int), .int .i64 f.g.rad, .int .i64 f.g.digs, .int .i64 f.g.lo, .int .i64 f.g.hi, .bool f.g.grad, .bool f.hid, .bool f.inf, .bool f.res, .func (.func (ordF f)) #[] #[]]), .v (.string s)] I Tryz.func129 ?_
   refine zg I (fun Al W I => (HS W).out) fun Al V Iv hzV hB Kz kz => ?_
   rintro _ W ⟨p13, c13, rfl, o13, hb⟩
   refine ⟨_, rfl, kz _ _ hb fun I => ?_⟩
   clear kz Kz
   have I := I.own o13
   refine zg I (fun Al W I => have hzW := I.bel.size; (HV p13 c13 _ W I.fa.1 (by omega)).out) fun Al V Iv hzV hB Kz kz => ?_
   rintro _ W ⟨p17, c17, rfl, o17, hb⟩
   refine ⟨_, rfl, kz _ _ hb fun I => ?_⟩
   clear kz Kz
   have I := I.own o17
   refine zd [1] I fun Al W I => ?_
   refine zk [0, 1, 2] I fun I => ?_
   refine zo 3 I (fun I => ?_)
   refine zn I fun Al W I => ?_
   refine zk [4] I fun I => ?_
   exact zret I fun Al W I => e0e hv rfl I.below


def a0q (n : Int) (s : ByteArray) : Int := if IsFm n then (if s.size = (fmt n).size then 0 else 1) else 6

theorem g1f (n : Int) (s : ByteArray) (w : World) (hn : IsFm n) (hs : s.size = (fmt n).size) :
 Calls Tryz.prog 128 #[.int .i64 n, .string s] w fun en w' => en = .returned (.tuple #[.agg #[.int .i64 (((fmt n).size : Nat) : Int), .int .i64 (((fmt n).E : Nat) : Int), .int .i64 (((fmt n).F : Nat) : Int), .int .i64 (fmt n).g.rad, .int .i64 (fmt n).g.digs, .int .i64 (fmt n).g.lo, .int .i64 (fmt n).g.hi, .bool (fmt n).g.grad, .bool (fmt n).hid, .bool (fmt n).inf, .bool (fmt n).res, .func (.func (ordF (fmt n))) #[] #[]], .int .i64 0]) ∧ Below w.heap.size w w' := by
 have HF := fun W => Lib.hid (i0p n hn W)
 generalize fmt n = f at *
 have I := Inv.start w [] True.intro
 refine a0b [.v (.int .i64 n), .v (.string s)] I Tryz.func128 ?_
 refine zg I (fun Al W I => (HF W).out) fun Al V Iv hzV hB Kz kz => ?_
 rintro _ W ⟨rfl, hb⟩
 refine ⟨_, rfl, kz _ _ hb fun I => ?_⟩
 clear kz Kz
 refine zb I 20 ((s.size : Int) != (f.size : Int)) (false) (by simp [hs]) fun Al W I => ?_
 exact zret I fun Al W I => ⟨rfl, I.below⟩
theorem c1q (n : Int) (s : ByteArray) (w : World) (hn : IsFm n) (hs : s.size ≠ (fmt n).size) :
 Calls Tryz.prog 128 #[.int .i64 n, .string s] w fun en w' => en = .returned (.tuple #[.agg #[.int .i64 (((fmt n).size : Nat) : Int), .int .i64 (((fmt n).E : Nat) : Int), .int .i64 (((fmt n).F : Nat) : Int), .int .i64 (fmt n).g.rad, .int .i64 (fmt n).g.digs, .int .i64 (fmt n).g.lo, .int .i64 (fmt n).g.hi, .bool (fmt n).g.grad, .bool (fmt n).hid, .bool (fmt n).inf, .bool (fmt n).res, .func (.func (ordF (fmt n))) #[] #[]], .int .i64 1]) ∧ Below w.heap.size w w' := by
 have HF := fun W => Lib.hid (i0p n hn W)
 generalize fmt n = f at *
 have I := Inv.start w [] True.intro
 refine a0b [.v (.int .i64 n), .v (.string s)] I Tryz.func128 ?_
 refine zg I (fun Al W I => (HF W).out) fun Al V Iv hzV hB Kz kz => ?_
 rintro _ W ⟨rfl, hb⟩
 refine ⟨_, rfl, kz _ _ hb fun I => ?_⟩
 clear kz Kz
 refine zb I 20 ((s.size : Int) != (f.size : Int)) (true) (bne_iff_ne.2 (fun h => hs (by omega))) fun Al W I => ?_
 exact zret I fun Al W I => ⟨rfl, I.below⟩
theorem c1r (n : Int) (s : ByteArray) (w : World) (hn : ¬ IsFm n) :
 Calls Tryz.prog 128 #[.int .i64 n, .string s] w fun en w' => en = .returned (.tuple #[.agg #[.int .i64 0, .int .i64 0, .int .i64 0, .int .i64 0, .int .i64 0, .int .i64 0, .int .i64 0, .bool false, .bool false, .bool false, .bool false, .nilFunc], .int .i64 6]) ∧ Below w.heap.size w w' := by
 have HF := fun W => Lib.hid (l0t n hn W)
 have I := Inv.start w [] True.intro
 refine a0b [.v (.int .i64 n), .v (.string s)] I Tryz.func128 ?_
 refine zg I (fun Al W I => (HF W).out) fun Al V Iv hzV hB Kz kz => ?_
 rintro _ W ⟨rfl, hb⟩
 refine ⟨_, rfl, kz _ _ hb fun I => ?_⟩
 clear kz Kz
 exact zret I fun Al W I => ⟨rfl, I.below⟩

def z0p (w : World) (v : Vl) (er : Int) (en : Ending) (w' : World) : Prop :=
 ∃ p c, en = .returned (.tuple #[.agg #[.int .i64 (v.cls : Int), .bool v.neg, .slice p (dig B32 v.d).length c, .int .i64 v.pow], .int .i64 er]) ∧ Own w' w.heap.size .u32 160 p c (dig B32 v.d) ∧ Below w.heap.size w w'
def u0e : Vl := ⟨0, false, 0, 0⟩
def decP (n : Int) (s : ByteArray) : Vl := if a0q n s = 0 then (fmt n).valN (a0s (fmt n) s) else u0e
theorem c0v {n : Int} {s : ByteArray} : a0q n s = 0 ↔ IsFm n ∧ s.size = (fmt n).size := by
 unfold a0q
 by_cases h1 : IsFm n
 · rw [if_pos h1]
   by_cases h2 : s.size = (fmt n).size
   · rw [if_pos h2]; simp [h1, h2]
   · rw [if_neg h2]; simp [h2]
 · rw [if_neg h1]; simp [h1]
theorem m0b {w w' : World} {er : Int} {en : Ending} (h : en = .returned (.tuple #[.agg #[.int .i64 0, .bool false, .slice none 0 0, .int .i64 0], .int .i64 er])) (hb : Below w.heap.size w w') : z0p w u0e er en w' := by
 refine ⟨none, 0, ?_, ?_, hb⟩
 · rw [h]; show _ = Ending.returned (.tuple #[.agg #[_, _, .slice none (dig B32 0).length 0, _], _]); rw [a0c]; rfl
 · show Own _ _ _ _ _ _ (dig B32 0); rw [a0c]; exact Own.nil _ _ _ _

theorem n0h (n : Int) (s : ByteArray) (w : World) (hT : TabW w) :
 Calls Tryz.prog 98 #[.int .i64 n, .string s] w (z0p w (decP n s) (a0q n s)) := by
 by_cases hn : IsFm n
 · by_cases hs : s.size = (fmt n).size
   · have h0 : a0q n s = 0 := c0v.2 ⟨hn, hs⟩
     have hd : decP n s = (fmt n).valN (a0s (fmt n) s) := by unfold decP; rw [if_pos h0]
     rw [hd, h0]
     have HF := fun W => Lib.hid (g1f n s W hn hs)
     have HD := fun W h => Lib.hid (v0r (fmt n) s W (f0j hn) hs h)
     generalize (fmt n).valN (a0s (fmt n) s) = v at *
     generalize (fmt n).neg (a0s (fmt n) s) = g at *
     generalize fmt n = f at *
     have I := Inv.start w [tabF] ⟨hT, True.intro⟩
     refine a0b [.v (.int .i64 n), .v (.string s)] I Tryz.func98 ?_
     refine zg I (fun Al W I => (HF W).out) fun Al V Iv hzV hB Kz kz => ?_
     rintro _ W ⟨rfl, hb⟩
     refine ⟨_, rfl, kz _ _ hb fun I => ?_⟩
     clear kz Kz
     refine zg I (fun Al W I => (HD W I.fa.1).out) fun Al V Iv hzV hB Kz kz => ?_
     rintro _ W ⟨p23, c23, rfl, o23, hb⟩
     refine ⟨_, rfl, kz _ _ hb fun I => ?_⟩
     clear kz Kz
     have I := I.own o23
     exact zret I fun Al W I => ⟨p23, c23, rfl, I.fa.1.mono (by omega), I.below⟩
   · have h0 : a0q n s = 1 := by unfold a0q; rw [if_pos hn, if_neg hs]
     have hd : decP n s = u0e := by unfold decP; rw [if_neg (by omega)]
     rw [hd, h0]
     have HF := fun W => Lib.hid (c1q n s W hn hs)
     generalize fmt n = f at *
     have I := Inv.start w [] True.intro
     refine a0b [.v (.int .i64 n), .v (.string s)] I Tryz.func98 ?_
     refine zg I (fun Al W I => (HF W).out) fun Al V Iv hzV hB Kz kz => ?_
     rintro _ W ⟨rfl, hb⟩
     refine ⟨_, rfl, kz _ _ hb fun I => ?_⟩
     clear kz Kz
     exact zret I fun Al W I => m0b rfl I.below
 · have h0 : a0q n s = 6 := by unfold a0q; rw [if_neg hn]
   have hd : decP n s = u0e := by unfold decP; rw [if_neg (by omega)]
   rw [hd, h0]
   have HF := fun W => Lib.hid (c1r n s W hn)
   have I := Inv.start w [] True.intro
   refine a0b [.v (.int .i64 n), .v (.string s)] I Tryz.func98 ?_
   refine zg I (fun Al W I => (HF W).out) fun Al V Iv hzV hB Kz kz => ?_
   rintro _ W ⟨rfl, hb⟩
   refine ⟨_, rfl, kz _ _ hb fun I => ?_⟩
   clear kz Kz
   exact zret I fun Al W I => m0b rfl I.below

def m0c (n : Int) : Int := if IsFm n then 0 else 6
theorem z0q {n : Int} (h : ¬ IsFm n) : fmt n = ⟨0, 0, 0, ⟨0, 0, 0, 0, false⟩, 0, false⟩ := by
 unfold IsFm at h
 unfold fmt
 rw [if_neg (by omega), if_neg (by omega), if_neg (by omega), if_neg (by omega), if_neg (by omega), if_neg (by omega), if_neg (by omega), if_neg (by omega)]

end Go.Proofs.YtlcdfnaaenibgaaGreatDoor
namespace Go.Slip

def v0s (N : Nat) (D : List Nat) (i d A : Nat) : Prop := (∀ x ∈ D, x < 10) ∧ d < 10 ^ (4 - i) ∧ N = val 10 D + 10 ^ D.length * (d + 10 ^ (4 - i) * A)
def m0d (N : Nat) (D : List Nat) (A : Nat) : Prop := (∀ x ∈ D, x < 10) ∧ N = val 10 D + 10 ^ D.length * A

theorem m0d.start (N : Nat) : m0d N [] N := ⟨by simp, by simp⟩

theorem m0d.enter {N : Nat} {D : List Nat} {A : Nat} (h : m0d N D A) : v0s N D 0 (A % 10000) (A / 10000) := by
 refine ⟨h.1, Nat.mod_lt _ (by omega), ?_⟩
 rw [h.2]
 congr 2
 have := Nat.mod_add_div A 10000
 show A = A % 10000 + 10000 * (A / 10000)
 omega

theorem v0s.step {N : Nat} {D : List Nat} {i d A : Nat} (h : v0s N D i d A) (hi : i < 4) : v0s N (D ++ [d % 10]) (i + 1) (d / 10) A := by
 obtain ⟨h1, h2, h3⟩ := h
 have e : 4 - i = 4 - (i + 1) + 1 := by omega
 rw [e, Nat.pow_succ] at h2 h3
 refine ⟨fun x hx => ?_, by omega, ?_⟩
 · rcases List.mem_append.1 hx with hx | hx
   · exact h1 x hx
   · simp at hx; omega
 · rw [h3, d0t, List.length_append, List.length_singleton, Nat.pow_succ]
   have := Nat.mod_add_div d 10
   generalize d % 10 = s at *
   generalize d / 10 = q at *
   subst this
   grind

theorem v0s.leave {N : Nat} {D : List Nat} {d A : Nat} (h : v0s N D 4 d A) : m0d N D A := by
 obtain ⟨h1, h2, h3⟩ := h
 have hd : d = 0 := by simpa using h2
 subst hd
 exact ⟨h1, by rw [h3]; simp⟩

theorem m0d.size {N : Nat} {D : List Nat} {A : Nat} (h : m0d N D A) (hA : 0 < A) : D.length ≤ 16 * (dig B16 N).length := by
 have h1 : 10 ^ D.length ≤ N := by
  rw [h.2]
  have := Nat.le_mul_of_pos_right (10 ^ D.length) hA
  omega
 have h2 := (a0h a0i N _).1 (Nat.le_refl _)
 have h3 : B16 ^ (dig B16 N).length = 2 ^ (16 * (dig B16 N).length) := by rw [Nat.pow_mul]; congr 1
 have h4 : 2 ^ D.length ≤ 10 ^ D.length := Nat.pow_le_pow_left (by omega) _
 have h5 : 2 ^ D.length < 2 ^ (16 * (dig B16 N).length) := by rw [← h3]; omega
 exact Nat.le_of_lt ((Nat.pow_lt_pow_iff_right (by omega)).1 h5)


def p0a (L X : List Nat) (ten d0 i d : Nat) : Prop :=
 (∀ x ∈ L, x < B32) ∧ L.length = X.length ∧ (∀ j, i ≤ j → dg L j = dg X j) ∧ val B32 (L.take i) + d * B32 ^ i = val B32 (X.take i) * ten + d0

theorem p0a.start {X : List Nat} (h : ∀ x ∈ X, x < B32) (ten d0 : Nat) : p0a X X ten d0 0 d0 := ⟨h, rfl, fun _ _ => rfl, by simp⟩

theorem p0a.step {L X : List Nat} {ten d0 i d : Nat} (h : p0a L X ten d0 i d) (hi : i < X.length) (t : Nat) (ht : t = dg X i * ten + d) : p0a (L.set i (t % B32)) X ten d0 (i + 1) (t / B32) := by
 obtain ⟨h1, h2, h3, h4⟩ := h
 refine ⟨h0k L h1 i _ (Nat.mod_lt _ c0a), by simpa using h2, fun j hj => ?_, ?_⟩
 · rw [b0q (by omega)]; exact h3 j (by omega)
 · rw [a0g, c0w, b0g (by omega), a0g, Nat.pow_succ]
   have h5 := Nat.div_add_mod t B32
   generalize t / B32 = q at *
   generalize t % B32 = r at *
   have e : B32 ^ i * (B32 * q + r) = B32 ^ i * (dg X i * ten + d) := by rw [h5, ht]
   grind

theorem p0a.done0 {L : List Nat} {ten d0 a : Nat} (h : p0a L (dig B32 a) ten d0 (dig B32 a).length 0) (h1 : 0 < ten) : L = dig B32 (a * ten + d0) := by
 have h4 := h.2.2.2
 rw [List.take_length, a0y a0a, ← h.2.1, List.take_length] at h4
 obtain ⟨m, rfl⟩ : ∃ m, ten = m + 1 := ⟨ten - 1, by omega⟩
 have e : a * (m + 1) + d0 = a + (a * m + d0) := by grind
 rw [e] at h4 ⊢
 exact t0g a0a L a _ h.1 h.2.1 (by omega)

theorem p0a.done1 {L : List Nat} {ten d0 a d : Nat} (h : p0a L (dig B32 a) ten d0 (dig B32 a).length d) (h1 : 0 < d) (h2 : d < B32) : L ++ [d] = dig B32 (a * ten + d0) := by
 have h4 := h.2.2.2
 rw [List.take_length, a0y a0a, ← h.2.1, List.take_length] at h4
 exact t0h a0a L d _ h.1 h1 h2 h4

end Go.Slip
namespace Go.Proofs.YtlcdfnaaenibgaaGreatDoor
open Go.RowKit Go.Slip

theorem _root_.Go.Slip.SmallRel.skip {B : Nat} {L xs : List Nat} {d k r : Nat} (h : SmallRel B L xs d (k + 1) r) (hk : k < xs.length) (hL : k < L.length) (hx : dg xs k < B) (hz : dg L k = 0) (hlt : r * B + dg xs k < d) : SmallRel B L xs d k (r * B + dg xs k) := by
 have h1 := (h.step hk hL hx).1
 rw [Nat.div_eq_of_lt hlt, Nat.mod_eq_of_lt hlt, a1q L k hz] at h1
 exact h1


instance decDv : DecidableEq Dv := fun a b => decidable_of_iff (a.neg = b.neg ∧ a.m = b.m ∧ a.e = b.e) ⟨fun h => Dv.ext' h.1 h.2.1 h.2.2, fun h => by subst h; exact ⟨rfl, rfl, rfl⟩⟩


structure InF (w : World) (base : Nat) (a : Rw) : Prop where
 rd : Rd w .i64 a.p (dig B16 a.m)
 cap : (dig B16 a.m).length ≤ a.c
 len : (dig B16 a.m).length ≤ 1000000
 lo : -1000000 ≤ a.e
 hi : a.e ≤ 1000000
 at_ : 0 < (dig B16 a.m).length → base ≤ blk a.p

theorem InF.past {w w' : World} {base : Nat} {a : Rw} (h : InF w base a) (hb : Below w.heap.size w w') : InF w' base a := ⟨h.rd.past hb, h.cap, h.len, h.lo, h.hi, h.at_⟩
theorem InF.drew {w : World} {base : Nat} {a : Rw} (h : InF w base a) : InF w.drew base a := ⟨h.rd.drew, h.cap, h.len, h.lo, h.hi, h.at_⟩
theorem InF.mono {w : World} {base base' : Nat} {a : Rw} (h : InF w base a) (hb : base' ≤ base) : InF w base' a := ⟨h.rd, h.cap, h.len, h.lo, h.hi, fun k => Nat.le_trans hb (h.at_ k)⟩
theorem InF.only {w w' : World} {base k : Nat} {a : Rw} (h : InF w base a) (hb : Only k w w') (hne : 0 < (dig B16 a.m).length → blk a.p ≠ k) : InF w' base a := ⟨h.rd.only hb hne, h.cap, h.len, h.lo, h.hi, h.at_⟩
theorem InF.lt {w : World} {base : Nat} {a : Rw} (h : InF w base a) : 0 < (dig B16 a.m).length → blk a.p < w.heap.size := fun k => h.rd.lt k


def GRf (w : World) (xs : List Nat) (en : Ending) (w' : World) : Prop :=
 ∃ p c, en = .returned (.slice p xs.length c) ∧ Rf w' w.heap.size p c xs ∧ Below w.heap.size w w'
theorem g0k.grf {w w' : World} {xs : List Nat} {en : Ending} (h : g0k w .i64 xs en w') : GRf w xs en w' := by
 obtain ⟨p, c, h1, h2, h3, h4, h5⟩ := h
 exact ⟨p, c, h1, h1v h2 h3 h4, h5⟩
def GNf (w : World) (base : Nat) (d : Dv) (en : Ending) (w' : World) : Prop :=
 ∃ p c, en = .returned (.agg #[.bool d.neg, .slice p (dig B16 d.m).length c, .int .i64 d.e]) ∧ Rf w' base p c (dig B16 d.m) ∧ Below w.heap.size w w'

theorem k1h (N : Int) (n : Nat) (h : N = n) (hn : n ≤ 1000000000) (w : World) : Calls Tryz.prog 75 #[.int .i64 N] w (GRf w (dig B16 (2 ^ n))) := by
 subst h; exact (l0x n w hn).mono fun _ _ => g0k.grf

theorem g1g (p q : Option Addr) (n m c d : Nat) (a b x : Nat) (w : World) (hp : Rd w .i64 p (dig B16 a)) (hq : Rd w .i64 q (dig B16 b)) (hn : n = (dig B16 a).length) (hm : m = (dig B16 b).length)
 (hl : (dig B16 a).length ≤ 100000000) (hl2 : (dig B16 b).length ≤ 100000000) (h : a + b = x) :
 Calls Tryz.prog 79 #[.slice p n c, .slice q m d] w (GRf w (dig B16 x)) := by
 subst h; exact (l0w p q n m c d a b w hp hq hn hm (by omega)).mono fun _ _ => g0k.grf
theorem i1u (p q : Option Addr) (n m c d : Nat) (a b x : Nat) (w : World) (hp : Rd w .i64 p (dig B16 a)) (hq : Rd w .i64 q (dig B16 b)) (hn : n = (dig B16 a).length) (hm : m = (dig B16 b).length)
 (hl : (dig B16 a).length ≤ 100000000) (hl2 : (dig B16 b).length ≤ 100000000) (h : a * b = x) :
 Calls Tryz.prog 97 #[.slice p n c, .slice q m d] w (GRf w (dig B16 x)) := by
 subst h; exact (k0c p q n m c d a b w hp hq hn hm (by omega)).mono fun _ _ => g0k.grf
theorem i1v {w w' : World} {d : Dv} {en : Ending} (h : l0c w (fun _ => False) d en w') : GNf w w.heap.size d en w' := by
 obtain ⟨p, c, h1, h2, h3, h4, h5⟩ := h
 exact ⟨p, c, h1, j1s h2 h3 h4, h5⟩
structure FitR (d : Dv) : Prop where
 len : (dig B16 d.m).length ≤ 1000000
 lo : -1000000 ≤ d.e
 hi : d.e ≤ 1000000
theorem n0i (g : Bool) (p : Option Addr) (n c : Nat) (e : Int) (m : Nat) (d : Dv) (w : World) (hp : Rd w .i64 p (dig B16 m)) (hn : n = (dig B16 m).length) (hl : (dig B16 m).length ≤ 1000000) (he : -1000000 ≤ e ∧ e ≤ 1000000) (h : bare ⟨g, m, e⟩ = d) :
 Calls Tryz.prog 77 #[.agg #[.bool g, .slice p n c, .int .i64 e]] w (GNf w w.heap.size d) := by
 subst h
 exact (e0z g p n c e m w hp hn (by omega) (by omega)).mono fun _ _ => i1v

theorem e0n (s e f d l g k : Int) (w : World) : Calls Tryz.prog 63 #[.int .i64 s, .int .i64 e, .int .i64 f, .int .i64 d, .int .i64 l, .int .i64 g, .int .i64 k] w
 fun en w' => en = .returned (.agg #[.int .i64 s, .int .i64 e, .int .i64 f, .int .i64 2, .int .i64 d, .int .i64 l, .int .i64 g, .bool (k == 1), .int .i64 k]) ∧ Below w.heap.size w w' := by
 have I := Inv.start w [] True.intro
 refine a0b [.v (.int .i64 s), .v (.int .i64 e), .v (.int .i64 f), .v (.int .i64 d), .v (.int .i64 l), .v (.int .i64 g), .v (.int .i64 k)] I Tryz.func63 ?_
 exact zret I fun Al W I => ⟨rfl, I.below⟩

theorem f0a (n : Int) (hn : IsFm n) (w : World) : Calls Tryz.prog 26 #[.int .i64 n] w
 fun e w' => e = .returned (.tuple #[.agg #[.int .i64 (((fmt n).size : Nat) : Int), .int .i64 (((fmt n).E : Nat) : Int), .int .i64 (((fmt n).F : Nat) : Int), .int .i64 (fmt n).g.rad, .int .i64 (fmt n).g.digs, .int .i64 (fmt n).g.lo, .int .i64 (fmt n).g.hi, .bool (fmt n).g.grad, .int .i64 (((fmt n).fam : Nat) : Int)], .bool true]) ∧ Below w.heap.size w w' := by
 rcases k0o hn with rfl | rfl | rfl | rfl | rfl | rfl | rfl | rfl
 · have I := Inv.start w [] True.intro
   refine a0b [.v (.int .i64 1)] I Tryz.func26 ?_
   refine zg I (fun Al W I => e0n 4 8 23 24 (-149) 104 1 W) fun Al V Iv hzV hB Kz kz => ?_
   rintro _ W ⟨rfl, hb⟩
   refine ⟨_, rfl, kz _ _ hb fun I => ?_⟩
   clear kz Kz
   exact zret I (v := fun Al => .tuple #[.agg #[.int .i64 4, .int .i64 8, .int .i64 23, .int .i64 2, .int .i64 24, .int .i64 (-149), .int .i64 104, .bool true, .int .i64 1], .bool true]) fun Al W I => ⟨by kernel_rfl, I.below⟩
 · have I := Inv.start w [] True.intro
   refine a0b [.v (.int .i64 2)] I Tryz.func26 ?_
   refine zg I (fun Al W I => e0n 8 11 52 53 (-1074) 971 1 W) fun Al V Iv hzV hB Kz kz => ?_
   rintro _ W ⟨rfl, hb⟩
   refine ⟨_, rfl, kz _ _ hb fun I => ?_⟩
   clear kz Kz
   exact zret I (v := fun Al => .tuple #[.agg #[.int .i64 8, .int .i64 11, .int .i64 52, .int .i64 2, .int .i64 53, .int .i64 (-1074), .int .i64 971, .bool true, .int .i64 1], .bool true]) fun Al W I => ⟨by kernel_rfl, I.below⟩
 · have I := Inv.start w [] True.intro
   refine a0b [.v (.int .i64 3)] I Tryz.func26 ?_
   refine zg I (fun Al W I => e0n 10 15 64 64 (-16445) 16320 1 W) fun Al V Iv hzV hB Kz kz => ?_
   rintro _ W ⟨rfl, hb⟩
   refine ⟨_, rfl, kz _ _ hb fun I => ?_⟩
   clear kz Kz
   exact zret I (v := fun Al => .tuple #[.agg #[.int .i64 10, .int .i64 15, .int .i64 64, .int .i64 2, .int .i64 64, .int .i64 (-16445), .int .i64 16320, .bool true, .int .i64 1], .bool true]) fun Al W I => ⟨by kernel_rfl, I.below⟩
 · have I := Inv.start w [] True.intro
   refine a0b [.v (.int .i64 4)] I Tryz.func26 ?_
   exact zret I (v := fun Al => .tuple #[.agg #[.int .i64 4, .int .i64 7, .int .i64 24, .int .i64 16, .int .i64 6, .int .i64 (-70), .int .i64 57, .bool false, .int .i64 2], .bool true]) fun Al W I => ⟨by kernel_rfl, I.below⟩
 · have I := Inv.start w [] True.intro
   refine a0b [.v (.int .i64 5)] I Tryz.func26 ?_
   exact zret I (v := fun Al => .tuple #[.agg #[.int .i64 8, .int .i64 7, .int .i64 56, .int .i64 16, .int .i64 14, .int .i64 (-78), .int .i64 49, .bool false, .int .i64 2], .bool true]) fun Al W I => ⟨by kernel_rfl, I.below⟩
 · have I := Inv.start w [] True.intro
   refine a0b [.v (.int .i64 6)] I Tryz.func26 ?_
   refine zg I (fun Al W I => e0n 4 8 23 24 (-151) 103 3 W) fun Al V Iv hzV hB Kz kz => ?_
   rintro _ W ⟨rfl, hb⟩
   refine ⟨_, rfl, kz _ _ hb fun I => ?_⟩
   clear kz Kz
   exact zret I (v := fun Al => .tuple #[.agg #[.int .i64 4, .int .i64 8, .int .i64 23, .int .i64 2, .int .i64 24, .int .i64 (-151), .int .i64 103, .bool false, .int .i64 3], .bool true]) fun Al W I => ⟨by kernel_rfl, I.below⟩
 · have I := Inv.start w [] True.intro
   refine a0b [.v (.int .i64 7)] I Tryz.func26 ?_
   refine zg I (fun Al W I => e0n 8 8 55 56 (-183) 71 3 W) fun Al V Iv hzV hB Kz kz => ?_
   rintro _ W ⟨rfl, hb⟩
   refine ⟨_, rfl, kz _ _ hb fun I => ?_⟩
   clear kz Kz
   exact zret I (v := fun Al => .tuple #[.agg #[.int .i64 8, .int .i64 8, .int .i64 55, .int .i64 2, .int .i64 56, .int .i64 (-183), .int .i64 71, .bool false, .int .i64 3], .bool true]) fun Al W I => ⟨by kernel_rfl, I.below⟩
 · have I := Inv.start w [] True.intro
   refine a0b [.v (.int .i64 8)] I Tryz.func26 ?_
   refine zg I (fun Al W I => e0n 8 11 52 53 (-1076) 970 3 W) fun Al V Iv hzV hB Kz kz => ?_
   rintro _ W ⟨rfl, hb⟩
   refine ⟨_, rfl, kz _ _ hb fun I => ?_⟩
   clear kz Kz
   exact zret I (v := fun Al => .tuple #[.agg #[.int .i64 8, .int .i64 11, .int .i64 52, .int .i64 2, .int .i64 53, .int .i64 (-1076), .int .i64 970, .bool false, .int .i64 3], .bool true]) fun Al W I => ⟨by kernel_rfl, I.below⟩
theorem i0t (n : Int) (hn : ¬ IsFm n) (w : World) : Calls Tryz.prog 26 #[.int .i64 n] w
 fun e w' => e = .returned (.tuple #[.agg #[.int .i64 (((fmt n).size : Nat) : Int), .int .i64 (((fmt n).E : Nat) : Int), .int .i64 (((fmt n).F : Nat) : Int), .int .i64 (fmt n).g.rad, .int .i64 (fmt n).g.digs, .int .i64 (fmt n).g.lo, .int .i64 (fmt n).g.hi, .bool (fmt n).g.grad, .int .i64 (((fmt n).fam : Nat) : Int)], .bool false]) ∧ Below w.heap.size w w' := by
 rw [z0q hn]
 unfold IsFm at hn
 have I := Inv.start w [] True.intro
 refine a0b [.v (.int .i64 n)] I Tryz.func26 ?_
 refine zb I 7 (n == 1) (false) (beq_eq_false_iff_ne.2 (by omega)) fun Al W I => ?_
 refine zb I 11 (n == 2) (false) (beq_eq_false_iff_ne.2 (by omega)) fun Al W I => ?_
 refine zb I 15 (n == 3) (false) (beq_eq_false_iff_ne.2 (by omega)) fun Al W I => ?_
 refine zb I 19 (n == 4) (false) (beq_eq_false_iff_ne.2 (by omega)) fun Al W I => ?_
 refine zb I 23 (n == 5) (false) (beq_eq_false_iff_ne.2 (by omega)) fun Al W I => ?_
 refine zb I 27 (n == 6) (false) (beq_eq_false_iff_ne.2 (by omega)) fun Al W I => ?_
 refine zb I 31 (n == 7) (false) (beq_eq_false_iff_ne.2 (by omega)) fun Al W I => ?_
 refine zb I 35 (n == 8) (false) (beq_eq_false_iff_ne.2 (by omega)) fun Al W I => ?_
 exact zret I (v := fun Al => .tuple #[.agg #[.int .i64 0, .int .i64 0, .int .i64 0, .int .i64 0, .int .i64 0, .int .i64 0, .int .i64 0, .bool false, .int .i64 0], .bool false]) fun Al W I => ⟨by kernel_rfl, I.below⟩
theorem i0u (n : Int) (w : World) : Calls Tryz.prog 26 #[.int .i64 n] w
 fun e w' => e = .returned (.tuple #[.agg #[.int .i64 (((fmt n).size : Nat) : Int), .int .i64 (((fmt n).E : Nat) : Int), .int .i64 (((fmt n).F : Nat) : Int), .int .i64 (fmt n).g.rad, .int .i64 (fmt n).g.digs, .int .i64 (fmt n).g.lo, .int .i64 (fmt n).g.hi, .bool (fmt n).g.grad, .int .i64 (((fmt n).fam : Nat) : Int)], .bool (decide (IsFm n))]) ∧ Below w.heap.size w w' := by
 by_cases hn : IsFm n
 · rw [decide_eq_true hn]; exact f0a n hn w
 · rw [decide_eq_false hn]; exact i0t n hn w

theorem m0e (n : Int) (s : ByteArray) (w : World) : Calls Tryz.prog 35 #[.int .i64 n, .string s] w
 fun e w' => e = .returned (.int .i64 (a0q n s)) ∧ Below w.heap.size w w' := by
 by_cases hn : IsFm n
 · have HF := fun W => Lib.hid (f0a n hn W)
   by_cases hs : s.size = (fmt n).size
   · rw [c0v.2 ⟨hn, hs⟩]
     generalize fmt n = f at *
     have I := Inv.start w [] True.intro
     refine a0b [.v (.int .i64 n), .v (.string s)] I Tryz.func35 ?_
     refine zg I (fun Al W I => (HF W).out) fun Al V Iv hzV hB Kz kz => ?_
     rintro _ W ⟨rfl, hb⟩
     refine ⟨_, rfl, kz _ _ hb fun I => ?_⟩
     clear kz Kz
     refine zb I 18 ((s.size : Int) != (f.size : Int)) (false) (by simp [hs]) fun Al W I => ?_
     exact zret I fun Al W I => ⟨rfl, I.below⟩
   · rw [show a0q n s = 1 by unfold a0q; rw [if_pos hn, if_neg hs]]
     generalize fmt n = f at *
     have I := Inv.start w [] True.intro
     refine a0b [.v (.int .i64 n), .v (.string s)] I Tryz.func35 ?_
     refine zg I (fun Al W I => (HF W).out) fun Al V Iv hzV hB Kz kz => ?_
     rintro _ W ⟨rfl, hb⟩
     refine ⟨_, rfl, kz _ _ hb fun I => ?_⟩
     clear kz Kz
     refine zb I 18 ((s.size : Int) != (f.size : Int)) (true) (bne_iff_ne.2 (fun h => hs (by omega))) fun Al W I => ?_
     exact zret I fun Al W I => ⟨rfl, I.below⟩
 · have HF := fun W => Lib.hid (i0t n hn W)
   rw [show a0q n s = 6 by unfold a0q; rw [if_neg hn]]
   generalize fmt n = f at *
   have I := Inv.start w [] True.intro
   refine a0b [.v (.int .i64 n), .v (.string s)] I Tryz.func35 ?_
   refine zg I (fun Al W I => (HF W).out) fun Al V Iv hzV hB Kz kz => ?_
   rintro _ W ⟨rfl, hb⟩
   refine ⟨_, rfl, kz _ _ hb fun I => ?_⟩
   clear kz Kz
   exact zret I fun Al W I => ⟨rfl, I.below⟩

theorem e1g {n : Int} (h : IsFm n) : (fmt n).ext = decide (n = 3) := by
 rcases k0o h with rfl | rfl | rfl | rfl | rfl | rfl | rfl | rfl <;> rfl

theorem r0c (n : Int) (i : Nat) (w : World) (hn : IsFm n) (hi : i < (fmt n).size) : Calls Tryz.prog 120 #[.int .i64 n, .int .i64 (i : Int)] w
 fun e w' => e = .returned (.int .i64 ((plc (fmt n).ord (fmt n).size i : Nat) : Int)) ∧ Below w.heap.size w w' := by
 have HF := fun W => Lib.hid (f0a n hn W)
 have G := f0j hn
 have z1 := G.sz
 have he := e1g hn
 generalize fmt n = f at *
 by_cases h3 : n = 3
 · rw [decide_eq_true h3] at he
   have hp : ((plc f.ord f.size i : Nat) : Int) = (f.size : Int) - 1 - i := by unfold plc Fm.ord; rw [he, if_pos rfl, if_pos rfl]; omega
   rw [hp]
   have I := Inv.start w [] True.intro
   refine a0b [.v (.int .i64 n), .v (.int .i64 (i : Int))] I Tryz.func120 ?_
   refine zg I (fun Al W I => (HF W).out) fun Al V Iv hzV hB Kz kz => ?_
   rintro _ W ⟨rfl, hb⟩
   refine ⟨_, rfl, kz _ _ hb fun I => ?_⟩
   clear kz Kz
   refine zb I 14 (n == 3) (true) (beq_iff_eq.2 h3) fun Al W I => ?_
   refine zi I 17 .i64 ((f.size : Int) - 1) ((f.size : Int) - 1) (IntWalk.i64_in _ (by omega)) fun Al W I => ?_
   refine zi I 19 .i64 (((f.size : Int) - 1) - (i : Int)) (((f.size : Int) - 1) - (i : Int)) (IntWalk.i64_in _ (by omega)) fun Al W I => ?_
   exact zret I fun Al W I => ⟨rfl, I.below⟩
 · rw [decide_eq_false h3] at he
   by_cases hf : f.fam = 3
   · have hp : ((plc f.ord f.size i : Nat) : Int) = (i : Int) + 1 - 2 * ((i % 2 : Nat) : Int) := by unfold plc Fm.ord; rw [he, if_neg (show ¬ (false = true) by simp), if_pos hf, if_neg (by omega), if_pos rfl]; omega
     rw [hp]
     have I := Inv.start w [] True.intro
     refine a0b [.v (.int .i64 n), .v (.int .i64 (i : Int))] I Tryz.func120 ?_
     refine zg I (fun Al W I => (HF W).out) fun Al V Iv hzV hB Kz kz => ?_
     rintro _ W ⟨rfl, hb⟩
     refine ⟨_, rfl, kz _ _ hb fun I => ?_⟩
     clear kz Kz
     refine zb I 14 (n == 3) (false) (beq_eq_false_iff_ne.2 h3) fun Al W I => ?_
     refine zb I 23 ((f.fam : Int) == 3) (true) (beq_iff_eq.2 (by omega)) fun Al W I => ?_
     refine zi I 25 .i64 ((i : Int) + 1) ((i : Int) + 1) (IntWalk.i64_in _ (by omega)) fun Al W I => ?_
     refine zbin I 27 _ (fun _ _ _ _ _ => f1w .i64 (i : Int) (2) (((i % 2 : Nat) : Int)) ((show (2 : Int) ≠ 0 by omega)) ((by exact (Int.ofNat_tmod i 2).symm))) fun Al W I => ?_
     refine zi I 28 .i64 ((2 : Int) * ((i % 2 : Nat) : Int)) ((2 : Int) * ((i % 2 : Nat) : Int)) (IntWalk.i64_in _ (by omega)) fun Al W I => ?_
     refine zi I 29 .i64 (((i : Int) + 1) - ((2 : Int) * ((i % 2 : Nat) : Int))) (((i : Int) + 1) - ((2 : Int) * ((i % 2 : Nat) : Int))) (IntWalk.i64_in _ (by omega)) fun Al W I => ?_
     exact zret I fun Al W I => ⟨rfl, I.below⟩
   · have hp : ((plc f.ord f.size i : Nat) : Int) = (i : Int) := by unfold plc Fm.ord; rw [he, if_neg (show ¬ (false = true) by simp), if_neg hf, if_neg (by omega), if_neg (by omega)]
     rw [hp]
     have I := Inv.start w [] True.intro
     refine a0b [.v (.int .i64 n), .v (.int .i64 (i : Int))] I Tryz.func120 ?_
     refine zg I (fun Al W I => (HF W).out) fun Al V Iv hzV hB Kz kz => ?_
     rintro _ W ⟨rfl, hb⟩
     refine ⟨_, rfl, kz _ _ hb fun I => ?_⟩
     clear kz Kz
     refine zb I 14 (n == 3) (false) (beq_eq_false_iff_ne.2 h3) fun Al W I => ?_
     refine zb I 23 ((f.fam : Int) == 3) (false) (beq_eq_false_iff_ne.2 (by omega)) fun Al W I => ?_
     exact zret I fun Al W I => ⟨rfl, I.below⟩
end Go.Proofs.YtlcdfnaaenibgaaGreatDoor
namespace Go.Slip
theorem p0b (c : Nat) {j : Nat} (h : j < 8) : (d0x c).take (j + 1) = (d0x c).take j ++ [c / (128 / 2 ^ j) % 2 == 1] := by
 match j, h with
 | 0, _ => rfl
 | 1, _ => rfl
 | 2, _ => rfl
 | 3, _ => rfl
 | 4, _ => rfl
 | 5, _ => rfl
 | 6, _ => rfl
 | 7, _ => rfl
theorem i1w {k j : Nat} (h : k = 128 / 2 ^ j) (hj : j ≤ 8) : k = 0 ↔ j = 8 := by
 subst h
 match j, hj with
 | 0, _ => decide
 | 1, _ => decide
 | 2, _ => decide
 | 3, _ => decide
 | 4, _ => decide
 | 5, _ => decide
 | 6, _ => decide
 | 7, _ => decide
 | 8, _ => decide
theorem k1i {k j : Nat} (h : k = 128 / 2 ^ j) : k ≤ 128 := by rw [h]; exact Nat.div_le_self _ _
theorem k0e : ∀ (x y : List Nat), f0g (x ++ y) = f0g x ++ f0g y
 | [], _ => rfl
 | c :: r, y => by show d0x c ++ f0g (r ++ y) = _; rw [k0e r y]; simp [f0g]
theorem v0t (L : List Nat) {i : Nat} (h : i < L.length) : f0g (L.take (i + 1)) = f0g (L.take i) ++ (d0x (dg L i)).take 8 := by
 rw [← List.take_append_getElem h, k0e, b0h h]
 congr 1
end Go.Slip
namespace Go.Proofs.YtlcdfnaaenibgaaGreatDoor
open Go.RowKit Go.Slip

def GBs (w : World) (bs : List Bool) (en : Ending) (w' : World) : Prop :=
 ∃ p c, en = .returned (.slice p bs.length c) ∧ OwnV w' w.heap.size 4 p c (bs.map Value.bool) ∧ Below w.heap.size w w'

theorem p0c (n : Int) (s : ByteArray) (w : World) (hn : IsFm n) (hs : s.size = (fmt n).size) :
 Calls Tryz.prog 73 #[.int .i64 n, .string s] w (GBs w (f0g (ordL (fmt n).ord (a0z s)))) := by
 have G := f0j hn
 have z1 := G.sz
 have HP := fun i W h => Lib.hid (r0c n i W hn h)
 generalize fmt n = f at *
 have hl0 : (a0z s).length = f.size := by rw [b0z, hs]
 have hlL : (ordL f.ord (a0z s)).length = f.size := by rw [d0y, hl0]
 have hbL := j0j (o := f.ord) (xs := a0z s) (fun _ => by omega) (j0p s)
 have hdg : ∀ i, i < f.size → dg (a0z s) (plc f.ord f.size i) = dg (ordL f.ord (a0z s)) i := fun i hi => by rw [o0f (by omega), hl0]
 have hpl : ∀ i, i < f.size → plc f.ord f.size i < s.size := fun i hi => by rw [hs]; exact d1n (fun _ => by omega) hi
 generalize ordL f.ord (a0z s) = L at *
 have hsucc := fun i (h : i < f.size) => v0t L (i := i) (by omega)
 have hdb := i1m hbL
 have hlen : ∀ i, i ≤ f.size → (f0g (L.take i)).length = 8 * i := fun i hi => by rw [g0q, List.length_take]; omega
 have hall : L.take f.size = L := List.take_of_length_le (by omega)
 clear hbL hl0
 refine calls_of_wp Tryz.func73 rfl ?_
 refine a0x (a' := ⟨((.int .i64 n) :: (.string s) :: us 32 []).toArray, []⟩) (by kernel_rfl) ?_
 refine yq ?_
 refine yq ?_
 refine wp_seq ?_
 refine yq ?_
 refine wp_block ?_
 refine a0x (a' := ⟨((.int .i64 n) :: (.string s) :: us 2 ((.slice none 0 0) :: (.slice none 0 0) :: (.int .i64 0) :: us 27 [])).toArray, []⟩) (by kernel_rfl) ?_
 refine h0b (fun (gk : Nat) U0 a' w' => ∃ (i : Nat) (p5 : Option Addr) (c5 : Nat) (n5 : Nat), a' = ⟨((.int .i64 n) :: (.string s) :: us 2 ((.slice none 0 0) :: (.slice p5 n5 c5) :: (.int .i64 (i : Int)) :: uvs U0 7 26 (undef :: []))).toArray, []⟩ ∧ (OwnV w' w.heap.size 4 p5 c5 ((f0g (L.take i)).map Value.bool)) ∧ Below w.heap.size w w' ∧ (n5 = 8 * i) ∧ (gk + i = f.size)) f.size ?_ (fun Gx hGx => ?_)
 · exact ⟨0, none, 0, 0, by kernel_rfl, (by rw [List.take_zero]; exact OwnV.nil _ _ _), Below.refl _ _, (by omega), (by omega)⟩
 rintro gk0 U0 _ V1 ⟨i, p5, c5, n5, rfl, o5, hbV1, hn5, hgk⟩
 refine hGx _ _ _ ?_
 clear hGx Gx
 have hzV1 := hbV1.size
 refine wp_seq ?_
 refine ye ?_
 rcases Bool.eq_false_or_eq_true (decide ((i : Int) < (s.size : Int))) with f12 | f12
 · refine yb 3 rfl 12 (decide ((i : Int) < (s.size : Int))) (true) (f12) ?_
   refine yzt 0 ?_
   refine yT ?_
   refine wp_skip ?_
   refine a0o ?_
   refine wp_seq ?_
   refine wp_block ?_
   refine ye ?_
   refine yc 3 rfl 18 ((HP i V1 (by have := of_decide_eq_true f12; omega)).out) (fun Gx hGx => ?_)
   rintro eV2 V2 ⟨rfl, hbV2⟩
   have hzV2 := hbV2.size
   refine ⟨_, rfl, hGx _ _ ?_⟩
   clear hGx Gx
   refine yv 0 rfl 19 (.int .u8 ((dg L i : Nat) : Int)) ?_ (b1v uStr (m := plc f.ord f.size i) (by kernel_rfl) (by kernel_rfl) (hpl i (by have := of_decide_eq_true f12; omega)) (by rw [hdg i (by have := of_decide_eq_true f12; omega)]))
   refine ya 0 rfl 20 .i64 ((dg L i : Nat) : Int) (((dg L i : Nat) : Int)) ((IntWalk.i64_in _ (by have := hdb i; omega))) ?_
   refine yzt 1 ?_
   refine yq ?_
   refine wp_block ?_
   refine a0x (a' := ⟨((.int .i64 n) :: (.string s) :: us 2 ((.slice none 0 0) :: (.slice p5 n5 c5) :: (.int .i64 (i : Int)) :: (.int .i64 ((dg L i : Nat) : Int)) :: (.int .i64 128) :: (.int .i64 (i : Int)) :: (.string s) :: (.int .i64 (s.size : Int)) :: (.bool true) :: uvs U0 13 2 ((.string s) :: (.int .i64 n) :: (.int .i64 (i : Int)) :: (.int .i64 ((plc f.ord f.size i : Nat) : Int)) :: (.int .u8 ((dg L i : Nat) : Int)) :: (.int .i64 ((dg L i : Nat) : Int)) :: uvs U0 21 12 (undef :: [])))).toArray, []⟩) (by kernel_rfl) ?_
   refine h0b (fun (gk : Nat) U1 a' w' => ∃ (j : Nat) (k : Nat) (p7 : Option Addr) (c7 : Nat) (n7 : Nat), a' = ⟨((.int .i64 n) :: (.string s) :: us 2 ((.slice none 0 0) :: (.slice p7 n7 c7) :: (.int .i64 (i : Int)) :: (.int .i64 ((dg L i : Nat) : Int)) :: (.int .i64 (k : Int)) :: (.int .i64 (i : Int)) :: (.string s) :: (.int .i64 (s.size : Int)) :: (.bool true) :: uvs U0 13 2 ((.string s) :: (.int .i64 n) :: (.int .i64 (i : Int)) :: (.int .i64 ((plc f.ord f.size i : Nat) : Int)) :: (.int .u8 ((dg L i : Nat) : Int)) :: (.int .i64 ((dg L i : Nat) : Int)) :: uvs U1 21 12 (undef :: [])))).toArray, []⟩ ∧ (OwnV w' w.heap.size 4 p7 c7 ((f0g (L.take i) ++ (d0x (dg L i)).take j).map Value.bool)) ∧ Below w.heap.size w w' ∧ (n7 = 8 * i + j) ∧ (k = 128 / 2 ^ j) ∧ (gk + j = 8)) 8 ?_ (fun Gx hGx => ?_)
   · replace o5 := (o5.past hbV2)
     exact ⟨0, 128, p5, c5, n5, by kernel_rfl, (by rw [List.take_zero, List.append_nil]; exact o5), (a0d hbV1 hbV2), hn5, (by decide), (by omega)⟩
   rintro gk1 U1 _ V3 ⟨j, k, p7, c7, n7, rfl, o7, hbV3, hn7, hk, hgk1⟩
   refine hGx _ _ _ ?_
   clear hGx Gx
   have hzV3 := hbV3.size
   refine wp_seq ?_
   have hi8 : (f0g (L.take i)).length = 8 * i := hlen i (by have := of_decide_eq_true f12; omega)
   have hk0 : k = 0 ↔ j = 8 := i1w hk (by omega)
   refine ye ?_
   rcases Bool.eq_false_or_eq_true (decide ((k : Int) > 0)) with f22 | f22
   · refine yb 1 rfl 22 (decide ((k : Int) > 0)) (true) (f22) ?_
     refine yzt 0 ?_
     refine yT ?_
     refine wp_skip ?_
     refine a0o ?_
     refine wp_seq ?_
     refine wp_block ?_
     refine b0c ?_
     refine yv 3 rfl 28 (.int .i64 ((dg L i / k : Nat) : Int)) ?_ (t0o (X := (((dg L i : Nat) : Int))) (Y := (k : Int)) ((dg L i / k : Nat) : Int) (by kernel_rfl) (by kernel_rfl) ((by have := of_decide_eq_true f22; omega)) ((by rw [show ((dg L i : Nat) : Int).tdiv (k : Int) = ((dg L i / k : Nat) : Int) from (Int.ofNat_tdiv _ _).symm]; have h1 := hdb i; have h2 := Nat.div_le_self (dg L i) k; generalize dg L i / k = qq at *; exact IntWalk.i64_in _ (by omega))))
     refine yv 0 rfl 29 (.int .i64 ((dg L i / k % 2 : Nat) : Int)) ?_ (b1m (X := (((dg L i / k : Nat) : Int))) (Y := (2)) ((dg L i / k % 2 : Nat) : Int) (by kernel_rfl) (by kernel_rfl) ((show (2 : Int) ≠ 0 by omega)) ((by exact (Int.ofNat_tmod _ 2).symm)))
     refine yb 0 rfl 30 (((dg L i / k % 2 : Nat) : Int) == 1) ((dg L i / k % 2 == 1)) ((by exact h0y _)) ?_
     refine ywv 0 rfl 31 (.slice (some ⟨V3.heap.size, 0, none⟩) 1 1) #[.bool (dg L i / k % 2 == 1)] 4 (fun V4 hbV4 hzV4 b31 => ?_)
     replace o7 := (o7.past hbV4)
     refine sapv 32 h0x w.heap.size p7 n7 c7 _ o7 (by simp [hi8, e0w]; omega) (some ⟨V3.heap.size, 0, none⟩) 1 1 [Value.bool (dg L i / k % 2 == 1)] (f1o b31) rfl rfl (by simp [hi8, e0w]; omega) (by omega) (8 * i + (j + 1)) (by simp [hi8, e0w]; have := of_decide_eq_true f22; omega) (fun p32 c32 V5 o32 hjV5 => ?_)
     have hbV5 : Below w.heap.size w V5 := (a0d hbV3 hbV4).trans (hjV5.mono (by omega))
     have hzV5 := hbV5.size
     refine yz 1 ?_
     refine c0m ?_
     refine a0o ?_
     refine b0c ?_
     refine yv 1 rfl 24 (.int .i64 ((k / 2 : Nat) : Int)) ?_ (t0o (X := (k : Int)) (Y := (2)) ((k / 2 : Nat) : Int) (by kernel_rfl) (by kernel_rfl) ((show (2 : Int) ≠ 0 by omega)) ((by rw [show (k : Int).tdiv 2 = ((k / 2 : Nat) : Int) from (Int.ofNat_tdiv k 2).symm]; exact IntWalk.i64_in _ (by have := k1i hk; omega))))
     refine yz 1 ?_
     refine a0o ?_
     refine ⟨gk1 - 1, (by have := of_decide_eq_true f22; omega), ?_⟩
     exact ⟨j + 1, k / 2, p32, c32, 8 * i + (j + 1), by kernel_rfl, (by rw [p0b _ (show j < 8 by have := of_decide_eq_true f22; omega), ← hk, ← List.append_assoc, List.map_append (l₁ := _ ++ _)]; exact o32), hbV5, rfl, (by rw [hk, Nat.div_div_eq_div_mul, Nat.pow_succ]), (by have := of_decide_eq_true f22; omega)⟩
   refine yb 1 rfl 22 (decide ((k : Int) > 0)) (false) (f22) ?_
   refine yzt 0 ?_
   refine yF ?_
   refine wp_exit ?_
   repeat (with_reducible refine d0q ?_)
   refine j0l (id := 2) ?_
   refine c0m ?_
   refine a0o ?_
   refine b0c ?_
   refine ya 1 rfl 14 .i64 ((i : Int) + 1) (((i + 1 : Nat) : Int)) ((by rw [show ((i : Int) + 1) = ((i + 1 : Nat) : Int) by omega]; exact IntWalk.i64_in _ (by have := of_decide_eq_true f12; omega))) ?_
   refine yz 1 ?_
   refine a0o ?_
   refine ⟨gk0 - 1, (by have := of_decide_eq_true f12; omega), ?_⟩
   exact ⟨i + 1, p7, c7, n7, by kernel_rfl, (by rw [hsucc i (by have := of_decide_eq_true f12; omega), ← hk0.1 (by have := of_decide_eq_false f22; omega)]; exact o7), hbV3, (by have := hk0.1 (by have := of_decide_eq_false f22; omega); omega), (by have := of_decide_eq_true f12; omega)⟩
 refine yb 3 rfl 12 (decide ((i : Int) < (s.size : Int))) (false) (f12) ?_
 refine yzt 0 ?_
 refine yF ?_
 refine wp_exit ?_
 repeat (with_reducible refine d0q ?_)
 refine j0l (id := 0) ?_
 refine a0o ?_
 refine yq ?_
 refine wp_ret ?_
 repeat (first | with_reducible refine a0t ?_ | with_reducible refine a0n ?_)
 refine yret (.slice p5 n5 c5) (res1 Tryz.results73 rvt) ?_
 have hi : i = f.size := by have := of_decide_eq_false f12; omega
 have hL8 : (f0g L).length = n5 := by rw [← hall, hlen _ (Nat.le_refl _)]; omega
 rw [hi, hall] at o5
 exact ⟨p5, c5, by rw [hL8], o5, hbV1⟩
end Go.Proofs.YtlcdfnaaenibgaaGreatDoor
namespace Go.Slip
theorem i0v (bs : List Bool) {i : Nat} (h : i < bs.length) : vb (bs.take i) * 2 + (bs.getD i false).toNat = vb (bs.take (i + 1)) := by
 rw [q0d bs i h, Nat.mul_comm, List.getD_eq_getElem?_getD, List.getElem?_eq_getElem h]
 rfl
theorem u0f (bs : List Bool) {i : Nat} (h : i < bs.length) : (bs.map Value.bool)[i]? = some (.bool (bs.getD i false)) := by
 rw [List.getElem?_map, List.getD_eq_getElem?_getD, List.getElem?_eq_getElem h]
 rfl
end Go.Slip
namespace Go.Proofs.YtlcdfnaaenibgaaGreatDoor
open Go.RowKit Go.Slip

theorem m0f : dig B16 2 = [2] := by rw [e0f a0i (by omega), show 2 / B16 = 0 by unfold B16; omega, a0c, show 2 % B16 = 2 by unfold B16; omega]
theorem i1x {w : World} {b : Nat} {t : TypeId} (h : Bt w b t #[.int .i64 2]) : Rf w b (some ⟨b, 0, none⟩) 1 (dig B16 2) := by rw [m0f]; exact d1p (k := 2) h
theorem z0r : 1 = (dig B16 2).length := by rw [m0f]; rfl
theorem d0h {x n k : Nat} (h : x < 2 ^ n) (hk : n ≤ 16 * k) : (dig B16 x).length ≤ k := by
 rw [a0h a0i]
 unfold B16
 rw [show (65536 : Nat) = 2 ^ 16 from rfl, ← Nat.pow_mul]
 exact Nat.lt_of_lt_of_le h (Nat.pow_le_pow_right (by omega) hk)

theorem r0d (bs : List Bool) (p : Option Addr) (n c : Nat) (w : World) (hp : RdV w p (bs.map Value.bool)) (hn : n = bs.length) (hl : bs.length ≤ 200) :
 Calls Tryz.prog 74 #[.slice p n c] w (GRf w (dig B16 (vb bs))) := by
 subst hn
 have hd : ∀ i, (dig B16 (vb (bs.take i))).length ≤ 100 := fun i => d0h (n := 200) (Nat.lt_of_lt_of_le (j0g _) (Nat.pow_le_pow_right (by omega) (by rw [List.length_take]; omega))) (by omega)
 have hd2 : ∀ i, (dig B16 (vb (bs.take i) * 2)).length ≤ 101 := fun i => d0h (n := 201) (by have h := j0g (bs.take i); have h2 : 2 ^ (bs.take i).length ≤ 2 ^ 200 := Nat.pow_le_pow_right (by omega) (by rw [List.length_take]; omega); rw [show 201 = 200 + 1 from rfl, Nat.pow_succ]; generalize 2 ^ 200 = T at *; omega) (by omega)
 have hsucc := fun i h => i0v bs (i := i) h
 have hall : bs.take bs.length = bs := List.take_length
 have hget := fun i h => u0f bs (i := i) h
 have hln : (bs.map Value.bool).length = bs.length := List.length_map ..
 refine calls_of_wp Tryz.func74 rfl ?_
 refine a0x (a' := ⟨((.slice p bs.length c) :: us 21 []).toArray, []⟩) (by kernel_rfl) ?_
 refine yq ?_
 refine yq ?_
 refine wp_seq ?_
 refine yq ?_
 refine wp_block ?_
 refine a0x (a' := ⟨((.slice p bs.length c) :: undef :: (.slice none 0 0) :: (.slice none 0 0) :: (.int .i64 0) :: us 17 []).toArray, []⟩) (by kernel_rfl) ?_
 refine h0b (fun (gk : Nat) U0 a' w' => ∃ (i : Nat) (p3 : Option Addr) (c3 : Nat) (n3 : Nat), a' = ⟨((.slice p bs.length c) :: undef :: (.slice none 0 0) :: (.slice p3 n3 c3) :: (.int .i64 (i : Int)) :: uvs U0 5 16 (undef :: [])).toArray, []⟩ ∧ (Rf w' w.heap.size p3 c3 (dig B16 (vb (bs.take i)))) ∧ Below w.heap.size w w' ∧ (n3 = (dig B16 (vb (bs.take i))).length) ∧ (gk + i = bs.length)) bs.length ?_ (fun Gx hGx => ?_)
 · exact ⟨0, none, 0, 0, by kernel_rfl, (by rw [List.take_zero, x0m, a0c]; exact y0e _ _ _), Below.refl _ _, (by rw [List.take_zero, x0m, a0c]; rfl), (by omega)⟩
 rintro gk0 U0 _ V1 ⟨i, p3, c3, n3, rfl, o3, hbV1, hn3, hgk⟩
 refine hGx _ _ _ ?_
 clear hGx Gx
 have hzV1 := hbV1.size
 have lo3 := fun h => o3.lt h
 refine wp_seq ?_
 refine ye ?_
 rcases Bool.eq_false_or_eq_true (decide ((i : Int) < (bs.length : Int))) with f8 | f8
 · refine yb 3 rfl 8 (decide ((i : Int) < (bs.length : Int))) (true) (f8) ?_
   refine yzt 0 ?_
   refine yT ?_
   refine wp_skip ?_
   refine a0o ?_
   refine wp_seq ?_
   refine wp_block ?_
   refine ye ?_
   refine ywv 1 rfl 12 (.slice (some ⟨V1.heap.size, 0, none⟩) 1 1) #[.int .i64 2] 3 (fun V2 hbV2 hzV2 b12 => ?_)
   replace o3 := (o3.past hbV2)
   refine yc 0 rfl 13 (i1u p3 (some ⟨V1.heap.size, 0, none⟩) n3 1 c3 1 (vb (bs.take i)) 2 (vb (bs.take i) * 2) V2 o3.rd (i1x b12).rd hn3 z0r (by have := hd i; omega) (by rw [m0f]; decide) rfl) (fun Gx hGx => ?_)
   rintro eV3 V3 ⟨p13, c13, rfl, o13, hbV3⟩
   have hzV3 := hbV3.size
   have lo13 := fun h => o13.lt h
   refine ⟨_, rfl, hGx _ _ ?_⟩
   clear hGx Gx
   refine yzt 1 ?_
   refine ye ?_
   replace hp := (hp.past (a0d (a0d hbV1 hbV2) hbV3))
   refine yv 2 rfl 16 (.pointer (some (at_ p i))) ?_ (o0s (p := p) (n := bs.length) (c := c) (m := i) h0x (by have h := hp.solid; rw [hln] at h; exact h) (by kernel_rfl) (by kernel_rfl) (by have := of_decide_eq_true f8; omega))
   rcases Bool.eq_false_or_eq_true (bs.getD i false) with f17 | f17
   · refine yv 0 rfl 17 (.bool true) ?_ ((show _ = Result.ok (Next.value (.bool (bs.getD i false))) _ from (t0x hp l0v (m := i) (by kernel_rfl) (hget i (by have := of_decide_eq_true f8; omega)))).trans (congrArg (fun z => Result.ok (Next.value (.bool z)) _) (show (bs.getD i false) = true from f17)))
     refine yzt 0 ?_
     refine yT ?_
     refine b0c ?_
     refine ywv 1 rfl 19 (.slice (some ⟨V3.heap.size, 0, none⟩) 1 1) #[.int .i64 1] 3 (fun V4 hbV4 hzV4 b19 => ?_)
     replace o13 := (o13.past hbV4)
     refine yc 0 rfl 20 (g1g p13 (some ⟨V3.heap.size, 0, none⟩) _ 1 c13 1 (vb (bs.take i) * 2) 1 (vb (bs.take (i + 1))) V4 o13.rd (i1s b19).rd rfl z0m (by have := hd2 i; omega) (by rw [m0a]; decide) (by rw [← hsucc i (by have := of_decide_eq_true f8; omega), f17, Bool.toNat_true])) (fun Gx hGx => ?_)
     rintro eV5 V5 ⟨p20, c20, rfl, o20, hbV5⟩
     have hzV5 := hbV5.size
     have lo20 := fun h => o20.lt h
     refine ⟨_, rfl, hGx _ _ ?_⟩
     clear hGx Gx
     refine yz 1 ?_
     refine c0m ?_
     refine a0o ?_
     refine b0c ?_
     refine ya 1 rfl 10 .i64 ((i : Int) + 1) (((i + 1 : Nat) : Int)) ((by rw [show ((i : Int) + 1) = ((i + 1 : Nat) : Int) by omega]; exact IntWalk.i64_in _ (by have := of_decide_eq_true f8; omega))) ?_
     refine yz 1 ?_
     refine a0o ?_
     refine ⟨gk0 - 1, (by have := of_decide_eq_true f8; omega), ?_⟩
     exact ⟨i + 1, p20, c20, (dig B16 (vb (bs.take (i + 1)))).length, by kernel_rfl, o20.mono (by omega), (a0d (a0d (a0d (a0d hbV1 hbV2) hbV3) hbV4) hbV5), rfl, (by have := of_decide_eq_true f8; omega)⟩
   refine yv 0 rfl 17 (.bool false) ?_ ((show _ = Result.ok (Next.value (.bool (bs.getD i false))) _ from (t0x hp l0v (m := i) (by kernel_rfl) (hget i (by have := of_decide_eq_true f8; omega)))).trans (congrArg (fun z => Result.ok (Next.value (.bool z)) _) (show (bs.getD i false) = false from f17)))
   refine yzt 0 ?_
   refine yF ?_
   refine wp_skip ?_
   refine c0m ?_
   refine a0o ?_
   refine b0c ?_
   refine ya 1 rfl 10 .i64 ((i : Int) + 1) (((i + 1 : Nat) : Int)) ((by rw [show ((i : Int) + 1) = ((i + 1 : Nat) : Int) by omega]; exact IntWalk.i64_in _ (by have := of_decide_eq_true f8; omega))) ?_
   refine yz 1 ?_
   refine a0o ?_
   refine ⟨gk0 - 1, (by have := of_decide_eq_true f8; omega), ?_⟩
   exact ⟨i + 1, p13, c13, (dig B16 (vb (bs.take i) * 2)).length, by kernel_rfl, (by rw [← hsucc i (by have := of_decide_eq_true f8; omega), f17, Bool.toNat_false, Nat.add_zero]; exact o13.mono (by omega)), (a0d (a0d hbV1 hbV2) hbV3), (by rw [← hsucc i (by have := of_decide_eq_true f8; omega), f17, Bool.toNat_false, Nat.add_zero]), (by have := of_decide_eq_true f8; omega)⟩
 refine yb 3 rfl 8 (decide ((i : Int) < (bs.length : Int))) (false) (f8) ?_
 refine yzt 0 ?_
 refine yF ?_
 refine wp_exit ?_
 repeat (with_reducible refine d0q ?_)
 refine j0l (id := 0) ?_
 refine a0o ?_
 refine yq ?_
 refine wp_ret ?_
 repeat (first | with_reducible refine a0t ?_ | with_reducible refine a0n ?_)
 refine yret (.slice p3 n3 c3) (res1 Tryz.results74 rvt) ?_
 have hi : i = bs.length := by have := of_decide_eq_false f8; omega
 rw [hi, hall] at o3 hn3
 exact ⟨p3, c3, by rw [hn3], o3.mono (by omega), hbV1⟩

def z0s (w : World) (v : Vr) (en : Ending) (w' : World) : Prop :=
 ∃ p c, en = .returned (.agg #[.int .i64 (v.cls : Int), .bool v.neg, .bool v.x.neg, .slice p (dig B16 v.x.m).length c, .int .i64 v.x.e]) ∧ Rf w' w.heap.size p c (dig B16 v.x.m) ∧ Below w.heap.size w w'
theorem r0e {w w' : World} {k : Nat} {n : Bool} {en : Ending} (h : en = .returned (.agg #[.int .i64 (k : Int), .bool n, .bool false, .slice none 0 0, .int .i64 0])) (hb : Below w.heap.size w w') : z0s w ⟨k, n, ⟨false, 0, 0⟩⟩ en w' := by
 refine ⟨none, 0, ?_, ?_, hb⟩
 · rw [h, a0c]; rfl
 · rw [a0c]; exact y0e _ _ _

theorem c0z (f : Fm) (g : Bool) (bg bf x : Nat) (p : Option Addr) (c b0 : Nat) (pw : Int) (w : World) (hp : Rf w b0 p c (dig B16 x)) (hl : (dig B16 x).length ≤ 1000) (hpw : -100000 ≤ pw ∧ pw ≤ 100000)
 (Bg : Bt w bg 4 #[.bool g]) (Bf : Bt w bf 55 #[.int .i64 (f.size : Int), .int .i64 (f.E : Int), .int .i64 (f.F : Int), .int .i64 f.g.rad, .int .i64 f.g.digs, .int .i64 f.g.lo, .int .i64 f.g.hi, .bool f.g.grad, .int .i64 (f.fam : Int)]) :
 Calls Tryz.prog 76 #[.slice p (dig B16 x).length c, .int .i64 pw, .pointer (some ⟨bg, 0, none⟩), .pointer (some ⟨bf, 0, none⟩)] w (z0s w (f.vr g ⟨2, x, pw⟩)) := by
 have hx0 := a0e a0i x
 have wp := b0n f.g
 have lg := Bg.lt
 have lf := Bf.lt
 have hmu := q0u (wd := wid f.g) (k := pw) (B := 100000) wp.2 hpw
 by_cases h0 : x = 0
 · have hv : f.vr g ⟨2, x, pw⟩ = ⟨1, g, ⟨false, 0, 0⟩⟩ := by unfold Fm.vr Dc.c; simp [h0]
   have hb0 : bare ⟨g, x, wid f.g * pw⟩ = ⟨false, 0, 0⟩ := by rw [h0]; rfl
   rw [hv]
   generalize hmw : (wid f.g : Int) * pw = mw at *
   have HMW := Lib.hid hmw
   clear hmw
   have I := Inv.startR w [bg, bf] [⟨4, [.v (.bool g)], true⟩, ⟨55, [.v (.int .i64 (f.size : Int)), .v (.int .i64 (f.E : Int)), .v (.int .i64 (f.F : Int)), .v (.int .i64 f.g.rad), .v (.int .i64 f.g.digs), .v (.int .i64 f.g.lo), .v (.int .i64 f.g.hi), .v (.bool f.g.grad), .v (.int .i64 (f.fam : Int))], true⟩] [rfF b0 p c (dig B16 x)] ⟨Bg, Bf, True.intro⟩ ⟨hp, True.intro⟩
   refine a0b [.v (.slice p (dig B16 x).length c), .v (.int .i64 pw), .p 0 0, .p 1 0] I Tryz.func76 ?_
   refine zcut I none (fun fr bx gs => ∃ (U1 : Nat → Value) (p16 : Option Addr) (c16 : Nat), fr = (.v (.slice p (dig B16 x).length c) :: .v (.int .i64 pw) :: .p 0 0 :: .p 1 0 :: su 2 (.p 2 0 :: .p 3 0 :: sw U1 8 12 (.v undef :: sw U1 21 5 [])) : List SV) ∧ bx = [⟨4, [.v (.bool g)], true⟩, ⟨55, [.v (.int .i64 (f.size : Int)), .v (.int .i64 (f.E : Int)), .v (.int .i64 (f.F : Int)), .v (.int .i64 f.g.rad), .v (.int .i64 f.g.digs), .v (.int .i64 f.g.lo), .v (.int .i64 f.g.hi), .v (.bool f.g.grad), .v (.int .i64 (f.fam : Int))], true⟩, ⟨32, [.v (.int .i64 0), .v (.bool false), .v (.bool false), .v (.slice none 0 0), .v (.int .i64 0)], false⟩, ⟨30, [.v (.bool false), .v (.slice p16 (dig B16 0).length c16), .v (.int .i64 0)], false⟩] ∧ gs = [rfF w.heap.size p16 c16 (dig B16 0), rfF b0 p c (dig B16 x)]) ?_ ?_
   · intro J hJ Al W I
     refine zd [] I fun Al W I => ?_
     refine zk [0, 1, 2, 3, 5] I fun I => ?_
     refine zo2 4 9 I (fun I => ?_) (fun I => ?_)
     · refine zg I (fun Al W I => e0y f.g W) fun Al V Iv hzV hB Kz kz => ?_
       rintro _ W ⟨rfl, hb⟩
       refine ⟨_, rfl, kz _ _ hb fun I => ?_⟩
       clear kz Kz
       refine zki 6 I .i64 (((wid f.g : Nat) : Int) * pw) (mw) ((by rw [HMW.out]; exact IntWalk.i64_in _ (by omega))) fun I => ?_
       refine zk [7] I fun I => ?_
       refine zo2 8 9 I (fun I => ?_) (fun I => ?_)
       · refine zg I (fun Al W I => have hzW := I.bel.size; n0i g p _ c mw x ⟨false, 0, 0⟩ W I.fa.1.rd rfl (by omega) (by omega) hb0) fun Al V Iv hzV hB Kz kz => ?_
         rintro _ W ⟨p16, c16, rfl, o16, hb⟩
         refine ⟨_, rfl, kz _ _ hb fun I => ?_⟩
         clear kz Kz
         have I := I.rf o16 (hB _) Iv
         refine zo 9 I (fun I => ?_)
         refine zn I fun Al W I => ?_
         refine zo 10 I (fun I => ?_)
         refine zn I fun Al W I => ?_
         exact b0j I J fun Al W U I => hJ _ _ _ _ _ ⟨U, p16, c16, rfl, rfl, rfl⟩ (I.pick [0, 1])
       refine zn I fun Al W I => ?_
       refine zo 8 I (fun I => ?_)
       refine zg I (fun Al W I => have hzW := I.bel.size; n0i g p _ c mw x ⟨false, 0, 0⟩ W I.fa.1.rd rfl (by omega) (by omega) hb0) fun Al V Iv hzV hB Kz kz => ?_
       rintro _ W ⟨p16, c16, rfl, o16, hb⟩
       refine ⟨_, rfl, kz _ _ hb fun I => ?_⟩
       clear kz Kz
       have I := I.rf o16 (hB _) Iv
       refine zo 10 I (fun I => ?_)
       refine zn I fun Al W I => ?_
       exact b0j I J fun Al W U I => hJ _ _ _ _ _ ⟨U, p16, c16, rfl, rfl, rfl⟩ (I.pick [0, 1])
     refine zn I fun Al W I => ?_
     refine zo 4 I (fun I => ?_)
     refine zg I (fun Al W I => e0y f.g W) fun Al V Iv hzV hB Kz kz => ?_
     rintro _ W ⟨rfl, hb⟩
     refine ⟨_, rfl, kz _ _ hb fun I => ?_⟩
     clear kz Kz
     refine zki 6 I .i64 (((wid f.g : Nat) : Int) * pw) (mw) ((by rw [HMW.out]; exact IntWalk.i64_in _ (by omega))) fun I => ?_
     refine zk [7] I fun I => ?_
     refine zo 8 I (fun I => ?_)
     refine zg I (fun Al W I => have hzW := I.bel.size; n0i g p _ c mw x ⟨false, 0, 0⟩ W I.fa.1.rd rfl (by omega) (by omega) hb0) fun Al V Iv hzV hB Kz kz => ?_
     rintro _ W ⟨p16, c16, rfl, o16, hb⟩
     refine ⟨_, rfl, kz _ _ hb fun I => ?_⟩
     clear kz Kz
     have I := I.rf o16 (hB _) Iv
     refine zo 10 I (fun I => ?_)
     refine zn I fun Al W I => ?_
     exact b0j I J fun Al W U I => hJ _ _ _ _ _ ⟨U, p16, c16, rfl, rfl, rfl⟩ (I.pick [0, 1])
   rintro _ _ _ ⟨U1, p16, c16, rfl, rfl, rfl⟩ Al W I
   refine zb I 20 ((((dig B16 0).length : Nat) : Int) == 0) (true) (beq_iff_eq.2 (by rw [a0c]; rfl)) fun Al W I => ?_
   exact zret I fun Al W I => r0e rfl I.below
 · have hv : f.vr g ⟨2, x, pw⟩ = ⟨2, g, bare ⟨g, x, wid f.g * pw⟩⟩ := by unfold Fm.vr Dc.c; simp [h0]
   have hne : (bare ⟨g, x, wid f.g * pw⟩ : Dv).m ≠ 0 := by
    unfold bare
    rw [if_neg h0]
    have := (c0s x (by omega)).2
    intro h
    simp only at h
    rw [h] at this
    simp at this
   rw [hv]
   generalize hmw : (wid f.g : Int) * pw = mw at *
   have HMW := Lib.hid hmw
   clear hmw
   generalize hd : bare ⟨g, x, mw⟩ = d at *
   have HD := Lib.hid hd
   clear hd
   have hd0 := a0e a0i d.m
   have I := Inv.startR w [bg, bf] [⟨4, [.v (.bool g)], true⟩, ⟨55, [.v (.int .i64 (f.size : Int)), .v (.int .i64 (f.E : Int)), .v (.int .i64 (f.F : Int)), .v (.int .i64 f.g.rad), .v (.int .i64 f.g.digs), .v (.int .i64 f.g.lo), .v (.int .i64 f.g.hi), .v (.bool f.g.grad), .v (.int .i64 (f.fam : Int))], true⟩] [rfF b0 p c (dig B16 x)] ⟨Bg, Bf, True.intro⟩ ⟨hp, True.intro⟩
   refine a0b [.v (.slice p (dig B16 x).length c), .v (.int .i64 pw), .p 0 0, .p 1 0] I Tryz.func76 ?_
   refine zcut I none (fun fr bx gs => ∃ (U1 : Nat → Value) (p16 : Option Addr) (c16 : Nat), fr = (.v (.slice p (dig B16 x).length c) :: .v (.int .i64 pw) :: .p 0 0 :: .p 1 0 :: su 2 (.p 2 0 :: .p 3 0 :: sw U1 8 12 (.v undef :: sw U1 21 5 [])) : List SV) ∧ bx = [⟨4, [.v (.bool g)], true⟩, ⟨55, [.v (.int .i64 (f.size : Int)), .v (.int .i64 (f.E : Int)), .v (.int .i64 (f.F : Int)), .v (.int .i64 f.g.rad), .v (.int .i64 f.g.digs), .v (.int .i64 f.g.lo), .v (.int .i64 f.g.hi), .v (.bool f.g.grad), .v (.int .i64 (f.fam : Int))], true⟩, ⟨32, [.v (.int .i64 0), .v (.bool false), .v (.bool false), .v (.slice none 0 0), .v (.int .i64 0)], false⟩, ⟨30, [.v (.bool d.neg), .v (.slice p16 (dig B16 d.m).length c16), .v (.int .i64 d.e)], false⟩] ∧ gs = [rfF w.heap.size p16 c16 (dig B16 d.m), rfF b0 p c (dig B16 x)]) ?_ ?_
   · intro J hJ Al W I
     refine zd [] I fun Al W I => ?_
     refine zk [0, 1, 2, 3, 5] I fun I => ?_
     refine zo2 4 9 I (fun I => ?_) (fun I => ?_)
     · refine zg I (fun Al W I => e0y f.g W) fun Al V Iv hzV hB Kz kz => ?_
       rintro _ W ⟨rfl, hb⟩
       refine ⟨_, rfl, kz _ _ hb fun I => ?_⟩
       clear kz Kz
       refine zki 6 I .i64 (((wid f.g : Nat) : Int) * pw) (mw) ((by rw [HMW.out]; exact IntWalk.i64_in _ (by omega))) fun I => ?_
       refine zk [7] I fun I => ?_
       refine zo2 8 9 I (fun I => ?_) (fun I => ?_)
       · refine zg I (fun Al W I => have hzW := I.bel.size; n0i g p _ c mw x d W I.fa.1.rd rfl (by omega) (by omega) HD.out) fun Al V Iv hzV hB Kz kz => ?_
         rintro _ W ⟨p16, c16, rfl, o16, hb⟩
         refine ⟨_, rfl, kz _ _ hb fun I => ?_⟩
         clear kz Kz
         have I := I.rf o16 (hB _) Iv
         refine zo 9 I (fun I => ?_)
         refine zn I fun Al W I => ?_
         refine zo 10 I (fun I => ?_)
         refine zn I fun Al W I => ?_
         exact b0j I J fun Al W U I => hJ _ _ _ _ _ ⟨U, p16, c16, rfl, rfl, rfl⟩ (I.pick [0, 1])
       refine zn I fun Al W I => ?_
       refine zo 8 I (fun I => ?_)
       refine zg I (fun Al W I => have hzW := I.bel.size; n0i g p _ c mw x d W I.fa.1.rd rfl (by omega) (by omega) HD.out) fun Al V Iv hzV hB Kz kz => ?_
       rintro _ W ⟨p16, c16, rfl, o16, hb⟩
       refine ⟨_, rfl, kz _ _ hb fun I => ?_⟩
       clear kz Kz
       have I := I.rf o16 (hB _) Iv
       refine zo 10 I (fun I => ?_)
       refine zn I fun Al W I => ?_
       exact b0j I J fun Al W U I => hJ _ _ _ _ _ ⟨U, p16, c16, rfl, rfl, rfl⟩ (I.pick [0, 1])
     refine zn I fun Al W I => ?_
     refine zo 4 I (fun I => ?_)
     refine zg I (fun Al W I => e0y f.g W) fun Al V Iv hzV hB Kz kz => ?_
     rintro _ W ⟨rfl, hb⟩
     refine ⟨_, rfl, kz _ _ hb fun I => ?_⟩
     clear kz Kz
     refine zki 6 I .i64 (((wid f.g : Nat) : Int) * pw) (mw) ((by rw [HMW.out]; exact IntWalk.i64_in _ (by omega))) fun I => ?_
     refine zk [7] I fun I => ?_
     refine zo 8 I (fun I => ?_)
     refine zg I (fun Al W I => have hzW := I.bel.size; n0i g p _ c mw x d W I.fa.1.rd rfl (by omega) (by omega) HD.out) fun Al V Iv hzV hB Kz kz => ?_
     rintro _ W ⟨p16, c16, rfl, o16, hb⟩
     refine ⟨_, rfl, kz _ _ hb fun I => ?_⟩
     clear kz Kz
     have I := I.rf o16 (hB _) Iv
     refine zo 10 I (fun I => ?_)
     refine zn I fun Al W I => ?_
     exact b0j I J fun Al W U I => hJ _ _ _ _ _ ⟨U, p16, c16, rfl, rfl, rfl⟩ (I.pick [0, 1])
   rintro _ _ _ ⟨U1, p16, c16, rfl, rfl, rfl⟩ Al W I
   refine zb I 20 ((((dig B16 d.m).length : Nat) : Int) == 0) (false) (beq_eq_false_iff_ne.2 (by omega)) fun Al W I => ?_
   exact zret I fun Al W I => ⟨p16, c16, rfl, I.fa.1.mono (by omega), I.below⟩
end Go.Proofs.YtlcdfnaaenibgaaGreatDoor
namespace Go.Slip
open Go.RowKit

theorem RdV.grown {w w' : World} {p : Option Addr} {vs : List Value} {row : Option Nat} (h : RdV w p vs) (hg : w.grownBy w' row) (hne : 0 < vs.length → some (blk p) ≠ row) : RdV w' p vs :=
 h.same fun h0 => hg.block _ (h.lt h0) (hne h0)
theorem Rf.grown {w w' : World} {base : Nat} {p : Option Addr} {c : Nat} {xs : List Nat} {row : Option Nat} (h : Rf w base p c xs) (hg : w.grownBy w' row) (hne : 0 < xs.length → some (blk p) ≠ row) : Rf w' base p c xs :=
 ⟨h.rd.same fun h0 => hg.block _ (h.rd.lt h0) (hne h0), h.cap, h.at_⟩

section
variable {P : Program} {ops : Array Oper} {Q : Exit → Act → World → Prop} {a : Act} {w : World} {rest : List Oper} {o : Oper} {K : Act → World → Prop}
end
end Go.Slip
namespace Go.Slip
def LL (bs : List Nat) (i : Nat) : List Nat := bs.take i ++ List.replicate (bs.length - i) 0
theorem m0g (bs : List Nat) (i : Nat) : (LL bs i).length = bs.length := by unfold LL; rw [List.length_append, List.length_take, List.length_replicate]; omega
theorem g1h (bs : List Nat) : LL bs 0 = List.replicate bs.length 0 := by unfold LL; rw [List.take_zero]; rfl
theorem i1y (bs : List Nat) : LL bs bs.length = bs := by unfold LL; rw [List.take_length, Nat.sub_self]; simp
theorem z0t (bs : List Nat) (i j : Nat) : dg (LL bs i) j = if j < i then dg bs j else 0 := by
 unfold LL
 by_cases h : j < (bs.take i).length
 · rw [p0m h]
   have h2 : j < i := by rw [List.length_take] at h; omega
   rw [i0y h2, if_pos h2]
 · rw [p0n (by omega), c0p]
   split
   · rw [b0l]
     rw [List.length_take] at h
     omega
   · rfl
theorem i1z (bs : List Nat) {i : Nat} (h : i < bs.length) : (LL bs i).set i (dg bs i) = LL bs (i + 1) := by
 refine q0c (by rw [List.length_set, m0g, m0g]) fun j hj => ?_
 rw [List.length_set, m0g] at hj
 by_cases e : i = j
 · subst e
   rw [b0g (by rw [m0g]; exact h), z0t, if_pos (by omega)]
 · rw [b0q e, z0t, z0t]
   by_cases k : j < i
   · rw [if_pos k, if_pos (by omega)]
   · rw [if_neg k, if_neg (by omega)]
theorem g1i (bs : List Nat) {i : Nat} (h0 : dg bs i = 0) : LL bs i = LL bs (i + 1) := by
 refine q0c (by rw [m0g, m0g]) fun j _ => ?_
 rw [z0t, z0t]
 by_cases e : j = i
 · subst e
   rw [if_neg (by omega), if_pos (by omega), h0]
 · by_cases k : j < i
   · rw [if_pos k, if_pos (by omega)]
   · rw [if_neg k, if_neg (by omega)]
theorem z0u (n : Nat) : IntKind.u8.wrap (n : Int) = ((n % 256 : Nat) : Int) := by
 simp [IntKind.wrap, IntKind.signed, IntKind.bits]
theorem z0v (n : Nat) : dg (dig B32 n) 0 = n % 4294967296 := by
 rcases Nat.eq_zero_or_pos n with h | h
 · subst h; rw [a0c]; rfl
 · rw [e0f a0a h]; rfl
section
open Go.RowKit
variable {P : Program} {ops : Array Oper} {Q : Exit → Act → World → Prop} {a : Act} {w : World} {rest : List Oper} {o : Oper}
theorem smkn (d : Nat) {x y : Operand} {t : TypeId} {e : TypeId} {k : IntKind} {bytes : Nat} (hty : g0t P t e (.int k 0) bytes) (n : Nat) (hb : n ≤ 4000000000)
 (h : ∀ p' c' w', Own w' w.heap.size k e p' c' (List.replicate n 0) → Below w.heap.size w w' → WpL P ops Q rest (a.put (some d) (.slice p' n c')) w')
 (hx : a.eval x = .int .i64 (n : Int) := by kernel_rfl) (hy : a.eval y = .int .i64 (n : Int) := by kernel_rfl)
 (ho : o.op = .makeSlice t x y := by rfl) (hd : o.dst = some d := by kernel_rfl)
 (hw : Region.wanted o (yielded ops a.tmps) = true := by kernel_rfl) : WpL P ops Q (o :: rest) a w :=
 c0d (i1e (some d) hd x y t ho hty .i64 .i64 n hx hy hb hw fun p' c' w' h1 h2 => h p' c' w' (t0w (by rw [List.map_replicate]; exact h1)) h2)
end
end Go.Slip
namespace Go.Proofs.YtlcdfnaaenibgaaGreatDoor
open Go.RowKit Go.Slip

theorem u0g (f : Fm) (g : Bool) (e x : Nat) (p : Option Addr) (c : Nat) (w : World) (G : c0t f) (hp : Rd w .u32 p (dig B32 x)) (he : e < 2 ^ f.E) (hx : x < 2 ^ f.F) :
 Calls Tryz.prog 149 #[.agg #[.int .i64 (f.size : Int), .int .i64 (f.E : Int), .int .i64 (f.F : Int), .int .i64 f.g.rad, .int .i64 f.g.digs, .int .i64 f.g.lo, .int .i64 f.g.hi, .bool f.g.grad, .bool f.hid, .bool f.inf, .bool f.res, .func (.func (ordF f)) #[] #[]], .agg #[.bool g, .int .i64 (e : Int), .slice p (dig B32 x).length c]] w fun en w' => en = .returned (.string (b0s (f.str g e x))) ∧ Below w.heap.size w w' := by
 have z1 := G.sz
 have z2 := G.e2
 have z3 := G.f2
 have z4 := G.bits
 have hlt := h1s G (neg := g) he hx
 have hxl := a0p hx (k := 2) (by omega)
 have hT : g.toNat * 2 ^ f.E + e < 2 ^ 16 := by
  have h1 : 2 ^ f.E ≤ 2 ^ 15 := Nat.pow_le_pow_right (by omega) (by omega)
  cases g <;> simp <;> omega
 have hpw : 2 ^ f.E ≤ 2 ^ 15 := Nat.pow_le_pow_right (by omega) (by omega)
 have hsh := o0t (E := f.E) (by omega)
 have hor := v0j (x := e) (E := f.E) he (by omega)
 have h80 : f.pat g e x < 2 ^ 80 := Nat.lt_of_lt_of_le hlt (Nat.pow_le_pow_right (by omega) (by omega))
 unfold Fm.str
 have hpe : f.pat g e x = (g.toNat * 2 ^ f.E + e) * 2 ^ f.F + x := rfl
 have hord := fun (W : World) (base : Nat) (p : Option Addr) (c : Nat) (xs : List Nat) h1 h2 h3 => y0y f base p f.size c xs W G h1 h2.symm h2 h3
 generalize hNN : f.pat g e x = NN at *
 have hbl : (f0r NN f.size).length = f.size := f0s _ _
 have hdg := fun i h => q0f f.size NN i h
 have hbs := fun i h => i1z (f0r NN f.size) (i := i) h
 have hbz := fun i h => g1i (f0r NN f.size) (i := i) h
 have hball := i1y (f0r NN f.size)
 have hb0 := g1h (f0r NN f.size)
 have hLl := m0g (f0r NN f.size)
 rw [hbl] at hball hb0
 generalize f0r NN f.size = bs at *
 generalize h2E : 2 ^ f.E = P at *
 have hNl := a0p h80 (k := 3) (by omega)
 have hTl : (dig B32 ((g.toNat * P + e) * 2 ^ f.F)).length ≤ 3 := a0p (n := 80) (by omega) (by omega)
 have hQl : ∀ N, (dig B32 (NN / 2 ^ N)).length ≤ 3 := fun N => a0p (n := 80) (Nat.lt_of_le_of_lt (Nat.div_le_self _ _) h80) (by omega)
 have HSH := Lib.hid hsh
 have HOR := Lib.hid hor
 have HPE := Lib.hid hpe
 have HB0 := Lib.hid hb0
 clear hsh hor hpe hb0 hlt h80 hNN h2E
 have hT3 : d0l Tryz.prog 3 := c0x (by kernel_rfl) (by kernel_rfl)
 have hT4 : d0l Tryz.prog 4 := c0x (by kernel_rfl) (by kernel_rfl)
 have hT48 : d0l Tryz.prog 48 := c0x (by kernel_rfl) (by kernel_rfl)
 have hT144 : d0l Tryz.prog 144 := c0x (by kernel_rfl) (by kernel_rfl)
 refine calls_of_wp Tryz.func149 rfl ?_
 refine a0x (a' := ⟨((.agg #[.int .i64 (f.size : Int), .int .i64 (f.E : Int), .int .i64 (f.F : Int), .int .i64 f.g.rad, .int .i64 f.g.digs, .int .i64 f.g.lo, .int .i64 f.g.hi, .bool f.g.grad, .bool f.hid, .bool f.inf, .bool f.res, .func (.func (ordF f)) #[] #[]]) :: (.agg #[.bool g, .int .i64 (e : Int), .slice p (dig B32 x).length c]) :: us 58 []).toArray, []⟩) (by kernel_rfl) ?_
 refine ye ?_
 refine yw 0 rfl 2 #[.int .i64 (f.size : Int), .int .i64 (f.E : Int), .int .i64 (f.F : Int), .int .i64 f.g.rad, .int .i64 f.g.digs, .int .i64 f.g.lo, .int .i64 f.g.hi, .bool f.g.grad, .bool f.hid, .bool f.inf, .bool f.res, .func (.func (ordF f)) #[] #[]] 146 (fun V1 hbV1 hzV1 b2 => ?_)
 refine yw 0 rfl 3 #[.bool g, .int .i64 (e : Int), .slice p (dig B32 x).length c] 190 (fun V2 hbV2 hzV2 b3 => ?_)
 refine yzt 1 ?_
 refine ye ?_
 refine yl 1 rfl 11 b3 hT3 1 ?_
 refine yzt 1 ?_
 refine wp_seq ?_
 refine ye ?_
 rcases Bool.eq_false_or_eq_true (g) with f13 | f13
 · refine ylb 1 rfl 13 b3 hT4 0 (g) true (f13) ?_
   refine yzt 0 ?_
   refine yT ?_
   refine b0c ?_
   have b2_w2 := b2.past hbV2
   refine yl 2 rfl 16 b2_w2 hT3 1 ?_
   refine yv 0 rfl 17 (.int .i64 (P : Int)) ?_ (k0p (X := (1)) (Y := (f.E : Int)) (k2 := .i64) (P : Int) (by kernel_rfl) (by kernel_rfl) (by omega) ((HSH.out)))
   refine yv 0 rfl 18 (.int .i64 ((P + e : Nat) : Int)) ?_ (f1t (X := (e : Int)) (Y := ((P : Int))) ((P + e : Nat) : Int) (by kernel_rfl) (by kernel_rfl) ((HOR.out)))
   refine yz 1 ?_
   refine a0o ?_
   refine wp_seq ?_
   obtain ⟨V3, hVV3, hbV3, hzV3⟩ := o0j V2
   have b2_w3 := b2.past (a0d hbV2 hbV3)
   replace b3 := (b3.past hbV3)
   refine yd2 hVV3 ⟨b2_w3, b3⟩ ?_
   clear hVV3
   refine yt 7 [0, 2] rfl ⟨b2_w3, b3⟩ ?_
   refine ytl 3 rfl 22 (fun _ h => h.1) hT3 2 ⟨b2_w3, b3⟩ ?_
   refine yt 5 [5] rfl ⟨b2_w3, b3⟩ ?_
   refine ytl 6 rfl 25 (fun _ h => h.2) hT48 2 ⟨b2_w3, b3⟩ ?_
   refine sxr [1] ?_
   refine rd1 (fun Kx hKx => ?_)
   refine yck 20 (sof ((P + e : Nat) : Int) (g.toNat * P + e) (by rw [f13, Bool.toNat_true, Nat.one_mul]) (by omega) V3) ?_
   rintro eV4 V4 ⟨p20, c20, rfl, o20, hbV4⟩
   have hzV4 := hbV4.size
   refine ⟨_, rfl, ?_⟩
   have b2_w4 := b2.past (a0d (a0d hbV2 hbV3) hbV4)
   replace b3 := (b3.past hbV4)
   refine hKx.out _ _ ⟨b2_w4, b3⟩ ?_
   clear hKx Kx
   refine sxr [4] ?_
   refine rd1 (fun Kx hKx => ?_)
   refine yck 23 (sshl p20 _ c20 (g.toNat * P + e) f.F ((g.toNat * P + e) * 2 ^ f.F) _ V4 o20.rd rfl (by have := a0p hT (k := 1) (by omega); omega) (by omega) rfl rfl) ?_
   rintro eV5 V5 ⟨p23, c23, rfl, o23, hbV5⟩
   have hzV5 := hbV5.size
   refine ⟨_, rfl, ?_⟩
   have b2_w5 := b2.past (a0d (a0d (a0d hbV2 hbV3) hbV4) hbV5)
   replace b3 := (b3.past hbV5)
   refine hKx.out _ _ ⟨b2_w5, b3⟩ ?_
   clear hKx Kx
   refine sxr [7] ?_
   refine rd1 (fun Kx hKx => ?_)
   replace hp := (hp.past (a0d (a0d (a0d (a0d hbV1 hbV2) hbV3) hbV4) hbV5))
   refine yck 26 (sadd p23 p _ _ c23 c ((g.toNat * P + e) * 2 ^ f.F) x NN V5 o23.rd hp rfl rfl (by omega) (by omega) HPE.out.symm) ?_
   rintro eV6 V6 ⟨p26, c26, rfl, o26, hbV6⟩
   have hzV6 := hbV6.size
   refine ⟨_, rfl, ?_⟩
   have b2_w6 := b2.past (a0d (a0d (a0d (a0d hbV2 hbV3) hbV4) hbV5) hbV6)
   replace b3 := (b3.past hbV6)
   refine hKx.out _ _ ⟨b2_w6, b3⟩ ?_
   clear hKx Kx
   refine yt 0 [8] rfl ⟨b2_w6, b3⟩ ?_
   refine l0i (by kernel_rfl) ?_
   refine a0o ?_
   refine ye ?_
   refine yl 1 rfl 28 b2_w6 hT3 0 ?_
   refine smkn 29 j0r f.size (by omega) (fun p29 c29 V7 b29 hjV7 => ?_)
   have hbV7 : Below V6.heap.size V6 V7 := (Below.refl _ _).trans (hjV7.mono (by omega))
   have hzV7 := hbV7.size
   refine yzt 1 ?_
   refine wp_seq ?_
   refine yq ?_
   refine wp_block ?_
   refine a0x (a' := ⟨((.agg #[.int .i64 (f.size : Int), .int .i64 (f.E : Int), .int .i64 (f.F : Int), .int .i64 f.g.rad, .int .i64 f.g.digs, .int .i64 f.g.lo, .int .i64 f.g.hi, .bool f.g.grad, .bool f.hid, .bool f.inf, .bool f.res, .func (.func (ordF f)) #[] #[]]) :: (.agg #[.bool g, .int .i64 (e : Int), .slice p (dig B32 x).length c]) :: (.pointer (some ⟨w.heap.size, 0, none⟩)) :: (.pointer (some ⟨V1.heap.size, 0, none⟩)) :: (Go.Value.string (ByteArray.mk #[])) :: (.int .i64 ((P + e : Nat) : Int)) :: (.slice p26 (dig B32 NN).length c26) :: (.slice p29 f.size c29) :: us 2 ((.pointer (some ⟨V1.heap.size, 1, none⟩)) :: (.int .i64 (e : Int)) :: (.pointer (some ⟨V1.heap.size, 0, none⟩)) :: (.bool true) :: (.int .i64 (e : Int)) :: (.pointer (some ⟨w.heap.size, 1, none⟩)) :: (.int .i64 (f.E : Int)) :: (.int .i64 (P : Int)) :: (.int .i64 ((P + e : Nat) : Int)) :: (.int .i64 ((P + e : Nat) : Int)) :: (.slice p20 (dig B32 (g.toNat * P + e)).length c20) :: (.pointer (some ⟨w.heap.size, 2, none⟩)) :: (.int .i64 (f.F : Int)) :: (.slice p23 (dig B32 ((g.toNat * P + e) * 2 ^ f.F)).length c23) :: (.pointer (some ⟨V1.heap.size, 2, none⟩)) :: (.slice p (dig B32 x).length c) :: (.slice p26 (dig B32 NN).length c26) :: (.pointer (some ⟨w.heap.size, 0, none⟩)) :: (.int .i64 (f.size : Int)) :: (.slice p29 f.size c29) :: (.slice p29 f.size c29) :: (.int .i64 (f.size : Int)) :: (.int .i64 0) :: us 27 [])).toArray, []⟩) (by kernel_rfl) ?_
   refine h0b (fun (gk : Nat) U0 a' w' => ∃ (i : Nat), a' = ⟨((.agg #[.int .i64 (f.size : Int), .int .i64 (f.E : Int), .int .i64 (f.F : Int), .int .i64 f.g.rad, .int .i64 f.g.digs, .int .i64 f.g.lo, .int .i64 f.g.hi, .bool f.g.grad, .bool f.hid, .bool f.inf, .bool f.res, .func (.func (ordF f)) #[] #[]]) :: (.agg #[.bool g, .int .i64 (e : Int), .slice p (dig B32 x).length c]) :: (.pointer (some ⟨w.heap.size, 0, none⟩)) :: (.pointer (some ⟨V1.heap.size, 0, none⟩)) :: (Go.Value.string (ByteArray.mk #[])) :: (.int .i64 ((P + e : Nat) : Int)) :: (.slice p26 (dig B32 NN).length c26) :: (.slice p29 f.size c29) :: uvs U0 8 2 ((.pointer (some ⟨V1.heap.size, 1, none⟩)) :: (.int .i64 (e : Int)) :: (.pointer (some ⟨V1.heap.size, 0, none⟩)) :: (.bool true) :: (.int .i64 (e : Int)) :: (.pointer (some ⟨w.heap.size, 1, none⟩)) :: (.int .i64 (f.E : Int)) :: (.int .i64 (P : Int)) :: (.int .i64 ((P + e : Nat) : Int)) :: (.int .i64 ((P + e : Nat) : Int)) :: (.slice p20 (dig B32 (g.toNat * P + e)).length c20) :: (.pointer (some ⟨w.heap.size, 2, none⟩)) :: (.int .i64 (f.F : Int)) :: (.slice p23 (dig B32 ((g.toNat * P + e) * 2 ^ f.F)).length c23) :: (.pointer (some ⟨V1.heap.size, 2, none⟩)) :: (.slice p (dig B32 x).length c) :: (.slice p26 (dig B32 NN).length c26) :: (.pointer (some ⟨w.heap.size, 0, none⟩)) :: (.int .i64 (f.size : Int)) :: (.slice p29 f.size c29) :: (.slice p29 f.size c29) :: (.int .i64 (f.size : Int)) :: (.int .i64 (i : Int)) :: uvs U0 33 21 (us 6 []))).toArray, []⟩ ∧ (Own w' V6.heap.size .u8 5 p29 c29 (LL bs i)) ∧ Below V6.heap.size V6 w' ∧ (gk + i = f.size)) f.size ?_ (fun Gx hGx => ?_)
   · exact ⟨0, by kernel_rfl, (by rw [HB0.out]; exact b29), hbV7, (by omega)⟩
   rintro gk0 U0 _ V8 ⟨i, rfl, r29, hbV8, hgk⟩
   refine hGx _ _ _ ?_
   clear hGx Gx
   have hzV8 := hbV8.size
   refine ye ?_
   rcases Bool.eq_false_or_eq_true (decide ((i : Int) < (f.size : Int))) with f33 | f33
   · refine yb 0 rfl 33 (decide ((i : Int) < (f.size : Int))) (true) (f33) ?_
     refine yzt 0 ?_
     refine yTs ?_
     refine wp_skip ?_
     refine a0o ?_
     refine wp_seq ?_
     refine wp_block ?_
     refine yq ?_
     refine ye ?_
     have b2_w8 := b2.past (a0d (a0d (a0d (a0d (a0d hbV2 hbV3) hbV4) hbV5) hbV6) hbV8)
     refine yl 2 rfl 37 b2_w8 hT3 0 ?_
     refine ya 0 rfl 38 .i64 ((f.size : Int) - 1) (((f.size - 1 : Nat) : Int)) ((by rw [show ((f.size : Int) - 1) = ((f.size - 1 : Nat) : Int) by omega]; exact IntWalk.i64_in _ (by omega))) ?_
     refine ya 1 rfl 40 .i64 (((f.size - 1 : Nat) : Int) - (i : Int)) (((f.size - 1 - i : Nat) : Int)) ((by rw [show (((f.size - 1 : Nat) : Int) - (i : Int)) = ((f.size - 1 - i : Nat) : Int) by have := of_decide_eq_true f33; omega]; exact IntWalk.i64_in _ (by omega))) ?_
     refine ya 0 rfl 41 .i64 ((8 : Int) * ((f.size - 1 - i : Nat) : Int)) (((8 * (f.size - 1 - i) : Nat) : Int)) ((by rw [show ((8 : Int) * ((f.size - 1 - i : Nat) : Int)) = ((8 * (f.size - 1 - i) : Nat) : Int) by omega]; exact IntWalk.i64_in _ (by omega))) ?_
     have o26_w8 := o26.past hbV8
     refine yc 0 rfl 42 (sshr p26 _ c26 NN (8 * (f.size - 1 - i)) (NN / 2 ^ (8 * (f.size - 1 - i))) _ V8 o26_w8.rd rfl (by have := o26_w8.le_cap; omega) (by omega) (by omega) rfl rfl) (fun Gx hGx => ?_)
     rintro eV9 V9 ⟨p42, c42, rfl, o42, hbV9⟩
     have hzV9 := hbV9.size
     refine ⟨_, rfl, hGx _ _ ?_⟩
     clear hGx Gx
     refine yzt 1 ?_
     have hi := of_decide_eq_true f33
     have hdi := hdg i (by omega)
     have hq0 := a0e a0a (NN / 2 ^ (8 * (f.size - 1 - i)))
     refine ye ?_
     rcases Bool.eq_false_or_eq_true (decide ((((dig B32 (NN / 2 ^ (8 * (f.size - 1 - i)))).length : Nat) : Int) > 0)) with f45 | f45
     · refine yb 2 rfl 45 (decide ((((dig B32 (NN / 2 ^ (8 * (f.size - 1 - i)))).length : Nat) : Int) > 0)) (true) (f45) ?_
       refine yzt 0 ?_
       refine yT ?_
       refine b0c ?_
       refine yv 3 rfl 49 (.pointer (some (at_ p42 0))) ?_ (o0p (p := p42) (n := (dig B32 (NN / 2 ^ (8 * (f.size - 1 - i)))).length) (c := c42) (m := 0) b0y o42.rd.solid (by kernel_rfl) (by kernel_rfl) (by have := of_decide_eq_true f45; omega))
       refine yv 0 rfl 50 (.int .u32 ((dg (dig B32 (NN / 2 ^ (8 * (f.size - 1 - i)))) 0 : Nat) : Int)) ?_ (k0q o42.rd g1a (m := 0) (by kernel_rfl) (by have := of_decide_eq_true f45; omega) rfl)
       refine ya 0 rfl 51 .u8 ((dg (dig B32 (NN / 2 ^ (8 * (f.size - 1 - i)))) 0 : Nat) : Int) (((dg bs i : Nat) : Int)) ((by rw [z0u, z0v, hdi]; congr 1; exact Nat.mod_mod_of_dvd _ (by decide))) ?_
       replace r29 := (r29.past hbV9)
       refine yv 0 rfl 52 (.pointer (some (at_ p29 i))) ?_ (o0s (p := p29) (n := f.size) (c := c29) (m := i) j0r (by have h := r29.solid; rw [hLl, hbl] at h; exact h) (by kernel_rfl) (by kernel_rfl) (by omega))
       refine i1g j0r V6.heap.size p29 c29 _ r29 i (by rw [hLl, hbl]; omega) (dg bs i) (fun V10 n29 hjV10 => ?_)
       have hbV10 : Below V6.heap.size V6 V10 := (a0d hbV8 hbV9).trans (hjV10.mono (by omega))
       have hzV10 := hbV10.size
       refine yz 0 ?_
       refine c0m ?_
       refine a0o ?_
       refine b0c ?_
       refine ya 0 rfl 53 .i64 ((i : Int) + 1) (((i + 1 : Nat) : Int)) ((by rw [show ((i : Int) + 1) = ((i + 1 : Nat) : Int) by omega]; exact IntWalk.i64_in _ (by omega))) ?_
       refine yz 1 ?_
       refine a0o ?_
       refine ⟨gk0 - 1, (by omega), ?_⟩
       exact ⟨i + 1, by kernel_rfl, (by rw [← hbs i (by omega)]; exact n29), hbV10, (by omega)⟩
     refine yb 2 rfl 45 (decide ((((dig B32 (NN / 2 ^ (8 * (f.size - 1 - i)))).length : Nat) : Int) > 0)) (false) (f45) ?_
     refine yzt 0 ?_
     refine yF ?_
     refine wp_skip ?_
     refine c0m ?_
     refine a0o ?_
     refine b0c ?_
     refine ya 0 rfl 53 .i64 ((i : Int) + 1) (((i + 1 : Nat) : Int)) ((by rw [show ((i : Int) + 1) = ((i + 1 : Nat) : Int) by omega]; exact IntWalk.i64_in _ (by omega))) ?_
     refine yz 1 ?_
     refine a0o ?_
     refine ⟨gk0 - 1, (by omega), ?_⟩
     replace r29 := (r29.past hbV9)
     exact ⟨i + 1, by kernel_rfl, (by rw [← hbz i (by rw [hdi, hq0.1 (by have := of_decide_eq_false f45; omega)])]; exact r29), (a0d hbV8 hbV9), (by omega)⟩
   refine yb 0 rfl 33 (decide ((i : Int) < (f.size : Int))) (false) (f33) ?_
   refine yzt 0 ?_
   refine yFs ?_
   refine wp_exit ?_
   repeat (with_reducible refine d0q ?_)
   refine j0l (id := 0) ?_
   refine a0o ?_
   have hi : i = f.size := by have := of_decide_eq_false f33; omega
   rw [hi, hball] at r29
   refine ye ?_
   have b2_w8 := b2.past (a0d (a0d (a0d (a0d (a0d hbV2 hbV3) hbV4) hbV5) hbV6) hbV8)
   refine yl 1 rfl 55 b2_w8 hT144 11 ?_
   refine yn 1 rfl ?_
   refine se 57 (ordF f) #[.slice p29 f.size c29] (fun Gx hGx => ?_) (hr := l0s (ordF f) (s0r f) (by kernel_rfl) (by kernel_rfl))
   ((with_reducible refine (hord V8 V6.heap.size p29 c29 bs r29.wr hbl (by omega)).mono ?_))
   rintro eV9 V9 ⟨rfl, x57, hjV9⟩
   have hbV9 : Below V6.heap.size V6 V9 := hbV8.trans (hjV9.mono (by omega))
   have hzV9 := hbV9.size
   refine ⟨.tuple #[], rfl, hGx _ _ ?_⟩
   clear hGx Gx
   refine yzt 0 ?_
   refine ye ?_
   refine yv 1 rfl 59 (.string (b0s (ordL f.ord bs))) ?_ (k0r (p := p29) (n := f.size) (c := c29) q0q z0d uStr x57.rd (by rw [d0y, hbl]) (by kernel_rfl))
   refine yzt 1 ?_
   refine wp_ret ?_
   repeat (first | with_reducible refine a0t ?_ | with_reducible refine a0n ?_)
   refine yret (.string (b0s (ordL f.ord bs))) (res1 Tryz.results149 rvt) ?_
   exact ⟨rfl, (a0d (a0d (a0d (a0d (a0d (a0d hbV1 hbV2) hbV3) hbV4) hbV5) hbV6) hbV9)⟩
 refine ylb 1 rfl 13 b3 hT4 0 (g) false (f13) ?_
 refine yzt 0 ?_
 refine yF ?_
 refine wp_skip ?_
 refine a0o ?_
 refine wp_seq ?_
 have b2_w2 := b2.past hbV2
 obtain ⟨V3, hVV3, hbV3, hzV3⟩ := o0j V2
 have b2_w3 := b2.past (a0d hbV2 hbV3)
 replace b3 := (b3.past hbV3)
 refine yd2 hVV3 ⟨b2_w3, b3⟩ ?_
 clear hVV3
 refine yt 7 [0, 2] rfl ⟨b2_w3, b3⟩ ?_
 refine ytl 3 rfl 22 (fun _ h => h.1) hT3 2 ⟨b2_w3, b3⟩ ?_
 refine yt 5 [5] rfl ⟨b2_w3, b3⟩ ?_
 refine ytl 6 rfl 25 (fun _ h => h.2) hT48 2 ⟨b2_w3, b3⟩ ?_
 refine sxr [1] ?_
 refine rd1 (fun Kx hKx => ?_)
 refine yck 20 (sof (e : Int) (g.toNat * P + e) (by rw [f13, Bool.toNat_false, Nat.zero_mul, Nat.zero_add]) (by omega) V3) ?_
 rintro eV4 V4 ⟨p20, c20, rfl, o20, hbV4⟩
 have hzV4 := hbV4.size
 refine ⟨_, rfl, ?_⟩
 have b2_w4 := b2.past (a0d (a0d hbV2 hbV3) hbV4)
 replace b3 := (b3.past hbV4)
 refine hKx.out _ _ ⟨b2_w4, b3⟩ ?_
 clear hKx Kx
 refine sxr [4] ?_
 refine rd1 (fun Kx hKx => ?_)
 refine yck 23 (sshl p20 _ c20 (g.toNat * P + e) f.F ((g.toNat * P + e) * 2 ^ f.F) _ V4 o20.rd rfl (by have := a0p hT (k := 1) (by omega); omega) (by omega) rfl rfl) ?_
 rintro eV5 V5 ⟨p23, c23, rfl, o23, hbV5⟩
 have hzV5 := hbV5.size
 refine ⟨_, rfl, ?_⟩
 have b2_w5 := b2.past (a0d (a0d (a0d hbV2 hbV3) hbV4) hbV5)
 replace b3 := (b3.past hbV5)
 refine hKx.out _ _ ⟨b2_w5, b3⟩ ?_
 clear hKx Kx
 refine sxr [7] ?_
 refine rd1 (fun Kx hKx => ?_)
 replace hp := (hp.past (a0d (a0d (a0d (a0d hbV1 hbV2) hbV3) hbV4) hbV5))
 refine yck 26 (sadd p23 p _ _ c23 c ((g.toNat * P + e) * 2 ^ f.F) x NN V5 o23.rd hp rfl rfl (by omega) (by omega) HPE.out.symm) ?_
 rintro eV6 V6 ⟨p26, c26, rfl, o26, hbV6⟩
 have hzV6 := hbV6.size
 refine ⟨_, rfl, ?_⟩
 have b2_w6 := b2.past (a0d (a0d (a0d (a0d hbV2 hbV3) hbV4) hbV5) hbV6)
 replace b3 := (b3.past hbV6)
 refine hKx.out _ _ ⟨b2_w6, b3⟩ ?_
 clear hKx Kx
 refine yt 0 [8] rfl ⟨b2_w6, b3⟩ ?_
 refine l0i (by kernel_rfl) ?_
 refine a0o ?_
 refine ye ?_
 refine yl 1 rfl 28 b2_w6 hT3 0 ?_
 refine smkn 29 j0r f.size (by omega) (fun p29 c29 V7 b29 hjV7 => ?_)
 have hbV7 : Below V6.heap.size V6 V7 := (Below.refl _ _).trans (hjV7.mono (by omega))
 have hzV7 := hbV7.size
 refine yzt 1 ?_
 refine wp_seq ?_
 refine yq ?_
 refine wp_block ?_
 refine a0x (a' := ⟨((.agg #[.int .i64 (f.size : Int), .int .i64 (f.E : Int), .int .i64 (f.F : Int), .int .i64 f.g.rad, .int .i64 f.g.digs, .int .i64 f.g.lo, .int .i64 f.g.hi, .bool f.g.grad, .bool f.hid, .bool f.inf, .bool f.res, .func (.func (ordF f)) #[] #[]]) :: (.agg #[.bool g, .int .i64 (e : Int), .slice p (dig B32 x).length c]) :: (.pointer (some ⟨w.heap.size, 0, none⟩)) :: (.pointer (some ⟨V1.heap.size, 0, none⟩)) :: (Go.Value.string (ByteArray.mk #[])) :: (.int .i64 (e : Int)) :: (.slice p26 (dig B32 NN).length c26) :: (.slice p29 f.size c29) :: us 2 ((.pointer (some ⟨V1.heap.size, 1, none⟩)) :: (.int .i64 (e : Int)) :: (.pointer (some ⟨V1.heap.size, 0, none⟩)) :: (.bool false) :: us 5 ((.int .i64 (e : Int)) :: (.slice p20 (dig B32 (g.toNat * P + e)).length c20) :: (.pointer (some ⟨w.heap.size, 2, none⟩)) :: (.int .i64 (f.F : Int)) :: (.slice p23 (dig B32 ((g.toNat * P + e) * 2 ^ f.F)).length c23) :: (.pointer (some ⟨V1.heap.size, 2, none⟩)) :: (.slice p (dig B32 x).length c) :: (.slice p26 (dig B32 NN).length c26) :: (.pointer (some ⟨w.heap.size, 0, none⟩)) :: (.int .i64 (f.size : Int)) :: (.slice p29 f.size c29) :: (.slice p29 f.size c29) :: (.int .i64 (f.size : Int)) :: (.int .i64 0) :: us 27 []))).toArray, []⟩) (by kernel_rfl) ?_
 refine h0b (fun (gk : Nat) U0 a' w' => ∃ (i : Nat), a' = ⟨((.agg #[.int .i64 (f.size : Int), .int .i64 (f.E : Int), .int .i64 (f.F : Int), .int .i64 f.g.rad, .int .i64 f.g.digs, .int .i64 f.g.lo, .int .i64 f.g.hi, .bool f.g.grad, .bool f.hid, .bool f.inf, .bool f.res, .func (.func (ordF f)) #[] #[]]) :: (.agg #[.bool g, .int .i64 (e : Int), .slice p (dig B32 x).length c]) :: (.pointer (some ⟨w.heap.size, 0, none⟩)) :: (.pointer (some ⟨V1.heap.size, 0, none⟩)) :: (Go.Value.string (ByteArray.mk #[])) :: (.int .i64 (e : Int)) :: (.slice p26 (dig B32 NN).length c26) :: (.slice p29 f.size c29) :: uvs U0 8 2 ((.pointer (some ⟨V1.heap.size, 1, none⟩)) :: (.int .i64 (e : Int)) :: (.pointer (some ⟨V1.heap.size, 0, none⟩)) :: (.bool false) :: us 5 ((.int .i64 (e : Int)) :: (.slice p20 (dig B32 (g.toNat * P + e)).length c20) :: (.pointer (some ⟨w.heap.size, 2, none⟩)) :: (.int .i64 (f.F : Int)) :: (.slice p23 (dig B32 ((g.toNat * P + e) * 2 ^ f.F)).length c23) :: (.pointer (some ⟨V1.heap.size, 2, none⟩)) :: (.slice p (dig B32 x).length c) :: (.slice p26 (dig B32 NN).length c26) :: (.pointer (some ⟨w.heap.size, 0, none⟩)) :: (.int .i64 (f.size : Int)) :: (.slice p29 f.size c29) :: (.slice p29 f.size c29) :: (.int .i64 (f.size : Int)) :: (.int .i64 (i : Int)) :: uvs U0 33 21 (us 6 [])))).toArray, []⟩ ∧ (Own w' V6.heap.size .u8 5 p29 c29 (LL bs i)) ∧ Below V6.heap.size V6 w' ∧ (gk + i = f.size)) f.size ?_ (fun Gx hGx => ?_)
 · exact ⟨0, by kernel_rfl, (by rw [HB0.out]; exact b29), hbV7, (by omega)⟩
 rintro gk0 U0 _ V8 ⟨i, rfl, r29, hbV8, hgk⟩
 refine hGx _ _ _ ?_
 clear hGx Gx
 have hzV8 := hbV8.size
 refine ye ?_
 rcases Bool.eq_false_or_eq_true (decide ((i : Int) < (f.size : Int))) with f33 | f33
 · refine yb 0 rfl 33 (decide ((i : Int) < (f.size : Int))) (true) (f33) ?_
   refine yzt 0 ?_
   refine yTs ?_
   refine wp_skip ?_
   refine a0o ?_
   refine wp_seq ?_
   refine wp_block ?_
   refine yq ?_
   refine ye ?_
   have b2_w8 := b2.past (a0d (a0d (a0d (a0d (a0d hbV2 hbV3) hbV4) hbV5) hbV6) hbV8)
   refine yl 2 rfl 37 b2_w8 hT3 0 ?_
   refine ya 0 rfl 38 .i64 ((f.size : Int) - 1) (((f.size - 1 : Nat) : Int)) ((by rw [show ((f.size : Int) - 1) = ((f.size - 1 : Nat) : Int) by omega]; exact IntWalk.i64_in _ (by omega))) ?_
   refine ya 1 rfl 40 .i64 (((f.size - 1 : Nat) : Int) - (i : Int)) (((f.size - 1 - i : Nat) : Int)) ((by rw [show (((f.size - 1 : Nat) : Int) - (i : Int)) = ((f.size - 1 - i : Nat) : Int) by have := of_decide_eq_true f33; omega]; exact IntWalk.i64_in _ (by omega))) ?_
   refine ya 0 rfl 41 .i64 ((8 : Int) * ((f.size - 1 - i : Nat) : Int)) (((8 * (f.size - 1 - i) : Nat) : Int)) ((by rw [show ((8 : Int) * ((f.size - 1 - i : Nat) : Int)) = ((8 * (f.size - 1 - i) : Nat) : Int) by omega]; exact IntWalk.i64_in _ (by omega))) ?_
   have o26_w8 := o26.past hbV8
   refine yc 0 rfl 42 (sshr p26 _ c26 NN (8 * (f.size - 1 - i)) (NN / 2 ^ (8 * (f.size - 1 - i))) _ V8 o26_w8.rd rfl (by have := o26_w8.le_cap; omega) (by omega) (by omega) rfl rfl) (fun Gx hGx => ?_)
   rintro eV9 V9 ⟨p42, c42, rfl, o42, hbV9⟩
   have hzV9 := hbV9.size
   refine ⟨_, rfl, hGx _ _ ?_⟩
   clear hGx Gx
   refine yzt 1 ?_
   have hi := of_decide_eq_true f33
   have hdi := hdg i (by omega)
   have hq0 := a0e a0a (NN / 2 ^ (8 * (f.size - 1 - i)))
   refine ye ?_
   rcases Bool.eq_false_or_eq_true (decide ((((dig B32 (NN / 2 ^ (8 * (f.size - 1 - i)))).length : Nat) : Int) > 0)) with f45 | f45
   · refine yb 2 rfl 45 (decide ((((dig B32 (NN / 2 ^ (8 * (f.size - 1 - i)))).length : Nat) : Int) > 0)) (true) (f45) ?_
     refine yzt 0 ?_
     refine yT ?_
     refine b0c ?_
     refine yv 3 rfl 49 (.pointer (some (at_ p42 0))) ?_ (o0p (p := p42) (n := (dig B32 (NN / 2 ^ (8 * (f.size - 1 - i)))).length) (c := c42) (m := 0) b0y o42.rd.solid (by kernel_rfl) (by kernel_rfl) (by have := of_decide_eq_true f45; omega))
     refine yv 0 rfl 50 (.int .u32 ((dg (dig B32 (NN / 2 ^ (8 * (f.size - 1 - i)))) 0 : Nat) : Int)) ?_ (k0q o42.rd g1a (m := 0) (by kernel_rfl) (by have := of_decide_eq_true f45; omega) rfl)
     refine ya 0 rfl 51 .u8 ((dg (dig B32 (NN / 2 ^ (8 * (f.size - 1 - i)))) 0 : Nat) : Int) (((dg bs i : Nat) : Int)) ((by rw [z0u, z0v, hdi]; congr 1; exact Nat.mod_mod_of_dvd _ (by decide))) ?_
     replace r29 := (r29.past hbV9)
     refine yv 0 rfl 52 (.pointer (some (at_ p29 i))) ?_ (o0s (p := p29) (n := f.size) (c := c29) (m := i) j0r (by have h := r29.solid; rw [hLl, hbl] at h; exact h) (by kernel_rfl) (by kernel_rfl) (by omega))
     refine i1g j0r V6.heap.size p29 c29 _ r29 i (by rw [hLl, hbl]; omega) (dg bs i) (fun V10 n29 hjV10 => ?_)
     have hbV10 : Below V6.heap.size V6 V10 := (a0d hbV8 hbV9).trans (hjV10.mono (by omega))
     have hzV10 := hbV10.size
     refine yz 0 ?_
     refine c0m ?_
     refine a0o ?_
     refine b0c ?_
     refine ya 0 rfl 53 .i64 ((i : Int) + 1) (((i + 1 : Nat) : Int)) ((by rw [show ((i : Int) + 1) = ((i + 1 : Nat) : Int) by omega]; exact IntWalk.i64_in _ (by omega))) ?_
     refine yz 1 ?_
     refine a0o ?_
     refine ⟨gk0 - 1, (by omega), ?_⟩
     exact ⟨i + 1, by kernel_rfl, (by rw [← hbs i (by omega)]; exact n29), hbV10, (by omega)⟩
   refine yb 2 rfl 45 (decide ((((dig B32 (NN / 2 ^ (8 * (f.size - 1 - i)))).length : Nat) : Int) > 0)) (false) (f45) ?_
   refine yzt 0 ?_
   refine yF ?_
   refine wp_skip ?_
   refine c0m ?_
   refine a0o ?_
   refine b0c ?_
   refine ya 0 rfl 53 .i64 ((i : Int) + 1) (((i + 1 : Nat) : Int)) ((by rw [show ((i : Int) + 1) = ((i + 1 : Nat) : Int) by omega]; exact IntWalk.i64_in _ (by omega))) ?_
   refine yz 1 ?_
   refine a0o ?_
   refine ⟨gk0 - 1, (by omega), ?_⟩
   replace r29 := (r29.past hbV9)
   exact ⟨i + 1, by kernel_rfl, (by rw [← hbz i (by rw [hdi, hq0.1 (by have := of_decide_eq_false f45; omega)])]; exact r29), (a0d hbV8 hbV9), (by omega)⟩
 refine yb 0 rfl 33 (decide ((i : Int) < (f.size : Int))) (false) (f33) ?_
 refine yzt 0 ?_
 refine yFs ?_
 refine wp_exit ?_
 repeat (with_reducible refine d0q ?_)
 refine j0l (id := 0) ?_
 refine a0o ?_
 have hi : i = f.size := by have := of_decide_eq_false f33; omega
 rw [hi, hball] at r29
 refine ye ?_
 have b2_w8 := b2.past (a0d (a0d (a0d (a0d (a0d hbV2 hbV3) hbV4) hbV5) hbV6) hbV8)
 refine yl 1 rfl 55 b2_w8 hT144 11 ?_
 refine yn 1 rfl ?_
 refine se 57 (ordF f) #[.slice p29 f.size c29] (fun Gx hGx => ?_) (hr := l0s (ordF f) (s0r f) (by kernel_rfl) (by kernel_rfl))
 ((with_reducible refine (hord V8 V6.heap.size p29 c29 bs r29.wr hbl (by omega)).mono ?_))
 rintro eV9 V9 ⟨rfl, x57, hjV9⟩
 have hbV9 : Below V6.heap.size V6 V9 := hbV8.trans (hjV9.mono (by omega))
 have hzV9 := hbV9.size
 refine ⟨.tuple #[], rfl, hGx _ _ ?_⟩
 clear hGx Gx
 refine yzt 0 ?_
 refine ye ?_
 refine yv 1 rfl 59 (.string (b0s (ordL f.ord bs))) ?_ (k0r (p := p29) (n := f.size) (c := c29) q0q z0d uStr x57.rd (by rw [d0y, hbl]) (by kernel_rfl))
 refine yzt 1 ?_
 refine wp_ret ?_
 repeat (first | with_reducible refine a0t ?_ | with_reducible refine a0n ?_)
 refine yret (.string (b0s (ordL f.ord bs))) (res1 Tryz.results149 rvt) ?_
 exact ⟨rfl, (a0d (a0d (a0d (a0d (a0d (a0d hbV1 hbV2) hbV3) hbV4) hbV5) hbV6) hbV9)⟩
end Go.Proofs.YtlcdfnaaenibgaaGreatDoor
namespace Go.Slip

theorem u0h (g : Bool) (x : Int) : bare ⟨g, 0, x⟩ = ⟨false, 0, 0⟩ := by unfold bare; simp

def rv (neg : Bool) (num den : Nat) (e : Int) (g : Gd) (way : Int) : Dv := bare ⟨(a0w neg num den e g way).neg, (a0w neg num den e g way).d, wid g * (a0w neg num den e g way).pow⟩

theorem z0w (neg : Bool) (den : Nat) (e : Int) (g : Gd) (way : Int) : rv neg 0 den e g way = ⟨false, 0, 0⟩ := by
 unfold rv a0w
 rw [if_pos rfl]
 exact u0h _ _

def okP (p : Pl) (g : Gd) : Bool := !p.over && (!p.under || g.grad)

theorem k1j {neg : Bool} {num den : Nat} {e : Int} {g : Gd} {way : Int} (hd : 0 < den) (G : j0h g) (hok : okP (a0w neg num den e g way) g = true) : b0t (rv neg num den e g way) g = true := by
 by_cases h0 : num = 0
 · subst h0; rw [z0w]; rfl
 · have hK := o0d (num := num) (by omega) hd e (w := wid g) (D := g.digs.toNat) (b0n g).1 (by have := G.d1; omega)
   have hD : 1 ≤ g.digs.toNat := by have := G.d1; omega
   unfold rv a0w at *
   rw [if_neg h0] at *
   generalize theK num den e (wid g) g.digs.toNat = K at *
   have hq := q_lt hd hD (x0v hd hK (x0u g K))
   have hover : powP neg num den e (wid g) g.digs.toNat way (powK g K) ≤ g.hi := by
    unfold okP at hok
    have : (fitK neg num den e g way K).over = decide (g.hi < powP neg num den e (wid g) g.digs.toNat way (powK g K)) := rfl
    rw [this] at hok
    simp only [Bool.and_eq_true, Bool.not_eq_true', decide_eq_false_iff_not] at hok
    omega
   have hunder : g.lo ≤ K ∨ g.grad = true := by
    unfold okP at hok
    have : (fitK neg num den e g way K).under = decide (K < g.lo) := rfl
    rw [this] at hok
    simp only [Bool.and_eq_true, Bool.or_eq_true, Bool.not_eq_true', decide_eq_false_iff_not] at hok
    rcases hok.2 with h | h
    · left; omega
    · right; exact h
   show b0t (bare ⟨neg, digP neg num den e (wid g) g.digs.toNat way (powK g K), wid g * (if digP neg num den e (wid g) g.digs.toNat way (powK g K) = 0 then 0 else powP neg num den e (wid g) g.digs.toNat way (powK g K))⟩) g = true
   by_cases hd0 : digP neg num den e (wid g) g.digs.toNat way (powK g K) = 0
   · rw [hd0, u0h]; rfl
   · rw [if_neg hd0, ← l0e]
     have hDD : g.digs = (g.digs.toNat : Int) := by have := G.d1; omega
     have habs : (sg neg (digP neg num den e (wid g) g.digs.toNat way (powK g K))).natAbs = digP neg num den e (wid g) g.digs.toNat way (powK g K) := by unfold sg; cases neg <;> simp
     have hlow : g.lo ≤ powK g K ∧ (2 ^ (wid g * (g.digs.toNat - 1)) ≤ qP num den (e - wid g * powK g K) ∨ (g.grad = true ∧ powK g K = g.lo)) := by
      by_cases hu : K < g.lo
      · have hg : g.grad = true := by rcases hunder with h | h; omega; exact h
        have : powK g K = g.lo := by unfold powK; rw [if_pos ⟨hu, hg⟩]
        exact ⟨by omega, .inr ⟨hg, this⟩⟩
      · have : powK g K = K := by unfold powK; rw [if_neg (fun h => hu h.1)]
        rw [this]
        exact ⟨by omega, .inl hK.yes⟩
     have hww : wid g * (g.digs.toNat - 1) < wid g * g.digs.toNat := Nat.mul_lt_mul_of_pos_left (by omega) (b0n g).1
     refine h0v G hDD ?_ ?_ ?_ hover
     · rw [habs]
       unfold digP
       by_cases hl : i0k neg num den e (wid g) g.digs.toNat way (powK g K)
       · rw [if_pos hl]; exact Nat.pow_lt_pow_right (by omega) hww
       · rw [if_neg hl]
         unfold i0k at hl
         by_cases hu : upP neg num den e (wid g) way (powK g K) = true
         · exact (b0i _ _).1 (by have : ¬ wid g * g.digs.toNat < blen (dUp neg num den e (wid g) way (powK g K)) := fun h => hl ⟨hu, h⟩; omega)
         · have : upP neg num den e (wid g) way (powK g K) = false := by simpa using hu
           unfold dUp; rw [this]; simpa using hq
     · rw [habs]
       unfold digP powP
       by_cases hl : i0k neg num den e (wid g) g.digs.toNat way (powK g K)
       · rw [if_pos hl, if_pos hl]; exact .inr (.inl (Nat.le_refl _))
       · rw [if_neg hl, if_neg hl]
         rcases hlow.2 with h | h
         · exact .inr (.inl (by unfold dUp; omega))
         · exact .inr (.inr h)
     · unfold powP; split <;> omega


theorem z0x {neg : Bool} {num den : Nat} {e : Int} {g : Gd} {way : Int} (hd : 0 < den) (G : j0h g) : (dig B32 (a0w neg num den e g way).d).length ≤ 16 := by
 unfold a0w
 by_cases h0 : num = 0
 · rw [if_pos h0]; simp [a0c]
 · rw [if_neg h0]
   have hK := o0d (num := num) (by omega) hd e (w := wid g) (D := g.digs.toNat) (b0n g).1 (by have := G.d1; omega)
   have h1 := b1a (neg := neg) (way := way) hd G hK
   have h2 : wid g * g.digs.toNat ≤ 480 := by
    have := Nat.mul_le_mul (b0n g).2 (show g.digs.toNat ≤ 120 by have := G.d2; omega)
    omega
   exact Nat.le_trans (a0l a0a (Nat.le_of_lt h1)) (g0g h2)

theorem j1a {neg : Bool} {num den : Nat} {e : Int} {g : Gd} {way : Int} (_ : 0 < den) (G : j0h g) (hok : okP (a0w neg num den e g way) g = true) : -17000 ≤ (a0w neg num den e g way).pow ∧ (a0w neg num den e g way).pow ≤ 17000 := by
 unfold a0w at *
 by_cases h0 : num = 0
 · rw [if_pos h0]; simp
 · rw [if_neg h0] at *
   generalize theK num den e (wid g) g.digs.toNat = K at *
   have hover : powP neg num den e (wid g) g.digs.toNat way (powK g K) ≤ g.hi := by
    unfold okP at hok
    have : (fitK neg num den e g way K).over = decide (g.hi < powP neg num den e (wid g) g.digs.toNat way (powK g K)) := rfl
    rw [this] at hok
    simp only [Bool.and_eq_true, Bool.not_eq_true', decide_eq_false_iff_not] at hok
    omega
   have hlow : g.lo ≤ powK g K := by
    unfold okP at hok
    have : (fitK neg num den e g way K).under = decide (K < g.lo) := rfl
    rw [this] at hok
    simp only [Bool.and_eq_true, Bool.or_eq_true, Bool.not_eq_true', decide_eq_false_iff_not] at hok
    unfold powK
    rcases hok.2 with h | h
    · rw [if_neg (fun k => h k.1)]; omega
    · by_cases hu : K < g.lo
      · rw [if_pos ⟨hu, h⟩]; omega
      · rw [if_neg (fun k => hu k.1)]; omega
   have h1 := G.l1
   have h2 := G.h2
   have hp : (fitK neg num den e g way K).pow = if digP neg num den e (wid g) g.digs.toNat way (powK g K) = 0 then 0 else powP neg num den e (wid g) g.digs.toNat way (powK g K) := rfl
   rw [hp]
   have h3 : powK g K ≤ powP neg num den e (wid g) g.digs.toNat way (powK g K) := by unfold powP; split <;> omega
   split
   · omega
   · omega

end Go.Slip
namespace Go.Proofs.YtlcdfnaaenibgaaGreatDoor
open Go.RowKit Go.Slip

theorem _root_.Go.Slip.Bx.b3 {w : World} {b : Nat} {v0 v1 v2 : Value} (h : Bx w b #[v0, v1, v2]) : Box3 w b v0 v1 v2 :=
 ⟨h.e3.1, h.e3.2.1, h.e3.2.2, h.f 0, h.f 1, h.f 2, h.lt⟩

structure Pin where
 g : Bool
 p : Option Addr
 c : Nat
 xs : List Nat
 k : Int
 x : Bool
 o : Bool
 u : Bool

structure InP (w : World) (a : Pin) : Prop where
 rd : Rd w .u32 a.p a.xs
 cap : a.xs.length ≤ a.c
 len : a.xs.length ≤ 9223372036854775807
 lt : ∀ x ∈ a.xs, x < B32

theorem InP.past {w w' : World} {a : Pin} (h : InP w a) (hb : Below w.heap.size w w') : InP w' a := ⟨h.rd.past hb, h.cap, h.len, h.lt⟩


theorem v0u (g : Bool) (p : Option Addr) (n c : Nat) (e : Int) (w : World) :
 Calls Tryz.prog 167 #[.agg #[.bool g, .slice p n c, .int .i64 e]] w fun en w' => ∃ q d, en = .returned (.agg #[.bool g, .slice p n c, .slice q (dig B32 1).length d, .int .i64 e]) ∧ Own w' w.heap.size .u32 160 q d (dig B32 1) ∧ Below w.heap.size w w' := by
 go_enter Tryz.func167, Tryz.ntmps167
 go_wp2_with fail
 refine f1c (fun W1 hb1 hz1 A R => ?_)
 have hs1 := hb1
 have hzd : W1.drew.heap.size = W1.heap.size := rfl
 have HZD := Lib.hid hzd
 clear hzd
 go_region_held3 (fun w' => w'.cell? ⟨w.heap.size, 0, none⟩ = some (.bool g) ∧ w'.cell? ⟨w.heap.size, 1, none⟩ = some (.slice p n c) ∧ w'.cell? ⟨w.heap.size, 2, none⟩ = some (.int .i64 e))
  (first
    | with_reducible exact A.e3
    | with_reducible exact A.drew.e3
    | with_reducible exact (A.drew.past hbx).e3
    | with_reducible exact ((A.drew.past hbx).only (h1t _ _ _ _ _ _) (by omega)).e3)
  (first
    | (go_at_call 125; ((with_reducible refine (s0s _).mono ?_)); rintro ex wx ⟨px, cx, rfl, hox, hbx⟩; (have RR := R.drew.past hbx); obtain ⟨R_0, R_1, R_2, R_3⟩ := RR.e4; (have R_f0 := RR.f 0); (have R_f1 := RR.f 1); (have R_f2 := RR.f 2); (have R_f3 := RR.f 3)))
 all_goals (go_wp2_with fail)
 refine bodyPost_ret (v := .agg #[.bool g, .slice p n c, .slice px (dig B32 1).length cx, .int .i64 e]) (by simp [results, Tryz.results167, go_sem, R_0, R_1, R_2, R_3]) rfl ?_
 have hzd := HZD.out
 have hO := h1t wx (w.heap.size + 1) (.bool g) (.slice p n c) (.slice px (dig B32 1).length cx) (.int .i64 e)
 have hz := hs1.size
 exact ⟨px, cx, rfl, (hox.only hO (fun h => by have := (hox.blk_lt h).1; omega)).mono (by omega), (hs1.drew.trans (hbx.mono hz)).trans (hO.below (by omega))⟩

theorem n0j (s : Bool) (p : Option Addr) (c : Nat) (e : Int) (m : Nat) (g : Gd) (w : World) (hp : Rd w .u32 p (dig B32 m)) (hl : (dig B32 m).length ≤ 100000) (he : -1000000 ≤ e ∧ e ≤ 1000000) (G : j0h g) :
 Calls Tryz.prog 145 #[.agg #[.bool s, .slice p (dig B32 m).length c, .int .i64 e], .agg #[.int .i64 g.rad, .int .i64 g.digs, .int .i64 g.lo, .int .i64 g.hi, .bool g.grad]] w fun en w' => en = .returned (.bool (i0l ⟨s, m, e⟩ g)) ∧ Below w.heap.size w w' := by
 by_cases h0 : m = 0
 · have hk : i0l ⟨s, m, e⟩ g = true := by unfold i0l; rw [if_pos h0]
   have HS := Lib.hid (show b0f ⟨s, m, e⟩ = 0 by unfold b0f; rw [if_pos h0])
   rw [hk]
   clear hk h0
   go_enter Tryz.func145, Tryz.ntmps145
   go_wp2_with fail
   refine n0c (fun W1 hb1 hz1 A B => ?_)
   have hs1 := hb1
   ((with_reducible refine (b0v s p _ c e m _ rfl).mono ?_))
   rintro e2 w2 ⟨rfl, hb2⟩
   rw [HS.out]
   go_wp2
   go_ret
   exact ⟨rfl, hs1.trans (hb2.mono hs1.size)⟩
 · have hsg := i0j (g := s) (e := e) (show 0 < m by omega)
   have wp := b0n g
   have hd1 := G.d1
   have hK := s0d (show 0 < m by omega) e (w := wid g) (D := g.digs.toNat) wp.1 (by omega)
   have hl1 : (dig B32 1).length ≤ 1 := by rw [a0h a0a]; unfold B32; omega
   have HF := fun W q d (h1 : Rd W .u32 p (dig B32 m)) (h2 : Rd W .u32 q (dig B32 1)) => Lib.hid (s0u s p q c d m 1 e g 3 _ W h1 h2 hl (by omega) (by omega) (by omega) he G (by omega) (by omega) hK)
   have hkk : i0l ⟨s, m, e⟩ g = ((fitK s m 1 e g 3 ((e + blen m - 1) / wid g - g.digs.toNat + 1)).exact && !(fitK s m 1 e g 3 ((e + blen m - 1) / wid g - g.digs.toNat + 1)).over && (!(fitK s m 1 e g 3 ((e + blen m - 1) / wid g - g.digs.toNat + 1)).under || g.grad)) := by
    unfold i0l
    rw [if_neg h0]
    rfl
   rw [hkk]
   generalize fitK s m 1 e g 3 ((e + blen m - 1) / wid g - g.digs.toNat + 1) = pf at *
   clear hkk h0 hK hd1 wp
   generalize hds : b0f ⟨s, m, e⟩ = sg0 at *
   have HSG := Lib.hid hds
   clear hds
   go_enter Tryz.func145, Tryz.ntmps145
   go_wp2_with fail
   refine n0c (fun W1 hb1 hz1 A B => ?_)
   replace hp := hp.past hb1
   have hs1 := hb1
   ((with_reducible refine (b0v s p _ c e m _ rfl).mono ?_))
   rintro e2 w2 ⟨rfl, hb2⟩
   rw [HSG.out]
   replace A := A.past hb2
   replace B := B.past hb2
   replace hp := hp.past hb2
   have hs2 := hs1.trans (hb2.mono hs1.size)
   go_wp2_with fail
   have hAl := A.lt
   have hBl := B.lt
   have hzd : w2.drew.heap.size = w2.heap.size := rfl
   have HZD := Lib.hid hzd
   clear hzd
   go_cut [5] (fun s5 wx => ∃ (kx : Nat) (px : Option Addr) (cx : Nat), s5 = .pointer (some ⟨kx, 0, none⟩) ∧ Bx wx kx #[.bool pf.neg, .slice px (dig B32 pf.d).length cx, .int .i64 pf.pow, .bool pf.exact, .bool pf.over, .bool pf.under] ∧ w2.heap.size ≤ kx ∧ Below w2.heap.size w2 wx)
   case first =>
    go_region_held3 (fun w' => (w'.cell? ⟨w.heap.size, 0, none⟩ = some (.bool s) ∧ w'.cell? ⟨w.heap.size, 1, none⟩ = some (.slice p (dig B32 m).length c) ∧ w'.cell? ⟨w.heap.size, 2, none⟩ = some (.int .i64 e)) ∧
        (w'.cell? ⟨w.heap.size + 1, 0, none⟩ = some (.int .i64 g.rad) ∧ w'.cell? ⟨w.heap.size + 1, 1, none⟩ = some (.int .i64 g.digs) ∧ w'.cell? ⟨w.heap.size + 1, 2, none⟩ = some (.int .i64 g.lo) ∧ w'.cell? ⟨w.heap.size + 1, 3, none⟩ = some (.int .i64 g.hi) ∧ w'.cell? ⟨w.heap.size + 1, 4, none⟩ = some (.bool g.grad)))
     (first
     | with_reducible exact ⟨A.e3, B.e5⟩
     | with_reducible exact ⟨(A.drew).e3, (B.drew).e5⟩
     | with_reducible exact ⟨((A.laid _).drew).e3, ((B.laid _).drew).e5⟩
     | with_reducible exact ⟨(((A.laid _).drew).past hbx).e3, (((B.laid _).drew).past hbx).e5⟩
     | with_reducible exact ⟨((A.drew).past hbx).e3, ((B.drew).past hbx).e5⟩
     | with_reducible exact ⟨(((A.drew).past hbx).laid _).e3, (((B.drew).past hbx).laid _).e5⟩
     | with_reducible exact ⟨((((A.laid _).drew).past hbx).past hby).e3, ((((B.laid _).drew).past hbx).past hby).e5⟩
     | with_reducible exact ⟨((((A.drew).past hbx).laid _).past hby).e3, ((((B.drew).past hbx).laid _).past hby).e5⟩
     | with_reducible exact ⟨(((A.drew).past hbx).past hby).e3, (((B.drew).past hbx).past hby).e5⟩
     | with_reducible exact ⟨((((A.drew).past hbx).past hby).laid _).e3, ((((B.drew).past hbx).past hby).laid _).e5⟩
     | with_reducible exact ⟨(((((A.laid _).drew).past hbx).past hby).only (v0e _ _ _ _ _ _ _ _) (by omega)).e3, (((((B.laid _).drew).past hbx).past hby).only (v0e _ _ _ _ _ _ _ _) (by omega)).e5⟩
     | with_reducible exact ⟨(((((A.drew).past hbx).laid _).past hby).only (v0e _ _ _ _ _ _ _ _) (by omega)).e3, (((((B.drew).past hbx).laid _).past hby).only (v0e _ _ _ _ _ _ _ _) (by omega)).e5⟩)
     (first
       | (go_at_call 167; ((with_reducible refine (v0u s p _ c e _).mono ?_)); rintro ex wx ⟨qx, dx, rfl, hox, hbx⟩; (have hzx : w2.heap.size ≤ wx.heap.size := by have := hbx.size; simp at this; omega))
       | (go_at_call 106; (first
           | with_reducible refine (HF _ qx dx (hp.drew.past hbx) hox.rd).out.mono ?_
           | with_reducible refine (HF _ qx dx ((hp.laid _).drew.past hbx) hox.rd).out.mono ?_
           | with_reducible refine (HF _ qx dx ((hp.drew.past hbx).laid _) (hox.rd.laid _)).out.mono ?_); rintro ey wy ⟨py, cy, rfl, hoy, hby⟩; (first
           | (have XX := (k0b w2 #[.bool false, .slice none 0 0, .int .i64 0, .bool false, .bool false, .bool false] 99).drew.past hbx |>.past hby; obtain ⟨X_0, X_1, X_2, X_3, X_4, X_5⟩ := XX.e6; have X_f0 := XX.f 0; have X_f1 := XX.f 1; have X_f2 := XX.f 2; have X_f3 := XX.f 3; have X_f4 := XX.f 4; have X_f5 := XX.f 5)
           | (have XX := (k0b wx #[.bool false, .slice none 0 0, .int .i64 0, .bool false, .bool false, .bool false] 99).past hby; obtain ⟨X_0, X_1, X_2, X_3, X_4, X_5⟩ := XX.e6; have X_f0 := XX.f 0; have X_f1 := XX.f 1; have X_f2 := XX.f 2; have X_f3 := XX.f 3; have X_f4 := XX.f 4; have X_f5 := XX.f 5)
           | skip)))
    all_goals (go_wp2_with fail)
    all_goals go_meet
    · have hzy := hby.size
      exact ⟨wy.heap.size, py, cy, rfl, k0b wy _ _, by omega, (((Below.refl w2.heap.size w2).drew.trans hbx).trans (hby.mono hzx)).trans ((c0c wy _).mono (by omega))⟩
    · have hzy := hby.size
      rw [World.size_alloc] at hzy
      have hO := v0e wy wx.heap.size (.bool pf.neg) (.slice py (dig B32 pf.d).length cy) (.int .i64 pf.pow) (.bool pf.exact) (.bool pf.over) (.bool pf.under)
      exact ⟨wx.heap.size, py, cy, rfl, XX.put6 _ _ _ _ _ _, hzx, ((((Below.refl w2.heap.size w2).drew.trans hbx).trans ((c0c wx _).mono hzx)).trans (hby.mono (by rw [World.size_alloc]; omega))).trans (hO.below hzx)⟩
    · have hzy := hby.size
      have hO := v0e wy w2.heap.size (.bool pf.neg) (.slice py (dig B32 pf.d).length cy) (.int .i64 pf.pow) (.bool pf.exact) (.bool pf.over) (.bool pf.under)
      exact ⟨w2.heap.size, py, cy, rfl, XX.put6 _ _ _ _ _ _, Nat.le_refl _, ((((c0c w2 _).drew).trans (hbx.mono (by simp))).trans (hby.mono hzx)).trans (hO.below (Nat.le_refl _))⟩
   case rest =>
    obtain ⟨kx, px, cx, rfl, X, hkx, hbc⟩ := hcut
    have hs4 := hs2.trans (hbc.mono hs2.size)
    replace B := B.past hbc
    clear hbc
    obtain ⟨png, pd, ppw, pex, pov, pun⟩ := pf
    obtain ⟨X_0, X_1, X_2, X_3, X_4, X_5⟩ := X.e6
    obtain ⟨B_0, B_1, B_2, B_3, B_4⟩ := B.e5
    simp only at X_3 X_4 X_5 ⊢
    clear HF
    generalize hgr : g.grad = gr at *
    have HGR := Lib.hid hgr
    clear hgr
    cases pex <;> cases pov <;> cases pun <;> cases gr <;> (go_wp2; go_ret; exact ⟨by first | rfl | (rw [HGR.out]; rfl), hs4⟩)

end Go.Proofs.YtlcdfnaaenibgaaGreatDoor
namespace Go.Slip

theorem c1s {s : Bool} {m : Nat} {e : Int} {g : Gd} (G : j0h g) (hin : b0t ⟨s, m, e⟩ g = true) (h0 : m ≠ 0) :
 (fitK s m 1 e g 3 ((e + blen m - 1) / wid g - g.digs.toNat + 1)).d = qP m 1 (e - wid g * c0o ⟨s, m, e⟩ g) ∧
 ((fitK s m 1 e g 3 ((e + blen m - 1) / wid g - g.digs.toNat + 1)).d ≠ 0 → (fitK s m 1 e g 3 ((e + blen m - 1) / wid g - g.digs.toNat + 1)).pow = c0o ⟨s, m, e⟩ g) ∧
 (fitK s m 1 e g 3 ((e + blen m - 1) / wid g - g.digs.toNat + 1)).d ≠ 0 := by
 have hb := x0r G hin h0
 simp only at hb
 have hp : powK g ((e + blen m - 1) / wid g - g.digs.toNat + 1) = c0o ⟨s, m, e⟩ g := by
  have eK : c0o ⟨s, m, e⟩ g = max g.lo ((e + blen m - 1) / wid g - g.digs.toNat + 1) := rfl
  rw [eK]
  unfold powK
  by_cases h1 : (e + blen m - 1) / wid g - g.digs.toNat + 1 < g.lo
  · by_cases h2 : g.grad = true
    · rw [if_pos ⟨h1, h2⟩]; omega
    · exfalso
      unfold b0t at hin
      rw [if_neg h0] at hin
      have eU : upK ⟨s, m, e⟩ (wid g) g.digs.toNat = (e + blen m - 1) / wid g - g.digs.toNat + 1 := rfl
      rw [eU] at hin
      rw [if_pos h1, if_neg h2] at hin
      simp at hin
  · rw [if_neg (fun h => h1 h.1)]; omega
 unfold fitK
 simp only
 rw [hp, x0p, q0b]
 have hq : qP m 1 (e - wid g * c0o ⟨s, m, e⟩ g) ≠ 0 := by
  unfold qP numP denP
  rw [show (-(e - wid g * c0o ⟨s, m, e⟩ g)).toNat = 0 by omega, Nat.pow_zero, Nat.mul_one, Nat.div_one]
  have := Nat.mul_pos (show 0 < m by omega) (Nat.pow_pos (n := (e - wid g * c0o ⟨s, m, e⟩ g).toNat) (show 0 < 2 by omega))
  omega
 exact ⟨rfl, fun h => by rw [if_neg h], hq⟩

end Go.Slip
namespace Go.Proofs.YtlcdfnaaenibgaaGreatDoor
open Go.RowKit Go.Slip


theorem h0g (f : Fm) (w : World) : Calls Tryz.prog 168 #[.agg #[.int .i64 (f.size : Int), .int .i64 (f.E : Int), .int .i64 (f.F : Int), .int .i64 f.g.rad, .int .i64 f.g.digs, .int .i64 f.g.lo, .int .i64 f.g.hi, .bool f.g.grad, .bool f.hid, .bool f.inf, .bool f.res, .func (.func (ordF f)) #[] #[]]] w fun en w' => en = .returned (.int .i64 ((wid f.g : Nat) : Int)) ∧ Below w.heap.size w w' := by
 by_cases h : f.g.rad = 16
 · have hw : wid f.g = 4 := by unfold wid; rw [if_pos h]
   rw [hw]
   have I := Inv.start w [] True.intro
   refine a0b [.v (.agg #[.int .i64 (f.size : Int), .int .i64 (f.E : Int), .int .i64 (f.F : Int), .int .i64 f.g.rad, .int .i64 f.g.digs, .int .i64 f.g.lo, .int .i64 f.g.hi, .bool f.g.grad, .bool f.hid, .bool f.inf, .bool f.res, .func (.func (ordF f)) #[] #[]])] I Tryz.func168 ?_
   refine zb I 6 (f.g.rad == 16) (true) (beq_iff_eq.2 h) fun Al W I => ?_
   exact zret I fun Al W I => ⟨rfl, I.below⟩
 · have hw : wid f.g = 1 := by unfold wid; rw [if_neg h]
   rw [hw]
   have I := Inv.start w [] True.intro
   refine a0b [.v (.agg #[.int .i64 (f.size : Int), .int .i64 (f.E : Int), .int .i64 (f.F : Int), .int .i64 f.g.rad, .int .i64 f.g.digs, .int .i64 f.g.lo, .int .i64 f.g.hi, .bool f.g.grad, .bool f.hid, .bool f.inf, .bool f.res, .func (.func (ordF f)) #[] #[]])] I Tryz.func168 ?_
   refine zb I 6 (f.g.rad == 16) (false) (beq_eq_false_iff_ne.2 h) fun Al W I => ?_
   exact zret I fun Al W I => ⟨rfl, I.below⟩

theorem g1j (f : Fm) (g : Bool) (m : Nat) (pw k : Int) (p : Option Addr) (c : Nat) (w : World) (hp : Rd w .u32 p (dig B32 m)) (hc : (dig B32 m).length ≤ c) (hl : (dig B32 m).length ≤ 1000000) (hpw : -100000 ≤ pw ∧ pw ≤ 100000) (hT : TabW w) :
 Calls Tryz.prog 146 #[.agg #[.int .i64 (f.size : Int), .int .i64 (f.E : Int), .int .i64 (f.F : Int), .int .i64 f.g.rad, .int .i64 f.g.digs, .int .i64 f.g.lo, .int .i64 f.g.hi, .bool f.g.grad, .bool f.hid, .bool f.inf, .bool f.res, .func (.func (ordF f)) #[] #[]], .agg #[.int .i64 k, .bool g, .slice p (dig B32 m).length c, .int .i64 pw]] w (f0p w w.heap.size (bare ⟨g, m, wid f.g * pw⟩)) := by
 have wp := b0n f.g
 have hmu := q0u (wd := wid f.g) (k := pw) (B := 100000) wp.2 hpw
 rw [← q0g]
 generalize hmw : (wid f.g : Int) * pw = mw at *
 have HMW := Lib.hid hmw
 have HW := fun W h1 h2 => Lib.hid (q0p p _ c mw m W h1 rfl hc (by omega) (by omega) h2)
 clear hmw
 generalize hd : bare ⟨false, m, mw⟩ = d at *
 clear hd
 cases g with
 | false =>
  rw [if_neg (by simp)]
  have I := Inv.start w [rdF .u32 p (dig B32 m), tabF] ⟨hp, hT, True.intro⟩
  refine a0b [.v (.agg #[.int .i64 (f.size : Int), .int .i64 (f.E : Int), .int .i64 (f.F : Int), .int .i64 f.g.rad, .int .i64 f.g.digs, .int .i64 f.g.lo, .int .i64 f.g.hi, .bool f.g.grad, .bool f.hid, .bool f.inf, .bool f.res, .func (.func (ordF f)) #[] #[]]), .v (.agg #[.int .i64 k, .bool false, .slice p (dig B32 m).length c, .int .i64 pw])] I Tryz.func146 ?_
  refine zcut I none (fun fr bx gs => ∃ (U1 : Nat → Value) (p13 : Option Addr) (c13 : Nat), fr = (.v (.agg #[.int .i64 (f.size : Int), .int .i64 (f.E : Int), .int .i64 (f.F : Int), .int .i64 f.g.rad, .int .i64 f.g.digs, .int .i64 f.g.lo, .int .i64 f.g.hi, .bool f.g.grad, .bool f.hid, .bool f.inf, .bool f.res, .func (.func (ordF f)) #[] #[]]) :: .v (.agg #[.int .i64 k, .bool false, .slice p (dig B32 m).length c, .int .i64 pw]) :: .p 0 0 :: .p 1 0 :: .p 2 0 :: .p 3 0 :: sw U1 6 9 (.v undef :: sw U1 16 3 []) : List SV) ∧ bx = [⟨146, [.v (.int .i64 (f.size : Int)), .v (.int .i64 (f.E : Int)), .v (.int .i64 (f.F : Int)), .v (.int .i64 f.g.rad), .v (.int .i64 f.g.digs), .v (.int .i64 f.g.lo), .v (.int .i64 f.g.hi), .v (.bool f.g.grad), .v (.bool f.hid), .v (.bool f.inf), .v (.bool f.res), .v (.func (.func (ordF f)) #[] #[])], false⟩, ⟨70, [.v (.int .i64 k), .v (.bool false), .v (.slice p (dig B32 m).length c), .v (.int .i64 pw)], false⟩, ⟨119, [.v (.bool false), .v (.slice none 0 0), .v (.int .i64 0)], false⟩, ⟨119, [.v (.bool d.neg), .v (.slice p13 (dig B32 d.m).length c13), .v (.int .i64 d.e)], false⟩] ∧ gs = [ownF w.heap.size .u32 160 p13 c13 (dig B32 d.m), rdF .u32 p (dig B32 m), tabF]) ?_ ?_
  · intro J hJ Al W I
    refine zd [] I fun Al W I => ?_
    refine zk [0, 1, 2, 4, 5] I fun I => ?_
    refine zo2 3 8 I (fun I => ?_) (fun I => ?_)
    · refine zg I (fun Al W I => h0g f W) fun Al V Iv hzV hB Kz kz => ?_
      rintro _ W ⟨rfl, hb⟩
      refine ⟨_, rfl, kz _ _ hb fun I => ?_⟩
      clear kz Kz
      refine zki 6 I .i64 (((wid f.g : Nat) : Int) * pw) (mw) ((by rw [HMW.out]; exact IntWalk.i64_in _ (by omega))) fun I => ?_
      refine zo2 7 8 I (fun I => ?_) (fun I => ?_)
      · refine zg I (fun Al W I => (HW W I.fa.1 I.fa.2.1).out) fun Al V Iv hzV hB Kz kz => ?_
        rintro _ W ⟨p13, c13, rfl, o13, hb⟩
        refine ⟨_, rfl, kz _ _ hb fun I => ?_⟩
        clear kz Kz
        have I := I.own o13
        refine zo 8 I (fun I => ?_)
        refine zn I fun Al W I => ?_
        refine zo 9 I (fun I => ?_)
        refine zn I fun Al W I => ?_
        exact b0j I J fun Al W U I => hJ _ _ _ _ _ ⟨U, p13, c13, rfl, rfl, rfl⟩ (I.pick [0, 1, 2])
      refine zn I fun Al W I => ?_
      refine zo 7 I (fun I => ?_)
      refine zg I (fun Al W I => (HW W I.fa.1 I.fa.2.1).out) fun Al V Iv hzV hB Kz kz => ?_
      rintro _ W ⟨p13, c13, rfl, o13, hb⟩
      refine ⟨_, rfl, kz _ _ hb fun I => ?_⟩
      clear kz Kz
      have I := I.own o13
      refine zo 9 I (fun I => ?_)
      refine zn I fun Al W I => ?_
      exact b0j I J fun Al W U I => hJ _ _ _ _ _ ⟨U, p13, c13, rfl, rfl, rfl⟩ (I.pick [0, 1, 2])
    refine zn I fun Al W I => ?_
    refine zo 3 I (fun I => ?_)
    refine zg I (fun Al W I => h0g f W) fun Al V Iv hzV hB Kz kz => ?_
    rintro _ W ⟨rfl, hb⟩
    refine ⟨_, rfl, kz _ _ hb fun I => ?_⟩
    clear kz Kz
    refine zki 6 I .i64 (((wid f.g : Nat) : Int) * pw) (mw) ((by rw [HMW.out]; exact IntWalk.i64_in _ (by omega))) fun I => ?_
    refine zo 7 I (fun I => ?_)
    refine zg I (fun Al W I => (HW W I.fa.1 I.fa.2.1).out) fun Al V Iv hzV hB Kz kz => ?_
    rintro _ W ⟨p13, c13, rfl, o13, hb⟩
    refine ⟨_, rfl, kz _ _ hb fun I => ?_⟩
    clear kz Kz
    have I := I.own o13
    refine zo 9 I (fun I => ?_)
    refine zn I fun Al W I => ?_
    exact b0j I J fun Al W U I => hJ _ _ _ _ _ ⟨U, p13, c13, rfl, rfl, rfl⟩ (I.pick [0, 1, 2])
  rintro _ _ _ ⟨U1, p13, c13, rfl, rfl, rfl⟩ Al W I
  exact zret I fun Al W I => ⟨p13, c13, rfl, I.fa.1.mono (by omega), I.below⟩
 | true =>
  rw [if_pos rfl]
  have I := Inv.start w [rdF .u32 p (dig B32 m), tabF] ⟨hp, hT, True.intro⟩
  refine a0b [.v (.agg #[.int .i64 (f.size : Int), .int .i64 (f.E : Int), .int .i64 (f.F : Int), .int .i64 f.g.rad, .int .i64 f.g.digs, .int .i64 f.g.lo, .int .i64 f.g.hi, .bool f.g.grad, .bool f.hid, .bool f.inf, .bool f.res, .func (.func (ordF f)) #[] #[]]), .v (.agg #[.int .i64 k, .bool true, .slice p (dig B32 m).length c, .int .i64 pw])] I Tryz.func146 ?_
  refine zcut I none (fun fr bx gs => ∃ (U1 : Nat → Value) (p13 : Option Addr) (c13 : Nat), fr = (.v (.agg #[.int .i64 (f.size : Int), .int .i64 (f.E : Int), .int .i64 (f.F : Int), .int .i64 f.g.rad, .int .i64 f.g.digs, .int .i64 f.g.lo, .int .i64 f.g.hi, .bool f.g.grad, .bool f.hid, .bool f.inf, .bool f.res, .func (.func (ordF f)) #[] #[]]) :: .v (.agg #[.int .i64 k, .bool true, .slice p (dig B32 m).length c, .int .i64 pw]) :: .p 0 0 :: .p 1 0 :: .p 2 0 :: .p 3 0 :: sw U1 6 9 (.v undef :: sw U1 16 3 []) : List SV) ∧ bx = [⟨146, [.v (.int .i64 (f.size : Int)), .v (.int .i64 (f.E : Int)), .v (.int .i64 (f.F : Int)), .v (.int .i64 f.g.rad), .v (.int .i64 f.g.digs), .v (.int .i64 f.g.lo), .v (.int .i64 f.g.hi), .v (.bool f.g.grad), .v (.bool f.hid), .v (.bool f.inf), .v (.bool f.res), .v (.func (.func (ordF f)) #[] #[])], false⟩, ⟨70, [.v (.int .i64 k), .v (.bool true), .v (.slice p (dig B32 m).length c), .v (.int .i64 pw)], false⟩, ⟨119, [.v (.bool false), .v (.slice none 0 0), .v (.int .i64 0)], false⟩, ⟨119, [.v (.bool d.neg), .v (.slice p13 (dig B32 d.m).length c13), .v (.int .i64 d.e)], false⟩] ∧ gs = [ownF w.heap.size .u32 160 p13 c13 (dig B32 d.m), rdF .u32 p (dig B32 m), tabF]) ?_ ?_
  · intro J hJ Al W I
    refine zd [] I fun Al W I => ?_
    refine zk [0, 1, 2, 4, 5] I fun I => ?_
    refine zo2 3 8 I (fun I => ?_) (fun I => ?_)
    · refine zg I (fun Al W I => h0g f W) fun Al V Iv hzV hB Kz kz => ?_
      rintro _ W ⟨rfl, hb⟩
      refine ⟨_, rfl, kz _ _ hb fun I => ?_⟩
      clear kz Kz
      refine zki 6 I .i64 (((wid f.g : Nat) : Int) * pw) (mw) ((by rw [HMW.out]; exact IntWalk.i64_in _ (by omega))) fun I => ?_
      refine zo2 7 8 I (fun I => ?_) (fun I => ?_)
      · refine zg I (fun Al W I => (HW W I.fa.1 I.fa.2.1).out) fun Al V Iv hzV hB Kz kz => ?_
        rintro _ W ⟨p13, c13, rfl, o13, hb⟩
        refine ⟨_, rfl, kz _ _ hb fun I => ?_⟩
        clear kz Kz
        have I := I.own o13
        refine zo 8 I (fun I => ?_)
        refine zn I fun Al W I => ?_
        refine zo 9 I (fun I => ?_)
        refine zn I fun Al W I => ?_
        exact b0j I J fun Al W U I => hJ _ _ _ _ _ ⟨U, p13, c13, rfl, rfl, rfl⟩ (I.pick [0, 1, 2])
      refine zn I fun Al W I => ?_
      refine zo 7 I (fun I => ?_)
      refine zg I (fun Al W I => (HW W I.fa.1 I.fa.2.1).out) fun Al V Iv hzV hB Kz kz => ?_
      rintro _ W ⟨p13, c13, rfl, o13, hb⟩
      refine ⟨_, rfl, kz _ _ hb fun I => ?_⟩
      clear kz Kz
      have I := I.own o13
      refine zo 9 I (fun I => ?_)
      refine zn I fun Al W I => ?_
      exact b0j I J fun Al W U I => hJ _ _ _ _ _ ⟨U, p13, c13, rfl, rfl, rfl⟩ (I.pick [0, 1, 2])
    refine zn I fun Al W I => ?_
    refine zo 3 I (fun I => ?_)
    refine zg I (fun Al W I => h0g f W) fun Al V Iv hzV hB Kz kz => ?_
    rintro _ W ⟨rfl, hb⟩
    refine ⟨_, rfl, kz _ _ hb fun I => ?_⟩
    clear kz Kz
    refine zki 6 I .i64 (((wid f.g : Nat) : Int) * pw) (mw) ((by rw [HMW.out]; exact IntWalk.i64_in _ (by omega))) fun I => ?_
    refine zo 7 I (fun I => ?_)
    refine zg I (fun Al W I => (HW W I.fa.1 I.fa.2.1).out) fun Al V Iv hzV hB Kz kz => ?_
    rintro _ W ⟨p13, c13, rfl, o13, hb⟩
    refine ⟨_, rfl, kz _ _ hb fun I => ?_⟩
    clear kz Kz
    have I := I.own o13
    refine zo 9 I (fun I => ?_)
    refine zn I fun Al W I => ?_
    exact b0j I J fun Al W U I => hJ _ _ _ _ _ ⟨U, p13, c13, rfl, rfl, rfl⟩ (I.pick [0, 1, 2])
  rintro _ _ _ ⟨U1, p13, c13, rfl, rfl, rfl⟩ Al W I
  refine zg I (fun Al W I => y0z d.neg p13 _ c13 d.e d.m W rfl) fun Al V Iv hzV hB Kz kz => ?_
  rintro _ W ⟨rfl, hb⟩
  refine ⟨_, rfl, kz _ _ hb fun I => ?_⟩
  clear kz Kz
  exact zret I fun Al W I => ⟨p13, c13, rfl, I.fa.1.mono (by omega), I.below⟩

theorem p0d (f : Fm) (g : Bool) (E : Int) (e x : Nat) (hE : E = e) (p : Option Addr) (c : Nat) (w : World) (G : c0t f) (hp : Rd w .u32 p (dig B32 x)) (he : e < 2 ^ f.E) (hx : x < 2 ^ f.F) :
 Calls Tryz.prog 149 #[.agg #[.int .i64 (f.size : Int), .int .i64 (f.E : Int), .int .i64 (f.F : Int), .int .i64 f.g.rad, .int .i64 f.g.digs, .int .i64 f.g.lo, .int .i64 f.g.hi, .bool f.g.grad, .bool f.hid, .bool f.inf, .bool f.res, .func (.func (ordF f)) #[] #[]], .agg #[.bool g, .int .i64 E, .slice p (dig B32 x).length c]] w fun en w' => en = .returned (.string (b0s (f.str g e x))) ∧ Below w.heap.size w w' := by
 subst hE
 exact u0g f g e x p c w G hp he hx
theorem g1k {F : Nat} (h : F ≤ 64) : (dig B32 (2 ^ F)).length ≤ 3 := a0p (n := F + 1) (Nat.pow_lt_pow_right (by omega) (by omega)) (by omega)

theorem v0v (f : Fm) (d : Dv) (p : Option Addr) (c : Nat) (w : World) (G : c0t f) (hp : Rd w .u32 p (dig B32 d.m)) (hl : (dig B32 d.m).length ≤ 1200) (he : -60000 ≤ d.e ∧ d.e ≤ 60000) (hin : b0t d f.g = true) (h0 : d.m ≠ 0) :
 Calls Tryz.prog 147 #[.agg #[.int .i64 (f.size : Int), .int .i64 (f.E : Int), .int .i64 (f.F : Int), .int .i64 f.g.rad, .int .i64 f.g.digs, .int .i64 f.g.lo, .int .i64 f.g.hi, .bool f.g.grad, .bool f.hid, .bool f.inf, .bool f.res, .func (.func (ordF f)) #[] #[]], .agg #[.bool d.neg, .slice p (dig B32 d.m).length c, .int .i64 d.e]] w fun en w' => en = .returned (.string (b0s (f.strP (f.numP d)))) ∧ Below w.heap.size w w' := by
 have hg := c0g G.g
 have N := f1a G hin h0
 have hlt := f1b G N
 obtain ⟨s, m, e⟩ := d
 simp only at h0 hl he hp
 have hd1 := hg.d1
 have hd2 := hg.d2
 have hl1 : (dig B32 1).length ≤ 1 := by rw [a0h a0a]; unfold B32; omega
 obtain ⟨f1, f2, f3⟩ := c1s hg hin h0
 have f4 := f2 f3
 have hq : qP m 1 (e - wid f.g * c0o ⟨s, m, e⟩ f.g) = f.fr ⟨s, m, e⟩ := by
  have := N.e0
  simp only at this
  unfold qP numP denP Fm.fr
  rw [show (-(e - wid f.g * c0o ⟨s, m, e⟩ f.g)).toNat = 0 by omega, Nat.pow_zero, Nat.mul_one, Nat.div_one]
 rw [hq] at f1
 have hK := s0d (show 0 < m by omega) e (w := wid f.g) (D := f.g.digs.toNat) (b0n f.g).1 (by omega)
 have HF := fun W q d (h1 : Rd W .u32 p (dig B32 m)) (h2 : Rd W .u32 q (dig B32 1)) => Lib.hid (s0u s p q c d m 1 e f.g 3 _ W h1 h2 (by omega) (by omega) (by omega) (by omega) (by omega) hg (by omega) (by omega) hK)
 have hlow := N.low
 have hbl := N.bl
 have hk1 := N.k1
 have hk2 := N.k2
 have hfl : (dig B32 (f.fr ⟨s, m, e⟩)).length ≤ 16 := a0p N.lt (k := 16) (by have := Nat.mul_le_mul (b0n f.g).2 (show f.g.digs.toNat ≤ 120 by omega); omega)
 have hnp : f.numP ⟨s, m, e⟩ = if f.fam = 2 then ⟨s, (c0o ⟨s, m, e⟩ f.g - f.g.lo).toNat, f.fr ⟨s, m, e⟩⟩
  else if (blen (f.fr ⟨s, m, e⟩) : Int) = f.g.digs then ⟨s, (c0o ⟨s, m, e⟩ f.g - f.g.lo).toNat + 1, if f.ext then f.fr ⟨s, m, e⟩ else f.fr ⟨s, m, e⟩ - 2 ^ f.F⟩
  else ⟨s, (c0o ⟨s, m, e⟩ f.g - f.g.lo).toNat, f.fr ⟨s, m, e⟩⟩ := rfl
 rw [hnp] at hlt ⊢
 clear hnp N
 generalize f.fr ⟨s, m, e⟩ = X at *
 generalize c0o ⟨s, m, e⟩ f.g = K at *
 generalize fitK s m 1 e f.g 3 ((e + blen m - 1) / wid f.g - f.g.digs.toNat + 1) = pf at *
 obtain ⟨pn, pd, pp, pex, pov, pun⟩ := pf
 simp only at f1 f4
 subst f1 f4
 clear hK f2 f3 hq
 have z5 := G.lo
 have z6 := G.hi
 have hr := G.rad
 have hw := G.w
 have HJ := fun (W : World) (g : Bool) (e x : Nat) (p : Option Addr) (c : Nat) h h1 h2 => Lib.hid (u0g f g e x p c W G h h1 h2)
 unfold Fm.strP
 by_cases hf : f.fam = 2
 · rw [if_pos hf] at hr hw hlt ⊢
   simp only at hlt ⊢
   have hei : ((pp - f.g.lo).toNat : Int) = pp - f.g.lo := by omega
   generalize (pp - f.g.lo).toNat = e1 at *
   have I := Inv.start w [rdF .u32 p (dig B32 m)] ⟨hp, True.intro⟩
   refine a0b [.v (.agg #[.int .i64 (f.size : Int), .int .i64 (f.E : Int), .int .i64 (f.F : Int), .int .i64 f.g.rad, .int .i64 f.g.digs, .int .i64 f.g.lo, .int .i64 f.g.hi, .bool f.g.grad, .bool f.hid, .bool f.inf, .bool f.res, .func (.func (ordF f)) #[] #[]]), .v (.agg #[.bool s, .slice p (dig B32 m).length c, .int .i64 e])] I Tryz.func147 ?_
   refine zcut I none (fun fr bx gs => ∃ (U1 : Nat → Value) (p21 : Option Addr) (c21 : Nat), fr = (.v (.agg #[.int .i64 (f.size : Int), .int .i64 (f.E : Int), .int .i64 (f.F : Int), .int .i64 f.g.rad, .int .i64 f.g.digs, .int .i64 f.g.lo, .int .i64 f.g.hi, .bool f.g.grad, .bool f.hid, .bool f.inf, .bool f.res, .func (.func (ordF f)) #[] #[]]) :: .v (.agg #[.bool s, .slice p (dig B32 m).length c, .int .i64 e]) :: .p 0 0 :: .p 1 0 :: .v (Go.Value.string (ByteArray.mk #[])) :: .p 2 0 :: su 2 (sw U1 8 25 (.v undef :: sw U1 34 7 (.v undef :: .v (U1 42) :: .v undef :: sw U1 44 13 []))) : List SV) ∧ bx = [⟨146, [.v (.int .i64 (f.size : Int)), .v (.int .i64 (f.E : Int)), .v (.int .i64 (f.F : Int)), .v (.int .i64 f.g.rad), .v (.int .i64 f.g.digs), .v (.int .i64 f.g.lo), .v (.int .i64 f.g.hi), .v (.bool f.g.grad), .v (.bool f.hid), .v (.bool f.inf), .v (.bool f.res), .v (.func (.func (ordF f)) #[] #[])], false⟩, ⟨119, [.v (.bool s), .v (.slice p (dig B32 m).length c), .v (.int .i64 e)], false⟩, ⟨99, [.v (.bool pn), .v (.slice p21 (dig B32 pd).length c21), .v (.int .i64 pp), .v (.bool pex), .v (.bool pov), .v (.bool pun)], false⟩] ∧ gs = [ownF w.heap.size .u32 160 p21 c21 (dig B32 pd), rdF .u32 p (dig B32 m)]) ?_ ?_
   · intro J hJ Al W I
     refine zd [] I fun Al W I => ?_
     refine zk [0, 1, 2, 3, 4, 5, 7, 8, 9, 11, 12] I fun I => ?_
     refine zo2 6 14 I (fun I => ?_) (fun I => ?_)
     · refine zg I (fun Al W I => have hzW := I.bel.size; sof 1 1 rfl (by omega) W) fun Al V Iv hzV hB Kz kz => ?_
       rintro _ W ⟨p14, c14, rfl, o14, hb⟩
       refine ⟨_, rfl, kz _ _ hb fun I => ?_⟩
       clear kz Kz
       have I := I.own o14
       refine zk [10] I fun I => ?_
       refine zo2 13 14 I (fun I => ?_) (fun I => ?_)
       · refine zg I (fun Al W I => (HF W p14 c14 I.fa.2.1 I.fa.1.rd).out) fun Al V Iv hzV hB Kz kz => ?_
         rintro _ W ⟨p21, c21, rfl, o21, hb⟩
         refine ⟨_, rfl, kz _ _ hb fun I => ?_⟩
         clear kz Kz
         have I := I.own o21
         refine zo 14 I (fun I => ?_)
         refine zn I fun Al W I => ?_
         refine zo 15 I (fun I => ?_)
         refine zn I fun Al W I => ?_
         exact b0j I J fun Al W U I => hJ _ _ _ _ _ ⟨U, p21, c21, rfl, rfl, rfl⟩ (I.pick [0, 2])
       refine zn I fun Al W I => ?_
       refine zo 13 I (fun I => ?_)
       refine zg I (fun Al W I => (HF W p14 c14 I.fa.2.1 I.fa.1.rd).out) fun Al V Iv hzV hB Kz kz => ?_
       rintro _ W ⟨p21, c21, rfl, o21, hb⟩
       refine ⟨_, rfl, kz _ _ hb fun I => ?_⟩
       clear kz Kz
       have I := I.own o21
       refine zo 15 I (fun I => ?_)
       refine zn I fun Al W I => ?_
       exact b0j I J fun Al W U I => hJ _ _ _ _ _ ⟨U, p21, c21, rfl, rfl, rfl⟩ (I.pick [0, 2])
     refine zn I fun Al W I => ?_
     refine zo 6 I (fun I => ?_)
     refine zg I (fun Al W I => have hzW := I.bel.size; sof 1 1 rfl (by omega) W) fun Al V Iv hzV hB Kz kz => ?_
     rintro _ W ⟨p14, c14, rfl, o14, hb⟩
     refine ⟨_, rfl, kz _ _ hb fun I => ?_⟩
     clear kz Kz
     have I := I.own o14
     refine zk [10] I fun I => ?_
     refine zo 13 I (fun I => ?_)
     refine zg I (fun Al W I => (HF W p14 c14 I.fa.2.1 I.fa.1.rd).out) fun Al V Iv hzV hB Kz kz => ?_
     rintro _ W ⟨p21, c21, rfl, o21, hb⟩
     refine ⟨_, rfl, kz _ _ hb fun I => ?_⟩
     clear kz Kz
     have I := I.own o21
     refine zo 15 I (fun I => ?_)
     refine zn I fun Al W I => ?_
     exact b0j I J fun Al W U I => hJ _ _ _ _ _ ⟨U, p21, c21, rfl, rfl, rfl⟩ (I.pick [0, 2])
   rintro _ _ _ ⟨U1, p21, c21, rfl, rfl, rfl⟩ Al W I
   refine zi I 27 .i64 (pp - f.g.lo) ((e1 : Int)) ((by rw [hei]; exact IntWalk.i64_in _ (by omega))) fun Al W I => ?_
   refine zb I 33 (f.g.rad == 2) (false) (by rw [hr]; rfl) fun Al W I => ?_
   refine zg I (fun Al W I => (HJ W s e1 pd p21 c21 I.fa.1.rd hlt.1 hlt.2).out) fun Al V Iv hzV hB Kz kz => ?_
   rintro _ W ⟨rfl, hb⟩
   refine ⟨_, rfl, kz _ _ hb fun I => ?_⟩
   clear kz Kz
   exact zret I fun Al W I => ⟨rfl, I.below⟩
 · rw [if_neg hf] at hr hw hlt ⊢
   rw [hw] at hbl
   by_cases hb : (blen pd : Int) = f.g.digs
   · rw [if_pos hb] at hlt ⊢
     simp only at hlt ⊢
     have hei : (((pp - f.g.lo).toNat + 1 : Nat) : Int) = pp - f.g.lo + 1 := by omega
     generalize (pp - f.g.lo).toNat + 1 = e1 at *
     by_cases hx : f.ext = true
     · rw [if_pos hx] at hlt ⊢
       have hh : f.hid = false := by unfold Fm.hid; rw [hx]; simp
       have I := Inv.start w [rdF .u32 p (dig B32 m)] ⟨hp, True.intro⟩
       refine a0b [.v (.agg #[.int .i64 (f.size : Int), .int .i64 (f.E : Int), .int .i64 (f.F : Int), .int .i64 f.g.rad, .int .i64 f.g.digs, .int .i64 f.g.lo, .int .i64 f.g.hi, .bool f.g.grad, .bool f.hid, .bool f.inf, .bool f.res, .func (.func (ordF f)) #[] #[]]), .v (.agg #[.bool s, .slice p (dig B32 m).length c, .int .i64 e])] I Tryz.func147 ?_
       refine zcut I none (fun fr bx gs => ∃ (U1 : Nat → Value) (p21 : Option Addr) (c21 : Nat), fr = (.v (.agg #[.int .i64 (f.size : Int), .int .i64 (f.E : Int), .int .i64 (f.F : Int), .int .i64 f.g.rad, .int .i64 f.g.digs, .int .i64 f.g.lo, .int .i64 f.g.hi, .bool f.g.grad, .bool f.hid, .bool f.inf, .bool f.res, .func (.func (ordF f)) #[] #[]]) :: .v (.agg #[.bool s, .slice p (dig B32 m).length c, .int .i64 e]) :: .p 0 0 :: .p 1 0 :: .v (Go.Value.string (ByteArray.mk #[])) :: .p 2 0 :: su 2 (sw U1 8 25 (.v undef :: sw U1 34 7 (.v undef :: .v (U1 42) :: .v undef :: sw U1 44 13 []))) : List SV) ∧ bx = [⟨146, [.v (.int .i64 (f.size : Int)), .v (.int .i64 (f.E : Int)), .v (.int .i64 (f.F : Int)), .v (.int .i64 f.g.rad), .v (.int .i64 f.g.digs), .v (.int .i64 f.g.lo), .v (.int .i64 f.g.hi), .v (.bool f.g.grad), .v (.bool f.hid), .v (.bool f.inf), .v (.bool f.res), .v (.func (.func (ordF f)) #[] #[])], false⟩, ⟨119, [.v (.bool s), .v (.slice p (dig B32 m).length c), .v (.int .i64 e)], false⟩, ⟨99, [.v (.bool pn), .v (.slice p21 (dig B32 pd).length c21), .v (.int .i64 pp), .v (.bool pex), .v (.bool pov), .v (.bool pun)], false⟩] ∧ gs = [ownF w.heap.size .u32 160 p21 c21 (dig B32 pd), rdF .u32 p (dig B32 m)]) ?_ ?_
       · intro J hJ Al W I
         refine zd [] I fun Al W I => ?_
         refine zk [0, 1, 2, 3, 4, 5, 7, 8, 9, 11, 12] I fun I => ?_
         refine zo2 6 14 I (fun I => ?_) (fun I => ?_)
         · refine zg I (fun Al W I => have hzW := I.bel.size; sof 1 1 rfl (by omega) W) fun Al V Iv hzV hB Kz kz => ?_
           rintro _ W ⟨p14, c14, rfl, o14, hb⟩
           refine ⟨_, rfl, kz _ _ hb fun I => ?_⟩
           clear kz Kz
           have I := I.own o14
           refine zk [10] I fun I => ?_
           refine zo2 13 14 I (fun I => ?_) (fun I => ?_)
           · refine zg I (fun Al W I => (HF W p14 c14 I.fa.2.1 I.fa.1.rd).out) fun Al V Iv hzV hB Kz kz => ?_
             rintro _ W ⟨p21, c21, rfl, o21, hb⟩
             refine ⟨_, rfl, kz _ _ hb fun I => ?_⟩
             clear kz Kz
             have I := I.own o21
             refine zo 14 I (fun I => ?_)
             refine zn I fun Al W I => ?_
             refine zo 15 I (fun I => ?_)
             refine zn I fun Al W I => ?_
             exact b0j I J fun Al W U I => hJ _ _ _ _ _ ⟨U, p21, c21, rfl, rfl, rfl⟩ (I.pick [0, 2])
           refine zn I fun Al W I => ?_
           refine zo 13 I (fun I => ?_)
           refine zg I (fun Al W I => (HF W p14 c14 I.fa.2.1 I.fa.1.rd).out) fun Al V Iv hzV hB Kz kz => ?_
           rintro _ W ⟨p21, c21, rfl, o21, hb⟩
           refine ⟨_, rfl, kz _ _ hb fun I => ?_⟩
           clear kz Kz
           have I := I.own o21
           refine zo 15 I (fun I => ?_)
           refine zn I fun Al W I => ?_
           exact b0j I J fun Al W U I => hJ _ _ _ _ _ ⟨U, p21, c21, rfl, rfl, rfl⟩ (I.pick [0, 2])
         refine zn I fun Al W I => ?_
         refine zo 6 I (fun I => ?_)
         refine zg I (fun Al W I => have hzW := I.bel.size; sof 1 1 rfl (by omega) W) fun Al V Iv hzV hB Kz kz => ?_
         rintro _ W ⟨p14, c14, rfl, o14, hb⟩
         refine ⟨_, rfl, kz _ _ hb fun I => ?_⟩
         clear kz Kz
         have I := I.own o14
         refine zk [10] I fun I => ?_
         refine zo 13 I (fun I => ?_)
         refine zg I (fun Al W I => (HF W p14 c14 I.fa.2.1 I.fa.1.rd).out) fun Al V Iv hzV hB Kz kz => ?_
         rintro _ W ⟨p21, c21, rfl, o21, hb⟩
         refine ⟨_, rfl, kz _ _ hb fun I => ?_⟩
         clear kz Kz
         have I := I.own o21
         refine zo 15 I (fun I => ?_)
         refine zn I fun Al W I => ?_
         exact b0j I J fun Al W U I => hJ _ _ _ _ _ ⟨U, p21, c21, rfl, rfl, rfl⟩ (I.pick [0, 2])
       rintro _ _ _ ⟨U1, p21, c21, rfl, rfl, rfl⟩ Al W I
       refine zi I 27 .i64 (pp - f.g.lo) (pp - f.g.lo) (IntWalk.i64_in _ (by omega)) fun Al W I => ?_
       refine zb I 33 (f.g.rad == 2) (true) (by rw [hr]; rfl) fun Al W I => ?_
       refine zi I 35 .i64 ((pp - f.g.lo) + 1) ((e1 : Int)) ((by rw [hei]; exact IntWalk.i64_in _ (by omega))) fun Al W I => ?_
       refine zd [] I fun Al W I => ?_
       refine zk [0, 2, 3, 4] I fun I => ?_
       refine zo 1 I (fun I => ?_)
       refine zg I (fun Al W I => have hzW := I.bel.size; stay (f0f p21 _ c21 pd W I.fa.1.rd rfl (by omega))) fun Al V Iv hzV hB Kz kz => ?_
       rintro _ W ⟨rfl, hb⟩
       refine ⟨_, rfl, kz _ _ hb fun I => ?_⟩
       clear kz Kz
       refine zkb 5 I (decide (((blen pd : Nat) : Int) < f.g.digs)) (false) (decide_eq_false (by omega)) fun I => ?_
       refine zb I 43 (f.hid) (false) (hh) fun Al W I => ?_
       refine zg I (fun Al W I => (HJ W s e1 pd p21 c21 I.fa.1.rd hlt.1 hlt.2).out) fun Al V Iv hzV hB Kz kz => ?_
       rintro _ W ⟨rfl, hb⟩
       refine ⟨_, rfl, kz _ _ hb fun I => ?_⟩
       clear kz Kz
       exact zret I fun Al W I => ⟨rfl, I.below⟩
     · rw [if_neg hx] at hlt ⊢
       have hx' : f.ext = false := by simpa using hx
       have hh : f.hid = true := by unfold Fm.hid; rw [hx']; simp [hf]
       have hFF := G.d1 hf hx'
       have hge : 2 ^ f.F ≤ pd := by
        have h1 := g0z pd ((d0u pd).1 (by omega))
        rw [show blen pd - 1 = f.F by omega] at h1
        exact h1
       have ht := g1k G.f2
       have I := Inv.start w [rdF .u32 p (dig B32 m)] ⟨hp, True.intro⟩
       refine a0b [.v (.agg #[.int .i64 (f.size : Int), .int .i64 (f.E : Int), .int .i64 (f.F : Int), .int .i64 f.g.rad, .int .i64 f.g.digs, .int .i64 f.g.lo, .int .i64 f.g.hi, .bool f.g.grad, .bool f.hid, .bool f.inf, .bool f.res, .func (.func (ordF f)) #[] #[]]), .v (.agg #[.bool s, .slice p (dig B32 m).length c, .int .i64 e])] I Tryz.func147 ?_
       refine zcut I none (fun fr bx gs => ∃ (U1 : Nat → Value) (p21 : Option Addr) (c21 : Nat), fr = (.v (.agg #[.int .i64 (f.size : Int), .int .i64 (f.E : Int), .int .i64 (f.F : Int), .int .i64 f.g.rad, .int .i64 f.g.digs, .int .i64 f.g.lo, .int .i64 f.g.hi, .bool f.g.grad, .bool f.hid, .bool f.inf, .bool f.res, .func (.func (ordF f)) #[] #[]]) :: .v (.agg #[.bool s, .slice p (dig B32 m).length c, .int .i64 e]) :: .p 0 0 :: .p 1 0 :: .v (Go.Value.string (ByteArray.mk #[])) :: .p 2 0 :: su 2 (sw U1 8 25 (.v undef :: sw U1 34 7 (.v undef :: .v (U1 42) :: .v undef :: sw U1 44 13 []))) : List SV) ∧ bx = [⟨146, [.v (.int .i64 (f.size : Int)), .v (.int .i64 (f.E : Int)), .v (.int .i64 (f.F : Int)), .v (.int .i64 f.g.rad), .v (.int .i64 f.g.digs), .v (.int .i64 f.g.lo), .v (.int .i64 f.g.hi), .v (.bool f.g.grad), .v (.bool f.hid), .v (.bool f.inf), .v (.bool f.res), .v (.func (.func (ordF f)) #[] #[])], false⟩, ⟨119, [.v (.bool s), .v (.slice p (dig B32 m).length c), .v (.int .i64 e)], false⟩, ⟨99, [.v (.bool pn), .v (.slice p21 (dig B32 pd).length c21), .v (.int .i64 pp), .v (.bool pex), .v (.bool pov), .v (.bool pun)], false⟩] ∧ gs = [ownF w.heap.size .u32 160 p21 c21 (dig B32 pd), rdF .u32 p (dig B32 m)]) ?_ ?_
       · intro J hJ Al W I
         refine zd [] I fun Al W I => ?_
         refine zk [0, 1, 2, 3, 4, 5, 7, 8, 9, 11, 12] I fun I => ?_
         refine zo2 6 14 I (fun I => ?_) (fun I => ?_)
         · refine zg I (fun Al W I => have hzW := I.bel.size; sof 1 1 rfl (by omega) W) fun Al V Iv hzV hB Kz kz => ?_
           rintro _ W ⟨p14, c14, rfl, o14, hb⟩
           refine ⟨_, rfl, kz _ _ hb fun I => ?_⟩
           clear kz Kz
           have I := I.own o14
           refine zk [10] I fun I => ?_
           refine zo2 13 14 I (fun I => ?_) (fun I => ?_)
           · refine zg I (fun Al W I => (HF W p14 c14 I.fa.2.1 I.fa.1.rd).out) fun Al V Iv hzV hB Kz kz => ?_
             rintro _ W ⟨p21, c21, rfl, o21, hb⟩
             refine ⟨_, rfl, kz _ _ hb fun I => ?_⟩
             clear kz Kz
             have I := I.own o21
             refine zo 14 I (fun I => ?_)
             refine zn I fun Al W I => ?_
             refine zo 15 I (fun I => ?_)
             refine zn I fun Al W I => ?_
             exact b0j I J fun Al W U I => hJ _ _ _ _ _ ⟨U, p21, c21, rfl, rfl, rfl⟩ (I.pick [0, 2])
           refine zn I fun Al W I => ?_
           refine zo 13 I (fun I => ?_)
           refine zg I (fun Al W I => (HF W p14 c14 I.fa.2.1 I.fa.1.rd).out) fun Al V Iv hzV hB Kz kz => ?_
           rintro _ W ⟨p21, c21, rfl, o21, hb⟩
           refine ⟨_, rfl, kz _ _ hb fun I => ?_⟩
           clear kz Kz
           have I := I.own o21
           refine zo 15 I (fun I => ?_)
           refine zn I fun Al W I => ?_
           exact b0j I J fun Al W U I => hJ _ _ _ _ _ ⟨U, p21, c21, rfl, rfl, rfl⟩ (I.pick [0, 2])
         refine zn I fun Al W I => ?_
         refine zo 6 I (fun I => ?_)
         refine zg I (fun Al W I => have hzW := I.bel.size; sof 1 1 rfl (by omega) W) fun Al V Iv hzV hB Kz kz => ?_
         rintro _ W ⟨p14, c14, rfl, o14, hb⟩
         refine ⟨_, rfl, kz _ _ hb fun I => ?_⟩
         clear kz Kz
         have I := I.own o14
         refine zk [10] I fun I => ?_
         refine zo 13 I (fun I => ?_)
         refine zg I (fun Al W I => (HF W p14 c14 I.fa.2.1 I.fa.1.rd).out) fun Al V Iv hzV hB Kz kz => ?_
         rintro _ W ⟨p21, c21, rfl, o21, hb⟩
         refine ⟨_, rfl, kz _ _ hb fun I => ?_⟩
         clear kz Kz
         have I := I.own o21
         refine zo 15 I (fun I => ?_)
         refine zn I fun Al W I => ?_
         exact b0j I J fun Al W U I => hJ _ _ _ _ _ ⟨U, p21, c21, rfl, rfl, rfl⟩ (I.pick [0, 2])
       rintro _ _ _ ⟨U1, p21, c21, rfl, rfl, rfl⟩ Al W I
       refine zi I 27 .i64 (pp - f.g.lo) (pp - f.g.lo) (IntWalk.i64_in _ (by omega)) fun Al W I => ?_
       refine zb I 33 (f.g.rad == 2) (true) (by rw [hr]; rfl) fun Al W I => ?_
       refine zi I 35 .i64 ((pp - f.g.lo) + 1) ((e1 : Int)) ((by rw [hei]; exact IntWalk.i64_in _ (by omega))) fun Al W I => ?_
       refine zd [] I fun Al W I => ?_
       refine zk [0, 2, 3, 4] I fun I => ?_
       refine zo 1 I (fun I => ?_)
       refine zg I (fun Al W I => have hzW := I.bel.size; stay (f0f p21 _ c21 pd W I.fa.1.rd rfl (by omega))) fun Al V Iv hzV hB Kz kz => ?_
       rintro _ W ⟨rfl, hb⟩
       refine ⟨_, rfl, kz _ _ hb fun I => ?_⟩
       clear kz Kz
       refine zkb 5 I (decide (((blen pd : Nat) : Int) < f.g.digs)) (false) (decide_eq_false (by omega)) fun I => ?_
       refine zb I 43 (f.hid) (true) (hh) fun Al W I => ?_
       refine zg I (fun Al W I => have hzW := I.bel.size; f0k f.F (2 ^ f.F) _ W (by have := G.f2; omega) rfl rfl) fun Al V Iv hzV hB Kz kz => ?_
       rintro _ W ⟨p47, c47, rfl, o47, hb⟩
       refine ⟨_, rfl, kz _ _ hb fun I => ?_⟩
       clear kz Kz
       have I := I.own o47
       refine zg I (fun Al W I => have hzW := I.bel.size; ssub p21 p47 _ _ c21 c47 pd (2 ^ f.F) (pd - 2 ^ f.F) W I.fa.2.1.rd I.fa.1.rd rfl rfl (by omega) hge rfl) fun Al V Iv hzV hB Kz kz => ?_
       rintro _ W ⟨p48, c48, rfl, o48, hb⟩
       refine ⟨_, rfl, kz _ _ hb fun I => ?_⟩
       clear kz Kz
       have I := I.own o48
       refine zg I (fun Al W I => (HJ W s e1 (pd - 2 ^ f.F) p48 c48 I.fa.1.rd hlt.1 hlt.2).out) fun Al V Iv hzV hB Kz kz => ?_
       rintro _ W ⟨rfl, hb⟩
       refine ⟨_, rfl, kz _ _ hb fun I => ?_⟩
       clear kz Kz
       exact zret I fun Al W I => ⟨rfl, I.below⟩
   · rw [if_neg hb] at hlt ⊢
     simp only at hlt ⊢
     have hlo := (hlow hf hb).1
     have h0e : (pp - f.g.lo).toNat = 0 := by omega
     rw [h0e] at hlt ⊢
     have I := Inv.start w [rdF .u32 p (dig B32 m)] ⟨hp, True.intro⟩
     refine a0b [.v (.agg #[.int .i64 (f.size : Int), .int .i64 (f.E : Int), .int .i64 (f.F : Int), .int .i64 f.g.rad, .int .i64 f.g.digs, .int .i64 f.g.lo, .int .i64 f.g.hi, .bool f.g.grad, .bool f.hid, .bool f.inf, .bool f.res, .func (.func (ordF f)) #[] #[]]), .v (.agg #[.bool s, .slice p (dig B32 m).length c, .int .i64 e])] I Tryz.func147 ?_
     refine zcut I none (fun fr bx gs => ∃ (U1 : Nat → Value) (p21 : Option Addr) (c21 : Nat), fr = (.v (.agg #[.int .i64 (f.size : Int), .int .i64 (f.E : Int), .int .i64 (f.F : Int), .int .i64 f.g.rad, .int .i64 f.g.digs, .int .i64 f.g.lo, .int .i64 f.g.hi, .bool f.g.grad, .bool f.hid, .bool f.inf, .bool f.res, .func (.func (ordF f)) #[] #[]]) :: .v (.agg #[.bool s, .slice p (dig B32 m).length c, .int .i64 e]) :: .p 0 0 :: .p 1 0 :: .v (Go.Value.string (ByteArray.mk #[])) :: .p 2 0 :: su 2 (sw U1 8 25 (.v undef :: sw U1 34 7 (.v undef :: .v (U1 42) :: .v undef :: sw U1 44 13 []))) : List SV) ∧ bx = [⟨146, [.v (.int .i64 (f.size : Int)), .v (.int .i64 (f.E : Int)), .v (.int .i64 (f.F : Int)), .v (.int .i64 f.g.rad), .v (.int .i64 f.g.digs), .v (.int .i64 f.g.lo), .v (.int .i64 f.g.hi), .v (.bool f.g.grad), .v (.bool f.hid), .v (.bool f.inf), .v (.bool f.res), .v (.func (.func (ordF f)) #[] #[])], false⟩, ⟨119, [.v (.bool s), .v (.slice p (dig B32 m).length c), .v (.int .i64 e)], false⟩, ⟨99, [.v (.bool pn), .v (.slice p21 (dig B32 pd).length c21), .v (.int .i64 pp), .v (.bool pex), .v (.bool pov), .v (.bool pun)], false⟩] ∧ gs = [ownF w.heap.size .u32 160 p21 c21 (dig B32 pd), rdF .u32 p (dig B32 m)]) ?_ ?_
     · intro J hJ Al W I
       refine zd [] I fun Al W I => ?_
       refine zk [0, 1, 2, 3, 4, 5, 7, 8, 9, 11, 12] I fun I => ?_
       refine zo2 6 14 I (fun I => ?_) (fun I => ?_)
       · refine zg I (fun Al W I => have hzW := I.bel.size; sof 1 1 rfl (by omega) W) fun Al V Iv hzV hB Kz kz => ?_
         rintro _ W ⟨p14, c14, rfl, o14, hb⟩
         refine ⟨_, rfl, kz _ _ hb fun I => ?_⟩
         clear kz Kz
         have I := I.own o14
         refine zk [10] I fun I => ?_
         refine zo2 13 14 I (fun I => ?_) (fun I => ?_)
         · refine zg I (fun Al W I => (HF W p14 c14 I.fa.2.1 I.fa.1.rd).out) fun Al V Iv hzV hB Kz kz => ?_
           rintro _ W ⟨p21, c21, rfl, o21, hb⟩
           refine ⟨_, rfl, kz _ _ hb fun I => ?_⟩
           clear kz Kz
           have I := I.own o21
           refine zo 14 I (fun I => ?_)
           refine zn I fun Al W I => ?_
           refine zo 15 I (fun I => ?_)
           refine zn I fun Al W I => ?_
           exact b0j I J fun Al W U I => hJ _ _ _ _ _ ⟨U, p21, c21, rfl, rfl, rfl⟩ (I.pick [0, 2])
         refine zn I fun Al W I => ?_
         refine zo 13 I (fun I => ?_)
         refine zg I (fun Al W I => (HF W p14 c14 I.fa.2.1 I.fa.1.rd).out) fun Al V Iv hzV hB Kz kz => ?_
         rintro _ W ⟨p21, c21, rfl, o21, hb⟩
         refine ⟨_, rfl, kz _ _ hb fun I => ?_⟩
         clear kz Kz
         have I := I.own o21
         refine zo 15 I (fun I => ?_)
         refine zn I fun Al W I => ?_
         exact b0j I J fun Al W U I => hJ _ _ _ _ _ ⟨U, p21, c21, rfl, rfl, rfl⟩ (I.pick [0, 2])
       refine zn I fun Al W I => ?_
       refine zo 6 I (fun I => ?_)
       refine zg I (fun Al W I => have hzW := I.bel.size; sof 1 1 rfl (by omega) W) fun Al V Iv hzV hB Kz kz => ?_
       rintro _ W ⟨p14, c14, rfl, o14, hb⟩
       refine ⟨_, rfl, kz _ _ hb fun I => ?_⟩
       clear kz Kz
       have I := I.own o14
       refine zk [10] I fun I => ?_
       refine zo 13 I (fun I => ?_)
       refine zg I (fun Al W I => (HF W p14 c14 I.fa.2.1 I.fa.1.rd).out) fun Al V Iv hzV hB Kz kz => ?_
       rintro _ W ⟨p21, c21, rfl, o21, hb⟩
       refine ⟨_, rfl, kz _ _ hb fun I => ?_⟩
       clear kz Kz
       have I := I.own o21
       refine zo 15 I (fun I => ?_)
       refine zn I fun Al W I => ?_
       exact b0j I J fun Al W U I => hJ _ _ _ _ _ ⟨U, p21, c21, rfl, rfl, rfl⟩ (I.pick [0, 2])
     rintro _ _ _ ⟨U1, p21, c21, rfl, rfl, rfl⟩ Al W I
     refine zi I 27 .i64 (pp - f.g.lo) (pp - f.g.lo) (IntWalk.i64_in _ (by omega)) fun Al W I => ?_
     refine zb I 33 (f.g.rad == 2) (true) (by rw [hr]; rfl) fun Al W I => ?_
     refine zi I 35 .i64 ((pp - f.g.lo) + 1) ((pp - f.g.lo) + 1) (IntWalk.i64_in _ (by omega)) fun Al W I => ?_
     refine zd [] I fun Al W I => ?_
     refine zk [0, 2, 3, 4] I fun I => ?_
     refine zo 1 I (fun I => ?_)
     refine zg I (fun Al W I => have hzW := I.bel.size; stay (f0f p21 _ c21 pd W I.fa.1.rd rfl (by omega))) fun Al V Iv hzV hB Kz kz => ?_
     rintro _ W ⟨rfl, hb⟩
     refine ⟨_, rfl, kz _ _ hb fun I => ?_⟩
     clear kz Kz
     refine zkb 5 I (decide (((blen pd : Nat) : Int) < f.g.digs)) (true) (decide_eq_true (by omega)) fun I => ?_
     refine zg I (fun Al W I => p0d f s 0 0 pd rfl p21 c21 W G I.fa.1.rd hlt.1 hlt.2) fun Al V Iv hzV hB Kz kz => ?_
     rintro _ W ⟨rfl, hb⟩
     refine ⟨_, rfl, kz _ _ hb fun I => ?_⟩
     clear kz Kz
     exact zret I fun Al W I => ⟨rfl, I.below⟩
end Go.Proofs.YtlcdfnaaenibgaaGreatDoor
