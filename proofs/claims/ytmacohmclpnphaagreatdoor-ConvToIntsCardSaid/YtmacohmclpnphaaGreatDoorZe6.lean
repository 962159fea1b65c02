/- grid: Round. -/
import Derived.Deep.LoopGhost
import Derived.Lib.Strings
import Derived.Lib.Slices
import Derived.Lib.Small
import Derived.Lib.Walk
import Derived.Lib.BitFns
import Derived.Outline
import Derived.Deep.RegionHeld3
import Derived.Test.YtmacohmclpnphaaGreatDoorZe1
import Derived.Test.YtmacohmclpnphaaGreatDoorZe2
import Derived.Test.YtmacohmclpnphaaGreatDoorZe3
import Derived.Test.YtmacohmclpnphaaGreatDoorZe4
import Derived.Test.YtmacohmclpnphaaGreatDoorZe5
set_option maxHeartbeats 8000000
set_option maxRecDepth 100000
namespace Go.Proofs.YtmacohmclpnphaaGreatDoor
open Go.RowKit Go.Slip
structure Rin where
 g : Bool
 p : Option Addr
 c : Nat
 xs : List Nat
 q : Option Addr
 d : Nat
 ys : List Nat
 e : Int
structure InR (w : World) (a : Rin) : Prop where
 r1 : Rd w .u32 a.p a.xs
 l1 : a.xs.length ≤ 9223372036854775807
 b1 : ∀ x ∈ a.xs, x < B32
 r2 : Rd w .u32 a.q a.ys
 l2 : a.ys.length ≤ 9223372036854775807
 b2 : ∀ x ∈ a.ys, x < B32
theorem InR.past {w w' : World} {a : Rin} (h : InR w a) (hb : Below w.heap.size w w') : InR w' a := ⟨h.r1.past hb, h.l1, h.b1, h.r2.past hb, h.l2, h.b2⟩
theorem e0c (g : Gd) (w : World) :
 Calls Tryz.prog 74 #[.agg #[.int .i64 g.rad, .int .i64 g.digs, .int .i64 g.lo, .int .i64 g.hi, .bool g.grad]] w fun e w' => e = .returned (.int .i64 (wid g : Nat)) ∧ Below w.heap.size w w' := by
 obtain ⟨rad, digs, lo, hi, grad⟩ := g
 simp only
 unfold wid
 simp only
 have hb : Below w.heap.size w (w.alloc (.cells #[.int .i64 rad, .int .i64 digs, .int .i64 lo, .int .i64 hi, .bool grad] 54)) := b0n _ _
 by_cases h : rad = 16
 · subst h
   go_enter Tryz.func74, Tryz.ntmps74
   go_wp2
   go_ret
   exact ⟨by simp, hb⟩
 · have h1 : (rad == 16) = false := bFn h
   rw [if_neg h]
   clear h
   go_enter Tryz.func74, Tryz.ntmps74
   go_wp2
   go_ret
   exact ⟨rfl, hb⟩
theorem t0p (way : Int) (neg odd : Bool) (half : Int) (w : World) (h1 : 1 ≤ way) (h2 : way ≤ 5) :
 Calls Tryz.prog 77 #[.int .i64 way, .bool neg, .bool odd, .int .i64 half] w fun e w' => e = .returned (.bool (e0x way neg odd half)) ∧ w = w' := by
 obtain rfl | rfl | rfl | rfl | rfl : way = 1 ∨ way = 2 ∨ way = 3 ∨ way = 4 ∨ way = 5 := by omega
 · clear h1 h2
   unfold e0x
   simp only [if_true]
   by_cases h : 0 < half
   · go_enter Tryz.func77, Tryz.ntmps77
     go_wp2
     go_ret
     exact ⟨by simp [h], rfl⟩
   · by_cases h0 : half = 0
     · subst h0
       cases odd
       · go_enter Tryz.func77, Tryz.ntmps77
         go_wp2
         go_ret
         exact ⟨rfl, rfl⟩
       · go_enter Tryz.func77, Tryz.ntmps77
         go_wp2
         go_ret
         exact ⟨rfl, rfl⟩
     · have t0 : (half == 0) = false := bFn h0
       have H := hi0 h0
       clear h0
       go_enter Tryz.func77, Tryz.ntmps77
       go_wp2
       go_ret
       exact ⟨by simp [H.out, show ¬ 0 < half from by omega], rfl⟩
 · clear h1 h2
   have e : e0x 2 neg odd half = decide (0 ≤ half) := rfl
   rw [e]
   clear e
   by_cases h : 0 ≤ half
   · go_enter Tryz.func77, Tryz.ntmps77
     go_wp2
     go_ret
     exact ⟨by simp [h], rfl⟩
   · go_enter Tryz.func77, Tryz.ntmps77
     go_wp2
     go_ret
     exact ⟨by simp; omega, rfl⟩
 · clear h1 h2
   have e : e0x 3 neg odd half = false := rfl
   rw [e]
   clear e
   go_enter Tryz.func77, Tryz.ntmps77
   go_wp2
   go_ret
   exact ⟨rfl, rfl⟩
 · clear h1 h2
   have e : e0x 4 neg odd half = !neg := rfl
   rw [e]
   clear e
   go_enter Tryz.func77, Tryz.ntmps77
   go_wp2
   go_ret
   exact ⟨rfl, rfl⟩
 · clear h1 h2
   have e : e0x 5 neg odd half = neg := rfl
   rw [e]
   clear e
   go_enter Tryz.func77, Tryz.ntmps77
   go_wp2
   go_ret
   exact ⟨rfl, rfl⟩
theorem k0r (k : Int) (w : World) :
 Calls Tryz.prog 31 #[.int .i64 k] w fun e w' => e = .returned (.bool (wayB k)) ∧ w = w' := by
 by_cases h1 : 1 ≤ k
 · by_cases h2 : k ≤ 5
   · rw [r0j h1 h2]
     go_enter Tryz.func31, Tryz.ntmps31
     go_wp2
     go_ret
     exact ⟨rfl, rfl⟩
   · rw [k0j (by omega)]
     go_enter Tryz.func31, Tryz.ntmps31
     go_wp2
     go_ret
     exact ⟨rfl, rfl⟩
 · rw [k0j (by omega)]
   go_enter Tryz.func31, Tryz.ntmps31
   go_wp2
   go_ret
   exact ⟨rfl, rfl⟩
theorem i0l (p q : Option Addr) (n m c d : Nat) (a b : Nat) (w : World) (hp : Rd w .i64 p (dig B16 a)) (hq : Rd w .i64 q (dig B16 b)) (hn : n = (dig B16 a).length) (hm : m = (dig B16 b).length)
 (hl : (dig B16 a).length + (dig B16 b).length ≤ 1000000000) :
 Calls Tryz.prog 61 #[.slice p n c, .slice q m d] w (f0b w .i64 (dig B16 (a + b))) := by
 subst hn hm
 have HXL := hi0 (b0a a0b a)
 have HYL := hi0 (b0a a0b b)
 obtain ⟨xs, hxs⟩ : ∃ xs, xs = dig B16 a := ⟨_, rfl⟩
 obtain ⟨ys, hys⟩ : ∃ ys, ys = dig B16 b := ⟨_, rfl⟩
 rw [← hxs] at hp hl HXL ⊢
 rw [← hys] at hq hl HYL ⊢
 have HA := hi0 hxs
 have HB := hi0 hys
 clear hxs hys
 have hsx := hp.solid
 have hsy := hq.solid
 go_enter Tryz.func61, Tryz.ntmps61
 go_wp2
 go_loopg [5, 6, 7] (xs.length + ys.length + 2) (fun g ov cv iv wr => ∃ (i cr : Nat) (t : Option Addr) (e : Nat) (O : List Nat), iv = .int .i64 i ∧ cv = .int .i64 cr ∧ ov = .slice t O.length e ∧ g + i = xs.length + ys.length + 2 ∧ cr ≤ 1 ∧ i ≤ xs.length + ys.length + 1 ∧ Hid (O.length = i) ∧
     Own wr w.heap.size .i64 3 t e O ∧ Below w.heap.size w wr ∧ Hid (g0h O xs ys i cr))
 case atStart => exact ⟨0, 0, none, 0, [], rfl, rfl, rfl, rfl, by omega, by omega, rfl, Own.nil _ _ _ _, Below.refl _ _, g0h.start xs ys⟩
 case round =>
  obtain ⟨i, cr, t, e, O, rfl, rfl, rfl, hg, hcr, hi, hO, hoq, hb, HR⟩ := hrel
  have hpL := hp.past hb
  have hqL := hq.past hb
  have hxd := a0i (B := 65536) (by omega) xs HXL.out i
  have hyd := a0i (B := 65536) (by omega) ys HYL.out i
  have hi2 : 0 < i → cr = 1 → i ≤ xs.length ∨ i ≤ ys.length := fun h1 h2 => by have := HR.out.2.2.2.2; omega
  by_cases h1 : i < xs.length
  · have hc1 := hpL.cells i h1
    have HS := HR.out.step hxd hyd (.inl h1)
    by_cases h2 : i < ys.length
    · have hc2 := hqL.cells i h2
      have HS := hi0 HS
      clear hi2
      go_wp2_with (first
        | (refine a0t rfl _ _ rfl tyN _ ?_ rfl ?_; omega; intro p2 w2 ho2 hb2 hz2 hp2)
        | (at_builtin; refine a0v rfl _ _ _ rfl tyN _ _ _ _ _ (hoq.past hb2) rfl _ _ _ _ ho2.rd rfl rfl rfl ?_ ?_ ?_; (have := hO.out; simp; omega); (have := hb2.size; have := hb.size; omega); intro p3 c3 w3 ho3 hg3 hb3 hn3))
      have hb4 := hb.trans ((hb2.mono hb.size).trans hb3)
      have e4 : (((cr : Int) + dg xs i + dg ys i : Int) % 65536).toNat = (cr + dg xs i + dg ys i) % B16 := by unfold B16; omega
      rw [e4] at ho3
      go_roundg (xs.length + ys.length + 1 - i)
      case measure => omega
      case rel => exact ⟨i + 1, (cr + dg xs i + dg ys i) / B16, p3, c3, _, by go_num, (by unfold B16; go_num), by simp, by omega, HS.out.2.2.1, by omega, (by show (O ++ _).length = i + 1; have := hO.out; simp; omega), ho3, hb4, HS⟩
    · have ez : dg ys i = 0 := b0j (by omega)
      rw [ez] at HS
      have HS := hi0 HS
      clear ez hyd hi2
      go_wp2_with (first
        | (refine a0t rfl _ _ rfl tyN _ ?_ rfl ?_; omega; intro p2 w2 ho2 hb2 hz2 hp2)
        | (at_builtin; refine a0v rfl _ _ _ rfl tyN _ _ _ _ _ (hoq.past hb2) rfl _ _ _ _ ho2.rd rfl rfl rfl ?_ ?_ ?_; (have := hO.out; simp; omega); (have := hb2.size; have := hb.size; omega); intro p3 c3 w3 ho3 hg3 hb3 hn3))
      have hb4 := hb.trans ((hb2.mono hb.size).trans hb3)
      have e4 : (((cr : Int) + dg xs i : Int) % 65536).toNat = (cr + dg xs i + 0) % B16 := by unfold B16; omega
      rw [e4] at ho3
      go_roundg (xs.length + ys.length + 1 - i)
      case measure => omega
      case rel => exact ⟨i + 1, (cr + dg xs i + 0) / B16, p3, c3, _, by go_num, (by unfold B16; go_num), by simp, by omega, HS.out.2.2.1, by omega, (by show (O ++ _).length = i + 1; have := hO.out; simp; omega), ho3, hb4, HS⟩
  · have ex : dg xs i = 0 := b0j (by omega)
    by_cases h2 : i < ys.length
    · have hc2 := hqL.cells i h2
      have HS := HR.out.step hxd hyd (.inr (.inl h2))
      rw [ex] at HS
      have HS := hi0 HS
      clear ex hxd hi2
      go_wp2_with (first
        | (refine a0t rfl _ _ rfl tyN _ ?_ rfl ?_; omega; intro p2 w2 ho2 hb2 hz2 hp2)
        | (at_builtin; refine a0v rfl _ _ _ rfl tyN _ _ _ _ _ (hoq.past hb2) rfl _ _ _ _ ho2.rd rfl rfl rfl ?_ ?_ ?_; (have := hO.out; simp; omega); (have := hb2.size; have := hb.size; omega); intro p3 c3 w3 ho3 hg3 hb3 hn3))
      have hb4 := hb.trans ((hb2.mono hb.size).trans hb3)
      have e4 : (((cr : Int) + dg ys i : Int) % 65536).toNat = (cr + 0 + dg ys i) % B16 := by unfold B16; omega
      rw [e4] at ho3
      go_roundg (xs.length + ys.length + 1 - i)
      case measure => omega
      case rel => exact ⟨i + 1, (cr + 0 + dg ys i) / B16, p3, c3, _, by go_num, (by unfold B16; go_num), by simp, by omega, HS.out.2.2.1, by omega, (by show (O ++ _).length = i + 1; have := hO.out; simp; omega), ho3, hb4, HS⟩
    · have ey : dg ys i = 0 := b0j (by omega)
      by_cases h3 : 0 < cr
      · have HS := HR.out.step hxd hyd (.inr (.inr h3))
        rw [ex, ey] at HS
        have HS := hi0 HS
        have hi3 : i ≤ xs.length + ys.length := by
         by_cases h0 : 0 < i
         · have := hi2 h0 (by omega); omega
         · omega
        clear ex ey hxd hyd hi2
        go_wp2_with (first
          | (refine a0t rfl _ _ rfl tyN _ ?_ rfl ?_; omega; intro p2 w2 ho2 hb2 hz2 hp2)
          | (at_builtin; refine a0v rfl _ _ _ rfl tyN _ _ _ _ _ (hoq.past hb2) rfl _ _ _ _ ho2.rd rfl rfl rfl ?_ ?_ ?_; (have := hO.out; simp; omega); (have := hb2.size; have := hb.size; omega); intro p3 c3 w3 ho3 hg3 hb3 hn3))
        have hb4 := hb.trans ((hb2.mono hb.size).trans hb3)
        have e4 : (((cr : Int) : Int) % 65536).toNat = (cr + 0 + 0) % B16 := by unfold B16; omega
        rw [e4] at ho3
        go_roundg (xs.length + ys.length + 1 - i)
        case measure => omega
        case rel => exact ⟨i + 1, (cr + 0 + 0) / B16, p3, c3, _, by go_num, (by unfold B16; go_num), by simp, by omega, HS.out.2.2.1, by omega, (by show (O ++ _).length = i + 1; have := hO.out; simp; omega), ho3, hb4, HS⟩
      · obtain rfl : cr = 0 := by omega
        have HD := hi0 (HR.out.done (by omega) (by omega) HA.out HB.out)
        clear ex ey hxd hyd hi2
        go_wp2
        go_ret
        exact q0q HD.out rfl hoq hb
theorem d0q (p q : Option Addr) (n m c d : Nat) (a b : Nat) (w : World) (hp : Rd w .i64 p (dig B16 a)) (hq : Rd w .i64 q (dig B16 b)) (hn : n = (dig B16 a).length) (hm : m = (dig B16 b).length)
 (hl : (dig B16 a).length ≤ 1000000000) (hl2 : (dig B16 b).length ≤ 1000000000) :
 Calls Tryz.prog 60 #[.slice p n c, .slice q m d] w fun e w' => e = .returned (.int .i64 (cmpN a b)) ∧ Below w.heap.size w w' := by
 subst hn hm
 by_cases hlt : (dig B16 a).length < (dig B16 b).length
 · have H := hi0 (f0j (h0m a0b hlt))
   go_enter Tryz.func60, Tryz.ntmps60
   go_wp2
   go_ret
   exact ⟨f0l H.out, Below.refl _ _⟩
 · by_cases hgt : (dig B16 b).length < (dig B16 a).length
   · have H := hi0 (l0f (h0m a0b hgt))
     go_enter Tryz.func60, Tryz.ntmps60
     go_wp2
     go_ret
     exact ⟨f0l H.out, Below.refl _ _⟩
   · have hle : (dig B16 b).length = (dig B16 a).length := by omega
     have HXL := hi0 (b0a a0b a)
     have HYL := hi0 (b0a a0b b)
     have HA := hi0 (a0u a0b a)
     have HB := hi0 (a0u a0b b)
     rw [hle]
     have HL := hi0 hle
     have hly := Nat.le_of_eq hle.symm
     clear hlt hgt hle
     generalize dig B16 a = xs at *
     generalize dig B16 b = ys at *
     have hsx := hp.solid
     have hsy := hq.solid
     rw [HL.out] at hsy
     go_enter Tryz.func60, Tryz.ntmps60
     go_wp2
     go_loopw [5] (fun iv wr => ∃ (k : Nat), iv = .int .i64 ((k : Int) - 1) ∧ k ≤ xs.length ∧ Below w.heap.size w wr ∧ Hid (xs.drop k = ys.drop k)) (fun iv _ => (intOf iv + 1).toNat)
     case atStart => exact ⟨xs.length, rfl, Nat.le_refl _, Below.refl _ _, (show xs.drop _ = ys.drop _ by rw [List.drop_length, List.drop_of_length_le (by have := HL.out; omega)])⟩
     case round =>
      obtain ⟨k, rfl, hk, hb, HD⟩ := hrel
      by_cases h0 : 0 < k
      · obtain ⟨k, rfl⟩ : ∃ j, k = j + 1 := ⟨k - 1, by omega⟩
        have ej : ((k + 1 : Nat) : Int) - 1 = k := by omega
        rw [ej]
        have hxd := a0i (B := 65536) (by omega) xs HXL.out k
        have hyd := a0i (B := 65536) (by omega) ys HYL.out k
        have hc1 := (hp.past hb).cells k (by omega)
        have hc2 := (hq.past hb).cells k (by omega)
        have i1 : (k : Int) < (xs.length : Int) := by omega
        have i0 : (0 : Int) ≤ (k : Int) := by omega
        clear ej
        by_cases h1 : dg xs k < dg ys k
        · have H := hi0 (f0j (by have := o0m xs ys HXL.out k (by omega) HL.out.symm HD.out h1; rwa [HA.out, HB.out] at this))
          go_wp2_with fail
          go_quiet (fail)
          go_wp2
          go_ret
          exact ⟨f0l H.out, hb.trans (by first | exact below_drewN (Below.refl _ _) _ | exact below_drewN (below_drewN (Below.refl _ _) _) _)⟩
        · by_cases h2 : dg ys k < dg xs k
          · have H := hi0 (l0f (by have := o0m ys xs HYL.out k (by have := HL.out; omega) HL.out HD.out.symm h2; rwa [HA.out, HB.out] at this))
            go_wp2_with fail
            go_quiet (fail)
            go_wp2_with fail
            go_quiet (fail)
            go_wp2
            go_ret
            exact ⟨f0l H.out, hb.trans (by first | exact below_drewN (Below.refl _ _) _ | exact below_drewN (below_drewN (Below.refl _ _) _) _)⟩
          · have h3 : dg xs k = dg ys k := by omega
            have HE := hi0 (n0k (by omega) HL.out.symm HD.out h3)
            rw [← h3] at hc2
            clear h3 h1 h2
            go_wp2_with fail
            go_quiet (fail)
            go_wp2_with fail
            go_quiet (fail)
            go_wp2
            go_roundw
            case rel => exact ⟨k, rfl, by omega, hb.trans (by first | exact below_drewN (Below.refl _ _) _ | exact below_drewN (below_drewN (Below.refl _ _) _) _), HE⟩
            case measure => first | (simp [intOf]; done) | (simp [intOf]; omega)
      · obtain rfl : k = 0 := by omega
        have H : cmpN a b = 0 := by
         have := HD.out
         simp only [List.drop_zero] at this
         rw [← HA.out, ← HB.out, this]; exact s0i _
        have H := hi0 H
        go_wp2
        go_ret
        exact ⟨f0l H.out, hb⟩
theorem h0s (p : Option Addr) (n c : Nat) (a : Nat) (w : World) (hp : Rd w .i64 p (dig B16 a)) (hn : n = (dig B16 a).length) (hl : (dig B16 a).length ≤ 1000000000) :
 Calls Tryz.prog 75 #[.slice p n c] w fun e w' => e = .returned (.int .i64 (blen a : Nat)) ∧ w = w' := by
 subst hn
 by_cases h0 : 0 < a
 · obtain ⟨hb, ht⟩ := i0s (B := B16) (s := 16) (by decide) a0b a h0
   have hl0 : 0 < (dig B16 a).length := List.length_pos_iff.2 ((d0t a0b a).2.2.2 h0)
   have HB := hi0 hb
   have hd := a0i (B := 65536) (by omega) _ (b0a a0b a) ((dig B16 a).length - 1)
   clear hb
   generalize dig B16 a = xs at *
   have hs := hp.solid
   have hc := hp.cells (xs.length - 1) (by omega)
   have hbd : blen (dg xs (xs.length - 1)) ≤ 16 := (a0w _ 16).2 (by omega)
   generalize dg xs (xs.length - 1) = d at *
   go_enter Tryz.func75, Tryz.ntmps75
   go_wp2
   go_loop [3, 4] (fun nv dv => ∃ (m t : Nat), nv = .int .i64 m ∧ dv = .int .i64 t ∧ t ≤ d ∧ m + blen t = 16 * (xs.length - 1) + blen d) (fun _ dv => (intOf dv).toNat)
   case atStart => exact ⟨16 * (xs.length - 1), d, by go_num, rfl, Nat.le_refl _, rfl⟩
   case round =>
    obtain ⟨m, t, rfl, rfl, htd, hm⟩ := hrel
    by_cases h1 : 0 < t
    · have hh := q0i t h1
      have hh2 : m + 1 + blen (t / 2) = 16 * (xs.length - 1) + blen d := by omega
      clear hh
      go_wp2
      go_round
      case rel => exact ⟨m + 1, t / 2, by go_num, by go_num, by omega, hh2⟩
      case measure => simp [intOf]; omega
    · obtain rfl : t = 0 := by omega
      rw [i0r] at hm
      have HM := hi0 (show blen a = m by rw [HB.out]; exact hm.symm)
      go_wp2
      go_ret
      rw [HM.out]
      exact ⟨rfl, rfl⟩
 · obtain rfl : a = 0 := by omega
   rw [i0r]
   rw [a0c] at *
   go_enter Tryz.func75, Tryz.ntmps75
   go_wp2
   go_ret
   exact ⟨rfl, rfl⟩
end Go.Proofs.YtmacohmclpnphaaGreatDoor
namespace Go.Slip
theorem d1r {d r : Nat} (h0 : 0 < d) (h : d < 65536) : tz (d + 65536 * r) = tz d := by
 obtain ⟨h1, h2⟩ := c0h d h0
 have hle : tz d < 16 := by
  rcases Nat.lt_or_ge (tz d) 16 with h3 | h3
  · exact h3
  · have h4 : 2 ^ 16 ≤ 2 ^ tz d := Nat.pow_le_pow_right (by omega) h3
    have h5 : 0 < d / 2 ^ tz d := by
     rcases Nat.eq_zero_or_pos (d / 2 ^ tz d) with h | h
     · rw [h] at h2; simp at h2
     · exact h
    have h6 := Nat.mul_le_mul_left (2 ^ tz d) h5
    simp only [Nat.succ_eq_add_one, Nat.zero_add, Nat.mul_one] at h6
    omega
 obtain ⟨t, ht⟩ : ∃ t, t = tz d := ⟨_, rfl⟩
 rw [← ht] at h1 h2 hle ⊢
 obtain ⟨s, hs⟩ : ∃ s, 16 = t + (s + 1) := ⟨15 - t, by omega⟩
 have e : d + 65536 * r = (d / 2 ^ t + 2 * (2 ^ s * r)) * 2 ^ t := by
  have e1 : (65536 : Nat) = 2 ^ t * (2 ^ s * 2) := by
   rw [show (65536 : Nat) = 2 ^ 16 by decide, hs, Nat.pow_add, Nat.pow_succ]
  rw [e1, Nat.add_mul]
  conv => lhs; rw [← h1]
  grind
 rw [e]
 exact u0j _ _ (by omega)
theorem d1s {xs : List Nat} {a i : Nat} (ha : val B16 xs = a) (hz : ∀ j, j < i → dg xs j = 0) (hd : 0 < dg xs i) (hl : dg xs i < 65536) : tz a = 16 * i + tz (dg xs i) := by
 have h1 := a0y B16 xs i
 have h2 : val B16 (xs.take i) = 0 := by
  have : xs.take i = List.replicate (xs.take i).length 0 := by
   apply c0b
   · simp
   · intro t ht
     simp only [List.length_take] at ht
     rw [j0m (by omega), c0a, hz t (by omega)]
  rw [this, b0s]
 rw [h2, e0u, Nat.zero_add] at h1
 have e : a = (dg xs i + 65536 * val B16 (xs.drop (i + 1))) * 2 ^ (16 * i) := by
  rw [← ha, h1, Nat.pow_mul, show (2 : Nat) ^ 16 = B16 by decide, Nat.mul_comm]
  rfl
 rw [e, u0k (by omega), d1r hd hl]
 omega
def f0p (xs : List Nat) (j n : Nat) : Prop := n = 16 * j ∧ ∀ i, i < j → dg xs i = 0
theorem f0p.start (xs : List Nat) : f0p xs 0 0 := ⟨rfl, fun i hi => by omega⟩
theorem f0p.step {xs : List Nat} {j n : Nat} (h : f0p xs j n) (hz : dg xs j = 0) : f0p xs (j + 1) (n + 16) :=
 ⟨by have := h.1; omega, fun i hi => by
   by_cases he : i = j
   · subst he; exact hz
   · exact h.2 i (by omega)⟩
theorem f0p.lt {xs : List Nat} {j n m : Nat} (h : f0p xs j n) (hv : val B16 xs = m) (h0 : 0 < m) : j < xs.length := by
 rcases Nat.lt_or_ge j xs.length with h1 | h1
 · exact h1
 · have := l0k (B := B16) (xs := xs) (fun i hi => h.2 i (by omega))
   omega
def j0f (m d n : Nat) : Prop := ∃ t, n + tz d = t ∧ t = tz m ∧ 0 < d
theorem j0f.start {xs : List Nat} {j n m : Nat} (h : f0p xs j n) (hv : val B16 xs = m) (h0 : 0 < dg xs j) (hl : dg xs j < 65536) : j0f m (dg xs j) n :=
 ⟨_, rfl, by rw [d1s hv h.2 h0 hl, h.1], h0⟩
theorem j0f.step {m d n : Nat} (h : j0f m d n) (he : d % 2 = 0) : j0f m (d / 2) (n + 1) := by
 obtain ⟨t, h1, h2, h3⟩ := h
 rw [o0q h3 he] at h1
 exact ⟨t, by omega, h2, by omega⟩
theorem j0f.done {m d n : Nat} (h : j0f m d n) (he : d % 2 = 1) : n = tz m := by
 obtain ⟨t, h1, h2, h3⟩ := h
 rw [q0j he] at h1
 omega
theorem g0a (a : Nat) : blen a ≤ 16 * (dig B16 a).length := by
 rw [a0w, Nat.pow_mul]
 exact (a0e a0b a _).1 (Nat.le_refl _)
end Go.Slip
namespace Go.Proofs.YtmacohmclpnphaaGreatDoor
open Go.RowKit Go.Slip
theorem i0m (N : Nat) (w : World) (hN : N ≤ 1000000000) :
 Calls Tryz.prog 25 #[.int .i64 N] w (f0b w .i64 (dig B16 (2 ^ N))) := by
 have hs : N % 16 < 16 := Nat.mod_lt _ (by omega)
 have HD := hi0 (i0v (B := B16) (w := 16) (by decide) (by omega) N)
 go_enter Tryz.func25, Tryz.ntmps25
 go_wp2_with (refine g0e rfl _ _ _ rfl tyN .i64 .i64 (N / 16 + 1) _ _ rfl rfl ?_ ?_ ?_ ?_; omega; omega; omega; intro p1 c1 w1 ho1 hb1 hz1)
 go_loop [4, 5] (fun dv iv => ∃ (i t : Nat), iv = .int .i64 i ∧ dv = .int .i64 t ∧ i ≤ N % 16 ∧ t ≤ 65536 ∧ Hid (t = 2 ^ i)) (fun _ iv => N % 16 - (intOf iv).toNat)
 case atStart => exact ⟨0, 1, rfl, rfl, Nat.zero_le _, by omega, rfl⟩
 case round =>
  obtain ⟨i, t, rfl, rfl, hi, ht, HT⟩ := hrel
  by_cases h1 : i < N % 16
  · have HS : Hid (2 * t = 2 ^ (i + 1)) := by show 2 * t = 2 ^ (i + 1); rw [HT.out, Nat.pow_succ]; omega
    have hb : 2 * t ≤ 65536 := by
     rw [HS.out]; exact Nat.pow_le_pow_right (show 0 < 2 by omega) (show i + 1 ≤ 16 by omega)
    go_wp2
    go_round
    case rel => exact ⟨i + 1, 2 * t, by go_num, by go_num, by omega, hb, HS⟩
    case measure => simp [intOf]; omega
  · obtain rfl : i = N % 16 := by omega
    have hso := ho1.solid
    rw [List.length_replicate] at hso
    have hsm := hso
    go_wp2_with (refine a0p rfl _ _ _ rfl 3 tyN _ _ _ _ ho1 (N / 16) (by simp) _ ?_ rfl rfl ?_; omega; intro w3 ho3 hg3 hb3)
    go_ret
    rw [Int.toNat_natCast, HT.out, HD.out] at ho3
    refine ⟨p1, c1, ?_, ho3.rd, ho3.le_cap, g0w ho3, hb1.trans hb3⟩
    rw [← HD.out]; simp
theorem k0s (N : Nat) : (dig B16 (2 ^ N)).length = N / 16 + 1 := by
 rw [← i0v (B := B16) (w := 16) (by decide) (by omega) N]; simp
theorem h0h (p : Option Addr) (n c : Nat) (a N : Nat) (w : World) (hp : Rd w .i64 p (dig B16 a)) (hn : n = (dig B16 a).length) (hl : (dig B16 a).length ≤ 100000000) (hN : N ≤ 1000000000) :
 Calls Tryz.prog 57 #[.slice p n c, .int .i64 N] w (f0b w .i64 (dig B16 (a * 2 ^ N))) := by
 subst hn
 by_cases h0 : (dig B16 a).length = 0
 · have : a = 0 := (a0d a0b a).1 h0
   subst this
   rw [Nat.zero_mul]
   rw [a0c] at *
   go_enter Tryz.func57, Tryz.ntmps57
   go_wp2
   go_ret
   exact ⟨none, 0, rfl, Rd.nil _ _ _, by simp, by simp, Below.refl _ _⟩
 · have hlp := Nat.le_of_eq (k0s N)
   have h1 : 1 ≤ (dig B16 a).length := by omega
   clear h0
   go_enter Tryz.func57, Tryz.ntmps57
   go_wp2_with fail
   refine (i0m N _ hN).mono ?_
   rintro e w1 ⟨p1, c1, rfl, ho1, -, -, hb1⟩
   go_wp2_with fail
   refine (f0e p p1 _ _ c c1 a (2 ^ N) _ (hp.past hb1) ho1 rfl rfl (by omega)).mono ?_
   rintro e w2 ⟨p2, c2, rfl, ho2, hc2, hn2, hb2⟩
   go_wp2_with fail
   go_ret
   exact ⟨p2, c2, rfl, ho2, hc2, fun h => Nat.le_trans hb1.size (hn2 h), hb1.trans (hb2.mono hb1.size)⟩
theorem a1v {O Y : List Nat} {N a : Nat} (h : f0k B16 (2 ^ (N % 16)) O Y Y.length) (hY : val B16 Y = a / B16 ^ (N / 16)) : val B16 O = a / 2 ^ N := by
 rw [h.done, hY, l0g (B := B16) (w := 16) (by decide)]
theorem t0q (p : Option Addr) (n c : Nat) (a N : Nat) (w : World) (hp : Rd w .i64 p (dig B16 a)) (hn : n = (dig B16 a).length) (hl : (dig B16 a).length ≤ 1000000000) (hN : N ≤ 9223372036854775807) :
 Calls Tryz.prog 79 #[.slice p n c, .int .i64 N] w (f0b w .i64 (dig B16 (a / 2 ^ N))) := by
 subst hn
 by_cases h0 : (dig B16 a).length ≤ N / 16
 · rw [n0l (w := 16) (by decide) a0b a N h0]
   rw [a0c]
   go_enter Tryz.func79, Tryz.ntmps79
   go_wp2
   go_ret
   exact ⟨none, 0, rfl, Rd.nil _ _ _, by simp, by simp, Below.refl _ _⟩
 · have HXL := hi0 (b0a a0b a)
   have HV := hi0 (g0u (B := B16) e0f _ (b0a a0b a) (N / 16))
   rw [a0u a0b] at HV
   generalize dig B16 a = xs at *
   have hsx := hp.solid
   have hk : N / 16 < xs.length := by omega
   have HY := hi0 (show ∀ x ∈ xs.drop (N / 16), x < B16 from fun x h => HXL.out x (List.mem_of_mem_drop h))
   have hyl : (xs.drop (N / 16)).length = xs.length - N / 16 := List.length_drop
   have hylp : (xs.drop (N / 16)).length + N / 16 ≤ xs.length := by omega
   have hylq : xs.length ≤ (xs.drop (N / 16)).length + N / 16 := by omega
   have HG := hi0 (show ∀ j, dg (xs.drop (N / 16)) j = dg xs (N / 16 + j) from fun j => f0i)
   clear h0 hyl
   have hs : N % 16 < 16 := Nat.mod_lt _ (by omega)
   generalize xs.drop (N / 16) = ys at *
   have H0 := hi0 (f0k.start B16 (2 ^ (N % 16)) ys)
   have hpm : B16 % 2 ^ (N % 16) = 0 := k0o (w := 16) (by omega)
   have hpm := hi0 hpm
   go_enter Tryz.func79, Tryz.ntmps79
   go_wp2
   go_loop [5, 6] (fun dv iv => ∃ (i t : Nat), iv = .int .i64 i ∧ dv = .int .i64 t ∧ i ≤ N % 16 ∧ t ≤ 65536 ∧ Hid (t = 2 ^ i)) (fun _ iv => N % 16 - (intOf iv).toNat)
   case atStart => exact ⟨0, 1, rfl, rfl, Nat.zero_le _, by omega, rfl⟩
   case round =>
    obtain ⟨i, t, rfl, rfl, hi, ht, HT⟩ := hrel
    by_cases h1 : i < N % 16
    · have HS : Hid (2 * t = 2 ^ (i + 1)) := by show 2 * t = 2 ^ (i + 1); rw [HT.out, Nat.pow_succ]; omega
      have hb : 2 * t ≤ 65536 := by
       rw [HS.out]; exact Nat.pow_le_pow_right (show 0 < 2 by omega) (show i + 1 ≤ 16 by omega)
      go_wp2
      go_round
      case rel => exact ⟨i + 1, 2 * t, by go_num, by go_num, by omega, hb, HS⟩
      case measure => simp [intOf]; omega
    · obtain rfl : i = N % 16 := by omega
      have htp : 1 ≤ t := by rw [HT.out]; exact Nat.pow_pos (by omega)
      go_wp2
      rw [← HT.out] at H0 hpm
      go_loopg [7, 8] (ys.length) (fun g ov iv wr => ∃ (i : Nat) (q : Option Addr) (e : Nat) (O : List Nat), iv = .int .i64 ((N / 16 + i : Nat) : Int) ∧ ov = .slice q O.length e ∧ g + i = ys.length ∧ i ≤ ys.length ∧ Hid (O.length = i) ∧
          Own wr w.heap.size .i64 3 q e O ∧ Below w.heap.size w wr ∧ Hid (f0k B16 t O ys i))
      case atStart => exact ⟨0, none, 0, [], by go_num, rfl, by omega, by omega, rfl, Own.nil _ _ _ _, Below.refl _ _, H0⟩
      case round =>
       obtain ⟨i, q, e, O, rfl, rfl, hg, hi, hO, hoq, hb, HR⟩ := hrel
       have hpL := hp.past hb
       have hyd := a0i (B := 65536) (by omega) ys HY.out i
       have hyd2 := a0i (B := 65536) (by omega) ys HY.out (i + 1)
       by_cases hlt : i < ys.length
       · have hc1 := hpL.cells (N / 16 + i) (by omega)
         rw [← HG.out] at hc1
         obtain ⟨v, hv⟩ : ∃ v, v = dg ys i / t := ⟨_, rfl⟩
         have ev : ((dg ys i : Nat) : Int) / (t : Int) = (v : Nat) := by rw [hv]; rfl
         have hvd : v < 65536 := by rw [hv]; exact Nat.lt_of_le_of_lt (Nat.div_le_self _ _) hyd
         by_cases h2 : i + 1 < ys.length
         · have hc2 := hpL.cells (N / 16 + (i + 1)) (by omega)
           rw [← HG.out] at hc2
           obtain ⟨m, hm⟩ : ∃ m, m = dg ys (i + 1) % t := ⟨_, rfl⟩
           obtain ⟨k, hk2⟩ : ∃ k, k = 65536 / t := ⟨_, rfl⟩
           obtain ⟨r, hr⟩ : ∃ r, r = m * k := ⟨_, rfl⟩
           obtain ⟨u, hu⟩ : ∃ u, u = v + r := ⟨_, rfl⟩
           have hue : u = dg ys i / t + dg ys (i + 1) % t * (B16 / t) := by rw [hu, hr, hm, hk2, hv]; rfl
           have hub : u < 65536 := by rw [hue]; exact u0i htp hpm.out hyd
           have HS := hi0 (HR.out.step htp hpm.out HY.out hlt u hue)
           have hkb : k ≤ 65536 := by rw [hk2]; exact Nat.div_le_self _ _
           have i0 : (0 : Int) ≤ (N : Int) / 16 + i + 1 := by omega
           have i1 : (N : Int) / 16 + i + 1 < (xs.length : Int) := by omega
           have e1 : IntKind.i64.wrap ((N : Int) / 16 + i + 1) = (N : Int) / 16 + i + 1 := iwo
           have e2 : ((dg ys (i + 1) : Nat) : Int).tmod (t : Int) = (m : Nat) := by rw [Int.tmod_eq_emod_of_nonneg (by omega), hm]; rfl
           have e3 : IntKind.i64.wrap ((65536 : Int) / (t : Int)) = (k : Nat) := by rw [hk2]; exact IntWalk.i64_in _ (by have : ((65536 / t : Nat) : Int) = 65536 / (t : Int) := rfl; omega)
           have e4 : IntKind.i64.wrap ((m : Int) * (k : Int)) = (r : Nat) := by
            have : (m : Int) * (k : Int) = (r : Nat) := by rw [hr]; simp
            rw [this]; exact iwo
           have e5 : IntKind.i64.wrap ((v : Int) + (r : Int)) = (u : Nat) := by rw [hu]; exact iwo
           have e6 : ((N : Int) / 16 + i + 1).toNat = N / 16 + (i + 1) := by omega
           have e7 : ¬ t = 0 := by omega
           have e8 : (65536 : Int).tdiv (t : Int) = (65536 : Int) / (t : Int) := Int.tdiv_eq_ediv_of_nonneg (by omega)
           clear hu hr hm hk2 hv hue
           go_wp2_with fail
           go_quiet (fail)
           have hoq := hoq.drewN nq
           have hb := hb.trans (below_drewN (Below.refl _ wr) nq)
           clear e1 e2 e3 e4 e5 e6 e7 e8 i0 i1 hc1 hc2 hpL
           go_wp2_with (first
             | (refine a0t rfl _ _ rfl tyN _ ?_ rfl ?_; omega; intro p2 w2 ho2 hb2 hz2 hp2)
             | (at_builtin; refine a0v rfl _ _ _ rfl tyN _ _ _ _ _ (hoq.past hb2) rfl _ _ _ _ ho2.rd rfl rfl rfl ?_ ?_ ?_; (have := hO.out; simp; omega); (have := hb2.size; have := hb.size; omega); intro p3 c3 w3 ho3 hg3 hb3 hn3))
           have hb4 := hb.trans ((hb2.mono hb.size).trans hb3)
           rw [Int.toNat_natCast] at ho3
           go_roundg (ys.length - 1 - i)
           case measure => omega
           case rel => exact ⟨i + 1, p3, c3, _, by go_num, by simp, by omega, by omega, (by show (O ++ _).length = _; have := hO.out; rw [List.length_append, List.length_singleton]; omega), ho3, hb4, HS⟩
         · have HS := hi0 (HR.out.step htp hpm.out HY.out hlt v (by rw [hv, b0j (show ys.length ≤ i + 1 by omega), Nat.zero_mod, Nat.zero_mul]; rfl))
           clear hv
           go_wp2_with (first
             | (refine a0t rfl _ _ rfl tyN _ ?_ rfl ?_; omega; intro p2 w2 ho2 hb2 hz2 hp2)
             | (at_builtin; refine a0v rfl _ _ _ rfl tyN _ _ _ _ _ (hoq.past hb2) rfl _ _ _ _ ho2.rd rfl rfl rfl ?_ ?_ ?_; (have := hO.out; simp; omega); (have := hb2.size; have := hb.size; omega); intro p3 c3 w3 ho3 hg3 hb3 hn3))
           have hb4 := hb.trans ((hb2.mono hb.size).trans hb3)
           rw [Int.toNat_natCast] at ho3
           go_roundg (ys.length - 1 - i)
           case measure => omega
           case rel => exact ⟨i + 1, p3, c3, _, by go_num, by simp, by omega, by omega, (by show (O ++ _).length = _; have := hO.out; rw [List.length_append, List.length_singleton]; omega), ho3, hb4, HS⟩
       · obtain rfl : i = ys.length := by omega
         have HD := hi0 (a1v (by rw [← HT.out]; exact HR.out) HV.out)
         have HX := hi0 HR.out.1
         go_wp2_with (go_at_call 134; refine (c0y _ _ _ O _ hoq.rd rfl hoq.le_cap HX.out (by rw [hO.out]; omega)).mono ?_; rintro e w3 ⟨rfl, rfl⟩)
         go_ret
         have ht := a0r a0b O HX.out
         have ho2 := hoq.take (dig B16 (val B16 O)).length
         rw [ht, HD.out] at ho2
         rw [HD.out]
         exact ⟨q, _, rfl, ho2.rd, Nat.le_refl _, g0w ho2, hb⟩
theorem p0o (g : Bool) (p : Option Addr) (c : Nat) (e : Int) (w : World) :
 Calls Tryz.prog 62 #[.agg #[.bool g, .slice p 0 c, .int .i64 e]] w (n0n w (fun _ => False) ⟨false, 0, 0⟩) := by
 go_enter Tryz.func62, Tryz.ntmps62
 go_wp2
 refine bodyPost_ret (v := .agg #[.bool false, .slice none 0 0, .int .i64 0]) (by simp [results, Tryz.results62, go_sem]) rfl ?_
 exact ⟨none, 0, by rw [a0c]; rfl, by rw [a0c]; exact Rd.nil _ _ _, by rw [a0c]; simp, by rw [a0c]; simp, ((Below.refl _ _).alloc (Nat.le_refl _) _).alloc (by simp) _⟩
theorem r0k (g : Bool) (p : Option Addr) (n c : Nat) (e : Int) (m : Nat) (w : World) (hp : Rd w .i64 p (dig B16 m)) (hn : n = (dig B16 m).length) (hl : (dig B16 m).length ≤ 10000000) (h0 : 0 < m)
 (he : -1000000000 ≤ e ∧ e ≤ 1000000000) :
 Calls Tryz.prog 62 #[.agg #[.bool g, .slice p n c, .int .i64 e]] w (n0n w (fun _ => False) (bare ⟨g, m, e⟩)) := by
 subst hn
 have hl0 : 0 < (dig B16 m).length := by
  have := a0d a0b m
  omega
 have t1 : (((dig B16 m).length : Int) == 0) = false := bFn (by omega)
 obtain ⟨W1, hW1, hs1, A1, R1, hz1⟩ := l1e w (.bool g) (.slice p (dig B16 m).length c) (.int .i64 e) (.bool false) (.slice none 0 0) (.int .i64 0) 30 30
 have hp1 := hp.past hs1
 have HB := hi0 (u0l (g := g) (e := e) h0)
 have htz : tz m ≤ 1000000000 := by have := f0t h0; have := g0a m; omega
 have HV := hi0 (a0u a0b m)
 have HX := hi0 (b0a a0b m)
 have HW1 := hi0 hW1
 obtain ⟨xs, hxs⟩ : ∃ xs, xs = dig B16 m := ⟨_, rfl⟩
 have HXS := hi0 hxs
 rw [← hxs] at hp hl hl0 t1 A1 hp1 HV HX HW1 ⊢
 have hsx := hp1.solid
 have a1 := A1.c1
 clear hW1 hxs
 go_enter Tryz.func62, Tryz.ntmps62
 go_wp2_with fail
 rw [← HW1.out]
 clear HW1
 go_wp2
 go_loopg [3] xs.length (fun gk nv wr => ∃ (j n : Nat), nv = .int .i64 n ∧ gk + j = xs.length ∧ wr = W1 ∧ Hid (f0p xs j n))
 case atStart => exact ⟨0, 0, rfl, rfl, rfl, f0p.start xs⟩
 case round =>
  obtain ⟨j, n, rfl, hgk, rfl, HO⟩ := hrel
  have hlt := HO.out.lt HV.out h0
  have hd := a0i (B := 65536) (by omega) xs HX.out j
  have hn1 : (n : Int) ≤ 160000000 := by have := HO.out.1; omega
  have e1 : (n : Int) / 16 = (j : Int) := by have := HO.out.1; omega
  have hcell := hp1.cells j hlt
  by_cases hz : dg xs j = 0
  · have HS := hi0 (HO.out.step hz)
    rw [hz] at hcell
    have hgi : 0 < gk := by omega
    clear hz
    go_wp2
    go_roundg (gk - 1)
    case measure => omega
    case rel => exact ⟨j + 1, n + 16, by go_num, by omega, rfl, HS⟩
  · have h0d : 0 < dg xs j := by omega
    have HI := hi0 (j0f.start HO.out HV.out h0d hd)
    have t2 : (((dg xs j : Nat) : Int) == 0) = false := bFn (by omega)
    clear hz
    go_wp2
    have hjn : n ≤ 160000000 := by omega
    clear e1 hcell t2 hn1
    obtain ⟨d0, hd0⟩ : ∃ d0, dg xs j = d0 := ⟨_, rfl⟩
    rw [hd0] at HI hd h0d ⊢
    clear hd0
    go_loopg [3, 4] d0 (fun gk nv dv wx => ∃ (n2 : Nat), nv = .int .i64 n2 ∧ dv = .int .i64 gk ∧ gk < 65536 ∧ wx = wr ∧ Hid (j0f m gk n2))
    case atStart => exact ⟨n, rfl, rfl, hd, rfl, HI⟩
    case round =>
     obtain ⟨n2, rfl, rfl, hgl, rfl, HN⟩ := hrel
     have hn2 : n2 ≤ 1000000000 := by obtain ⟨t, h1, h2, h3⟩ := HN.out; omega
     have hg0 : 0 < gk := by obtain ⟨t, h1, h2, h3⟩ := HN.out; omega
     by_cases hev : gk % 2 = 0
     · have HS := hi0 (HN.out.step hev)
       have t3 : (gk : Int) % 2 = 0 := by omega
       clear hev
       go_wp2
       go_roundg (gk / 2)
       case measure => omega
       case rel => exact ⟨n2 + 1, by go_num, by go_num, by omega, rfl, HS⟩
     · have HD := HN.out.done (by omega)
       have t3 : (gk : Int) % 2 = 1 := by omega
       subst HD
       obtain ⟨t, ht⟩ : ∃ t, tz m = t := ⟨_, rfl⟩
       have HT := hi0 ht
       rw [ht] at htz HB hn2 HN ⊢
       clear ht hev
       go_wp2_with fail
       clear t3
       have e1 : IntKind.i64.wrap (e + (t : Int)) = e + (t : Int) := iwo
       have hpm : Rd wr .i64 p (dig B16 m) := by rw [← HXS.out]; exact hp1
       go_region_held3 (fun w' => w'.cell? ⟨w.heap.size, 0, none⟩ = some (.bool g) ∧ w'.cell? ⟨w.heap.size, 1, none⟩ = some (.slice p xs.length c) ∧ w'.cell? ⟨w.heap.size, 2, none⟩ = some (.int .i64 e))
        (first | exact ⟨A1.c0, A1.c1, A1.c2⟩
               | (have D1 := A1.drew; exact ⟨D1.c0, D1.c1, D1.c2⟩)
               | (have D1 := A1.drew.past hb2; exact ⟨D1.c0, D1.c1, D1.c2⟩)
               | (have D1 := A1.drew.past hb2; exact ⟨(((D1.set (by omega)).set (by omega)).set (by omega)).c0, (((D1.set (by omega)).set (by omega)).set (by omega)).c1, (((D1.set (by omega)).set (by omega)).set (by omega)).c2⟩))
        (first | (go_at_call 79; refine (t0q p _ c m t _ hpm.drew (by rw [HXS.out]) (by rw [← HXS.out]; clear e1; omega) (by clear e1; omega)).mono ?_; rintro e2 w2 ⟨p2, c2, rfl, hr2, hc2, hf2, hb2⟩; obtain ⟨d0, d1, d2, f0, f1, f2, dlt⟩ := R1.drew.past hb2))
       all_goals (go_wp2_with fail)
       refine bodyPost_ret (v := .agg #[.bool g, .slice p2 (dig B16 (m / 2 ^ t)).length c2, .int .i64 (e + (t : Int))]) (by simp [results, Tryz.results62, go_sem, d0, d1, d2]) rfl ?_
       rw [HB.out]
       clear e1
       have hzd : wr.drew.heap.size = wr.heap.size := rfl
       exact f0a (d := ⟨g, m / 2 ^ t, e + t⟩) (hs1.drew.trans (hb2.mono hs1.size)) hr2 hc2 (fun h => .inr (by have := hf2 h; simp only at *; omega)) (by omega) (fun h => by have := hf2 h; simp only at *; omega)
theorem f0f (g : Bool) (p : Option Addr) (n c : Nat) (e : Int) (m : Nat) (w : World) (hp : Rd w .i64 p (dig B16 m)) (hn : n = (dig B16 m).length) (hl : (dig B16 m).length ≤ 10000000)
 (he : -1000000000 ≤ e ∧ e ≤ 1000000000) :
 Calls Tryz.prog 62 #[.agg #[.bool g, .slice p n c, .int .i64 e]] w (n0n w (fun _ => False) (bare ⟨g, m, e⟩)) := by
 by_cases h0 : m = 0
 · subst h0
   rw [a0c] at hn
   subst hn
   exact p0o g p c e w
 · exact r0k g p n c e m w hp hn hl (by omega) he
theorem i0n (p q : Option Addr) (n m c d : Nat) (a b : Nat) (w : World) (hp : Rd w .i64 p (dig B16 a)) (hq : Rd w .i64 q (dig B16 b)) (hn : n = (dig B16 a).length) (hm : m = (dig B16 b).length)
 (hl : (dig B16 a).length ≤ 1000000000) (hab : b ≤ a) :
 Calls Tryz.prog 78 #[.slice p n c, .slice q m d] w (f0b w .i64 (dig B16 (a - b))) := by
 subst hn hm
 have hge := a0j a0b hab
 have HXL := hi0 (b0a a0b a)
 have HYL := hi0 (b0a a0b b)
 have HA := hi0 (a0u a0b a)
 have HB := hi0 (a0u a0b b)
 generalize dig B16 a = xs at *
 generalize dig B16 b = ys at *
 have hsx := hp.solid
 have hsy := hq.solid
 go_enter Tryz.func78, Tryz.ntmps78
 go_wp2
 go_loopg [5, 6, 7] (xs.length) (fun g ov cv iv wr => ∃ (i cr : Nat) (t : Option Addr) (e : Nat) (O : List Nat), iv = .int .i64 i ∧ cv = .int .i64 cr ∧ ov = .slice t O.length e ∧ g + i = xs.length ∧ cr ≤ 1 ∧ i ≤ xs.length ∧ Hid (O.length = i) ∧
     Own wr w.heap.size .i64 3 t e O ∧ Below w.heap.size w wr ∧ Hid (g0i O xs ys i cr))
 case atStart => exact ⟨0, 0, none, 0, [], rfl, rfl, rfl, by omega, by omega, by omega, rfl, Own.nil _ _ _ _, Below.refl _ _, g0i.start xs ys⟩
 case round =>
  obtain ⟨i, cr, t, e, O, rfl, rfl, rfl, hg, hcr, hi, hO, hoq, hb, HR⟩ := hrel
  have hpL := hp.past hb
  have hqL := hq.past hb
  have hxd := a0i (B := 65536) (by omega) xs HXL.out i
  have hyd := a0i (B := 65536) (by omega) ys HYL.out i
  by_cases h1 : i < xs.length
  · have hc1 := hpL.cells i h1
    by_cases h2 : i < ys.length
    · have hc2 := hqL.cells i h2
      by_cases h3 : dg xs i < dg ys i + cr
      · have HS := hi0 (HR.out.step (dg xs i + 65536 - dg ys i - cr) 1 (by unfold B16; omega) (by omega) (by unfold B16; omega))
        go_wp2_with (first
          | (refine a0t rfl _ _ rfl tyN _ ?_ rfl ?_; omega; intro p2 w2 ho2 hb2 hz2 hp2)
          | (at_builtin; refine a0v rfl _ _ _ rfl tyN _ _ _ _ _ (hoq.past hb2) rfl _ _ _ _ ho2.rd rfl rfl rfl ?_ ?_ ?_; (have := hO.out; simp; omega); (have := hb2.size; have := hb.size; omega); intro p3 c3 w3 ho3 hg3 hb3 hn3))
        have hb4 := hb.trans ((hb2.mono hb.size).trans hb3)
        have e4 : ((dg xs i : Int) - cr - dg ys i + 65536).toNat = dg xs i + 65536 - dg ys i - cr := by omega
        rw [e4] at ho3
        go_roundg (xs.length - 1 - i)
        case measure => omega
        case rel => exact ⟨i + 1, 1, p3, c3, _, by go_num, rfl, by simp, by omega, by omega, by omega, (by show (O ++ _).length = i + 1; have := hO.out; simp; omega), ho3, hb4, HS⟩
      · have HS := hi0 (HR.out.step (dg xs i - dg ys i - cr) 0 (by unfold B16; omega) (by omega) (by unfold B16; omega))
        go_wp2_with (first
          | (refine a0t rfl _ _ rfl tyN _ ?_ rfl ?_; omega; intro p2 w2 ho2 hb2 hz2 hp2)
          | (at_builtin; refine a0v rfl _ _ _ rfl tyN _ _ _ _ _ (hoq.past hb2) rfl _ _ _ _ ho2.rd rfl rfl rfl ?_ ?_ ?_; (have := hO.out; simp; omega); (have := hb2.size; have := hb.size; omega); intro p3 c3 w3 ho3 hg3 hb3 hn3))
        have hb4 := hb.trans ((hb2.mono hb.size).trans hb3)
        have e4 : ((dg xs i : Int) - cr - dg ys i).toNat = dg xs i - dg ys i - cr := by omega
        rw [e4] at ho3
        go_roundg (xs.length - 1 - i)
        case measure => omega
        case rel => exact ⟨i + 1, 0, p3, c3, _, by go_num, rfl, by simp, by omega, by omega, by omega, (by show (O ++ _).length = i + 1; have := hO.out; simp; omega), ho3, hb4, HS⟩
    · have ez : dg ys i = 0 := b0j (by omega)
      by_cases h3 : dg xs i < cr
      · have HS := hi0 (HR.out.step (dg xs i + 65536 - cr) 1 (by unfold B16; omega) (by omega) (by unfold B16; omega))
        clear ez hyd
        go_wp2_with (first
          | (refine a0t rfl _ _ rfl tyN _ ?_ rfl ?_; omega; intro p2 w2 ho2 hb2 hz2 hp2)
          | (at_builtin; refine a0v rfl _ _ _ rfl tyN _ _ _ _ _ (hoq.past hb2) rfl _ _ _ _ ho2.rd rfl rfl rfl ?_ ?_ ?_; (have := hO.out; simp; omega); (have := hb2.size; have := hb.size; omega); intro p3 c3 w3 ho3 hg3 hb3 hn3))
        have hb4 := hb.trans ((hb2.mono hb.size).trans hb3)
        have e4 : ((dg xs i : Int) - cr + 65536).toNat = dg xs i + 65536 - cr := by omega
        rw [e4] at ho3
        go_roundg (xs.length - 1 - i)
        case measure => omega
        case rel => exact ⟨i + 1, 1, p3, c3, _, by go_num, rfl, by simp, by omega, by omega, by omega, (by show (O ++ _).length = i + 1; have := hO.out; simp; omega), ho3, hb4, HS⟩
      · have HS := hi0 (HR.out.step (dg xs i - cr) 0 (by unfold B16; omega) (by omega) (by unfold B16; omega))
        clear ez hyd
        go_wp2_with (first
          | (refine a0t rfl _ _ rfl tyN _ ?_ rfl ?_; omega; intro p2 w2 ho2 hb2 hz2 hp2)
          | (at_builtin; refine a0v rfl _ _ _ rfl tyN _ _ _ _ _ (hoq.past hb2) rfl _ _ _ _ ho2.rd rfl rfl rfl ?_ ?_ ?_; (have := hO.out; simp; omega); (have := hb2.size; have := hb.size; omega); intro p3 c3 w3 ho3 hg3 hb3 hn3))
        have hb4 := hb.trans ((hb2.mono hb.size).trans hb3)
        have e4 : ((dg xs i : Int) - cr).toNat = dg xs i - cr := by omega
        rw [e4] at ho3
        go_roundg (xs.length - 1 - i)
        case measure => omega
        case rel => exact ⟨i + 1, 0, p3, c3, _, by go_num, rfl, by simp, by omega, by omega, by omega, (by show (O ++ _).length = i + 1; have := hO.out; simp; omega), ho3, hb4, HS⟩
  · obtain rfl : i = xs.length := by omega
    have HD := hi0 (HR.out.done HA.out HB.out hge hab)
    go_wp2_with (go_at_call 134; refine (c0y _ _ _ O _ hoq.rd rfl hoq.le_cap HR.out.1 (by rw [hO.out]; omega)).mono ?_; rintro e w3 ⟨rfl, rfl⟩)
    go_ret
    have ht := a0r a0b O HR.out.1
    have ho2 := hoq.take (dig B16 (val B16 O)).length
    rw [ht, HD.out] at ho2
    rw [HD.out]
    exact ⟨t, _, rfl, ho2.rd, Nat.le_refl _, g0w ho2, hb⟩
theorem r0l (a N : Nat) : (dig B16 (a * 2 ^ N)).length ≤ (dig B16 a).length + (N / 16 + 1) := by
 refine Nat.le_trans (d0n a0b _ _) ?_
 have : (dig B16 (2 ^ N)).length = N / 16 + 1 := by rw [← i0v (B := B16) (w := 16) (by decide) (by omega) N]; simp
 omega
def a1w (a : Nat) (e f : Int) : Int := if a = 0 then f else min e f
theorem d1t (g h : Bool) (a b : Nat) (e f : Int) : f0s ⟨g, a, e⟩ ⟨h, b, f⟩ = if b = 0 then e else a1w a e f := rfl
theorem m0e (a : Nat) : (((dig B16 a).length : Int) == 0) = decide (a = 0) := by
 have := a0d a0b a
 by_cases h : a = 0
 · subst h; rw [a0c]; rfl
 · rw [decide_eq_false h]; exact bFn (by omega)
theorem r0m (g h : Bool) (p q : Option Addr) (n c m d : Nat) (e f : Int) (a b : Nat) (w : World) (hp : Rd w .i64 p (dig B16 a)) (hq : Rd w .i64 q (dig B16 b)) (hn : n = (dig B16 a).length) (hm : m = (dig B16 b).length)
 (hl : (dig B16 a).length ≤ 1000000) (hl2 : (dig B16 b).length ≤ 1000000) (he : -1000000 ≤ e ∧ e ≤ 1000000) (hf : -1000000 ≤ f ∧ f ≤ 1000000) :
 Calls Tryz.prog 23 #[.agg #[.bool g, .slice p n c, .int .i64 e], .agg #[.bool h, .slice q m d, .int .i64 f]] w (n0n w (fun _ => False) (d0l ⟨g, a, e⟩ ⟨h, b, f⟩)) := by
 subst hn hm
 obtain ⟨W1, hW1, hs1, A1, B1, R1, hz1⟩ := l1f w (.bool g) (.slice p (dig B16 a).length c) (.int .i64 e) (.bool h) (.slice q (dig B16 b).length d) (.int .i64 f) (.bool false) (.slice none 0 0) (.int .i64 0) 30 30 30
 have hp1 := hp.past hs1
 have hq1 := hq.past hs1
 have a1 := A1.c1
 have a2 := A1.c2
 have b1 := B1.c1
 have b2 := B1.c2
 have HW1 := hi0 hW1
 clear hW1
 have za := m0e a
 have zb := m0e b
 go_enter Tryz.func23, Tryz.ntmps23
 go_upto_if 16 with (fail)
 rw [← HW1.out]
 clear HW1
 go_cut [5] (fun s5 wx => s5 = .int .i64 (a1w a e f) ∧ wx = W1)
 case first =>
  go_wp2_with fail
  all_goals go_meet
  all_goals (refine ⟨?_, rfl⟩; unfold a1w; simp [*])
 case rest =>
  obtain ⟨rfl, rfl⟩ := hcut
  go_upto_if 22 with (fail)
  go_cut [5] (fun s5 wx => s5 = .int .i64 (f0s ⟨g, a, e⟩ ⟨h, b, f⟩) ∧ wx = wc)
  case first =>
   go_wp2_with fail
   all_goals go_meet
   all_goals (refine ⟨?_, rfl⟩; rw [d1t]; simp [*])
  case rest =>
   obtain ⟨rfl, rfl⟩ := hcut
   clear za zb
   go_wp2_with fail
   clear a1 a2 b1 b2
   obtain ⟨w1, hw1⟩ : ∃ w1, w1 = wc := ⟨_, rfl⟩
   subst hw1
   have HJ := hi0 (show d0l ⟨g, a, e⟩ ⟨h, b, f⟩ = bare (g0p g h (a * 2 ^ (e - f0s ⟨g, a, e⟩ ⟨h, b, f⟩).toNat) (b * 2 ^ (f - f0s ⟨g, a, e⟩ ⟨h, b, f⟩).toNat) (f0s ⟨g, a, e⟩ ⟨h, b, f⟩)) from rfl)
   have hk1 : -1000000 ≤ f0s ⟨g, a, e⟩ ⟨h, b, f⟩ ∧ f0s ⟨g, a, e⟩ ⟨h, b, f⟩ ≤ 1000000 := by unfold f0s; simp only; split; omega; split; omega; omega
   generalize f0s ⟨g, a, e⟩ ⟨h, b, f⟩ = k at *
   obtain ⟨N1, hN1⟩ : ∃ N1, N1 = (e - k).toNat := ⟨_, rfl⟩
   obtain ⟨N2, hN2⟩ : ∃ N2, N2 = (f - k).toNat := ⟨_, rfl⟩
   rw [← hN1, ← hN2] at HJ
   have n1 : N1 ≤ 2000000 := by omega
   have n2 : N2 ≤ 2000000 := by omega
   have e1 : IntKind.i64.wrap (e - k) = e - k := iwo
   have e2 : IntKind.i64.wrap (f - k) = f - k := iwo
   have m1 : max 0 (e - k) = (N1 : Int) := by omega
   have m2 : max 0 (f - k) = (N2 : Int) := by omega
   clear hN1 hN2
   go_cut [6, 7] (fun s6 s7 wx => ∃ (px : Option Addr) (cx : Nat) (py : Option Addr) (cy : Nat), s6 = .slice px (dig B16 (a * 2 ^ N1)).length cx ∧ s7 = .slice py (dig B16 (b * 2 ^ N2)).length cy ∧
     Rd wx .i64 px (dig B16 (a * 2 ^ N1)) ∧ Rd wx .i64 py (dig B16 (b * 2 ^ N2)) ∧ Below w1.heap.size w1 wx)
   case first =>
    go_region_held3 (fun w' => (w'.cell? ⟨w.heap.size, 1, none⟩ = some (.slice p (dig B16 a).length c) ∧ w'.cell? ⟨w.heap.size, 2, none⟩ = some (.int .i64 e)) ∧
        (w'.cell? ⟨w.heap.size + 1, 1, none⟩ = some (.slice q (dig B16 b).length d) ∧ w'.cell? ⟨w.heap.size + 1, 2, none⟩ = some (.int .i64 f)))
     (first | exact ⟨⟨A1.c1, A1.c2⟩, B1.c1, B1.c2⟩
            | (have D1 := A1.drew; have D2 := B1.drew; exact ⟨⟨D1.c1, D1.c2⟩, D2.c1, D2.c2⟩)
            | (have D1 := (A1.drew.past hbx).past hby; have D2 := (B1.drew.past hbx).past hby; exact ⟨⟨D1.c1, D1.c2⟩, D2.c1, D2.c2⟩)
            | (have D1 := (A1.drew.past hby).past hbx; have D2 := (B1.drew.past hby).past hbx; exact ⟨⟨D1.c1, D1.c2⟩, D2.c1, D2.c2⟩)
            | (have D1 := A1.drew.past hbx; have D2 := B1.drew.past hbx; exact ⟨⟨D1.c1, D1.c2⟩, D2.c1, D2.c2⟩)
            | (have D1 := A1.drew.past hby; have D2 := B1.drew.past hby; exact ⟨⟨D1.c1, D1.c2⟩, D2.c1, D2.c2⟩))
     (first
       | (go_at_call_of 57 (Value.slice p (dig B16 a).length c); refine (h0h p _ c a N1 _ ?_ rfl (by clear e1 e2 m1 m2; omega) (by clear e1 e2 m1 m2; omega)).mono ?_; (first | exact hp1.drew | exact hp1.drew.past hby); rintro ex wx ⟨px, cx, rfl, hrx, hcx, hfx, hbx⟩)
       | (go_at_call_of 57 (Value.slice q (dig B16 b).length d); refine (h0h q _ d b N2 _ ?_ rfl (by clear e1 e2 m1 m2; omega) (by clear e1 e2 m1 m2; omega)).mono ?_; (first | exact hq1.drew | exact hq1.drew.past hbx); rintro ey wy ⟨py, cy, rfl, hry, hcy, hfy, hby⟩))
    all_goals (clear e1 e2 m1 m2)
    all_goals (go_wp2_with fail)
    all_goals go_meet
    all_goals (first
      | exact ⟨px, cx, py, cy, rfl, rfl, hrx.past hby, hry, ((Below.refl _ _).drew.trans hbx).trans (hby.mono hbx.size)⟩
      | exact ⟨px, cx, py, cy, rfl, rfl, hrx, hry.past hbx, ((Below.refl _ _).drew.trans hby).trans (hbx.mono hby.size)⟩)
   case rest =>
    obtain ⟨px, cx, py, cy, rfl, rfl, hrx, hry, hb4⟩ := hcut
    clear e1 e2 m1 m2
    have lX : (dig B16 (a * 2 ^ N1)).length ≤ 2000000 := by have := r0l a N1; omega
    have lY : (dig B16 (b * 2 ^ N2)).length ≤ 2000000 := by have := r0l b N2; omega
    generalize a * 2 ^ N1 = x at *
    generalize b * 2 ^ N2 = y at *
    have hs4 := hs1.trans (hb4.mono hs1.size)
    have A4 := A1.past hb4
    have B4 := B1.past hb4
    have R4 := R1.past hb4
    have a0 := A4.c0
    have b0 := B4.c0
    have hzc := hb4.size
    clear a0 b0
    have hxy0 : 0 ≤ k + 1000000 := by omega
    by_cases hgh : g = h
    · subst hgh
      have HK := hi0 (HJ.out.trans (congrArg bare (show g0p g g x y k = ⟨g, x + y, k⟩ by unfold g0p; rw [if_pos rfl])))
      have hgg : (g == g) = true := by simp
      have lm : (dig B16 (x + y)).length ≤ 5000000 := by have := e0s a0b x y; omega
      have a0 := A4.c0
      have b0 := B4.c0
      go_wp2_with fail
      clear a0 b0
      obtain ⟨m, hm⟩ : ∃ m, x + y = m := ⟨_, rfl⟩
      have HM := hi0 hm
      rw [hm] at HK lm
      clear hm
      go_region_held3 (fun w' => w'.cell? ⟨w.heap.size, 0, none⟩ = some (.bool g))
       (first | exact A4.c0 | exact A4.drew.c0 | exact (A4.drew.past hb6).c0 | exact ((A4.drew.past hb6).past hb7).c0 | exact (((((A4.drew.past hb6).past hb7).set (by omega)).set (by omega)).set (by omega)).c0)
       (first | (go_at_call 61; refine (i0l px py _ _ cx cy x y _ hrx.drew hry.drew rfl rfl (by omega)).mono ?_; rw [HM.out]; rintro e6 w6 ⟨p6, c6, rfl, hr6, hc6, hf6, hb6⟩)
              | (go_at_call 62; refine (f0f g p6 _ c6 k m _ hr6 rfl (by omega) (by omega)).mono ?_; generalize bare ⟨g, m, k⟩ = rr at *; rintro e7 w7 ⟨p7, c7, rfl, hr7, hc7, hf7, hb7⟩; obtain ⟨d0, d1, d2, f0, f1, f2, dlt⟩ := (R4.drew.past hb6).past hb7))
      all_goals (go_wp2_with fail)
      refine bodyPost_ret (v := .agg #[.bool rr.neg, .slice p7 (dig B16 rr.m).length c7, .int .i64 rr.e]) (by simp [results, Tryz.results23, go_sem, d0, d1, d2]) rfl ?_
      rw [HK.out]
      have hzd : wc.drew.heap.size = wc.heap.size := rfl
      have hs6 := hs4.drew.trans (hb6.mono hs4.size)
      have hz6 := hb6.size
      have hzR := R4.lt
      have hzS := hs4.size
      have hf : 0 < (dig B16 rr.m).length → w6.heap.size ≤ blk p7 := fun h => by rcases hf7 h with h | h; exact h.elim; exact h
      exact f0a (hs6.trans (hb7.mono hs6.size)) hr7 hc7 (fun h => .inr (by have := hf h; omega)) (by omega) (fun h => by have := hf h; omega)
    · by_cases hxy : y ≤ x
      · have HK := hi0 (HJ.out.trans (congrArg bare (show g0p g h x y k = ⟨g, x - y, k⟩ by unfold g0p; rw [if_neg hgh, if_pos hxy])))
        have hgg : (g == h) = false := by simpa using hgh
        have hC : 0 ≤ cmpN x y := by unfold cmpN; rw [if_neg (by omega)]; split <;> omega
        have HXY := hi0 hxy
        have lm : (dig B16 (x - y)).length ≤ 5000000 := by have := a0j a0b (Nat.sub_le x y); omega
        clear hxy hgh
        have a0 := A4.c0
        have b0 := B4.c0
        go_wp2_with fail
        ((with_reducible refine (d0q px py _ _ cx cy x y _ hrx hry rfl rfl (by omega) (by omega)).mono ?_))
        rintro e9 w9 ⟨rfl, hb9⟩
        clear a0 b0
        have hs9 := hs4.trans (hb9.mono hs4.size)
        have hz9 := hb9.size
        replace A4 := A4.past hb9
        replace B4 := B4.past hb9
        replace R4 := R4.past hb9
        replace hrx := hrx.past hb9
        replace hry := hry.past hb9
        go_wp2_with fail
        obtain ⟨m, hm⟩ : ∃ m, x - y = m := ⟨_, rfl⟩
        have HM := hi0 hm
        rw [hm] at HK lm
        clear hm
        go_region_held3 (fun w' => w'.cell? ⟨w.heap.size, 0, none⟩ = some (.bool g))
         (first | exact A4.c0 | exact A4.drew.c0 | exact (A4.drew.past hb6).c0 | exact ((A4.drew.past hb6).past hb7).c0 | exact (((((A4.drew.past hb6).past hb7).set (by omega)).set (by omega)).set (by omega)).c0)
         (first | (go_at_call 78; refine (i0n px py _ _ cx cy x y _ hrx.drew hry.drew rfl rfl (by omega) HXY.out).mono ?_; rw [HM.out]; rintro e6 w6 ⟨p6, c6, rfl, hr6, hc6, hf6, hb6⟩)
                | (go_at_call 62; refine (f0f g p6 _ c6 k m _ hr6 rfl (by omega) (by omega)).mono ?_; generalize bare ⟨g, m, k⟩ = rr at *; rintro e7 w7 ⟨p7, c7, rfl, hr7, hc7, hf7, hb7⟩; obtain ⟨d0, d1, d2, f0, f1, f2, dlt⟩ := (R4.drew.past hb6).past hb7))
        all_goals (go_wp2_with fail)
        refine bodyPost_ret (v := .agg #[.bool rr.neg, .slice p7 (dig B16 rr.m).length c7, .int .i64 rr.e]) (by simp [results, Tryz.results23, go_sem, d0, d1, d2]) rfl ?_
        rw [HK.out]
        have hzd : w9.drew.heap.size = w9.heap.size := rfl
        have hs6 := hs9.drew.trans (hb6.mono hs9.size)
        have hz6 := hb6.size
        have hzR := R4.lt
        have hzS := hs9.size
        have hf : 0 < (dig B16 rr.m).length → w6.heap.size ≤ blk p7 := fun h => by rcases hf7 h with h | h; exact h.elim; exact h
        exact f0a (hs6.trans (hb7.mono hs6.size)) hr7 hc7 (fun h => .inr (by have := hf h; omega)) (by omega) (fun h => by have := hf h; omega)
      · have HK := hi0 (HJ.out.trans (congrArg bare (show g0p g h x y k = ⟨h, y - x, k⟩ by unfold g0p; rw [if_neg hgh, if_neg hxy])))
        have hgg : (g == h) = false := by simpa using hgh
        have hC : cmpN x y ≤ -1 := by rw [f0j (by omega)]; omega
        have HXY := hi0 (show x ≤ y by omega)
        have lm : (dig B16 (y - x)).length ≤ 5000000 := by have := a0j a0b (Nat.sub_le y x); omega
        clear hxy hgh
        have a0 := A4.c0
        have b0 := B4.c0
        go_wp2_with fail
        ((with_reducible refine (d0q px py _ _ cx cy x y _ hrx hry rfl rfl (by omega) (by omega)).mono ?_))
        rintro e9 w9 ⟨rfl, hb9⟩
        clear a0 b0
        have hs9 := hs4.trans (hb9.mono hs4.size)
        have hz9 := hb9.size
        replace A4 := A4.past hb9
        replace B4 := B4.past hb9
        replace R4 := R4.past hb9
        replace hrx := hrx.past hb9
        replace hry := hry.past hb9
        go_wp2_with fail
        obtain ⟨m, hm⟩ : ∃ m, y - x = m := ⟨_, rfl⟩
        have HM := hi0 hm
        rw [hm] at HK lm
        clear hm
        go_region_held3 (fun w' => w'.cell? ⟨w.heap.size + 1, 0, none⟩ = some (.bool h))
         (first | exact B4.c0 | exact B4.drew.c0 | exact (B4.drew.past hb6).c0 | exact ((B4.drew.past hb6).past hb7).c0 | exact (((((B4.drew.past hb6).past hb7).set (by omega)).set (by omega)).set (by omega)).c0)
         (first | (go_at_call 78; refine (i0n py px _ _ cy cx y x _ hry.drew hrx.drew rfl rfl (by omega) HXY.out).mono ?_; rw [HM.out]; rintro e6 w6 ⟨p6, c6, rfl, hr6, hc6, hf6, hb6⟩)
                | (go_at_call 62; refine (f0f h p6 _ c6 k m _ hr6 rfl (by omega) (by omega)).mono ?_; generalize bare ⟨h, m, k⟩ = rr at *; rintro e7 w7 ⟨p7, c7, rfl, hr7, hc7, hf7, hb7⟩; obtain ⟨d0, d1, d2, f0, f1, f2, dlt⟩ := (R4.drew.past hb6).past hb7))
        all_goals (go_wp2_with fail)
        refine bodyPost_ret (v := .agg #[.bool rr.neg, .slice p7 (dig B16 rr.m).length c7, .int .i64 rr.e]) (by simp [results, Tryz.results23, go_sem, d0, d1, d2]) rfl ?_
        rw [HK.out]
        have hzd : w9.drew.heap.size = w9.heap.size := rfl
        have hs6 := hs9.drew.trans (hb6.mono hs9.size)
        have hz6 := hb6.size
        have hzR := R4.lt
        have hzS := hs9.size
        have hf : 0 < (dig B16 rr.m).length → w6.heap.size ≤ blk p7 := fun h => by rcases hf7 h with h | h; exact h.elim; exact h
        exact f0a (hs6.trans (hb7.mono hs6.size)) hr7 hc7 (fun h => .inr (by have := hf h; omega)) (by omega) (fun h => by have := hf h; omega)
theorem w0t (a b : Dv) : rCmp a b = if (d0l a (b0h b)).m = 0 then 0 else if (d0l a (b0h b)).neg then -1 else 1 := rfl
end Go.Proofs.YtmacohmclpnphaaGreatDoor
namespace Go.Slip
end Go.Slip
namespace Go.Proofs.YtmacohmclpnphaaGreatDoor
open Go.RowKit Go.Slip
theorem m0f : dig B16 1 = [1] := by rw [d0i a0b (by omega), show 1 / B16 = 0 by unfold B16; omega, a0c, show 1 % B16 = 1 by unfold B16; omega]
theorem r0n {w : World} {b : Nat} {t : TypeId} (h : Bt w b t #[.int .i64 1]) : Rf w b (some ⟨b, 0, none⟩) 1 (dig B16 1) := by rw [m0f]; exact e1z (k := 1) h
theorem g0b : 1 = (dig B16 1).length := by rw [m0f]; rfl
theorem stay {P : Program} {f : FuncId} {args : Array Value} {w : World} {E : Ending} (h : Calls P f args w fun e w' => e = E ∧ w = w') : Calls P f args w fun e w' => e = E ∧ Below w.heap.size w w' :=
 h.mono fun e w' ⟨h1, h2⟩ => ⟨h1, by subst h2; exact Below.refl _ _⟩
theorem r0o {a b : Nat} (h : cmpN a b = 0) : a = b := by
 unfold cmpN at h
 split at h
 · omega
 · split at h <;> omega
theorem k1k {n : Nat} (x : Nat) (hl : (dig B32 x).length ≤ n) : tz x ≤ 32 * n := by
 rcases Nat.eq_zero_or_pos x with h | h
 · rw [h, x0x]; omega
 · have h1 := (c0h x h).1
   have h2 := (a0e a0a x n).1 hl
   have h3 : 2 ^ tz x ≤ x := by
    have : 0 < x / 2 ^ tz x := by
     rcases Nat.eq_zero_or_pos (x / 2 ^ tz x) with h4 | h4
     · rw [h4, Nat.mul_zero] at h1; omega
     · exact h4
    have h5 := Nat.mul_le_mul_left (2 ^ tz x) this
    omega
   rw [show B32 = 2 ^ 32 from rfl, ← Nat.pow_mul] at h2
   have h6 := (Nat.pow_lt_pow_iff_right (a := 2) (by omega)).1 (Nat.lt_of_le_of_lt h3 h2)
   omega
theorem l1t (x : Nat) (hl : (dig B32 x).length ≤ 1000) : tz x ≤ 32000 := k1k x hl
def f1r (w : World) (base : Nat) (d : Dc) (en : Ending) (w' : World) : Prop :=
 ∃ p c, en = .returned (.tuple #[.int .i64 (d.cls : Int), .slice p (dig B32 d.m).length c, .int .i64 d.p]) ∧ Own w' base .u32 141 p c (dig B32 d.m) ∧ Below w.heap.size w w'
theorem c0z {w w' : World} {base : Nat} {k : Nat} {en : Ending} (h : en = .returned (.tuple #[.int .i64 (k : Int), .slice none 0 0, .int .i64 0])) (hb : Below w.heap.size w w') : f1r w base ⟨k, 0, 0⟩ en w' := by
 refine ⟨none, 0, ?_, ?_, hb⟩
 · rw [h, a0c]; rfl
 · rw [a0c]; exact Own.nil _ _ _ _
theorem a1x (f : Fm) (g : Bool) (e x : Nat) (p : Option Addr) (c base : Nat) (w : World) (G : c0l f) (hp : Own w base .u32 141 p c (dig B32 x)) (hb : base ≤ w.heap.size) (he : e < 2 ^ f.E) (hx : x < 2 ^ f.F) :
 Calls Tryz.prog 149 #[.agg #[.int .i64 (f.size : Int), .int .i64 (f.E : Int), .int .i64 (f.F : Int), .int .i64 f.g.rad, .int .i64 f.g.digs, .int .i64 f.g.lo, .int .i64 f.g.hi, .bool f.g.grad, .bool f.hid, .bool f.inf, .bool f.res, .func (.func (ordF f)) #[] #[]], .agg #[.bool g, .int .i64 (e : Int), .slice p (dig B32 x).length c]] w (f1r w base (f.dec g e x)) := by
 have z2 := G.e2
 have z3 := G.f2
 have z4 := G.lo
 have hxl := a0q hx (k := 2) (by omega)
 have hx0 := a0d a0a x
 have h0T : 0 < 2 ^ f.E := Nat.pow_pos (by omega)
 have h0T2 : 2 ^ f.E ≤ 2 ^ 15 := Nat.pow_le_pow_right (by omega) (by omega)
 have HSH := hi0 (p0e (E := f.E) (by omega))
 by_cases f2 : f.fam = 2
 · have hD : f.dec g e x = ⟨2, x, f.g.lo + e⟩ := by unfold Fm.dec; rw [if_pos f2]
   rw [hD]
   generalize 2 ^ f.E = P at *
   have r1 := G.rad
   rw [if_pos f2] at r1
   have I := Inv.start w [ownF base .u32 141 p c (dig B32 x)] ⟨hp, True.intro⟩
   refine a0f [.v (.agg #[.int .i64 (f.size : Int), .int .i64 (f.E : Int), .int .i64 (f.F : Int), .int .i64 f.g.rad, .int .i64 f.g.digs, .int .i64 f.g.lo, .int .i64 f.g.hi, .bool f.g.grad, .bool f.hid, .bool f.inf, .bool f.res, .func (.func (ordF f)) #[] #[]]), .v (.agg #[.bool g, .int .i64 (e : Int), .slice p (dig B32 x).length c])] I Tryz.func149 ?_
   refine zbin I 11 _ (fun _ _ _ _ _ => c0i .i64 (1) .i64 (f.E : Int) ((P : Int)) (by omega) ((HSH.out))) fun Al W I => ?_
   refine zi I 12 .i64 ((P : Int) - 1) (((P - 1 : Nat) : Int)) ((by rw [show ((P : Int) - 1) = ((P - 1 : Nat) : Int) by omega]; exact iwo)) fun Al W I => ?_
   refine zb I 20 (f.g.rad == 16) (true) (beq_iff_eq.2 r1) fun Al W I => ?_
   refine zd [] I fun Al W I => ?_
   refine zk [0, 1, 2, 3, 4] I fun I => ?_
   refine zki 5 I .i64 (f.g.lo + (e : Int)) (f.g.lo + (e : Int)) (iwo) fun I => ?_
   refine zk [6, 7, 8] I fun I => ?_
   exact zret I fun Al W I => ⟨p, c, rfl, I.fa.1, I.below⟩
 · have r1 := G.rad
   rw [if_neg f2] at r1
   have hr : (f.g.rad == 16) = false := by rw [r1]; rfl
   by_cases f1 : f.fam = 1
   · have hinf : f.inf = true := by unfold Fm.inf; rw [f1]; rfl
     have hres : f.res = false := by unfold Fm.res; rw [f1]; rfl
     by_cases hl : e = 2 ^ f.E - 1
     · by_cases hex : f.ext = false
       · have hhid : f.hid = true := by unfold Fm.hid; rw [f1, hex]; rfl
         by_cases h0 : x = 0
         · have hD : f.dec g e x = ⟨3, 0, 0⟩ := by unfold Fm.dec; rw [if_neg f2, if_pos ⟨f1, hl⟩, if_pos (.inl ⟨hex, h0⟩)]
           rw [hD]
           generalize 2 ^ f.E = P at *
           have I := Inv.start w [ownF base .u32 141 p c (dig B32 x)] ⟨hp, True.intro⟩
           refine a0f [.v (.agg #[.int .i64 (f.size : Int), .int .i64 (f.E : Int), .int .i64 (f.F : Int), .int .i64 f.g.rad, .int .i64 f.g.digs, .int .i64 f.g.lo, .int .i64 f.g.hi, .bool f.g.grad, .bool f.hid, .bool f.inf, .bool f.res, .func (.func (ordF f)) #[] #[]]), .v (.agg #[.bool g, .int .i64 (e : Int), .slice p (dig B32 x).length c])] I Tryz.func149 ?_
           refine zbin I 11 _ (fun _ _ _ _ _ => c0i .i64 (1) .i64 (f.E : Int) ((P : Int)) (by omega) ((HSH.out))) fun Al W I => ?_
           refine zi I 12 .i64 ((P : Int) - 1) (((P - 1 : Nat) : Int)) ((by rw [show ((P : Int) - 1) = ((P - 1 : Nat) : Int) by omega]; exact iwo)) fun Al W I => ?_
           refine zb I 20 (f.g.rad == 16) (false) (hr) fun Al W I => ?_
           refine zb I 29 (f.inf) (true) (hinf) fun Al W I => ?_
           refine zb I 34 ((e : Int) == ((P - 1 : Nat) : Int)) (true) (beq_iff_eq.2 (by omega)) fun Al W I => ?_
           refine zd [] I fun Al W I => ?_
           refine zk [0] I fun I => ?_
           refine zkb 1 I (f.hid) (true) (hhid) fun I => ?_
           refine zk [2, 3, 4, 5] I fun I => ?_
           refine zkb 6 I ((((dig B32 x).length : Nat) : Int) == 0) (true) (beq_iff_eq.2 (by omega)) fun I => ?_
           refine zk [7, 8, 9, 10, 11, 12, 13, 14, 15, 16, 17, 18, 19] I fun I => ?_
           exact zret I fun Al W I => c0z (k := 3) rfl I.below
         · have hD : f.dec g e x = ⟨4, 0, 0⟩ := by unfold Fm.dec; rw [if_neg f2, if_pos ⟨f1, hl⟩, if_neg (by simp [hex, h0])]
           rw [hD]
           generalize 2 ^ f.E = P at *
           have I := Inv.start w [ownF base .u32 141 p c (dig B32 x)] ⟨hp, True.intro⟩
           refine a0f [.v (.agg #[.int .i64 (f.size : Int), .int .i64 (f.E : Int), .int .i64 (f.F : Int), .int .i64 f.g.rad, .int .i64 f.g.digs, .int .i64 f.g.lo, .int .i64 f.g.hi, .bool f.g.grad, .bool f.hid, .bool f.inf, .bool f.res, .func (.func (ordF f)) #[] #[]]), .v (.agg #[.bool g, .int .i64 (e : Int), .slice p (dig B32 x).length c])] I Tryz.func149 ?_
           refine zbin I 11 _ (fun _ _ _ _ _ => c0i .i64 (1) .i64 (f.E : Int) ((P : Int)) (by omega) ((HSH.out))) fun Al W I => ?_
           refine zi I 12 .i64 ((P : Int) - 1) (((P - 1 : Nat) : Int)) ((by rw [show ((P : Int) - 1) = ((P - 1 : Nat) : Int) by omega]; exact iwo)) fun Al W I => ?_
           refine zb I 20 (f.g.rad == 16) (false) (hr) fun Al W I => ?_
           refine zb I 29 (f.inf) (true) (hinf) fun Al W I => ?_
           refine zb I 34 ((e : Int) == ((P - 1 : Nat) : Int)) (true) (beq_iff_eq.2 (by omega)) fun Al W I => ?_
           refine zd [] I fun Al W I => ?_
           refine zk [0] I fun I => ?_
           refine zkb 1 I (f.hid) (true) (hhid) fun I => ?_
           refine zk [2, 3, 4, 5] I fun I => ?_
           refine zkb 6 I ((((dig B32 x).length : Nat) : Int) == 0) (false) (bFn (by omega)) fun I => ?_
           refine zk [7, 8, 9] I fun I => ?_
           refine zkb 10 I (f.hid) (true) (hhid) fun I => ?_
           refine zk [11, 12, 13, 14, 15, 16, 17, 18, 19] I fun I => ?_
           exact zret I fun Al W I => c0z (k := 4) rfl I.below
       · have hex : f.ext = true := by simpa using hex
         have hhid : f.hid = false := by unfold Fm.hid; rw [f1, hex]; rfl
         have hl63 : (dig B32 (2 ^ 63)).length ≤ 2 := a0q (n := 64) (by omega) (by omega)
         by_cases h0 : x = 2 ^ 63
         · have hD : f.dec g e x = ⟨3, 0, 0⟩ := by unfold Fm.dec; rw [if_neg f2, if_pos ⟨f1, hl⟩, if_pos (.inr ⟨hex, h0⟩)]
           have hcm : cmpN x (2 ^ 63) = 0 := by rw [h0]; unfold cmpN; simp
           rw [hD]
           generalize 2 ^ f.E = P at *
           have I := Inv.start w [ownF base .u32 141 p c (dig B32 x)] ⟨hp, True.intro⟩
           refine a0f [.v (.agg #[.int .i64 (f.size : Int), .int .i64 (f.E : Int), .int .i64 (f.F : Int), .int .i64 f.g.rad, .int .i64 f.g.digs, .int .i64 f.g.lo, .int .i64 f.g.hi, .bool f.g.grad, .bool f.hid, .bool f.inf, .bool f.res, .func (.func (ordF f)) #[] #[]]), .v (.agg #[.bool g, .int .i64 (e : Int), .slice p (dig B32 x).length c])] I Tryz.func149 ?_
           refine zbin I 11 _ (fun _ _ _ _ _ => c0i .i64 (1) .i64 (f.E : Int) ((P : Int)) (by omega) ((HSH.out))) fun Al W I => ?_
           refine zi I 12 .i64 ((P : Int) - 1) (((P - 1 : Nat) : Int)) ((by rw [show ((P : Int) - 1) = ((P - 1 : Nat) : Int) by omega]; exact iwo)) fun Al W I => ?_
           refine zb I 20 (f.g.rad == 16) (false) (hr) fun Al W I => ?_
           refine zb I 29 (f.inf) (true) (hinf) fun Al W I => ?_
           refine zb I 34 ((e : Int) == ((P - 1 : Nat) : Int)) (true) (beq_iff_eq.2 (by omega)) fun Al W I => ?_
           refine zd [] I fun Al W I => ?_
           refine zk [0] I fun I => ?_
           refine zkb 1 I (f.hid) (false) (hhid) fun I => ?_
           refine zk [2, 3, 4, 5, 6, 7, 8, 9] I fun I => ?_
           refine zkb 10 I (f.hid) (false) (hhid) fun I => ?_
           refine zk [11, 12, 13, 14] I fun I => ?_
           refine zo 15 I fun I => ?_
           refine zqo I (fun Al W I => have hzW := I.bel.size; f0o 63 (2 ^ 63) 63 W (by omega) rfl rfl) fun Al W p51 c51 I => ?_
           refine zo 16 I fun I => ?_
           refine zq I (fun Al W I => have hzW := I.bel.size; e0g p p51 _ _ c c51 x (2 ^ 63) W I.fa.2.1.rd I.fa.1.rd rfl rfl (by omega) (by omega)) fun Al W I => ?_
           refine zkb 17 I ((cmpN x (2 ^ 63)) == 0) (true) (by rw [hcm]; rfl) fun I => ?_
           refine zk [18, 19] I fun I => ?_
           exact zret I fun Al W I => c0z (k := 3) rfl I.below
         · have hD : f.dec g e x = ⟨4, 0, 0⟩ := by unfold Fm.dec; rw [if_neg f2, if_pos ⟨f1, hl⟩, if_neg (by simp [hex]; omega)]
           have hcm : (cmpN x (2 ^ 63) == 0) = false := by rw [beq_eq_false_iff_ne]; intro h; exact h0 (r0o h)
           rw [hD]
           generalize 2 ^ f.E = P at *
           have I := Inv.start w [ownF base .u32 141 p c (dig B32 x)] ⟨hp, True.intro⟩
           refine a0f [.v (.agg #[.int .i64 (f.size : Int), .int .i64 (f.E : Int), .int .i64 (f.F : Int), .int .i64 f.g.rad, .int .i64 f.g.digs, .int .i64 f.g.lo, .int .i64 f.g.hi, .bool f.g.grad, .bool f.hid, .bool f.inf, .bool f.res, .func (.func (ordF f)) #[] #[]]), .v (.agg #[.bool g, .int .i64 (e : Int), .slice p (dig B32 x).length c])] I Tryz.func149 ?_
           refine zbin I 11 _ (fun _ _ _ _ _ => c0i .i64 (1) .i64 (f.E : Int) ((P : Int)) (by omega) ((HSH.out))) fun Al W I => ?_
           refine zi I 12 .i64 ((P : Int) - 1) (((P - 1 : Nat) : Int)) ((by rw [show ((P : Int) - 1) = ((P - 1 : Nat) : Int) by omega]; exact iwo)) fun Al W I => ?_
           refine zb I 20 (f.g.rad == 16) (false) (hr) fun Al W I => ?_
           refine zb I 29 (f.inf) (true) (hinf) fun Al W I => ?_
           refine zb I 34 ((e : Int) == ((P - 1 : Nat) : Int)) (true) (beq_iff_eq.2 (by omega)) fun Al W I => ?_
           refine zd [] I fun Al W I => ?_
           refine zk [0] I fun I => ?_
           refine zkb 1 I (f.hid) (false) (hhid) fun I => ?_
           refine zk [2, 3, 4, 5, 6, 7, 8, 9] I fun I => ?_
           refine zkb 10 I (f.hid) (false) (hhid) fun I => ?_
           refine zk [11, 12, 13, 14] I fun I => ?_
           refine zo 15 I fun I => ?_
           refine zqo I (fun Al W I => have hzW := I.bel.size; f0o 63 (2 ^ 63) 63 W (by omega) rfl rfl) fun Al W p51 c51 I => ?_
           refine zo 16 I fun I => ?_
           refine zq I (fun Al W I => have hzW := I.bel.size; e0g p p51 _ _ c c51 x (2 ^ 63) W I.fa.2.1.rd I.fa.1.rd rfl rfl (by omega) (by omega)) fun Al W I => ?_
           refine zkb 17 I ((cmpN x (2 ^ 63)) == 0) (false) (hcm) fun I => ?_
           refine zk [18, 19] I fun I => ?_
           exact zret I fun Al W I => c0z (k := 4) rfl I.below
     · by_cases h0 : e = 0
       · have hD : f.dec g e x = ⟨2, x, f.g.lo⟩ := by unfold Fm.dec; rw [if_neg f2, if_neg (fun h => hl h.2), if_neg (by omega), if_pos h0]
         rw [hD]
         generalize 2 ^ f.E = P at *
         have I := Inv.start w [ownF base .u32 141 p c (dig B32 x)] ⟨hp, True.intro⟩
         refine a0f [.v (.agg #[.int .i64 (f.size : Int), .int .i64 (f.E : Int), .int .i64 (f.F : Int), .int .i64 f.g.rad, .int .i64 f.g.digs, .int .i64 f.g.lo, .int .i64 f.g.hi, .bool f.g.grad, .bool f.hid, .bool f.inf, .bool f.res, .func (.func (ordF f)) #[] #[]]), .v (.agg #[.bool g, .int .i64 (e : Int), .slice p (dig B32 x).length c])] I Tryz.func149 ?_
         refine zbin I 11 _ (fun _ _ _ _ _ => c0i .i64 (1) .i64 (f.E : Int) ((P : Int)) (by omega) ((HSH.out))) fun Al W I => ?_
         refine zi I 12 .i64 ((P : Int) - 1) (((P - 1 : Nat) : Int)) ((by rw [show ((P : Int) - 1) = ((P - 1 : Nat) : Int) by omega]; exact iwo)) fun Al W I => ?_
         refine zb I 20 (f.g.rad == 16) (false) (hr) fun Al W I => ?_
         refine zb I 29 (f.inf) (true) (hinf) fun Al W I => ?_
         refine zb I 34 ((e : Int) == ((P - 1 : Nat) : Int)) (false) (bFn (by omega)) fun Al W I => ?_
         refine zb I 59 ((e : Int) == 0) (true) (beq_iff_eq.2 (by omega)) fun Al W I => ?_
         refine zb I 62 (f.res) (false) (hres) fun Al W I => ?_
         refine zb I 69 ((e : Int) == 0) (true) (beq_iff_eq.2 (by omega)) fun Al W I => ?_
         refine zd [] I fun Al W I => ?_
         refine zk [0, 1, 2, 3, 4, 5] I fun I => ?_
         exact zret I fun Al W I => ⟨p, c, rfl, I.fa.1, I.below⟩
       · by_cases hex : f.ext = false
         · have hhid : f.hid = true := by unfold Fm.hid; rw [f1, hex]; rfl
           have hD : f.dec g e x = ⟨2, x + 2 ^ f.F, f.g.lo + e - 1⟩ := by unfold Fm.dec; rw [if_neg f2, if_neg (fun h => hl h.2), if_neg (by omega), if_neg h0, if_pos hex]
           have hlF : (dig B32 (2 ^ f.F)).length ≤ 3 := a0q (n := f.F + 1) (Nat.pow_lt_pow_right (by omega) (by omega)) (by omega)
           rw [hD]
           generalize 2 ^ f.E = P at *
           have I := Inv.start w [ownF base .u32 141 p c (dig B32 x)] ⟨hp, True.intro⟩
           refine a0f [.v (.agg #[.int .i64 (f.size : Int), .int .i64 (f.E : Int), .int .i64 (f.F : Int), .int .i64 f.g.rad, .int .i64 f.g.digs, .int .i64 f.g.lo, .int .i64 f.g.hi, .bool f.g.grad, .bool f.hid, .bool f.inf, .bool f.res, .func (.func (ordF f)) #[] #[]]), .v (.agg #[.bool g, .int .i64 (e : Int), .slice p (dig B32 x).length c])] I Tryz.func149 ?_
           refine zbin I 11 _ (fun _ _ _ _ _ => c0i .i64 (1) .i64 (f.E : Int) ((P : Int)) (by omega) ((HSH.out))) fun Al W I => ?_
           refine zi I 12 .i64 ((P : Int) - 1) (((P - 1 : Nat) : Int)) ((by rw [show ((P : Int) - 1) = ((P - 1 : Nat) : Int) by omega]; exact iwo)) fun Al W I => ?_
           refine zb I 20 (f.g.rad == 16) (false) (hr) fun Al W I => ?_
           refine zb I 29 (f.inf) (true) (hinf) fun Al W I => ?_
           refine zb I 34 ((e : Int) == ((P - 1 : Nat) : Int)) (false) (bFn (by omega)) fun Al W I => ?_
           refine zb I 59 ((e : Int) == 0) (false) (bFn (by omega)) fun Al W I => ?_
           refine zb I 69 ((e : Int) == 0) (false) (bFn (by omega)) fun Al W I => ?_
           refine zb I 75 (f.hid) (true) (hhid) fun Al W I => ?_
           refine zd [] I fun Al W I => ?_
           refine zk [0, 1, 2, 3, 6, 7, 8] I fun I => ?_
           refine zki 9 I .i64 (f.g.lo + (e : Int)) (f.g.lo + (e : Int)) (iwo) fun I => ?_
           refine zki 10 I .i64 ((f.g.lo + (e : Int)) - 1) ((f.g.lo + (e : Int)) - 1) (iwo) fun I => ?_
           refine zo 4 I fun I => ?_
           refine zqo I (fun Al W I => have hzW := I.bel.size; f0o f.F (2 ^ f.F) _ W (by omega) rfl rfl) fun Al W p80 c80 I => ?_
           refine zo 5 I fun I => ?_
           refine zqo I (fun Al W I => have hzW := I.bel.size; sadd p p80 _ _ c c80 x (2 ^ f.F) (x + 2 ^ f.F) W I.fa.2.1.rd I.fa.1.rd rfl rfl (by omega) (by omega) rfl) fun Al W p81 c81 I => ?_
           refine zk [11, 12, 13] I fun I => ?_
           exact zret I fun Al W I => ⟨p81, c81, rfl, I.fa.1.mono (by omega), I.below⟩
         · have hex : f.ext = true := by simpa using hex
           have hhid : f.hid = false := by unfold Fm.hid; rw [f1, hex]; rfl
           by_cases h63 : x < 2 ^ 63
           · have hD : f.dec g e x = ⟨4, 0, 0⟩ := by unfold Fm.dec; rw [if_neg f2, if_neg (fun h => hl h.2), if_neg (by omega), if_neg h0, if_neg (by simp [hex]), if_pos h63]
             have hbl : blen x < 64 := by have := (a0w x 63).2 h63; omega
             rw [hD]
             generalize 2 ^ f.E = P at *
             have I := Inv.start w [ownF base .u32 141 p c (dig B32 x)] ⟨hp, True.intro⟩
             refine a0f [.v (.agg #[.int .i64 (f.size : Int), .int .i64 (f.E : Int), .int .i64 (f.F : Int), .int .i64 f.g.rad, .int .i64 f.g.digs, .int .i64 f.g.lo, .int .i64 f.g.hi, .bool f.g.grad, .bool f.hid, .bool f.inf, .bool f.res, .func (.func (ordF f)) #[] #[]]), .v (.agg #[.bool g, .int .i64 (e : Int), .slice p (dig B32 x).length c])] I Tryz.func149 ?_
             refine zbin I 11 _ (fun _ _ _ _ _ => c0i .i64 (1) .i64 (f.E : Int) ((P : Int)) (by omega) ((HSH.out))) fun Al W I => ?_
             refine zi I 12 .i64 ((P : Int) - 1) (((P - 1 : Nat) : Int)) ((by rw [show ((P : Int) - 1) = ((P - 1 : Nat) : Int) by omega]; exact iwo)) fun Al W I => ?_
             refine zb I 20 (f.g.rad == 16) (false) (hr) fun Al W I => ?_
             refine zb I 29 (f.inf) (true) (hinf) fun Al W I => ?_
             refine zb I 34 ((e : Int) == ((P - 1 : Nat) : Int)) (false) (bFn (by omega)) fun Al W I => ?_
             refine zb I 59 ((e : Int) == 0) (false) (bFn (by omega)) fun Al W I => ?_
             refine zb I 69 ((e : Int) == 0) (false) (bFn (by omega)) fun Al W I => ?_
             refine zb I 75 (f.hid) (false) (hhid) fun Al W I => ?_
             refine zq I (fun Al W I => have hzW := I.bel.size; stay (f0m p _ c x W I.fa.1.rd rfl (by omega))) fun Al W I => ?_
             refine zb I 91 (decide (((blen x : Nat) : Int) < 64)) (true) (dTr (by omega)) fun Al W I => ?_
             exact zret I fun Al W I => c0z (k := 4) rfl I.below
           · have hD : f.dec g e x = ⟨2, x, f.g.lo + e - 1⟩ := by unfold Fm.dec; rw [if_neg f2, if_neg (fun h => hl h.2), if_neg (by omega), if_neg h0, if_neg (by simp [hex]), if_neg h63]
             have hbl : 64 ≤ blen x := by have := (a0w x 63).1; omega
             rw [hD]
             generalize 2 ^ f.E = P at *
             have I := Inv.start w [ownF base .u32 141 p c (dig B32 x)] ⟨hp, True.intro⟩
             refine a0f [.v (.agg #[.int .i64 (f.size : Int), .int .i64 (f.E : Int), .int .i64 (f.F : Int), .int .i64 f.g.rad, .int .i64 f.g.digs, .int .i64 f.g.lo, .int .i64 f.g.hi, .bool f.g.grad, .bool f.hid, .bool f.inf, .bool f.res, .func (.func (ordF f)) #[] #[]]), .v (.agg #[.bool g, .int .i64 (e : Int), .slice p (dig B32 x).length c])] I Tryz.func149 ?_
             refine zbin I 11 _ (fun _ _ _ _ _ => c0i .i64 (1) .i64 (f.E : Int) ((P : Int)) (by omega) ((HSH.out))) fun Al W I => ?_
             refine zi I 12 .i64 ((P : Int) - 1) (((P - 1 : Nat) : Int)) ((by rw [show ((P : Int) - 1) = ((P - 1 : Nat) : Int) by omega]; exact iwo)) fun Al W I => ?_
             refine zb I 20 (f.g.rad == 16) (false) (hr) fun Al W I => ?_
             refine zb I 29 (f.inf) (true) (hinf) fun Al W I => ?_
             refine zb I 34 ((e : Int) == ((P - 1 : Nat) : Int)) (false) (bFn (by omega)) fun Al W I => ?_
             refine zb I 59 ((e : Int) == 0) (false) (bFn (by omega)) fun Al W I => ?_
             refine zb I 69 ((e : Int) == 0) (false) (bFn (by omega)) fun Al W I => ?_
             refine zb I 75 (f.hid) (false) (hhid) fun Al W I => ?_
             refine zq I (fun Al W I => have hzW := I.bel.size; stay (f0m p _ c x W I.fa.1.rd rfl (by omega))) fun Al W I => ?_
             refine zb I 91 (decide (((blen x : Nat) : Int) < 64)) (false) (dFa (by omega)) fun Al W I => ?_
             refine zd [] I fun Al W I => ?_
             refine zk [0, 1, 2, 3, 4] I fun I => ?_
             refine zki 5 I .i64 (f.g.lo + (e : Int)) (f.g.lo + (e : Int)) (iwo) fun I => ?_
             refine zki 6 I .i64 ((f.g.lo + (e : Int)) - 1) ((f.g.lo + (e : Int)) - 1) (iwo) fun I => ?_
             refine zk [7, 8, 9] I fun I => ?_
             exact zret I fun Al W I => ⟨p, c, rfl, I.fa.1, I.below⟩
   · have f3 : f.fam = 3 := by have := G.fam; omega
     have hex : f.ext = false := by
      cases hh : f.ext with
      | false => rfl
      | true => exact absurd (G.ext hh).1 f1
     have hinf : f.inf = false := by unfold Fm.inf; rw [f3]; rfl
     have hres : f.res = true := by unfold Fm.res; rw [f3]; rfl
     have hhid : f.hid = true := by unfold Fm.hid; rw [f3, hex]; rfl
     by_cases h0 : e = 0
     · cases g with
       | true =>
        have hD : f.dec true e x = ⟨5, 0, 0⟩ := by unfold Fm.dec; rw [if_neg f2, if_neg (fun h => f1 h.1), if_pos ⟨f3, h0⟩, if_pos rfl]
        rw [hD]
        generalize 2 ^ f.E = P at *
        have I := Inv.start w [] True.intro
        refine a0f [.v (.agg #[.int .i64 (f.size : Int), .int .i64 (f.E : Int), .int .i64 (f.F : Int), .int .i64 f.g.rad, .int .i64 f.g.digs, .int .i64 f.g.lo, .int .i64 f.g.hi, .bool f.g.grad, .bool f.hid, .bool f.inf, .bool f.res, .func (.func (ordF f)) #[] #[]]), .v (.agg #[.bool true, .int .i64 (e : Int), .slice p (dig B32 x).length c])] I Tryz.func149 ?_
        refine zbin I 11 _ (fun _ _ _ _ _ => c0i .i64 (1) .i64 (f.E : Int) ((P : Int)) (by omega) ((HSH.out))) fun Al W I => ?_
        refine zi I 12 .i64 ((P : Int) - 1) (((P - 1 : Nat) : Int)) ((by rw [show ((P : Int) - 1) = ((P - 1 : Nat) : Int) by omega]; exact iwo)) fun Al W I => ?_
        refine zb I 20 (f.g.rad == 16) (false) (hr) fun Al W I => ?_
        refine zb I 29 (f.inf) (false) (hinf) fun Al W I => ?_
        refine zb I 59 ((e : Int) == 0) (true) (beq_iff_eq.2 (by omega)) fun Al W I => ?_
        refine zb I 62 (f.res) (true) (hres) fun Al W I => ?_
        exact zret I fun Al W I => c0z (k := 5) rfl I.below
       | false =>
        have hD : f.dec false e x = ⟨1, 0, 0⟩ := by unfold Fm.dec; rw [if_neg f2, if_neg (fun h => f1 h.1), if_pos ⟨f3, h0⟩, if_neg (by simp)]
        rw [hD]
        generalize 2 ^ f.E = P at *
        have hT3 : d0h Tryz.prog 3 := c0k (by kernel_rfl) (by kernel_rfl)
        have hT4 : d0h Tryz.prog 4 := c0k (by kernel_rfl) (by kernel_rfl)
        refine calls_of_wp Tryz.func149 rfl ?_
        refine b0c (a' := ⟨((.agg #[.int .i64 (f.size : Int), .int .i64 (f.E : Int), .int .i64 (f.F : Int), .int .i64 f.g.rad, .int .i64 f.g.digs, .int .i64 f.g.lo, .int .i64 f.g.hi, .bool f.g.grad, .bool f.hid, .bool f.inf, .bool f.res, .func (.func (ordF f)) #[] #[]]) :: (.agg #[.bool false, .int .i64 (e : Int), .slice p (dig B32 x).length c]) :: us 97 []).toArray, []⟩) (by kernel_rfl) ?_
        refine ye ?_
        refine yw 0 rfl 2 #[.int .i64 (f.size : Int), .int .i64 (f.E : Int), .int .i64 (f.F : Int), .int .i64 f.g.rad, .int .i64 f.g.digs, .int .i64 f.g.lo, .int .i64 f.g.hi, .bool f.g.grad, .bool f.hid, .bool f.inf, .bool f.res, .func (.func (ordF f)) #[] #[]] 146 (fun V1 hbV1 hzV1 b2 => ?_)
        refine yw 0 rfl 3 #[.bool false, .int .i64 (e : Int), .slice p (dig B32 x).length c] 157 (fun V2 hbV2 hzV2 b3 => ?_)
        refine yzt 3 ?_
        refine ye ?_
        replace b2 := (b2.past hbV2)
        refine yl 1 rfl 10 b2 hT3 1 ?_
        refine yv 0 rfl 11 (.int .i64 (P : Int)) ?_ (k0y (X := (1)) (Y := (f.E : Int)) (k2 := .i64) (P : Int) (by kernel_rfl) (by kernel_rfl) (by omega) ((HSH.out)))
        refine ya 0 rfl 12 .i64 ((P : Int) - 1) (((P - 1 : Nat) : Int)) ((by rw [show ((P : Int) - 1) = ((P - 1 : Nat) : Int) by omega]; exact iwo)) ?_
        refine yzt 1 ?_
        refine ye ?_
        refine yl 2 rfl 15 b2 hT3 5 ?_
        refine yzt 1 ?_
        refine wp_seq ?_
        refine wp_block ?_
        refine ye ?_
        refine yl 2 rfl 19 b2 hT3 3 ?_
        refine yb 0 rfl 20 (f.g.rad == 16) (false) (hr) ?_
        refine yzt 1 ?_
        refine yF ?_
        refine ye ?_
        refine ylb 1 rfl 29 b2 hT4 9 (f.inf) false (hinf) ?_
        refine yzt 7 ?_
        refine yF ?_
        refine ye ?_
        refine yl 1 rfl 58 b3 hT3 1 ?_
        refine yb 0 rfl 59 ((e : Int) == 0) (true) (beq_iff_eq.2 (by omega)) ?_
        refine ylb 2 rfl 62 b2 hT4 10 (f.res) true (hres) ?_
        refine yzt 2 ?_
        refine yT ?_
        refine wp_seq ?_
        refine ye ?_
        refine yl 1 rfl 65 b3 hT4 0 ?_
        refine yzt 0 ?_
        refine yF ?_
        refine wp_skip ?_
        refine a0n ?_
        refine yq ?_
        refine wp_ret ?_
        repeat (first | with_reducible refine a0x ?_ | with_reducible refine a0o ?_)
        refine yret (.tuple #[.int .i64 1, .slice none 0 0, .int .i64 0]) (res3 Tryz.results149 rvt rvt rvt) ?_
        exact c0z (k := 1) rfl (a0g hbV1 hbV2)
     · have hD : f.dec g e x = ⟨2, x + 2 ^ f.F, f.g.lo + e - 1⟩ := by unfold Fm.dec; rw [if_neg f2, if_neg (fun h => f1 h.1), if_neg (fun h => h0 h.2), if_neg h0, if_pos hex]
       have hlF : (dig B32 (2 ^ f.F)).length ≤ 3 := a0q (n := f.F + 1) (Nat.pow_lt_pow_right (by omega) (by omega)) (by omega)
       rw [hD]
       generalize 2 ^ f.E = P at *
       have I := Inv.start w [ownF base .u32 141 p c (dig B32 x)] ⟨hp, True.intro⟩
       refine a0f [.v (.agg #[.int .i64 (f.size : Int), .int .i64 (f.E : Int), .int .i64 (f.F : Int), .int .i64 f.g.rad, .int .i64 f.g.digs, .int .i64 f.g.lo, .int .i64 f.g.hi, .bool f.g.grad, .bool f.hid, .bool f.inf, .bool f.res, .func (.func (ordF f)) #[] #[]]), .v (.agg #[.bool g, .int .i64 (e : Int), .slice p (dig B32 x).length c])] I Tryz.func149 ?_
       refine zbin I 11 _ (fun _ _ _ _ _ => c0i .i64 (1) .i64 (f.E : Int) ((P : Int)) (by omega) ((HSH.out))) fun Al W I => ?_
       refine zi I 12 .i64 ((P : Int) - 1) (((P - 1 : Nat) : Int)) ((by rw [show ((P : Int) - 1) = ((P - 1 : Nat) : Int) by omega]; exact iwo)) fun Al W I => ?_
       refine zb I 20 (f.g.rad == 16) (false) (hr) fun Al W I => ?_
       refine zb I 29 (f.inf) (false) (hinf) fun Al W I => ?_
       refine zb I 59 ((e : Int) == 0) (false) (bFn (by omega)) fun Al W I => ?_
       refine zb I 69 ((e : Int) == 0) (false) (bFn (by omega)) fun Al W I => ?_
       refine zb I 75 (f.hid) (true) (hhid) fun Al W I => ?_
       refine zd [] I fun Al W I => ?_
       refine zk [0, 1, 2, 3, 6, 7, 8] I fun I => ?_
       refine zki 9 I .i64 (f.g.lo + (e : Int)) (f.g.lo + (e : Int)) (iwo) fun I => ?_
       refine zki 10 I .i64 ((f.g.lo + (e : Int)) - 1) ((f.g.lo + (e : Int)) - 1) (iwo) fun I => ?_
       refine zo 4 I fun I => ?_
       refine zqo I (fun Al W I => have hzW := I.bel.size; f0o f.F (2 ^ f.F) _ W (by omega) rfl rfl) fun Al W p80 c80 I => ?_
       refine zo 5 I fun I => ?_
       refine zqo I (fun Al W I => have hzW := I.bel.size; sadd p p80 _ _ c c80 x (2 ^ f.F) (x + 2 ^ f.F) W I.fa.2.1.rd I.fa.1.rd rfl rfl (by omega) (by omega) rfl) fun Al W p81 c81 I => ?_
       refine zk [11, 12, 13] I fun I => ?_
       exact zret I fun Al W I => ⟨p81, c81, rfl, I.fa.1.mono (by omega), I.below⟩
theorem a1y (p : Option Addr) (c x : Nat) (pw : Int) (gg : Gd) (base : Nat) (w : World) (hp : Own w base .u32 141 p c (dig B32 x)) (hl : (dig B32 x).length ≤ 1000) (hpw : -100000 ≤ pw ∧ pw ≤ 100000) (hr : gg.rad = 2 ∨ gg.rad = 16) (hT : TabW w) :
 Calls Tryz.prog 150 #[.slice p (dig B32 x).length c, .int .i64 pw, .int .i64 gg.rad] w
  fun en w' => ∃ q d, en = .returned (.tuple #[.slice q (dig B32 (x / 2 ^ (tz x / wid gg * wid gg))).length d, .int .i64 (pw + (tz x / wid gg : Nat))]) ∧ Own w' w.heap.size .u32 141 q d (dig B32 (x / 2 ^ (tz x / wid gg * wid gg))) ∧ Below w.heap.size w w' := by
 have hz := l1t x hl
 rcases hr with hr | hr
 · have hw : wid gg = 1 := by unfold wid; rw [hr]; rfl
   rw [hw]
   generalize htz : tz x = z at *
   have HTZ := hi0 htz
   clear htz
   have I := Inv.start w [ownF base .u32 141 p c (dig B32 x), tabF] ⟨hp, hT, True.intro⟩
   refine a0f [.v (.slice p (dig B32 x).length c), .v (.int .i64 pw), .v (.int .i64 gg.rad)] I Tryz.func150 ?_
   refine zb I 11 (gg.rad == 16) (false) (by rw [hr]; rfl) fun Al W I => ?_
   refine zq I (fun Al W I => have hzW := I.bel.size; stay (l0l p _ c x W I.fa.1.rd rfl (by omega) I.fa.2.1)) fun Al W I => ?_
   refine zbin I 15 _ (fun _ _ _ _ _ => t0g .i64 ((tz x : Nat) : Int) (1) (((z / 1 : Nat) : Int)) ((by decide)) ((by rw [HTZ.out]; exact (IntWalk.i64_in _ (by simp; omega)).trans (by simp)))) fun Al W I => ?_
   refine zi I 19 .i64 (((z / 1 : Nat) : Int) * 1) (((z / 1 * 1 : Nat) : Int)) (((iwo).trans (by omega))) fun Al W I => ?_
   refine zqo I (fun Al W I => have hzW := I.bel.size; sshr p _ c x (z / 1 * 1) _ _ W I.fa.1.rd rfl (by have := I.fa.1.le_cap; omega) (by omega) (by omega) rfl rfl) fun Al W p20 c20 I => ?_
   refine zi I 23 .i64 (pw + ((z / 1 : Nat) : Int)) (pw + ((z / 1 : Nat) : Int)) (iwo) fun Al W I => ?_
   exact zret I fun Al W I => ⟨p20, c20, rfl, I.fa.1.mono (by omega), I.below⟩
 · have hw : wid gg = 4 := by unfold wid; rw [hr]; rfl
   rw [hw]
   generalize htz : tz x = z at *
   have HTZ := hi0 htz
   clear htz
   have I := Inv.start w [ownF base .u32 141 p c (dig B32 x), tabF] ⟨hp, hT, True.intro⟩
   refine a0f [.v (.slice p (dig B32 x).length c), .v (.int .i64 pw), .v (.int .i64 gg.rad)] I Tryz.func150 ?_
   refine zb I 11 (gg.rad == 16) (true) (by rw [hr]; rfl) fun Al W I => ?_
   refine zq I (fun Al W I => have hzW := I.bel.size; stay (l0l p _ c x W I.fa.1.rd rfl (by omega) I.fa.2.1)) fun Al W I => ?_
   refine zbin I 15 _ (fun _ _ _ _ _ => t0g .i64 ((tz x : Nat) : Int) (4) (((z / 4 : Nat) : Int)) ((by decide)) ((by rw [HTZ.out, show (z : Int).tdiv 4 = ((z / 4 : Nat) : Int) by rw [Int.tdiv_eq_ediv_of_nonneg (by omega)]; rfl]; exact iwo))) fun Al W I => ?_
   refine zi I 19 .i64 (((z / 4 : Nat) : Int) * 4) (((z / 4 * 4 : Nat) : Int)) (((iwo).trans (by omega))) fun Al W I => ?_
   refine zqo I (fun Al W I => have hzW := I.bel.size; sshr p _ c x (z / 4 * 4) _ _ W I.fa.1.rd rfl (by have := I.fa.1.le_cap; omega) (by omega) (by omega) rfl rfl) fun Al W p20 c20 I => ?_
   refine zi I 23 .i64 (pw + ((z / 4 : Nat) : Int)) (pw + ((z / 4 : Nat) : Int)) (iwo) fun Al W I => ?_
   exact zret I fun Al W I => ⟨p20, c20, rfl, I.fa.1.mono (by omega), I.below⟩
def t0r (w : World) (v : Vl) (g : Bool) (en : Ending) (w' : World) : Prop :=
 ∃ p c, en = .returned (.tuple #[.agg #[.int .i64 (v.cls : Int), .bool v.neg, .slice p (dig B32 v.d).length c, .int .i64 v.pow], .bool g]) ∧ Own w' w.heap.size .u32 141 p c (dig B32 v.d) ∧ Below w.heap.size w w'
theorem o0a {w w' : World} {v : Vl} {k : Nat} {n g : Bool} {p : Option Addr} {c d base : Nat} {x : Int} {en : Ending} (hv : v = ⟨k, n, d, x⟩) (h : en = .returned (.tuple #[.agg #[.int .i64 (k : Int), .bool n, .slice p (dig B32 d).length c, .int .i64 x], .bool g]))
 (ho : Own w' base .u32 141 p c (dig B32 d)) (hB : w.heap.size ≤ base) (hb : Below w.heap.size w w') : t0r w v g en w' := by
 subst hv
 exact ⟨p, c, h, ho.mono hB, hb⟩
theorem e0d {w w' : World} {v : Vl} {k : Nat} {n g : Bool} {en : Ending} (hv : v = ⟨k, n, 0, 0⟩) (h : en = .returned (.tuple #[.agg #[.int .i64 (k : Int), .bool n, .slice none 0 0, .int .i64 0], .bool g])) (hb : Below w.heap.size w w') : t0r w v g en w' :=
 o0a (p := none) (c := 0) (base := w.heap.size) hv (by rw [h, a0c]; rfl) (by rw [a0c]; exact Own.nil _ _ _ _) (Nat.le_refl _) hb
theorem w0u (f : Fm) (s : ByteArray) (w : World) (G : c0l f) (hs : s.size = f.size) (hT : TabW w) :
 Calls Tryz.prog 98 #[.agg #[.int .i64 (f.size : Int), .int .i64 (f.E : Int), .int .i64 (f.F : Int), .int .i64 f.g.rad, .int .i64 f.g.digs, .int .i64 f.g.lo, .int .i64 f.g.hi, .bool f.g.grad, .bool f.hid, .bool f.inf, .bool f.res, .func (.func (ordF f)) #[] #[]], .string s] w (t0r w (f.valN (a0s f s)) (f.neg (a0s f s))) := by
 have z2 := G.f2
 have he : f.exp (a0s f s) < 2 ^ f.E := Nat.mod_lt _ (Nat.pow_pos (by omega))
 have hx : f.frac (a0s f s) < 2 ^ f.F := Nat.mod_lt _ (Nat.pow_pos (by omega))
 have HS := fun W => hi0 (a1p f s W G hs)
 unfold Fm.valN Fm.decN
 generalize f.neg (a0s f s) = g at *
 generalize f.exp (a0s f s) = e at *
 generalize f.frac (a0s f s) = x at *
 have HV := fun p c base W h1 h2 => hi0 (a1x f g e x p c base W G h1 h2 he hx)
 have k1 := a1e f g e x
 have k2 := h1j (f := f) g (e := e) hx
 have k3 := j1y G g (frac := x) he
 have k4 := a0q k2 (k := 3) (by omega)
 have hrd : f.g.rad = 2 ∨ f.g.rad = 16 := by have := G.rad; split at this <;> omega
 clear k2
 generalize f.dec g e x = D at *
 obtain ⟨k, m, pw⟩ := D
 simp only at k1 k3 k4
 have hm0 := a0d a0a m
 rcases k1 with rfl | rfl | rfl | rfl | rfl
 · have hv : f.vl g ⟨1, m, pw⟩ = ⟨1, g, 0, 0⟩ := by unfold Fm.vl Dc.c; simp
   have I := Inv.start w [tabF] ⟨hT, True.intro⟩
   refine a0f [.v (.agg #[.int .i64 (f.size : Int), .int .i64 (f.E : Int), .int .i64 (f.F : Int), .int .i64 f.g.rad, .int .i64 f.g.digs, .int .i64 f.g.lo, .int .i64 f.g.hi, .bool f.g.grad, .bool f.hid, .bool f.inf, .bool f.res, .func (.func (ordF f)) #[] #[]]), .v (.string s)] I Tryz.func98 ?_
   refine zqo I (fun Al W I => (HS W).out) fun Al W p13 c13 I => ?_
   refine zqo I (fun Al W I => have hzW := I.bel.size; (HV p13 c13 _ W I.fa.1 (by omega)).out) fun Al W p17 c17 I => ?_
   refine zd [1] I fun Al W I => ?_
   refine zk [0, 1, 2] I fun I => ?_
   refine zo 3 I fun I => ?_
   refine zn I fun Al W I => ?_
   refine zk [4] I fun I => ?_
   exact zret I fun Al W I => e0d hv rfl I.below
 · by_cases h0 : m = 0
   · have hv : f.vl g ⟨2, m, pw⟩ = ⟨1, g, 0, 0⟩ := by unfold Fm.vl Dc.c; simp [h0]
     have I := Inv.start w [tabF] ⟨hT, True.intro⟩
     refine a0f [.v (.agg #[.int .i64 (f.size : Int), .int .i64 (f.E : Int), .int .i64 (f.F : Int), .int .i64 f.g.rad, .int .i64 f.g.digs, .int .i64 f.g.lo, .int .i64 f.g.hi, .bool f.g.grad, .bool f.hid, .bool f.inf, .bool f.res, .func (.func (ordF f)) #[] #[]]), .v (.string s)] I Tryz.func98 ?_
     refine zqo I (fun Al W I => (HS W).out) fun Al W p13 c13 I => ?_
     refine zqo I (fun Al W I => have hzW := I.bel.size; (HV p13 c13 _ W I.fa.1 (by omega)).out) fun Al W p17 c17 I => ?_
     refine zb I 28 ((((dig B32 m).length : Nat) : Int) == 0) (true) (beq_iff_eq.2 (by omega)) fun Al W I => ?_
     refine zd [1] I fun Al W I => ?_
     refine zk [0, 1, 2] I fun I => ?_
     refine zo 3 I fun I => ?_
     refine zn I fun Al W I => ?_
     refine zk [4] I fun I => ?_
     exact zret I fun Al W I => e0d hv rfl I.below
   · have hv : f.vl g ⟨2, m, pw⟩ = ⟨2, g, m / 2 ^ (tz m / wid f.g * wid f.g), pw + (tz m / wid f.g : Nat)⟩ := by unfold Fm.vl Dc.c; simp [h0]
     have HB := fun p c base W h1 hT => hi0 (a1y p c m pw f.g base W h1 (by omega) (by omega) hrd hT)
     generalize m / 2 ^ (tz m / wid f.g * wid f.g) = mm at *
     generalize pw + ((tz m / wid f.g : Nat) : Int) = pp at *
     have I := Inv.start w [tabF] ⟨hT, True.intro⟩
     refine a0f [.v (.agg #[.int .i64 (f.size : Int), .int .i64 (f.E : Int), .int .i64 (f.F : Int), .int .i64 f.g.rad, .int .i64 f.g.digs, .int .i64 f.g.lo, .int .i64 f.g.hi, .bool f.g.grad, .bool f.hid, .bool f.inf, .bool f.res, .func (.func (ordF f)) #[] #[]]), .v (.string s)] I Tryz.func98 ?_
     refine zqo I (fun Al W I => (HS W).out) fun Al W p13 c13 I => ?_
     refine zqo I (fun Al W I => have hzW := I.bel.size; (HV p13 c13 _ W I.fa.1 (by omega)).out) fun Al W p17 c17 I => ?_
     refine zb I 28 ((((dig B32 m).length : Nat) : Int) == 0) (false) (bFn (by omega)) fun Al W I => ?_
     refine zqo I (fun Al W I => (HB p17 c17 _ W I.fa.1 I.fa.2.2.1).out) fun Al W q44 d44 I => ?_
     refine zd [1] I fun Al W I => ?_
     refine zk [0, 1, 2] I fun I => ?_
     refine zo 3 I fun I => ?_
     refine zn I fun Al W I => ?_
     refine zk [4] I fun I => ?_
     exact zret I fun Al W I => o0a hv rfl I.fa.1 (by omega) I.below
 · have hv : f.vl g ⟨3, m, pw⟩ = ⟨3, g, 0, 0⟩ := by unfold Fm.vl Dc.c; simp
   have I := Inv.start w [tabF] ⟨hT, True.intro⟩
   refine a0f [.v (.agg #[.int .i64 (f.size : Int), .int .i64 (f.E : Int), .int .i64 (f.F : Int), .int .i64 f.g.rad, .int .i64 f.g.digs, .int .i64 f.g.lo, .int .i64 f.g.hi, .bool f.g.grad, .bool f.hid, .bool f.inf, .bool f.res, .func (.func (ordF f)) #[] #[]]), .v (.string s)] I Tryz.func98 ?_
   refine zqo I (fun Al W I => (HS W).out) fun Al W p13 c13 I => ?_
   refine zqo I (fun Al W I => have hzW := I.bel.size; (HV p13 c13 _ W I.fa.1 (by omega)).out) fun Al W p17 c17 I => ?_
   refine zd [1] I fun Al W I => ?_
   refine zk [0, 1, 2] I fun I => ?_
   refine zo 3 I fun I => ?_
   refine zn I fun Al W I => ?_
   refine zk [4] I fun I => ?_
   exact zret I fun Al W I => e0d hv rfl I.below
 · have hv : f.vl g ⟨4, m, pw⟩ = ⟨4, false, 0, 0⟩ := by unfold Fm.vl Dc.c; simp
   have I := Inv.start w [tabF] ⟨hT, True.intro⟩
   refine a0f [.v (.agg #[.int .i64 (f.size : Int), .int .i64 (f.E : Int), .int .i64 (f.F : Int), .int .i64 f.g.rad, .int .i64 f.g.digs, .int .i64 f.g.lo, .int .i64 f.g.hi, .bool f.g.grad, .bool f.hid, .bool f.inf, .bool f.res, .func (.func (ordF f)) #[] #[]]), .v (.string s)] I Tryz.func98 ?_
   refine zqo I (fun Al W I => (HS W).out) fun Al W p13 c13 I => ?_
   refine zqo I (fun Al W I => have hzW := I.bel.size; (HV p13 c13 _ W I.fa.1 (by omega)).out) fun Al W p17 c17 I => ?_
   refine zd [1] I fun Al W I => ?_
   refine zk [0, 1, 2] I fun I => ?_
   refine zo 3 I fun I => ?_
   refine zn I fun Al W I => ?_
   refine zk [4] I fun I => ?_
   exact zret I fun Al W I => e0d hv rfl I.below
 · have hv : f.vl g ⟨5, m, pw⟩ = ⟨5, false, 0, 0⟩ := by unfold Fm.vl Dc.c; simp
   have I := Inv.start w [tabF] ⟨hT, True.intro⟩
   refine a0f [.v (.agg #[.int .i64 (f.size : Int), .int .i64 (f.E : Int), .int .i64 (f.F : Int), .int .i64 f.g.rad, .int .i64 f.g.digs, .int .i64 f.g.lo, .int .i64 f.g.hi, .bool f.g.grad, .bool f.hid, .bool f.inf, .bool f.res, .func (.func (ordF f)) #[] #[]]), .v (.string s)] I Tryz.func98 ?_
   refine zqo I (fun Al W I => (HS W).out) fun Al W p13 c13 I => ?_
   refine zqo I (fun Al W I => have hzW := I.bel.size; (HV p13 c13 _ W I.fa.1 (by omega)).out) fun Al W p17 c17 I => ?_
   refine zd [1] I fun Al W I => ?_
   refine zk [0, 1, 2] I fun I => ?_
   refine zo 3 I fun I => ?_
   refine zn I fun Al W I => ?_
   refine zk [4] I fun I => ?_
   exact zret I fun Al W I => e0d hv rfl I.below
def a0z (n : Int) (s : ByteArray) : Int := if IsFm n then (if s.size = (fmt n).size then 0 else 1) else 6
theorem h1r (n : Int) (s : ByteArray) (w : World) (hn : IsFm n) (hs : s.size = (fmt n).size) :
 Calls Tryz.prog 97 #[.int .i64 n, .string s] w fun en w' => en = .returned (.tuple #[.agg #[.int .i64 (((fmt n).size : Nat) : Int), .int .i64 (((fmt n).E : Nat) : Int), .int .i64 (((fmt n).F : Nat) : Int), .int .i64 (fmt n).g.rad, .int .i64 (fmt n).g.digs, .int .i64 (fmt n).g.lo, .int .i64 (fmt n).g.hi, .bool (fmt n).g.grad, .bool (fmt n).hid, .bool (fmt n).inf, .bool (fmt n).res, .func (.func (ordF (fmt n))) #[] #[]], .int .i64 0]) ∧ Below w.heap.size w w' := by
 have HF := fun W => hi0 (h0g n hn W)
 generalize fmt n = f at *
 have I := Inv.start w [] True.intro
 refine a0f [.v (.int .i64 n), .v (.string s)] I Tryz.func97 ?_
 refine zq I (fun Al W I => (HF W).out) fun Al W I => ?_
 refine zb I 20 ((s.size : Int) != (f.size : Int)) (false) (by simp [hs]) fun Al W I => ?_
 exact zrb I
theorem d1u (n : Int) (s : ByteArray) (w : World) (hn : IsFm n) (hs : s.size ≠ (fmt n).size) :
 Calls Tryz.prog 97 #[.int .i64 n, .string s] w fun en w' => en = .returned (.tuple #[.agg #[.int .i64 (((fmt n).size : Nat) : Int), .int .i64 (((fmt n).E : Nat) : Int), .int .i64 (((fmt n).F : Nat) : Int), .int .i64 (fmt n).g.rad, .int .i64 (fmt n).g.digs, .int .i64 (fmt n).g.lo, .int .i64 (fmt n).g.hi, .bool (fmt n).g.grad, .bool (fmt n).hid, .bool (fmt n).inf, .bool (fmt n).res, .func (.func (ordF (fmt n))) #[] #[]], .int .i64 1]) ∧ Below w.heap.size w w' := by
 have HF := fun W => hi0 (h0g n hn W)
 generalize fmt n = f at *
 have I := Inv.start w [] True.intro
 refine a0f [.v (.int .i64 n), .v (.string s)] I Tryz.func97 ?_
 refine zq I (fun Al W I => (HF W).out) fun Al W I => ?_
 refine zb I 20 ((s.size : Int) != (f.size : Int)) (true) (bne_iff_ne.2 (fun h => hs (by omega))) fun Al W I => ?_
 exact zrb I
theorem d1v (n : Int) (s : ByteArray) (w : World) (hn : ¬ IsFm n) :
 Calls Tryz.prog 97 #[.int .i64 n, .string s] w fun en w' => en = .returned (.tuple #[.agg #[.int .i64 0, .int .i64 0, .int .i64 0, .int .i64 0, .int .i64 0, .int .i64 0, .int .i64 0, .bool false, .bool false, .bool false, .bool false, .nilFunc], .int .i64 6]) ∧ Below w.heap.size w w' := by
 have HF := fun W => hi0 (j0d n hn W)
 have I := Inv.start w [] True.intro
 refine a0f [.v (.int .i64 n), .v (.string s)] I Tryz.func97 ?_
 refine zq I (fun Al W I => (HF W).out) fun Al W I => ?_
 exact zrb I
def a1z (w : World) (v : Vl) (er : Int) (en : Ending) (w' : World) : Prop :=
 ∃ p c, en = .returned (.tuple #[.agg #[.int .i64 (v.cls : Int), .bool v.neg, .slice p (dig B32 v.d).length c, .int .i64 v.pow], .int .i64 er]) ∧ Own w' w.heap.size .u32 141 p c (dig B32 v.d) ∧ Below w.heap.size w w'
def v0i : Vl := ⟨0, false, 0, 0⟩
def decP (n : Int) (s : ByteArray) : Vl := if a0z n s = 0 then (fmt n).valN (a0s (fmt n) s) else v0i
theorem d0a {n : Int} {s : ByteArray} : a0z n s = 0 ↔ IsFm n ∧ s.size = (fmt n).size := by
 unfold a0z
 by_cases h1 : IsFm n
 · rw [if_pos h1]
   by_cases h2 : s.size = (fmt n).size
   · rw [if_pos h2]; simp [h1, h2]
   · rw [if_neg h2]; simp [h2]
 · rw [if_neg h1]; simp [h1]
theorem m0g {w w' : World} {er : Int} {en : Ending} (h : en = .returned (.tuple #[.agg #[.int .i64 0, .bool false, .slice none 0 0, .int .i64 0], .int .i64 er])) (hb : Below w.heap.size w w') : a1z w v0i er en w' := by
 refine ⟨none, 0, ?_, ?_, hb⟩
 · rw [h]; show _ = Ending.returned (.tuple #[.agg #[_, _, .slice none (dig B32 0).length 0, _], _]); rw [a0c]; rfl
 · show Own _ _ _ _ _ _ (dig B32 0); rw [a0c]; exact Own.nil _ _ _ _
theorem w0v (n : Int) (s : ByteArray) (w : World) (hT : TabW w) :
 Calls Tryz.prog 41 #[.int .i64 n, .string s] w (a1z w (decP n s) (a0z n s)) := by
 by_cases hn : IsFm n
 · by_cases hs : s.size = (fmt n).size
   · have h0 : a0z n s = 0 := d0a.2 ⟨hn, hs⟩
     have hd : decP n s = (fmt n).valN (a0s (fmt n) s) := by unfold decP; rw [if_pos h0]
     rw [hd, h0]
     have HF := fun W => hi0 (h1r n s W hn hs)
     have HD := fun W h => hi0 (w0u (fmt n) s W (e0k hn) hs h)
     generalize (fmt n).valN (a0s (fmt n) s) = v at *
     generalize (fmt n).neg (a0s (fmt n) s) = g at *
     generalize fmt n = f at *
     have I := Inv.start w [tabF] ⟨hT, True.intro⟩
     refine a0f [.v (.int .i64 n), .v (.string s)] I Tryz.func41 ?_
     refine zq I (fun Al W I => (HF W).out) fun Al W I => ?_
     refine zqo I (fun Al W I => (HD W I.fa.1).out) fun Al W p23 c23 I => ?_
     exact zret I fun Al W I => ⟨p23, c23, rfl, I.fa.1.mono (by omega), I.below⟩
   · have h0 : a0z n s = 1 := by unfold a0z; rw [if_pos hn, if_neg hs]
     have hd : decP n s = v0i := by unfold decP; rw [if_neg (by omega)]
     rw [hd, h0]
     have HF := fun W => hi0 (d1u n s W hn hs)
     generalize fmt n = f at *
     have I := Inv.start w [] True.intro
     refine a0f [.v (.int .i64 n), .v (.string s)] I Tryz.func41 ?_
     refine zq I (fun Al W I => (HF W).out) fun Al W I => ?_
     exact zret I fun Al W I => m0g rfl I.below
 · have h0 : a0z n s = 6 := by unfold a0z; rw [if_neg hn]
   have hd : decP n s = v0i := by unfold decP; rw [if_neg (by omega)]
   rw [hd, h0]
   have HF := fun W => hi0 (d1v n s W hn)
   have I := Inv.start w [] True.intro
   refine a0f [.v (.int .i64 n), .v (.string s)] I Tryz.func41 ?_
   refine zq I (fun Al W I => (HF W).out) fun Al W I => ?_
   exact zret I fun Al W I => m0g rfl I.below
def g0q (n : Int) : Int := if IsFm n then 0 else 6
theorem t0s {n : Int} (h : ¬ IsFm n) : fmt n = ⟨0, 0, 0, ⟨0, 0, 0, 0, false⟩, 0, false⟩ := by
 unfold IsFm at h
 unfold fmt
 rw [if_neg (by omega), if_neg (by omega), if_neg (by omega), if_neg (by omega), if_neg (by omega), if_neg (by omega), if_neg (by omega), if_neg (by omega)]
theorem d1w (n : Int) (w : World) : Calls Tryz.prog 43 #[.int .i64 n] w fun en w' => en = .returned (.tuple #[.agg #[.int .i64 (fmt n).g.rad, .int .i64 (fmt n).g.digs, .int .i64 (fmt n).g.lo, .int .i64 (fmt n).g.hi, .bool (fmt n).g.grad], .int .i64 (g0q n)]) ∧ Below w.heap.size w w' := by
 by_cases hn : IsFm n
 · have h0 : g0q n = 0 := by unfold g0q; rw [if_pos hn]
   rw [h0]
   have HF := fun W => hi0 (h0g n hn W)
   generalize fmt n = f at *
   have I := Inv.start w [] True.intro
   refine a0f [.v (.int .i64 n)] I Tryz.func43 ?_
   refine zq I (fun Al W I => (HF W).out) fun Al W I => ?_
   exact zrb I
 · have h0 : g0q n = 6 := by unfold g0q; rw [if_neg hn]
   rw [h0, t0s hn]
   have HF := fun W => hi0 (j0d n hn W)
   have I := Inv.start w [] True.intro
   refine a0f [.v (.int .i64 n)] I Tryz.func43 ?_
   refine zq I (fun Al W I => (HF W).out) fun Al W I => ?_
   exact zrb I
end Go.Proofs.YtmacohmclpnphaaGreatDoor
namespace Go.Slip
structure Pt where
 neg : Bool
 e : Nat
 x : Nat
def Fm.fr (f : Fm) (d : Dv) : Nat := d.m * 2 ^ (d.e - wid f.g * stepK d f.g).toNat
def Fm.numP (f : Fm) (d : Dv) : Pt :=
 if f.fam = 2 then ⟨d.neg, (stepK d f.g - f.g.lo).toNat, f.fr d⟩
 else if (blen (f.fr d) : Int) = f.g.digs then ⟨d.neg, (stepK d f.g - f.g.lo).toNat + 1, if f.ext then f.fr d else f.fr d - 2 ^ f.F⟩
 else ⟨d.neg, (stepK d f.g - f.g.lo).toNat, f.fr d⟩
def Fm.encP (f : Fm) (cls : Nat) (g : Bool) (d : Dv) : Pt :=
 if cls = 2 then f.numP d
 else if cls = 3 then ⟨g, 2 ^ f.E - 1, if f.ext then 2 ^ 63 else 0⟩
 else if cls = 4 then ⟨g, 2 ^ f.E - 1, if f.ext then 2 ^ 63 + 2 ^ 62 else 2 ^ (f.F - 1)⟩
 else if cls = 5 then ⟨true, 0, 0⟩
 else ⟨g, 0, 0⟩
def Fm.strP (f : Fm) (p : Pt) : List Nat := f.str p.neg p.e p.x
structure NumF (f : Fm) (d : Dv) : Prop where
 k1 : f.g.lo ≤ stepK d f.g
 k2 : stepK d f.g ≤ f.g.hi
 e0 : 0 ≤ d.e - wid f.g * stepK d f.g
 e1 : d.e - wid f.g * stepK d f.g ≤ 484
 lt : f.fr d < 2 ^ (wid f.g * f.g.digs.toNat)
 ne : f.fr d ≠ 0
 bl : (blen (f.fr d) : Int) ≤ wid f.g * f.g.digs
 low : f.fam ≠ 2 → (blen (f.fr d) : Int) ≠ f.g.digs → stepK d f.g = f.g.lo ∧ f.fam = 1
theorem b1a {f : Fm} (G : c0l f) {d : Dv} (hin : b0r d f.g = true) (h0 : d.m ≠ 0) : NumF f d := by
 have hg := c0c G.g
 obtain ⟨a1, a2, a3, a4⟩ := z0w hg hin h0
 have hd1 := hg.d1
 have wp := b0f f.g
 obtain ⟨D, hD⟩ : ∃ D : Nat, f.g.digs = D := ⟨f.g.digs.toNat, by omega⟩
 have hDt : f.g.digs.toNat = D := by omega
 have hbl : (blen (f.fr d) : Int) = topD d - wid f.g * stepK d f.g := by
  unfold Fm.fr
  rw [h0n (by omega)]
  unfold topD
  omega
 have hpos : f.fr d ≠ 0 := by
  unfold Fm.fr
  have := Nat.mul_pos (show 0 < d.m by omega) (Nat.pow_pos (n := (d.e - wid f.g * stepK d f.g).toNat) (show 0 < 2 by omega))
  omega
 have hb := e0j (topD d - 1) (wid f.g) (by omega)
 have eU : upK d (wid f.g) D = (topD d - 1) / (wid f.g : Int) - D + 1 := rfl
 have eS : stepK d f.g = max f.g.lo (upK d (wid f.g) f.g.digs.toNat) := rfl
 rw [hDt] at eS
 have hle : upK d (wid f.g) D ≤ stepK d f.g := by omega
 have hmul : (wid f.g : Int) * upK d (wid f.g) D ≤ wid f.g * stepK d f.g := Int.mul_le_mul_of_nonneg_left hle (by omega)
 have eK : (wid f.g : Int) * upK d (wid f.g) D = wid f.g * ((topD d - 1) / (wid f.g : Int)) - wid f.g * D + wid f.g := by rw [eU]; grind
 have hbD : (blen (f.fr d) : Int) ≤ wid f.g * f.g.digs := by rw [hD]; omega
 have ewD : ((wid f.g * D : Nat) : Int) = wid f.g * D := Int.natCast_mul _ _
 refine ⟨a3, a4, by omega, by omega, ?_, hpos, hbD, fun hf hn => ?_⟩
 · rw [hDt]
   refine (a0w _ _).1 ?_
   rw [hD] at hbD
   omega
 · have hw : wid f.g = 1 := by rw [G.w, if_neg hf]
   rw [hw] at hbl eU
   have hu : ¬ stepK d f.g = upK d 1 D := by
    intro h
    apply hn
    rw [hbl, h, eU, hD]
    have : (topD d - 1) / ((1 : Nat) : Int) = topD d - 1 := by simp
    omega
   rw [hw] at eS
   have hlo : stepK d f.g = f.g.lo := by omega
   refine ⟨hlo, ?_⟩
   have hlt : upK d 1 D < f.g.lo := by omega
   unfold b0r at hin
   rw [if_neg h0, hDt, hw] at hin
   split at hin
   · simp at hin
   · have hgr := G.grad
     by_cases hf1 : f.fam = 1
     · exact hf1
     · rw [decide_eq_false hf1] at hgr
       rw [hgr] at hin
       simp at hin
theorem p0p {f : Fm} (G : c0l f) (hf : f.fam ≠ 2) : (f.ext = false ∧ f.g.digs = f.F + 1) ∨ (f.ext = true ∧ f.g.digs = f.F ∧ f.F = 64) := by
 cases h : f.ext with
 | false => exact .inl ⟨rfl, G.d1 hf h⟩
 | true => have := G.ext h; exact .inr ⟨rfl, by omega, this.2.1⟩
theorem b1b {f : Fm} (G : c0l f) {d : Dv} (N : NumF f d) : (f.numP d).e < 2 ^ f.E ∧ (f.numP d).x < 2 ^ f.F := by
 have hE1 : (2 : Nat) ^ 7 ≤ 2 ^ f.E := Nat.pow_le_pow_right (by omega) G.e1
 have h1 := N.k1
 have h2 := N.k2
 have hF2 := N.lt
 have hdd := G.d2
 have hw := G.w
 unfold Fm.numP
 by_cases hf : f.fam = 2
 · rw [if_pos hf]
   have := G.hi2 hf
   rw [hw, if_pos hf, show 4 * f.g.digs.toNat = f.F by have := hdd hf; omega] at hF2
   exact ⟨by simp only; omega, hF2⟩
 · rw [if_neg hf]
   rw [hw, if_neg hf, Nat.one_mul] at hF2
   have hhi : f.g.hi + 2 ≤ f.g.lo + (2 ^ f.E : Nat) := by
    have h3 := G.hi1
    have h4 := G.hi3
    have h5 := G.fam
    omega
   rcases p0p G hf with ⟨he, hd⟩ | ⟨he, hd, h64⟩
   · rw [show f.g.digs.toNat = f.F + 1 by omega, Nat.pow_succ] at hF2
     by_cases hb : (blen (f.fr d) : Int) = f.g.digs
     · rw [if_pos hb, if_neg (by simp [he])]
       exact ⟨by simp only; omega, by simp only; omega⟩
     · rw [if_neg hb]
       refine ⟨by simp only; omega, ?_⟩
       have hbl := N.bl
       rw [hw, if_neg hf] at hbl
       show f.fr d < 2 ^ f.F
       exact (a0w _ _).1 (by omega)
   · rw [show f.g.digs.toNat = f.F by omega] at hF2
     by_cases hb : (blen (f.fr d) : Int) = f.g.digs
     · rw [if_pos hb, if_pos he]
       exact ⟨by simp only; omega, hF2⟩
     · rw [if_neg hb]
       exact ⟨by simp only; omega, hF2⟩
theorem h1s {f : Fm} (G : c0l f) {cls : Nat} {g : Bool} {d : Dv} (N : cls = 2 → NumF f d) : (f.encP cls g d).e < 2 ^ f.E ∧ (f.encP cls g d).x < 2 ^ f.F := by
 have h0 : 0 < 2 ^ f.E := Nat.pow_pos (by omega)
 have h1 : 0 < 2 ^ f.F := Nat.pow_pos (by omega)
 have hF := G.f1
 have h2 : 2 ^ (f.F - 1) < 2 ^ f.F := Nat.pow_lt_pow_right (by omega) (by omega)
 have h3 : f.ext = true → 2 ^ f.F = 2 ^ 64 := fun h => by rw [(G.ext h).2.1]
 unfold Fm.encP
 by_cases c2 : cls = 2
 · rw [if_pos c2]; exact b1b G (N c2)
 · rw [if_neg c2]
   by_cases c3 : cls = 3
   · rw [if_pos c3]
     refine ⟨by simp only; omega, ?_⟩
     simp only
     split
     · rename_i h; rw [h3 h]; omega
     · exact h1
   · rw [if_neg c3]
     by_cases c4 : cls = 4
     · rw [if_pos c4]
       refine ⟨by simp only; omega, ?_⟩
       simp only
       split
       · rename_i h; rw [h3 h]; omega
       · exact h2
     · rw [if_neg c4]
       split
       · exact ⟨h0, h1⟩
       · exact ⟨h0, h1⟩
theorem r0p (g : Bool) (m : Nat) (e : Int) : (if g then b0h (bare ⟨false, m, e⟩) else bare ⟨false, m, e⟩) = bare ⟨g, m, e⟩ := by
 cases g with
 | false => rfl
 | true =>
  rw [if_pos rfl]
  by_cases h : m = 0
  · subst h; rfl
  · unfold bare b0h
    rw [if_neg h, if_neg h]
    have h1 := c0h m (by omega)
    have h2 : 0 < m / 2 ^ tz m := by
     rcases Nat.eq_zero_or_pos (m / 2 ^ tz m) with k | k
     · rw [k] at h1; simp at h1
     · exact k
    simp [h2]
theorem p0q {x k n : Nat} (h : x < 2 ^ k) (hk : k ≤ 32 * n) : (dig B32 x).length ≤ n := by
 rw [a0e a0a]
 unfold B32
 rw [show (4294967296 : Nat) = 2 ^ 32 from rfl, ← Nat.pow_mul]
 exact Nat.lt_of_lt_of_le h (Nat.pow_le_pow_right (by omega) hk)
theorem d1x (f : Fm) (g : Bool) (d : Dc) : bare ⟨(f.vl g d).neg, (f.vl g d).d, wid f.g * (f.vl g d).pow⟩ = (f.vr g d).x := by
 by_cases h : d.c = 2
 · unfold Fm.vl Fm.vr
   simp only [h, if_true]
   have hw := b0f f.g
   rw [if_pos (by omega)]
   have e : (wid f.g : Int) * (d.p + (tz d.m / wid f.g : Nat)) = wid f.g * d.p + ((tz d.m / wid f.g * wid f.g : Nat) : Int) := by
    rw [Int.mul_add, Int.natCast_mul, Int.mul_comm (wid f.g : Int) ((tz d.m / wid f.g : Nat) : Int)]
   rw [e, ← j0s]
   have hm : d.m ≠ 0 := by
    intro h0
    unfold Dc.c at h
    split at h
    · omega
    · rename_i k
      exact k ⟨h, h0⟩
   have hdv : 2 ^ (tz d.m / wid f.g * wid f.g) ∣ d.m := Nat.dvd_trans (Nat.pow_dvd_pow 2 (Nat.div_mul_le_self _ _)) ⟨d.m / 2 ^ tz d.m, ((c0h d.m (by omega)).1).symm⟩
   rw [Nat.div_mul_cancel hdv]
 · unfold Fm.vl Fm.vr
   simp only [if_neg h]
   exact q0k _ _
theorem b1c (d : Dv) : e0v d = 0 ↔ d.m = 0 := by unfold e0v; by_cases h : d.m = 0 <;> cases d.neg <;> simp [h]
structure CanF (f : Fm) (cls : Nat) (g : Bool) (d : Dv) : Prop where
 c : 1 ≤ cls ∧ cls ≤ 5
 c1 : cls = 1 → g = true → f.fam ≠ 3
 c2 : cls = 2 → NumF f d ∧ Bare d ∧ d.m ≠ 0 ∧ d.neg = g
 c3 : cls = 3 → f.fam = 1
 c4 : cls = 4 → f.fam = 1 ∧ g = false
 c5 : cls = 5 → f.fam = 3 ∧ g = false
theorem h1t {f : Fm} {d : Dv} (N : NumF f d) (hB : Bare d) : bare ⟨d.neg, f.fr d, wid f.g * stepK d f.g⟩ = d := by
 have h0 := N.e0
 unfold Fm.fr
 rw [j0s, show wid f.g * stepK d f.g + (((d.e - wid f.g * stepK d f.g).toNat : Nat) : Int) = d.e by omega]
 exact s0l hB
theorem d1y {f : Fm} (G : c0l f) {d : Dv} (N : NumF f d) : (f.numP d).neg = d.neg ∧ f.dec (f.numP d).neg (f.numP d).e (f.numP d).x = ⟨2, f.fr d, stepK d f.g⟩ := by
 have hE1 : (2 : Nat) ^ 7 ≤ 2 ^ f.E := Nat.pow_le_pow_right (by omega) G.e1
 have h1 := N.k1
 have h2 := N.k2
 have hw := G.w
 by_cases hf : f.fam = 2
 · have e : f.numP d = ⟨d.neg, (stepK d f.g - f.g.lo).toNat, f.fr d⟩ := by unfold Fm.numP; rw [if_pos hf]
   rw [e]
   refine ⟨rfl, ?_⟩
   unfold Fm.dec
   rw [if_pos hf]
   simp only [Dc.mk.injEq, true_and]
   omega
 · have hhi : f.g.hi + 2 ≤ f.g.lo + (2 ^ f.E : Nat) := by
    have h3 := G.hi1
    have h4 := G.hi3
    have h5 := G.fam
    omega
   have hhi1 : f.fam = 1 → f.g.hi + 3 = f.g.lo + (2 ^ f.E : Nat) := fun h => by have := G.hi1 h; omega
   by_cases hb : (blen (f.fr d) : Int) = f.g.digs
   · have hp := e0z (f.fr d) (by have := N.ne; omega)
     obtain ⟨X, hX, hk1, hk2⟩ : ∃ X, f.numP d = ⟨d.neg, (stepK d f.g - f.g.lo).toNat + 1, X⟩ ∧ (f.ext = false → X + 2 ^ f.F = f.fr d) ∧ (f.ext = true → X = f.fr d ∧ 2 ^ 63 ≤ X) := by
      refine ⟨_, by unfold Fm.numP; rw [if_neg hf, if_pos hb], fun he => ?_, fun he => ?_⟩
      · rw [he]
        simp only [Bool.false_eq_true, if_false]
        rcases p0p G hf with ⟨_, hd⟩ | ⟨h, _⟩
        · rw [show blen (f.fr d) - 1 = f.F by omega] at hp
          omega
        · rw [he] at h; cases h
      · rw [if_pos he]
        refine ⟨rfl, ?_⟩
        rcases p0p G hf with ⟨h, _⟩ | ⟨_, hd, h64⟩
        · rw [he] at h; cases h
        · rw [show blen (f.fr d) - 1 = 63 by omega] at hp
          exact hp
     rw [hX]
     refine ⟨rfl, ?_⟩
     unfold Fm.dec
     simp only
     rw [if_neg hf, if_neg (by rintro ⟨h, k⟩; have := hhi1 h; omega), if_neg (by omega), if_neg (by omega)]
     cases he : f.ext with
     | false =>
      rw [if_pos rfl, hk1 he]
      simp only [Dc.mk.injEq, true_and]
      omega
     | true =>
      rw [if_neg (by simp), if_neg (by have := (hk2 he).2; omega), (hk2 he).1]
      simp only [Dc.mk.injEq, true_and]
      omega
   · obtain ⟨l1, l2⟩ := N.low hf hb
     have e : f.numP d = ⟨d.neg, (stepK d f.g - f.g.lo).toNat, f.fr d⟩ := by unfold Fm.numP; rw [if_neg hf, if_neg hb]
     rw [e]
     refine ⟨rfl, ?_⟩
     unfold Fm.dec
     simp only
     rw [if_neg hf, if_neg (by rintro ⟨h, k⟩; omega), if_neg (by omega), if_pos (by omega), l1]
theorem h1u {f : Fm} (G : c0l f) {cls : Nat} {g : Bool} {d : Dv} (C : CanF f cls g d) :
 f.vr (f.encP cls g d).neg (f.dec (f.encP cls g d).neg (f.encP cls g d).e (f.encP cls g d).x) = ⟨cls, g, if cls = 2 then d else ⟨false, 0, 0⟩⟩ := by
 have hE1 : (2 : Nat) ^ 7 ≤ 2 ^ f.E := Nat.pow_le_pow_right (by omega) G.e1
 have hfam := G.fam
 obtain ⟨c1, c2⟩ := C.c
 have hx := G.ext
 rcases (show cls = 1 ∨ cls = 2 ∨ cls = 3 ∨ cls = 4 ∨ cls = 5 by omega) with rfl | rfl | rfl | rfl | rfl
 · have h := C.c1 rfl
   have hd : (f.dec g 0 0).c = 1 := by
    unfold Fm.dec
    by_cases h2 : f.fam = 2
    · rw [if_pos h2]; rfl
    · rw [if_neg h2, if_neg (by rintro ⟨_, k⟩; omega)]
      by_cases h3 : f.fam = 3
      · rw [if_pos ⟨h3, rfl⟩, if_neg (fun k => h k h3)]; rfl
      · rw [if_neg (fun k => h3 k.1), if_pos rfl]; rfl
   show f.vr g (f.dec g 0 0) = _
   unfold Fm.vr
   rw [hd]
   rfl
 · obtain ⟨N, hB, h0, hg⟩ := C.c2 rfl
   obtain ⟨k1, k2⟩ := d1y G N
   show f.vr (f.numP d).neg (f.dec (f.numP d).neg (f.numP d).e (f.numP d).x) = _
   rw [k2, k1]
   have hc : (⟨2, f.fr d, stepK d f.g⟩ : Dc).c = 2 := by unfold Dc.c; rw [if_neg (fun h => N.ne h.2)]
   unfold Fm.vr
   rw [hc]
   simp only [if_true]
   rw [if_pos (by omega), h1t N hB, hg]
 · have h := C.c3 rfl
   have hd : f.dec g (2 ^ f.E - 1) (if f.ext then 2 ^ 63 else 0) = ⟨3, 0, 0⟩ := by
    unfold Fm.dec
    rw [if_neg (by omega), if_pos ⟨h, rfl⟩, if_pos (by cases f.ext <;> simp)]
   show f.vr g (f.dec g (2 ^ f.E - 1) (if f.ext then 2 ^ 63 else 0)) = _
   rw [hd]
   rfl
 · obtain ⟨h, rfl⟩ := C.c4 rfl
   have hp : 0 < 2 ^ (f.F - 1) := Nat.pow_pos (by omega)
   have hd : f.dec false (2 ^ f.E - 1) (if f.ext then 2 ^ 63 + 2 ^ 62 else 2 ^ (f.F - 1)) = ⟨4, 0, 0⟩ := by
    unfold Fm.dec
    rw [if_neg (by omega), if_pos ⟨h, rfl⟩, if_neg (by cases f.ext <;> simp <;> omega)]
   show f.vr false (f.dec false (2 ^ f.E - 1) (if f.ext then 2 ^ 63 + 2 ^ 62 else 2 ^ (f.F - 1))) = _
   rw [hd]
   rfl
 · obtain ⟨h, rfl⟩ := C.c5 rfl
   have hd : f.dec true 0 0 = ⟨5, 0, 0⟩ := by
    unfold Fm.dec
    rw [if_neg (by omega), if_neg (by omega), if_pos ⟨h, rfl⟩, if_pos rfl]
   show f.vr true (f.dec true 0 0) = _
   rw [hd]
   rfl
theorem f1s {D : Dc} (h : D.c = 2) : D.m ≠ 0 := by
 intro h0
 unfold Dc.c at h
 split at h
 · omega
 · rename_i k
   exact k ⟨h, h0⟩
theorem l1u {f : Fm} (G : c0l f) (g : Bool) {e x : Nat} (he : e < 2 ^ f.E) (hx : x < 2 ^ f.F) (neg : Bool) :
 (dig B32 (f.vl g (f.dec neg e x)).d).length ≤ 1000 ∧ -20000 ≤ (f.vl g (f.dec neg e x)).pow ∧ (f.vl g (f.dec neg e x)).pow ≤ 20000 := by
 have k2 := h1j (f := f) neg (e := e) hx
 have k3 := j1y G neg (frac := x) he
 have z2 := G.f2
 generalize f.dec neg e x = D at *
 have hml : (dig B32 D.m).length ≤ 3 := p0q k2 (by omega)
 unfold Fm.vl
 simp only
 refine ⟨?_, ?_⟩
 · split
   · exact Nat.le_trans (a0j a0a (Nat.div_le_self _ _)) (by omega)
   · simp [a0c]
 · split
   · rename_i hc
     have h1 := f0t (m := D.m) (by have := f1s hc; omega)
     have h3 := (a0w _ _).2 k2
     have h2 := Nat.div_le_self (tz D.m) (wid f.g)
     obtain ⟨q, hq⟩ : ∃ q : Nat, tz D.m / wid f.g = q := ⟨_, rfl⟩
     rw [hq] at h2 ⊢
     omega
   · omega
theorem d1z (f : Fm) (g : Bool) (D : Dc) (h : (f.vl g D).cls ≠ 2) : (f.vl g D).d = 0 ∧ (f.vl g D).pow = 0 := by
 have hc : D.c ≠ 2 := h
 unfold Fm.vl
 simp only [if_neg hc, and_self]
def vz : Dv := ⟨false, 0, 0⟩
def Fm.nothM (f : Fm) : Vr := ⟨if f.fam = 1 then 4 else if f.fam = 2 then 1 else 5, false, vz⟩
def Fm.greatM (f : Fm) (neg : Bool) : Vr := ⟨2, neg, bare ⟨neg, 2 ^ (wid f.g * f.g.digs.toNat) - 1, wid f.g * f.g.hi⟩⟩
def Fm.zeroM (f : Fm) (neg : Bool) : Vr := ⟨1, neg && decide (f.fam = 1), vz⟩
def infM (neg : Bool) : Vr := ⟨3, neg, vz⟩
def Fm.flP (f : Fm) (p : Pl) : Nat := if p.under then (if f.fam = 1 then (if p.exact then 0 else 3) else 3) else if p.exact then 0 else 1
def Fm.placedM (f : Fm) (p : Pl) (way : Int) : Vr × Nat :=
 if p.over then (if f.fam = 2 then f.greatM p.neg else if f.fam = 3 then f.nothM else if way ≤ 2 ∨ (way = 4 ∧ p.neg = false) ∨ (way = 5 ∧ p.neg = true) then infM p.neg else f.greatM p.neg, 5)
 else if p.under = true ∧ f.fam ≠ 1 ∧ p.pow < f.g.lo then (f.zeroM false, 3)
 else if p.d = 0 then (f.zeroM p.neg, f.flP p)
 else (⟨2, p.neg, bare ⟨p.neg, p.d, wid f.g * p.pow⟩⟩, f.flP p)
def Fm.numM (f : Fm) (x : Dv) (way : Int) : Vr × Nat := if x.m = 0 then (f.zeroM false, 0) else f.placedM (a0m x.neg x.m 1 x.e f.g way) way
def Fm.sumM (f : Fm) (x y : Dv) (p q : Bool) (way : Int) : Vr × Nat :=
 if (d0l x y).m ≠ 0 then f.numM (d0l x y) way else if x.m = 0 ∧ p = q then (f.zeroM p, 0) else (f.zeroM (decide (way = 5)), 0)
def Fm.offM (f : Fm) : Vr × Nat := (f.nothM, if f.fam = 3 then 16 else 0)
def Fm.lostM (f : Fm) : Vr × Nat := (f.nothM, 16)
def Fm.addM (f : Fm) (a b : Vr) (way : Int) : Vr × Nat :=
 if 4 ≤ a.cls ∨ 4 ≤ b.cls then f.offM
 else if a.cls = 3 ∨ b.cls = 3 then (if a.cls = b.cls ∧ a.neg ≠ b.neg then f.lostM else if a.cls = 3 then (a, 0) else (b, 0))
 else f.sumM a.x b.x a.neg b.neg way
end Go.Slip
namespace Go.Proofs.YtmacohmclpnphaaGreatDoor
open Go.RowKit Go.Slip
def famB (f : Fm) : Int := if f.fam = 1 then 65 else if f.fam = 2 then 66 else 67
abbrev uS (f : Fm) (n way k : Int) : List SV := [.v (.int .i64 n), .v (.int .i64 way), .v (.int .i64 f.g.rad), .v (.int .i64 f.g.digs), .v (.int .i64 f.g.lo), .v (.int .i64 f.g.hi), .v (.bool f.g.grad), .v (.int .u8 (famB f)), .v (.int .i64 k)]
theorem c0t (f : Fm) (n way a b c : Int) (u : Nat) (w : World) (U : Bt w u 182 #[.int .i64 n, .int .i64 way, .int .i64 f.g.rad, .int .i64 f.g.digs, .int .i64 f.g.lo, .int .i64 f.g.hi, .bool f.g.grad, .int .u8 (famB f), .int .i64 a]) (hc : bits .or .i64 a b = c) :
 Calls Tryz.prog 163 #[.pointer (some ⟨u, 0, none⟩), .int .i64 b] w fun e w' => e = .returned (.tuple #[]) ∧ Kp [u] w w' ∧ Bt w' u 182 #[.int .i64 n, .int .i64 way, .int .i64 f.g.rad, .int .i64 f.g.digs, .int .i64 f.g.lo, .int .i64 f.g.hi, .bool f.g.grad, .int .u8 (famB f), .int .i64 c] := by
 have I := Inv.startW w u 182 (uS f n way a) [] U True.intro True.intro
 refine a0f [.p 0 0, .v (.int .i64 b)] I Tryz.func163 ?_
 refine zbin I 9 _ (fun _ _ _ _ _ => f1m .i64 (a) (b) (c) (hc)) fun Al W I => ?_
 exact zret I fun Al W I => ⟨rfl, I.bel, I.boxE 182 _⟩
theorem h1v (f : Fm) (n way a : Int) (u : Nat) (w : World) (U : Bt w u 182 #[.int .i64 n, .int .i64 way, .int .i64 f.g.rad, .int .i64 f.g.digs, .int .i64 f.g.lo, .int .i64 f.g.hi, .bool f.g.grad, .int .u8 (famB f), .int .i64 a]) :
 Calls Tryz.prog 165 #[.pointer (some ⟨u, 0, none⟩)] w fun e w' => e = .returned (.int .i64 ((wid f.g : Nat) : Int)) ∧ Below w.heap.size w w' := by
 by_cases h : f.g.rad = 16
 · have hw : wid f.g = 4 := by unfold wid; rw [if_pos h]
   rw [hw]
   have I := Inv.startR w [u] [⟨182, (uS f n way a), true⟩] [] ⟨U, True.intro⟩ True.intro
   refine a0f [.p 0 0] I Tryz.func165 ?_
   refine zb I 8 (f.g.rad == 16) (true) (beq_iff_eq.2 h) fun Al W I => ?_
   exact zrb I
 · have hw : wid f.g = 1 := by unfold wid; rw [if_neg h]
   rw [hw]
   have I := Inv.startR w [u] [⟨182, (uS f n way a), true⟩] [] ⟨U, True.intro⟩ True.intro
   refine a0f [.p 0 0] I Tryz.func165 ?_
   refine zb I 8 (f.g.rad == 16) (false) (bFn h) fun Al W I => ?_
   exact zrb I
theorem f1t (f : Fm) (n way a : Int) (g : Bool) (u : Nat) (w : World) (U : Bt w u 182 #[.int .i64 n, .int .i64 way, .int .i64 f.g.rad, .int .i64 f.g.digs, .int .i64 f.g.lo, .int .i64 f.g.hi, .bool f.g.grad, .int .u8 (famB f), .int .i64 a]) :
 Calls Tryz.prog 119 #[.pointer (some ⟨u, 0, none⟩), .bool g] w fun e w' => e = .returned (.agg #[.int .i64 1, .bool (g && decide (f.fam = 1)), .slice none 0 0, .int .i64 0]) ∧ Below w.heap.size w w' := by
 have hB : (famB f == 65) = decide (f.fam = 1) := by
  unfold famB
  by_cases h1 : f.fam = 1
  · simp [h1]
  · by_cases h2 : f.fam = 2 <;> simp [h1, h2]
 cases g
 · have I := Inv.startR w [u] [⟨182, (uS f n way a), true⟩] [] ⟨U, True.intro⟩ True.intro
   refine a0f [.p 0 0, .v (.bool false)] I Tryz.func119 ?_
   exact zrb I
 · generalize decide (f.fam = 1) = q at *
   have I := Inv.startR w [u] [⟨182, (uS f n way a), true⟩] [] ⟨U, True.intro⟩ True.intro
   refine a0f [.p 0 0, .v (.bool true)] I Tryz.func119 ?_
   refine zb I 11 ((famB f) == 65) (q) (hB) fun Al W I => ?_
   exact zrb I
theorem e1a : Tryz.prog.underlying 216 = some (.map 5 3) := by kernel_rfl
def m0h : Array MapEntry := #[⟨.int .u8 65, .int .i64 4, 0⟩, ⟨.int .u8 66, .int .i64 1, 1⟩, ⟨.int .u8 67, .int .i64 5, 2⟩]
theorem b1d (f : Fm) (n way a : Int) (u : Nat) (w : World) (U : Bt w u 182 #[.int .i64 n, .int .i64 way, .int .i64 f.g.rad, .int .i64 f.g.digs, .int .i64 f.g.lo, .int .i64 f.g.hi, .bool f.g.grad, .int .u8 (famB f), .int .i64 a]) :
 Calls Tryz.prog 141 #[.pointer (some ⟨u, 0, none⟩)] w fun e w' => e = .returned (.agg #[.int .i64 (f.nothM.cls : Int), .bool false, .slice none 0 0, .int .i64 0]) ∧ Below w.heap.size w w' := by
 have hmm := @run_makeMap Tryz.prog
 go_enter Tryz.func141, Tryz.ntmps141
 have hs : (w.alloc (Obj.cells #[Value.int IntKind.i64 0, Value.bool false, Value.slice none 0 0, Value.int IntKind.i64 0] 75)).heap.size = w.heap.size + 1 := by show (w.heap.push _).size = _; exact Array.size_push ..
 have h1 := d0w (w := w.alloc (Obj.cells #[Value.int IntKind.i64 0, Value.bool false, Value.slice none 0 0, Value.int IntKind.i64 0] 75)) e1a Tryz.underlying5 #[] 0 65 (.int .i64 4) rfl
 have h2 := d0w (w := w.alloc (Obj.cells #[Value.int IntKind.i64 0, Value.bool false, Value.slice none 0 0, Value.int IntKind.i64 0] 75)) e1a Tryz.underlying5 #[⟨.int .u8 65, .int .i64 4, 0⟩] 1 66 (.int .i64 1) rfl
 have h3 := d0w (w := w.alloc (Obj.cells #[Value.int IntKind.i64 0, Value.bool false, Value.slice none 0 0, Value.int IntKind.i64 0] 75)) e1a Tryz.underlying5 #[⟨.int .u8 65, .int .i64 4, 0⟩, ⟨.int .u8 66, .int .i64 1, 1⟩] 2 67 (.int .i64 5) rfl
 rw [hs] at h1 h2 h3
 have U3 : ∀ es c, Bt ((w.alloc (Obj.cells #[Value.int IntKind.i64 0, Value.bool false, Value.slice none 0 0, Value.int IntKind.i64 0] 75)).alloc (Obj.map es c)) u 182 #[.int .i64 n, .int .i64 way, .int .i64 f.g.rad, .int .i64 f.g.digs, .int .i64 f.g.lo, .int .i64 f.g.hi, .bool f.g.grad, .int .u8 (famB f), .int .i64 a] := fun es c => U.past (((Below.refl _ _).alloc (Nat.le_refl _) _).alloc (by rw [hs]; omega) _)
 have hL := (U3 m0h 3).bx.c 7 (v := .int .u8 (famB f)) rfl
 have hM : ((w.alloc (Obj.cells #[Value.int IntKind.i64 0, Value.bool false, Value.slice none 0 0, Value.int IntKind.i64 0] 75)).alloc (Obj.map m0h 3)).heap[w.heap.size + 1]? = some (.map m0h 3) := by
  rw [← hs]; show ((World.alloc _ _).heap.push _)[_]? = _; exact Array.getElem?_push_size
 have hF : ∃ i, Instr.findNow (.int .u8) (.int .u8 (famB f)) m0h.toList 0 = some (some (i, .int .i64 (f.nothM.cls : Int))) := by
  unfold famB Fm.nothM
  by_cases h1 : f.fam = 1
  · rw [if_pos h1, if_pos h1]; exact ⟨0, rfl⟩
  · rw [if_neg h1, if_neg h1]
    by_cases h2 : f.fam = 2
    · rw [if_pos h2, if_pos h2]; exact ⟨1, rfl⟩
    · rw [if_neg h2, if_neg h2]; exact ⟨2, rfl⟩
 obtain ⟨i, hF⟩ := hF
 have hK := i0a e1a Tryz.underlying5 hM (famB f) hF
 simp only [m0h] at hL hK
 clear hM hF U3
 go_wp2_with fail
 have hC : Bt ((w.alloc (Obj.cells #[.int .i64 (f.nothM.cls : Int), .bool false, .slice none 0 0, .int .i64 0] 75)).alloc (Obj.map m0h 3)) w.heap.size 75 #[.int .i64 (f.nothM.cls : Int), .bool false, .slice none 0 0, .int .i64 0] := by
  show ((w.heap.push _).push _)[_]? = _
  rw [Array.getElem?_push_lt (by rw [Array.size_push]; omega)]
  simp
 simp only [m0h] at hC
 have ⟨b0, b1, b2, b3⟩ := hC.bx.e4
 refine bodyPost_ret (v := .agg #[.int .i64 (f.nothM.cls : Int), .bool false, .slice none 0 0, .int .i64 0]) (by simp [results, Tryz.results141, go_sem, b0, b1, b2, b3]) rfl ⟨rfl, ?_⟩
 refine ((Below.refl _ _).alloc (Nat.le_refl _) _).alloc ?_ _
 show _ ≤ (w.heap.push _).size
 rw [Array.size_push]; omega
def h1w (w : World) (v : Vl) (en : Ending) (w' : World) : Prop :=
 ∃ p c, en = .returned (.agg #[.int .i64 (v.cls : Int), .bool v.neg, .slice p (dig B32 v.d).length c, .int .i64 v.pow]) ∧ Own w' w.heap.size .u32 141 p c (dig B32 v.d) ∧ Below w.heap.size w w'
theorem g0c (f : Fm) (n way a : Int) (g : Bool) (u : Nat) (w : World) (U : Bt w u 182 #[.int .i64 n, .int .i64 way, .int .i64 f.g.rad, .int .i64 f.g.digs, .int .i64 f.g.lo, .int .i64 f.g.hi, .bool f.g.grad, .int .u8 (famB f), .int .i64 a]) (hd : 0 ≤ f.g.digs ∧ f.g.digs ≤ 1000) :
 Calls Tryz.prog 164 #[.pointer (some ⟨u, 0, none⟩), .bool g] w (h1w w ⟨2, g, 2 ^ (wid f.g * f.g.digs.toNat) - 1, f.g.hi⟩) := by
 have wp := b0f f.g
 have lu := U.lt
 have hmw : ((wid f.g * f.g.digs.toNat : Nat) : Int) = (wid f.g : Nat) * f.g.digs := by rw [Int.natCast_mul, Int.toNat_of_nonneg hd.1]
 have hmb : wid f.g * f.g.digs.toNat ≤ 4 * 1000 := Nat.mul_le_mul wp.2 (by omega)
 have l1 : (dig B32 1).length ≤ 1 := by rw [a0e a0a]; unfold B32; omega
 have l2 : (dig B32 (2 ^ (wid f.g * f.g.digs.toNat))).length ≤ 126 := a0q (n := wid f.g * f.g.digs.toNat + 1) (k := 126) (Nat.pow_lt_pow_right (a := 2) (by omega) (by omega)) (by omega)
 have h1 := Nat.one_le_two_pow (n := wid f.g * f.g.digs.toNat)
 have HW := fun W u hU => hi0 (h1v f n way a u W hU)
 generalize wid f.g * f.g.digs.toNat = m at *
 generalize hx : 2 ^ m = x at *
 have HX := hi0 hx
 clear hx
 have HM := hi0 hmw
 clear hmw
 have I := Inv.startR w [u] [⟨182, (uS f n way a), true⟩] [] ⟨U, True.intro⟩ True.intro
 refine a0f [.p 0 0, .v (.bool g)] I Tryz.func164 ?_
 refine zq I (fun Al W I => (HW W _ (I.box 0 182 _)).out) fun Al W I => ?_
 refine zd [] I fun Al W I => ?_
 refine zk [1, 2, 3, 4, 5, 6] I fun I => ?_
 refine zki 7 I .i64 (((wid f.g : Nat) : Int) * f.g.digs) ((m : Int)) ((by rw [HM.out]; exact IntWalk.i64_in _ (by rw [← HM.out]; omega))) fun I => ?_
 refine zo 0 I fun I => ?_
 refine zqo I (fun Al W I => have hzW := I.bel.size; sof 1 1 rfl (by omega) W) fun Al W p9 c9 I => ?_
 refine zo 8 I fun I => ?_
 refine zqo I (fun Al W I => have hzW := I.bel.size; sshl p9 _ c9 1 m x _ W I.fa.1.rd rfl (by omega) (by omega) rfl (by rw [HX.out]; omega)) fun Al W p17 c17 I => ?_
 refine zo 9 I fun I => ?_
 refine zqo I (fun Al W I => have hzW := I.bel.size; sof 1 1 rfl (by omega) W) fun Al W p18 c18 I => ?_
 refine zo 10 I fun I => ?_
 refine zqo I (fun Al W I => have hzW := I.bel.size; ssub p17 p18 _ _ c17 c18 x 1 (x - 1) W I.fa.2.1.rd I.fa.1.rd rfl rfl (by omega) (by omega) rfl) fun Al W p19 c19 I => ?_
 refine zk [11] I fun I => ?_
 exact zret I fun Al W I => ⟨p19, c19, rfl, I.fa.1.mono (by omega), I.below⟩
def k0t (f : Fm) (n way c : Int) (u : Nat) (w : World) (v : Vl) (en : Ending) (w' : World) : Prop :=
 ∃ p k, en = .returned (.agg #[.int .i64 (v.cls : Int), .bool v.neg, .slice p (dig B32 v.d).length k, .int .i64 v.pow]) ∧ Own w' w.heap.size .u32 141 p k (dig B32 v.d) ∧ Kp [u] w w' ∧ Bt w' u 182 #[.int .i64 n, .int .i64 way, .int .i64 f.g.rad, .int .i64 f.g.digs, .int .i64 f.g.lo, .int .i64 f.g.hi, .bool f.g.grad, .int .u8 (famB f), .int .i64 c]
theorem e1b (f : Fm) (n way a c : Int) (g : Bool) (u : Nat) (w : World) (U : Bt w u 182 #[.int .i64 n, .int .i64 way, .int .i64 f.g.rad, .int .i64 f.g.digs, .int .i64 f.g.lo, .int .i64 f.g.hi, .bool f.g.grad, .int .u8 (famB f), .int .i64 a]) (hd : 0 ≤ f.g.digs ∧ f.g.digs ≤ 1000) (hc : bits .or .i64 a 5 = c) (h2 : f.fam = 2) :
 Calls Tryz.prog 180 #[.pointer (some ⟨u, 0, none⟩), .bool g] w (k0t f n way c u w ⟨2, g, 2 ^ (wid f.g * f.g.digs.toNat) - 1, f.g.hi⟩) := by
 have hF : famB f = 66 := by unfold famB; rw [if_neg (by omega), if_pos h2]
 have HR := fun W u hU => hi0 (c0t f n way a 5 c u W hU hc)
 have HG := fun W u hU => hi0 (g0c f n way c g u W hU hd)
 generalize 2 ^ (wid f.g * f.g.digs.toNat) - 1 = m at *
 have I := Inv.startW w u 182 (uS f n way a) [] U True.intro True.intro
 refine a0f [.p 0 0, .v (.bool g)] I Tryz.func180 ?_
 refine zge I 0 182 (fun Al W I => (HR W _ (I.box 0 182 _)).out) fun Al V Iv _ _ kz => ?_
 rintro _ W ⟨rfl, hO, hB⟩
 refine ⟨_, rfl, kz _ (uS f n way c) _ hO hB fun I => ?_⟩
 refine zb I 13 ((famB f) == 66) (true) (beq_iff_eq.2 hF) fun Al W I => ?_
 refine zqo I (fun Al W I => (HG W _ (I.box 0 182 _)).out) fun Al W p16 c16 I => ?_
 exact zret I fun Al W I => ⟨p16, c16, rfl, I.fa.1.mono (by omega), I.bel, I.boxE 182 _⟩
theorem d0b {f : Fm} {n way c : Int} {u k : Nat} {g : Bool} {w w' : World} {en : Ending} (h : en = .returned (.agg #[.int .i64 (k : Int), .bool g, .slice none 0 0, .int .i64 0])) (hk : Kp [u] w w') (hb : Bt w' u 182 #[.int .i64 n, .int .i64 way, .int .i64 f.g.rad, .int .i64 f.g.digs, .int .i64 f.g.lo, .int .i64 f.g.hi, .bool f.g.grad, .int .u8 (famB f), .int .i64 c]) : k0t f n way c u w ⟨k, g, 0, 0⟩ en w' := by
 refine ⟨none, 0, ?_, ?_, hk, hb⟩
 · rw [h, a0c]; rfl
 · show Own _ _ _ _ _ _ (dig B32 0); rw [a0c]; exact Own.nil _ _ _ _
theorem e1c (f : Fm) (n way a c : Int) (g : Bool) (u : Nat) (w : World) (U : Bt w u 182 #[.int .i64 n, .int .i64 way, .int .i64 f.g.rad, .int .i64 f.g.digs, .int .i64 f.g.lo, .int .i64 f.g.hi, .bool f.g.grad, .int .u8 (famB f), .int .i64 a]) (hc : bits .or .i64 a 5 = c) (h1 : f.fam ≠ 1) (h2 : f.fam ≠ 2) :
 Calls Tryz.prog 180 #[.pointer (some ⟨u, 0, none⟩), .bool g] w (k0t f n way c u w ⟨f.nothM.cls, false, 0, 0⟩) := by
 have hF : famB f = 67 := by unfold famB; rw [if_neg h1, if_neg h2]
 have HR := fun W u hU => hi0 (c0t f n way a 5 c u W hU hc)
 have HG := fun W u hU => hi0 (b1d f n way c u W hU)
 generalize f.nothM.cls = k at *
 have I := Inv.startW w u 182 (uS f n way a) [] U True.intro True.intro
 refine a0f [.p 0 0, .v (.bool g)] I Tryz.func180 ?_
 refine zge I 0 182 (fun Al W I => (HR W _ (I.box 0 182 _)).out) fun Al V Iv _ _ kz => ?_
 rintro _ W ⟨rfl, hO, hB⟩
 refine ⟨_, rfl, kz _ (uS f n way c) _ hO hB fun I => ?_⟩
 refine zb I 13 ((famB f) == 66) (false) (bFn (by rw [hF]; decide)) fun Al W I => ?_
 refine zb I 18 ((famB f) == 67) (true) (beq_iff_eq.2 hF) fun Al W I => ?_
 refine zq I (fun Al W I => (HG W _ (I.box 0 182 _)).out) fun Al W I => ?_
 exact zret I fun Al W I => d0b rfl I.bel (I.boxE 182 _)
theorem k0k (g : Bool) (w : World) : Calls Tryz.prog 118 #[.bool g] w fun e w' => e = .returned (.agg #[.int .i64 3, .bool g, .slice none 0 0, .int .i64 0]) ∧ Below w.heap.size w w' := by
 have I := Inv.start w [] True.intro
 refine a0f [.v (.bool g)] I Tryz.func118 ?_
 exact zrb I
end Go.Proofs.YtmacohmclpnphaaGreatDoor
namespace Go.Slip
def LL (bs : List Nat) (i : Nat) : List Nat := bs.take i ++ List.replicate (bs.length - i) 0
theorem m0i (bs : List Nat) (i : Nat) : (LL bs i).length = bs.length := by unfold LL; rw [List.length_append, List.length_take, List.length_replicate]; omega
theorem h1x (bs : List Nat) : LL bs 0 = List.replicate bs.length 0 := by unfold LL; rw [List.take_zero]; rfl
theorem k1l (bs : List Nat) : LL bs bs.length = bs := by unfold LL; rw [List.take_length, Nat.sub_self]; simp
theorem b1e (bs : List Nat) (i j : Nat) : dg (LL bs i) j = if j < i then dg bs j else 0 := by
 unfold LL
 by_cases h : j < (bs.take i).length
 · rw [q0d h]
   have h2 : j < i := by rw [List.length_take] at h; omega
   rw [j0m h2, if_pos h2]
 · rw [q0e (by omega), c0a]
   split
   · rw [b0j]
     rw [List.length_take] at h
     omega
   · rfl
theorem k1m (bs : List Nat) {i : Nat} (h : i < bs.length) : (LL bs i).set i (dg bs i) = LL bs (i + 1) := by
 refine n0w (by rw [List.length_set, m0i, m0i]) fun j hj => ?_
 rw [List.length_set, m0i] at hj
 by_cases e : i = j
 · subst e
   rw [b0g (by rw [m0i]; exact h), b1e, if_pos (by omega)]
 · rw [b0l e, b1e, b1e]
   by_cases k : j < i
   · rw [if_pos k, if_pos (by omega)]
   · rw [if_neg k, if_neg (by omega)]
theorem h1y (bs : List Nat) {i : Nat} (h0 : dg bs i = 0) : LL bs i = LL bs (i + 1) := by
 refine n0w (by rw [m0i, m0i]) fun j _ => ?_
 rw [b1e, b1e]
 by_cases e : j = i
 · subst e
   rw [if_neg (by omega), if_pos (by omega), h0]
 · by_cases k : j < i
   · rw [if_pos k, if_pos (by omega)]
   · rw [if_neg k, if_neg (by omega)]
theorem b1f (n : Nat) : IntKind.u8.wrap (n : Int) = ((n % 256 : Nat) : Int) := by
 simp [IntKind.wrap, IntKind.signed, IntKind.bits]
theorem b1g (n : Nat) : dg (dig B32 n) 0 = n % 4294967296 := by
 rcases Nat.eq_zero_or_pos n with h | h
 · subst h; rw [a0c]; rfl
 · rw [d0i a0a h]; rfl
section
open Go.RowKit
variable {P : Program} {ops : Array Oper} {Q : Exit → Act → World → Prop} {a : Act} {w : World} {rest : List Oper} {o : Oper}
theorem smkn (d : Nat) {x y : Operand} {t : TypeId} {e : TypeId} {k : IntKind} {bytes : Nat} (hty : g0l P t e (.int k 0) bytes) (n : Nat) (hb : n ≤ 4000000000)
 (h : ∀ p' c' w', Own w' w.heap.size k e p' c' (List.replicate n 0) → Below w.heap.size w w' → WpL P ops Q rest (a.put (some d) (.slice p' n c')) w')
 (hx : a.eval x = .int .i64 (n : Int) := by kernel_rfl) (hy : a.eval y = .int .i64 (n : Int) := by kernel_rfl)
 (ho : o.op = .makeSlice t x y := by rfl) (hd : o.dst = some d := by kernel_rfl)
 (hw : Region.wanted o (yielded ops a.tmps) = true := by kernel_rfl) : WpL P ops Q (o :: rest) a w :=
 b0z (j1r (some d) hd x y t ho hty .i64 .i64 n hx hy hb hw fun p' c' w' h1 h2 => h p' c' w' (u0w (by rw [List.map_replicate]; exact h1)) h2)
end
end Go.Slip
namespace Go.Proofs.YtmacohmclpnphaaGreatDoor
open Go.RowKit Go.Slip
theorem v0j (f : Fm) (g : Bool) (e x : Nat) (p : Option Addr) (c : Nat) (w : World) (G : c0l f) (hp : Rd w .u32 p (dig B32 x)) (he : e < 2 ^ f.E) (hx : x < 2 ^ f.F) :
 Calls Tryz.prog 106 #[.agg #[.int .i64 (f.size : Int), .int .i64 (f.E : Int), .int .i64 (f.F : Int), .int .i64 f.g.rad, .int .i64 f.g.digs, .int .i64 f.g.lo, .int .i64 f.g.hi, .bool f.g.grad, .bool f.hid, .bool f.inf, .bool f.res, .func (.func (ordF f)) #[] #[]], .agg #[.bool g, .int .i64 (e : Int), .slice p (dig B32 x).length c]] w fun en w' => en = .returned (.string (b0q (f.str g e x))) ∧ Below w.heap.size w w' := by
 have z1 := G.sz
 have z2 := G.e2
 have z3 := G.f2
 have z4 := G.bits
 have hlt := f1p G (neg := g) he hx
 have hxl := a0q hx (k := 2) (by omega)
 have hT : g.toNat * 2 ^ f.E + e < 2 ^ 16 := by
  have h1 : 2 ^ f.E ≤ 2 ^ 15 := Nat.pow_le_pow_right (by omega) (by omega)
  cases g <;> simp <;> omega
 have hpw : 2 ^ f.E ≤ 2 ^ 15 := Nat.pow_le_pow_right (by omega) (by omega)
 have hsh := p0e (E := f.E) (by omega)
 have hor := w0m (x := e) (E := f.E) he (by omega)
 have h80 : f.pat g e x < 2 ^ 80 := Nat.lt_of_lt_of_le hlt (Nat.pow_le_pow_right (by omega) (by omega))
 unfold Fm.str
 have hpe : f.pat g e x = (g.toNat * 2 ^ f.E + e) * 2 ^ f.F + x := rfl
 have hord := fun (W : World) (base : Nat) (p : Option Addr) (c : Nat) (xs : List Nat) h1 h2 h3 => a1i f base p f.size c xs W G h1 h2.symm h2 h3
 generalize hNN : f.pat g e x = NN at *
 have hbl : (d0k NN f.size).length = f.size := d0e _ _
 have hdg := fun i h => r0e f.size NN i h
 have hbs := fun i h => k1m (d0k NN f.size) (i := i) h
 have hbz := fun i h => h1y (d0k NN f.size) (i := i) h
 have hball := k1l (d0k NN f.size)
 have hb0 := h1x (d0k NN f.size)
 have hLl := m0i (d0k NN f.size)
 rw [hbl] at hball hb0
 generalize d0k NN f.size = bs at *
 generalize h2E : 2 ^ f.E = P at *
 have hNl := a0q h80 (k := 3) (by omega)
 have hTl : (dig B32 ((g.toNat * P + e) * 2 ^ f.F)).length ≤ 3 := a0q (n := 80) (by omega) (by omega)
 have hQl : ∀ N, (dig B32 (NN / 2 ^ N)).length ≤ 3 := fun N => a0q (n := 80) (Nat.lt_of_le_of_lt (Nat.div_le_self _ _) h80) (by omega)
 have HSH := hi0 hsh
 have HOR := hi0 hor
 have HPE := hi0 hpe
 have HB0 := hi0 hb0
 clear hsh hor hpe hb0 hlt h80 hNN h2E
 have hT3 : d0h Tryz.prog 3 := c0k (by kernel_rfl) (by kernel_rfl)
 have hT4 : d0h Tryz.prog 4 := c0k (by kernel_rfl) (by kernel_rfl)
 have hT73 : d0h Tryz.prog 73 := c0k (by kernel_rfl) (by kernel_rfl)
 have hT144 : d0h Tryz.prog 144 := c0k (by kernel_rfl) (by kernel_rfl)
 refine calls_of_wp Tryz.func106 rfl ?_
 refine b0c (a' := ⟨((.agg #[.int .i64 (f.size : Int), .int .i64 (f.E : Int), .int .i64 (f.F : Int), .int .i64 f.g.rad, .int .i64 f.g.digs, .int .i64 f.g.lo, .int .i64 f.g.hi, .bool f.g.grad, .bool f.hid, .bool f.inf, .bool f.res, .func (.func (ordF f)) #[] #[]]) :: (.agg #[.bool g, .int .i64 (e : Int), .slice p (dig B32 x).length c]) :: us 58 []).toArray, []⟩) (by kernel_rfl) ?_
 refine ye ?_
 refine yw 0 rfl 2 #[.int .i64 (f.size : Int), .int .i64 (f.E : Int), .int .i64 (f.F : Int), .int .i64 f.g.rad, .int .i64 f.g.digs, .int .i64 f.g.lo, .int .i64 f.g.hi, .bool f.g.grad, .bool f.hid, .bool f.inf, .bool f.res, .func (.func (ordF f)) #[] #[]] 146 (fun V1 hbV1 hzV1 b2 => ?_)
 refine yw 0 rfl 3 #[.bool g, .int .i64 (e : Int), .slice p (dig B32 x).length c] 157 (fun V2 hbV2 hzV2 b3 => ?_)
 refine yzt 1 ?_
 refine ye ?_
 refine yl 1 rfl 11 b3 hT3 1 ?_
 refine yzt 1 ?_
 refine wp_seq ?_
 refine ye ?_
 rcases Bool.eq_false_or_eq_true (g) with f13 | f13
 · refine ylb 1 rfl 13 b3 hT4 0 (g) true (f13) ?_
   refine yzt 0 ?_
   refine yT ?_
   refine b0e ?_
   have b2_w2 := b2.past hbV2
   refine yl 2 rfl 16 b2_w2 hT3 1 ?_
   refine yv 0 rfl 17 (.int .i64 (P : Int)) ?_ (k0y (X := (1)) (Y := (f.E : Int)) (k2 := .i64) (P : Int) (by kernel_rfl) (by kernel_rfl) (by omega) ((HSH.out)))
   refine yv 0 rfl 18 (.int .i64 ((P + e : Nat) : Int)) ?_ (g1w (X := (e : Int)) (Y := ((P : Int))) ((P + e : Nat) : Int) (by kernel_rfl) (by kernel_rfl) ((HOR.out)))
   refine yz 1 ?_
   refine a0n ?_
   refine wp_seq ?_
   obtain ⟨V3, hVV3, hbV3, hzV3⟩ := o0u V2
   have b2_w3 := b2.past (a0g hbV2 hbV3)
   replace b3 := (b3.past hbV3)
   refine yd2 hVV3 ⟨b2_w3, b3⟩ ?_
   clear hVV3
   refine yt 7 [0, 2] rfl ⟨b2_w3, b3⟩ ?_
   refine ytl 3 rfl 22 (fun _ h => h.1) hT3 2 ⟨b2_w3, b3⟩ ?_
   refine yt 5 [5] rfl ⟨b2_w3, b3⟩ ?_
   refine ytl 6 rfl 25 (fun _ h => h.2) hT73 2 ⟨b2_w3, b3⟩ ?_
   refine sxr [1] ?_
   refine rd1 (fun Kx hKx => ?_)
   refine yck 20 (sof ((P + e : Nat) : Int) (g.toNat * P + e) (by rw [f13, Bool.toNat_true, Nat.one_mul]) (by omega) V3) ?_
   rintro eV4 V4 ⟨p20, c20, rfl, o20, hbV4⟩
   have hzV4 := hbV4.size
   refine ⟨_, rfl, ?_⟩
   have b2_w4 := b2.past (a0g (a0g hbV2 hbV3) hbV4)
   replace b3 := (b3.past hbV4)
   refine hKx.out _ _ ⟨b2_w4, b3⟩ ?_
   clear hKx Kx
   refine sxr [4] ?_
   refine rd1 (fun Kx hKx => ?_)
   refine yck 23 (sshl p20 _ c20 (g.toNat * P + e) f.F ((g.toNat * P + e) * 2 ^ f.F) _ V4 o20.rd rfl (by have := a0q hT (k := 1) (by omega); omega) (by omega) rfl rfl) ?_
   rintro eV5 V5 ⟨p23, c23, rfl, o23, hbV5⟩
   have hzV5 := hbV5.size
   refine ⟨_, rfl, ?_⟩
   have b2_w5 := b2.past (a0g (a0g (a0g hbV2 hbV3) hbV4) hbV5)
   replace b3 := (b3.past hbV5)
   refine hKx.out _ _ ⟨b2_w5, b3⟩ ?_
   clear hKx Kx
   refine sxr [7] ?_
   refine rd1 (fun Kx hKx => ?_)
   replace hp := (hp.past (a0g (a0g (a0g (a0g hbV1 hbV2) hbV3) hbV4) hbV5))
   refine yck 26 (sadd p23 p _ _ c23 c ((g.toNat * P + e) * 2 ^ f.F) x NN V5 o23.rd hp rfl rfl (by omega) (by omega) HPE.out.symm) ?_
   rintro eV6 V6 ⟨p26, c26, rfl, o26, hbV6⟩
   have hzV6 := hbV6.size
   refine ⟨_, rfl, ?_⟩
   have b2_w6 := b2.past (a0g (a0g (a0g (a0g hbV2 hbV3) hbV4) hbV5) hbV6)
   replace b3 := (b3.past hbV6)
   refine hKx.out _ _ ⟨b2_w6, b3⟩ ?_
   clear hKx Kx
   refine yt 0 [8] rfl ⟨b2_w6, b3⟩ ?_
   refine l0n (by kernel_rfl) ?_
   refine a0n ?_
   refine ye ?_
   refine yl 1 rfl 28 b2_w6 hT3 0 ?_
   refine smkn 29 k0h f.size (by omega) (fun p29 c29 V7 b29 hjV7 => ?_)
   have hbV7 : Below V6.heap.size V6 V7 := (Below.refl _ _).trans (hjV7.mono (by omega))
   have hzV7 := hbV7.size
   refine yzt 1 ?_
   refine wp_seq ?_
   refine yq ?_
   refine wp_block ?_
   refine b0c (a' := ⟨((.agg #[.int .i64 (f.size : Int), .int .i64 (f.E : Int), .int .i64 (f.F : Int), .int .i64 f.g.rad, .int .i64 f.g.digs, .int .i64 f.g.lo, .int .i64 f.g.hi, .bool f.g.grad, .bool f.hid, .bool f.inf, .bool f.res, .func (.func (ordF f)) #[] #[]]) :: (.agg #[.bool g, .int .i64 (e : Int), .slice p (dig B32 x).length c]) :: (.pointer (some ⟨w.heap.size, 0, none⟩)) :: (.pointer (some ⟨V1.heap.size, 0, none⟩)) :: (Go.Value.string (ByteArray.mk #[])) :: (.int .i64 ((P + e : Nat) : Int)) :: (.slice p26 (dig B32 NN).length c26) :: (.slice p29 f.size c29) :: us 2 ((.pointer (some ⟨V1.heap.size, 1, none⟩)) :: (.int .i64 (e : Int)) :: (.pointer (some ⟨V1.heap.size, 0, none⟩)) :: (.bool true) :: (.int .i64 (e : Int)) :: (.pointer (some ⟨w.heap.size, 1, none⟩)) :: (.int .i64 (f.E : Int)) :: (.int .i64 (P : Int)) :: (.int .i64 ((P + e : Nat) : Int)) :: (.int .i64 ((P + e : Nat) : Int)) :: (.slice p20 (dig B32 (g.toNat * P + e)).length c20) :: (.pointer (some ⟨w.heap.size, 2, none⟩)) :: (.int .i64 (f.F : Int)) :: (.slice p23 (dig B32 ((g.toNat * P + e) * 2 ^ f.F)).length c23) :: (.pointer (some ⟨V1.heap.size, 2, none⟩)) :: (.slice p (dig B32 x).length c) :: (.slice p26 (dig B32 NN).length c26) :: (.pointer (some ⟨w.heap.size, 0, none⟩)) :: (.int .i64 (f.size : Int)) :: (.slice p29 f.size c29) :: (.slice p29 f.size c29) :: (.int .i64 (f.size : Int)) :: (.int .i64 0) :: us 27 [])).toArray, []⟩) (by kernel_rfl) ?_
   refine h0o (fun (gk : Nat) U0 a' w' => ∃ (i : Nat), a' = ⟨((.agg #[.int .i64 (f.size : Int), .int .i64 (f.E : Int), .int .i64 (f.F : Int), .int .i64 f.g.rad, .int .i64 f.g.digs, .int .i64 f.g.lo, .int .i64 f.g.hi, .bool f.g.grad, .bool f.hid, .bool f.inf, .bool f.res, .func (.func (ordF f)) #[] #[]]) :: (.agg #[.bool g, .int .i64 (e : Int), .slice p (dig B32 x).length c]) :: (.pointer (some ⟨w.heap.size, 0, none⟩)) :: (.pointer (some ⟨V1.heap.size, 0, none⟩)) :: (Go.Value.string (ByteArray.mk #[])) :: (.int .i64 ((P + e : Nat) : Int)) :: (.slice p26 (dig B32 NN).length c26) :: (.slice p29 f.size c29) :: uvs U0 8 2 ((.pointer (some ⟨V1.heap.size, 1, none⟩)) :: (.int .i64 (e : Int)) :: (.pointer (some ⟨V1.heap.size, 0, none⟩)) :: (.bool true) :: (.int .i64 (e : Int)) :: (.pointer (some ⟨w.heap.size, 1, none⟩)) :: (.int .i64 (f.E : Int)) :: (.int .i64 (P : Int)) :: (.int .i64 ((P + e : Nat) : Int)) :: (.int .i64 ((P + e : Nat) : Int)) :: (.slice p20 (dig B32 (g.toNat * P + e)).length c20) :: (.pointer (some ⟨w.heap.size, 2, none⟩)) :: (.int .i64 (f.F : Int)) :: (.slice p23 (dig B32 ((g.toNat * P + e) * 2 ^ f.F)).length c23) :: (.pointer (some ⟨V1.heap.size, 2, none⟩)) :: (.slice p (dig B32 x).length c) :: (.slice p26 (dig B32 NN).length c26) :: (.pointer (some ⟨w.heap.size, 0, none⟩)) :: (.int .i64 (f.size : Int)) :: (.slice p29 f.size c29) :: (.slice p29 f.size c29) :: (.int .i64 (f.size : Int)) :: (.int .i64 (i : Int)) :: uvs U0 33 21 (us 6 []))).toArray, []⟩ ∧ (Own w' V6.heap.size .u8 5 p29 c29 (LL bs i)) ∧ Below V6.heap.size V6 w' ∧ (gk + i = f.size)) f.size ?_ (fun Gx hGx => ?_)
   · exact ⟨0, by kernel_rfl, (by rw [HB0.out]; exact b29), hbV7, (by omega)⟩
   rintro gk0 U0 _ V8 ⟨i, rfl, r29, hbV8, hgk⟩
   refine hGx _ _ _ ?_
   clear hGx Gx
   have hzV8 := hbV8.size
   refine ye ?_
   rcases Bool.eq_false_or_eq_true (decide ((i : Int) < (f.size : Int))) with f33 | f33
   · refine yb 0 rfl 33 (decide ((i : Int) < (f.size : Int))) (true) (f33) ?_
     refine yzt 0 ?_
     refine yTs ?_
     refine wp_skip ?_
     refine a0n ?_
     refine wp_seq ?_
     refine wp_block ?_
     refine yq ?_
     refine ye ?_
     have b2_w8 := b2.past (a0g (a0g (a0g (a0g (a0g hbV2 hbV3) hbV4) hbV5) hbV6) hbV8)
     refine yl 2 rfl 37 b2_w8 hT3 0 ?_
     refine ya 0 rfl 38 .i64 ((f.size : Int) - 1) (((f.size - 1 : Nat) : Int)) ((by rw [show ((f.size : Int) - 1) = ((f.size - 1 : Nat) : Int) by omega]; exact iwo)) ?_
     refine ya 1 rfl 40 .i64 (((f.size - 1 : Nat) : Int) - (i : Int)) (((f.size - 1 - i : Nat) : Int)) ((by rw [show (((f.size - 1 : Nat) : Int) - (i : Int)) = ((f.size - 1 - i : Nat) : Int) by have := oTr f33; omega]; exact iwo)) ?_
     refine ya 0 rfl 41 .i64 ((8 : Int) * ((f.size - 1 - i : Nat) : Int)) (((8 * (f.size - 1 - i) : Nat) : Int)) ((by rw [show ((8 : Int) * ((f.size - 1 - i : Nat) : Int)) = ((8 * (f.size - 1 - i) : Nat) : Int) by omega]; exact iwo)) ?_
     have o26_w8 := o26.past hbV8
     refine yc 0 rfl 42 (sshr p26 _ c26 NN (8 * (f.size - 1 - i)) (NN / 2 ^ (8 * (f.size - 1 - i))) _ V8 o26_w8.rd rfl (by have := o26_w8.le_cap; omega) (by omega) (by omega) rfl rfl) (fun Gx hGx => ?_)
     rintro eV9 V9 ⟨p42, c42, rfl, o42, hbV9⟩
     have hzV9 := hbV9.size
     refine ⟨_, rfl, hGx _ _ ?_⟩
     clear hGx Gx
     refine yzt 1 ?_
     have hi := oTr f33
     have hdi := hdg i (by omega)
     have hq0 := a0d a0a (NN / 2 ^ (8 * (f.size - 1 - i)))
     refine ye ?_
     rcases Bool.eq_false_or_eq_true (decide ((((dig B32 (NN / 2 ^ (8 * (f.size - 1 - i)))).length : Nat) : Int) > 0)) with f45 | f45
     · refine yb 2 rfl 45 (decide ((((dig B32 (NN / 2 ^ (8 * (f.size - 1 - i)))).length : Nat) : Int) > 0)) (true) (f45) ?_
       refine yzt 0 ?_
       refine yT ?_
       refine b0e ?_
       refine yv 3 rfl 49 (.pointer (some (at_ p42 0))) ?_ (p0a (p := p42) (n := (dig B32 (NN / 2 ^ (8 * (f.size - 1 - i)))).length) (c := c42) (m := 0) b0v o42.rd.solid (by kernel_rfl) (by kernel_rfl) (by have := oTr f45; omega))
       refine yv 0 rfl 50 (.int .u32 ((dg (dig B32 (NN / 2 ^ (8 * (f.size - 1 - i)))) 0 : Nat) : Int)) ?_ (k0z o42.rd h1l (m := 0) (by kernel_rfl) (by have := oTr f45; omega) rfl)
       refine ya 0 rfl 51 .u8 ((dg (dig B32 (NN / 2 ^ (8 * (f.size - 1 - i)))) 0 : Nat) : Int) (((dg bs i : Nat) : Int)) ((by rw [b1f, b1g, hdi]; congr 1; exact Nat.mod_mod_of_dvd _ (by decide))) ?_
       replace r29 := (r29.past hbV9)
       refine yv 0 rfl 52 (.pointer (some (at_ p29 i))) ?_ (p0d (p := p29) (n := f.size) (c := c29) (m := i) k0h (by have h := r29.solid; rw [hLl, hbl] at h; exact h) (by kernel_rfl) (by kernel_rfl) (by omega))
       refine j1t k0h V6.heap.size p29 c29 _ r29 i (by rw [hLl, hbl]; omega) (dg bs i) (fun V10 n29 hjV10 => ?_)
       have hbV10 : Below V6.heap.size V6 V10 := (a0g hbV8 hbV9).trans (hjV10.mono (by omega))
       have hzV10 := hbV10.size
       refine yz 0 ?_
       refine c0g ?_
       refine a0n ?_
       refine b0e ?_
       refine ya 0 rfl 53 .i64 ((i : Int) + 1) (((i + 1 : Nat) : Int)) ((by rw [show ((i : Int) + 1) = ((i + 1 : Nat) : Int) by omega]; exact iwo)) ?_
       refine yz 1 ?_
       refine a0n ?_
       refine ⟨gk0 - 1, (by omega), ?_⟩
       exact ⟨i + 1, by kernel_rfl, (by rw [← hbs i (by omega)]; exact n29), hbV10, (by omega)⟩
     refine yb 2 rfl 45 (decide ((((dig B32 (NN / 2 ^ (8 * (f.size - 1 - i)))).length : Nat) : Int) > 0)) (false) (f45) ?_
     refine yzt 0 ?_
     refine yF ?_
     refine wp_skip ?_
     refine c0g ?_
     refine a0n ?_
     refine b0e ?_
     refine ya 0 rfl 53 .i64 ((i : Int) + 1) (((i + 1 : Nat) : Int)) ((by rw [show ((i : Int) + 1) = ((i + 1 : Nat) : Int) by omega]; exact iwo)) ?_
     refine yz 1 ?_
     refine a0n ?_
     refine ⟨gk0 - 1, (by omega), ?_⟩
     replace r29 := (r29.past hbV9)
     exact ⟨i + 1, by kernel_rfl, (by rw [← hbz i (by rw [hdi, hq0.1 (by have := oFa f45; omega)])]; exact r29), (a0g hbV8 hbV9), (by omega)⟩
   refine yb 0 rfl 33 (decide ((i : Int) < (f.size : Int))) (false) (f33) ?_
   refine yzt 0 ?_
   refine yFs ?_
   refine wp_exit ?_
   repeat (with_reducible refine d0p ?_)
   refine j0w (id := 0) ?_
   refine a0n ?_
   have hi : i = f.size := by have := oFa f33; omega
   rw [hi, hball] at r29
   refine ye ?_
   have b2_w8 := b2.past (a0g (a0g (a0g (a0g (a0g hbV2 hbV3) hbV4) hbV5) hbV6) hbV8)
   refine yl 1 rfl 55 b2_w8 hT144 11 ?_
   refine yn 1 rfl ?_
   refine se 57 (ordF f) #[.slice p29 f.size c29] (fun Gx hGx => ?_) (hr := m0a (ordF f) (t0i f) (by kernel_rfl) (by kernel_rfl))
   ((with_reducible refine (hord V8 V6.heap.size p29 c29 bs r29.wr hbl (by omega)).mono ?_))
   rintro eV9 V9 ⟨rfl, x57, hjV9⟩
   have hbV9 : Below V6.heap.size V6 V9 := hbV8.trans (hjV9.mono (by omega))
   have hzV9 := hbV9.size
   refine ⟨.tuple #[], rfl, hGx _ _ ?_⟩
   clear hGx Gx
   refine yzt 0 ?_
   refine ye ?_
   refine yv 1 rfl 59 (.string (b0q (ordL f.ord bs))) ?_ (u0x (p := p29) (n := f.size) (c := c29) a1n h1m uStr x57.rd (by rw [b0p, hbl]) (by kernel_rfl))
   refine yzt 1 ?_
   refine wp_ret ?_
   repeat (first | with_reducible refine a0x ?_ | with_reducible refine a0o ?_)
   refine yret (.string (b0q (ordL f.ord bs))) (res1 Tryz.results106 rvt) ?_
   exact ⟨rfl, (a0g (a0g (a0g (a0g (a0g (a0g hbV1 hbV2) hbV3) hbV4) hbV5) hbV6) hbV9)⟩
 refine ylb 1 rfl 13 b3 hT4 0 (g) false (f13) ?_
 refine yzt 0 ?_
 refine yF ?_
 refine wp_skip ?_
 refine a0n ?_
 refine wp_seq ?_
 have b2_w2 := b2.past hbV2
 obtain ⟨V3, hVV3, hbV3, hzV3⟩ := o0u V2
 have b2_w3 := b2.past (a0g hbV2 hbV3)
 replace b3 := (b3.past hbV3)
 refine yd2 hVV3 ⟨b2_w3, b3⟩ ?_
 clear hVV3
 refine yt 7 [0, 2] rfl ⟨b2_w3, b3⟩ ?_
 refine ytl 3 rfl 22 (fun _ h => h.1) hT3 2 ⟨b2_w3, b3⟩ ?_
 refine yt 5 [5] rfl ⟨b2_w3, b3⟩ ?_
 refine ytl 6 rfl 25 (fun _ h => h.2) hT73 2 ⟨b2_w3, b3⟩ ?_
 refine sxr [1] ?_
 refine rd1 (fun Kx hKx => ?_)
 refine yck 20 (sof (e : Int) (g.toNat * P + e) (by rw [f13, Bool.toNat_false, Nat.zero_mul, Nat.zero_add]) (by omega) V3) ?_
 rintro eV4 V4 ⟨p20, c20, rfl, o20, hbV4⟩
 have hzV4 := hbV4.size
 refine ⟨_, rfl, ?_⟩
 have b2_w4 := b2.past (a0g (a0g hbV2 hbV3) hbV4)
 replace b3 := (b3.past hbV4)
 refine hKx.out _ _ ⟨b2_w4, b3⟩ ?_
 clear hKx Kx
 refine sxr [4] ?_
 refine rd1 (fun Kx hKx => ?_)
 refine yck 23 (sshl p20 _ c20 (g.toNat * P + e) f.F ((g.toNat * P + e) * 2 ^ f.F) _ V4 o20.rd rfl (by have := a0q hT (k := 1) (by omega); omega) (by omega) rfl rfl) ?_
 rintro eV5 V5 ⟨p23, c23, rfl, o23, hbV5⟩
 have hzV5 := hbV5.size
 refine ⟨_, rfl, ?_⟩
 have b2_w5 := b2.past (a0g (a0g (a0g hbV2 hbV3) hbV4) hbV5)
 replace b3 := (b3.past hbV5)
 refine hKx.out _ _ ⟨b2_w5, b3⟩ ?_
 clear hKx Kx
 refine sxr [7] ?_
 refine rd1 (fun Kx hKx => ?_)
 replace hp := (hp.past (a0g (a0g (a0g (a0g hbV1 hbV2) hbV3) hbV4) hbV5))
 refine yck 26 (sadd p23 p _ _ c23 c ((g.toNat * P + e) * 2 ^ f.F) x NN V5 o23.rd hp rfl rfl (by omega) (by omega) HPE.out.symm) ?_
 rintro eV6 V6 ⟨p26, c26, rfl, o26, hbV6⟩
 have hzV6 := hbV6.size
 refine ⟨_, rfl, ?_⟩
 have b2_w6 := b2.past (a0g (a0g (a0g (a0g hbV2 hbV3) hbV4) hbV5) hbV6)
 replace b3 := (b3.past hbV6)
 refine hKx.out _ _ ⟨b2_w6, b3⟩ ?_
 clear hKx Kx
 refine yt 0 [8] rfl ⟨b2_w6, b3⟩ ?_
 refine l0n (by kernel_rfl) ?_
 refine a0n ?_
 refine ye ?_
 refine yl 1 rfl 28 b2_w6 hT3 0 ?_
 refine smkn 29 k0h f.size (by omega) (fun p29 c29 V7 b29 hjV7 => ?_)
 have hbV7 : Below V6.heap.size V6 V7 := (Below.refl _ _).trans (hjV7.mono (by omega))
 have hzV7 := hbV7.size
 refine yzt 1 ?_
 refine wp_seq ?_
 refine yq ?_
 refine wp_block ?_
 refine b0c (a' := ⟨((.agg #[.int .i64 (f.size : Int), .int .i64 (f.E : Int), .int .i64 (f.F : Int), .int .i64 f.g.rad, .int .i64 f.g.digs, .int .i64 f.g.lo, .int .i64 f.g.hi, .bool f.g.grad, .bool f.hid, .bool f.inf, .bool f.res, .func (.func (ordF f)) #[] #[]]) :: (.agg #[.bool g, .int .i64 (e : Int), .slice p (dig B32 x).length c]) :: (.pointer (some ⟨w.heap.size, 0, none⟩)) :: (.pointer (some ⟨V1.heap.size, 0, none⟩)) :: (Go.Value.string (ByteArray.mk #[])) :: (.int .i64 (e : Int)) :: (.slice p26 (dig B32 NN).length c26) :: (.slice p29 f.size c29) :: us 2 ((.pointer (some ⟨V1.heap.size, 1, none⟩)) :: (.int .i64 (e : Int)) :: (.pointer (some ⟨V1.heap.size, 0, none⟩)) :: (.bool false) :: us 5 ((.int .i64 (e : Int)) :: (.slice p20 (dig B32 (g.toNat * P + e)).length c20) :: (.pointer (some ⟨w.heap.size, 2, none⟩)) :: (.int .i64 (f.F : Int)) :: (.slice p23 (dig B32 ((g.toNat * P + e) * 2 ^ f.F)).length c23) :: (.pointer (some ⟨V1.heap.size, 2, none⟩)) :: (.slice p (dig B32 x).length c) :: (.slice p26 (dig B32 NN).length c26) :: (.pointer (some ⟨w.heap.size, 0, none⟩)) :: (.int .i64 (f.size : Int)) :: (.slice p29 f.size c29) :: (.slice p29 f.size c29) :: (.int .i64 (f.size : Int)) :: (.int .i64 0) :: us 27 []))).toArray, []⟩) (by kernel_rfl) ?_
 refine h0o (fun (gk : Nat) U0 a' w' => ∃ (i : Nat), a' = ⟨((.agg #[.int .i64 (f.size : Int), .int .i64 (f.E : Int), .int .i64 (f.F : Int), .int .i64 f.g.rad, .int .i64 f.g.digs, .int .i64 f.g.lo, .int .i64 f.g.hi, .bool f.g.grad, .bool f.hid, .bool f.inf, .bool f.res, .func (.func (ordF f)) #[] #[]]) :: (.agg #[.bool g, .int .i64 (e : Int), .slice p (dig B32 x).length c]) :: (.pointer (some ⟨w.heap.size, 0, none⟩)) :: (.pointer (some ⟨V1.heap.size, 0, none⟩)) :: (Go.Value.string (ByteArray.mk #[])) :: (.int .i64 (e : Int)) :: (.slice p26 (dig B32 NN).length c26) :: (.slice p29 f.size c29) :: uvs U0 8 2 ((.pointer (some ⟨V1.heap.size, 1, none⟩)) :: (.int .i64 (e : Int)) :: (.pointer (some ⟨V1.heap.size, 0, none⟩)) :: (.bool false) :: us 5 ((.int .i64 (e : Int)) :: (.slice p20 (dig B32 (g.toNat * P + e)).length c20) :: (.pointer (some ⟨w.heap.size, 2, none⟩)) :: (.int .i64 (f.F : Int)) :: (.slice p23 (dig B32 ((g.toNat * P + e) * 2 ^ f.F)).length c23) :: (.pointer (some ⟨V1.heap.size, 2, none⟩)) :: (.slice p (dig B32 x).length c) :: (.slice p26 (dig B32 NN).length c26) :: (.pointer (some ⟨w.heap.size, 0, none⟩)) :: (.int .i64 (f.size : Int)) :: (.slice p29 f.size c29) :: (.slice p29 f.size c29) :: (.int .i64 (f.size : Int)) :: (.int .i64 (i : Int)) :: uvs U0 33 21 (us 6 [])))).toArray, []⟩ ∧ (Own w' V6.heap.size .u8 5 p29 c29 (LL bs i)) ∧ Below V6.heap.size V6 w' ∧ (gk + i = f.size)) f.size ?_ (fun Gx hGx => ?_)
 · exact ⟨0, by kernel_rfl, (by rw [HB0.out]; exact b29), hbV7, (by omega)⟩
 rintro gk0 U0 _ V8 ⟨i, rfl, r29, hbV8, hgk⟩
 refine hGx _ _ _ ?_
 clear hGx Gx
 have hzV8 := hbV8.size
 refine ye ?_
 rcases Bool.eq_false_or_eq_true (decide ((i : Int) < (f.size : Int))) with f33 | f33
 · refine yb 0 rfl 33 (decide ((i : Int) < (f.size : Int))) (true) (f33) ?_
   refine yzt 0 ?_
   refine yTs ?_
   refine wp_skip ?_
   refine a0n ?_
   refine wp_seq ?_
   refine wp_block ?_
   refine yq ?_
   refine ye ?_
   have b2_w8 := b2.past (a0g (a0g (a0g (a0g (a0g hbV2 hbV3) hbV4) hbV5) hbV6) hbV8)
   refine yl 2 rfl 37 b2_w8 hT3 0 ?_
   refine ya 0 rfl 38 .i64 ((f.size : Int) - 1) (((f.size - 1 : Nat) : Int)) ((by rw [show ((f.size : Int) - 1) = ((f.size - 1 : Nat) : Int) by omega]; exact iwo)) ?_
   refine ya 1 rfl 40 .i64 (((f.size - 1 : Nat) : Int) - (i : Int)) (((f.size - 1 - i : Nat) : Int)) ((by rw [show (((f.size - 1 : Nat) : Int) - (i : Int)) = ((f.size - 1 - i : Nat) : Int) by have := oTr f33; omega]; exact iwo)) ?_
   refine ya 0 rfl 41 .i64 ((8 : Int) * ((f.size - 1 - i : Nat) : Int)) (((8 * (f.size - 1 - i) : Nat) : Int)) ((by rw [show ((8 : Int) * ((f.size - 1 - i : Nat) : Int)) = ((8 * (f.size - 1 - i) : Nat) : Int) by omega]; exact iwo)) ?_
   have o26_w8 := o26.past hbV8
   refine yc 0 rfl 42 (sshr p26 _ c26 NN (8 * (f.size - 1 - i)) (NN / 2 ^ (8 * (f.size - 1 - i))) _ V8 o26_w8.rd rfl (by have := o26_w8.le_cap; omega) (by omega) (by omega) rfl rfl) (fun Gx hGx => ?_)
   rintro eV9 V9 ⟨p42, c42, rfl, o42, hbV9⟩
   have hzV9 := hbV9.size
   refine ⟨_, rfl, hGx _ _ ?_⟩
   clear hGx Gx
   refine yzt 1 ?_
   have hi := oTr f33
   have hdi := hdg i (by omega)
   have hq0 := a0d a0a (NN / 2 ^ (8 * (f.size - 1 - i)))
   refine ye ?_
   rcases Bool.eq_false_or_eq_true (decide ((((dig B32 (NN / 2 ^ (8 * (f.size - 1 - i)))).length : Nat) : Int) > 0)) with f45 | f45
   · refine yb 2 rfl 45 (decide ((((dig B32 (NN / 2 ^ (8 * (f.size - 1 - i)))).length : Nat) : Int) > 0)) (true) (f45) ?_
     refine yzt 0 ?_
     refine yT ?_
     refine b0e ?_
     refine yv 3 rfl 49 (.pointer (some (at_ p42 0))) ?_ (p0a (p := p42) (n := (dig B32 (NN / 2 ^ (8 * (f.size - 1 - i)))).length) (c := c42) (m := 0) b0v o42.rd.solid (by kernel_rfl) (by kernel_rfl) (by have := oTr f45; omega))
     refine yv 0 rfl 50 (.int .u32 ((dg (dig B32 (NN / 2 ^ (8 * (f.size - 1 - i)))) 0 : Nat) : Int)) ?_ (k0z o42.rd h1l (m := 0) (by kernel_rfl) (by have := oTr f45; omega) rfl)
     refine ya 0 rfl 51 .u8 ((dg (dig B32 (NN / 2 ^ (8 * (f.size - 1 - i)))) 0 : Nat) : Int) (((dg bs i : Nat) : Int)) ((by rw [b1f, b1g, hdi]; congr 1; exact Nat.mod_mod_of_dvd _ (by decide))) ?_
     replace r29 := (r29.past hbV9)
     refine yv 0 rfl 52 (.pointer (some (at_ p29 i))) ?_ (p0d (p := p29) (n := f.size) (c := c29) (m := i) k0h (by have h := r29.solid; rw [hLl, hbl] at h; exact h) (by kernel_rfl) (by kernel_rfl) (by omega))
     refine j1t k0h V6.heap.size p29 c29 _ r29 i (by rw [hLl, hbl]; omega) (dg bs i) (fun V10 n29 hjV10 => ?_)
     have hbV10 : Below V6.heap.size V6 V10 := (a0g hbV8 hbV9).trans (hjV10.mono (by omega))
     have hzV10 := hbV10.size
     refine yz 0 ?_
     refine c0g ?_
     refine a0n ?_
     refine b0e ?_
     refine ya 0 rfl 53 .i64 ((i : Int) + 1) (((i + 1 : Nat) : Int)) ((by rw [show ((i : Int) + 1) = ((i + 1 : Nat) : Int) by omega]; exact iwo)) ?_
     refine yz 1 ?_
     refine a0n ?_
     refine ⟨gk0 - 1, (by omega), ?_⟩
     exact ⟨i + 1, by kernel_rfl, (by rw [← hbs i (by omega)]; exact n29), hbV10, (by omega)⟩
   refine yb 2 rfl 45 (decide ((((dig B32 (NN / 2 ^ (8 * (f.size - 1 - i)))).length : Nat) : Int) > 0)) (false) (f45) ?_
   refine yzt 0 ?_
   refine yF ?_
   refine wp_skip ?_
   refine c0g ?_
   refine a0n ?_
   refine b0e ?_
   refine ya 0 rfl 53 .i64 ((i : Int) + 1) (((i + 1 : Nat) : Int)) ((by rw [show ((i : Int) + 1) = ((i + 1 : Nat) : Int) by omega]; exact iwo)) ?_
   refine yz 1 ?_
   refine a0n ?_
   refine ⟨gk0 - 1, (by omega), ?_⟩
   replace r29 := (r29.past hbV9)
   exact ⟨i + 1, by kernel_rfl, (by rw [← hbz i (by rw [hdi, hq0.1 (by have := oFa f45; omega)])]; exact r29), (a0g hbV8 hbV9), (by omega)⟩
 refine yb 0 rfl 33 (decide ((i : Int) < (f.size : Int))) (false) (f33) ?_
 refine yzt 0 ?_
 refine yFs ?_
 refine wp_exit ?_
 repeat (with_reducible refine d0p ?_)
 refine j0w (id := 0) ?_
 refine a0n ?_
 have hi : i = f.size := by have := oFa f33; omega
 rw [hi, hball] at r29
 refine ye ?_
 have b2_w8 := b2.past (a0g (a0g (a0g (a0g (a0g hbV2 hbV3) hbV4) hbV5) hbV6) hbV8)
 refine yl 1 rfl 55 b2_w8 hT144 11 ?_
 refine yn 1 rfl ?_
 refine se 57 (ordF f) #[.slice p29 f.size c29] (fun Gx hGx => ?_) (hr := m0a (ordF f) (t0i f) (by kernel_rfl) (by kernel_rfl))
 ((with_reducible refine (hord V8 V6.heap.size p29 c29 bs r29.wr hbl (by omega)).mono ?_))
 rintro eV9 V9 ⟨rfl, x57, hjV9⟩
 have hbV9 : Below V6.heap.size V6 V9 := hbV8.trans (hjV9.mono (by omega))
 have hzV9 := hbV9.size
 refine ⟨.tuple #[], rfl, hGx _ _ ?_⟩
 clear hGx Gx
 refine yzt 0 ?_
 refine ye ?_
 refine yv 1 rfl 59 (.string (b0q (ordL f.ord bs))) ?_ (u0x (p := p29) (n := f.size) (c := c29) a1n h1m uStr x57.rd (by rw [b0p, hbl]) (by kernel_rfl))
 refine yzt 1 ?_
 refine wp_ret ?_
 repeat (first | with_reducible refine a0x ?_ | with_reducible refine a0o ?_)
 refine yret (.string (b0q (ordL f.ord bs))) (res1 Tryz.results106 rvt) ?_
 exact ⟨rfl, (a0g (a0g (a0g (a0g (a0g (a0g hbV1 hbV2) hbV3) hbV4) hbV5) hbV6) hbV9)⟩
theorem _root_.Go.Slip.Bx.b3 {w : World} {b : Nat} {v0 v1 v2 : Value} (h : Bx w b #[v0, v1, v2]) : Box3 w b v0 v1 v2 :=
 ⟨h.e3.1, h.e3.2.1, h.e3.2.2, h.f 0, h.f 1, h.f 2, h.lt⟩
structure Pin where
 g : Bool
 p : Option Addr
 c : Nat
 xs : List Nat
 k : Int
 x : Bool
 o : Bool
 u : Bool
structure InP (w : World) (a : Pin) : Prop where
 rd : Rd w .u32 a.p a.xs
 cap : a.xs.length ≤ a.c
 len : a.xs.length ≤ 9223372036854775807
 lt : ∀ x ∈ a.xs, x < B32
theorem InP.past {w w' : World} {a : Pin} (h : InP w a) (hb : Below w.heap.size w w') : InP w' a := ⟨h.rd.past hb, h.cap, h.len, h.lt⟩
theorem w0w (g : Bool) (p : Option Addr) (n c : Nat) (e : Int) (w : World) :
 Calls Tryz.prog 157 #[.agg #[.bool g, .slice p n c, .int .i64 e]] w fun en w' => ∃ q d, en = .returned (.agg #[.bool g, .slice p n c, .slice q (dig B32 1).length d, .int .i64 e]) ∧ Own w' w.heap.size .u32 141 q d (dig B32 1) ∧ Below w.heap.size w w' := by
 go_enter Tryz.func157, Tryz.ntmps157
 go_wp2_with fail
 refine g1f (fun W1 hb1 hz1 A R => ?_)
 have hs1 := hb1
 have hzd : W1.drew.heap.size = W1.heap.size := rfl
 have HZD := hi0 hzd
 clear hzd
 go_region_held3 (fun w' => w'.cell? ⟨w.heap.size, 0, none⟩ = some (.bool g) ∧ w'.cell? ⟨w.heap.size, 1, none⟩ = some (.slice p n c) ∧ w'.cell? ⟨w.heap.size, 2, none⟩ = some (.int .i64 e))
  (first
    | with_reducible exact A.e3
    | with_reducible exact A.drew.e3
    | with_reducible exact (A.drew.past hbx).e3
    | with_reducible exact ((A.drew.past hbx).only (j1e _ _ _ _ _ _) (by omega)).e3)
  (first
    | (go_at_call 65; ((with_reducible refine (t0m _).mono ?_)); rintro ex wx ⟨px, cx, rfl, hox, hbx⟩; (have RR := R.drew.past hbx); obtain ⟨R_0, R_1, R_2, R_3⟩ := RR.e4; (have R_f0 := RR.f 0); (have R_f1 := RR.f 1); (have R_f2 := RR.f 2); (have R_f3 := RR.f 3)))
 all_goals (go_wp2_with fail)
 refine bodyPost_ret (v := .agg #[.bool g, .slice p n c, .slice px (dig B32 1).length cx, .int .i64 e]) (by simp [results, Tryz.results157, go_sem, R_0, R_1, R_2, R_3]) rfl ?_
 have hzd := HZD.out
 have hO := j1e wx (w.heap.size + 1) (.bool g) (.slice p n c) (.slice px (dig B32 1).length cx) (.int .i64 e)
 have hz := hs1.size
 exact ⟨px, cx, rfl, (hox.only hO (fun h => by have := (hox.blk_lt h).1; omega)).mono (by omega), (hs1.drew.trans (hbx.mono hz)).trans (hO.below (by omega))⟩
theorem o0b (s : Bool) (p : Option Addr) (c : Nat) (e : Int) (m : Nat) (g : Gd) (w : World) (hp : Rd w .u32 p (dig B32 m)) (hl : (dig B32 m).length ≤ 100000) (he : -1000000 ≤ e ∧ e ≤ 1000000) (G : h0v g) :
 Calls Tryz.prog 101 #[.agg #[.bool s, .slice p (dig B32 m).length c, .int .i64 e], .agg #[.int .i64 g.rad, .int .i64 g.digs, .int .i64 g.lo, .int .i64 g.hi, .bool g.grad]] w fun en w' => en = .returned (.bool (j0b ⟨s, m, e⟩ g)) ∧ Below w.heap.size w w' := by
 by_cases h0 : m = 0
 · have hk : j0b ⟨s, m, e⟩ g = true := by unfold j0b; rw [if_pos h0]
   have HS := hi0 (show e0v ⟨s, m, e⟩ = 0 by unfold e0v; rw [if_pos h0])
   rw [hk]
   clear hk h0
   go_enter Tryz.func101, Tryz.ntmps101
   go_wp2_with fail
   refine n0r (fun W1 hb1 hz1 A B => ?_)
   have hs1 := hb1
   ((with_reducible refine (d0y s p _ c e m _ rfl).mono ?_))
   rintro e2 w2 ⟨rfl, hb2⟩
   rw [HS.out]
   go_wp2
   go_ret
   exact ⟨rfl, hs1.trans (hb2.mono hs1.size)⟩
 · have hsg := i0y (g := s) (e := e) (show 0 < m by omega)
   have wp := b0f g
   have hd1 := G.d1
   have hK := z0t (show 0 < m by omega) e (w := wid g) (D := g.digs.toNat) wp.1 (by omega)
   have hl1 : (dig B32 1).length ≤ 1 := by rw [a0e a0a]; unfold B32; omega
   have HF := fun W q d (h1 : Rd W .u32 p (dig B32 m)) (h2 : Rd W .u32 q (dig B32 1)) => hi0 (t0o s p q c d m 1 e g 3 _ W h1 h2 hl (by omega) (by omega) (by omega) he G (by omega) (by omega) hK)
   have hkk : j0b ⟨s, m, e⟩ g = ((fitK s m 1 e g 3 ((e + blen m - 1) / wid g - g.digs.toNat + 1)).exact && !(fitK s m 1 e g 3 ((e + blen m - 1) / wid g - g.digs.toNat + 1)).over && (!(fitK s m 1 e g 3 ((e + blen m - 1) / wid g - g.digs.toNat + 1)).under || g.grad)) := by
    unfold j0b
    rw [if_neg h0]
    rfl
   rw [hkk]
   generalize fitK s m 1 e g 3 ((e + blen m - 1) / wid g - g.digs.toNat + 1) = pf at *
   clear hkk h0 hK hd1 wp
   generalize hds : e0v ⟨s, m, e⟩ = sg0 at *
   have HSG := hi0 hds
   clear hds
   go_enter Tryz.func101, Tryz.ntmps101
   go_wp2_with fail
   refine n0r (fun W1 hb1 hz1 A B => ?_)
   replace hp := hp.past hb1
   have hs1 := hb1
   ((with_reducible refine (d0y s p _ c e m _ rfl).mono ?_))
   rintro e2 w2 ⟨rfl, hb2⟩
   rw [HSG.out]
   replace A := A.past hb2
   replace B := B.past hb2
   replace hp := hp.past hb2
   have hs2 := hs1.trans (hb2.mono hs1.size)
   go_wp2_with fail
   have hAl := A.lt
   have hBl := B.lt
   have hzd : w2.drew.heap.size = w2.heap.size := rfl
   have HZD := hi0 hzd
   clear hzd
   go_cut [5] (fun s5 wx => ∃ (kx : Nat) (px : Option Addr) (cx : Nat), s5 = .pointer (some ⟨kx, 0, none⟩) ∧ Bx wx kx #[.bool pf.neg, .slice px (dig B32 pf.d).length cx, .int .i64 pf.pow, .bool pf.exact, .bool pf.over, .bool pf.under] ∧ w2.heap.size ≤ kx ∧ Below w2.heap.size w2 wx)
   case first =>
    go_region_held3 (fun w' => (w'.cell? ⟨w.heap.size, 0, none⟩ = some (.bool s) ∧ w'.cell? ⟨w.heap.size, 1, none⟩ = some (.slice p (dig B32 m).length c) ∧ w'.cell? ⟨w.heap.size, 2, none⟩ = some (.int .i64 e)) ∧
        (w'.cell? ⟨w.heap.size + 1, 0, none⟩ = some (.int .i64 g.rad) ∧ w'.cell? ⟨w.heap.size + 1, 1, none⟩ = some (.int .i64 g.digs) ∧ w'.cell? ⟨w.heap.size + 1, 2, none⟩ = some (.int .i64 g.lo) ∧ w'.cell? ⟨w.heap.size + 1, 3, none⟩ = some (.int .i64 g.hi) ∧ w'.cell? ⟨w.heap.size + 1, 4, none⟩ = some (.bool g.grad)))
     (first
     | with_reducible exact ⟨A.e3, B.e5⟩
     | with_reducible exact ⟨(A.drew).e3, (B.drew).e5⟩
     | with_reducible exact ⟨((A.laid _).drew).e3, ((B.laid _).drew).e5⟩
     | with_reducible exact ⟨(((A.laid _).drew).past hbx).e3, (((B.laid _).drew).past hbx).e5⟩
     | with_reducible exact ⟨((A.drew).past hbx).e3, ((B.drew).past hbx).e5⟩
     | with_reducible exact ⟨(((A.drew).past hbx).laid _).e3, (((B.drew).past hbx).laid _).e5⟩
     | with_reducible exact ⟨((((A.laid _).drew).past hbx).past hby).e3, ((((B.laid _).drew).past hbx).past hby).e5⟩
     | with_reducible exact ⟨((((A.drew).past hbx).laid _).past hby).e3, ((((B.drew).past hbx).laid _).past hby).e5⟩
     | with_reducible exact ⟨(((A.drew).past hbx).past hby).e3, (((B.drew).past hbx).past hby).e5⟩
     | with_reducible exact ⟨((((A.drew).past hbx).past hby).laid _).e3, ((((B.drew).past hbx).past hby).laid _).e5⟩
     | with_reducible exact ⟨(((((A.laid _).drew).past hbx).past hby).only (q0t _ _ _ _ _ _ _ _) (by omega)).e3, (((((B.laid _).drew).past hbx).past hby).only (q0t _ _ _ _ _ _ _ _) (by omega)).e5⟩
     | with_reducible exact ⟨(((((A.drew).past hbx).laid _).past hby).only (q0t _ _ _ _ _ _ _ _) (by omega)).e3, (((((B.drew).past hbx).laid _).past hby).only (q0t _ _ _ _ _ _ _ _) (by omega)).e5⟩)
     (first
       | (go_at_call 157; ((with_reducible refine (w0w s p _ c e _).mono ?_)); rintro ex wx ⟨qx, dx, rfl, hox, hbx⟩; (have hzx : w2.heap.size ≤ wx.heap.size := by have := hbx.size; simp at this; omega))
       | (go_at_call 72; (first
           | with_reducible refine (HF _ qx dx (hp.drew.past hbx) hox.rd).out.mono ?_
           | with_reducible refine (HF _ qx dx ((hp.laid _).drew.past hbx) hox.rd).out.mono ?_
           | with_reducible refine (HF _ qx dx ((hp.drew.past hbx).laid _) (hox.rd.laid _)).out.mono ?_); rintro ey wy ⟨py, cy, rfl, hoy, hby⟩; (first
           | (have XX := (i0z w2 #[.bool false, .slice none 0 0, .int .i64 0, .bool false, .bool false, .bool false] 87).drew.past hbx |>.past hby; obtain ⟨X_0, X_1, X_2, X_3, X_4, X_5⟩ := XX.e6; have X_f0 := XX.f 0; have X_f1 := XX.f 1; have X_f2 := XX.f 2; have X_f3 := XX.f 3; have X_f4 := XX.f 4; have X_f5 := XX.f 5)
           | (have XX := (i0z wx #[.bool false, .slice none 0 0, .int .i64 0, .bool false, .bool false, .bool false] 87).past hby; obtain ⟨X_0, X_1, X_2, X_3, X_4, X_5⟩ := XX.e6; have X_f0 := XX.f 0; have X_f1 := XX.f 1; have X_f2 := XX.f 2; have X_f3 := XX.f 3; have X_f4 := XX.f 4; have X_f5 := XX.f 5)
           | skip)))
    all_goals (go_wp2_with fail)
    all_goals go_meet
    · have hzy := hby.size
      exact ⟨wy.heap.size, py, cy, rfl, i0z wy _ _, by omega, (((Below.refl w2.heap.size w2).drew.trans hbx).trans (hby.mono hzx)).trans ((b0n wy _).mono (by omega))⟩
    · have hzy := hby.size
      rw [World.size_alloc] at hzy
      have hO := q0t wy wx.heap.size (.bool pf.neg) (.slice py (dig B32 pf.d).length cy) (.int .i64 pf.pow) (.bool pf.exact) (.bool pf.over) (.bool pf.under)
      exact ⟨wx.heap.size, py, cy, rfl, XX.put6 _ _ _ _ _ _, hzx, ((((Below.refl w2.heap.size w2).drew.trans hbx).trans ((b0n wx _).mono hzx)).trans (hby.mono (by rw [World.size_alloc]; omega))).trans (hO.below hzx)⟩
    · have hzy := hby.size
      have hO := q0t wy w2.heap.size (.bool pf.neg) (.slice py (dig B32 pf.d).length cy) (.int .i64 pf.pow) (.bool pf.exact) (.bool pf.over) (.bool pf.under)
      exact ⟨w2.heap.size, py, cy, rfl, XX.put6 _ _ _ _ _ _, Nat.le_refl _, ((((b0n w2 _).drew).trans (hbx.mono (by simp))).trans (hby.mono hzx)).trans (hO.below (Nat.le_refl _))⟩
   case rest =>
    obtain ⟨kx, px, cx, rfl, X, hkx, hbc⟩ := hcut
    have hs4 := hs2.trans (hbc.mono hs2.size)
    replace B := B.past hbc
    clear hbc
    obtain ⟨png, pd, ppw, pex, pov, pun⟩ := pf
    obtain ⟨X_0, X_1, X_2, X_3, X_4, X_5⟩ := X.e6
    obtain ⟨B_0, B_1, B_2, B_3, B_4⟩ := B.e5
    simp only at X_3 X_4 X_5 ⊢
    clear HF
    generalize hgr : g.grad = gr at *
    have HGR := hi0 hgr
    clear hgr
    cases pex <;> cases pov <;> cases pun <;> cases gr <;> (go_wp2; go_ret; exact ⟨by first | rfl | (rw [HGR.out]; rfl), hs4⟩)
end Go.Proofs.YtmacohmclpnphaaGreatDoor
namespace Go.Slip
theorem e1d {s : Bool} {m : Nat} {e : Int} {g : Gd} (G : h0v g) (hin : b0r ⟨s, m, e⟩ g = true) (h0 : m ≠ 0) :
 (fitK s m 1 e g 3 ((e + blen m - 1) / wid g - g.digs.toNat + 1)).d = qP m 1 (e - wid g * stepK ⟨s, m, e⟩ g) ∧
 ((fitK s m 1 e g 3 ((e + blen m - 1) / wid g - g.digs.toNat + 1)).d ≠ 0 → (fitK s m 1 e g 3 ((e + blen m - 1) / wid g - g.digs.toNat + 1)).pow = stepK ⟨s, m, e⟩ g) ∧
 (fitK s m 1 e g 3 ((e + blen m - 1) / wid g - g.digs.toNat + 1)).d ≠ 0 := by
 have hb := z0w G hin h0
 simp only at hb
 have hp : powK g ((e + blen m - 1) / wid g - g.digs.toNat + 1) = stepK ⟨s, m, e⟩ g := by
  have eK : stepK ⟨s, m, e⟩ g = max g.lo ((e + blen m - 1) / wid g - g.digs.toNat + 1) := rfl
  rw [eK]
  unfold powK
  by_cases h1 : (e + blen m - 1) / wid g - g.digs.toNat + 1 < g.lo
  · by_cases h2 : g.grad = true
    · rw [if_pos ⟨h1, h2⟩]; omega
    · exfalso
      unfold b0r at hin
      rw [if_neg h0] at hin
      have eU : upK ⟨s, m, e⟩ (wid g) g.digs.toNat = (e + blen m - 1) / wid g - g.digs.toNat + 1 := rfl
      rw [eU] at hin
      rw [if_pos h1, if_neg h2] at hin
      simp at hin
  · rw [if_neg (fun h => h1 h.1)]; omega
 unfold fitK
 simp only
 rw [hp, z0u, q0z]
 have hq : qP m 1 (e - wid g * stepK ⟨s, m, e⟩ g) ≠ 0 := by
  unfold qP numP denP
  rw [show (-(e - wid g * stepK ⟨s, m, e⟩ g)).toNat = 0 by omega, Nat.pow_zero, Nat.mul_one, Nat.div_one]
  have := Nat.mul_pos (show 0 < m by omega) (Nat.pow_pos (n := (e - wid g * stepK ⟨s, m, e⟩ g).toNat) (show 0 < 2 by omega))
  omega
 exact ⟨rfl, fun h => by rw [if_neg h], hq⟩
end Go.Slip
namespace Go.Proofs.YtmacohmclpnphaaGreatDoor
open Go.RowKit Go.Slip
theorem h0t (f : Fm) (w : World) : Calls Tryz.prog 158 #[.agg #[.int .i64 (f.size : Int), .int .i64 (f.E : Int), .int .i64 (f.F : Int), .int .i64 f.g.rad, .int .i64 f.g.digs, .int .i64 f.g.lo, .int .i64 f.g.hi, .bool f.g.grad, .bool f.hid, .bool f.inf, .bool f.res, .func (.func (ordF f)) #[] #[]]] w fun en w' => en = .returned (.int .i64 ((wid f.g : Nat) : Int)) ∧ Below w.heap.size w w' := by
 by_cases h : f.g.rad = 16
 · have hw : wid f.g = 4 := by unfold wid; rw [if_pos h]
   rw [hw]
   have I := Inv.start w [] True.intro
   refine a0f [.v (.agg #[.int .i64 (f.size : Int), .int .i64 (f.E : Int), .int .i64 (f.F : Int), .int .i64 f.g.rad, .int .i64 f.g.digs, .int .i64 f.g.lo, .int .i64 f.g.hi, .bool f.g.grad, .bool f.hid, .bool f.inf, .bool f.res, .func (.func (ordF f)) #[] #[]])] I Tryz.func158 ?_
   refine zb I 6 (f.g.rad == 16) (true) (beq_iff_eq.2 h) fun Al W I => ?_
   exact zrb I
 · have hw : wid f.g = 1 := by unfold wid; rw [if_neg h]
   rw [hw]
   have I := Inv.start w [] True.intro
   refine a0f [.v (.agg #[.int .i64 (f.size : Int), .int .i64 (f.E : Int), .int .i64 (f.F : Int), .int .i64 f.g.rad, .int .i64 f.g.digs, .int .i64 f.g.lo, .int .i64 f.g.hi, .bool f.g.grad, .bool f.hid, .bool f.inf, .bool f.res, .func (.func (ordF f)) #[] #[]])] I Tryz.func158 ?_
   refine zb I 6 (f.g.rad == 16) (false) (bFn h) fun Al W I => ?_
   exact zrb I
theorem h1z (f : Fm) (g : Bool) (m : Nat) (pw k : Int) (p : Option Addr) (c : Nat) (w : World) (hp : Rd w .u32 p (dig B32 m)) (hc : (dig B32 m).length ≤ c) (hl : (dig B32 m).length ≤ 1000000) (hpw : -100000 ≤ pw ∧ pw ≤ 100000) (hT : TabW w) :
 Calls Tryz.prog 102 #[.agg #[.int .i64 (f.size : Int), .int .i64 (f.E : Int), .int .i64 (f.F : Int), .int .i64 f.g.rad, .int .i64 f.g.digs, .int .i64 f.g.lo, .int .i64 f.g.hi, .bool f.g.grad, .bool f.hid, .bool f.inf, .bool f.res, .func (.func (ordF f)) #[] #[]], .agg #[.int .i64 k, .bool g, .slice p (dig B32 m).length c, .int .i64 pw]] w (f0u w w.heap.size (bare ⟨g, m, wid f.g * pw⟩)) := by
 have wp := b0f f.g
 have hmu := n0z (wd := wid f.g) (k := pw) (B := 100000) wp.2 hpw
 rw [← r0p]
 generalize hmw : (wid f.g : Int) * pw = mw at *
 have HMW := hi0 hmw
 have HW := fun W h1 h2 => hi0 (m0b p _ c mw m W h1 rfl hc (by omega) (by omega) h2)
 clear hmw
 generalize hd : bare ⟨false, m, mw⟩ = d at *
 clear hd
 cases g with
 | false =>
  rw [if_neg (by simp)]
  have I := Inv.start w [rdF .u32 p (dig B32 m), tabF] ⟨hp, hT, True.intro⟩
  refine a0f [.v (.agg #[.int .i64 (f.size : Int), .int .i64 (f.E : Int), .int .i64 (f.F : Int), .int .i64 f.g.rad, .int .i64 f.g.digs, .int .i64 f.g.lo, .int .i64 f.g.hi, .bool f.g.grad, .bool f.hid, .bool f.inf, .bool f.res, .func (.func (ordF f)) #[] #[]]), .v (.agg #[.int .i64 k, .bool false, .slice p (dig B32 m).length c, .int .i64 pw])] I Tryz.func102 ?_
  refine zcut I none (fun fr bx gs => ∃ (U1 : Nat → Value) (p13 : Option Addr) (c13 : Nat), fr = (.v (.agg #[.int .i64 (f.size : Int), .int .i64 (f.E : Int), .int .i64 (f.F : Int), .int .i64 f.g.rad, .int .i64 f.g.digs, .int .i64 f.g.lo, .int .i64 f.g.hi, .bool f.g.grad, .bool f.hid, .bool f.inf, .bool f.res, .func (.func (ordF f)) #[] #[]]) :: .v (.agg #[.int .i64 k, .bool false, .slice p (dig B32 m).length c, .int .i64 pw]) :: .p 0 0 :: .p 1 0 :: .p 2 0 :: .p 3 0 :: sw U1 6 9 (.v undef :: sw U1 16 3 []) : List SV) ∧ bx = [⟨146, [.v (.int .i64 (f.size : Int)), .v (.int .i64 (f.E : Int)), .v (.int .i64 (f.F : Int)), .v (.int .i64 f.g.rad), .v (.int .i64 f.g.digs), .v (.int .i64 f.g.lo), .v (.int .i64 f.g.hi), .v (.bool f.g.grad), .v (.bool f.hid), .v (.bool f.inf), .v (.bool f.res), .v (.func (.func (ordF f)) #[] #[])], false⟩, ⟨75, [.v (.int .i64 k), .v (.bool false), .v (.slice p (dig B32 m).length c), .v (.int .i64 pw)], false⟩, ⟨112, [.v (.bool false), .v (.slice none 0 0), .v (.int .i64 0)], false⟩, ⟨112, [.v (.bool d.neg), .v (.slice p13 (dig B32 d.m).length c13), .v (.int .i64 d.e)], false⟩] ∧ gs = [ownF w.heap.size .u32 141 p13 c13 (dig B32 d.m), rdF .u32 p (dig B32 m), tabF]) ?_ ?_
  · intro J hJ Al W I
    refine zd [] I fun Al W I => ?_
    refine zk [0, 1, 2, 4, 5] I fun I => ?_
    refine zo2 3 8 I (fun I => ?_) (fun I => ?_)
    · refine zq I (fun Al W I => h0t f W) fun Al W I => ?_
      refine zki 6 I .i64 (((wid f.g : Nat) : Int) * pw) (mw) ((by rw [HMW.out]; exact iwo)) fun I => ?_
      refine zo2 7 8 I (fun I => ?_) (fun I => ?_)
      · refine zqo I (fun Al W I => (HW W I.fa.1 I.fa.2.1).out) fun Al W p13 c13 I => ?_
        refine zo 8 I fun I => ?_
        refine zn I fun Al W I => ?_
        refine zo 9 I fun I => ?_
        refine zn I fun Al W I => ?_
        exact b0d I J fun Al W U I => hJ _ _ _ _ _ ⟨U, p13, c13, rfl, rfl, rfl⟩ (I.pick [0, 1, 2])
      refine zn I fun Al W I => ?_
      refine zo 7 I fun I => ?_
      refine zqo I (fun Al W I => (HW W I.fa.1 I.fa.2.1).out) fun Al W p13 c13 I => ?_
      refine zo 9 I fun I => ?_
      refine zn I fun Al W I => ?_
      exact b0d I J fun Al W U I => hJ _ _ _ _ _ ⟨U, p13, c13, rfl, rfl, rfl⟩ (I.pick [0, 1, 2])
    refine zn I fun Al W I => ?_
    refine zo 3 I fun I => ?_
    refine zq I (fun Al W I => h0t f W) fun Al W I => ?_
    refine zki 6 I .i64 (((wid f.g : Nat) : Int) * pw) (mw) ((by rw [HMW.out]; exact iwo)) fun I => ?_
    refine zo 7 I fun I => ?_
    refine zqo I (fun Al W I => (HW W I.fa.1 I.fa.2.1).out) fun Al W p13 c13 I => ?_
    refine zo 9 I fun I => ?_
    refine zn I fun Al W I => ?_
    exact b0d I J fun Al W U I => hJ _ _ _ _ _ ⟨U, p13, c13, rfl, rfl, rfl⟩ (I.pick [0, 1, 2])
  rintro _ _ _ ⟨U1, p13, c13, rfl, rfl, rfl⟩ Al W I
  exact zret I fun Al W I => ⟨p13, c13, rfl, I.fa.1.mono (by omega), I.below⟩
 | true =>
  rw [if_pos rfl]
  have I := Inv.start w [rdF .u32 p (dig B32 m), tabF] ⟨hp, hT, True.intro⟩
  refine a0f [.v (.agg #[.int .i64 (f.size : Int), .int .i64 (f.E : Int), .int .i64 (f.F : Int), .int .i64 f.g.rad, .int .i64 f.g.digs, .int .i64 f.g.lo, .int .i64 f.g.hi, .bool f.g.grad, .bool f.hid, .bool f.inf, .bool f.res, .func (.func (ordF f)) #[] #[]]), .v (.agg #[.int .i64 k, .bool true, .slice p (dig B32 m).length c, .int .i64 pw])] I Tryz.func102 ?_
  refine zcut I none (fun fr bx gs => ∃ (U1 : Nat → Value) (p13 : Option Addr) (c13 : Nat), fr = (.v (.agg #[.int .i64 (f.size : Int), .int .i64 (f.E : Int), .int .i64 (f.F : Int), .int .i64 f.g.rad, .int .i64 f.g.digs, .int .i64 f.g.lo, .int .i64 f.g.hi, .bool f.g.grad, .bool f.hid, .bool f.inf, .bool f.res, .func (.func (ordF f)) #[] #[]]) :: .v (.agg #[.int .i64 k, .bool true, .slice p (dig B32 m).length c, .int .i64 pw]) :: .p 0 0 :: .p 1 0 :: .p 2 0 :: .p 3 0 :: sw U1 6 9 (.v undef :: sw U1 16 3 []) : List SV) ∧ bx = [⟨146, [.v (.int .i64 (f.size : Int)), .v (.int .i64 (f.E : Int)), .v (.int .i64 (f.F : Int)), .v (.int .i64 f.g.rad), .v (.int .i64 f.g.digs), .v (.int .i64 f.g.lo), .v (.int .i64 f.g.hi), .v (.bool f.g.grad), .v (.bool f.hid), .v (.bool f.inf), .v (.bool f.res), .v (.func (.func (ordF f)) #[] #[])], false⟩, ⟨75, [.v (.int .i64 k), .v (.bool true), .v (.slice p (dig B32 m).length c), .v (.int .i64 pw)], false⟩, ⟨112, [.v (.bool false), .v (.slice none 0 0), .v (.int .i64 0)], false⟩, ⟨112, [.v (.bool d.neg), .v (.slice p13 (dig B32 d.m).length c13), .v (.int .i64 d.e)], false⟩] ∧ gs = [ownF w.heap.size .u32 141 p13 c13 (dig B32 d.m), rdF .u32 p (dig B32 m), tabF]) ?_ ?_
  · intro J hJ Al W I
    refine zd [] I fun Al W I => ?_
    refine zk [0, 1, 2, 4, 5] I fun I => ?_
    refine zo2 3 8 I (fun I => ?_) (fun I => ?_)
    · refine zq I (fun Al W I => h0t f W) fun Al W I => ?_
      refine zki 6 I .i64 (((wid f.g : Nat) : Int) * pw) (mw) ((by rw [HMW.out]; exact iwo)) fun I => ?_
      refine zo2 7 8 I (fun I => ?_) (fun I => ?_)
      · refine zqo I (fun Al W I => (HW W I.fa.1 I.fa.2.1).out) fun Al W p13 c13 I => ?_
        refine zo 8 I fun I => ?_
        refine zn I fun Al W I => ?_
        refine zo 9 I fun I => ?_
        refine zn I fun Al W I => ?_
        exact b0d I J fun Al W U I => hJ _ _ _ _ _ ⟨U, p13, c13, rfl, rfl, rfl⟩ (I.pick [0, 1, 2])
      refine zn I fun Al W I => ?_
      refine zo 7 I fun I => ?_
      refine zqo I (fun Al W I => (HW W I.fa.1 I.fa.2.1).out) fun Al W p13 c13 I => ?_
      refine zo 9 I fun I => ?_
      refine zn I fun Al W I => ?_
      exact b0d I J fun Al W U I => hJ _ _ _ _ _ ⟨U, p13, c13, rfl, rfl, rfl⟩ (I.pick [0, 1, 2])
    refine zn I fun Al W I => ?_
    refine zo 3 I fun I => ?_
    refine zq I (fun Al W I => h0t f W) fun Al W I => ?_
    refine zki 6 I .i64 (((wid f.g : Nat) : Int) * pw) (mw) ((by rw [HMW.out]; exact iwo)) fun I => ?_
    refine zo 7 I fun I => ?_
    refine zqo I (fun Al W I => (HW W I.fa.1 I.fa.2.1).out) fun Al W p13 c13 I => ?_
    refine zo 9 I fun I => ?_
    refine zn I fun Al W I => ?_
    exact b0d I J fun Al W U I => hJ _ _ _ _ _ ⟨U, p13, c13, rfl, rfl, rfl⟩ (I.pick [0, 1, 2])
  rintro _ _ _ ⟨U1, p13, c13, rfl, rfl, rfl⟩ Al W I
  refine zq I (fun Al W I => t0j d.neg p13 _ c13 d.e d.m W rfl) fun Al W I => ?_
  exact zret I fun Al W I => ⟨p13, c13, rfl, I.fa.1.mono (by omega), I.below⟩
theorem p0r (f : Fm) (g : Bool) (E : Int) (e x : Nat) (hE : E = e) (p : Option Addr) (c : Nat) (w : World) (G : c0l f) (hp : Rd w .u32 p (dig B32 x)) (he : e < 2 ^ f.E) (hx : x < 2 ^ f.F) :
 Calls Tryz.prog 106 #[.agg #[.int .i64 (f.size : Int), .int .i64 (f.E : Int), .int .i64 (f.F : Int), .int .i64 f.g.rad, .int .i64 f.g.digs, .int .i64 f.g.lo, .int .i64 f.g.hi, .bool f.g.grad, .bool f.hid, .bool f.inf, .bool f.res, .func (.func (ordF f)) #[] #[]], .agg #[.bool g, .int .i64 E, .slice p (dig B32 x).length c]] w fun en w' => en = .returned (.string (b0q (f.str g e x))) ∧ Below w.heap.size w w' := by
 subst hE
 exact v0j f g e x p c w G hp he hx
theorem i1a {F : Nat} (h : F ≤ 64) : (dig B32 (2 ^ F)).length ≤ 3 := a0q (n := F + 1) (Nat.pow_lt_pow_right (by omega) (by omega)) (by omega)
theorem w0x (f : Fm) (d : Dv) (p : Option Addr) (c : Nat) (w : World) (G : c0l f) (hp : Rd w .u32 p (dig B32 d.m)) (hl : (dig B32 d.m).length ≤ 1200) (he : -60000 ≤ d.e ∧ d.e ≤ 60000) (hin : b0r d f.g = true) (h0 : d.m ≠ 0) :
 Calls Tryz.prog 103 #[.agg #[.int .i64 (f.size : Int), .int .i64 (f.E : Int), .int .i64 (f.F : Int), .int .i64 f.g.rad, .int .i64 f.g.digs, .int .i64 f.g.lo, .int .i64 f.g.hi, .bool f.g.grad, .bool f.hid, .bool f.inf, .bool f.res, .func (.func (ordF f)) #[] #[]], .agg #[.bool d.neg, .slice p (dig B32 d.m).length c, .int .i64 d.e]] w fun en w' => en = .returned (.string (b0q (f.strP (f.numP d)))) ∧ Below w.heap.size w w' := by
 have hg := c0c G.g
 have N := b1a G hin h0
 have hlt := b1b G N
 obtain ⟨s, m, e⟩ := d
 simp only at h0 hl he hp
 have hd1 := hg.d1
 have hd2 := hg.d2
 have hl1 : (dig B32 1).length ≤ 1 := by rw [a0e a0a]; unfold B32; omega
 obtain ⟨f1, f2, f3⟩ := e1d hg hin h0
 have f4 := f2 f3
 have hq : qP m 1 (e - wid f.g * stepK ⟨s, m, e⟩ f.g) = f.fr ⟨s, m, e⟩ := by
  have := N.e0
  simp only at this
  unfold qP numP denP Fm.fr
  rw [show (-(e - wid f.g * stepK ⟨s, m, e⟩ f.g)).toNat = 0 by omega, Nat.pow_zero, Nat.mul_one, Nat.div_one]
 rw [hq] at f1
 have hK := z0t (show 0 < m by omega) e (w := wid f.g) (D := f.g.digs.toNat) (b0f f.g).1 (by omega)
 have HF := fun W q d (h1 : Rd W .u32 p (dig B32 m)) (h2 : Rd W .u32 q (dig B32 1)) => hi0 (t0o s p q c d m 1 e f.g 3 _ W h1 h2 (by omega) (by omega) (by omega) (by omega) (by omega) hg (by omega) (by omega) hK)
 have hlow := N.low
 have hbl := N.bl
 have hk1 := N.k1
 have hk2 := N.k2
 have hfl : (dig B32 (f.fr ⟨s, m, e⟩)).length ≤ 16 := a0q N.lt (k := 16) (by have := Nat.mul_le_mul (b0f f.g).2 (show f.g.digs.toNat ≤ 120 by omega); omega)
 have hnp : f.numP ⟨s, m, e⟩ = if f.fam = 2 then ⟨s, (stepK ⟨s, m, e⟩ f.g - f.g.lo).toNat, f.fr ⟨s, m, e⟩⟩
  else if (blen (f.fr ⟨s, m, e⟩) : Int) = f.g.digs then ⟨s, (stepK ⟨s, m, e⟩ f.g - f.g.lo).toNat + 1, if f.ext then f.fr ⟨s, m, e⟩ else f.fr ⟨s, m, e⟩ - 2 ^ f.F⟩
  else ⟨s, (stepK ⟨s, m, e⟩ f.g - f.g.lo).toNat, f.fr ⟨s, m, e⟩⟩ := rfl
 rw [hnp] at hlt ⊢
 clear hnp N
 generalize f.fr ⟨s, m, e⟩ = X at *
 generalize stepK ⟨s, m, e⟩ f.g = K at *
 generalize fitK s m 1 e f.g 3 ((e + blen m - 1) / wid f.g - f.g.digs.toNat + 1) = pf at *
 obtain ⟨pn, pd, pp, pex, pov, pun⟩ := pf
 simp only at f1 f4
 subst f1 f4
 clear hK f2 f3 hq
 have z5 := G.lo
 have z6 := G.hi
 have hr := G.rad
 have hw := G.w
 have HJ := fun (W : World) (g : Bool) (e x : Nat) (p : Option Addr) (c : Nat) h h1 h2 => hi0 (v0j f g e x p c W G h h1 h2)
 unfold Fm.strP
 by_cases hf : f.fam = 2
 · rw [if_pos hf] at hr hw hlt ⊢
   simp only at hlt ⊢
   have hei : ((pp - f.g.lo).toNat : Int) = pp - f.g.lo := by omega
   generalize (pp - f.g.lo).toNat = e1 at *
   have I := Inv.start w [rdF .u32 p (dig B32 m)] ⟨hp, True.intro⟩
   refine a0f [.v (.agg #[.int .i64 (f.size : Int), .int .i64 (f.E : Int), .int .i64 (f.F : Int), .int .i64 f.g.rad, .int .i64 f.g.digs, .int .i64 f.g.lo, .int .i64 f.g.hi, .bool f.g.grad, .bool f.hid, .bool f.inf, .bool f.res, .func (.func (ordF f)) #[] #[]]), .v (.agg #[.bool s, .slice p (dig B32 m).length c, .int .i64 e])] I Tryz.func103 ?_
   refine zcut I none (fun fr bx gs => ∃ (U1 : Nat → Value) (p21 : Option Addr) (c21 : Nat), fr = (.v (.agg #[.int .i64 (f.size : Int), .int .i64 (f.E : Int), .int .i64 (f.F : Int), .int .i64 f.g.rad, .int .i64 f.g.digs, .int .i64 f.g.lo, .int .i64 f.g.hi, .bool f.g.grad, .bool f.hid, .bool f.inf, .bool f.res, .func (.func (ordF f)) #[] #[]]) :: .v (.agg #[.bool s, .slice p (dig B32 m).length c, .int .i64 e]) :: .p 0 0 :: .p 1 0 :: .v (Go.Value.string (ByteArray.mk #[])) :: .p 2 0 :: su 2 (sw U1 8 25 (.v undef :: sw U1 34 7 (.v undef :: .v (U1 42) :: .v undef :: sw U1 44 13 []))) : List SV) ∧ bx = [⟨146, [.v (.int .i64 (f.size : Int)), .v (.int .i64 (f.E : Int)), .v (.int .i64 (f.F : Int)), .v (.int .i64 f.g.rad), .v (.int .i64 f.g.digs), .v (.int .i64 f.g.lo), .v (.int .i64 f.g.hi), .v (.bool f.g.grad), .v (.bool f.hid), .v (.bool f.inf), .v (.bool f.res), .v (.func (.func (ordF f)) #[] #[])], false⟩, ⟨112, [.v (.bool s), .v (.slice p (dig B32 m).length c), .v (.int .i64 e)], false⟩, ⟨87, [.v (.bool pn), .v (.slice p21 (dig B32 pd).length c21), .v (.int .i64 pp), .v (.bool pex), .v (.bool pov), .v (.bool pun)], false⟩] ∧ gs = [ownF w.heap.size .u32 141 p21 c21 (dig B32 pd), rdF .u32 p (dig B32 m)]) ?_ ?_
   · intro J hJ Al W I
     refine zd [] I fun Al W I => ?_
     refine zk [0, 1, 2, 3, 4, 5, 7, 8, 9, 11, 12] I fun I => ?_
     refine zo2 6 14 I (fun I => ?_) (fun I => ?_)
     · refine zqo I (fun Al W I => have hzW := I.bel.size; sof 1 1 rfl (by omega) W) fun Al W p14 c14 I => ?_
       refine zk [10] I fun I => ?_
       refine zo2 13 14 I (fun I => ?_) (fun I => ?_)
       · refine zqo I (fun Al W I => (HF W p14 c14 I.fa.2.1 I.fa.1.rd).out) fun Al W p21 c21 I => ?_
         refine zo 14 I fun I => ?_
         refine zn I fun Al W I => ?_
         refine zo 15 I fun I => ?_
         refine zn I fun Al W I => ?_
         exact b0d I J fun Al W U I => hJ _ _ _ _ _ ⟨U, p21, c21, rfl, rfl, rfl⟩ (I.pick [0, 2])
       refine zn I fun Al W I => ?_
       refine zo 13 I fun I => ?_
       refine zqo I (fun Al W I => (HF W p14 c14 I.fa.2.1 I.fa.1.rd).out) fun Al W p21 c21 I => ?_
       refine zo 15 I fun I => ?_
       refine zn I fun Al W I => ?_
       exact b0d I J fun Al W U I => hJ _ _ _ _ _ ⟨U, p21, c21, rfl, rfl, rfl⟩ (I.pick [0, 2])
     refine zn I fun Al W I => ?_
     refine zo 6 I fun I => ?_
     refine zqo I (fun Al W I => have hzW := I.bel.size; sof 1 1 rfl (by omega) W) fun Al W p14 c14 I => ?_
     refine zk [10] I fun I => ?_
     refine zo 13 I fun I => ?_
     refine zqo I (fun Al W I => (HF W p14 c14 I.fa.2.1 I.fa.1.rd).out) fun Al W p21 c21 I => ?_
     refine zo 15 I fun I => ?_
     refine zn I fun Al W I => ?_
     exact b0d I J fun Al W U I => hJ _ _ _ _ _ ⟨U, p21, c21, rfl, rfl, rfl⟩ (I.pick [0, 2])
   rintro _ _ _ ⟨U1, p21, c21, rfl, rfl, rfl⟩ Al W I
   refine zi I 27 .i64 (pp - f.g.lo) ((e1 : Int)) ((by rw [hei]; exact iwo)) fun Al W I => ?_
   refine zb I 33 (f.g.rad == 2) (false) (by rw [hr]; rfl) fun Al W I => ?_
   refine zq I (fun Al W I => (HJ W s e1 pd p21 c21 I.fa.1.rd hlt.1 hlt.2).out) fun Al W I => ?_
   exact zrb I
 · rw [if_neg hf] at hr hw hlt ⊢
   rw [hw] at hbl
   by_cases hb : (blen pd : Int) = f.g.digs
   · rw [if_pos hb] at hlt ⊢
     simp only at hlt ⊢
     have hei : (((pp - f.g.lo).toNat + 1 : Nat) : Int) = pp - f.g.lo + 1 := by omega
     generalize (pp - f.g.lo).toNat + 1 = e1 at *
     by_cases hx : f.ext = true
     · rw [if_pos hx] at hlt ⊢
       have hh : f.hid = false := by unfold Fm.hid; rw [hx]; simp
       have I := Inv.start w [rdF .u32 p (dig B32 m)] ⟨hp, True.intro⟩
       refine a0f [.v (.agg #[.int .i64 (f.size : Int), .int .i64 (f.E : Int), .int .i64 (f.F : Int), .int .i64 f.g.rad, .int .i64 f.g.digs, .int .i64 f.g.lo, .int .i64 f.g.hi, .bool f.g.grad, .bool f.hid, .bool f.inf, .bool f.res, .func (.func (ordF f)) #[] #[]]), .v (.agg #[.bool s, .slice p (dig B32 m).length c, .int .i64 e])] I Tryz.func103 ?_
       refine zcut I none (fun fr bx gs => ∃ (U1 : Nat → Value) (p21 : Option Addr) (c21 : Nat), fr = (.v (.agg #[.int .i64 (f.size : Int), .int .i64 (f.E : Int), .int .i64 (f.F : Int), .int .i64 f.g.rad, .int .i64 f.g.digs, .int .i64 f.g.lo, .int .i64 f.g.hi, .bool f.g.grad, .bool f.hid, .bool f.inf, .bool f.res, .func (.func (ordF f)) #[] #[]]) :: .v (.agg #[.bool s, .slice p (dig B32 m).length c, .int .i64 e]) :: .p 0 0 :: .p 1 0 :: .v (Go.Value.string (ByteArray.mk #[])) :: .p 2 0 :: su 2 (sw U1 8 25 (.v undef :: sw U1 34 7 (.v undef :: .v (U1 42) :: .v undef :: sw U1 44 13 []))) : List SV) ∧ bx = [⟨146, [.v (.int .i64 (f.size : Int)), .v (.int .i64 (f.E : Int)), .v (.int .i64 (f.F : Int)), .v (.int .i64 f.g.rad), .v (.int .i64 f.g.digs), .v (.int .i64 f.g.lo), .v (.int .i64 f.g.hi), .v (.bool f.g.grad), .v (.bool f.hid), .v (.bool f.inf), .v (.bool f.res), .v (.func (.func (ordF f)) #[] #[])], false⟩, ⟨112, [.v (.bool s), .v (.slice p (dig B32 m).length c), .v (.int .i64 e)], false⟩, ⟨87, [.v (.bool pn), .v (.slice p21 (dig B32 pd).length c21), .v (.int .i64 pp), .v (.bool pex), .v (.bool pov), .v (.bool pun)], false⟩] ∧ gs = [ownF w.heap.size .u32 141 p21 c21 (dig B32 pd), rdF .u32 p (dig B32 m)]) ?_ ?_
       · intro J hJ Al W I
         refine zd [] I fun Al W I => ?_
         refine zk [0, 1, 2, 3, 4, 5, 7, 8, 9, 11, 12] I fun I => ?_
         refine zo2 6 14 I (fun I => ?_) (fun I => ?_)
         · refine zqo I (fun Al W I => have hzW := I.bel.size; sof 1 1 rfl (by omega) W) fun Al W p14 c14 I => ?_
           refine zk [10] I fun I => ?_
           refine zo2 13 14 I (fun I => ?_) (fun I => ?_)
           · refine zqo I (fun Al W I => (HF W p14 c14 I.fa.2.1 I.fa.1.rd).out) fun Al W p21 c21 I => ?_
             refine zo 14 I fun I => ?_
             refine zn I fun Al W I => ?_
             refine zo 15 I fun I => ?_
             refine zn I fun Al W I => ?_
             exact b0d I J fun Al W U I => hJ _ _ _ _ _ ⟨U, p21, c21, rfl, rfl, rfl⟩ (I.pick [0, 2])
           refine zn I fun Al W I => ?_
           refine zo 13 I fun I => ?_
           refine zqo I (fun Al W I => (HF W p14 c14 I.fa.2.1 I.fa.1.rd).out) fun Al W p21 c21 I => ?_
           refine zo 15 I fun I => ?_
           refine zn I fun Al W I => ?_
           exact b0d I J fun Al W U I => hJ _ _ _ _ _ ⟨U, p21, c21, rfl, rfl, rfl⟩ (I.pick [0, 2])
         refine zn I fun Al W I => ?_
         refine zo 6 I fun I => ?_
         refine zqo I (fun Al W I => have hzW := I.bel.size; sof 1 1 rfl (by omega) W) fun Al W p14 c14 I => ?_
         refine zk [10] I fun I => ?_
         refine zo 13 I fun I => ?_
         refine zqo I (fun Al W I => (HF W p14 c14 I.fa.2.1 I.fa.1.rd).out) fun Al W p21 c21 I => ?_
         refine zo 15 I fun I => ?_
         refine zn I fun Al W I => ?_
         exact b0d I J fun Al W U I => hJ _ _ _ _ _ ⟨U, p21, c21, rfl, rfl, rfl⟩ (I.pick [0, 2])
       rintro _ _ _ ⟨U1, p21, c21, rfl, rfl, rfl⟩ Al W I
       refine zi I 27 .i64 (pp - f.g.lo) (pp - f.g.lo) (iwo) fun Al W I => ?_
       refine zb I 33 (f.g.rad == 2) (true) (by rw [hr]; rfl) fun Al W I => ?_
       refine zi I 35 .i64 ((pp - f.g.lo) + 1) ((e1 : Int)) ((by rw [hei]; exact iwo)) fun Al W I => ?_
       refine zd [] I fun Al W I => ?_
       refine zk [0, 2, 3, 4] I fun I => ?_
       refine zo 1 I fun I => ?_
       refine zq I (fun Al W I => have hzW := I.bel.size; stay (f0m p21 _ c21 pd W I.fa.1.rd rfl (by omega))) fun Al W I => ?_
       refine zkb 5 I (decide (((blen pd : Nat) : Int) < f.g.digs)) (false) (dFa (by omega)) fun I => ?_
       refine zb I 43 (f.hid) (false) (hh) fun Al W I => ?_
       refine zq I (fun Al W I => (HJ W s e1 pd p21 c21 I.fa.1.rd hlt.1 hlt.2).out) fun Al W I => ?_
       exact zrb I
     · rw [if_neg hx] at hlt ⊢
       have hx' : f.ext = false := by simpa using hx
       have hh : f.hid = true := by unfold Fm.hid; rw [hx']; simp [hf]
       have hFF := G.d1 hf hx'
       have hge : 2 ^ f.F ≤ pd := by
        have h1 := e0z pd ((c0o pd).1 (by omega))
        rw [show blen pd - 1 = f.F by omega] at h1
        exact h1
       have ht := i1a G.f2
       have I := Inv.start w [rdF .u32 p (dig B32 m)] ⟨hp, True.intro⟩
       refine a0f [.v (.agg #[.int .i64 (f.size : Int), .int .i64 (f.E : Int), .int .i64 (f.F : Int), .int .i64 f.g.rad, .int .i64 f.g.digs, .int .i64 f.g.lo, .int .i64 f.g.hi, .bool f.g.grad, .bool f.hid, .bool f.inf, .bool f.res, .func (.func (ordF f)) #[] #[]]), .v (.agg #[.bool s, .slice p (dig B32 m).length c, .int .i64 e])] I Tryz.func103 ?_
       refine zcut I none (fun fr bx gs => ∃ (U1 : Nat → Value) (p21 : Option Addr) (c21 : Nat), fr = (.v (.agg #[.int .i64 (f.size : Int), .int .i64 (f.E : Int), .int .i64 (f.F : Int), .int .i64 f.g.rad, .int .i64 f.g.digs, .int .i64 f.g.lo, .int .i64 f.g.hi, .bool f.g.grad, .bool f.hid, .bool f.inf, .bool f.res, .func (.func (ordF f)) #[] #[]]) :: .v (.agg #[.bool s, .slice p (dig B32 m).length c, .int .i64 e]) :: .p 0 0 :: .p 1 0 :: .v (Go.Value.string (ByteArray.mk #[])) :: .p 2 0 :: su 2 (sw U1 8 25 (.v undef :: sw U1 34 7 (.v undef :: .v (U1 42) :: .v undef :: sw U1 44 13 []))) : List SV) ∧ bx = [⟨146, [.v (.int .i64 (f.size : Int)), .v (.int .i64 (f.E : Int)), .v (.int .i64 (f.F : Int)), .v (.int .i64 f.g.rad), .v (.int .i64 f.g.digs), .v (.int .i64 f.g.lo), .v (.int .i64 f.g.hi), .v (.bool f.g.grad), .v (.bool f.hid), .v (.bool f.inf), .v (.bool f.res), .v (.func (.func (ordF f)) #[] #[])], false⟩, ⟨112, [.v (.bool s), .v (.slice p (dig B32 m).length c), .v (.int .i64 e)], false⟩, ⟨87, [.v (.bool pn), .v (.slice p21 (dig B32 pd).length c21), .v (.int .i64 pp), .v (.bool pex), .v (.bool pov), .v (.bool pun)], false⟩] ∧ gs = [ownF w.heap.size .u32 141 p21 c21 (dig B32 pd), rdF .u32 p (dig B32 m)]) ?_ ?_
       · intro J hJ Al W I
         refine zd [] I fun Al W I => ?_
         refine zk [0, 1, 2, 3, 4, 5, 7, 8, 9, 11, 12] I fun I => ?_
         refine zo2 6 14 I (fun I => ?_) (fun I => ?_)
         · refine zqo I (fun Al W I => have hzW := I.bel.size; sof 1 1 rfl (by omega) W) fun Al W p14 c14 I => ?_
           refine zk [10] I fun I => ?_
           refine zo2 13 14 I (fun I => ?_) (fun I => ?_)
           · refine zqo I (fun Al W I => (HF W p14 c14 I.fa.2.1 I.fa.1.rd).out) fun Al W p21 c21 I => ?_
             refine zo 14 I fun I => ?_
             refine zn I fun Al W I => ?_
             refine zo 15 I fun I => ?_
             refine zn I fun Al W I => ?_
             exact b0d I J fun Al W U I => hJ _ _ _ _ _ ⟨U, p21, c21, rfl, rfl, rfl⟩ (I.pick [0, 2])
           refine zn I fun Al W I => ?_
           refine zo 13 I fun I => ?_
           refine zqo I (fun Al W I => (HF W p14 c14 I.fa.2.1 I.fa.1.rd).out) fun Al W p21 c21 I => ?_
           refine zo 15 I fun I => ?_
           refine zn I fun Al W I => ?_
           exact b0d I J fun Al W U I => hJ _ _ _ _ _ ⟨U, p21, c21, rfl, rfl, rfl⟩ (I.pick [0, 2])
         refine zn I fun Al W I => ?_
         refine zo 6 I fun I => ?_
         refine zqo I (fun Al W I => have hzW := I.bel.size; sof 1 1 rfl (by omega) W) fun Al W p14 c14 I => ?_
         refine zk [10] I fun I => ?_
         refine zo 13 I fun I => ?_
         refine zqo I (fun Al W I => (HF W p14 c14 I.fa.2.1 I.fa.1.rd).out) fun Al W p21 c21 I => ?_
         refine zo 15 I fun I => ?_
         refine zn I fun Al W I => ?_
         exact b0d I J fun Al W U I => hJ _ _ _ _ _ ⟨U, p21, c21, rfl, rfl, rfl⟩ (I.pick [0, 2])
       rintro _ _ _ ⟨U1, p21, c21, rfl, rfl, rfl⟩ Al W I
       refine zi I 27 .i64 (pp - f.g.lo) (pp - f.g.lo) (iwo) fun Al W I => ?_
       refine zb I 33 (f.g.rad == 2) (true) (by rw [hr]; rfl) fun Al W I => ?_
       refine zi I 35 .i64 ((pp - f.g.lo) + 1) ((e1 : Int)) ((by rw [hei]; exact iwo)) fun Al W I => ?_
       refine zd [] I fun Al W I => ?_
       refine zk [0, 2, 3, 4] I fun I => ?_
       refine zo 1 I fun I => ?_
       refine zq I (fun Al W I => have hzW := I.bel.size; stay (f0m p21 _ c21 pd W I.fa.1.rd rfl (by omega))) fun Al W I => ?_
       refine zkb 5 I (decide (((blen pd : Nat) : Int) < f.g.digs)) (false) (dFa (by omega)) fun I => ?_
       refine zb I 43 (f.hid) (true) (hh) fun Al W I => ?_
       refine zqo I (fun Al W I => have hzW := I.bel.size; f0o f.F (2 ^ f.F) _ W (by have := G.f2; omega) rfl rfl) fun Al W p47 c47 I => ?_
       refine zqo I (fun Al W I => have hzW := I.bel.size; ssub p21 p47 _ _ c21 c47 pd (2 ^ f.F) (pd - 2 ^ f.F) W I.fa.2.1.rd I.fa.1.rd rfl rfl (by omega) hge rfl) fun Al W p48 c48 I => ?_
       refine zq I (fun Al W I => (HJ W s e1 (pd - 2 ^ f.F) p48 c48 I.fa.1.rd hlt.1 hlt.2).out) fun Al W I => ?_
       exact zrb I
   · rw [if_neg hb] at hlt ⊢
     simp only at hlt ⊢
     have hlo := (hlow hf hb).1
     have h0e : (pp - f.g.lo).toNat = 0 := by omega
     rw [h0e] at hlt ⊢
     have I := Inv.start w [rdF .u32 p (dig B32 m)] ⟨hp, True.intro⟩
     refine a0f [.v (.agg #[.int .i64 (f.size : Int), .int .i64 (f.E : Int), .int .i64 (f.F : Int), .int .i64 f.g.rad, .int .i64 f.g.digs, .int .i64 f.g.lo, .int .i64 f.g.hi, .bool f.g.grad, .bool f.hid, .bool f.inf, .bool f.res, .func (.func (ordF f)) #[] #[]]), .v (.agg #[.bool s, .slice p (dig B32 m).length c, .int .i64 e])] I Tryz.func103 ?_
     refine zcut I none (fun fr bx gs => ∃ (U1 : Nat → Value) (p21 : Option Addr) (c21 : Nat), fr = (.v (.agg #[.int .i64 (f.size : Int), .int .i64 (f.E : Int), .int .i64 (f.F : Int), .int .i64 f.g.rad, .int .i64 f.g.digs, .int .i64 f.g.lo, .int .i64 f.g.hi, .bool f.g.grad, .bool f.hid, .bool f.inf, .bool f.res, .func (.func (ordF f)) #[] #[]]) :: .v (.agg #[.bool s, .slice p (dig B32 m).length c, .int .i64 e]) :: .p 0 0 :: .p 1 0 :: .v (Go.Value.string (ByteArray.mk #[])) :: .p 2 0 :: su 2 (sw U1 8 25 (.v undef :: sw U1 34 7 (.v undef :: .v (U1 42) :: .v undef :: sw U1 44 13 []))) : List SV) ∧ bx = [⟨146, [.v (.int .i64 (f.size : Int)), .v (.int .i64 (f.E : Int)), .v (.int .i64 (f.F : Int)), .v (.int .i64 f.g.rad), .v (.int .i64 f.g.digs), .v (.int .i64 f.g.lo), .v (.int .i64 f.g.hi), .v (.bool f.g.grad), .v (.bool f.hid), .v (.bool f.inf), .v (.bool f.res), .v (.func (.func (ordF f)) #[] #[])], false⟩, ⟨112, [.v (.bool s), .v (.slice p (dig B32 m).length c), .v (.int .i64 e)], false⟩, ⟨87, [.v (.bool pn), .v (.slice p21 (dig B32 pd).length c21), .v (.int .i64 pp), .v (.bool pex), .v (.bool pov), .v (.bool pun)], false⟩] ∧ gs = [ownF w.heap.size .u32 141 p21 c21 (dig B32 pd), rdF .u32 p (dig B32 m)]) ?_ ?_
     · intro J hJ Al W I
       refine zd [] I fun Al W I => ?_
       refine zk [0, 1, 2, 3, 4, 5, 7, 8, 9, 11, 12] I fun I => ?_
       refine zo2 6 14 I (fun I => ?_) (fun I => ?_)
       · refine zqo I (fun Al W I => have hzW := I.bel.size; sof 1 1 rfl (by omega) W) fun Al W p14 c14 I => ?_
         refine zk [10] I fun I => ?_
         refine zo2 13 14 I (fun I => ?_) (fun I => ?_)
         · refine zqo I (fun Al W I => (HF W p14 c14 I.fa.2.1 I.fa.1.rd).out) fun Al W p21 c21 I => ?_
           refine zo 14 I fun I => ?_
           refine zn I fun Al W I => ?_
           refine zo 15 I fun I => ?_
           refine zn I fun Al W I => ?_
           exact b0d I J fun Al W U I => hJ _ _ _ _ _ ⟨U, p21, c21, rfl, rfl, rfl⟩ (I.pick [0, 2])
         refine zn I fun Al W I => ?_
         refine zo 13 I fun I => ?_
         refine zqo I (fun Al W I => (HF W p14 c14 I.fa.2.1 I.fa.1.rd).out) fun Al W p21 c21 I => ?_
         refine zo 15 I fun I => ?_
         refine zn I fun Al W I => ?_
         exact b0d I J fun Al W U I => hJ _ _ _ _ _ ⟨U, p21, c21, rfl, rfl, rfl⟩ (I.pick [0, 2])
       refine zn I fun Al W I => ?_
       refine zo 6 I fun I => ?_
       refine zqo I (fun Al W I => have hzW := I.bel.size; sof 1 1 rfl (by omega) W) fun Al W p14 c14 I => ?_
       refine zk [10] I fun I => ?_
       refine zo 13 I fun I => ?_
       refine zqo I (fun Al W I => (HF W p14 c14 I.fa.2.1 I.fa.1.rd).out) fun Al W p21 c21 I => ?_
       refine zo 15 I fun I => ?_
       refine zn I fun Al W I => ?_
       exact b0d I J fun Al W U I => hJ _ _ _ _ _ ⟨U, p21, c21, rfl, rfl, rfl⟩ (I.pick [0, 2])
     rintro _ _ _ ⟨U1, p21, c21, rfl, rfl, rfl⟩ Al W I
     refine zi I 27 .i64 (pp - f.g.lo) (pp - f.g.lo) (iwo) fun Al W I => ?_
     refine zb I 33 (f.g.rad == 2) (true) (by rw [hr]; rfl) fun Al W I => ?_
     refine zi I 35 .i64 ((pp - f.g.lo) + 1) ((pp - f.g.lo) + 1) (iwo) fun Al W I => ?_
     refine zd [] I fun Al W I => ?_
     refine zk [0, 2, 3, 4] I fun I => ?_
     refine zo 1 I fun I => ?_
     refine zq I (fun Al W I => have hzW := I.bel.size; stay (f0m p21 _ c21 pd W I.fa.1.rd rfl (by omega))) fun Al W I => ?_
     refine zkb 5 I (decide (((blen pd : Nat) : Int) < f.g.digs)) (true) (dTr (by omega)) fun I => ?_
     refine zq I (fun Al W I => p0r f s 0 0 pd rfl p21 c21 W G I.fa.1.rd hlt.1 hlt.2) fun Al W I => ?_
     exact zrb I
def numD (f : Fm) (a : Din) : Dv := bare ⟨a.g, val B32 a.xs, wid f.g * a.e⟩
def a0k (f : Fm) (cls : Int) (a : Din) : Int :=
 if cls < 1 ∨ 5 < cls then 6
 else if b0o a.xs ≠ 0 then b0o a.xs
 else if ((cls = 3 ∨ cls = 4) ∧ f.inf = false) ∨ (cls = 5 ∧ f.res = false) then 5
 else if cls = 2 then
  if a.e < -20000 ∨ 20000 < a.e then 3
  else if a.xs.length = 0 ∨ b0r (numD f a) f.g = false then 4 else 0
 else if 0 < a.xs.length ∨ a.e ≠ 0 ∨ (a.g = true ∧ (4 ≤ cls ∨ f.res = true)) then 4 else 0
def o0c (f : Fm) (cls : Int) (a : Din) : ByteArray := b0q (f.strP (f.encP cls.toNat a.g (numD f a)))
def r0q (w : World) (er : Int) (s : ByteArray) (en : Ending) (w' : World) : Prop :=
 en = .returned (.tuple #[.string (if er = 0 then s else b0q []), .int .i64 er]) ∧ Below w.heap.size w w'
theorem a0l {w w' : World} {er r : Int} {s : ByteArray} {en : Ending} (h : er = r) (hr : r ≠ 0) (he : en = .returned (.tuple #[.string ⟨#[]⟩, .int .i64 r])) (hb : Below w.heap.size w w') : r0q w er s en w' := by
 subst h
 exact ⟨by rw [he, if_neg hr]; rfl, hb⟩
theorem c0w {w w' : World} {er : Int} {s t : ByteArray} {en : Ending} (h : er = 0) (hs : s = t) (he : en = .returned (.tuple #[.string t, .int .i64 0])) (hb : Below w.heap.size w w') : r0q w er s en w' := by
 subst h hs
 exact ⟨by rw [he, if_pos rfl], hb⟩
theorem i1b {f : Fm} {w : World} {a : Din} (ha : InD w a) (h : b0o a.xs = 0) (he : -20000 ≤ a.e ∧ a.e ≤ 20000) : (dig B32 (numD f a).m).length ≤ 1200 ∧ -100000 ≤ (numD f a).e ∧ (numD f a).e ≤ 150000 := by
 obtain ⟨h1, h2⟩ := i0p ha.lt h
 have hl : (dig B32 (val B32 a.xs)).length ≤ 1200 := by rw [← h1]; exact h2
 have k1 := k0x a0a (⟨a.g, val B32 a.xs, wid f.g * a.e⟩ : Dv)
 have wp := b0f f.g
 have hmu := n0z (wd := wid f.g) (k := a.e) (B := 20000) wp.2 he
 refine ⟨Nat.le_trans k1 hl, ?_⟩
 unfold numD
 by_cases h0 : val B32 a.xs = 0
 · rw [h0, q0k]; simp
 · have ht := f0t (m := val B32 a.xs) (by omega)
   have hb := e0o (val B32 a.xs)
   unfold bare
   rw [if_neg h0]
   simp only
   omega
theorem e1e (f : Fm) (g : Bool) (E : Int) (e : Nat) (hE : E = e) (w : World) (G : c0l f) (he : e < 2 ^ f.E) :
 Calls Tryz.prog 106 #[.agg #[.int .i64 (f.size : Int), .int .i64 (f.E : Int), .int .i64 (f.F : Int), .int .i64 f.g.rad, .int .i64 f.g.digs, .int .i64 f.g.lo, .int .i64 f.g.hi, .bool f.g.grad, .bool f.hid, .bool f.inf, .bool f.res, .func (.func (ordF f)) #[] #[]], .agg #[.bool g, .int .i64 E, .slice none 0 0]] w fun en w' => en = .returned (.string (b0q (f.str g e 0))) ∧ Below w.heap.size w w' := by
 have := p0r f g E e 0 hE none 0 w G (by rw [a0c]; exact Rd.nil _ _ _) he (Nat.pow_pos (by omega))
 rw [a0c] at this
 exact this
theorem b1h (n : Int) (cls : Int) (a : Din) (w : World) (hn : IsFm n) (ha : InD w a) (hT : TabW w) :
 Calls Tryz.prog 42 #[.int .i64 n, .agg #[.int .i64 cls, .bool a.g, .slice a.p a.xs.length a.c, .int .i64 a.e]] w (r0q w (a0k (fmt n) cls a) (o0c (fmt n) cls a)) := by
 have G := e0k hn
 have HF := fun W => hi0 (h0g n hn W)
 generalize fmt n = f at *
 have HR : ∀ (W : World), b0o a.xs = 0 → Rd W .u32 a.p a.xs → -20000 ≤ a.e ∧ a.e ≤ 20000 → TabW W → Hid (Calls Tryz.prog 102 #[.agg #[.int .i64 (f.size : Int), .int .i64 (f.E : Int), .int .i64 (f.F : Int), .int .i64 f.g.rad, .int .i64 f.g.digs, .int .i64 f.g.lo, .int .i64 f.g.hi, .bool f.g.grad, .bool f.hid, .bool f.inf, .bool f.res, .func (.func (ordF f)) #[] #[]], .agg #[.int .i64 cls, .bool a.g, .slice a.p a.xs.length a.c, .int .i64 a.e]] W (f0u W W.heap.size (numD f a))) := by
  intro W h1 h2 h3 h4
  obtain ⟨k1, k2⟩ := i0p ha.lt h1
  have hc := ha.cap
  have := h1z f a.g (val B32 a.xs) a.e cls a.p a.c W (by rw [← k1]; exact h2) (by rw [← k1]; exact hc) (by rw [← k1]; omega) ⟨by omega, by omega⟩ h4
  rw [← k1] at this
  exact hi0 this
 have hB : Bare (numD f a) := f0r _
 have hbd := fun h h2 => i1b (f := f) ha h h2
 have hkp := c1z hB (c0c G.g)
 have hxl : 0 < a.xs.length ↔ a.xs.length ≠ 0 := by omega
 have hm0 : b0o a.xs = 0 → a.xs.length ≠ 0 → (numD f a).m ≠ 0 := fun h1 h2 h3 => by
  obtain ⟨k1, _⟩ := i0p ha.lt h1
  have h4 : val B32 a.xs ≠ 0 := fun h => h2 (by rw [k1]; exact (a0d a0a _).2 h)
  unfold numD bare at h3
  rw [if_neg h4] at h3
  simp only at h3
  have := (c0h (val B32 a.xs) (by omega)).2
  rw [h3] at this
  simp at this
 have hige := fun h => d1a (a := numD f a) G.g hB h
 have z2 := G.e2
 have z3 := G.f2
 have z4 := G.f1
 have hsh := p0e (E := f.E) (by omega)
 have h0T : 0 < 2 ^ f.E := Nat.pow_pos (by omega)
 have h0T2 : 2 ^ f.E ≤ 2 ^ 15 := Nat.pow_le_pow_right (by omega) (by omega)
 have HSH := hi0 hsh
 have hlen := ha.len
 have hhid : f.inf = true → (f.hid = true ↔ f.ext = false) := fun h => by
  have h1 : f.fam = 1 := by unfold Fm.inf at h; simpa using h
  unfold Fm.hid
  rw [h1]
  cases f.ext <;> simp
 have rd := ha.rd
 unfold o0c
 obtain ⟨d, hD⟩ : ∃ d, numD f a = d := ⟨_, rfl⟩
 rw [hD] at HR hB hbd hkp hm0 hige ⊢
 have e1 : f.encP 1 a.g d = ⟨a.g, 0, 0⟩ := rfl
 have e2 : f.encP 2 a.g d = f.numP d := rfl
 have e3 : f.encP 3 a.g d = ⟨a.g, 2 ^ f.E - 1, if f.ext then 2 ^ 63 else 0⟩ := rfl
 have e4 : f.encP 4 a.g d = ⟨a.g, 2 ^ f.E - 1, if f.ext then 2 ^ 63 + 2 ^ 62 else 2 ^ (f.F - 1)⟩ := rfl
 have e5 : f.encP 5 a.g d = ⟨true, 0, 0⟩ := rfl
 have hF1 : 2 ^ (f.F - 1) < 2 ^ f.F := Nat.pow_lt_pow_right (by omega) (by omega)
 have hF0 : 0 < 2 ^ f.F := Nat.pow_pos (by omega)
 have hx64 : f.ext = true → 2 ^ f.F = 2 ^ 64 := fun h => by rw [(G.ext h).2.1]
 have hext : f.inf = true → f.hid = false → f.ext = true := fun h1 h2 => by
  cases hx : f.ext with
  | true => rfl
  | false => have := (hhid h1).2 hx; rw [h2] at this; cases this
 have hJ := fun (W : World) (g : Bool) (E : Int) (e x : Nat) (hE : E = e) (p : Option Addr) (c : Nat) h h1 h2 => hi0 (p0r f g E e x hE p c W G h h1 h2)
 have hJ0 := fun (W : World) (g : Bool) (E : Int) (e : Nat) (hE : E = e) h1 => hi0 (e1e f g E e hE W G h1)
 have h63 : (dig B32 (2 ^ 63)).length ≤ 2 := a0q (n := 64) (by omega) (by omega)
 have h62 : (dig B32 (2 ^ 62)).length ≤ 2 := a0q (n := 64) (by omega) (by omega)
 generalize 2 ^ f.E = P at *
 clear hsh ha
 have I := Inv.start w [rdF .u32 a.p a.xs, tabF] ⟨rd, hT, True.intro⟩
 refine a0f [.v (.int .i64 n), .v (.agg #[.int .i64 cls, .bool a.g, .slice a.p a.xs.length a.c, .int .i64 a.e])] I Tryz.func42 ?_
 refine zq I (fun Al W I => (HF W).out) fun Al W I => ?_
 rcases Bool.eq_false_or_eq_true (decide (cls < 1)) with f21 | f21
 · refine zb I 21 (decide (cls < 1)) (true) (f21) fun Al W I => ?_
   have hE : a0k f cls a = 6 := by unfold a0k; rw [if_pos (by first | (have := oTr f21; omega) | (have := oTr f25; omega))]
   have hN : (6 : Int) ≠ 0 := by decide
   exact zret I fun Al W I => a0l hE hN rfl I.below
 refine zb I 21 (decide (cls < 1)) (false) (f21) fun Al W I => ?_
 rcases Bool.eq_false_or_eq_true (decide (cls > 5)) with f25 | f25
 · refine zb I 25 (decide (cls > 5)) (true) (f25) fun Al W I => ?_
   have hE : a0k f cls a = 6 := by unfold a0k; rw [if_pos (by first | (have := oTr f21; omega) | (have := oTr f25; omega))]
   have hN : (6 : Int) ≠ 0 := by decide
   exact zret I fun Al W I => a0l hE hN rfl I.below
 refine zb I 25 (decide (cls > 5)) (false) (f25) fun Al W I => ?_
 have c1 : ¬ (cls < 1 ∨ 5 < cls) := by have := oFa f21; have := oFa f25; omega
 refine zq I (fun Al W I => o0t a.p _ a.c a.xs W I.fa.1 rfl hlen) fun Al W I => ?_
 rcases Bool.eq_false_or_eq_true ((b0o a.xs) != 0) with f31 | f31
 · refine zb I 31 ((b0o a.xs) != 0) (true) (f31) fun Al W I => ?_
   have hN : b0o a.xs ≠ 0 := bne_iff_ne.1 f31
   have hE : a0k f cls a = b0o a.xs := by unfold a0k; rw [if_neg c1, if_pos hN]
   exact zret I fun Al W I => a0l hE hN rfl I.below
 refine zb I 31 ((b0o a.xs) != 0) (false) (f31) fun Al W I => ?_
 have c2 : b0o a.xs = 0 := by simpa using f31
 rcases Bool.eq_false_or_eq_true (cls == 3) with f35 | f35
 · refine zb I 35 (cls == 3) (true) (f35) fun Al W I => ?_
   rcases Bool.eq_false_or_eq_true (f.inf) with f43 | f43
   · refine zb I 43 (f.inf) (true) (f43) fun Al W I => ?_
     refine zb I 49 (cls == 5) (false) (bFn (by have := beq_iff_eq.1 f35; omega)) fun Al W I => ?_
     have c3 : ¬ (((cls = 3 ∨ cls = 4) ∧ f.inf = false) ∨ (cls = 5 ∧ f.res = false)) := fun h => by rcases h with ⟨h, k⟩ | ⟨h, k⟩ <;> first | (rw [f43] at k; cases k; done) | (rw [f52] at k; cases k; done) | (have q := beq_iff_eq.1 f35; omega) | (have q := beq_iff_eq.1 f39; omega) | (have q := bnF f35; have q2 := bnF f39; omega) | (have q := bnF f49; omega)
     refine zb I 58 (cls == 2) (false) (bFn (by have := beq_iff_eq.1 f35; omega)) fun Al W I => ?_
     have c58 : cls ≠ 2 := by first | (have := beq_iff_eq.1 f35; omega) | (have := beq_iff_eq.1 f39; omega) | (have := beq_iff_eq.1 f49; omega) | exact bnF f58
     rcases Bool.eq_false_or_eq_true (decide ((a.xs.length : Int) > 0)) with f88 | f88
     · refine zb I 88 (decide ((a.xs.length : Int) > 0)) (true) (f88) fun Al W I => ?_
       have hE : a0k f cls a = 4 := by unfold a0k; rw [if_neg c1, if_neg (by omega), if_neg c3, if_neg c58, if_pos (by first | (have := oTr f88; omega) | exact .inr (.inl (bne_iff_ne.1 f92)) | exact .inr (.inr ⟨f96, .inr f103⟩) | exact .inr (.inr ⟨f96, .inl (by first | (have := beq_iff_eq.1 f39; omega) | (have := beq_iff_eq.1 f49; omega))⟩))]
       have hN : (4 : Int) ≠ 0 := by decide
       exact zret I fun Al W I => a0l hE hN rfl I.below
     refine zb I 88 (decide ((a.xs.length : Int) > 0)) (false) (f88) fun Al W I => ?_
     rcases Bool.eq_false_or_eq_true (a.e != 0) with f92 | f92
     · refine zb I 92 (a.e != 0) (true) (f92) fun Al W I => ?_
       have hE : a0k f cls a = 4 := by unfold a0k; rw [if_neg c1, if_neg (by omega), if_neg c3, if_neg c58, if_pos (by first | (have := oTr f88; omega) | exact .inr (.inl (bne_iff_ne.1 f92)) | exact .inr (.inr ⟨f96, .inr f103⟩) | exact .inr (.inr ⟨f96, .inl (by first | (have := beq_iff_eq.1 f39; omega) | (have := beq_iff_eq.1 f49; omega))⟩))]
       have hN : (4 : Int) ≠ 0 := by decide
       exact zret I fun Al W I => a0l hE hN rfl I.below
     refine zb I 92 (a.e != 0) (false) (f92) fun Al W I => ?_
     rcases Bool.eq_false_or_eq_true (a.g) with f96 | f96
     · refine zb I 96 (a.g) (true) (f96) fun Al W I => ?_
       refine zb I 100 (decide (cls ≥ 4)) (false) (dFa (by have := beq_iff_eq.1 f35; omega)) fun Al W I => ?_
       rcases Bool.eq_false_or_eq_true (f.res) with f103 | f103
       · refine zb I 103 (f.res) (true) (f103) fun Al W I => ?_
         have hE : a0k f cls a = 4 := by unfold a0k; rw [if_neg c1, if_neg (by omega), if_neg c3, if_neg c58, if_pos (by first | (have := oTr f88; omega) | exact .inr (.inl (bne_iff_ne.1 f92)) | exact .inr (.inr ⟨f96, .inr f103⟩) | exact .inr (.inr ⟨f96, .inl (by first | (have := beq_iff_eq.1 f39; omega) | (have := beq_iff_eq.1 f49; omega))⟩))]
         have hN : (4 : Int) ≠ 0 := by decide
         exact zret I fun Al W I => a0l hE hN rfl I.below
       refine zb I 103 (f.res) (false) (f103) fun Al W I => ?_
       have hE : a0k f cls a = 0 := by unfold a0k; rw [if_neg c1, if_neg (by omega), if_neg c3, if_neg c58, if_neg (fun h => by rcases h with h | h | ⟨h, k⟩ <;> first | (have := oFa f88; omega) | (rw [show (a.e != 0) = true from bne_iff_ne.2 h] at f92; cases f92; done) | (rw [f96] at h; cases h; done) | (rcases k with k | k <;> first | (have := beq_iff_eq.1 f35; omega) | (have := bnF f49; have := bnF f35; have := bnF f39; omega) | (rw [f103] at k; cases k; done)))]
       refine zbin I 109 _ (fun _ _ _ _ _ => c0i .i64 (1) .i64 (f.E : Int) ((P : Int)) (by omega) ((HSH.out))) fun Al W I => ?_
       refine zi I 110 .i64 ((P : Int) - 1) (((P - 1 : Nat) : Int)) ((by rw [show ((P : Int) - 1) = ((P - 1 : Nat) : Int) by omega]; exact iwo)) fun Al W I => ?_
       refine zb I 117 (cls == 3) (true) (f35) fun Al W I => ?_
       rcases Bool.eq_false_or_eq_true (f.hid) with f121 | f121
       · refine zb I 121 (f.hid) (true) (f121) fun Al W I => ?_
         refine zg I (fun Al W I => have hzW := I.bel.size; (hJ0 W a.g ((P - 1 : Nat) : Int) (P - 1) rfl (by omega)).out) fun Al V Iv _ hB _ kz => ?_
         rintro _ W ⟨rfl, hb⟩
         have hS : b0q (f.strP (f.encP cls.toNat a.g d)) = b0q (f.str a.g (P - 1) 0) := by rw [show cls.toNat = 3 by have := beq_iff_eq.1 f35; omega, e3, if_neg (by rw [(hhid f43).1 f121]; simp)]; rfl
         refine ⟨_, rfl, kz _ _ hb fun I => ?_⟩
         exact zret I fun Al W I => c0w hE hS rfl I.below
       refine zb I 121 (f.hid) (false) (f121) fun Al W I => ?_
       refine zqo I (fun Al W I => have hzW := I.bel.size; f0o 63 (2 ^ 63) 63 W (by omega) rfl rfl) fun Al W p123 c123 I => ?_
       refine zg I (fun Al W I => have hzW := I.bel.size; (hJ W a.g ((P - 1 : Nat) : Int) (P - 1) (2 ^ 63) rfl p123 c123 I.fa.1.rd (by omega) (by rw [hx64 (hext f43 f121)]; omega)).out) fun Al V Iv _ hB _ kz => ?_
       rintro _ W ⟨rfl, hb⟩
       have hS : b0q (f.strP (f.encP cls.toNat a.g d)) = b0q (f.str a.g (P - 1) (2 ^ 63)) := by rw [show cls.toNat = 3 by have := beq_iff_eq.1 f35; omega, e3, if_pos (hext f43 f121)]; rfl
       refine ⟨_, rfl, kz _ _ hb fun I => ?_⟩
       exact zret I fun Al W I => c0w hE hS rfl I.below
     refine zb I 96 (a.g) (false) (f96) fun Al W I => ?_
     have hE : a0k f cls a = 0 := by unfold a0k; rw [if_neg c1, if_neg (by omega), if_neg c3, if_neg c58, if_neg (fun h => by rcases h with h | h | ⟨h, k⟩ <;> first | (have := oFa f88; omega) | (rw [show (a.e != 0) = true from bne_iff_ne.2 h] at f92; cases f92; done) | (rw [f96] at h; cases h; done) | (rcases k with k | k <;> first | (have := beq_iff_eq.1 f35; omega) | (have := bnF f49; have := bnF f35; have := bnF f39; omega) | (rw [f103] at k; cases k; done)))]
     refine zbin I 109 _ (fun _ _ _ _ _ => c0i .i64 (1) .i64 (f.E : Int) ((P : Int)) (by omega) ((HSH.out))) fun Al W I => ?_
     refine zi I 110 .i64 ((P : Int) - 1) (((P - 1 : Nat) : Int)) ((by rw [show ((P : Int) - 1) = ((P - 1 : Nat) : Int) by omega]; exact iwo)) fun Al W I => ?_
     refine zb I 117 (cls == 3) (true) (f35) fun Al W I => ?_
     rcases Bool.eq_false_or_eq_true (f.hid) with f121 | f121
     · refine zb I 121 (f.hid) (true) (f121) fun Al W I => ?_
       refine zg I (fun Al W I => have hzW := I.bel.size; (hJ0 W a.g ((P - 1 : Nat) : Int) (P - 1) rfl (by omega)).out) fun Al V Iv _ hB _ kz => ?_
       rintro _ W ⟨rfl, hb⟩
       have hS : b0q (f.strP (f.encP cls.toNat a.g d)) = b0q (f.str a.g (P - 1) 0) := by rw [show cls.toNat = 3 by have := beq_iff_eq.1 f35; omega, e3, if_neg (by rw [(hhid f43).1 f121]; simp)]; rfl
       refine ⟨_, rfl, kz _ _ hb fun I => ?_⟩
       exact zret I fun Al W I => c0w hE hS rfl I.below
     refine zb I 121 (f.hid) (false) (f121) fun Al W I => ?_
     refine zqo I (fun Al W I => have hzW := I.bel.size; f0o 63 (2 ^ 63) 63 W (by omega) rfl rfl) fun Al W p123 c123 I => ?_
     refine zg I (fun Al W I => have hzW := I.bel.size; (hJ W a.g ((P - 1 : Nat) : Int) (P - 1) (2 ^ 63) rfl p123 c123 I.fa.1.rd (by omega) (by rw [hx64 (hext f43 f121)]; omega)).out) fun Al V Iv _ hB _ kz => ?_
     rintro _ W ⟨rfl, hb⟩
     have hS : b0q (f.strP (f.encP cls.toNat a.g d)) = b0q (f.str a.g (P - 1) (2 ^ 63)) := by rw [show cls.toNat = 3 by have := beq_iff_eq.1 f35; omega, e3, if_pos (hext f43 f121)]; rfl
     refine ⟨_, rfl, kz _ _ hb fun I => ?_⟩
     exact zret I fun Al W I => c0w hE hS rfl I.below
   refine zb I 43 (f.inf) (false) (f43) fun Al W I => ?_
   have hE : a0k f cls a = 5 := by unfold a0k; rw [if_neg c1, if_neg (by omega), if_pos (by first | exact .inl ⟨.inl (beq_iff_eq.1 f35), f43⟩ | exact .inl ⟨.inr (beq_iff_eq.1 f39), f43⟩ | exact .inr ⟨beq_iff_eq.1 f49, f52⟩)]
   have hN : (5 : Int) ≠ 0 := by decide
   exact zret I fun Al W I => a0l hE hN rfl I.below
 refine zb I 35 (cls == 3) (false) (f35) fun Al W I => ?_
 rcases Bool.eq_false_or_eq_true (cls == 4) with f39 | f39
 · refine zb I 39 (cls == 4) (true) (f39) fun Al W I => ?_
   rcases Bool.eq_false_or_eq_true (f.inf) with f43 | f43
   · refine zb I 43 (f.inf) (true) (f43) fun Al W I => ?_
     refine zb I 49 (cls == 5) (false) (bFn (by have := beq_iff_eq.1 f39; omega)) fun Al W I => ?_
     have c3 : ¬ (((cls = 3 ∨ cls = 4) ∧ f.inf = false) ∨ (cls = 5 ∧ f.res = false)) := fun h => by rcases h with ⟨h, k⟩ | ⟨h, k⟩ <;> first | (rw [f43] at k; cases k; done) | (rw [f52] at k; cases k; done) | (have q := beq_iff_eq.1 f35; omega) | (have q := beq_iff_eq.1 f39; omega) | (have q := bnF f35; have q2 := bnF f39; omega) | (have q := bnF f49; omega)
     refine zb I 58 (cls == 2) (false) (bFn (by have := beq_iff_eq.1 f39; omega)) fun Al W I => ?_
     have c58 : cls ≠ 2 := by first | (have := beq_iff_eq.1 f35; omega) | (have := beq_iff_eq.1 f39; omega) | (have := beq_iff_eq.1 f49; omega) | exact bnF f58
     rcases Bool.eq_false_or_eq_true (decide ((a.xs.length : Int) > 0)) with f88 | f88
     · refine zb I 88 (decide ((a.xs.length : Int) > 0)) (true) (f88) fun Al W I => ?_
       have hE : a0k f cls a = 4 := by unfold a0k; rw [if_neg c1, if_neg (by omega), if_neg c3, if_neg c58, if_pos (by first | (have := oTr f88; omega) | exact .inr (.inl (bne_iff_ne.1 f92)) | exact .inr (.inr ⟨f96, .inr f103⟩) | exact .inr (.inr ⟨f96, .inl (by first | (have := beq_iff_eq.1 f39; omega) | (have := beq_iff_eq.1 f49; omega))⟩))]
       have hN : (4 : Int) ≠ 0 := by decide
       exact zret I fun Al W I => a0l hE hN rfl I.below
     refine zb I 88 (decide ((a.xs.length : Int) > 0)) (false) (f88) fun Al W I => ?_
     rcases Bool.eq_false_or_eq_true (a.e != 0) with f92 | f92
     · refine zb I 92 (a.e != 0) (true) (f92) fun Al W I => ?_
       have hE : a0k f cls a = 4 := by unfold a0k; rw [if_neg c1, if_neg (by omega), if_neg c3, if_neg c58, if_pos (by first | (have := oTr f88; omega) | exact .inr (.inl (bne_iff_ne.1 f92)) | exact .inr (.inr ⟨f96, .inr f103⟩) | exact .inr (.inr ⟨f96, .inl (by first | (have := beq_iff_eq.1 f39; omega) | (have := beq_iff_eq.1 f49; omega))⟩))]
       have hN : (4 : Int) ≠ 0 := by decide
       exact zret I fun Al W I => a0l hE hN rfl I.below
     refine zb I 92 (a.e != 0) (false) (f92) fun Al W I => ?_
     rcases Bool.eq_false_or_eq_true (a.g) with f96 | f96
     · refine zb I 96 (a.g) (true) (f96) fun Al W I => ?_
       refine zb I 100 (decide (cls ≥ 4)) (true) (dTr (by have := beq_iff_eq.1 f39; omega)) fun Al W I => ?_
       have hE : a0k f cls a = 4 := by unfold a0k; rw [if_neg c1, if_neg (by omega), if_neg c3, if_neg c58, if_pos (by first | (have := oTr f88; omega) | exact .inr (.inl (bne_iff_ne.1 f92)) | exact .inr (.inr ⟨f96, .inr f103⟩) | exact .inr (.inr ⟨f96, .inl (by first | (have := beq_iff_eq.1 f39; omega) | (have := beq_iff_eq.1 f49; omega))⟩))]
       have hN : (4 : Int) ≠ 0 := by decide
       exact zret I fun Al W I => a0l hE hN rfl I.below
     refine zb I 96 (a.g) (false) (f96) fun Al W I => ?_
     have hE : a0k f cls a = 0 := by unfold a0k; rw [if_neg c1, if_neg (by omega), if_neg c3, if_neg c58, if_neg (fun h => by rcases h with h | h | ⟨h, k⟩ <;> first | (have := oFa f88; omega) | (rw [show (a.e != 0) = true from bne_iff_ne.2 h] at f92; cases f92; done) | (rw [f96] at h; cases h; done) | (rcases k with k | k <;> first | (have := beq_iff_eq.1 f35; omega) | (have := bnF f49; have := bnF f35; have := bnF f39; omega) | (rw [f103] at k; cases k; done)))]
     refine zbin I 109 _ (fun _ _ _ _ _ => c0i .i64 (1) .i64 (f.E : Int) ((P : Int)) (by omega) ((HSH.out))) fun Al W I => ?_
     refine zi I 110 .i64 ((P : Int) - 1) (((P - 1 : Nat) : Int)) ((by rw [show ((P : Int) - 1) = ((P - 1 : Nat) : Int) by omega]; exact iwo)) fun Al W I => ?_
     refine zb I 117 (cls == 3) (false) (f35) fun Al W I => ?_
     refine zb I 126 (cls == 4) (true) (f39) fun Al W I => ?_
     refine zi I 130 .i64 ((f.F : Int) - 1) (((f.F - 1 : Nat) : Int)) ((by rw [show ((f.F : Int) - 1) = ((f.F - 1 : Nat) : Int) by omega]; exact iwo)) fun Al W I => ?_
     refine zqo I (fun Al W I => have hzW := I.bel.size; f0o (f.F - 1) (2 ^ (f.F - 1)) _ W (by omega) rfl rfl) fun Al W p131 c131 I => ?_
     rcases Bool.eq_false_or_eq_true (f.hid) with f135 | f135
     · refine zb I 135 (f.hid) (true) (f135) fun Al W I => ?_
       refine zg I (fun Al W I => have hzW := I.bel.size; (hJ W a.g ((P - 1 : Nat) : Int) (P - 1) (2 ^ (f.F - 1)) rfl p131 c131 I.fa.1.rd (by omega) hF1).out) fun Al V Iv _ hB _ kz => ?_
       rintro _ W ⟨rfl, hb⟩
       have hS : b0q (f.strP (f.encP cls.toNat a.g d)) = b0q (f.str a.g (P - 1) (2 ^ (f.F - 1))) := by rw [show cls.toNat = 4 by have := beq_iff_eq.1 f39; omega, e4, if_neg (by rw [(hhid f43).1 f135]; simp)]; rfl
       refine ⟨_, rfl, kz _ _ hb fun I => ?_⟩
       exact zret I fun Al W I => c0w hE hS rfl I.below
     refine zb I 135 (f.hid) (false) (f135) fun Al W I => ?_
     refine zqo I (fun Al W I => have hzW := I.bel.size; f0o 63 (2 ^ 63) 63 W (by omega) rfl rfl) fun Al W p137 c137 I => ?_
     refine zqo I (fun Al W I => have hzW := I.bel.size; f0o 62 (2 ^ 62) 62 W (by omega) rfl rfl) fun Al W p138 c138 I => ?_
     refine zqo I (fun Al W I => have hzW := I.bel.size; sadd p137 p138 _ _ c137 c138 (2 ^ 63) (2 ^ 62) (2 ^ 63 + 2 ^ 62) W I.fa.2.1.rd I.fa.1.rd rfl rfl (by omega) (by omega) rfl) fun Al W p139 c139 I => ?_
     refine zg I (fun Al W I => have hzW := I.bel.size; (hJ W a.g ((P - 1 : Nat) : Int) (P - 1) (2 ^ 63 + 2 ^ 62) rfl p139 c139 I.fa.1.rd (by omega) (by rw [hx64 (hext f43 f135)]; omega)).out) fun Al V Iv _ hB _ kz => ?_
     rintro _ W ⟨rfl, hb⟩
     have hS : b0q (f.strP (f.encP cls.toNat a.g d)) = b0q (f.str a.g (P - 1) (2 ^ 63 + 2 ^ 62)) := by rw [show cls.toNat = 4 by have := beq_iff_eq.1 f39; omega, e4, if_pos (hext f43 f135)]; rfl
     refine ⟨_, rfl, kz _ _ hb fun I => ?_⟩
     exact zret I fun Al W I => c0w hE hS rfl I.below
   refine zb I 43 (f.inf) (false) (f43) fun Al W I => ?_
   have hE : a0k f cls a = 5 := by unfold a0k; rw [if_neg c1, if_neg (by omega), if_pos (by first | exact .inl ⟨.inl (beq_iff_eq.1 f35), f43⟩ | exact .inl ⟨.inr (beq_iff_eq.1 f39), f43⟩ | exact .inr ⟨beq_iff_eq.1 f49, f52⟩)]
   have hN : (5 : Int) ≠ 0 := by decide
   exact zret I fun Al W I => a0l hE hN rfl I.below
 refine zb I 39 (cls == 4) (false) (f39) fun Al W I => ?_
 rcases Bool.eq_false_or_eq_true (cls == 5) with f49 | f49
 · refine zb I 49 (cls == 5) (true) (f49) fun Al W I => ?_
   rcases Bool.eq_false_or_eq_true (f.res) with f52 | f52
   · refine zb I 52 (f.res) (true) (f52) fun Al W I => ?_
     have c3 : ¬ (((cls = 3 ∨ cls = 4) ∧ f.inf = false) ∨ (cls = 5 ∧ f.res = false)) := fun h => by rcases h with ⟨h, k⟩ | ⟨h, k⟩ <;> first | (rw [f43] at k; cases k; done) | (rw [f52] at k; cases k; done) | (have q := beq_iff_eq.1 f35; omega) | (have q := beq_iff_eq.1 f39; omega) | (have q := bnF f35; have q2 := bnF f39; omega) | (have q := bnF f49; omega)
     refine zb I 58 (cls == 2) (false) (bFn (by have := beq_iff_eq.1 f49; omega)) fun Al W I => ?_
     have c58 : cls ≠ 2 := by first | (have := beq_iff_eq.1 f35; omega) | (have := beq_iff_eq.1 f39; omega) | (have := beq_iff_eq.1 f49; omega) | exact bnF f58
     rcases Bool.eq_false_or_eq_true (decide ((a.xs.length : Int) > 0)) with f88 | f88
     · refine zb I 88 (decide ((a.xs.length : Int) > 0)) (true) (f88) fun Al W I => ?_
       have hE : a0k f cls a = 4 := by unfold a0k; rw [if_neg c1, if_neg (by omega), if_neg c3, if_neg c58, if_pos (by first | (have := oTr f88; omega) | exact .inr (.inl (bne_iff_ne.1 f92)) | exact .inr (.inr ⟨f96, .inr f103⟩) | exact .inr (.inr ⟨f96, .inl (by first | (have := beq_iff_eq.1 f39; omega) | (have := beq_iff_eq.1 f49; omega))⟩))]
       have hN : (4 : Int) ≠ 0 := by decide
       exact zret I fun Al W I => a0l hE hN rfl I.below
     refine zb I 88 (decide ((a.xs.length : Int) > 0)) (false) (f88) fun Al W I => ?_
     rcases Bool.eq_false_or_eq_true (a.e != 0) with f92 | f92
     · refine zb I 92 (a.e != 0) (true) (f92) fun Al W I => ?_
       have hE : a0k f cls a = 4 := by unfold a0k; rw [if_neg c1, if_neg (by omega), if_neg c3, if_neg c58, if_pos (by first | (have := oTr f88; omega) | exact .inr (.inl (bne_iff_ne.1 f92)) | exact .inr (.inr ⟨f96, .inr f103⟩) | exact .inr (.inr ⟨f96, .inl (by first | (have := beq_iff_eq.1 f39; omega) | (have := beq_iff_eq.1 f49; omega))⟩))]
       have hN : (4 : Int) ≠ 0 := by decide
       exact zret I fun Al W I => a0l hE hN rfl I.below
     refine zb I 92 (a.e != 0) (false) (f92) fun Al W I => ?_
     rcases Bool.eq_false_or_eq_true (a.g) with f96 | f96
     · refine zb I 96 (a.g) (true) (f96) fun Al W I => ?_
       refine zb I 100 (decide (cls ≥ 4)) (true) (dTr (by have := beq_iff_eq.1 f49; omega)) fun Al W I => ?_
       have hE : a0k f cls a = 4 := by unfold a0k; rw [if_neg c1, if_neg (by omega), if_neg c3, if_neg c58, if_pos (by first | (have := oTr f88; omega) | exact .inr (.inl (bne_iff_ne.1 f92)) | exact .inr (.inr ⟨f96, .inr f103⟩) | exact .inr (.inr ⟨f96, .inl (by first | (have := beq_iff_eq.1 f39; omega) | (have := beq_iff_eq.1 f49; omega))⟩))]
       have hN : (4 : Int) ≠ 0 := by decide
       exact zret I fun Al W I => a0l hE hN rfl I.below
     refine zb I 96 (a.g) (false) (f96) fun Al W I => ?_
     have hE : a0k f cls a = 0 := by unfold a0k; rw [if_neg c1, if_neg (by omega), if_neg c3, if_neg c58, if_neg (fun h => by rcases h with h | h | ⟨h, k⟩ <;> first | (have := oFa f88; omega) | (rw [show (a.e != 0) = true from bne_iff_ne.2 h] at f92; cases f92; done) | (rw [f96] at h; cases h; done) | (rcases k with k | k <;> first | (have := beq_iff_eq.1 f35; omega) | (have := bnF f49; have := bnF f35; have := bnF f39; omega) | (rw [f103] at k; cases k; done)))]
     refine zbin I 109 _ (fun _ _ _ _ _ => c0i .i64 (1) .i64 (f.E : Int) ((P : Int)) (by omega) ((HSH.out))) fun Al W I => ?_
     refine zi I 110 .i64 ((P : Int) - 1) (((P - 1 : Nat) : Int)) ((by rw [show ((P : Int) - 1) = ((P - 1 : Nat) : Int) by omega]; exact iwo)) fun Al W I => ?_
     refine zb I 117 (cls == 3) (false) (f35) fun Al W I => ?_
     refine zb I 126 (cls == 4) (false) (f39) fun Al W I => ?_
     refine zb I 142 (cls == 5) (true) (f49) fun Al W I => ?_
     refine zg I (fun Al W I => (hJ0 W true 0 0 rfl h0T).out) fun Al V Iv _ hB _ kz => ?_
     rintro _ W ⟨rfl, hb⟩
     have hS : b0q (f.strP (f.encP cls.toNat a.g d)) = b0q (f.str true 0 0) := by rw [show cls.toNat = 5 by have := beq_iff_eq.1 f49; omega, e5]; rfl
     refine ⟨_, rfl, kz _ _ hb fun I => ?_⟩
     exact zret I fun Al W I => c0w hE hS rfl I.below
   refine zb I 52 (f.res) (false) (f52) fun Al W I => ?_
   have hE : a0k f cls a = 5 := by unfold a0k; rw [if_neg c1, if_neg (by omega), if_pos (by first | exact .inl ⟨.inl (beq_iff_eq.1 f35), f43⟩ | exact .inl ⟨.inr (beq_iff_eq.1 f39), f43⟩ | exact .inr ⟨beq_iff_eq.1 f49, f52⟩)]
   have hN : (5 : Int) ≠ 0 := by decide
   exact zret I fun Al W I => a0l hE hN rfl I.below
 refine zb I 49 (cls == 5) (false) (f49) fun Al W I => ?_
 have c3 : ¬ (((cls = 3 ∨ cls = 4) ∧ f.inf = false) ∨ (cls = 5 ∧ f.res = false)) := fun h => by rcases h with ⟨h, k⟩ | ⟨h, k⟩ <;> first | (rw [f43] at k; cases k; done) | (rw [f52] at k; cases k; done) | (have q := beq_iff_eq.1 f35; omega) | (have q := beq_iff_eq.1 f39; omega) | (have q := bnF f35; have q2 := bnF f39; omega) | (have q := bnF f49; omega)
 rcases Bool.eq_false_or_eq_true (cls == 2) with f58 | f58
 · refine zb I 58 (cls == 2) (true) (f58) fun Al W I => ?_
   have c58 : cls = 2 := beq_iff_eq.1 f58
   rcases Bool.eq_false_or_eq_true (decide (a.e < (-20000))) with f61 | f61
   · refine zb I 61 (decide (a.e < (-20000))) (true) (f61) fun Al W I => ?_
     have hE : a0k f cls a = 3 := by unfold a0k; rw [if_neg c1, if_neg (by omega), if_neg c3, if_pos c58, if_pos (by first | (have := oTr f61; omega) | (have := oTr f65; omega))]
     have hN : (3 : Int) ≠ 0 := by decide
     exact zret I fun Al W I => a0l hE hN rfl I.below
   refine zb I 61 (decide (a.e < (-20000))) (false) (f61) fun Al W I => ?_
   rcases Bool.eq_false_or_eq_true (decide (a.e > 20000)) with f65 | f65
   · refine zb I 65 (decide (a.e > 20000)) (true) (f65) fun Al W I => ?_
     have hE : a0k f cls a = 3 := by unfold a0k; rw [if_neg c1, if_neg (by omega), if_neg c3, if_pos c58, if_pos (by first | (have := oTr f61; omega) | (have := oTr f65; omega))]
     have hN : (3 : Int) ≠ 0 := by decide
     exact zret I fun Al W I => a0l hE hN rfl I.below
   refine zb I 65 (decide (a.e > 20000)) (false) (f65) fun Al W I => ?_
   by_cases h70 : a.xs.length = 0
   · by_cases h77 : b0r d f.g = true
     · have c4 : -20000 ≤ a.e ∧ a.e ≤ 20000 := by have := oFa f61; have := oFa f65; omega
       have hb1 := hbd c2 c4
       refine zd [] I fun Al W I => ?_
       refine zk [0, 1, 2] I fun I => ?_
       refine zkb 3 I ((a.xs.length : Int) == 0) (true) (beq_iff_eq.2 (by omega)) fun I => ?_
       refine zk [4, 5, 6, 7, 8, 9, 10, 11, 12] I fun I => ?_
       have hE : a0k f cls a = 4 := by unfold a0k; rw [if_neg c1, if_neg (by omega), if_neg c3, if_pos c58, if_neg (by omega), if_pos (by first | exact .inl h70 | exact .inr (by rw [hD]; simpa using h77))]
       have hN : (4 : Int) ≠ 0 := by decide
       exact zret I fun Al W I => a0l hE hN rfl I.below
     have c4 : -20000 ≤ a.e ∧ a.e ≤ 20000 := by have := oFa f61; have := oFa f65; omega
     have hb1 := hbd c2 c4
     refine zd [] I fun Al W I => ?_
     refine zk [0, 1, 2] I fun I => ?_
     refine zkb 3 I ((a.xs.length : Int) == 0) (true) (beq_iff_eq.2 (by omega)) fun I => ?_
     refine zk [4, 5, 6, 7, 8, 9, 10, 11, 12] I fun I => ?_
     have hE : a0k f cls a = 4 := by unfold a0k; rw [if_neg c1, if_neg (by omega), if_neg c3, if_pos c58, if_neg (by omega), if_pos (by first | exact .inl h70 | exact .inr (by rw [hD]; simpa using h77))]
     have hN : (4 : Int) ≠ 0 := by decide
     exact zret I fun Al W I => a0l hE hN rfl I.below
   by_cases h77 : b0r d f.g = true
   · have c4 : -20000 ≤ a.e ∧ a.e ≤ 20000 := by have := oFa f61; have := oFa f65; omega
     have hb1 := hbd c2 c4
     refine zd [] I fun Al W I => ?_
     refine zk [0, 1, 2] I fun I => ?_
     refine zkb 3 I ((a.xs.length : Int) == 0) (false) (bFn (by omega)) fun I => ?_
     refine zk [4, 5, 6, 8, 9] I fun I => ?_
     refine zo 7 I fun I => ?_
     refine zqo I (fun Al W I => (HR W c2 I.fa.1 c4 I.fa.2.1).out) fun Al W p74 c74 I => ?_
     refine zo 10 I fun I => ?_
     refine zqd I (fun Al W I => have hzW := I.bel.size; o0b d.neg p74 c74 d.e d.m f.g W I.fa.1.rd (by omega) (by omega) (c0c G.g)) (show (j0b ⟨d.neg, d.m, d.e⟩ f.g) = true from hkp.trans h77) fun Al W I => ?_
     refine zk [11, 12] I fun I => ?_
     have hi := hige h77
     refine zd [] I fun Al W I => ?_
     refine zk [0, 1, 2] I fun I => ?_
     refine zo 3 I fun I => ?_
     refine zqo I (fun Al W I => (HR W c2 I.fa.2.1 c4 I.fa.2.2.1).out) fun Al W p83 c83 I => ?_
     refine zo 4 I fun I => ?_
     refine zq I (fun Al W I => have hzW := I.bel.size; w0x f d p83 c83 W G I.fa.1.rd hb1.1 (by omega) h77 (hm0 c2 h70)) fun Al W I => ?_
     refine zk [5, 6] I fun I => ?_
     have hE : a0k f cls a = 0 := by unfold a0k; rw [if_neg c1, if_neg (by omega), if_neg c3, if_pos c58, if_neg (by omega), if_neg (fun h => by rcases h with h | h <;> first | exact h70 h | (rw [hD, h77] at h; cases h; done))]
     exact zret I (v := fun Al => .tuple #[.string (b0q (f.strP (f.numP d))), .int .i64 0]) fun Al W I => c0w hE (by rw [show cls.toNat = 2 by omega, e2]) rfl I.below
   have c4 : -20000 ≤ a.e ∧ a.e ≤ 20000 := by have := oFa f61; have := oFa f65; omega
   have hb1 := hbd c2 c4
   refine zd [] I fun Al W I => ?_
   refine zk [0, 1, 2] I fun I => ?_
   refine zkb 3 I ((a.xs.length : Int) == 0) (false) (bFn (by omega)) fun I => ?_
   refine zk [4, 5, 6, 8, 9] I fun I => ?_
   refine zo 7 I fun I => ?_
   refine zqo I (fun Al W I => (HR W c2 I.fa.1 c4 I.fa.2.1).out) fun Al W p74 c74 I => ?_
   refine zo 10 I fun I => ?_
   refine zqd I (fun Al W I => have hzW := I.bel.size; o0b d.neg p74 c74 d.e d.m f.g W I.fa.1.rd (by omega) (by omega) (c0c G.g)) (show (j0b ⟨d.neg, d.m, d.e⟩ f.g) = false from hkp.trans (by simpa using h77)) fun Al W I => ?_
   refine zk [11, 12] I fun I => ?_
   have hE : a0k f cls a = 4 := by unfold a0k; rw [if_neg c1, if_neg (by omega), if_neg c3, if_pos c58, if_neg (by omega), if_pos (by first | exact .inl h70 | exact .inr (by rw [hD]; simpa using h77))]
   have hN : (4 : Int) ≠ 0 := by decide
   exact zret I fun Al W I => a0l hE hN rfl I.below
 refine zb I 58 (cls == 2) (false) (f58) fun Al W I => ?_
 have c58 : cls ≠ 2 := by first | (have := beq_iff_eq.1 f35; omega) | (have := beq_iff_eq.1 f39; omega) | (have := beq_iff_eq.1 f49; omega) | exact bnF f58
 rcases Bool.eq_false_or_eq_true (decide ((a.xs.length : Int) > 0)) with f88 | f88
 · refine zb I 88 (decide ((a.xs.length : Int) > 0)) (true) (f88) fun Al W I => ?_
   have hE : a0k f cls a = 4 := by unfold a0k; rw [if_neg c1, if_neg (by omega), if_neg c3, if_neg c58, if_pos (by first | (have := oTr f88; omega) | exact .inr (.inl (bne_iff_ne.1 f92)) | exact .inr (.inr ⟨f96, .inr f103⟩) | exact .inr (.inr ⟨f96, .inl (by first | (have := beq_iff_eq.1 f39; omega) | (have := beq_iff_eq.1 f49; omega))⟩))]
   have hN : (4 : Int) ≠ 0 := by decide
   exact zret I fun Al W I => a0l hE hN rfl I.below
 refine zb I 88 (decide ((a.xs.length : Int) > 0)) (false) (f88) fun Al W I => ?_
 rcases Bool.eq_false_or_eq_true (a.e != 0) with f92 | f92
 · refine zb I 92 (a.e != 0) (true) (f92) fun Al W I => ?_
   have hE : a0k f cls a = 4 := by unfold a0k; rw [if_neg c1, if_neg (by omega), if_neg c3, if_neg c58, if_pos (by first | (have := oTr f88; omega) | exact .inr (.inl (bne_iff_ne.1 f92)) | exact .inr (.inr ⟨f96, .inr f103⟩) | exact .inr (.inr ⟨f96, .inl (by first | (have := beq_iff_eq.1 f39; omega) | (have := beq_iff_eq.1 f49; omega))⟩))]
   have hN : (4 : Int) ≠ 0 := by decide
   exact zret I fun Al W I => a0l hE hN rfl I.below
 refine zb I 92 (a.e != 0) (false) (f92) fun Al W I => ?_
 rcases Bool.eq_false_or_eq_true (a.g) with f96 | f96
 · refine zb I 96 (a.g) (true) (f96) fun Al W I => ?_
   refine zb I 100 (decide (cls ≥ 4)) (false) (dFa (by have := bnF f49; have := bnF f35; have := bnF f39; omega)) fun Al W I => ?_
   rcases Bool.eq_false_or_eq_true (f.res) with f103 | f103
   · refine zb I 103 (f.res) (true) (f103) fun Al W I => ?_
     have hE : a0k f cls a = 4 := by unfold a0k; rw [if_neg c1, if_neg (by omega), if_neg c3, if_neg c58, if_pos (by first | (have := oTr f88; omega) | exact .inr (.inl (bne_iff_ne.1 f92)) | exact .inr (.inr ⟨f96, .inr f103⟩) | exact .inr (.inr ⟨f96, .inl (by first | (have := beq_iff_eq.1 f39; omega) | (have := beq_iff_eq.1 f49; omega))⟩))]
     have hN : (4 : Int) ≠ 0 := by decide
     exact zret I fun Al W I => a0l hE hN rfl I.below
   refine zb I 103 (f.res) (false) (f103) fun Al W I => ?_
   have hE : a0k f cls a = 0 := by unfold a0k; rw [if_neg c1, if_neg (by omega), if_neg c3, if_neg c58, if_neg (fun h => by rcases h with h | h | ⟨h, k⟩ <;> first | (have := oFa f88; omega) | (rw [show (a.e != 0) = true from bne_iff_ne.2 h] at f92; cases f92; done) | (rw [f96] at h; cases h; done) | (rcases k with k | k <;> first | (have := beq_iff_eq.1 f35; omega) | (have := bnF f49; have := bnF f35; have := bnF f39; omega) | (rw [f103] at k; cases k; done)))]
   refine zbin I 109 _ (fun _ _ _ _ _ => c0i .i64 (1) .i64 (f.E : Int) ((P : Int)) (by omega) ((HSH.out))) fun Al W I => ?_
   refine zi I 110 .i64 ((P : Int) - 1) (((P - 1 : Nat) : Int)) ((by rw [show ((P : Int) - 1) = ((P - 1 : Nat) : Int) by omega]; exact iwo)) fun Al W I => ?_
   refine zb I 117 (cls == 3) (false) (f35) fun Al W I => ?_
   refine zb I 126 (cls == 4) (false) (f39) fun Al W I => ?_
   refine zb I 142 (cls == 5) (false) (f49) fun Al W I => ?_
   refine zg I (fun Al W I => (hJ0 W a.g 0 0 rfl h0T).out) fun Al V Iv _ hB _ kz => ?_
   rintro _ W ⟨rfl, hb⟩
   have hS : b0q (f.strP (f.encP cls.toNat a.g d)) = b0q (f.str a.g 0 0) := by rw [show cls.toNat = 1 by have := bnF f49; have := bnF f35; have := bnF f39; omega, e1]; rfl
   refine ⟨_, rfl, kz _ _ hb fun I => ?_⟩
   exact zret I fun Al W I => c0w hE hS rfl I.below
 refine zb I 96 (a.g) (false) (f96) fun Al W I => ?_
 have hE : a0k f cls a = 0 := by unfold a0k; rw [if_neg c1, if_neg (by omega), if_neg c3, if_neg c58, if_neg (fun h => by rcases h with h | h | ⟨h, k⟩ <;> first | (have := oFa f88; omega) | (rw [show (a.e != 0) = true from bne_iff_ne.2 h] at f92; cases f92; done) | (rw [f96] at h; cases h; done) | (rcases k with k | k <;> first | (have := beq_iff_eq.1 f35; omega) | (have := bnF f49; have := bnF f35; have := bnF f39; omega) | (rw [f103] at k; cases k; done)))]
 refine zbin I 109 _ (fun _ _ _ _ _ => c0i .i64 (1) .i64 (f.E : Int) ((P : Int)) (by omega) ((HSH.out))) fun Al W I => ?_
 refine zi I 110 .i64 ((P : Int) - 1) (((P - 1 : Nat) : Int)) ((by rw [show ((P : Int) - 1) = ((P - 1 : Nat) : Int) by omega]; exact iwo)) fun Al W I => ?_
 refine zb I 117 (cls == 3) (false) (f35) fun Al W I => ?_
 refine zb I 126 (cls == 4) (false) (f39) fun Al W I => ?_
 refine zb I 142 (cls == 5) (false) (f49) fun Al W I => ?_
 refine zg I (fun Al W I => (hJ0 W a.g 0 0 rfl h0T).out) fun Al V Iv _ hB _ kz => ?_
 rintro _ W ⟨rfl, hb⟩
 have hS : b0q (f.strP (f.encP cls.toNat a.g d)) = b0q (f.str a.g 0 0) := by rw [show cls.toNat = 1 by have := bnF f49; have := bnF f35; have := bnF f39; omega, e1]; rfl
 refine ⟨_, rfl, kz _ _ hb fun I => ?_⟩
 exact zret I fun Al W I => c0w hE hS rfl I.below
end Go.Proofs.YtmacohmclpnphaaGreatDoor
namespace Go.Slip
def w0y (N : Nat) (D : List Nat) (i d A : Nat) : Prop := (∀ x ∈ D, x < 10) ∧ d < 10 ^ (4 - i) ∧ N = val 10 D + 10 ^ D.length * (d + 10 ^ (4 - i) * A)
def m0j (N : Nat) (D : List Nat) (A : Nat) : Prop := (∀ x ∈ D, x < 10) ∧ N = val 10 D + 10 ^ D.length * A
theorem m0j.start (N : Nat) : m0j N [] N := ⟨by simp, by simp⟩
theorem m0j.enter {N : Nat} {D : List Nat} {A : Nat} (h : m0j N D A) : w0y N D 0 (A % 10000) (A / 10000) := by
 refine ⟨h.1, Nat.mod_lt _ (by omega), ?_⟩
 rw [h.2]
 congr 2
 have := Nat.mod_add_div A 10000
 show A = A % 10000 + 10000 * (A / 10000)
 omega
theorem w0y.step {N : Nat} {D : List Nat} {i d A : Nat} (h : w0y N D i d A) (hi : i < 4) : w0y N (D ++ [d % 10]) (i + 1) (d / 10) A := by
 obtain ⟨h1, h2, h3⟩ := h
 have e : 4 - i = 4 - (i + 1) + 1 := by omega
 rw [e, Nat.pow_succ] at h2 h3
 refine ⟨fun x hx => ?_, by omega, ?_⟩
 · rcases List.mem_append.1 hx with hx | hx
   · exact h1 x hx
   · simp at hx; omega
 · rw [h3, d0s, List.length_append, List.length_singleton, Nat.pow_succ]
   have := Nat.mod_add_div d 10
   generalize d % 10 = s at *
   generalize d / 10 = q at *
   subst this
   grind
theorem w0y.leave {N : Nat} {D : List Nat} {d A : Nat} (h : w0y N D 4 d A) : m0j N D A := by
 obtain ⟨h1, h2, h3⟩ := h
 have hd : d = 0 := by simpa using h2
 subst hd
 exact ⟨h1, by rw [h3]; simp⟩
theorem m0j.size {N : Nat} {D : List Nat} {A : Nat} (h : m0j N D A) (hA : 0 < A) : D.length ≤ 16 * (dig B16 N).length := by
 have h1 : 10 ^ D.length ≤ N := by
  rw [h.2]
  have := Nat.le_mul_of_pos_right (10 ^ D.length) hA
  omega
 have h2 := (a0e a0b N _).1 (Nat.le_refl _)
 have h3 : B16 ^ (dig B16 N).length = 2 ^ (16 * (dig B16 N).length) := by rw [Nat.pow_mul]; congr 1
 have h4 : 2 ^ D.length ≤ 10 ^ D.length := Nat.pow_le_pow_left (by omega) _
 have h5 : 2 ^ D.length < 2 ^ (16 * (dig B16 N).length) := by rw [← h3]; omega
 exact Nat.le_of_lt ((Nat.pow_lt_pow_iff_right (by omega)).1 h5)
def p0s (L X : List Nat) (ten d0 i d : Nat) : Prop :=
 (∀ x ∈ L, x < B32) ∧ L.length = X.length ∧ (∀ j, i ≤ j → dg L j = dg X j) ∧ val B32 (L.take i) + d * B32 ^ i = val B32 (X.take i) * ten + d0
theorem p0s.start {X : List Nat} (h : ∀ x ∈ X, x < B32) (ten d0 : Nat) : p0s X X ten d0 0 d0 := ⟨h, rfl, fun _ _ => rfl, by simp⟩
theorem p0s.step {L X : List Nat} {ten d0 i d : Nat} (h : p0s L X ten d0 i d) (hi : i < X.length) (t : Nat) (ht : t = dg X i * ten + d) : p0s (L.set i (t % B32)) X ten d0 (i + 1) (t / B32) := by
 obtain ⟨h1, h2, h3, h4⟩ := h
 refine ⟨h0x L h1 i _ (Nat.mod_lt _ b0y), by simpa using h2, fun j hj => ?_, ?_⟩
 · rw [b0l (by omega)]; exact h3 j (by omega)
 · rw [a0h, c0p, b0g (by omega), a0h, Nat.pow_succ]
   have h5 := Nat.div_add_mod t B32
   generalize t / B32 = q at *
   generalize t % B32 = r at *
   have e : B32 ^ i * (B32 * q + r) = B32 ^ i * (dg X i * ten + d) := by rw [h5, ht]
   grind
theorem p0s.done0 {L : List Nat} {ten d0 a : Nat} (h : p0s L (dig B32 a) ten d0 (dig B32 a).length 0) (h1 : 0 < ten) : L = dig B32 (a * ten + d0) := by
 have h4 := h.2.2.2
 rw [List.take_length, a0u a0a, ← h.2.1, List.take_length] at h4
 obtain ⟨m, rfl⟩ : ∃ m, ten = m + 1 := ⟨ten - 1, by omega⟩
 have e : a * (m + 1) + d0 = a + (a * m + d0) := by grind
 rw [e] at h4 ⊢
 exact u0f a0a L a _ h.1 h.2.1 (by omega)
theorem p0s.done1 {L : List Nat} {ten d0 a d : Nat} (h : p0s L (dig B32 a) ten d0 (dig B32 a).length d) (h1 : 0 < d) (h2 : d < B32) : L ++ [d] = dig B32 (a * ten + d0) := by
 have h4 := h.2.2.2
 rw [List.take_length, a0u a0a, ← h.2.1, List.take_length] at h4
 exact u0g a0a L d _ h.1 h1 h2 h4
end Go.Slip
namespace Go.Proofs.YtmacohmclpnphaaGreatDoor
open Go.RowKit Go.Slip
theorem t0t (N : Nat) (w : World) (hN : N ≤ 9223372036854775807) :
 Calls Tryz.prog 70 #[.int .i64 N] w (f0b w .i64 (dig B16 N)) := by
 have hlN : (dig B16 N).length ≤ 4 := (a0e a0b N 4).2 (by unfold B16; omega)
 go_enter Tryz.func70, Tryz.ntmps70
 go_wp2
 go_loopg [0, 3] N (fun g nv ov wr => ∃ (m : Nat) (t : Option Addr) (e : Nat) (O : List Nat), nv = .int .i64 m ∧ ov = .slice t O.length e ∧ m ≤ g ∧ m ≤ 9223372036854775807 ∧ Hid (O ++ dig B16 m = dig B16 N) ∧
     Own wr w.heap.size .i64 3 t e O ∧ Below w.heap.size w wr)
 case atStart => exact ⟨N, none, 0, [], rfl, rfl, Nat.le_refl _, hN, rfl, Own.nil _ _ _ _, Below.refl _ _⟩
 case round =>
  obtain ⟨m, t, e, O, rfl, rfl, hg, hm, HR, hoq, hb⟩ := hrel
  have hOl : O.length ≤ 4 := by have := congrArg List.length HR.out; rw [List.length_append] at this; omega
  by_cases h0 : 0 < m
  · have HS : Hid ((O ++ [m % B16]) ++ dig B16 (m / B16) = dig B16 N) := by
     show _ = _
     rw [← HR.out, d0i a0b h0, List.append_assoc]; rfl
    go_wp2_with (first
      | (refine a0t rfl _ _ rfl tyN _ ?_ rfl ?_; omega; intro p2 w2 ho2 hb2 hz2 hp2)
      | (at_builtin; refine a0v rfl _ _ _ rfl tyN _ _ _ _ _ (hoq.past hb2) rfl _ _ _ _ ho2.rd rfl rfl rfl ?_ ?_ ?_; (simp; omega); (have := hb2.size; have := hb.size; omega); intro p3 c3 w3 ho3 hg3 hb3 hn3))
    have hb4 := hb.trans ((hb2.mono hb.size).trans hb3)
    have e4 : ((m : Int) % 65536).toNat = m % B16 := by unfold B16; omega
    rw [e4] at ho3
    go_roundg (m / 65536)
    case measure => omega
    case rel => exact ⟨m / 65536, p3, c3, _, by go_num, by simp, Nat.le_refl _, by omega, HS, ho3, hb4⟩
  · obtain rfl : m = 0 := by omega
    have HD : Hid (O = dig B16 N) := by show _ = _; rw [← HR.out, a0c, List.append_nil]
    go_wp2
    go_ret
    exact q0q HD.out rfl hoq hb
end Go.Proofs.YtmacohmclpnphaaGreatDoor
