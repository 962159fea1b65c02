/- grid: Round. -/
import Derived.Deep.LoopGhost
import Derived.Lib.Strings
import Derived.Lib.Slices
import Derived.Lib.Small
import Derived.Lib.Walk
import Derived.Lib.BitFns
import Derived.Deep.RegionHeld3
import Derived.Test.YtmacohmclpnphaaGreatDoorZc1
import Derived.Test.YtmacohmclpnphaaGreatDoorZc2
import Derived.Test.YtmacohmclpnphaaGreatDoorZc3
import Derived.Test.YtmacohmclpnphaaGreatDoorZc4
import Derived.Test.YtmacohmclpnphaaGreatDoorZc5
set_option maxHeartbeats 8000000
set_option maxRecDepth 100000
namespace Go.Proofs.YtmacohmclpnphaaGreatDoor
open Go.RowKit Go.Slip
structure Rin where
 g : Bool
 p : Option Addr
 c : Nat
 xs : List Nat
 q : Option Addr
 d : Nat
 ys : List Nat
 e : Int
structure InR (w : World) (a : Rin) : Prop where
 r1 : Rd w .u32 a.p a.xs
 l1 : a.xs.length ≤ 9223372036854775807
 b1 : ∀ x ∈ a.xs, x < B32
 r2 : Rd w .u32 a.q a.ys
 l2 : a.ys.length ≤ 9223372036854775807
 b2 : ∀ x ∈ a.ys, x < B32
theorem InR.past {w w' : World} {a : Rin} (h : InR w a) (hb : Below w.heap.size w w') : InR w' a := ⟨h.r1.past hb, h.l1, h.b1, h.r2.past hb, h.l2, h.b2⟩
theorem c0i (g : Gd) (w : World) :
 Calls Tryz.prog 74 #[.agg #[.int .i64 g.rad, .int .i64 g.digs, .int .i64 g.lo, .int .i64 g.hi, .bool g.grad]] w fun e w' => e = .returned (.int .i64 (wid g : Nat)) ∧ Below w.heap.size w w' := by
 obtain ⟨rad, digs, lo, hi, grad⟩ := g
 simp only
 unfold wid
 simp only
 have hb : Below w.heap.size w (w.alloc (.cells #[.int .i64 rad, .int .i64 digs, .int .i64 lo, .int .i64 hi, .bool grad] 54)) := b0w _ _
 by_cases h : rad = 16
 · subst h
   go_enter Tryz.func74, Tryz.ntmps74
   go_wp2
   go_ret
   exact ⟨by simp, hb⟩
 · have h1 : (rad == 16) = false := bFn h
   rw [if_neg h]
   clear h
   go_enter Tryz.func74, Tryz.ntmps74
   go_wp2
   go_ret
   exact ⟨rfl, hb⟩
theorem u0u (way : Int) (neg odd : Bool) (half : Int) (w : World) (h1 : 1 ≤ way) (h2 : way ≤ 5) :
 Calls Tryz.prog 77 #[.int .i64 way, .bool neg, .bool odd, .int .i64 half] w fun e w' => e = .returned (.bool (f0j way neg odd half)) ∧ w = w' := by
 obtain rfl | rfl | rfl | rfl | rfl : way = 1 ∨ way = 2 ∨ way = 3 ∨ way = 4 ∨ way = 5 := by omega
 · clear h1 h2
   unfold f0j
   simp only [if_true]
   by_cases h : 0 < half
   · go_enter Tryz.func77, Tryz.ntmps77
     go_wp2
     go_ret
     exact ⟨by simp [h], rfl⟩
   · by_cases h0 : half = 0
     · subst h0
       cases odd
       · go_enter Tryz.func77, Tryz.ntmps77
         go_wp2
         go_ret
         exact ⟨rfl, rfl⟩
       · go_enter Tryz.func77, Tryz.ntmps77
         go_wp2
         go_ret
         exact ⟨rfl, rfl⟩
     · have t0 : (half == 0) = false := bFn h0
       have H := hi0 h0
       clear h0
       go_enter Tryz.func77, Tryz.ntmps77
       go_wp2
       go_ret
       exact ⟨by simp [H.out, show ¬ 0 < half from by omega], rfl⟩
 · clear h1 h2
   have e : f0j 2 neg odd half = decide (0 ≤ half) := rfl
   rw [e]
   clear e
   by_cases h : 0 ≤ half
   · go_enter Tryz.func77, Tryz.ntmps77
     go_wp2
     go_ret
     exact ⟨by simp [h], rfl⟩
   · go_enter Tryz.func77, Tryz.ntmps77
     go_wp2
     go_ret
     exact ⟨by simp; omega, rfl⟩
 · clear h1 h2
   have e : f0j 3 neg odd half = false := rfl
   rw [e]
   clear e
   go_enter Tryz.func77, Tryz.ntmps77
   go_wp2
   go_ret
   exact ⟨rfl, rfl⟩
 · clear h1 h2
   have e : f0j 4 neg odd half = !neg := rfl
   rw [e]
   clear e
   go_enter Tryz.func77, Tryz.ntmps77
   go_wp2
   go_ret
   exact ⟨rfl, rfl⟩
 · clear h1 h2
   have e : f0j 5 neg odd half = neg := rfl
   rw [e]
   clear e
   go_enter Tryz.func77, Tryz.ntmps77
   go_wp2
   go_ret
   exact ⟨rfl, rfl⟩
theorem l0h (k : Int) (w : World) :
 Calls Tryz.prog 31 #[.int .i64 k] w fun e w' => e = .returned (.bool (wayB k)) ∧ w = w' := by
 by_cases h1 : 1 ≤ k
 · by_cases h2 : k ≤ 5
   · rw [s0r h1 h2]
     go_enter Tryz.func31, Tryz.ntmps31
     go_wp2
     go_ret
     exact ⟨rfl, rfl⟩
   · rw [o0w (by omega)]
     go_enter Tryz.func31, Tryz.ntmps31
     go_wp2
     go_ret
     exact ⟨rfl, rfl⟩
 · rw [o0w (by omega)]
   go_enter Tryz.func31, Tryz.ntmps31
   go_wp2
   go_ret
   exact ⟨rfl, rfl⟩
theorem j0a (p q : Option Addr) (n m c d : Nat) (a b : Nat) (w : World) (hp : Rd w .i64 p (dig B16 a)) (hq : Rd w .i64 q (dig B16 b)) (hn : n = (dig B16 a).length) (hm : m = (dig B16 b).length)
 (hl : (dig B16 a).length + (dig B16 b).length ≤ 1000000000) :
 Calls Tryz.prog 61 #[.slice p n c, .slice q m d] w (e0j w .i64 (dig B16 (a + b))) := by
 subst hn hm
 have HXL := hi0 (b0f a0e a)
 have HYL := hi0 (b0f a0e b)
 obtain ⟨xs, hxs⟩ : ∃ xs, xs = dig B16 a := ⟨_, rfl⟩
 obtain ⟨ys, hys⟩ : ∃ ys, ys = dig B16 b := ⟨_, rfl⟩
 rw [← hxs] at hp hl HXL ⊢
 rw [← hys] at hq hl HYL ⊢
 have HA := hi0 hxs
 have HB := hi0 hys
 clear hxs hys
 have hsx := hp.solid
 have hsy := hq.solid
 go_enter Tryz.func61, Tryz.ntmps61
 go_wp2
 go_loopg [5, 6, 7] (xs.length + ys.length + 2) (fun g ov cv iv wr => ∃ (i cr : Nat) (t : Option Addr) (e : Nat) (O : List Nat), iv = .int .i64 i ∧ cv = .int .i64 cr ∧ ov = .slice t O.length e ∧ g + i = xs.length + ys.length + 2 ∧ cr ≤ 1 ∧ i ≤ xs.length + ys.length + 1 ∧ Hid (O.length = i) ∧
     Own wr w.heap.size .i64 3 t e O ∧ Below w.heap.size w wr ∧ Hid (g0t O xs ys i cr))
 case atStart => exact ⟨0, 0, none, 0, [], rfl, rfl, rfl, rfl, by omega, by omega, rfl, Own.nil _ _ _ _, Below.refl _ _, g0t.start xs ys⟩
 case round =>
  obtain ⟨i, cr, t, e, O, rfl, rfl, rfl, hg, hcr, hi, hO, hoq, hb, HR⟩ := hrel
  have hpL := hp.past hb
  have hqL := hq.past hb
  have hxd := a0j (B := 65536) (by omega) xs HXL.out i
  have hyd := a0j (B := 65536) (by omega) ys HYL.out i
  have hi2 : 0 < i → cr = 1 → i ≤ xs.length ∨ i ≤ ys.length := fun h1 h2 => by have := HR.out.2.2.2.2; omega
  by_cases h1 : i < xs.length
  · have hc1 := hpL.cells i h1
    have HS := HR.out.step hxd hyd (.inl h1)
    by_cases h2 : i < ys.length
    · have hc2 := hqL.cells i h2
      have HS := hi0 HS
      clear hi2
      go_wp2_with (first
        | (refine a0w rfl _ _ rfl tyN _ ?_ rfl ?_; omega; intro p2 w2 ho2 hb2 hz2 hp2)
        | (at_builtin; refine b0a rfl _ _ _ rfl tyN _ _ _ _ _ (hoq.past hb2) rfl _ _ _ _ ho2.rd rfl rfl rfl ?_ ?_ ?_; (have := hO.out; simp; omega); (have := hb2.size; have := hb.size; omega); intro p3 c3 w3 ho3 hg3 hb3 hn3))
      have hb4 := hb.trans ((hb2.mono hb.size).trans hb3)
      have e4 : (((cr : Int) + dg xs i + dg ys i : Int) % 65536).toNat = (cr + dg xs i + dg ys i) % B16 := by unfold B16; omega
      rw [e4] at ho3
      go_roundg (xs.length + ys.length + 1 - i)
      case measure => omega
      case rel => exact ⟨i + 1, (cr + dg xs i + dg ys i) / B16, p3, c3, _, by go_num, (by unfold B16; go_num), by simp, by omega, HS.out.2.2.1, by omega, (by show (O ++ _).length = i + 1; have := hO.out; simp; omega), ho3, hb4, HS⟩
    · have ez : dg ys i = 0 := b0p (by omega)
      rw [ez] at HS
      have HS := hi0 HS
      clear ez hyd hi2
      go_wp2_with (first
        | (refine a0w rfl _ _ rfl tyN _ ?_ rfl ?_; omega; intro p2 w2 ho2 hb2 hz2 hp2)
        | (at_builtin; refine b0a rfl _ _ _ rfl tyN _ _ _ _ _ (hoq.past hb2) rfl _ _ _ _ ho2.rd rfl rfl rfl ?_ ?_ ?_; (have := hO.out; simp; omega); (have := hb2.size; have := hb.size; omega); intro p3 c3 w3 ho3 hg3 hb3 hn3))
      have hb4 := hb.trans ((hb2.mono hb.size).trans hb3)
      have e4 : (((cr : Int) + dg xs i : Int) % 65536).toNat = (cr + dg xs i + 0) % B16 := by unfold B16; omega
      rw [e4] at ho3
      go_roundg (xs.length + ys.length + 1 - i)
      case measure => omega
      case rel => exact ⟨i + 1, (cr + dg xs i + 0) / B16, p3, c3, _, by go_num, (by unfold B16; go_num), by simp, by omega, HS.out.2.2.1, by omega, (by show (O ++ _).length = i + 1; have := hO.out; simp; omega), ho3, hb4, HS⟩
  · have ex : dg xs i = 0 := b0p (by omega)
    by_cases h2 : i < ys.length
    · have hc2 := hqL.cells i h2
      have HS := HR.out.step hxd hyd (.inr (.inl h2))
      rw [ex] at HS
      have HS := hi0 HS
      clear ex hxd hi2
      go_wp2_with (first
        | (refine a0w rfl _ _ rfl tyN _ ?_ rfl ?_; omega; intro p2 w2 ho2 hb2 hz2 hp2)
        | (at_builtin; refine b0a rfl _ _ _ rfl tyN _ _ _ _ _ (hoq.past hb2) rfl _ _ _ _ ho2.rd rfl rfl rfl ?_ ?_ ?_; (have := hO.out; simp; omega); (have := hb2.size; have := hb.size; omega); intro p3 c3 w3 ho3 hg3 hb3 hn3))
      have hb4 := hb.trans ((hb2.mono hb.size).trans hb3)
      have e4 : (((cr : Int) + dg ys i : Int) % 65536).toNat = (cr + 0 + dg ys i) % B16 := by unfold B16; omega
      rw [e4] at ho3
      go_roundg (xs.length + ys.length + 1 - i)
      case measure => omega
      case rel => exact ⟨i + 1, (cr + 0 + dg ys i) / B16, p3, c3, _, by go_num, (by unfold B16; go_num), by simp, by omega, HS.out.2.2.1, by omega, (by show (O ++ _).length = i + 1; have := hO.out; simp; omega), ho3, hb4, HS⟩
    · have ey : dg ys i = 0 := b0p (by omega)
      by_cases h3 : 0 < cr
      · have HS := HR.out.step hxd hyd (.inr (.inr h3))
        rw [ex, ey] at HS
        have HS := hi0 HS
        have hi3 : i ≤ xs.length + ys.length := by
         by_cases h0 : 0 < i
         · have := hi2 h0 (by omega); omega
         · omega
        clear ex ey hxd hyd hi2
        go_wp2_with (first
          | (refine a0w rfl _ _ rfl tyN _ ?_ rfl ?_; omega; intro p2 w2 ho2 hb2 hz2 hp2)
          | (at_builtin; refine b0a rfl _ _ _ rfl tyN _ _ _ _ _ (hoq.past hb2) rfl _ _ _ _ ho2.rd rfl rfl rfl ?_ ?_ ?_; (have := hO.out; simp; omega); (have := hb2.size; have := hb.size; omega); intro p3 c3 w3 ho3 hg3 hb3 hn3))
        have hb4 := hb.trans ((hb2.mono hb.size).trans hb3)
        have e4 : (((cr : Int) : Int) % 65536).toNat = (cr + 0 + 0) % B16 := by unfold B16; omega
        rw [e4] at ho3
        go_roundg (xs.length + ys.length + 1 - i)
        case measure => omega
        case rel => exact ⟨i + 1, (cr + 0 + 0) / B16, p3, c3, _, by go_num, (by unfold B16; go_num), by simp, by omega, HS.out.2.2.1, by omega, (by show (O ++ _).length = i + 1; have := hO.out; simp; omega), ho3, hb4, HS⟩
      · obtain rfl : cr = 0 := by omega
        have HD := hi0 (HR.out.done (by omega) (by omega) HA.out HB.out)
        clear ex ey hxd hyd hi2
        go_wp2
        go_ret
        exact s0a HD.out rfl hoq hb
theorem d0w (p q : Option Addr) (n m c d : Nat) (a b : Nat) (w : World) (hp : Rd w .i64 p (dig B16 a)) (hq : Rd w .i64 q (dig B16 b)) (hn : n = (dig B16 a).length) (hm : m = (dig B16 b).length)
 (hl : (dig B16 a).length ≤ 1000000000) (hl2 : (dig B16 b).length ≤ 1000000000) :
 Calls Tryz.prog 60 #[.slice p n c, .slice q m d] w fun e w' => e = .returned (.int .i64 (cmpN a b)) ∧ Below w.heap.size w w' := by
 subst hn hm
 by_cases hlt : (dig B16 a).length < (dig B16 b).length
 · have H := hi0 (f0t (i0b a0e hlt))
   go_enter Tryz.func60, Tryz.ntmps60
   go_wp2
   go_ret
   exact ⟨f0v H.out, Below.refl _ _⟩
 · by_cases hgt : (dig B16 b).length < (dig B16 a).length
   · have H := hi0 (m0c (i0b a0e hgt))
     go_enter Tryz.func60, Tryz.ntmps60
     go_wp2
     go_ret
     exact ⟨f0v H.out, Below.refl _ _⟩
   · have hle : (dig B16 b).length = (dig B16 a).length := by omega
     have HXL := hi0 (b0f a0e a)
     have HYL := hi0 (b0f a0e b)
     have HA := hi0 (a0z a0e a)
     have HB := hi0 (a0z a0e b)
     rw [hle]
     have HL := hi0 hle
     have hly := Nat.le_of_eq hle.symm
     clear hlt hgt hle
     generalize dig B16 a = xs at *
     generalize dig B16 b = ys at *
     have hsx := hp.solid
     have hsy := hq.solid
     rw [HL.out] at hsy
     go_enter Tryz.func60, Tryz.ntmps60
     go_wp2
     go_loopw [5] (fun iv wr => ∃ (k : Nat), iv = .int .i64 ((k : Int) - 1) ∧ k ≤ xs.length ∧ Below w.heap.size w wr ∧ Hid (xs.drop k = ys.drop k)) (fun iv _ => (intOf iv + 1).toNat)
     case atStart => exact ⟨xs.length, rfl, Nat.le_refl _, Below.refl _ _, (show xs.drop _ = ys.drop _ by rw [List.drop_length, List.drop_of_length_le (by have := HL.out; omega)])⟩
     case round =>
      obtain ⟨k, rfl, hk, hb, HD⟩ := hrel
      by_cases h0 : 0 < k
      · obtain ⟨k, rfl⟩ : ∃ j, k = j + 1 := ⟨k - 1, by omega⟩
        have ej : ((k + 1 : Nat) : Int) - 1 = k := by omega
        rw [ej]
        have hxd := a0j (B := 65536) (by omega) xs HXL.out k
        have hyd := a0j (B := 65536) (by omega) ys HYL.out k
        have hc1 := (hp.past hb).cells k (by omega)
        have hc2 := (hq.past hb).cells k (by omega)
        have i1 : (k : Int) < (xs.length : Int) := by omega
        have i0 : (0 : Int) ≤ (k : Int) := by omega
        clear ej
        by_cases h1 : dg xs k < dg ys k
        · have H := hi0 (f0t (by have := p0i xs ys HXL.out k (by omega) HL.out.symm HD.out h1; rwa [HA.out, HB.out] at this))
          go_wp2_with fail
          go_quiet (fail)
          go_wp2
          go_ret
          exact ⟨f0v H.out, hb.trans (by first | exact below_drewN (Below.refl _ _) _ | exact below_drewN (below_drewN (Below.refl _ _) _) _)⟩
        · by_cases h2 : dg ys k < dg xs k
          · have H := hi0 (m0c (by have := p0i ys xs HYL.out k (by have := HL.out; omega) HL.out HD.out.symm h2; rwa [HA.out, HB.out] at this))
            go_wp2_with fail
            go_quiet (fail)
            go_wp2_with fail
            go_quiet (fail)
            go_wp2
            go_ret
            exact ⟨f0v H.out, hb.trans (by first | exact below_drewN (Below.refl _ _) _ | exact below_drewN (below_drewN (Below.refl _ _) _) _)⟩
          · have h3 : dg xs k = dg ys k := by omega
            have HE := hi0 (o0g (by omega) HL.out.symm HD.out h3)
            rw [← h3] at hc2
            clear h3 h1 h2
            go_wp2_with fail
            go_quiet (fail)
            go_wp2_with fail
            go_quiet (fail)
            go_wp2
            go_roundw
            case rel => exact ⟨k, rfl, by omega, hb.trans (by first | exact below_drewN (Below.refl _ _) _ | exact below_drewN (below_drewN (Below.refl _ _) _) _), HE⟩
            case measure => first | (simp [intOf]; done) | (simp [intOf]; omega)
      · obtain rfl : k = 0 := by omega
        have H : cmpN a b = 0 := by
         have := HD.out
         simp only [List.drop_zero] at this
         rw [← HA.out, ← HB.out, this]; exact t0p _
        have H := hi0 H
        go_wp2
        go_ret
        exact ⟨f0v H.out, hb⟩
theorem d0x (p : Option Addr) (n c : Nat) (a : Nat) (w : World) (hp : Rd w .i64 p (dig B16 a)) (hn : n = (dig B16 a).length) (hl : (dig B16 a).length ≤ 1000000000) :
 Calls Tryz.prog 75 #[.slice p n c] w fun e w' => e = .returned (.int .i64 (blen a : Nat)) ∧ w = w' := by
 subst hn
 by_cases h0 : 0 < a
 · obtain ⟨hb, ht⟩ := j0i (B := B16) (s := 16) (by decide) a0e a h0
   have hl0 : 0 < (dig B16 a).length := List.length_pos_iff.2 ((e0b a0e a).2.2.2 h0)
   have HB := hi0 hb
   have hd := a0j (B := 65536) (by omega) _ (b0f a0e a) ((dig B16 a).length - 1)
   clear hb
   generalize dig B16 a = xs at *
   have hs := hp.solid
   have hc := hp.cells (xs.length - 1) (by omega)
   have hbd : blen (dg xs (xs.length - 1)) ≤ 16 := (b0i _ 16).2 (by omega)
   generalize dg xs (xs.length - 1) = d at *
   go_enter Tryz.func75, Tryz.ntmps75
   go_wp2
   go_loop [3, 4] (fun nv dv => ∃ (m t : Nat), nv = .int .i64 m ∧ dv = .int .i64 t ∧ t ≤ d ∧ m + blen t = 16 * (xs.length - 1) + blen d) (fun _ dv => (intOf dv).toNat)
   case atStart => exact ⟨16 * (xs.length - 1), d, by go_num, rfl, Nat.le_refl _, rfl⟩
   case round =>
    obtain ⟨m, t, rfl, rfl, htd, hm⟩ := hrel
    by_cases h1 : 0 < t
    · have hh := r0r t h1
      have hh2 : m + 1 + blen (t / 2) = 16 * (xs.length - 1) + blen d := by omega
      clear hh
      go_wp2
      go_round
      case rel => exact ⟨m + 1, t / 2, by go_num, by go_num, by omega, hh2⟩
      case measure => simp [intOf]; omega
    · obtain rfl : t = 0 := by omega
      rw [j0h] at hm
      have HM := hi0 (show blen a = m by rw [HB.out]; exact hm.symm)
      go_wp2
      go_ret
      rw [HM.out]
      exact ⟨rfl, rfl⟩
 · obtain rfl : a = 0 := by omega
   rw [j0h]
   rw [a0c] at *
   go_enter Tryz.func75, Tryz.ntmps75
   go_wp2
   go_ret
   exact ⟨rfl, rfl⟩
end Go.Proofs.YtmacohmclpnphaaGreatDoor
namespace Go.Slip
theorem e1s {d r : Nat} (h0 : 0 < d) (h : d < 65536) : tz (d + 65536 * r) = tz d := by
 obtain ⟨h1, h2⟩ := c0s d h0
 have hle : tz d < 16 := by
  rcases Nat.lt_or_ge (tz d) 16 with h3 | h3
  · exact h3
  · have h4 : 2 ^ 16 ≤ 2 ^ tz d := Nat.pow_le_pow_right (by omega) h3
    have h5 : 0 < d / 2 ^ tz d := by
     rcases Nat.eq_zero_or_pos (d / 2 ^ tz d) with h | h
     · rw [h] at h2; simp at h2
     · exact h
    have h6 := Nat.mul_le_mul_left (2 ^ tz d) h5
    simp only [Nat.succ_eq_add_one, Nat.zero_add, Nat.mul_one] at h6
    omega
 obtain ⟨t, ht⟩ : ∃ t, t = tz d := ⟨_, rfl⟩
 rw [← ht] at h1 h2 hle ⊢
 obtain ⟨s, hs⟩ : ∃ s, 16 = t + (s + 1) := ⟨15 - t, by omega⟩
 have e : d + 65536 * r = (d / 2 ^ t + 2 * (2 ^ s * r)) * 2 ^ t := by
  have e1 : (65536 : Nat) = 2 ^ t * (2 ^ s * 2) := by
   rw [show (65536 : Nat) = 2 ^ 16 by decide, hs, Nat.pow_add, Nat.pow_succ]
  rw [e1, Nat.add_mul]
  conv => lhs; rw [← h1]
  grind
 rw [e]
 exact v0r _ _ (by omega)
theorem e1t {xs : List Nat} {a i : Nat} (ha : val B16 xs = a) (hz : ∀ j, j < i → dg xs j = 0) (hd : 0 < dg xs i) (hl : dg xs i < 65536) : tz a = 16 * i + tz (dg xs i) := by
 have h1 := b0b B16 xs i
 have h2 : val B16 (xs.take i) = 0 := by
  have : xs.take i = List.replicate (xs.take i).length 0 := by
   apply c0j
   · simp
   · intro t ht
     simp only [List.length_take] at ht
     rw [k0j (by omega), c0h, hz t (by omega)]
  rw [this, b0z]
 rw [h2, f0d, Nat.zero_add] at h1
 have e : a = (dg xs i + 65536 * val B16 (xs.drop (i + 1))) * 2 ^ (16 * i) := by
  rw [← ha, h1, Nat.pow_mul, show (2 : Nat) ^ 16 = B16 by decide, Nat.mul_comm]
  rfl
 rw [e, v0s (by omega), e1s hd hl]
 omega
def g0b (xs : List Nat) (j n : Nat) : Prop := n = 16 * j ∧ ∀ i, i < j → dg xs i = 0
theorem g0b.start (xs : List Nat) : g0b xs 0 0 := ⟨rfl, fun i hi => by omega⟩
theorem g0b.step {xs : List Nat} {j n : Nat} (h : g0b xs j n) (hz : dg xs j = 0) : g0b xs (j + 1) (n + 16) :=
 ⟨by have := h.1; omega, fun i hi => by
   by_cases he : i = j
   · subst he; exact hz
   · exact h.2 i (by omega)⟩
theorem g0b.lt {xs : List Nat} {j n m : Nat} (h : g0b xs j n) (hv : val B16 xs = m) (h0 : 0 < m) : j < xs.length := by
 rcases Nat.lt_or_ge j xs.length with h1 | h1
 · exact h1
 · have := m0h (B := B16) (xs := xs) (fun i hi => h.2 i (by omega))
   omega
def k0e (m d n : Nat) : Prop := ∃ t, n + tz d = t ∧ t = tz m ∧ 0 < d
theorem k0e.start {xs : List Nat} {j n m : Nat} (h : g0b xs j n) (hv : val B16 xs = m) (h0 : 0 < dg xs j) (hl : dg xs j < 65536) : k0e m (dg xs j) n :=
 ⟨_, rfl, by rw [e1t hv h.2 h0 hl, h.1], h0⟩
theorem k0e.step {m d n : Nat} (h : k0e m d n) (he : d % 2 = 0) : k0e m (d / 2) (n + 1) := by
 obtain ⟨t, h1, h2, h3⟩ := h
 rw [p0m h3 he] at h1
 exact ⟨t, by omega, h2, by omega⟩
theorem k0e.done {m d n : Nat} (h : k0e m d n) (he : d % 2 = 1) : n = tz m := by
 obtain ⟨t, h1, h2, h3⟩ := h
 rw [r0s he] at h1
 omega
theorem g0n (a : Nat) : blen a ≤ 16 * (dig B16 a).length := by
 rw [b0i, Nat.pow_mul]
 exact (a0g a0e a _).1 (Nat.le_refl _)
end Go.Slip
namespace Go.Proofs.YtmacohmclpnphaaGreatDoor
open Go.RowKit Go.Slip
theorem e1u {x : Int} {wd : Nat} (h : wd = 1 ∨ wd = 4) (hx : -80000 ≤ x) : (x + 80000).tdiv wd = (x + 80000) / wd ∧ (80000 : Int).tdiv wd = 80000 / wd ∧ (x + 80000) / wd - 80000 / wd = x / wd := by
 refine ⟨Int.tdiv_eq_ediv_of_nonneg (by omega), Int.tdiv_eq_ediv_of_nonneg (by omega), ?_⟩
 rcases h with rfl | rfl <;> omega
theorem j0b (N : Nat) (w : World) (hN : N ≤ 1000000000) :
 Calls Tryz.prog 25 #[.int .i64 N] w (e0j w .i64 (dig B16 (2 ^ N))) := by
 have hs : N % 16 < 16 := Nat.mod_lt _ (by omega)
 have HD := hi0 (j0l (B := B16) (w := 16) (by decide) (by omega) N)
 go_enter Tryz.func25, Tryz.ntmps25
 go_wp2_with (refine g0q rfl _ _ _ rfl tyN .i64 .i64 (N / 16 + 1) _ _ rfl rfl ?_ ?_ ?_ ?_; omega; omega; omega; intro p1 c1 w1 ho1 hb1 hz1)
 go_loop [4, 5] (fun dv iv => ∃ (i t : Nat), iv = .int .i64 i ∧ dv = .int .i64 t ∧ i ≤ N % 16 ∧ t ≤ 65536 ∧ Hid (t = 2 ^ i)) (fun _ iv => N % 16 - (intOf iv).toNat)
 case atStart => exact ⟨0, 1, rfl, rfl, Nat.zero_le _, by omega, rfl⟩
 case round =>
  obtain ⟨i, t, rfl, rfl, hi, ht, HT⟩ := hrel
  by_cases h1 : i < N % 16
  · have HS : Hid (2 * t = 2 ^ (i + 1)) := by show 2 * t = 2 ^ (i + 1); rw [HT.out, Nat.pow_succ]; omega
    have hb : 2 * t ≤ 65536 := by
     rw [HS.out]; exact Nat.pow_le_pow_right (show 0 < 2 by omega) (show i + 1 ≤ 16 by omega)
    go_wp2
    go_round
    case rel => exact ⟨i + 1, 2 * t, by go_num, by go_num, by omega, hb, HS⟩
    case measure => simp [intOf]; omega
  · obtain rfl : i = N % 16 := by omega
    have hso := ho1.solid
    rw [List.length_replicate] at hso
    have hsm := hso
    go_wp2_with (refine a0t rfl _ _ _ rfl 3 tyN _ _ _ _ ho1 (N / 16) (by simp) _ ?_ rfl rfl ?_; omega; intro w3 ho3 hg3 hb3)
    go_ret
    rw [Int.toNat_natCast, HT.out, HD.out] at ho3
    refine ⟨p1, c1, ?_, ho3.rd, ho3.le_cap, h0l ho3, hb1.trans hb3⟩
    rw [← HD.out]; simp
theorem l0i (N : Nat) : (dig B16 (2 ^ N)).length = N / 16 + 1 := by
 rw [← j0l (B := B16) (w := 16) (by decide) (by omega) N]; simp
theorem h0u (p : Option Addr) (n c : Nat) (a N : Nat) (w : World) (hp : Rd w .i64 p (dig B16 a)) (hn : n = (dig B16 a).length) (hl : (dig B16 a).length ≤ 100000000) (hN : N ≤ 1000000000) :
 Calls Tryz.prog 57 #[.slice p n c, .int .i64 N] w (e0j w .i64 (dig B16 (a * 2 ^ N))) := by
 subst hn
 by_cases h0 : (dig B16 a).length = 0
 · have : a = 0 := (a0f a0e a).1 h0
   subst this
   rw [Nat.zero_mul]
   rw [a0c] at *
   go_enter Tryz.func57, Tryz.ntmps57
   go_wp2
   go_ret
   exact ⟨none, 0, rfl, Rd.nil _ _ _, by simp, by simp, Below.refl _ _⟩
 · have hlp := Nat.le_of_eq (l0i N)
   have h1 : 1 ≤ (dig B16 a).length := by omega
   clear h0
   go_enter Tryz.func57, Tryz.ntmps57
   go_wp2_with fail
   refine (j0b N _ hN).mono ?_
   rintro e w1 ⟨p1, c1, rfl, ho1, -, -, hb1⟩
   go_wp2_with fail
   refine (f0p p p1 _ _ c c1 a (2 ^ N) _ (hp.past hb1) ho1 rfl rfl (by omega)).mono ?_
   rintro e w2 ⟨p2, c2, rfl, ho2, hc2, hn2, hb2⟩
   go_wp2_with fail
   go_ret
   exact ⟨p2, c2, rfl, ho2, hc2, fun h => Nat.le_trans hb1.size (hn2 h), hb1.trans (hb2.mono hb1.size)⟩
theorem c1a {O Y : List Nat} {N a : Nat} (h : f0u B16 (2 ^ (N % 16)) O Y Y.length) (hY : val B16 Y = a / B16 ^ (N / 16)) : val B16 O = a / 2 ^ N := by
 rw [h.done, hY, m0d (B := B16) (w := 16) (by decide)]
theorem n0c (p : Option Addr) (n c : Nat) (a N : Nat) (w : World) (hp : Rd w .i64 p (dig B16 a)) (hn : n = (dig B16 a).length) (hl : (dig B16 a).length ≤ 1000000000) (hN : N ≤ 9223372036854775807) :
 Calls Tryz.prog 79 #[.slice p n c, .int .i64 N] w (e0j w .i64 (dig B16 (a / 2 ^ N))) := by
 subst hn
 by_cases h0 : (dig B16 a).length ≤ N / 16
 · rw [o0h (w := 16) (by decide) a0e a N h0]
   rw [a0c]
   go_enter Tryz.func79, Tryz.ntmps79
   go_wp2
   go_ret
   exact ⟨none, 0, rfl, Rd.nil _ _ _, by simp, by simp, Below.refl _ _⟩
 · have HXL := hi0 (b0f a0e a)
   have HV := hi0 (h0j (B := B16) e0p _ (b0f a0e a) (N / 16))
   rw [a0z a0e] at HV
   generalize dig B16 a = xs at *
   have hsx := hp.solid
   have hk : N / 16 < xs.length := by omega
   have HY := hi0 (show ∀ x ∈ xs.drop (N / 16), x < B16 from fun x h => HXL.out x (List.mem_of_mem_drop h))
   have hyl : (xs.drop (N / 16)).length = xs.length - N / 16 := List.length_drop
   have hylp : (xs.drop (N / 16)).length + N / 16 ≤ xs.length := by omega
   have hylq : xs.length ≤ (xs.drop (N / 16)).length + N / 16 := by omega
   have HG := hi0 (show ∀ j, dg (xs.drop (N / 16)) j = dg xs (N / 16 + j) from fun j => f0s)
   clear h0 hyl
   have hs : N % 16 < 16 := Nat.mod_lt _ (by omega)
   generalize xs.drop (N / 16) = ys at *
   have H0 := hi0 (f0u.start B16 (2 ^ (N % 16)) ys)
   have hpm : B16 % 2 ^ (N % 16) = 0 := l0e (w := 16) (by omega)
   have hpm := hi0 hpm
   go_enter Tryz.func79, Tryz.ntmps79
   go_wp2
   go_loop [5, 6] (fun dv iv => ∃ (i t : Nat), iv = .int .i64 i ∧ dv = .int .i64 t ∧ i ≤ N % 16 ∧ t ≤ 65536 ∧ Hid (t = 2 ^ i)) (fun _ iv => N % 16 - (intOf iv).toNat)
   case atStart => exact ⟨0, 1, rfl, rfl, Nat.zero_le _, by omega, rfl⟩
   case round =>
    obtain ⟨i, t, rfl, rfl, hi, ht, HT⟩ := hrel
    by_cases h1 : i < N % 16
    · have HS : Hid (2 * t = 2 ^ (i + 1)) := by show 2 * t = 2 ^ (i + 1); rw [HT.out, Nat.pow_succ]; omega
      have hb : 2 * t ≤ 65536 := by
       rw [HS.out]; exact Nat.pow_le_pow_right (show 0 < 2 by omega) (show i + 1 ≤ 16 by omega)
      go_wp2
      go_round
      case rel => exact ⟨i + 1, 2 * t, by go_num, by go_num, by omega, hb, HS⟩
      case measure => simp [intOf]; omega
    · obtain rfl : i = N % 16 := by omega
      have htp : 1 ≤ t := by rw [HT.out]; exact Nat.pow_pos (by omega)
      go_wp2
      rw [← HT.out] at H0 hpm
      go_loopg [7, 8] (ys.length) (fun g ov iv wr => ∃ (i : Nat) (q : Option Addr) (e : Nat) (O : List Nat), iv = .int .i64 ((N / 16 + i : Nat) : Int) ∧ ov = .slice q O.length e ∧ g + i = ys.length ∧ i ≤ ys.length ∧ Hid (O.length = i) ∧
          Own wr w.heap.size .i64 3 q e O ∧ Below w.heap.size w wr ∧ Hid (f0u B16 t O ys i))
      case atStart => exact ⟨0, none, 0, [], by go_num, rfl, by omega, by omega, rfl, Own.nil _ _ _ _, Below.refl _ _, H0⟩
      case round =>
       obtain ⟨i, q, e, O, rfl, rfl, hg, hi, hO, hoq, hb, HR⟩ := hrel
       have hpL := hp.past hb
       have hyd := a0j (B := 65536) (by omega) ys HY.out i
       have hyd2 := a0j (B := 65536) (by omega) ys HY.out (i + 1)
       by_cases hlt : i < ys.length
       · have hc1 := hpL.cells (N / 16 + i) (by omega)
         rw [← HG.out] at hc1
         obtain ⟨v, hv⟩ : ∃ v, v = dg ys i / t := ⟨_, rfl⟩
         have ev : ((dg ys i : Nat) : Int) / (t : Int) = (v : Nat) := by rw [hv]; rfl
         have hvd : v < 65536 := by rw [hv]; exact Nat.lt_of_le_of_lt (Nat.div_le_self _ _) hyd
         by_cases h2 : i + 1 < ys.length
         · have hc2 := hpL.cells (N / 16 + (i + 1)) (by omega)
           rw [← HG.out] at hc2
           obtain ⟨m, hm⟩ : ∃ m, m = dg ys (i + 1) % t := ⟨_, rfl⟩
           obtain ⟨k, hk2⟩ : ∃ k, k = 65536 / t := ⟨_, rfl⟩
           obtain ⟨r, hr⟩ : ∃ r, r = m * k := ⟨_, rfl⟩
           obtain ⟨u, hu⟩ : ∃ u, u = v + r := ⟨_, rfl⟩
           have hue : u = dg ys i / t + dg ys (i + 1) % t * (B16 / t) := by rw [hu, hr, hm, hk2, hv]; rfl
           have hub : u < 65536 := by rw [hue]; exact v0q htp hpm.out hyd
           have HS := hi0 (HR.out.step htp hpm.out HY.out hlt u hue)
           have hkb : k ≤ 65536 := by rw [hk2]; exact Nat.div_le_self _ _
           have i0 : (0 : Int) ≤ (N : Int) / 16 + i + 1 := by omega
           have i1 : (N : Int) / 16 + i + 1 < (xs.length : Int) := by omega
           have e1 : IntKind.i64.wrap ((N : Int) / 16 + i + 1) = (N : Int) / 16 + i + 1 := iwo
           have e2 : ((dg ys (i + 1) : Nat) : Int).tmod (t : Int) = (m : Nat) := by rw [Int.tmod_eq_emod_of_nonneg (by omega), hm]; rfl
           have e3 : IntKind.i64.wrap ((65536 : Int) / (t : Int)) = (k : Nat) := by rw [hk2]; exact IntWalk.i64_in _ (by have : ((65536 / t : Nat) : Int) = 65536 / (t : Int) := rfl; omega)
           have e4 : IntKind.i64.wrap ((m : Int) * (k : Int)) = (r : Nat) := by
            have : (m : Int) * (k : Int) = (r : Nat) := by rw [hr]; simp
            rw [this]; exact iwo
           have e5 : IntKind.i64.wrap ((v : Int) + (r : Int)) = (u : Nat) := by rw [hu]; exact iwo
           have e6 : ((N : Int) / 16 + i + 1).toNat = N / 16 + (i + 1) := by omega
           have e7 : ¬ t = 0 := by omega
           have e8 : (65536 : Int).tdiv (t : Int) = (65536 : Int) / (t : Int) := Int.tdiv_eq_ediv_of_nonneg (by omega)
           clear hu hr hm hk2 hv hue
           go_wp2_with fail
           go_quiet (fail)
           have hoq := hoq.drewN nq
           have hb := hb.trans (below_drewN (Below.refl _ wr) nq)
           clear e1 e2 e3 e4 e5 e6 e7 e8 i0 i1 hc1 hc2 hpL
           go_wp2_with (first
             | (refine a0w rfl _ _ rfl tyN _ ?_ rfl ?_; omega; intro p2 w2 ho2 hb2 hz2 hp2)
             | (at_builtin; refine b0a rfl _ _ _ rfl tyN _ _ _ _ _ (hoq.past hb2) rfl _ _ _ _ ho2.rd rfl rfl rfl ?_ ?_ ?_; (have := hO.out; simp; omega); (have := hb2.size; have := hb.size; omega); intro p3 c3 w3 ho3 hg3 hb3 hn3))
           have hb4 := hb.trans ((hb2.mono hb.size).trans hb3)
           rw [Int.toNat_natCast] at ho3
           go_roundg (ys.length - 1 - i)
           case measure => omega
           case rel => exact ⟨i + 1, p3, c3, _, by go_num, by simp, by omega, by omega, (by show (O ++ _).length = _; have := hO.out; rw [List.length_append, List.length_singleton]; omega), ho3, hb4, HS⟩
         · have HS := hi0 (HR.out.step htp hpm.out HY.out hlt v (by rw [hv, b0p (show ys.length ≤ i + 1 by omega), Nat.zero_mod, Nat.zero_mul]; rfl))
           clear hv
           go_wp2_with (first
             | (refine a0w rfl _ _ rfl tyN _ ?_ rfl ?_; omega; intro p2 w2 ho2 hb2 hz2 hp2)
             | (at_builtin; refine b0a rfl _ _ _ rfl tyN _ _ _ _ _ (hoq.past hb2) rfl _ _ _ _ ho2.rd rfl rfl rfl ?_ ?_ ?_; (have := hO.out; simp; omega); (have := hb2.size; have := hb.size; omega); intro p3 c3 w3 ho3 hg3 hb3 hn3))
           have hb4 := hb.trans ((hb2.mono hb.size).trans hb3)
           rw [Int.toNat_natCast] at ho3
           go_roundg (ys.length - 1 - i)
           case measure => omega
           case rel => exact ⟨i + 1, p3, c3, _, by go_num, by simp, by omega, by omega, (by show (O ++ _).length = _; have := hO.out; rw [List.length_append, List.length_singleton]; omega), ho3, hb4, HS⟩
       · obtain rfl : i = ys.length := by omega
         have HD := hi0 (c1a (by rw [← HT.out]; exact HR.out) HV.out)
         have HX := hi0 HR.out.1
         go_wp2_with (go_at_call 134; refine (d0c _ _ _ O _ hoq.rd rfl hoq.le_cap HX.out (by rw [hO.out]; omega)).mono ?_; rintro e w3 ⟨rfl, rfl⟩)
         go_ret
         have ht := a0v a0e O HX.out
         have ho2 := hoq.take (dig B16 (val B16 O)).length
         rw [ht, HD.out] at ho2
         rw [HD.out]
         exact ⟨q, _, rfl, ho2.rd, Nat.le_refl _, h0l ho2, hb⟩
theorem q0u (g : Bool) (p : Option Addr) (c : Nat) (e : Int) (w : World) :
 Calls Tryz.prog 62 #[.agg #[.bool g, .slice p 0 c, .int .i64 e]] w (o0j w (fun _ => False) ⟨false, 0, 0⟩) := by
 go_enter Tryz.func62, Tryz.ntmps62
 go_wp2
 refine bodyPost_ret (v := .agg #[.bool false, .slice none 0 0, .int .i64 0]) (by simp [results, Tryz.results62, go_sem]) rfl ?_
 exact ⟨none, 0, by rw [a0c]; rfl, by rw [a0c]; exact Rd.nil _ _ _, by rw [a0c]; simp, by rw [a0c]; simp, ((Below.refl _ _).alloc (Nat.le_refl _) _).alloc (by simp) _⟩
theorem s0s (g : Bool) (p : Option Addr) (n c : Nat) (e : Int) (m : Nat) (w : World) (hp : Rd w .i64 p (dig B16 m)) (hn : n = (dig B16 m).length) (hl : (dig B16 m).length ≤ 10000000) (h0 : 0 < m)
 (he : -1000000000 ≤ e ∧ e ≤ 1000000000) :
 Calls Tryz.prog 62 #[.agg #[.bool g, .slice p n c, .int .i64 e]] w (o0j w (fun _ => False) (bare ⟨g, m, e⟩)) := by
 subst hn
 have hl0 : 0 < (dig B16 m).length := by
  have := a0f a0e m
  omega
 have t1 : (((dig B16 m).length : Int) == 0) = false := bFn (by omega)
 obtain ⟨W1, hW1, hs1, A1, R1, hz1⟩ := l1q w (.bool g) (.slice p (dig B16 m).length c) (.int .i64 e) (.bool false) (.slice none 0 0) (.int .i64 0) 30 30
 have hp1 := hp.past hs1
 have HB := hi0 (v0t (g := g) (e := e) h0)
 have htz : tz m ≤ 1000000000 := by have := g0h h0; have := g0n m; omega
 have HV := hi0 (a0z a0e m)
 have HX := hi0 (b0f a0e m)
 have HW1 := hi0 hW1
 obtain ⟨xs, hxs⟩ : ∃ xs, xs = dig B16 m := ⟨_, rfl⟩
 have HXS := hi0 hxs
 rw [← hxs] at hp hl hl0 t1 A1 hp1 HV HX HW1 ⊢
 have hsx := hp1.solid
 have a1 := A1.c1
 clear hW1 hxs
 go_enter Tryz.func62, Tryz.ntmps62
 go_wp2_with fail
 rw [← HW1.out]
 clear HW1
 go_wp2
 go_loopg [3] xs.length (fun gk nv wr => ∃ (j n : Nat), nv = .int .i64 n ∧ gk + j = xs.length ∧ wr = W1 ∧ Hid (g0b xs j n))
 case atStart => exact ⟨0, 0, rfl, rfl, rfl, g0b.start xs⟩
 case round =>
  obtain ⟨j, n, rfl, hgk, rfl, HO⟩ := hrel
  have hlt := HO.out.lt HV.out h0
  have hd := a0j (B := 65536) (by omega) xs HX.out j
  have hn1 : (n : Int) ≤ 160000000 := by have := HO.out.1; omega
  have e1 : (n : Int) / 16 = (j : Int) := by have := HO.out.1; omega
  have hcell := hp1.cells j hlt
  by_cases hz : dg xs j = 0
  · have HS := hi0 (HO.out.step hz)
    rw [hz] at hcell
    have hgi : 0 < gk := by omega
    clear hz
    go_wp2
    go_roundg (gk - 1)
    case measure => omega
    case rel => exact ⟨j + 1, n + 16, by go_num, by omega, rfl, HS⟩
  · have h0d : 0 < dg xs j := by omega
    have HI := hi0 (k0e.start HO.out HV.out h0d hd)
    have t2 : (((dg xs j : Nat) : Int) == 0) = false := bFn (by omega)
    clear hz
    go_wp2
    have hjn : n ≤ 160000000 := by omega
    clear e1 hcell t2 hn1
    obtain ⟨d0, hd0⟩ : ∃ d0, dg xs j = d0 := ⟨_, rfl⟩
    rw [hd0] at HI hd h0d ⊢
    clear hd0
    go_loopg [3, 4] d0 (fun gk nv dv wx => ∃ (n2 : Nat), nv = .int .i64 n2 ∧ dv = .int .i64 gk ∧ gk < 65536 ∧ wx = wr ∧ Hid (k0e m gk n2))
    case atStart => exact ⟨n, rfl, rfl, hd, rfl, HI⟩
    case round =>
     obtain ⟨n2, rfl, rfl, hgl, rfl, HN⟩ := hrel
     have hn2 : n2 ≤ 1000000000 := by obtain ⟨t, h1, h2, h3⟩ := HN.out; omega
     have hg0 : 0 < gk := by obtain ⟨t, h1, h2, h3⟩ := HN.out; omega
     by_cases hev : gk % 2 = 0
     · have HS := hi0 (HN.out.step hev)
       have t3 : (gk : Int) % 2 = 0 := by omega
       clear hev
       go_wp2
       go_roundg (gk / 2)
       case measure => omega
       case rel => exact ⟨n2 + 1, by go_num, by go_num, by omega, rfl, HS⟩
     · have HD := HN.out.done (by omega)
       have t3 : (gk : Int) % 2 = 1 := by omega
       subst HD
       obtain ⟨t, ht⟩ : ∃ t, tz m = t := ⟨_, rfl⟩
       have HT := hi0 ht
       rw [ht] at htz HB hn2 HN ⊢
       clear ht hev
       go_wp2_with fail
       clear t3
       have e1 : IntKind.i64.wrap (e + (t : Int)) = e + (t : Int) := iwo
       have hpm : Rd wr .i64 p (dig B16 m) := by rw [← HXS.out]; exact hp1
       go_region_held3 (fun w' => w'.cell? ⟨w.heap.size, 0, none⟩ = some (.bool g) ∧ w'.cell? ⟨w.heap.size, 1, none⟩ = some (.slice p xs.length c) ∧ w'.cell? ⟨w.heap.size, 2, none⟩ = some (.int .i64 e))
        (first | exact ⟨A1.c0, A1.c1, A1.c2⟩
               | (have D1 := A1.drew; exact ⟨D1.c0, D1.c1, D1.c2⟩)
               | (have D1 := A1.drew.past hb2; exact ⟨D1.c0, D1.c1, D1.c2⟩)
               | (have D1 := A1.drew.past hb2; exact ⟨(((D1.set (by omega)).set (by omega)).set (by omega)).c0, (((D1.set (by omega)).set (by omega)).set (by omega)).c1, (((D1.set (by omega)).set (by omega)).set (by omega)).c2⟩))
        (first | (go_at_call 79; refine (n0c p _ c m t _ hpm.drew (by rw [HXS.out]) (by rw [← HXS.out]; clear e1; omega) (by clear e1; omega)).mono ?_; rintro e2 w2 ⟨p2, c2, rfl, hr2, hc2, hf2, hb2⟩; obtain ⟨d0, d1, d2, f0, f1, f2, dlt⟩ := R1.drew.past hb2))
       all_goals (go_wp2_with fail)
       refine bodyPost_ret (v := .agg #[.bool g, .slice p2 (dig B16 (m / 2 ^ t)).length c2, .int .i64 (e + (t : Int))]) (by simp [results, Tryz.results62, go_sem, d0, d1, d2]) rfl ?_
       rw [HB.out]
       clear e1
       have hzd : wr.drew.heap.size = wr.heap.size := rfl
       exact f0m (d := ⟨g, m / 2 ^ t, e + t⟩) (hs1.drew.trans (hb2.mono hs1.size)) hr2 hc2 (fun h => .inr (by have := hf2 h; simp only at *; omega)) (by omega) (fun h => by have := hf2 h; simp only at *; omega)
theorem f0q (g : Bool) (p : Option Addr) (n c : Nat) (e : Int) (m : Nat) (w : World) (hp : Rd w .i64 p (dig B16 m)) (hn : n = (dig B16 m).length) (hl : (dig B16 m).length ≤ 10000000)
 (he : -1000000000 ≤ e ∧ e ≤ 1000000000) :
 Calls Tryz.prog 62 #[.agg #[.bool g, .slice p n c, .int .i64 e]] w (o0j w (fun _ => False) (bare ⟨g, m, e⟩)) := by
 by_cases h0 : m = 0
 · subst h0
   rw [a0c] at hn
   subst hn
   exact q0u g p c e w
 · exact s0s g p n c e m w hp hn hl (by omega) he
theorem h0b (p q : Option Addr) (n m c d : Nat) (a b : Nat) (w : World) (hp : Rd w .i64 p (dig B16 a)) (hq : Rd w .i64 q (dig B16 b)) (hn : n = (dig B16 a).length) (hm : m = (dig B16 b).length)
 (hl : (dig B16 a).length ≤ 1000000000) (hab : b ≤ a) :
 Calls Tryz.prog 78 #[.slice p n c, .slice q m d] w (e0j w .i64 (dig B16 (a - b))) := by
 subst hn hm
 have hge := a0k a0e hab
 have HXL := hi0 (b0f a0e a)
 have HYL := hi0 (b0f a0e b)
 have HA := hi0 (a0z a0e a)
 have HB := hi0 (a0z a0e b)
 generalize dig B16 a = xs at *
 generalize dig B16 b = ys at *
 have hsx := hp.solid
 have hsy := hq.solid
 go_enter Tryz.func78, Tryz.ntmps78
 go_wp2
 go_loopg [5, 6, 7] (xs.length) (fun g ov cv iv wr => ∃ (i cr : Nat) (t : Option Addr) (e : Nat) (O : List Nat), iv = .int .i64 i ∧ cv = .int .i64 cr ∧ ov = .slice t O.length e ∧ g + i = xs.length ∧ cr ≤ 1 ∧ i ≤ xs.length ∧ Hid (O.length = i) ∧
     Own wr w.heap.size .i64 3 t e O ∧ Below w.heap.size w wr ∧ Hid (g0u O xs ys i cr))
 case atStart => exact ⟨0, 0, none, 0, [], rfl, rfl, rfl, by omega, by omega, by omega, rfl, Own.nil _ _ _ _, Below.refl _ _, g0u.start xs ys⟩
 case round =>
  obtain ⟨i, cr, t, e, O, rfl, rfl, rfl, hg, hcr, hi, hO, hoq, hb, HR⟩ := hrel
  have hpL := hp.past hb
  have hqL := hq.past hb
  have hxd := a0j (B := 65536) (by omega) xs HXL.out i
  have hyd := a0j (B := 65536) (by omega) ys HYL.out i
  by_cases h1 : i < xs.length
  · have hc1 := hpL.cells i h1
    by_cases h2 : i < ys.length
    · have hc2 := hqL.cells i h2
      by_cases h3 : dg xs i < dg ys i + cr
      · have HS := hi0 (HR.out.step (dg xs i + 65536 - dg ys i - cr) 1 (by unfold B16; omega) (by omega) (by unfold B16; omega))
        go_wp2_with (first
          | (refine a0w rfl _ _ rfl tyN _ ?_ rfl ?_; omega; intro p2 w2 ho2 hb2 hz2 hp2)
          | (at_builtin; refine b0a rfl _ _ _ rfl tyN _ _ _ _ _ (hoq.past hb2) rfl _ _ _ _ ho2.rd rfl rfl rfl ?_ ?_ ?_; (have := hO.out; simp; omega); (have := hb2.size; have := hb.size; omega); intro p3 c3 w3 ho3 hg3 hb3 hn3))
        have hb4 := hb.trans ((hb2.mono hb.size).trans hb3)
        have e4 : ((dg xs i : Int) - cr - dg ys i + 65536).toNat = dg xs i + 65536 - dg ys i - cr := by omega
        rw [e4] at ho3
        go_roundg (xs.length - 1 - i)
        case measure => omega
        case rel => exact ⟨i + 1, 1, p3, c3, _, by go_num, rfl, by simp, by omega, by omega, by omega, (by show (O ++ _).length = i + 1; have := hO.out; simp; omega), ho3, hb4, HS⟩
      · have HS := hi0 (HR.out.step (dg xs i - dg ys i - cr) 0 (by unfold B16; omega) (by omega) (by unfold B16; omega))
        go_wp2_with (first
          | (refine a0w rfl _ _ rfl tyN _ ?_ rfl ?_; omega; intro p2 w2 ho2 hb2 hz2 hp2)
          | (at_builtin; refine b0a rfl _ _ _ rfl tyN _ _ _ _ _ (hoq.past hb2) rfl _ _ _ _ ho2.rd rfl rfl rfl ?_ ?_ ?_; (have := hO.out; simp; omega); (have := hb2.size; have := hb.size; omega); intro p3 c3 w3 ho3 hg3 hb3 hn3))
        have hb4 := hb.trans ((hb2.mono hb.size).trans hb3)
        have e4 : ((dg xs i : Int) - cr - dg ys i).toNat = dg xs i - dg ys i - cr := by omega
        rw [e4] at ho3
        go_roundg (xs.length - 1 - i)
        case measure => omega
        case rel => exact ⟨i + 1, 0, p3, c3, _, by go_num, rfl, by simp, by omega, by omega, by omega, (by show (O ++ _).length = i + 1; have := hO.out; simp; omega), ho3, hb4, HS⟩
    · have ez : dg ys i = 0 := b0p (by omega)
      by_cases h3 : dg xs i < cr
      · have HS := hi0 (HR.out.step (dg xs i + 65536 - cr) 1 (by unfold B16; omega) (by omega) (by unfold B16; omega))
        clear ez hyd
        go_wp2_with (first
          | (refine a0w rfl _ _ rfl tyN _ ?_ rfl ?_; omega; intro p2 w2 ho2 hb2 hz2 hp2)
          | (at_builtin; refine b0a rfl _ _ _ rfl tyN _ _ _ _ _ (hoq.past hb2) rfl _ _ _ _ ho2.rd rfl rfl rfl ?_ ?_ ?_; (have := hO.out; simp; omega); (have := hb2.size; have := hb.size; omega); intro p3 c3 w3 ho3 hg3 hb3 hn3))
        have hb4 := hb.trans ((hb2.mono hb.size).trans hb3)
        have e4 : ((dg xs i : Int) - cr + 65536).toNat = dg xs i + 65536 - cr := by omega
        rw [e4] at ho3
        go_roundg (xs.length - 1 - i)
        case measure => omega
        case rel => exact ⟨i + 1, 1, p3, c3, _, by go_num, rfl, by simp, by omega, by omega, by omega, (by show (O ++ _).length = i + 1; have := hO.out; simp; omega), ho3, hb4, HS⟩
      · have HS := hi0 (HR.out.step (dg xs i - cr) 0 (by unfold B16; omega) (by omega) (by unfold B16; omega))
        clear ez hyd
        go_wp2_with (first
          | (refine a0w rfl _ _ rfl tyN _ ?_ rfl ?_; omega; intro p2 w2 ho2 hb2 hz2 hp2)
          | (at_builtin; refine b0a rfl _ _ _ rfl tyN _ _ _ _ _ (hoq.past hb2) rfl _ _ _ _ ho2.rd rfl rfl rfl ?_ ?_ ?_; (have := hO.out; simp; omega); (have := hb2.size; have := hb.size; omega); intro p3 c3 w3 ho3 hg3 hb3 hn3))
        have hb4 := hb.trans ((hb2.mono hb.size).trans hb3)
        have e4 : ((dg xs i : Int) - cr).toNat = dg xs i - cr := by omega
        rw [e4] at ho3
        go_roundg (xs.length - 1 - i)
        case measure => omega
        case rel => exact ⟨i + 1, 0, p3, c3, _, by go_num, rfl, by simp, by omega, by omega, by omega, (by show (O ++ _).length = i + 1; have := hO.out; simp; omega), ho3, hb4, HS⟩
  · obtain rfl : i = xs.length := by omega
    have HD := hi0 (HR.out.done HA.out HB.out hge hab)
    go_wp2_with (go_at_call 134; refine (d0c _ _ _ O _ hoq.rd rfl hoq.le_cap HR.out.1 (by rw [hO.out]; omega)).mono ?_; rintro e w3 ⟨rfl, rfl⟩)
    go_ret
    have ht := a0v a0e O HR.out.1
    have ho2 := hoq.take (dig B16 (val B16 O)).length
    rw [ht, HD.out] at ho2
    rw [HD.out]
    exact ⟨t, _, rfl, ho2.rd, Nat.le_refl _, h0l ho2, hb⟩
theorem s0t (a N : Nat) : (dig B16 (a * 2 ^ N)).length ≤ (dig B16 a).length + (N / 16 + 1) := by
 refine Nat.le_trans (d0r a0e _ _) ?_
 have : (dig B16 (2 ^ N)).length = N / 16 + 1 := by rw [← j0l (B := B16) (w := 16) (by decide) (by omega) N]; simp
 omega
def c1b (a : Nat) (e f : Int) : Int := if a = 0 then f else min e f
theorem e1v (g h : Bool) (a b : Nat) (e f : Int) : g0f ⟨g, a, e⟩ ⟨h, b, f⟩ = if b = 0 then e else c1b a e f := rfl
theorem n0d (a : Nat) : (((dig B16 a).length : Int) == 0) = decide (a = 0) := by
 have := a0f a0e a
 by_cases h : a = 0
 · subst h; rw [a0c]; rfl
 · rw [decide_eq_false h]; exact bFn (by omega)
theorem s0u (g h : Bool) (p q : Option Addr) (n c m d : Nat) (e f : Int) (a b : Nat) (w : World) (hp : Rd w .i64 p (dig B16 a)) (hq : Rd w .i64 q (dig B16 b)) (hn : n = (dig B16 a).length) (hm : m = (dig B16 b).length)
 (hl : (dig B16 a).length ≤ 1000000) (hl2 : (dig B16 b).length ≤ 1000000) (he : -1000000 ≤ e ∧ e ≤ 1000000) (hf : -1000000 ≤ f ∧ f ≤ 1000000) :
 Calls Tryz.prog 23 #[.agg #[.bool g, .slice p n c, .int .i64 e], .agg #[.bool h, .slice q m d, .int .i64 f]] w (o0j w (fun _ => False) (f0e ⟨g, a, e⟩ ⟨h, b, f⟩)) := by
 subst hn hm
 obtain ⟨W1, hW1, hs1, A1, B1, R1, hz1⟩ := l1r w (.bool g) (.slice p (dig B16 a).length c) (.int .i64 e) (.bool h) (.slice q (dig B16 b).length d) (.int .i64 f) (.bool false) (.slice none 0 0) (.int .i64 0) 30 30 30
 have hp1 := hp.past hs1
 have hq1 := hq.past hs1
 have a1 := A1.c1
 have a2 := A1.c2
 have b1 := B1.c1
 have b2 := B1.c2
 have HW1 := hi0 hW1
 clear hW1
 have za := n0d a
 have zb := n0d b
 go_enter Tryz.func23, Tryz.ntmps23
 go_upto_if 16 with (fail)
 rw [← HW1.out]
 clear HW1
 go_cut [5] (fun s5 wx => s5 = .int .i64 (c1b a e f) ∧ wx = W1)
 case first =>
  go_wp2_with fail
  all_goals go_meet
  all_goals (refine ⟨?_, rfl⟩; unfold c1b; simp [*])
 case rest =>
  obtain ⟨rfl, rfl⟩ := hcut
  go_upto_if 22 with (fail)
  go_cut [5] (fun s5 wx => s5 = .int .i64 (g0f ⟨g, a, e⟩ ⟨h, b, f⟩) ∧ wx = wc)
  case first =>
   go_wp2_with fail
   all_goals go_meet
   all_goals (refine ⟨?_, rfl⟩; rw [e1v]; simp [*])
  case rest =>
   obtain ⟨rfl, rfl⟩ := hcut
   clear za zb
   go_wp2_with fail
   clear a1 a2 b1 b2
   obtain ⟨w1, hw1⟩ : ∃ w1, w1 = wc := ⟨_, rfl⟩
   subst hw1
   have HJ := hi0 (show f0e ⟨g, a, e⟩ ⟨h, b, f⟩ = bare (h0f g h (a * 2 ^ (e - g0f ⟨g, a, e⟩ ⟨h, b, f⟩).toNat) (b * 2 ^ (f - g0f ⟨g, a, e⟩ ⟨h, b, f⟩).toNat) (g0f ⟨g, a, e⟩ ⟨h, b, f⟩)) from rfl)
   have hk1 : -1000000 ≤ g0f ⟨g, a, e⟩ ⟨h, b, f⟩ ∧ g0f ⟨g, a, e⟩ ⟨h, b, f⟩ ≤ 1000000 := by unfold g0f; simp only; split; omega; split; omega; omega
   generalize g0f ⟨g, a, e⟩ ⟨h, b, f⟩ = k at *
   obtain ⟨N1, hN1⟩ : ∃ N1, N1 = (e - k).toNat := ⟨_, rfl⟩
   obtain ⟨N2, hN2⟩ : ∃ N2, N2 = (f - k).toNat := ⟨_, rfl⟩
   rw [← hN1, ← hN2] at HJ
   have n1 : N1 ≤ 2000000 := by omega
   have n2 : N2 ≤ 2000000 := by omega
   have e1 : IntKind.i64.wrap (e - k) = e - k := iwo
   have e2 : IntKind.i64.wrap (f - k) = f - k := iwo
   have m1 : max 0 (e - k) = (N1 : Int) := by omega
   have m2 : max 0 (f - k) = (N2 : Int) := by omega
   clear hN1 hN2
   go_cut [6, 7] (fun s6 s7 wx => ∃ (px : Option Addr) (cx : Nat) (py : Option Addr) (cy : Nat), s6 = .slice px (dig B16 (a * 2 ^ N1)).length cx ∧ s7 = .slice py (dig B16 (b * 2 ^ N2)).length cy ∧
     Rd wx .i64 px (dig B16 (a * 2 ^ N1)) ∧ Rd wx .i64 py (dig B16 (b * 2 ^ N2)) ∧ Below w1.heap.size w1 wx)
   case first =>
    go_region_held3 (fun w' => (w'.cell? ⟨w.heap.size, 1, none⟩ = some (.slice p (dig B16 a).length c) ∧ w'.cell? ⟨w.heap.size, 2, none⟩ = some (.int .i64 e)) ∧
        (w'.cell? ⟨w.heap.size + 1, 1, none⟩ = some (.slice q (dig B16 b).length d) ∧ w'.cell? ⟨w.heap.size + 1, 2, none⟩ = some (.int .i64 f)))
     (first | exact ⟨⟨A1.c1, A1.c2⟩, B1.c1, B1.c2⟩
            | (have D1 := A1.drew; have D2 := B1.drew; exact ⟨⟨D1.c1, D1.c2⟩, D2.c1, D2.c2⟩)
            | (have D1 := (A1.drew.past hbx).past hby; have D2 := (B1.drew.past hbx).past hby; exact ⟨⟨D1.c1, D1.c2⟩, D2.c1, D2.c2⟩)
            | (have D1 := (A1.drew.past hby).past hbx; have D2 := (B1.drew.past hby).past hbx; exact ⟨⟨D1.c1, D1.c2⟩, D2.c1, D2.c2⟩)
            | (have D1 := A1.drew.past hbx; have D2 := B1.drew.past hbx; exact ⟨⟨D1.c1, D1.c2⟩, D2.c1, D2.c2⟩)
            | (have D1 := A1.drew.past hby; have D2 := B1.drew.past hby; exact ⟨⟨D1.c1, D1.c2⟩, D2.c1, D2.c2⟩))
     (first
       | (go_at_call_of 57 (Value.slice p (dig B16 a).length c); refine (h0u p _ c a N1 _ ?_ rfl (by clear e1 e2 m1 m2; omega) (by clear e1 e2 m1 m2; omega)).mono ?_; (first | exact hp1.drew | exact hp1.drew.past hby); rintro ex wx ⟨px, cx, rfl, hrx, hcx, hfx, hbx⟩)
       | (go_at_call_of 57 (Value.slice q (dig B16 b).length d); refine (h0u q _ d b N2 _ ?_ rfl (by clear e1 e2 m1 m2; omega) (by clear e1 e2 m1 m2; omega)).mono ?_; (first | exact hq1.drew | exact hq1.drew.past hbx); rintro ey wy ⟨py, cy, rfl, hry, hcy, hfy, hby⟩))
    all_goals (clear e1 e2 m1 m2)
    all_goals (go_wp2_with fail)
    all_goals go_meet
    all_goals (first
      | exact ⟨px, cx, py, cy, rfl, rfl, hrx.past hby, hry, ((Below.refl _ _).drew.trans hbx).trans (hby.mono hbx.size)⟩
      | exact ⟨px, cx, py, cy, rfl, rfl, hrx, hry.past hbx, ((Below.refl _ _).drew.trans hby).trans (hbx.mono hby.size)⟩)
   case rest =>
    obtain ⟨px, cx, py, cy, rfl, rfl, hrx, hry, hb4⟩ := hcut
    clear e1 e2 m1 m2
    have lX : (dig B16 (a * 2 ^ N1)).length ≤ 2000000 := by have := s0t a N1; omega
    have lY : (dig B16 (b * 2 ^ N2)).length ≤ 2000000 := by have := s0t b N2; omega
    generalize a * 2 ^ N1 = x at *
    generalize b * 2 ^ N2 = y at *
    have hs4 := hs1.trans (hb4.mono hs1.size)
    have A4 := A1.past hb4
    have B4 := B1.past hb4
    have R4 := R1.past hb4
    have a0 := A4.c0
    have b0 := B4.c0
    have hzc := hb4.size
    clear a0 b0
    have hxy0 : 0 ≤ k + 1000000 := by omega
    by_cases hgh : g = h
    · subst hgh
      have HK := hi0 (HJ.out.trans (congrArg bare (show h0f g g x y k = ⟨g, x + y, k⟩ by unfold h0f; rw [if_pos rfl])))
      have hgg : (g == g) = true := by simp
      have lm : (dig B16 (x + y)).length ≤ 5000000 := by have := f0b a0e x y; omega
      have a0 := A4.c0
      have b0 := B4.c0
      go_wp2_with fail
      clear a0 b0
      obtain ⟨m, hm⟩ : ∃ m, x + y = m := ⟨_, rfl⟩
      have HM := hi0 hm
      rw [hm] at HK lm
      clear hm
      go_region_held3 (fun w' => w'.cell? ⟨w.heap.size, 0, none⟩ = some (.bool g))
       (first | exact A4.c0 | exact A4.drew.c0 | exact (A4.drew.past hb6).c0 | exact ((A4.drew.past hb6).past hb7).c0 | exact (((((A4.drew.past hb6).past hb7).set (by omega)).set (by omega)).set (by omega)).c0)
       (first | (go_at_call 61; refine (j0a px py _ _ cx cy x y _ hrx.drew hry.drew rfl rfl (by omega)).mono ?_; rw [HM.out]; rintro e6 w6 ⟨p6, c6, rfl, hr6, hc6, hf6, hb6⟩)
              | (go_at_call 62; refine (f0q g p6 _ c6 k m _ hr6 rfl (by omega) (by omega)).mono ?_; generalize bare ⟨g, m, k⟩ = rr at *; rintro e7 w7 ⟨p7, c7, rfl, hr7, hc7, hf7, hb7⟩; obtain ⟨d0, d1, d2, f0, f1, f2, dlt⟩ := (R4.drew.past hb6).past hb7))
      all_goals (go_wp2_with fail)
      refine bodyPost_ret (v := .agg #[.bool rr.neg, .slice p7 (dig B16 rr.m).length c7, .int .i64 rr.e]) (by simp [results, Tryz.results23, go_sem, d0, d1, d2]) rfl ?_
      rw [HK.out]
      have hzd : wc.drew.heap.size = wc.heap.size := rfl
      have hs6 := hs4.drew.trans (hb6.mono hs4.size)
      have hz6 := hb6.size
      have hzR := R4.lt
      have hzS := hs4.size
      have hf : 0 < (dig B16 rr.m).length → w6.heap.size ≤ blk p7 := fun h => by rcases hf7 h with h | h; exact h.elim; exact h
      exact f0m (hs6.trans (hb7.mono hs6.size)) hr7 hc7 (fun h => .inr (by have := hf h; omega)) (by omega) (fun h => by have := hf h; omega)
    · by_cases hxy : y ≤ x
      · have HK := hi0 (HJ.out.trans (congrArg bare (show h0f g h x y k = ⟨g, x - y, k⟩ by unfold h0f; rw [if_neg hgh, if_pos hxy])))
        have hgg : (g == h) = false := by simpa using hgh
        have hC : 0 ≤ cmpN x y := by unfold cmpN; rw [if_neg (by omega)]; split <;> omega
        have HXY := hi0 hxy
        have lm : (dig B16 (x - y)).length ≤ 5000000 := by have := a0k a0e (Nat.sub_le x y); omega
        clear hxy hgh
        have a0 := A4.c0
        have b0 := B4.c0
        go_wp2_with fail
        ((with_reducible refine (d0w px py _ _ cx cy x y _ hrx hry rfl rfl (by omega) (by omega)).mono ?_))
        rintro e9 w9 ⟨rfl, hb9⟩
        clear a0 b0
        have hs9 := hs4.trans (hb9.mono hs4.size)
        have hz9 := hb9.size
        replace A4 := A4.past hb9
        replace B4 := B4.past hb9
        replace R4 := R4.past hb9
        replace hrx := hrx.past hb9
        replace hry := hry.past hb9
        go_wp2_with fail
        obtain ⟨m, hm⟩ : ∃ m, x - y = m := ⟨_, rfl⟩
        have HM := hi0 hm
        rw [hm] at HK lm
        clear hm
        go_region_held3 (fun w' => w'.cell? ⟨w.heap.size, 0, none⟩ = some (.bool g))
         (first | exact A4.c0 | exact A4.drew.c0 | exact (A4.drew.past hb6).c0 | exact ((A4.drew.past hb6).past hb7).c0 | exact (((((A4.drew.past hb6).past hb7).set (by omega)).set (by omega)).set (by omega)).c0)
         (first | (go_at_call 78; refine (h0b px py _ _ cx cy x y _ hrx.drew hry.drew rfl rfl (by omega) HXY.out).mono ?_; rw [HM.out]; rintro e6 w6 ⟨p6, c6, rfl, hr6, hc6, hf6, hb6⟩)
                | (go_at_call 62; refine (f0q g p6 _ c6 k m _ hr6 rfl (by omega) (by omega)).mono ?_; generalize bare ⟨g, m, k⟩ = rr at *; rintro e7 w7 ⟨p7, c7, rfl, hr7, hc7, hf7, hb7⟩; obtain ⟨d0, d1, d2, f0, f1, f2, dlt⟩ := (R4.drew.past hb6).past hb7))
        all_goals (go_wp2_with fail)
        refine bodyPost_ret (v := .agg #[.bool rr.neg, .slice p7 (dig B16 rr.m).length c7, .int .i64 rr.e]) (by simp [results, Tryz.results23, go_sem, d0, d1, d2]) rfl ?_
        rw [HK.out]
        have hzd : w9.drew.heap.size = w9.heap.size := rfl
        have hs6 := hs9.drew.trans (hb6.mono hs9.size)
        have hz6 := hb6.size
        have hzR := R4.lt
        have hzS := hs9.size
        have hf : 0 < (dig B16 rr.m).length → w6.heap.size ≤ blk p7 := fun h => by rcases hf7 h with h | h; exact h.elim; exact h
        exact f0m (hs6.trans (hb7.mono hs6.size)) hr7 hc7 (fun h => .inr (by have := hf h; omega)) (by omega) (fun h => by have := hf h; omega)
      · have HK := hi0 (HJ.out.trans (congrArg bare (show h0f g h x y k = ⟨h, y - x, k⟩ by unfold h0f; rw [if_neg hgh, if_neg hxy])))
        have hgg : (g == h) = false := by simpa using hgh
        have hC : cmpN x y ≤ -1 := by rw [f0t (by omega)]; omega
        have HXY := hi0 (show x ≤ y by omega)
        have lm : (dig B16 (y - x)).length ≤ 5000000 := by have := a0k a0e (Nat.sub_le y x); omega
        clear hxy hgh
        have a0 := A4.c0
        have b0 := B4.c0
        go_wp2_with fail
        ((with_reducible refine (d0w px py _ _ cx cy x y _ hrx hry rfl rfl (by omega) (by omega)).mono ?_))
        rintro e9 w9 ⟨rfl, hb9⟩
        clear a0 b0
        have hs9 := hs4.trans (hb9.mono hs4.size)
        have hz9 := hb9.size
        replace A4 := A4.past hb9
        replace B4 := B4.past hb9
        replace R4 := R4.past hb9
        replace hrx := hrx.past hb9
        replace hry := hry.past hb9
        go_wp2_with fail
        obtain ⟨m, hm⟩ : ∃ m, y - x = m := ⟨_, rfl⟩
        have HM := hi0 hm
        rw [hm] at HK lm
        clear hm
        go_region_held3 (fun w' => w'.cell? ⟨w.heap.size + 1, 0, none⟩ = some (.bool h))
         (first | exact B4.c0 | exact B4.drew.c0 | exact (B4.drew.past hb6).c0 | exact ((B4.drew.past hb6).past hb7).c0 | exact (((((B4.drew.past hb6).past hb7).set (by omega)).set (by omega)).set (by omega)).c0)
         (first | (go_at_call 78; refine (h0b py px _ _ cy cx y x _ hry.drew hrx.drew rfl rfl (by omega) HXY.out).mono ?_; rw [HM.out]; rintro e6 w6 ⟨p6, c6, rfl, hr6, hc6, hf6, hb6⟩)
                | (go_at_call 62; refine (f0q h p6 _ c6 k m _ hr6 rfl (by omega) (by omega)).mono ?_; generalize bare ⟨h, m, k⟩ = rr at *; rintro e7 w7 ⟨p7, c7, rfl, hr7, hc7, hf7, hb7⟩; obtain ⟨d0, d1, d2, f0, f1, f2, dlt⟩ := (R4.drew.past hb6).past hb7))
        all_goals (go_wp2_with fail)
        refine bodyPost_ret (v := .agg #[.bool rr.neg, .slice p7 (dig B16 rr.m).length c7, .int .i64 rr.e]) (by simp [results, Tryz.results23, go_sem, d0, d1, d2]) rfl ?_
        rw [HK.out]
        have hzd : w9.drew.heap.size = w9.heap.size := rfl
        have hs6 := hs9.drew.trans (hb6.mono hs9.size)
        have hz6 := hb6.size
        have hzR := R4.lt
        have hzS := hs9.size
        have hf : 0 < (dig B16 rr.m).length → w6.heap.size ≤ blk p7 := fun h => by rcases hf7 h with h | h; exact h.elim; exact h
        exact f0m (hs6.trans (hb7.mono hs6.size)) hr7 hc7 (fun h => .inr (by have := hf h; omega)) (by omega) (fun h => by have := hf h; omega)
theorem n0z (g : Bool) (p : Option Addr) (n c : Nat) (e : Int) (a : Nat) (w : World) (hp : Rd w .i64 p (dig B16 a)) (hn : n = (dig B16 a).length) (hl : (dig B16 a).length ≤ 1000000) (he : -1000000 ≤ e ∧ e ≤ 1000000) :
 Calls Tryz.prog 27 #[.agg #[.bool g, .slice p n c, .int .i64 e]] w (e0j w .i64 (dig B16 (l0g ⟨g, a, e⟩))) := by
 subst hn
 have hs1 : Below w.heap.size w (w.alloc (.cells #[.bool g, .slice p (dig B16 a).length c, .int .i64 e] 30)) := (Below.refl _ _).alloc (Nat.le_refl _) _
 by_cases h0 : 0 ≤ e
 · obtain ⟨N, rfl⟩ : ∃ N : Nat, e = (N : Int) := ⟨e.toNat, by omega⟩
   have hd : l0g ⟨g, a, (N : Int)⟩ = a * 2 ^ N := by unfold l0g; simp
   rw [hd]
   clear hd
   go_enter Tryz.func27, Tryz.ntmps27
   go_wp2_with fail
   ((with_reducible refine (h0u p _ c a N _ (hp.past hs1) rfl (by omega) (by omega)).mono ?_))
   rintro e2 w2 ⟨p2, c2, rfl, hr2, hc2, hf2, hb2⟩
   go_wp2_with fail
   go_ret
   exact ⟨p2, c2, rfl, hr2, hc2, fun h => Nat.le_trans (by simp) (hf2 h), hs1.trans (hb2.mono hs1.size)⟩
 · obtain ⟨N, hN⟩ : ∃ N : Nat, -e = (N : Int) := ⟨(-e).toNat, by omega⟩
   have hd : l0g ⟨g, a, e⟩ = a / 2 ^ N := by unfold l0g; rw [if_neg h0, hN]; simp
   rw [hd]
   have e1 : IntKind.i64.wrap (-e) = (N : Int) := by rw [iwo]; exact hN
   have t1 : e < 0 := by omega
   clear hd h0
   go_enter Tryz.func27, Tryz.ntmps27
   go_wp2_with fail
   ((with_reducible refine (n0c p _ c a N _ (hp.past hs1) rfl (by omega) (by omega)).mono ?_))
   rintro e2 w2 ⟨p2, c2, rfl, hr2, hc2, hf2, hb2⟩
   go_wp2_with fail
   go_ret
   exact ⟨p2, c2, rfl, hr2, hc2, fun h => Nat.le_trans (by simp) (hf2 h), hs1.trans (hb2.mono hs1.size)⟩
end Go.Proofs.YtmacohmclpnphaaGreatDoor
namespace Go.Slip
end Go.Slip
namespace Go.Proofs.YtmacohmclpnphaaGreatDoor
open Go.RowKit Go.Slip
theorem n0e : dig B16 1 = [1] := by rw [d0m a0e (by omega), show 1 / B16 = 0 by unfold B16; omega, a0c, show 1 % B16 = 1 by unfold B16; omega]
theorem c1c (x y : Int) : (if y > x then y else x) = max x y := by split <;> omega
theorem w0n {w : World} {b : Nat} {t : TypeId} (h : Bt w b t #[.int .i64 1]) : Rf w b (some ⟨b, 0, none⟩) 1 (dig B16 1) := by rw [n0e]; exact f1x (k := 1) h
theorem h0v : 1 = (dig B16 1).length := by rw [n0e]; rfl
theorem stay {P : Program} {f : FuncId} {args : Array Value} {w : World} {E : Ending} (h : Calls P f args w fun e w' => e = E ∧ w = w') : Calls P f args w fun e w' => e = E ∧ Below w.heap.size w w' :=
 h.mono fun e w' ⟨h1, h2⟩ => ⟨h1, by subst h2; exact Below.refl _ _⟩
theorem s0v {a b : Nat} (h : cmpN a b = 0) : a = b := by
 unfold cmpN at h
 split at h
 · omega
 · split at h <;> omega
theorem k1u {n : Nat} (x : Nat) (hl : (dig B32 x).length ≤ n) : tz x ≤ 32 * n := by
 rcases Nat.eq_zero_or_pos x with h | h
 · rw [h, y0z]; omega
 · have h1 := (c0s x h).1
   have h2 := (a0g a0b x n).1 hl
   have h3 : 2 ^ tz x ≤ x := by
    have : 0 < x / 2 ^ tz x := by
     rcases Nat.eq_zero_or_pos (x / 2 ^ tz x) with h4 | h4
     · rw [h4, Nat.mul_zero] at h1; omega
     · exact h4
    have h5 := Nat.mul_le_mul_left (2 ^ tz x) this
    omega
   rw [show B32 = 2 ^ 32 from rfl, ← Nat.pow_mul] at h2
   have h6 := (Nat.pow_lt_pow_iff_right (a := 2) (by omega)).1 (Nat.lt_of_le_of_lt h3 h2)
   omega
theorem m1e (x : Nat) (hl : (dig B32 x).length ≤ 1000) : tz x ≤ 32000 := k1u x hl
def g1l (w : World) (base : Nat) (d : Dc) (en : Ending) (w' : World) : Prop :=
 ∃ p c, en = .returned (.tuple #[.int .i64 (d.cls : Int), .slice p (dig B32 d.m).length c, .int .i64 d.p]) ∧ Own w' base .u32 141 p c (dig B32 d.m) ∧ Below w.heap.size w w'
theorem d0e {w w' : World} {base : Nat} {k : Nat} {en : Ending} (h : en = .returned (.tuple #[.int .i64 (k : Int), .slice none 0 0, .int .i64 0])) (hb : Below w.heap.size w w') : g1l w base ⟨k, 0, 0⟩ en w' := by
 refine ⟨none, 0, ?_, ?_, hb⟩
 · rw [h, a0c]; rfl
 · rw [a0c]; exact Own.nil _ _ _ _
theorem c1d (f : Fm) (g : Bool) (e x : Nat) (p : Option Addr) (c base : Nat) (w : World) (G : c0e f) (hp : Own w base .u32 141 p c (dig B32 x)) (hb : base ≤ w.heap.size) (he : e < 2 ^ f.E) (hx : x < 2 ^ f.F) :
 Calls Tryz.prog 149 #[.agg #[.int .i64 (f.size : Int), .int .i64 (f.E : Int), .int .i64 (f.F : Int), .int .i64 f.g.rad, .int .i64 f.g.digs, .int .i64 f.g.lo, .int .i64 f.g.hi, .bool f.g.grad, .bool f.hid, .bool f.inf, .bool f.res, .func (.func (ordF f)) #[] #[]], .agg #[.bool g, .int .i64 (e : Int), .slice p (dig B32 x).length c]] w (g1l w base (f.dec g e x)) := by
 have z2 := G.e2
 have z3 := G.f2
 have z4 := G.lo
 have hxl := a0u hx (k := 2) (by omega)
 have hx0 := a0f a0b x
 have h0T : 0 < 2 ^ f.E := Nat.pow_pos (by omega)
 have h0T2 : 2 ^ f.E ≤ 2 ^ 15 := Nat.pow_le_pow_right (by omega) (by omega)
 have HSH := hi0 (q0m (E := f.E) (by omega))
 by_cases f2 : f.fam = 2
 · have hD : f.dec g e x = ⟨2, x, f.g.lo + e⟩ := by unfold Fm.dec; rw [if_pos f2]
   rw [hD]
   generalize 2 ^ f.E = P at *
   have r1 := G.rad
   rw [if_pos f2] at r1
   have I := Inv.start w [ownF base .u32 141 p c (dig B32 x)] ⟨hp, True.intro⟩
   refine a0d [.v (.agg #[.int .i64 (f.size : Int), .int .i64 (f.E : Int), .int .i64 (f.F : Int), .int .i64 f.g.rad, .int .i64 f.g.digs, .int .i64 f.g.lo, .int .i64 f.g.hi, .bool f.g.grad, .bool f.hid, .bool f.inf, .bool f.res, .func (.func (ordF f)) #[] #[]]), .v (.agg #[.bool g, .int .i64 (e : Int), .slice p (dig B32 x).length c])] I Tryz.func149 ?_
   refine zbin I 11 _ (fun _ _ _ _ _ => c0q .i64 (1) .i64 (f.E : Int) ((P : Int)) (by omega) ((HSH.out))) fun Al W I => ?_
   refine zi I 12 .i64 ((P : Int) - 1) (((P - 1 : Nat) : Int)) ((by rw [show ((P : Int) - 1) = ((P - 1 : Nat) : Int) by omega]; exact iwo)) fun Al W I => ?_
   refine zb I 20 (f.g.rad == 16) (true) (beq_iff_eq.2 r1) fun Al W I => ?_
   refine zd [] I fun Al W I => ?_
   refine zk [0, 1, 2, 3, 4] I fun I => ?_
   refine zki 5 I .i64 (f.g.lo + (e : Int)) (f.g.lo + (e : Int)) (iwo) fun I => ?_
   refine zk [6, 7, 8] I fun I => ?_
   exact zret I fun Al W I => ⟨p, c, rfl, I.fa.1, I.below⟩
 · have r1 := G.rad
   rw [if_neg f2] at r1
   have hr : (f.g.rad == 16) = false := by rw [r1]; rfl
   by_cases f1 : f.fam = 1
   · have hinf : f.inf = true := by unfold Fm.inf; rw [f1]; rfl
     have hres : f.res = false := by unfold Fm.res; rw [f1]; rfl
     by_cases hl : e = 2 ^ f.E - 1
     · by_cases hex : f.ext = false
       · have hhid : f.hid = true := by unfold Fm.hid; rw [f1, hex]; rfl
         by_cases h0 : x = 0
         · have hD : f.dec g e x = ⟨3, 0, 0⟩ := by unfold Fm.dec; rw [if_neg f2, if_pos ⟨f1, hl⟩, if_pos (.inl ⟨hex, h0⟩)]
           rw [hD]
           generalize 2 ^ f.E = P at *
           have I := Inv.start w [ownF base .u32 141 p c (dig B32 x)] ⟨hp, True.intro⟩
           refine a0d [.v (.agg #[.int .i64 (f.size : Int), .int .i64 (f.E : Int), .int .i64 (f.F : Int), .int .i64 f.g.rad, .int .i64 f.g.digs, .int .i64 f.g.lo, .int .i64 f.g.hi, .bool f.g.grad, .bool f.hid, .bool f.inf, .bool f.res, .func (.func (ordF f)) #[] #[]]), .v (.agg #[.bool g, .int .i64 (e : Int), .slice p (dig B32 x).length c])] I Tryz.func149 ?_
           refine zbin I 11 _ (fun _ _ _ _ _ => c0q .i64 (1) .i64 (f.E : Int) ((P : Int)) (by omega) ((HSH.out))) fun Al W I => ?_
           refine zi I 12 .i64 ((P : Int) - 1) (((P - 1 : Nat) : Int)) ((by rw [show ((P : Int) - 1) = ((P - 1 : Nat) : Int) by omega]; exact iwo)) fun Al W I => ?_
           refine zb I 20 (f.g.rad == 16) (false) (hr) fun Al W I => ?_
           refine zb I 29 (f.inf) (true) (hinf) fun Al W I => ?_
           refine zb I 34 ((e : Int) == ((P - 1 : Nat) : Int)) (true) (beq_iff_eq.2 (by omega)) fun Al W I => ?_
           refine zd [] I fun Al W I => ?_
           refine zk [0] I fun I => ?_
           refine zkb 1 I (f.hid) (true) (hhid) fun I => ?_
           refine zk [2, 3, 4, 5] I fun I => ?_
           refine zkb 6 I ((((dig B32 x).length : Nat) : Int) == 0) (true) (beq_iff_eq.2 (by omega)) fun I => ?_
           refine zk [7, 8, 9, 10, 11, 12, 13, 14, 15, 16, 17, 18, 19] I fun I => ?_
           exact zret I fun Al W I => d0e (k := 3) rfl I.below
         · have hD : f.dec g e x = ⟨4, 0, 0⟩ := by unfold Fm.dec; rw [if_neg f2, if_pos ⟨f1, hl⟩, if_neg (by simp [hex, h0])]
           rw [hD]
           generalize 2 ^ f.E = P at *
           have I := Inv.start w [ownF base .u32 141 p c (dig B32 x)] ⟨hp, True.intro⟩
           refine a0d [.v (.agg #[.int .i64 (f.size : Int), .int .i64 (f.E : Int), .int .i64 (f.F : Int), .int .i64 f.g.rad, .int .i64 f.g.digs, .int .i64 f.g.lo, .int .i64 f.g.hi, .bool f.g.grad, .bool f.hid, .bool f.inf, .bool f.res, .func (.func (ordF f)) #[] #[]]), .v (.agg #[.bool g, .int .i64 (e : Int), .slice p (dig B32 x).length c])] I Tryz.func149 ?_
           refine zbin I 11 _ (fun _ _ _ _ _ => c0q .i64 (1) .i64 (f.E : Int) ((P : Int)) (by omega) ((HSH.out))) fun Al W I => ?_
           refine zi I 12 .i64 ((P : Int) - 1) (((P - 1 : Nat) : Int)) ((by rw [show ((P : Int) - 1) = ((P - 1 : Nat) : Int) by omega]; exact iwo)) fun Al W I => ?_
           refine zb I 20 (f.g.rad == 16) (false) (hr) fun Al W I => ?_
           refine zb I 29 (f.inf) (true) (hinf) fun Al W I => ?_
           refine zb I 34 ((e : Int) == ((P - 1 : Nat) : Int)) (true) (beq_iff_eq.2 (by omega)) fun Al W I => ?_
           refine zd [] I fun Al W I => ?_
           refine zk [0] I fun I => ?_
           refine zkb 1 I (f.hid) (true) (hhid) fun I => ?_
           refine zk [2, 3, 4, 5] I fun I => ?_
           refine zkb 6 I ((((dig B32 x).length : Nat) : Int) == 0) (false) (bFn (by omega)) fun I => ?_
           refine zk [7, 8, 9] I fun I => ?_
           refine zkb 10 I (f.hid) (true) (hhid) fun I => ?_
           refine zk [11, 12, 13, 14, 15, 16, 17, 18, 19] I fun I => ?_
           exact zret I fun Al W I => d0e (k := 4) rfl I.below
       · have hex : f.ext = true := by simpa using hex
         have hhid : f.hid = false := by unfold Fm.hid; rw [f1, hex]; rfl
         have hl63 : (dig B32 (2 ^ 63)).length ≤ 2 := a0u (n := 64) (by omega) (by omega)
         by_cases h0 : x = 2 ^ 63
         · have hD : f.dec g e x = ⟨3, 0, 0⟩ := by unfold Fm.dec; rw [if_neg f2, if_pos ⟨f1, hl⟩, if_pos (.inr ⟨hex, h0⟩)]
           have hcm : cmpN x (2 ^ 63) = 0 := by rw [h0]; unfold cmpN; simp
           rw [hD]
           generalize 2 ^ f.E = P at *
           have I := Inv.start w [ownF base .u32 141 p c (dig B32 x)] ⟨hp, True.intro⟩
           refine a0d [.v (.agg #[.int .i64 (f.size : Int), .int .i64 (f.E : Int), .int .i64 (f.F : Int), .int .i64 f.g.rad, .int .i64 f.g.digs, .int .i64 f.g.lo, .int .i64 f.g.hi, .bool f.g.grad, .bool f.hid, .bool f.inf, .bool f.res, .func (.func (ordF f)) #[] #[]]), .v (.agg #[.bool g, .int .i64 (e : Int), .slice p (dig B32 x).length c])] I Tryz.func149 ?_
           refine zbin I 11 _ (fun _ _ _ _ _ => c0q .i64 (1) .i64 (f.E : Int) ((P : Int)) (by omega) ((HSH.out))) fun Al W I => ?_
           refine zi I 12 .i64 ((P : Int) - 1) (((P - 1 : Nat) : Int)) ((by rw [show ((P : Int) - 1) = ((P - 1 : Nat) : Int) by omega]; exact iwo)) fun Al W I => ?_
           refine zb I 20 (f.g.rad == 16) (false) (hr) fun Al W I => ?_
           refine zb I 29 (f.inf) (true) (hinf) fun Al W I => ?_
           refine zb I 34 ((e : Int) == ((P - 1 : Nat) : Int)) (true) (beq_iff_eq.2 (by omega)) fun Al W I => ?_
           refine zd [] I fun Al W I => ?_
           refine zk [0] I fun I => ?_
           refine zkb 1 I (f.hid) (false) (hhid) fun I => ?_
           refine zk [2, 3, 4, 5, 6, 7, 8, 9] I fun I => ?_
           refine zkb 10 I (f.hid) (false) (hhid) fun I => ?_
           refine zk [11, 12, 13, 14] I fun I => ?_
           refine zo 15 I fun I => ?_
           refine zqo I (fun Al W I => have hzW := I.bel.size; g0a 63 (2 ^ 63) 63 W (by omega) rfl rfl) fun Al W p51 c51 I => ?_
           refine zo 16 I fun I => ?_
           refine zq I (fun Al W I => have hzW := I.bel.size; e0q p p51 _ _ c c51 x (2 ^ 63) W I.fa.2.1.rd I.fa.1.rd rfl rfl (by omega) (by omega)) fun Al W I => ?_
           refine zkb 17 I ((cmpN x (2 ^ 63)) == 0) (true) (by rw [hcm]; rfl) fun I => ?_
           refine zk [18, 19] I fun I => ?_
           exact zret I fun Al W I => d0e (k := 3) rfl I.below
         · have hD : f.dec g e x = ⟨4, 0, 0⟩ := by unfold Fm.dec; rw [if_neg f2, if_pos ⟨f1, hl⟩, if_neg (by simp [hex]; omega)]
           have hcm : (cmpN x (2 ^ 63) == 0) = false := by rw [beq_eq_false_iff_ne]; intro h; exact h0 (s0v h)
           rw [hD]
           generalize 2 ^ f.E = P at *
           have I := Inv.start w [ownF base .u32 141 p c (dig B32 x)] ⟨hp, True.intro⟩
           refine a0d [.v (.agg #[.int .i64 (f.size : Int), .int .i64 (f.E : Int), .int .i64 (f.F : Int), .int .i64 f.g.rad, .int .i64 f.g.digs, .int .i64 f.g.lo, .int .i64 f.g.hi, .bool f.g.grad, .bool f.hid, .bool f.inf, .bool f.res, .func (.func (ordF f)) #[] #[]]), .v (.agg #[.bool g, .int .i64 (e : Int), .slice p (dig B32 x).length c])] I Tryz.func149 ?_
           refine zbin I 11 _ (fun _ _ _ _ _ => c0q .i64 (1) .i64 (f.E : Int) ((P : Int)) (by omega) ((HSH.out))) fun Al W I => ?_
           refine zi I 12 .i64 ((P : Int) - 1) (((P - 1 : Nat) : Int)) ((by rw [show ((P : Int) - 1) = ((P - 1 : Nat) : Int) by omega]; exact iwo)) fun Al W I => ?_
           refine zb I 20 (f.g.rad == 16) (false) (hr) fun Al W I => ?_
           refine zb I 29 (f.inf) (true) (hinf) fun Al W I => ?_
           refine zb I 34 ((e : Int) == ((P - 1 : Nat) : Int)) (true) (beq_iff_eq.2 (by omega)) fun Al W I => ?_
           refine zd [] I fun Al W I => ?_
           refine zk [0] I fun I => ?_
           refine zkb 1 I (f.hid) (false) (hhid) fun I => ?_
           refine zk [2, 3, 4, 5, 6, 7, 8, 9] I fun I => ?_
           refine zkb 10 I (f.hid) (false) (hhid) fun I => ?_
           refine zk [11, 12, 13, 14] I fun I => ?_
           refine zo 15 I fun I => ?_
           refine zqo I (fun Al W I => have hzW := I.bel.size; g0a 63 (2 ^ 63) 63 W (by omega) rfl rfl) fun Al W p51 c51 I => ?_
           refine zo 16 I fun I => ?_
           refine zq I (fun Al W I => have hzW := I.bel.size; e0q p p51 _ _ c c51 x (2 ^ 63) W I.fa.2.1.rd I.fa.1.rd rfl rfl (by omega) (by omega)) fun Al W I => ?_
           refine zkb 17 I ((cmpN x (2 ^ 63)) == 0) (false) (hcm) fun I => ?_
           refine zk [18, 19] I fun I => ?_
           exact zret I fun Al W I => d0e (k := 4) rfl I.below
     · by_cases h0 : e = 0
       · have hD : f.dec g e x = ⟨2, x, f.g.lo⟩ := by unfold Fm.dec; rw [if_neg f2, if_neg (fun h => hl h.2), if_neg (by omega), if_pos h0]
         rw [hD]
         generalize 2 ^ f.E = P at *
         have I := Inv.start w [ownF base .u32 141 p c (dig B32 x)] ⟨hp, True.intro⟩
         refine a0d [.v (.agg #[.int .i64 (f.size : Int), .int .i64 (f.E : Int), .int .i64 (f.F : Int), .int .i64 f.g.rad, .int .i64 f.g.digs, .int .i64 f.g.lo, .int .i64 f.g.hi, .bool f.g.grad, .bool f.hid, .bool f.inf, .bool f.res, .func (.func (ordF f)) #[] #[]]), .v (.agg #[.bool g, .int .i64 (e : Int), .slice p (dig B32 x).length c])] I Tryz.func149 ?_
         refine zbin I 11 _ (fun _ _ _ _ _ => c0q .i64 (1) .i64 (f.E : Int) ((P : Int)) (by omega) ((HSH.out))) fun Al W I => ?_
         refine zi I 12 .i64 ((P : Int) - 1) (((P - 1 : Nat) : Int)) ((by rw [show ((P : Int) - 1) = ((P - 1 : Nat) : Int) by omega]; exact iwo)) fun Al W I => ?_
         refine zb I 20 (f.g.rad == 16) (false) (hr) fun Al W I => ?_
         refine zb I 29 (f.inf) (true) (hinf) fun Al W I => ?_
         refine zb I 34 ((e : Int) == ((P - 1 : Nat) : Int)) (false) (bFn (by omega)) fun Al W I => ?_
         refine zb I 59 ((e : Int) == 0) (true) (beq_iff_eq.2 (by omega)) fun Al W I => ?_
         refine zb I 62 (f.res) (false) (hres) fun Al W I => ?_
         refine zb I 69 ((e : Int) == 0) (true) (beq_iff_eq.2 (by omega)) fun Al W I => ?_
         refine zd [] I fun Al W I => ?_
         refine zk [0, 1, 2, 3, 4, 5] I fun I => ?_
         exact zret I fun Al W I => ⟨p, c, rfl, I.fa.1, I.below⟩
       · by_cases hex : f.ext = false
         · have hhid : f.hid = true := by unfold Fm.hid; rw [f1, hex]; rfl
           have hD : f.dec g e x = ⟨2, x + 2 ^ f.F, f.g.lo + e - 1⟩ := by unfold Fm.dec; rw [if_neg f2, if_neg (fun h => hl h.2), if_neg (by omega), if_neg h0, if_pos hex]
           have hlF : (dig B32 (2 ^ f.F)).length ≤ 3 := a0u (n := f.F + 1) (Nat.pow_lt_pow_right (by omega) (by omega)) (by omega)
           rw [hD]
           generalize 2 ^ f.E = P at *
           have I := Inv.start w [ownF base .u32 141 p c (dig B32 x)] ⟨hp, True.intro⟩
           refine a0d [.v (.agg #[.int .i64 (f.size : Int), .int .i64 (f.E : Int), .int .i64 (f.F : Int), .int .i64 f.g.rad, .int .i64 f.g.digs, .int .i64 f.g.lo, .int .i64 f.g.hi, .bool f.g.grad, .bool f.hid, .bool f.inf, .bool f.res, .func (.func (ordF f)) #[] #[]]), .v (.agg #[.bool g, .int .i64 (e : Int), .slice p (dig B32 x).length c])] I Tryz.func149 ?_
           refine zbin I 11 _ (fun _ _ _ _ _ => c0q .i64 (1) .i64 (f.E : Int) ((P : Int)) (by omega) ((HSH.out))) fun Al W I => ?_
           refine zi I 12 .i64 ((P : Int) - 1) (((P - 1 : Nat) : Int)) ((by rw [show ((P : Int) - 1) = ((P - 1 : Nat) : Int) by omega]; exact iwo)) fun Al W I => ?_
           refine zb I 20 (f.g.rad == 16) (false) (hr) fun Al W I => ?_
           refine zb I 29 (f.inf) (true) (hinf) fun Al W I => ?_
           refine zb I 34 ((e : Int) == ((P - 1 : Nat) : Int)) (false) (bFn (by omega)) fun Al W I => ?_
           refine zb I 59 ((e : Int) == 0) (false) (bFn (by omega)) fun Al W I => ?_
           refine zb I 69 ((e : Int) == 0) (false) (bFn (by omega)) fun Al W I => ?_
           refine zb I 75 (f.hid) (true) (hhid) fun Al W I => ?_
           refine zd [] I fun Al W I => ?_
           refine zk [0, 1, 2, 3, 6, 7, 8] I fun I => ?_
           refine zki 9 I .i64 (f.g.lo + (e : Int)) (f.g.lo + (e : Int)) (iwo) fun I => ?_
           refine zki 10 I .i64 ((f.g.lo + (e : Int)) - 1) ((f.g.lo + (e : Int)) - 1) (iwo) fun I => ?_
           refine zo 4 I fun I => ?_
           refine zqo I (fun Al W I => have hzW := I.bel.size; g0a f.F (2 ^ f.F) _ W (by omega) rfl rfl) fun Al W p80 c80 I => ?_
           refine zo 5 I fun I => ?_
           refine zqo I (fun Al W I => have hzW := I.bel.size; sadd p p80 _ _ c c80 x (2 ^ f.F) (x + 2 ^ f.F) W I.fa.2.1.rd I.fa.1.rd rfl rfl (by omega) (by omega) rfl) fun Al W p81 c81 I => ?_
           refine zk [11, 12, 13] I fun I => ?_
           exact zret I fun Al W I => ⟨p81, c81, rfl, I.fa.1.mono (by omega), I.below⟩
         · have hex : f.ext = true := by simpa using hex
           have hhid : f.hid = false := by unfold Fm.hid; rw [f1, hex]; rfl
           by_cases h63 : x < 2 ^ 63
           · have hD : f.dec g e x = ⟨4, 0, 0⟩ := by unfold Fm.dec; rw [if_neg f2, if_neg (fun h => hl h.2), if_neg (by omega), if_neg h0, if_neg (by simp [hex]), if_pos h63]
             have hbl : blen x < 64 := by have := (b0i x 63).2 h63; omega
             rw [hD]
             generalize 2 ^ f.E = P at *
             have I := Inv.start w [ownF base .u32 141 p c (dig B32 x)] ⟨hp, True.intro⟩
             refine a0d [.v (.agg #[.int .i64 (f.size : Int), .int .i64 (f.E : Int), .int .i64 (f.F : Int), .int .i64 f.g.rad, .int .i64 f.g.digs, .int .i64 f.g.lo, .int .i64 f.g.hi, .bool f.g.grad, .bool f.hid, .bool f.inf, .bool f.res, .func (.func (ordF f)) #[] #[]]), .v (.agg #[.bool g, .int .i64 (e : Int), .slice p (dig B32 x).length c])] I Tryz.func149 ?_
             refine zbin I 11 _ (fun _ _ _ _ _ => c0q .i64 (1) .i64 (f.E : Int) ((P : Int)) (by omega) ((HSH.out))) fun Al W I => ?_
             refine zi I 12 .i64 ((P : Int) - 1) (((P - 1 : Nat) : Int)) ((by rw [show ((P : Int) - 1) = ((P - 1 : Nat) : Int) by omega]; exact iwo)) fun Al W I => ?_
             refine zb I 20 (f.g.rad == 16) (false) (hr) fun Al W I => ?_
             refine zb I 29 (f.inf) (true) (hinf) fun Al W I => ?_
             refine zb I 34 ((e : Int) == ((P - 1 : Nat) : Int)) (false) (bFn (by omega)) fun Al W I => ?_
             refine zb I 59 ((e : Int) == 0) (false) (bFn (by omega)) fun Al W I => ?_
             refine zb I 69 ((e : Int) == 0) (false) (bFn (by omega)) fun Al W I => ?_
             refine zb I 75 (f.hid) (false) (hhid) fun Al W I => ?_
             refine zq I (fun Al W I => have hzW := I.bel.size; stay (f0w p _ c x W I.fa.1.rd rfl (by omega))) fun Al W I => ?_
             refine zb I 91 (decide (((blen x : Nat) : Int) < 64)) (true) (dTr (by omega)) fun Al W I => ?_
             exact zret I fun Al W I => d0e (k := 4) rfl I.below
           · have hD : f.dec g e x = ⟨2, x, f.g.lo + e - 1⟩ := by unfold Fm.dec; rw [if_neg f2, if_neg (fun h => hl h.2), if_neg (by omega), if_neg h0, if_neg (by simp [hex]), if_neg h63]
             have hbl : 64 ≤ blen x := by have := (b0i x 63).1; omega
             rw [hD]
             generalize 2 ^ f.E = P at *
             have I := Inv.start w [ownF base .u32 141 p c (dig B32 x)] ⟨hp, True.intro⟩
             refine a0d [.v (.agg #[.int .i64 (f.size : Int), .int .i64 (f.E : Int), .int .i64 (f.F : Int), .int .i64 f.g.rad, .int .i64 f.g.digs, .int .i64 f.g.lo, .int .i64 f.g.hi, .bool f.g.grad, .bool f.hid, .bool f.inf, .bool f.res, .func (.func (ordF f)) #[] #[]]), .v (.agg #[.bool g, .int .i64 (e : Int), .slice p (dig B32 x).length c])] I Tryz.func149 ?_
             refine zbin I 11 _ (fun _ _ _ _ _ => c0q .i64 (1) .i64 (f.E : Int) ((P : Int)) (by omega) ((HSH.out))) fun Al W I => ?_
             refine zi I 12 .i64 ((P : Int) - 1) (((P - 1 : Nat) : Int)) ((by rw [show ((P : Int) - 1) = ((P - 1 : Nat) : Int) by omega]; exact iwo)) fun Al W I => ?_
             refine zb I 20 (f.g.rad == 16) (false) (hr) fun Al W I => ?_
             refine zb I 29 (f.inf) (true) (hinf) fun Al W I => ?_
             refine zb I 34 ((e : Int) == ((P - 1 : Nat) : Int)) (false) (bFn (by omega)) fun Al W I => ?_
             refine zb I 59 ((e : Int) == 0) (false) (bFn (by omega)) fun Al W I => ?_
             refine zb I 69 ((e : Int) == 0) (false) (bFn (by omega)) fun Al W I => ?_
             refine zb I 75 (f.hid) (false) (hhid) fun Al W I => ?_
             refine zq I (fun Al W I => have hzW := I.bel.size; stay (f0w p _ c x W I.fa.1.rd rfl (by omega))) fun Al W I => ?_
             refine zb I 91 (decide (((blen x : Nat) : Int) < 64)) (false) (dFa (by omega)) fun Al W I => ?_
             refine zd [] I fun Al W I => ?_
             refine zk [0, 1, 2, 3, 4] I fun I => ?_
             refine zki 5 I .i64 (f.g.lo + (e : Int)) (f.g.lo + (e : Int)) (iwo) fun I => ?_
             refine zki 6 I .i64 ((f.g.lo + (e : Int)) - 1) ((f.g.lo + (e : Int)) - 1) (iwo) fun I => ?_
             refine zk [7, 8, 9] I fun I => ?_
             exact zret I fun Al W I => ⟨p, c, rfl, I.fa.1, I.below⟩
   · have f3 : f.fam = 3 := by have := G.fam; omega
     have hex : f.ext = false := by
      cases hh : f.ext with
      | false => rfl
      | true => exact absurd (G.ext hh).1 f1
     have hinf : f.inf = false := by unfold Fm.inf; rw [f3]; rfl
     have hres : f.res = true := by unfold Fm.res; rw [f3]; rfl
     have hhid : f.hid = true := by unfold Fm.hid; rw [f3, hex]; rfl
     by_cases h0 : e = 0
     · cases g with
       | true =>
        have hD : f.dec true e x = ⟨5, 0, 0⟩ := by unfold Fm.dec; rw [if_neg f2, if_neg (fun h => f1 h.1), if_pos ⟨f3, h0⟩, if_pos rfl]
        rw [hD]
        generalize 2 ^ f.E = P at *
        have I := Inv.start w [] True.intro
        refine a0d [.v (.agg #[.int .i64 (f.size : Int), .int .i64 (f.E : Int), .int .i64 (f.F : Int), .int .i64 f.g.rad, .int .i64 f.g.digs, .int .i64 f.g.lo, .int .i64 f.g.hi, .bool f.g.grad, .bool f.hid, .bool f.inf, .bool f.res, .func (.func (ordF f)) #[] #[]]), .v (.agg #[.bool true, .int .i64 (e : Int), .slice p (dig B32 x).length c])] I Tryz.func149 ?_
        refine zbin I 11 _ (fun _ _ _ _ _ => c0q .i64 (1) .i64 (f.E : Int) ((P : Int)) (by omega) ((HSH.out))) fun Al W I => ?_
        refine zi I 12 .i64 ((P : Int) - 1) (((P - 1 : Nat) : Int)) ((by rw [show ((P : Int) - 1) = ((P - 1 : Nat) : Int) by omega]; exact iwo)) fun Al W I => ?_
        refine zb I 20 (f.g.rad == 16) (false) (hr) fun Al W I => ?_
        refine zb I 29 (f.inf) (false) (hinf) fun Al W I => ?_
        refine zb I 59 ((e : Int) == 0) (true) (beq_iff_eq.2 (by omega)) fun Al W I => ?_
        refine zb I 62 (f.res) (true) (hres) fun Al W I => ?_
        exact zret I fun Al W I => d0e (k := 5) rfl I.below
       | false =>
        have hD : f.dec false e x = ⟨1, 0, 0⟩ := by unfold Fm.dec; rw [if_neg f2, if_neg (fun h => f1 h.1), if_pos ⟨f3, h0⟩, if_neg (by simp)]
        rw [hD]
        generalize 2 ^ f.E = P at *
        have hT3 : d0o Tryz.prog 3 := c0l (by kernel_rfl) (by kernel_rfl)
        have hT4 : d0o Tryz.prog 4 := c0l (by kernel_rfl) (by kernel_rfl)
        refine calls_of_wp Tryz.func149 rfl ?_
        refine a0s (a' := ⟨((.agg #[.int .i64 (f.size : Int), .int .i64 (f.E : Int), .int .i64 (f.F : Int), .int .i64 f.g.rad, .int .i64 f.g.digs, .int .i64 f.g.lo, .int .i64 f.g.hi, .bool f.g.grad, .bool f.hid, .bool f.inf, .bool f.res, .func (.func (ordF f)) #[] #[]]) :: (.agg #[.bool false, .int .i64 (e : Int), .slice p (dig B32 x).length c]) :: us 97 []).toArray, []⟩) (by kernel_rfl) ?_
        refine ye ?_
        refine yw 0 rfl 2 #[.int .i64 (f.size : Int), .int .i64 (f.E : Int), .int .i64 (f.F : Int), .int .i64 f.g.rad, .int .i64 f.g.digs, .int .i64 f.g.lo, .int .i64 f.g.hi, .bool f.g.grad, .bool f.hid, .bool f.inf, .bool f.res, .func (.func (ordF f)) #[] #[]] 146 (fun V1 hbV1 hzV1 b2 => ?_)
        refine yw 0 rfl 3 #[.bool false, .int .i64 (e : Int), .slice p (dig B32 x).length c] 157 (fun V2 hbV2 hzV2 b3 => ?_)
        refine yzt 3 ?_
        refine ye ?_
        replace b2 := (b2.past hbV2)
        refine yl 1 rfl 10 b2 hT3 1 ?_
        refine yv 0 rfl 11 (.int .i64 (P : Int)) ?_ (l0u (X := (1)) (Y := (f.E : Int)) (k2 := .i64) (P : Int) (by kernel_rfl) (by kernel_rfl) (by omega) ((HSH.out)))
        refine ya 0 rfl 12 .i64 ((P : Int) - 1) (((P - 1 : Nat) : Int)) ((by rw [show ((P : Int) - 1) = ((P - 1 : Nat) : Int) by omega]; exact iwo)) ?_
        refine yzt 1 ?_
        refine ye ?_
        refine yl 2 rfl 15 b2 hT3 5 ?_
        refine yzt 1 ?_
        refine wp_seq ?_
        refine wp_block ?_
        refine ye ?_
        refine yl 2 rfl 19 b2 hT3 3 ?_
        refine yb 0 rfl 20 (f.g.rad == 16) (false) (hr) ?_
        refine yzt 1 ?_
        refine yF ?_
        refine ye ?_
        refine ylb 1 rfl 29 b2 hT4 9 (f.inf) false (hinf) ?_
        refine yzt 7 ?_
        refine yF ?_
        refine ye ?_
        refine yl 1 rfl 58 b3 hT3 1 ?_
        refine yb 0 rfl 59 ((e : Int) == 0) (true) (beq_iff_eq.2 (by omega)) ?_
        refine ylb 2 rfl 62 b2 hT4 10 (f.res) true (hres) ?_
        refine yzt 2 ?_
        refine yT ?_
        refine wp_seq ?_
        refine ye ?_
        refine yl 1 rfl 65 b3 hT4 0 ?_
        refine yzt 0 ?_
        refine yF ?_
        refine wp_skip ?_
        refine a0h ?_
        refine yq ?_
        refine wp_ret ?_
        repeat (first | with_reducible refine a0r ?_ | with_reducible refine a0o ?_)
        refine yret (.tuple #[.int .i64 1, .slice none 0 0, .int .i64 0]) (res3 Tryz.results149 rvt rvt rvt) ?_
        exact d0e (k := 1) rfl (a0a hbV1 hbV2)
     · have hD : f.dec g e x = ⟨2, x + 2 ^ f.F, f.g.lo + e - 1⟩ := by unfold Fm.dec; rw [if_neg f2, if_neg (fun h => f1 h.1), if_neg (fun h => h0 h.2), if_neg h0, if_pos hex]
       have hlF : (dig B32 (2 ^ f.F)).length ≤ 3 := a0u (n := f.F + 1) (Nat.pow_lt_pow_right (by omega) (by omega)) (by omega)
       rw [hD]
       generalize 2 ^ f.E = P at *
       have I := Inv.start w [ownF base .u32 141 p c (dig B32 x)] ⟨hp, True.intro⟩
       refine a0d [.v (.agg #[.int .i64 (f.size : Int), .int .i64 (f.E : Int), .int .i64 (f.F : Int), .int .i64 f.g.rad, .int .i64 f.g.digs, .int .i64 f.g.lo, .int .i64 f.g.hi, .bool f.g.grad, .bool f.hid, .bool f.inf, .bool f.res, .func (.func (ordF f)) #[] #[]]), .v (.agg #[.bool g, .int .i64 (e : Int), .slice p (dig B32 x).length c])] I Tryz.func149 ?_
       refine zbin I 11 _ (fun _ _ _ _ _ => c0q .i64 (1) .i64 (f.E : Int) ((P : Int)) (by omega) ((HSH.out))) fun Al W I => ?_
       refine zi I 12 .i64 ((P : Int) - 1) (((P - 1 : Nat) : Int)) ((by rw [show ((P : Int) - 1) = ((P - 1 : Nat) : Int) by omega]; exact iwo)) fun Al W I => ?_
       refine zb I 20 (f.g.rad == 16) (false) (hr) fun Al W I => ?_
       refine zb I 29 (f.inf) (false) (hinf) fun Al W I => ?_
       refine zb I 59 ((e : Int) == 0) (false) (bFn (by omega)) fun Al W I => ?_
       refine zb I 69 ((e : Int) == 0) (false) (bFn (by omega)) fun Al W I => ?_
       refine zb I 75 (f.hid) (true) (hhid) fun Al W I => ?_
       refine zd [] I fun Al W I => ?_
       refine zk [0, 1, 2, 3, 6, 7, 8] I fun I => ?_
       refine zki 9 I .i64 (f.g.lo + (e : Int)) (f.g.lo + (e : Int)) (iwo) fun I => ?_
       refine zki 10 I .i64 ((f.g.lo + (e : Int)) - 1) ((f.g.lo + (e : Int)) - 1) (iwo) fun I => ?_
       refine zo 4 I fun I => ?_
       refine zqo I (fun Al W I => have hzW := I.bel.size; g0a f.F (2 ^ f.F) _ W (by omega) rfl rfl) fun Al W p80 c80 I => ?_
       refine zo 5 I fun I => ?_
       refine zqo I (fun Al W I => have hzW := I.bel.size; sadd p p80 _ _ c c80 x (2 ^ f.F) (x + 2 ^ f.F) W I.fa.2.1.rd I.fa.1.rd rfl rfl (by omega) (by omega) rfl) fun Al W p81 c81 I => ?_
       refine zk [11, 12, 13] I fun I => ?_
       exact zret I fun Al W I => ⟨p81, c81, rfl, I.fa.1.mono (by omega), I.below⟩
theorem c1e (p : Option Addr) (c x : Nat) (pw : Int) (gg : Gd) (base : Nat) (w : World) (hp : Own w base .u32 141 p c (dig B32 x)) (hl : (dig B32 x).length ≤ 1000) (hpw : -100000 ≤ pw ∧ pw ≤ 100000) (hr : gg.rad = 2 ∨ gg.rad = 16) (hT : TabW w) :
 Calls Tryz.prog 150 #[.slice p (dig B32 x).length c, .int .i64 pw, .int .i64 gg.rad] w
  fun en w' => ∃ q d, en = .returned (.tuple #[.slice q (dig B32 (x / 2 ^ (tz x / wid gg * wid gg))).length d, .int .i64 (pw + (tz x / wid gg : Nat))]) ∧ Own w' w.heap.size .u32 141 q d (dig B32 (x / 2 ^ (tz x / wid gg * wid gg))) ∧ Below w.heap.size w w' := by
 have hz := m1e x hl
 rcases hr with hr | hr
 · have hw : wid gg = 1 := by unfold wid; rw [hr]; rfl
   rw [hw]
   generalize htz : tz x = z at *
   have HTZ := hi0 htz
   clear htz
   have I := Inv.start w [ownF base .u32 141 p c (dig B32 x), tabF] ⟨hp, hT, True.intro⟩
   refine a0d [.v (.slice p (dig B32 x).length c), .v (.int .i64 pw), .v (.int .i64 gg.rad)] I Tryz.func150 ?_
   refine zb I 11 (gg.rad == 16) (false) (by rw [hr]; rfl) fun Al W I => ?_
   refine zq I (fun Al W I => have hzW := I.bel.size; stay (m0i p _ c x W I.fa.1.rd rfl (by omega) I.fa.2.1)) fun Al W I => ?_
   refine zbin I 15 _ (fun _ _ _ _ _ => m0y .i64 ((tz x : Nat) : Int) (1) (((z / 1 : Nat) : Int)) ((by decide)) ((by rw [HTZ.out]; exact (IntWalk.i64_in _ (by simp; omega)).trans (by simp)))) fun Al W I => ?_
   refine zi I 19 .i64 (((z / 1 : Nat) : Int) * 1) (((z / 1 * 1 : Nat) : Int)) (((iwo).trans (by omega))) fun Al W I => ?_
   refine zqo I (fun Al W I => have hzW := I.bel.size; sshr p _ c x (z / 1 * 1) _ _ W I.fa.1.rd rfl (by have := I.fa.1.le_cap; omega) (by omega) (by omega) rfl rfl) fun Al W p20 c20 I => ?_
   refine zi I 23 .i64 (pw + ((z / 1 : Nat) : Int)) (pw + ((z / 1 : Nat) : Int)) (iwo) fun Al W I => ?_
   exact zret I fun Al W I => ⟨p20, c20, rfl, I.fa.1.mono (by omega), I.below⟩
 · have hw : wid gg = 4 := by unfold wid; rw [hr]; rfl
   rw [hw]
   generalize htz : tz x = z at *
   have HTZ := hi0 htz
   clear htz
   have I := Inv.start w [ownF base .u32 141 p c (dig B32 x), tabF] ⟨hp, hT, True.intro⟩
   refine a0d [.v (.slice p (dig B32 x).length c), .v (.int .i64 pw), .v (.int .i64 gg.rad)] I Tryz.func150 ?_
   refine zb I 11 (gg.rad == 16) (true) (by rw [hr]; rfl) fun Al W I => ?_
   refine zq I (fun Al W I => have hzW := I.bel.size; stay (m0i p _ c x W I.fa.1.rd rfl (by omega) I.fa.2.1)) fun Al W I => ?_
   refine zbin I 15 _ (fun _ _ _ _ _ => m0y .i64 ((tz x : Nat) : Int) (4) (((z / 4 : Nat) : Int)) ((by decide)) ((by rw [HTZ.out, show (z : Int).tdiv 4 = ((z / 4 : Nat) : Int) by rw [Int.tdiv_eq_ediv_of_nonneg (by omega)]; rfl]; exact iwo))) fun Al W I => ?_
   refine zi I 19 .i64 (((z / 4 : Nat) : Int) * 4) (((z / 4 * 4 : Nat) : Int)) (((iwo).trans (by omega))) fun Al W I => ?_
   refine zqo I (fun Al W I => have hzW := I.bel.size; sshr p _ c x (z / 4 * 4) _ _ W I.fa.1.rd rfl (by have := I.fa.1.le_cap; omega) (by omega) (by omega) rfl rfl) fun Al W p20 c20 I => ?_
   refine zi I 23 .i64 (pw + ((z / 4 : Nat) : Int)) (pw + ((z / 4 : Nat) : Int)) (iwo) fun Al W I => ?_
   exact zret I fun Al W I => ⟨p20, c20, rfl, I.fa.1.mono (by omega), I.below⟩
def u0v (w : World) (v : Vl) (g : Bool) (en : Ending) (w' : World) : Prop :=
 ∃ p c, en = .returned (.tuple #[.agg #[.int .i64 (v.cls : Int), .bool v.neg, .slice p (dig B32 v.d).length c, .int .i64 v.pow], .bool g]) ∧ Own w' w.heap.size .u32 141 p c (dig B32 v.d) ∧ Below w.heap.size w w'
theorem o0x {w w' : World} {v : Vl} {k : Nat} {n g : Bool} {p : Option Addr} {c d base : Nat} {x : Int} {en : Ending} (hv : v = ⟨k, n, d, x⟩) (h : en = .returned (.tuple #[.agg #[.int .i64 (k : Int), .bool n, .slice p (dig B32 d).length c, .int .i64 x], .bool g]))
 (ho : Own w' base .u32 141 p c (dig B32 d)) (hB : w.heap.size ≤ base) (hb : Below w.heap.size w w') : u0v w v g en w' := by
 subst hv
 exact ⟨p, c, h, ho.mono hB, hb⟩
theorem e0m {w w' : World} {v : Vl} {k : Nat} {n g : Bool} {en : Ending} (hv : v = ⟨k, n, 0, 0⟩) (h : en = .returned (.tuple #[.agg #[.int .i64 (k : Int), .bool n, .slice none 0 0, .int .i64 0], .bool g])) (hb : Below w.heap.size w w') : u0v w v g en w' :=
 o0x (p := none) (c := 0) (base := w.heap.size) hv (by rw [h, a0c]; rfl) (by rw [a0c]; exact Own.nil _ _ _ _) (Nat.le_refl _) hb
theorem x0z (f : Fm) (s : ByteArray) (w : World) (G : c0e f) (hs : s.size = f.size) (hT : TabW w) :
 Calls Tryz.prog 98 #[.agg #[.int .i64 (f.size : Int), .int .i64 (f.E : Int), .int .i64 (f.F : Int), .int .i64 f.g.rad, .int .i64 f.g.digs, .int .i64 f.g.lo, .int .i64 f.g.hi, .bool f.g.grad, .bool f.hid, .bool f.inf, .bool f.res, .func (.func (ordF f)) #[] #[]], .string s] w (u0v w (f.valN (a0x f s)) (f.neg (a0x f s))) := by
 have z2 := G.f2
 have he : f.exp (a0x f s) < 2 ^ f.E := Nat.mod_lt _ (Nat.pow_pos (by omega))
 have hx : f.frac (a0x f s) < 2 ^ f.F := Nat.mod_lt _ (Nat.pow_pos (by omega))
 have HS := fun W => hi0 (b1v f s W G hs)
 unfold Fm.valN Fm.decN
 generalize f.neg (a0x f s) = g at *
 generalize f.exp (a0x f s) = e at *
 generalize f.frac (a0x f s) = x at *
 have HV := fun p c base W h1 h2 => hi0 (c1d f g e x p c base W G h1 h2 he hx)
 have k1 := a1d f g e x
 have k2 := h1c (f := f) g (e := e) hx
 have k3 := j1q G g (frac := x) he
 have k4 := a0u k2 (k := 3) (by omega)
 have hrd : f.g.rad = 2 ∨ f.g.rad = 16 := by have := G.rad; split at this <;> omega
 clear k2
 generalize f.dec g e x = D at *
 obtain ⟨k, m, pw⟩ := D
 simp only at k1 k3 k4
 have hm0 := a0f a0b m
 rcases k1 with rfl | rfl | rfl | rfl | rfl
 · have hv : f.vl g ⟨1, m, pw⟩ = ⟨1, g, 0, 0⟩ := by unfold Fm.vl Dc.c; simp
   have I := Inv.start w [tabF] ⟨hT, True.intro⟩
   refine a0d [.v (.agg #[.int .i64 (f.size : Int), .int .i64 (f.E : Int), .int .i64 (f.F : Int), .int .i64 f.g.rad, .int .i64 f.g.digs, .int .i64 f.g.lo, .int .i64 f.g.hi, .bool f.g.grad, .bool f.hid, .bool f.inf, .bool f.res, .func (.func (ordF f)) #[] #[]]), .v (.string s)] I Tryz.func98 ?_
   refine zqo I (fun Al W I => (HS W).out) fun Al W p13 c13 I => ?_
   refine zqo I (fun Al W I => have hzW := I.bel.size; (HV p13 c13 _ W I.fa.1 (by omega)).out) fun Al W p17 c17 I => ?_
   refine zd [1] I fun Al W I => ?_
   refine zk [0, 1, 2] I fun I => ?_
   refine zo 3 I fun I => ?_
   refine zn I fun Al W I => ?_
   refine zk [4] I fun I => ?_
   exact zret I fun Al W I => e0m hv rfl I.below
 · by_cases h0 : m = 0
   · have hv : f.vl g ⟨2, m, pw⟩ = ⟨1, g, 0, 0⟩ := by unfold Fm.vl Dc.c; simp [h0]
     have I := Inv.start w [tabF] ⟨hT, True.intro⟩
     refine a0d [.v (.agg #[.int .i64 (f.size : Int), .int .i64 (f.E : Int), .int .i64 (f.F : Int), .int .i64 f.g.rad, .int .i64 f.g.digs, .int .i64 f.g.lo, .int .i64 f.g.hi, .bool f.g.grad, .bool f.hid, .bool f.inf, .bool f.res, .func (.func (ordF f)) #[] #[]]), .v (.string s)] I Tryz.func98 ?_
     refine zqo I (fun Al W I => (HS W).out) fun Al W p13 c13 I => ?_
     refine zqo I (fun Al W I => have hzW := I.bel.size; (HV p13 c13 _ W I.fa.1 (by omega)).out) fun Al W p17 c17 I => ?_
     refine zb I 28 ((((dig B32 m).length : Nat) : Int) == 0) (true) (beq_iff_eq.2 (by omega)) fun Al W I => ?_
     refine zd [1] I fun Al W I => ?_
     refine zk [0, 1, 2] I fun I => ?_
     refine zo 3 I fun I => ?_
     refine zn I fun Al W I => ?_
     refine zk [4] I fun I => ?_
     exact zret I fun Al W I => e0m hv rfl I.below
   · have hv : f.vl g ⟨2, m, pw⟩ = ⟨2, g, m / 2 ^ (tz m / wid f.g * wid f.g), pw + (tz m / wid f.g : Nat)⟩ := by unfold Fm.vl Dc.c; simp [h0]
     have HB := fun p c base W h1 hT => hi0 (c1e p c m pw f.g base W h1 (by omega) (by omega) hrd hT)
     generalize m / 2 ^ (tz m / wid f.g * wid f.g) = mm at *
     generalize pw + ((tz m / wid f.g : Nat) : Int) = pp at *
     have I := Inv.start w [tabF] ⟨hT, True.intro⟩
     refine a0d [.v (.agg #[.int .i64 (f.size : Int), .int .i64 (f.E : Int), .int .i64 (f.F : Int), .int .i64 f.g.rad, .int .i64 f.g.digs, .int .i64 f.g.lo, .int .i64 f.g.hi, .bool f.g.grad, .bool f.hid, .bool f.inf, .bool f.res, .func (.func (ordF f)) #[] #[]]), .v (.string s)] I Tryz.func98 ?_
     refine zqo I (fun Al W I => (HS W).out) fun Al W p13 c13 I => ?_
     refine zqo I (fun Al W I => have hzW := I.bel.size; (HV p13 c13 _ W I.fa.1 (by omega)).out) fun Al W p17 c17 I => ?_
     refine zb I 28 ((((dig B32 m).length : Nat) : Int) == 0) (false) (bFn (by omega)) fun Al W I => ?_
     refine zqo I (fun Al W I => (HB p17 c17 _ W I.fa.1 I.fa.2.2.1).out) fun Al W q44 d44 I => ?_
     refine zd [1] I fun Al W I => ?_
     refine zk [0, 1, 2] I fun I => ?_
     refine zo 3 I fun I => ?_
     refine zn I fun Al W I => ?_
     refine zk [4] I fun I => ?_
     exact zret I fun Al W I => o0x hv rfl I.fa.1 (by omega) I.below
 · have hv : f.vl g ⟨3, m, pw⟩ = ⟨3, g, 0, 0⟩ := by unfold Fm.vl Dc.c; simp
   have I := Inv.start w [tabF] ⟨hT, True.intro⟩
   refine a0d [.v (.agg #[.int .i64 (f.size : Int), .int .i64 (f.E : Int), .int .i64 (f.F : Int), .int .i64 f.g.rad, .int .i64 f.g.digs, .int .i64 f.g.lo, .int .i64 f.g.hi, .bool f.g.grad, .bool f.hid, .bool f.inf, .bool f.res, .func (.func (ordF f)) #[] #[]]), .v (.string s)] I Tryz.func98 ?_
   refine zqo I (fun Al W I => (HS W).out) fun Al W p13 c13 I => ?_
   refine zqo I (fun Al W I => have hzW := I.bel.size; (HV p13 c13 _ W I.fa.1 (by omega)).out) fun Al W p17 c17 I => ?_
   refine zd [1] I fun Al W I => ?_
   refine zk [0, 1, 2] I fun I => ?_
   refine zo 3 I fun I => ?_
   refine zn I fun Al W I => ?_
   refine zk [4] I fun I => ?_
   exact zret I fun Al W I => e0m hv rfl I.below
 · have hv : f.vl g ⟨4, m, pw⟩ = ⟨4, false, 0, 0⟩ := by unfold Fm.vl Dc.c; simp
   have I := Inv.start w [tabF] ⟨hT, True.intro⟩
   refine a0d [.v (.agg #[.int .i64 (f.size : Int), .int .i64 (f.E : Int), .int .i64 (f.F : Int), .int .i64 f.g.rad, .int .i64 f.g.digs, .int .i64 f.g.lo, .int .i64 f.g.hi, .bool f.g.grad, .bool f.hid, .bool f.inf, .bool f.res, .func (.func (ordF f)) #[] #[]]), .v (.string s)] I Tryz.func98 ?_
   refine zqo I (fun Al W I => (HS W).out) fun Al W p13 c13 I => ?_
   refine zqo I (fun Al W I => have hzW := I.bel.size; (HV p13 c13 _ W I.fa.1 (by omega)).out) fun Al W p17 c17 I => ?_
   refine zd [1] I fun Al W I => ?_
   refine zk [0, 1, 2] I fun I => ?_
   refine zo 3 I fun I => ?_
   refine zn I fun Al W I => ?_
   refine zk [4] I fun I => ?_
   exact zret I fun Al W I => e0m hv rfl I.below
 · have hv : f.vl g ⟨5, m, pw⟩ = ⟨5, false, 0, 0⟩ := by unfold Fm.vl Dc.c; simp
   have I := Inv.start w [tabF] ⟨hT, True.intro⟩
   refine a0d [.v (.agg #[.int .i64 (f.size : Int), .int .i64 (f.E : Int), .int .i64 (f.F : Int), .int .i64 f.g.rad, .int .i64 f.g.digs, .int .i64 f.g.lo, .int .i64 f.g.hi, .bool f.g.grad, .bool f.hid, .bool f.inf, .bool f.res, .func (.func (ordF f)) #[] #[]]), .v (.string s)] I Tryz.func98 ?_
   refine zqo I (fun Al W I => (HS W).out) fun Al W p13 c13 I => ?_
   refine zqo I (fun Al W I => have hzW := I.bel.size; (HV p13 c13 _ W I.fa.1 (by omega)).out) fun Al W p17 c17 I => ?_
   refine zd [1] I fun Al W I => ?_
   refine zk [0, 1, 2] I fun I => ?_
   refine zo 3 I fun I => ?_
   refine zn I fun Al W I => ?_
   refine zk [4] I fun I => ?_
   exact zret I fun Al W I => e0m hv rfl I.below
def b0o (n : Int) (s : ByteArray) : Int := if IsFm n then (if s.size = (fmt n).size then 0 else 1) else 6
theorem i1g (n : Int) (s : ByteArray) (w : World) (hn : IsFm n) (hs : s.size = (fmt n).size) :
 Calls Tryz.prog 97 #[.int .i64 n, .string s] w fun en w' => en = .returned (.tuple #[.agg #[.int .i64 (((fmt n).size : Nat) : Int), .int .i64 (((fmt n).E : Nat) : Int), .int .i64 (((fmt n).F : Nat) : Int), .int .i64 (fmt n).g.rad, .int .i64 (fmt n).g.digs, .int .i64 (fmt n).g.lo, .int .i64 (fmt n).g.hi, .bool (fmt n).g.grad, .bool (fmt n).hid, .bool (fmt n).inf, .bool (fmt n).res, .func (.func (ordF (fmt n))) #[] #[]], .int .i64 0]) ∧ Below w.heap.size w w' := by
 have HF := fun W => hi0 (g0m n hn W)
 generalize fmt n = f at *
 have I := Inv.start w [] True.intro
 refine a0d [.v (.int .i64 n), .v (.string s)] I Tryz.func97 ?_
 refine zq I (fun Al W I => (HF W).out) fun Al W I => ?_
 refine zb I 20 ((s.size : Int) != (f.size : Int)) (false) (by simp [hs]) fun Al W I => ?_
 exact zrb I
theorem e1w (n : Int) (s : ByteArray) (w : World) (hn : IsFm n) (hs : s.size ≠ (fmt n).size) :
 Calls Tryz.prog 97 #[.int .i64 n, .string s] w fun en w' => en = .returned (.tuple #[.agg #[.int .i64 (((fmt n).size : Nat) : Int), .int .i64 (((fmt n).E : Nat) : Int), .int .i64 (((fmt n).F : Nat) : Int), .int .i64 (fmt n).g.rad, .int .i64 (fmt n).g.digs, .int .i64 (fmt n).g.lo, .int .i64 (fmt n).g.hi, .bool (fmt n).g.grad, .bool (fmt n).hid, .bool (fmt n).inf, .bool (fmt n).res, .func (.func (ordF (fmt n))) #[] #[]], .int .i64 1]) ∧ Below w.heap.size w w' := by
 have HF := fun W => hi0 (g0m n hn W)
 generalize fmt n = f at *
 have I := Inv.start w [] True.intro
 refine a0d [.v (.int .i64 n), .v (.string s)] I Tryz.func97 ?_
 refine zq I (fun Al W I => (HF W).out) fun Al W I => ?_
 refine zb I 20 ((s.size : Int) != (f.size : Int)) (true) (bne_iff_ne.2 (fun h => hs (by omega))) fun Al W I => ?_
 exact zrb I
theorem e1x (n : Int) (s : ByteArray) (w : World) (hn : ¬ IsFm n) :
 Calls Tryz.prog 97 #[.int .i64 n, .string s] w fun en w' => en = .returned (.tuple #[.agg #[.int .i64 0, .int .i64 0, .int .i64 0, .int .i64 0, .int .i64 0, .int .i64 0, .int .i64 0, .bool false, .bool false, .bool false, .bool false, .nilFunc], .int .i64 6]) ∧ Below w.heap.size w w' := by
 have HF := fun W => hi0 (h0t n hn W)
 have I := Inv.start w [] True.intro
 refine a0d [.v (.int .i64 n), .v (.string s)] I Tryz.func97 ?_
 refine zq I (fun Al W I => (HF W).out) fun Al W I => ?_
 exact zrb I
def c1f (w : World) (v : Vl) (er : Int) (en : Ending) (w' : World) : Prop :=
 ∃ p c, en = .returned (.tuple #[.agg #[.int .i64 (v.cls : Int), .bool v.neg, .slice p (dig B32 v.d).length c, .int .i64 v.pow], .int .i64 er]) ∧ Own w' w.heap.size .u32 141 p c (dig B32 v.d) ∧ Below w.heap.size w w'
def w0o : Vl := ⟨0, false, 0, 0⟩
def decP (n : Int) (s : ByteArray) : Vl := if b0o n s = 0 then (fmt n).valN (a0x (fmt n) s) else w0o
theorem d0y {n : Int} {s : ByteArray} : b0o n s = 0 ↔ IsFm n ∧ s.size = (fmt n).size := by
 unfold b0o
 by_cases h1 : IsFm n
 · rw [if_pos h1]
   by_cases h2 : s.size = (fmt n).size
   · rw [if_pos h2]; simp [h1, h2]
   · rw [if_neg h2]; simp [h2]
 · rw [if_neg h1]; simp [h1]
theorem n0f {w w' : World} {er : Int} {en : Ending} (h : en = .returned (.tuple #[.agg #[.int .i64 0, .bool false, .slice none 0 0, .int .i64 0], .int .i64 er])) (hb : Below w.heap.size w w') : c1f w w0o er en w' := by
 refine ⟨none, 0, ?_, ?_, hb⟩
 · rw [h]; show _ = Ending.returned (.tuple #[.agg #[_, _, .slice none (dig B32 0).length 0, _], _]); rw [a0c]; rfl
 · show Own _ _ _ _ _ _ (dig B32 0); rw [a0c]; exact Own.nil _ _ _ _
theorem o0y (n : Int) (s : ByteArray) (w : World) (hT : TabW w) :
 Calls Tryz.prog 41 #[.int .i64 n, .string s] w (c1f w (decP n s) (b0o n s)) := by
 by_cases hn : IsFm n
 · by_cases hs : s.size = (fmt n).size
   · have h0 : b0o n s = 0 := d0y.2 ⟨hn, hs⟩
     have hd : decP n s = (fmt n).valN (a0x (fmt n) s) := by unfold decP; rw [if_pos h0]
     rw [hd, h0]
     have HF := fun W => hi0 (i1g n s W hn hs)
     have HD := fun W h => hi0 (x0z (fmt n) s W (b0s hn) hs h)
     generalize (fmt n).valN (a0x (fmt n) s) = v at *
     generalize (fmt n).neg (a0x (fmt n) s) = g at *
     generalize fmt n = f at *
     have I := Inv.start w [tabF] ⟨hT, True.intro⟩
     refine a0d [.v (.int .i64 n), .v (.string s)] I Tryz.func41 ?_
     refine zq I (fun Al W I => (HF W).out) fun Al W I => ?_
     refine zqo I (fun Al W I => (HD W I.fa.1).out) fun Al W p23 c23 I => ?_
     exact zret I fun Al W I => ⟨p23, c23, rfl, I.fa.1.mono (by omega), I.below⟩
   · have h0 : b0o n s = 1 := by unfold b0o; rw [if_pos hn, if_neg hs]
     have hd : decP n s = w0o := by unfold decP; rw [if_neg (by omega)]
     rw [hd, h0]
     have HF := fun W => hi0 (e1w n s W hn hs)
     generalize fmt n = f at *
     have I := Inv.start w [] True.intro
     refine a0d [.v (.int .i64 n), .v (.string s)] I Tryz.func41 ?_
     refine zq I (fun Al W I => (HF W).out) fun Al W I => ?_
     exact zret I fun Al W I => n0f rfl I.below
 · have h0 : b0o n s = 6 := by unfold b0o; rw [if_neg hn]
   have hd : decP n s = w0o := by unfold decP; rw [if_neg (by omega)]
   rw [hd, h0]
   have HF := fun W => hi0 (e1x n s W hn)
   have I := Inv.start w [] True.intro
   refine a0d [.v (.int .i64 n), .v (.string s)] I Tryz.func41 ?_
   refine zq I (fun Al W I => (HF W).out) fun Al W I => ?_
   exact zret I fun Al W I => n0f rfl I.below
def d0f (n : Int) : Int := if IsFm n then 0 else 6
theorem q0v {n : Int} (h : ¬ IsFm n) : fmt n = ⟨0, 0, 0, ⟨0, 0, 0, 0, false⟩, 0, false⟩ := by
 unfold IsFm at h
 unfold fmt
 rw [if_neg (by omega), if_neg (by omega), if_neg (by omega), if_neg (by omega), if_neg (by omega), if_neg (by omega), if_neg (by omega), if_neg (by omega)]
theorem w0p (n : Int) (w : World) : Calls Tryz.prog 80 #[.int .i64 n] w fun en w' => en = .returned (.tuple #[.int .i64 (((fmt n).size : Nat) : Int), .int .i64 (d0f n)]) ∧ Below w.heap.size w w' := by
 by_cases hn : IsFm n
 · have h0 : d0f n = 0 := by unfold d0f; rw [if_pos hn]
   rw [h0]
   have HF := fun W => hi0 (g0m n hn W)
   generalize fmt n = f at *
   have I := Inv.start w [] True.intro
   refine a0d [.v (.int .i64 n)] I Tryz.func80 ?_
   refine zq I (fun Al W I => (HF W).out) fun Al W I => ?_
   exact zrb I
 · have h0 : d0f n = 6 := by unfold d0f; rw [if_neg hn]
   rw [h0, q0v hn]
   have HF := fun W => hi0 (h0t n hn W)
   have I := Inv.start w [] True.intro
   refine a0d [.v (.int .i64 n)] I Tryz.func80 ?_
   refine zq I (fun Al W I => (HF W).out) fun Al W I => ?_
   exact zrb I
theorem e1y (n : Int) (w : World) : Calls Tryz.prog 43 #[.int .i64 n] w fun en w' => en = .returned (.tuple #[.agg #[.int .i64 (fmt n).g.rad, .int .i64 (fmt n).g.digs, .int .i64 (fmt n).g.lo, .int .i64 (fmt n).g.hi, .bool (fmt n).g.grad], .int .i64 (d0f n)]) ∧ Below w.heap.size w w' := by
 by_cases hn : IsFm n
 · have h0 : d0f n = 0 := by unfold d0f; rw [if_pos hn]
   rw [h0]
   have HF := fun W => hi0 (g0m n hn W)
   generalize fmt n = f at *
   have I := Inv.start w [] True.intro
   refine a0d [.v (.int .i64 n)] I Tryz.func43 ?_
   refine zq I (fun Al W I => (HF W).out) fun Al W I => ?_
   exact zrb I
 · have h0 : d0f n = 6 := by unfold d0f; rw [if_neg hn]
   rw [h0, q0v hn]
   have HF := fun W => hi0 (h0t n hn W)
   have I := Inv.start w [] True.intro
   refine a0d [.v (.int .i64 n)] I Tryz.func43 ?_
   refine zq I (fun Al W I => (HF W).out) fun Al W I => ?_
   exact zrb I
end Go.Proofs.YtmacohmclpnphaaGreatDoor
namespace Go.Slip
def y0a (N : Nat) (D : List Nat) (i d A : Nat) : Prop := (∀ x ∈ D, x < 10) ∧ d < 10 ^ (4 - i) ∧ N = val 10 D + 10 ^ D.length * (d + 10 ^ (4 - i) * A)
def n0g (N : Nat) (D : List Nat) (A : Nat) : Prop := (∀ x ∈ D, x < 10) ∧ N = val 10 D + 10 ^ D.length * A
theorem n0g.start (N : Nat) : n0g N [] N := ⟨by simp, by simp⟩
theorem n0g.enter {N : Nat} {D : List Nat} {A : Nat} (h : n0g N D A) : y0a N D 0 (A % 10000) (A / 10000) := by
 refine ⟨h.1, Nat.mod_lt _ (by omega), ?_⟩
 rw [h.2]
 congr 2
 have := Nat.mod_add_div A 10000
 show A = A % 10000 + 10000 * (A / 10000)
 omega
theorem y0a.step {N : Nat} {D : List Nat} {i d A : Nat} (h : y0a N D i d A) (hi : i < 4) : y0a N (D ++ [d % 10]) (i + 1) (d / 10) A := by
 obtain ⟨h1, h2, h3⟩ := h
 have e : 4 - i = 4 - (i + 1) + 1 := by omega
 rw [e, Nat.pow_succ] at h2 h3
 refine ⟨fun x hx => ?_, by omega, ?_⟩
 · rcases List.mem_append.1 hx with hx | hx
   · exact h1 x hx
   · simp at hx; omega
 · rw [h3, e0a, List.length_append, List.length_singleton, Nat.pow_succ]
   have := Nat.mod_add_div d 10
   generalize d % 10 = s at *
   generalize d / 10 = q at *
   subst this
   grind
theorem y0a.leave {N : Nat} {D : List Nat} {d A : Nat} (h : y0a N D 4 d A) : n0g N D A := by
 obtain ⟨h1, h2, h3⟩ := h
 have hd : d = 0 := by simpa using h2
 subst hd
 exact ⟨h1, by rw [h3]; simp⟩
theorem n0g.size {N : Nat} {D : List Nat} {A : Nat} (h : n0g N D A) (hA : 0 < A) : D.length ≤ 16 * (dig B16 N).length := by
 have h1 : 10 ^ D.length ≤ N := by
  rw [h.2]
  have := Nat.le_mul_of_pos_right (10 ^ D.length) hA
  omega
 have h2 := (a0g a0e N _).1 (Nat.le_refl _)
 have h3 : B16 ^ (dig B16 N).length = 2 ^ (16 * (dig B16 N).length) := by rw [Nat.pow_mul]; congr 1
 have h4 : 2 ^ D.length ≤ 10 ^ D.length := Nat.pow_le_pow_left (by omega) _
 have h5 : 2 ^ D.length < 2 ^ (16 * (dig B16 N).length) := by rw [← h3]; omega
 exact Nat.le_of_lt ((Nat.pow_lt_pow_iff_right (by omega)).1 h5)
def q0w (L X : List Nat) (ten d0 i d : Nat) : Prop :=
 (∀ x ∈ L, x < B32) ∧ L.length = X.length ∧ (∀ j, i ≤ j → dg L j = dg X j) ∧ val B32 (L.take i) + d * B32 ^ i = val B32 (X.take i) * ten + d0
theorem q0w.start {X : List Nat} (h : ∀ x ∈ X, x < B32) (ten d0 : Nat) : q0w X X ten d0 0 d0 := ⟨h, rfl, fun _ _ => rfl, by simp⟩
theorem q0w.step {L X : List Nat} {ten d0 i d : Nat} (h : q0w L X ten d0 i d) (hi : i < X.length) (t : Nat) (ht : t = dg X i * ten + d) : q0w (L.set i (t % B32)) X ten d0 (i + 1) (t / B32) := by
 obtain ⟨h1, h2, h3, h4⟩ := h
 refine ⟨i0l L h1 i _ (Nat.mod_lt _ c0f), by simpa using h2, fun j hj => ?_, ?_⟩
 · rw [b0m (by omega)]; exact h3 j (by omega)
 · rw [a0i, c0v, b0j (by omega), a0i, Nat.pow_succ]
   have h5 := Nat.div_add_mod t B32
   generalize t / B32 = q at *
   generalize t % B32 = r at *
   have e : B32 ^ i * (B32 * q + r) = B32 ^ i * (dg X i * ten + d) := by rw [h5, ht]
   grind
theorem q0w.done0 {L : List Nat} {ten d0 a : Nat} (h : q0w L (dig B32 a) ten d0 (dig B32 a).length 0) (h1 : 0 < ten) : L = dig B32 (a * ten + d0) := by
 have h4 := h.2.2.2
 rw [List.take_length, a0z a0b, ← h.2.1, List.take_length] at h4
 obtain ⟨m, rfl⟩ : ∃ m, ten = m + 1 := ⟨ten - 1, by omega⟩
 have e : a * (m + 1) + d0 = a + (a * m + d0) := by grind
 rw [e] at h4 ⊢
 exact v0n a0b L a _ h.1 h.2.1 (by omega)
theorem q0w.done1 {L : List Nat} {ten d0 a d : Nat} (h : q0w L (dig B32 a) ten d0 (dig B32 a).length d) (h1 : 0 < d) (h2 : d < B32) : L ++ [d] = dig B32 (a * ten + d0) := by
 have h4 := h.2.2.2
 rw [List.take_length, a0z a0b, ← h.2.1, List.take_length] at h4
 exact v0o a0b L d _ h.1 h1 h2 h4
end Go.Slip
namespace Go.Proofs.YtmacohmclpnphaaGreatDoor
open Go.RowKit Go.Slip
theorem n0h (N : Nat) (w : World) (hN : N ≤ 9223372036854775807) :
 Calls Tryz.prog 70 #[.int .i64 N] w (e0j w .i64 (dig B16 N)) := by
 have hlN : (dig B16 N).length ≤ 4 := (a0g a0e N 4).2 (by unfold B16; omega)
 go_enter Tryz.func70, Tryz.ntmps70
 go_wp2
 go_loopg [0, 3] N (fun g nv ov wr => ∃ (m : Nat) (t : Option Addr) (e : Nat) (O : List Nat), nv = .int .i64 m ∧ ov = .slice t O.length e ∧ m ≤ g ∧ m ≤ 9223372036854775807 ∧ Hid (O ++ dig B16 m = dig B16 N) ∧
     Own wr w.heap.size .i64 3 t e O ∧ Below w.heap.size w wr)
 case atStart => exact ⟨N, none, 0, [], rfl, rfl, Nat.le_refl _, hN, rfl, Own.nil _ _ _ _, Below.refl _ _⟩
 case round =>
  obtain ⟨m, t, e, O, rfl, rfl, hg, hm, HR, hoq, hb⟩ := hrel
  have hOl : O.length ≤ 4 := by have := congrArg List.length HR.out; rw [List.length_append] at this; omega
  by_cases h0 : 0 < m
  · have HS : Hid ((O ++ [m % B16]) ++ dig B16 (m / B16) = dig B16 N) := by
     show _ = _
     rw [← HR.out, d0m a0e h0, List.append_assoc]; rfl
    go_wp2_with (first
      | (refine a0w rfl _ _ rfl tyN _ ?_ rfl ?_; omega; intro p2 w2 ho2 hb2 hz2 hp2)
      | (at_builtin; refine b0a rfl _ _ _ rfl tyN _ _ _ _ _ (hoq.past hb2) rfl _ _ _ _ ho2.rd rfl rfl rfl ?_ ?_ ?_; (simp; omega); (have := hb2.size; have := hb.size; omega); intro p3 c3 w3 ho3 hg3 hb3 hn3))
    have hb4 := hb.trans ((hb2.mono hb.size).trans hb3)
    have e4 : ((m : Int) % 65536).toNat = m % B16 := by unfold B16; omega
    rw [e4] at ho3
    go_roundg (m / 65536)
    case measure => omega
    case rel => exact ⟨m / 65536, p3, c3, _, by go_num, by simp, Nat.le_refl _, by omega, HS, ho3, hb4⟩
  · obtain rfl : m = 0 := by omega
    have HD : Hid (O = dig B16 N) := by show _ = _; rw [← HR.out, a0c, List.append_nil]
    go_wp2
    go_ret
    exact s0a HD.out rfl hoq hb
theorem _root_.Go.Slip.SmallRel.skip {B : Nat} {L xs : List Nat} {d k r : Nat} (h : SmallRel B L xs d (k + 1) r) (hk : k < xs.length) (hL : k < L.length) (hx : dg xs k < B) (hz : dg L k = 0) (hlt : r * B + dg xs k < d) : SmallRel B L xs d k (r * B + dg xs k) := by
 have h1 := (h.step hk hL hx).1
 rw [Nat.div_eq_of_lt hlt, Nat.mod_eq_of_lt hlt, d1d L k hz] at h1
 exact h1
theorem n0i {B R j : Nat} : R / B ^ j = B * (R / B ^ (j + 1)) + R / B ^ j % B := by
 rw [Nat.pow_succ, ← Nat.div_div_eq_div_mul, Nat.div_add_mod]
theorem w0q {B : Nat} (hB : 2 ≤ B) (R j : Nat) : dg (dig B R) j = R / B ^ j % B := by
 have h1 := h0j (B := B) (by omega) (dig B R) (b0f hB R) j
 have h2 := f0d B (dig B R) j
 rw [a0z hB] at h1
 rw [h1] at h2
 rw [h2, Nat.add_mul_mod_self_left, Nat.mod_eq_of_lt (a0j (by omega) _ (b0f hB R) j)]
theorem e1z {R n k tp : Nat} (hk : k ≤ n) (h : tp = R / B16 ^ (n + 1 - k)) : 65536 * tp + dg (dig B16 R) (n - k) = R / B16 ^ (n - k) := by
 rw [w0q a0e, h, show n + 1 - k = n - k + 1 by omega]
 exact (n0i (B := B16)).symm
theorem k1v {R n k : Nat} (hk : k ≤ n + 1) (h : R < B16 ^ (n + 1)) : R / B16 ^ (n + 1 - k) < B16 ^ k := by
 rw [Nat.div_lt_iff_lt_mul (Nat.pow_pos e0p), ← Nat.pow_add, show k + (n + 1 - k) = n + 1 by omega]
 exact h
theorem c1g {b n : Nat} (h2 : (dig B16 b).length = n + 2) : dg (dig B16 b) (n + 1) * 65536 + dg (dig B16 b) n = b / B16 ^ n ∧ B16 ≤ b / B16 ^ n := by
 have hb : b < B16 ^ (n + 2) := (a0g a0e b _).1 (by omega)
 have h0 : 0 < b := by
  have := a0f a0e b
  omega
 have h1 := d0b a0e b h0
 rw [h2] at h1
 have e1 : b / B16 ^ (n + 2) = 0 := Nat.div_eq_of_lt hb
 have e2 : b / B16 ^ n = B16 * (b / B16 ^ (n + 1)) + b / B16 ^ n % B16 := n0i
 have e3 : b / B16 ^ (n + 1) = B16 * (b / B16 ^ (n + 2)) + b / B16 ^ (n + 1) % B16 := n0i
 rw [w0q a0e, w0q a0e]
 have e4 : b / B16 ^ (n + 1) % B16 = b / B16 ^ (n + 1) := by rw [e1] at e3; omega
 refine ⟨by rw [e4, show (65536 : Nat) = B16 from rfl, Nat.mul_comm]; exact e2.symm, ?_⟩
 rw [Nat.le_div_iff_mul_le (Nat.pow_pos e0p), Nat.mul_comm, ← Nat.pow_succ]
 exact h1
theorem s0w (p q : Option Addr) (n m c e0 : Nat) (a b nn : Nat) (w : World) (hp : Rd w .i64 p (dig B16 a)) (hq : Rd w .i64 q (dig B16 b)) (hn : n = (dig B16 a).length) (hm : m = (dig B16 b).length)
 (hl : (dig B16 a).length ≤ 100000000) (hl2 : (dig B16 b).length ≤ 100000000) (h2 : (dig B16 b).length = nn + 2) :
 Calls Tryz.prog 132 #[.slice p n c, .slice q m e0] w (u0p w .i64 (dig B16 (a / b)) (dig B16 (a % b))) := by
 subst hn hm
 have HA := hi0 (a0z a0e a)
 have HXL := hi0 (b0f a0e a)
 generalize dig B16 a = xs at *
 obtain ⟨hun, hub⟩ := c1g h2
 obtain ⟨ys, hys⟩ : ∃ ys, ys = dig B16 b := ⟨_, rfl⟩
 rw [← hys] at hq hl2 h2 hun ⊢
 obtain ⟨b1, hb1⟩ : ∃ b1, dg ys (nn + 1) = b1 := ⟨_, rfl⟩
 obtain ⟨b0, hb0⟩ : ∃ b0, dg ys nn = b0 := ⟨_, rfl⟩
 rw [hb1, hb0] at hun
 have hb1l : b1 < 65536 := by rw [← hb1, hys]; exact a0j (B := 65536) (by omega) _ (b0f a0e b) _
 have hb0l : b0 < 65536 := by rw [← hb0, hys]; exact a0j (B := 65536) (by omega) _ (b0f a0e b) _
 obtain ⟨un, hunn⟩ : ∃ un, un = b1 * 65536 + b0 := ⟨_, rfl⟩
 rw [← hunn] at hun
 have hul : un < 4294967296 := by omega
 have HUN := hi0 hun
 have HUB := hi0 (show B16 ≤ un by rw [hun]; exact hub)
 have eun : (b1 : Int) * 65536 + (b0 : Nat) = (un : Nat) := by omega
 have HYS := hi0 hys
 have HN := hi0 h2
 have y2 : 2 ≤ ys.length := by omega
 have hsx := hp.solid
 have hsy := hq.solid
 have t1 : ((ys.length : Int) == 1) = false := bFn (by omega)
 have hcb1 := hq.cells (ys.length - 1) (by omega)
 have hcb0 := hq.cells (ys.length - 2) (by omega)
 rw [show ys.length - 1 = nn + 1 by omega, hb1, show nn + 1 = ys.length - 1 by omega] at hcb1
 rw [show ys.length - 2 = nn by omega, hb0, show nn = ys.length - 2 by omega] at hcb0
 have HB : Hid (0 < b) := by
  have := a0f a0e b
  rw [← hys] at this
  show 0 < b
  omega
 have HBL := hi0 (show b < B16 ^ (nn + 2) from (a0g a0e b _).1 (by rw [← hys]; omega))
 clear hys h2 hun hub hunn hb1 hb0
 go_enter Tryz.func132, Tryz.ntmps132
 go_wp2_with (refine g0q rfl _ _ _ rfl tyN .i64 .i64 xs.length _ _ rfl rfl ?_ ?_ ?_ ?_; omega; omega; omega; intro p1 c1 w1 ho1 hb1 hz1)
 have hsz1 := hb1.size
 have hp1l : p1.isSome = true → blk p1 < w1.heap.size := fun h => (ho1.blk_lt h).2
 go_loopw [10, 11] (fun rv iv wr => ∃ (k r : Nat) (L : List Nat) (pr : Option Addr) (cr : Nat), iv = .int .i64 ((k : Int) - 1) ∧ rv = .slice pr (dig B16 r).length cr ∧ k ≤ xs.length ∧ Hid (L.length = xs.length) ∧ Rd wr .i64 pr (dig B16 r) ∧ (dig B16 r).length ≤ cr ∧
     (0 < (dig B16 r).length → w1.heap.size ≤ blk pr) ∧ Own wr w.heap.size .i64 3 p1 c1 L ∧ Below w.heap.size w wr ∧ w1.heap.size ≤ wr.heap.size ∧ Hid (SmallRel B16 L xs b k r ∧ ∀ i, i < k → dg L i = 0))
  (fun _ iv _ => (intOf iv + 1).toNat)
 case atStart => exact ⟨xs.length, 0, _, none, 0, rfl, by rw [a0c]; rfl, Nat.le_refl _, List.length_replicate, by rw [a0c]; exact Rd.nil _ _ _, by rw [a0c]; simp, by rw [a0c]; simp, ho1, hb1, Nat.le_refl _,
   ⟨⟨fun x hx => by rw [(List.mem_replicate.1 hx).2]; exact e0p, HB.out, by simp⟩, fun i _ => c0h _ _⟩⟩
 case round =>
  obtain ⟨k, r, L, pr, cr, rfl, rfl, hk, hL, hrr, hrc, hrb, hoL, hbL, hszL, HR⟩ := hrel
  have hpL := hp.past hbL
  have hqL := hq.past hbL
  by_cases h0 : 0 < k
  · obtain ⟨j, rfl⟩ : ∃ j, k = j + 1 := ⟨k - 1, by omega⟩
    have ej : ((j + 1 : Nat) : Int) - 1 = j := by omega
    rw [ej]
    have hc1 := hpL.cells j (by omega)
    have hxd := a0j (B := 65536) (by omega) xs HXL.out j
    obtain ⟨x, hx⟩ : ∃ x, dg xs j = x := ⟨_, rfl⟩
    rw [hx] at hc1 hxd
    obtain ⟨R, hRR⟩ : ∃ R, R = r * B16 + x := ⟨_, rfl⟩
    have HX := hi0 hx
    have HRR := hi0 hRR
    have hrl : (dig B16 r).length ≤ ys.length := by rw [HYS.out]; exact a0k a0e (Nat.le_of_lt HR.out.1.2.1)
    have HLD : Hid (∀ y ∈ [x] ++ dig B16 r, y < B16) := by
     intro y hy
     rcases List.mem_append.1 hy with h | h
     · simp at h; rw [h]; exact hxd
     · exact b0f a0e r y h
    have HVR : Hid (val B16 ([x] ++ dig B16 r) = R) := by
     show val B16 ([x] ++ dig B16 r) = R
     rw [List.singleton_append, val_cons, a0z a0e, hRR, Nat.mul_comm B16 r]; omega
    have HRB := hi0 (show R < b * B16 by have := HR.out.1.push (by rw [hx]; exact hxd); rw [hRR, ← hx, Nat.mul_comm r B16]; omega)
    clear hx hRR ej
    have hxs := hsx
    go_wp2_with (first
      | (refine a0w rfl _ _ rfl tyN _ ?_ rfl ?_; omega; intro p2 w2 ho2 hb2 hz2 hp2)
      | (at_builtin; rw [Int.toNat_natCast] at ho2; refine b0a rfl _ _ _ rfl tyN _ _ _ _ _ ho2 rfl _ _ _ _ (hrr.past hb2) rfl rfl rfl ?_ ?_ ?_; (simp; omega); (have := hb2.size; omega); intro p3 c3 w3 ho3 hg3 hb3 hn3))
    refine (d0c p3 _ c3 ([x] ++ dig B16 r) _ ho3.rd rfl ho3.le_cap HLD.out (by simp; omega)).mono ?_
    rintro e w4 ⟨rfl, rfl⟩
    rw [HVR.out]
    have hrt := ho3.take (dig B16 (val B16 ([x] ++ dig B16 r))).length
    rw [a0v a0e _ HLD.out, HVR.out] at hrt
    have hrn : 0 < (dig B16 R).length → w1.heap.size ≤ blk p3 := fun h => by
     have := (hrt.blk_lt (hrt.rd.solid h).1).1
     omega
    have hb23 := hb2.trans hb3
    have hoL3 := hoL.past hb23
    have hs3 := hbL.trans (hb23.mono hbL.size)
    have hsz3 : w1.heap.size ≤ w3.heap.size := Nat.le_trans hszL hb23.size
    have hrR := hrt.rd
    have hrl2 : (dig B16 R).length ≤ ys.length + 1 := by
     rw [a0g a0e, HN.out, show nn + 2 + 1 = (nn + 2) + 1 by omega, Nat.pow_succ]
     exact Nat.lt_of_lt_of_le HRB.out (Nat.mul_le_mul_right _ (Nat.le_of_lt HBL.out))
    clear hb2 hb3 hz2 hp2 ho2 ho3 hg3 hn3 hb23 hrt hrr hrc hrb hoL hbL hszL hpL hc1
    have hq3 := hq.past hs3
    have hq3b : Rd w3 .i64 q (dig B16 b) := by rw [← HYS.out]; exact hq3
    have lyb := hi0 (show ys.length = (dig B16 b).length by rw [← HYS.out])
    have lyb2 : (dig B16 b).length ≤ 100000000 := by rw [← HYS.out]; exact hl2
    go_wp2_with fail
    refine (d0w p3 q _ _ _ e0 R b _ hrR hq3b rfl lyb.out (by omega) (by omega)).mono ?_
    rintro e w5 ⟨rfl, hb5⟩
    have hrR := hrR.past hb5
    have hoL5 := hoL3.past hb5
    have hs5 := hs3.trans (hb5.mono hs3.size)
    have hsz5 : w1.heap.size ≤ w5.heap.size := Nat.le_trans hsz3 hb5.size
    have hsb5 := hs5.size
    have hq5 := hq.past hs5
    clear hb5 hoL3 hs3 hsz3 hq3 hq3b
    by_cases hRb : R < b
    · have hC : cmpN R b ≤ -1 := by rw [f0t hRb]; omega
      have HS : Hid (SmallRel B16 L xs b j R ∧ ∀ i, i < j → dg L i = 0) := by
       have h := HR.out.1.skip (by omega) (by rw [hL.out]; omega) (by rw [HX.out]; exact hxd) (HR.out.2 j (by omega)) (by rw [HX.out, ← HRR.out]; exact hRb)
       rw [HX.out, ← HRR.out] at h
       exact ⟨h, fun i hi => HR.out.2 i (by omega)⟩
      clear hRb
      go_wp2_with fail
      go_roundw
      case rel => exact ⟨j, R, L, p3, _, rfl, rfl, by omega, hL, hrR, Nat.le_refl _, hrn, hoL5, hs5, hsz5, HS⟩
      case measure => first | (simp [intOf]; done) | (simp [intOf]; omega)
    · have hC : 0 ≤ cmpN R b := by unfold cmpN; rw [if_neg hRb]; split <;> omega
      have HRb := hi0 hRb
      have hsr := hrR.solid
      have c1 := hq5.cells (ys.length - 1) (by omega)
      have c0 := hq5.cells (ys.length - 2) (by omega)
      have i1 := (hq.cells (ys.length - 1) (by omega)).symm.trans hcb1
      have i0 := (hq.cells (ys.length - 2) (by omega)).symm.trans hcb0
      simp only [Option.some.injEq, Value.int.injEq, true_and] at i1 i0
      rw [i1] at c1
      rw [i0] at c0
      clear i1 i0 hRb
      have f1 : (0 : Int) ≤ (ys.length : Int) - 1 := by omega
      have f2 : (ys.length : Int) - 1 < (ys.length : Int) := by omega
      have f3 : (0 : Int) ≤ (ys.length : Int) - 2 := by omega
      have f4 : (ys.length : Int) - 2 < (ys.length : Int) := by omega
      have e1 : IntKind.i64.wrap ((ys.length : Int) - 1) = (ys.length : Int) - 1 := iwo
      have e2 : IntKind.i64.wrap ((ys.length : Int) - 2) = (ys.length : Int) - 2 := iwo
      have e3 : ((ys.length : Int) - 1).toNat = ys.length - 1 := by omega
      have e4 : ((ys.length : Int) - 2).toNat = ys.length - 2 := by omega
      have e5 : IntKind.i64.wrap ((b1 : Int) * 65536) = (b1 : Int) * 65536 := iwo
      have e6 : IntKind.i64.wrap (un : Int) = (un : Int) := iwo
      go_wp2_with fail
      go_quiet (fail)
      clear f1 f2 f3 f4 e1 e2 e3 e4 e5 e6 c1 c0
      have hrR := hrR.drewN nq
      have hoL6 := hoL5.drewN nq
      have hs6 := below_drewN hs5 nq
      have hq6 := hq5.drewN nq
      have hsz6 : w1.heap.size ≤ (w5.drewN nq).heap.size := hsz5
      generalize w5.drewN nq = w6 at *
      clear hoL5 hs5 hq5 hsz5 hsb5
      go_wp2_with fail
      have HRn := hi0 (show R < B16 ^ (ys.length + 1) by rw [HN.out, Nat.pow_succ]; exact Nat.lt_of_lt_of_le HRB.out (Nat.mul_le_mul_right _ (Nat.le_of_lt HBL.out)))
      go_loop [12, 14] (fun tv kv => ∃ (kk tp : Nat), kv = .int .i64 kk ∧ tv = .int .i64 tp ∧ kk ≤ 3 ∧ tp < 281474976710656 ∧ (kk < 3 → tp < 4294967296) ∧ Hid (tp = R / B16 ^ (ys.length + 1 - kk))) (fun _ kv => 3 - (intOf kv).toNat)
      case atStart => exact ⟨0, 0, rfl, rfl, by omega, by omega, fun _ => by omega, (show 0 = R / B16 ^ (ys.length + 1 - 0) from (Nat.div_eq_of_lt HRn.out).symm)⟩
      case round =>
       obtain ⟨kk, tp, rfl, rfl, hkk, htp, htp2, HT⟩ := hrel
       by_cases hk3 : kk < 3
       · have htp3 := htp2 hk3
         obtain ⟨dd, hdd⟩ : ∃ dd, dg (dig B16 R) (ys.length - kk) = dd := ⟨_, rfl⟩
         have hstep := e1z (R := R) (n := ys.length) (k := kk) (by omega) HT.out
         rw [hdd] at hstep
         have hlt := k1v (R := R) (n := ys.length) (k := kk + 1) (by omega) HRn.out
         rw [show ys.length + 1 - (kk + 1) = ys.length - kk by omega, ← hstep] at hlt
         have hlt3 : 65536 * tp + dd < 281474976710656 := Nat.lt_of_lt_of_le hlt (Nat.le_trans (Nat.pow_le_pow_right e0p (show kk + 1 ≤ 3 by omega)) (by decide))
         have hlt2 : kk + 1 < 3 → 65536 * tp + dd < 4294967296 := fun h => Nat.lt_of_lt_of_le hlt (Nat.le_trans (Nat.pow_le_pow_right e0p (show kk + 1 ≤ 2 by omega)) (by decide))
         have HS : Hid (65536 * tp + dd = R / B16 ^ (ys.length + 1 - (kk + 1))) := by rw [show ys.length + 1 - (kk + 1) = ys.length - kk by omega]; exact hstep
         have hddl : dd < 65536 := by rw [← hdd]; exact a0j (B := 65536) (by omega) _ (b0f a0e R) _
         have g1 : (0 : Int) ≤ (ys.length : Int) - (kk : Int) := by omega
         have g3 : ((ys.length : Int) - (kk : Int)).toNat = ys.length - kk := by omega
         clear hlt hstep
         by_cases hat : ys.length - kk < (dig B16 R).length
         · have hcr := hrR.cells (ys.length - kk) hat
           rw [hdd] at hcr
           have g2 : (ys.length : Int) - (kk : Int) < ((dig B16 R).length : Int) := by omega
           have HL2 := hi0 hlt2
           clear hat hdd hlt2 htp2
           go_wp2_with fail
           go_round
           case rel => exact ⟨kk + 1, 65536 * tp + dd, by go_num, by go_num, by omega, hlt3, HL2.out, HS⟩
           case measure => simp [intOf]; omega
         · have hd0 : dd = 0 := by rw [← hdd]; exact b0p (by omega)
           subst hd0
           have g2 : ((dig B16 R).length : Int) ≤ (ys.length : Int) - (kk : Int) := by omega
           have HL2 := hi0 hlt2
           clear hat hdd hlt2 htp2
           go_wp2_with fail
           go_round
           case rel => exact ⟨kk + 1, 65536 * tp + 0, by go_num, by go_num, by omega, hlt3, HL2.out, HS⟩
           case measure => simp [intOf]; omega
       · obtain rfl : kk = 3 := by omega
         have hT : tp = R / B16 ^ nn := by have := HT.out; rw [HN.out, show nn + 2 + 1 - 3 = nn by omega] at this; exact this
         obtain ⟨ht1, ht2⟩ := x0g (P := B16 ^ nn) (Nat.pow_pos e0p) (by rw [← HUN.out]; exact HUB.out) HRB.out
         rw [← hT, ← HUN.out] at ht1 ht2
         have hqd : R / b < 65536 := by rw [Nat.div_lt_iff_lt_mul HB.out, Nat.mul_comm]; exact HRB.out
         obtain ⟨xq, hxq⟩ : ∃ xq, xq = tp / (un + 1) := ⟨_, rfl⟩
         obtain ⟨qd, hqq⟩ : ∃ qd, qd = R / b := ⟨_, rfl⟩
         rw [← hxq, ← hqq] at ht1 ht2
         rw [← hqq] at hqd
         have ex : (tp : Int) / ((un : Int) + 1) = (xq : Nat) := by rw [hxq]; rfl
         have HQD := hi0 hqq
         have hu1 : (1 : Int) ≤ (un : Int) + 1 := by omega
         clear hT hxq hqq hk3 htp2
         go_wp2_with fail
         obtain ⟨d0, hd0⟩ : ∃ d0 : Nat, (d0 : Int) = min 65535 (max 0 ((xq : Int) - 1) + 4) := ⟨(min 65535 (max 0 ((xq : Int) - 1) + 4)).toNat, by omega⟩
         have hd1 : qd ≤ d0 := by omega
         have hd2 : d0 ≤ 65535 := by omega
         have HD0 := hi0 hd0
         clear hd0 ex ht1 ht2 hu1
         go_loopg [10, 17] d0 (fun g rv dv wr2 => ∃ (d : Nat), d = g ∧ rv = .slice p3 (dig B16 R).length (dig B16 R).length ∧ dv = .int .i64 d ∧ qd ≤ d ∧ d ≤ 65535 ∧ Below w6.heap.size w6 wr2)
         case atStart => exact ⟨d0, rfl, rfl, congrArg (Value.int .i64) HD0.out.symm, hd1, hd2, Below.refl _ _⟩
         case round =>
          obtain ⟨d, rfl, rfl, rfl, hqd1, hdl, hb7⟩ := hrel
          have ld : (dig B16 d).length ≤ 1 := (a0g a0e d 1).2 (by unfold B16; omega)
          have lbd : (dig B16 (b * d)).length ≤ 100000001 := by have := d0r a0e b d; omega
          go_wp2_with fail
          ((with_reducible refine (n0h d _ (by omega)).mono ?_))
          rintro e w8 ⟨p8, c8, rfl, hr8, -, -, hb8⟩
          have hs8 := hb7.trans (hb8.mono hb7.size)
          have hq8 : Rd w8 .i64 q (dig B16 b) := by rw [← HYS.out]; exact hq6.past hs8
          clear hb7 hb8
          go_wp2_with fail
          ((with_reducible refine (f0p q p8 _ _ e0 c8 b d _ hq8 hr8 lyb.out rfl (by omega)).mono ?_))
          rintro e w9 ⟨p9, c9, rfl, hr9, -, -, hb9⟩
          have hs9 := hs8.trans (hb9.mono hs8.size)
          clear hs8 hb9 hr8 hq8
          go_wp2_with fail
          ((with_reducible refine (d0w p9 p3 _ _ c9 _ (b * d) R _ hr9 (hrR.past hs9) rfl rfl (by omega) (by omega)).mono ?_))
          rintro e w10 ⟨rfl, hb10⟩
          have hs10 := hs9.trans (hb10.mono hs9.size)
          have hr10 := hr9.past hb10
          have hrR10 := hrR.past hs10
          clear hs9 hb10 hr9
          by_cases hle : b * d ≤ R
          · have hC2 : cmpN (b * d) R ≤ 0 := by unfold cmpN; split; omega; rw [if_neg (by omega)]; omega
            have hdq : d = qd := by
             have : d ≤ qd := by rw [HQD.out, Nat.le_div_iff_mul_le HB.out, Nat.mul_comm]; exact hle
             omega
            have HMM := hi0 (show R - b * d = R % b by rw [hdq, HQD.out]; have := Nat.div_add_mod R b; omega)
            have HS : Hid (SmallRel B16 (L.set j d) xs b j (R % b) ∧ ∀ i, i < j → dg (L.set j d) i = 0) := by
             have h := (HR.out.1.step (by omega) (by rw [hL.out]; omega) (by rw [HX.out]; exact hxd)).1
             rw [HX.out, ← HRR.out, ← HQD.out, ← hdq] at h
             exact ⟨h, fun i hi => by rw [b0m (by omega)]; exact HR.out.2 i (by omega)⟩
            have HLE := hi0 hle
            clear hdq hle
            go_wp2_with fail
            ((with_reducible refine (h0b p3 p9 _ _ _ c9 R (b * d) _ hrR10 hr10 rfl rfl (by omega) HLE.out).mono ?_))
            rw [HMM.out]
            rintro e w11 ⟨p11, c11, rfl, hr11, hl11, hk11, hb11⟩
            have hs11 := hs10.trans (hb11.mono hs10.size)
            have hk12 : 0 < (dig B16 (R % b)).length → w1.heap.size ≤ blk p11 := fun h => by
             have := hk11 h
             have := hs10.size
             omega
            have hoL11 := hoL6.past hs11
            have hbw11 := hs6.trans (hs11.mono hs6.size)
            have hsz11 : w1.heap.size ≤ w11.heap.size := Nat.le_trans hsz6 hs11.size
            have hsL := hoL11.solid
            rw [hL.out] at hsL
            have hjL : j < L.length := by rw [hL.out]; omega
            have hps := hi0 (hoL11.rd.solid (by omega)).1
            clear hs10 hb11 hrR10 hr10 hk11 hC2
            go_wp2_with (refine a0t rfl _ _ _ rfl 3 tyN _ _ _ _ hoL11 j hjL _ ?_ rfl rfl ?_; omega; intro w12 ho12 hg12 hb12)
            rw [Int.toNat_natCast] at ho12
            have hz12 := hg12.size
            go_roundw
            case rel => exact ⟨j, R % b, _, p11, c11, rfl, rfl, by omega, (by show (List.set _ _ _).length = _; rw [List.length_set]; exact hL.out), hr11.written hg12 (fun h0 h1 => by have := hk12 h0; have := hp1l h1; omega) hps.out, hl11, hk12, ho12, hbw11.trans hb12, Nat.le_trans hsz11 hz12, HS⟩
            case measure => first | (simp [intOf]; done) | (simp [intOf]; omega)
          · have hC2 : 1 ≤ cmpN (b * d) R := by rw [m0c (by omega)]; omega
            have hd1 : qd ≤ d - 1 ∧ 1 ≤ d := by
             have : qd ≠ d := by
              intro h
              have h1 := Nat.div_mul_le_self R b
              rw [← HQD.out, h, Nat.mul_comm] at h1
              exact hle h1
             omega
            obtain ⟨hd3, hd4⟩ := hd1
            have ed : (d : Int) - 1 = ((d - 1 : Nat) : Int) := by omega
            clear hle
            go_wp2_with fail
            go_roundg (d - 1)
            case measure => omega
            case rel => exact ⟨d - 1, rfl, rfl, rfl, hd3, by omega, hs10⟩
  · obtain rfl : k = 0 := by omega
    obtain ⟨hv, hm⟩ := HR.out.1.done HA.out
    have HM := hi0 hm
    have HV := hi0 hv
    have HLB := hi0 HR.out.1.1
    clear hv hm
    go_wp2_with fail
    refine (d0c p1 xs.length c1 L _ hoL.rd hL.out.symm (by rw [hL.out]; exact hL.out ▸ hoL.le_cap) HLB.out (by rw [hL.out]; omega)).mono ?_
    rintro e w3 ⟨rfl, rfl⟩
    rw [HV.out]
    go_wp2_with fail
    go_ret2
    have ht := a0v a0e L HLB.out
    have ho3 := hoL.take (dig B16 (val B16 L)).length
    rw [ht, HV.out] at ho3
    rw [← HM.out]
    exact ⟨p1, _, pr, _, rfl, ho3.rd, Nat.le_refl _, h0l ho3, hrr, hrc, fun h => Nat.le_trans hsz1 (hrb h), hbL⟩
theorem j0c (p q : Option Addr) (n m c e0 : Nat) (a b : Nat) (w : World) (hp : Rd w .i64 p (dig B16 a)) (hq : Rd w .i64 q (dig B16 b)) (hn : n = (dig B16 a).length) (hm : m = (dig B16 b).length)
 (hl : (dig B16 a).length ≤ 100000000) (hl2 : (dig B16 b).length ≤ 100000000) (hb : 0 < b) :
 Calls Tryz.prog 132 #[.slice p n c, .slice q m e0] w (u0p w .i64 (dig B16 (a / b)) (dig B16 (a % b))) := by
 by_cases h1 : (dig B16 b).length = 1
 · obtain ⟨h2, h3⟩ := n0y a0e h1
   rw [h1] at hm
   rw [f0i a0e h2 h3] at hq
   exact u0q p q n m c e0 a b w hp hq hn hm (by omega) h2 h3
 · have h0 : (dig B16 b).length ≠ 0 := by
    have := a0f a0e b
    omega
   exact s0w p q n m c e0 a b ((dig B16 b).length - 2) w hp hq hn hm hl hl2 (by omega)
instance decDv : DecidableEq Dv := fun a b => decidable_of_iff (a.neg = b.neg ∧ a.m = b.m ∧ a.e = b.e) ⟨fun h => Dv.ext' h.1 h.2.1 h.2.2, fun h => by subst h; exact ⟨rfl, rfl, rfl⟩⟩
structure InF (w : World) (base : Nat) (a : Rw) : Prop where
 rd : Rd w .i64 a.p (dig B16 a.m)
 cap : (dig B16 a.m).length ≤ a.c
 len : (dig B16 a.m).length ≤ 1000000
 lo : -1000000 ≤ a.e
 hi : a.e ≤ 1000000
 at_ : 0 < (dig B16 a.m).length → base ≤ blk a.p
theorem InF.past {w w' : World} {base : Nat} {a : Rw} (h : InF w base a) (hb : Below w.heap.size w w') : InF w' base a := ⟨h.rd.past hb, h.cap, h.len, h.lo, h.hi, h.at_⟩
theorem InF.drew {w : World} {base : Nat} {a : Rw} (h : InF w base a) : InF w.drew base a := ⟨h.rd.drew, h.cap, h.len, h.lo, h.hi, h.at_⟩
theorem InF.mono {w : World} {base base' : Nat} {a : Rw} (h : InF w base a) (hb : base' ≤ base) : InF w base' a := ⟨h.rd, h.cap, h.len, h.lo, h.hi, fun k => Nat.le_trans hb (h.at_ k)⟩
theorem InF.only {w w' : World} {base k : Nat} {a : Rw} (h : InF w base a) (hb : Only k w w') (hne : 0 < (dig B16 a.m).length → blk a.p ≠ k) : InF w' base a := ⟨h.rd.only hb hne, h.cap, h.len, h.lo, h.hi, h.at_⟩
theorem InF.lt {w : World} {base : Nat} {a : Rw} (h : InF w base a) : 0 < (dig B16 a.m).length → blk a.p < w.heap.size := fun k => h.rd.lt k
def GRf (w : World) (xs : List Nat) (en : Ending) (w' : World) : Prop :=
 ∃ p c, en = .returned (.slice p xs.length c) ∧ Rf w' w.heap.size p c xs ∧ Below w.heap.size w w'
theorem e0j.grf {w w' : World} {xs : List Nat} {en : Ending} (h : e0j w .i64 xs en w') : GRf w xs en w' := by
 obtain ⟨p, c, h1, h2, h3, h4, h5⟩ := h
 exact ⟨p, c, h1, f1w h2 h3 h4, h5⟩
def GNf (w : World) (base : Nat) (d : Dv) (en : Ending) (w' : World) : Prop :=
 ∃ p c, en = .returned (.agg #[.bool d.neg, .slice p (dig B16 d.m).length c, .int .i64 d.e]) ∧ Rf w' base p c (dig B16 d.m) ∧ Below w.heap.size w w'
theorem f1a (N : Int) (n : Nat) (h : N = n) (hn : n ≤ 9223372036854775807) (w : World) : Calls Tryz.prog 70 #[.int .i64 N] w (GRf w (dig B16 n)) := by
 subst h; exact (n0h n w hn).mono fun _ _ => e0j.grf
theorem s0x (N : Int) (n : Nat) (h : N = n) (hn : n ≤ 1000000000) (w : World) : Calls Tryz.prog 25 #[.int .i64 N] w (GRf w (dig B16 (2 ^ n))) := by
 subst h; exact (j0b n w hn).mono fun _ _ => e0j.grf
theorem f1b (p q : Option Addr) (n m c d : Nat) (a b x : Nat) (w : World) (hp : Rd w .i64 p (dig B16 a)) (hq : Rd w .i64 q (dig B16 b)) (hn : n = (dig B16 a).length) (hm : m = (dig B16 b).length)
 (hl : (dig B16 a).length ≤ 100000000) (hl2 : (dig B16 b).length ≤ 100000000) (h : a + b = x) :
 Calls Tryz.prog 61 #[.slice p n c, .slice q m d] w (GRf w (dig B16 x)) := by
 subst h; exact (j0a p q n m c d a b w hp hq hn hm (by omega)).mono fun _ _ => e0j.grf
theorem k1w (p q : Option Addr) (n m c d : Nat) (a b x : Nat) (w : World) (hp : Rd w .i64 p (dig B16 a)) (hq : Rd w .i64 q (dig B16 b)) (hn : n = (dig B16 a).length) (hm : m = (dig B16 b).length)
 (hl : (dig B16 a).length ≤ 100000000) (hl2 : (dig B16 b).length ≤ 100000000) (h : a * b = x) :
 Calls Tryz.prog 59 #[.slice p n c, .slice q m d] w (GRf w (dig B16 x)) := by
 subst h; exact (f0p p q n m c d a b w hp hq hn hm (by omega)).mono fun _ _ => e0j.grf
theorem i1h (p q : Option Addr) (n m c d : Nat) (a b x : Nat) (w : World) (hp : Rd w .i64 p (dig B16 a)) (hq : Rd w .i64 q (dig B16 b)) (hn : n = (dig B16 a).length) (hm : m = (dig B16 b).length)
 (hl : (dig B16 a).length ≤ 100000000) (hab : b ≤ a) (h : a - b = x) :
 Calls Tryz.prog 78 #[.slice p n c, .slice q m d] w (GRf w (dig B16 x)) := by
 subst h; exact (h0b p q n m c d a b w hp hq hn hm (by omega) hab).mono fun _ _ => e0j.grf
theorem g1m {w w' : World} {d : Dv} {en : Ending} (h : o0j w (fun _ => False) d en w') : GNf w w.heap.size d en w' := by
 obtain ⟨p, c, h1, h2, h3, h4, h5⟩ := h
 exact ⟨p, c, h1, l1t h2 h3 h4, h5⟩
structure FitR (d : Dv) : Prop where
 len : (dig B16 d.m).length ≤ 1000000
 lo : -1000000 ≤ d.e
 hi : d.e ≤ 1000000
theorem k1x (a b d : Dv) (p q : Option Addr) (c c' : Nat) (w : World) (hp : Rd w .i64 p (dig B16 a.m)) (hq : Rd w .i64 q (dig B16 b.m)) (fa : FitR a) (fb : FitR b) (h : f0e a b = d) :
 Calls Tryz.prog 23 #[.agg #[.bool a.neg, .slice p (dig B16 a.m).length c, .int .i64 a.e], .agg #[.bool b.neg, .slice q (dig B16 b.m).length c', .int .i64 b.e]] w (GNf w w.heap.size d) := by
 subst h
 exact (s0u a.neg b.neg p q _ c _ c' a.e b.e a.m b.m w hp hq rfl rfl fa.len fb.len ⟨fa.lo, fa.hi⟩ ⟨fb.lo, fb.hi⟩).mono fun _ _ => g1m
theorem i0p (g : Bool) (p : Option Addr) (n c : Nat) (e : Int) (m : Nat) (d : Dv) (w : World) (hp : Rd w .i64 p (dig B16 m)) (hn : n = (dig B16 m).length) (hl : (dig B16 m).length ≤ 1000000) (he : -1000000 ≤ e ∧ e ≤ 1000000) (h : bare ⟨g, m, e⟩ = d) :
 Calls Tryz.prog 62 #[.agg #[.bool g, .slice p n c, .int .i64 e]] w (GNf w w.heap.size d) := by
 subst h
 exact (f0q g p n c e m w hp hn (by omega) (by omega)).mono fun _ _ => g1m
theorem e0z (s e f d l g k : Int) (w : World) : Calls Tryz.prog 82 #[.int .i64 s, .int .i64 e, .int .i64 f, .int .i64 d, .int .i64 l, .int .i64 g, .int .i64 k] w
 fun en w' => en = .returned (.agg #[.int .i64 s, .int .i64 e, .int .i64 f, .int .i64 2, .int .i64 d, .int .i64 l, .int .i64 g, .bool (k == 1), .int .i64 k]) ∧ Below w.heap.size w w' := by
 have I := Inv.start w [] True.intro
 refine a0d [.v (.int .i64 s), .v (.int .i64 e), .v (.int .i64 f), .v (.int .i64 d), .v (.int .i64 l), .v (.int .i64 g), .v (.int .i64 k)] I Tryz.func82 ?_
 exact zrb I
theorem e0n (n : Int) (hn : IsFm n) (w : World) : Calls Tryz.prog 29 #[.int .i64 n] w
 fun e w' => e = .returned (.tuple #[.agg #[.int .i64 (((fmt n).size : Nat) : Int), .int .i64 (((fmt n).E : Nat) : Int), .int .i64 (((fmt n).F : Nat) : Int), .int .i64 (fmt n).g.rad, .int .i64 (fmt n).g.digs, .int .i64 (fmt n).g.lo, .int .i64 (fmt n).g.hi, .bool (fmt n).g.grad, .int .i64 (((fmt n).fam : Nat) : Int)], .bool true]) ∧ Below w.heap.size w w' := by
 rcases l0t hn with rfl | rfl | rfl | rfl | rfl | rfl | rfl | rfl
 · have I := Inv.start w [] True.intro
   refine a0d [.v (.int .i64 1)] I Tryz.func29 ?_
   refine zq I (fun Al W I => e0z 4 8 23 24 (-149) 104 1 W) fun Al W I => ?_
   exact zret I (v := fun Al => .tuple #[.agg #[.int .i64 4, .int .i64 8, .int .i64 23, .int .i64 2, .int .i64 24, .int .i64 (-149), .int .i64 104, .bool true, .int .i64 1], .bool true]) fun Al W I => ⟨by kernel_rfl, I.below⟩
 · have I := Inv.start w [] True.intro
   refine a0d [.v (.int .i64 2)] I Tryz.func29 ?_
   refine zq I (fun Al W I => e0z 8 11 52 53 (-1074) 971 1 W) fun Al W I => ?_
   exact zret I (v := fun Al => .tuple #[.agg #[.int .i64 8, .int .i64 11, .int .i64 52, .int .i64 2, .int .i64 53, .int .i64 (-1074), .int .i64 971, .bool true, .int .i64 1], .bool true]) fun Al W I => ⟨by kernel_rfl, I.below⟩
 · have I := Inv.start w [] True.intro
   refine a0d [.v (.int .i64 3)] I Tryz.func29 ?_
   refine zq I (fun Al W I => e0z 10 15 64 64 (-16445) 16320 1 W) fun Al W I => ?_
   exact zret I (v := fun Al => .tuple #[.agg #[.int .i64 10, .int .i64 15, .int .i64 64, .int .i64 2, .int .i64 64, .int .i64 (-16445), .int .i64 16320, .bool true, .int .i64 1], .bool true]) fun Al W I => ⟨by kernel_rfl, I.below⟩
 · have I := Inv.start w [] True.intro
   refine a0d [.v (.int .i64 4)] I Tryz.func29 ?_
   exact zret I (v := fun Al => .tuple #[.agg #[.int .i64 4, .int .i64 7, .int .i64 24, .int .i64 16, .int .i64 6, .int .i64 (-70), .int .i64 57, .bool false, .int .i64 2], .bool true]) fun Al W I => ⟨by kernel_rfl, I.below⟩
 · have I := Inv.start w [] True.intro
   refine a0d [.v (.int .i64 5)] I Tryz.func29 ?_
   exact zret I (v := fun Al => .tuple #[.agg #[.int .i64 8, .int .i64 7, .int .i64 56, .int .i64 16, .int .i64 14, .int .i64 (-78), .int .i64 49, .bool false, .int .i64 2], .bool true]) fun Al W I => ⟨by kernel_rfl, I.below⟩
 · have I := Inv.start w [] True.intro
   refine a0d [.v (.int .i64 6)] I Tryz.func29 ?_
   refine zq I (fun Al W I => e0z 4 8 23 24 (-151) 103 3 W) fun Al W I => ?_
   exact zret I (v := fun Al => .tuple #[.agg #[.int .i64 4, .int .i64 8, .int .i64 23, .int .i64 2, .int .i64 24, .int .i64 (-151), .int .i64 103, .bool false, .int .i64 3], .bool true]) fun Al W I => ⟨by kernel_rfl, I.below⟩
 · have I := Inv.start w [] True.intro
   refine a0d [.v (.int .i64 7)] I Tryz.func29 ?_
   refine zq I (fun Al W I => e0z 8 8 55 56 (-183) 71 3 W) fun Al W I => ?_
   exact zret I (v := fun Al => .tuple #[.agg #[.int .i64 8, .int .i64 8, .int .i64 55, .int .i64 2, .int .i64 56, .int .i64 (-183), .int .i64 71, .bool false, .int .i64 3], .bool true]) fun Al W I => ⟨by kernel_rfl, I.below⟩
 · have I := Inv.start w [] True.intro
   refine a0d [.v (.int .i64 8)] I Tryz.func29 ?_
   refine zq I (fun Al W I => e0z 8 11 52 53 (-1076) 970 3 W) fun Al W I => ?_
   exact zret I (v := fun Al => .tuple #[.agg #[.int .i64 8, .int .i64 11, .int .i64 52, .int .i64 2, .int .i64 53, .int .i64 (-1076), .int .i64 970, .bool false, .int .i64 3], .bool true]) fun Al W I => ⟨by kernel_rfl, I.below⟩
theorem k0f (n : Int) (hn : ¬ IsFm n) (w : World) : Calls Tryz.prog 29 #[.int .i64 n] w
 fun e w' => e = .returned (.tuple #[.agg #[.int .i64 (((fmt n).size : Nat) : Int), .int .i64 (((fmt n).E : Nat) : Int), .int .i64 (((fmt n).F : Nat) : Int), .int .i64 (fmt n).g.rad, .int .i64 (fmt n).g.digs, .int .i64 (fmt n).g.lo, .int .i64 (fmt n).g.hi, .bool (fmt n).g.grad, .int .i64 (((fmt n).fam : Nat) : Int)], .bool false]) ∧ Below w.heap.size w w' := by
 rw [q0v hn]
 unfold IsFm at hn
 have I := Inv.start w [] True.intro
 refine a0d [.v (.int .i64 n)] I Tryz.func29 ?_
 refine zb I 7 (n == 1) (false) (bFn (by omega)) fun Al W I => ?_
 refine zb I 11 (n == 2) (false) (bFn (by omega)) fun Al W I => ?_
 refine zb I 15 (n == 3) (false) (bFn (by omega)) fun Al W I => ?_
 refine zb I 19 (n == 4) (false) (bFn (by omega)) fun Al W I => ?_
 refine zb I 23 (n == 5) (false) (bFn (by omega)) fun Al W I => ?_
 refine zb I 27 (n == 6) (false) (bFn (by omega)) fun Al W I => ?_
 refine zb I 31 (n == 7) (false) (bFn (by omega)) fun Al W I => ?_
 refine zb I 35 (n == 8) (false) (bFn (by omega)) fun Al W I => ?_
 exact zret I (v := fun Al => .tuple #[.agg #[.int .i64 0, .int .i64 0, .int .i64 0, .int .i64 0, .int .i64 0, .int .i64 0, .int .i64 0, .bool false, .int .i64 0], .bool false]) fun Al W I => ⟨by kernel_rfl, I.below⟩
theorem b0e (n : Int) (w : World) : Calls Tryz.prog 29 #[.int .i64 n] w
 fun e w' => e = .returned (.tuple #[.agg #[.int .i64 (((fmt n).size : Nat) : Int), .int .i64 (((fmt n).E : Nat) : Int), .int .i64 (((fmt n).F : Nat) : Int), .int .i64 (fmt n).g.rad, .int .i64 (fmt n).g.digs, .int .i64 (fmt n).g.lo, .int .i64 (fmt n).g.hi, .bool (fmt n).g.grad, .int .i64 (((fmt n).fam : Nat) : Int)], .bool (decide (IsFm n))]) ∧ Below w.heap.size w w' := by
 by_cases hn : IsFm n
 · rw [decide_eq_true hn]; exact e0n n hn w
 · rw [decide_eq_false hn]; exact k0f n hn w
theorem u0w (n : Int) (s : ByteArray) (w : World) : Calls Tryz.prog 30 #[.int .i64 n, .string s] w
 fun e w' => e = .returned (.int .i64 (b0o n s)) ∧ Below w.heap.size w w' := by
 by_cases hn : IsFm n
 · have HF := fun W => hi0 (e0n n hn W)
   by_cases hs : s.size = (fmt n).size
   · rw [d0y.2 ⟨hn, hs⟩]
     generalize fmt n = f at *
     have I := Inv.start w [] True.intro
     refine a0d [.v (.int .i64 n), .v (.string s)] I Tryz.func30 ?_
     refine zq I (fun Al W I => (HF W).out) fun Al W I => ?_
     refine zb I 18 ((s.size : Int) != (f.size : Int)) (false) (by simp [hs]) fun Al W I => ?_
     exact zrb I
   · rw [show b0o n s = 1 by unfold b0o; rw [if_pos hn, if_neg hs]]
     generalize fmt n = f at *
     have I := Inv.start w [] True.intro
     refine a0d [.v (.int .i64 n), .v (.string s)] I Tryz.func30 ?_
     refine zq I (fun Al W I => (HF W).out) fun Al W I => ?_
     refine zb I 18 ((s.size : Int) != (f.size : Int)) (true) (bne_iff_ne.2 (fun h => hs (by omega))) fun Al W I => ?_
     exact zrb I
 · have HF := fun W => hi0 (k0f n hn W)
   rw [show b0o n s = 6 by unfold b0o; rw [if_neg hn]]
   generalize fmt n = f at *
   have I := Inv.start w [] True.intro
   refine a0d [.v (.int .i64 n), .v (.string s)] I Tryz.func30 ?_
   refine zq I (fun Al W I => (HF W).out) fun Al W I => ?_
   exact zrb I
theorem c1h {n : Int} (h : IsFm n) : (fmt n).ext = decide (n = 3) := by
 rcases l0t h with rfl | rfl | rfl | rfl | rfl | rfl | rfl | rfl <;> rfl
theorem l0j (n : Int) (i : Nat) (w : World) (hn : IsFm n) (hi : i < (fmt n).size) : Calls Tryz.prog 142 #[.int .i64 n, .int .i64 (i : Int)] w
 fun e w' => e = .returned (.int .i64 ((plc (fmt n).ord (fmt n).size i : Nat) : Int)) ∧ Below w.heap.size w w' := by
 have HF := fun W => hi0 (e0n n hn W)
 have G := b0s hn
 have z1 := G.sz
 have he := c1h hn
 generalize fmt n = f at *
 by_cases h3 : n = 3
 · rw [decide_eq_true h3] at he
   have hp : ((plc f.ord f.size i : Nat) : Int) = (f.size : Int) - 1 - i := by unfold plc Fm.ord; rw [he, if_pos rfl, if_pos rfl]; omega
   rw [hp]
   have I := Inv.start w [] True.intro
   refine a0d [.v (.int .i64 n), .v (.int .i64 (i : Int))] I Tryz.func142 ?_
   refine zq I (fun Al W I => (HF W).out) fun Al W I => ?_
   refine zb I 14 (n == 3) (true) (beq_iff_eq.2 h3) fun Al W I => ?_
   refine zi I 17 .i64 ((f.size : Int) - 1) ((f.size : Int) - 1) (iwo) fun Al W I => ?_
   refine zi I 19 .i64 (((f.size : Int) - 1) - (i : Int)) (((f.size : Int) - 1) - (i : Int)) (iwo) fun Al W I => ?_
   exact zrb I
 · rw [decide_eq_false h3] at he
   by_cases hf : f.fam = 3
   · have hp : ((plc f.ord f.size i : Nat) : Int) = (i : Int) + 1 - 2 * ((i % 2 : Nat) : Int) := by unfold plc Fm.ord; rw [he, if_neg (show ¬ (false = true) by simp), if_pos hf, if_neg (by omega), if_pos rfl]; omega
     rw [hp]
     have I := Inv.start w [] True.intro
     refine a0d [.v (.int .i64 n), .v (.int .i64 (i : Int))] I Tryz.func142 ?_
     refine zq I (fun Al W I => (HF W).out) fun Al W I => ?_
     refine zb I 14 (n == 3) (false) (bFn h3) fun Al W I => ?_
     refine zb I 23 ((f.fam : Int) == 3) (true) (beq_iff_eq.2 (by omega)) fun Al W I => ?_
     refine zi I 25 .i64 ((i : Int) + 1) ((i : Int) + 1) (iwo) fun Al W I => ?_
     refine zbin I 27 _ (fun _ _ _ _ _ => q0n .i64 (i : Int) (2) (((i % 2 : Nat) : Int)) ((show (2 : Int) ≠ 0 by omega)) ((by exact (Int.ofNat_tmod i 2).symm))) fun Al W I => ?_
     refine zi I 28 .i64 ((2 : Int) * ((i % 2 : Nat) : Int)) ((2 : Int) * ((i % 2 : Nat) : Int)) (iwo) fun Al W I => ?_
     refine zi I 29 .i64 (((i : Int) + 1) - ((2 : Int) * ((i % 2 : Nat) : Int))) (((i : Int) + 1) - ((2 : Int) * ((i % 2 : Nat) : Int))) (iwo) fun Al W I => ?_
     exact zrb I
   · have hp : ((plc f.ord f.size i : Nat) : Int) = (i : Int) := by unfold plc Fm.ord; rw [he, if_neg (show ¬ (false = true) by simp), if_neg hf, if_neg (by omega), if_neg (by omega)]
     rw [hp]
     have I := Inv.start w [] True.intro
     refine a0d [.v (.int .i64 n), .v (.int .i64 (i : Int))] I Tryz.func142 ?_
     refine zq I (fun Al W I => (HF W).out) fun Al W I => ?_
     refine zb I 14 (n == 3) (false) (bFn h3) fun Al W I => ?_
     refine zb I 23 ((f.fam : Int) == 3) (false) (bFn (by omega)) fun Al W I => ?_
     exact zrb I
end Go.Proofs.YtmacohmclpnphaaGreatDoor
namespace Go.Slip
theorem q0x (c : Nat) {j : Nat} (h : j < 8) : (e0d c).take (j + 1) = (e0d c).take j ++ [c / (128 / 2 ^ j) % 2 == 1] := by
 match j, h with
 | 0, _ => rfl
 | 1, _ => rfl
 | 2, _ => rfl
 | 3, _ => rfl
 | 4, _ => rfl
 | 5, _ => rfl
 | 6, _ => rfl
 | 7, _ => rfl
theorem k1y {k j : Nat} (h : k = 128 / 2 ^ j) (hj : j ≤ 8) : k = 0 ↔ j = 8 := by
 subst h
 match j, hj with
 | 0, _ => decide
 | 1, _ => decide
 | 2, _ => decide
 | 3, _ => decide
 | 4, _ => decide
 | 5, _ => decide
 | 6, _ => decide
 | 7, _ => decide
 | 8, _ => decide
theorem m1f {k j : Nat} (h : k = 128 / 2 ^ j) : k ≤ 128 := by rw [h]; exact Nat.div_le_self _ _
theorem l0k : ∀ (x y : List Nat), f0x (x ++ y) = f0x x ++ f0x y
 | [], _ => rfl
 | c :: r, y => by show e0d c ++ f0x (r ++ y) = _; rw [l0k r y]; simp [f0x]
theorem y0b (L : List Nat) {i : Nat} (h : i < L.length) : f0x (L.take (i + 1)) = f0x (L.take i) ++ (e0d (dg L i)).take 8 := by
 rw [← List.take_append_getElem h, l0k, b0q h]
 congr 1
end Go.Slip
namespace Go.Proofs.YtmacohmclpnphaaGreatDoor
open Go.RowKit Go.Slip
def GBs (w : World) (bs : List Bool) (en : Ending) (w' : World) : Prop :=
 ∃ p c, en = .returned (.slice p bs.length c) ∧ OwnV w' w.heap.size 4 p c (bs.map Value.bool) ∧ Below w.heap.size w w'
theorem q0y (n : Int) (s : ByteArray) (w : World) (hn : IsFm n) (hs : s.size = (fmt n).size) :
 Calls Tryz.prog 83 #[.int .i64 n, .string s] w (GBs w (f0x (ordL (fmt n).ord (b0g s)))) := by
 have G := b0s hn
 have z1 := G.sz
 have HP := fun i W h => hi0 (l0j n i W hn h)
 generalize fmt n = f at *
 have hl0 : (b0g s).length = f.size := by rw [c0d, hs]
 have hlL : (ordL f.ord (b0g s)).length = f.size := by rw [b0u, hl0]
 have hbL := i0e (o := f.ord) (xs := b0g s) (fun _ => by omega) (k0w s)
 have hdg : ∀ i, i < f.size → dg (b0g s) (plc f.ord f.size i) = dg (ordL f.ord (b0g s)) i := fun i hi => by rw [i0x (by omega), hl0]
 have hpl : ∀ i, i < f.size → plc f.ord f.size i < s.size := fun i hi => by rw [hs]; exact o0n (fun _ => by omega) hi
 generalize ordL f.ord (b0g s) = L at *
 have hsucc := fun i (h : i < f.size) => y0b L (i := i) (by omega)
 have hdb := k1n hbL
 have hlen : ∀ i, i ≤ f.size → (f0x (L.take i)).length = 8 * i := fun i hi => by rw [h0o, List.length_take]; omega
 have hall : L.take f.size = L := List.take_of_length_le (by omega)
 clear hbL hl0
 refine calls_of_wp Tryz.func83 rfl ?_
 refine a0s (a' := ⟨((.int .i64 n) :: (.string s) :: us 32 []).toArray, []⟩) (by kernel_rfl) ?_
 refine yq ?_
 refine yq ?_
 refine wp_seq ?_
 refine yq ?_
 refine wp_block ?_
 refine a0s (a' := ⟨((.int .i64 n) :: (.string s) :: us 2 ((.slice none 0 0) :: (.slice none 0 0) :: (.int .i64 0) :: us 27 [])).toArray, []⟩) (by kernel_rfl) ?_
 refine e0e (fun (gk : Nat) U0 a' w' => ∃ (i : Nat) (p5 : Option Addr) (c5 : Nat) (n5 : Nat), a' = ⟨((.int .i64 n) :: (.string s) :: us 2 ((.slice none 0 0) :: (.slice p5 n5 c5) :: (.int .i64 (i : Int)) :: uvs U0 7 26 (undef :: []))).toArray, []⟩ ∧ (OwnV w' w.heap.size 4 p5 c5 ((f0x (L.take i)).map Value.bool)) ∧ Below w.heap.size w w' ∧ (n5 = 8 * i) ∧ (gk + i = f.size)) f.size ?_ (fun Gx hGx => ?_)
 · exact ⟨0, none, 0, 0, by kernel_rfl, (by rw [List.take_zero]; exact OwnV.nil _ _ _), Below.refl _ _, (by omega), (by omega)⟩
 rintro gk0 U0 _ V1 ⟨i, p5, c5, n5, rfl, o5, hbV1, hn5, hgk⟩
 refine hGx _ _ _ ?_
 clear hGx Gx
 have hzV1 := hbV1.size
 refine wp_seq ?_
 refine ye ?_
 rcases Bool.eq_false_or_eq_true (decide ((i : Int) < (s.size : Int))) with f12 | f12
 · refine yb 3 rfl 12 (decide ((i : Int) < (s.size : Int))) (true) (f12) ?_
   refine yzt 0 ?_
   refine yT ?_
   refine wp_skip ?_
   refine a0h ?_
   refine wp_seq ?_
   refine wp_block ?_
   refine ye ?_
   refine yc 3 rfl 18 ((HP i V1 (by have := oTr f12; omega)).out) (fun Gx hGx => ?_)
   rintro eV2 V2 ⟨rfl, hbV2⟩
   have hzV2 := hbV2.size
   refine ⟨_, rfl, hGx _ _ ?_⟩
   clear hGx Gx
   refine yv 0 rfl 19 (.int .u8 ((dg L i : Nat) : Int)) ?_ (e1c uStr (m := plc f.ord f.size i) (by kernel_rfl) (by kernel_rfl) (hpl i (by have := oTr f12; omega)) (by rw [hdg i (by have := oTr f12; omega)]))
   refine ya 0 rfl 20 .i64 ((dg L i : Nat) : Int) (((dg L i : Nat) : Int)) ((IntWalk.i64_in _ (by have := hdb i; omega))) ?_
   refine yzt 1 ?_
   refine yq ?_
   refine wp_block ?_
   refine a0s (a' := ⟨((.int .i64 n) :: (.string s) :: us 2 ((.slice none 0 0) :: (.slice p5 n5 c5) :: (.int .i64 (i : Int)) :: (.int .i64 ((dg L i : Nat) : Int)) :: (.int .i64 128) :: (.int .i64 (i : Int)) :: (.string s) :: (.int .i64 (s.size : Int)) :: (.bool true) :: uvs U0 13 2 ((.string s) :: (.int .i64 n) :: (.int .i64 (i : Int)) :: (.int .i64 ((plc f.ord f.size i : Nat) : Int)) :: (.int .u8 ((dg L i : Nat) : Int)) :: (.int .i64 ((dg L i : Nat) : Int)) :: uvs U0 21 12 (undef :: [])))).toArray, []⟩) (by kernel_rfl) ?_
   refine e0e (fun (gk : Nat) U1 a' w' => ∃ (j : Nat) (k : Nat) (p7 : Option Addr) (c7 : Nat) (n7 : Nat), a' = ⟨((.int .i64 n) :: (.string s) :: us 2 ((.slice none 0 0) :: (.slice p7 n7 c7) :: (.int .i64 (i : Int)) :: (.int .i64 ((dg L i : Nat) : Int)) :: (.int .i64 (k : Int)) :: (.int .i64 (i : Int)) :: (.string s) :: (.int .i64 (s.size : Int)) :: (.bool true) :: uvs U0 13 2 ((.string s) :: (.int .i64 n) :: (.int .i64 (i : Int)) :: (.int .i64 ((plc f.ord f.size i : Nat) : Int)) :: (.int .u8 ((dg L i : Nat) : Int)) :: (.int .i64 ((dg L i : Nat) : Int)) :: uvs U1 21 12 (undef :: [])))).toArray, []⟩ ∧ (OwnV w' w.heap.size 4 p7 c7 ((f0x (L.take i) ++ (e0d (dg L i)).take j).map Value.bool)) ∧ Below w.heap.size w w' ∧ (n7 = 8 * i + j) ∧ (k = 128 / 2 ^ j) ∧ (gk + j = 8)) 8 ?_ (fun Gx hGx => ?_)
   · replace o5 := (o5.past hbV2)
     exact ⟨0, 128, p5, c5, n5, by kernel_rfl, (by rw [List.take_zero, List.append_nil]; exact o5), (a0a hbV1 hbV2), hn5, (by decide), (by omega)⟩
   rintro gk1 U1 _ V3 ⟨j, k, p7, c7, n7, rfl, o7, hbV3, hn7, hk, hgk1⟩
   refine hGx _ _ _ ?_
   clear hGx Gx
   have hzV3 := hbV3.size
   refine wp_seq ?_
   have hi8 : (f0x (L.take i)).length = 8 * i := hlen i (by have := oTr f12; omega)
   have hk0 : k = 0 ↔ j = 8 := k1y hk (by omega)
   refine ye ?_
   rcases Bool.eq_false_or_eq_true (decide ((k : Int) > 0)) with f22 | f22
   · refine yb 1 rfl 22 (decide ((k : Int) > 0)) (true) (f22) ?_
     refine yzt 0 ?_
     refine yT ?_
     refine wp_skip ?_
     refine a0h ?_
     refine wp_seq ?_
     refine wp_block ?_
     refine a0n ?_
     refine yv 3 rfl 28 (.int .i64 ((dg L i / k : Nat) : Int)) ?_ (j0y (X := (((dg L i : Nat) : Int))) (Y := (k : Int)) ((dg L i / k : Nat) : Int) (by kernel_rfl) (by kernel_rfl) ((by have := oTr f22; omega)) ((by rw [show ((dg L i : Nat) : Int).tdiv (k : Int) = ((dg L i / k : Nat) : Int) from (Int.ofNat_tdiv _ _).symm]; have h1 := hdb i; have h2 := Nat.div_le_self (dg L i) k; generalize dg L i / k = qq at *; exact iwo)))
     refine yv 0 rfl 29 (.int .i64 ((dg L i / k % 2 : Nat) : Int)) ?_ (d1s (X := (((dg L i / k : Nat) : Int))) (Y := (2)) ((dg L i / k % 2 : Nat) : Int) (by kernel_rfl) (by kernel_rfl) ((show (2 : Int) ≠ 0 by omega)) ((by exact (Int.ofNat_tmod _ 2).symm)))
     refine yb 0 rfl 30 (((dg L i / k % 2 : Nat) : Int) == 1) ((dg L i / k % 2 == 1)) ((by exact i0z _)) ?_
     refine ywv 0 rfl 31 (.slice (some ⟨V3.heap.size, 0, none⟩) 1 1) #[.bool (dg L i / k % 2 == 1)] 4 (fun V4 hbV4 hzV4 b31 => ?_)
     replace o7 := (o7.past hbV4)
     refine sapv 32 d0d w.heap.size p7 n7 c7 _ o7 (by simp [hi8, f0n]; omega) (some ⟨V3.heap.size, 0, none⟩) 1 1 [Value.bool (dg L i / k % 2 == 1)] (h1u b31) rfl rfl (by simp [hi8, f0n]; omega) (by omega) (8 * i + (j + 1)) (by simp [hi8, f0n]; have := oTr f22; omega) (fun p32 c32 V5 o32 hjV5 => ?_)
     have hbV5 : Below w.heap.size w V5 := (a0a hbV3 hbV4).trans (hjV5.mono (by omega))
     have hzV5 := hbV5.size
     refine yz 1 ?_
     refine a0p ?_
     refine a0h ?_
     refine a0n ?_
     refine yv 1 rfl 24 (.int .i64 ((k / 2 : Nat) : Int)) ?_ (j0y (X := (k : Int)) (Y := (2)) ((k / 2 : Nat) : Int) (by kernel_rfl) (by kernel_rfl) ((show (2 : Int) ≠ 0 by omega)) ((by rw [show (k : Int).tdiv 2 = ((k / 2 : Nat) : Int) from (Int.ofNat_tdiv k 2).symm]; exact IntWalk.i64_in _ (by have := m1f hk; omega))))
     refine yz 1 ?_
     refine a0h ?_
     refine ⟨gk1 - 1, (by have := oTr f22; omega), ?_⟩
     exact ⟨j + 1, k / 2, p32, c32, 8 * i + (j + 1), by kernel_rfl, (by rw [q0x _ (show j < 8 by have := oTr f22; omega), ← hk, ← List.append_assoc, List.map_append (l₁ := _ ++ _)]; exact o32), hbV5, rfl, (by rw [hk, Nat.div_div_eq_div_mul, Nat.pow_succ]), (by have := oTr f22; omega)⟩
   refine yb 1 rfl 22 (decide ((k : Int) > 0)) (false) (f22) ?_
   refine yzt 0 ?_
   refine yF ?_
   refine wp_exit ?_
   repeat (with_reducible refine c0c ?_)
   refine f0z (id := 2) ?_
   refine a0p ?_
   refine a0h ?_
   refine a0n ?_
   refine ya 1 rfl 14 .i64 ((i : Int) + 1) (((i + 1 : Nat) : Int)) ((by rw [show ((i : Int) + 1) = ((i + 1 : Nat) : Int) by omega]; exact IntWalk.i64_in _ (by have := oTr f12; omega))) ?_
   refine yz 1 ?_
   refine a0h ?_
   refine ⟨gk0 - 1, (by have := oTr f12; omega), ?_⟩
   exact ⟨i + 1, p7, c7, n7, by kernel_rfl, (by rw [hsucc i (by have := oTr f12; omega), ← hk0.1 (by have := oFa f22; omega)]; exact o7), hbV3, (by have := hk0.1 (by have := oFa f22; omega); omega), (by have := oTr f12; omega)⟩
 refine yb 3 rfl 12 (decide ((i : Int) < (s.size : Int))) (false) (f12) ?_
 refine yzt 0 ?_
 refine yF ?_
 refine wp_exit ?_
 repeat (with_reducible refine c0c ?_)
 refine f0z (id := 0) ?_
 refine a0h ?_
 refine yq ?_
 refine wp_ret ?_
 repeat (first | with_reducible refine a0r ?_ | with_reducible refine a0o ?_)
 refine yret (.slice p5 n5 c5) (res1 Tryz.results83 rvt) ?_
 have hi : i = f.size := by have := oFa f12; omega
 have hL8 : (f0x L).length = n5 := by rw [← hall, hlen _ (Nat.le_refl _)]; omega
 rw [hi, hall] at o5
 exact ⟨p5, c5, by rw [hL8], o5, hbV1⟩
end Go.Proofs.YtmacohmclpnphaaGreatDoor
namespace Go.Slip
theorem h0c (bs : List Bool) {i : Nat} (h : i < bs.length) : vb (bs.take i) * 2 + (bs.getD i false).toNat = vb (bs.take (i + 1)) := by
 rw [s0f bs i h, Nat.mul_comm, List.getD_eq_getElem?_getD, List.getElem?_eq_getElem h]
 rfl
theorem q0z (bs : List Bool) {i : Nat} (h : i < bs.length) : (bs.map Value.bool)[i]? = some (.bool (bs.getD i false)) := by
 rw [List.getElem?_map, List.getD_eq_getElem?_getD, List.getElem?_eq_getElem h]
 rfl
end Go.Slip
namespace Go.Proofs.YtmacohmclpnphaaGreatDoor
open Go.RowKit Go.Slip
theorem k0g : dig B16 2 = [2] := by rw [d0m a0e (by omega), show 2 / B16 = 0 by unfold B16; omega, a0c, show 2 % B16 = 2 by unfold B16; omega]
theorem g1n {w : World} {b : Nat} {t : TypeId} (h : Bt w b t #[.int .i64 2]) : Rf w b (some ⟨b, 0, none⟩) 1 (dig B16 2) := by rw [k0g]; exact f1x (k := 2) h
theorem s0y : 1 = (dig B16 2).length := by rw [k0g]; rfl
theorem b0v {x n k : Nat} (h : x < 2 ^ n) (hk : n ≤ 16 * k) : (dig B16 x).length ≤ k := by
 rw [a0g a0e]
 unfold B16
 rw [show (65536 : Nat) = 2 ^ 16 from rfl, ← Nat.pow_mul]
 exact Nat.lt_of_lt_of_le h (Nat.pow_le_pow_right (by omega) hk)
theorem s0z (bs : List Bool) (p : Option Addr) (n c : Nat) (w : World) (hp : RdV w p (bs.map Value.bool)) (hn : n = bs.length) (hl : bs.length ≤ 200) :
 Calls Tryz.prog 84 #[.slice p n c] w (GRf w (dig B16 (vb bs))) := by
 subst hn
 have hd : ∀ i, (dig B16 (vb (bs.take i))).length ≤ 100 := fun i => b0v (n := 200) (Nat.lt_of_lt_of_le (j0r _) (Nat.pow_le_pow_right (by omega) (by rw [List.length_take]; omega))) (by omega)
 have hd2 : ∀ i, (dig B16 (vb (bs.take i) * 2)).length ≤ 101 := fun i => b0v (n := 201) (by have h := j0r (bs.take i); have h2 : 2 ^ (bs.take i).length ≤ 2 ^ 200 := Nat.pow_le_pow_right (by omega) (by rw [List.length_take]; omega); rw [show 201 = 200 + 1 from rfl, Nat.pow_succ]; generalize 2 ^ 200 = T at *; omega) (by omega)
 have hsucc := fun i h => h0c bs (i := i) h
 have hall : bs.take bs.length = bs := List.take_length
 have hget := fun i h => q0z bs (i := i) h
 have hln : (bs.map Value.bool).length = bs.length := List.length_map ..
 refine calls_of_wp Tryz.func84 rfl ?_
 refine a0s (a' := ⟨((.slice p bs.length c) :: us 21 []).toArray, []⟩) (by kernel_rfl) ?_
 refine yq ?_
 refine yq ?_
 refine wp_seq ?_
 refine yq ?_
 refine wp_block ?_
 refine a0s (a' := ⟨((.slice p bs.length c) :: undef :: (.slice none 0 0) :: (.slice none 0 0) :: (.int .i64 0) :: us 17 []).toArray, []⟩) (by kernel_rfl) ?_
 refine e0e (fun (gk : Nat) U0 a' w' => ∃ (i : Nat) (p3 : Option Addr) (c3 : Nat) (n3 : Nat), a' = ⟨((.slice p bs.length c) :: undef :: (.slice none 0 0) :: (.slice p3 n3 c3) :: (.int .i64 (i : Int)) :: uvs U0 5 16 (undef :: [])).toArray, []⟩ ∧ (Rf w' w.heap.size p3 c3 (dig B16 (vb (bs.take i)))) ∧ Below w.heap.size w w' ∧ (n3 = (dig B16 (vb (bs.take i))).length) ∧ (gk + i = bs.length)) bs.length ?_ (fun Gx hGx => ?_)
 · exact ⟨0, none, 0, 0, by kernel_rfl, (by rw [List.take_zero, z0m, a0c]; exact m0p _ _ _), Below.refl _ _, (by rw [List.take_zero, z0m, a0c]; rfl), (by omega)⟩
 rintro gk0 U0 _ V1 ⟨i, p3, c3, n3, rfl, o3, hbV1, hn3, hgk⟩
 refine hGx _ _ _ ?_
 clear hGx Gx
 have hzV1 := hbV1.size
 have lo3 := fun h => o3.lt h
 refine wp_seq ?_
 refine ye ?_
 rcases Bool.eq_false_or_eq_true (decide ((i : Int) < (bs.length : Int))) with f8 | f8
 · refine yb 3 rfl 8 (decide ((i : Int) < (bs.length : Int))) (true) (f8) ?_
   refine yzt 0 ?_
   refine yT ?_
   refine wp_skip ?_
   refine a0h ?_
   refine wp_seq ?_
   refine wp_block ?_
   refine ye ?_
   refine ywv 1 rfl 12 (.slice (some ⟨V1.heap.size, 0, none⟩) 1 1) #[.int .i64 2] 3 (fun V2 hbV2 hzV2 b12 => ?_)
   replace o3 := (o3.past hbV2)
   refine yc 0 rfl 13 (k1w p3 (some ⟨V1.heap.size, 0, none⟩) n3 1 c3 1 (vb (bs.take i)) 2 (vb (bs.take i) * 2) V2 o3.rd (g1n b12).rd hn3 s0y (by have := hd i; omega) (by rw [k0g]; decide) rfl) (fun Gx hGx => ?_)
   rintro eV3 V3 ⟨p13, c13, rfl, o13, hbV3⟩
   have hzV3 := hbV3.size
   have lo13 := fun h => o13.lt h
   refine ⟨_, rfl, hGx _ _ ?_⟩
   clear hGx Gx
   refine yzt 1 ?_
   refine ye ?_
   replace hp := (hp.past (a0a (a0a hbV1 hbV2) hbV3))
   refine yv 2 rfl 16 (.pointer (some (at_ p i))) ?_ (i0g (p := p) (n := bs.length) (c := c) (m := i) d0d (by have h := hp.solid; rw [hln] at h; exact h) (by kernel_rfl) (by kernel_rfl) (by have := oTr f8; omega))
   rcases Bool.eq_false_or_eq_true (bs.getD i false) with f17 | f17
   · refine yv 0 rfl 17 (.bool true) ?_ ((show _ = Result.ok (Next.value (.bool (bs.getD i false))) _ from (l0x hp k0b (m := i) (by kernel_rfl) (hget i (by have := oTr f8; omega)))).trans (congrArg (fun z => Result.ok (Next.value (.bool z)) _) (show (bs.getD i false) = true from f17)))
     refine yzt 0 ?_
     refine yT ?_
     refine a0n ?_
     refine ywv 1 rfl 19 (.slice (some ⟨V3.heap.size, 0, none⟩) 1 1) #[.int .i64 1] 3 (fun V4 hbV4 hzV4 b19 => ?_)
     replace o13 := (o13.past hbV4)
     refine yc 0 rfl 20 (f1b p13 (some ⟨V3.heap.size, 0, none⟩) _ 1 c13 1 (vb (bs.take i) * 2) 1 (vb (bs.take (i + 1))) V4 o13.rd (w0n b19).rd rfl h0v (by have := hd2 i; omega) (by rw [n0e]; decide) (by rw [← hsucc i (by have := oTr f8; omega), f17, Bool.toNat_true])) (fun Gx hGx => ?_)
     rintro eV5 V5 ⟨p20, c20, rfl, o20, hbV5⟩
     have hzV5 := hbV5.size
     have lo20 := fun h => o20.lt h
     refine ⟨_, rfl, hGx _ _ ?_⟩
     clear hGx Gx
     refine yz 1 ?_
     refine a0p ?_
     refine a0h ?_
     refine a0n ?_
     refine ya 1 rfl 10 .i64 ((i : Int) + 1) (((i + 1 : Nat) : Int)) ((by rw [show ((i : Int) + 1) = ((i + 1 : Nat) : Int) by omega]; exact IntWalk.i64_in _ (by have := oTr f8; omega))) ?_
     refine yz 1 ?_
     refine a0h ?_
     refine ⟨gk0 - 1, (by have := oTr f8; omega), ?_⟩
     exact ⟨i + 1, p20, c20, (dig B16 (vb (bs.take (i + 1)))).length, by kernel_rfl, o20.mono (by omega), (a0a (a0a (a0a (a0a hbV1 hbV2) hbV3) hbV4) hbV5), rfl, (by have := oTr f8; omega)⟩
   refine yv 0 rfl 17 (.bool false) ?_ ((show _ = Result.ok (Next.value (.bool (bs.getD i false))) _ from (l0x hp k0b (m := i) (by kernel_rfl) (hget i (by have := oTr f8; omega)))).trans (congrArg (fun z => Result.ok (Next.value (.bool z)) _) (show (bs.getD i false) = false from f17)))
   refine yzt 0 ?_
   refine yF ?_
   refine wp_skip ?_
   refine a0p ?_
   refine a0h ?_
   refine a0n ?_
   refine ya 1 rfl 10 .i64 ((i : Int) + 1) (((i + 1 : Nat) : Int)) ((by rw [show ((i : Int) + 1) = ((i + 1 : Nat) : Int) by omega]; exact IntWalk.i64_in _ (by have := oTr f8; omega))) ?_
   refine yz 1 ?_
   refine a0h ?_
   refine ⟨gk0 - 1, (by have := oTr f8; omega), ?_⟩
   exact ⟨i + 1, p13, c13, (dig B16 (vb (bs.take i) * 2)).length, by kernel_rfl, (by rw [← hsucc i (by have := oTr f8; omega), f17, Bool.toNat_false, Nat.add_zero]; exact o13.mono (by omega)), (a0a (a0a hbV1 hbV2) hbV3), (by rw [← hsucc i (by have := oTr f8; omega), f17, Bool.toNat_false, Nat.add_zero]), (by have := oTr f8; omega)⟩
 refine yb 3 rfl 8 (decide ((i : Int) < (bs.length : Int))) (false) (f8) ?_
 refine yzt 0 ?_
 refine yF ?_
 refine wp_exit ?_
 repeat (with_reducible refine c0c ?_)
 refine f0z (id := 0) ?_
 refine a0h ?_
 refine yq ?_
 refine wp_ret ?_
 repeat (first | with_reducible refine a0r ?_ | with_reducible refine a0o ?_)
 refine yret (.slice p3 n3 c3) (res1 Tryz.results84 rvt) ?_
 have hi : i = bs.length := by have := oFa f8; omega
 rw [hi, hall] at o3 hn3
 exact ⟨p3, c3, by rw [hn3], o3.mono (by omega), hbV1⟩
def c1i (w : World) (v : Vr) (en : Ending) (w' : World) : Prop :=
 ∃ p c, en = .returned (.agg #[.int .i64 (v.cls : Int), .bool v.neg, .bool v.x.neg, .slice p (dig B16 v.x.m).length c, .int .i64 v.x.e]) ∧ Rf w' w.heap.size p c (dig B16 v.x.m) ∧ Below w.heap.size w w'
theorem t0a {w w' : World} {k : Nat} {n : Bool} {en : Ending} (h : en = .returned (.agg #[.int .i64 (k : Int), .bool n, .bool false, .slice none 0 0, .int .i64 0])) (hb : Below w.heap.size w w') : c1i w ⟨k, n, ⟨false, 0, 0⟩⟩ en w' := by
 refine ⟨none, 0, ?_, ?_, hb⟩
 · rw [h, a0c]; rfl
 · rw [a0c]; exact m0p _ _ _
theorem c0y (f : Fm) (g : Bool) (bg bf x : Nat) (p : Option Addr) (c b0 : Nat) (pw : Int) (w : World) (hp : Rf w b0 p c (dig B16 x)) (hl : (dig B16 x).length ≤ 1000) (hpw : -100000 ≤ pw ∧ pw ≤ 100000)
 (Bg : Bt w bg 4 #[.bool g]) (Bf : Bt w bf 62 #[.int .i64 (f.size : Int), .int .i64 (f.E : Int), .int .i64 (f.F : Int), .int .i64 f.g.rad, .int .i64 f.g.digs, .int .i64 f.g.lo, .int .i64 f.g.hi, .bool f.g.grad, .int .i64 (f.fam : Int)]) :
 Calls Tryz.prog 85 #[.slice p (dig B16 x).length c, .int .i64 pw, .pointer (some ⟨bg, 0, none⟩), .pointer (some ⟨bf, 0, none⟩)] w (c1i w (f.vr g ⟨2, x, pw⟩)) := by
 have hx0 := a0f a0e x
 have wp := b0c f.g
 have lg := Bg.lt
 have lf := Bf.lt
 have hmu := k0d (wd := wid f.g) (k := pw) (B := 100000) wp.2 hpw
 by_cases h0 : x = 0
 · have hv : f.vr g ⟨2, x, pw⟩ = ⟨1, g, ⟨false, 0, 0⟩⟩ := by unfold Fm.vr Dc.c; simp [h0]
   have hb0 : bare ⟨g, x, wid f.g * pw⟩ = ⟨false, 0, 0⟩ := by rw [h0]; rfl
   rw [hv]
   generalize hmw : (wid f.g : Int) * pw = mw at *
   have HMW := hi0 hmw
   clear hmw
   have I := Inv.startR w [bg, bf] [⟨4, [.v (.bool g)], true⟩, ⟨62, [.v (.int .i64 (f.size : Int)), .v (.int .i64 (f.E : Int)), .v (.int .i64 (f.F : Int)), .v (.int .i64 f.g.rad), .v (.int .i64 f.g.digs), .v (.int .i64 f.g.lo), .v (.int .i64 f.g.hi), .v (.bool f.g.grad), .v (.int .i64 (f.fam : Int))], true⟩] [rfF b0 p c (dig B16 x)] ⟨Bg, Bf, True.intro⟩ ⟨hp, True.intro⟩
   refine a0d [.v (.slice p (dig B16 x).length c), .v (.int .i64 pw), .p 0 0, .p 1 0] I Tryz.func85 ?_
   refine zcut I none (fun fr bx gs => ∃ (U1 : Nat → Value) (p16 : Option Addr) (c16 : Nat), fr = (.v (.slice p (dig B16 x).length c) :: .v (.int .i64 pw) :: .p 0 0 :: .p 1 0 :: su 2 (.p 2 0 :: .p 3 0 :: sw U1 8 12 (.v undef :: sw U1 21 5 [])) : List SV) ∧ bx = [⟨4, [.v (.bool g)], true⟩, ⟨62, [.v (.int .i64 (f.size : Int)), .v (.int .i64 (f.E : Int)), .v (.int .i64 (f.F : Int)), .v (.int .i64 f.g.rad), .v (.int .i64 f.g.digs), .v (.int .i64 f.g.lo), .v (.int .i64 f.g.hi), .v (.bool f.g.grad), .v (.int .i64 (f.fam : Int))], true⟩, ⟨32, [.v (.int .i64 0), .v (.bool false), .v (.bool false), .v (.slice none 0 0), .v (.int .i64 0)], false⟩, ⟨30, [.v (.bool false), .v (.slice p16 (dig B16 0).length c16), .v (.int .i64 0)], false⟩] ∧ gs = [rfF w.heap.size p16 c16 (dig B16 0), rfF b0 p c (dig B16 x)]) ?_ ?_
   · intro J hJ Al W I
     refine zd [] I fun Al W I => ?_
     refine zk [0, 1, 2, 3, 5] I fun I => ?_
     refine zo2 4 9 I (fun I => ?_) (fun I => ?_)
     · refine zq I (fun Al W I => c0i f.g W) fun Al W I => ?_
       refine zki 6 I .i64 (((wid f.g : Nat) : Int) * pw) (mw) ((by rw [HMW.out]; exact iwo)) fun I => ?_
       refine zk [7] I fun I => ?_
       refine zo2 8 9 I (fun I => ?_) (fun I => ?_)
       · refine zqr I (fun Al W I => have hzW := I.bel.size; i0p g p _ c mw x ⟨false, 0, 0⟩ W I.fa.1.rd rfl (by omega) (by omega) hb0) fun Al W p16 c16 I => ?_
         refine zo 9 I fun I => ?_
         refine zn I fun Al W I => ?_
         refine zo 10 I fun I => ?_
         refine zn I fun Al W I => ?_
         exact a0y I J fun Al W U I => hJ _ _ _ _ _ ⟨U, p16, c16, rfl, rfl, rfl⟩ (I.pick [0, 1])
       refine zn I fun Al W I => ?_
       refine zo 8 I fun I => ?_
       refine zqr I (fun Al W I => have hzW := I.bel.size; i0p g p _ c mw x ⟨false, 0, 0⟩ W I.fa.1.rd rfl (by omega) (by omega) hb0) fun Al W p16 c16 I => ?_
       refine zo 10 I fun I => ?_
       refine zn I fun Al W I => ?_
       exact a0y I J fun Al W U I => hJ _ _ _ _ _ ⟨U, p16, c16, rfl, rfl, rfl⟩ (I.pick [0, 1])
     refine zn I fun Al W I => ?_
     refine zo 4 I fun I => ?_
     refine zq I (fun Al W I => c0i f.g W) fun Al W I => ?_
     refine zki 6 I .i64 (((wid f.g : Nat) : Int) * pw) (mw) ((by rw [HMW.out]; exact iwo)) fun I => ?_
     refine zk [7] I fun I => ?_
     refine zo 8 I fun I => ?_
     refine zqr I (fun Al W I => have hzW := I.bel.size; i0p g p _ c mw x ⟨false, 0, 0⟩ W I.fa.1.rd rfl (by omega) (by omega) hb0) fun Al W p16 c16 I => ?_
     refine zo 10 I fun I => ?_
     refine zn I fun Al W I => ?_
     exact a0y I J fun Al W U I => hJ _ _ _ _ _ ⟨U, p16, c16, rfl, rfl, rfl⟩ (I.pick [0, 1])
   rintro _ _ _ ⟨U1, p16, c16, rfl, rfl, rfl⟩ Al W I
   refine zb I 20 ((((dig B16 0).length : Nat) : Int) == 0) (true) (beq_iff_eq.2 (by rw [a0c]; rfl)) fun Al W I => ?_
   exact zret I fun Al W I => t0a rfl I.below
 · have hv : f.vr g ⟨2, x, pw⟩ = ⟨2, g, bare ⟨g, x, wid f.g * pw⟩⟩ := by unfold Fm.vr Dc.c; simp [h0]
   have hne : (bare ⟨g, x, wid f.g * pw⟩ : Dv).m ≠ 0 := by
    unfold bare
    rw [if_neg h0]
    have := (c0s x (by omega)).2
    intro h
    simp only at h
    rw [h] at this
    simp at this
   rw [hv]
   generalize hmw : (wid f.g : Int) * pw = mw at *
   have HMW := hi0 hmw
   clear hmw
   generalize hd : bare ⟨g, x, mw⟩ = d at *
   have HD := hi0 hd
   clear hd
   have hd0 := a0f a0e d.m
   have I := Inv.startR w [bg, bf] [⟨4, [.v (.bool g)], true⟩, ⟨62, [.v (.int .i64 (f.size : Int)), .v (.int .i64 (f.E : Int)), .v (.int .i64 (f.F : Int)), .v (.int .i64 f.g.rad), .v (.int .i64 f.g.digs), .v (.int .i64 f.g.lo), .v (.int .i64 f.g.hi), .v (.bool f.g.grad), .v (.int .i64 (f.fam : Int))], true⟩] [rfF b0 p c (dig B16 x)] ⟨Bg, Bf, True.intro⟩ ⟨hp, True.intro⟩
   refine a0d [.v (.slice p (dig B16 x).length c), .v (.int .i64 pw), .p 0 0, .p 1 0] I Tryz.func85 ?_
   refine zcut I none (fun fr bx gs => ∃ (U1 : Nat → Value) (p16 : Option Addr) (c16 : Nat), fr = (.v (.slice p (dig B16 x).length c) :: .v (.int .i64 pw) :: .p 0 0 :: .p 1 0 :: su 2 (.p 2 0 :: .p 3 0 :: sw U1 8 12 (.v undef :: sw U1 21 5 [])) : List SV) ∧ bx = [⟨4, [.v (.bool g)], true⟩, ⟨62, [.v (.int .i64 (f.size : Int)), .v (.int .i64 (f.E : Int)), .v (.int .i64 (f.F : Int)), .v (.int .i64 f.g.rad), .v (.int .i64 f.g.digs), .v (.int .i64 f.g.lo), .v (.int .i64 f.g.hi), .v (.bool f.g.grad), .v (.int .i64 (f.fam : Int))], true⟩, ⟨32, [.v (.int .i64 0), .v (.bool false), .v (.bool false), .v (.slice none 0 0), .v (.int .i64 0)], false⟩, ⟨30, [.v (.bool d.neg), .v (.slice p16 (dig B16 d.m).length c16), .v (.int .i64 d.e)], false⟩] ∧ gs = [rfF w.heap.size p16 c16 (dig B16 d.m), rfF b0 p c (dig B16 x)]) ?_ ?_
   · intro J hJ Al W I
     refine zd [] I fun Al W I => ?_
     refine zk [0, 1, 2, 3, 5] I fun I => ?_
     refine zo2 4 9 I (fun I => ?_) (fun I => ?_)
     · refine zq I (fun Al W I => c0i f.g W) fun Al W I => ?_
       refine zki 6 I .i64 (((wid f.g : Nat) : Int) * pw) (mw) ((by rw [HMW.out]; exact iwo)) fun I => ?_
       refine zk [7] I fun I => ?_
       refine zo2 8 9 I (fun I => ?_) (fun I => ?_)
       · refine zqr I (fun Al W I => have hzW := I.bel.size; i0p g p _ c mw x d W I.fa.1.rd rfl (by omega) (by omega) HD.out) fun Al W p16 c16 I => ?_
         refine zo 9 I fun I => ?_
         refine zn I fun Al W I => ?_
         refine zo 10 I fun I => ?_
         refine zn I fun Al W I => ?_
         exact a0y I J fun Al W U I => hJ _ _ _ _ _ ⟨U, p16, c16, rfl, rfl, rfl⟩ (I.pick [0, 1])
       refine zn I fun Al W I => ?_
       refine zo 8 I fun I => ?_
       refine zqr I (fun Al W I => have hzW := I.bel.size; i0p g p _ c mw x d W I.fa.1.rd rfl (by omega) (by omega) HD.out) fun Al W p16 c16 I => ?_
       refine zo 10 I fun I => ?_
       refine zn I fun Al W I => ?_
       exact a0y I J fun Al W U I => hJ _ _ _ _ _ ⟨U, p16, c16, rfl, rfl, rfl⟩ (I.pick [0, 1])
     refine zn I fun Al W I => ?_
     refine zo 4 I fun I => ?_
     refine zq I (fun Al W I => c0i f.g W) fun Al W I => ?_
     refine zki 6 I .i64 (((wid f.g : Nat) : Int) * pw) (mw) ((by rw [HMW.out]; exact iwo)) fun I => ?_
     refine zk [7] I fun I => ?_
     refine zo 8 I fun I => ?_
     refine zqr I (fun Al W I => have hzW := I.bel.size; i0p g p _ c mw x d W I.fa.1.rd rfl (by omega) (by omega) HD.out) fun Al W p16 c16 I => ?_
     refine zo 10 I fun I => ?_
     refine zn I fun Al W I => ?_
     exact a0y I J fun Al W U I => hJ _ _ _ _ _ ⟨U, p16, c16, rfl, rfl, rfl⟩ (I.pick [0, 1])
   rintro _ _ _ ⟨U1, p16, c16, rfl, rfl, rfl⟩ Al W I
   refine zb I 20 ((((dig B16 d.m).length : Nat) : Int) == 0) (false) (bFn (by omega)) fun Al W I => ?_
   exact zret I fun Al W I => ⟨p16, c16, rfl, I.fa.1.mono (by omega), I.below⟩
end Go.Proofs.YtmacohmclpnphaaGreatDoor
namespace Go.Slip
open Go.RowKit
theorem k0z {w : World} {b : Nat} {t : TypeId} {vs : Array Value} (h : Bt w b t vs) {base : Nat} (hb : base ≤ b) (hm : vs.size ≤ maxLen) : OwnV w base t (some ⟨b, 0, none⟩) vs.size vs.toList := by
 unfold OwnV
 rw [Array.length_toList]
 exact ⟨by simp, .inr ⟨b, vs.size, vs, rfl, hb, h, Nat.le_refl _, hm, by simp, by rw [Nat.mul_one, List.take_of_length_le (by simp)]⟩⟩
theorem RdV.grown {w w' : World} {p : Option Addr} {vs : List Value} {row : Option Nat} (h : RdV w p vs) (hg : w.grownBy w' row) (hne : 0 < vs.length → some (blk p) ≠ row) : RdV w' p vs :=
 h.same fun h0 => hg.block _ (h.lt h0) (hne h0)
theorem Rf.grown {w w' : World} {base : Nat} {p : Option Addr} {c : Nat} {xs : List Nat} {row : Option Nat} (h : Rf w base p c xs) (hg : w.grownBy w' row) (hne : 0 < xs.length → some (blk p) ≠ row) : Rf w' base p c xs :=
 ⟨h.rd.same fun h0 => hg.block _ (h.rd.lt h0) (hne h0), h.cap, h.at_⟩
section
variable {P : Program} {ops : Array Oper} {Q : Exit → Act → World → Prop} {a : Act} {w : World} {rest : List Oper} {o : Oper} {K : Act → World → Prop}
theorem i1i (d : Nat) {s x : Operand} {t : TypeId} {e : TypeId} {z : Value} {bytes : Nat} (hty : g0y P t e z bytes) (base : Nat) (p : Option Addr) (n c : Nat) (xs : List Value) (hown : OwnV w base e p c xs) (hn : n = xs.length)
 (q : Option Addr) (m c2 : Nat) (ys : List Value) (hrd : RdV w q ys) (hm : m = ys.length) (hone : ys.all (·.oneCell') = true) (hb : xs.length + ys.length ≤ 4000000000) (hbase : base ≤ w.heap.size) (l : Nat) (hl : xs.length + ys.length = l)
 (h : ∀ p' c' w', OwnV w' base e p' c' (xs ++ ys) → Below base w w' → K (a.put (some d) (.slice p' l c')) w')
 (hs : a.eval s = .slice p n c := by kernel_rfl) (hx : a.eval x = .slice q m c2 := by kernel_rfl)
 (ho : o.op = .call { callee := .builtin .append, args := #[s, x], argTypes := #[t, t] } := by rfl) (hd : o.dst = some d := by kernel_rfl)
 (hw : Region.wanted o (yielded ops a.tmps) = true := by kernel_rfl) : OpW P ops Q o K a w := by
 subst hl
 rw [← List.length_append] at h
 exact b1f (some d) hd s x t ho hty base p n c xs hown hn q m c2 ys hrd hm hone hs hx hb hbase hw h
theorem m1g {x y : Operand} {t ts : TypeId} {z : Value} {bytes : Nat} (hty : g0y P ts t z bytes)
 (base : Nat) (p : Option Addr) (c : Nat) (vs : List Value) (hown : OwnV w base t p c vs) (j : Nat) (hj : j < vs.length) (v : Value)
 (h : ∀ w', OwnV w' base t p c (vs.set j v) → w.grownBy w' (some (blk p)) → Below base w w' → WpL P ops Q rest (a.put none undef) w')
 (hx : a.eval x = .pointer (some (at_ p j)) := by kernel_rfl) (hy : a.eval y = v := by kernel_rfl) (hv : v.cells = #[v] := by kernel_rfl) (h5 : v.oneCell' = true := by kernel_rfl)
 (ho : o.op = .store t x y := by rfl) (hd : o.dst = none := by kernel_rfl) (hw : Region.wanted o (yielded ops a.tmps) = true := by kernel_rfl) : WpL P ops Q (o :: rest) a w :=
 b0y (b1e none hd x y t ho hty base p c vs hown j hj v hv h5 hx hy hw fun w' h1 h2 h3 => h w' h1 h2 h3)
end
theorem l0y (bs : List Bool) : (bs.map Value.bool).all (·.oneCell') = true := by rw [List.all_map]; simp [Function.comp, Value.oneCell']
end Go.Slip
namespace Go.Slip
def LL (bs : List Nat) (i : Nat) : List Nat := bs.take i ++ List.replicate (bs.length - i) 0
theorem n0j (bs : List Nat) (i : Nat) : (LL bs i).length = bs.length := by unfold LL; rw [List.length_append, List.length_take, List.length_replicate]; omega
theorem i1j (bs : List Nat) : LL bs 0 = List.replicate bs.length 0 := by unfold LL; rw [List.take_zero]; rfl
theorem k1z (bs : List Nat) : LL bs bs.length = bs := by unfold LL; rw [List.take_length, Nat.sub_self]; simp
theorem c1j (bs : List Nat) (i j : Nat) : dg (LL bs i) j = if j < i then dg bs j else 0 := by
 unfold LL
 by_cases h : j < (bs.take i).length
 · rw [r0m h]
   have h2 : j < i := by rw [List.length_take] at h; omega
   rw [k0j h2, if_pos h2]
 · rw [r0n (by omega), c0h]
   split
   · rw [b0p]
     rw [List.length_take] at h
     omega
   · rfl
theorem l1a (bs : List Nat) {i : Nat} (h : i < bs.length) : (LL bs i).set i (dg bs i) = LL bs (i + 1) := by
 refine m0m (by rw [List.length_set, n0j, n0j]) fun j hj => ?_
 rw [List.length_set, n0j] at hj
 by_cases e : i = j
 · subst e
   rw [b0j (by rw [n0j]; exact h), c1j, if_pos (by omega)]
 · rw [b0m e, c1j, c1j]
   by_cases k : j < i
   · rw [if_pos k, if_pos (by omega)]
   · rw [if_neg k, if_neg (by omega)]
theorem i1k (bs : List Nat) {i : Nat} (h0 : dg bs i = 0) : LL bs i = LL bs (i + 1) := by
 refine m0m (by rw [n0j, n0j]) fun j _ => ?_
 rw [c1j, c1j]
 by_cases e : j = i
 · subst e
   rw [if_neg (by omega), if_pos (by omega), h0]
 · by_cases k : j < i
   · rw [if_pos k, if_pos (by omega)]
   · rw [if_neg k, if_neg (by omega)]
theorem u0x (n : Nat) : IntKind.u8.wrap (n : Int) = ((n % 256 : Nat) : Int) := by
 simp [IntKind.wrap, IntKind.signed, IntKind.bits]
theorem c1k (n : Nat) : dg (dig B32 n) 0 = n % 4294967296 := by
 rcases Nat.eq_zero_or_pos n with h | h
 · subst h; rw [a0c]; rfl
 · rw [d0m a0b h]; rfl
section
open Go.RowKit
variable {P : Program} {ops : Array Oper} {Q : Exit → Act → World → Prop} {a : Act} {w : World} {rest : List Oper} {o : Oper}
theorem smkn (d : Nat) {x y : Operand} {t : TypeId} {e : TypeId} {k : IntKind} {bytes : Nat} (hty : g0y P t e (.int k 0) bytes) (n : Nat) (hb : n ≤ 4000000000)
 (h : ∀ p' c' w', Own w' w.heap.size k e p' c' (List.replicate n 0) → Below w.heap.size w w' → WpL P ops Q rest (a.put (some d) (.slice p' n c')) w')
 (hx : a.eval x = .int .i64 (n : Int) := by kernel_rfl) (hy : a.eval y = .int .i64 (n : Int) := by kernel_rfl)
 (ho : o.op = .makeSlice t x y := by rfl) (hd : o.dst = some d := by kernel_rfl)
 (hw : Region.wanted o (yielded ops a.tmps) = true := by kernel_rfl) : WpL P ops Q (o :: rest) a w :=
 b0y (g1h (some d) hd x y t ho hty .i64 .i64 n hx hy hb hw fun p' c' w' h1 h2 => h p' c' w' (w0h (by rw [List.map_replicate]; exact h1)) h2)
theorem smkv (d : Nat) {x y : Operand} {t : TypeId} {e : TypeId} {z : Value} {bytes : Nat} (hty : g0y P t e z bytes) (n : Nat) (hb : n ≤ 4000000000)
 (h : ∀ p' c' w', OwnV w' w.heap.size e p' c' (List.replicate n z) → Below w.heap.size w w' → WpL P ops Q rest (a.put (some d) (.slice p' n c')) w')
 (hx : a.eval x = .int .i64 (n : Int) := by kernel_rfl) (hy : a.eval y = .int .i64 (n : Int) := by kernel_rfl)
 (ho : o.op = .makeSlice t x y := by rfl) (hd : o.dst = some d := by kernel_rfl)
 (hw : Region.wanted o (yielded ops a.tmps) = true := by kernel_rfl) : WpL P ops Q (o :: rest) a w :=
 b0y (g1h (some d) hd x y t ho hty .i64 .i64 n hx hy hb hw h)
end
end Go.Slip
namespace Go.Proofs.YtmacohmclpnphaaGreatDoor
open Go.RowKit Go.Slip
theorem w0r (f : Fm) (g : Bool) (e x : Nat) (p : Option Addr) (c : Nat) (w : World) (G : c0e f) (hp : Rd w .u32 p (dig B32 x)) (he : e < 2 ^ f.E) (hx : x < 2 ^ f.F) :
 Calls Tryz.prog 106 #[.agg #[.int .i64 (f.size : Int), .int .i64 (f.E : Int), .int .i64 (f.F : Int), .int .i64 f.g.rad, .int .i64 f.g.digs, .int .i64 f.g.lo, .int .i64 f.g.hi, .bool f.g.grad, .bool f.hid, .bool f.inf, .bool f.res, .func (.func (ordF f)) #[] #[]], .agg #[.bool g, .int .i64 (e : Int), .slice p (dig B32 x).length c]] w fun en w' => en = .returned (.string (b0k (f.str g e x))) ∧ Below w.heap.size w w' := by
 have z1 := G.sz
 have z2 := G.e2
 have z3 := G.f2
 have z4 := G.bits
 have hlt := f1u G (neg := g) he hx
 have hxl := a0u hx (k := 2) (by omega)
 have hT : g.toNat * 2 ^ f.E + e < 2 ^ 16 := by
  have h1 : 2 ^ f.E ≤ 2 ^ 15 := Nat.pow_le_pow_right (by omega) (by omega)
  cases g <;> simp <;> omega
 have hpw : 2 ^ f.E ≤ 2 ^ 15 := Nat.pow_le_pow_right (by omega) (by omega)
 have hsh := q0m (E := f.E) (by omega)
 have hor := x0t (x := e) (E := f.E) he (by omega)
 have h80 : f.pat g e x < 2 ^ 80 := Nat.lt_of_lt_of_le hlt (Nat.pow_le_pow_right (by omega) (by omega))
 unfold Fm.str
 have hpe : f.pat g e x = (g.toNat * 2 ^ f.E + e) * 2 ^ f.F + x := rfl
 have hord := fun (W : World) (base : Nat) (p : Option Addr) (c : Nat) (xs : List Nat) h1 h2 h3 => b1p f base p f.size c xs W G h1 h2.symm h2 h3
 generalize hNN : f.pat g e x = NN at *
 have hbl : (d0n NN f.size).length = f.size := c0g _ _
 have hdg := fun i h => m0n f.size NN i h
 have hbs := fun i h => l1a (d0n NN f.size) (i := i) h
 have hbz := fun i h => i1k (d0n NN f.size) (i := i) h
 have hball := k1z (d0n NN f.size)
 have hb0 := i1j (d0n NN f.size)
 have hLl := n0j (d0n NN f.size)
 rw [hbl] at hball hb0
 generalize d0n NN f.size = bs at *
 generalize h2E : 2 ^ f.E = P at *
 have hNl := a0u h80 (k := 3) (by omega)
 have hTl : (dig B32 ((g.toNat * P + e) * 2 ^ f.F)).length ≤ 3 := a0u (n := 80) (by omega) (by omega)
 have hQl : ∀ N, (dig B32 (NN / 2 ^ N)).length ≤ 3 := fun N => a0u (n := 80) (Nat.lt_of_le_of_lt (Nat.div_le_self _ _) h80) (by omega)
 have HSH := hi0 hsh
 have HOR := hi0 hor
 have HPE := hi0 hpe
 have HB0 := hi0 hb0
 clear hsh hor hpe hb0 hlt h80 hNN h2E
 have hT3 : d0o Tryz.prog 3 := c0l (by kernel_rfl) (by kernel_rfl)
 have hT4 : d0o Tryz.prog 4 := c0l (by kernel_rfl) (by kernel_rfl)
 have hT73 : d0o Tryz.prog 73 := c0l (by kernel_rfl) (by kernel_rfl)
 have hT144 : d0o Tryz.prog 144 := c0l (by kernel_rfl) (by kernel_rfl)
 refine calls_of_wp Tryz.func106 rfl ?_
 refine a0s (a' := ⟨((.agg #[.int .i64 (f.size : Int), .int .i64 (f.E : Int), .int .i64 (f.F : Int), .int .i64 f.g.rad, .int .i64 f.g.digs, .int .i64 f.g.lo, .int .i64 f.g.hi, .bool f.g.grad, .bool f.hid, .bool f.inf, .bool f.res, .func (.func (ordF f)) #[] #[]]) :: (.agg #[.bool g, .int .i64 (e : Int), .slice p (dig B32 x).length c]) :: us 58 []).toArray, []⟩) (by kernel_rfl) ?_
 refine ye ?_
 refine yw 0 rfl 2 #[.int .i64 (f.size : Int), .int .i64 (f.E : Int), .int .i64 (f.F : Int), .int .i64 f.g.rad, .int .i64 f.g.digs, .int .i64 f.g.lo, .int .i64 f.g.hi, .bool f.g.grad, .bool f.hid, .bool f.inf, .bool f.res, .func (.func (ordF f)) #[] #[]] 146 (fun V1 hbV1 hzV1 b2 => ?_)
 refine yw 0 rfl 3 #[.bool g, .int .i64 (e : Int), .slice p (dig B32 x).length c] 157 (fun V2 hbV2 hzV2 b3 => ?_)
 refine yzt 1 ?_
 refine ye ?_
 refine yl 1 rfl 11 b3 hT3 1 ?_
 refine yzt 1 ?_
 refine wp_seq ?_
 refine ye ?_
 rcases Bool.eq_false_or_eq_true (g) with f13 | f13
 · refine ylb 1 rfl 13 b3 hT4 0 (g) true (f13) ?_
   refine yzt 0 ?_
   refine yT ?_
   refine a0n ?_
   have b2_w2 := b2.past hbV2
   refine yl 2 rfl 16 b2_w2 hT3 1 ?_
   refine yv 0 rfl 17 (.int .i64 (P : Int)) ?_ (l0u (X := (1)) (Y := (f.E : Int)) (k2 := .i64) (P : Int) (by kernel_rfl) (by kernel_rfl) (by omega) ((HSH.out)))
   refine yv 0 rfl 18 (.int .i64 ((P + e : Nat) : Int)) ?_ (h1y (X := (e : Int)) (Y := ((P : Int))) ((P + e : Nat) : Int) (by kernel_rfl) (by kernel_rfl) ((HOR.out)))
   refine yz 1 ?_
   refine a0h ?_
   refine wp_seq ?_
   obtain ⟨V3, hVV3, hbV3, hzV3⟩ := h0q V2
   have b2_w3 := b2.past (a0a hbV2 hbV3)
   replace b3 := (b3.past hbV3)
   refine yd2 hVV3 ⟨b2_w3, b3⟩ ?_
   clear hVV3
   refine yt 7 [0, 2] rfl ⟨b2_w3, b3⟩ ?_
   refine ytl 3 rfl 22 (fun _ h => h.1) hT3 2 ⟨b2_w3, b3⟩ ?_
   refine yt 5 [5] rfl ⟨b2_w3, b3⟩ ?_
   refine ytl 6 rfl 25 (fun _ h => h.2) hT73 2 ⟨b2_w3, b3⟩ ?_
   refine sxr [1] ?_
   refine rd1 (fun Kx hKx => ?_)
   refine yck 20 (sof ((P + e : Nat) : Int) (g.toNat * P + e) (by rw [f13, Bool.toNat_true, Nat.one_mul]) (by omega) V3) ?_
   rintro eV4 V4 ⟨p20, c20, rfl, o20, hbV4⟩
   have hzV4 := hbV4.size
   refine ⟨_, rfl, ?_⟩
   have b2_w4 := b2.past (a0a (a0a hbV2 hbV3) hbV4)
   replace b3 := (b3.past hbV4)
   refine hKx.out _ _ ⟨b2_w4, b3⟩ ?_
   clear hKx Kx
   refine sxr [4] ?_
   refine rd1 (fun Kx hKx => ?_)
   refine yck 23 (sshl p20 _ c20 (g.toNat * P + e) f.F ((g.toNat * P + e) * 2 ^ f.F) _ V4 o20.rd rfl (by have := a0u hT (k := 1) (by omega); omega) (by omega) rfl rfl) ?_
   rintro eV5 V5 ⟨p23, c23, rfl, o23, hbV5⟩
   have hzV5 := hbV5.size
   refine ⟨_, rfl, ?_⟩
   have b2_w5 := b2.past (a0a (a0a (a0a hbV2 hbV3) hbV4) hbV5)
   replace b3 := (b3.past hbV5)
   refine hKx.out _ _ ⟨b2_w5, b3⟩ ?_
   clear hKx Kx
   refine sxr [7] ?_
   refine rd1 (fun Kx hKx => ?_)
   replace hp := (hp.past (a0a (a0a (a0a (a0a hbV1 hbV2) hbV3) hbV4) hbV5))
   refine yck 26 (sadd p23 p _ _ c23 c ((g.toNat * P + e) * 2 ^ f.F) x NN V5 o23.rd hp rfl rfl (by omega) (by omega) HPE.out.symm) ?_
   rintro eV6 V6 ⟨p26, c26, rfl, o26, hbV6⟩
   have hzV6 := hbV6.size
   refine ⟨_, rfl, ?_⟩
   have b2_w6 := b2.past (a0a (a0a (a0a (a0a hbV2 hbV3) hbV4) hbV5) hbV6)
   replace b3 := (b3.past hbV6)
   refine hKx.out _ _ ⟨b2_w6, b3⟩ ?_
   clear hKx Kx
   refine yt 0 [8] rfl ⟨b2_w6, b3⟩ ?_
   refine f0f (by kernel_rfl) ?_
   refine a0h ?_
   refine ye ?_
   refine yl 1 rfl 28 b2_w6 hT3 0 ?_
   refine smkn 29 h0a f.size (by omega) (fun p29 c29 V7 b29 hjV7 => ?_)
   have hbV7 : Below V6.heap.size V6 V7 := (Below.refl _ _).trans (hjV7.mono (by omega))
   have hzV7 := hbV7.size
   refine yzt 1 ?_
   refine wp_seq ?_
   refine yq ?_
   refine wp_block ?_
   refine a0s (a' := ⟨((.agg #[.int .i64 (f.size : Int), .int .i64 (f.E : Int), .int .i64 (f.F : Int), .int .i64 f.g.rad, .int .i64 f.g.digs, .int .i64 f.g.lo, .int .i64 f.g.hi, .bool f.g.grad, .bool f.hid, .bool f.inf, .bool f.res, .func (.func (ordF f)) #[] #[]]) :: (.agg #[.bool g, .int .i64 (e : Int), .slice p (dig B32 x).length c]) :: (.pointer (some ⟨w.heap.size, 0, none⟩)) :: (.pointer (some ⟨V1.heap.size, 0, none⟩)) :: (Go.Value.string (ByteArray.mk #[])) :: (.int .i64 ((P + e : Nat) : Int)) :: (.slice p26 (dig B32 NN).length c26) :: (.slice p29 f.size c29) :: us 2 ((.pointer (some ⟨V1.heap.size, 1, none⟩)) :: (.int .i64 (e : Int)) :: (.pointer (some ⟨V1.heap.size, 0, none⟩)) :: (.bool true) :: (.int .i64 (e : Int)) :: (.pointer (some ⟨w.heap.size, 1, none⟩)) :: (.int .i64 (f.E : Int)) :: (.int .i64 (P : Int)) :: (.int .i64 ((P + e : Nat) : Int)) :: (.int .i64 ((P + e : Nat) : Int)) :: (.slice p20 (dig B32 (g.toNat * P + e)).length c20) :: (.pointer (some ⟨w.heap.size, 2, none⟩)) :: (.int .i64 (f.F : Int)) :: (.slice p23 (dig B32 ((g.toNat * P + e) * 2 ^ f.F)).length c23) :: (.pointer (some ⟨V1.heap.size, 2, none⟩)) :: (.slice p (dig B32 x).length c) :: (.slice p26 (dig B32 NN).length c26) :: (.pointer (some ⟨w.heap.size, 0, none⟩)) :: (.int .i64 (f.size : Int)) :: (.slice p29 f.size c29) :: (.slice p29 f.size c29) :: (.int .i64 (f.size : Int)) :: (.int .i64 0) :: us 27 [])).toArray, []⟩) (by kernel_rfl) ?_
   refine e0e (fun (gk : Nat) U0 a' w' => ∃ (i : Nat), a' = ⟨((.agg #[.int .i64 (f.size : Int), .int .i64 (f.E : Int), .int .i64 (f.F : Int), .int .i64 f.g.rad, .int .i64 f.g.digs, .int .i64 f.g.lo, .int .i64 f.g.hi, .bool f.g.grad, .bool f.hid, .bool f.inf, .bool f.res, .func (.func (ordF f)) #[] #[]]) :: (.agg #[.bool g, .int .i64 (e : Int), .slice p (dig B32 x).length c]) :: (.pointer (some ⟨w.heap.size, 0, none⟩)) :: (.pointer (some ⟨V1.heap.size, 0, none⟩)) :: (Go.Value.string (ByteArray.mk #[])) :: (.int .i64 ((P + e : Nat) : Int)) :: (.slice p26 (dig B32 NN).length c26) :: (.slice p29 f.size c29) :: uvs U0 8 2 ((.pointer (some ⟨V1.heap.size, 1, none⟩)) :: (.int .i64 (e : Int)) :: (.pointer (some ⟨V1.heap.size, 0, none⟩)) :: (.bool true) :: (.int .i64 (e : Int)) :: (.pointer (some ⟨w.heap.size, 1, none⟩)) :: (.int .i64 (f.E : Int)) :: (.int .i64 (P : Int)) :: (.int .i64 ((P + e : Nat) : Int)) :: (.int .i64 ((P + e : Nat) : Int)) :: (.slice p20 (dig B32 (g.toNat * P + e)).length c20) :: (.pointer (some ⟨w.heap.size, 2, none⟩)) :: (.int .i64 (f.F : Int)) :: (.slice p23 (dig B32 ((g.toNat * P + e) * 2 ^ f.F)).length c23) :: (.pointer (some ⟨V1.heap.size, 2, none⟩)) :: (.slice p (dig B32 x).length c) :: (.slice p26 (dig B32 NN).length c26) :: (.pointer (some ⟨w.heap.size, 0, none⟩)) :: (.int .i64 (f.size : Int)) :: (.slice p29 f.size c29) :: (.slice p29 f.size c29) :: (.int .i64 (f.size : Int)) :: (.int .i64 (i : Int)) :: uvs U0 33 21 (us 6 []))).toArray, []⟩ ∧ (Own w' V6.heap.size .u8 5 p29 c29 (LL bs i)) ∧ Below V6.heap.size V6 w' ∧ (gk + i = f.size)) f.size ?_ (fun Gx hGx => ?_)
   · exact ⟨0, by kernel_rfl, (by rw [HB0.out]; exact b29), hbV7, (by omega)⟩
   rintro gk0 U0 _ V8 ⟨i, rfl, r29, hbV8, hgk⟩
   refine hGx _ _ _ ?_
   clear hGx Gx
   have hzV8 := hbV8.size
   refine ye ?_
   rcases Bool.eq_false_or_eq_true (decide ((i : Int) < (f.size : Int))) with f33 | f33
   · refine yb 0 rfl 33 (decide ((i : Int) < (f.size : Int))) (true) (f33) ?_
     refine yzt 0 ?_
     refine yTs ?_
     refine wp_skip ?_
     refine a0h ?_
     refine wp_seq ?_
     refine wp_block ?_
     refine yq ?_
     refine ye ?_
     have b2_w8 := b2.past (a0a (a0a (a0a (a0a (a0a hbV2 hbV3) hbV4) hbV5) hbV6) hbV8)
     refine yl 2 rfl 37 b2_w8 hT3 0 ?_
     refine ya 0 rfl 38 .i64 ((f.size : Int) - 1) (((f.size - 1 : Nat) : Int)) ((by rw [show ((f.size : Int) - 1) = ((f.size - 1 : Nat) : Int) by omega]; exact iwo)) ?_
     refine ya 1 rfl 40 .i64 (((f.size - 1 : Nat) : Int) - (i : Int)) (((f.size - 1 - i : Nat) : Int)) ((by rw [show (((f.size - 1 : Nat) : Int) - (i : Int)) = ((f.size - 1 - i : Nat) : Int) by have := oTr f33; omega]; exact iwo)) ?_
     refine ya 0 rfl 41 .i64 ((8 : Int) * ((f.size - 1 - i : Nat) : Int)) (((8 * (f.size - 1 - i) : Nat) : Int)) ((by rw [show ((8 : Int) * ((f.size - 1 - i : Nat) : Int)) = ((8 * (f.size - 1 - i) : Nat) : Int) by omega]; exact iwo)) ?_
     have o26_w8 := o26.past hbV8
     refine yc 0 rfl 42 (sshr p26 _ c26 NN (8 * (f.size - 1 - i)) (NN / 2 ^ (8 * (f.size - 1 - i))) _ V8 o26_w8.rd rfl (by have := o26_w8.le_cap; omega) (by omega) (by omega) rfl rfl) (fun Gx hGx => ?_)
     rintro eV9 V9 ⟨p42, c42, rfl, o42, hbV9⟩
     have hzV9 := hbV9.size
     refine ⟨_, rfl, hGx _ _ ?_⟩
     clear hGx Gx
     refine yzt 1 ?_
     have hi := oTr f33
     have hdi := hdg i (by omega)
     have hq0 := a0f a0b (NN / 2 ^ (8 * (f.size - 1 - i)))
     refine ye ?_
     rcases Bool.eq_false_or_eq_true (decide ((((dig B32 (NN / 2 ^ (8 * (f.size - 1 - i)))).length : Nat) : Int) > 0)) with f45 | f45
     · refine yb 2 rfl 45 (decide ((((dig B32 (NN / 2 ^ (8 * (f.size - 1 - i)))).length : Nat) : Int) > 0)) (true) (f45) ?_
       refine yzt 0 ?_
       refine yT ?_
       refine a0n ?_
       refine yv 3 rfl 49 (.pointer (some (at_ p42 0))) ?_ (q0i (p := p42) (n := (dig B32 (NN / 2 ^ (8 * (f.size - 1 - i)))).length) (c := c42) (m := 0) c0b o42.rd.solid (by kernel_rfl) (by kernel_rfl) (by have := oTr f45; omega))
       refine yv 0 rfl 50 (.int .u32 ((dg (dig B32 (NN / 2 ^ (8 * (f.size - 1 - i)))) 0 : Nat) : Int)) ?_ (l0v o42.rd i1b (m := 0) (by kernel_rfl) (by have := oTr f45; omega) rfl)
       refine ya 0 rfl 51 .u8 ((dg (dig B32 (NN / 2 ^ (8 * (f.size - 1 - i)))) 0 : Nat) : Int) (((dg bs i : Nat) : Int)) ((by rw [u0x, c1k, hdi]; congr 1; exact Nat.mod_mod_of_dvd _ (by decide))) ?_
       replace r29 := (r29.past hbV9)
       refine yv 0 rfl 52 (.pointer (some (at_ p29 i))) ?_ (i0g (p := p29) (n := f.size) (c := c29) (m := i) h0a (by have h := r29.solid; rw [hLl, hbl] at h; exact h) (by kernel_rfl) (by kernel_rfl) (by omega))
       refine h1x h0a V6.heap.size p29 c29 _ r29 i (by rw [hLl, hbl]; omega) (dg bs i) (fun V10 n29 hjV10 => ?_)
       have hbV10 : Below V6.heap.size V6 V10 := (a0a hbV8 hbV9).trans (hjV10.mono (by omega))
       have hzV10 := hbV10.size
       refine yz 0 ?_
       refine a0p ?_
       refine a0h ?_
       refine a0n ?_
       refine ya 0 rfl 53 .i64 ((i : Int) + 1) (((i + 1 : Nat) : Int)) ((by rw [show ((i : Int) + 1) = ((i + 1 : Nat) : Int) by omega]; exact iwo)) ?_
       refine yz 1 ?_
       refine a0h ?_
       refine ⟨gk0 - 1, (by omega), ?_⟩
       exact ⟨i + 1, by kernel_rfl, (by rw [← hbs i (by omega)]; exact n29), hbV10, (by omega)⟩
     refine yb 2 rfl 45 (decide ((((dig B32 (NN / 2 ^ (8 * (f.size - 1 - i)))).length : Nat) : Int) > 0)) (false) (f45) ?_
     refine yzt 0 ?_
     refine yF ?_
     refine wp_skip ?_
     refine a0p ?_
     refine a0h ?_
     refine a0n ?_
     refine ya 0 rfl 53 .i64 ((i : Int) + 1) (((i + 1 : Nat) : Int)) ((by rw [show ((i : Int) + 1) = ((i + 1 : Nat) : Int) by omega]; exact iwo)) ?_
     refine yz 1 ?_
     refine a0h ?_
     refine ⟨gk0 - 1, (by omega), ?_⟩
     replace r29 := (r29.past hbV9)
     exact ⟨i + 1, by kernel_rfl, (by rw [← hbz i (by rw [hdi, hq0.1 (by have := oFa f45; omega)])]; exact r29), (a0a hbV8 hbV9), (by omega)⟩
   refine yb 0 rfl 33 (decide ((i : Int) < (f.size : Int))) (false) (f33) ?_
   refine yzt 0 ?_
   refine yFs ?_
   refine wp_exit ?_
   repeat (with_reducible refine c0c ?_)
   refine f0z (id := 0) ?_
   refine a0h ?_
   have hi : i = f.size := by have := oFa f33; omega
   rw [hi, hball] at r29
   refine ye ?_
   have b2_w8 := b2.past (a0a (a0a (a0a (a0a (a0a hbV2 hbV3) hbV4) hbV5) hbV6) hbV8)
   refine yl 1 rfl 55 b2_w8 hT144 11 ?_
   refine yn 1 rfl ?_
   refine se 57 (ordF f) #[.slice p29 f.size c29] (fun Gx hGx => ?_) (hr := m0z (ordF f) (u0n f) (by kernel_rfl) (by kernel_rfl))
   ((with_reducible refine (hord V8 V6.heap.size p29 c29 bs r29.wr hbl (by omega)).mono ?_))
   rintro eV9 V9 ⟨rfl, x57, hjV9⟩
   have hbV9 : Below V6.heap.size V6 V9 := hbV8.trans (hjV9.mono (by omega))
   have hzV9 := hbV9.size
   refine ⟨.tuple #[], rfl, hGx _ _ ?_⟩
   clear hGx Gx
   refine yzt 0 ?_
   refine ye ?_
   refine yv 1 rfl 59 (.string (b0k (ordL f.ord bs))) ?_ (q0l (p := p29) (n := f.size) (c := c29) w0l e1j uStr x57.rd (by rw [b0u, hbl]) (by kernel_rfl))
   refine yzt 1 ?_
   refine wp_ret ?_
   repeat (first | with_reducible refine a0r ?_ | with_reducible refine a0o ?_)
   refine yret (.string (b0k (ordL f.ord bs))) (res1 Tryz.results106 rvt) ?_
   exact ⟨rfl, (a0a (a0a (a0a (a0a (a0a (a0a hbV1 hbV2) hbV3) hbV4) hbV5) hbV6) hbV9)⟩
 refine ylb 1 rfl 13 b3 hT4 0 (g) false (f13) ?_
 refine yzt 0 ?_
 refine yF ?_
 refine wp_skip ?_
 refine a0h ?_
 refine wp_seq ?_
 have b2_w2 := b2.past hbV2
 obtain ⟨V3, hVV3, hbV3, hzV3⟩ := h0q V2
 have b2_w3 := b2.past (a0a hbV2 hbV3)
 replace b3 := (b3.past hbV3)
 refine yd2 hVV3 ⟨b2_w3, b3⟩ ?_
 clear hVV3
 refine yt 7 [0, 2] rfl ⟨b2_w3, b3⟩ ?_
 refine ytl 3 rfl 22 (fun _ h => h.1) hT3 2 ⟨b2_w3, b3⟩ ?_
 refine yt 5 [5] rfl ⟨b2_w3, b3⟩ ?_
 refine ytl 6 rfl 25 (fun _ h => h.2) hT73 2 ⟨b2_w3, b3⟩ ?_
 refine sxr [1] ?_
 refine rd1 (fun Kx hKx => ?_)
 refine yck 20 (sof (e : Int) (g.toNat * P + e) (by rw [f13, Bool.toNat_false, Nat.zero_mul, Nat.zero_add]) (by omega) V3) ?_
 rintro eV4 V4 ⟨p20, c20, rfl, o20, hbV4⟩
 have hzV4 := hbV4.size
 refine ⟨_, rfl, ?_⟩
 have b2_w4 := b2.past (a0a (a0a hbV2 hbV3) hbV4)
 replace b3 := (b3.past hbV4)
 refine hKx.out _ _ ⟨b2_w4, b3⟩ ?_
 clear hKx Kx
 refine sxr [4] ?_
 refine rd1 (fun Kx hKx => ?_)
 refine yck 23 (sshl p20 _ c20 (g.toNat * P + e) f.F ((g.toNat * P + e) * 2 ^ f.F) _ V4 o20.rd rfl (by have := a0u hT (k := 1) (by omega); omega) (by omega) rfl rfl) ?_
 rintro eV5 V5 ⟨p23, c23, rfl, o23, hbV5⟩
 have hzV5 := hbV5.size
 refine ⟨_, rfl, ?_⟩
 have b2_w5 := b2.past (a0a (a0a (a0a hbV2 hbV3) hbV4) hbV5)
 replace b3 := (b3.past hbV5)
 refine hKx.out _ _ ⟨b2_w5, b3⟩ ?_
 clear hKx Kx
 refine sxr [7] ?_
 refine rd1 (fun Kx hKx => ?_)
 replace hp := (hp.past (a0a (a0a (a0a (a0a hbV1 hbV2) hbV3) hbV4) hbV5))
 refine yck 26 (sadd p23 p _ _ c23 c ((g.toNat * P + e) * 2 ^ f.F) x NN V5 o23.rd hp rfl rfl (by omega) (by omega) HPE.out.symm) ?_
 rintro eV6 V6 ⟨p26, c26, rfl, o26, hbV6⟩
 have hzV6 := hbV6.size
 refine ⟨_, rfl, ?_⟩
 have b2_w6 := b2.past (a0a (a0a (a0a (a0a hbV2 hbV3) hbV4) hbV5) hbV6)
 replace b3 := (b3.past hbV6)
 refine hKx.out _ _ ⟨b2_w6, b3⟩ ?_
 clear hKx Kx
 refine yt 0 [8] rfl ⟨b2_w6, b3⟩ ?_
 refine f0f (by kernel_rfl) ?_
 refine a0h ?_
 refine ye ?_
 refine yl 1 rfl 28 b2_w6 hT3 0 ?_
 refine smkn 29 h0a f.size (by omega) (fun p29 c29 V7 b29 hjV7 => ?_)
 have hbV7 : Below V6.heap.size V6 V7 := (Below.refl _ _).trans (hjV7.mono (by omega))
 have hzV7 := hbV7.size
 refine yzt 1 ?_
 refine wp_seq ?_
 refine yq ?_
 refine wp_block ?_
 refine a0s (a' := ⟨((.agg #[.int .i64 (f.size : Int), .int .i64 (f.E : Int), .int .i64 (f.F : Int), .int .i64 f.g.rad, .int .i64 f.g.digs, .int .i64 f.g.lo, .int .i64 f.g.hi, .bool f.g.grad, .bool f.hid, .bool f.inf, .bool f.res, .func (.func (ordF f)) #[] #[]]) :: (.agg #[.bool g, .int .i64 (e : Int), .slice p (dig B32 x).length c]) :: (.pointer (some ⟨w.heap.size, 0, none⟩)) :: (.pointer (some ⟨V1.heap.size, 0, none⟩)) :: (Go.Value.string (ByteArray.mk #[])) :: (.int .i64 (e : Int)) :: (.slice p26 (dig B32 NN).length c26) :: (.slice p29 f.size c29) :: us 2 ((.pointer (some ⟨V1.heap.size, 1, none⟩)) :: (.int .i64 (e : Int)) :: (.pointer (some ⟨V1.heap.size, 0, none⟩)) :: (.bool false) :: us 5 ((.int .i64 (e : Int)) :: (.slice p20 (dig B32 (g.toNat * P + e)).length c20) :: (.pointer (some ⟨w.heap.size, 2, none⟩)) :: (.int .i64 (f.F : Int)) :: (.slice p23 (dig B32 ((g.toNat * P + e) * 2 ^ f.F)).length c23) :: (.pointer (some ⟨V1.heap.size, 2, none⟩)) :: (.slice p (dig B32 x).length c) :: (.slice p26 (dig B32 NN).length c26) :: (.pointer (some ⟨w.heap.size, 0, none⟩)) :: (.int .i64 (f.size : Int)) :: (.slice p29 f.size c29) :: (.slice p29 f.size c29) :: (.int .i64 (f.size : Int)) :: (.int .i64 0) :: us 27 []))).toArray, []⟩) (by kernel_rfl) ?_
 refine e0e (fun (gk : Nat) U0 a' w' => ∃ (i : Nat), a' = ⟨((.agg #[.int .i64 (f.size : Int), .int .i64 (f.E : Int), .int .i64 (f.F : Int), .int .i64 f.g.rad, .int .i64 f.g.digs, .int .i64 f.g.lo, .int .i64 f.g.hi, .bool f.g.grad, .bool f.hid, .bool f.inf, .bool f.res, .func (.func (ordF f)) #[] #[]]) :: (.agg #[.bool g, .int .i64 (e : Int), .slice p (dig B32 x).length c]) :: (.pointer (some ⟨w.heap.size, 0, none⟩)) :: (.pointer (some ⟨V1.heap.size, 0, none⟩)) :: (Go.Value.string (ByteArray.mk #[])) :: (.int .i64 (e : Int)) :: (.slice p26 (dig B32 NN).length c26) :: (.slice p29 f.size c29) :: uvs U0 8 2 ((.pointer (some ⟨V1.heap.size, 1, none⟩)) :: (.int .i64 (e : Int)) :: (.pointer (some ⟨V1.heap.size, 0, none⟩)) :: (.bool false) :: us 5 ((.int .i64 (e : Int)) :: (.slice p20 (dig B32 (g.toNat * P + e)).length c20) :: (.pointer (some ⟨w.heap.size, 2, none⟩)) :: (.int .i64 (f.F : Int)) :: (.slice p23 (dig B32 ((g.toNat * P + e) * 2 ^ f.F)).length c23) :: (.pointer (some ⟨V1.heap.size, 2, none⟩)) :: (.slice p (dig B32 x).length c) :: (.slice p26 (dig B32 NN).length c26) :: (.pointer (some ⟨w.heap.size, 0, none⟩)) :: (.int .i64 (f.size : Int)) :: (.slice p29 f.size c29) :: (.slice p29 f.size c29) :: (.int .i64 (f.size : Int)) :: (.int .i64 (i : Int)) :: uvs U0 33 21 (us 6 [])))).toArray, []⟩ ∧ (Own w' V6.heap.size .u8 5 p29 c29 (LL bs i)) ∧ Below V6.heap.size V6 w' ∧ (gk + i = f.size)) f.size ?_ (fun Gx hGx => ?_)
 · exact ⟨0, by kernel_rfl, (by rw [HB0.out]; exact b29), hbV7, (by omega)⟩
 rintro gk0 U0 _ V8 ⟨i, rfl, r29, hbV8, hgk⟩
 refine hGx _ _ _ ?_
 clear hGx Gx
 have hzV8 := hbV8.size
 refine ye ?_
 rcases Bool.eq_false_or_eq_true (decide ((i : Int) < (f.size : Int))) with f33 | f33
 · refine yb 0 rfl 33 (decide ((i : Int) < (f.size : Int))) (true) (f33) ?_
   refine yzt 0 ?_
   refine yTs ?_
   refine wp_skip ?_
   refine a0h ?_
   refine wp_seq ?_
   refine wp_block ?_
   refine yq ?_
   refine ye ?_
   have b2_w8 := b2.past (a0a (a0a (a0a (a0a (a0a hbV2 hbV3) hbV4) hbV5) hbV6) hbV8)
   refine yl 2 rfl 37 b2_w8 hT3 0 ?_
   refine ya 0 rfl 38 .i64 ((f.size : Int) - 1) (((f.size - 1 : Nat) : Int)) ((by rw [show ((f.size : Int) - 1) = ((f.size - 1 : Nat) : Int) by omega]; exact iwo)) ?_
   refine ya 1 rfl 40 .i64 (((f.size - 1 : Nat) : Int) - (i : Int)) (((f.size - 1 - i : Nat) : Int)) ((by rw [show (((f.size - 1 : Nat) : Int) - (i : Int)) = ((f.size - 1 - i : Nat) : Int) by have := oTr f33; omega]; exact iwo)) ?_
   refine ya 0 rfl 41 .i64 ((8 : Int) * ((f.size - 1 - i : Nat) : Int)) (((8 * (f.size - 1 - i) : Nat) : Int)) ((by rw [show ((8 : Int) * ((f.size - 1 - i : Nat) : Int)) = ((8 * (f.size - 1 - i) : Nat) : Int) by omega]; exact iwo)) ?_
   have o26_w8 := o26.past hbV8
   refine yc 0 rfl 42 (sshr p26 _ c26 NN (8 * (f.size - 1 - i)) (NN / 2 ^ (8 * (f.size - 1 - i))) _ V8 o26_w8.rd rfl (by have := o26_w8.le_cap; omega) (by omega) (by omega) rfl rfl) (fun Gx hGx => ?_)
   rintro eV9 V9 ⟨p42, c42, rfl, o42, hbV9⟩
   have hzV9 := hbV9.size
   refine ⟨_, rfl, hGx _ _ ?_⟩
   clear hGx Gx
   refine yzt 1 ?_
   have hi := oTr f33
   have hdi := hdg i (by omega)
   have hq0 := a0f a0b (NN / 2 ^ (8 * (f.size - 1 - i)))
   refine ye ?_
   rcases Bool.eq_false_or_eq_true (decide ((((dig B32 (NN / 2 ^ (8 * (f.size - 1 - i)))).length : Nat) : Int) > 0)) with f45 | f45
   · refine yb 2 rfl 45 (decide ((((dig B32 (NN / 2 ^ (8 * (f.size - 1 - i)))).length : Nat) : Int) > 0)) (true) (f45) ?_
     refine yzt 0 ?_
     refine yT ?_
     refine a0n ?_
     refine yv 3 rfl 49 (.pointer (some (at_ p42 0))) ?_ (q0i (p := p42) (n := (dig B32 (NN / 2 ^ (8 * (f.size - 1 - i)))).length) (c := c42) (m := 0) c0b o42.rd.solid (by kernel_rfl) (by kernel_rfl) (by have := oTr f45; omega))
     refine yv 0 rfl 50 (.int .u32 ((dg (dig B32 (NN / 2 ^ (8 * (f.size - 1 - i)))) 0 : Nat) : Int)) ?_ (l0v o42.rd i1b (m := 0) (by kernel_rfl) (by have := oTr f45; omega) rfl)
     refine ya 0 rfl 51 .u8 ((dg (dig B32 (NN / 2 ^ (8 * (f.size - 1 - i)))) 0 : Nat) : Int) (((dg bs i : Nat) : Int)) ((by rw [u0x, c1k, hdi]; congr 1; exact Nat.mod_mod_of_dvd _ (by decide))) ?_
     replace r29 := (r29.past hbV9)
     refine yv 0 rfl 52 (.pointer (some (at_ p29 i))) ?_ (i0g (p := p29) (n := f.size) (c := c29) (m := i) h0a (by have h := r29.solid; rw [hLl, hbl] at h; exact h) (by kernel_rfl) (by kernel_rfl) (by omega))
     refine h1x h0a V6.heap.size p29 c29 _ r29 i (by rw [hLl, hbl]; omega) (dg bs i) (fun V10 n29 hjV10 => ?_)
     have hbV10 : Below V6.heap.size V6 V10 := (a0a hbV8 hbV9).trans (hjV10.mono (by omega))
     have hzV10 := hbV10.size
     refine yz 0 ?_
     refine a0p ?_
     refine a0h ?_
     refine a0n ?_
     refine ya 0 rfl 53 .i64 ((i : Int) + 1) (((i + 1 : Nat) : Int)) ((by rw [show ((i : Int) + 1) = ((i + 1 : Nat) : Int) by omega]; exact iwo)) ?_
     refine yz 1 ?_
     refine a0h ?_
     refine ⟨gk0 - 1, (by omega), ?_⟩
     exact ⟨i + 1, by kernel_rfl, (by rw [← hbs i (by omega)]; exact n29), hbV10, (by omega)⟩
   refine yb 2 rfl 45 (decide ((((dig B32 (NN / 2 ^ (8 * (f.size - 1 - i)))).length : Nat) : Int) > 0)) (false) (f45) ?_
   refine yzt 0 ?_
   refine yF ?_
   refine wp_skip ?_
   refine a0p ?_
   refine a0h ?_
   refine a0n ?_
   refine ya 0 rfl 53 .i64 ((i : Int) + 1) (((i + 1 : Nat) : Int)) ((by rw [show ((i : Int) + 1) = ((i + 1 : Nat) : Int) by omega]; exact iwo)) ?_
   refine yz 1 ?_
   refine a0h ?_
   refine ⟨gk0 - 1, (by omega), ?_⟩
   replace r29 := (r29.past hbV9)
   exact ⟨i + 1, by kernel_rfl, (by rw [← hbz i (by rw [hdi, hq0.1 (by have := oFa f45; omega)])]; exact r29), (a0a hbV8 hbV9), (by omega)⟩
 refine yb 0 rfl 33 (decide ((i : Int) < (f.size : Int))) (false) (f33) ?_
 refine yzt 0 ?_
 refine yFs ?_
 refine wp_exit ?_
 repeat (with_reducible refine c0c ?_)
 refine f0z (id := 0) ?_
 refine a0h ?_
 have hi : i = f.size := by have := oFa f33; omega
 rw [hi, hball] at r29
 refine ye ?_
 have b2_w8 := b2.past (a0a (a0a (a0a (a0a (a0a hbV2 hbV3) hbV4) hbV5) hbV6) hbV8)
 refine yl 1 rfl 55 b2_w8 hT144 11 ?_
 refine yn 1 rfl ?_
 refine se 57 (ordF f) #[.slice p29 f.size c29] (fun Gx hGx => ?_) (hr := m0z (ordF f) (u0n f) (by kernel_rfl) (by kernel_rfl))
 ((with_reducible refine (hord V8 V6.heap.size p29 c29 bs r29.wr hbl (by omega)).mono ?_))
 rintro eV9 V9 ⟨rfl, x57, hjV9⟩
 have hbV9 : Below V6.heap.size V6 V9 := hbV8.trans (hjV9.mono (by omega))
 have hzV9 := hbV9.size
 refine ⟨.tuple #[], rfl, hGx _ _ ?_⟩
 clear hGx Gx
 refine yzt 0 ?_
 refine ye ?_
 refine yv 1 rfl 59 (.string (b0k (ordL f.ord bs))) ?_ (q0l (p := p29) (n := f.size) (c := c29) w0l e1j uStr x57.rd (by rw [b0u, hbl]) (by kernel_rfl))
 refine yzt 1 ?_
 refine wp_ret ?_
 repeat (first | with_reducible refine a0r ?_ | with_reducible refine a0o ?_)
 refine yret (.string (b0k (ordL f.ord bs))) (res1 Tryz.results106 rvt) ?_
 exact ⟨rfl, (a0a (a0a (a0a (a0a (a0a (a0a hbV1 hbV2) hbV3) hbV4) hbV5) hbV6) hbV9)⟩
end Go.Proofs.YtmacohmclpnphaaGreatDoor
namespace Go.Slip
theorem o0z : ∀ (k a : Nat), f0y a (k + 1) = (a / 2 ^ k % 2 == 1) :: f0y a k
 | 0, a => by simp [f0y]
 | k + 1, a => by
  rw [f0y, o0z k (a / 2)]
  rw [Nat.div_div_eq_div_mul, ← Nat.pow_succ']
  rfl
def BL (a j k : Nat) : List Value := List.replicate j (.bool false) ++ (f0y a k).map Value.bool
theorem l1b (a j k : Nat) : (BL a j k).length = j + k := by unfold BL; rw [List.length_append, List.length_replicate, List.length_map, b0d]
theorem l1c (a j k : Nat) : (BL a (j + 1) k).set j (.bool (a / 2 ^ k % 2 == 1)) = BL a j (k + 1) := by
 unfold BL
 rw [List.replicate_succ', List.append_assoc, List.set_append_right _ _ (by rw [List.length_replicate]; exact Nat.le_refl _), List.length_replicate, Nat.sub_self, o0z]
 rfl
theorem u0y (bs : List Bool) (i k : Nat) (h : i + k < bs.length) : vb ((bs.drop i).take k) * 2 + (bs.getD (i + k) false).toNat = vb ((bs.drop i).take (k + 1)) := by
 have := h0c (bs.drop i) (i := k) (by rw [List.length_drop]; omega)
 rw [← this]
 congr 2
 rw [List.getD_eq_getElem?_getD, List.getD_eq_getElem?_getD, List.getElem?_drop]
end Go.Slip
namespace Go.Proofs.YtmacohmclpnphaaGreatDoor
open Go.RowKit Go.Slip
theorem l1d {w : World} {b : Nat} {t : TypeId} (h : Bt w b t #[.int .i64 2]) : Rd w .i64 (some ⟨b, 0, none⟩) (dig B16 2) := (g1n h).rd
theorem f1c (a : Nat) : decide (((((dig B16 (a % 2)).length : Nat) : Int)) > 0) = (a % 2 == 1) := by
 have h := a0f a0e (a % 2)
 rcases Nat.mod_two_eq_zero_or_one a with k | k
 · rw [k] at h ⊢; rw [decide_eq_false (by omega)]; rfl
 · rw [k] at h ⊢; rw [decide_eq_true (by omega)]; rfl
theorem m1h (p q : Option Addr) (n c e0 : Nat) (a x : Nat) (w : World) (hp : Rd w .i64 p (dig B16 a)) (hq : Rd w .i64 q (dig B16 2)) (hn : n = (dig B16 a).length) (hl : (dig B16 a).length ≤ 1000000) (hx : a / 2 = x) :
 Calls Tryz.prog 132 #[.slice p n c, .slice q 1 e0] w fun en w' => ∃ p c r d, en = .returned (.tuple #[.slice p (dig B16 x).length c, .slice r (dig B16 (a % 2)).length d]) ∧ Rf w' w.heap.size p c (dig B16 x) ∧ Below w.heap.size w w' := by
 subst hx
 exact (j0c p q n 1 c e0 a 2 w hp hq hn s0y (by omega) (by rw [k0g]; decide) (by omega)).mono fun e w' ⟨p, c, q, d, h1, h2, h3, h4, _, _, _, h8⟩ => ⟨p, c, q, d, h1, f1w h2 h3 h4, h8⟩
theorem e0g (a many : Nat) (p : Option Addr) (c b0 : Nat) (w : World) (hp : Rf w b0 p c (dig B16 a)) (hl : (dig B16 a).length ≤ 1000) (hm : many ≤ 1000) :
 Calls Tryz.prog 125 #[.slice p (dig B16 a).length c, .int .i64 (many : Int)] w (GBs w (f0y a many)) := by
 have hdl : ∀ k, (dig B16 (a / 2 ^ k)).length ≤ 1000 := fun k => Nat.le_trans (a0k a0e (Nat.div_le_self _ _)) hl
 have hnx : ∀ k, a / 2 ^ k / 2 = a / 2 ^ (k + 1) := fun k => by rw [Nat.div_div_eq_div_mul, Nat.pow_succ]
 have hset := l1c a
 have hlen := l1b a
 refine calls_of_wp Tryz.func125 rfl ?_
 refine a0s (a' := ⟨((.slice p (dig B16 a).length c) :: (.int .i64 (many : Int)) :: us 29 []).toArray, []⟩) (by kernel_rfl) ?_
 refine yq ?_
 refine ye ?_
 refine yn 1 rfl ?_
 refine smkv 10 d0d many (by omega) (fun p10 c10 V1 b10 hjV1 => ?_)
 have hbV1 : Below w.heap.size w V1 := (Below.refl _ _).trans (hjV1.mono (by omega))
 have hzV1 := hbV1.size
 refine yzt 1 ?_
 refine wp_seq ?_
 refine ye ?_
 refine ya 1 rfl 12 .i64 ((many : Int) - 1) ((many : Int) - 1) ((iwo)) ?_
 refine yzt 1 ?_
 refine wp_block ?_
 refine a0s (a' := ⟨((.slice p (dig B16 a).length c) :: (.int .i64 (many : Int)) :: us 2 ((.slice none 0 0) :: (.slice p10 many c10) :: (.int .i64 ((many : Int) - 1)) :: us 2 ((.int .i64 (many : Int)) :: (.slice p10 many c10) :: (.int .i64 (many : Int)) :: (.int .i64 ((many : Int) - 1)) :: us 18 []))).toArray, []⟩) (by kernel_rfl) ?_
 refine e0e (fun (gk : Nat) U0 a' w' => ∃ (j : Nat) (k : Nat) (p0 : Option Addr) (c0 : Nat) (n0 : Nat), a' = ⟨((.slice p0 n0 c0) :: (.int .i64 (many : Int)) :: us 2 ((.slice none 0 0) :: (.slice p10 many c10) :: (.int .i64 ((j : Int) - 1)) :: uvs U0 7 2 ((.int .i64 (many : Int)) :: (.slice p10 many c10) :: (.int .i64 (many : Int)) :: (.int .i64 ((many : Int) - 1)) :: uvs U0 13 17 (undef :: [])))).toArray, []⟩ ∧ (OwnV w' w.heap.size 4 p10 c10 (BL a j k)) ∧ (Rd w' .i64 p0 (dig B16 (a / 2 ^ k))) ∧ Below w.heap.size w w' ∧ (n0 = (dig B16 (a / 2 ^ k)).length) ∧ (j + k = many) ∧ (gk = j)) many ?_ (fun Gx hGx => ?_)
 · exact ⟨many, 0, p, c, (dig B16 a).length, by kernel_rfl, (by rw [show BL a many 0 = List.replicate many (.bool false) by unfold BL f0y; simp]; exact b10), (by rw [Nat.pow_zero, Nat.div_one]; exact (hp.past hbV1).rd), hbV1, (by rw [Nat.pow_zero, Nat.div_one]), (by omega), rfl⟩
 rintro gk0 U0 _ V2 ⟨j, k, p0, c0, n0, rfl, r10, q0, hbV2, hn0, hjk, hgk⟩
 refine hGx _ _ _ ?_
 clear hGx Gx
 have hzV2 := hbV2.size
 refine wp_seq ?_
 refine ye ?_
 rcases Bool.eq_false_or_eq_true (decide (((j : Int) - 1) ≥ 0)) with f14 | f14
 · refine yb 1 rfl 14 (decide (((j : Int) - 1) ≥ 0)) (true) (f14) ?_
   refine yzt 0 ?_
   refine yT ?_
   refine wp_skip ?_
   refine a0h ?_
   refine wp_seq ?_
   refine wp_block ?_
   refine ye ?_
   refine ywv 1 rfl 19 (.slice (some ⟨V2.heap.size, 0, none⟩) 1 1) #[.int .i64 2] 3 (fun V3 hbV3 hzV3 b19 => ?_)
   replace r10 := (r10.past hbV3)
   have hbk := (OwnV.blk_lt r10 ((OwnV.rd r10).solid (by rw [hlen]; have := oTr f14; omega)).1).2
   replace q0 := (q0.past hbV3)
   refine yc 0 rfl 20 (m1h p0 (some ⟨V2.heap.size, 0, none⟩) n0 c0 1 (a / 2 ^ k) (a / 2 ^ (k + 1)) V3 q0 (l1d b19) hn0 (by have := hdl k; omega) (hnx k)) (fun Gx hGx => ?_)
   rintro eV4 V4 ⟨p20, c20, r20, d20, rfl, o20, hbV4⟩
   have hzV4 := hbV4.size
   have lo20 := fun h => o20.lt h
   refine ⟨_, rfl, hGx _ _ ?_⟩
   clear hGx Gx
   refine yzt 5 ?_
   refine ye ?_
   refine yb 4 rfl 27 (decide ((((dig B16 (a / 2 ^ k % 2)).length : Nat) : Int) > 0)) ((a / 2 ^ k % 2 == 1)) ((f1c (a / 2 ^ k))) ?_
   replace r10 := (r10.past hbV4)
   refine yv 0 rfl 28 (.pointer (some (at_ p10 (j - 1)))) ?_ (i0g (p := p10) (n := many) (c := c10) (m := j - 1) d0d (by have h := r10.rd.solid; rw [hlen, hjk] at h; exact h) (by kernel_rfl) (by rw [show ((j - 1 : Nat) : Int) = (j : Int) - 1 by have := oTr f14; omega]; kernel_rfl) (by have := oTr f14; omega))
   refine m1g d0d w.heap.size p10 c10 _ r10 (j - 1) (by rw [hlen]; have := oTr f14; omega) (.bool (a / 2 ^ k % 2 == 1)) (fun V5 n10 hg10 hjV5 => ?_)
   have hbV5 : Below w.heap.size w V5 := (a0a (a0a hbV2 hbV3) hbV4).trans (hjV5.mono (by omega))
   have hzV5 := hbV5.size
   have o21 := Rf.grown o20 hg10 (fun h0 he => by have h1 := (o20.lt h0).1; simp only [Option.some.injEq] at he; omega)
   have lo21 := fun h => o21.lt h
   refine yzt 0 ?_
   refine yr ?_
   refine a0p ?_
   refine a0h ?_
   refine a0n ?_
   refine ya 1 rfl 16 .i64 (((j : Int) - 1) - 1) ((((j - 1 : Nat) : Int) - 1)) ((by rw [show (((j : Int) - 1) - 1) = (((j - 1 : Nat) : Int) - 1) by have := oTr f14; omega]; exact iwo)) ?_
   refine yz 1 ?_
   refine a0h ?_
   refine ⟨gk0 - 1, (by have := oTr f14; omega), ?_⟩
   exact ⟨j - 1, k + 1, p20, c20, (dig B16 (a / 2 ^ (k + 1))).length, by kernel_rfl, (by have e := hset (j - 1) k; rw [show j - 1 + 1 = j by have := oTr f14; omega] at e; rw [← e]; exact n10), o21.rd, hbV5, rfl, (by have := oTr f14; omega), (by omega)⟩
 refine yb 1 rfl 14 (decide (((j : Int) - 1) ≥ 0)) (false) (f14) ?_
 refine yzt 0 ?_
 refine yF ?_
 refine wp_exit ?_
 repeat (with_reducible refine c0c ?_)
 refine f0z (id := 0) ?_
 refine a0h ?_
 refine yq ?_
 refine wp_ret ?_
 repeat (first | with_reducible refine a0r ?_ | with_reducible refine a0o ?_)
 refine yret (.slice p10 many c10) (res1 Tryz.results125 rvt) ?_
 have hj : j = 0 := by have := oFa f14; omega
 have hk : k = many := by omega
 subst hj hk
 exact ⟨p10, c10, by rw [b0d], (by have h := r10; rw [show BL a 0 k = (f0y a k).map Value.bool from rfl] at h; exact h), hbV2⟩
theorem l0p (n : Int) (bs : List Bool) (m : Nat) (p : Option Addr) (c : Nat) (w : World) (hn : IsFm n) (hp : RdV w p (bs.map Value.bool)) (hm : m = bs.length) (hl : bs.length = 8 * (fmt n).size) :
 Calls Tryz.prog 126 #[.int .i64 n, .slice p m c] w fun en w' => ∃ L : List Nat, en = .returned (.string (b0k L)) ∧ L.length = (fmt n).size ∧ (∀ i, i < (fmt n).size → dg L (plc (fmt n).ord (fmt n).size i) = vb ((bs.drop (8 * i)).take 8)) ∧ Below w.heap.size w w' := by
 subst hm
 have G := b0s hn
 have z1 := G.sz
 have HP := fun i W h => hi0 (l0j n i W hn h)
 generalize fmt n = f at *
 have hpl : ∀ i, i < f.size → plc f.ord f.size i < f.size := fun i hi => o0n (fun _ => by omega) hi
 have hpp : ∀ i j, i < f.size → j < f.size → i ≠ j → plc f.ord f.size i ≠ plc f.ord f.size j := fun i j hi hj hne h => hne (by rw [← p0s (o := f.ord) hi, h, p0s hj])
 have hvb : ∀ i k, vb ((bs.drop i).take k) < 2 ^ k := fun i k => Nat.lt_of_lt_of_le (j0r _) (Nat.pow_le_pow_right (by omega) (by rw [List.length_take]; omega))
 have hv8 : ∀ i, vb ((bs.drop i).take 8) < 256 := fun i => hvb i 8
 have hvk : ∀ i k, k ≤ 8 → vb ((bs.drop i).take k) ≤ 255 := fun i k hk => by have h1 := hvb i k; have h2 : 2 ^ k ≤ 2 ^ 8 := Nat.pow_le_pow_right (by omega) hk; omega
 have hbit := u0y bs
 have hget := fun i h => q0z bs (i := i) h
 have hstep : ∀ (L : List Nat) (i t : Nat), L.length = f.size → i < f.size → (∀ j, j < i → dg L (plc f.ord f.size j) = vb ((bs.drop (8 * j)).take 8)) → t = vb ((bs.drop (8 * i)).take 8) → ∀ j, j < i + 1 → dg (L.set (plc f.ord f.size i) t) (plc f.ord f.size j) = vb ((bs.drop (8 * j)).take 8) := by
  intro L i t hL hi hD ht j hj
  rcases Nat.lt_or_ge j i with h | h
  · rw [b0m (hpp i j hi (by omega) (by omega))]
    exact hD j h
  · obtain rfl : j = i := by omega
    rw [b0j (by rw [hL]; exact hpl j hi), ht]
 have hln : (bs.map Value.bool).length = bs.length := List.length_map ..
 refine calls_of_wp Tryz.func126 rfl ?_
 refine a0s (a' := ⟨((.int .i64 n) :: (.slice p bs.length c) :: us 41 []).toArray, []⟩) (by kernel_rfl) ?_
 refine yq ?_
 refine ye ?_
 refine yv 2 rfl 11 (.int .i64 (f.size : Int)) ?_ (j0y (X := ((bs.length : Int))) (Y := (8)) (f.size : Int) (by kernel_rfl) (by kernel_rfl) ((by decide)) ((by rw [hl, show ((8 * f.size : Nat) : Int).tdiv 8 = (f.size : Int) by rw [show ((8 : Int)) = ((8 : Nat) : Int) from rfl, ← Int.ofNat_tdiv]; congr 1; omega]; exact iwo)))
 refine smkn 12 h0a f.size (by omega) (fun p12 c12 V1 b12 hjV1 => ?_)
 have hbV1 : Below w.heap.size w V1 := (Below.refl _ _).trans (hjV1.mono (by omega))
 have hzV1 := hbV1.size
 refine yzt 1 ?_
 refine wp_seq ?_
 refine yq ?_
 refine wp_block ?_
 refine a0s (a' := ⟨((.int .i64 n) :: (.slice p bs.length c) :: us 2 ((Go.Value.string (ByteArray.mk #[])) :: (.slice p12 f.size c12) :: (.int .i64 0) :: us 2 ((.slice p bs.length c) :: (.int .i64 (bs.length : Int)) :: (.int .i64 (f.size : Int)) :: (.slice p12 f.size c12) :: us 30 []))).toArray, []⟩) (by kernel_rfl) ?_
 refine e0e (fun (gk : Nat) U0 a' w' => ∃ (i : Nat) (L : List Nat), a' = ⟨((.int .i64 n) :: (.slice p bs.length c) :: us 2 ((Go.Value.string (ByteArray.mk #[])) :: (.slice p12 f.size c12) :: (.int .i64 (i : Int)) :: uvs U0 7 2 ((.slice p bs.length c) :: (.int .i64 (bs.length : Int)) :: (.int .i64 (f.size : Int)) :: (.slice p12 f.size c12) :: uvs U0 13 28 (us 2 [])))).toArray, []⟩ ∧ (Own w' w.heap.size .u8 5 p12 c12 L) ∧ Below w.heap.size w w' ∧ (L.length = f.size) ∧ (∀ j, j < i → dg L (plc f.ord f.size j) = vb ((bs.drop (8 * j)).take 8)) ∧ (gk + i = f.size)) f.size ?_ (fun Gx hGx => ?_)
 · exact ⟨0, List.replicate f.size 0, by kernel_rfl, b12, hbV1, List.length_replicate, (fun j hj => by omega), (by omega)⟩
 rintro gk0 U0 _ V2 ⟨i, L, rfl, r12, hbV2, hL, hD, hgk⟩
 refine hGx _ _ _ ?_
 clear hGx Gx
 have hzV2 := hbV2.size
 refine wp_seq ?_
 refine ye ?_
 rcases Bool.eq_false_or_eq_true (decide ((i : Int) < (f.size : Int))) with f16 | f16
 · refine yb 3 rfl 16 (decide ((i : Int) < (f.size : Int))) (true) (f16) ?_
   refine yzt 0 ?_
   refine yT ?_
   refine wp_skip ?_
   refine a0h ?_
   refine wp_seq ?_
   refine wp_block ?_
   refine yq ?_
   refine wp_seq ?_
   refine yq ?_
   refine wp_block ?_
   refine a0s (a' := ⟨((.int .i64 n) :: (.slice p bs.length c) :: us 2 ((Go.Value.string (ByteArray.mk #[])) :: (.slice p12 f.size c12) :: (.int .i64 (i : Int)) :: (.int .i64 0) :: (.int .i64 0) :: (.slice p bs.length c) :: (.int .i64 (bs.length : Int)) :: (.int .i64 (f.size : Int)) :: (.slice p12 f.size c12) :: (.int .i64 (i : Int)) :: (.slice p12 f.size c12) :: (.int .i64 (f.size : Int)) :: (.bool true) :: uvs U0 17 24 (us 2 []))).toArray, []⟩) (by kernel_rfl) ?_
   refine e0e (fun (gk : Nat) U1 a' w' => ∃ (k : Nat) (t : Nat), a' = ⟨((.int .i64 n) :: (.slice p bs.length c) :: us 2 ((Go.Value.string (ByteArray.mk #[])) :: (.slice p12 f.size c12) :: (.int .i64 (i : Int)) :: (.int .i64 (t : Int)) :: (.int .i64 (k : Int)) :: (.slice p bs.length c) :: (.int .i64 (bs.length : Int)) :: (.int .i64 (f.size : Int)) :: (.slice p12 f.size c12) :: (.int .i64 (i : Int)) :: (.slice p12 f.size c12) :: (.int .i64 (f.size : Int)) :: (.bool true) :: uvs U0 17 2 (uvs U1 19 15 (uvs U0 34 7 (us 2 []))))).toArray, []⟩ ∧ Below V2.heap.size V2 w' ∧ (t = vb ((bs.drop (8 * i)).take k)) ∧ (gk + k = 8)) 8 ?_ (fun Gx hGx => ?_)
   · exact ⟨0, 0, by kernel_rfl, Below.refl _ _, rfl, (by omega)⟩
   rintro gk1 U1 _ V3 ⟨k, t, rfl, hbV3, ht, hgk1⟩
   refine hGx _ _ _ ?_
   clear hGx Gx
   have hzV3 := hbV3.size
   refine wp_seq ?_
   have hi := oTr f16
   have ht8 : t ≤ 255 := by rw [ht]; exact hvk _ k (by omega)
   refine ye ?_
   rcases Bool.eq_false_or_eq_true (decide ((k : Int) < 8)) with f20 | f20
   · refine yb 1 rfl 20 (decide ((k : Int) < 8)) (true) (f20) ?_
     refine yzt 0 ?_
     refine yT ?_
     refine wp_skip ?_
     refine a0h ?_
     refine wp_seq ?_
     refine wp_block ?_
     refine ye ?_
     refine ya 1 rfl 24 .i64 ((2 : Int) * (t : Int)) (((2 * t : Nat) : Int)) ((by rw [show ((2 : Int) * (t : Int)) = ((2 * t : Nat) : Int) by omega]; exact iwo)) ?_
     refine yzt 1 ?_
     refine ye ?_
     refine ya 2 rfl 27 .i64 ((8 : Int) * (i : Int)) (((8 * i : Nat) : Int)) ((by rw [show ((8 : Int) * (i : Int)) = ((8 * i : Nat) : Int) by omega]; exact iwo)) ?_
     refine ya 1 rfl 29 .i64 (((8 * i : Nat) : Int) + (k : Int)) (((8 * i + k : Nat) : Int)) ((by rw [show (((8 * i : Nat) : Int) + (k : Int)) = ((8 * i + k : Nat) : Int) by omega]; exact iwo)) ?_
     have hp_w3 := hp.past (a0a hbV2 hbV3)
     refine yv 0 rfl 30 (.pointer (some (at_ p (8 * i + k)))) ?_ (i0g (p := p) (n := bs.length) (c := c) (m := 8 * i + k) d0d (by have h := hp_w3.solid; rw [hln] at h; exact h) (by kernel_rfl) (by kernel_rfl) (by have := oTr f20; omega))
     rcases Bool.eq_false_or_eq_true (bs.getD (8 * i + k) false) with f31 | f31
     · refine yv 0 rfl 31 (.bool true) ?_ ((show _ = Result.ok (Next.value (.bool (bs.getD (8 * i + k) false))) _ from (l0x hp_w3 k0b (m := 8 * i + k) (by kernel_rfl) (hget (8 * i + k) (by have := oTr f20; omega)))).trans (congrArg (fun z => Result.ok (Next.value (.bool z)) _) (show (bs.getD (8 * i + k) false) = true from f31)))
       refine yzt 0 ?_
       refine yT ?_
       refine a0n ?_
       refine ya 1 rfl 33 .i64 (((2 * t : Nat) : Int) + 1) (((2 * t + 1 : Nat) : Int)) ((by rw [show (((2 * t : Nat) : Int) + 1) = ((2 * t + 1 : Nat) : Int) by omega]; exact iwo)) ?_
       refine yz 1 ?_
       refine a0p ?_
       refine a0h ?_
       refine a0n ?_
       refine ya 1 rfl 22 .i64 ((k : Int) + 1) (((k + 1 : Nat) : Int)) ((by rw [show ((k : Int) + 1) = ((k + 1 : Nat) : Int) by omega]; exact iwo)) ?_
       refine yz 1 ?_
       refine a0h ?_
       refine ⟨gk1 - 1, (by have := oTr f20; omega), ?_⟩
       exact ⟨k + 1, 2 * t + 1, by kernel_rfl, hbV3, (by rw [← hbit (8 * i) k (by have := oTr f20; omega), f31, ht, Bool.toNat_true, Nat.mul_comm]), (by have := oTr f20; omega)⟩
     refine yv 0 rfl 31 (.bool false) ?_ ((show _ = Result.ok (Next.value (.bool (bs.getD (8 * i + k) false))) _ from (l0x hp_w3 k0b (m := 8 * i + k) (by kernel_rfl) (hget (8 * i + k) (by have := oTr f20; omega)))).trans (congrArg (fun z => Result.ok (Next.value (.bool z)) _) (show (bs.getD (8 * i + k) false) = false from f31)))
     refine yzt 0 ?_
     refine yF ?_
     refine wp_skip ?_
     refine a0p ?_
     refine a0h ?_
     refine a0n ?_
     refine ya 1 rfl 22 .i64 ((k : Int) + 1) (((k + 1 : Nat) : Int)) ((by rw [show ((k : Int) + 1) = ((k + 1 : Nat) : Int) by omega]; exact iwo)) ?_
     refine yz 1 ?_
     refine a0h ?_
     refine ⟨gk1 - 1, (by have := oTr f20; omega), ?_⟩
     exact ⟨k + 1, 2 * t, by kernel_rfl, hbV3, (by rw [← hbit (8 * i) k (by have := oTr f20; omega), f31, ht, Bool.toNat_false, Nat.mul_comm, Nat.add_zero]), (by have := oTr f20; omega)⟩
   refine yb 1 rfl 20 (decide ((k : Int) < 8)) (false) (f20) ?_
   refine yzt 0 ?_
   refine yF ?_
   refine wp_exit ?_
   repeat (with_reducible refine c0c ?_)
   refine f0z (id := 2) ?_
   refine a0h ?_
   refine a0n ?_
   refine yc 3 rfl 37 ((HP i V3 (by omega)).out) (fun Gx hGx => ?_)
   rintro eV4 V4 ⟨rfl, hbV4⟩
   have hzV4 := hbV4.size
   refine ⟨_, rfl, hGx _ _ ?_⟩
   clear hGx Gx
   refine ya 1 rfl 39 .u8 (t : Int) ((t : Int)) ((by rw [u0x, Nat.mod_eq_of_lt (by omega)])) ?_
   replace r12 := (r12.past (a0a hbV3 hbV4))
   refine yv 0 rfl 40 (.pointer (some (at_ p12 (plc f.ord f.size i)))) ?_ (i0g (p := p12) (n := f.size) (c := c12) (m := plc f.ord f.size i) h0a (by have h := r12.solid; rw [hL] at h; exact h) (by kernel_rfl) (by kernel_rfl) (hpl i (by omega)))
   refine h1x h0a w.heap.size p12 c12 L r12 (plc f.ord f.size i) (by rw [hL]; exact hpl i (by omega)) t (fun V5 n12 hjV5 => ?_)
   have hbV5 : Below w.heap.size w V5 := (a0a (a0a hbV2 hbV3) hbV4).trans (hjV5.mono (by omega))
   have hzV5 := hbV5.size
   refine yz 0 ?_
   refine a0p ?_
   refine a0h ?_
   refine a0n ?_
   refine ya 1 rfl 18 .i64 ((i : Int) + 1) (((i + 1 : Nat) : Int)) ((by rw [show ((i : Int) + 1) = ((i + 1 : Nat) : Int) by omega]; exact iwo)) ?_
   refine yz 1 ?_
   refine a0h ?_
   refine ⟨gk0 - 1, (by omega), ?_⟩
   exact ⟨i + 1, L.set (plc f.ord f.size i) t, by kernel_rfl, n12, hbV5, (by rw [List.length_set]; exact hL), (hstep L i t hL (by omega) hD (by rw [ht, show k = 8 by have := oFa f20; omega])), (by omega)⟩
 refine yb 3 rfl 16 (decide ((i : Int) < (f.size : Int))) (false) (f16) ?_
 refine yzt 0 ?_
 refine yF ?_
 refine wp_exit ?_
 repeat (with_reducible refine c0c ?_)
 refine f0z (id := 0) ?_
 refine a0h ?_
 refine ye ?_
 refine yv 1 rfl 42 (.string (b0k L)) ?_ (q0l (p := p12) (n := f.size) (c := c12) w0l e1j uStr r12.rd hL.symm (by kernel_rfl))
 refine yzt 1 ?_
 refine wp_ret ?_
 repeat (first | with_reducible refine a0r ?_ | with_reducible refine a0o ?_)
 refine yret (.string (b0k L)) (res1 Tryz.results126 rvt) ?_
 have hi : i = f.size := by have := oFa f16; omega
 exact ⟨L, rfl, hL, fun j hj => hD j (by omega), hbV2⟩
end Go.Proofs.YtmacohmclpnphaaGreatDoor
