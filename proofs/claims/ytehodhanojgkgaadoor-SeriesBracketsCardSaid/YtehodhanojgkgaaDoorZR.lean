/- The references' small functions on digits: what each computes.
   The references' product.
   The references' sum.
   The references' comparison, length in bits, difference.
   The references' difference.
   The references' powers of 2 and shifts.
   The references' division by one digit.
   The references' numbers of machine numbers, and of decimal digits. -/
import Derived.Test.YtehodhanojgkgaaDoorZC
import Derived.Deep.RegionHeld3
import Derived.Test.YtehodhanojgkgaaDoorZA
import Derived.Deep.LoopGhost
import Derived.Test.YtehodhanojgkgaaDoorZLimb6
import Derived.Lib.Strings
import Derived.Lib.Slices
import Derived.Lib.Small
import Derived.Lib.Walk
import Derived.Lib.BitFns
import Derived.Test.YtehodhanojgkgaaDoorZB
import Derived.Deep.RegionLaw
namespace Go.Proofs.YtehodhanojgkgaaDoor
open Go.RowKit Go.Slip

/-- What a reference that answers a slice leaves: it reads so, in memory of its own; all that was there is as it was. -/
def GivesR (w : World) (k : IntKind) (xs : List Nat) (en : Ending) (w' : World) : Prop :=
  ∃ p c, en = .returned (.slice p xs.length c) ∧ Rd w' k p xs ∧ xs.length ≤ c ∧ (0 < xs.length → w.heap.size ≤ blk p) ∧ Below w.heap.size w w'

theorem own_blk {w : World} {base : Nat} {k : IntKind} {e : TypeId} {p : Option Addr} {c : Nat} {xs : List Nat} (h : Own w base k e p c xs) (h0 : 0 < xs.length) : base ≤ blk p :=
  (h.blk_lt (h.rd.solid h0).1).1

theorem givesR_of {w w' : World} {k : IntKind} {e : TypeId} {xs ys : List Nat} {p : Option Addr} {n c : Nat} (h : xs = ys) (hn : n = xs.length) (ho : Own w' w.heap.size k e p c xs) (hb : Below w.heap.size w w') : GivesR w k ys (.returned (.slice p n c)) w' := by
  subst h hn; exact ⟨p, c, rfl, ho.rd, ho.le_cap, own_blk ho, hb⟩

theorem Rd.kept {w w' : World} {k : IntKind} {p : Option Addr} {xs : List Nat} (h : Rd w k p xs) (hb : Below w.heap.size w w') : Rd w' k p xs := h.past hb

set_option maxHeartbeats 400000 in
theorem refCheckNat_any (p : Option Addr) (n c : Nat) (xs : List Nat) (w : World) (hr : Rd w .u32 p xs) (hn : n = xs.length) (hl : xs.length ≤ 9223372036854775807) :
    Calls Tryd.prog 95 #[.slice p n c] w fun e w' => e = .returned (.int .i64 (errNat xs)) ∧ w = w' := by
  subst hn
  have hs := hr.solid
  by_cases h1 : 0 < xs.length
  · have hcell := hr.cells (xs.length - 1) (by omega)
    have t1 : (0 : Int) < (xs.length : Int) := by omega
    by_cases h2 : dg xs (xs.length - 1) = 0
    · rw [h2] at hcell
      have H := Lib.hid (show errNat xs = 1 by unfold errNat; rw [if_pos ⟨h1, h2⟩])
      clear h2
      go_enter Tryd.func95, Tryd.ntmps95
      go_wp2
      go_ret
      exact ⟨ret_int H.out.symm, rfl⟩
    · have h3 : 0 < dg xs (xs.length - 1) := by omega
      have H := Lib.hid (show errNat xs = if 1200 < xs.length then 2 else 0 by unfold errNat; rw [if_neg (fun h => h2 h.2)])
      clear h2
      by_cases h4 : 1200 < xs.length
      · go_enter Tryd.func95, Tryd.ntmps95
        go_wp2
        go_ret
        exact ⟨ret_int (by rw [H.out, if_pos h4]), rfl⟩
      · go_enter Tryd.func95, Tryd.ntmps95
        go_wp2
        go_ret
        exact ⟨ret_int (by rw [H.out, if_neg h4]), rfl⟩
  · obtain rfl : xs = [] := List.eq_nil_of_length_eq_zero (by omega)
    go_enter Tryd.func95, Tryd.ntmps95
    go_wp2
    go_ret
    exact ⟨ret_int (by simp [errNat]), rfl⟩

set_option maxHeartbeats 400000 in
theorem refTrim_any (p : Option Addr) (n c : Nat) (xs : List Nat) (w : World) (hr : Rd w .i64 p xs) (hn : n = xs.length) (hc : xs.length ≤ c) (hx : ∀ x ∈ xs, x < B16) (hl : xs.length ≤ 4000000000) :
    Calls Tryd.prog 68 #[.slice p n c] w fun e w' => e = .returned (.slice p (dig B16 (val B16 xs)).length (dig B16 (val B16 xs)).length) ∧ w = w' := by
  subst hn
  go_enter Tryd.func68, Tryd.ntmps68
  go_wp2
  go_loop [3] (fun s => ∃ m : Nat, s = .int .i64 m ∧ m ≤ xs.length ∧ Hid (∀ j, m ≤ j → dg xs j = 0)) (fun s => (intOf s).toNat)
  case atStart => exact ⟨_, rfl, Nat.le_refl _, fun j hj => dg_of_ge hj⟩
  case round =>
    obtain ⟨m, rfl, hm, hz⟩ := hrel
    have hs := hr.solid
    by_cases hm0 : m = 0
    · subst hm0
      have e := Lib.hid (dig_val_len B16_two xs 0 hx hm hz.out (.inl rfl))
      go_wp2
      go_ret
      rw [e.out]
      exact ⟨rfl, rfl⟩
    · have hpos : 0 < m := by omega
      by_cases h0 : dg xs (m - 1) = 0
      · have hcell : w.cell? (at_ p (m - 1)) = some (.int .i64 0) := by rw [hr.cells (m - 1) (by omega), h0]; rfl
        have HZ : Hid (∀ j, m - 1 ≤ j → dg xs j = 0) := fun j hj => by
          by_cases hjm : j = m - 1
          · subst hjm; exact h0
          · exact hz.out j (by omega)
        clear h0 hm0
        go_wp2
        go_round
        case rel => exact ⟨m - 1, by go_num, by omega, HZ⟩
        case measure => simp [intOf]; omega
      · have hcell := hr.cells (m - 1) (by omega)
        have h1 : 0 < dg xs (m - 1) := by omega
        have e := Lib.hid (dig_val_len B16_two xs m hx hm hz.out (.inr h0))
        clear h0 hm0
        go_wp2
        go_ret
        rw [e.out]
        exact ⟨rfl, rfl⟩

/-- What the round of 'Of' knows. -/
def OfRel (O xs : List Nat) (i : Nat) : Prop := (∀ x ∈ O, x < B16) ∧ val B16 O = val B32 (xs.take i)

set_option maxHeartbeats 1000000 in
set_option maxRecDepth 100000 in
theorem refOf_any (p : Option Addr) (n c : Nat) (xs : List Nat) (w : World) (hr : Rd w .u32 p xs) (hn : n = xs.length) (hx : ∀ x ∈ xs, x < B32) (hl : xs.length ≤ 1000000000) :
    Calls Tryd.prog 63 #[.slice p n c] w (GivesR w .i64 (dig B16 (val B32 xs))) := by
  subst hn
  have HX := Lib.hid hx
  clear hx
  go_enter Tryd.func63, Tryd.ntmps63
  go_wp2
  go_loopw [3, 4] (fun ov iv wr => ∃ (i : Nat) (q : Option Addr) (d : Nat) (O : List Nat), iv = .int .i64 i ∧ ov = .slice q O.length d ∧ i ≤ xs.length ∧ Hid (O.length = 2 * i) ∧ Own wr w.heap.size .i64 3 q d O ∧ Below w.heap.size w wr ∧ Hid (OfRel O xs i))
    (fun _ iv _ => xs.length - (intOf iv).toNat)
  case atStart => exact ⟨0, none, 0, [], rfl, rfl, Nat.zero_le _, rfl, Own.nil _ _ _ _, Below.refl _ _, (show OfRel [] xs 0 from ⟨by simp, by simp⟩)⟩
  case round =>
    obtain ⟨i, q, d, O, rfl, rfl, hi, hO, ho, hb, HR⟩ := hrel
    have hr2 := hr.past hb
    have hsz := hb.size
    by_cases hlt : i < xs.length
    · have hcell := hr2.cells i hlt
      have hs := hr2.solid
      have hd := getD_lt (B := 4294967296) (by omega) xs HX.out i
      have HS := Lib.hid (of_step HR.out.1 hO.out HR.out.2 (getD_lt B32_pos xs HX.out i))
      have i0 : (0 : Int) ≤ (i : Int) := by omega
      have i1 : (i : Int) < (xs.length : Int) := by omega
      have e1 : IntKind.i64.wrap ((dg xs i : Nat) : Int) = (dg xs i : Nat) := IntWalk.i64_in _ (by omega)
      have e2 : ((dg xs i : Nat) : Int).tmod 65536 = ((dg xs i : Nat) : Int) % 65536 := Int.tmod_eq_emod_of_nonneg (by omega)
      have e3 : IntKind.i64.wrap (((dg xs i : Nat) : Int) / 65536) = ((dg xs i : Nat) : Int) / 65536 := IntWalk.i64_in _ (by omega)
      go_wp2_with fail
      go_region_held3 (fun w' => w'.cell? (at_ p i) = some (.int .u32 (dg xs i : Nat)))
        (first | go_keep | exact (hr2.drew.laid _).cells i hlt | exact (hr2.laid _).drew.cells i hlt | exact ((hr2.laid _).drew.below hb3 (fun h => hr.lt h)).cells i hlt)
        (first
          | (refine step_append rfl _ _ _ (by rfl) tyN _ _ _ _ _ (ho.laid _).drew rfl _ _ _ _ (own_two wr .i64 3 _ _ (by clear e1 e2 e3; omega) (by clear e1 e2 e3; omega)).drew.rd (by rfl) (by rfl) (by rfl) ?_ ?_ ?_; (have := hO.out; clear e1 e2 e3; simp; omega); (clear e1 e2 e3; simp; omega); intro p3 c3 w3 ho3 hg3 hb3 hn3))
      clear e1 e2 e3
      have e4 : [((dg xs i : Int) % 65536).toNat, ((dg xs i : Int) / 65536).toNat] = [dg xs i % 65536, dg xs i / 65536] := by
        rw [show ((dg xs i : Int) % 65536).toNat = dg xs i % 65536 by omega, show ((dg xs i : Int) / 65536).toNat = dg xs i / 65536 by omega]
      rw [e4] at ho3
      have hb4 := (hb.trans ((((Below.refl _ _).alloc hsz _).drew).trans hb3))
      clear hg3 hn3 hb3 e4 hcell hr2
      go_wp2
      go_roundw
      case rel => exact ⟨i + 1, p3, c3, _, by go_num, by simp, hlt, (by show (O ++ _).length = 2 * (i + 1); have := hO.out; simp; omega), ho3, hb4, HS⟩
      case measure => simp [intOf]; omega
    · obtain rfl : i = xs.length := by omega
      go_wp2_with (go_at_call 68; refine (refTrim_any _ _ _ O _ ho.rd rfl ho.le_cap HR.out.1 (by rw [hO.out]; omega)).mono ?_; rintro e w3 ⟨rfl, rfl⟩)
      go_ret
      have hv : val B16 O = val B32 xs := by rw [HR.out.2, val_take_all _ _ _ (Nat.le_refl _)]
      rw [← hv]
      have ht := take_dig_len B16_two O HR.out.1
      have ho2 := ho.take (dig B16 (val B16 O)).length
      rw [ht] at ho2
      exact ⟨q, _, rfl, ho2.rd, Nat.le_refl _, own_blk ho2, hb⟩

end Go.Proofs.YtehodhanojgkgaaDoor

namespace Go.Proofs.YtehodhanojgkgaaDoor
open Go.RowKit Go.Slip

theorem prod16 {x y : Nat} (hx : x < 65536) (hy : y < 65536) : (x : Int) * y ≤ 4294836225 ∧ 0 ≤ (x : Int) * y := by
  have h : x * y ≤ 65535 * 65535 := Nat.mul_le_mul (by omega) (by omega)
  have e : (x : Int) * y = ((x * y : Nat) : Int) := by simp
  rw [e]; omega

set_option maxHeartbeats 1000000 in
set_option maxRecDepth 100000 in
theorem refTimes_any (p q : Option Addr) (n m c d : Nat) (a b : Nat) (w : World) (hp : Rd w .i64 p (dig B16 a)) (hq : Rd w .i64 q (dig B16 b)) (hn : n = (dig B16 a).length) (hm : m = (dig B16 b).length)
    (hl : (dig B16 a).length + (dig B16 b).length ≤ 1000000000) :
    Calls Tryd.prog 40 #[.slice p n c, .slice q m d] w (GivesR w .i64 (dig B16 (a * b))) := by
  subst hn hm
  have HA := Lib.hid (val_dig B16_two a)
  have HB := Lib.hid (val_dig B16_two b)
  have HXL := Lib.hid (dig_lt B16_two a)
  have HYL := Lib.hid (dig_lt B16_two b)
  generalize dig B16 a = xs at hp hl HA HXL ⊢
  generalize dig B16 b = ys at hq hl HB HYL ⊢
  have hsx := hp.solid
  have hsy := hq.solid
  go_enter Tryd.func40, Tryd.ntmps40
  go_wp2_with (refine wpl_make rfl _ _ _ rfl tyN .i64 .i64 (xs.length + ys.length) _ _ rfl rfl ?_ ?_ ?_ ?_; omega; omega; omega; intro p1 c1 w1 ho1 hb1 hz1)
  go_loopw [6] (fun iv wr => ∃ (i : Nat) (L : List Nat), iv = .int .i64 i ∧ i ≤ xs.length ∧ Hid (L.length = xs.length + ys.length) ∧ Own wr w.heap.size .i64 3 p1 c1 L ∧ Below w.heap.size w wr ∧ Hid (MulOut B16 L xs ys i))
    (fun iv _ => xs.length - (intOf iv).toNat)
  case atStart => exact ⟨0, _, rfl, Nat.zero_le _, List.length_replicate, ho1, hb1, MulOut.start B16 B16_pos xs ys _⟩
  case round =>
    obtain ⟨i, L, rfl, hi, hL, hoL, hbL, HR⟩ := hrel
    by_cases hlt : i < xs.length
    · have hxd := getD_lt (B := 65536) (by omega) xs HXL.out i
      go_wp2
      obtain ⟨wo, rfl⟩ : ∃ wo : World, wo = wr := ⟨_, rfl⟩
      go_loopw [7, 8, 9] (fun cv kv _ wr => ∃ (k cr : Nat) (L : List Nat), kv = .int .i64 k ∧ cv = .int .i64 cr ∧ k ≤ ys.length + 1 ∧ cr < 65536 ∧ Hid (L.length = xs.length + ys.length) ∧ Own wr w.heap.size .i64 3 p1 c1 L ∧ Below w.heap.size w wr ∧ Hid (TimesIn L xs ys i k cr))
        (fun _ kv _ _ => ys.length + 1 - (intOf kv).toNat)
      case atStart => exact ⟨0, 0, L, rfl, rfl, Nat.zero_le _, by omega, hL, hoL, hbL, .inl ⟨Nat.zero_le _, HR.out.enter⟩⟩
      case round =>
        obtain ⟨k, cr, L, rfl, rfl, hk, hcr, hL, hoL, hbL, HR⟩ := hrel
        have hpL := hp.past hbL
        have hqL := hq.past hbL
        have hsL := hoL.solid
        rw [hL.out] at hsL
        by_cases hkt : k < ys.length
        · have hc1 := hpL.cells i hlt
          have hc2 := hqL.cells k hkt
          have hc3 := hoL.rd.cells (i + k) (by rw [hL.out]; omega)
          have hyd := getD_lt (B := 65536) (by omega) ys HYL.out k
          have hLd := getD_lt (B := 65536) (by omega) L HR.out.digits (i + k)
          obtain ⟨hpr, hpr0⟩ := prod16 hxd hyd
          have HS := Lib.hid (HR.out.step hkt (by rw [hL.out]; omega))
          have HC := Lib.hid (HR.out.carry hcr hxd hyd)
          have i0 : (0 : Int) ≤ (i : Int) := by omega
          have i1 : (i : Int) < (xs.length : Int) := by omega
          have k0 : (0 : Int) ≤ (k : Int) := by omega
          have k1 : (k : Int) < (ys.length : Int) := by omega
          go_wp2_with fail
          go_quiet (fail)
          have hoL := hoL.drewN nq
          have hbL := below_drewN hbL nq
          generalize wr.drewN nq = wq at hoL hbL ⊢
          clear hc1 hc2 hc3 hpL hqL
          go_wp2_with (refine wpl_store rfl _ _ _ rfl 3 tyN _ _ _ _ hoL (i + k) (by rw [hL.out]; omega) _ ?_ rfl rfl ?_; omega; intro w3 ho3 hg3 hb3)
          have e3 : (((dg L (i + k) : Int) + cr + dg xs i * dg ys k) % 65536).toNat = (dg L (i + k) + cr + dg xs i * dg ys k) % 65536 := by omega
          rw [e3] at ho3
          go_roundw
          case rel => exact ⟨k + 1, (dg L (i + k) + cr + dg xs i * dg ys k) / 65536, _, by go_num, by go_num, by omega, HC.out, (by show (List.set _ _ _).length = _; rw [List.length_set]; exact hL.out), ho3, hbL.trans hb3, HS⟩
          case measure => simp [intOf]; omega
        · by_cases h0 : 0 < cr
          · obtain ⟨hk2, hz, HS⟩ := HR.out.over hkt h0 hcr (by rw [hL.out]; omega)
            subst hk2
            have hc3 := hoL.rd.cells (i + ys.length) (by rw [hL.out]; omega)
            rw [hz] at hc3
            have HS := Lib.hid HS
            clear hz hkt
            go_wp2_with (refine wpl_store rfl _ _ _ rfl 3 tyN _ _ _ _ hoL (i + ys.length) (by rw [hL.out]; omega) _ ?_ rfl rfl ?_; omega; intro w3 ho3 hg3 hb3)
            have e3 : ((cr : Int) % 65536).toNat = cr := by omega
            rw [e3] at ho3
            go_roundw
            case rel => exact ⟨ys.length + 1, 0, _, by go_num, (by rw [show (cr : Int) / 65536 = ((0 : Nat) : Int) by omega]), by omega, by omega, (by show (List.set _ _ _).length = _; rw [List.length_set]; exact hL.out), ho3, hbL.trans hb3, HS⟩
            case measure => simp [intOf]
          · obtain rfl : cr = 0 := by omega
            have HS := Lib.hid (HR.out.done hkt)
            go_wp2
            go_roundw
            case rel => exact ⟨i + 1, L, by go_num, hlt, hL, hoL, hbL, HS⟩
            case measure => simp [intOf]; omega
    · obtain rfl : i = xs.length := by omega
      go_wp2_with (go_at_call 68; refine (refTrim_any _ _ _ L _ hoL.rd hL.out.symm hoL.le_cap HR.out.1 (by rw [hL.out]; omega)).mono ?_; rintro e w3 ⟨rfl, rfl⟩)
      go_ret
      rw [← HR.out.done (Nat.le_refl _) HA.out HB.out]
      have ht := take_dig_len B16_two L HR.out.1
      have ho2 := hoL.take (dig B16 (val B16 L)).length
      rw [ht] at ho2
      exact ⟨p1, _, rfl, ho2.rd, Nat.le_refl _, own_blk ho2, hbL⟩

end Go.Proofs.YtehodhanojgkgaaDoor

namespace Go.Proofs.YtehodhanojgkgaaDoor
open Go.RowKit Go.Slip

set_option maxHeartbeats 1000000 in
set_option maxRecDepth 100000 in
theorem refPlus_any (p q : Option Addr) (n m c d : Nat) (a b : Nat) (w : World) (hp : Rd w .i64 p (dig B16 a)) (hq : Rd w .i64 q (dig B16 b)) (hn : n = (dig B16 a).length) (hm : m = (dig B16 b).length)
    (hl : (dig B16 a).length + (dig B16 b).length ≤ 1000000000) :
    Calls Tryd.prog 44 #[.slice p n c, .slice q m d] w (GivesR w .i64 (dig B16 (a + b))) := by
  subst hn hm
  have HXL := Lib.hid (dig_lt B16_two a)
  have HYL := Lib.hid (dig_lt B16_two b)
  obtain ⟨xs, hxs⟩ : ∃ xs, xs = dig B16 a := ⟨_, rfl⟩
  obtain ⟨ys, hys⟩ : ∃ ys, ys = dig B16 b := ⟨_, rfl⟩
  rw [← hxs] at hp hl HXL ⊢
  rw [← hys] at hq hl HYL ⊢
  have HA := Lib.hid hxs
  have HB := Lib.hid hys
  clear hxs hys
  have hsx := hp.solid
  have hsy := hq.solid
  go_enter Tryd.func44, Tryd.ntmps44
  go_wp2
  go_loopg [5, 6, 7] (xs.length + ys.length + 2) (fun g ov cv iv wr => ∃ (i cr : Nat) (t : Option Addr) (e : Nat) (O : List Nat), iv = .int .i64 i ∧ cv = .int .i64 cr ∧ ov = .slice t O.length e ∧ g + i = xs.length + ys.length + 2 ∧ cr ≤ 1 ∧ i ≤ xs.length + ys.length + 1 ∧ Hid (O.length = i) ∧
      Own wr w.heap.size .i64 3 t e O ∧ Below w.heap.size w wr ∧ Hid (PlusRel O xs ys i cr))
  case atStart => exact ⟨0, 0, none, 0, [], rfl, rfl, rfl, rfl, by omega, by omega, rfl, Own.nil _ _ _ _, Below.refl _ _, PlusRel.start xs ys⟩
  case round =>
    obtain ⟨i, cr, t, e, O, rfl, rfl, rfl, hg, hcr, hi, hO, hoq, hb, HR⟩ := hrel
    have hpL := hp.past hb
    have hqL := hq.past hb
    have hxd := getD_lt (B := 65536) (by omega) xs HXL.out i
    have hyd := getD_lt (B := 65536) (by omega) ys HYL.out i
    have hi2 : 0 < i → cr = 1 → i ≤ xs.length ∨ i ≤ ys.length := fun h1 h2 => by have := HR.out.2.2.2.2; omega
    by_cases h1 : i < xs.length
    · have hc1 := hpL.cells i h1
      have HS := HR.out.step hxd hyd (.inl h1)
      by_cases h2 : i < ys.length
      · have hc2 := hqL.cells i h2
        have HS := Lib.hid HS
        clear hi2
        go_wp2_with (first
          | (refine wpl_build1 rfl _ _ rfl tyN _ ?_ rfl ?_; omega; intro p2 w2 ho2 hb2 hz2 hp2)
          | (at_builtin; refine wpl_append rfl _ _ _ rfl tyN _ _ _ _ _ (hoq.past hb2) rfl _ _ _ _ ho2.rd rfl rfl rfl ?_ ?_ ?_; (have := hO.out; simp; omega); (have := hb2.size; have := hb.size; omega); intro p3 c3 w3 ho3 hg3 hb3 hn3))
        have hb4 := hb.trans ((hb2.mono hb.size).trans hb3)
        have e4 : (((cr : Int) + dg xs i + dg ys i : Int) % 65536).toNat = (cr + dg xs i + dg ys i) % B16 := by unfold B16; omega
        rw [e4] at ho3
        go_roundg (xs.length + ys.length + 1 - i)
        case measure => omega
        case rel => exact ⟨i + 1, (cr + dg xs i + dg ys i) / B16, p3, c3, _, by go_num, (by unfold B16; go_num), by simp, by omega, HS.out.2.2.1, by omega, (by show (O ++ _).length = i + 1; have := hO.out; simp; omega), ho3, hb4, HS⟩
      · have ez : dg ys i = 0 := dg_of_ge (by omega)
        rw [ez] at HS
        have HS := Lib.hid HS
        clear ez hyd hi2
        go_wp2_with (first
          | (refine wpl_build1 rfl _ _ rfl tyN _ ?_ rfl ?_; omega; intro p2 w2 ho2 hb2 hz2 hp2)
          | (at_builtin; refine wpl_append rfl _ _ _ rfl tyN _ _ _ _ _ (hoq.past hb2) rfl _ _ _ _ ho2.rd rfl rfl rfl ?_ ?_ ?_; (have := hO.out; simp; omega); (have := hb2.size; have := hb.size; omega); intro p3 c3 w3 ho3 hg3 hb3 hn3))
        have hb4 := hb.trans ((hb2.mono hb.size).trans hb3)
        have e4 : (((cr : Int) + dg xs i : Int) % 65536).toNat = (cr + dg xs i + 0) % B16 := by unfold B16; omega
        rw [e4] at ho3
        go_roundg (xs.length + ys.length + 1 - i)
        case measure => omega
        case rel => exact ⟨i + 1, (cr + dg xs i + 0) / B16, p3, c3, _, by go_num, (by unfold B16; go_num), by simp, by omega, HS.out.2.2.1, by omega, (by show (O ++ _).length = i + 1; have := hO.out; simp; omega), ho3, hb4, HS⟩
    · have ex : dg xs i = 0 := dg_of_ge (by omega)
      by_cases h2 : i < ys.length
      · have hc2 := hqL.cells i h2
        have HS := HR.out.step hxd hyd (.inr (.inl h2))
        rw [ex] at HS
        have HS := Lib.hid HS
        clear ex hxd hi2
        go_wp2_with (first
          | (refine wpl_build1 rfl _ _ rfl tyN _ ?_ rfl ?_; omega; intro p2 w2 ho2 hb2 hz2 hp2)
          | (at_builtin; refine wpl_append rfl _ _ _ rfl tyN _ _ _ _ _ (hoq.past hb2) rfl _ _ _ _ ho2.rd rfl rfl rfl ?_ ?_ ?_; (have := hO.out; simp; omega); (have := hb2.size; have := hb.size; omega); intro p3 c3 w3 ho3 hg3 hb3 hn3))
        have hb4 := hb.trans ((hb2.mono hb.size).trans hb3)
        have e4 : (((cr : Int) + dg ys i : Int) % 65536).toNat = (cr + 0 + dg ys i) % B16 := by unfold B16; omega
        rw [e4] at ho3
        go_roundg (xs.length + ys.length + 1 - i)
        case measure => omega
        case rel => exact ⟨i + 1, (cr + 0 + dg ys i) / B16, p3, c3, _, by go_num, (by unfold B16; go_num), by simp, by omega, HS.out.2.2.1, by omega, (by show (O ++ _).length = i + 1; have := hO.out; simp; omega), ho3, hb4, HS⟩
      · have ey : dg ys i = 0 := dg_of_ge (by omega)
        by_cases h3 : 0 < cr
        · have HS := HR.out.step hxd hyd (.inr (.inr h3))
          rw [ex, ey] at HS
          have HS := Lib.hid HS
          have hi3 : i ≤ xs.length + ys.length := by
            by_cases h0 : 0 < i
            · have := hi2 h0 (by omega); omega
            · omega
          clear ex ey hxd hyd hi2
          go_wp2_with (first
            | (refine wpl_build1 rfl _ _ rfl tyN _ ?_ rfl ?_; omega; intro p2 w2 ho2 hb2 hz2 hp2)
            | (at_builtin; refine wpl_append rfl _ _ _ rfl tyN _ _ _ _ _ (hoq.past hb2) rfl _ _ _ _ ho2.rd rfl rfl rfl ?_ ?_ ?_; (have := hO.out; simp; omega); (have := hb2.size; have := hb.size; omega); intro p3 c3 w3 ho3 hg3 hb3 hn3))
          have hb4 := hb.trans ((hb2.mono hb.size).trans hb3)
          have e4 : (((cr : Int) : Int) % 65536).toNat = (cr + 0 + 0) % B16 := by unfold B16; omega
          rw [e4] at ho3
          go_roundg (xs.length + ys.length + 1 - i)
          case measure => omega
          case rel => exact ⟨i + 1, (cr + 0 + 0) / B16, p3, c3, _, by go_num, (by unfold B16; go_num), by simp, by omega, HS.out.2.2.1, by omega, (by show (O ++ _).length = i + 1; have := hO.out; simp; omega), ho3, hb4, HS⟩
        · obtain rfl : cr = 0 := by omega
          have HD := Lib.hid (HR.out.done (by omega) (by omega) HA.out HB.out)
          clear ex ey hxd hyd hi2
          go_wp2
          go_ret
          exact givesR_of HD.out rfl hoq hb

end Go.Proofs.YtehodhanojgkgaaDoor

namespace Go.Proofs.YtehodhanojgkgaaDoor
open Go.RowKit Go.Slip

set_option maxHeartbeats 1000000 in
set_option maxRecDepth 100000 in
theorem refCmp_any (p q : Option Addr) (n m c d : Nat) (a b : Nat) (w : World) (hp : Rd w .i64 p (dig B16 a)) (hq : Rd w .i64 q (dig B16 b)) (hn : n = (dig B16 a).length) (hm : m = (dig B16 b).length)
    (hl : (dig B16 a).length ≤ 1000000000) (hl2 : (dig B16 b).length ≤ 1000000000) :
    Calls Tryd.prog 66 #[.slice p n c, .slice q m d] w fun e w' => e = .returned (.int .i64 (cmpN a b)) ∧ Below w.heap.size w w' := by
  subst hn hm
  by_cases hlt : (dig B16 a).length < (dig B16 b).length
  · have H := Lib.hid (cmpN_lt (dig_len_lt B16_two hlt))
    go_enter Tryd.func66, Tryd.ntmps66
    go_wp2
    go_ret
    exact ⟨ret_cmp H.out, Below.refl _ _⟩
  · by_cases hgt : (dig B16 b).length < (dig B16 a).length
    · have H := Lib.hid (cmpN_gt (dig_len_lt B16_two hgt))
      go_enter Tryd.func66, Tryd.ntmps66
      go_wp2
      go_ret
      exact ⟨ret_cmp H.out, Below.refl _ _⟩
    · have hle : (dig B16 b).length = (dig B16 a).length := by omega
      have HXL := Lib.hid (dig_lt B16_two a)
      have HYL := Lib.hid (dig_lt B16_two b)
      have HA := Lib.hid (val_dig B16_two a)
      have HB := Lib.hid (val_dig B16_two b)
      rw [hle]
      have HL := Lib.hid hle
      have hly := Nat.le_of_eq hle.symm
      clear hlt hgt hle
      generalize dig B16 a = xs at *
      generalize dig B16 b = ys at *
      have hsx := hp.solid
      have hsy := hq.solid
      rw [HL.out] at hsy
      go_enter Tryd.func66, Tryd.ntmps66
      go_wp2
      go_loopw [5] (fun iv wr => ∃ (k : Nat), iv = .int .i64 ((k : Int) - 1) ∧ k ≤ xs.length ∧ Below w.heap.size w wr ∧ Hid (xs.drop k = ys.drop k)) (fun iv _ => (intOf iv + 1).toNat)
      case atStart => exact ⟨xs.length, rfl, Nat.le_refl _, Below.refl _ _, (show xs.drop _ = ys.drop _ by rw [List.drop_length, List.drop_of_length_le (by have := HL.out; omega)])⟩
      case round =>
        obtain ⟨k, rfl, hk, hb, HD⟩ := hrel
        by_cases h0 : 0 < k
        · obtain ⟨k, rfl⟩ : ∃ j, k = j + 1 := ⟨k - 1, by omega⟩
          have ej : ((k + 1 : Nat) : Int) - 1 = k := by omega
          rw [ej]
          have hxd := getD_lt (B := 65536) (by omega) xs HXL.out k
          have hyd := getD_lt (B := 65536) (by omega) ys HYL.out k
          have hc1 := (hp.past hb).cells k (by omega)
          have hc2 := (hq.past hb).cells k (by omega)
          have i1 : (k : Int) < (xs.length : Int) := by omega
          have i0 : (0 : Int) ≤ (k : Int) := by omega
          clear ej
          by_cases h1 : dg xs k < dg ys k
          · have H := Lib.hid (cmpN_lt (by have := val_cmp xs ys HXL.out k (by omega) HL.out.symm HD.out h1; rwa [HA.out, HB.out] at this))
            go_wp2_with fail
            go_quiet (fail)
            go_wp2
            go_ret
            exact ⟨ret_cmp H.out, hb.trans (by first | exact below_drewN (Below.refl _ _) _ | exact below_drewN (below_drewN (Below.refl _ _) _) _)⟩
          · by_cases h2 : dg ys k < dg xs k
            · have H := Lib.hid (cmpN_gt (by have := val_cmp ys xs HYL.out k (by have := HL.out; omega) HL.out HD.out.symm h2; rwa [HA.out, HB.out] at this))
              go_wp2_with fail
              go_quiet (fail)
              go_wp2_with fail
              go_quiet (fail)
              go_wp2
              go_ret
              exact ⟨ret_cmp H.out, hb.trans (by first | exact below_drewN (Below.refl _ _) _ | exact below_drewN (below_drewN (Below.refl _ _) _) _)⟩
            · have h3 : dg xs k = dg ys k := by omega
              have HE := Lib.hid (drop_eq_of (by omega) HL.out.symm HD.out h3)
              rw [← h3] at hc2
              clear h3 h1 h2
              go_wp2_with fail
              go_quiet (fail)
              go_wp2_with fail
              go_quiet (fail)
              go_wp2
              go_roundw
              case rel => exact ⟨k, rfl, by omega, hb.trans (by first | exact below_drewN (Below.refl _ _) _ | exact below_drewN (below_drewN (Below.refl _ _) _) _), HE⟩
              case measure => first | (simp [intOf]; done) | (simp [intOf]; omega)
        · obtain rfl : k = 0 := by omega
          have H : cmpN a b = 0 := by
            have := HD.out
            simp only [List.drop_zero] at this
            rw [← HA.out, ← HB.out, this]; exact cmpN_eq _
          have H := Lib.hid H
          go_wp2
          go_ret
          exact ⟨ret_cmp H.out, hb⟩

set_option maxHeartbeats 400000 in
theorem refLen_any (p : Option Addr) (n c : Nat) (a : Nat) (w : World) (hp : Rd w .i64 p (dig B16 a)) (hn : n = (dig B16 a).length) (hl : (dig B16 a).length ≤ 1000000000) :
    Calls Tryd.prog 56 #[.slice p n c] w fun e w' => e = .returned (.int .i64 (blen a : Nat)) ∧ w = w' := by
  subst hn
  by_cases h0 : 0 < a
  · obtain ⟨hb, ht⟩ := blen_dig (B := B16) (s := 16) (by decide) B16_two a h0
    have hl0 : 0 < (dig B16 a).length := List.length_pos_iff.2 ((dig_spec B16_two a).2.2.2 h0)
    have HB := Lib.hid hb
    have hd := getD_lt (B := 65536) (by omega) _ (dig_lt B16_two a) ((dig B16 a).length - 1)
    clear hb
    generalize dig B16 a = xs at *
    have hs := hp.solid
    have hc := hp.cells (xs.length - 1) (by omega)
    have hbd : blen (dg xs (xs.length - 1)) ≤ 16 := (blen_le _ 16).2 (by omega)
    generalize dg xs (xs.length - 1) = d at *
    go_enter Tryd.func56, Tryd.ntmps56
    go_wp2
    go_loop [3, 4] (fun nv dv => ∃ (m t : Nat), nv = .int .i64 m ∧ dv = .int .i64 t ∧ t ≤ d ∧ m + blen t = 16 * (xs.length - 1) + blen d) (fun _ dv => (intOf dv).toNat)
    case atStart => exact ⟨16 * (xs.length - 1), d, by go_num, rfl, Nat.le_refl _, rfl⟩
    case round =>
      obtain ⟨m, t, rfl, rfl, htd, hm⟩ := hrel
      by_cases h1 : 0 < t
      · have hh := blen_half t h1
        have hh2 : m + 1 + blen (t / 2) = 16 * (xs.length - 1) + blen d := by omega
        clear hh
        go_wp2
        go_round
        case rel => exact ⟨m + 1, t / 2, by go_num, by go_num, by omega, hh2⟩
        case measure => simp [intOf]; omega
      · obtain rfl : t = 0 := by omega
        rw [blen_zero] at hm
        have HM := Lib.hid (show blen a = m by rw [HB.out]; exact hm.symm)
        go_wp2
        go_ret
        rw [HM.out]
        exact ⟨rfl, rfl⟩
  · obtain rfl : a = 0 := by omega
    rw [blen_zero]
    rw [dig_zero] at *
    go_enter Tryd.func56, Tryd.ntmps56
    go_wp2
    go_ret
    exact ⟨rfl, rfl⟩

end Go.Proofs.YtehodhanojgkgaaDoor

namespace Go.Proofs.YtehodhanojgkgaaDoor
open Go.RowKit Go.Slip

set_option maxHeartbeats 1000000 in
set_option maxRecDepth 100000 in
theorem refLess_any (p q : Option Addr) (n m c d : Nat) (a b : Nat) (w : World) (hp : Rd w .i64 p (dig B16 a)) (hq : Rd w .i64 q (dig B16 b)) (hn : n = (dig B16 a).length) (hm : m = (dig B16 b).length)
    (hl : (dig B16 a).length ≤ 1000000000) (hab : b ≤ a) :
    Calls Tryd.prog 43 #[.slice p n c, .slice q m d] w (GivesR w .i64 (dig B16 (a - b))) := by
  subst hn hm
  have hge := dig_len_mono B16_two hab
  have HXL := Lib.hid (dig_lt B16_two a)
  have HYL := Lib.hid (dig_lt B16_two b)
  have HA := Lib.hid (val_dig B16_two a)
  have HB := Lib.hid (val_dig B16_two b)
  generalize dig B16 a = xs at *
  generalize dig B16 b = ys at *
  have hsx := hp.solid
  have hsy := hq.solid
  go_enter Tryd.func43, Tryd.ntmps43
  go_wp2
  go_loopg [5, 6, 7] (xs.length) (fun g ov cv iv wr => ∃ (i cr : Nat) (t : Option Addr) (e : Nat) (O : List Nat), iv = .int .i64 i ∧ cv = .int .i64 cr ∧ ov = .slice t O.length e ∧ g + i = xs.length ∧ cr ≤ 1 ∧ i ≤ xs.length ∧ Hid (O.length = i) ∧
      Own wr w.heap.size .i64 3 t e O ∧ Below w.heap.size w wr ∧ Hid (LessRel O xs ys i cr))
  case atStart => exact ⟨0, 0, none, 0, [], rfl, rfl, rfl, by omega, by omega, by omega, rfl, Own.nil _ _ _ _, Below.refl _ _, LessRel.start xs ys⟩
  case round =>
    obtain ⟨i, cr, t, e, O, rfl, rfl, rfl, hg, hcr, hi, hO, hoq, hb, HR⟩ := hrel
    have hpL := hp.past hb
    have hqL := hq.past hb
    have hxd := getD_lt (B := 65536) (by omega) xs HXL.out i
    have hyd := getD_lt (B := 65536) (by omega) ys HYL.out i
    by_cases h1 : i < xs.length
    · have hc1 := hpL.cells i h1
      by_cases h2 : i < ys.length
      · have hc2 := hqL.cells i h2
        by_cases h3 : dg xs i < dg ys i + cr
        · have HS := Lib.hid (HR.out.step (dg xs i + 65536 - dg ys i - cr) 1 (by unfold B16; omega) (by omega) (by unfold B16; omega))
          go_wp2_with (first
            | (refine wpl_build1 rfl _ _ rfl tyN _ ?_ rfl ?_; omega; intro p2 w2 ho2 hb2 hz2 hp2)
            | (at_builtin; refine wpl_append rfl _ _ _ rfl tyN _ _ _ _ _ (hoq.past hb2) rfl _ _ _ _ ho2.rd rfl rfl rfl ?_ ?_ ?_; (have := hO.out; simp; omega); (have := hb2.size; have := hb.size; omega); intro p3 c3 w3 ho3 hg3 hb3 hn3))
          have hb4 := hb.trans ((hb2.mono hb.size).trans hb3)
          have e4 : ((dg xs i : Int) - cr - dg ys i + 65536).toNat = dg xs i + 65536 - dg ys i - cr := by omega
          rw [e4] at ho3
          go_roundg (xs.length - 1 - i)
          case measure => omega
          case rel => exact ⟨i + 1, 1, p3, c3, _, by go_num, rfl, by simp, by omega, by omega, by omega, (by show (O ++ _).length = i + 1; have := hO.out; simp; omega), ho3, hb4, HS⟩
        · have HS := Lib.hid (HR.out.step (dg xs i - dg ys i - cr) 0 (by unfold B16; omega) (by omega) (by unfold B16; omega))
          go_wp2_with (first
            | (refine wpl_build1 rfl _ _ rfl tyN _ ?_ rfl ?_; omega; intro p2 w2 ho2 hb2 hz2 hp2)
            | (at_builtin; refine wpl_append rfl _ _ _ rfl tyN _ _ _ _ _ (hoq.past hb2) rfl _ _ _ _ ho2.rd rfl rfl rfl ?_ ?_ ?_; (have := hO.out; simp; omega); (have := hb2.size; have := hb.size; omega); intro p3 c3 w3 ho3 hg3 hb3 hn3))
          have hb4 := hb.trans ((hb2.mono hb.size).trans hb3)
          have e4 : ((dg xs i : Int) - cr - dg ys i).toNat = dg xs i - dg ys i - cr := by omega
          rw [e4] at ho3
          go_roundg (xs.length - 1 - i)
          case measure => omega
          case rel => exact ⟨i + 1, 0, p3, c3, _, by go_num, rfl, by simp, by omega, by omega, by omega, (by show (O ++ _).length = i + 1; have := hO.out; simp; omega), ho3, hb4, HS⟩
      · have ez : dg ys i = 0 := dg_of_ge (by omega)
        by_cases h3 : dg xs i < cr
        · have HS := Lib.hid (HR.out.step (dg xs i + 65536 - cr) 1 (by unfold B16; omega) (by omega) (by unfold B16; omega))
          clear ez hyd
          go_wp2_with (first
            | (refine wpl_build1 rfl _ _ rfl tyN _ ?_ rfl ?_; omega; intro p2 w2 ho2 hb2 hz2 hp2)
            | (at_builtin; refine wpl_append rfl _ _ _ rfl tyN _ _ _ _ _ (hoq.past hb2) rfl _ _ _ _ ho2.rd rfl rfl rfl ?_ ?_ ?_; (have := hO.out; simp; omega); (have := hb2.size; have := hb.size; omega); intro p3 c3 w3 ho3 hg3 hb3 hn3))
          have hb4 := hb.trans ((hb2.mono hb.size).trans hb3)
          have e4 : ((dg xs i : Int) - cr + 65536).toNat = dg xs i + 65536 - cr := by omega
          rw [e4] at ho3
          go_roundg (xs.length - 1 - i)
          case measure => omega
          case rel => exact ⟨i + 1, 1, p3, c3, _, by go_num, rfl, by simp, by omega, by omega, by omega, (by show (O ++ _).length = i + 1; have := hO.out; simp; omega), ho3, hb4, HS⟩
        · have HS := Lib.hid (HR.out.step (dg xs i - cr) 0 (by unfold B16; omega) (by omega) (by unfold B16; omega))
          clear ez hyd
          go_wp2_with (first
            | (refine wpl_build1 rfl _ _ rfl tyN _ ?_ rfl ?_; omega; intro p2 w2 ho2 hb2 hz2 hp2)
            | (at_builtin; refine wpl_append rfl _ _ _ rfl tyN _ _ _ _ _ (hoq.past hb2) rfl _ _ _ _ ho2.rd rfl rfl rfl ?_ ?_ ?_; (have := hO.out; simp; omega); (have := hb2.size; have := hb.size; omega); intro p3 c3 w3 ho3 hg3 hb3 hn3))
          have hb4 := hb.trans ((hb2.mono hb.size).trans hb3)
          have e4 : ((dg xs i : Int) - cr).toNat = dg xs i - cr := by omega
          rw [e4] at ho3
          go_roundg (xs.length - 1 - i)
          case measure => omega
          case rel => exact ⟨i + 1, 0, p3, c3, _, by go_num, rfl, by simp, by omega, by omega, by omega, (by show (O ++ _).length = i + 1; have := hO.out; simp; omega), ho3, hb4, HS⟩
    · obtain rfl : i = xs.length := by omega
      have HD := Lib.hid (HR.out.done HA.out HB.out hge hab)
      go_wp2_with (go_at_call 68; refine (refTrim_any _ _ _ O _ hoq.rd rfl hoq.le_cap HR.out.1 (by rw [hO.out]; omega)).mono ?_; rintro e w3 ⟨rfl, rfl⟩)
      go_ret
      have ht := take_dig_len B16_two O HR.out.1
      have ho2 := hoq.take (dig B16 (val B16 O)).length
      rw [ht, HD.out] at ho2
      rw [HD.out]
      exact ⟨t, _, rfl, ho2.rd, Nat.le_refl _, own_blk ho2, hb⟩

end Go.Proofs.YtehodhanojgkgaaDoor

namespace Go.Proofs.YtehodhanojgkgaaDoor
open Go.RowKit Go.Slip

set_option maxHeartbeats 1000000 in
theorem refPow2_any (N : Nat) (w : World) (hN : N ≤ 1000000000) :
    Calls Tryd.prog 47 #[.int .i64 N] w (GivesR w .i64 (dig B16 (2 ^ N))) := by
  have hs : N % 16 < 16 := Nat.mod_lt _ (by omega)
  have HD := Lib.hid (pow2_dig (B := B16) (w := 16) (by decide) (by omega) N)
  go_enter Tryd.func47, Tryd.ntmps47
  go_wp2_with (refine wpl_make rfl _ _ _ rfl tyN .i64 .i64 (N / 16 + 1) _ _ rfl rfl ?_ ?_ ?_ ?_; omega; omega; omega; intro p1 c1 w1 ho1 hb1 hz1)
  go_loop [4, 5] (fun dv iv => ∃ (i t : Nat), iv = .int .i64 i ∧ dv = .int .i64 t ∧ i ≤ N % 16 ∧ t ≤ 65536 ∧ Hid (t = 2 ^ i)) (fun _ iv => N % 16 - (intOf iv).toNat)
  case atStart => exact ⟨0, 1, rfl, rfl, Nat.zero_le _, by omega, rfl⟩
  case round =>
    obtain ⟨i, t, rfl, rfl, hi, ht, HT⟩ := hrel
    by_cases h1 : i < N % 16
    · have HS : Hid (2 * t = 2 ^ (i + 1)) := by show 2 * t = 2 ^ (i + 1); rw [HT.out, Nat.pow_succ]; omega
      have hb : 2 * t ≤ 65536 := by
        rw [HS.out]; exact Nat.pow_le_pow_right (show 0 < 2 by omega) (show i + 1 ≤ 16 by omega)
      go_wp2
      go_round
      case rel => exact ⟨i + 1, 2 * t, by go_num, by go_num, by omega, hb, HS⟩
      case measure => simp [intOf]; omega
    · obtain rfl : i = N % 16 := by omega
      have hso := ho1.solid
      rw [List.length_replicate] at hso
      have hsm := hso
      go_wp2_with (refine wpl_store rfl _ _ _ rfl 3 tyN _ _ _ _ ho1 (N / 16) (by simp) _ ?_ rfl rfl ?_; omega; intro w3 ho3 hg3 hb3)
      go_ret
      rw [Int.toNat_natCast, HT.out, HD.out] at ho3
      refine ⟨p1, c1, ?_, ho3.rd, ho3.le_cap, own_blk ho3, hb1.trans hb3⟩
      rw [← HD.out]; simp

theorem dig_len_pow2 (N : Nat) : (dig B16 (2 ^ N)).length = N / 16 + 1 := by
  rw [← pow2_dig (B := B16) (w := 16) (by decide) (by omega) N]; simp

set_option maxHeartbeats 1000000 in
theorem refUp_any (p : Option Addr) (n c : Nat) (a N : Nat) (w : World) (hp : Rd w .i64 p (dig B16 a)) (hn : n = (dig B16 a).length) (hl : (dig B16 a).length ≤ 100000000) (hN : N ≤ 1000000000) :
    Calls Tryd.prog 65 #[.slice p n c, .int .i64 N] w (GivesR w .i64 (dig B16 (a * 2 ^ N))) := by
  subst hn
  by_cases h0 : (dig B16 a).length = 0
  · have : a = 0 := (dig_len_zero B16_two a).1 h0
    subst this
    rw [Nat.zero_mul]
    rw [dig_zero] at *
    go_enter Tryd.func65, Tryd.ntmps65
    go_wp2
    go_ret
    exact ⟨none, 0, rfl, Rd.nil _ _ _, by simp, by simp, Below.refl _ _⟩
  · have hlp := Nat.le_of_eq (dig_len_pow2 N)
    have h1 : 1 ≤ (dig B16 a).length := by omega
    clear h0
    go_enter Tryd.func65, Tryd.ntmps65
    go_wp2_with fail
    refine (refPow2_any N _ hN).mono ?_
    rintro e w1 ⟨p1, c1, rfl, ho1, -, -, hb1⟩
    go_wp2_with fail
    refine (refTimes_any p p1 _ _ c c1 a (2 ^ N) _ (hp.past hb1) ho1 rfl rfl (by omega)).mono ?_
    rintro e w2 ⟨p2, c2, rfl, ho2, hc2, hn2, hb2⟩
    go_wp2_with fail
    go_ret
    exact ⟨p2, c2, rfl, ho2, hc2, fun h => Nat.le_trans hb1.size (hn2 h), hb1.trans (hb2.mono hb1.size)⟩

theorem down_done {O Y : List Nat} {N a : Nat} (h : DownRel B16 (2 ^ (N % 16)) O Y Y.length) (hY : val B16 Y = a / B16 ^ (N / 16)) : val B16 O = a / 2 ^ N := by
  rw [h.done, hY, shift_split (B := B16) (w := 16) (by decide)]

set_option maxHeartbeats 1000000 in
set_option maxRecDepth 100000 in
theorem refDown_any (p : Option Addr) (n c : Nat) (a N : Nat) (w : World) (hp : Rd w .i64 p (dig B16 a)) (hn : n = (dig B16 a).length) (hl : (dig B16 a).length ≤ 1000000000) (hN : N ≤ 9223372036854775807) :
    Calls Tryd.prog 67 #[.slice p n c, .int .i64 N] w (GivesR w .i64 (dig B16 (a / 2 ^ N))) := by
  subst hn
  by_cases h0 : (dig B16 a).length ≤ N / 16
  · rw [div_of_big (w := 16) (by decide) B16_two a N h0]
    rw [dig_zero]
    go_enter Tryd.func67, Tryd.ntmps67
    go_wp2
    go_ret
    exact ⟨none, 0, rfl, Rd.nil _ _ _, by simp, by simp, Below.refl _ _⟩
  · have HXL := Lib.hid (dig_lt B16_two a)
    have HV := Lib.hid (val_drop_div (B := B16) B16_pos _ (dig_lt B16_two a) (N / 16))
    rw [val_dig B16_two] at HV
    generalize dig B16 a = xs at *
    have hsx := hp.solid
    have hk : N / 16 < xs.length := by omega
    have HY := Lib.hid (show ∀ x ∈ xs.drop (N / 16), x < B16 from fun x h => HXL.out x (List.mem_of_mem_drop h))
    have hyl : (xs.drop (N / 16)).length = xs.length - N / 16 := List.length_drop
    have hylp : (xs.drop (N / 16)).length + N / 16 ≤ xs.length := by omega
    have hylq : xs.length ≤ (xs.drop (N / 16)).length + N / 16 := by omega
    have HG := Lib.hid (show ∀ j, dg (xs.drop (N / 16)) j = dg xs (N / 16 + j) from fun j => dg_drop)
    clear h0 hyl
    have hs : N % 16 < 16 := Nat.mod_lt _ (by omega)
    generalize xs.drop (N / 16) = ys at *
    have H0 := Lib.hid (DownRel.start B16 (2 ^ (N % 16)) ys)
    have hpm : B16 % 2 ^ (N % 16) = 0 := pow_mod_zero (w := 16) (by omega)
    have hpm := Lib.hid hpm
    go_enter Tryd.func67, Tryd.ntmps67
    go_wp2
    go_loop [5, 6] (fun dv iv => ∃ (i t : Nat), iv = .int .i64 i ∧ dv = .int .i64 t ∧ i ≤ N % 16 ∧ t ≤ 65536 ∧ Hid (t = 2 ^ i)) (fun _ iv => N % 16 - (intOf iv).toNat)
    case atStart => exact ⟨0, 1, rfl, rfl, Nat.zero_le _, by omega, rfl⟩
    case round =>
      obtain ⟨i, t, rfl, rfl, hi, ht, HT⟩ := hrel
      by_cases h1 : i < N % 16
      · have HS : Hid (2 * t = 2 ^ (i + 1)) := by show 2 * t = 2 ^ (i + 1); rw [HT.out, Nat.pow_succ]; omega
        have hb : 2 * t ≤ 65536 := by
          rw [HS.out]; exact Nat.pow_le_pow_right (show 0 < 2 by omega) (show i + 1 ≤ 16 by omega)
        go_wp2
        go_round
        case rel => exact ⟨i + 1, 2 * t, by go_num, by go_num, by omega, hb, HS⟩
        case measure => simp [intOf]; omega
      · obtain rfl : i = N % 16 := by omega
        have htp : 1 ≤ t := by rw [HT.out]; exact Nat.pow_pos (by omega)
        go_wp2
        rw [← HT.out] at H0 hpm
        go_loopg [7, 8] (ys.length) (fun g ov iv wr => ∃ (i : Nat) (q : Option Addr) (e : Nat) (O : List Nat), iv = .int .i64 ((N / 16 + i : Nat) : Int) ∧ ov = .slice q O.length e ∧ g + i = ys.length ∧ i ≤ ys.length ∧ Hid (O.length = i) ∧
            Own wr w.heap.size .i64 3 q e O ∧ Below w.heap.size w wr ∧ Hid (DownRel B16 t O ys i))
        case atStart => exact ⟨0, none, 0, [], by go_num, rfl, by omega, by omega, rfl, Own.nil _ _ _ _, Below.refl _ _, H0⟩
        case round =>
          obtain ⟨i, q, e, O, rfl, rfl, hg, hi, hO, hoq, hb, HR⟩ := hrel
          have hpL := hp.past hb
          have hyd := getD_lt (B := 65536) (by omega) ys HY.out i
          have hyd2 := getD_lt (B := 65536) (by omega) ys HY.out (i + 1)
          by_cases hlt : i < ys.length
          · have hc1 := hpL.cells (N / 16 + i) (by omega)
            rw [← HG.out] at hc1
            obtain ⟨v, hv⟩ : ∃ v, v = dg ys i / t := ⟨_, rfl⟩
            have ev : ((dg ys i : Nat) : Int) / (t : Int) = (v : Nat) := by rw [hv]; rfl
            have hvd : v < 65536 := by rw [hv]; exact Nat.lt_of_le_of_lt (Nat.div_le_self _ _) hyd
            by_cases h2 : i + 1 < ys.length
            · have hc2 := hpL.cells (N / 16 + (i + 1)) (by omega)
              rw [← HG.out] at hc2
              obtain ⟨m, hm⟩ : ∃ m, m = dg ys (i + 1) % t := ⟨_, rfl⟩
              obtain ⟨k, hk2⟩ : ∃ k, k = 65536 / t := ⟨_, rfl⟩
              obtain ⟨r, hr⟩ : ∃ r, r = m * k := ⟨_, rfl⟩
              obtain ⟨u, hu⟩ : ∃ u, u = v + r := ⟨_, rfl⟩
              have hue : u = dg ys i / t + dg ys (i + 1) % t * (B16 / t) := by rw [hu, hr, hm, hk2, hv]; rfl
              have hub : u < 65536 := by rw [hue]; exact shr_lt htp hpm.out hyd
              have HS := Lib.hid (HR.out.step htp hpm.out HY.out hlt u hue)
              have hkb : k ≤ 65536 := by rw [hk2]; exact Nat.div_le_self _ _
              have i0 : (0 : Int) ≤ (N : Int) / 16 + i + 1 := by omega
              have i1 : (N : Int) / 16 + i + 1 < (xs.length : Int) := by omega
              have e1 : IntKind.i64.wrap ((N : Int) / 16 + i + 1) = (N : Int) / 16 + i + 1 := IntWalk.i64_in _ (by omega)
              have e2 : ((dg ys (i + 1) : Nat) : Int).tmod (t : Int) = (m : Nat) := by rw [Int.tmod_eq_emod_of_nonneg (by omega), hm]; rfl
              have e3 : IntKind.i64.wrap ((65536 : Int) / (t : Int)) = (k : Nat) := by rw [hk2]; exact IntWalk.i64_in _ (by have : ((65536 / t : Nat) : Int) = 65536 / (t : Int) := rfl; omega)
              have e4 : IntKind.i64.wrap ((m : Int) * (k : Int)) = (r : Nat) := by
                have : (m : Int) * (k : Int) = (r : Nat) := by rw [hr]; simp
                rw [this]; exact IntWalk.i64_in _ (by omega)
              have e5 : IntKind.i64.wrap ((v : Int) + (r : Int)) = (u : Nat) := by rw [hu]; exact IntWalk.i64_in _ (by omega)
              have e6 : ((N : Int) / 16 + i + 1).toNat = N / 16 + (i + 1) := by omega
              have e7 : ¬ t = 0 := by omega
              have e8 : (65536 : Int).tdiv (t : Int) = (65536 : Int) / (t : Int) := Int.tdiv_eq_ediv_of_nonneg (by omega)
              clear hu hr hm hk2 hv hue
              go_wp2_with fail
              go_quiet (fail)
              have hoq := hoq.drewN nq
              have hb := hb.trans (below_drewN (Below.refl _ wr) nq)
              clear e1 e2 e3 e4 e5 e6 e7 e8 i0 i1 hc1 hc2 hpL
              go_wp2_with (first
                | (refine wpl_build1 rfl _ _ rfl tyN _ ?_ rfl ?_; omega; intro p2 w2 ho2 hb2 hz2 hp2)
                | (at_builtin; refine wpl_append rfl _ _ _ rfl tyN _ _ _ _ _ (hoq.past hb2) rfl _ _ _ _ ho2.rd rfl rfl rfl ?_ ?_ ?_; (have := hO.out; simp; omega); (have := hb2.size; have := hb.size; omega); intro p3 c3 w3 ho3 hg3 hb3 hn3))
              have hb4 := hb.trans ((hb2.mono hb.size).trans hb3)
              rw [Int.toNat_natCast] at ho3
              go_roundg (ys.length - 1 - i)
              case measure => omega
              case rel => exact ⟨i + 1, p3, c3, _, by go_num, by simp, by omega, by omega, (by show (O ++ _).length = _; have := hO.out; rw [List.length_append, List.length_singleton]; omega), ho3, hb4, HS⟩
            · have HS := Lib.hid (HR.out.step htp hpm.out HY.out hlt v (by rw [hv, dg_of_ge (show ys.length ≤ i + 1 by omega), Nat.zero_mod, Nat.zero_mul]; rfl))
              clear hv
              go_wp2_with (first
                | (refine wpl_build1 rfl _ _ rfl tyN _ ?_ rfl ?_; omega; intro p2 w2 ho2 hb2 hz2 hp2)
                | (at_builtin; refine wpl_append rfl _ _ _ rfl tyN _ _ _ _ _ (hoq.past hb2) rfl _ _ _ _ ho2.rd rfl rfl rfl ?_ ?_ ?_; (have := hO.out; simp; omega); (have := hb2.size; have := hb.size; omega); intro p3 c3 w3 ho3 hg3 hb3 hn3))
              have hb4 := hb.trans ((hb2.mono hb.size).trans hb3)
              rw [Int.toNat_natCast] at ho3
              go_roundg (ys.length - 1 - i)
              case measure => omega
              case rel => exact ⟨i + 1, p3, c3, _, by go_num, by simp, by omega, by omega, (by show (O ++ _).length = _; have := hO.out; rw [List.length_append, List.length_singleton]; omega), ho3, hb4, HS⟩
          · obtain rfl : i = ys.length := by omega
            have HD := Lib.hid (down_done (by rw [← HT.out]; exact HR.out) HV.out)
            have HX := Lib.hid HR.out.1
            go_wp2_with (go_at_call 68; refine (refTrim_any _ _ _ O _ hoq.rd rfl hoq.le_cap HX.out (by rw [hO.out]; omega)).mono ?_; rintro e w3 ⟨rfl, rfl⟩)
            go_ret
            have ht := take_dig_len B16_two O HX.out
            have ho2 := hoq.take (dig B16 (val B16 O)).length
            rw [ht, HD.out] at ho2
            rw [HD.out]
            exact ⟨q, _, rfl, ho2.rd, Nat.le_refl _, own_blk ho2, hb⟩

end Go.Proofs.YtehodhanojgkgaaDoor

namespace Go.Proofs.YtehodhanojgkgaaDoor
open Go.RowKit Go.Slip

/-- What a division answers: two lists, each in memory of its own. -/
def GivesR2 (w : World) (k : IntKind) (xs ys : List Nat) (en : Ending) (w' : World) : Prop :=
  ∃ p c q d, en = .returned (.tuple #[.slice p xs.length c, .slice q ys.length d]) ∧ Rd w' k p xs ∧ xs.length ≤ c ∧ (0 < xs.length → w.heap.size ≤ blk p) ∧ Rd w' k q ys ∧ ys.length ≤ d ∧ (0 < ys.length → w.heap.size ≤ blk q) ∧ Below w.heap.size w w'

theorem dig_small {B d : Nat} (hB : 2 ≤ B) (h0 : 0 < d) (h : d < B) : dig B d = [d] := by
  rw [dig_pos hB h0, Nat.div_eq_of_lt h, dig_zero, Nat.mod_eq_of_lt h]

theorem dig_of_len_one {B d : Nat} (hB : 2 ≤ B) (h : (dig B d).length = 1) : 0 < d ∧ d < B := by
  have h1 := (dig_len_le hB d 1).1 (by omega)
  rw [Nat.pow_one] at h1
  refine ⟨?_, h1⟩
  rcases Nat.eq_zero_or_pos d with h0 | h0
  · rw [h0, dig_zero] at h; simp at h
  · exact h0

theorem val_one (B r : Nat) : val B [r] = r := by simp

set_option maxHeartbeats 2000000 in
set_option maxRecDepth 100000 in
theorem refInto_one (p q : Option Addr) (n m c e0 : Nat) (a d : Nat) (w : World) (hp : Rd w .i64 p (dig B16 a)) (hq : Rd w .i64 q [d]) (hn : n = (dig B16 a).length) (hm : m = 1)
    (hl : (dig B16 a).length ≤ 1000000000) (hd0 : 0 < d) (hd1 : d < 65536) :
    Calls Tryd.prog 46 #[.slice p n c, .slice q m e0] w (GivesR2 w .i64 (dig B16 (a / d)) (dig B16 (a % d))) := by
  subst hn hm
  have HA := Lib.hid (val_dig B16_two a)
  have HXL := Lib.hid (dig_lt B16_two a)
  generalize dig B16 a = xs at *
  have hsx := hp.solid
  have hsq := hq.solid
  simp only [List.length_singleton] at hsq
  have hcd : w.cell? (at_ q 0) = some (.int .i64 (d : Nat)) := hq.cells 0 (by simp)
  go_enter Tryd.func46, Tryd.ntmps46
  go_wp2_with (refine wpl_make rfl _ _ _ rfl tyN .i64 .i64 xs.length _ _ rfl rfl ?_ ?_ ?_ ?_; omega; omega; omega; intro p1 c1 w1 ho1 hb1 hz1)
  go_loopw [7, 8] (fun rv iv wr => ∃ (k r : Nat) (L : List Nat), iv = .int .i64 ((k : Int) - 1) ∧ rv = .int .i64 r ∧ k ≤ xs.length ∧ r < d ∧ Hid (L.length = xs.length) ∧ Own wr w.heap.size .i64 3 p1 c1 L ∧ Below w.heap.size w wr ∧ Hid (SmallRel B16 L xs d k r))
    (fun _ iv _ => (intOf iv + 1).toNat)
  case atStart => exact ⟨xs.length, 0, _, rfl, rfl, Nat.le_refl _, hd0, List.length_replicate, ho1, hb1, (show SmallRel B16 _ xs d xs.length 0 from ⟨fun x hx => by rw [(List.mem_replicate.1 hx).2]; exact B16_pos, hd0, by simp⟩)⟩
  case round =>
    obtain ⟨k, r, L, rfl, rfl, hk, hrd, hL, hoL, hbL, HR⟩ := hrel
    have hpL := hp.past hbL
    have hsL := hoL.solid
    rw [hL.out] at hsL
    by_cases h0 : 0 < k
    · obtain ⟨k, rfl⟩ : ∃ j, k = j + 1 := ⟨k - 1, by omega⟩
      have hc1 := hpL.cells k (by omega)
      have hxd := getD_lt (B := 65536) (by omega) xs HXL.out k
      obtain ⟨HS, HQ⟩ := HR.out.step (by omega) (by rw [hL.out]; omega) (by unfold B16; exact hxd)
      have HS := Lib.hid HS
      have ej : ((k + 1 : Nat) : Int) - 1 = k := by omega
      rw [ej]
      unfold B16 at HQ
      obtain ⟨t, ht⟩ : ∃ t, t = r * 65536 + dg xs k := ⟨_, rfl⟩
      have et : 65536 * (r : Int) + (dg xs k : Nat) = (t : Nat) := by omega
      have htb : t < 4294967296 := by omega
      rw [← ht] at HQ
      have HT := Lib.hid ht
      have k0 : (0 : Int) ≤ (k : Int) := by omega
      have k1 : (k : Int) < (xs.length : Int) := by omega
      clear ht
      have hcd2 : wr.cell? (at_ q 0) = some (.int .i64 (d : Nat)) := (hq.past hbL).cells 0 (by simp)
      go_wp2_with fail
      clear hc1 ej et
      have e2 : ¬ d = 0 := by omega
      have hqe : ((t / d : Nat) : Int) = (t : Int) / (d : Int) := rfl
      have hql := Nat.div_le_self t d
      have hq0 : (0 : Int) ≤ (t : Int) / (d : Int) := Int.ediv_nonneg (by omega) (by omega)
      have hq1 : (t : Int) / (d : Int) < 4294967296 := by have : ((t / d : Nat) : Int) = (t : Int) / (d : Int) := rfl; omega
      clear hqe hql
      have e3 : IntKind.i64.wrap ((t : Int) / (d : Int)) = (t : Int) / (d : Int) := IntWalk.i64_in _ (by omega)
      have e5 : (t : Int).tmod (d : Int) = (t : Int) % (d : Int) := Int.tmod_eq_emod_of_nonneg (by omega)
      have hcL := hoL.rd.cells k (by rw [hL.out]; omega)
      have hfL := frozen_own hoL k (by rw [hL.out]; omega)
      go_region
      obtain ⟨ho3, hg3, hb3⟩ := stored_own hoL k (by rw [hL.out]; omega) (t / d)
      clear e2 e3 e5 hcL hfL
      have hb3 := hbL.trans (below_of_grown hg3 hbL.size (fun j hj => by cases hj; exact hb3))
      have ho3 := ho3.drew
      have hb3 := hb3.drew
      have eq : ((t / d : Nat) : Int) = (t : Int) / (d : Int) := rfl
      rw [eq] at ho3 hb3 hg3
      generalize (wr.setCell (at_ p1 k) (.int .i64 ((t : Int) / (d : Int)))).drew = w3 at ho3 hb3 ⊢
      clear eq hg3
      go_wp2
      go_roundw
      case rel =>
        have e6 : r * B16 + dg xs k = t := by rw [HT.out]; rfl
        rw [e6] at HS
        exact ⟨k, t % d, _, rfl, rfl, by omega, Nat.mod_lt _ hd0, (by show (List.set _ _ _).length = _; rw [List.length_set]; exact hL.out), ho3, hb3, HS⟩
      case measure => first | (simp [intOf]; done) | (simp [intOf]; omega)
    · obtain rfl : k = 0 := by omega
      obtain ⟨hv, hm⟩ := HR.out.done HA.out
      have HM := Lib.hid hm
      have HV := Lib.hid hv
      clear hv hm
      have hX1 := Lib.hid (show ∀ x ∈ [r], x < B16 by simp; unfold B16; omega)
      go_wp2_with fail
      refine (refTrim_any p1 xs.length c1 L _ hoL.rd hL.out.symm (by rw [hL.out]; exact hL.out ▸ hoL.le_cap) HR.out.1 (by rw [hL.out]; omega)).mono ?_
      rintro e w3 ⟨rfl, rfl⟩
      go_wp2_with (refine wpl_build1 rfl _ _ rfl tyN r (by omega) rfl ?_; intro p2 w2 ho2 hb2 hz2 hp2)
      rw [Int.toNat_natCast] at ho2
      refine (refTrim_any p2 1 1 [r] _ ho2.rd rfl (Nat.le_refl _) hX1.out (by simp)).mono ?_
      rintro e w3 ⟨rfl, rfl⟩
      rw [HV.out, val_one, HM.out]
      go_wp2_with fail
      go_ret2
      have ht := take_dig_len B16_two L HR.out.1
      have ho3 := (hoL.past hb2).take (dig B16 (val B16 L)).length
      rw [ht, HV.out] at ho3
      have ht2 := take_dig_len B16_two [r] hX1.out
      have ho4 := ho2.take (dig B16 (val B16 [r])).length
      rw [ht2, val_one, HM.out] at ho4
      exact ⟨p1, _, p2, _, rfl, ho3.rd, Nat.le_refl _, own_blk ho3, ho4.rd, Nat.le_refl _, fun h => Nat.le_trans hbL.size (own_blk ho4 h), hbL.trans (hb2.mono hbL.size)⟩

end Go.Proofs.YtehodhanojgkgaaDoor

namespace Go.Proofs.YtehodhanojgkgaaDoor
open Go.RowKit Go.Slip

set_option maxHeartbeats 1000000 in
theorem refFrom_any (N : Nat) (w : World) (hN : N ≤ 9223372036854775807) :
    Calls Tryd.prog 42 #[.int .i64 N] w (GivesR w .i64 (dig B16 N)) := by
  have hlN : (dig B16 N).length ≤ 4 := (dig_len_le B16_two N 4).2 (by unfold B16; omega)
  go_enter Tryd.func42, Tryd.ntmps42
  go_wp2
  go_loopg [0, 3] N (fun g nv ov wr => ∃ (m : Nat) (t : Option Addr) (e : Nat) (O : List Nat), nv = .int .i64 m ∧ ov = .slice t O.length e ∧ m ≤ g ∧ m ≤ 9223372036854775807 ∧ Hid (O ++ dig B16 m = dig B16 N) ∧
      Own wr w.heap.size .i64 3 t e O ∧ Below w.heap.size w wr)
  case atStart => exact ⟨N, none, 0, [], rfl, rfl, Nat.le_refl _, hN, rfl, Own.nil _ _ _ _, Below.refl _ _⟩
  case round =>
    obtain ⟨m, t, e, O, rfl, rfl, hg, hm, HR, hoq, hb⟩ := hrel
    have hOl : O.length ≤ 4 := by have := congrArg List.length HR.out; rw [List.length_append] at this; omega
    by_cases h0 : 0 < m
    · have HS : Hid ((O ++ [m % B16]) ++ dig B16 (m / B16) = dig B16 N) := by
        show _ = _
        rw [← HR.out, dig_pos B16_two h0, List.append_assoc]; rfl
      go_wp2_with (first
        | (refine wpl_build1 rfl _ _ rfl tyN _ ?_ rfl ?_; omega; intro p2 w2 ho2 hb2 hz2 hp2)
        | (at_builtin; refine wpl_append rfl _ _ _ rfl tyN _ _ _ _ _ (hoq.past hb2) rfl _ _ _ _ ho2.rd rfl rfl rfl ?_ ?_ ?_; (simp; omega); (have := hb2.size; have := hb.size; omega); intro p3 c3 w3 ho3 hg3 hb3 hn3))
      have hb4 := hb.trans ((hb2.mono hb.size).trans hb3)
      have e4 : ((m : Int) % 65536).toNat = m % B16 := by unfold B16; omega
      rw [e4] at ho3
      go_roundg (m / 65536)
      case measure => omega
      case rel => exact ⟨m / 65536, p3, c3, _, by go_num, by simp, Nat.le_refl _, by omega, HS, ho3, hb4⟩
    · obtain rfl : m = 0 := by omega
      have HD : Hid (O = dig B16 N) := by show _ = _; rw [← HR.out, dig_zero, List.append_nil]
      go_wp2
      go_ret
      exact givesR_of HD.out rfl hoq hb

end Go.Proofs.YtehodhanojgkgaaDoor
