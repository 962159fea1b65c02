/- limb.small: division by one digit. -/
import Derived.Test.YtehodhanojgkgaaDoorZC
import Derived.Deep.RegionLaw
namespace Go.Proofs.YtehodhanojgkgaaDoor
open Go.RowKit Go.Slip

set_option maxHeartbeats 1000000 in
set_option maxRecDepth 100000 in
theorem small_any (p : Option Addr) (n c : Nat) (a d : Nat) (w : World) (hp : Rd w .u32 p (dig B32 a)) (hn : n = (dig B32 a).length) (hl : (dig B32 a).length ≤ 1000000000) (hd0 : 0 < d) (hd1 : d < 4294967296) :
    Calls Tryd.prog 98 #[.slice p n c, .int .u32 d] w fun e w' => ∃ p' c', e = .returned (.tuple #[.slice p' (dig B32 (a / d)).length c', .int .u32 (a % d : Nat)]) ∧
      Own w' w.heap.size .u32 58 p' c' (dig B32 (a / d)) ∧ Below w.heap.size w w' := by
  subst hn
  have HA := Lib.hid (val_dig B32_two a)
  have HXL := Lib.hid (dig_lt B32_two a)
  generalize dig B32 a = xs at hp hl HA HXL ⊢
  have hsx := hp.solid
  go_enter Tryd.func98, Tryd.ntmps98
  go_wp2_with (refine wpl_make rfl _ _ _ rfl tyNat .i64 .i64 xs.length _ _ rfl rfl ?_ ?_ ?_ ?_; omega; omega; omega; intro p1 c1 w1 ho1 hb1 hz1)
  go_loopw [7, 8] (fun rv iv wr => ∃ (k r : Nat) (L : List Nat), iv = .int .i64 ((k : Int) - 1) ∧ rv = .int .u64 r ∧ k ≤ xs.length ∧ r < d ∧ Hid (L.length = xs.length) ∧ Own wr w.heap.size .u32 58 p1 c1 L ∧ Below w.heap.size w wr ∧ Hid (SmallRel B32 L xs d k r))
    (fun _ iv _ => (intOf iv + 1).toNat)
  case atStart => exact ⟨xs.length, 0, _, rfl, rfl, Nat.le_refl _, hd0, List.length_replicate, ho1, hb1, (show SmallRel B32 _ xs d xs.length 0 from ⟨fun x hx => by rw [(List.mem_replicate.1 hx).2]; exact B32_pos, hd0, by simp⟩)⟩
  case round =>
    obtain ⟨k, r, L, rfl, rfl, hk, hrd, hL, hoL, hbL, HR⟩ := hrel
    have hpL := hp.past hbL
    have hsL := hoL.solid
    rw [hL.out] at hsL
    by_cases h0 : 0 < k
    · obtain ⟨k, rfl⟩ : ∃ j, k = j + 1 := ⟨k - 1, by omega⟩
      have hc1 := hpL.cells k (by omega)
      have hxd := getD_lt (B := 4294967296) (by omega) xs HXL.out k
      have hor := or32 r (dg xs k) (by omega) hxd
      obtain ⟨HS, HQ⟩ := HR.out.step (by omega) (by rw [hL.out]; omega) (by unfold B32; exact hxd)
      have HS := Lib.hid HS
      have ej : ((k + 1 : Nat) : Int) - 1 = k := by omega
      rw [ej]
      unfold B32 at HQ
      obtain ⟨t, ht⟩ : ∃ t, t = r * 4294967296 + dg xs k := ⟨_, rfl⟩
      have et : (r : Int) * 4294967296 + (dg xs k : Nat) = (t : Nat) := by omega
      have htb : t < 18446744073709551616 := by omega
      rw [et] at hor
      rw [← ht] at HQ
      have HT := Lib.hid ht
      have hq0 : (0 : Int) ≤ (t : Int) / (d : Int) := Int.ediv_nonneg (by omega) (by omega)
      have hq1 : (t : Int) / (d : Int) < 4294967296 := by have : ((t / d : Nat) : Int) = (t : Int) / (d : Int) := rfl; omega
      have hd2 : (1 : Int) ≤ (d : Int) := by omega
      have k0 : (0 : Int) ≤ (k : Int) := by omega
      have k1 : (k : Int) < (xs.length : Int) := by omega
      clear ht et hc1
      have hc1 := hpL.cells k (by omega)
      go_wp2_with fail
      clear hc1 hor ej
      have e1 : IntKind.u64.wrap (d : Int) = (d : Int) := IntWalk.u64_in _ (by omega)
      have e2 : ¬ d = 0 := by omega
      have e3 : IntKind.u64.wrap ((t : Int) / (d : Int)) = (t : Int) / (d : Int) := IntWalk.u64_in _ (by omega)
      have e4 : IntKind.u32.wrap ((t : Int) / (d : Int)) = (t : Int) / (d : Int) := IntWalk.u32_in _ (by omega)
      have e5 : (t : Int).tmod (d : Int) = (t : Int) % (d : Int) := Int.tmod_eq_emod_of_nonneg (by omega)
      have hcL := hoL.rd.cells k (by rw [hL.out]; omega)
      have hfL := frozen_own hoL k (by rw [hL.out]; omega)
      go_region
      obtain ⟨ho3, hg3, hb3⟩ := stored_own hoL k (by rw [hL.out]; omega) (t / d)
      clear e1 e2 e3 e4 e5 hcL hfL
      have hb3 := hbL.trans (below_of_grown hg3 hbL.size (fun j hj => by cases hj; exact hb3))
      have ho3 := ho3.drew
      have hb3 := hb3.drew
      have eq : ((t / d : Nat) : Int) = (t : Int) / (d : Int) := rfl
      rw [eq] at ho3 hb3 hg3
      generalize (wr.setCell (at_ p1 k) (.int .u32 ((t : Int) / (d : Int)))).drew = w3 at ho3 hb3 ⊢
      clear eq hg3
      go_wp2
      go_roundw
      case rel =>
        have e6 : r * B32 + dg xs k = t := by rw [HT.out]; rfl
        rw [e6] at HS
        exact ⟨k, t % d, _, rfl, rfl, by omega, Nat.mod_lt _ hd0, (by show (List.set _ _ _).length = _; rw [List.length_set]; exact hL.out), ho3, hb3, HS⟩
      case measure => first | (simp [intOf]; done) | (simp [intOf]; omega)
    · obtain rfl : k = 0 := by omega
      obtain ⟨hv, hm⟩ := HR.out.done HA.out
      have HM := Lib.hid hm
      have HV := Lib.hid hv
      clear hv hm
      go_wp2_with (go_at_call 92; refine (norm_any _ _ _ L _ hoL.rd hL.out.symm hoL.le_cap HR.out.1 (by rw [hL.out]; omega)).mono ?_; rintro e w3 ⟨rfl, rfl⟩)
      go_ret2
      have ht := take_dig_len B32_two L HR.out.1
      have ho2 := hoL.take (dig B32 (val B32 L)).length
      rw [ht, HV.out] at ho2
      refine ⟨p1, c1, ?_, ho2, hbL⟩
      rw [HV.out, ← HM.out]
      rfl

end Go.Proofs.YtehodhanojgkgaaDoor
