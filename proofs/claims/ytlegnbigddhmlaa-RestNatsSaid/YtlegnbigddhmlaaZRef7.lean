/- The references' division by one digit. -/
import Derived.Test.YtlegnbigddhmlaaZRef2
import Derived.Test.YtlegnbigddhmlaaZA
import Derived.Deep.RegionLaw
namespace Go.Proofs.Ytlegnbigddhmlaa
open Go.RowKit Go.Slip

/-- What a division answers: two lists, each in memory of its own. -/
def GivesR2 (w : World) (k : IntKind) (xs ys : List Nat) (en : Ending) (w' : World) : Prop :=
  ∃ p c q d, en = .returned (.tuple #[.slice p xs.length c, .slice q ys.length d]) ∧ Rd w' k p xs ∧ xs.length ≤ c ∧ (0 < xs.length → w.heap.size ≤ blk p) ∧ Rd w' k q ys ∧ ys.length ≤ d ∧ (0 < ys.length → w.heap.size ≤ blk q) ∧ Below w.heap.size w w'

theorem dig_small {B d : Nat} (hB : 2 ≤ B) (h0 : 0 < d) (h : d < B) : dig B d = [d] := by
  rw [dig_pos hB h0, Nat.div_eq_of_lt h, dig_zero, Nat.mod_eq_of_lt h]

theorem dig_of_len_one {B d : Nat} (hB : 2 ≤ B) (h : (dig B d).length = 1) : 0 < d ∧ d < B := by
  have h1 := (dig_len_le hB d 1).1 (by omega)
  rw [Nat.pow_one] at h1
  refine ⟨?_, h1⟩
  rcases Nat.eq_zero_or_pos d with h0 | h0
  · rw [h0, dig_zero] at h; simp at h
  · exact h0

theorem val_one (B r : Nat) : val B [r] = r := by simp

set_option maxHeartbeats 2000000 in
set_option maxRecDepth 100000 in
theorem refInto_one (p q : Option Addr) (n m c e0 : Nat) (a d : Nat) (w : World) (hp : Rd w .i64 p (dig B16 a)) (hq : Rd w .i64 q [d]) (hn : n = (dig B16 a).length) (hm : m = 1)
    (hl : (dig B16 a).length ≤ 1000000000) (hd0 : 0 < d) (hd1 : d < 65536) :
    Calls Try.prog 19 #[.slice p n c, .slice q m e0] w (GivesR2 w .i64 (dig B16 (a / d)) (dig B16 (a % d))) := by
  subst hn hm
  have HA := Lib.hid (val_dig B16_two a)
  have HXL := Lib.hid (dig_lt B16_two a)
  generalize dig B16 a = xs at *
  have hsx := hp.solid
  have hsq := hq.solid
  simp only [List.length_singleton] at hsq
  have hcd : w.cell? (at_ q 0) = some (.int .i64 (d : Nat)) := hq.cells 0 (by simp)
  go_enter Try.func19, Try.ntmps19
  go_wp2_with (refine wpl_make rfl _ _ _ rfl tyN .i64 .i64 xs.length _ _ rfl rfl ?_ ?_ ?_ ?_; omega; omega; omega; intro p1 c1 w1 ho1 hb1 hz1)
  go_loopw [7, 8] (fun rv iv wr => ∃ (k r : Nat) (L : List Nat), iv = .int .i64 ((k : Int) - 1) ∧ rv = .int .i64 r ∧ k ≤ xs.length ∧ r < d ∧ Hid (L.length = xs.length) ∧ Own wr w.heap.size .i64 3 p1 c1 L ∧ Below w.heap.size w wr ∧ Hid (SmallRel B16 L xs d k r))
    (fun _ iv _ => (intOf iv + 1).toNat)
  case atStart => exact ⟨xs.length, 0, _, rfl, rfl, Nat.le_refl _, hd0, List.length_replicate, ho1, hb1, (show SmallRel B16 _ xs d xs.length 0 from ⟨fun x hx => by rw [(List.mem_replicate.1 hx).2]; exact B16_pos, hd0, by simp⟩)⟩
  case round =>
    obtain ⟨k, r, L, rfl, rfl, hk, hrd, hL, hoL, hbL, HR⟩ := hrel
    have hpL := hp.past hbL
    have hsL := hoL.solid
    rw [hL.out] at hsL
    by_cases h0 : 0 < k
    · obtain ⟨k, rfl⟩ : ∃ j, k = j + 1 := ⟨k - 1, by omega⟩
      have hc1 := hpL.cells k (by omega)
      have hxd := getD_lt (B := 65536) (by omega) xs HXL.out k
      obtain ⟨HS, HQ⟩ := HR.out.step (by omega) (by rw [hL.out]; omega) (by unfold B16; exact hxd)
      have HS := Lib.hid HS
      have ej : ((k + 1 : Nat) : Int) - 1 = k := by omega
      rw [ej]
      unfold B16 at HQ
      obtain ⟨t, ht⟩ : ∃ t, t = r * 65536 + dg xs k := ⟨_, rfl⟩
      have et : 65536 * (r : Int) + (dg xs k : Nat) = (t : Nat) := by omega
      have htb : t < 4294967296 := by omega
      rw [← ht] at HQ
      have HT := Lib.hid ht
      have k0 : (0 : Int) ≤ (k : Int) := by omega
      have k1 : (k : Int) < (xs.length : Int) := by omega
      clear ht
      have hcd2 : wr.cell? (at_ q 0) = some (.int .i64 (d : Nat)) := (hq.past hbL).cells 0 (by simp)
      go_wp2_with fail
      clear hc1 ej et
      have e2 : ¬ d = 0 := by omega
      have hqe : ((t / d : Nat) : Int) = (t : Int) / (d : Int) := rfl
      have hql := Nat.div_le_self t d
      have hq0 : (0 : Int) ≤ (t : Int) / (d : Int) := Int.ediv_nonneg (by omega) (by omega)
      have hq1 : (t : Int) / (d : Int) < 4294967296 := by have : ((t / d : Nat) : Int) = (t : Int) / (d : Int) := rfl; omega
      clear hqe hql
      have e3 : IntKind.i64.wrap ((t : Int) / (d : Int)) = (t : Int) / (d : Int) := IntWalk.i64_in _ (by omega)
      have e5 : (t : Int).tmod (d : Int) = (t : Int) % (d : Int) := Int.tmod_eq_emod_of_nonneg (by omega)
      have hcL := hoL.rd.cells k (by rw [hL.out]; omega)
      have hfL := frozen_own hoL k (by rw [hL.out]; omega)
      go_region
      obtain ⟨ho3, hg3, hb3⟩ := stored_own hoL k (by rw [hL.out]; omega) (t / d)
      clear e2 e3 e5 hcL hfL
      have hb3 := hbL.trans (below_of_grown hg3 hbL.size (fun j hj => by cases hj; exact hb3))
      have ho3 := ho3.drew
      have hb3 := hb3.drew
      have eq : ((t / d : Nat) : Int) = (t : Int) / (d : Int) := rfl
      rw [eq] at ho3 hb3 hg3
      generalize (wr.setCell (at_ p1 k) (.int .i64 ((t : Int) / (d : Int)))).drew = w3 at ho3 hb3 ⊢
      clear eq hg3
      go_wp2
      go_roundw
      case rel =>
        have e6 : r * B16 + dg xs k = t := by rw [HT.out]; rfl
        rw [e6] at HS
        exact ⟨k, t % d, _, rfl, rfl, by omega, Nat.mod_lt _ hd0, (by show (List.set _ _ _).length = _; rw [List.length_set]; exact hL.out), ho3, hb3, HS⟩
      case measure => first | (simp [intOf]; done) | (simp [intOf]; omega)
    · obtain rfl : k = 0 := by omega
      obtain ⟨hv, hm⟩ := HR.out.done HA.out
      have HM := Lib.hid hm
      have HV := Lib.hid hv
      clear hv hm
      have hX1 := Lib.hid (show ∀ x ∈ [r], x < B16 by simp; unfold B16; omega)
      go_wp2_with fail
      refine (refTrim_any p1 xs.length c1 L _ hoL.rd hL.out.symm (by rw [hL.out]; exact hL.out ▸ hoL.le_cap) HR.out.1 (by rw [hL.out]; omega)).mono ?_
      rintro e w3 ⟨rfl, rfl⟩
      go_wp2_with (refine wpl_build1 rfl _ _ rfl tyN r (by omega) rfl ?_; intro p2 w2 ho2 hb2 hz2 hp2)
      rw [Int.toNat_natCast] at ho2
      refine (refTrim_any p2 1 1 [r] _ ho2.rd rfl (Nat.le_refl _) hX1.out (by simp)).mono ?_
      rintro e w3 ⟨rfl, rfl⟩
      rw [HV.out, val_one, HM.out]
      go_wp2_with fail
      go_ret2
      have ht := take_dig_len B16_two L HR.out.1
      have ho3 := (hoL.past hb2).take (dig B16 (val B16 L)).length
      rw [ht, HV.out] at ho3
      have ht2 := take_dig_len B16_two [r] hX1.out
      have ho4 := ho2.take (dig B16 (val B16 [r])).length
      rw [ht2, val_one, HM.out] at ho4
      exact ⟨p1, _, p2, _, rfl, ho3.rd, Nat.le_refl _, own_blk ho3, ho4.rd, Nat.le_refl _, fun h => Nat.le_trans hbL.size (own_blk ho4 h), hbL.trans (hb2.mono hbL.size)⟩

end Go.Proofs.Ytlegnbigddhmlaa
