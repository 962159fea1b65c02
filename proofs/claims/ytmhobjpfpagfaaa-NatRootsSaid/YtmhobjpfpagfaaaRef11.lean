/- The references' powers. -/
import Derived.Test.YtmhobjpfpagfaaaRef2
import Derived.Test.YtmhobjpfpagfaaaNum9
namespace Go.Proofs.Ytmhobjpfpagfaaa
open Go.RowKit Go.Slip

theorem pow_len16 {a K e : Nat} (h : e ≤ K) : (dig B16 (a ^ e)).length ≤ K * (dig B16 a).length + 1 := by
  refine Nat.le_trans (dig_len_pow_le B16_two a e) ?_
  have := Nat.mul_le_mul_right (dig B16 a).length h
  omega

set_option maxHeartbeats 1000000 in
theorem refPower_any (p : Option Addr) (n c : Nat) (a K : Nat) (w : World) (hp : Rd w .i64 p (dig B16 a)) (hn : n = (dig B16 a).length) (hK : K ≤ 1000) (hl : (dig B16 a).length ≤ 100000) :
    Calls Try.prog 20 #[.slice p n c, .int .i64 K] w (GivesR w .i64 (dig B16 (a ^ K))) := by
  subst hn
  have hKl : K * (dig B16 a).length + 1 ≤ 100000001 := by have := Nat.mul_le_mul hK hl; omega
  have PL : ∀ e, e ≤ K → (dig B16 (a ^ e)).length ≤ 100000001 := fun e he => Nat.le_trans (pow_len16 he) hKl
  have PL := Lib.hid PL
  have E1 : [1] = dig B16 (a ^ 0) := by
    rw [Nat.pow_zero, dig_pos B16_two (by omega), show 1 / B16 = 0 by decide, dig_zero]; rfl
  have E1 := Lib.hid E1
  go_enter Try.func20, Try.ntmps20
  go_wp2_with (refine wpl_build1 rfl _ _ rfl tyN 1 (by omega) rfl ?_; intro p1 w1 ho1 hb1 hz1 hp1)
  go_loopw [1, 5] (fun kv ov wr => ∃ (k : Nat) (po : Option Addr) (co : Nat), kv = .int .i64 k ∧ ov = .slice po (dig B16 (a ^ (K - k))).length co ∧ k ≤ K ∧
      Rd wr .i64 po (dig B16 (a ^ (K - k))) ∧ (dig B16 (a ^ (K - k))).length ≤ co ∧ (0 < (dig B16 (a ^ (K - k))).length → w.heap.size ≤ blk po) ∧ Below w.heap.size w wr)
    (fun kv _ _ => (intOf kv).toNat)
  case atStart =>
    have ho := ho1.rd
    have hk := own_blk ho1
    simp only [show Int.toNat 1 = 1 from rfl] at ho hk
    refine ⟨K, p1, 1, rfl, ?_, Nat.le_refl _, ?_, ?_, ?_, hb1⟩
    · rw [Nat.sub_self, ← E1.out]; rfl
    · rw [Nat.sub_self, ← E1.out]; exact ho
    · rw [Nat.sub_self, ← E1.out]; simp
    · rw [Nat.sub_self, ← E1.out]; exact hk
  case round =>
    obtain ⟨k, po, co, rfl, rfl, hk, hro, hlo, hbo, hb⟩ := hrel
    have l1 := PL.out (K - k) (by omega)
    by_cases h0 : 0 < k
    · obtain ⟨e, he⟩ : ∃ e, e = K - k := ⟨_, rfl⟩
      rw [← he] at hro hlo hbo l1 ⊢
      have e2 := Lib.hid (show K - (k - 1) = e + 1 by omega)
      have eP := Lib.hid (show a ^ e * a = a ^ (e + 1) from (Nat.pow_succ _ _).symm)
      have k1 : (k : Int) - 1 = ((k - 1 : Nat) : Int) := by omega
      clear he
      go_wp2_with fail
      refine (refTimes_any po p _ _ co c (a ^ e) a _ hro (hp.past hb) rfl rfl (by omega)).mono ?_
      rw [eP.out]
      rintro e3 w2 ⟨p2, c2, rfl, hr2, hl2, hk2, hb2⟩
      have hsz := hb.size
      have hb2 := hb.trans (hb2.mono hb.size)
      go_wp2_with fail
      go_roundw
      case rel =>
        refine ⟨k - 1, p2, c2, by go_num, ?_, by omega, ?_, ?_, ?_, hb2⟩
        · rw [e2.out]
        · rw [e2.out]; exact hr2
        · rw [e2.out]; exact hl2
        · rw [e2.out]; exact fun h => Nat.le_trans hsz (hk2 h)
      case measure => simp [intOf]; omega
    · obtain rfl : k = 0 := by omega
      go_wp2_with fail
      go_ret
      rw [Nat.sub_zero] at *
      exact ⟨po, co, rfl, hro, hlo, hbo, hb⟩

end Go.Proofs.Ytmhobjpfpagfaaa
