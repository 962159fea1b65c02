/- The laws' 'dyadBegun'. -/
import Derived.Test.YtkooikgplpamlaaDoorZLawD0
import Derived.Test.YtkooikgplpamlaaDoorZF
namespace Go.Proofs.YtkooikgplpamlaaDoor
open Go.RowKit Go.Slip

theorem dig_one : dig B32 1 = [1] := by rw [dig_pos B32_two (by omega)]; simp [B32, dig_zero]

theorem begun_sum : pPlus ⟨false, 1, 0⟩ ⟨false, 3, 0⟩ = ⟨false, 1, 2⟩ := by
  have h1 : pPlus ⟨false, 1, 0⟩ ⟨false, 3, 0⟩ = bare ⟨false, 1 * 2 ^ 2, 0⟩ := rfl
  rw [h1, bare_shift]
  exact bare_of (.inl rfl)

theorem lit_in (w : World) (k : Nat) (hk : 0 < k) (hk2 : k < 4294967296) : InD (w.alloc (.cells #[.int .u32 (k : Int)] 77)) ⟨false, some ⟨w.heap.size, 0, none⟩, 1, [k], 0⟩ := by
  have h := (own_one w .u32 77 (k : Int) (by omega)).rd
  simp only [Int.toNat_natCast] at h
  exact ⟨h, by simp, by simp, by intro x hx; simp at hx; subst hx; exact hk2⟩

theorem lit_ok (k : Nat) (p : Option Addr) (hk : 0 < k) : errDy ⟨false, p, 1, [k], 0⟩ = 0 := by
  unfold errDy
  have h : errNat [k] = 0 := by
    unfold errNat
    rw [if_neg, if_neg (by simp)]
    rintro ⟨_, h2⟩
    simp [dg] at h2
    omega
  simp [h]

theorem lit_v (k : Nat) (p : Option Addr) (hk : k % 2 = 1) : dyV ⟨false, p, 1, [k], 0⟩ = ⟨false, k, 0⟩ := by
  unfold dyV
  simp only [val_cons, val_nil, Nat.mul_zero, Nat.add_zero]
  exact bare_of (.inl hk)

set_option maxHeartbeats 2000000 in
theorem dyadBegun_any (w : World) (hT : TabW w) :
    Calls Tryd.prog 39 #[] w fun e w' => e = .returned (.bool true) ∧ Below w.heap.size w w' := by
  obtain ⟨W1, hW1⟩ : ∃ W1, W1 = (w.alloc (.cells #[.int .u32 1] 77)).alloc (.cells #[.int .u32 3] 77) := ⟨_, rfl⟩
  have hs1 : Below w.heap.size w W1 := by rw [hW1]; exact two_laid w _ _
  have ha : InD W1 ⟨false, some ⟨w.heap.size, 0, none⟩, 1, [1], 0⟩ := by rw [hW1]; exact (lit_in w 1 (by omega) (by omega)).laid _
  have hb : InD W1 ⟨false, some ⟨w.heap.size + 1, 0, none⟩, 1, [3], 0⟩ := by
    have := lit_in (w.alloc (.cells #[.int .u32 1] 77)) 3 (by omega) (by omega)
    rw [hW1]; simpa using this
  have HA := dyAdd_any _ _ W1 ha hb (hT.past hs1)
  have he : errDy2 ⟨false, some ⟨w.heap.size, 0, none⟩, 1, [1], 0⟩ ⟨false, some ⟨w.heap.size + 1, 0, none⟩, 1, [3], 0⟩ = 0 := by unfold errDy2; rw [if_pos (lit_ok 1 _ (by omega)), lit_ok 3 _ (by omega)]
  unfold doneTwo errTwo at HA
  rw [if_pos he, if_pos he, lit_v 1 _ (by omega), lit_v 3 _ (by omega), begun_sum] at HA
  obtain ⟨e0, d0⟩ := errD_ok (d := ⟨false, 1, 2⟩) (by rw [dig_one]; simp) (by simp)
  rw [e0, d0] at HA
  simp only [List.length_cons, List.length_nil, Nat.zero_add] at HA
  have HAA := Lib.hid HA
  have HW1 := Lib.hid hW1
  clear HA he e0 d0 hW1 ha hb
  go_enter Tryd.func39, Tryd.ntmps39
  go_wp2_with fail
  rw [← HW1.out]
  ((with_reducible refine HAA.out.mono ?_))
  rintro e2 w2 ⟨p2, c2, rfl, ho2, hb2⟩
  have hs2 := hs1.trans (hb2.mono hs1.size)
  rw [dig_one] at ho2 ⊢
  obtain ⟨W3, hW3⟩ : ∃ W3, W3 = (w2.alloc (.cells #[.bool false, .slice p2 1 c2, .int .i64 2] 25)).alloc (.cells #[.int .u32 1] 77) := ⟨_, rfl⟩
  have hs3 : Below w2.heap.size w2 W3 := by rw [hW3]; exact two_laid w2 _ _
  have B3 : Box3 W3 w2.heap.size (.bool false) (.slice p2 1 c2) (.int .i64 2) := by rw [hW3]; exact (box3_new w2 _ _ _ _).laid _
  have ho3 := ho2.past hs3
  have hl3 : Rd W3 .u32 (some ⟨w2.heap.size + 1, 0, none⟩) [1] := by
    have := (own_one (w2.alloc (.cells #[.bool false, .slice p2 1 c2, .int .i64 2] 25)) .u32 77 1 (by omega)).rd
    rw [hW3]; simpa using this
  have HD := Lib.hid dig_one
  have b0 := (box3_new w2 (.bool false) (.slice p2 1 c2) (.int .i64 2) 25).c0
  have HW3 := Lib.hid hW3
  clear hW3 HAA b0
  go_wp2_with fail
  rw [← HW3.out]
  ((with_reducible refine (refSameDyad_dec false false p2 (some ⟨w2.heap.size + 1, 0, none⟩) _ c2 _ 1 2 2 1 1 _ (by rw [HD.out]; exact ho3.rd) (by rw [HD.out]; exact hl3) (by rw [HD.out]; simp) (by rw [HD.out]; simp) (by rw [HD.out]; simp) (by rw [HD.out]; simp)).mono ?_))
  rintro e4 w4 ⟨rfl, hb4⟩
  go_wp2
  go_ret
  exact ⟨by simp, (hs2.trans (hs3.mono hs2.size)).trans (hb4.mono (Nat.le_trans hs2.size hs3.size))⟩

end Go.Proofs.YtkooikgplpamlaaDoor
