/- The laws' 'dyadBegun'. -/
import Derived.Test.YtlegnbigddhmlaaDoorZLawD0
import Derived.Test.YtlegnbigddhmlaaDoorZF
namespace Go.Proofs.YtlegnbigddhmlaaDoor
open Go.RowKit Go.Slip

theorem dig_one : dig B32 1 = [1] := by rw [dig_pos B32_two (by omega)]; simp [B32, dig_zero]

theorem begun_sum : pPlus ⟨false, 1, 0⟩ ⟨false, 3, 0⟩ = ⟨false, 1, 2⟩ := by
  have h1 : pPlus ⟨false, 1, 0⟩ ⟨false, 3, 0⟩ = bare ⟨false, 1 * 2 ^ 2, 0⟩ := rfl
  rw [h1, bare_shift]
  exact bare_of (.inl rfl)

theorem lit_in (w : World) (k : Nat) (hk : 0 < k) (hk2 : k < 4294967296) : InD (w.alloc (.cells #[.int .u32 (k : Int)] 46)) ⟨false, some ⟨w.heap.size, 0, none⟩, 1, [k], 0⟩ := by
  have h := (own_one w .u32 46 (k : Int) (by omega)).rd
  simp only [Int.toNat_natCast] at h
  exact ⟨h, by simp, by simp, by intro x hx; simp at hx; subst hx; exact hk2⟩

theorem lit_ok (k : Nat) (p : Option Addr) (hk : 0 < k) : errDy ⟨false, p, 1, [k], 0⟩ = 0 := by
  unfold errDy
  have h : errNat [k] = 0 := by
    unfold errNat
    rw [if_neg, if_neg (by simp)]
    rintro ⟨_, h2⟩
    simp [dg] at h2
    omega
  simp [h]

theorem lit_v (k : Nat) (p : Option Addr) (hk : k % 2 = 1) : dyV ⟨false, p, 1, [k], 0⟩ = ⟨false, k, 0⟩ := by
  unfold dyV
  simp only [val_cons, val_nil, Nat.mul_zero, Nat.add_zero]
  exact bare_of (.inl hk)

end Go.Proofs.YtlegnbigddhmlaaDoor
