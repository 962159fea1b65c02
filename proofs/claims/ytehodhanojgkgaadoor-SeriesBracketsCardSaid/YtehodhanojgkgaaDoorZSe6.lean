/- What a ball and the reference's number have in common. Plain arithmetic. No program is in sight here. -/
import Derived.Test.YtehodhanojgkgaaDoorZSe5
namespace Go.Slip

theorem rCmp_swap' (a b : Dv) : rCmp b a = -rCmp a b := by
  have h1 : min a.e b.e ≤ a.e := by omega
  have h2 : min a.e b.e ≤ b.e := by omega
  rw [rCmp_zOf a b h1 h2, rCmp_zOf b a h2 h1, ← Int.sign_neg]
  congr 1
  omega

/-- What must be in any case. -/
theorem begun_pi {L H : Int} (B : BallOf Xpi 40 L H) : leD (norm 3 0) (norm L (-40)) ∧ rCmp (norm H (-40)) (norm 4 0) < 0 := by
  have hn := num_pi
  simp only [Bool.and_eq_true, decide_eq_true_eq] at hn
  obtain ⟨⟨-, h3⟩, h4⟩ := hn
  obtain ⟨h1, h2⟩ := B.ct 1200 (by omega)
  have hw := B.wide
  have e1 : Pw 1200 = 2 ^ 40 * 2 ^ (1200 - 40) := pw_split (by omega)
  have e2 : Pw 1190 = 2 ^ 30 * 2 ^ (1200 - 40) := pw_split (n := 1190) (p := 30) (by omega)
  rw [e1, e2] at h3 h4
  have hp : (0 : Int) < 2 ^ (1200 - 40) := Int.pow_pos (by omega)
  generalize Xpi 1200 = X at *
  generalize (2 : Int) ^ (1200 - 40) = S at *
  have g1 : 3 * (2 ^ 40 * S) + 2 ^ 30 * S = (3 * 2 ^ 40 + 2 ^ 30) * S := by grind
  have g2 : (3 * 2 ^ 40 + 2 ^ 30 : Int) ≤ H := Int.le_of_mul_le_mul_right (by rw [← g1]; omega) hp
  have g3 : L * S ≤ (4 * 2 ^ 40 - 2 ^ 30) * S := by
    have : (4 * 2 ^ 40 - 2 ^ 30) * S = 4 * (2 ^ 40 * S) - 2 ^ 30 * S := by grind
    omega
  have g4 : L ≤ (4 * 2 ^ 40 - 2 ^ 30 : Int) := Int.le_of_mul_le_mul_right g3 hp
  constructor
  · rw [leD_norm (-40) (by omega) (by omega), show ((0 : Int) - -40).toNat = 40 by omega, show ((-40 : Int) - -40).toNat = 0 by omega]
    omega
  · have : ¬ leD (norm 4 0) (norm H (-40)) := by
      rw [leD_norm (-40) (by omega) (by omega), show ((0 : Int) - -40).toNat = 40 by omega, show ((-40 : Int) - -40).toNat = 0 by omega]
      omega
    rw [not_leD] at this
    have h := rCmp_swap' (norm 4 0) (norm H (-40))
    omega
theorem begun_ln {L H : Int} (B : BallOf Xln 40 L H) : 0 < L := by
  have hn := num_ln
  simp only [Bool.and_eq_true, decide_eq_true_eq] at hn
  obtain ⟨-, h3⟩ := hn
  obtain ⟨h1, h2⟩ := B.ct 1200 (by omega)
  have hw := B.wide
  have e1 : Pw 1199 = 2 ^ 39 * 2 ^ (1200 - 40) := pw_split (n := 1199) (p := 39) (by omega)
  rw [e1] at h3
  have hp : (0 : Int) < 2 ^ (1200 - 40) := Int.pow_pos (by omega)
  generalize Xln 1200 = X at *
  generalize (2 : Int) ^ (1200 - 40) = S at *
  have g2 : (2 ^ 39 : Int) ≤ H := Int.le_of_mul_le_mul_right (by omega) hp
  omega

end Go.Slip
