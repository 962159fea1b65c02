/- Balls times whole numbers, and sums, as calls on balls make them. Plain arithmetic. No program is in sight here. -/
import Derived.Test.YtehodhanojgkgaaDoorZSe6
import Derived.Test.YtehodhanojgkgaaDoorZJ
namespace Go.Slip

theorem ct_mul {X : Nat → Int} {w : Nat} {l h f L H : Int} (c : Ct w X l h) (h1 : L ≤ min (l * f) (h * f)) (h2 : max (l * f) (h * f) ≤ H) : Ct w (fun P => X P * f) L H := by
  intro P hP
  obtain ⟨a, b⟩ := c P hP
  have hp : (0 : Int) ≤ 2 ^ (P - w) := Int.le_of_lt (Int.pow_pos (by omega))
  have m1 := Int.mul_le_mul_of_nonneg_right h1 hp
  have m2 := Int.mul_le_mul_of_nonneg_right h2 hp
  generalize (2 : Int) ^ (P - w) = S at *
  rcases Int.le_total 0 f with hf | hf
  · have a2 := Int.mul_le_mul_of_nonneg_right a hf
    have b2 := Int.mul_le_mul_of_nonneg_right b hf
    have m3 := Int.mul_le_mul_of_nonneg_right (Int.min_le_left (l * f) (h * f)) hp
    have m4 := Int.mul_le_mul_of_nonneg_right (Int.le_max_right (l * f) (h * f)) hp
    have e1 : l * f * S = l * S * f := by grind
    have e2 : h * f * S = h * S * f := by grind
    show L * S ≤ X P * f ∧ X P * f ≤ H * S
    omega
  · have a2 := Int.mul_le_mul_of_nonpos_right a hf
    have b2 := Int.mul_le_mul_of_nonpos_right b hf
    have m3 := Int.mul_le_mul_of_nonneg_right (Int.min_le_right (l * f) (h * f)) hp
    have m4 := Int.mul_le_mul_of_nonneg_right (Int.le_max_left (l * f) (h * f)) hp
    have e1 : l * f * S = l * S * f := by grind
    have e2 : h * f * S = h * S * f := by grind
    show L * S ≤ X P * f ∧ X P * f ≤ H * S
    omega
theorem ct_add {X Y : Nat → Int} {w : Nat} {l h l' h' L H : Int} (c : Ct w X l h) (c' : Ct w Y l' h') (h1 : L ≤ l + l') (h2 : h + h' ≤ H) : Ct w (fun P => X P + Y P) L H := by
  intro P hP
  obtain ⟨a, b⟩ := c P hP
  obtain ⟨a', b'⟩ := c' P hP
  have hp : (0 : Int) ≤ 2 ^ (P - w) := Int.le_of_lt (Int.pow_pos (by omega))
  have m1 := Int.mul_le_mul_of_nonneg_right h1 hp
  have m2 := Int.mul_le_mul_of_nonneg_right h2 hp
  rw [Int.add_mul] at m1 m2
  show L * 2 ^ (P - w) ≤ X P + Y P ∧ X P + Y P ≤ H * 2 ^ (P - w)
  omega
theorem meet_ct {X Y : Nat → Int} (hXY : ∀ P, X P = Y P) {w w' : Nat} {L H L' H' : Int} (B : Ct w X L H) (B' : Ct w' Y L' H') : leD (norm L (-w)) (norm H' (-w')) := by
  have h1 := (B (w + w') (by omega)).1
  have h2 := (B' (w + w') (by omega)).2
  rw [hXY] at h1
  rw [leD_norm (-((w + w' : Nat) : Int)) (by omega) (by omega), show (-(w : Int) - -((w + w' : Nat) : Int)).toNat = w + w' - w by omega, show (-(w' : Int) - -((w + w' : Nat) : Int)).toNat = w + w' - w' by omega]
  omega
theorem meet_ct' {X Y : Nat → Int} (hXY : ∀ P, X P = Y P) {w w' : Nat} {L H L' H' : Int} (B : Ct w X L H) (B' : Ct w' Y L' H') : leD (norm L' (-w')) (norm H (-w)) :=
  meet_ct (fun P => (hXY P).symm) B' B

/-- What a product's call leaves. -/
structure MSpec (w : Nat) (l h f L H : Int) : Prop where
  a : L ≤ min (l * f) (h * f)
  b : min (l * f) (h * f) - L ≤ 131072
  c : max (l * f) (h * f) ≤ H
  d : H - max (l * f) (h * f) ≤ 131072
structure ASpec (w : Nat) (l h l' h' L H : Int) : Prop where
  a : L ≤ l + l'
  b : l + l' - L ≤ 262144
  c : h + h' ≤ H
  d : H - (h + h') ≤ 262144

/-- Bounds of what a product leaves, of one that is less than 3 by 2 to the power of w. -/
theorem an_bd {t : Bool} {n w : Nat} {L H : Int} (hn : 2 ≤ n) (hw : 20 ≤ w) (B : BallOf (An t n) w L H) : L.natAbs ≤ 3 * 2 ^ w ∧ H.natAbs ≤ 3 * 2 ^ w ∧ L ≤ H ∧ 1048576 ≤ 2 ^ w := by
  obtain ⟨c1, c2⟩ := B.ct w (Nat.le_refl _)
  rw [Nat.sub_self, Int.pow_zero, Int.mul_one] at c1 c2
  have hw2 := B.wide
  obtain ⟨s1, s2⟩ := sI_bd t (P := w) hn (w + 1)
  have e := pow_z w
  have h3 : (2 : Nat) ^ 20 ≤ 2 ^ w := Nat.pow_le_pow_right (by omega) hw
  unfold An at c1 c2
  omega

theorem m_small {w : Nat} {l h f L H : Int} (hw : w ≤ 1100) (hl : l.natAbs ≤ 3 * 2 ^ w) (hh : h.natAbs ≤ 3 * 2 ^ w) (h1 : 1048576 ≤ 2 ^ w) (hf : f.natAbs ≤ 16) (s : MSpec w l h f L H) : L.natAbs ≤ 49 * 2 ^ w ∧ H.natAbs ≤ 49 * 2 ^ w ∧ L ≤ H := by
  obtain ⟨a, b, c, d⟩ := s
  have m1 : (l * f).natAbs ≤ 48 * 2 ^ w := by rw [Int.natAbs_mul]; have := Nat.mul_le_mul hl hf; omega
  have m2 : (h * f).natAbs ≤ 48 * 2 ^ w := by rw [Int.natAbs_mul]; have := Nat.mul_le_mul hh hf; omega
  omega
theorem a_small {w : Nat} {l h l' h' L H : Int} (g1 : l.natAbs ≤ 49 * 2 ^ w) (g2 : h.natAbs ≤ 49 * 2 ^ w) (g3 : l'.natAbs ≤ 49 * 2 ^ w) (g4 : h'.natAbs ≤ 49 * 2 ^ w) (h1 : 1048576 ≤ 2 ^ w) (s : ASpec w l h l' h' L H) : L.natAbs ≤ 99 * 2 ^ w ∧ H.natAbs ≤ 99 * 2 ^ w := by
  obtain ⟨a, b, c, d⟩ := s
  omega
theorem small_mul {z : Int} {w k : Nat} (hw : w ≤ 1100) (hk : k ≤ 100) (h : z.natAbs ≤ k * 2 ^ w) : Small z ∧ z.natAbs < 2 ^ (w + 7) := by
  have h1 : k * 2 ^ w ≤ 100 * 2 ^ w := Nat.mul_le_mul_right _ hk
  have h2 : 0 < 2 ^ w := Nat.pow_pos (by omega)
  have h3 : z.natAbs < 2 ^ (w + 7) := by rw [pow_seven]; omega
  exact ⟨small_of h3 (by omega), h3⟩

end Go.Slip
