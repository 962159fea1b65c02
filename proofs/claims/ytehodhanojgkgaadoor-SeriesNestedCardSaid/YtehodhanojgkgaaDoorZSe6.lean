/- What a ball and the reference's number have in common. Plain arithmetic. No program is in sight here. -/
import Derived.Test.YtehodhanojgkgaaDoorZSe5
namespace Go.Slip

theorem near_of {x y : Int} (h : near20 x y = true) : x - y ≤ 1048576 ∧ y - x ≤ 1048576 := by
  unfold near20 at h
  simp only [Bool.and_eq_true, decide_eq_true_eq] at h
  exact h
/-- The natural number that an approximation is, over 2 to the power of p. -/
def Near (m : Nat) (p : Nat) (X : Int) : Prop := ((m : Int) - 1099511627776) * 2 ^ (1200 - p) ≤ X ∧ X ≤ ((m : Int) + 1099511627776) * 2 ^ (1200 - p)

theorem pw_bd {p : Nat} (h1 : 110 ≤ p) (h2 : p ≤ 1100) : (1073741824 : Int) ≤ 2 ^ (1200 - p) ∧ (1073741824 : Int) ≤ 2 ^ p := by
  have a : (2 : Nat) ^ 30 ≤ 2 ^ (1200 - p) := Nat.pow_le_pow_right (by omega) (by omega)
  have b : (2 : Nat) ^ 30 ≤ 2 ^ p := Nat.pow_le_pow_right (by omega) (by omega)
  have a1 := pow_z (1200 - p)
  have b1 := pow_z p
  omega

theorem sN_an {n p : Nat} (hn : 2 ≤ n) : (sN n p (p + 1) : Int) = An true n p := sN_z hn (p + 1)

theorem ref_pi {p : Nat} (h1 : 110 ≤ p) (h2 : p ≤ 1100) : sN 239 p (p + 1) * 20 ≤ sN 18 p (p + 1) * 48 + sN 57 p (p + 1) * 32 ∧ Near (sN 18 p (p + 1) * 48 + sN 57 p (p + 1) * 32 - sN 239 p (p + 1) * 20) p (Xpi 1200) := by
  obtain ⟨u, v⟩ := pw_bd h1 h2
  obtain ⟨a1, a2⟩ := an_near true (show 2 ≤ 18 by omega) (show p ≤ 1200 by omega)
  obtain ⟨b1, b2⟩ := an_near true (show 2 ≤ 57 by omega) (show p ≤ 1200 by omega)
  obtain ⟨c1, c2⟩ := an_near true (show 2 ≤ 239 by omega) (show p ≤ 1200 by omega)
  have hn := num_pi
  simp only [Bool.and_eq_true, decide_eq_true_eq] at hn
  obtain ⟨⟨hq, h3⟩, h4⟩ := hn
  obtain ⟨q1, q2⟩ := near_of hq
  have e1 := sN_an (n := 18) (p := p) (by omega)
  have e2 := sN_an (n := 57) (p := p) (by omega)
  have e3 := sN_an (n := 239) (p := p) (by omega)
  have hs : Pw 1200 = 2 ^ p * 2 ^ (1200 - p) := pw_split (by omega)
  have hk : (0 : Int) ≤ Pw 1190 := Int.le_of_lt (Int.pow_pos (by omega))
  unfold Rpi at q1 q2
  unfold Near
  generalize Xpi 1200 = X at *
  generalize An true 18 1200 = A at *
  generalize An true 57 1200 = B at *
  generalize An true 239 1200 = C at *
  rw [hs] at h3
  generalize Pw 1190 = k at *
  generalize (2 : Int) ^ (1200 - p) = S at *
  generalize (2 : Int) ^ p = T at *
  generalize An true 18 p = a at *
  generalize An true 57 p = b at *
  generalize An true 239 p = c at *
  generalize sN 18 p (p + 1) = a' at *
  generalize sN 57 p (p + 1) = b' at *
  generalize sN 239 p (p + 1) = c' at *
  subst e1 e2 e3
  have f1 : ((a' : Int) - (p + 3)) * S = a' * S - (p + 3) * S := by grind
  have f2 : ((a' : Int) + (p + 3)) * S = a' * S + (p + 3) * S := by grind
  have f3 : ((b' : Int) - (p + 3)) * S = b' * S - (p + 3) * S := by grind
  have f4 : ((b' : Int) + (p + 3)) * S = b' * S + (p + 3) * S := by grind
  have f5 : ((c' : Int) - (p + 3)) * S = c' * S - (p + 3) * S := by grind
  have f6 : ((c' : Int) + (p + 3)) * S = c' * S + (p + 3) * S := by grind
  rw [f1] at a1
  rw [f2] at a2
  rw [f3] at b1
  rw [f4] at b2
  rw [f5] at c1
  rw [f6] at c2
  have hp3 : ((p : Int) + 3) * S ≤ 1103 * S := Int.mul_le_mul_of_nonneg_right (by omega) (by omega)
  have hTS : 1000000 * S ≤ T * S := Int.mul_le_mul_of_nonneg_right (by omega) (by omega)
  have hle : c' * 20 ≤ a' * 48 + b' * 32 := by
    rcases Nat.lt_or_ge (a' * 48 + b' * 32) (c' * 20) with h | h
    · exfalso
      have h5 : ((a' : Int) * 48 + b' * 32) * S ≤ (c' * 20) * S := Int.mul_le_mul_of_nonneg_right (by omega) (by omega)
      have h6 : ((a' : Int) * 48 + b' * 32) * S = a' * S * 48 + b' * S * 32 := by grind
      have h7 : ((c' : Int) * 20) * S = c' * S * 20 := by grind
      rw [h6, h7] at h5
      have h8 : 3 * (T * S) = 3 * T * S := by grind
      have h9 : 3 * (T * S) + k ≤ X := h3
      omega
    · exact h
  refine ⟨hle, ?_⟩
  have hc : ((a' * 48 + b' * 32 - c' * 20 : Nat) : Int) = a' * 48 + b' * 32 - c' * 20 := by omega
  rw [hc]
  have g1 : ((a' : Int) * 48 + b' * 32 - c' * 20 - 1099511627776) * S = a' * S * 48 + b' * S * 32 - c' * S * 20 - 1099511627776 * S := by grind
  have g2 : ((a' : Int) * 48 + b' * 32 - c' * 20 + 1099511627776) * S = a' * S * 48 + b' * S * 32 - c' * S * 20 + 1099511627776 * S := by grind
  rw [g1, g2]
  constructor <;> omega

theorem lsum_near {p P : Nat} (h : p ≤ P) : ∀ J, J ≤ p → 2 ^ (P - p) * lsum p J ≤ lsum P J ∧ lsum P J ≤ 2 ^ (P - p) * (lsum p J + J)
  | 0, _ => by simp [lsum]
  | J + 1, hJ => by
    obtain ⟨h1, h2⟩ := lsum_near h J (by omega)
    simp only [lsum]
    have hP : 2 ^ (P - (J + 1)) = 2 ^ (P - p) * 2 ^ (p - (J + 1)) := by rw [← Nat.pow_add]; congr 1; omega
    rw [hP]
    generalize 2 ^ (P - p) = s at *
    generalize 2 ^ (p - (J + 1)) = x
    have g1 : s * (x / (J + 1)) ≤ s * x / (J + 1) := by
      rw [Nat.le_div_iff_mul_le (by omega), Nat.mul_assoc]
      exact Nat.mul_le_mul_left _ (Nat.div_mul_le_self x (J + 1))
    have g2 : s * x / (J + 1) ≤ s * (x / (J + 1) + 1) := by
      have h1 : x ≤ (x / (J + 1) + 1) * (J + 1) := by
        have := Nat.lt_succ_self (x / (J + 1))
        exact Nat.le_of_lt ((Nat.div_lt_iff_lt_mul (by omega)).1 this)
      rw [← Nat.mul_div_cancel (s * (x / (J + 1) + 1)) (show 0 < J + 1 by omega)]
      exact Nat.div_le_div_right (by rw [Nat.mul_assoc]; exact Nat.mul_le_mul_left _ h1)
    have e1 : s * (lsum p J + x / (J + 1)) = s * lsum p J + s * (x / (J + 1)) := Nat.mul_add _ _ _
    have e2 : s * (lsum p J + x / (J + 1) + (J + 1)) = s * (lsum p J + J) + s * (x / (J + 1) + 1) := by grind
    omega
theorem lsum_tail {p P : Nat} (h : p ≤ P) : ∀ I, p + I ≤ P → lsum P p ≤ lsum P (p + I) ∧ lsum P (p + I) + 2 ^ (P - (p + I)) ≤ lsum P p + 2 ^ (P - p)
  | 0, _ => by simp
  | I + 1, hI => by
    obtain ⟨h1, h2⟩ := lsum_tail h I (by omega)
    rw [← Nat.add_assoc]
    simp only [lsum]
    have h3 : 2 ^ (P - (p + I)) = 2 ^ (P - (p + I + 1)) * 2 := by rw [← Nat.pow_succ]; congr 1; omega
    have h4 := Nat.div_le_self (2 ^ (P - (p + I + 1))) (p + I + 1)
    generalize 2 ^ (P - (p + I + 1)) / (p + I + 1) = q at *
    omega
theorem lsum_all {p P : Nat} (h : p ≤ P) : 2 ^ (P - p) * lsum p p ≤ lsum P P ∧ lsum P P ≤ 2 ^ (P - p) * (lsum p p + p + 1) := by
  obtain ⟨h1, h2⟩ := lsum_near h p (Nat.le_refl _)
  obtain ⟨h3, h4⟩ := lsum_tail h (P - p) (by omega)
  rw [show p + (P - p) = P by omega] at h3 h4
  have e : 2 ^ (P - p) * (lsum p p + p + 1) = 2 ^ (P - p) * (lsum p p + p) + 2 ^ (P - p) := by rw [Nat.mul_add _ (lsum p p + p) 1, Nat.mul_one]
  have : 0 < 2 ^ (P - P) := Nat.pow_pos (by omega)
  omega

theorem ref_ln {p : Nat} (h1 : 110 ≤ p) (h2 : p ≤ 1100) : Near (lsum p p) p (Xln 1200) := by
  obtain ⟨u, v⟩ := pw_bd h1 h2
  obtain ⟨a1, a2⟩ := lsum_all (show p ≤ 1200 by omega)
  have hn := num_ln
  simp only [Bool.and_eq_true, decide_eq_true_eq] at hn
  obtain ⟨hq, h3⟩ := hn
  obtain ⟨q1, q2⟩ := near_of hq
  have e := pow_z (1200 - p)
  unfold Near
  generalize Xln 1200 = X at *
  generalize lsum 1200 1200 = M at *
  generalize lsum p p = m at *
  have b1 : ((2 ^ (1200 - p) * m : Nat) : Int) ≤ M := by exact_mod_cast a1
  have b2 : (M : Int) ≤ ((2 ^ (1200 - p) * (m + p + 1) : Nat) : Int) := by exact_mod_cast a2
  rw [Int.natCast_mul, e] at b1 b2
  rw [show ((m + p + 1 : Nat) : Int) = m + (p + 1) by omega] at b2
  generalize (2 : Int) ^ (1200 - p) = S at *
  have g1 : ((m : Int) - 1099511627776) * S = S * m - 1099511627776 * S := by grind
  have g2 : ((m : Int) + 1099511627776) * S = S * m + 1099511627776 * S := by grind
  have g3 : S * ((m : Int) + (p + 1)) = S * m + (p + 1) * S := by grind
  have hp3 : ((p : Int) + 1) * S ≤ 1101 * S := Int.mul_le_mul_of_nonneg_right (by omega) (by omega)
  rw [g3] at b2
  rw [g1, g2]
  constructor <;> omega

theorem ref_sum (t : Bool) {n p : Nat} (hn : 2 ≤ n) (h1 : 110 ≤ p) (h2 : p ≤ 1100) : Near (An t n p).toNat p (An t n 1200) := by
  obtain ⟨u, v⟩ := pw_bd h1 h2
  obtain ⟨a1, a2⟩ := an_near t hn (show p ≤ 1200 by omega)
  have h0 : 0 ≤ An t n p := sI_pos t hn _
  unfold Near
  rw [Int.toNat_of_nonneg h0]
  have hp : (0 : Int) ≤ 2 ^ (1200 - p) := by omega
  have m1 := Int.mul_le_mul_of_nonneg_right (show An t n p - 1099511627776 ≤ An t n p - (p + 3) by omega) hp
  have m2 := Int.mul_le_mul_of_nonneg_right (show An t n p + (p + 3) ≤ An t n p + 1099511627776 by omega) hp
  omega

/-- WHAT THE LAW ASKS OF A BALL. -/
theorem bracket_ok {X : Nat → Int} {w p m : Nat} {L H : Int} (hw : w ≤ 1200) (hp : p ≤ 1200) (B : BallOf X w L H) (k : Near m p (X 1200)) :
    leD (norm L (-w)) (norm ((m : Int) + 1099511627776) (-p)) ∧ leD (norm ((m : Int) - 1099511627776) (-p)) (norm H (-w)) ∧ leD (norm L (-w)) (norm H (-w)) := by
  obtain ⟨h1, h2⟩ := B.ct 1200 hw
  obtain ⟨k1, k2⟩ := k
  refine ⟨?_, ?_, ?_⟩
  · rw [leD_norm (-1200) (by omega) (by omega), show (-(w : Int) - -1200).toNat = 1200 - w by omega, show (-(p : Int) - -1200).toNat = 1200 - p by omega]
    omega
  · rw [leD_norm (-1200) (by omega) (by omega), show (-(w : Int) - -1200).toNat = 1200 - w by omega, show (-(p : Int) - -1200).toNat = 1200 - p by omega]
    omega
  · rw [leD_same]
    have hp : (0 : Int) < 2 ^ (1200 - w) := Int.pow_pos (by omega)
    exact Int.le_of_mul_le_mul_right (Int.le_trans h1 h2) hp

theorem wide_ok {X : Nat → Int} {b : Nat} {L H : Int} (B : BallOf X (b + 20) L H) : leD (norm (H - L) (-(b + 20 : Nat))) (norm 1 (4 - b)) := by
  rw [leD_norm (-((b + 20 : Nat) : Int)) (by omega) (by omega), show (-((b + 20 : Nat) : Int) - -((b + 20 : Nat) : Int)).toNat = 0 by omega, show ((4 : Int) - b - -((b + 20 : Nat) : Int)).toNat = 24 by omega]
  have := B.wide
  omega

/-- Two balls of one number have something in common. -/
theorem meet_ok {X : Nat → Int} {w w' : Nat} {L H L' H' : Int} (B : BallOf X w L H) (B' : BallOf X w' L' H') : leD (norm L (-w)) (norm H' (-w')) := by
  have h1 := (B.ct (w + w') (by omega)).1
  have h2 := (B'.ct (w + w') (by omega)).2
  rw [leD_norm (-((w + w' : Nat) : Int)) (by omega) (by omega), show (-(w : Int) - -((w + w' : Nat) : Int)).toNat = w + w' - w by omega, show (-(w' : Int) - -((w + w' : Nat) : Int)).toNat = w + w' - w' by omega]
  omega

theorem rCmp_swap' (a b : Dv) : rCmp b a = -rCmp a b := by
  have h1 : min a.e b.e ≤ a.e := by omega
  have h2 : min a.e b.e ≤ b.e := by omega
  rw [rCmp_zOf a b h1 h2, rCmp_zOf b a h2 h1, ← Int.sign_neg]
  congr 1
  omega

/-- What must be in any case. -/
theorem begun_pi {L H : Int} (B : BallOf Xpi 40 L H) : leD (norm 3 0) (norm L (-40)) ∧ rCmp (norm H (-40)) (norm 4 0) < 0 := by
  have hn := num_pi
  simp only [Bool.and_eq_true, decide_eq_true_eq] at hn
  obtain ⟨⟨-, h3⟩, h4⟩ := hn
  obtain ⟨h1, h2⟩ := B.ct 1200 (by omega)
  have hw := B.wide
  have e1 : Pw 1200 = 2 ^ 40 * 2 ^ (1200 - 40) := pw_split (by omega)
  have e2 : Pw 1190 = 2 ^ 30 * 2 ^ (1200 - 40) := pw_split (n := 1190) (p := 30) (by omega)
  rw [e1, e2] at h3 h4
  have hp : (0 : Int) < 2 ^ (1200 - 40) := Int.pow_pos (by omega)
  generalize Xpi 1200 = X at *
  generalize (2 : Int) ^ (1200 - 40) = S at *
  have g1 : 3 * (2 ^ 40 * S) + 2 ^ 30 * S = (3 * 2 ^ 40 + 2 ^ 30) * S := by grind
  have g2 : (3 * 2 ^ 40 + 2 ^ 30 : Int) ≤ H := Int.le_of_mul_le_mul_right (by rw [← g1]; omega) hp
  have g3 : L * S ≤ (4 * 2 ^ 40 - 2 ^ 30) * S := by
    have : (4 * 2 ^ 40 - 2 ^ 30) * S = 4 * (2 ^ 40 * S) - 2 ^ 30 * S := by grind
    omega
  have g4 : L ≤ (4 * 2 ^ 40 - 2 ^ 30 : Int) := Int.le_of_mul_le_mul_right g3 hp
  constructor
  · rw [leD_norm (-40) (by omega) (by omega), show ((0 : Int) - -40).toNat = 40 by omega, show ((-40 : Int) - -40).toNat = 0 by omega]
    omega
  · have : ¬ leD (norm 4 0) (norm H (-40)) := by
      rw [leD_norm (-40) (by omega) (by omega), show ((0 : Int) - -40).toNat = 40 by omega, show ((-40 : Int) - -40).toNat = 0 by omega]
      omega
    rw [not_leD] at this
    have h := rCmp_swap' (norm 4 0) (norm H (-40))
    omega
theorem begun_ln {L H : Int} (B : BallOf Xln 40 L H) : 0 < L := by
  have hn := num_ln
  simp only [Bool.and_eq_true, decide_eq_true_eq] at hn
  obtain ⟨-, h3⟩ := hn
  obtain ⟨h1, h2⟩ := B.ct 1200 (by omega)
  have hw := B.wide
  have e1 : Pw 1199 = 2 ^ 39 * 2 ^ (1200 - 40) := pw_split (n := 1199) (p := 39) (by omega)
  rw [e1] at h3
  have hp : (0 : Int) < 2 ^ (1200 - 40) := Int.pow_pos (by omega)
  generalize Xln 1200 = X at *
  generalize (2 : Int) ^ (1200 - 40) = S at *
  have g2 : (2 ^ 39 : Int) ≤ H := Int.le_of_mul_le_mul_right (by omega) hp
  omega

end Go.Slip
