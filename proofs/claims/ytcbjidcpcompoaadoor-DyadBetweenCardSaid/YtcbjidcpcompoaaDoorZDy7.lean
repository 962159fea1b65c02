/- What is cut down and what is cut up. Plain arithmetic. No program is in sight here. -/
import Derived.Test.YtcbjidcpcompoaaDoorZA
namespace Go.Slip

theorem rCut_small' {a : Dv} {b : Nat} (up : Bool) (h : blen a.m ≤ b) : rCut a b up = a := by unfold rCut; rw [if_pos h]

/-- The digits that a cut leaves, ahead of their being bared. -/
def cutQ (a : Dv) (n : Nat) (up : Bool) : Nat := a.m / 2 ^ n + (if a.m % 2 ^ n ≠ 0 ∧ up ≠ a.neg then 1 else 0)

theorem rCut_great {a : Dv} {b : Nat} (up : Bool) (h : b < blen a.m) : rCut a b up = norm (sg a.neg (cutQ a (blen a.m - b) up)) (a.e + ((blen a.m - b : Nat) : Int)) := by
  unfold rCut
  rw [if_neg (by omega), norm_sg]
  rfl

theorem norm_e0 (z : Int) {e : Int} (hz : z ≠ 0) : e ≤ (norm z e).e := by
  unfold norm bare ofZ
  simp only
  rw [if_neg (by omega)]
  simp only
  omega

theorem cutQ_pos {a : Dv} {b : Nat} (up : Bool) (hb : 0 < b) (h : b < blen a.m) : 0 < cutQ a (blen a.m - b) up := by
  unfold cutQ
  have h1 : ¬ blen a.m ≤ blen a.m - b := by omega
  rw [blen_le] at h1
  have h2 : 0 < a.m / 2 ^ (blen a.m - b) := Nat.div_pos (by omega) (Nat.pow_pos (by omega))
  omega

theorem sg_ne {g : Bool} {m : Nat} (h : 0 < m) : sg g m ≠ 0 := by unfold sg; cases g <;> simp <;> omega

theorem rCut_e {a : Dv} {b : Nat} (up : Bool) (hb : 0 < b) : a.e ≤ (rCut a b up).e := by
  by_cases h : blen a.m ≤ b
  · rw [rCut_small' up h]; exact Int.le_refl _
  · rw [rCut_great up (by omega)]
    have := norm_e0 _ (e := a.e + ((blen a.m - b : Nat) : Int)) (sg_ne (g := a.neg) (cutQ_pos up hb (show b < blen a.m by omega)))
    omega

theorem zOf_rCut {a : Dv} {b : Nat} (up : Bool) (h : b < blen a.m) : zOf (rCut a b up) a.e = sg a.neg (cutQ a (blen a.m - b) up) * 2 ^ (blen a.m - b) := by
  rw [rCut_great up h, zOf_norm _ (by omega)]
  congr 2
  omega

theorem zOf_self (a : Dv) : zOf a a.e = sg a.neg a.m := by unfold zOf; simp

/-- Both ways: what is below, what is above. -/
theorem cut_between {a : Dv} {b : Nat} (h : b < blen a.m) :
    zOf (rCut a b false) a.e ≤ zOf a a.e ∧ zOf a a.e ≤ zOf (rCut a b true) a.e ∧ (a.m % 2 ^ (blen a.m - b) ≠ 0 → zOf (rCut a b false) a.e < zOf (rCut a b true) a.e) := by
  rw [zOf_rCut _ h, zOf_rCut _ h, zOf_self]
  generalize blen a.m - b = n
  have hd := Nat.div_add_mod a.m (2 ^ n)
  have hl := Nat.mod_lt a.m (Nat.pow_pos (a := 2) (n := n) (by omega))
  have e1 : (2 : Int) ^ n = ((2 ^ n : Nat) : Int) := by simp
  rw [e1]
  unfold cutQ
  have key : ∀ (q P r m : Nat), P * q + r = m → r < P → (q : Int) * P ≤ m ∧ (m : Int) ≤ ((q + 1 : Nat) : Int) * P ∧ (q : Int) * P < ((q + 1 : Nat) : Int) * P ∧ (r = 0 → (q : Int) * P = m) := by
    intro q P r m h1 h2
    have h3 : (q : Int) * P = ((P * q : Nat) : Int) := by simp [Int.mul_comm]
    have h4 : ((q + 1 : Nat) : Int) * P = ((P * q + P : Nat) : Int) := by
      rw [← Int.natCast_mul]; congr 1; rw [Nat.add_mul, Nat.mul_comm q P]; omega
    rw [h3, h4]
    omega
  obtain ⟨k1, k2, k3, k4⟩ := key _ _ _ _ hd hl
  generalize a.m / 2 ^ n = q at *
  generalize a.m % 2 ^ n = r at *
  generalize ((2 ^ n : Nat) : Int) = P at *
  generalize a.neg = g
  by_cases h0 : r = 0
  · have h1 := k4 h0
    have c : ∀ up : Bool, (q + if r ≠ 0 ∧ up ≠ g then 1 else 0) = q := fun up => by rw [if_neg (by omega)]; rfl
    rw [c, c]
    cases g
    · simp only [sg, Bool.false_eq_true, if_false]; omega
    · simp only [sg, if_true, Int.neg_mul]; omega
  · cases g
    · have c1 : (q + if r ≠ 0 ∧ false ≠ false then 1 else 0) = q := by simp
      have c2 : (q + if r ≠ 0 ∧ true ≠ false then 1 else 0) = q + 1 := by simp [h0]
      rw [c1, c2]
      simp only [sg, Bool.false_eq_true, if_false]; omega
    · have c1 : (q + if r ≠ 0 ∧ false ≠ true then 1 else 0) = q + 1 := by simp [h0]
      have c2 : (q + if r ≠ 0 ∧ true ≠ true then 1 else 0) = q := by simp
      rw [c1, c2]
      simp only [sg, if_true, Int.neg_mul]; omega

theorem blen_bare (d : Dv) : blen (bare d).m ≤ blen d.m := dig_len_mono (by omega) (bare_m_le d)

/-- So few bits. -/
theorem cut_bits {a : Dv} {b : Nat} (up : Bool) (hb : 0 < b) : blen (rCut a b up).m ≤ b := by
  by_cases h : blen a.m ≤ b
  · rw [rCut_small' up h]; exact h
  · unfold rCut
    rw [if_neg h]
    have h1 : a.m / 2 ^ (blen a.m - b) < 2 ^ b := by
      have h2 := (blen_le a.m (blen a.m)).1 (Nat.le_refl _)
      rw [Nat.div_lt_iff_lt_mul (Nat.pow_pos (by omega)), ← Nat.pow_add]
      rw [show b + (blen a.m - b) = blen a.m by omega]; exact h2
    have ht : (if a.m % 2 ^ (blen a.m - b) ≠ 0 ∧ up ≠ a.neg then 1 else 0) ≤ 1 := by split <;> omega
    generalize (if a.m % 2 ^ (blen a.m - b) ≠ 0 ∧ up ≠ a.neg then 1 else 0) = t at *
    by_cases h3 : a.m / 2 ^ (blen a.m - b) + t < 2 ^ b
    · exact Nat.le_trans (blen_bare _) ((blen_le _ _).2 h3)
    · have h4 : a.m / 2 ^ (blen a.m - b) + t = 1 * 2 ^ b := by omega
      rw [h4, bare_shift]
      refine Nat.le_trans (blen_bare _) ?_
      exact (blen_le 1 b).2 (Nat.one_lt_two_pow (by omega))

/-- WHAT THE LAW SAYS of both. -/
theorem cut_law {a : Dv} (ha : Bare a) {b : Nat} (hb : 0 < b) :
    rCmp (rCut a b false) a ≤ 0 ∧ rCmp a (rCut a b true) ≤ 0 ∧ (rCut a b false = rCut a b true ↔ blen a.m ≤ b) := by
  by_cases h : blen a.m ≤ b
  · rw [rCut_small' _ h, rCut_small' _ h]
    have : rCmp a a = 0 := by rw [rCmp_zOf a a (Int.le_refl _) (Int.le_refl _)]; simp
    simp [this, h]
  · have h2 : b < blen a.m := by omega
    obtain ⟨k1, k2, k3⟩ := cut_between h2
    have h3 : a.m % 2 = 1 := by
      rcases ha with h1 | rfl
      · exact h1
      · rw [blen_zero] at h; omega
    have k4 := k3 (odd_mod h3 (by omega))
    refine ⟨?_, ?_, ?_⟩
    · rw [rCmp_zOf _ _ (rCut_e false hb) (Int.le_refl _)]
      rw [Int.sign_nonpos_iff]; omega
    · rw [rCmp_zOf _ _ (Int.le_refl _) (rCut_e true hb)]
      rw [Int.sign_nonpos_iff]; omega
    · constructor
      · intro he
        rw [he] at k4
        omega
      · intro h4; omega

end Go.Slip
