/- Numbers with a point as whole numbers at one exponent: sums and products in any order. Plain arithmetic. No program is in sight here. -/
import Derived.Test.YtcbjidcpcompoaaDoorDy
namespace Go.Slip

/-- The bare number that is z times 2 to the power of e. -/
def norm (z e : Int) : Dv := bare (ofZ z e)

theorem norm_bare (z e : Int) : Bare (norm z e) := bare_bare _

theorem norm_sg (g : Bool) (m : Nat) (e : Int) : norm (sg g m) e = bare ⟨g, m, e⟩ := by
  unfold norm ofZ
  by_cases h : m = 0
  · subst h
    have : sg g 0 = 0 := by unfold sg; cases g <;> rfl
    rw [this]; rfl
  · have h1 : (sg g m).natAbs = m := by unfold sg; cases g <;> simp
    have h2 : decide (sg g m < 0) = g := by unfold sg; cases g <;> simp <;> omega
    rw [h1, h2]

theorem sg_norm (z : Int) : sg (decide (z < 0)) z.natAbs = z := by
  unfold sg
  by_cases h : z < 0
  · simp [h]; omega
  · simp [h]; omega

theorem norm_shift (z : Int) (k : Nat) (e : Int) : norm (z * 2 ^ k) e = norm z (e + k) := by
  have h : z * 2 ^ k = sg (decide (z < 0)) (z.natAbs * 2 ^ k) := by
    rw [sg_mul, sg_norm]; simp
  rw [h, norm_sg, bare_shift]
  conv => rhs; rw [← sg_norm z]
  rw [norm_sg]

theorem norm_zero (e : Int) : norm 0 e = ⟨false, 0, 0⟩ := rfl

theorem norm_e (z : Int) {e : Int} (h : e ≤ 0) : e ≤ (norm z e).e := by
  unfold norm bare ofZ
  split
  · exact h
  · simp only; omega

theorem zOf_norm (z : Int) {e f : Int} (h : f ≤ e) : zOf (norm z e) f = z * 2 ^ (e - f).toNat := by
  by_cases h0 : z = 0
  · subst h0; rw [norm_zero]; simp [zOf, sg]
  · have hp : 0 < z.natAbs := by omega
    obtain ⟨s1, _⟩ := tz_spec z.natAbs hp
    unfold norm bare ofZ zOf
    rw [if_neg (by simp only; omega)]
    simp only
    have e1 : (e + (tz z.natAbs : Int) - f).toNat = tz z.natAbs + (e - f).toNat := by omega
    rw [e1, Nat.pow_add, ← Nat.mul_assoc, Nat.mul_comm (z.natAbs / _), s1, sg_mul, sg_norm]
    simp

theorem norm_zOf {d : Dv} (hd : Bare d) {e : Int} (h : e ≤ d.e) : norm (zOf d e) e = d := by
  unfold zOf
  rw [sg_mul]
  have := norm_shift (sg d.neg d.m) (d.e - e).toNat e
  simp only [Int.natCast_pow] at this ⊢
  rw [show ((2 : Nat) : Int) = 2 from rfl, this, show e + ((d.e - e).toNat : Int) = d.e by omega, norm_sg]
  exact bare_of hd

theorem zOf_inj {a b : Dv} (ha : Bare a) (hb : Bare b) {e : Int} (h1 : e ≤ a.e) (h2 : e ≤ b.e) (h : zOf a e = zOf b e) : a = b := by
  rw [← norm_zOf ha h1, ← norm_zOf hb h2, h]

theorem sg_lower (g : Bool) (m : Nat) {x E e : Int} (h : m = 0 ∨ E ≤ x) (he : e ≤ E) : sg g (m * 2 ^ (x - E).toNat) * 2 ^ (E - e).toNat = sg g (m * 2 ^ (x - e).toNat) := by
  rcases h with h | h
  · subst h; simp [sg]
  · have : (x - e).toNat = (x - E).toNat + (E - e).toNat := by omega
    rw [this, Nat.pow_add, ← Nat.mul_assoc, sg_mul g (m * 2 ^ (x - E).toNat)]
    simp

theorem rPlus_norm (a b : Dv) {e : Int} (h1 : e ≤ a.e) (h2 : e ≤ b.e) : rPlus a b = norm (zOf a e + zOf b e) e := by
  unfold rPlus
  rw [bare_join]
  have hE : e ≤ plusE a b := by unfold plusE; split; exact h1; split; exact h2; omega
  have ha : a.m = 0 ∨ plusE a b ≤ a.e := by
    unfold plusE
    by_cases hb0 : b.m = 0
    · rw [if_pos hb0]; exact .inr (by omega)
    · rw [if_neg hb0]
      by_cases ha0 : a.m = 0
      · exact .inl ha0
      · rw [if_neg ha0]; exact .inr (by omega)
  have hb : b.m = 0 ∨ plusE a b ≤ b.e := by
    unfold plusE
    by_cases hb0 : b.m = 0
    · exact .inl hb0
    · rw [if_neg hb0]
      by_cases ha0 : a.m = 0
      · rw [if_pos ha0]; exact .inr (by omega)
      · rw [if_neg ha0]; exact .inr (by omega)
  show norm _ _ = _
  generalize plusE a b = E at *
  have e1 : E = e + ((E - e).toNat : Int) := by omega
  have := norm_shift (sg a.neg (a.m * 2 ^ (a.e - E).toNat) + sg b.neg (b.m * 2 ^ (b.e - E).toNat)) (E - e).toNat e
  rw [← e1] at this
  rw [← this, Int.add_mul, sg_lower _ _ ha hE, sg_lower _ _ hb hE]
  rfl

theorem rPlus_comm (a b : Dv) : rPlus a b = rPlus b a := by
  rw [rPlus_norm a b (e := min a.e b.e) (by omega) (by omega), rPlus_norm b a (e := min a.e b.e) (by omega) (by omega), Int.add_comm]

theorem zOf_rPlus (a b : Dv) {e : Int} (h1 : e ≤ a.e) (h2 : e ≤ b.e) : zOf (rPlus a b) e = zOf a e + zOf b e := by
  rw [rPlus_norm a b h1 h2, zOf_norm _ (Int.le_refl _)]; simp

theorem rPlus_e (a b : Dv) {e : Int} (h1 : e ≤ a.e) (h2 : e ≤ b.e) (h0 : e ≤ 0) : e ≤ (rPlus a b).e := by
  rw [rPlus_norm a b h1 h2]; exact norm_e _ h0

theorem rPlus_assoc (a b c : Dv) : rPlus (rPlus a b) c = rPlus a (rPlus b c) := by
  obtain ⟨e, h0, h1, h2, h3⟩ : ∃ e : Int, e ≤ 0 ∧ e ≤ a.e ∧ e ≤ b.e ∧ e ≤ c.e := ⟨min 0 (min a.e (min b.e c.e)), by omega, by omega, by omega, by omega⟩
  rw [rPlus_norm _ c (rPlus_e a b h1 h2 h0) h3, zOf_rPlus a b h1 h2, rPlus_norm a _ h1 (rPlus_e b c h2 h3 h0), zOf_rPlus b c h2 h3, Int.add_assoc]

theorem sg_xor (g h : Bool) (x y : Nat) : sg g x * sg h y = sg (xor g h) (x * y) := by
  unfold sg
  cases g <;> cases h <;> simp [Int.neg_mul, Int.mul_neg]

theorem dTimes_norm (a b : Dv) {e f : Int} (h1 : e ≤ a.e) (h2 : f ≤ b.e) : dTimes a b = norm (zOf a e * zOf b f) (e + f) := by
  unfold dTimes zOf
  rw [sg_xor, show a.m * 2 ^ (a.e - e).toNat * (b.m * 2 ^ (b.e - f).toNat) = (a.m * b.m) * 2 ^ ((a.e - e).toNat + (b.e - f).toNat) by rw [Nat.pow_add]; grind, sg_mul]
  have := norm_shift (sg (xor a.neg b.neg) (a.m * b.m)) ((a.e - e).toNat + (b.e - f).toNat) (e + f)
  simp only [Int.natCast_pow] at this ⊢
  rw [show ((2 : Nat) : Int) = 2 from rfl, this, norm_sg]
  congr 2
  omega

theorem zOf_dTimes (a b : Dv) {e f : Int} (h1 : e ≤ a.e) (h2 : f ≤ b.e) : zOf (dTimes a b) (e + f) = zOf a e * zOf b f := by
  rw [dTimes_norm a b h1 h2, zOf_norm _ (Int.le_refl _)]; simp

theorem dTimes_comm (a b : Dv) : dTimes a b = dTimes b a := by
  rw [dTimes_norm a b (Int.le_refl _) (Int.le_refl _), dTimes_norm b a (Int.le_refl _) (Int.le_refl _), Int.mul_comm, Int.add_comm]

theorem dTimes_spread (a b c : Dv) : dTimes (rPlus a b) c = rPlus (dTimes a c) (dTimes b c) := by
  obtain ⟨e, h0, h1, h2⟩ : ∃ e : Int, e ≤ 0 ∧ e ≤ a.e ∧ e ≤ b.e := ⟨min 0 (min a.e b.e), by omega, by omega, by omega⟩
  obtain ⟨f, f0, f1⟩ : ∃ f : Int, f ≤ 0 ∧ f ≤ c.e := ⟨min 0 c.e, by omega, by omega⟩
  have g1 : e + f ≤ (dTimes a c).e := by rw [dTimes_norm a c h1 f1]; exact norm_e _ (by omega)
  have g2 : e + f ≤ (dTimes b c).e := by rw [dTimes_norm b c h2 f1]; exact norm_e _ (by omega)
  rw [rPlus_norm _ _ g1 g2, zOf_dTimes a c h1 f1, zOf_dTimes b c h2 f1, dTimes_norm _ c (rPlus_e a b h1 h2 h0) f1, zOf_rPlus a b h1 h2, Int.add_mul]

/-- The comparison is that of the whole numbers. -/
theorem zOf_dMinus (a : Dv) (e : Int) : zOf (dMinus a) e = - zOf a e := by
  unfold zOf dMinus sg
  by_cases h : a.m = 0
  · simp [h]
  · have : 0 < a.m := by omega
    cases hn : a.neg <;> simp [this]

theorem rCmp_zOf (a b : Dv) {e : Int} (h1 : e ≤ a.e) (h2 : e ≤ b.e) : rCmp a b = Int.sign (zOf a e - zOf b e) := by
  unfold rCmp
  rw [rPlus_norm a (dMinus b) h1 (show e ≤ (dMinus b).e from h2), zOf_dMinus]
  unfold norm
  rw [dSign_bare, ← Int.sub_eq_add_neg]

end Go.Slip
