/- To how many bits are two numbers the same? Plain arithmetic. No program is in sight here. -/
import Derived.Test.YtehodhanojgkgaaDoorZA
namespace Go.Slip

/-- Cut towards nothing. -/
def trD (x : Dv) (k : Nat) : Dv := rCut x k x.neg
theorem trD_eq (x : Dv) (k : Nat) : trD x k = if blen x.m ≤ k then x else bare ⟨x.neg, x.m / 2 ^ (blen x.m - k), x.e + ((blen x.m - k : Nat) : Int)⟩ := by
  unfold trD rCut
  split
  · rfl
  · rw [if_neg (by simp)]; rfl
theorem trD_bare {x : Dv} (h : Bare x) (k : Nat) : Bare (trD x k) := rCut_bare h _ _

/-- The uppermost bit stays where it is. -/
theorem trD_top {x : Dv} (h0 : 0 < x.m) {k : Nat} (hk : 1 ≤ k) : topD (trD x k) = topD x ∧ (trD x k).neg = x.neg ∧ 0 < (trD x k).m := by
  rw [trD_eq]
  by_cases h : blen x.m ≤ k
  · rw [if_pos h]; exact ⟨rfl, rfl, h0⟩
  · rw [if_neg h]
    obtain ⟨n, hn⟩ : ∃ n, blen x.m - k = n := ⟨_, rfl⟩
    rw [hn]
    have hp := blen_pow x.m h0
    have hpn : 0 < 2 ^ n := Nat.pow_pos (by omega)
    have hq : 0 < x.m / 2 ^ n := Nat.div_pos (Nat.le_trans (Nat.pow_le_pow_right (by omega) (by omega)) hp) hpn
    have hbl : blen (x.m / 2 ^ n) = blen x.m - n := by
      have h1 : x.m < 2 ^ (blen x.m) := (blen_le _ _).1 (Nat.le_refl _)
      have e1 : blen x.m = (blen x.m - n - 1) + 1 + n := by omega
      have e2 : blen x.m - 1 = (blen x.m - n - 1) + n := by omega
      rw [e2, Nat.pow_add] at hp
      have h2 : 2 ^ (blen x.m) = 2 ^ ((blen x.m - n - 1) + 1) * 2 ^ n := by rw [← Nat.pow_add]; congr 1
      rw [h2] at h1
      have := blen_eq ((Nat.le_div_iff_mul_le hpn).2 hp) ((Nat.div_lt_iff_lt_mul hpn).2 h1)
      omega
    have hz := bare_pos (g := x.neg) (e := x.e + (n : Int)) hq
    obtain ⟨s1, s2⟩ := tz_spec (x.m / 2 ^ n) hq
    rw [hz]
    generalize x.m / 2 ^ n = q at *
    have hq2 : 0 < q / 2 ^ tz q := by
      generalize q / 2 ^ tz q = r at *
      rcases Nat.eq_zero_or_pos r with h | h
      · rw [h] at s2; simp at s2
      · exact h
    have hs := blen_shift hq2 (tz q)
    rw [Nat.mul_comm, s1] at hs
    refine ⟨?_, rfl, hq2⟩
    unfold topD
    simp only
    omega

/-- Cut to one bit, it is known by where that lies. -/
theorem trD_one {x : Dv} (hB : Bare x) (h0 : 0 < x.m) : trD x 1 = ⟨x.neg, 1, topD x - 1⟩ := by
  obtain ⟨h1, h2, h3⟩ := trD_top h0 (Nat.le_refl 1)
  have hb := trD_bare hB 1
  have hm : (trD x 1).m = 1 := by
    rw [trD_eq]
    by_cases h : blen x.m ≤ 1
    · rw [if_pos h]
      have := (blen_le _ _).1 h
      omega
    · rw [if_neg h]
      have hp := blen_pow x.m h0
      have h4 : x.m < 2 ^ (blen x.m) := (blen_le _ _).1 (Nat.le_refl _)
      have h5 : 2 ^ (blen x.m) = 2 ^ (blen x.m - 1) * 2 := by rw [← Nat.pow_succ]; congr 1; omega
      have h6 : x.m / 2 ^ (blen x.m - 1) = 1 := by
        rw [h5] at h4
        have hpn : 0 < 2 ^ (blen x.m - 1) := Nat.pow_pos (by omega)
        have a := (Nat.le_div_iff_mul_le (x := 1) (y := x.m) hpn).2 (by omega)
        have b := (Nat.div_lt_iff_lt_mul (x := x.m) (y := 2) hpn).2 (by omega)
        omega
      rw [h6, bare_of (d := ⟨x.neg, 1, x.e + ((blen x.m - 1 : Nat) : Int)⟩) (.inl rfl)]
  have hb1 : blen 1 = 1 := by decide +kernel
  generalize trD x 1 = y at *
  obtain ⟨g, m, e⟩ := y
  simp only at hm h2
  subst hm h2
  unfold topD at h1 ⊢
  simp only [hb1] at h1
  congr 1
  omega

theorem trD_mono {l h : Dv} (bl : Bare l) (bh : Bare h) (l0 : 0 < l.m) (h0 : 0 < h.m) {n : Nat} (hn : 1 ≤ n) (e : trD l n = trD h n) : trD l 1 = trD h 1 := by
  obtain ⟨a1, a2, _⟩ := trD_top l0 hn
  obtain ⟨b1, b2, _⟩ := trD_top h0 hn
  rw [trD_one bl l0, trD_one bh h0, ← a1, ← a2, ← b1, ← b2, e]

/-- Whether they are the same to so many bits, of so many at most. -/
def SameTo (l h : Dv) (B k : Nat) : Prop := k ≤ B ∧ trD l k = trD h k
/-- What the search finds. -/
def FoundD (l h : Dv) (B n : Nat) : Prop := (n = 0 ∨ SameTo l h B n) ∧ ¬ SameTo l h B (n + 1)

theorem rCmp_eq0 {a b : Dv} (ha : Bare a) (hb : Bare b) : rCmp a b = 0 ↔ a = b := by
  constructor
  · intro h
    refine leD_antisymm ha hb (by unfold leD; omega) ?_
    have h1 : min a.e b.e ≤ a.e := by omega
    have h2 : min a.e b.e ≤ b.e := by omega
    rw [leD_iff h2 h1]
    rw [rCmp_zOf a b h1 h2, Int.sign_eq_zero_iff_zero] at h
    omega
  · rintro rfl
    rw [rCmp_zOf a a (Int.le_refl _) (Int.le_refl _)]; simp

/-- The references look at what is above 0. -/
theorem trD_minus {x : Dv} (h0 : 0 < x.m) (k : Nat) : rCut (dMinus x) k (dMinus x).neg = dMinus (trD x k) ∨ k = 0 := by
  rcases Nat.eq_zero_or_pos k with hk | hk
  · exact .inr hk
  · left
    obtain ⟨_, t2, t3⟩ := trD_top h0 hk
    have e1 := trD_eq (dMinus x) k
    have e2 := trD_eq x k
    have hm : (dMinus x).m = x.m := rfl
    have he : (dMinus x).e = x.e := rfl
    have hn : (dMinus x).neg = !x.neg := by unfold dMinus; simp [h0]
    show trD (dMinus x) k = _
    rw [e1, hm, he, hn, e2]
    by_cases h : blen x.m ≤ k
    · rw [if_pos h, if_pos h]
    · rw [if_neg h, if_neg h]
      rw [e2, if_neg h] at t3
      have hq : 0 < x.m / 2 ^ (blen x.m - k) := by
        rcases Nat.eq_zero_or_pos (x.m / 2 ^ (blen x.m - k)) with h1 | h1
        · rw [h1] at t3; simp [bare] at t3
        · exact h1
      rw [bare_pos hq, bare_pos hq]
      rw [bare_pos hq] at t3
      simp only at t3
      unfold dMinus
      simp [t3]

end Go.Slip
