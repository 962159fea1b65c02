/- Decimal digits, four by four, and what is stripped of them: plain arithmetic. No program is in sight here. -/
import Derived.Test.YtmhobjpfpagfaaaNum3
namespace Go.Slip

/-- Decimal digits, the lowest first, as bytes in the order in which they are read. -/
def Txt (D : List Nat) : List Nat := D.reverse.map (· + 48)

theorem Txt_snoc (D : List Nat) (x : Nat) : Txt (D ++ [x]) = (x + 48) :: Txt D := by simp [Txt]
theorem Txt_length (D : List Nat) : (Txt D).length = D.length := by simp [Txt]

theorem dg_Txt {D : List Nat} {j : Nat} (h : j < D.length) : dg (Txt D) j = dg D (D.length - 1 - j) + 48 := by
  rw [dg_of_lt (by rw [Txt_length]; exact h), dg_of_lt (by omega)]
  simp [Txt]

/-- Within a group of four: d is what is left of it, A what is above it. -/
def GrpIn (N : Nat) (D : List Nat) (i d A : Nat) : Prop := (∀ x ∈ D, x < 10) ∧ d < 10 ^ (4 - i) ∧ N = val 10 D + 10 ^ D.length * (d + 10 ^ (4 - i) * A)
def GrpOut (N : Nat) (D : List Nat) (A : Nat) : Prop := (∀ x ∈ D, x < 10) ∧ N = val 10 D + 10 ^ D.length * A

theorem GrpOut.start (N : Nat) : GrpOut N [] N := ⟨by simp, by simp⟩

theorem GrpOut.enter {N : Nat} {D : List Nat} {A : Nat} (h : GrpOut N D A) : GrpIn N D 0 (A % 10000) (A / 10000) := by
  refine ⟨h.1, Nat.mod_lt _ (by omega), ?_⟩
  rw [h.2]
  congr 2
  have := Nat.mod_add_div A 10000
  show A = A % 10000 + 10000 * (A / 10000)
  omega

theorem GrpIn.step {N : Nat} {D : List Nat} {i d A : Nat} (h : GrpIn N D i d A) (hi : i < 4) : GrpIn N (D ++ [d % 10]) (i + 1) (d / 10) A := by
  obtain ⟨h1, h2, h3⟩ := h
  have e : 4 - i = 4 - (i + 1) + 1 := by omega
  rw [e, Nat.pow_succ] at h2 h3
  refine ⟨fun x hx => ?_, by omega, ?_⟩
  · rcases List.mem_append.1 hx with hx | hx
    · exact h1 x hx
    · simp at hx; omega
  · rw [h3, val_snoc, List.length_append, List.length_singleton, Nat.pow_succ]
    have := Nat.mod_add_div d 10
    generalize d % 10 = s at *
    generalize d / 10 = q at *
    subst this
    grind

theorem GrpIn.leave {N : Nat} {D : List Nat} {d A : Nat} (h : GrpIn N D 4 d A) : GrpOut N D A := by
  obtain ⟨h1, h2, h3⟩ := h
  have hd : d = 0 := by simpa using h2
  subst hd
  exact ⟨h1, by rw [h3]; simp⟩

theorem GrpOut.size {N : Nat} {D : List Nat} {A : Nat} (h : GrpOut N D A) (hA : 0 < A) : D.length ≤ 16 * (dig B16 N).length := by
  have h1 : 10 ^ D.length ≤ N := by
    rw [h.2]
    have := Nat.le_mul_of_pos_right (10 ^ D.length) hA
    omega
  have h2 := (dig_len_le B16_two N _).1 (Nat.le_refl _)
  have h3 : B16 ^ (dig B16 N).length = 2 ^ (16 * (dig B16 N).length) := by rw [Nat.pow_mul]; congr 1
  have h4 : 2 ^ D.length ≤ 10 ^ D.length := Nat.pow_le_pow_left (by omega) _
  have h5 : 2 ^ D.length < 2 ^ (16 * (dig B16 N).length) := by rw [← h3]; omega
  exact Nat.le_of_lt ((Nat.pow_lt_pow_iff_right (by omega)).1 h5)

/-- What is left when noughts ahead are passed over, but for the last digit. -/
theorem dec_strip (D : List Nat) (k : Nat) (hD : ∀ x ∈ D, x < 10) (hk : k < D.length) (hz : ∀ j, D.length - k ≤ j → dg D j = 0) (hs : k + 1 = D.length ∨ dg D (D.length - 1 - k) ≠ 0) :
    (Txt D).drop k = decOf (val 10 D) := by
  have hdrop : (Txt D).drop k = ((D.take (D.length - k)).reverse).map (· + 48) := by
    unfold Txt
    rw [← List.map_drop, List.reverse_take]
    congr 2
    omega
  rw [hdrop]
  unfold decOf
  by_cases h0 : dg D (D.length - 1 - k) = 0
  · have hk1 : k + 1 = D.length := by rcases hs with h | h; exact h; exact absurd h0 h
    have hall : ∀ j, 0 ≤ j → dg D j = 0 := fun j _ => by
      by_cases hj : j = 0
      · subst hj; rw [show D.length - 1 - k = 0 by omega] at h0; exact h0
      · exact hz j (by omega)
    have hv : val 10 D = 0 := by
      have := val_take_zeros 10 D 0 (by omega) hall
      simpa using this.symm
    rw [if_pos hv, show D.length - k = 0 + 1 by omega, List.take_succ_eq_append_getElem (show 0 < D.length by omega)]
    have h1 := hall 0 (by omega)
    rw [dg_of_lt (show 0 < D.length by omega)] at h1
    simp [h1]
  · have ht := take_dig (B := 10) (by omega) D (D.length - k) hD (by omega) hz (.inr (by rw [show D.length - k - 1 = D.length - 1 - k by omega]; exact h0))
    have hv : val 10 D ≠ 0 := by
      intro e
      rw [e, dig_zero] at ht
      have := congrArg List.length ht
      simp at this
      omega
    rw [if_neg hv, ht]

end Go.Slip
