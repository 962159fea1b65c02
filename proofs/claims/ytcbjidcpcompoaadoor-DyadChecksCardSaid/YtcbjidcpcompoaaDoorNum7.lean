/- Long division: the trial digit. Plain arithmetic. No program is in sight here. -/
import Derived.Test.YtcbjidcpcompoaaDoorNum4
namespace Go.Slip

/-- What the upper digits say of a number: W of n + 1 digits, V of n digits (n = m + 2). -/
theorem trial_ge {B P V W top two q : Nat} (hV : top * (B * P) ≤ V) (hW : W < (two + 1) * (B * P)) (hq : q * V ≤ W) : q * top ≤ two := by
  have h1 : q * (top * (B * P)) ≤ q * V := Nat.mul_le_mul_left q hV
  have h2 : (q * top) * (B * P) < (two + 1) * (B * P) := by rw [Nat.mul_assoc]; omega
  have h3 := Nat.lt_of_mul_lt_mul_right h2
  omega

theorem trial_down {B P V W top next two w0 r t q : Nat} (hV : (top * B + next) * P ≤ V) (hW : W < (two * B + w0 + 1) * P) (hq : q * V ≤ W) (ht : t * top + r = two) (hc : r * B + w0 < t * next) : q ≠ t := by
  rintro rfl
  have h1 : q * ((top * B + next) * P) ≤ q * V := Nat.mul_le_mul_left q hV
  have h2 : (q * (top * B + next)) * P < (two * B + w0 + 1) * P := by rw [Nat.mul_assoc]; omega
  have h3 := Nat.lt_of_mul_lt_mul_right h2
  subst ht
  grind

theorem trial_le {B P V W top next two w0 r t q : Nat} (hV : V < (top * B + next + 1) * P) (hW : (two * B + w0) * P ≤ W) (hq : W < (q + 1) * V) (ht : t * top + r = two) (hc : t * next ≤ r * B + w0) (hp : t * P ≤ V) : t ≤ q + 1 := by
  have h1 : t * V ≤ t * ((top * B + next + 1) * P) := Nat.mul_le_mul_left t (Nat.le_of_lt hV)
  have h2 : t * (top * B + next) ≤ two * B + w0 := by subst ht; grind
  have h3 : (t * (top * B + next)) * P ≤ (two * B + w0) * P := Nat.mul_le_mul_right P h2
  have h4 : t * V ≤ W + V := by
    have e : t * ((top * B + next + 1) * P) = (t * (top * B + next)) * P + t * P := by grind
    omega
  have h5 : t * V < (q + 2) * V := by
    have e : (q + 2) * V = (q + 1) * V + V := by grind
    omega
  have := Nat.lt_of_mul_lt_mul_right h5
  omega


/-! ### t times a number is taken from a window of a row -/
def WinOut (L X : List Nat) (j i : Nat) : Prop := (∀ x ∈ L, x < B32) ∧ L.length = X.length ∧ ∀ k, k < j ∨ j + i ≤ k → dg L k = dg X k

theorem WinOut.refl {X : List Nat} (h : ∀ x ∈ X, x < B32) (j : Nat) : WinOut X X j 0 := ⟨h, rfl, fun _ _ => rfl⟩

theorem WinOut.step {L X : List Nat} {j i v : Nat} (h : WinOut L X j i) (hv : v < B32) : WinOut (L.set (j + i) v) X j (i + 1) := by
  obtain ⟨h1, h2, h3⟩ := h
  refine ⟨set_lt L h1 _ _ hv, by simpa using h2, fun k hk => ?_⟩
  rw [dg_set_ne (by omega)]
  exact h3 k (by omega)

def LessW (L X ys : List Nat) (j t i cr br : Nat) : Prop :=
  WinOut L X j i ∧ val B32 (L.take (j + i)) + B32 ^ j * (t * val B32 (ys.take i)) = val B32 (X.take (j + i)) + (cr + br) * B32 ^ (j + i)

theorem take_eq_of {L X : List Nat} {j : Nat} (hl : L.length = X.length) (h : ∀ k, k < j → dg L k = dg X k) : L.take j = X.take j := by
  apply list_ext_dg
  · simp [hl]
  · intro k hk
    simp only [List.length_take] at hk
    rw [dg_take (by omega), dg_take (by omega)]
    exact h k (by omega)

theorem LessW.start {X : List Nat} (h : ∀ x ∈ X, x < B32) (ys : List Nat) (j t : Nat) : LessW X X ys j t 0 0 0 := ⟨WinOut.refl h j, by simp⟩

theorem subD_eq (x y br : Nat) (hx : x < 4294967296) (hy : y < 4294967296) (hb : br ≤ 1) : subD x y br + y + br = x + B32 * subB x y br := by
  unfold subD subB B32; split <;> omega

theorem LessW.step {L X ys : List Nat} {j t i cr br : Nat} (h : LessW L X ys j t i cr br) (hj : j + i < X.length) (hX : dg X (j + i) < 4294967296) (hb : br ≤ 1) (p : Nat) (hp : p = dg ys i * t + cr) :
    LessW (L.set (j + i) (subD (dg L (j + i)) (p % 4294967296) br)) X ys j t (i + 1) (p / 4294967296) (subB (dg L (j + i)) (p % 4294967296) br) := by
  obtain ⟨h1, h2⟩ := h
  have hx : dg L (j + i) = dg X (j + i) := h1.2.2 _ (.inr (Nat.le_refl _))
  rw [hx]
  refine ⟨h1.step (Nat.mod_lt _ (by omega)), ?_⟩
  have e1 := subD_eq (dg X (j + i)) (p % 4294967296) br hX (Nat.mod_lt _ (by omega)) hb
  have e2 := Nat.div_add_mod p 4294967296
  rw [show j + (i + 1) = j + i + 1 by omega, val_take_succ, take_set_same, dg_set_same (by rw [h1.2.1]; exact hj), val_take_succ, val_take_succ, Nat.pow_succ]
  rw [show (4294967296 : Nat) = B32 from rfl] at *
  generalize subD (dg X (j + i)) (p % B32) br = d at *
  generalize subB (dg X (j + i)) (p % B32) br = b at *
  generalize p % B32 = pl at *
  generalize p / B32 = ph at *
  generalize dg X (j + i) = x at *
  generalize val B32 (L.take (j + i)) = vl at *
  generalize val B32 (X.take (j + i)) = vx at *
  generalize val B32 (ys.take i) = vy at *
  have e3 : B32 ^ (j + i) = B32 ^ j * B32 ^ i := Nat.pow_add _ _ _
  rw [e3] at h2 ⊢
  clear e3
  generalize B32 ^ j = P at *
  generalize B32 ^ i = Q at *
  subst hp
  have e4 : P * Q * (d + pl + br) = P * Q * (x + B32 * b) := by rw [e1]
  have e5 : P * Q * (B32 * ph + pl) = P * Q * (dg ys i * t + cr) := by rw [e2]
  grind

/-- The last digit of the window: what was carried and what is owed are taken from it. -/
theorem LessW.last {L X ys : List Nat} {j t cr br : Nat} (h : LessW L X ys j t ys.length cr br) (hj : j + ys.length < X.length) (hX : dg X (j + ys.length) < 4294967296) (hb : br ≤ 1) (hc : cr < 4294967296) :
    WinOut (L.set (j + ys.length) (subD (dg L (j + ys.length)) cr br)) X j (ys.length + 1) ∧
      val B32 (L.set (j + ys.length) (subD (dg L (j + ys.length)) cr br)) + B32 ^ j * (t * val B32 ys) = val B32 X + subB (dg L (j + ys.length)) cr br * B32 ^ (j + ys.length + 1) := by
  obtain ⟨h1, h2⟩ := h
  have hx : dg L (j + ys.length) = dg X (j + ys.length) := h1.2.2 _ (.inr (Nat.le_refl _))
  have hw := h1.step (v := subD (dg L (j + ys.length)) cr br) (Nat.mod_lt _ (by omega))
  refine ⟨hw, ?_⟩
  have e1 := subD_eq (dg X (j + ys.length)) cr br hX hc hb
  rw [List.take_length] at h2
  rw [hx] at hw ⊢
  have hd : (L.set (j + ys.length) (subD (dg X (j + ys.length)) cr br)).drop (j + ys.length + 1) = X.drop (j + ys.length + 1) := by
    apply list_ext_dg
    · simp [h1.2.1]
    · intro k hk
      rw [dg_drop, dg_drop]
      exact hw.2.2 _ (.inr (by omega))
  rw [val_take_drop B32 _ (j + ys.length + 1) (by rw [hw.2.1]; omega), val_take_drop B32 X (j + ys.length + 1) (by omega), hd]
  rw [val_take_succ, take_set_same, dg_set_same (by rw [h1.2.1]; exact hj), val_take_succ]
  generalize subD (dg X (j + ys.length)) cr br = d at *
  generalize subB (dg X (j + ys.length)) cr br = b at *
  generalize dg X (j + ys.length) = x at *
  generalize val B32 (X.drop (j + ys.length + 1)) = u at *
  generalize val B32 (L.take (j + ys.length)) = vl at *
  generalize val B32 (X.take (j + ys.length)) = vx at *
  rw [Nat.pow_succ]
  generalize B32 ^ (j + ys.length) = P at *
  have e4 : P * (d + cr + br) = P * (x + B32 * b) := by rw [e1]
  grind

/-! ### a number is added to a window of a row -/
def MoreW (L X ys : List Nat) (j i cr : Nat) : Prop :=
  WinOut L X j i ∧ val B32 (L.take (j + i)) + cr * B32 ^ (j + i) = val B32 (X.take (j + i)) + B32 ^ j * val B32 (ys.take i)

theorem MoreW.start {X : List Nat} (h : ∀ x ∈ X, x < B32) (ys : List Nat) (j : Nat) : MoreW X X ys j 0 0 := ⟨WinOut.refl h j, by simp⟩

theorem MoreW.step {L X ys : List Nat} {j i cr : Nat} (h : MoreW L X ys j i cr) (hj : j + i < X.length) (t : Nat) (ht : t = dg L (j + i) + dg ys i + cr) :
    MoreW (L.set (j + i) (t % 4294967296)) X ys j (i + 1) (t / 4294967296) := by
  obtain ⟨h1, h2⟩ := h
  have hx : dg L (j + i) = dg X (j + i) := h1.2.2 _ (.inr (Nat.le_refl _))
  rw [hx] at ht
  refine ⟨h1.step (Nat.mod_lt _ (by omega)), ?_⟩
  have e2 := Nat.div_add_mod t 4294967296
  rw [show j + (i + 1) = j + i + 1 by omega, val_take_succ, take_set_same, dg_set_same (by rw [h1.2.1]; exact hj), val_take_succ, val_take_succ, Nat.pow_succ]
  rw [show (4294967296 : Nat) = B32 from rfl] at *
  generalize t % B32 = pl at *
  generalize t / B32 = ph at *
  generalize dg X (j + i) = x at *
  generalize val B32 (L.take (j + i)) = vl at *
  generalize val B32 (X.take (j + i)) = vx at *
  generalize val B32 (ys.take i) = vy at *
  have e3 : B32 ^ (j + i) = B32 ^ j * B32 ^ i := Nat.pow_add _ _ _
  rw [e3] at h2 ⊢
  clear e3
  generalize B32 ^ j = P at *
  generalize B32 ^ i = Q at *
  subst ht
  have e5 : P * Q * (B32 * ph + pl) = P * Q * (x + dg ys i + cr) := by rw [e2]
  grind

end Go.Slip
