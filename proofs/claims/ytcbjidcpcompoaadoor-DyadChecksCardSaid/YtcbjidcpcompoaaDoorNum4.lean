/- Shifts: plain arithmetic of digit lists. No program is in sight here. -/
import Derived.Test.YtcbjidcpcompoaaDoorNum3
namespace Go.Slip

theorem val_dvd {B p : Nat} (hp : B % p = 0) (xs : List Nat) : val B xs % p = dg xs 0 % p := by
  cases xs with
  | nil => simp [dg]
  | cons x xs =>
    have : dg (x :: xs) 0 = x := by simp [dg]
    rw [this, val_cons]
    obtain ⟨q, rfl⟩ := Nat.dvd_of_mod_eq_zero hp
    rw [Nat.mul_assoc, Nat.add_mul_mod_self_left]

theorem div_split (B p x V : Nat) (hp : 0 < p) (hB : B % p = 0) : (x + B * V) / p = x / p + V % p * (B / p) + B * (V / p) := by
  obtain ⟨q, rfl⟩ := Nat.dvd_of_mod_eq_zero hB
  rw [Nat.mul_div_cancel_left _ hp, Nat.mul_assoc, Nat.add_mul_div_left _ _ hp]
  have h := Nat.mod_add_div V p
  generalize V % p = r at *
  generalize V / p = s at *
  subst h
  grind

/-- One step of a division by a power of 2: the digit. -/
theorem shr_step {B p : Nat} (hp : 0 < p) (hB : B % p = 0) (Y : List Nat) (i : Nat) (hi : i < Y.length) :
    val B (Y.drop i) / p = (dg Y i / p + dg Y (i + 1) % p * (B / p)) + B * (val B (Y.drop (i + 1)) / p) := by
  rw [val_drop B Y i hi, div_split B p _ _ hp hB, val_dvd hB]
  have : dg (Y.drop (i + 1)) 0 = dg Y (i + 1) := by rw [dg_drop]
  rw [this]

theorem shr_lt {B p x y : Nat} (hp : 0 < p) (hB : B % p = 0) (hx : x < B) : x / p + y % p * (B / p) < B := by
  obtain ⟨q, rfl⟩ := Nat.dvd_of_mod_eq_zero hB
  rw [Nat.mul_div_cancel_left _ hp]
  have h1 : x / p < q := by rw [Nat.div_lt_iff_lt_mul hp, Nat.mul_comm]; exact hx
  have h2 : y % p + 1 ≤ p := Nat.mod_lt _ hp
  have h3 := Nat.mul_le_mul_right q h2
  rw [Nat.add_mul, Nat.one_mul] at h3
  omega

/-- In the midst of a shift to the right in place. -/
def ShrRel (B p : Nat) (L Y : List Nat) (i : Nat) : Prop :=
  (∀ x ∈ L, x < B) ∧ L.length = Y.length ∧ (∀ j, i ≤ j → dg L j = dg Y j) ∧ val B (L.take i) + B ^ i * (val B (Y.drop i) / p) = val B Y / p

theorem ShrRel.start {B p : Nat} {Y : List Nat} (h : ∀ x ∈ Y, x < B) : ShrRel B p Y Y 0 := ⟨h, rfl, fun _ _ => rfl, by simp⟩

theorem take_set_same (L : List Nat) (i v : Nat) : (L.set i v).take i = L.take i := by
  apply List.ext_getElem?
  intro j
  rw [List.getElem?_take, List.getElem?_take]
  by_cases h : j < i
  · rw [if_pos h, if_pos h, List.getElem?_set_ne (by omega)]
  · rw [if_neg h, if_neg h]

theorem ShrRel.step {B p : Nat} {L Y : List Nat} {i : Nat} (h : ShrRel B p L Y i) (hp : 0 < p) (hB : B % p = 0) (hY : ∀ x ∈ Y, x < B) (hi : i < Y.length) (v : Nat) (hv : v = dg Y i / p + dg Y (i + 1) % p * (B / p)) : ShrRel B p (L.set i v) Y (i + 1) := by
  obtain ⟨h1, h2, h3, h4⟩ := h
  have hx : dg Y i < B := by rw [dg_of_lt hi]; exact hY _ (List.getElem_mem hi)
  refine ⟨set_lt L h1 i v (by rw [hv]; exact shr_lt hp hB hx), by simpa using h2, fun j hj => ?_, ?_⟩
  · rw [dg_set_ne (by omega)]; exact h3 j (by omega)
  · rw [val_take_succ, take_set_same, dg_set_same (by omega), ← h4, shr_step hp hB Y i hi, ← hv, Nat.pow_succ]
    grind

theorem ShrRel.done {B p : Nat} {L Y : List Nat} (h : ShrRel B p L Y Y.length) : val B L = val B Y / p := by
  have h4 := h.2.2.2
  rw [← h.2.1] at h4
  rw [List.take_length, h.2.1, List.drop_length] at h4
  simpa using h4

/-- The same with a list that grows. -/
def DownRel (B p : Nat) (O Y : List Nat) (i : Nat) : Prop := (∀ x ∈ O, x < B) ∧ O.length = i ∧ val B O + B ^ i * (val B (Y.drop i) / p) = val B Y / p

theorem DownRel.start (B p : Nat) (Y : List Nat) : DownRel B p [] Y 0 := ⟨by simp, rfl, by simp⟩

theorem DownRel.step {B p : Nat} {O Y : List Nat} {i : Nat} (h : DownRel B p O Y i) (hp : 0 < p) (hB : B % p = 0) (hY : ∀ x ∈ Y, x < B) (hi : i < Y.length) (v : Nat) (hv : v = dg Y i / p + dg Y (i + 1) % p * (B / p)) : DownRel B p (O ++ [v]) Y (i + 1) := by
  obtain ⟨h1, h2, h4⟩ := h
  have hx : dg Y i < B := by rw [dg_of_lt hi]; exact hY _ (List.getElem_mem hi)
  refine ⟨fun x hm => ?_, by simp [h2], ?_⟩
  · rcases List.mem_append.1 hm with hm | hm
    · exact h1 x hm
    · simp at hm; rw [hm, hv]; exact shr_lt hp hB hx
  · rw [val_snoc, h2, ← h4, shr_step hp hB Y i hi, ← hv, Nat.pow_succ]
    grind

theorem DownRel.done {B p : Nat} {O Y : List Nat} (h : DownRel B p O Y Y.length) : val B O = val B Y / p := by
  have h4 := h.2.2
  rw [List.drop_length] at h4
  simpa using h4

theorem val_drop_div {B : Nat} (hB : 0 < B) (xs : List Nat) (hx : ∀ x ∈ xs, x < B) (k : Nat) : val B (xs.drop k) = val B xs / B ^ k := by
  by_cases hk : k ≤ xs.length
  · rw [val_take_drop B xs k hk]
    have := val_take_lt xs hx k hk
    rw [Nat.add_mul_div_left _ _ (Nat.pow_pos hB), Nat.div_eq_of_lt this, Nat.zero_add]
  · rw [List.drop_of_length_le (by omega), val_nil]
    have h1 := val_lt B xs hx
    have h2 : B ^ xs.length ≤ B ^ k := Nat.pow_le_pow_right hB (by omega)
    rw [Nat.div_eq_of_lt (by omega)]

theorem shift_split {B w : Nat} (hB : B = 2 ^ w) (a N : Nat) : a / B ^ (N / w) / 2 ^ (N % w) = a / 2 ^ N := by
  rw [Nat.div_div_eq_div_mul, hB, ← Nat.pow_mul, ← Nat.pow_add, Nat.div_add_mod]

theorem pow_mod_zero {w s : Nat} (h : s ≤ w) : 2 ^ w % 2 ^ s = 0 := Nat.mod_eq_zero_of_dvd (Nat.pow_dvd_pow 2 h)

theorem div_of_big {B w : Nat} (hB : B = 2 ^ w) (h2 : 2 ≤ B) (a N : Nat) (h : (dig B a).length ≤ N / w) : a / 2 ^ N = 0 := by
  have h1 := (dig_len_le h2 a _).1 h
  rw [hB, ← Nat.pow_mul] at h1
  have h3 : 2 ^ (w * (N / w)) ≤ 2 ^ N := Nat.pow_le_pow_right (by omega) (Nat.mul_div_le N w)
  exact Nat.div_eq_of_lt (by omega)

/-! ### To the left -/
def ShlRel (B k p : Nat) (O xs : List Nat) (i cr : Nat) : Prop := (∀ x ∈ O, x < B) ∧ O.length = k + i ∧ cr < p ∧ val B O + cr * B ^ (k + i) = B ^ k * (val B (xs.take i) * p)

theorem ShlRel.start {B k p : Nat} (hB : 0 < B) (hp : 0 < p) (xs : List Nat) : ShlRel B k p (List.replicate k 0) xs 0 0 :=
  ⟨fun x h => by rw [(List.mem_replicate.1 h).2]; exact hB, by simp, hp, by simp [val_replicate]⟩

theorem ShlRel.step {B k p : Nat} {O xs : List Nat} {i cr : Nat} (h : ShlRel B k p O xs i cr) (hx : dg xs i < B) (t : Nat) (ht : t = dg xs i * p + cr) : ShlRel B k p (O ++ [t % B]) xs (i + 1) (t / B) := by
  obtain ⟨h1, h2, h3, h4⟩ := h
  have hB : 0 < B := by omega
  refine ⟨fun x hm => ?_, by simp [h2]; omega, ?_, ?_⟩
  · rcases List.mem_append.1 hm with hm | hm
    · exact h1 x hm
    · simp at hm; rw [hm]; exact Nat.mod_lt _ hB
  · rw [Nat.div_lt_iff_lt_mul hB, ht]
    have := Nat.mul_le_mul_right p (show dg xs i + 1 ≤ B from hx)
    rw [Nat.add_mul, Nat.one_mul] at this
    rw [Nat.mul_comm p B]; omega
  · rw [val_snoc, h2, val_take_succ, ← Nat.add_assoc, Nat.pow_succ]
    have h5 := Nat.div_add_mod t B
    generalize t / B = q at *
    generalize t % B = r at *
    have e : B ^ (k + i) * (B * q + r) = B ^ (k + i) * (dg xs i * p + cr) := by rw [h5, ht]
    have e2 : B ^ (k + i) = B ^ k * B ^ i := Nat.pow_add _ _ _
    rw [e2] at *
    grind

theorem ShlRel.done {B k p : Nat} {O xs : List Nat} {cr a : Nat} (h : ShlRel B k p O xs xs.length cr) (hp : p ≤ B) (hx : val B xs = a) : (∀ x ∈ O ++ [cr], x < B) ∧ val B (O ++ [cr]) = a * (B ^ k * p) := by
  obtain ⟨h1, h2, h3, h4⟩ := h
  refine ⟨fun x hm => ?_, ?_⟩
  · rcases List.mem_append.1 hm with hm | hm
    · exact h1 x hm
    · simp at hm; omega
  · rw [val_snoc, h2, Nat.mul_comm (B ^ _) cr, h4, List.take_length, hx]
    grind

theorem shl_split {B w : Nat} (hB : B = 2 ^ w) (N : Nat) : B ^ (N / w) * 2 ^ (N % w) = 2 ^ N := by
  rw [hB, ← Nat.pow_mul, ← Nat.pow_add, Nat.div_add_mod]

theorem pow2_dig {B w : Nat} (hB : B = 2 ^ w) (hw : 0 < w) (N : Nat) : (List.replicate (N / w + 1) 0).set (N / w) (2 ^ (N % w)) = dig B (2 ^ N) := by
  have h2 : 2 ≤ B := by rw [hB]; calc 2 = 2 ^ 1 := rfl
                              _ ≤ 2 ^ w := Nat.pow_le_pow_right (by omega) hw
  have hd : 2 ^ (N % w) < B := by rw [hB]; exact (Nat.pow_lt_pow_iff_right (by omega)).2 (Nat.mod_lt _ hw)
  have hv := val_set B (List.replicate (N / w + 1) 0) (N / w) (2 ^ (N % w)) (by simp)
  rw [dg_replicate, val_replicate, shl_split hB N] at hv
  have hx : ∀ x ∈ (List.replicate (N / w + 1) 0).set (N / w) (2 ^ (N % w)), x < B := set_lt _ (fun x h => by rw [(List.mem_replicate.1 h).2]; omega) _ _ hd
  refine dig_eq h2 _ _ hx (tight_of_ge _ hx (.inr ?_)) (by omega)
  rw [List.length_set, List.length_replicate, Nat.add_sub_cancel]
  have := shl_split hB N
  have h3 := Nat.le_mul_of_pos_right (B ^ (N / w)) (show 0 < 2 ^ (N % w) from Nat.pow_pos (by omega))
  omega

end Go.Slip
