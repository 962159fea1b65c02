/- Plain arithmetic of digit lists: what a list of digits to a base stands for, and the one list without noughts behind that stands for a number. No program is in sight here.
   More plain arithmetic of digit lists: sums, differences, comparisons.
   Comparisons, lengths in bits, differences: plain arithmetic of digit lists. No program is in sight here.
   Shifts: plain arithmetic of digit lists. No program is in sight here.
   Decimal digits, four by four, and what is stripped of them: plain arithmetic. No program is in sight here.
   A product and a sum in place; the number that decimal digits make: plain arithmetic. No program is in sight here.
   Long division: the trial digit. Plain arithmetic. No program is in sight here.
   Long division: what each round knows, and what comes of it. Plain arithmetic. No program is in sight here.
   The references' division, its digits found by counting down; powers, and roots by means. Plain arithmetic. No program is in sight here.
   Numbers with a point: what each call on them comes to, as plain arithmetic. No program is in sight here.
   Quotients and roots with a sticky bit, cut to so many bits: they don't hang on how far one reckoned. Plain arithmetic. No program is in sight here.
   Noughts behind a list of digits. Plain arithmetic. No program is in sight here.
   How long and how far off a bare number is. Plain arithmetic. No program is in sight here.
   Numbers with a point as whole numbers at one exponent: sums and products in any order. Plain arithmetic. No program is in sight here.
   Noughts behind a list of digits to the base of 65536. Plain arithmetic. No program is in sight here.
   What is cut down and what is cut up. Plain arithmetic. No program is in sight here.
   Balls: the least and the greatest of some numbers; what is told of two ends. Plain arithmetic. No program is in sight here.
   Balls: which ends a sum, a difference, a join has. Plain arithmetic. No program is in sight here.
   Square roots: small facts. Plain arithmetic. No program is in sight here.
   Balls: what is in them. Plain arithmetic. No program is in sight here.
   Sums without an end, cut: 1 over k times n to the power of k, of odd k. Plain arithmetic. No program is in sight here.
   Balls whose ends are whole numbers over one power of 2. Plain arithmetic. No program is in sight here.
   What the balls of the series hold, and how wide they are. Plain arithmetic. No program is in sight here.
   What the calls on the series' balls ask. Plain arithmetic. No program is in sight here. -/
import Init
import Derived.Lib.TrailingZeros
namespace Go.Slip

/-- What a list of digits to the base B, the lowest first, stands for. -/
def val (B : Nat) : List Nat → Nat
  | [] => 0
  | x :: xs => x + B * val B xs

/-- Digit number i; 0 behind the end. -/
def dg (xs : List Nat) (i : Nat) : Nat := xs[i]?.getD 0

theorem dg_of_ge {xs : List Nat} {i : Nat} (h : xs.length ≤ i) : dg xs i = 0 := by unfold dg; rw [List.getElem?_eq_none h]; rfl
theorem dg_of_lt {xs : List Nat} {i : Nat} (h : i < xs.length) : dg xs i = xs[i] := by unfold dg; simp [h]
theorem dg_take {xs : List Nat} {i n : Nat} (h : i < n) : dg (xs.take n) i = dg xs i := by unfold dg; simp [h]
theorem dg_drop {xs : List Nat} {i n : Nat} : dg (xs.drop n) i = dg xs (n + i) := by unfold dg; simp
theorem dg_set_same {xs : List Nat} {i v : Nat} (h : i < xs.length) : dg (xs.set i v) i = v := by unfold dg; simp [h]
theorem dg_set_ne {xs : List Nat} {i j v : Nat} (h : i ≠ j) : dg (xs.set i v) j = dg xs j := by unfold dg; simp [h]
theorem dg_replicate (n i : Nat) : dg (List.replicate n 0) i = 0 := by unfold dg; by_cases h : i < n <;> simp [h]
@[simp] theorem val_nil (B : Nat) : val B [] = 0 := rfl
@[simp] theorem val_cons (B x : Nat) (xs : List Nat) : val B (x :: xs) = x + B * val B xs := rfl

theorem val_append (B : Nat) (xs ys : List Nat) : val B (xs ++ ys) = val B xs + B ^ xs.length * val B ys := by
  induction xs with
  | nil => simp
  | cons x xs ih => simp only [List.cons_append, val_cons, ih, List.length_cons, Nat.pow_succ]; grind

theorem val_snoc (B : Nat) (xs : List Nat) (y : Nat) : val B (xs ++ [y]) = val B xs + B ^ xs.length * y := by
  rw [val_append]; simp

theorem val_lt (B : Nat) (xs : List Nat) (h : ∀ x ∈ xs, x < B) : val B xs < B ^ xs.length := by
  induction xs with
  | nil => simp
  | cons x xs ih =>
    have h1 := ih (fun y hy => h y (by simp [hy]))
    have h2 := h x (by simp)
    simp only [val_cons, List.length_cons, Nat.pow_succ]
    have h3 : B * val B xs + B ≤ B * B ^ xs.length := by
      have : B * (val B xs + 1) ≤ B * B ^ xs.length := Nat.mul_le_mul_left _ h1
      rw [Nat.mul_add, Nat.mul_one] at this; exact this
    rw [Nat.mul_comm (B ^ xs.length) B]; omega

theorem val_replicate (B n : Nat) : val B (List.replicate n 0) = 0 := by
  induction n with
  | zero => rfl
  | succ n ih => simp [List.replicate_succ, ih]

theorem val_take_drop (B : Nat) (xs : List Nat) (k : Nat) (hk : k ≤ xs.length) : val B xs = val B (xs.take k) + B ^ k * val B (xs.drop k) := by
  conv => lhs; rw [← List.take_append_drop k xs]
  rw [val_append, List.length_take, Nat.min_eq_left hk]

/-- The digits of a number to the base B, the lowest first, the last one not 0. -/
def dig (B : Nat) (n : Nat) : List Nat := if _h : 2 ≤ B ∧ 0 < n then n % B :: dig B (n / B) else []
termination_by n
decreasing_by exact Nat.div_lt_self _h.2 (by omega)

theorem dig_zero (B : Nat) : dig B 0 = [] := by rw [dig]; simp
theorem dig_pos {B n : Nat} (hB : 2 ≤ B) (h : 0 < n) : dig B n = n % B :: dig B (n / B) := by rw [dig, dif_pos ⟨hB, h⟩]

/-- No nought behind. -/
def Tight (xs : List Nat) : Prop := xs.getLast? ≠ some 0

theorem dig_spec {B : Nat} (hB : 2 ≤ B) (n : Nat) : val B (dig B n) = n ∧ (∀ x ∈ dig B n, x < B) ∧ Tight (dig B n) ∧ (0 < n → dig B n ≠ []) := by
  induction n using Nat.strongRecOn with
  | _ n ih =>
    by_cases h : 0 < n
    · obtain ⟨h1, h2, h3, h4⟩ := ih (n / B) (Nat.div_lt_self h (by omega))
      rw [dig_pos hB h]
      refine ⟨?_, ?_, ?_, by simp⟩
      · rw [val_cons, h1]; exact Nat.mod_add_div n B
      · intro x hx
        rcases List.mem_cons.1 hx with rfl | hx
        · exact Nat.mod_lt _ (by omega)
        · exact h2 x hx
      · unfold Tight at *
        by_cases h0 : 0 < n / B
        · have hne := h4 h0
          rw [List.getLast?_cons]
          cases hd : dig B (n / B) with
          | nil => exact absurd hd hne
          | cons y ys => rw [hd] at h3; simpa [List.getLast?_cons] using h3
        · have hz : n / B = 0 := by omega
          rw [hz, dig_zero]
          have : n % B = n := by
            have := Nat.mod_add_div n B; rw [hz] at this; simpa using this
          simp [this]; omega
    · have : n = 0 := by omega
      subst this
      rw [dig_zero]; exact ⟨rfl, by simp, by simp [Tight], by simp⟩

theorem val_dig {B : Nat} (hB : 2 ≤ B) (n : Nat) : val B (dig B n) = n := (dig_spec hB n).1
theorem dig_lt {B : Nat} (hB : 2 ≤ B) (n : Nat) : ∀ x ∈ dig B n, x < B := (dig_spec hB n).2.1
theorem dig_tight {B : Nat} (hB : 2 ≤ B) (n : Nat) : Tight (dig B n) := (dig_spec hB n).2.2.1

theorem val_pos {B : Nat} (hB : 2 ≤ B) : ∀ (xs : List Nat), Tight xs → xs ≠ [] → 0 < val B xs
  | [], _, h => absurd rfl h
  | [x], ht, _ => by
    have : x ≠ 0 := fun e => ht (by simp [e])
    simp; omega
  | x :: y :: ys, ht, _ => by
    have h1 : Tight (y :: ys) := by unfold Tight at *; simpa [List.getLast?_cons] using ht
    have h2 := val_pos hB (y :: ys) h1 (by simp)
    rw [val_cons]
    have := Nat.mul_le_mul hB h2
    omega

theorem Tight.tail {x : Nat} {xs : List Nat} (h : Tight (x :: xs)) : Tight xs := by
  cases xs with
  | nil => simp [Tight]
  | cons y ys => unfold Tight at *; simpa [List.getLast?_cons] using h

theorem dig_val {B : Nat} (hB : 2 ≤ B) : ∀ (xs : List Nat), (∀ x ∈ xs, x < B) → Tight xs → dig B (val B xs) = xs
  | [], _, _ => dig_zero B
  | x :: xs, hx, ht => by
    have h1 := dig_val hB xs (fun y hy => hx y (by simp [hy])) ht.tail
    have h2 := val_pos hB (x :: xs) ht (by simp)
    rw [dig_pos hB h2, val_cons]
    have h3 := hx x (by simp)
    rw [Nat.add_mul_mod_self_left, Nat.mod_eq_of_lt h3, Nat.add_mul_div_left _ _ (by omega), Nat.div_eq_of_lt h3, Nat.zero_add, h1]

theorem dig_eq {B : Nat} (hB : 2 ≤ B) (xs : List Nat) (n : Nat) (hx : ∀ x ∈ xs, x < B) (ht : Tight xs) (h : val B xs = n) : xs = dig B n := by
  rw [← h, dig_val hB xs hx ht]

theorem dig_len_le {B : Nat} (hB : 2 ≤ B) (n k : Nat) : (dig B n).length ≤ k ↔ n < B ^ k := by
  constructor
  · intro h
    have h1 := val_lt B (dig B n) (dig_lt hB n)
    rw [val_dig hB] at h1
    exact Nat.lt_of_lt_of_le h1 (Nat.pow_le_pow_right (by omega) h)
  · induction k generalizing n with
    | zero => intro h; have : n = 0 := by simpa using h
              subst this; rw [dig_zero]; simp
    | succ k ih =>
      intro h
      by_cases h0 : 0 < n
      · rw [dig_pos hB h0, List.length_cons]
        have := ih (n / B) (by
          rw [Nat.div_lt_iff_lt_mul (by omega)]; rwa [Nat.pow_succ] at h)
        omega
      · have : n = 0 := by omega
        subst this; rw [dig_zero]; simp

theorem dig_len_pow {B : Nat} (hB : 2 ≤ B) (n : Nat) (h : 0 < n) : B ^ ((dig B n).length - 1) ≤ n := by
  rcases Nat.lt_or_ge n (B ^ ((dig B n).length - 1)) with h1 | h1
  · have h2 := (dig_len_le hB n _).2 h1
    have h3 := (dig_spec hB n).2.2.2 h
    have h4 : 0 < (dig B n).length := List.length_pos_iff.2 h3
    omega
  · exact h1

theorem dig_eq_nil {B : Nat} (hB : 2 ≤ B) (n : Nat) : dig B n = [] ↔ n = 0 := by
  constructor
  · intro h
    rcases Nat.eq_zero_or_pos n with h0 | h0
    · exact h0
    · exact absurd h ((dig_spec hB n).2.2.2 h0)
  · rintro rfl; exact dig_zero B

theorem dig_len_zero {B : Nat} (hB : 2 ≤ B) (n : Nat) : (dig B n).length = 0 ↔ n = 0 := by
  rw [List.length_eq_zero_iff, dig_eq_nil hB]

theorem dig_len_mono {B : Nat} (hB : 2 ≤ B) {m n : Nat} (h : m ≤ n) : (dig B m).length ≤ (dig B n).length := by
  rw [dig_len_le hB]
  exact Nat.lt_of_le_of_lt h ((dig_len_le hB n _).1 (Nat.le_refl _))

/-- Noughts behind do not count. -/
theorem val_take_zeros (B : Nat) (xs : List Nat) (m : Nat) (hm : m ≤ xs.length) (h : ∀ j, m ≤ j → dg xs j = 0) : val B (xs.take m) = val B xs := by
  rw [val_take_drop B xs m hm]
  have : val B (xs.drop m) = 0 := by
    have h2 : xs.drop m = List.replicate (xs.length - m) 0 := by
      apply List.ext_getElem?
      intro j
      rw [List.getElem?_drop]
      by_cases hj : m + j < xs.length
      · have := h (m + j) (by omega)
        rw [dg_of_lt hj] at this
        rw [List.getElem?_eq_getElem hj, this, List.getElem?_replicate, if_pos (by omega)]
      · rw [List.getElem?_eq_none (by omega), List.getElem?_eq_none (by simp; omega)]
    rw [h2, val_replicate]
  rw [this]; simp

/-- The digits of what a list stands for are its first ones, down to the last one that is not 0. -/
theorem take_dig {B : Nat} (hB : 2 ≤ B) (xs : List Nat) (m : Nat) (hx : ∀ x ∈ xs, x < B) (hm : m ≤ xs.length) (h : ∀ j, m ≤ j → dg xs j = 0) (ht : m = 0 ∨ dg xs (m - 1) ≠ 0) :
    xs.take m = dig B (val B xs) := by
  refine dig_eq hB _ _ (fun x hxm => hx x (List.mem_of_mem_take hxm)) ?_ (val_take_zeros B xs m hm h)
  unfold Tight
  rcases ht with rfl | ht
  · simp
  · by_cases h0 : m = 0
    · subst h0; simp
    · rw [List.getLast?_eq_getElem?, List.length_take, Nat.min_eq_left hm, List.getElem?_take, if_pos (by omega)]
      intro e; unfold dg at ht; rw [e] at ht; simp at ht

theorem dig_val_len {B : Nat} (hB : 2 ≤ B) (xs : List Nat) (m : Nat) (hx : ∀ x ∈ xs, x < B) (hm : m ≤ xs.length) (h : ∀ j, m ≤ j → dg xs j = 0) (ht : m = 0 ∨ dg xs (m - 1) ≠ 0) :
    (dig B (val B xs)).length = m := by
  rw [← take_dig hB xs m hx hm h ht, List.length_take, Nat.min_eq_left hm]

theorem dig_val_le {B : Nat} (hB : 2 ≤ B) (xs : List Nat) (hx : ∀ x ∈ xs, x < B) : (dig B (val B xs)).length ≤ xs.length := by
  rw [dig_len_le hB]; exact val_lt B xs hx

theorem take_dig_len {B : Nat} (hB : 2 ≤ B) (xs : List Nat) (hx : ∀ x ∈ xs, x < B) : xs.take (dig B (val B xs)).length = dig B (val B xs) := by
  have : ∃ m, m ≤ xs.length ∧ (∀ j, m ≤ j → dg xs j = 0) ∧ (m = 0 ∨ dg xs (m - 1) ≠ 0) := by
    have key : ∀ n, n ≤ xs.length → (∀ j, n ≤ j → dg xs j = 0) → ∃ m, m ≤ xs.length ∧ (∀ j, m ≤ j → dg xs j = 0) ∧ (m = 0 ∨ dg xs (m - 1) ≠ 0) := by
      intro n
      induction n with
      | zero => intro _ h; exact ⟨0, by omega, h, .inl rfl⟩
      | succ n ih =>
        intro hn h
        by_cases h0 : dg xs n = 0
        · refine ih (by omega) fun j hj => ?_
          by_cases hjn : j = n
          · subst hjn; exact h0
          · exact h j (by omega)
        · exact ⟨n + 1, hn, h, .inr h0⟩
    exact key xs.length (Nat.le_refl _) fun j hj => dg_of_ge hj
  obtain ⟨m, h1, h2, h3⟩ := this
  rw [dig_val_len hB xs m hx h1 h2 h3, take_dig hB xs m hx h1 h2 h3]

theorem val_set (B : Nat) : ∀ (xs : List Nat) (j v : Nat), j < xs.length → val B (xs.set j v) + B ^ j * (dg xs j) = val B xs + B ^ j * v
  | [], j, v, h => by simp at h
  | x :: xs, 0, v, _ => by simp [dg]; omega
  | x :: xs, j + 1, v, h => by
    have ih := val_set B xs j v (by simpa using h)
    have e0 : dg (x :: xs) (j + 1) = dg xs j := by simp [dg]
    simp only [List.set_cons_succ, val_cons, e0]
    rw [Nat.pow_succ]
    have e : ∀ t, B ^ j * B * t = B * (B ^ j * t) := fun t => by grind
    rw [e, e]
    have : B * (val B (xs.set j v) + B ^ j * (dg xs j)) = B * (val B xs + B ^ j * v) := by rw [ih]
    rw [Nat.mul_add, Nat.mul_add] at this
    omega

theorem val_take_succ (B : Nat) (xs : List Nat) (i : Nat) : val B (xs.take (i + 1)) = val B (xs.take i) + B ^ i * (dg xs i) := by
  by_cases h : i < xs.length
  · rw [List.take_succ_eq_append_getElem h, val_append, List.length_take, Nat.min_eq_left (by omega), dg_of_lt h]
    simp
  · rw [List.take_of_length_le (by omega), List.take_of_length_le (by omega), dg_of_ge (by omega)]
    simp

theorem val_take_all (B : Nat) (xs : List Nat) (i : Nat) (h : xs.length ≤ i) : val B (xs.take i) = val B xs := by rw [List.take_of_length_le h]

/-- A list is without noughts behind if what it stands for is not too small. -/
theorem tight_of_ge {B : Nat} (xs : List Nat) (hx : ∀ x ∈ xs, x < B) (h : xs = [] ∨ B ^ (xs.length - 1) ≤ val B xs) : Tight xs := by
  rcases h with rfl | h
  · simp [Tight]
  · unfold Tight
    intro h0
    have hne : xs ≠ [] := by rintro rfl; simp at h0
    have hl : 0 < xs.length := List.length_pos_iff.2 hne
    have h1 : dg xs (xs.length - 1) = 0 := by rw [List.getLast?_eq_getElem?] at h0; unfold dg; rw [h0]; rfl
    have h2 := val_take_succ B xs (xs.length - 1)
    rw [show xs.length - 1 + 1 = xs.length by omega, List.take_length, h1] at h2
    have h3 := val_lt B (xs.take (xs.length - 1)) (fun x hxm => hx x (List.mem_of_mem_take hxm))
    rw [List.length_take, Nat.min_eq_left (by omega)] at h3
    omega

theorem getD_lt {B : Nat} (hB : 0 < B) (xs : List Nat) (hx : ∀ x ∈ xs, x < B) (j : Nat) : dg xs j < B := by
  by_cases h : j < xs.length
  · rw [dg_of_lt h]; exact hx _ (List.getElem_mem h)
  · rw [dg_of_ge (by omega)]; exact hB

theorem set_lt {B : Nat} (xs : List Nat) (hx : ∀ x ∈ xs, x < B) (j v : Nat) (hv : v < B) : ∀ x ∈ xs.set j v, x < B := by
  intro x h
  rcases List.mem_or_eq_of_mem_set h with h | rfl
  · exact hx x h
  · exact hv

/-! ### Addition, digit by digit -/
theorem add_step (B : Nat) (L : List Nat) (i d c T : Nat) (hi : i < L.length) (h : val B L + c * B ^ i = T) :
    val B (L.set i ((dg L i + d + c) % B)) + ((dg L i + d + c) / B) * B ^ (i + 1) = T + B ^ i * d := by
  have h1 := val_set B L i ((dg L i + d + c) % B) hi
  have h2 := Nat.div_add_mod (dg L i + d + c) B
  generalize (dg L i + d + c) % B = r at *
  generalize (dg L i + d + c) / B = q at *
  generalize dg L i = x at *
  rw [Nat.pow_succ]
  have h3 : B ^ i * (B * q + r) = B ^ i * (x + d + c) := by rw [h2]
  grind

theorem add_end0 {B : Nat} (hB : 2 ≤ B) (L : List Nat) (a b : Nat) (hx : ∀ x ∈ L, x < B) (hl : L.length = (dig B a).length) (h : val B L = a + b) : L = dig B (a + b) := by
  refine dig_eq hB L _ hx (tight_of_ge L hx ?_) h
  by_cases ha : 0 < a
  · right; rw [h, hl]; have := dig_len_pow hB a ha; omega
  · left
    have : a = 0 := by omega
    subst this
    rw [dig_zero] at hl
    exact List.eq_nil_of_length_eq_zero hl

theorem add_end1 {B : Nat} (hB : 2 ≤ B) (L : List Nat) (c n : Nat) (hx : ∀ x ∈ L, x < B) (hc : 0 < c) (hcB : c < B) (h : val B L + c * B ^ L.length = n) : L ++ [c] = dig B n := by
  refine dig_eq hB _ _ (fun x hm => ?_) ?_ (by rw [val_snoc, Nat.mul_comm]; exact h)
  · rcases List.mem_append.1 hm with h1 | h1
    · exact hx x h1
    · simp at h1; omega
  · unfold Tight; simp; omega

/-! ### Products, digit by digit -/
/-- Within round i, when k digits of the second number have been taken. -/
def MulIn (B : Nat) (L xs ys : List Nat) (i k cr : Nat) : Prop :=
  (∀ x ∈ L, x < B) ∧ (∀ j, i + ys.length ≤ j → dg L j = 0) ∧ val B L + cr * B ^ (i + k) = val B (xs.take i) * val B ys + dg xs i * B ^ i * val B (ys.take k)

/-- Ahead of round i. -/
def MulOut (B : Nat) (L xs ys : List Nat) (i : Nat) : Prop :=
  (∀ x ∈ L, x < B) ∧ (∀ j, i + ys.length ≤ j → dg L j = 0) ∧ val B L = val B (xs.take i) * val B ys

theorem MulOut.start (B : Nat) (hB : 0 < B) (xs ys : List Nat) (n : Nat) : MulOut B (List.replicate n 0) xs ys 0 :=
  ⟨fun x hx => by rw [(List.mem_replicate.1 hx).2]; exact hB, fun j _ => dg_replicate n j, by simp [val_replicate]⟩

theorem MulOut.enter {B : Nat} {L xs ys : List Nat} {i : Nat} (h : MulOut B L xs ys i) : MulIn B L xs ys i 0 0 := ⟨h.1, h.2.1, by rw [h.2.2]; simp⟩

theorem MulIn.step {B : Nat} {L xs ys : List Nat} {i k cr t : Nat} (h : MulIn B L xs ys i k cr) (hB : 0 < B) (hk : k < ys.length) (hj : i + k < L.length) (ht : t = dg xs i * dg ys k + dg L (i + k) + cr) :
    MulIn B (L.set (i + k) (t % B)) xs ys i (k + 1) (t / B) := by
  have e : t = dg L (i + k) + dg xs i * dg ys k + cr := by omega
  refine ⟨set_lt L h.1 _ _ (Nat.mod_lt _ hB), fun j hj2 => ?_, ?_⟩
  · rw [dg_set_ne (by omega)]; exact h.2.1 j hj2
  · have h1 := add_step B L (i + k) (dg xs i * dg ys k) cr _ hj h.2.2
    rw [e, ← Nat.add_assoc i k 1, h1, val_take_succ]
    rw [Nat.pow_add]
    grind

theorem MulIn.carry {B : Nat} {L xs ys : List Nat} {i k cr : Nat} (h : MulIn B L xs ys i k cr) (hc : cr < B) (hx : dg xs i < B) (hy : dg ys k < B) : dg xs i * dg ys k + dg L (i + k) + cr < B * B := by
  have h1 := getD_lt (B := B) (by omega) L h.1 (i + k)
  have h2 : dg xs i * dg ys k ≤ (B - 1) * (B - 1) := Nat.mul_le_mul (by omega) (by omega)
  obtain ⟨b, rfl⟩ : ∃ b, B = b + 1 := ⟨B - 1, by omega⟩
  simp only [Nat.add_sub_cancel] at h2
  have h3 : (b + 1) * (b + 1) = b * b + 2 * b + 1 := by grind
  omega

theorem MulIn.leave {B : Nat} {L xs ys : List Nat} {i k cr : Nat} (h : MulIn B L xs ys i k cr) (hk : k = ys.length) (hj : i + k < L.length) (hc : cr < B) : MulOut B (L.set (i + k) cr) xs ys (i + 1) := by
  subst hk
  refine ⟨set_lt L h.1 _ _ hc, fun j hj2 => ?_, ?_⟩
  · rw [dg_set_ne (by omega)]; exact h.2.1 j (by omega)
  · have h1 := val_set B L (i + ys.length) cr hj
    have h2 := h.2.2
    rw [h.2.1 _ (Nat.le_refl _)] at h1
    rw [List.take_length] at h2
    rw [val_take_succ]
    grind

theorem MulOut.done {B : Nat} {L xs ys : List Nat} {i a b : Nat} (h : MulOut B L xs ys i) (hi : xs.length ≤ i) (ha : val B xs = a) (hb : val B ys = b) : val B L = a * b := by
  rw [h.2.2, val_take_all _ _ _ hi, ha, hb]

/-! ### The two bases of the texts: 2 to the power of 32, and of 16 -/
/-- The base of the program's numbers. -/
def B32 : Nat := 4294967296
/-- The base of the references' numbers. -/
def B16 : Nat := 65536
theorem B32_two : 2 ≤ B32 := by unfold B32; omega
theorem B16_two : 2 ≤ B16 := by unfold B16; omega
theorem B32_pos : 0 < B32 := by unfold B32; omega
theorem B16_pos : 0 < B16 := by unfold B16; omega
theorem B32_sq : B32 = B16 * B16 := by unfold B32 B16; omega
theorem B32_pow (k : Nat) : B32 ^ k = B16 ^ (2 * k) := by rw [B32_sq, Nat.pow_mul]; congr 1

/-- What is wrong with a number, as A1 says: 0, 1 (its last digit is 0), 2 (too many digits). -/
def errNat (xs : List Nat) : Int := if 0 < xs.length ∧ dg xs (xs.length - 1) = 0 then 1 else if 1200 < xs.length then 2 else 0

theorem tight_of_dg {xs : List Nat} (h : ¬ (0 < xs.length ∧ dg xs (xs.length - 1) = 0)) : Tight xs := by
  unfold Tight
  intro h0
  have hl : 0 < xs.length := by
    rcases Nat.eq_zero_or_pos xs.length with h1 | h1
    · rw [List.eq_nil_of_length_eq_zero h1] at h0; simp at h0
    · exact h1
  refine h ⟨hl, ?_⟩
  rw [List.getLast?_eq_getElem?] at h0; unfold dg; rw [h0]; rfl

theorem errNat_ok {xs : List Nat} (hx : ∀ x ∈ xs, x < B32) (h : errNat xs = 0) : xs = dig B32 (val B32 xs) ∧ xs.length ≤ 1200 := by
  unfold errNat at h
  split at h
  · omega
  · rename_i h1
    split at h
    · omega
    · exact ⟨(dig_val B32_two xs hx (tight_of_dg h1)).symm, by omega⟩

theorem dg_dig_ne {B : Nat} (hB : 2 ≤ B) (n : Nat) : ¬ (0 < (dig B n).length ∧ dg (dig B n) ((dig B n).length - 1) = 0) := by
  rintro ⟨h1, h2⟩
  have h3 := dig_tight hB n
  apply h3
  rw [List.getLast?_eq_getElem?]
  unfold dg at h2
  rw [List.getElem?_eq_getElem (by omega)] at h2 ⊢
  simp at h2
  rw [h2]

theorem errNat_dig (n : Nat) : errNat (dig B32 n) = if 1200 < (dig B32 n).length then 2 else 0 := by
  unfold errNat
  rw [if_neg (dg_dig_ne B32_two n)]

/-- From digits to the base of 2 to the power of 32 to those of 16. -/
theorem of_step {O xs : List Nat} {i : Nat} (hO : ∀ x ∈ O, x < B16) (hl : O.length = 2 * i) (hv : val B16 O = val B32 (xs.take i)) (hx : dg xs i < B32) :
    (∀ x ∈ O ++ [dg xs i % 65536, dg xs i / 65536], x < B16) ∧ val B16 (O ++ [dg xs i % 65536, dg xs i / 65536]) = val B32 (xs.take (i + 1)) := by
  constructor
  · intro x hm
    rcases List.mem_append.1 hm with h | h
    · exact hO x h
    · simp at h
      unfold B16 B32 at *
      omega
  · rw [val_append, hv, val_take_succ, hl, ← B32_pow]
    simp only [val_cons, val_nil, Nat.mul_zero, Nat.add_zero]
    congr 2
    unfold B16
    omega

theorem dig_len_halves (n : Nat) : (dig B32 n).length = ((dig B16 n).length + 1) / 2 := by
  apply Nat.le_antisymm
  · rw [dig_len_le B32_two, B32_pow]
    have h := (dig_len_le B16_two n _).1 (Nat.le_refl _)
    exact Nat.lt_of_lt_of_le h (Nat.pow_le_pow_right (by unfold B16; omega) (by omega))
  · by_cases h : 0 < n
    · have h1 := (dig_len_le B32_two n _).1 (Nat.le_refl _)
      rw [B32_pow] at h1
      have := (dig_len_le B16_two n _).2 h1
      omega
    · have : n = 0 := by omega
      subst this; rw [dig_zero, dig_zero]; simp

theorem MulIn.leave0 {B : Nat} {L xs ys : List Nat} {i : Nat} (h : MulIn B L xs ys i ys.length 0) : MulOut B L xs ys (i + 1) := by
  refine ⟨h.1, fun j hj2 => h.2.1 j (by omega), ?_⟩
  have h2 := h.2.2
  rw [List.take_length] at h2
  rw [val_take_succ]
  grind

/-- The references' inner round goes on while something is carried. -/
def TimesIn (L xs ys : List Nat) (i k cr : Nat) : Prop := (k ≤ ys.length ∧ MulIn B16 L xs ys i k cr) ∨ (k = ys.length + 1 ∧ cr = 0 ∧ MulOut B16 L xs ys (i + 1))

theorem TimesIn.digits {L xs ys : List Nat} {i k cr : Nat} (h : TimesIn L xs ys i k cr) : ∀ x ∈ L, x < B16 := by
  rcases h with h | h
  · exact h.2.1
  · exact h.2.2.1

theorem TimesIn.step {L xs ys : List Nat} {i k cr : Nat} (h : TimesIn L xs ys i k cr) (hk : k < ys.length) (hj : i + k < L.length) :
    TimesIn (L.set (i + k) ((dg L (i + k) + cr + dg xs i * dg ys k) % 65536)) xs ys i (k + 1) ((dg L (i + k) + cr + dg xs i * dg ys k) / 65536) := by
  rcases h with ⟨_, h⟩ | ⟨h0, _⟩
  · exact .inl ⟨hk, h.step B16_pos hk hj (by omega)⟩
  · omega

theorem TimesIn.carry {L xs ys : List Nat} {i k cr : Nat} (h : TimesIn L xs ys i k cr) (hc : cr < 65536) (hx : dg xs i < 65536) (hy : dg ys k < 65536) : (dg L (i + k) + cr + dg xs i * dg ys k) / 65536 < 65536 := by
  have h1 := getD_lt (B := 65536) (by omega) L h.digits (i + k)
  have h2 : dg xs i * dg ys k ≤ 65535 * 65535 := Nat.mul_le_mul (by omega) (by omega)
  omega

theorem TimesIn.over {L xs ys : List Nat} {i k cr : Nat} (h : TimesIn L xs ys i k cr) (hk : ¬ k < ys.length) (h0 : 0 < cr) (hc : cr < 65536) (hj : i + ys.length < L.length) :
    k = ys.length ∧ dg L (i + k) = 0 ∧ TimesIn (L.set (i + k) cr) xs ys i (k + 1) 0 := by
  rcases h with ⟨h1, h⟩ | ⟨_, h2, _⟩
  · obtain rfl : k = ys.length := by omega
    exact ⟨rfl, h.2.1 _ (Nat.le_refl _), .inr ⟨rfl, rfl, h.leave rfl hj (by unfold B16; omega)⟩⟩
  · omega

theorem TimesIn.done {L xs ys : List Nat} {i k : Nat} (h : TimesIn L xs ys i k 0) (hk : ¬ k < ys.length) : MulOut B16 L xs ys (i + 1) := by
  rcases h with ⟨h1, h⟩ | ⟨_, _, h⟩
  · obtain rfl : k = ys.length := by omega
    exact h.leave0
  · exact h

/-! ### Division by one digit, from above -/
theorem val_drop (B : Nat) (xs : List Nat) (j : Nat) (hj : j < xs.length) : val B (xs.drop j) = dg xs j + B * val B (xs.drop (j + 1)) := by
  rw [List.drop_eq_getElem_cons hj, val_cons, dg_of_lt hj]

theorem drop_set_self (L : List Nat) (j v : Nat) (hj : j < L.length) : (L.set j v).drop j = v :: L.drop (j + 1) := by
  rw [List.drop_eq_getElem_cons (by simpa using hj)]
  simp [List.drop_set_of_lt]

/-- When all from place k on are done. -/
def SmallRel (B : Nat) (L xs : List Nat) (d k r : Nat) : Prop := (∀ x ∈ L, x < B) ∧ r < d ∧ val B (L.drop k) * d + r = val B (xs.drop k)

theorem SmallRel.step {B : Nat} {L xs : List Nat} {d k r : Nat} (h : SmallRel B L xs d (k + 1) r) (hk : k < xs.length) (hL : k < L.length) (hx : dg xs k < B) :
    SmallRel B (L.set k ((r * B + dg xs k) / d)) xs d k ((r * B + dg xs k) % d) ∧ (r * B + dg xs k) / d < B := by
  have hq : (r * B + dg xs k) / d < B := by
    rw [Nat.div_lt_iff_lt_mul (by have := h.2.1; omega)]
    have h1 : (r + 1) * B ≤ d * B := Nat.mul_le_mul_right _ h.2.1
    rw [Nat.add_mul, Nat.one_mul] at h1
    rw [Nat.mul_comm B d]; omega
  refine ⟨⟨set_lt L h.1 _ _ hq, Nat.mod_lt _ (by have := h.2.1; omega), ?_⟩, hq⟩
  rw [drop_set_self L k _ hL, val_cons, val_drop B xs k hk, ← h.2.2]
  have h2 := Nat.div_add_mod (r * B + dg xs k) d
  generalize (r * B + dg xs k) / d = q at *
  generalize (r * B + dg xs k) % d = s at *
  generalize val B (L.drop (k + 1)) = v at *
  grind

theorem SmallRel.done {B : Nat} {L xs : List Nat} {d r a : Nat} (h : SmallRel B L xs d 0 r) (ha : val B xs = a) : val B L = a / d ∧ r = a % d := by
  have h1 := h.2.2
  simp only [List.drop_zero] at h1
  rw [ha] at h1
  have h2 := h.2.1
  rw [← h1, Nat.mul_comm]
  exact ⟨(by rw [Nat.mul_add_div (by omega), Nat.div_eq_of_lt h2, Nat.add_zero]), (by rw [Nat.mul_add_mod, Nat.mod_eq_of_lt h2])⟩

/-! ### Turned round -/
/-- In the midst of turning a list round: the ends are done, from i to j nothing is. -/
def RevRel (L xs : List Nat) (i j : Nat) : Prop := L.length = xs.length ∧ i + j + 1 = xs.length + 0 ∧ ∀ t, t < xs.length → dg L t = if t < i ∨ j < t then dg xs (xs.length - 1 - t) else dg xs t

theorem list_ext_dg {xs ys : List Nat} (hl : xs.length = ys.length) (h : ∀ t, t < xs.length → dg xs t = dg ys t) : xs = ys := by
  apply List.ext_getElem hl
  intro t h1 h2
  have := h t h1
  rwa [dg_of_lt h1, dg_of_lt h2] at this

theorem dg_reverse {xs : List Nat} {t : Nat} (h : t < xs.length) : dg xs.reverse t = dg xs (xs.length - 1 - t) := by
  rw [dg_of_lt (by simpa using h), dg_of_lt (by omega), List.getElem_reverse]

theorem RevRel.step {L xs : List Nat} {i j : Nat} (h : RevRel L xs i j) (hij : i < j) : RevRel ((L.set i (dg L j)).set j (dg L i)) xs (i + 1) (j - 1) := by
  obtain ⟨h1, h2, h3⟩ := h
  refine ⟨by simpa using h1, by omega, fun t ht => ?_⟩
  have hi := h3 i (by omega)
  have hj := h3 j (by omega)
  rw [if_neg (by omega)] at hi hj
  by_cases e1 : t = j
  · subst e1
    rw [dg_set_same (by simp; omega), if_pos (by omega), hi]
    congr 1; omega
  · rw [dg_set_ne (by omega)]
    by_cases e2 : t = i
    · subst e2
      rw [dg_set_same (by omega), if_pos (by omega), hj]
      congr 1; omega
    · rw [dg_set_ne (by omega), h3 t ht]
      by_cases e3 : t < i ∨ j < t
      · rw [if_pos e3, if_pos (by omega)]
      · rw [if_neg e3, if_neg (by omega)]

theorem RevRel.done {L xs : List Nat} {i j : Nat} (h : RevRel L xs i j) (hij : ¬ i < j) : L = xs.reverse := by
  obtain ⟨h1, h2, h3⟩ := h
  refine list_ext_dg (by simpa using h1) fun t ht => ?_
  rw [h3 t (by omega), dg_reverse (by omega)]
  by_cases e : t < i ∨ j < t
  · rw [if_pos e]
  · rw [if_neg e]; congr 1; omega

theorem RevRel.start (xs : List Nat) (h : 0 < xs.length) : RevRel xs xs 0 (xs.length - 1) :=
  ⟨rfl, by omega, fun t ht => by rw [if_neg (by omega)]⟩

/-! ### Decimal digits -/
/-- Within a piece of nine digits: D are the digits so far, the lowest first; r is what is left of the piece, a what is above it. -/
def DecIn (N : Nat) (D : List Nat) (i r a : Nat) : Prop :=
  (∀ x ∈ D, x < 10) ∧ r < 10 ^ (9 - i) ∧ N = val 10 D + 10 ^ D.length * (r + 10 ^ (9 - i) * a) ∧ (a = 0 → r = 0 → Tight D)

def DecOut (N : Nat) (D : List Nat) (a : Nat) : Prop := (∀ x ∈ D, x < 10) ∧ N = val 10 D + 10 ^ D.length * a ∧ (a = 0 → Tight D)

theorem DecOut.start (N : Nat) : DecOut N [] N := ⟨by simp, by simp, fun _ => by simp [Tight]⟩

theorem DecOut.enter {N : Nat} {D : List Nat} {a : Nat} (h : DecOut N D a) (ha : 0 < a) : DecIn N D 0 (a % 1000000000) (a / 1000000000) := by
  refine ⟨h.1, by have := Nat.mod_lt a (show 0 < 1000000000 by omega); simpa using this, ?_, fun h1 h2 => by omega⟩
  rw [h.2.1]
  congr 2
  have := Nat.mod_add_div a 1000000000
  omega

theorem DecIn.step {N : Nat} {D : List Nat} {i r a : Nat} (h : DecIn N D i r a) (hi : i < 9) (hc : 0 < r ∨ 0 < a) : DecIn N (D ++ [r % 10]) (i + 1) (r / 10) a := by
  obtain ⟨h1, h2, h3, h4⟩ := h
  have e : 9 - i = 9 - (i + 1) + 1 := by omega
  rw [e, Nat.pow_succ] at h2 h3
  refine ⟨fun x hx => ?_, by omega, ?_, fun ha hr => ?_⟩
  · rcases List.mem_append.1 hx with hx | hx
    · exact h1 x hx
    · simp at hx; omega
  · rw [h3, val_snoc, List.length_append, List.length_singleton, Nat.pow_succ]
    have := Nat.mod_add_div r 10
    generalize r % 10 = s at *
    generalize r / 10 = q at *
    subst this
    grind
  · unfold Tight; simp; omega

theorem DecIn.leave {N : Nat} {D : List Nat} {i r a : Nat} (h : DecIn N D i r a) (hi : i ≤ 9) (hc : ¬ (i < 9 ∧ (0 < r ∨ 0 < a))) : DecOut N D a := by
  obtain ⟨h1, h2, h3, h4⟩ := h
  have hr : r = 0 := by
    by_cases hi9 : i < 9
    · omega
    · have : i = 9 := by omega
      subst this; simp at h2; exact h2
  subst hr
  refine ⟨h1, ?_, fun ha => h4 ha rfl⟩
  rw [h3]
  by_cases hi9 : i < 9
  · have : a = 0 := by omega
    subst this; simp
  · have : i = 9 := by omega
    subst this; simp

theorem DecOut.done {N : Nat} {D : List Nat} (h : DecOut N D 0) : D = dig 10 N := dig_eq (by omega) D N h.1 (h.2.2 rfl) (by rw [h.2.1]; simp)

theorem DecIn.size {N : Nat} {D : List Nat} {i r a : Nat} (h : DecIn N D i r a) (hc : 0 < r ∨ 0 < a) : D.length ≤ 32 * (dig B32 N).length := by
  have h1 : 10 ^ D.length ≤ N := by
    rw [h.2.2.1]
    have : 0 < r + 10 ^ (9 - i) * a := by
      rcases hc with hc | hc
      · omega
      · have := Nat.mul_pos (show 0 < 10 ^ (9 - i) from Nat.pow_pos (by omega)) hc; omega
    have := Nat.le_mul_of_pos_right (10 ^ D.length) this
    omega
  have h2 := (dig_len_le B32_two N _).1 (Nat.le_refl _)
  have h3 : B32 ^ (dig B32 N).length = 2 ^ (32 * (dig B32 N).length) := by rw [Nat.pow_mul]; congr 1
  have h4 : 2 ^ D.length ≤ 10 ^ D.length := Nat.pow_le_pow_left (by omega) _
  have h5 : 2 ^ D.length < 2 ^ (32 * (dig B32 N).length) := by rw [← h3]; omega
  exact Nat.le_of_lt ((Nat.pow_lt_pow_iff_right (by omega)).1 h5)

theorem dig_len_mul {B : Nat} (hB : 2 ≤ B) (a b : Nat) : (dig B (a * b)).length ≤ (dig B a).length + (dig B b).length := by
  rw [dig_len_le hB, Nat.pow_add]
  exact Nat.mul_lt_mul'' ((dig_len_le hB a _).1 (Nat.le_refl _)) ((dig_len_le hB b _).1 (Nat.le_refl _))

theorem dig_len_add {B : Nat} (hB : 2 ≤ B) (a b : Nat) : (dig B (a + b)).length ≤ (dig B a).length + (dig B b).length + 1 := by
  rw [dig_len_le hB]
  have h1 := (dig_len_le hB a _).1 (Nat.le_refl _)
  have h2 := (dig_len_le hB b _).1 (Nat.le_refl _)
  have h3 : B ^ (dig B a).length ≤ B ^ ((dig B a).length + (dig B b).length) := Nat.pow_le_pow_right (by omega) (by omega)
  have h4 : B ^ (dig B b).length ≤ B ^ ((dig B a).length + (dig B b).length) := Nat.pow_le_pow_right (by omega) (by omega)
  rw [Nat.pow_succ]
  have := Nat.mul_le_mul_left (B ^ ((dig B a).length + (dig B b).length)) hB
  omega

end Go.Slip

namespace Go.Slip

/-! ### The references' sum -/
def PlusRel (O xs ys : List Nat) (i cr : Nat) : Prop :=
  (∀ x ∈ O, x < B16) ∧ O.length = i ∧ cr ≤ 1 ∧ val B16 O + cr * B16 ^ i = val B16 (xs.take i) + val B16 (ys.take i) ∧
    (i ≤ xs.length ∨ i ≤ ys.length ∨ (cr = 0 ∧ B16 ^ (i - 1) ≤ val B16 O))

theorem PlusRel.start (xs ys : List Nat) : PlusRel [] xs ys 0 0 := ⟨by simp, rfl, by omega, by simp, .inl (Nat.zero_le _)⟩

theorem PlusRel.step {O xs ys : List Nat} {i cr : Nat} (h : PlusRel O xs ys i cr) (hx : dg xs i < B16) (hy : dg ys i < B16) (hc : i < xs.length ∨ i < ys.length ∨ 0 < cr) :
    PlusRel (O ++ [(cr + dg xs i + dg ys i) % B16]) xs ys (i + 1) ((cr + dg xs i + dg ys i) / B16) := by
  obtain ⟨h1, h2, h3, h4, h5⟩ := h
  have hv : val B16 (O ++ [(cr + dg xs i + dg ys i) % B16]) + (cr + dg xs i + dg ys i) / B16 * B16 ^ (i + 1) = val B16 (xs.take (i + 1)) + val B16 (ys.take (i + 1)) := by
    rw [val_snoc, val_take_succ, val_take_succ, h2, Nat.pow_succ]
    have := Nat.div_add_mod (cr + dg xs i + dg ys i) B16
    generalize (cr + dg xs i + dg ys i) / B16 = q at *
    generalize (cr + dg xs i + dg ys i) % B16 = r at *
    have e : B16 ^ i * (B16 * q + r) = B16 ^ i * (cr + dg xs i + dg ys i) := by rw [this]
    grind
  refine ⟨fun x hm => ?_, by simp [h2], ?_, hv, ?_⟩
  · rcases List.mem_append.1 hm with hm | hm
    · exact h1 x hm
    · simp at hm; rw [hm]; exact Nat.mod_lt _ B16_pos
  · unfold B16 at *; omega
  · by_cases hn : i < xs.length ∨ i < ys.length
    · omega
    · have e1 : dg xs i = 0 := dg_of_ge (by omega)
      have e2 : dg ys i = 0 := dg_of_ge (by omega)
      have e3 : cr = 1 := by omega
      subst e3
      rw [e1, e2]
      refine .inr (.inr ⟨by decide, ?_⟩)
      have : (1 + 0 + 0) % B16 = 1 := by decide
      rw [this, val_snoc, h2]
      simp

theorem PlusRel.done {O xs ys : List Nat} {i a b : Nat} (h : PlusRel O xs ys i 0) (hx : xs.length ≤ i) (hy : ys.length ≤ i) (ha : xs = dig B16 a) (hb : ys = dig B16 b) : O = dig B16 (a + b) := by
  obtain ⟨h1, h2, h3, h4, h5⟩ := h
  rw [val_take_all _ _ _ hx, val_take_all _ _ _ hy, ha, hb, val_dig B16_two, val_dig B16_two, Nat.zero_mul, Nat.add_zero] at h4
  refine dig_eq B16_two O _ h1 (tight_of_ge O h1 ?_) h4
  rw [h2]
  by_cases hi : i = 0
  · left; exact List.eq_nil_of_length_eq_zero (by omega)
  · right
    rcases h5 with h5 | h5 | h5
    · have e : xs.length = i := by omega
      rw [h4, ← e, ha]
      have hp : 0 < a := by
        rcases Nat.eq_zero_or_pos a with h0 | h0
        · rw [h0, dig_zero] at ha; rw [ha] at e; simp at e; omega
        · exact h0
      have := dig_len_pow B16_two a hp
      omega
    · have e : ys.length = i := by omega
      rw [h4, ← e, hb]
      have hp : 0 < b := by
        rcases Nat.eq_zero_or_pos b with h0 | h0
        · rw [h0, dig_zero] at hb; rw [hb] at e; simp at e; omega
        · exact h0
      have := dig_len_pow B16_two b hp
      omega
    · exact h5.2

end Go.Slip

namespace Go.Slip

/-- What a comparison answers. -/
def cmpN (a b : Nat) : Int := if a < b then -1 else if b < a then 1 else 0

theorem cmpN_lt {a b : Nat} (h : a < b) : cmpN a b = -1 := by unfold cmpN; rw [if_pos h]
theorem cmpN_gt {a b : Nat} (h : b < a) : cmpN a b = 1 := by unfold cmpN; rw [if_neg (by omega), if_pos h]
theorem cmpN_eq (a : Nat) : cmpN a a = 0 := by unfold cmpN; rw [if_neg (by omega), if_neg (by omega)]

theorem dig_len_lt {B : Nat} (hB : 2 ≤ B) {a b : Nat} (h : (dig B a).length < (dig B b).length) : a < b := by
  rcases Nat.lt_or_ge a b with h1 | h1
  · exact h1
  · have := dig_len_mono hB h1; omega

theorem val_cut (B : Nat) (xs : List Nat) (k : Nat) (hk : k < xs.length) : val B xs = val B (xs.take k) + B ^ k * (dg xs k + B * val B (xs.drop (k + 1))) := by
  rw [val_take_drop B xs k (by omega), val_drop B xs k hk]

theorem val_take_lt {B : Nat} (xs : List Nat) (hx : ∀ x ∈ xs, x < B) (k : Nat) (hk : k ≤ xs.length) : val B (xs.take k) < B ^ k := by
  have h := val_lt B (xs.take k) (fun x h => hx x (List.mem_of_mem_take h))
  rwa [List.length_take, Nat.min_eq_left hk] at h

theorem val_cmp {B : Nat} (xs ys : List Nat) (hx : ∀ x ∈ xs, x < B) (k : Nat) (hk : k < xs.length) (hl : xs.length = ys.length) (hd : xs.drop (k + 1) = ys.drop (k + 1)) (h : dg xs k < dg ys k) : val B xs < val B ys := by
  rw [val_cut B xs k hk, val_cut B ys k (by omega), hd]
  have h1 := val_take_lt xs hx k (by omega)
  generalize val B (ys.drop (k + 1)) = v at *
  generalize val B (xs.take k) = t at *
  have h2 : B ^ k * (dg xs k + 1 + B * v) ≤ B ^ k * (dg ys k + B * v) := Nat.mul_le_mul_left _ (by omega)
  have e : B ^ k * (dg xs k + 1 + B * v) = B ^ k + B ^ k * (dg xs k + B * v) := by grind
  rw [e] at h2
  omega

theorem drop_eq_of {xs ys : List Nat} {k : Nat} (hk : k < xs.length) (hl : xs.length = ys.length) (hd : xs.drop (k + 1) = ys.drop (k + 1)) (h : dg xs k = dg ys k) : xs.drop k = ys.drop k := by
  rw [List.drop_eq_getElem_cons hk, List.drop_eq_getElem_cons (show k < ys.length by omega), hd]
  rw [dg_of_lt hk, dg_of_lt (show k < ys.length by omega)] at h
  rw [h]

/-! ### Lengths in bits -/
def blen (n : Nat) : Nat := (dig 2 n).length

theorem blen_zero : blen 0 = 0 := by unfold blen; rw [dig_zero]; rfl
theorem blen_le (n k : Nat) : blen n ≤ k ↔ n < 2 ^ k := dig_len_le (by omega) n k
theorem blen_pow (n : Nat) (h : 0 < n) : 2 ^ (blen n - 1) ≤ n := dig_len_pow (by omega) n h
theorem blen_pos (n : Nat) : 0 < blen n ↔ 0 < n := by
  have := dig_len_zero (B := 2) (by omega) n
  unfold blen; omega
theorem blen_half (n : Nat) (h : 0 < n) : blen n = blen (n / 2) + 1 := by unfold blen; rw [dig_pos (by omega) h, List.length_cons]

theorem blen_eq {n k : Nat} (h1 : 2 ^ k ≤ n) (h2 : n < 2 ^ (k + 1)) : blen n = k + 1 := by
  have a := (blen_le n (k + 1)).2 h2
  have b : ¬ blen n ≤ k := fun h => by have := (blen_le n k).1 h; omega
  omega

theorem blen_dig {B s : Nat} (hB : B = 2 ^ s) (h2 : 2 ≤ B) (n : Nat) (h : 0 < n) : blen n = s * ((dig B n).length - 1) + blen (dg (dig B n) ((dig B n).length - 1)) ∧ 0 < dg (dig B n) ((dig B n).length - 1) := by
  have hl : 0 < (dig B n).length := List.length_pos_iff.2 ((dig_spec h2 n).2.2.2 h)
  have hv := val_cut B (dig B n) ((dig B n).length - 1) (by omega)
  rw [val_dig h2, show (dig B n).length - 1 + 1 = (dig B n).length by omega, List.drop_length, val_nil, Nat.mul_zero, Nat.add_zero] at hv
  have ht := val_take_lt (dig B n) (dig_lt h2 n) ((dig B n).length - 1) (by omega)
  have hp := dig_len_pow h2 n h
  generalize dg (dig B n) ((dig B n).length - 1) = d at *
  generalize (dig B n).length - 1 = k at *
  generalize val B ((dig B n).take k) = t at *
  have hd : 0 < d := by
    rcases Nat.eq_zero_or_pos d with h0 | h0
    · subst h0; omega
    · exact h0
  refine ⟨?_, hd⟩
  have b1 := blen_pow d hd
  have b2 := (blen_le d (blen d)).1 (Nat.le_refl _)
  have b3 := (blen_pos d).2 hd
  obtain ⟨m, hm⟩ : ∃ m, blen d = m + 1 := ⟨blen d - 1, by omega⟩
  rw [hm] at b1 b2 ⊢
  have e : B ^ k = 2 ^ (s * k) := by rw [hB, Nat.pow_mul]
  rw [e] at hv ht
  rw [← Nat.add_assoc]
  refine blen_eq ?_ ?_
  · rw [Nat.pow_add]
    have := Nat.mul_le_mul_left (2 ^ (s * k)) b1
    simp at this
    omega
  · rw [Nat.add_assoc, Nat.pow_add]
    have := Nat.mul_le_mul_left (2 ^ (s * k)) (show d + 1 ≤ 2 ^ (m + 1) from b2)
    rw [Nat.mul_add, Nat.mul_one] at this
    omega

/-! ### Differences, digit by digit -/
theorem sub_step {B : Nat} (L : List Nat) (i y br T : Nat) (hi : i < L.length) (d : Nat) (hd : d + y + br = dg L i + B * (if dg L i < y + br then 1 else 0))
    (V : Nat) (h : val B L + V = T + br * B ^ i) :
    val B (L.set i d) + (V + B ^ i * y) = T + (if dg L i < y + br then 1 else 0) * B ^ (i + 1) := by
  have h1 := val_set B L i d hi
  rw [Nat.pow_succ]
  generalize (if dg L i < y + br then 1 else 0) = q at *
  generalize dg L i = x at *
  have h3 : B ^ i * (d + y + br) = B ^ i * (x + B * q) := by rw [hd]
  grind

def SubRel (L ys : List Nat) (i br a : Nat) : Prop := (∀ x ∈ L, x < B32) ∧ val B32 L + val B32 (ys.take i) = a + br * B32 ^ i

/-- One digit of a difference, and what is owed. -/
def subD (x y br : Nat) : Nat := (x + (4294967296 - y) + (4294967296 - br)) % 4294967296
def subB (x y br : Nat) : Nat := if x < y + br then 1 else 0

theorem SubRel.step {L ys : List Nat} {i br a : Nat} (h : SubRel L ys i br a) (hi : i < L.length) (hy : ∀ x ∈ ys, x < B32) (hb : br ≤ 1) :
    SubRel (L.set i (subD (dg L i) (dg ys i) br)) ys (i + 1) (subB (dg L i) (dg ys i) br) a := by
  have h1 := getD_lt (B := 4294967296) (by omega) L h.1 i
  have h2 := getD_lt (B := 4294967296) (by omega) ys hy i
  refine ⟨set_lt L h.1 i _ (Nat.mod_lt _ (by omega)), ?_⟩
  rw [val_take_succ]
  refine sub_step L i _ br a hi _ ?_ _ h.2
  unfold subD B32
  split <;> omega

theorem subB_le (x y br : Nat) : subB x y br ≤ 1 := by unfold subB; split <;> omega

theorem SubRel.start (a : Nat) (ys : List Nat) : SubRel (dig B32 a) ys 0 0 a := ⟨dig_lt B32_two a, by simp [val_dig B32_two]⟩

theorem SubRel.done {L ys : List Nat} {i br a b : Nat} (h : SubRel L ys i br a) (hi : ys.length ≤ i) (hy : val B32 ys = b) (hab : b ≤ a) (hl : L.length ≤ i ∨ br = 0) (hL : val B32 L < B32 ^ L.length) : val B32 L = a - b := by
  have h2 := h.2
  rw [val_take_all _ _ _ hi, hy] at h2
  rcases hl with hl | rfl
  · have hp : B32 ^ L.length ≤ B32 ^ i := Nat.pow_le_pow_right B32_pos hl
    have : br = 0 := by
      rcases Nat.eq_zero_or_pos br with h0 | h0
      · exact h0
      · have := Nat.le_mul_of_pos_left (B32 ^ i) h0; omega
    subst this; omega
  · omega

/-- The references' difference. -/
def LessRel (O xs ys : List Nat) (i br : Nat) : Prop := (∀ x ∈ O, x < B16) ∧ O.length = i ∧ br ≤ 1 ∧ val B16 O + val B16 (ys.take i) = val B16 (xs.take i) + br * B16 ^ i

theorem LessRel.start (xs ys : List Nat) : LessRel [] xs ys 0 0 := ⟨by simp, rfl, by omega, by simp⟩

theorem LessRel.step {O xs ys : List Nat} {i br : Nat} (h : LessRel O xs ys i br) (d br' : Nat) (hd : d < B16) (hb : br' ≤ 1) (he : d + dg ys i + br = dg xs i + B16 * br') : LessRel (O ++ [d]) xs ys (i + 1) br' := by
  obtain ⟨h1, h2, h3, h4⟩ := h
  refine ⟨fun x hm => ?_, by simp [h2], hb, ?_⟩
  · rcases List.mem_append.1 hm with hm | hm
    · exact h1 x hm
    · simp at hm; omega
  · rw [val_snoc, val_take_succ, val_take_succ, h2, Nat.pow_succ]
    have e : B16 ^ i * (d + dg ys i + br) = B16 ^ i * (dg xs i + B16 * br') := by rw [he]
    grind

theorem LessRel.done {O xs ys : List Nat} {br a b : Nat} (h : LessRel O xs ys xs.length br) (hx : val B16 xs = a) (hy : val B16 ys = b) (hl : ys.length ≤ xs.length) (hab : b ≤ a) : val B16 O = a - b := by
  obtain ⟨h1, h2, h3, h4⟩ := h
  rw [val_take_all _ _ _ hl, List.take_length, hx, hy] at h4
  have hO := val_lt B16 O h1
  rw [h2] at hO
  have : br = 0 := by
    rcases Nat.eq_zero_or_pos br with h0 | h0
    · exact h0
    · have := Nat.le_mul_of_pos_left (B16 ^ xs.length) h0; omega
  subst this; omega

end Go.Slip

namespace Go.Slip

theorem val_dvd {B p : Nat} (hp : B % p = 0) (xs : List Nat) : val B xs % p = dg xs 0 % p := by
  cases xs with
  | nil => simp [dg]
  | cons x xs =>
    have : dg (x :: xs) 0 = x := by simp [dg]
    rw [this, val_cons]
    obtain ⟨q, rfl⟩ := Nat.dvd_of_mod_eq_zero hp
    rw [Nat.mul_assoc, Nat.add_mul_mod_self_left]

theorem div_split (B p x V : Nat) (hp : 0 < p) (hB : B % p = 0) : (x + B * V) / p = x / p + V % p * (B / p) + B * (V / p) := by
  obtain ⟨q, rfl⟩ := Nat.dvd_of_mod_eq_zero hB
  rw [Nat.mul_div_cancel_left _ hp, Nat.mul_assoc, Nat.add_mul_div_left _ _ hp]
  have h := Nat.mod_add_div V p
  generalize V % p = r at *
  generalize V / p = s at *
  subst h
  grind

/-- One step of a division by a power of 2: the digit. -/
theorem shr_step {B p : Nat} (hp : 0 < p) (hB : B % p = 0) (Y : List Nat) (i : Nat) (hi : i < Y.length) :
    val B (Y.drop i) / p = (dg Y i / p + dg Y (i + 1) % p * (B / p)) + B * (val B (Y.drop (i + 1)) / p) := by
  rw [val_drop B Y i hi, div_split B p _ _ hp hB, val_dvd hB]
  have : dg (Y.drop (i + 1)) 0 = dg Y (i + 1) := by rw [dg_drop]
  rw [this]

theorem shr_lt {B p x y : Nat} (hp : 0 < p) (hB : B % p = 0) (hx : x < B) : x / p + y % p * (B / p) < B := by
  obtain ⟨q, rfl⟩ := Nat.dvd_of_mod_eq_zero hB
  rw [Nat.mul_div_cancel_left _ hp]
  have h1 : x / p < q := by rw [Nat.div_lt_iff_lt_mul hp, Nat.mul_comm]; exact hx
  have h2 : y % p + 1 ≤ p := Nat.mod_lt _ hp
  have h3 := Nat.mul_le_mul_right q h2
  rw [Nat.add_mul, Nat.one_mul] at h3
  omega

/-- In the midst of a shift to the right in place. -/
def ShrRel (B p : Nat) (L Y : List Nat) (i : Nat) : Prop :=
  (∀ x ∈ L, x < B) ∧ L.length = Y.length ∧ (∀ j, i ≤ j → dg L j = dg Y j) ∧ val B (L.take i) + B ^ i * (val B (Y.drop i) / p) = val B Y / p

theorem ShrRel.start {B p : Nat} {Y : List Nat} (h : ∀ x ∈ Y, x < B) : ShrRel B p Y Y 0 := ⟨h, rfl, fun _ _ => rfl, by simp⟩

theorem take_set_same (L : List Nat) (i v : Nat) : (L.set i v).take i = L.take i := by
  apply List.ext_getElem?
  intro j
  rw [List.getElem?_take, List.getElem?_take]
  by_cases h : j < i
  · rw [if_pos h, if_pos h, List.getElem?_set_ne (by omega)]
  · rw [if_neg h, if_neg h]

theorem ShrRel.step {B p : Nat} {L Y : List Nat} {i : Nat} (h : ShrRel B p L Y i) (hp : 0 < p) (hB : B % p = 0) (hY : ∀ x ∈ Y, x < B) (hi : i < Y.length) (v : Nat) (hv : v = dg Y i / p + dg Y (i + 1) % p * (B / p)) : ShrRel B p (L.set i v) Y (i + 1) := by
  obtain ⟨h1, h2, h3, h4⟩ := h
  have hx : dg Y i < B := by rw [dg_of_lt hi]; exact hY _ (List.getElem_mem hi)
  refine ⟨set_lt L h1 i v (by rw [hv]; exact shr_lt hp hB hx), by simpa using h2, fun j hj => ?_, ?_⟩
  · rw [dg_set_ne (by omega)]; exact h3 j (by omega)
  · rw [val_take_succ, take_set_same, dg_set_same (by omega), ← h4, shr_step hp hB Y i hi, ← hv, Nat.pow_succ]
    grind

theorem ShrRel.done {B p : Nat} {L Y : List Nat} (h : ShrRel B p L Y Y.length) : val B L = val B Y / p := by
  have h4 := h.2.2.2
  rw [← h.2.1] at h4
  rw [List.take_length, h.2.1, List.drop_length] at h4
  simpa using h4

/-- The same with a list that grows. -/
def DownRel (B p : Nat) (O Y : List Nat) (i : Nat) : Prop := (∀ x ∈ O, x < B) ∧ O.length = i ∧ val B O + B ^ i * (val B (Y.drop i) / p) = val B Y / p

theorem DownRel.start (B p : Nat) (Y : List Nat) : DownRel B p [] Y 0 := ⟨by simp, rfl, by simp⟩

theorem DownRel.step {B p : Nat} {O Y : List Nat} {i : Nat} (h : DownRel B p O Y i) (hp : 0 < p) (hB : B % p = 0) (hY : ∀ x ∈ Y, x < B) (hi : i < Y.length) (v : Nat) (hv : v = dg Y i / p + dg Y (i + 1) % p * (B / p)) : DownRel B p (O ++ [v]) Y (i + 1) := by
  obtain ⟨h1, h2, h4⟩ := h
  have hx : dg Y i < B := by rw [dg_of_lt hi]; exact hY _ (List.getElem_mem hi)
  refine ⟨fun x hm => ?_, by simp [h2], ?_⟩
  · rcases List.mem_append.1 hm with hm | hm
    · exact h1 x hm
    · simp at hm; rw [hm, hv]; exact shr_lt hp hB hx
  · rw [val_snoc, h2, ← h4, shr_step hp hB Y i hi, ← hv, Nat.pow_succ]
    grind

theorem DownRel.done {B p : Nat} {O Y : List Nat} (h : DownRel B p O Y Y.length) : val B O = val B Y / p := by
  have h4 := h.2.2
  rw [List.drop_length] at h4
  simpa using h4

theorem val_drop_div {B : Nat} (hB : 0 < B) (xs : List Nat) (hx : ∀ x ∈ xs, x < B) (k : Nat) : val B (xs.drop k) = val B xs / B ^ k := by
  by_cases hk : k ≤ xs.length
  · rw [val_take_drop B xs k hk]
    have := val_take_lt xs hx k hk
    rw [Nat.add_mul_div_left _ _ (Nat.pow_pos hB), Nat.div_eq_of_lt this, Nat.zero_add]
  · rw [List.drop_of_length_le (by omega), val_nil]
    have h1 := val_lt B xs hx
    have h2 : B ^ xs.length ≤ B ^ k := Nat.pow_le_pow_right hB (by omega)
    rw [Nat.div_eq_of_lt (by omega)]

theorem shift_split {B w : Nat} (hB : B = 2 ^ w) (a N : Nat) : a / B ^ (N / w) / 2 ^ (N % w) = a / 2 ^ N := by
  rw [Nat.div_div_eq_div_mul, hB, ← Nat.pow_mul, ← Nat.pow_add, Nat.div_add_mod]

theorem pow_mod_zero {w s : Nat} (h : s ≤ w) : 2 ^ w % 2 ^ s = 0 := Nat.mod_eq_zero_of_dvd (Nat.pow_dvd_pow 2 h)

theorem div_of_big {B w : Nat} (hB : B = 2 ^ w) (h2 : 2 ≤ B) (a N : Nat) (h : (dig B a).length ≤ N / w) : a / 2 ^ N = 0 := by
  have h1 := (dig_len_le h2 a _).1 h
  rw [hB, ← Nat.pow_mul] at h1
  have h3 : 2 ^ (w * (N / w)) ≤ 2 ^ N := Nat.pow_le_pow_right (by omega) (Nat.mul_div_le N w)
  exact Nat.div_eq_of_lt (by omega)

/-! ### To the left -/
def ShlRel (B k p : Nat) (O xs : List Nat) (i cr : Nat) : Prop := (∀ x ∈ O, x < B) ∧ O.length = k + i ∧ cr < p ∧ val B O + cr * B ^ (k + i) = B ^ k * (val B (xs.take i) * p)

theorem ShlRel.start {B k p : Nat} (hB : 0 < B) (hp : 0 < p) (xs : List Nat) : ShlRel B k p (List.replicate k 0) xs 0 0 :=
  ⟨fun x h => by rw [(List.mem_replicate.1 h).2]; exact hB, by simp, hp, by simp [val_replicate]⟩

theorem ShlRel.step {B k p : Nat} {O xs : List Nat} {i cr : Nat} (h : ShlRel B k p O xs i cr) (hx : dg xs i < B) (t : Nat) (ht : t = dg xs i * p + cr) : ShlRel B k p (O ++ [t % B]) xs (i + 1) (t / B) := by
  obtain ⟨h1, h2, h3, h4⟩ := h
  have hB : 0 < B := by omega
  refine ⟨fun x hm => ?_, by simp [h2]; omega, ?_, ?_⟩
  · rcases List.mem_append.1 hm with hm | hm
    · exact h1 x hm
    · simp at hm; rw [hm]; exact Nat.mod_lt _ hB
  · rw [Nat.div_lt_iff_lt_mul hB, ht]
    have := Nat.mul_le_mul_right p (show dg xs i + 1 ≤ B from hx)
    rw [Nat.add_mul, Nat.one_mul] at this
    rw [Nat.mul_comm p B]; omega
  · rw [val_snoc, h2, val_take_succ, ← Nat.add_assoc, Nat.pow_succ]
    have h5 := Nat.div_add_mod t B
    generalize t / B = q at *
    generalize t % B = r at *
    have e : B ^ (k + i) * (B * q + r) = B ^ (k + i) * (dg xs i * p + cr) := by rw [h5, ht]
    have e2 : B ^ (k + i) = B ^ k * B ^ i := Nat.pow_add _ _ _
    rw [e2] at *
    grind

theorem ShlRel.done {B k p : Nat} {O xs : List Nat} {cr a : Nat} (h : ShlRel B k p O xs xs.length cr) (hp : p ≤ B) (hx : val B xs = a) : (∀ x ∈ O ++ [cr], x < B) ∧ val B (O ++ [cr]) = a * (B ^ k * p) := by
  obtain ⟨h1, h2, h3, h4⟩ := h
  refine ⟨fun x hm => ?_, ?_⟩
  · rcases List.mem_append.1 hm with hm | hm
    · exact h1 x hm
    · simp at hm; omega
  · rw [val_snoc, h2, Nat.mul_comm (B ^ _) cr, h4, List.take_length, hx]
    grind

theorem shl_split {B w : Nat} (hB : B = 2 ^ w) (N : Nat) : B ^ (N / w) * 2 ^ (N % w) = 2 ^ N := by
  rw [hB, ← Nat.pow_mul, ← Nat.pow_add, Nat.div_add_mod]

theorem pow2_dig {B w : Nat} (hB : B = 2 ^ w) (hw : 0 < w) (N : Nat) : (List.replicate (N / w + 1) 0).set (N / w) (2 ^ (N % w)) = dig B (2 ^ N) := by
  have h2 : 2 ≤ B := by rw [hB]; calc 2 = 2 ^ 1 := rfl
                              _ ≤ 2 ^ w := Nat.pow_le_pow_right (by omega) hw
  have hd : 2 ^ (N % w) < B := by rw [hB]; exact (Nat.pow_lt_pow_iff_right (by omega)).2 (Nat.mod_lt _ hw)
  have hv := val_set B (List.replicate (N / w + 1) 0) (N / w) (2 ^ (N % w)) (by simp)
  rw [dg_replicate, val_replicate, shl_split hB N] at hv
  have hx : ∀ x ∈ (List.replicate (N / w + 1) 0).set (N / w) (2 ^ (N % w)), x < B := set_lt _ (fun x h => by rw [(List.mem_replicate.1 h).2]; omega) _ _ hd
  refine dig_eq h2 _ _ hx (tight_of_ge _ hx (.inr ?_)) (by omega)
  rw [List.length_set, List.length_replicate, Nat.add_sub_cancel]
  have := shl_split hB N
  have h3 := Nat.le_mul_of_pos_right (B ^ (N / w)) (show 0 < 2 ^ (N % w) from Nat.pow_pos (by omega))
  omega

end Go.Slip

namespace Go.Slip

/-- Within a group of four: d is what is left of it, A what is above it. -/
def GrpIn (N : Nat) (D : List Nat) (i d A : Nat) : Prop := (∀ x ∈ D, x < 10) ∧ d < 10 ^ (4 - i) ∧ N = val 10 D + 10 ^ D.length * (d + 10 ^ (4 - i) * A)
def GrpOut (N : Nat) (D : List Nat) (A : Nat) : Prop := (∀ x ∈ D, x < 10) ∧ N = val 10 D + 10 ^ D.length * A

theorem GrpOut.start (N : Nat) : GrpOut N [] N := ⟨by simp, by simp⟩

theorem GrpOut.enter {N : Nat} {D : List Nat} {A : Nat} (h : GrpOut N D A) : GrpIn N D 0 (A % 10000) (A / 10000) := by
  refine ⟨h.1, Nat.mod_lt _ (by omega), ?_⟩
  rw [h.2]
  congr 2
  have := Nat.mod_add_div A 10000
  show A = A % 10000 + 10000 * (A / 10000)
  omega

theorem GrpIn.step {N : Nat} {D : List Nat} {i d A : Nat} (h : GrpIn N D i d A) (hi : i < 4) : GrpIn N (D ++ [d % 10]) (i + 1) (d / 10) A := by
  obtain ⟨h1, h2, h3⟩ := h
  have e : 4 - i = 4 - (i + 1) + 1 := by omega
  rw [e, Nat.pow_succ] at h2 h3
  refine ⟨fun x hx => ?_, by omega, ?_⟩
  · rcases List.mem_append.1 hx with hx | hx
    · exact h1 x hx
    · simp at hx; omega
  · rw [h3, val_snoc, List.length_append, List.length_singleton, Nat.pow_succ]
    have := Nat.mod_add_div d 10
    generalize d % 10 = s at *
    generalize d / 10 = q at *
    subst this
    grind

theorem GrpIn.leave {N : Nat} {D : List Nat} {d A : Nat} (h : GrpIn N D 4 d A) : GrpOut N D A := by
  obtain ⟨h1, h2, h3⟩ := h
  have hd : d = 0 := by simpa using h2
  subst hd
  exact ⟨h1, by rw [h3]; simp⟩

theorem GrpOut.size {N : Nat} {D : List Nat} {A : Nat} (h : GrpOut N D A) (hA : 0 < A) : D.length ≤ 16 * (dig B16 N).length := by
  have h1 : 10 ^ D.length ≤ N := by
    rw [h.2]
    have := Nat.le_mul_of_pos_right (10 ^ D.length) hA
    omega
  have h2 := (dig_len_le B16_two N _).1 (Nat.le_refl _)
  have h3 : B16 ^ (dig B16 N).length = 2 ^ (16 * (dig B16 N).length) := by rw [Nat.pow_mul]; congr 1
  have h4 : 2 ^ D.length ≤ 10 ^ D.length := Nat.pow_le_pow_left (by omega) _
  have h5 : 2 ^ D.length < 2 ^ (16 * (dig B16 N).length) := by rw [← h3]; omega
  exact Nat.le_of_lt ((Nat.pow_lt_pow_iff_right (by omega)).1 h5)

end Go.Slip

namespace Go.Slip

/-- In the midst of 'times ten and d more' in place. -/
def MaRel (L X : List Nat) (ten d0 i d : Nat) : Prop :=
  (∀ x ∈ L, x < B32) ∧ L.length = X.length ∧ (∀ j, i ≤ j → dg L j = dg X j) ∧ val B32 (L.take i) + d * B32 ^ i = val B32 (X.take i) * ten + d0

theorem MaRel.start {X : List Nat} (h : ∀ x ∈ X, x < B32) (ten d0 : Nat) : MaRel X X ten d0 0 d0 := ⟨h, rfl, fun _ _ => rfl, by simp⟩

theorem MaRel.step {L X : List Nat} {ten d0 i d : Nat} (h : MaRel L X ten d0 i d) (hi : i < X.length) (t : Nat) (ht : t = dg X i * ten + d) : MaRel (L.set i (t % B32)) X ten d0 (i + 1) (t / B32) := by
  obtain ⟨h1, h2, h3, h4⟩ := h
  refine ⟨set_lt L h1 i _ (Nat.mod_lt _ B32_pos), by simpa using h2, fun j hj => ?_, ?_⟩
  · rw [dg_set_ne (by omega)]; exact h3 j (by omega)
  · rw [val_take_succ, take_set_same, dg_set_same (by omega), val_take_succ, Nat.pow_succ]
    have h5 := Nat.div_add_mod t B32
    generalize t / B32 = q at *
    generalize t % B32 = r at *
    have e : B32 ^ i * (B32 * q + r) = B32 ^ i * (dg X i * ten + d) := by rw [h5, ht]
    grind

theorem MaRel.done0 {L : List Nat} {ten d0 a : Nat} (h : MaRel L (dig B32 a) ten d0 (dig B32 a).length 0) (h1 : 0 < ten) : L = dig B32 (a * ten + d0) := by
  have h4 := h.2.2.2
  rw [List.take_length, val_dig B32_two, ← h.2.1, List.take_length] at h4
  obtain ⟨m, rfl⟩ : ∃ m, ten = m + 1 := ⟨ten - 1, by omega⟩
  have e : a * (m + 1) + d0 = a + (a * m + d0) := by grind
  rw [e] at h4 ⊢
  exact add_end0 B32_two L a _ h.1 h.2.1 (by omega)

theorem MaRel.done1 {L : List Nat} {ten d0 a d : Nat} (h : MaRel L (dig B32 a) ten d0 (dig B32 a).length d) (h1 : 0 < d) (h2 : d < B32) : L ++ [d] = dig B32 (a * ten + d0) := by
  have h4 := h.2.2.2
  rw [List.take_length, val_dig B32_two, ← h.2.1, List.take_length] at h4
  exact add_end1 B32_two L d _ h.1 h1 h2 h4

end Go.Slip

namespace Go.Slip

/-- What the upper digits say of a number: W of n + 1 digits, V of n digits (n = m + 2). -/
theorem trial_ge {B P V W top two q : Nat} (hV : top * (B * P) ≤ V) (hW : W < (two + 1) * (B * P)) (hq : q * V ≤ W) : q * top ≤ two := by
  have h1 : q * (top * (B * P)) ≤ q * V := Nat.mul_le_mul_left q hV
  have h2 : (q * top) * (B * P) < (two + 1) * (B * P) := by rw [Nat.mul_assoc]; omega
  have h3 := Nat.lt_of_mul_lt_mul_right h2
  omega

theorem trial_down {B P V W top next two w0 r t q : Nat} (hV : (top * B + next) * P ≤ V) (hW : W < (two * B + w0 + 1) * P) (hq : q * V ≤ W) (ht : t * top + r = two) (hc : r * B + w0 < t * next) : q ≠ t := by
  rintro rfl
  have h1 : q * ((top * B + next) * P) ≤ q * V := Nat.mul_le_mul_left q hV
  have h2 : (q * (top * B + next)) * P < (two * B + w0 + 1) * P := by rw [Nat.mul_assoc]; omega
  have h3 := Nat.lt_of_mul_lt_mul_right h2
  subst ht
  grind

theorem trial_le {B P V W top next two w0 r t q : Nat} (hV : V < (top * B + next + 1) * P) (hW : (two * B + w0) * P ≤ W) (hq : W < (q + 1) * V) (ht : t * top + r = two) (hc : t * next ≤ r * B + w0) (hp : t * P ≤ V) : t ≤ q + 1 := by
  have h1 : t * V ≤ t * ((top * B + next + 1) * P) := Nat.mul_le_mul_left t (Nat.le_of_lt hV)
  have h2 : t * (top * B + next) ≤ two * B + w0 := by subst ht; grind
  have h3 : (t * (top * B + next)) * P ≤ (two * B + w0) * P := Nat.mul_le_mul_right P h2
  have h4 : t * V ≤ W + V := by
    have e : t * ((top * B + next + 1) * P) = (t * (top * B + next)) * P + t * P := by grind
    omega
  have h5 : t * V < (q + 2) * V := by
    have e : (q + 2) * V = (q + 1) * V + V := by grind
    omega
  have := Nat.lt_of_mul_lt_mul_right h5
  omega

/-! ### t times a number is taken from a window of a row -/
def WinOut (L X : List Nat) (j i : Nat) : Prop := (∀ x ∈ L, x < B32) ∧ L.length = X.length ∧ ∀ k, k < j ∨ j + i ≤ k → dg L k = dg X k

theorem WinOut.refl {X : List Nat} (h : ∀ x ∈ X, x < B32) (j : Nat) : WinOut X X j 0 := ⟨h, rfl, fun _ _ => rfl⟩

theorem WinOut.step {L X : List Nat} {j i v : Nat} (h : WinOut L X j i) (hv : v < B32) : WinOut (L.set (j + i) v) X j (i + 1) := by
  obtain ⟨h1, h2, h3⟩ := h
  refine ⟨set_lt L h1 _ _ hv, by simpa using h2, fun k hk => ?_⟩
  rw [dg_set_ne (by omega)]
  exact h3 k (by omega)

def LessW (L X ys : List Nat) (j t i cr br : Nat) : Prop :=
  WinOut L X j i ∧ val B32 (L.take (j + i)) + B32 ^ j * (t * val B32 (ys.take i)) = val B32 (X.take (j + i)) + (cr + br) * B32 ^ (j + i)

theorem take_eq_of {L X : List Nat} {j : Nat} (hl : L.length = X.length) (h : ∀ k, k < j → dg L k = dg X k) : L.take j = X.take j := by
  apply list_ext_dg
  · simp [hl]
  · intro k hk
    simp only [List.length_take] at hk
    rw [dg_take (by omega), dg_take (by omega)]
    exact h k (by omega)

theorem LessW.start {X : List Nat} (h : ∀ x ∈ X, x < B32) (ys : List Nat) (j t : Nat) : LessW X X ys j t 0 0 0 := ⟨WinOut.refl h j, by simp⟩

theorem subD_eq (x y br : Nat) (hx : x < 4294967296) (hy : y < 4294967296) (hb : br ≤ 1) : subD x y br + y + br = x + B32 * subB x y br := by
  unfold subD subB B32; split <;> omega

theorem LessW.step {L X ys : List Nat} {j t i cr br : Nat} (h : LessW L X ys j t i cr br) (hj : j + i < X.length) (hX : dg X (j + i) < 4294967296) (hb : br ≤ 1) (p : Nat) (hp : p = dg ys i * t + cr) :
    LessW (L.set (j + i) (subD (dg L (j + i)) (p % 4294967296) br)) X ys j t (i + 1) (p / 4294967296) (subB (dg L (j + i)) (p % 4294967296) br) := by
  obtain ⟨h1, h2⟩ := h
  have hx : dg L (j + i) = dg X (j + i) := h1.2.2 _ (.inr (Nat.le_refl _))
  rw [hx]
  refine ⟨h1.step (Nat.mod_lt _ (by omega)), ?_⟩
  have e1 := subD_eq (dg X (j + i)) (p % 4294967296) br hX (Nat.mod_lt _ (by omega)) hb
  have e2 := Nat.div_add_mod p 4294967296
  rw [show j + (i + 1) = j + i + 1 by omega, val_take_succ, take_set_same, dg_set_same (by rw [h1.2.1]; exact hj), val_take_succ, val_take_succ, Nat.pow_succ]
  rw [show (4294967296 : Nat) = B32 from rfl] at *
  generalize subD (dg X (j + i)) (p % B32) br = d at *
  generalize subB (dg X (j + i)) (p % B32) br = b at *
  generalize p % B32 = pl at *
  generalize p / B32 = ph at *
  generalize dg X (j + i) = x at *
  generalize val B32 (L.take (j + i)) = vl at *
  generalize val B32 (X.take (j + i)) = vx at *
  generalize val B32 (ys.take i) = vy at *
  have e3 : B32 ^ (j + i) = B32 ^ j * B32 ^ i := Nat.pow_add _ _ _
  rw [e3] at h2 ⊢
  clear e3
  generalize B32 ^ j = P at *
  generalize B32 ^ i = Q at *
  subst hp
  have e4 : P * Q * (d + pl + br) = P * Q * (x + B32 * b) := by rw [e1]
  have e5 : P * Q * (B32 * ph + pl) = P * Q * (dg ys i * t + cr) := by rw [e2]
  grind

/-- The last digit of the window: what was carried and what is owed are taken from it. -/
theorem LessW.last {L X ys : List Nat} {j t cr br : Nat} (h : LessW L X ys j t ys.length cr br) (hj : j + ys.length < X.length) (hX : dg X (j + ys.length) < 4294967296) (hb : br ≤ 1) (hc : cr < 4294967296) :
    WinOut (L.set (j + ys.length) (subD (dg L (j + ys.length)) cr br)) X j (ys.length + 1) ∧
      val B32 (L.set (j + ys.length) (subD (dg L (j + ys.length)) cr br)) + B32 ^ j * (t * val B32 ys) = val B32 X + subB (dg L (j + ys.length)) cr br * B32 ^ (j + ys.length + 1) := by
  obtain ⟨h1, h2⟩ := h
  have hx : dg L (j + ys.length) = dg X (j + ys.length) := h1.2.2 _ (.inr (Nat.le_refl _))
  have hw := h1.step (v := subD (dg L (j + ys.length)) cr br) (Nat.mod_lt _ (by omega))
  refine ⟨hw, ?_⟩
  have e1 := subD_eq (dg X (j + ys.length)) cr br hX hc hb
  rw [List.take_length] at h2
  rw [hx] at hw ⊢
  have hd : (L.set (j + ys.length) (subD (dg X (j + ys.length)) cr br)).drop (j + ys.length + 1) = X.drop (j + ys.length + 1) := by
    apply list_ext_dg
    · simp [h1.2.1]
    · intro k hk
      rw [dg_drop, dg_drop]
      exact hw.2.2 _ (.inr (by omega))
  rw [val_take_drop B32 _ (j + ys.length + 1) (by rw [hw.2.1]; omega), val_take_drop B32 X (j + ys.length + 1) (by omega), hd]
  rw [val_take_succ, take_set_same, dg_set_same (by rw [h1.2.1]; exact hj), val_take_succ]
  generalize subD (dg X (j + ys.length)) cr br = d at *
  generalize subB (dg X (j + ys.length)) cr br = b at *
  generalize dg X (j + ys.length) = x at *
  generalize val B32 (X.drop (j + ys.length + 1)) = u at *
  generalize val B32 (L.take (j + ys.length)) = vl at *
  generalize val B32 (X.take (j + ys.length)) = vx at *
  rw [Nat.pow_succ]
  generalize B32 ^ (j + ys.length) = P at *
  have e4 : P * (d + cr + br) = P * (x + B32 * b) := by rw [e1]
  grind

/-! ### a number is added to a window of a row -/
def MoreW (L X ys : List Nat) (j i cr : Nat) : Prop :=
  WinOut L X j i ∧ val B32 (L.take (j + i)) + cr * B32 ^ (j + i) = val B32 (X.take (j + i)) + B32 ^ j * val B32 (ys.take i)

theorem MoreW.start {X : List Nat} (h : ∀ x ∈ X, x < B32) (ys : List Nat) (j : Nat) : MoreW X X ys j 0 0 := ⟨WinOut.refl h j, by simp⟩

theorem MoreW.step {L X ys : List Nat} {j i cr : Nat} (h : MoreW L X ys j i cr) (hj : j + i < X.length) (t : Nat) (ht : t = dg L (j + i) + dg ys i + cr) :
    MoreW (L.set (j + i) (t % 4294967296)) X ys j (i + 1) (t / 4294967296) := by
  obtain ⟨h1, h2⟩ := h
  have hx : dg L (j + i) = dg X (j + i) := h1.2.2 _ (.inr (Nat.le_refl _))
  rw [hx] at ht
  refine ⟨h1.step (Nat.mod_lt _ (by omega)), ?_⟩
  have e2 := Nat.div_add_mod t 4294967296
  rw [show j + (i + 1) = j + i + 1 by omega, val_take_succ, take_set_same, dg_set_same (by rw [h1.2.1]; exact hj), val_take_succ, val_take_succ, Nat.pow_succ]
  rw [show (4294967296 : Nat) = B32 from rfl] at *
  generalize t % B32 = pl at *
  generalize t / B32 = ph at *
  generalize dg X (j + i) = x at *
  generalize val B32 (L.take (j + i)) = vl at *
  generalize val B32 (X.take (j + i)) = vx at *
  generalize val B32 (ys.take i) = vy at *
  have e3 : B32 ^ (j + i) = B32 ^ j * B32 ^ i := Nat.pow_add _ _ _
  rw [e3] at h2 ⊢
  clear e3
  generalize B32 ^ j = P at *
  generalize B32 ^ i = Q at *
  subst ht
  have e5 : P * Q * (B32 * ph + pl) = P * Q * (x + dg ys i + cr) := by rw [e2]
  grind

end Go.Slip

namespace Go.Slip

theorem val_drop0 (B : Nat) (xs : List Nat) (j : Nat) : val B (xs.drop j) = dg xs j + B * val B (xs.drop (j + 1)) := by
  by_cases h : j < xs.length
  · exact val_drop B xs j h
  · rw [List.drop_of_length_le (by omega), List.drop_of_length_le (by omega), dg_of_ge (by omega)]; simp

theorem val_take_drop0 (B : Nat) (xs : List Nat) (k : Nat) : val B xs = val B (xs.take k) + B ^ k * val B (xs.drop k) := by
  by_cases h : k ≤ xs.length
  · exact val_take_drop B xs k h
  · rw [List.take_of_length_le (by omega), List.drop_of_length_le (by omega)]; simp

theorem val_take_lt0 {B : Nat} (hB : 0 < B) (xs : List Nat) (hx : ∀ x ∈ xs, x < B) (k : Nat) : val B (xs.take k) < B ^ k := by
  refine Nat.lt_of_lt_of_le (val_lt B _ fun x h => hx x (List.mem_of_mem_take h)) (Nat.pow_le_pow_right hB ?_)
  simp; omega

/-- The uppermost three digits tell of a number. -/
theorem top3 {B : Nat} (hB : 0 < B) (xs : List Nat) (hx : ∀ x ∈ xs, x < B) (m : Nat) (h0 : val B (xs.drop (m + 3)) = 0) :
    ((dg xs (m + 2) * B + dg xs (m + 1)) * B + dg xs m) * B ^ m ≤ val B xs ∧ val B xs < ((dg xs (m + 2) * B + dg xs (m + 1)) * B + dg xs m + 1) * B ^ m := by
  have h1 := val_take_drop0 B xs m
  have h2 := val_take_lt0 hB xs hx m
  have e : val B (xs.drop m) = (dg xs (m + 2) * B + dg xs (m + 1)) * B + dg xs m := by
    rw [val_drop0 B xs m, val_drop0 B xs (m + 1), val_drop0 B xs (m + 2), h0]; grind
  rw [e] at h1
  generalize (dg xs (m + 2) * B + dg xs (m + 1)) * B + dg xs m = T at *
  rw [h1, Nat.mul_comm T, Nat.mul_comm (T + 1), Nat.mul_add]
  omega

structure DivRel (A V n : Nat) (U Q : List Nat) (k : Nat) : Prop where
  dU : ∀ x ∈ U, x < B32
  dQ : ∀ x ∈ Q, x < B32
  len : U.length = Q.length + n
  top : val B32 (U.drop k) < V
  sum : val B32 U + val B32 Q * V = A
  zero : ∀ i, i < k → dg Q i = 0

theorem DivRel.start {A V n : Nat} {U : List Nat} (hU : ∀ x ∈ U, x < B32) (hn : n ≤ U.length) (h1 : 1 ≤ n) (hA : val B32 U = A) (hlt : A < B32 ^ (U.length - 1)) (hV : B32 ^ (n - 1) ≤ V) :
    DivRel A V n U (List.replicate (U.length - n) 0) (U.length - n) := by
  refine ⟨hU, fun x hx => by rw [(List.mem_replicate.1 hx).2]; exact B32_pos, by simp; omega, ?_, by rw [val_replicate, hA]; simp, fun i _ => dg_replicate _ _⟩
  have h := val_take_drop B32 U (U.length - n) (by omega)
  have e : B32 ^ (U.length - 1) = B32 ^ (U.length - n) * B32 ^ (n - 1) := by rw [← Nat.pow_add]; congr 1; omega
  have h2 : B32 ^ (U.length - n) * val B32 (U.drop (U.length - n)) < B32 ^ (U.length - n) * B32 ^ (n - 1) := by omega
  have := Nat.lt_of_mul_lt_mul_left h2
  omega

theorem DivRel.win {A V n : Nat} {U Q : List Nat} {j : Nat} (h : DivRel A V n U Q (j + 1)) : val B32 (U.drop j) < B32 * V := by
  rw [val_drop0]
  have h1 := getD_lt B32_pos U h.dU j
  have h2 := h.top
  have h3 : B32 * (val B32 (U.drop (j + 1)) + 1) ≤ B32 * V := Nat.mul_le_mul_left _ h2
  rw [Nat.mul_add] at h3
  omega

theorem DivRel.done {A V n : Nat} {U Q : List Nat} (h : DivRel A V n U Q 0) : val B32 Q = A / V ∧ val B32 U = A % V := by
  have h1 := h.top
  have h2 := h.sum
  rw [List.drop_zero] at h1
  have hV : 0 < V := by omega
  have e1 : A = val B32 U + V * val B32 Q := by rw [← h2, Nat.mul_comm V]
  constructor
  · rw [e1, Nat.add_mul_div_left _ _ hV, Nat.div_eq_of_lt h1]; omega
  · rw [e1, Nat.add_mul_mod_self_left, Nat.mod_eq_of_lt h1]

/-- What stands fast in a round. -/
structure Knuth (ys U : List Nat) (m j : Nat) : Prop where
  dy : ∀ x ∈ ys, x < B32
  dU : ∀ x ∈ U, x < B32
  ly : ys.length = m + 2
  big : 2147483648 ≤ dg ys (m + 1)
  win : val B32 (U.drop j) < B32 * val B32 ys

theorem Knuth.v {ys U : List Nat} {m j : Nat} (h : Knuth ys U m j) : (dg ys (m + 1) * B32 + dg ys m) * B32 ^ m ≤ val B32 ys ∧ val B32 ys < (dg ys (m + 1) * B32 + dg ys m + 1) * B32 ^ m := by
  have h1 := top3 B32_pos ys h.dy m (by rw [List.drop_of_length_le (by have := h.ly; omega)]; rfl)
  rw [dg_of_ge (show ys.length ≤ m + 2 by have := h.ly; omega)] at h1
  simpa using h1

theorem Knuth.lt {ys U : List Nat} {m j : Nat} (h : Knuth ys U m j) : val B32 (U.drop j) < B32 ^ (m + 3) := by
  have h1 := h.win
  have h2 := val_lt B32 ys h.dy
  rw [h.ly] at h2
  have h3 : B32 * val B32 ys ≤ B32 * B32 ^ (m + 2) := Nat.mul_le_mul_left _ (Nat.le_of_lt h2)
  rw [Nat.pow_succ, Nat.mul_comm]
  omega

theorem drop_zero_of_lt {B : Nat} {xs : List Nat} {k : Nat} (h : val B xs < B ^ k) : val B (xs.drop k) = 0 := by
  have h1 := val_take_drop0 B xs k
  rcases Nat.eq_zero_or_pos (val B (xs.drop k)) with h2 | h2
  · exact h2
  · have := Nat.mul_le_mul_left (B ^ k) h2
    omega

theorem Knuth.z {ys U : List Nat} {m j : Nat} (h : Knuth ys U m j) : val B32 ((U.drop j).drop (m + 3)) = 0 := drop_zero_of_lt h.lt

theorem Knuth.w {ys U : List Nat} {m j : Nat} (h : Knuth ys U m j) :
    ((dg U (j + m + 2) * B32 + dg U (j + m + 1)) * B32 + dg U (j + m)) * B32 ^ m ≤ val B32 (U.drop j) ∧ val B32 (U.drop j) < ((dg U (j + m + 2) * B32 + dg U (j + m + 1)) * B32 + dg U (j + m) + 1) * B32 ^ m := by
  have h1 := top3 B32_pos (U.drop j) (fun x hx => h.dU x (List.mem_of_mem_drop hx)) m h.z
  simp only [dg_drop] at h1
  rw [show j + (m + 2) = j + m + 2 by omega, show j + (m + 1) = j + m + 1 by omega] at h1
  exact h1

theorem Knuth.pos {ys U : List Nat} {m j : Nat} (h : Knuth ys U m j) : 0 < val B32 ys := by have := h.win; rcases Nat.eq_zero_or_pos (val B32 ys) with h0 | h0; (rw [h0] at this; omega); exact h0

theorem Knuth.q_lt {ys U : List Nat} {m j : Nat} (h : Knuth ys U m j) : val B32 (U.drop j) / val B32 ys < B32 := by
  rw [Nat.div_lt_iff_lt_mul h.pos]; exact h.win

theorem Knuth.two_lt {ys U : List Nat} {m j : Nat} (h : Knuth ys U m j) : dg U (j + m + 2) * B32 + dg U (j + m + 1) < (dg ys (m + 1) + 1) * B32 := by
  have h1 := h.w.1
  have h2 := h.win
  have h3 := h.v.2
  have h4 := getD_lt B32_pos ys h.dy m
  generalize dg U (j + m + 2) * B32 + dg U (j + m + 1) = two at *
  generalize dg ys (m + 1) = top at *
  have h5 : (top * B32 + dg ys m + 1) * B32 ^ m ≤ ((top + 1) * B32) * B32 ^ m := Nat.mul_le_mul_right _ (by rw [Nat.add_mul]; omega)
  have h6 : B32 * val B32 ys < B32 * (((top + 1) * B32) * B32 ^ m) := Nat.mul_lt_mul_of_pos_left (by omega) B32_pos
  have h7 : (two * B32) * B32 ^ m ≤ (two * B32 + dg U (j + m)) * B32 ^ m := Nat.mul_le_mul_right _ (by omega)
  have h8 : two * (B32 * B32 ^ m) < ((top + 1) * B32) * (B32 * B32 ^ m) := by
    have e1 : (two * B32) * B32 ^ m = two * (B32 * B32 ^ m) := Nat.mul_assoc _ _ _
    have e2 : B32 * (((top + 1) * B32) * B32 ^ m) = ((top + 1) * B32) * (B32 * B32 ^ m) := by rw [Nat.mul_left_comm]
    omega
  exact Nat.lt_of_mul_lt_mul_right h8

/-- The trial digit and what is left. -/
structure Trial (ys U : List Nat) (m j t r : Nat) : Prop where
  eq : t * dg ys (m + 1) + r = dg U (j + m + 2) * B32 + dg U (j + m + 1)
  ge : val B32 (U.drop j) / val B32 ys ≤ t

theorem Knuth.start {ys U : List Nat} {m j : Nat} (h : Knuth ys U m j) (two : Nat) (h2 : two = dg U (j + m + 2) * B32 + dg U (j + m + 1)) :
    Trial ys U m j (two / dg ys (m + 1)) (two % dg ys (m + 1)) := by
  have hb := h.big
  refine ⟨by rw [← h2, Nat.mul_comm, Nat.div_add_mod], ?_⟩
  rw [Nat.le_div_iff_mul_le (by omega)]
  have h3 := h.v.1
  have h4 := h.w.2
  rw [← h2] at h4
  have h5 := getD_lt B32_pos U h.dU (j + m)
  have h6 : (dg ys (m + 1) * (B32 * B32 ^ m)) ≤ val B32 ys := by
    refine Nat.le_trans ?_ h3
    rw [← Nat.mul_assoc]
    exact Nat.mul_le_mul_right _ (by omega)
  have h7 : val B32 (U.drop j) < (two + 1) * (B32 * B32 ^ m) := by
    refine Nat.lt_of_lt_of_le h4 ?_
    rw [← Nat.mul_assoc]
    exact Nat.mul_le_mul_right _ (by rw [Nat.add_mul]; omega)
  exact trial_ge h6 h7 (Nat.div_mul_le_self _ _)

theorem Trial.down {ys U : List Nat} {m j t r : Nat} (h : Trial ys U m j t r) (k : Knuth ys U m j) (hc : B32 ≤ t ∨ r * B32 + dg U (j + m) < t * dg ys m) :
    0 < t ∧ Trial ys U m j (t - 1) (r + dg ys (m + 1)) := by
  have hq := k.q_lt
  have h0 : 0 < t := by
    rcases hc with hc | hc
    · have := B32_pos; omega
    · rcases Nat.eq_zero_or_pos t with h0 | h0
      · subst h0; simp at hc
      · exact h0
  have hne : val B32 (U.drop j) / val B32 ys ≠ t := by
    rcases hc with hc | hc
    · omega
    · exact trial_down k.v.1 k.w.2 (Nat.div_mul_le_self _ _) h.eq hc
  refine ⟨h0, ?_, by have := h.ge; omega⟩
  have e := h.eq
  obtain ⟨u, rfl⟩ : ∃ u, t = u + 1 := ⟨t - 1, by omega⟩
  rw [Nat.add_mul] at e
  simp only [Nat.add_sub_cancel]
  omega

theorem lt_succ_div (w v : Nat) (hv : 0 < v) : w < (w / v + 1) * v := by
  have h1 := Nat.div_add_mod w v
  have h2 := Nat.mod_lt w hv
  rw [Nat.add_mul, Nat.one_mul, Nat.mul_comm (w / v) v]
  omega

/-- Where the inner loop is left the trial digit is right, or one too great. -/
theorem Trial.exit {ys U : List Nat} {m j t r : Nat} (h : Trial ys U m j t r) (k : Knuth ys U m j) (h1 : t < B32) (hc : t * dg ys m ≤ r * B32 + dg U (j + m)) :
    t ≤ val B32 (U.drop j) / val B32 ys + 1 := by
  have hb := k.big
  refine trial_le (B := B32) k.v.2 k.w.1 (lt_succ_div _ _ k.pos) h.eq hc ?_
  refine Nat.le_trans ?_ k.v.1
  refine Nat.mul_le_mul_right _ ?_
  have : 1 * B32 ≤ dg ys (m + 1) * B32 := Nat.mul_le_mul_right _ (by omega)
  omega

theorem Trial.breaks {ys U : List Nat} {m j t r : Nat} (h : Trial ys U m j t r) (k : Knuth ys U m j) (hr : B32 ≤ r) : t < B32 ∧ t * dg ys m ≤ r * B32 + dg U (j + m) := by
  have h2 := k.two_lt
  have h1 : t < B32 := by
    rcases Nat.lt_or_ge t B32 with h3 | h3
    · exact h3
    · have h4 := Nat.mul_le_mul_right (dg ys (m + 1)) h3
      have := h.eq
      rw [Nat.add_mul, Nat.one_mul, Nat.mul_comm (dg ys (m + 1)) B32] at h2
      omega
  refine ⟨h1, ?_⟩
  have h3 := getD_lt B32_pos ys k.dy m
  have h4 : t * dg ys m ≤ B32 * B32 := Nat.mul_le_mul (by omega) (by omega)
  have h5 := Nat.mul_le_mul_right B32 hr
  omega

theorem Trial.bound {ys U : List Nat} {m j t r : Nat} (h : Trial ys U m j t r) (k : Knuth ys U m j) : t ≤ B32 + 2 := by
  have h1 := h.eq
  have h2 := k.two_lt
  have hb := k.big
  rcases Nat.lt_or_ge t (B32 + 3) with h3 | h3
  · omega
  · have h4 := Nat.mul_le_mul_right (dg ys (m + 1)) h3
    rw [Nat.add_mul, Nat.one_mul] at h2
    rw [Nat.add_mul] at h4
    rw [Nat.mul_comm (dg ys (m + 1)) B32] at h2
    have h5 : B32 = 4294967296 := rfl
    omega

/-- A row's upper part, where a window of it was changed. -/
theorem win_eq {L U : List Nat} {j n x br : Nat} (hw : WinOut L U j n) (hv : val B32 L + B32 ^ j * x = val B32 U + br * B32 ^ (j + n)) :
    val B32 (L.drop j) + x = val B32 (U.drop j) + br * B32 ^ n := by
  have h1 := val_take_drop0 B32 L j
  have h2 := val_take_drop0 B32 U j
  have h3 : L.take j = U.take j := take_eq_of hw.2.1 fun k hk => hw.2.2 k (.inl hk)
  rw [h3] at h1
  rw [Nat.pow_add] at hv
  have h4 : B32 ^ j * (val B32 (L.drop j) + x) = B32 ^ j * (val B32 (U.drop j) + br * B32 ^ n) := by
    rw [Nat.mul_add, Nat.mul_add]
    have : br * (B32 ^ j * B32 ^ n) = B32 ^ j * (br * B32 ^ n) := Nat.mul_left_comm _ _ _
    omega
  exact Nat.eq_of_mul_eq_mul_left (Nat.pow_pos B32_pos) h4

theorem drop_eq_win {L U : List Nat} {j n : Nat} (hw : WinOut L U j n) : L.drop (j + n) = U.drop (j + n) := by
  apply list_ext_dg
  · simp [hw.2.1]
  · intro k _
    rw [dg_drop, dg_drop]
    exact hw.2.2 _ (.inr (by omega))

theorem win_lt {L U : List Nat} {j n : Nat} (hw : WinOut L U j n) (hz : val B32 ((U.drop j).drop n) = 0) : val B32 (L.drop j) < B32 ^ n := by
  have h1 := val_take_drop0 B32 (L.drop j) n
  rw [List.drop_drop] at hz h1
  rw [drop_eq_win hw, hz] at h1
  have h2 := val_take_lt0 B32_pos (L.drop j) (fun x hx => hw.1 x (List.mem_of_mem_drop hx)) n
  omega

/-- The digit that is found is laid down. -/
theorem DivRel.next {A V n : Nat} {U Q L : List Nat} {j q : Nat} (h : DivRel A V n U Q (j + 1)) (hj : j < Q.length) (hw : WinOut L U j (n + 1)) (hq : q < B32)
    (hv : val B32 (L.drop j) + q * V = val B32 (U.drop j)) (hlt : val B32 (L.drop j) < V) : DivRel A V n L (Q.set j q) j := by
  refine ⟨hw.1, set_lt Q h.dQ j q hq, by rw [hw.2.1, List.length_set]; exact h.len, hlt, ?_, fun i hi => ?_⟩
  · have h1 := val_take_drop0 B32 L j
    have h2 := val_take_drop0 B32 U j
    have h3 : L.take j = U.take j := take_eq_of hw.2.1 fun k hk => hw.2.2 k (.inl hk)
    rw [h3] at h1
    have h4 := val_set B32 Q j q hj
    rw [h.zero j (by omega)] at h4
    have h5 : val B32 (Q.set j q) = val B32 Q + B32 ^ j * q := by omega
    have h6 := h.sum
    rw [h5, h1]
    rw [h2, ← hv] at h6
    rw [← h6]
    grind
  · rw [dg_set_ne (by omega)]
    exact h.zero i (by omega)

theorem DivRel.even {A m : Nat} {ys U Q L : List Nat} {j t r : Nat} (h : DivRel A (val B32 ys) (m + 2) U Q (j + 1)) (k : Knuth ys U m j) (ht : Trial ys U m j t r) (hj : j < Q.length) (hB : t < B32)
    (hw : WinOut L U j (m + 3)) (hv : val B32 L + B32 ^ j * (t * val B32 ys) = val B32 U + 0 * B32 ^ (j + (m + 3))) : DivRel A (val B32 ys) (m + 2) L (Q.set j t) j := by
  have h1 := win_eq hw hv
  rw [Nat.zero_mul, Nat.add_zero] at h1
  refine h.next hj hw hB h1 ?_
  have h2 := ht.ge
  have h3 := lt_succ_div (val B32 (U.drop j)) (val B32 ys) k.pos
  have h4 : (val B32 (U.drop j) / val B32 ys + 1) * val B32 ys ≤ (t + 1) * val B32 ys := Nat.mul_le_mul_right _ (by omega)
  rw [Nat.add_mul t, Nat.one_mul] at h4
  omega

theorem DivRel.owed {A m : Nat} {ys U Q L M : List Nat} {j t r co : Nat} (h : DivRel A (val B32 ys) (m + 2) U Q (j + 1)) (k : Knuth ys U m j) (_ : Trial ys U m j t r) (he : t ≤ val B32 (U.drop j) / val B32 ys + 1) (hj : j < Q.length) (hB : t < B32)
    (hw : WinOut L U j (m + 3)) (hv : val B32 L + B32 ^ j * (t * val B32 ys) = val B32 U + 1 * B32 ^ (j + (m + 3)))
    (hw2 : WinOut M L j (m + 3)) (hv2 : val B32 M + co * B32 ^ (j + (m + 3)) = val B32 L + B32 ^ j * val B32 ys) : 0 < t ∧ DivRel A (val B32 ys) (m + 2) M (Q.set j (t - 1)) j := by
  have h1 := win_eq hw hv
  have hwM : WinOut M U j (m + 3) := ⟨hw2.1, hw2.2.1.trans hw.2.1, fun i hi => (hw2.2.2 i hi).trans (hw.2.2 i hi)⟩
  have hl1 := win_lt hw k.z
  have hl2 := win_lt hwM k.z
  have h3 : val B32 (M.drop j) + co * B32 ^ (m + 3) = val B32 (L.drop j) + val B32 ys := by
    have e1 := val_take_drop0 B32 L j
    have e2 := val_take_drop0 B32 M j
    have e3 : M.take j = L.take j := take_eq_of hw2.2.1 fun k hk => hw2.2.2 k (.inl hk)
    rw [e3] at e2
    rw [Nat.pow_add] at hv2
    have e4 : B32 ^ j * (val B32 (M.drop j) + co * B32 ^ (m + 3)) = B32 ^ j * (val B32 (L.drop j) + val B32 ys) := by
      rw [Nat.mul_add, Nat.mul_add]
      have : co * (B32 ^ j * B32 ^ (m + 3)) = B32 ^ j * (co * B32 ^ (m + 3)) := Nat.mul_left_comm _ _ _
      omega
    exact Nat.eq_of_mul_eq_mul_left (Nat.pow_pos B32_pos) e4
  have hp := k.pos
  generalize hW : val B32 (U.drop j) = W at *
  generalize hV : val B32 ys = V at *
  generalize hP : B32 ^ (m + 3) = P at *
  have g1 : W < t * V := by omega
  have g2 : W / V < t := (Nat.div_lt_iff_lt_mul hp).2 g1
  have g4 := Nat.div_add_mod W V
  generalize W / V = wq at *
  obtain ⟨q, rfl⟩ : ∃ q, t = q + 1 := ⟨t - 1, by omega⟩
  have g3 : wq = q := by omega
  have g5 := Nat.mod_lt W hp
  rw [g3, Nat.mul_comm V q] at g4
  rw [Nat.add_mul, Nat.one_mul, Nat.one_mul] at h1
  have g6 : val B32 (M.drop j) + co * P = W % V + P := by omega
  have g7 : W < P := by rw [← hP, ← hW]; exact k.lt
  have g8 : W % V ≤ W := Nat.mod_le _ _
  have g9 : co = 1 := by
    rcases Nat.lt_trichotomy co 1 with c | c | c
    · have : co = 0 := by omega
      subst this; omega
    · exact c
    · have := Nat.mul_le_mul_right P c
      omega
  subst g9
  rw [Nat.one_mul] at g6
  have g10 : val B32 (M.drop j) = W % V := by omega
  refine ⟨by omega, ?_⟩
  simp only [Nat.add_sub_cancel]
  exact h.next hj hwM (by omega) (by omega) (by omega)

theorem MoreW.last {L X ys : List Nat} {j cr : Nat} (h : MoreW L X ys j ys.length cr) (hj : j + ys.length < X.length) :
    WinOut (L.set (j + ys.length) ((dg L (j + ys.length) + cr) % 4294967296)) X j (ys.length + 1) ∧
      val B32 (L.set (j + ys.length) ((dg L (j + ys.length) + cr) % 4294967296)) + ((dg L (j + ys.length) + cr) / 4294967296) * B32 ^ (j + (ys.length + 1)) = val B32 X + B32 ^ j * val B32 ys := by
  obtain ⟨h1, h2⟩ := h
  have hx : dg L (j + ys.length) = dg X (j + ys.length) := h1.2.2 _ (.inr (Nat.le_refl _))
  have hw := h1.step (v := (dg L (j + ys.length) + cr) % 4294967296) (Nat.mod_lt _ (by omega))
  refine ⟨hw, ?_⟩
  rw [List.take_length] at h2
  rw [hx] at hw ⊢
  have hd : (L.set (j + ys.length) ((dg X (j + ys.length) + cr) % 4294967296)).drop (j + ys.length + 1) = X.drop (j + ys.length + 1) := by
    apply list_ext_dg
    · simp [h1.2.1]
    · intro k hk
      rw [dg_drop, dg_drop]
      exact hw.2.2 _ (.inr (by omega))
  rw [val_take_drop B32 _ (j + ys.length + 1) (by rw [hw.2.1]; omega), val_take_drop B32 X (j + ys.length + 1) (by omega), hd]
  rw [val_take_succ, take_set_same, dg_set_same (by rw [h1.2.1]; exact hj), val_take_succ]
  have e2 := Nat.div_add_mod (dg X (j + ys.length) + cr) 4294967296
  rw [show (4294967296 : Nat) = B32 from rfl] at *
  generalize (dg X (j + ys.length) + cr) % B32 = pl at *
  generalize (dg X (j + ys.length) + cr) / B32 = ph at *
  generalize dg X (j + ys.length) = x at *
  generalize val B32 (X.drop (j + ys.length + 1)) = u at *
  generalize val B32 (L.take (j + ys.length)) = vl at *
  generalize val B32 (X.take (j + ys.length)) = vx at *
  rw [show j + (ys.length + 1) = j + ys.length + 1 by omega, Nat.pow_succ]
  generalize B32 ^ (j + ys.length) = P at *
  have e4 : P * (B32 * ph + pl) = P * (x + cr) := by rw [e2]
  grind

end Go.Slip

namespace Go.Slip

/-- The digit that is looked for lies between what the uppermost digits tell, and one more. -/
theorem into_trial {B P b rest : Nat} (hP : 0 < P) (hu : B ≤ b / P) (hr : rest < b * B) :
    rest / P / (b / P + 1) ≤ rest / b ∧ rest / b ≤ rest / P / (b / P + 1) + 1 := by
  have hb : 0 < b := by
    rcases Nat.eq_zero_or_pos b with h | h
    · subst h; omega
    · exact h
  have h1 := lt_succ_div rest b hb
  have h2 := lt_succ_div b P hP
  have h3 := Nat.div_mul_le_self rest P
  have h4 := lt_succ_div rest P hP
  have h5 := Nat.div_mul_le_self b P
  have h6 := Nat.div_mul_le_self rest b
  have hd : rest / b < B := by rw [Nat.div_lt_iff_lt_mul hb, Nat.mul_comm]; exact hr
  generalize rest / b = d at *
  generalize rest / P = top at *
  generalize b / P = under at *
  constructor
  · have h7 : (d + 1) * b ≤ (d + 1) * ((under + 1) * P) := Nat.mul_le_mul_left _ (Nat.le_of_lt h2)
    have h8 : top * P < ((d + 1) * (under + 1)) * P := by rw [Nat.mul_assoc]; omega
    have h9 := Nat.lt_of_mul_lt_mul_right h8
    have : top / (under + 1) < d + 1 := (Nat.div_lt_iff_lt_mul (by omega)).2 h9
    omega
  · have h7 : d * (under * P) ≤ d * b := Nat.mul_le_mul_left _ h5
    have h8 : (d * under) * P < (top + 1) * P := by rw [Nat.mul_assoc]; omega
    have h9 := Nat.lt_of_mul_lt_mul_right h8
    have h10 := lt_succ_div top (under + 1) (by omega)
    generalize top / (under + 1) = x at *
    rcases Nat.lt_or_ge d (x + 2) with h11 | h11
    · omega
    · exfalso
      obtain ⟨k, rfl⟩ : ∃ k, d = x + 2 + k := ⟨d - (x + 2), by omega⟩
      have h12 : (x + 2) * under ≤ (x + 2 + k) * under := Nat.mul_le_mul_right _ (by omega)
      have h13 : (x + 1) * (under + 1) = (x + 2) * under + (x + 1) - under := by grind
      omega

theorem set_same (L : List Nat) (k : Nat) (h : dg L k = 0) : L.set k 0 = L := by
  apply list_ext_dg
  · simp
  · intro t ht
    by_cases hk : k = t
    · subst hk
      rw [dg_set_same (by simpa using ht), h]
    · rw [dg_set_ne hk]

/-- The round of a division that begins with a digit more. -/
theorem SmallRel.push {B : Nat} {L xs : List Nat} {d k r : Nat} (h : SmallRel B L xs d (k + 1) r) (hx : dg xs k < B) : dg xs k + B * r < d * B := by
  have h1 : (r + 1) * B ≤ d * B := Nat.mul_le_mul_right _ h.2.1
  rw [Nat.add_mul, Nat.one_mul] at h1
  rw [Nat.mul_comm B r]; omega

/-! ### powers -/
theorem blen_shift {m : Nat} (h : 0 < m) (k : Nat) : blen (m * 2 ^ k) = blen m + k := by
  have h1 := blen_pow m h
  have h2 := (blen_le m (blen m)).1 (Nat.le_refl _)
  have h3 := (blen_pos m).2 h
  have e : blen m + k = (blen m - 1 + k) + 1 := by omega
  rw [e]
  refine blen_eq ?_ ?_
  · rw [Nat.pow_add]; exact Nat.mul_le_mul_right _ h1
  · rw [show blen m - 1 + k + 1 = blen m + k by omega, Nat.pow_add]
    exact Nat.mul_lt_mul_of_pos_right h2 (Nat.pow_pos (by omega))

/-- So many bits up, the uppermost digit has its uppermost bit set. -/
theorem norm_top {b s : Nat} (h : 0 < b) (hs : s + blen (dg (dig B32 b) ((dig B32 b).length - 1)) = 32) :
    (dig B32 (b * 2 ^ s)).length = (dig B32 b).length ∧ 2147483648 ≤ dg (dig B32 (b * 2 ^ s)) ((dig B32 b).length - 1) := by
  obtain ⟨h1, h2⟩ := blen_dig (B := B32) (s := 32) (by decide) B32_two b h
  have hl0 : 0 < (dig B32 b).length := List.length_pos_iff.2 ((dig_spec B32_two b).2.2.2 h)
  have h3 := blen_shift h s
  have hV : 0 < b * 2 ^ s := Nat.mul_pos h (Nat.pow_pos (by omega))
  obtain ⟨k1, k2⟩ := blen_dig (B := B32) (s := 32) (by decide) B32_two (b * 2 ^ s) hV
  have k0 : 0 < (dig B32 (b * 2 ^ s)).length := List.length_pos_iff.2 ((dig_spec B32_two _).2.2.2 hV)
  have k3 := getD_lt B32_pos _ (dig_lt B32_two (b * 2 ^ s)) ((dig B32 (b * 2 ^ s)).length - 1)
  have k3' : dg (dig B32 (b * 2 ^ s)) ((dig B32 (b * 2 ^ s)).length - 1) < 4294967296 := k3
  have k4 := (blen_le (dg (dig B32 (b * 2 ^ s)) ((dig B32 (b * 2 ^ s)).length - 1)) 32).2 (by omega)
  have k5 := (blen_pos _).2 k2
  have hl : (dig B32 (b * 2 ^ s)).length = (dig B32 b).length := by omega
  refine ⟨hl, ?_⟩
  rw [hl] at k1 k2 k4 k5
  have k6 : blen (dg (dig B32 (b * 2 ^ s)) ((dig B32 b).length - 1)) = 32 := by omega
  have := blen_pow _ k2
  rw [k6] at this
  omega

end Go.Slip

namespace Go.Slip

/-- A number: its sign, its digits, its exponent. -/
structure Dv where
  neg : Bool
  m : Nat
  e : Int

@[ext] theorem Dv.ext' {a b : Dv} (h1 : a.neg = b.neg) (h2 : a.m = b.m) (h3 : a.e = b.e) : a = b := by cases a; cases b; simp_all

/-- How many bits 0 there are behind; of 0: 0. -/
def tz (m : Nat) : Nat := if _h : m = 0 then 0 else if m % 2 = 1 then 0 else tz (m / 2) + 1
termination_by m
decreasing_by omega

theorem tz_zero : tz 0 = 0 := by rw [tz]; simp
theorem tz_odd {m : Nat} (h : m % 2 = 1) : tz m = 0 := by rw [tz]; split; rfl; rfl
theorem tz_even {m : Nat} (h0 : 0 < m) (h : m % 2 = 0) : tz m = tz (m / 2) + 1 := by
  rw [tz, dif_neg (by omega), if_neg (by omega)]

theorem tz_spec (m : Nat) (h : 0 < m) : 2 ^ tz m * (m / 2 ^ tz m) = m ∧ (m / 2 ^ tz m) % 2 = 1 := by
  induction m using Nat.strongRecOn with
  | _ m ih =>
    by_cases h1 : m % 2 = 1
    · rw [tz_odd h1]; simp [h1]
    · have h2 : m % 2 = 0 := by omega
      obtain ⟨i1, i2⟩ := ih (m / 2) (by omega) (by omega)
      rw [tz_even h h2]
      have e : m / 2 ^ (tz (m / 2) + 1) = m / 2 / 2 ^ tz (m / 2) := by rw [Nat.pow_succ, Nat.mul_comm, Nat.div_div_eq_div_mul]
      rw [e]
      refine ⟨?_, i2⟩
      rw [Nat.pow_succ]
      have : m = 2 * (m / 2) := by omega
      rw [Nat.mul_comm (2 ^ _) 2, Nat.mul_assoc, i1]; omega

theorem tz_mul (m k : Nat) (h : m % 2 = 1) : tz (m * 2 ^ k) = k := by
  induction k with
  | zero => simp [tz_odd h]
  | succ k ih =>
    have h0 : 0 < m * 2 ^ k := Nat.mul_pos (by omega) (Nat.pow_pos (by omega))
    have e : m * 2 ^ (k + 1) = 2 * (m * 2 ^ k) := by rw [Nat.pow_succ]; grind
    rw [e, tz_even (by omega) (by omega), Nat.mul_div_cancel_left _ (by omega), ih]

theorem tz_unique {m k u : Nat} (h : m = u * 2 ^ k) (hu : u % 2 = 1) : tz m = k ∧ m / 2 ^ k = u := by
  subst h
  exact ⟨tz_mul u k hu, Nat.mul_div_cancel _ (Nat.pow_pos (by omega))⟩

/-- Without noughts behind. -/
def bare (d : Dv) : Dv := if d.m = 0 then ⟨false, 0, 0⟩ else ⟨d.neg, d.m / 2 ^ tz d.m, d.e + tz d.m⟩

def Bare (d : Dv) : Prop := d.m % 2 = 1 ∨ d = ⟨false, 0, 0⟩

theorem bare_bare (d : Dv) : Bare (bare d) := by
  unfold bare Bare
  by_cases h : d.m = 0
  · rw [if_pos h]; exact .inr rfl
  · rw [if_neg h]; exact .inl (tz_spec d.m (by omega)).2

theorem bare_of {d : Dv} (h : Bare d) : bare d = d := by
  unfold bare
  rcases h with h | rfl
  · rw [if_neg (by omega), tz_odd h]; cases d; simp
  · rfl

theorem Bare.zero {d : Dv} (h : Bare d) (h0 : d.m = 0) : d = ⟨false, 0, 0⟩ := by
  rcases h with h | h
  · omega
  · exact h

/-- A power of 2 more in the digits, and less in the exponent: the same. -/
theorem bare_shift (g : Bool) (m k : Nat) (e : Int) : bare ⟨g, m * 2 ^ k, e⟩ = bare ⟨g, m, e + k⟩ := by
  unfold bare
  by_cases h : m = 0
  · subst h; simp
  · have hm : 0 < m := by omega
    have hp : 0 < 2 ^ k := Nat.pow_pos (by omega)
    have hne : m * 2 ^ k ≠ 0 := by have := Nat.mul_pos hm hp; omega
    obtain ⟨s1, s2⟩ := tz_spec m hm
    have e1 : m * 2 ^ k = (m / 2 ^ tz m) * 2 ^ (tz m + k) := by
      conv => lhs; rw [← s1]
      rw [Nat.pow_add]; grind
    obtain ⟨t1, t2⟩ := tz_unique e1 s2
    simp only [if_neg hne, if_neg h, t1, t2]
    ext <;> simp
    omega

/-- The sign as a factor. -/
def sg (g : Bool) (m : Nat) : Int := if g then -(m : Int) else m

/-- Both together, at one exponent. -/
def joinD (g h : Bool) (x y : Nat) (e : Int) : Dv :=
  if g = h then ⟨g, x + y, e⟩ else if y ≤ x then ⟨g, x - y, e⟩ else ⟨h, y - x, e⟩

def ofZ (s : Int) (e : Int) : Dv := ⟨decide (s < 0), s.natAbs, e⟩

theorem bare_join (g h : Bool) (x y : Nat) (e : Int) : bare (joinD g h x y e) = bare (ofZ (sg g x + sg h y) e) := by
  have key : ∀ (b : Bool) (m : Nat) (s : Int), s.natAbs = m → (m ≠ 0 → decide (s < 0) = b) → bare ⟨b, m, e⟩ = bare (ofZ s e) := by
    intro b m s h1 h2
    subst h1
    unfold ofZ bare
    by_cases h0 : s.natAbs = 0
    · simp [h0]
    · have := h2 h0
      simp only [if_neg h0, this]
  unfold joinD
  by_cases h1 : g = h
  · subst h1
    rw [if_pos rfl]
    refine key _ _ _ ?_ ?_
    · cases g <;> simp [sg] <;> omega
    · intro h0
      cases g <;> simp [sg] <;> omega
  · rw [if_neg h1]
    by_cases h2 : y ≤ x
    · rw [if_pos h2]
      refine key _ _ _ ?_ ?_
      · cases g <;> cases h <;> simp [sg] at * <;> omega
      · intro h0
        cases g <;> cases h <;> simp [sg] at * <;> omega
    · rw [if_neg h2]
      refine key _ _ _ ?_ ?_
      · cases g <;> cases h <;> simp [sg] at * <;> omega
      · intro h0
        cases g <;> cases h <;> simp [sg] at * <;> omega

/-- The references' sum. -/
def plusE (a b : Dv) : Int := if b.m = 0 then a.e else if a.m = 0 then b.e else min a.e b.e

def rPlus (a b : Dv) : Dv := bare (joinD a.neg b.neg (a.m * 2 ^ (a.e - plusE a b).toNat) (b.m * 2 ^ (b.e - plusE a b).toNat) (plusE a b))

/-- The program's. -/
def pPlus (a b : Dv) : Dv := if a.m = 0 then b else if b.m = 0 then a else
  bare (joinD a.neg b.neg (a.m * 2 ^ (a.e - min a.e b.e).toNat) (b.m * 2 ^ (b.e - min a.e b.e).toNat) (min a.e b.e))

theorem pPlus_eq {a b : Dv} (ha : Bare a) (hb : Bare b) : pPlus a b = rPlus a b := by
  unfold pPlus rPlus plusE
  by_cases h1 : a.m = 0
  · have := ha.zero h1
    subst this
    rw [if_pos rfl]
    by_cases h2 : b.m = 0
    · have := hb.zero h2
      subst this
      rfl
    · simp only [if_neg h2, if_true]
      rw [bare_join]
      conv => lhs; rw [← bare_of hb]
      have e1 : sg false (0 * 2 ^ ((0 : Int) - b.e).toNat) = 0 := by simp [sg]
      have e2 : (b.e - b.e).toNat = 0 := by omega
      rw [e1, e2, Nat.pow_zero, Nat.mul_one, Int.zero_add]
      unfold bare ofZ sg
      cases b with
      | mk g m e =>
        simp only at *
        cases g <;> simp [h2] <;> omega
  · rw [if_neg h1]
    by_cases h2 : b.m = 0
    · have := hb.zero h2
      subst this
      simp only [if_true]
      rw [bare_join]
      conv => lhs; rw [← bare_of ha]
      have e1 : sg false (0 * 2 ^ ((0 : Int) - a.e).toNat) = 0 := by simp [sg]
      have e2 : (a.e - a.e).toNat = 0 := by omega
      rw [e1, e2, Nat.pow_zero, Nat.mul_one, Int.add_zero]
      unfold bare ofZ sg
      cases a with
      | mk g m e =>
        simp only at *
        cases g <;> simp [h1] <;> omega
    · simp only [if_neg h2, if_neg h1]

theorem rPlus_bare (a b : Dv) : Bare (rPlus a b) := bare_bare _

def dTimes (a b : Dv) : Dv := bare ⟨xor a.neg b.neg, a.m * b.m, a.e + b.e⟩
def dMinus (a : Dv) : Dv := ⟨!a.neg && decide (0 < a.m), a.m, a.e⟩

theorem dMinus_bare {a : Dv} (h : Bare a) : Bare (dMinus a) := by
  rcases h with h | rfl
  · exact .inl h
  · exact .inr rfl

def dSign (a : Dv) : Int := if a.m = 0 then 0 else if a.neg then -1 else 1

/-- The references' comparison: by the sign of a difference. -/
def rCmp (a b : Dv) : Int := dSign (rPlus a (dMinus b))

/-- The value over a power of 2 that both have. -/
def zOf (a : Dv) (e : Int) : Int := sg a.neg (a.m * 2 ^ (a.e - e).toNat)

theorem sg_mul (g : Bool) (m k : Nat) : sg g (m * k) = sg g m * k := by unfold sg; cases g <;> simp [Int.neg_mul]

theorem dSign_bare (s : Int) (e : Int) : dSign (bare (ofZ s e)) = Int.sign s := by
  unfold bare ofZ dSign
  by_cases h : s = 0
  · subst h; rfl
  · have h0 : s.natAbs ≠ 0 := by omega
    simp only [if_neg h0]
    have h1 := (tz_spec s.natAbs (by omega)).2
    rw [if_neg (by omega)]
    by_cases h2 : s < 0
    · simp [h2, Int.sign_eq_neg_one_of_neg h2]
    · simp [h2, Int.sign_eq_one_of_pos (show 0 < s by omega)]

theorem lt_of_blen {x y : Nat} (h : blen x < blen y) : x < y := by
  rcases Nat.lt_or_ge x y with h1 | h1
  · exact h1
  · have := dig_len_mono (B := 2) (by omega) h1
    unfold blen at h; omega

theorem cmpN_sign (x y : Nat) : cmpN x y = Int.sign ((x : Int) - y) := by
  unfold cmpN
  by_cases h1 : x < y
  · rw [if_pos h1, Int.sign_eq_neg_one_of_neg (by omega)]
  · rw [if_neg h1]
    by_cases h2 : y < x
    · rw [if_pos h2, Int.sign_eq_one_of_pos (by omega)]
    · rw [if_neg h2, show (x : Int) - y = 0 by omega]; rfl

/-- -1, 0 or 1. -/
def clip (n : Int) : Int := max (-1) (min 1 n)

/-- Where the uppermost bit is. -/
def topD (a : Dv) : Int := a.e + blen a.m

/-- The program's comparison. -/
def pCmp (a b : Dv) : Int :=
  if dSign a ≠ dSign b ∨ dSign a = 0 then clip (dSign a - dSign b)
  else (if topD a ≠ topD b then clip (topD a - topD b) else cmpN (a.m * 2 ^ (a.e - min a.e b.e).toNat) (b.m * 2 ^ (b.e - min a.e b.e).toNat)) * dSign a

theorem dSign_minus (a : Dv) : dSign (dMinus a) = - dSign a := by
  unfold dSign dMinus
  by_cases h : a.m = 0
  · simp [h]
  · have : 0 < a.m := by omega
    cases hn : a.neg <;> simp [h, this]

theorem rCmp_eq {a b : Dv} (ha : Bare a) (hb : Bare b) : pCmp a b = rCmp a b := by
  unfold rCmp
  rw [← pPlus_eq ha (dMinus_bare hb)]
  have hm : (dMinus b).m = b.m := rfl
  have he : (dMinus b).e = b.e := rfl
  unfold pCmp pPlus
  rw [hm, he]
  by_cases h1 : a.m = 0
  · have s1 : dSign a = 0 := by unfold dSign; rw [if_pos h1]
    rw [if_pos (.inr s1), if_pos h1, dSign_minus, s1]
    unfold clip dSign
    split
    · rfl
    · split <;> decide
  · rw [if_neg h1]
    by_cases h2 : b.m = 0
    · have s2 : dSign b = 0 := by unfold dSign; rw [if_pos h2]
      have s1 : dSign a ≠ 0 := by unfold dSign; rw [if_neg h1]; split <;> decide
      rw [if_pos (.inl (by rw [s2]; exact s1)), if_pos h2, s2]
      unfold clip dSign
      rw [if_neg h1]
      split <;> decide
    · rw [if_neg h2, bare_join, dSign_bare]
      have hb2 : (dMinus b).neg = !b.neg := by unfold dMinus; simp; omega
      rw [hb2]
      have pa : 0 < a.m := by omega
      have pb : 0 < b.m := by omega
      generalize hx : a.m * 2 ^ (a.e - min a.e b.e).toNat = x
      generalize hy : b.m * 2 ^ (b.e - min a.e b.e).toNat = y
      have px : 0 < x := by rw [← hx]; exact Nat.mul_pos pa (Nat.pow_pos (by omega))
      have py : 0 < y := by rw [← hy]; exact Nat.mul_pos pb (Nat.pow_pos (by omega))
      have lx : blen x = blen a.m + (a.e - min a.e b.e).toNat := by rw [← hx]; exact blen_shift pa _
      have ly : blen y = blen b.m + (b.e - min a.e b.e).toNat := by rw [← hy]; exact blen_shift pb _
      have sa : dSign a = if a.neg then -1 else 1 := by unfold dSign; rw [if_neg h1]
      have sb : dSign b = if b.neg then -1 else 1 := by unfold dSign; rw [if_neg h2]
      rw [sa, sb]
      have hc : (if topD a ≠ topD b then clip (topD a - topD b) else cmpN x y) = Int.sign ((x : Int) - y) := by
        by_cases ht : topD a = topD b
        · rw [if_neg (by simpa using ht), cmpN_sign]
        · rw [if_pos ht]
          unfold topD clip at *
          by_cases hlt : blen x < blen y
          · have := lt_of_blen hlt
            rw [Int.sign_eq_neg_one_of_neg (by omega)]; omega
          · by_cases hgt : blen y < blen x
            · have := lt_of_blen hgt
              rw [Int.sign_eq_one_of_pos (by omega)]; omega
            · omega
      rw [hc]
      cases ga : a.neg <;> cases gb : b.neg <;> simp [sg]
      · rw [← Int.sub_eq_add_neg]
      · rw [show (x : Int) + y = ((x + y : Nat) : Int) by simp, Int.sign_eq_one_of_pos (by omega)]; decide
      · rw [show -(x : Int) + -(y : Int) = -((x + y : Nat) : Int) by simp; omega, Int.sign_eq_neg_one_of_neg (by omega)]; decide
      · rw [← Int.sign_neg]; congr 1; omega

/-! ### cut, floor -/
def rCut (a : Dv) (bits : Nat) (up : Bool) : Dv :=
  if blen a.m ≤ bits then a
  else bare ⟨a.neg, a.m / 2 ^ (blen a.m - bits) + (if a.m % 2 ^ (blen a.m - bits) ≠ 0 ∧ up ≠ a.neg then 1 else 0), a.e + ((blen a.m - bits : Nat) : Int)⟩

def pCut (a : Dv) (bits : Nat) (up : Bool) : Dv :=
  if blen a.m ≤ bits then a
  else bare ⟨a.neg, a.m / 2 ^ (blen a.m - bits) + (if up ≠ a.neg then 1 else 0), a.e + ((blen a.m - bits : Nat) : Int)⟩

theorem odd_mod {m n : Nat} (h : m % 2 = 1) (hn : 0 < n) : m % 2 ^ n ≠ 0 := by
  intro h0
  obtain ⟨k, rfl⟩ : ∃ k, n = k + 1 := ⟨n - 1, by omega⟩
  have h1 := Nat.dvd_of_mod_eq_zero h0
  have h2 : 2 ∣ m := Nat.dvd_trans ⟨2 ^ k, by rw [Nat.pow_succ]; omega⟩ h1
  omega

theorem pCut_eq {a : Dv} (ha : Bare a) (bits : Nat) (up : Bool) : pCut a bits up = rCut a bits up := by
  unfold pCut rCut
  by_cases h : blen a.m ≤ bits
  · rw [if_pos h, if_pos h]
  · rw [if_neg h, if_neg h]
    have h1 : a.m % 2 = 1 := by
      rcases ha with h1 | rfl
      · exact h1
      · rw [blen_zero] at h; omega
    have h2 := odd_mod (n := blen a.m - bits) h1 (by omega)
    simp [h2]

theorem rCut_bare {a : Dv} (ha : Bare a) (bits : Nat) (up : Bool) : Bare (rCut a bits up) := by
  unfold rCut
  split
  · exact ha
  · exact bare_bare _

/-- What is wrong with an answer. -/
def errD (a : Dv) : Int := if 1200 < (dig B32 a.m).length then 2 else if a.e < -20000 ∨ 20000 < a.e then 3 else 0

def zeroD : Dv := ⟨false, 0, 0⟩
/-- What is told. -/
def doneD (a : Dv) : Dv := if errD a = 0 then a else zeroD

end Go.Slip

namespace Go.Slip

/-! ### roots -/
/-- R is the root of m, without what is behind the point. -/
def IsRoot (m R : Nat) : Prop := R * R ≤ m ∧ m < (R + 1) * (R + 1)

theorem IsRoot.mono {m m' R R' : Nat} (h : IsRoot m R) (k : IsRoot m' R') (hm : m ≤ m') : R ≤ R' := by
  rcases Nat.lt_or_ge R' R with c | c
  · have := Nat.mul_le_mul c c
    have h1 := h.1; have h2 := k.2
    simp only [Nat.succ_eq_add_one] at this
    omega
  · exact c

end Go.Slip

namespace Go.Slip

theorem tz_shift {m : Nat} (h : 0 < m) (k : Nat) : tz (m * 2 ^ k) = tz m + k := by
  obtain ⟨h1, h2⟩ := tz_spec m h
  have e : m * 2 ^ k = (m / 2 ^ tz m) * 2 ^ (tz m + k) := by
    conv => lhs; rw [← h1]
    rw [Nat.pow_add]; grind
  rw [e]
  exact tz_mul _ _ h2

theorem tz_low {d r : Nat} (h0 : 0 < d) (h : d < 4294967296) : tz (d + 4294967296 * r) = tz d := by
  obtain ⟨h1, h2⟩ := tz_spec d h0
  have hle : tz d < 32 := by
    rcases Nat.lt_or_ge (tz d) 32 with h3 | h3
    · exact h3
    · have h4 : 2 ^ 32 ≤ 2 ^ tz d := Nat.pow_le_pow_right (by omega) h3
      have h5 : 0 < d / 2 ^ tz d := by
        rcases Nat.eq_zero_or_pos (d / 2 ^ tz d) with h | h
        · rw [h] at h2; simp at h2
        · exact h
      have h6 := Nat.mul_le_mul_left (2 ^ tz d) h5
      simp only [Nat.succ_eq_add_one, Nat.zero_add, Nat.mul_one] at h6
      omega
  obtain ⟨t, ht⟩ : ∃ t, t = tz d := ⟨_, rfl⟩
  rw [← ht] at h1 h2 hle ⊢
  obtain ⟨s, hs⟩ : ∃ s, 32 = t + (s + 1) := ⟨31 - t, by omega⟩
  have e : d + 4294967296 * r = (d / 2 ^ t + 2 * (2 ^ s * r)) * 2 ^ t := by
    have e1 : (4294967296 : Nat) = 2 ^ t * (2 ^ s * 2) := by
      rw [show (4294967296 : Nat) = 2 ^ 32 by decide, hs, Nat.pow_add, Nat.pow_succ]
    rw [e1, Nat.add_mul]
    conv => lhs; rw [← h1]
    grind
  rw [e]
  exact tz_mul _ _ (by omega)

theorem tz_lt_blen {m : Nat} (h : 0 < m) : tz m < blen m := by
  obtain ⟨h1, h2⟩ := tz_spec m h
  rcases Nat.lt_or_ge (tz m) (blen m) with h3 | h3
  · exact h3
  · have h4 := (blen_le m (tz m)).1 h3
    have h5 : 0 < m / 2 ^ tz m := by
      rcases Nat.eq_zero_or_pos (m / 2 ^ tz m) with h | h
      · rw [h] at h2; simp at h2
      · exact h
    have h6 := Nat.mul_le_mul_left (2 ^ tz m) h5
    simp only [Nat.succ_eq_add_one, Nat.zero_add, Nat.mul_one] at h6
    omega

theorem blen_len32 (a : Nat) : blen a ≤ 32 * (dig B32 a).length := by
  rw [blen_le, Nat.pow_mul]
  exact (dig_len_le B32_two a _).1 (Nat.le_refl _)

theorem bare_pos {g : Bool} {m : Nat} {e : Int} (h : 0 < m) : bare ⟨g, m, e⟩ = ⟨g, m / 2 ^ tz m, e + tz m⟩ := by
  unfold bare
  rw [if_neg (show ¬ m = 0 by omega)]

theorem ctzFrom_tz : ∀ (f x : Nat), 0 < x → x < 2 ^ f → Lib.ctzFrom f x = tz x
  | 0, x, h0, h => by simp at h; omega
  | f + 1, x, h0, h => by
    unfold Lib.ctzFrom
    by_cases h1 : x % 2 = 1
    · rw [if_pos h1, tz_odd h1]
    · rw [if_neg h1, tz_even h0 (by omega), ctzFrom_tz f (x / 2) (by omega) (by rw [Nat.pow_succ] at h; omega)]
      omega

theorem ctz_tz {x : Nat} (h0 : 0 < x) (h : x < 4294967296) : Lib.ctz 32 x = tz x := by
  unfold Lib.ctz
  rw [if_neg (by omega)]
  exact ctzFrom_tz 32 x h0 (by omega)

/-- The first digit that is not 0 tells. -/
theorem tz_dig {xs : List Nat} {a i : Nat} (ha : val B32 xs = a) (hz : ∀ j, j < i → dg xs j = 0) (hd : 0 < dg xs i) (hl : dg xs i < 4294967296) : tz a = 32 * i + tz (dg xs i) := by
  have h1 := val_take_drop0 B32 xs i
  have h2 : val B32 (xs.take i) = 0 := by
    have : xs.take i = List.replicate (xs.take i).length 0 := by
      apply list_ext_dg
      · simp
      · intro t ht
        simp only [List.length_take] at ht
        rw [dg_take (by omega), dg_replicate, hz t (by omega)]
    rw [this, val_replicate]
  rw [h2, val_drop0, Nat.zero_add] at h1
  have e : a = (dg xs i + 4294967296 * val B32 (xs.drop (i + 1))) * 2 ^ (32 * i) := by
    rw [← ha, h1, Nat.pow_mul, show (2 : Nat) ^ 32 = B32 by decide, Nat.mul_comm]
    rfl
  rw [e, tz_shift (by omega), tz_low hd hl]
  omega

theorem val_zero_of {B : Nat} {xs : List Nat} (hz : ∀ j, j < xs.length → dg xs j = 0) : val B xs = 0 := by
  have : xs = List.replicate xs.length 0 := by
    apply list_ext_dg
    · simp
    · intro t ht
      rw [dg_replicate, hz t ht]
  rw [this, val_replicate]

end Go.Slip

namespace Go.Slip

theorem bare_m_le (d : Dv) : (bare d).m ≤ d.m := by
  unfold bare
  by_cases h : d.m = 0
  · rw [if_pos h]; exact Nat.zero_le _
  · rw [if_neg h]; exact Nat.div_le_self _ _

theorem bare_len {B : Nat} (hB : 2 ≤ B) (d : Dv) : (dig B (bare d).m).length ≤ (dig B d.m).length := dig_len_mono hB (bare_m_le d)

/-- The bare one's exponent. -/
theorem bare_e (d : Dv) {n : Nat} (hl : (dig B32 d.m).length ≤ n) {lo hi : Int} (h1 : lo ≤ d.e) (h2 : d.e ≤ hi) (h3 : lo ≤ 0) (h4 : 0 ≤ hi) : lo ≤ (bare d).e ∧ (bare d).e ≤ hi + 32 * n := by
  unfold bare
  by_cases h : d.m = 0
  · rw [if_pos h]; simp only; omega
  · rw [if_neg h]
    have h5 := tz_lt_blen (m := d.m) (by omega)
    have h6 := blen_len32 d.m
    simp only
    omega

theorem joinD_m_le (g h : Bool) (x y : Nat) (e : Int) : (joinD g h x y e).m ≤ x + y ∧ (joinD g h x y e).e = e := by
  unfold joinD
  split
  · simp
  · split
    · simp; omega
    · simp; omega

theorem len_shl (a N : Nat) : (dig B32 (a * 2 ^ N)).length ≤ (dig B32 a).length + (N / 32 + 1) := by
  refine Nat.le_trans (dig_len_mul B32_two _ _) ?_
  have : (dig B32 (2 ^ N)).length = N / 32 + 1 := by rw [← pow2_dig (B := B32) (w := 32) (by decide) (by omega) N]; simp
  omega

theorem dTimes_len (a b : Dv) : (dig B32 (dTimes a b).m).length ≤ (dig B32 a.m).length + (dig B32 b.m).length :=
  Nat.le_trans (bare_len B32_two _) (dig_len_mul B32_two _ _)

theorem B16_len32 (m : Nat) : (dig B16 m).length ≤ 2 * (dig B32 m).length := by
  have := dig_len_halves m
  omega

end Go.Slip

namespace Go.Slip

/-- The bare number that is z times 2 to the power of e. -/
def norm (z e : Int) : Dv := bare (ofZ z e)

theorem norm_bare (z e : Int) : Bare (norm z e) := bare_bare _

theorem norm_sg (g : Bool) (m : Nat) (e : Int) : norm (sg g m) e = bare ⟨g, m, e⟩ := by
  unfold norm ofZ
  by_cases h : m = 0
  · subst h
    have : sg g 0 = 0 := by unfold sg; cases g <;> rfl
    rw [this]; rfl
  · have h1 : (sg g m).natAbs = m := by unfold sg; cases g <;> simp
    have h2 : decide (sg g m < 0) = g := by unfold sg; cases g <;> simp <;> omega
    rw [h1, h2]

theorem sg_norm (z : Int) : sg (decide (z < 0)) z.natAbs = z := by
  unfold sg
  by_cases h : z < 0
  · simp [h]; omega
  · simp [h]; omega

theorem norm_shift (z : Int) (k : Nat) (e : Int) : norm (z * 2 ^ k) e = norm z (e + k) := by
  have h : z * 2 ^ k = sg (decide (z < 0)) (z.natAbs * 2 ^ k) := by
    rw [sg_mul, sg_norm]; simp
  rw [h, norm_sg, bare_shift]
  conv => rhs; rw [← sg_norm z]
  rw [norm_sg]

theorem norm_zero (e : Int) : norm 0 e = ⟨false, 0, 0⟩ := rfl

theorem norm_e (z : Int) {e : Int} (h : e ≤ 0) : e ≤ (norm z e).e := by
  unfold norm bare ofZ
  split
  · exact h
  · simp only; omega

theorem zOf_norm (z : Int) {e f : Int} (h : f ≤ e) : zOf (norm z e) f = z * 2 ^ (e - f).toNat := by
  by_cases h0 : z = 0
  · subst h0; rw [norm_zero]; simp [zOf, sg]
  · have hp : 0 < z.natAbs := by omega
    obtain ⟨s1, _⟩ := tz_spec z.natAbs hp
    unfold norm bare ofZ zOf
    rw [if_neg (by simp only; omega)]
    simp only
    have e1 : (e + (tz z.natAbs : Int) - f).toNat = tz z.natAbs + (e - f).toNat := by omega
    rw [e1, Nat.pow_add, ← Nat.mul_assoc, Nat.mul_comm (z.natAbs / _), s1, sg_mul, sg_norm]
    simp

theorem norm_zOf {d : Dv} (hd : Bare d) {e : Int} (h : e ≤ d.e) : norm (zOf d e) e = d := by
  unfold zOf
  rw [sg_mul]
  have := norm_shift (sg d.neg d.m) (d.e - e).toNat e
  simp only [Int.natCast_pow] at this ⊢
  rw [show ((2 : Nat) : Int) = 2 from rfl, this, show e + ((d.e - e).toNat : Int) = d.e by omega, norm_sg]
  exact bare_of hd

theorem zOf_inj {a b : Dv} (ha : Bare a) (hb : Bare b) {e : Int} (h1 : e ≤ a.e) (h2 : e ≤ b.e) (h : zOf a e = zOf b e) : a = b := by
  rw [← norm_zOf ha h1, ← norm_zOf hb h2, h]

theorem sg_lower (g : Bool) (m : Nat) {x E e : Int} (h : m = 0 ∨ E ≤ x) (he : e ≤ E) : sg g (m * 2 ^ (x - E).toNat) * 2 ^ (E - e).toNat = sg g (m * 2 ^ (x - e).toNat) := by
  rcases h with h | h
  · subst h; simp [sg]
  · have : (x - e).toNat = (x - E).toNat + (E - e).toNat := by omega
    rw [this, Nat.pow_add, ← Nat.mul_assoc, sg_mul g (m * 2 ^ (x - E).toNat)]
    simp

theorem rPlus_norm (a b : Dv) {e : Int} (h1 : e ≤ a.e) (h2 : e ≤ b.e) : rPlus a b = norm (zOf a e + zOf b e) e := by
  unfold rPlus
  rw [bare_join]
  have hE : e ≤ plusE a b := by unfold plusE; split; exact h1; split; exact h2; omega
  have ha : a.m = 0 ∨ plusE a b ≤ a.e := by
    unfold plusE
    by_cases hb0 : b.m = 0
    · rw [if_pos hb0]; exact .inr (by omega)
    · rw [if_neg hb0]
      by_cases ha0 : a.m = 0
      · exact .inl ha0
      · rw [if_neg ha0]; exact .inr (by omega)
  have hb : b.m = 0 ∨ plusE a b ≤ b.e := by
    unfold plusE
    by_cases hb0 : b.m = 0
    · exact .inl hb0
    · rw [if_neg hb0]
      by_cases ha0 : a.m = 0
      · rw [if_pos ha0]; exact .inr (by omega)
      · rw [if_neg ha0]; exact .inr (by omega)
  show norm _ _ = _
  generalize plusE a b = E at *
  have e1 : E = e + ((E - e).toNat : Int) := by omega
  have := norm_shift (sg a.neg (a.m * 2 ^ (a.e - E).toNat) + sg b.neg (b.m * 2 ^ (b.e - E).toNat)) (E - e).toNat e
  rw [← e1] at this
  rw [← this, Int.add_mul, sg_lower _ _ ha hE, sg_lower _ _ hb hE]
  rfl

theorem zOf_rPlus (a b : Dv) {e : Int} (h1 : e ≤ a.e) (h2 : e ≤ b.e) : zOf (rPlus a b) e = zOf a e + zOf b e := by
  rw [rPlus_norm a b h1 h2, zOf_norm _ (Int.le_refl _)]; simp

theorem rPlus_e (a b : Dv) {e : Int} (h1 : e ≤ a.e) (h2 : e ≤ b.e) (h0 : e ≤ 0) : e ≤ (rPlus a b).e := by
  rw [rPlus_norm a b h1 h2]; exact norm_e _ h0

theorem sg_xor (g h : Bool) (x y : Nat) : sg g x * sg h y = sg (xor g h) (x * y) := by
  unfold sg
  cases g <;> cases h <;> simp [Int.neg_mul, Int.mul_neg]

theorem dTimes_norm (a b : Dv) {e f : Int} (h1 : e ≤ a.e) (h2 : f ≤ b.e) : dTimes a b = norm (zOf a e * zOf b f) (e + f) := by
  unfold dTimes zOf
  rw [sg_xor, show a.m * 2 ^ (a.e - e).toNat * (b.m * 2 ^ (b.e - f).toNat) = (a.m * b.m) * 2 ^ ((a.e - e).toNat + (b.e - f).toNat) by rw [Nat.pow_add]; grind, sg_mul]
  have := norm_shift (sg (xor a.neg b.neg) (a.m * b.m)) ((a.e - e).toNat + (b.e - f).toNat) (e + f)
  simp only [Int.natCast_pow] at this ⊢
  rw [show ((2 : Nat) : Int) = 2 from rfl, this, norm_sg]
  congr 2
  omega

/-- The comparison is that of the whole numbers. -/
theorem zOf_dMinus (a : Dv) (e : Int) : zOf (dMinus a) e = - zOf a e := by
  unfold zOf dMinus sg
  by_cases h : a.m = 0
  · simp [h]
  · have : 0 < a.m := by omega
    cases hn : a.neg <;> simp [this]

theorem rCmp_zOf (a b : Dv) {e : Int} (h1 : e ≤ a.e) (h2 : e ≤ b.e) : rCmp a b = Int.sign (zOf a e - zOf b e) := by
  unfold rCmp
  rw [rPlus_norm a (dMinus b) h1 (show e ≤ (dMinus b).e from h2), zOf_dMinus]
  unfold norm
  rw [dSign_bare, ← Int.sub_eq_add_neg]

end Go.Slip

namespace Go.Slip

theorem tz_low16 {d r : Nat} (h0 : 0 < d) (h : d < 65536) : tz (d + 65536 * r) = tz d := by
  obtain ⟨h1, h2⟩ := tz_spec d h0
  have hle : tz d < 16 := by
    rcases Nat.lt_or_ge (tz d) 16 with h3 | h3
    · exact h3
    · have h4 : 2 ^ 16 ≤ 2 ^ tz d := Nat.pow_le_pow_right (by omega) h3
      have h5 : 0 < d / 2 ^ tz d := by
        rcases Nat.eq_zero_or_pos (d / 2 ^ tz d) with h | h
        · rw [h] at h2; simp at h2
        · exact h
      have h6 := Nat.mul_le_mul_left (2 ^ tz d) h5
      simp only [Nat.succ_eq_add_one, Nat.zero_add, Nat.mul_one] at h6
      omega
  obtain ⟨t, ht⟩ : ∃ t, t = tz d := ⟨_, rfl⟩
  rw [← ht] at h1 h2 hle ⊢
  obtain ⟨s, hs⟩ : ∃ s, 16 = t + (s + 1) := ⟨15 - t, by omega⟩
  have e : d + 65536 * r = (d / 2 ^ t + 2 * (2 ^ s * r)) * 2 ^ t := by
    have e1 : (65536 : Nat) = 2 ^ t * (2 ^ s * 2) := by
      rw [show (65536 : Nat) = 2 ^ 16 by decide, hs, Nat.pow_add, Nat.pow_succ]
    rw [e1, Nat.add_mul]
    conv => lhs; rw [← h1]
    grind
  rw [e]
  exact tz_mul _ _ (by omega)

/-- The first digit that is not 0 tells. -/
theorem tz_dig16 {xs : List Nat} {a i : Nat} (ha : val B16 xs = a) (hz : ∀ j, j < i → dg xs j = 0) (hd : 0 < dg xs i) (hl : dg xs i < 65536) : tz a = 16 * i + tz (dg xs i) := by
  have h1 := val_take_drop0 B16 xs i
  have h2 : val B16 (xs.take i) = 0 := by
    have : xs.take i = List.replicate (xs.take i).length 0 := by
      apply list_ext_dg
      · simp
      · intro t ht
        simp only [List.length_take] at ht
        rw [dg_take (by omega), dg_replicate, hz t (by omega)]
    rw [this, val_replicate]
  rw [h2, val_drop0, Nat.zero_add] at h1
  have e : a = (dg xs i + 65536 * val B16 (xs.drop (i + 1))) * 2 ^ (16 * i) := by
    rw [← ha, h1, Nat.pow_mul, show (2 : Nat) ^ 16 = B16 by decide, Nat.mul_comm]
    rfl
  rw [e, tz_shift (by omega), tz_low16 hd hl]
  omega

/-- What the search for the first one knows. -/
def BareOut (xs : List Nat) (j n : Nat) : Prop := n = 16 * j ∧ ∀ i, i < j → dg xs i = 0

theorem BareOut.start (xs : List Nat) : BareOut xs 0 0 := ⟨rfl, fun i hi => by omega⟩
theorem BareOut.step {xs : List Nat} {j n : Nat} (h : BareOut xs j n) (hz : dg xs j = 0) : BareOut xs (j + 1) (n + 16) :=
  ⟨by have := h.1; omega, fun i hi => by
    by_cases he : i = j
    · subst he; exact hz
    · exact h.2 i (by omega)⟩
theorem BareOut.lt {xs : List Nat} {j n m : Nat} (h : BareOut xs j n) (hv : val B16 xs = m) (h0 : 0 < m) : j < xs.length := by
  rcases Nat.lt_or_ge j xs.length with h1 | h1
  · exact h1
  · have := val_zero_of (B := B16) (xs := xs) (fun i hi => h.2 i (by omega))
    omega

/-- Within the digit. -/
def BareIn (m d n : Nat) : Prop := ∃ t, n + tz d = t ∧ t = tz m ∧ 0 < d
theorem BareIn.start {xs : List Nat} {j n m : Nat} (h : BareOut xs j n) (hv : val B16 xs = m) (h0 : 0 < dg xs j) (hl : dg xs j < 65536) : BareIn m (dg xs j) n :=
  ⟨_, rfl, by rw [tz_dig16 hv h.2 h0 hl, h.1], h0⟩
theorem BareIn.step {m d n : Nat} (h : BareIn m d n) (he : d % 2 = 0) : BareIn m (d / 2) (n + 1) := by
  obtain ⟨t, h1, h2, h3⟩ := h
  rw [tz_even h3 he] at h1
  exact ⟨t, by omega, h2, by omega⟩
theorem BareIn.done {m d n : Nat} (h : BareIn m d n) (he : d % 2 = 1) : n = tz m := by
  obtain ⟨t, h1, h2, h3⟩ := h
  rw [tz_odd he] at h1
  omega

theorem blen_len16 (a : Nat) : blen a ≤ 16 * (dig B16 a).length := by
  rw [blen_le, Nat.pow_mul]
  exact (dig_len_le B16_two a _).1 (Nat.le_refl _)

end Go.Slip

namespace Go.Slip

theorem rCut_small' {a : Dv} {b : Nat} (up : Bool) (h : blen a.m ≤ b) : rCut a b up = a := by unfold rCut; rw [if_pos h]

/-- The digits that a cut leaves, ahead of their being bared. -/
def cutM (a : Dv) (n : Nat) (up : Bool) : Nat := a.m / 2 ^ n + (if a.m % 2 ^ n ≠ 0 ∧ up ≠ a.neg then 1 else 0)

theorem rCut_great {a : Dv} {b : Nat} (up : Bool) (h : b < blen a.m) : rCut a b up = norm (sg a.neg (cutM a (blen a.m - b) up)) (a.e + ((blen a.m - b : Nat) : Int)) := by
  unfold rCut
  rw [if_neg (by omega), norm_sg]
  rfl

theorem norm_e0 (z : Int) {e : Int} (hz : z ≠ 0) : e ≤ (norm z e).e := by
  unfold norm bare ofZ
  simp only
  rw [if_neg (by omega)]
  simp only
  omega

theorem cutM_pos {a : Dv} {b : Nat} (up : Bool) (hb : 0 < b) (h : b < blen a.m) : 0 < cutM a (blen a.m - b) up := by
  unfold cutM
  have h1 : ¬ blen a.m ≤ blen a.m - b := by omega
  rw [blen_le] at h1
  have h2 : 0 < a.m / 2 ^ (blen a.m - b) := Nat.div_pos (by omega) (Nat.pow_pos (by omega))
  omega

theorem sg_ne {g : Bool} {m : Nat} (h : 0 < m) : sg g m ≠ 0 := by unfold sg; cases g <;> simp <;> omega

theorem rCut_e {a : Dv} {b : Nat} (up : Bool) (hb : 0 < b) : a.e ≤ (rCut a b up).e := by
  by_cases h : blen a.m ≤ b
  · rw [rCut_small' up h]; exact Int.le_refl _
  · rw [rCut_great up (by omega)]
    have := norm_e0 _ (e := a.e + ((blen a.m - b : Nat) : Int)) (sg_ne (g := a.neg) (cutM_pos up hb (show b < blen a.m by omega)))
    omega

theorem zOf_rCut {a : Dv} {b : Nat} (up : Bool) (h : b < blen a.m) : zOf (rCut a b up) a.e = sg a.neg (cutM a (blen a.m - b) up) * 2 ^ (blen a.m - b) := by
  rw [rCut_great up h, zOf_norm _ (by omega)]
  congr 2
  omega

theorem zOf_self (a : Dv) : zOf a a.e = sg a.neg a.m := by unfold zOf; simp

/-- Both ways: what is below, what is above. -/
theorem cut_between {a : Dv} {b : Nat} (h : b < blen a.m) :
    zOf (rCut a b false) a.e ≤ zOf a a.e ∧ zOf a a.e ≤ zOf (rCut a b true) a.e ∧ (a.m % 2 ^ (blen a.m - b) ≠ 0 → zOf (rCut a b false) a.e < zOf (rCut a b true) a.e) := by
  rw [zOf_rCut _ h, zOf_rCut _ h, zOf_self]
  generalize blen a.m - b = n
  have hd := Nat.div_add_mod a.m (2 ^ n)
  have hl := Nat.mod_lt a.m (Nat.pow_pos (a := 2) (n := n) (by omega))
  have e1 : (2 : Int) ^ n = ((2 ^ n : Nat) : Int) := by simp
  rw [e1]
  unfold cutM
  have key : ∀ (q P r m : Nat), P * q + r = m → r < P → (q : Int) * P ≤ m ∧ (m : Int) ≤ ((q + 1 : Nat) : Int) * P ∧ (q : Int) * P < ((q + 1 : Nat) : Int) * P ∧ (r = 0 → (q : Int) * P = m) := by
    intro q P r m h1 h2
    have h3 : (q : Int) * P = ((P * q : Nat) : Int) := by simp [Int.mul_comm]
    have h4 : ((q + 1 : Nat) : Int) * P = ((P * q + P : Nat) : Int) := by
      rw [← Int.natCast_mul]; congr 1; rw [Nat.add_mul, Nat.mul_comm q P]; omega
    rw [h3, h4]
    omega
  obtain ⟨k1, k2, k3, k4⟩ := key _ _ _ _ hd hl
  generalize a.m / 2 ^ n = q at *
  generalize a.m % 2 ^ n = r at *
  generalize ((2 ^ n : Nat) : Int) = P at *
  generalize a.neg = g
  by_cases h0 : r = 0
  · have h1 := k4 h0
    have c : ∀ up : Bool, (q + if r ≠ 0 ∧ up ≠ g then 1 else 0) = q := fun up => by rw [if_neg (by omega)]; rfl
    rw [c, c]
    cases g
    · simp only [sg, Bool.false_eq_true, if_false]; omega
    · simp only [sg, if_true, Int.neg_mul]; omega
  · cases g
    · have c1 : (q + if r ≠ 0 ∧ false ≠ false then 1 else 0) = q := by simp
      have c2 : (q + if r ≠ 0 ∧ true ≠ false then 1 else 0) = q + 1 := by simp [h0]
      rw [c1, c2]
      simp only [sg, Bool.false_eq_true, if_false]; omega
    · have c1 : (q + if r ≠ 0 ∧ false ≠ true then 1 else 0) = q + 1 := by simp [h0]
      have c2 : (q + if r ≠ 0 ∧ true ≠ true then 1 else 0) = q := by simp
      rw [c1, c2]
      simp only [sg, if_true, Int.neg_mul]; omega

/-- WHAT THE LAW SAYS of both. -/
theorem cut_law {a : Dv} (ha : Bare a) {b : Nat} (hb : 0 < b) :
    rCmp (rCut a b false) a ≤ 0 ∧ rCmp a (rCut a b true) ≤ 0 ∧ (rCut a b false = rCut a b true ↔ blen a.m ≤ b) := by
  by_cases h : blen a.m ≤ b
  · rw [rCut_small' _ h, rCut_small' _ h]
    have : rCmp a a = 0 := by rw [rCmp_zOf a a (Int.le_refl _) (Int.le_refl _)]; simp
    simp [this, h]
  · have h2 : b < blen a.m := by omega
    obtain ⟨k1, k2, k3⟩ := cut_between h2
    have h3 : a.m % 2 = 1 := by
      rcases ha with h1 | rfl
      · exact h1
      · rw [blen_zero] at h; omega
    have k4 := k3 (odd_mod h3 (by omega))
    refine ⟨?_, ?_, ?_⟩
    · rw [rCmp_zOf _ _ (rCut_e false hb) (Int.le_refl _)]
      rw [Int.sign_nonpos_iff]; omega
    · rw [rCmp_zOf _ _ (Int.le_refl _) (rCut_e true hb)]
      rw [Int.sign_nonpos_iff]; omega
    · constructor
      · intro he
        rw [he] at k4
        omega
      · intro h4; omega

end Go.Slip

namespace Go.Slip

/-- The least and the greatest of some, as the program finds them. -/
def lowD (a : Dv) (l : List Dv) : Dv := l.foldl (fun s x => if pCmp x s < 0 then x else s) a
def highD (a : Dv) (l : List Dv) : Dv := l.foldl (fun s x => if 0 < pCmp x s then x else s) a
/-- The same, as the references do. -/
def rLow (a : Dv) (l : List Dv) : Dv := l.foldl (fun s x => if rCmp x s < 0 then x else s) a
def rHigh (a : Dv) (l : List Dv) : Dv := l.foldl (fun s x => if 0 < rCmp x s then x else s) a

theorem low_eq (l : List Dv) : ∀ (a : Dv), Bare a → (∀ x ∈ l, Bare x) → lowD a l = rLow a l := by
  induction l with
  | nil => intro a _ _; rfl
  | cons y l ih =>
    intro a ha hl
    have hy := hl y (by simp)
    show lowD (if pCmp y a < 0 then y else a) l = rLow (if rCmp y a < 0 then y else a) l
    rw [rCmp_eq hy ha]
    exact ih _ (by split <;> assumption) fun x hx => hl x (by simp [hx])

theorem high_eq (l : List Dv) : ∀ (a : Dv), Bare a → (∀ x ∈ l, Bare x) → highD a l = rHigh a l := by
  induction l with
  | nil => intro a _ _; rfl
  | cons y l ih =>
    intro a ha hl
    have hy := hl y (by simp)
    show highD (if 0 < pCmp y a then y else a) l = rHigh (if 0 < rCmp y a then y else a) l
    rw [rCmp_eq hy ha]
    exact ih _ (by split <;> assumption) fun x hx => hl x (by simp [hx])

theorem low_mem (l : List Dv) : ∀ a, lowD a l = a ∨ lowD a l ∈ l := by
  induction l with
  | nil => intro a; exact .inl rfl
  | cons y l ih =>
    intro a
    show lowD (if pCmp y a < 0 then y else a) l = a ∨ lowD (if pCmp y a < 0 then y else a) l ∈ y :: l
    rcases ih (if pCmp y a < 0 then y else a) with h | h
    · rw [h]; split
      · exact .inr (by simp)
      · exact .inl rfl
    · exact .inr (by simp [h])

theorem high_mem (l : List Dv) : ∀ a, highD a l = a ∨ highD a l ∈ l := by
  induction l with
  | nil => intro a; exact .inl rfl
  | cons y l ih =>
    intro a
    show highD (if 0 < pCmp y a then y else a) l = a ∨ highD (if 0 < pCmp y a then y else a) l ∈ y :: l
    rcases ih (if 0 < pCmp y a then y else a) with h | h
    · rw [h]; split
      · exact .inr (by simp)
      · exact .inl rfl
    · exact .inr (by simp [h])

/-- What is wrong with two ends, and what is told of them. -/
def errB (l h : Dv) : Int := if errD l = 0 then errD h else errD l
def doneL (l h : Dv) : Dv := if errB l h = 0 then l else zeroD
def doneH (l h : Dv) : Dv := if errB l h = 0 then h else zeroD

theorem blen_len (m n : Nat) (h : blen m ≤ n) : (dig B32 m).length ≤ n / 32 + 1 := by
  rw [dig_len_le B32_two]
  have h1 := (blen_le m n).1 h
  refine Nat.lt_of_lt_of_le h1 ?_
  rw [show B32 = 2 ^ 32 from rfl, ← Nat.pow_mul]
  exact Nat.pow_le_pow_right (by omega) (by omega)

end Go.Slip

namespace Go.Slip

/-- One number is not more than another. -/
def leD (a b : Dv) : Prop := rCmp a b ≤ 0

theorem leD_iff {a b : Dv} {e : Int} (h1 : e ≤ a.e) (h2 : e ≤ b.e) : leD a b ↔ zOf a e ≤ zOf b e := by
  unfold leD
  rw [rCmp_zOf a b h1 h2, Int.sign_nonpos_iff]
  omega

theorem leD_refl (a : Dv) : leD a a := (leD_iff (Int.le_refl _) (Int.le_refl _)).2 (Int.le_refl _)

theorem leD_trans {a b c : Dv} (h : leD a b) (k : leD b c) : leD a c := by
  have ha : min a.e (min b.e c.e) ≤ a.e := by omega
  have hb : min a.e (min b.e c.e) ≤ b.e := by omega
  have hc : min a.e (min b.e c.e) ≤ c.e := by omega
  rw [leD_iff ha hb] at h
  rw [leD_iff hb hc] at k
  rw [leD_iff ha hc]
  omega

theorem leD_antisymm {a b : Dv} (ha : Bare a) (hb : Bare b) (h : leD a b) (k : leD b a) : a = b := by
  have h1 : min a.e b.e ≤ a.e := by omega
  have h2 : min a.e b.e ≤ b.e := by omega
  rw [leD_iff h1 h2] at h
  rw [leD_iff h2 h1] at k
  exact zOf_inj ha hb h1 h2 (by omega)

theorem not_leD {a b : Dv} : ¬ leD a b ↔ 0 < rCmp a b := by unfold leD; omega
theorem lt_leD {a b : Dv} (h : rCmp a b < 0) : leD a b := by unfold leD; omega
theorem ge_leD {a b : Dv} (h : ¬ rCmp a b < 0) : leD b a := by
  have h1 : min a.e b.e ≤ a.e := by omega
  have h2 : min a.e b.e ≤ b.e := by omega
  rw [rCmp_zOf a b h1 h2, Int.sign_neg_iff] at h
  rw [leD_iff h2 h1]
  omega
theorem gt_leD {a b : Dv} (h : 0 < rCmp a b) : leD b a := by
  have h1 : min a.e b.e ≤ a.e := by omega
  have h2 : min a.e b.e ≤ b.e := by omega
  rw [rCmp_zOf a b h1 h2, Int.sign_pos_iff] at h
  rw [leD_iff h2 h1]
  omega

theorem rLow_le (l : List Dv) : ∀ a, leD (rLow a l) a ∧ ∀ x ∈ l, leD (rLow a l) x := by
  induction l with
  | nil => intro a; exact ⟨leD_refl a, by simp⟩
  | cons y l ih =>
    intro a
    obtain ⟨h1, h2⟩ := ih (if rCmp y a < 0 then y else a)
    have h0 : rLow a (y :: l) = rLow (if rCmp y a < 0 then y else a) l := rfl
    rw [h0]
    have k1 : leD (if rCmp y a < 0 then y else a) a := by split; exact lt_leD (by assumption); exact leD_refl a
    have k2 : leD (if rCmp y a < 0 then y else a) y := by split; exact leD_refl y; exact ge_leD (by assumption)
    refine ⟨leD_trans h1 k1, fun x hx => ?_⟩
    simp only [List.mem_cons] at hx
    rcases hx with rfl | hx
    · exact leD_trans h1 k2
    · exact h2 x hx

theorem rHigh_ge (l : List Dv) : ∀ a, leD a (rHigh a l) ∧ ∀ x ∈ l, leD x (rHigh a l) := by
  induction l with
  | nil => intro a; exact ⟨leD_refl a, by simp⟩
  | cons y l ih =>
    intro a
    obtain ⟨h1, h2⟩ := ih (if 0 < rCmp y a then y else a)
    have h0 : rHigh a (y :: l) = rHigh (if 0 < rCmp y a then y else a) l := rfl
    rw [h0]
    have k1 : leD a (if 0 < rCmp y a then y else a) := by split; exact gt_leD (by assumption); exact leD_refl a
    have k2 : leD y (if 0 < rCmp y a then y else a) := by split; exact leD_refl y; (rename_i h; unfold leD; omega)
    refine ⟨leD_trans k1 h1, fun x hx => ?_⟩
    simp only [List.mem_cons] at hx
    rcases hx with rfl | hx
    · exact leD_trans k2 h1
    · exact h2 x hx

theorem bare_mem {a : Dv} {l : List Dv} (ha : Bare a) (hl : ∀ x ∈ l, Bare x) : ∀ x ∈ a :: l, Bare x := by
  intro x hx
  simp only [List.mem_cons] at hx
  rcases hx with rfl | hx
  · exact ha
  · exact hl x hx

/-- Which one is the least. -/
theorem low_is {a x : Dv} {l : List Dv} (ha : Bare a) (hl : ∀ y ∈ l, Bare y) (hx : x ∈ a :: l) (h : ∀ y ∈ a :: l, leD x y) : lowD a l = x := by
  have hm : lowD a l ∈ a :: l := by rcases low_mem l a with h1 | h1; rw [h1]; simp; exact List.mem_cons_of_mem _ h1
  have hB := bare_mem ha hl
  have k := rLow_le l a
  rw [← low_eq l a ha hl] at k
  have k3 : ∀ y ∈ a :: l, leD (lowD a l) y := by
    intro y hy
    simp only [List.mem_cons] at hy
    rcases hy with rfl | hy
    · exact k.1
    · exact k.2 y hy
  exact leD_antisymm (hB _ hm) (hB _ hx) (k3 x hx) (h _ hm)

theorem high_is {a x : Dv} {l : List Dv} (ha : Bare a) (hl : ∀ y ∈ l, Bare y) (hx : x ∈ a :: l) (h : ∀ y ∈ a :: l, leD y x) : highD a l = x := by
  have hm : highD a l ∈ a :: l := by rcases high_mem l a with h1 | h1; rw [h1]; simp; exact List.mem_cons_of_mem _ h1
  have hB := bare_mem ha hl
  have k := rHigh_ge l a
  rw [← high_eq l a ha hl] at k
  have k3 : ∀ y ∈ a :: l, leD y (highD a l) := by
    intro y hy
    simp only [List.mem_cons] at hy
    rcases hy with rfl | hy
    · exact k.1
    · exact k.2 y hy
  exact leD_antisymm (hB _ hm) (hB _ hx) (h _ hm) (k3 x hx)

theorem leD_plus {a b c d : Dv} (h : leD a b) (k : leD c d) : leD (rPlus a c) (rPlus b d) := by
  have h1 : min (min (min a.e b.e) (min c.e d.e)) 0 ≤ a.e := by omega
  have h2 : min (min (min a.e b.e) (min c.e d.e)) 0 ≤ b.e := by omega
  have h3 : min (min (min a.e b.e) (min c.e d.e)) 0 ≤ c.e := by omega
  have h4 : min (min (min a.e b.e) (min c.e d.e)) 0 ≤ d.e := by omega
  have h0 : min (min (min a.e b.e) (min c.e d.e)) 0 ≤ 0 := by omega
  rw [leD_iff h1 h2] at h
  rw [leD_iff h3 h4] at k
  rw [leD_iff (rPlus_e a c h1 h3 h0) (rPlus_e b d h2 h4 h0), zOf_rPlus a c h1 h3, zOf_rPlus b d h2 h4]
  omega

theorem two_le {P : Dv → Prop} {x y : Dv} (h : P x) (k : P y) : ∀ t ∈ [x, y], P t := by
  intro t ht
  simp only [List.mem_cons, List.not_mem_nil, or_false] at ht
  rcases ht with rfl | rfl <;> assumption

/-- The ends of a sum. -/
theorem plus_ends {a b a' b' : Dv} (ha : Bare a) (hb : Bare b) (ha' : Bare a') (hb' : Bare b') (h : leD a b) (h' : leD a' b') :
    lowD (pPlus a a') [pPlus b b'] = rPlus a a' ∧ highD (pPlus a a') [pPlus b b'] = rPlus b b' := by
  have k := leD_plus h h'
  rw [pPlus_eq ha ha', pPlus_eq hb hb']
  have B1 := rPlus_bare a a'
  have B2 := rPlus_bare b b'
  exact ⟨low_is B1 (by simpa using B2) (by simp) (two_le (leD_refl _) k), high_is B1 (by simpa using B2) (by simp) (two_le k (leD_refl _))⟩

end Go.Slip

namespace Go.Slip

end Go.Slip

namespace Go.Slip

theorem cut_down {a : Dv} (ha : Bare a) {b : Nat} (hb : 0 < b) : leD (rCut a b false) a := (cut_law ha hb).1
theorem cut_up {a : Dv} (ha : Bare a) {b : Nat} (hb : 0 < b) : leD a (rCut a b true) := (cut_law ha hb).2.1

theorem leD_norm {z u e f : Int} (g : Int) (h1 : g ≤ e) (h2 : g ≤ f) : leD (norm z e) (norm u f) ↔ z * 2 ^ (e - g).toNat ≤ u * 2 ^ (f - g).toNat := by
  obtain ⟨k, hk, k1, k2⟩ : ∃ k : Int, k ≤ g ∧ k ≤ (norm z e).e ∧ k ≤ (norm u f).e := ⟨min g (min (norm z e).e (norm u f).e), by omega, by omega, by omega⟩
  rw [leD_iff k1 k2, zOf_norm z (by omega), zOf_norm u (by omega)]
  rw [show (e - k).toNat = (e - g).toNat + (g - k).toNat by omega, show (f - k).toNat = (f - g).toNat + (g - k).toNat by omega, Int.pow_add, Int.pow_add, ← Int.mul_assoc, ← Int.mul_assoc]
  have hp : (0 : Int) < 2 ^ (g - k).toNat := Int.pow_pos (by omega)
  exact ⟨fun h => Int.le_of_mul_le_mul_right h hp, fun h => Int.mul_le_mul_of_nonneg_right h (by omega)⟩

end Go.Slip

namespace Go.Slip

/-- One term. -/
def tj (n P j : Nat) : Nat := 2 ^ P / (n ^ (2 * j + 1) * (2 * j + 1))
/-- Some of the terms. -/
def sC (c : Nat → Nat) (n P : Nat) : Nat → Nat
  | 0 => 0
  | j + 1 => sC c n P j + c j * tj n P j
/-- How many there are. -/
def IsJ (n P J : Nat) : Prop := 2 ^ P < n ^ (2 * J + 1) ∧ ∀ j, j < J → n ^ (2 * j + 1) ≤ 2 ^ P

theorem tj_lower (n : Nat) {p P : Nat} (h : p ≤ P) (j : Nat) (hn : 0 < n) : 2 ^ (P - p) * tj n p j ≤ tj n P j ∧ tj n P j ≤ 2 ^ (P - p) * (tj n p j + 1) := by
  unfold tj
  have hP : 2 ^ P = 2 ^ (P - p) * 2 ^ p := by rw [← Nat.pow_add]; congr 1; omega
  have hD : 0 < n ^ (2 * j + 1) * (2 * j + 1) := Nat.mul_pos (Nat.pow_pos hn) (by omega)
  generalize n ^ (2 * j + 1) * (2 * j + 1) = D at *
  rw [hP]
  generalize 2 ^ (P - p) = s
  generalize 2 ^ p = x
  constructor
  · rw [Nat.le_div_iff_mul_le hD, Nat.mul_assoc]
    exact Nat.mul_le_mul_left _ (Nat.div_mul_le_self x D)
  · have h1 : x ≤ (x / D + 1) * D := by
      have := Nat.lt_succ_self (x / D)
      exact Nat.le_of_lt ((Nat.div_lt_iff_lt_mul hD).1 this)
    rw [← Nat.mul_div_cancel (s * (x / D + 1)) hD]
    exact Nat.div_le_div_right (by rw [Nat.mul_assoc]; exact Nat.mul_le_mul_left _ h1)

theorem sC_lower (c : Nat → Nat) (hc : ∀ j, c j ≤ 1) {n p P : Nat} (h : p ≤ P) (hn : 0 < n) (J : Nat) : 2 ^ (P - p) * sC c n p J ≤ sC c n P J ∧ sC c n P J ≤ 2 ^ (P - p) * (sC c n p J + J) := by
  induction J with
  | zero => simp [sC]
  | succ J ih =>
    obtain ⟨h1, h2⟩ := tj_lower n h J hn
    have h3 := hc J
    simp only [sC]
    generalize 2 ^ (P - p) = s at *
    rcases (show c J = 0 ∨ c J = 1 by omega) with k | k <;> rw [k]
    · rw [Nat.zero_mul, Nat.zero_mul, Nat.add_zero, Nat.add_zero]
      refine ⟨ih.1, Nat.le_trans ih.2 (Nat.mul_le_mul_left _ (by omega))⟩
    · rw [Nat.one_mul, Nat.one_mul]
      constructor
      · rw [Nat.mul_add]; omega
      · have : s * (sC c n p J + tj n p J + (J + 1)) = s * (sC c n p J + J) + s * (tj n p J + 1) := by grind
        omega

theorem half_sum (x I : Nat) : ∀ (f : Nat → Nat), (∀ i, f i ≤ x / 2 ^ i) → ∀ g : Nat → Nat, g 0 = 0 → (∀ i, g (i + 1) = g i + f i) → g I + 2 * (x / 2 ^ I) ≤ 2 * x := by
  intro f hf g g0 gs
  induction I with
  | zero => simp [g0]
  | succ I ih =>
    rw [gs]
    have h1 := hf I
    have h2 : x / 2 ^ (I + 1) = x / 2 ^ I / 2 := by rw [Nat.pow_succ, Nat.div_div_eq_div_mul]
    rw [h2]
    omega

theorem pow_two_le {n : Nat} (hn : 2 ≤ n) (k : Nat) : 2 ^ k ≤ n ^ k := Nat.pow_le_pow_left hn k

/-- A term behind the last one that counts. -/
theorem tj_tail {n P : Nat} (hn : 2 ≤ n) {s J : Nat} (hs : 2 ^ P ≤ s * n ^ (2 * J + 1)) (i : Nat) : tj n P (J + i) ≤ s / 2 ^ i := by
  unfold tj
  have h1 : n ^ (2 * (J + i) + 1) * (2 * (J + i) + 1) = n ^ (2 * J + 1) * (n ^ (2 * i) * (2 * (J + i) + 1)) := by
    rw [show 2 * (J + i) + 1 = (2 * J + 1) + 2 * i by omega, Nat.pow_add]; grind
  have h0 : 0 < n ^ (2 * J + 1) := Nat.pow_pos (by omega)
  rw [h1, ← Nat.div_div_eq_div_mul]
  have h2 : 2 ^ P / n ^ (2 * J + 1) ≤ s := by
    rw [← Nat.mul_div_cancel s h0]; exact Nat.div_le_div_right hs
  refine Nat.le_trans (Nat.div_le_div_right h2) ?_
  refine Nat.div_le_div_left ?_ (Nat.pow_pos (by omega))
  have h3 : 2 ^ i ≤ n ^ (2 * i) := Nat.le_trans (Nat.pow_le_pow_right (by omega) (by omega)) (pow_two_le hn (2 * i))
  calc 2 ^ i ≤ n ^ (2 * i) * 1 := by omega
    _ ≤ n ^ (2 * i) * (2 * (J + i) + 1) := Nat.mul_le_mul_left _ (by omega)

theorem sC_tail (c : Nat → Nat) (hc : ∀ j, c j ≤ 1) {n P : Nat} (hn : 2 ≤ n) {s J : Nat} (hs : 2 ^ P ≤ s * n ^ (2 * J + 1)) {J' : Nat} (hJ : J ≤ J') : sC c n P J ≤ sC c n P J' ∧ sC c n P J' ≤ sC c n P J + 2 * s := by
  obtain ⟨I, rfl⟩ : ∃ I, J' = J + I := ⟨J' - J, by omega⟩
  have hm : ∀ I, sC c n P J ≤ sC c n P (J + I) := by
    intro I
    induction I with
    | zero => exact Nat.le_refl _
    | succ I ih => rw [← Nat.add_assoc]; simp only [sC]; omega
  have := half_sum s I (fun i => c (J + i) * tj n P (J + i)) (fun i => by
    have h1 := hc (J + i)
    have h2 := tj_tail hn hs i
    show c (J + i) * tj n P (J + i) ≤ s / 2 ^ i
    rcases (show c (J + i) = 0 ∨ c (J + i) = 1 by omega) with k | k <;> rw [k]
    · omega
    · omega) (fun i => sC c n P (J + i) - sC c n P J) (by simp) (fun i => by
      have := hm i
      show sC c n P (J + (i + 1)) - sC c n P J = sC c n P (J + i) - sC c n P J + c (J + i) * tj n P (J + i)
      rw [← Nat.add_assoc]; simp only [sC]; omega)
  have h1 := hm I
  refine ⟨h1, ?_⟩
  have : sC c n P (J + I) - sC c n P J + 2 * (s / 2 ^ I) ≤ 2 * s := this
  omega

/-- HOW NEAR THE SUM TO FEW DIGITS IS TO THE SUM TO MANY. -/
theorem sC_near (c : Nat → Nat) (hc : ∀ j, c j ≤ 1) {n p P : Nat} (h : p ≤ P) (hn : 2 ≤ n) {J J' : Nat} (k : IsJ n p J) (hJ : J ≤ J') :
    2 ^ (P - p) * sC c n p J ≤ sC c n P J' ∧ sC c n P J' ≤ 2 ^ (P - p) * (sC c n p J + J + 2) := by
  obtain ⟨h1, h2⟩ := sC_lower c hc h (show 0 < n by omega) J
  have hs : 2 ^ P ≤ 2 ^ (P - p) * n ^ (2 * J + 1) := by
    have : 2 ^ P = 2 ^ (P - p) * 2 ^ p := by rw [← Nat.pow_add]; congr 1; omega
    rw [this]
    exact Nat.mul_le_mul_left _ (Nat.le_of_lt k.1)
  obtain ⟨h3, h4⟩ := sC_tail c hc hn hs hJ
  generalize 2 ^ (P - p) = s at *
  refine ⟨by omega, ?_⟩
  have : s * (sC c n p J + J + 2) = s * (sC c n p J + J) + 2 * s := by grind
  omega

theorem sC_le (c : Nat → Nat) (hc : ∀ j, c j ≤ 1) {n P : Nat} (hn : 2 ≤ n) (J : Nat) : sC c n P J ≤ 2 * 2 ^ P := by
  have := (sC_tail c hc hn (P := P) (s := 2 ^ P) (J := 0) (by
    have h1 : 1 ≤ n ^ (2 * 0 + 1) := Nat.pow_pos (by omega)
    have := Nat.mul_le_mul_left (2 ^ P) h1
    omega) (Nat.zero_le J)).2
  simpa [sC] using this

theorem isJ_le {n P J : Nat} (hn : 2 ≤ n) (k : IsJ n P J) : 2 * J ≤ P + 1 := by
  rcases Nat.eq_zero_or_pos J with h | h
  · omega
  · have h1 := k.2 (J - 1) (by omega)
    have h2 := Nat.le_trans (pow_two_le hn _) h1
    have := (Nat.pow_le_pow_iff_right (show 1 < 2 by omega)).1 h2
    omega

/-- The terms of a sum by turns: those that are added, those that are taken away. -/
def cP (t : Bool) (j : Nat) : Nat := if t = true ∧ j % 2 = 1 then 0 else 1
def cM (t : Bool) (j : Nat) : Nat := if t = true ∧ j % 2 = 1 then 1 else 0
theorem cP_le (t : Bool) (j : Nat) : cP t j ≤ 1 := by unfold cP; split <;> omega
theorem cM_le (t : Bool) (j : Nat) : cM t j ≤ 1 := by unfold cM; split <;> omega
/-- The sum. -/
def sI (t : Bool) (n P J : Nat) : Int := (sC (cP t) n P J : Int) - sC (cM t) n P J

theorem sI_near (t : Bool) {n p P : Nat} (h : p ≤ P) (hn : 2 ≤ n) {J J' : Nat} (k : IsJ n p J) (hJ : J ≤ J') :
    (sI t n p J - (J + 2)) * 2 ^ (P - p) ≤ sI t n P J' ∧ sI t n P J' ≤ (sI t n p J + (J + 2)) * 2 ^ (P - p) := by
  obtain ⟨h1, h2⟩ := sC_near (cP t) (cP_le t) h hn k hJ
  obtain ⟨h3, h4⟩ := sC_near (cM t) (cM_le t) h hn k hJ
  unfold sI
  have e : ((2 ^ (P - p) : Nat) : Int) = (2 : Int) ^ (P - p) := by simp
  rw [← e]
  generalize 2 ^ (P - p) = s at *
  generalize sC (cP t) n p J = a at *
  generalize sC (cM t) n p J = b at *
  generalize sC (cP t) n P J' = A at *
  generalize sC (cM t) n P J' = B at *
  have g1 : ((s * a : Nat) : Int) ≤ A := by exact_mod_cast h1
  have g2 : (A : Int) ≤ ((s * (a + J + 2) : Nat) : Int) := by exact_mod_cast h2
  have g3 : ((s * b : Nat) : Int) ≤ B := by exact_mod_cast h3
  have g4 : (B : Int) ≤ ((s * (b + J + 2) : Nat) : Int) := by exact_mod_cast h4
  have c1 : ((s * (a + J + 2) : Nat) : Int) = s * a + s * J + 2 * s := by rw [Nat.mul_add, Nat.mul_add]; simp only [Int.natCast_add, Int.natCast_mul]; omega
  have c2 : ((s * (b + J + 2) : Nat) : Int) = s * b + s * J + 2 * s := by rw [Nat.mul_add, Nat.mul_add]; simp only [Int.natCast_add, Int.natCast_mul]; omega
  rw [c1] at g2
  rw [c2] at g4
  simp only [Int.natCast_mul] at g1 g3
  constructor
  · have : ((a : Int) - b - (J + 2)) * s = s * a - s * b - s * J - 2 * s := by grind
    omega
  · have : ((a : Int) - b + (J + 2)) * s = s * a - s * b + s * J + 2 * s := by grind
    omega

theorem sI_bd (t : Bool) {n P : Nat} (hn : 2 ≤ n) (J : Nat) : -(2 * 2 ^ P) ≤ sI t n P J ∧ sI t n P J ≤ 2 * 2 ^ P := by
  have h1 := sC_le (cP t) (cP_le t) (P := P) hn J
  have h2 := sC_le (cM t) (cM_le t) (P := P) hn J
  unfold sI
  have e : ((2 ^ P : Nat) : Int) = (2 : Int) ^ P := by simp
  rw [← e]
  omega

end Go.Slip

namespace Go.Slip

theorem leD_same {a b : Int} {E : Int} : leD (norm a E) (norm b E) ↔ a ≤ b := by
  have := leD_norm (z := a) (u := b) (e := E) (f := E) E (Int.le_refl _) (Int.le_refl _)
  simpa using this

theorem rPlus_nn (a b E : Int) : rPlus (norm a E) (norm b E) = norm (a + b) E := by
  rcases Int.le_total E 0 with h | h
  · rw [rPlus_norm _ _ (norm_e a h) (norm_e b h), zOf_norm _ (Int.le_refl _), zOf_norm _ (Int.le_refl _)]
    simp
  · obtain ⟨k, hk⟩ : ∃ k : Nat, E = (0 : Int) + k := ⟨E.toNat, by omega⟩
    rw [hk, ← norm_shift, ← norm_shift, ← norm_shift, rPlus_norm _ _ (norm_e _ (Int.le_refl 0)) (norm_e _ (Int.le_refl 0)), zOf_norm _ (Int.le_refl _), zOf_norm _ (Int.le_refl _)]
    simp [Int.add_mul]

theorem dTimes_nn (a b E F : Int) : dTimes (norm a E) (norm b F) = norm (a * b) (E + F) := by
  have h1 := norm_sg (decide (a < 0)) a.natAbs E
  have h2 := norm_sg (decide (b < 0)) b.natAbs F
  rw [sg_norm] at h1 h2
  have h3 : ∀ z : Int, ∀ G : Int, ∃ t : Nat, norm z G = norm z G ∧ G - t ≤ (norm z G).e := fun z G => by
    rcases Int.le_total G 0 with h | h
    · exact ⟨0, rfl, by have := norm_e z h; omega⟩
    · refine ⟨G.toNat, rfl, ?_⟩
      have e : norm z G = norm (z * 2 ^ G.toNat) 0 := by rw [norm_shift]; congr 1; omega
      rw [e]
      have := norm_e (z * 2 ^ G.toNat) (Int.le_refl 0)
      omega
  obtain ⟨s, _, hs⟩ := h3 a E
  obtain ⟨t, _, ht⟩ := h3 b F
  rw [dTimes_norm _ _ hs ht, zOf_norm _ (show E - s ≤ E by omega), zOf_norm _ (show F - t ≤ F by omega), show (E - (E - s)).toNat = s by omega, show (F - (F - t)).toNat = t by omega,
    show a * 2 ^ s * (b * 2 ^ t) = a * b * 2 ^ (s + t) by rw [Int.pow_add]; grind, norm_shift]
  congr 1
  omega

theorem dMinus_nn (a E : Int) : dMinus (norm a E) = norm (-a) E := by
  by_cases h : a = 0
  · subst h; rw [Int.neg_zero, norm_zero]; rfl
  · have h1 := norm_sg (decide (a < 0)) a.natAbs E
    have h2 := norm_sg (!decide (a < 0)) a.natAbs E
    rw [sg_norm] at h1
    have h3 : sg (!decide (a < 0)) a.natAbs = -a := by unfold sg; by_cases k : a < 0 <;> simp [k] <;> omega
    rw [h3] at h2
    rw [h1, h2]
    have hm : a.natAbs ≠ 0 := by omega
    have := (tz_spec a.natAbs (by omega)).2
    unfold bare dMinus
    simp only [if_neg hm]
    congr 1
    have hq : 0 < a.natAbs / 2 ^ tz a.natAbs := by
      generalize a.natAbs / 2 ^ tz a.natAbs = q at *
      rcases Nat.eq_zero_or_pos q with h | h
      · rw [h] at this; simp at this
      · exact h
    simp [hq]

/-- What is cut. -/
theorem pCut_nn (z : Int) (w b k : Nat) (up : Bool) (hb : 0 < b) (hz : z.natAbs < 2 ^ (b + k)) :
    ∃ z', pCut (norm z (-w)) b up = norm z' (-w) ∧ (up = false → z' ≤ z ∧ z - z' ≤ 2 ^ k) ∧ (up = true → z ≤ z' ∧ z' - z ≤ 2 ^ k) := by
  have h1 := cut_down (norm_bare z (-w)) hb
  have h2 := cut_up (norm_bare z (-w)) hb
  rw [pCut_eq (norm_bare _ _)]
  have hp : (0 : Int) ≤ 2 ^ k := by have : (0 : Int) < 2 ^ k := Int.pow_pos (by omega); omega
  by_cases hs : blen (norm z (-w)).m ≤ b
  · rw [rCut_small' _ hs]
    exact ⟨z, rfl, fun _ => ⟨by omega, by omega⟩, fun _ => ⟨by omega, by omega⟩⟩
  · have he := norm_e z (show -(w : Int) ≤ 0 by omega)
    have hv := zOf_norm z (Int.le_refl (-(w : Int)))
    have hbr : rCut (norm z (-w)) b up = bare ⟨(norm z (-w)).neg, (norm z (-w)).m / 2 ^ (blen (norm z (-w)).m - b) + (if (norm z (-w)).m % 2 ^ (blen (norm z (-w)).m - b) ≠ 0 ∧ up ≠ (norm z (-w)).neg then 1 else 0), (norm z (-w)).e + ((blen (norm z (-w)).m - b : Nat) : Int)⟩ := by
      unfold rCut; rw [if_neg hs]
    have hv2 : sg (norm z (-w)).neg (norm z (-w)).m * 2 ^ ((norm z (-w)).e + w).toNat = z := by
      unfold zOf at hv
      rw [sg_mul] at hv
      rw [Int.sub_self] at hv
      simpa [Int.sub_neg] using hv
    obtain ⟨d, hd⟩ : ∃ d, norm z (-w) = d := ⟨_, rfl⟩
    rw [hd] at hs he hv hbr hv2 h1 h2 ⊢
    obtain ⟨t, ht⟩ : ∃ t : Nat, d.e = -(w : Int) + t := ⟨(d.e + w).toNat, by omega⟩
    rw [show (d.e + w).toNat = t by omega] at hv2
    obtain ⟨n, hn⟩ : ∃ n, blen d.m - b = n := ⟨_, rfl⟩
    rw [hn] at hbr
    have hm : 2 ^ (blen d.m - 1) ≤ d.m := by
      rcases Nat.lt_or_ge d.m (2 ^ (blen d.m - 1)) with h | h
      · have := (blen_le _ _).2 h; omega
      · exact h
    have hza : z.natAbs = d.m * 2 ^ t := by
      rw [← hv2, Int.natAbs_mul, Int.natAbs_pow]
      congr 1
      unfold sg; split <;> simp
    have hnt : n + t ≤ k := by
      have h3 : 2 ^ (blen d.m - 1 + t) < 2 ^ (b + k) := by
        rw [Nat.pow_add]
        exact Nat.lt_of_le_of_lt (Nat.mul_le_mul_right _ hm) (by rw [← hza]; exact hz)
      have := (Nat.pow_lt_pow_iff_right (show 1 < 2 by omega)).1 h3
      omega
    obtain ⟨c, hc, hc2⟩ : ∃ c, (if d.m % 2 ^ n ≠ 0 ∧ up ≠ d.neg then 1 else 0) = c ∧ c ≤ 1 := ⟨_, rfl, by split <;> omega⟩
    rw [hc] at hbr
    have hR : rCut d b up = norm (sg d.neg (d.m / 2 ^ n + c) * 2 ^ (n + t)) (-w) := by
      rw [hbr, norm_shift, norm_sg]
      congr 2
      rw [ht, Int.natCast_add]
      omega
    refine ⟨sg d.neg (d.m / 2 ^ n + c) * 2 ^ (n + t), hR, ?_⟩
    have hq1 := Nat.div_add_mod d.m (2 ^ n)
    have hq2 := Nat.mod_lt d.m (show 0 < 2 ^ n from Nat.pow_pos (by omega))
    have hpk : (2 : Int) ^ (n + t) ≤ 2 ^ k := by
      have : (2 : Nat) ^ (n + t) ≤ 2 ^ k := Nat.pow_le_pow_right (by omega) hnt
      exact_mod_cast this
    have hE : z - sg d.neg (d.m / 2 ^ n + c) * 2 ^ (n + t) ≤ 2 ^ (n + t) ∧ sg d.neg (d.m / 2 ^ n + c) * 2 ^ (n + t) - z ≤ 2 ^ (n + t) := by
      rw [← hv2, Int.pow_add]
      have e1 : sg d.neg d.m - sg d.neg (d.m / 2 ^ n + c) * 2 ^ n ≤ 2 ^ n ∧ sg d.neg (d.m / 2 ^ n + c) * 2 ^ n - sg d.neg d.m ≤ 2 ^ n := by
        have e2 : (((2 ^ n * (d.m / 2 ^ n) + d.m % 2 ^ n : Nat) : Int)) = d.m := by rw [hq1]
        have e3 : ((2 ^ n : Nat) : Int) = (2 : Int) ^ n := by simp
        have e5 : (0 : Int) < 2 ^ n := Int.pow_pos (by omega)
        rw [Int.natCast_add, Int.natCast_mul, e3] at e2
        generalize d.m / 2 ^ n = q at *
        generalize d.m % 2 ^ n = r at *
        have e4 : (r : Int) < 2 ^ n := by rw [← e3]; exact_mod_cast hq2
        have e6 : ((q + c : Nat) : Int) * 2 ^ n = 2 ^ n * q + c * 2 ^ n := by rw [Int.natCast_add, Int.add_mul, Int.mul_comm]
        have e7 : (c : Int) * 2 ^ n = 0 ∨ (c : Int) * 2 ^ n = 2 ^ n := by
          rcases (show c = 0 ∨ c = 1 by omega) with rfl | rfl <;> simp
        unfold sg
        generalize (2 : Int) ^ n = N at *
        cases d.neg
        · simp only [Bool.false_eq_true, if_false]; omega
        · simp only [if_true, Int.neg_mul]; omega
      have e8 : (0 : Int) ≤ 2 ^ t := Int.le_of_lt (Int.pow_pos (by omega))
      have m1 := Int.mul_le_mul_of_nonneg_right e1.1 e8
      have m2 := Int.mul_le_mul_of_nonneg_right e1.2 e8
      generalize (2 : Int) ^ n = N at *
      generalize (2 : Int) ^ t = T at *
      generalize sg d.neg d.m = x at *
      generalize sg d.neg (d.m / 2 ^ _ + c) = y at *
      rw [Int.sub_mul] at m1 m2
      rw [← Int.mul_assoc]
      omega
    constructor
    · rintro rfl
      rw [hR] at h1
      have h1 := leD_same.1 (show leD (norm (sg d.neg (d.m / 2 ^ n + c) * 2 ^ (n + t)) (-w)) (norm z (-w)) by rw [hd]; exact h1)
      exact ⟨h1, by omega⟩
    · rintro rfl
      rw [hR] at h2
      have h2 := leD_same.1 (show leD (norm z (-w)) (norm (sg d.neg (d.m / 2 ^ n + c) * 2 ^ (n + t)) (-w)) by rw [hd]; exact h2)
      exact ⟨h2, by omega⟩

/-- A sum of two balls. -/
theorem plus_nn {l h l' h' : Int} (h1 : l ≤ h) (h2 : l' ≤ h') (w b k : Nat) (hb : 0 < b) (g1 : (l + l').natAbs < 2 ^ (b + k)) (g2 : (h + h').natAbs < 2 ^ (b + k)) :
    ∃ L H, pCut (lowD (pPlus (norm l (-w)) (norm l' (-w))) [pPlus (norm h (-w)) (norm h' (-w))]) b false = norm L (-w) ∧ pCut (highD (pPlus (norm l (-w)) (norm l' (-w))) [pPlus (norm h (-w)) (norm h' (-w))]) b true = norm H (-w) ∧
      L ≤ l + l' ∧ l + l' - L ≤ 2 ^ k ∧ h + h' ≤ H ∧ H - (h + h') ≤ 2 ^ k := by
  obtain ⟨e1, e2⟩ := plus_ends (norm_bare l (-w)) (norm_bare h (-w)) (norm_bare l' (-w)) (norm_bare h' (-w)) (leD_same.2 h1) (leD_same.2 h2)
  rw [e1, e2, rPlus_nn, rPlus_nn]
  obtain ⟨L, a1, a2, -⟩ := pCut_nn (l + l') w b k false hb g1
  obtain ⟨H, b1, -, b2⟩ := pCut_nn (h + h') w b k true hb g2
  exact ⟨L, H, a1, b1, (a2 rfl).1, (a2 rfl).2, (b2 rfl).1, (b2 rfl).2⟩

/-- A ball, so many times. -/
theorem times_nn {l h : Int} (c : Int) (w b k : Nat) (hb : 0 < b) (g1 : (l * c).natAbs < 2 ^ (b + k)) (g2 : (h * c).natAbs < 2 ^ (b + k)) :
    ∃ L H, pCut (lowD (dTimes (norm l (-w)) (norm c 0)) [dTimes (norm l (-w)) (norm c 0), dTimes (norm h (-w)) (norm c 0), dTimes (norm h (-w)) (norm c 0)]) b false = norm L (-w) ∧
      pCut (highD (dTimes (norm l (-w)) (norm c 0)) [dTimes (norm l (-w)) (norm c 0), dTimes (norm h (-w)) (norm c 0), dTimes (norm h (-w)) (norm c 0)]) b true = norm H (-w) ∧
      L ≤ min (l * c) (h * c) ∧ min (l * c) (h * c) - L ≤ 2 ^ k ∧ max (l * c) (h * c) ≤ H ∧ H - max (l * c) (h * c) ≤ 2 ^ k := by
  rw [dTimes_nn, dTimes_nn, Int.add_zero]
  have hl : ∀ y ∈ [norm (l * c) (-w), norm (h * c) (-w), norm (h * c) (-w)], Bare y := by
    intro y hy; simp only [List.mem_cons, List.not_mem_nil, or_false] at hy; rcases hy with rfl | rfl | rfl <;> exact norm_bare _ _
  rcases Int.le_total (l * c) (h * c) with k1 | k1
  · rw [Int.min_eq_left k1, Int.max_eq_right k1]
    rw [low_is (norm_bare _ _) hl (x := norm (l * c) (-w)) (by simp) (by intro y hy; simp only [List.mem_cons, List.not_mem_nil, or_false] at hy; rcases hy with rfl | rfl | rfl | rfl <;> exact leD_same.2 (by omega)),
      high_is (norm_bare _ _) hl (x := norm (h * c) (-w)) (by simp) (by intro y hy; simp only [List.mem_cons, List.not_mem_nil, or_false] at hy; rcases hy with rfl | rfl | rfl | rfl <;> exact leD_same.2 (by omega))]
    obtain ⟨L, a1, a2, -⟩ := pCut_nn (l * c) w b k false hb g1
    obtain ⟨H, b1, -, b2⟩ := pCut_nn (h * c) w b k true hb g2
    exact ⟨L, H, a1, b1, (a2 rfl).1, (a2 rfl).2, (b2 rfl).1, (b2 rfl).2⟩
  · rw [Int.min_eq_right k1, Int.max_eq_left k1]
    rw [low_is (norm_bare _ _) hl (x := norm (h * c) (-w)) (by simp) (by intro y hy; simp only [List.mem_cons, List.not_mem_nil, or_false] at hy; rcases hy with rfl | rfl | rfl | rfl <;> exact leD_same.2 (by omega)),
      high_is (norm_bare _ _) hl (x := norm (l * c) (-w)) (by simp) (by intro y hy; simp only [List.mem_cons, List.not_mem_nil, or_false] at hy; rcases hy with rfl | rfl | rfl | rfl <;> exact leD_same.2 (by omega))]
    obtain ⟨L, a1, a2, -⟩ := pCut_nn (h * c) w b k false hb g2
    obtain ⟨H, b1, -, b2⟩ := pCut_nn (l * c) w b k true hb g1
    exact ⟨L, H, a1, b1, (a2 rfl).1, (a2 rfl).2, (b2 rfl).1, (b2 rfl).2⟩

/-- Small enough. -/
def Small (z : Int) : Prop := blen z.natAbs ≤ 8000
theorem small_of {z : Int} {k : Nat} (h : z.natAbs < 2 ^ k) (hk : k ≤ 8000) : Small z := Nat.le_trans ((blen_le _ _).2 h) hk

/-- How long it is. -/
theorem len_nn (z : Int) (w : Nat) (hw : w ≤ 15000) (hz : Small z) : (dig B32 (norm z (-w)).m).length ≤ 251 ∧ -15000 ≤ (norm z (-w)).e ∧ (norm z (-w)).e ≤ 8032 := by
  have hl : (dig B32 (ofZ z (-w)).m).length ≤ 251 := Nat.le_trans (blen_len z.natAbs 8000 hz) (by omega)
  have h1 := bare_len B32_two (ofZ z (-w))
  have h2 := bare_e (ofZ z (-w)) hl (lo := -15000) (hi := 0) (by show -15000 ≤ -(w : Int); omega) (by show -(w : Int) ≤ 0; omega) (by omega) (by omega)
  unfold norm
  exact ⟨Nat.le_trans h1 hl, h2.1, by omega⟩

/-- What is told of a small one. -/
theorem errD_nn (z : Int) (w : Nat) (hw : w ≤ 15000) (hz : Small z) : errD (norm z (-w)) = 0 := by
  obtain ⟨h1, h2, h3⟩ := len_nn z w hw hz
  unfold errD
  rw [if_neg (by omega), if_neg (by omega)]

end Go.Slip

namespace Go.Slip

/-- The whole sum over 2 to the power of P. -/
def An (t : Bool) (n P : Nat) : Int := sI t n P (P + 1)
def oddO (J : Nat) : Int := ((3 * J + 2 : Nat) : Int)
/-- A number that is told for every P lies in a ball over 2 to the power of w. -/
def Ct (w : Nat) (X : Nat → Int) (L H : Int) : Prop := ∀ P, w ≤ P → L * 2 ^ (P - w) ≤ X P ∧ X P ≤ H * 2 ^ (P - w)
structure BallOf (X : Nat → Int) (w : Nat) (L H : Int) : Prop where
  ct : Ct w X L H
  wide : H - L ≤ 131072
  lo : L.natAbs < 2 ^ (w + 7)
  hi : H.natAbs < 2 ^ (w + 7)

def Xpi (P : Nat) : Int := An true 5 P * 16 - An true 239 P * 4
def Xln (P : Nat) : Int := An false 26 P * 18 - An false 4801 P * 2 + An false 8749 P * 8

theorem ct_odd (t : Bool) {n w J : Nat} (hn : 2 ≤ n) (k : IsJ n w J) : Ct w (An t n) (sI t n w J - oddO J) (sI t n w J + oddO J) := by
  intro P hP
  have hJ := isJ_le hn k
  obtain ⟨h1, h2⟩ := sI_near t hP hn k (show J ≤ P + 1 by omega)
  have hp : (0 : Int) ≤ 2 ^ (P - w) := Int.le_of_lt (Int.pow_pos (by omega))
  unfold An oddO
  have m1 := Int.mul_le_mul_of_nonneg_right (show sI t n w J - ((3 * J + 2 : Nat) : Int) ≤ sI t n w J - (J + 2) by omega) hp
  have m2 := Int.mul_le_mul_of_nonneg_right (show sI t n w J + (J + 2) ≤ sI t n w J + ((3 * J + 2 : Nat) : Int) by omega) hp
  omega

theorem odd_bd (t : Bool) {n w J : Nat} (hn : 2 ≤ n) (hw : 20 ≤ w) (hw2 : w ≤ 1100) (k : IsJ n w J) : -(2 * 2 ^ w) ≤ sI t n w J ∧ sI t n w J ≤ 2 * 2 ^ w ∧ 0 ≤ oddO J ∧ oddO J ≤ 1700 ∧ oddO J ≤ (2 : Int) ^ w ∧ (1048576 : Int) ≤ 2 ^ w := by
  have hJ := isJ_le hn k
  obtain ⟨h1, h2⟩ := sI_bd t (P := w) hn J
  have h3 : (2 : Nat) ^ 20 ≤ 2 ^ w := Nat.pow_le_pow_right (by omega) hw
  have h4 : ((2 ^ w : Nat) : Int) = (2 : Int) ^ w := by simp
  have h5 : (1048576 : Int) ≤ 2 ^ w := by rw [← h4]; omega
  unfold oddO
  exact ⟨h1, h2, by omega, by omega, by omega, h5⟩

theorem pow_seven (w : Nat) : (2 : Nat) ^ (w + 7) = 2 ^ w * 128 := by rw [Nat.pow_add]
theorem pow_z (w : Nat) : ((2 ^ w : Nat) : Int) = (2 : Int) ^ w := by simp

/-- The bounds that a product needs. -/
theorem odd_mul (t : Bool) {n w J : Nat} (hn : 2 ≤ n) (hw : 20 ≤ w) (hw2 : w ≤ 1100) (k : IsJ n w J) (c : Int) (hc : -18 ≤ c ∧ c ≤ 18) :
    ((sI t n w J - oddO J) * c).natAbs < 2 ^ (w + 7) ∧ ((sI t n w J + oddO J) * c).natAbs < 2 ^ (w + 7) := by
  obtain ⟨h1, h2, h3, h4, h5, h6⟩ := odd_bd t hn hw hw2 k
  have e := pow_z w
  rw [pow_seven, Int.natAbs_mul, Int.natAbs_mul]
  have g1 : (sI t n w J - oddO J).natAbs ≤ 3 * 2 ^ w := by omega
  have g2 : (sI t n w J + oddO J).natAbs ≤ 3 * 2 ^ w := by omega
  have g3 : c.natAbs ≤ 18 := by omega
  have m1 := Nat.mul_le_mul g1 g3
  have m2 := Nat.mul_le_mul g2 g3
  have : 0 < 2 ^ w := Nat.pow_pos (by omega)
  omega

/-- What a product's call says. -/
structure TSpec (l h f : Int) (L H : Int) : Prop where
  a : L ≤ min (l * f) (h * f)
  b : min (l * f) (h * f) - L ≤ 128
  c : max (l * f) (h * f) ≤ H
  d : H - max (l * f) (h * f) ≤ 128
/-- What a sum's call says. -/
structure PSpec (l h l' h' : Int) (L H : Int) : Prop where
  a : L ≤ l + l'
  b : l + l' - L ≤ 128
  c : h + h' ≤ H
  d : H - (h + h') ≤ 128

theorem pi_ball {w J1 J2 : Nat} {L1 H1 L2 H2 L H : Int} (hw : 20 ≤ w) (hw2 : w ≤ 1100) (k1 : IsJ 5 w J1) (k2 : IsJ 239 w J2)
    (t1 : TSpec (sI true 5 w J1 - oddO J1) (sI true 5 w J1 + oddO J1) 16 L1 H1) (t2 : TSpec (sI true 239 w J2 - oddO J2) (sI true 239 w J2 + oddO J2) (-4) L2 H2) (s : PSpec L1 H1 L2 H2 L H) : BallOf Xpi w L H := by
  obtain ⟨a1, a2, a3, a4, a5, a6⟩ := odd_bd true (show 2 ≤ 5 by omega) hw hw2 k1
  obtain ⟨b1, b2, b3, b4, b5, b6⟩ := odd_bd true (show 2 ≤ 239 by omega) hw hw2 k2
  have c1 := ct_odd true (show 2 ≤ 5 by omega) k1
  have c2 := ct_odd true (show 2 ≤ 239 by omega) k2
  obtain ⟨p1, p2, p3, p4⟩ := t1
  obtain ⟨q1, q2, q3, q4⟩ := t2
  obtain ⟨r1, r2, r3, r4⟩ := s
  have e := pow_z w
  refine ⟨fun P hP => ?_, by omega, ?_, ?_⟩
  · obtain ⟨x1, x2⟩ := c1 P hP
    obtain ⟨y1, y2⟩ := c2 P hP
    have hp : (0 : Int) ≤ 2 ^ (P - w) := Int.le_of_lt (Int.pow_pos (by omega))
    unfold Xpi
    have m1 := Int.mul_le_mul_of_nonneg_right (show L ≤ (sI true 5 w J1 - oddO J1) * 16 - (sI true 239 w J2 + oddO J2) * 4 by omega) hp
    have m2 := Int.mul_le_mul_of_nonneg_right (show (sI true 5 w J1 + oddO J1) * 16 - (sI true 239 w J2 - oddO J2) * 4 ≤ H by omega) hp
    generalize (2 : Int) ^ (P - w) = T at *
    have e1 : ((sI true 5 w J1 - oddO J1) * 16 - (sI true 239 w J2 + oddO J2) * 4) * T = (sI true 5 w J1 - oddO J1) * T * 16 - (sI true 239 w J2 + oddO J2) * T * 4 := by grind
    have e2 : ((sI true 5 w J1 + oddO J1) * 16 - (sI true 239 w J2 - oddO J2) * 4) * T = (sI true 5 w J1 + oddO J1) * T * 16 - (sI true 239 w J2 - oddO J2) * T * 4 := by grind
    rw [e1] at m1
    rw [e2] at m2
    omega
  · rw [pow_seven]; omega
  · rw [pow_seven]; omega

theorem ln_ball {w J1 J2 J3 : Nat} {L1 H1 L2 H2 L3 H3 A B L H : Int} (hw : 20 ≤ w) (hw2 : w ≤ 1100) (k1 : IsJ 26 w J1) (k2 : IsJ 4801 w J2) (k3 : IsJ 8749 w J3)
    (t1 : TSpec (sI false 26 w J1 - oddO J1) (sI false 26 w J1 + oddO J1) 18 L1 H1) (t2 : TSpec (sI false 4801 w J2 - oddO J2) (sI false 4801 w J2 + oddO J2) (-2) L2 H2)
    (t3 : TSpec (sI false 8749 w J3 - oddO J3) (sI false 8749 w J3 + oddO J3) 8 L3 H3) (s : PSpec L1 H1 L2 H2 A B) (s2 : PSpec A B L3 H3 L H) : BallOf Xln w L H := by
  obtain ⟨a1, a2, a3, a4, a5, a6⟩ := odd_bd false (show 2 ≤ 26 by omega) hw hw2 k1
  obtain ⟨b1, b2, b3, b4, b5, b6⟩ := odd_bd false (show 2 ≤ 4801 by omega) hw hw2 k2
  obtain ⟨d1, d2, d3, d4, d5, d6⟩ := odd_bd false (show 2 ≤ 8749 by omega) hw hw2 k3
  have c1 := ct_odd false (show 2 ≤ 26 by omega) k1
  have c2 := ct_odd false (show 2 ≤ 4801 by omega) k2
  have c3 := ct_odd false (show 2 ≤ 8749 by omega) k3
  obtain ⟨p1, p2, p3, p4⟩ := t1
  obtain ⟨q1, q2, q3, q4⟩ := t2
  obtain ⟨u1, u2, u3, u4⟩ := t3
  obtain ⟨r1, r2, r3, r4⟩ := s
  obtain ⟨v1, v2, v3, v4⟩ := s2
  have e := pow_z w
  refine ⟨fun P hP => ?_, by omega, ?_, ?_⟩
  · obtain ⟨x1, x2⟩ := c1 P hP
    obtain ⟨y1, y2⟩ := c2 P hP
    obtain ⟨z1, z2⟩ := c3 P hP
    have hp : (0 : Int) ≤ 2 ^ (P - w) := Int.le_of_lt (Int.pow_pos (by omega))
    unfold Xln
    generalize sI false 26 w J1 = S1 at *
    generalize sI false 4801 w J2 = S2 at *
    generalize sI false 8749 w J3 = S3 at *
    generalize oddO J1 = o1 at *
    generalize oddO J2 = o2 at *
    generalize oddO J3 = o3 at *
    have m1 := Int.mul_le_mul_of_nonneg_right (show L ≤ (S1 - o1) * 18 - (S2 + o2) * 2 + (S3 - o3) * 8 by omega) hp
    have m2 := Int.mul_le_mul_of_nonneg_right (show (S1 + o1) * 18 - (S2 - o2) * 2 + (S3 + o3) * 8 ≤ H by omega) hp
    generalize (2 : Int) ^ (P - w) = T at *
    have e1 : ((S1 - o1) * 18 - (S2 + o2) * 2 + (S3 - o3) * 8) * T = (S1 - o1) * T * 18 - (S2 + o2) * T * 2 + (S3 - o3) * T * 8 := by grind
    have e2 : ((S1 + o1) * 18 - (S2 - o2) * 2 + (S3 + o3) * 8) * T = (S1 + o1) * T * 18 - (S2 - o2) * T * 2 + (S3 + o3) * T * 8 := by grind
    rw [e1] at m1
    rw [e2] at m2
    omega
  · rw [pow_seven]; omega
  · rw [pow_seven]; omega

/-- The sums' own balls. -/
theorem odd_ball (t : Bool) {n w J : Nat} (hn : 2 ≤ n) (hw : 20 ≤ w) (hw2 : w ≤ 1100) (k : IsJ n w J) : BallOf (An t n) w (sI t n w J - oddO J) (sI t n w J + oddO J) := by
  obtain ⟨a1, a2, a3, a4, a5, a6⟩ := odd_bd t hn hw hw2 k
  have e := pow_z w
  exact ⟨ct_odd t hn k, by omega, by rw [pow_seven]; omega, by rw [pow_seven]; omega⟩

end Go.Slip

namespace Go.Slip

theorem odd_small (t : Bool) {n w J : Nat} (hn : 2 ≤ n) (hw : 20 ≤ w) (hw2 : w ≤ 1100) (k : IsJ n w J) : Small (sI t n w J - oddO J) ∧ Small (sI t n w J + oddO J) := by
  have B := odd_ball t hn hw hw2 k
  exact ⟨small_of B.lo (by omega), small_of B.hi (by omega)⟩
theorem ball_small {X : Nat → Int} {w : Nat} {L H : Int} (B : BallOf X w L H) (hw2 : w ≤ 1100) : Small L ∧ Small H := ⟨small_of B.lo (by omega), small_of B.hi (by omega)⟩

/-- What a sum of two balls asks. -/
structure Ok4 (w : Nat) (l h l' h' : Int) : Prop where
  a : l ≤ h
  b : l' ≤ h'
  c : Small l
  d : Small h
  e : Small l'
  f : Small h'
  g : (l + l').natAbs < 2 ^ (w + 7)
  i : (h + h').natAbs < 2 ^ (w + 7)

theorem tspec_le {l h f L H : Int} (t : TSpec l h f L H) : L ≤ H := by
  obtain ⟨a, b, c, d⟩ := t
  omega
theorem pspec_le {l h l' h' L H : Int} (t : PSpec l h l' h' L H) (h1 : l ≤ h) (h2 : l' ≤ h') : L ≤ H := by
  obtain ⟨a, b, c, d⟩ := t
  omega

theorem pi_ok {w J1 J2 : Nat} {L1 H1 L2 H2 : Int} (hw : 20 ≤ w) (hw2 : w ≤ 1100) (k1 : IsJ 5 w J1) (k2 : IsJ 239 w J2)
    (t1 : TSpec (sI true 5 w J1 - oddO J1) (sI true 5 w J1 + oddO J1) 16 L1 H1) (t2 : TSpec (sI true 239 w J2 - oddO J2) (sI true 239 w J2 + oddO J2) (-4) L2 H2) : Ok4 w L1 H1 L2 H2 := by
  obtain ⟨a1, a2, a3, a4, a5, a6⟩ := odd_bd true (show 2 ≤ 5 by omega) hw hw2 k1
  obtain ⟨b1, b2, b3, b4, b5, b6⟩ := odd_bd true (show 2 ≤ 239 by omega) hw hw2 k2
  have u1 := tspec_le t1
  have u2 := tspec_le t2
  obtain ⟨p1, p2, p3, p4⟩ := t1
  obtain ⟨q1, q2, q3, q4⟩ := t2
  have e := pow_z w
  have e8 := pow_seven w
  refine ⟨u1, u2, small_of (k := w + 7) ?_ (by omega), small_of (k := w + 7) ?_ (by omega), small_of (k := w + 7) ?_ (by omega), small_of (k := w + 7) ?_ (by omega), ?_, ?_⟩ <;> (rw [e8]; omega)

theorem ln_ok {w J1 J2 : Nat} {L1 H1 L2 H2 : Int} (hw : 20 ≤ w) (hw2 : w ≤ 1100) (k1 : IsJ 26 w J1) (k2 : IsJ 4801 w J2)
    (t1 : TSpec (sI false 26 w J1 - oddO J1) (sI false 26 w J1 + oddO J1) 18 L1 H1) (t2 : TSpec (sI false 4801 w J2 - oddO J2) (sI false 4801 w J2 + oddO J2) (-2) L2 H2) : Ok4 w L1 H1 L2 H2 := by
  obtain ⟨a1, a2, a3, a4, a5, a6⟩ := odd_bd false (show 2 ≤ 26 by omega) hw hw2 k1
  obtain ⟨b1, b2, b3, b4, b5, b6⟩ := odd_bd false (show 2 ≤ 4801 by omega) hw hw2 k2
  have u1 := tspec_le t1
  have u2 := tspec_le t2
  obtain ⟨p1, p2, p3, p4⟩ := t1
  obtain ⟨q1, q2, q3, q4⟩ := t2
  have e := pow_z w
  have e8 := pow_seven w
  refine ⟨u1, u2, small_of (k := w + 7) ?_ (by omega), small_of (k := w + 7) ?_ (by omega), small_of (k := w + 7) ?_ (by omega), small_of (k := w + 7) ?_ (by omega), ?_, ?_⟩ <;> (rw [e8]; omega)

theorem ln_ok2 {w J1 J2 J3 : Nat} {L1 H1 L2 H2 A B L3 H3 : Int} (hw : 20 ≤ w) (hw2 : w ≤ 1100) (k1 : IsJ 26 w J1) (k2 : IsJ 4801 w J2) (k3 : IsJ 8749 w J3)
    (t1 : TSpec (sI false 26 w J1 - oddO J1) (sI false 26 w J1 + oddO J1) 18 L1 H1) (t2 : TSpec (sI false 4801 w J2 - oddO J2) (sI false 4801 w J2 + oddO J2) (-2) L2 H2) (s : PSpec L1 H1 L2 H2 A B)
    (t3 : TSpec (sI false 8749 w J3 - oddO J3) (sI false 8749 w J3 + oddO J3) 8 L3 H3) : Ok4 w A B L3 H3 := by
  obtain ⟨a1, a2, a3, a4, a5, a6⟩ := odd_bd false (show 2 ≤ 26 by omega) hw hw2 k1
  obtain ⟨b1, b2, b3, b4, b5, b6⟩ := odd_bd false (show 2 ≤ 4801 by omega) hw hw2 k2
  obtain ⟨d1, d2, d3, d4, d5, d6⟩ := odd_bd false (show 2 ≤ 8749 by omega) hw hw2 k3
  have u0 := pspec_le s (tspec_le t1) (tspec_le t2)
  have u3 := tspec_le t3
  obtain ⟨p1, p2, p3, p4⟩ := t1
  obtain ⟨q1, q2, q3, q4⟩ := t2
  obtain ⟨r1, r2, r3, r4⟩ := t3
  obtain ⟨s1, s2, s3, s4⟩ := s
  have e := pow_z w
  have e8 := pow_seven w
  refine ⟨u0, u3, small_of (k := w + 7) ?_ (by omega), small_of (k := w + 7) ?_ (by omega), small_of (k := w + 7) ?_ (by omega), small_of (k := w + 7) ?_ (by omega), ?_, ?_⟩ <;> (rw [e8]; omega)

end Go.Slip
