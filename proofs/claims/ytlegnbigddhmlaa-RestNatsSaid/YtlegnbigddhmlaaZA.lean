/- Plain arithmetic of digit lists: what a list of digits to a base stands for, and the one list without noughts behind that stands for a number. No program is in sight here.
   More plain arithmetic of digit lists: sums, differences, comparisons.
   Comparisons, lengths in bits, differences: plain arithmetic of digit lists. No program is in sight here.
   Shifts: plain arithmetic of digit lists. No program is in sight here.
   Decimal digits, four by four, and what is stripped of them: plain arithmetic. No program is in sight here.
   A product and a sum in place; the number that decimal digits make: plain arithmetic. No program is in sight here.
   Long division: the trial digit. Plain arithmetic. No program is in sight here.
   Long division: what each round knows, and what comes of it. Plain arithmetic. No program is in sight here.
   The references' division, its digits found by counting down; powers, and roots by means. Plain arithmetic. No program is in sight here. -/
import Init
namespace Go.Slip

/-- What a list of digits to the base B, the lowest first, stands for. -/
def val (B : Nat) : List Nat → Nat
  | [] => 0
  | x :: xs => x + B * val B xs

/-- Digit number i; 0 behind the end. -/
def dg (xs : List Nat) (i : Nat) : Nat := xs[i]?.getD 0

theorem dg_of_ge {xs : List Nat} {i : Nat} (h : xs.length ≤ i) : dg xs i = 0 := by unfold dg; rw [List.getElem?_eq_none h]; rfl
theorem dg_of_lt {xs : List Nat} {i : Nat} (h : i < xs.length) : dg xs i = xs[i] := by unfold dg; simp [h]
theorem dg_take {xs : List Nat} {i n : Nat} (h : i < n) : dg (xs.take n) i = dg xs i := by unfold dg; simp [h]
theorem dg_drop {xs : List Nat} {i n : Nat} : dg (xs.drop n) i = dg xs (n + i) := by unfold dg; simp
theorem dg_set_same {xs : List Nat} {i v : Nat} (h : i < xs.length) : dg (xs.set i v) i = v := by unfold dg; simp [h]
theorem dg_set_ne {xs : List Nat} {i j v : Nat} (h : i ≠ j) : dg (xs.set i v) j = dg xs j := by unfold dg; simp [h]
theorem dg_replicate (n i : Nat) : dg (List.replicate n 0) i = 0 := by unfold dg; by_cases h : i < n <;> simp [h]
theorem dg_append_lt {xs ys : List Nat} {i : Nat} (h : i < xs.length) : dg (xs ++ ys) i = dg xs i := by unfold dg; simp [List.getElem?_append, h]
theorem dg_append_ge {xs ys : List Nat} {i : Nat} (h : xs.length ≤ i) : dg (xs ++ ys) i = dg ys (i - xs.length) := by unfold dg; rw [List.getElem?_append_right h]

@[simp] theorem val_nil (B : Nat) : val B [] = 0 := rfl
@[simp] theorem val_cons (B x : Nat) (xs : List Nat) : val B (x :: xs) = x + B * val B xs := rfl

theorem val_append (B : Nat) (xs ys : List Nat) : val B (xs ++ ys) = val B xs + B ^ xs.length * val B ys := by
  induction xs with
  | nil => simp
  | cons x xs ih => simp only [List.cons_append, val_cons, ih, List.length_cons, Nat.pow_succ]; grind

theorem val_snoc (B : Nat) (xs : List Nat) (y : Nat) : val B (xs ++ [y]) = val B xs + B ^ xs.length * y := by
  rw [val_append]; simp

theorem val_lt (B : Nat) (xs : List Nat) (h : ∀ x ∈ xs, x < B) : val B xs < B ^ xs.length := by
  induction xs with
  | nil => simp
  | cons x xs ih =>
    have h1 := ih (fun y hy => h y (by simp [hy]))
    have h2 := h x (by simp)
    simp only [val_cons, List.length_cons, Nat.pow_succ]
    have h3 : B * val B xs + B ≤ B * B ^ xs.length := by
      have : B * (val B xs + 1) ≤ B * B ^ xs.length := Nat.mul_le_mul_left _ h1
      rw [Nat.mul_add, Nat.mul_one] at this; exact this
    rw [Nat.mul_comm (B ^ xs.length) B]; omega

theorem val_replicate (B n : Nat) : val B (List.replicate n 0) = 0 := by
  induction n with
  | zero => rfl
  | succ n ih => simp [List.replicate_succ, ih]

theorem val_take_drop (B : Nat) (xs : List Nat) (k : Nat) (hk : k ≤ xs.length) : val B xs = val B (xs.take k) + B ^ k * val B (xs.drop k) := by
  conv => lhs; rw [← List.take_append_drop k xs]
  rw [val_append, List.length_take, Nat.min_eq_left hk]

/-- The digits of a number to the base B, the lowest first, the last one not 0. -/
def dig (B : Nat) (n : Nat) : List Nat := if _h : 2 ≤ B ∧ 0 < n then n % B :: dig B (n / B) else []
termination_by n
decreasing_by exact Nat.div_lt_self _h.2 (by omega)

theorem dig_zero (B : Nat) : dig B 0 = [] := by rw [dig]; simp
theorem dig_pos {B n : Nat} (hB : 2 ≤ B) (h : 0 < n) : dig B n = n % B :: dig B (n / B) := by rw [dig, dif_pos ⟨hB, h⟩]

/-- No nought behind. -/
def Tight (xs : List Nat) : Prop := xs.getLast? ≠ some 0

theorem dig_spec {B : Nat} (hB : 2 ≤ B) (n : Nat) : val B (dig B n) = n ∧ (∀ x ∈ dig B n, x < B) ∧ Tight (dig B n) ∧ (0 < n → dig B n ≠ []) := by
  induction n using Nat.strongRecOn with
  | _ n ih =>
    by_cases h : 0 < n
    · obtain ⟨h1, h2, h3, h4⟩ := ih (n / B) (Nat.div_lt_self h (by omega))
      rw [dig_pos hB h]
      refine ⟨?_, ?_, ?_, by simp⟩
      · rw [val_cons, h1]; exact Nat.mod_add_div n B
      · intro x hx
        rcases List.mem_cons.1 hx with rfl | hx
        · exact Nat.mod_lt _ (by omega)
        · exact h2 x hx
      · unfold Tight at *
        by_cases h0 : 0 < n / B
        · have hne := h4 h0
          rw [List.getLast?_cons]
          cases hd : dig B (n / B) with
          | nil => exact absurd hd hne
          | cons y ys => rw [hd] at h3; simpa [List.getLast?_cons] using h3
        · have hz : n / B = 0 := by omega
          rw [hz, dig_zero]
          have : n % B = n := by
            have := Nat.mod_add_div n B; rw [hz] at this; simpa using this
          simp [this]; omega
    · have : n = 0 := by omega
      subst this
      rw [dig_zero]; exact ⟨rfl, by simp, by simp [Tight], by simp⟩

theorem val_dig {B : Nat} (hB : 2 ≤ B) (n : Nat) : val B (dig B n) = n := (dig_spec hB n).1
theorem dig_lt {B : Nat} (hB : 2 ≤ B) (n : Nat) : ∀ x ∈ dig B n, x < B := (dig_spec hB n).2.1
theorem dig_tight {B : Nat} (hB : 2 ≤ B) (n : Nat) : Tight (dig B n) := (dig_spec hB n).2.2.1

theorem val_pos {B : Nat} (hB : 2 ≤ B) : ∀ (xs : List Nat), Tight xs → xs ≠ [] → 0 < val B xs
  | [], _, h => absurd rfl h
  | [x], ht, _ => by
    have : x ≠ 0 := fun e => ht (by simp [e])
    simp; omega
  | x :: y :: ys, ht, _ => by
    have h1 : Tight (y :: ys) := by unfold Tight at *; simpa [List.getLast?_cons] using ht
    have h2 := val_pos hB (y :: ys) h1 (by simp)
    rw [val_cons]
    have := Nat.mul_le_mul hB h2
    omega

theorem Tight.tail {x : Nat} {xs : List Nat} (h : Tight (x :: xs)) : Tight xs := by
  cases xs with
  | nil => simp [Tight]
  | cons y ys => unfold Tight at *; simpa [List.getLast?_cons] using h

theorem dig_val {B : Nat} (hB : 2 ≤ B) : ∀ (xs : List Nat), (∀ x ∈ xs, x < B) → Tight xs → dig B (val B xs) = xs
  | [], _, _ => dig_zero B
  | x :: xs, hx, ht => by
    have h1 := dig_val hB xs (fun y hy => hx y (by simp [hy])) ht.tail
    have h2 := val_pos hB (x :: xs) ht (by simp)
    rw [dig_pos hB h2, val_cons]
    have h3 := hx x (by simp)
    rw [Nat.add_mul_mod_self_left, Nat.mod_eq_of_lt h3, Nat.add_mul_div_left _ _ (by omega), Nat.div_eq_of_lt h3, Nat.zero_add, h1]

theorem dig_eq {B : Nat} (hB : 2 ≤ B) (xs : List Nat) (n : Nat) (hx : ∀ x ∈ xs, x < B) (ht : Tight xs) (h : val B xs = n) : xs = dig B n := by
  rw [← h, dig_val hB xs hx ht]

theorem dig_inj {B : Nat} (hB : 2 ≤ B) {m n : Nat} (h : dig B m = dig B n) : m = n := by
  have := congrArg (val B) h
  rwa [val_dig hB, val_dig hB] at this

theorem dig_len_le {B : Nat} (hB : 2 ≤ B) (n k : Nat) : (dig B n).length ≤ k ↔ n < B ^ k := by
  constructor
  · intro h
    have h1 := val_lt B (dig B n) (dig_lt hB n)
    rw [val_dig hB] at h1
    exact Nat.lt_of_lt_of_le h1 (Nat.pow_le_pow_right (by omega) h)
  · induction k generalizing n with
    | zero => intro h; have : n = 0 := by simpa using h
              subst this; rw [dig_zero]; simp
    | succ k ih =>
      intro h
      by_cases h0 : 0 < n
      · rw [dig_pos hB h0, List.length_cons]
        have := ih (n / B) (by
          rw [Nat.div_lt_iff_lt_mul (by omega)]; rwa [Nat.pow_succ] at h)
        omega
      · have : n = 0 := by omega
        subst this; rw [dig_zero]; simp

theorem dig_len_pow {B : Nat} (hB : 2 ≤ B) (n : Nat) (h : 0 < n) : B ^ ((dig B n).length - 1) ≤ n := by
  rcases Nat.lt_or_ge n (B ^ ((dig B n).length - 1)) with h1 | h1
  · have h2 := (dig_len_le hB n _).2 h1
    have h3 := (dig_spec hB n).2.2.2 h
    have h4 : 0 < (dig B n).length := List.length_pos_iff.2 h3
    omega
  · exact h1

theorem dig_eq_nil {B : Nat} (hB : 2 ≤ B) (n : Nat) : dig B n = [] ↔ n = 0 := by
  constructor
  · intro h
    rcases Nat.eq_zero_or_pos n with h0 | h0
    · exact h0
    · exact absurd h ((dig_spec hB n).2.2.2 h0)
  · rintro rfl; exact dig_zero B

theorem dig_len_zero {B : Nat} (hB : 2 ≤ B) (n : Nat) : (dig B n).length = 0 ↔ n = 0 := by
  rw [List.length_eq_zero_iff, dig_eq_nil hB]

theorem dig_len_mono {B : Nat} (hB : 2 ≤ B) {m n : Nat} (h : m ≤ n) : (dig B m).length ≤ (dig B n).length := by
  rw [dig_len_le hB]
  exact Nat.lt_of_le_of_lt h ((dig_len_le hB n _).1 (Nat.le_refl _))

/-- Noughts behind do not count. -/
theorem val_take_zeros (B : Nat) (xs : List Nat) (m : Nat) (hm : m ≤ xs.length) (h : ∀ j, m ≤ j → dg xs j = 0) : val B (xs.take m) = val B xs := by
  rw [val_take_drop B xs m hm]
  have : val B (xs.drop m) = 0 := by
    have h2 : xs.drop m = List.replicate (xs.length - m) 0 := by
      apply List.ext_getElem?
      intro j
      rw [List.getElem?_drop]
      by_cases hj : m + j < xs.length
      · have := h (m + j) (by omega)
        rw [dg_of_lt hj] at this
        rw [List.getElem?_eq_getElem hj, this, List.getElem?_replicate, if_pos (by omega)]
      · rw [List.getElem?_eq_none (by omega), List.getElem?_eq_none (by simp; omega)]
    rw [h2, val_replicate]
  rw [this]; simp

/-- The digits of what a list stands for are its first ones, down to the last one that is not 0. -/
theorem take_dig {B : Nat} (hB : 2 ≤ B) (xs : List Nat) (m : Nat) (hx : ∀ x ∈ xs, x < B) (hm : m ≤ xs.length) (h : ∀ j, m ≤ j → dg xs j = 0) (ht : m = 0 ∨ dg xs (m - 1) ≠ 0) :
    xs.take m = dig B (val B xs) := by
  refine dig_eq hB _ _ (fun x hxm => hx x (List.mem_of_mem_take hxm)) ?_ (val_take_zeros B xs m hm h)
  unfold Tight
  rcases ht with rfl | ht
  · simp
  · by_cases h0 : m = 0
    · subst h0; simp
    · rw [List.getLast?_eq_getElem?, List.length_take, Nat.min_eq_left hm, List.getElem?_take, if_pos (by omega)]
      intro e; unfold dg at ht; rw [e] at ht; simp at ht

theorem dig_val_len {B : Nat} (hB : 2 ≤ B) (xs : List Nat) (m : Nat) (hx : ∀ x ∈ xs, x < B) (hm : m ≤ xs.length) (h : ∀ j, m ≤ j → dg xs j = 0) (ht : m = 0 ∨ dg xs (m - 1) ≠ 0) :
    (dig B (val B xs)).length = m := by
  rw [← take_dig hB xs m hx hm h ht, List.length_take, Nat.min_eq_left hm]

theorem dig_val_le {B : Nat} (hB : 2 ≤ B) (xs : List Nat) (hx : ∀ x ∈ xs, x < B) : (dig B (val B xs)).length ≤ xs.length := by
  rw [dig_len_le hB]; exact val_lt B xs hx

theorem take_dig_len {B : Nat} (hB : 2 ≤ B) (xs : List Nat) (hx : ∀ x ∈ xs, x < B) : xs.take (dig B (val B xs)).length = dig B (val B xs) := by
  have : ∃ m, m ≤ xs.length ∧ (∀ j, m ≤ j → dg xs j = 0) ∧ (m = 0 ∨ dg xs (m - 1) ≠ 0) := by
    have key : ∀ n, n ≤ xs.length → (∀ j, n ≤ j → dg xs j = 0) → ∃ m, m ≤ xs.length ∧ (∀ j, m ≤ j → dg xs j = 0) ∧ (m = 0 ∨ dg xs (m - 1) ≠ 0) := by
      intro n
      induction n with
      | zero => intro _ h; exact ⟨0, by omega, h, .inl rfl⟩
      | succ n ih =>
        intro hn h
        by_cases h0 : dg xs n = 0
        · refine ih (by omega) fun j hj => ?_
          by_cases hjn : j = n
          · subst hjn; exact h0
          · exact h j (by omega)
        · exact ⟨n + 1, hn, h, .inr h0⟩
    exact key xs.length (Nat.le_refl _) fun j hj => dg_of_ge hj
  obtain ⟨m, h1, h2, h3⟩ := this
  rw [dig_val_len hB xs m hx h1 h2 h3, take_dig hB xs m hx h1 h2 h3]

theorem val_set (B : Nat) : ∀ (xs : List Nat) (j v : Nat), j < xs.length → val B (xs.set j v) + B ^ j * (dg xs j) = val B xs + B ^ j * v
  | [], j, v, h => by simp at h
  | x :: xs, 0, v, _ => by simp [dg]; omega
  | x :: xs, j + 1, v, h => by
    have ih := val_set B xs j v (by simpa using h)
    have e0 : dg (x :: xs) (j + 1) = dg xs j := by simp [dg]
    simp only [List.set_cons_succ, val_cons, e0]
    rw [Nat.pow_succ]
    have e : ∀ t, B ^ j * B * t = B * (B ^ j * t) := fun t => by grind
    rw [e, e]
    have : B * (val B (xs.set j v) + B ^ j * (dg xs j)) = B * (val B xs + B ^ j * v) := by rw [ih]
    rw [Nat.mul_add, Nat.mul_add] at this
    omega

theorem val_take_succ (B : Nat) (xs : List Nat) (i : Nat) : val B (xs.take (i + 1)) = val B (xs.take i) + B ^ i * (dg xs i) := by
  by_cases h : i < xs.length
  · rw [List.take_succ_eq_append_getElem h, val_append, List.length_take, Nat.min_eq_left (by omega), dg_of_lt h]
    simp
  · rw [List.take_of_length_le (by omega), List.take_of_length_le (by omega), dg_of_ge (by omega)]
    simp

theorem val_take_all (B : Nat) (xs : List Nat) (i : Nat) (h : xs.length ≤ i) : val B (xs.take i) = val B xs := by rw [List.take_of_length_le h]

/-- A list is without noughts behind if what it stands for is not too small. -/
theorem tight_of_ge {B : Nat} (xs : List Nat) (hx : ∀ x ∈ xs, x < B) (h : xs = [] ∨ B ^ (xs.length - 1) ≤ val B xs) : Tight xs := by
  rcases h with rfl | h
  · simp [Tight]
  · unfold Tight
    intro h0
    have hne : xs ≠ [] := by rintro rfl; simp at h0
    have hl : 0 < xs.length := List.length_pos_iff.2 hne
    have h1 : dg xs (xs.length - 1) = 0 := by rw [List.getLast?_eq_getElem?] at h0; unfold dg; rw [h0]; rfl
    have h2 := val_take_succ B xs (xs.length - 1)
    rw [show xs.length - 1 + 1 = xs.length by omega, List.take_length, h1] at h2
    have h3 := val_lt B (xs.take (xs.length - 1)) (fun x hxm => hx x (List.mem_of_mem_take hxm))
    rw [List.length_take, Nat.min_eq_left (by omega)] at h3
    omega

theorem getD_lt {B : Nat} (hB : 0 < B) (xs : List Nat) (hx : ∀ x ∈ xs, x < B) (j : Nat) : dg xs j < B := by
  by_cases h : j < xs.length
  · rw [dg_of_lt h]; exact hx _ (List.getElem_mem h)
  · rw [dg_of_ge (by omega)]; exact hB

theorem set_lt {B : Nat} (xs : List Nat) (hx : ∀ x ∈ xs, x < B) (j v : Nat) (hv : v < B) : ∀ x ∈ xs.set j v, x < B := by
  intro x h
  rcases List.mem_or_eq_of_mem_set h with h | rfl
  · exact hx x h
  · exact hv

/-! ### Addition, digit by digit -/
theorem add_step (B : Nat) (L : List Nat) (i d c T : Nat) (hi : i < L.length) (h : val B L + c * B ^ i = T) :
    val B (L.set i ((dg L i + d + c) % B)) + ((dg L i + d + c) / B) * B ^ (i + 1) = T + B ^ i * d := by
  have h1 := val_set B L i ((dg L i + d + c) % B) hi
  have h2 := Nat.div_add_mod (dg L i + d + c) B
  generalize (dg L i + d + c) % B = r at *
  generalize (dg L i + d + c) / B = q at *
  generalize dg L i = x at *
  rw [Nat.pow_succ]
  have h3 : B ^ i * (B * q + r) = B ^ i * (x + d + c) := by rw [h2]
  grind

theorem add_end0 {B : Nat} (hB : 2 ≤ B) (L : List Nat) (a b : Nat) (hx : ∀ x ∈ L, x < B) (hl : L.length = (dig B a).length) (h : val B L = a + b) : L = dig B (a + b) := by
  refine dig_eq hB L _ hx (tight_of_ge L hx ?_) h
  by_cases ha : 0 < a
  · right; rw [h, hl]; have := dig_len_pow hB a ha; omega
  · left
    have : a = 0 := by omega
    subst this
    rw [dig_zero] at hl
    exact List.eq_nil_of_length_eq_zero hl

theorem add_end1 {B : Nat} (hB : 2 ≤ B) (L : List Nat) (c n : Nat) (hx : ∀ x ∈ L, x < B) (hc : 0 < c) (hcB : c < B) (h : val B L + c * B ^ L.length = n) : L ++ [c] = dig B n := by
  refine dig_eq hB _ _ (fun x hm => ?_) ?_ (by rw [val_snoc, Nat.mul_comm]; exact h)
  · rcases List.mem_append.1 hm with h1 | h1
    · exact hx x h1
    · simp at h1; omega
  · unfold Tight; simp; omega

/-! ### Products, digit by digit -/
/-- Within round i, when k digits of the second number have been taken. -/
def MulIn (B : Nat) (L xs ys : List Nat) (i k cr : Nat) : Prop :=
  (∀ x ∈ L, x < B) ∧ (∀ j, i + ys.length ≤ j → dg L j = 0) ∧ val B L + cr * B ^ (i + k) = val B (xs.take i) * val B ys + dg xs i * B ^ i * val B (ys.take k)

/-- Ahead of round i. -/
def MulOut (B : Nat) (L xs ys : List Nat) (i : Nat) : Prop :=
  (∀ x ∈ L, x < B) ∧ (∀ j, i + ys.length ≤ j → dg L j = 0) ∧ val B L = val B (xs.take i) * val B ys

theorem MulOut.start (B : Nat) (hB : 0 < B) (xs ys : List Nat) (n : Nat) : MulOut B (List.replicate n 0) xs ys 0 :=
  ⟨fun x hx => by rw [(List.mem_replicate.1 hx).2]; exact hB, fun j _ => dg_replicate n j, by simp [val_replicate]⟩

theorem MulOut.enter {B : Nat} {L xs ys : List Nat} {i : Nat} (h : MulOut B L xs ys i) : MulIn B L xs ys i 0 0 := ⟨h.1, h.2.1, by rw [h.2.2]; simp⟩

theorem MulIn.step {B : Nat} {L xs ys : List Nat} {i k cr t : Nat} (h : MulIn B L xs ys i k cr) (hB : 0 < B) (hk : k < ys.length) (hj : i + k < L.length) (ht : t = dg xs i * dg ys k + dg L (i + k) + cr) :
    MulIn B (L.set (i + k) (t % B)) xs ys i (k + 1) (t / B) := by
  have e : t = dg L (i + k) + dg xs i * dg ys k + cr := by omega
  refine ⟨set_lt L h.1 _ _ (Nat.mod_lt _ hB), fun j hj2 => ?_, ?_⟩
  · rw [dg_set_ne (by omega)]; exact h.2.1 j hj2
  · have h1 := add_step B L (i + k) (dg xs i * dg ys k) cr _ hj h.2.2
    rw [e, ← Nat.add_assoc i k 1, h1, val_take_succ]
    rw [Nat.pow_add]
    grind

theorem MulIn.carry {B : Nat} {L xs ys : List Nat} {i k cr : Nat} (h : MulIn B L xs ys i k cr) (hc : cr < B) (hx : dg xs i < B) (hy : dg ys k < B) : dg xs i * dg ys k + dg L (i + k) + cr < B * B := by
  have h1 := getD_lt (B := B) (by omega) L h.1 (i + k)
  have h2 : dg xs i * dg ys k ≤ (B - 1) * (B - 1) := Nat.mul_le_mul (by omega) (by omega)
  obtain ⟨b, rfl⟩ : ∃ b, B = b + 1 := ⟨B - 1, by omega⟩
  simp only [Nat.add_sub_cancel] at h2
  have h3 : (b + 1) * (b + 1) = b * b + 2 * b + 1 := by grind
  omega

theorem MulIn.leave {B : Nat} {L xs ys : List Nat} {i k cr : Nat} (h : MulIn B L xs ys i k cr) (hk : k = ys.length) (hj : i + k < L.length) (hc : cr < B) : MulOut B (L.set (i + k) cr) xs ys (i + 1) := by
  subst hk
  refine ⟨set_lt L h.1 _ _ hc, fun j hj2 => ?_, ?_⟩
  · rw [dg_set_ne (by omega)]; exact h.2.1 j (by omega)
  · have h1 := val_set B L (i + ys.length) cr hj
    have h2 := h.2.2
    rw [h.2.1 _ (Nat.le_refl _)] at h1
    rw [List.take_length] at h2
    rw [val_take_succ]
    grind

theorem MulOut.done {B : Nat} {L xs ys : List Nat} {i a b : Nat} (h : MulOut B L xs ys i) (hi : xs.length ≤ i) (ha : val B xs = a) (hb : val B ys = b) : val B L = a * b := by
  rw [h.2.2, val_take_all _ _ _ hi, ha, hb]

/-! ### The two bases of the texts: 2 to the power of 32, and of 16 -/
/-- The base of the program's numbers. -/
def B32 : Nat := 4294967296
/-- The base of the references' numbers. -/
def B16 : Nat := 65536
theorem B32_two : 2 ≤ B32 := by unfold B32; omega
theorem B16_two : 2 ≤ B16 := by unfold B16; omega
theorem B32_pos : 0 < B32 := by unfold B32; omega
theorem B16_pos : 0 < B16 := by unfold B16; omega
theorem B32_sq : B32 = B16 * B16 := by unfold B32 B16; omega
theorem B32_pow (k : Nat) : B32 ^ k = B16 ^ (2 * k) := by rw [B32_sq, Nat.pow_mul]; congr 1

/-- What is wrong with a number, as A1 says: 0, 1 (its last digit is 0), 2 (too many digits). -/
def errNat (xs : List Nat) : Int := if 0 < xs.length ∧ dg xs (xs.length - 1) = 0 then 1 else if 1200 < xs.length then 2 else 0

theorem tight_of_dg {xs : List Nat} (h : ¬ (0 < xs.length ∧ dg xs (xs.length - 1) = 0)) : Tight xs := by
  unfold Tight
  intro h0
  have hl : 0 < xs.length := by
    rcases Nat.eq_zero_or_pos xs.length with h1 | h1
    · rw [List.eq_nil_of_length_eq_zero h1] at h0; simp at h0
    · exact h1
  refine h ⟨hl, ?_⟩
  rw [List.getLast?_eq_getElem?] at h0; unfold dg; rw [h0]; rfl

theorem errNat_ok {xs : List Nat} (hx : ∀ x ∈ xs, x < B32) (h : errNat xs = 0) : xs = dig B32 (val B32 xs) ∧ xs.length ≤ 1200 := by
  unfold errNat at h
  split at h
  · omega
  · rename_i h1
    split at h
    · omega
    · exact ⟨(dig_val B32_two xs hx (tight_of_dg h1)).symm, by omega⟩

theorem dg_dig_ne {B : Nat} (hB : 2 ≤ B) (n : Nat) : ¬ (0 < (dig B n).length ∧ dg (dig B n) ((dig B n).length - 1) = 0) := by
  rintro ⟨h1, h2⟩
  have h3 := dig_tight hB n
  apply h3
  rw [List.getLast?_eq_getElem?]
  unfold dg at h2
  rw [List.getElem?_eq_getElem (by omega)] at h2 ⊢
  simp at h2
  rw [h2]

theorem errNat_dig (n : Nat) : errNat (dig B32 n) = if 1200 < (dig B32 n).length then 2 else 0 := by
  unfold errNat
  rw [if_neg (dg_dig_ne B32_two n)]

theorem errNat_range (xs : List Nat) : errNat xs = 0 ∨ errNat xs = 1 ∨ errNat xs = 2 := by
  unfold errNat; split
  · exact .inr (.inl rfl)
  · split
    · exact .inr (.inr rfl)
    · exact .inl rfl

/-- From digits to the base of 2 to the power of 32 to those of 16. -/
theorem of_step {O xs : List Nat} {i : Nat} (hO : ∀ x ∈ O, x < B16) (hl : O.length = 2 * i) (hv : val B16 O = val B32 (xs.take i)) (hx : dg xs i < B32) :
    (∀ x ∈ O ++ [dg xs i % 65536, dg xs i / 65536], x < B16) ∧ val B16 (O ++ [dg xs i % 65536, dg xs i / 65536]) = val B32 (xs.take (i + 1)) := by
  constructor
  · intro x hm
    rcases List.mem_append.1 hm with h | h
    · exact hO x h
    · simp at h
      unfold B16 B32 at *
      omega
  · rw [val_append, hv, val_take_succ, hl, ← B32_pow]
    simp only [val_cons, val_nil, Nat.mul_zero, Nat.add_zero]
    congr 2
    unfold B16
    omega

/-- And back. -/
theorem to_step {O ys : List Nat} {j : Nat} (hO : ∀ x ∈ O, x < B32) (hl : O.length = j) (hv : val B32 O = val B16 (ys.take (2 * j))) (hy : ∀ x ∈ ys, x < B16) (d : Nat) (hd : d = dg ys (2 * j) + 65536 * dg ys (2 * j + 1)) :
    (∀ x ∈ O ++ [d], x < B32) ∧ val B32 (O ++ [d]) = val B16 (ys.take (2 * (j + 1))) := by
  have h1 := getD_lt B16_pos ys hy (2 * j)
  have h2 := getD_lt B16_pos ys hy (2 * j + 1)
  constructor
  · intro x hm
    rcases List.mem_append.1 hm with h | h
    · exact hO x h
    · simp at h
      unfold B16 B32 at *
      omega
  · rw [val_snoc, hv, hl, show 2 * (j + 1) = 2 * j + 1 + 1 by omega, val_take_succ, val_take_succ, B32_pow, hd, Nat.pow_succ]
    unfold B16
    grind

theorem to_end {O : List Nat} {n : Nat} (hO : ∀ x ∈ O, x < B32) (hl : O.length = ((dig B16 n).length + 1) / 2) (hv : val B32 O = n) : O = dig B32 n := by
  refine dig_eq B32_two O n hO (tight_of_ge O hO ?_) hv
  by_cases h : 0 < n
  · right
    have h1 := dig_len_pow B16_two n h
    have h2 : 0 < (dig B16 n).length := List.length_pos_iff.2 fun e => by have := (dig_eq_nil B16_two n).1 e; omega
    rw [hv, B32_pow]
    exact Nat.le_trans (Nat.pow_le_pow_right (by unfold B16; omega) (by omega)) h1
  · left
    have : n = 0 := by omega
    subst this
    rw [dig_zero] at hl
    exact List.eq_nil_of_length_eq_zero (by simpa using hl)

theorem dig_len_halves (n : Nat) : (dig B32 n).length = ((dig B16 n).length + 1) / 2 := by
  apply Nat.le_antisymm
  · rw [dig_len_le B32_two, B32_pow]
    have h := (dig_len_le B16_two n _).1 (Nat.le_refl _)
    exact Nat.lt_of_lt_of_le h (Nat.pow_le_pow_right (by unfold B16; omega) (by omega))
  · by_cases h : 0 < n
    · have h1 := (dig_len_le B32_two n _).1 (Nat.le_refl _)
      rw [B32_pow] at h1
      have := (dig_len_le B16_two n _).2 h1
      omega
    · have : n = 0 := by omega
      subst this; rw [dig_zero, dig_zero]; simp

theorem MulIn.leave0 {B : Nat} {L xs ys : List Nat} {i : Nat} (h : MulIn B L xs ys i ys.length 0) : MulOut B L xs ys (i + 1) := by
  refine ⟨h.1, fun j hj2 => h.2.1 j (by omega), ?_⟩
  have h2 := h.2.2
  rw [List.take_length] at h2
  rw [val_take_succ]
  grind

/-- The references' inner round goes on while something is carried. -/
def TimesIn (L xs ys : List Nat) (i k cr : Nat) : Prop := (k ≤ ys.length ∧ MulIn B16 L xs ys i k cr) ∨ (k = ys.length + 1 ∧ cr = 0 ∧ MulOut B16 L xs ys (i + 1))

theorem TimesIn.digits {L xs ys : List Nat} {i k cr : Nat} (h : TimesIn L xs ys i k cr) : ∀ x ∈ L, x < B16 := by
  rcases h with h | h
  · exact h.2.1
  · exact h.2.2.1

theorem TimesIn.step {L xs ys : List Nat} {i k cr : Nat} (h : TimesIn L xs ys i k cr) (hk : k < ys.length) (hj : i + k < L.length) :
    TimesIn (L.set (i + k) ((dg L (i + k) + cr + dg xs i * dg ys k) % 65536)) xs ys i (k + 1) ((dg L (i + k) + cr + dg xs i * dg ys k) / 65536) := by
  rcases h with ⟨_, h⟩ | ⟨h0, _⟩
  · exact .inl ⟨hk, h.step B16_pos hk hj (by omega)⟩
  · omega

theorem TimesIn.carry {L xs ys : List Nat} {i k cr : Nat} (h : TimesIn L xs ys i k cr) (hc : cr < 65536) (hx : dg xs i < 65536) (hy : dg ys k < 65536) : (dg L (i + k) + cr + dg xs i * dg ys k) / 65536 < 65536 := by
  have h1 := getD_lt (B := 65536) (by omega) L h.digits (i + k)
  have h2 : dg xs i * dg ys k ≤ 65535 * 65535 := Nat.mul_le_mul (by omega) (by omega)
  omega

theorem TimesIn.over {L xs ys : List Nat} {i k cr : Nat} (h : TimesIn L xs ys i k cr) (hk : ¬ k < ys.length) (h0 : 0 < cr) (hc : cr < 65536) (hj : i + ys.length < L.length) :
    k = ys.length ∧ dg L (i + k) = 0 ∧ TimesIn (L.set (i + k) cr) xs ys i (k + 1) 0 := by
  rcases h with ⟨h1, h⟩ | ⟨_, h2, _⟩
  · obtain rfl : k = ys.length := by omega
    exact ⟨rfl, h.2.1 _ (Nat.le_refl _), .inr ⟨rfl, rfl, h.leave rfl hj (by unfold B16; omega)⟩⟩
  · omega

theorem TimesIn.done {L xs ys : List Nat} {i k : Nat} (h : TimesIn L xs ys i k 0) (hk : ¬ k < ys.length) : MulOut B16 L xs ys (i + 1) := by
  rcases h with ⟨h1, h⟩ | ⟨_, _, h⟩
  · obtain rfl : k = ys.length := by omega
    exact h.leave0
  · exact h

/-! ### Division by one digit, from above -/
theorem val_drop (B : Nat) (xs : List Nat) (j : Nat) (hj : j < xs.length) : val B (xs.drop j) = dg xs j + B * val B (xs.drop (j + 1)) := by
  rw [List.drop_eq_getElem_cons hj, val_cons, dg_of_lt hj]

theorem drop_set_self (L : List Nat) (j v : Nat) (hj : j < L.length) : (L.set j v).drop j = v :: L.drop (j + 1) := by
  rw [List.drop_eq_getElem_cons (by simpa using hj)]
  simp [List.drop_set_of_lt]

/-- When all from place k on are done. -/
def SmallRel (B : Nat) (L xs : List Nat) (d k r : Nat) : Prop := (∀ x ∈ L, x < B) ∧ r < d ∧ val B (L.drop k) * d + r = val B (xs.drop k)

theorem SmallRel.step {B : Nat} {L xs : List Nat} {d k r : Nat} (h : SmallRel B L xs d (k + 1) r) (hk : k < xs.length) (hL : k < L.length) (hx : dg xs k < B) :
    SmallRel B (L.set k ((r * B + dg xs k) / d)) xs d k ((r * B + dg xs k) % d) ∧ (r * B + dg xs k) / d < B := by
  have hq : (r * B + dg xs k) / d < B := by
    rw [Nat.div_lt_iff_lt_mul (by have := h.2.1; omega)]
    have h1 : (r + 1) * B ≤ d * B := Nat.mul_le_mul_right _ h.2.1
    rw [Nat.add_mul, Nat.one_mul] at h1
    rw [Nat.mul_comm B d]; omega
  refine ⟨⟨set_lt L h.1 _ _ hq, Nat.mod_lt _ (by have := h.2.1; omega), ?_⟩, hq⟩
  rw [drop_set_self L k _ hL, val_cons, val_drop B xs k hk, ← h.2.2]
  have h2 := Nat.div_add_mod (r * B + dg xs k) d
  generalize (r * B + dg xs k) / d = q at *
  generalize (r * B + dg xs k) % d = s at *
  generalize val B (L.drop (k + 1)) = v at *
  grind

theorem SmallRel.done {B : Nat} {L xs : List Nat} {d r a : Nat} (h : SmallRel B L xs d 0 r) (ha : val B xs = a) : val B L = a / d ∧ r = a % d := by
  have h1 := h.2.2
  simp only [List.drop_zero] at h1
  rw [ha] at h1
  have h2 := h.2.1
  rw [← h1, Nat.mul_comm]
  exact ⟨(by rw [Nat.mul_add_div (by omega), Nat.div_eq_of_lt h2, Nat.add_zero]), (by rw [Nat.mul_add_mod, Nat.mod_eq_of_lt h2])⟩

/-! ### Turned round -/
/-- In the midst of turning a list round: the ends are done, from i to j nothing is. -/
def RevRel (L xs : List Nat) (i j : Nat) : Prop := L.length = xs.length ∧ i + j + 1 = xs.length + 0 ∧ ∀ t, t < xs.length → dg L t = if t < i ∨ j < t then dg xs (xs.length - 1 - t) else dg xs t

theorem list_ext_dg {xs ys : List Nat} (hl : xs.length = ys.length) (h : ∀ t, t < xs.length → dg xs t = dg ys t) : xs = ys := by
  apply List.ext_getElem hl
  intro t h1 h2
  have := h t h1
  rwa [dg_of_lt h1, dg_of_lt h2] at this

theorem dg_reverse {xs : List Nat} {t : Nat} (h : t < xs.length) : dg xs.reverse t = dg xs (xs.length - 1 - t) := by
  rw [dg_of_lt (by simpa using h), dg_of_lt (by omega), List.getElem_reverse]

theorem RevRel.step {L xs : List Nat} {i j : Nat} (h : RevRel L xs i j) (hij : i < j) : RevRel ((L.set i (dg L j)).set j (dg L i)) xs (i + 1) (j - 1) := by
  obtain ⟨h1, h2, h3⟩ := h
  refine ⟨by simpa using h1, by omega, fun t ht => ?_⟩
  have hi := h3 i (by omega)
  have hj := h3 j (by omega)
  rw [if_neg (by omega)] at hi hj
  by_cases e1 : t = j
  · subst e1
    rw [dg_set_same (by simp; omega), if_pos (by omega), hi]
    congr 1; omega
  · rw [dg_set_ne (by omega)]
    by_cases e2 : t = i
    · subst e2
      rw [dg_set_same (by omega), if_pos (by omega), hj]
      congr 1; omega
    · rw [dg_set_ne (by omega), h3 t ht]
      by_cases e3 : t < i ∨ j < t
      · rw [if_pos e3, if_pos (by omega)]
      · rw [if_neg e3, if_neg (by omega)]

theorem RevRel.done {L xs : List Nat} {i j : Nat} (h : RevRel L xs i j) (hij : ¬ i < j) : L = xs.reverse := by
  obtain ⟨h1, h2, h3⟩ := h
  refine list_ext_dg (by simpa using h1) fun t ht => ?_
  rw [h3 t (by omega), dg_reverse (by omega)]
  by_cases e : t < i ∨ j < t
  · rw [if_pos e]
  · rw [if_neg e]; congr 1; omega

theorem RevRel.start (xs : List Nat) (h : 0 < xs.length) : RevRel xs xs 0 (xs.length - 1) :=
  ⟨rfl, by omega, fun t ht => by rw [if_neg (by omega)]⟩

/-! ### Decimal digits -/
/-- A number in decimal digits, as bytes: 0 is one nought. -/
def decOf (n : Nat) : List Nat := if n = 0 then [48] else (dig 10 n).reverse.map (· + 48)

/-- Within a piece of nine digits: D are the digits so far, the lowest first; r is what is left of the piece, a what is above it. -/
def DecIn (N : Nat) (D : List Nat) (i r a : Nat) : Prop :=
  (∀ x ∈ D, x < 10) ∧ r < 10 ^ (9 - i) ∧ N = val 10 D + 10 ^ D.length * (r + 10 ^ (9 - i) * a) ∧ (a = 0 → r = 0 → Tight D)

def DecOut (N : Nat) (D : List Nat) (a : Nat) : Prop := (∀ x ∈ D, x < 10) ∧ N = val 10 D + 10 ^ D.length * a ∧ (a = 0 → Tight D)

theorem DecOut.start (N : Nat) : DecOut N [] N := ⟨by simp, by simp, fun _ => by simp [Tight]⟩

theorem DecOut.enter {N : Nat} {D : List Nat} {a : Nat} (h : DecOut N D a) (ha : 0 < a) : DecIn N D 0 (a % 1000000000) (a / 1000000000) := by
  refine ⟨h.1, by have := Nat.mod_lt a (show 0 < 1000000000 by omega); simpa using this, ?_, fun h1 h2 => by omega⟩
  rw [h.2.1]
  congr 2
  have := Nat.mod_add_div a 1000000000
  omega

theorem DecIn.step {N : Nat} {D : List Nat} {i r a : Nat} (h : DecIn N D i r a) (hi : i < 9) (hc : 0 < r ∨ 0 < a) : DecIn N (D ++ [r % 10]) (i + 1) (r / 10) a := by
  obtain ⟨h1, h2, h3, h4⟩ := h
  have e : 9 - i = 9 - (i + 1) + 1 := by omega
  rw [e, Nat.pow_succ] at h2 h3
  refine ⟨fun x hx => ?_, by omega, ?_, fun ha hr => ?_⟩
  · rcases List.mem_append.1 hx with hx | hx
    · exact h1 x hx
    · simp at hx; omega
  · rw [h3, val_snoc, List.length_append, List.length_singleton, Nat.pow_succ]
    have := Nat.mod_add_div r 10
    generalize r % 10 = s at *
    generalize r / 10 = q at *
    subst this
    grind
  · unfold Tight; simp; omega

theorem DecIn.leave {N : Nat} {D : List Nat} {i r a : Nat} (h : DecIn N D i r a) (hi : i ≤ 9) (hc : ¬ (i < 9 ∧ (0 < r ∨ 0 < a))) : DecOut N D a := by
  obtain ⟨h1, h2, h3, h4⟩ := h
  have hr : r = 0 := by
    by_cases hi9 : i < 9
    · omega
    · have : i = 9 := by omega
      subst this; simp at h2; exact h2
  subst hr
  refine ⟨h1, ?_, fun ha => h4 ha rfl⟩
  rw [h3]
  by_cases hi9 : i < 9
  · have : a = 0 := by omega
    subst this; simp
  · have : i = 9 := by omega
    subst this; simp

theorem DecOut.done {N : Nat} {D : List Nat} (h : DecOut N D 0) : D = dig 10 N := dig_eq (by omega) D N h.1 (h.2.2 rfl) (by rw [h.2.1]; simp)

theorem DecIn.size {N : Nat} {D : List Nat} {i r a : Nat} (h : DecIn N D i r a) (hc : 0 < r ∨ 0 < a) : D.length ≤ 32 * (dig B32 N).length := by
  have h1 : 10 ^ D.length ≤ N := by
    rw [h.2.2.1]
    have : 0 < r + 10 ^ (9 - i) * a := by
      rcases hc with hc | hc
      · omega
      · have := Nat.mul_pos (show 0 < 10 ^ (9 - i) from Nat.pow_pos (by omega)) hc; omega
    have := Nat.le_mul_of_pos_right (10 ^ D.length) this
    omega
  have h2 := (dig_len_le B32_two N _).1 (Nat.le_refl _)
  have h3 : B32 ^ (dig B32 N).length = 2 ^ (32 * (dig B32 N).length) := by rw [Nat.pow_mul]; congr 1
  have h4 : 2 ^ D.length ≤ 10 ^ D.length := Nat.pow_le_pow_left (by omega) _
  have h5 : 2 ^ D.length < 2 ^ (32 * (dig B32 N).length) := by rw [← h3]; omega
  exact Nat.le_of_lt ((Nat.pow_lt_pow_iff_right (by omega)).1 h5)

theorem dec_size (N : Nat) : (dig 10 N).length ≤ 32 * (dig B32 N).length := by
  rw [dig_len_le (by omega)]
  have h2 := (dig_len_le B32_two N _).1 (Nat.le_refl _)
  have h3 : B32 ^ (dig B32 N).length = 2 ^ (32 * (dig B32 N).length) := by rw [Nat.pow_mul]; congr 1
  have h4 : 2 ^ (32 * (dig B32 N).length) ≤ 10 ^ (32 * (dig B32 N).length) := Nat.pow_le_pow_left (by omega) _
  omega

theorem dig_len_mul {B : Nat} (hB : 2 ≤ B) (a b : Nat) : (dig B (a * b)).length ≤ (dig B a).length + (dig B b).length := by
  rw [dig_len_le hB, Nat.pow_add]
  exact Nat.mul_lt_mul'' ((dig_len_le hB a _).1 (Nat.le_refl _)) ((dig_len_le hB b _).1 (Nat.le_refl _))

theorem dig_len_add {B : Nat} (hB : 2 ≤ B) (a b : Nat) : (dig B (a + b)).length ≤ (dig B a).length + (dig B b).length + 1 := by
  rw [dig_len_le hB]
  have h1 := (dig_len_le hB a _).1 (Nat.le_refl _)
  have h2 := (dig_len_le hB b _).1 (Nat.le_refl _)
  have h3 : B ^ (dig B a).length ≤ B ^ ((dig B a).length + (dig B b).length) := Nat.pow_le_pow_right (by omega) (by omega)
  have h4 : B ^ (dig B b).length ≤ B ^ ((dig B a).length + (dig B b).length) := Nat.pow_le_pow_right (by omega) (by omega)
  rw [Nat.pow_succ]
  have := Nat.mul_le_mul_left (B ^ ((dig B a).length + (dig B b).length)) hB
  omega

end Go.Slip

namespace Go.Slip

/-! ### The references' sum -/
def PlusRel (O xs ys : List Nat) (i cr : Nat) : Prop :=
  (∀ x ∈ O, x < B16) ∧ O.length = i ∧ cr ≤ 1 ∧ val B16 O + cr * B16 ^ i = val B16 (xs.take i) + val B16 (ys.take i) ∧
    (i ≤ xs.length ∨ i ≤ ys.length ∨ (cr = 0 ∧ B16 ^ (i - 1) ≤ val B16 O))

theorem PlusRel.start (xs ys : List Nat) : PlusRel [] xs ys 0 0 := ⟨by simp, rfl, by omega, by simp, .inl (Nat.zero_le _)⟩

theorem PlusRel.step {O xs ys : List Nat} {i cr : Nat} (h : PlusRel O xs ys i cr) (hx : dg xs i < B16) (hy : dg ys i < B16) (hc : i < xs.length ∨ i < ys.length ∨ 0 < cr) :
    PlusRel (O ++ [(cr + dg xs i + dg ys i) % B16]) xs ys (i + 1) ((cr + dg xs i + dg ys i) / B16) := by
  obtain ⟨h1, h2, h3, h4, h5⟩ := h
  have hv : val B16 (O ++ [(cr + dg xs i + dg ys i) % B16]) + (cr + dg xs i + dg ys i) / B16 * B16 ^ (i + 1) = val B16 (xs.take (i + 1)) + val B16 (ys.take (i + 1)) := by
    rw [val_snoc, val_take_succ, val_take_succ, h2, Nat.pow_succ]
    have := Nat.div_add_mod (cr + dg xs i + dg ys i) B16
    generalize (cr + dg xs i + dg ys i) / B16 = q at *
    generalize (cr + dg xs i + dg ys i) % B16 = r at *
    have e : B16 ^ i * (B16 * q + r) = B16 ^ i * (cr + dg xs i + dg ys i) := by rw [this]
    grind
  refine ⟨fun x hm => ?_, by simp [h2], ?_, hv, ?_⟩
  · rcases List.mem_append.1 hm with hm | hm
    · exact h1 x hm
    · simp at hm; rw [hm]; exact Nat.mod_lt _ B16_pos
  · unfold B16 at *; omega
  · by_cases hn : i < xs.length ∨ i < ys.length
    · omega
    · have e1 : dg xs i = 0 := dg_of_ge (by omega)
      have e2 : dg ys i = 0 := dg_of_ge (by omega)
      have e3 : cr = 1 := by omega
      subst e3
      rw [e1, e2]
      refine .inr (.inr ⟨by decide, ?_⟩)
      have : (1 + 0 + 0) % B16 = 1 := by decide
      rw [this, val_snoc, h2]
      simp

theorem PlusRel.done {O xs ys : List Nat} {i a b : Nat} (h : PlusRel O xs ys i 0) (hx : xs.length ≤ i) (hy : ys.length ≤ i) (ha : xs = dig B16 a) (hb : ys = dig B16 b) : O = dig B16 (a + b) := by
  obtain ⟨h1, h2, h3, h4, h5⟩ := h
  rw [val_take_all _ _ _ hx, val_take_all _ _ _ hy, ha, hb, val_dig B16_two, val_dig B16_two, Nat.zero_mul, Nat.add_zero] at h4
  refine dig_eq B16_two O _ h1 (tight_of_ge O h1 ?_) h4
  rw [h2]
  by_cases hi : i = 0
  · left; exact List.eq_nil_of_length_eq_zero (by omega)
  · right
    rcases h5 with h5 | h5 | h5
    · have e : xs.length = i := by omega
      rw [h4, ← e, ha]
      have hp : 0 < a := by
        rcases Nat.eq_zero_or_pos a with h0 | h0
        · rw [h0, dig_zero] at ha; rw [ha] at e; simp at e; omega
        · exact h0
      have := dig_len_pow B16_two a hp
      omega
    · have e : ys.length = i := by omega
      rw [h4, ← e, hb]
      have hp : 0 < b := by
        rcases Nat.eq_zero_or_pos b with h0 | h0
        · rw [h0, dig_zero] at hb; rw [hb] at e; simp at e; omega
        · exact h0
      have := dig_len_pow B16_two b hp
      omega
    · exact h5.2

end Go.Slip

namespace Go.Slip

/-- What a comparison answers. -/
def cmpN (a b : Nat) : Int := if a < b then -1 else if b < a then 1 else 0

theorem cmpN_lt {a b : Nat} (h : a < b) : cmpN a b = -1 := by unfold cmpN; rw [if_pos h]
theorem cmpN_gt {a b : Nat} (h : b < a) : cmpN a b = 1 := by unfold cmpN; rw [if_neg (by omega), if_pos h]
theorem cmpN_eq (a : Nat) : cmpN a a = 0 := by unfold cmpN; rw [if_neg (by omega), if_neg (by omega)]

theorem dig_len_lt {B : Nat} (hB : 2 ≤ B) {a b : Nat} (h : (dig B a).length < (dig B b).length) : a < b := by
  rcases Nat.lt_or_ge a b with h1 | h1
  · exact h1
  · have := dig_len_mono hB h1; omega

theorem val_cut (B : Nat) (xs : List Nat) (k : Nat) (hk : k < xs.length) : val B xs = val B (xs.take k) + B ^ k * (dg xs k + B * val B (xs.drop (k + 1))) := by
  rw [val_take_drop B xs k (by omega), val_drop B xs k hk]

theorem val_take_lt {B : Nat} (xs : List Nat) (hx : ∀ x ∈ xs, x < B) (k : Nat) (hk : k ≤ xs.length) : val B (xs.take k) < B ^ k := by
  have h := val_lt B (xs.take k) (fun x h => hx x (List.mem_of_mem_take h))
  rwa [List.length_take, Nat.min_eq_left hk] at h

theorem val_cmp {B : Nat} (xs ys : List Nat) (hx : ∀ x ∈ xs, x < B) (k : Nat) (hk : k < xs.length) (hl : xs.length = ys.length) (hd : xs.drop (k + 1) = ys.drop (k + 1)) (h : dg xs k < dg ys k) : val B xs < val B ys := by
  rw [val_cut B xs k hk, val_cut B ys k (by omega), hd]
  have h1 := val_take_lt xs hx k (by omega)
  generalize val B (ys.drop (k + 1)) = v at *
  generalize val B (xs.take k) = t at *
  have h2 : B ^ k * (dg xs k + 1 + B * v) ≤ B ^ k * (dg ys k + B * v) := Nat.mul_le_mul_left _ (by omega)
  have e : B ^ k * (dg xs k + 1 + B * v) = B ^ k + B ^ k * (dg xs k + B * v) := by grind
  rw [e] at h2
  omega

theorem drop_eq_of {xs ys : List Nat} {k : Nat} (hk : k < xs.length) (hl : xs.length = ys.length) (hd : xs.drop (k + 1) = ys.drop (k + 1)) (h : dg xs k = dg ys k) : xs.drop k = ys.drop k := by
  rw [List.drop_eq_getElem_cons hk, List.drop_eq_getElem_cons (show k < ys.length by omega), hd]
  rw [dg_of_lt hk, dg_of_lt (show k < ys.length by omega)] at h
  rw [h]

/-! ### Lengths in bits -/
def blen (n : Nat) : Nat := (dig 2 n).length

theorem blen_zero : blen 0 = 0 := by unfold blen; rw [dig_zero]; rfl
theorem blen_le (n k : Nat) : blen n ≤ k ↔ n < 2 ^ k := dig_len_le (by omega) n k
theorem blen_pow (n : Nat) (h : 0 < n) : 2 ^ (blen n - 1) ≤ n := dig_len_pow (by omega) n h
theorem blen_pos (n : Nat) : 0 < blen n ↔ 0 < n := by
  have := dig_len_zero (B := 2) (by omega) n
  unfold blen; omega
theorem blen_half (n : Nat) (h : 0 < n) : blen n = blen (n / 2) + 1 := by unfold blen; rw [dig_pos (by omega) h, List.length_cons]

theorem blen_eq {n k : Nat} (h1 : 2 ^ k ≤ n) (h2 : n < 2 ^ (k + 1)) : blen n = k + 1 := by
  have a := (blen_le n (k + 1)).2 h2
  have b : ¬ blen n ≤ k := fun h => by have := (blen_le n k).1 h; omega
  omega

theorem blen_dig {B s : Nat} (hB : B = 2 ^ s) (h2 : 2 ≤ B) (n : Nat) (h : 0 < n) : blen n = s * ((dig B n).length - 1) + blen (dg (dig B n) ((dig B n).length - 1)) ∧ 0 < dg (dig B n) ((dig B n).length - 1) := by
  have hl : 0 < (dig B n).length := List.length_pos_iff.2 ((dig_spec h2 n).2.2.2 h)
  have hv := val_cut B (dig B n) ((dig B n).length - 1) (by omega)
  rw [val_dig h2, show (dig B n).length - 1 + 1 = (dig B n).length by omega, List.drop_length, val_nil, Nat.mul_zero, Nat.add_zero] at hv
  have ht := val_take_lt (dig B n) (dig_lt h2 n) ((dig B n).length - 1) (by omega)
  have hp := dig_len_pow h2 n h
  generalize dg (dig B n) ((dig B n).length - 1) = d at *
  generalize (dig B n).length - 1 = k at *
  generalize val B ((dig B n).take k) = t at *
  have hd : 0 < d := by
    rcases Nat.eq_zero_or_pos d with h0 | h0
    · subst h0; omega
    · exact h0
  refine ⟨?_, hd⟩
  have b1 := blen_pow d hd
  have b2 := (blen_le d (blen d)).1 (Nat.le_refl _)
  have b3 := (blen_pos d).2 hd
  obtain ⟨m, hm⟩ : ∃ m, blen d = m + 1 := ⟨blen d - 1, by omega⟩
  rw [hm] at b1 b2 ⊢
  have e : B ^ k = 2 ^ (s * k) := by rw [hB, Nat.pow_mul]
  rw [e] at hv ht
  rw [← Nat.add_assoc]
  refine blen_eq ?_ ?_
  · rw [Nat.pow_add]
    have := Nat.mul_le_mul_left (2 ^ (s * k)) b1
    simp at this
    omega
  · rw [Nat.add_assoc, Nat.pow_add]
    have := Nat.mul_le_mul_left (2 ^ (s * k)) (show d + 1 ≤ 2 ^ (m + 1) from b2)
    rw [Nat.mul_add, Nat.mul_one] at this
    omega

/-! ### Differences, digit by digit -/
theorem sub_step {B : Nat} (L : List Nat) (i y br T : Nat) (hi : i < L.length) (d : Nat) (hd : d + y + br = dg L i + B * (if dg L i < y + br then 1 else 0))
    (V : Nat) (h : val B L + V = T + br * B ^ i) :
    val B (L.set i d) + (V + B ^ i * y) = T + (if dg L i < y + br then 1 else 0) * B ^ (i + 1) := by
  have h1 := val_set B L i d hi
  rw [Nat.pow_succ]
  generalize (if dg L i < y + br then 1 else 0) = q at *
  generalize dg L i = x at *
  have h3 : B ^ i * (d + y + br) = B ^ i * (x + B * q) := by rw [hd]
  grind

def SubRel (L ys : List Nat) (i br a : Nat) : Prop := (∀ x ∈ L, x < B32) ∧ val B32 L + val B32 (ys.take i) = a + br * B32 ^ i

/-- One digit of a difference, and what is owed. -/
def subD (x y br : Nat) : Nat := (x + (4294967296 - y) + (4294967296 - br)) % 4294967296
def subB (x y br : Nat) : Nat := if x < y + br then 1 else 0

theorem SubRel.step {L ys : List Nat} {i br a : Nat} (h : SubRel L ys i br a) (hi : i < L.length) (hy : ∀ x ∈ ys, x < B32) (hb : br ≤ 1) :
    SubRel (L.set i (subD (dg L i) (dg ys i) br)) ys (i + 1) (subB (dg L i) (dg ys i) br) a := by
  have h1 := getD_lt (B := 4294967296) (by omega) L h.1 i
  have h2 := getD_lt (B := 4294967296) (by omega) ys hy i
  refine ⟨set_lt L h.1 i _ (Nat.mod_lt _ (by omega)), ?_⟩
  rw [val_take_succ]
  refine sub_step L i _ br a hi _ ?_ _ h.2
  unfold subD B32
  split <;> omega

theorem subB_le (x y br : Nat) : subB x y br ≤ 1 := by unfold subB; split <;> omega

theorem SubRel.start (a : Nat) (ys : List Nat) : SubRel (dig B32 a) ys 0 0 a := ⟨dig_lt B32_two a, by simp [val_dig B32_two]⟩

theorem SubRel.done {L ys : List Nat} {i br a b : Nat} (h : SubRel L ys i br a) (hi : ys.length ≤ i) (hy : val B32 ys = b) (hab : b ≤ a) (hl : L.length ≤ i ∨ br = 0) (hL : val B32 L < B32 ^ L.length) : val B32 L = a - b := by
  have h2 := h.2
  rw [val_take_all _ _ _ hi, hy] at h2
  rcases hl with hl | rfl
  · have hp : B32 ^ L.length ≤ B32 ^ i := Nat.pow_le_pow_right B32_pos hl
    have : br = 0 := by
      rcases Nat.eq_zero_or_pos br with h0 | h0
      · exact h0
      · have := Nat.le_mul_of_pos_left (B32 ^ i) h0; omega
    subst this; omega
  · omega

/-- The references' difference. -/
def LessRel (O xs ys : List Nat) (i br : Nat) : Prop := (∀ x ∈ O, x < B16) ∧ O.length = i ∧ br ≤ 1 ∧ val B16 O + val B16 (ys.take i) = val B16 (xs.take i) + br * B16 ^ i

theorem LessRel.start (xs ys : List Nat) : LessRel [] xs ys 0 0 := ⟨by simp, rfl, by omega, by simp⟩

theorem LessRel.step {O xs ys : List Nat} {i br : Nat} (h : LessRel O xs ys i br) (d br' : Nat) (hd : d < B16) (hb : br' ≤ 1) (he : d + dg ys i + br = dg xs i + B16 * br') : LessRel (O ++ [d]) xs ys (i + 1) br' := by
  obtain ⟨h1, h2, h3, h4⟩ := h
  refine ⟨fun x hm => ?_, by simp [h2], hb, ?_⟩
  · rcases List.mem_append.1 hm with hm | hm
    · exact h1 x hm
    · simp at hm; omega
  · rw [val_snoc, val_take_succ, val_take_succ, h2, Nat.pow_succ]
    have e : B16 ^ i * (d + dg ys i + br) = B16 ^ i * (dg xs i + B16 * br') := by rw [he]
    grind

theorem LessRel.done {O xs ys : List Nat} {br a b : Nat} (h : LessRel O xs ys xs.length br) (hx : val B16 xs = a) (hy : val B16 ys = b) (hl : ys.length ≤ xs.length) (hab : b ≤ a) : val B16 O = a - b := by
  obtain ⟨h1, h2, h3, h4⟩ := h
  rw [val_take_all _ _ _ hl, List.take_length, hx, hy] at h4
  have hO := val_lt B16 O h1
  rw [h2] at hO
  have : br = 0 := by
    rcases Nat.eq_zero_or_pos br with h0 | h0
    · exact h0
    · have := Nat.le_mul_of_pos_left (B16 ^ xs.length) h0; omega
  subst this; omega

end Go.Slip

namespace Go.Slip

theorem val_dvd {B p : Nat} (hp : B % p = 0) (xs : List Nat) : val B xs % p = dg xs 0 % p := by
  cases xs with
  | nil => simp [dg]
  | cons x xs =>
    have : dg (x :: xs) 0 = x := by simp [dg]
    rw [this, val_cons]
    obtain ⟨q, rfl⟩ := Nat.dvd_of_mod_eq_zero hp
    rw [Nat.mul_assoc, Nat.add_mul_mod_self_left]

theorem div_split (B p x V : Nat) (hp : 0 < p) (hB : B % p = 0) : (x + B * V) / p = x / p + V % p * (B / p) + B * (V / p) := by
  obtain ⟨q, rfl⟩ := Nat.dvd_of_mod_eq_zero hB
  rw [Nat.mul_div_cancel_left _ hp, Nat.mul_assoc, Nat.add_mul_div_left _ _ hp]
  have h := Nat.mod_add_div V p
  generalize V % p = r at *
  generalize V / p = s at *
  subst h
  grind

/-- One step of a division by a power of 2: the digit. -/
theorem shr_step {B p : Nat} (hp : 0 < p) (hB : B % p = 0) (Y : List Nat) (i : Nat) (hi : i < Y.length) :
    val B (Y.drop i) / p = (dg Y i / p + dg Y (i + 1) % p * (B / p)) + B * (val B (Y.drop (i + 1)) / p) := by
  rw [val_drop B Y i hi, div_split B p _ _ hp hB, val_dvd hB]
  have : dg (Y.drop (i + 1)) 0 = dg Y (i + 1) := by rw [dg_drop]
  rw [this]

theorem shr_lt {B p x y : Nat} (hp : 0 < p) (hB : B % p = 0) (hx : x < B) : x / p + y % p * (B / p) < B := by
  obtain ⟨q, rfl⟩ := Nat.dvd_of_mod_eq_zero hB
  rw [Nat.mul_div_cancel_left _ hp]
  have h1 : x / p < q := by rw [Nat.div_lt_iff_lt_mul hp, Nat.mul_comm]; exact hx
  have h2 : y % p + 1 ≤ p := Nat.mod_lt _ hp
  have h3 := Nat.mul_le_mul_right q h2
  rw [Nat.add_mul, Nat.one_mul] at h3
  omega

/-- In the midst of a shift to the right in place. -/
def ShrRel (B p : Nat) (L Y : List Nat) (i : Nat) : Prop :=
  (∀ x ∈ L, x < B) ∧ L.length = Y.length ∧ (∀ j, i ≤ j → dg L j = dg Y j) ∧ val B (L.take i) + B ^ i * (val B (Y.drop i) / p) = val B Y / p

theorem ShrRel.start {B p : Nat} {Y : List Nat} (h : ∀ x ∈ Y, x < B) : ShrRel B p Y Y 0 := ⟨h, rfl, fun _ _ => rfl, by simp⟩

theorem take_set_same (L : List Nat) (i v : Nat) : (L.set i v).take i = L.take i := by
  apply List.ext_getElem?
  intro j
  rw [List.getElem?_take, List.getElem?_take]
  by_cases h : j < i
  · rw [if_pos h, if_pos h, List.getElem?_set_ne (by omega)]
  · rw [if_neg h, if_neg h]

theorem ShrRel.step {B p : Nat} {L Y : List Nat} {i : Nat} (h : ShrRel B p L Y i) (hp : 0 < p) (hB : B % p = 0) (hY : ∀ x ∈ Y, x < B) (hi : i < Y.length) (v : Nat) (hv : v = dg Y i / p + dg Y (i + 1) % p * (B / p)) : ShrRel B p (L.set i v) Y (i + 1) := by
  obtain ⟨h1, h2, h3, h4⟩ := h
  have hx : dg Y i < B := by rw [dg_of_lt hi]; exact hY _ (List.getElem_mem hi)
  refine ⟨set_lt L h1 i v (by rw [hv]; exact shr_lt hp hB hx), by simpa using h2, fun j hj => ?_, ?_⟩
  · rw [dg_set_ne (by omega)]; exact h3 j (by omega)
  · rw [val_take_succ, take_set_same, dg_set_same (by omega), ← h4, shr_step hp hB Y i hi, ← hv, Nat.pow_succ]
    grind

theorem ShrRel.done {B p : Nat} {L Y : List Nat} (h : ShrRel B p L Y Y.length) : val B L = val B Y / p := by
  have h4 := h.2.2.2
  rw [← h.2.1] at h4
  rw [List.take_length, h.2.1, List.drop_length] at h4
  simpa using h4

/-- The same with a list that grows. -/
def DownRel (B p : Nat) (O Y : List Nat) (i : Nat) : Prop := (∀ x ∈ O, x < B) ∧ O.length = i ∧ val B O + B ^ i * (val B (Y.drop i) / p) = val B Y / p

theorem DownRel.start (B p : Nat) (Y : List Nat) : DownRel B p [] Y 0 := ⟨by simp, rfl, by simp⟩

theorem DownRel.step {B p : Nat} {O Y : List Nat} {i : Nat} (h : DownRel B p O Y i) (hp : 0 < p) (hB : B % p = 0) (hY : ∀ x ∈ Y, x < B) (hi : i < Y.length) (v : Nat) (hv : v = dg Y i / p + dg Y (i + 1) % p * (B / p)) : DownRel B p (O ++ [v]) Y (i + 1) := by
  obtain ⟨h1, h2, h4⟩ := h
  have hx : dg Y i < B := by rw [dg_of_lt hi]; exact hY _ (List.getElem_mem hi)
  refine ⟨fun x hm => ?_, by simp [h2], ?_⟩
  · rcases List.mem_append.1 hm with hm | hm
    · exact h1 x hm
    · simp at hm; rw [hm, hv]; exact shr_lt hp hB hx
  · rw [val_snoc, h2, ← h4, shr_step hp hB Y i hi, ← hv, Nat.pow_succ]
    grind

theorem DownRel.done {B p : Nat} {O Y : List Nat} (h : DownRel B p O Y Y.length) : val B O = val B Y / p := by
  have h4 := h.2.2
  rw [List.drop_length] at h4
  simpa using h4

theorem val_drop_div {B : Nat} (hB : 0 < B) (xs : List Nat) (hx : ∀ x ∈ xs, x < B) (k : Nat) : val B (xs.drop k) = val B xs / B ^ k := by
  by_cases hk : k ≤ xs.length
  · rw [val_take_drop B xs k hk]
    have := val_take_lt xs hx k hk
    rw [Nat.add_mul_div_left _ _ (Nat.pow_pos hB), Nat.div_eq_of_lt this, Nat.zero_add]
  · rw [List.drop_of_length_le (by omega), val_nil]
    have h1 := val_lt B xs hx
    have h2 : B ^ xs.length ≤ B ^ k := Nat.pow_le_pow_right hB (by omega)
    rw [Nat.div_eq_of_lt (by omega)]

theorem shift_split {B w : Nat} (hB : B = 2 ^ w) (a N : Nat) : a / B ^ (N / w) / 2 ^ (N % w) = a / 2 ^ N := by
  rw [Nat.div_div_eq_div_mul, hB, ← Nat.pow_mul, ← Nat.pow_add, Nat.div_add_mod]

theorem pow_mod_zero {w s : Nat} (h : s ≤ w) : 2 ^ w % 2 ^ s = 0 := Nat.mod_eq_zero_of_dvd (Nat.pow_dvd_pow 2 h)

theorem div_of_big {B w : Nat} (hB : B = 2 ^ w) (h2 : 2 ≤ B) (a N : Nat) (h : (dig B a).length ≤ N / w) : a / 2 ^ N = 0 := by
  have h1 := (dig_len_le h2 a _).1 h
  rw [hB, ← Nat.pow_mul] at h1
  have h3 : 2 ^ (w * (N / w)) ≤ 2 ^ N := Nat.pow_le_pow_right (by omega) (Nat.mul_div_le N w)
  exact Nat.div_eq_of_lt (by omega)

/-! ### To the left -/
def ShlRel (B k p : Nat) (O xs : List Nat) (i cr : Nat) : Prop := (∀ x ∈ O, x < B) ∧ O.length = k + i ∧ cr < p ∧ val B O + cr * B ^ (k + i) = B ^ k * (val B (xs.take i) * p)

theorem ShlRel.start {B k p : Nat} (hB : 0 < B) (hp : 0 < p) (xs : List Nat) : ShlRel B k p (List.replicate k 0) xs 0 0 :=
  ⟨fun x h => by rw [(List.mem_replicate.1 h).2]; exact hB, by simp, hp, by simp [val_replicate]⟩

theorem ShlRel.step {B k p : Nat} {O xs : List Nat} {i cr : Nat} (h : ShlRel B k p O xs i cr) (hx : dg xs i < B) (t : Nat) (ht : t = dg xs i * p + cr) : ShlRel B k p (O ++ [t % B]) xs (i + 1) (t / B) := by
  obtain ⟨h1, h2, h3, h4⟩ := h
  have hB : 0 < B := by omega
  refine ⟨fun x hm => ?_, by simp [h2]; omega, ?_, ?_⟩
  · rcases List.mem_append.1 hm with hm | hm
    · exact h1 x hm
    · simp at hm; rw [hm]; exact Nat.mod_lt _ hB
  · rw [Nat.div_lt_iff_lt_mul hB, ht]
    have := Nat.mul_le_mul_right p (show dg xs i + 1 ≤ B from hx)
    rw [Nat.add_mul, Nat.one_mul] at this
    rw [Nat.mul_comm p B]; omega
  · rw [val_snoc, h2, val_take_succ, ← Nat.add_assoc, Nat.pow_succ]
    have h5 := Nat.div_add_mod t B
    generalize t / B = q at *
    generalize t % B = r at *
    have e : B ^ (k + i) * (B * q + r) = B ^ (k + i) * (dg xs i * p + cr) := by rw [h5, ht]
    have e2 : B ^ (k + i) = B ^ k * B ^ i := Nat.pow_add _ _ _
    rw [e2] at *
    grind

theorem ShlRel.done {B k p : Nat} {O xs : List Nat} {cr a : Nat} (h : ShlRel B k p O xs xs.length cr) (hp : p ≤ B) (hx : val B xs = a) : (∀ x ∈ O ++ [cr], x < B) ∧ val B (O ++ [cr]) = a * (B ^ k * p) := by
  obtain ⟨h1, h2, h3, h4⟩ := h
  refine ⟨fun x hm => ?_, ?_⟩
  · rcases List.mem_append.1 hm with hm | hm
    · exact h1 x hm
    · simp at hm; omega
  · rw [val_snoc, h2, Nat.mul_comm (B ^ _) cr, h4, List.take_length, hx]
    grind

theorem shl_split {B w : Nat} (hB : B = 2 ^ w) (N : Nat) : B ^ (N / w) * 2 ^ (N % w) = 2 ^ N := by
  rw [hB, ← Nat.pow_mul, ← Nat.pow_add, Nat.div_add_mod]

theorem pow2_dig {B w : Nat} (hB : B = 2 ^ w) (hw : 0 < w) (N : Nat) : (List.replicate (N / w + 1) 0).set (N / w) (2 ^ (N % w)) = dig B (2 ^ N) := by
  have h2 : 2 ≤ B := by rw [hB]; calc 2 = 2 ^ 1 := rfl
                              _ ≤ 2 ^ w := Nat.pow_le_pow_right (by omega) hw
  have hd : 2 ^ (N % w) < B := by rw [hB]; exact (Nat.pow_lt_pow_iff_right (by omega)).2 (Nat.mod_lt _ hw)
  have hv := val_set B (List.replicate (N / w + 1) 0) (N / w) (2 ^ (N % w)) (by simp)
  rw [dg_replicate, val_replicate, shl_split hB N] at hv
  have hx : ∀ x ∈ (List.replicate (N / w + 1) 0).set (N / w) (2 ^ (N % w)), x < B := set_lt _ (fun x h => by rw [(List.mem_replicate.1 h).2]; omega) _ _ hd
  refine dig_eq h2 _ _ hx (tight_of_ge _ hx (.inr ?_)) (by omega)
  rw [List.length_set, List.length_replicate, Nat.add_sub_cancel]
  have := shl_split hB N
  have h3 := Nat.le_mul_of_pos_right (B ^ (N / w)) (show 0 < 2 ^ (N % w) from Nat.pow_pos (by omega))
  omega

end Go.Slip

namespace Go.Slip

/-- Decimal digits, the lowest first, as bytes in the order in which they are read. -/
def Txt (D : List Nat) : List Nat := D.reverse.map (· + 48)

theorem Txt_snoc (D : List Nat) (x : Nat) : Txt (D ++ [x]) = (x + 48) :: Txt D := by simp [Txt]
theorem Txt_length (D : List Nat) : (Txt D).length = D.length := by simp [Txt]

theorem dg_Txt {D : List Nat} {j : Nat} (h : j < D.length) : dg (Txt D) j = dg D (D.length - 1 - j) + 48 := by
  rw [dg_of_lt (by rw [Txt_length]; exact h), dg_of_lt (by omega)]
  simp [Txt]

/-- Within a group of four: d is what is left of it, A what is above it. -/
def GrpIn (N : Nat) (D : List Nat) (i d A : Nat) : Prop := (∀ x ∈ D, x < 10) ∧ d < 10 ^ (4 - i) ∧ N = val 10 D + 10 ^ D.length * (d + 10 ^ (4 - i) * A)
def GrpOut (N : Nat) (D : List Nat) (A : Nat) : Prop := (∀ x ∈ D, x < 10) ∧ N = val 10 D + 10 ^ D.length * A

theorem GrpOut.start (N : Nat) : GrpOut N [] N := ⟨by simp, by simp⟩

theorem GrpOut.enter {N : Nat} {D : List Nat} {A : Nat} (h : GrpOut N D A) : GrpIn N D 0 (A % 10000) (A / 10000) := by
  refine ⟨h.1, Nat.mod_lt _ (by omega), ?_⟩
  rw [h.2]
  congr 2
  have := Nat.mod_add_div A 10000
  show A = A % 10000 + 10000 * (A / 10000)
  omega

theorem GrpIn.step {N : Nat} {D : List Nat} {i d A : Nat} (h : GrpIn N D i d A) (hi : i < 4) : GrpIn N (D ++ [d % 10]) (i + 1) (d / 10) A := by
  obtain ⟨h1, h2, h3⟩ := h
  have e : 4 - i = 4 - (i + 1) + 1 := by omega
  rw [e, Nat.pow_succ] at h2 h3
  refine ⟨fun x hx => ?_, by omega, ?_⟩
  · rcases List.mem_append.1 hx with hx | hx
    · exact h1 x hx
    · simp at hx; omega
  · rw [h3, val_snoc, List.length_append, List.length_singleton, Nat.pow_succ]
    have := Nat.mod_add_div d 10
    generalize d % 10 = s at *
    generalize d / 10 = q at *
    subst this
    grind

theorem GrpIn.leave {N : Nat} {D : List Nat} {d A : Nat} (h : GrpIn N D 4 d A) : GrpOut N D A := by
  obtain ⟨h1, h2, h3⟩ := h
  have hd : d = 0 := by simpa using h2
  subst hd
  exact ⟨h1, by rw [h3]; simp⟩

theorem GrpOut.size {N : Nat} {D : List Nat} {A : Nat} (h : GrpOut N D A) (hA : 0 < A) : D.length ≤ 16 * (dig B16 N).length := by
  have h1 : 10 ^ D.length ≤ N := by
    rw [h.2]
    have := Nat.le_mul_of_pos_right (10 ^ D.length) hA
    omega
  have h2 := (dig_len_le B16_two N _).1 (Nat.le_refl _)
  have h3 : B16 ^ (dig B16 N).length = 2 ^ (16 * (dig B16 N).length) := by rw [Nat.pow_mul]; congr 1
  have h4 : 2 ^ D.length ≤ 10 ^ D.length := Nat.pow_le_pow_left (by omega) _
  have h5 : 2 ^ D.length < 2 ^ (16 * (dig B16 N).length) := by rw [← h3]; omega
  exact Nat.le_of_lt ((Nat.pow_lt_pow_iff_right (by omega)).1 h5)

/-- What is left when noughts ahead are passed over, but for the last digit. -/
theorem dec_strip (D : List Nat) (k : Nat) (hD : ∀ x ∈ D, x < 10) (hk : k < D.length) (hz : ∀ j, D.length - k ≤ j → dg D j = 0) (hs : k + 1 = D.length ∨ dg D (D.length - 1 - k) ≠ 0) :
    (Txt D).drop k = decOf (val 10 D) := by
  have hdrop : (Txt D).drop k = ((D.take (D.length - k)).reverse).map (· + 48) := by
    unfold Txt
    rw [← List.map_drop, List.reverse_take]
    congr 2
    omega
  rw [hdrop]
  unfold decOf
  by_cases h0 : dg D (D.length - 1 - k) = 0
  · have hk1 : k + 1 = D.length := by rcases hs with h | h; exact h; exact absurd h0 h
    have hall : ∀ j, 0 ≤ j → dg D j = 0 := fun j _ => by
      by_cases hj : j = 0
      · subst hj; rw [show D.length - 1 - k = 0 by omega] at h0; exact h0
      · exact hz j (by omega)
    have hv : val 10 D = 0 := by
      have := val_take_zeros 10 D 0 (by omega) hall
      simpa using this.symm
    rw [if_pos hv, show D.length - k = 0 + 1 by omega, List.take_succ_eq_append_getElem (show 0 < D.length by omega)]
    have h1 := hall 0 (by omega)
    rw [dg_of_lt (show 0 < D.length by omega)] at h1
    simp [h1]
  · have ht := take_dig (B := 10) (by omega) D (D.length - k) hD (by omega) hz (.inr (by rw [show D.length - k - 1 = D.length - 1 - k by omega]; exact h0))
    have hv : val 10 D ≠ 0 := by
      intro e
      rw [e, dig_zero] at ht
      have := congrArg List.length ht
      simp at this
      omega
    rw [if_neg hv, ht]

end Go.Slip

namespace Go.Slip

/-- In the midst of 'times ten and d more' in place. -/
def MaRel (L X : List Nat) (ten d0 i d : Nat) : Prop :=
  (∀ x ∈ L, x < B32) ∧ L.length = X.length ∧ (∀ j, i ≤ j → dg L j = dg X j) ∧ val B32 (L.take i) + d * B32 ^ i = val B32 (X.take i) * ten + d0

theorem MaRel.start {X : List Nat} (h : ∀ x ∈ X, x < B32) (ten d0 : Nat) : MaRel X X ten d0 0 d0 := ⟨h, rfl, fun _ _ => rfl, by simp⟩

theorem MaRel.step {L X : List Nat} {ten d0 i d : Nat} (h : MaRel L X ten d0 i d) (hi : i < X.length) (t : Nat) (ht : t = dg X i * ten + d) : MaRel (L.set i (t % B32)) X ten d0 (i + 1) (t / B32) := by
  obtain ⟨h1, h2, h3, h4⟩ := h
  refine ⟨set_lt L h1 i _ (Nat.mod_lt _ B32_pos), by simpa using h2, fun j hj => ?_, ?_⟩
  · rw [dg_set_ne (by omega)]; exact h3 j (by omega)
  · rw [val_take_succ, take_set_same, dg_set_same (by omega), val_take_succ, Nat.pow_succ]
    have h5 := Nat.div_add_mod t B32
    generalize t / B32 = q at *
    generalize t % B32 = r at *
    have e : B32 ^ i * (B32 * q + r) = B32 ^ i * (dg X i * ten + d) := by rw [h5, ht]
    grind

theorem MaRel.done0 {L : List Nat} {ten d0 a : Nat} (h : MaRel L (dig B32 a) ten d0 (dig B32 a).length 0) (h1 : 0 < ten) : L = dig B32 (a * ten + d0) := by
  have h4 := h.2.2.2
  rw [List.take_length, val_dig B32_two, ← h.2.1, List.take_length] at h4
  obtain ⟨m, rfl⟩ : ∃ m, ten = m + 1 := ⟨ten - 1, by omega⟩
  have e : a * (m + 1) + d0 = a + (a * m + d0) := by grind
  rw [e] at h4 ⊢
  exact add_end0 B32_two L a _ h.1 h.2.1 (by omega)

theorem MaRel.done1 {L : List Nat} {ten d0 a d : Nat} (h : MaRel L (dig B32 a) ten d0 (dig B32 a).length d) (h1 : 0 < d) (h2 : d < B32) : L ++ [d] = dig B32 (a * ten + d0) := by
  have h4 := h.2.2.2
  rw [List.take_length, val_dig B32_two, ← h.2.1, List.take_length] at h4
  exact add_end1 B32_two L d _ h.1 h1 h2 h4

/-- The number that digits make. -/
def numOf (l : List Nat) : Nat := l.foldl (fun a b => 10 * a + (b - 48)) 0

theorem numOf_snoc (l : List Nat) (b : Nat) : numOf (l ++ [b]) = 10 * numOf l + (b - 48) := by simp [numOf]
theorem numOf_take_succ (l : List Nat) (k : Nat) (h : k < l.length) : numOf (l.take (k + 1)) = 10 * numOf (l.take k) + (dg l k - 48) := by
  rw [List.take_succ_eq_append_getElem h, numOf_snoc, dg_of_lt h]

theorem numOf_lt (l : List Nat) (h : ∀ j, j < l.length → dg l j ≤ 57) : numOf l < 10 ^ l.length := by
  have key : ∀ n, n ≤ l.length → numOf (l.take n) < 10 ^ n := by
    intro n
    induction n with
    | zero => intro _; simp [numOf]
    | succ n ih =>
      intro hn
      rw [numOf_take_succ l n (by omega), Nat.pow_succ]
      have h1 := ih (by omega)
      have h2 := h n (by omega)
      omega
  have := key l.length (Nat.le_refl _)
  rwa [List.take_length] at this

theorem foldl_num (m : List Nat) : ∀ a, m.foldl (fun a b => 10 * a + (b - 48)) a = a * 10 ^ m.length + numOf m := by
  induction m with
  | nil => intro a; simp [numOf]
  | cons x m ih =>
    intro a
    rw [List.foldl_cons, ih]
    unfold numOf
    rw [List.foldl_cons, ih (10 * 0 + (x - 48)), List.length_cons, Nat.pow_succ]
    grind

theorem numOf_append (l m : List Nat) : numOf (l ++ m) = numOf l * 10 ^ m.length + numOf m := by
  unfold numOf
  rw [List.foldl_append, foldl_num]
  rfl

theorem numOf_chunk (l : List Nat) (k n : Nat) (h : k + n ≤ l.length) : numOf (l.take (k + n)) = numOf (l.take k) * 10 ^ n + numOf ((l.drop k).take n) := by
  have e : l.take (k + n) = l.take k ++ (l.drop k).take n := by rw [List.take_add]
  rw [e, numOf_append]
  congr 3
  simp; omega

end Go.Slip

namespace Go.Slip

/-- What the upper digits say of a number: W of n + 1 digits, V of n digits (n = m + 2). -/
theorem trial_ge {B P V W top two q : Nat} (hV : top * (B * P) ≤ V) (hW : W < (two + 1) * (B * P)) (hq : q * V ≤ W) : q * top ≤ two := by
  have h1 : q * (top * (B * P)) ≤ q * V := Nat.mul_le_mul_left q hV
  have h2 : (q * top) * (B * P) < (two + 1) * (B * P) := by rw [Nat.mul_assoc]; omega
  have h3 := Nat.lt_of_mul_lt_mul_right h2
  omega

theorem trial_down {B P V W top next two w0 r t q : Nat} (hV : (top * B + next) * P ≤ V) (hW : W < (two * B + w0 + 1) * P) (hq : q * V ≤ W) (ht : t * top + r = two) (hc : r * B + w0 < t * next) : q ≠ t := by
  rintro rfl
  have h1 : q * ((top * B + next) * P) ≤ q * V := Nat.mul_le_mul_left q hV
  have h2 : (q * (top * B + next)) * P < (two * B + w0 + 1) * P := by rw [Nat.mul_assoc]; omega
  have h3 := Nat.lt_of_mul_lt_mul_right h2
  subst ht
  grind

theorem trial_le {B P V W top next two w0 r t q : Nat} (hV : V < (top * B + next + 1) * P) (hW : (two * B + w0) * P ≤ W) (hq : W < (q + 1) * V) (ht : t * top + r = two) (hc : t * next ≤ r * B + w0) (hp : t * P ≤ V) : t ≤ q + 1 := by
  have h1 : t * V ≤ t * ((top * B + next + 1) * P) := Nat.mul_le_mul_left t (Nat.le_of_lt hV)
  have h2 : t * (top * B + next) ≤ two * B + w0 := by subst ht; grind
  have h3 : (t * (top * B + next)) * P ≤ (two * B + w0) * P := Nat.mul_le_mul_right P h2
  have h4 : t * V ≤ W + V := by
    have e : t * ((top * B + next + 1) * P) = (t * (top * B + next)) * P + t * P := by grind
    omega
  have h5 : t * V < (q + 2) * V := by
    have e : (q + 2) * V = (q + 1) * V + V := by grind
    omega
  have := Nat.lt_of_mul_lt_mul_right h5
  omega


/-! ### t times a number is taken from a window of a row -/
def WinOut (L X : List Nat) (j i : Nat) : Prop := (∀ x ∈ L, x < B32) ∧ L.length = X.length ∧ ∀ k, k < j ∨ j + i ≤ k → dg L k = dg X k

theorem WinOut.refl {X : List Nat} (h : ∀ x ∈ X, x < B32) (j : Nat) : WinOut X X j 0 := ⟨h, rfl, fun _ _ => rfl⟩

theorem WinOut.step {L X : List Nat} {j i v : Nat} (h : WinOut L X j i) (hv : v < B32) : WinOut (L.set (j + i) v) X j (i + 1) := by
  obtain ⟨h1, h2, h3⟩ := h
  refine ⟨set_lt L h1 _ _ hv, by simpa using h2, fun k hk => ?_⟩
  rw [dg_set_ne (by omega)]
  exact h3 k (by omega)

def LessW (L X ys : List Nat) (j t i cr br : Nat) : Prop :=
  WinOut L X j i ∧ val B32 (L.take (j + i)) + B32 ^ j * (t * val B32 (ys.take i)) = val B32 (X.take (j + i)) + (cr + br) * B32 ^ (j + i)

theorem take_eq_of {L X : List Nat} {j : Nat} (hl : L.length = X.length) (h : ∀ k, k < j → dg L k = dg X k) : L.take j = X.take j := by
  apply list_ext_dg
  · simp [hl]
  · intro k hk
    simp only [List.length_take] at hk
    rw [dg_take (by omega), dg_take (by omega)]
    exact h k (by omega)

theorem LessW.start {X : List Nat} (h : ∀ x ∈ X, x < B32) (ys : List Nat) (j t : Nat) : LessW X X ys j t 0 0 0 := ⟨WinOut.refl h j, by simp⟩

theorem subD_eq (x y br : Nat) (hx : x < 4294967296) (hy : y < 4294967296) (hb : br ≤ 1) : subD x y br + y + br = x + B32 * subB x y br := by
  unfold subD subB B32; split <;> omega

theorem LessW.step {L X ys : List Nat} {j t i cr br : Nat} (h : LessW L X ys j t i cr br) (hj : j + i < X.length) (hX : dg X (j + i) < 4294967296) (hb : br ≤ 1) (p : Nat) (hp : p = dg ys i * t + cr) :
    LessW (L.set (j + i) (subD (dg L (j + i)) (p % 4294967296) br)) X ys j t (i + 1) (p / 4294967296) (subB (dg L (j + i)) (p % 4294967296) br) := by
  obtain ⟨h1, h2⟩ := h
  have hx : dg L (j + i) = dg X (j + i) := h1.2.2 _ (.inr (Nat.le_refl _))
  rw [hx]
  refine ⟨h1.step (Nat.mod_lt _ (by omega)), ?_⟩
  have e1 := subD_eq (dg X (j + i)) (p % 4294967296) br hX (Nat.mod_lt _ (by omega)) hb
  have e2 := Nat.div_add_mod p 4294967296
  rw [show j + (i + 1) = j + i + 1 by omega, val_take_succ, take_set_same, dg_set_same (by rw [h1.2.1]; exact hj), val_take_succ, val_take_succ, Nat.pow_succ]
  rw [show (4294967296 : Nat) = B32 from rfl] at *
  generalize subD (dg X (j + i)) (p % B32) br = d at *
  generalize subB (dg X (j + i)) (p % B32) br = b at *
  generalize p % B32 = pl at *
  generalize p / B32 = ph at *
  generalize dg X (j + i) = x at *
  generalize val B32 (L.take (j + i)) = vl at *
  generalize val B32 (X.take (j + i)) = vx at *
  generalize val B32 (ys.take i) = vy at *
  have e3 : B32 ^ (j + i) = B32 ^ j * B32 ^ i := Nat.pow_add _ _ _
  rw [e3] at h2 ⊢
  clear e3
  generalize B32 ^ j = P at *
  generalize B32 ^ i = Q at *
  subst hp
  have e4 : P * Q * (d + pl + br) = P * Q * (x + B32 * b) := by rw [e1]
  have e5 : P * Q * (B32 * ph + pl) = P * Q * (dg ys i * t + cr) := by rw [e2]
  grind

/-- The last digit of the window: what was carried and what is owed are taken from it. -/
theorem LessW.last {L X ys : List Nat} {j t cr br : Nat} (h : LessW L X ys j t ys.length cr br) (hj : j + ys.length < X.length) (hX : dg X (j + ys.length) < 4294967296) (hb : br ≤ 1) (hc : cr < 4294967296) :
    WinOut (L.set (j + ys.length) (subD (dg L (j + ys.length)) cr br)) X j (ys.length + 1) ∧
      val B32 (L.set (j + ys.length) (subD (dg L (j + ys.length)) cr br)) + B32 ^ j * (t * val B32 ys) = val B32 X + subB (dg L (j + ys.length)) cr br * B32 ^ (j + ys.length + 1) := by
  obtain ⟨h1, h2⟩ := h
  have hx : dg L (j + ys.length) = dg X (j + ys.length) := h1.2.2 _ (.inr (Nat.le_refl _))
  have hw := h1.step (v := subD (dg L (j + ys.length)) cr br) (Nat.mod_lt _ (by omega))
  refine ⟨hw, ?_⟩
  have e1 := subD_eq (dg X (j + ys.length)) cr br hX hc hb
  rw [List.take_length] at h2
  rw [hx] at hw ⊢
  have hd : (L.set (j + ys.length) (subD (dg X (j + ys.length)) cr br)).drop (j + ys.length + 1) = X.drop (j + ys.length + 1) := by
    apply list_ext_dg
    · simp [h1.2.1]
    · intro k hk
      rw [dg_drop, dg_drop]
      exact hw.2.2 _ (.inr (by omega))
  rw [val_take_drop B32 _ (j + ys.length + 1) (by rw [hw.2.1]; omega), val_take_drop B32 X (j + ys.length + 1) (by omega), hd]
  rw [val_take_succ, take_set_same, dg_set_same (by rw [h1.2.1]; exact hj), val_take_succ]
  generalize subD (dg X (j + ys.length)) cr br = d at *
  generalize subB (dg X (j + ys.length)) cr br = b at *
  generalize dg X (j + ys.length) = x at *
  generalize val B32 (X.drop (j + ys.length + 1)) = u at *
  generalize val B32 (L.take (j + ys.length)) = vl at *
  generalize val B32 (X.take (j + ys.length)) = vx at *
  rw [Nat.pow_succ]
  generalize B32 ^ (j + ys.length) = P at *
  have e4 : P * (d + cr + br) = P * (x + B32 * b) := by rw [e1]
  grind

/-! ### a number is added to a window of a row -/
def MoreW (L X ys : List Nat) (j i cr : Nat) : Prop :=
  WinOut L X j i ∧ val B32 (L.take (j + i)) + cr * B32 ^ (j + i) = val B32 (X.take (j + i)) + B32 ^ j * val B32 (ys.take i)

theorem MoreW.start {X : List Nat} (h : ∀ x ∈ X, x < B32) (ys : List Nat) (j : Nat) : MoreW X X ys j 0 0 := ⟨WinOut.refl h j, by simp⟩

theorem MoreW.step {L X ys : List Nat} {j i cr : Nat} (h : MoreW L X ys j i cr) (hj : j + i < X.length) (t : Nat) (ht : t = dg L (j + i) + dg ys i + cr) :
    MoreW (L.set (j + i) (t % 4294967296)) X ys j (i + 1) (t / 4294967296) := by
  obtain ⟨h1, h2⟩ := h
  have hx : dg L (j + i) = dg X (j + i) := h1.2.2 _ (.inr (Nat.le_refl _))
  rw [hx] at ht
  refine ⟨h1.step (Nat.mod_lt _ (by omega)), ?_⟩
  have e2 := Nat.div_add_mod t 4294967296
  rw [show j + (i + 1) = j + i + 1 by omega, val_take_succ, take_set_same, dg_set_same (by rw [h1.2.1]; exact hj), val_take_succ, val_take_succ, Nat.pow_succ]
  rw [show (4294967296 : Nat) = B32 from rfl] at *
  generalize t % B32 = pl at *
  generalize t / B32 = ph at *
  generalize dg X (j + i) = x at *
  generalize val B32 (L.take (j + i)) = vl at *
  generalize val B32 (X.take (j + i)) = vx at *
  generalize val B32 (ys.take i) = vy at *
  have e3 : B32 ^ (j + i) = B32 ^ j * B32 ^ i := Nat.pow_add _ _ _
  rw [e3] at h2 ⊢
  clear e3
  generalize B32 ^ j = P at *
  generalize B32 ^ i = Q at *
  subst ht
  have e5 : P * Q * (B32 * ph + pl) = P * Q * (x + dg ys i + cr) := by rw [e2]
  grind

end Go.Slip

namespace Go.Slip

theorem val_drop0 (B : Nat) (xs : List Nat) (j : Nat) : val B (xs.drop j) = dg xs j + B * val B (xs.drop (j + 1)) := by
  by_cases h : j < xs.length
  · exact val_drop B xs j h
  · rw [List.drop_of_length_le (by omega), List.drop_of_length_le (by omega), dg_of_ge (by omega)]; simp

theorem val_take_drop0 (B : Nat) (xs : List Nat) (k : Nat) : val B xs = val B (xs.take k) + B ^ k * val B (xs.drop k) := by
  by_cases h : k ≤ xs.length
  · exact val_take_drop B xs k h
  · rw [List.take_of_length_le (by omega), List.drop_of_length_le (by omega)]; simp

theorem val_take_lt0 {B : Nat} (hB : 0 < B) (xs : List Nat) (hx : ∀ x ∈ xs, x < B) (k : Nat) : val B (xs.take k) < B ^ k := by
  refine Nat.lt_of_lt_of_le (val_lt B _ fun x h => hx x (List.mem_of_mem_take h)) (Nat.pow_le_pow_right hB ?_)
  simp; omega

/-- The uppermost three digits tell of a number. -/
theorem top3 {B : Nat} (hB : 0 < B) (xs : List Nat) (hx : ∀ x ∈ xs, x < B) (m : Nat) (h0 : val B (xs.drop (m + 3)) = 0) :
    ((dg xs (m + 2) * B + dg xs (m + 1)) * B + dg xs m) * B ^ m ≤ val B xs ∧ val B xs < ((dg xs (m + 2) * B + dg xs (m + 1)) * B + dg xs m + 1) * B ^ m := by
  have h1 := val_take_drop0 B xs m
  have h2 := val_take_lt0 hB xs hx m
  have e : val B (xs.drop m) = (dg xs (m + 2) * B + dg xs (m + 1)) * B + dg xs m := by
    rw [val_drop0 B xs m, val_drop0 B xs (m + 1), val_drop0 B xs (m + 2), h0]; grind
  rw [e] at h1
  generalize (dg xs (m + 2) * B + dg xs (m + 1)) * B + dg xs m = T at *
  rw [h1, Nat.mul_comm T, Nat.mul_comm (T + 1), Nat.mul_add]
  omega

structure DivRel (A V n : Nat) (U Q : List Nat) (k : Nat) : Prop where
  dU : ∀ x ∈ U, x < B32
  dQ : ∀ x ∈ Q, x < B32
  len : U.length = Q.length + n
  top : val B32 (U.drop k) < V
  sum : val B32 U + val B32 Q * V = A
  zero : ∀ i, i < k → dg Q i = 0

theorem DivRel.start {A V n : Nat} {U : List Nat} (hU : ∀ x ∈ U, x < B32) (hn : n ≤ U.length) (h1 : 1 ≤ n) (hA : val B32 U = A) (hlt : A < B32 ^ (U.length - 1)) (hV : B32 ^ (n - 1) ≤ V) :
    DivRel A V n U (List.replicate (U.length - n) 0) (U.length - n) := by
  refine ⟨hU, fun x hx => by rw [(List.mem_replicate.1 hx).2]; exact B32_pos, by simp; omega, ?_, by rw [val_replicate, hA]; simp, fun i _ => dg_replicate _ _⟩
  have h := val_take_drop B32 U (U.length - n) (by omega)
  have e : B32 ^ (U.length - 1) = B32 ^ (U.length - n) * B32 ^ (n - 1) := by rw [← Nat.pow_add]; congr 1; omega
  have h2 : B32 ^ (U.length - n) * val B32 (U.drop (U.length - n)) < B32 ^ (U.length - n) * B32 ^ (n - 1) := by omega
  have := Nat.lt_of_mul_lt_mul_left h2
  omega

theorem DivRel.win {A V n : Nat} {U Q : List Nat} {j : Nat} (h : DivRel A V n U Q (j + 1)) : val B32 (U.drop j) < B32 * V := by
  rw [val_drop0]
  have h1 := getD_lt B32_pos U h.dU j
  have h2 := h.top
  have h3 : B32 * (val B32 (U.drop (j + 1)) + 1) ≤ B32 * V := Nat.mul_le_mul_left _ h2
  rw [Nat.mul_add] at h3
  omega

theorem DivRel.done {A V n : Nat} {U Q : List Nat} (h : DivRel A V n U Q 0) : val B32 Q = A / V ∧ val B32 U = A % V := by
  have h1 := h.top
  have h2 := h.sum
  rw [List.drop_zero] at h1
  have hV : 0 < V := by omega
  have e1 : A = val B32 U + V * val B32 Q := by rw [← h2, Nat.mul_comm V]
  constructor
  · rw [e1, Nat.add_mul_div_left _ _ hV, Nat.div_eq_of_lt h1]; omega
  · rw [e1, Nat.add_mul_mod_self_left, Nat.mod_eq_of_lt h1]

/-- What stands fast in a round. -/
structure Knuth (ys U : List Nat) (m j : Nat) : Prop where
  dy : ∀ x ∈ ys, x < B32
  dU : ∀ x ∈ U, x < B32
  ly : ys.length = m + 2
  big : 2147483648 ≤ dg ys (m + 1)
  win : val B32 (U.drop j) < B32 * val B32 ys

theorem Knuth.v {ys U : List Nat} {m j : Nat} (h : Knuth ys U m j) : (dg ys (m + 1) * B32 + dg ys m) * B32 ^ m ≤ val B32 ys ∧ val B32 ys < (dg ys (m + 1) * B32 + dg ys m + 1) * B32 ^ m := by
  have h1 := top3 B32_pos ys h.dy m (by rw [List.drop_of_length_le (by have := h.ly; omega)]; rfl)
  rw [dg_of_ge (show ys.length ≤ m + 2 by have := h.ly; omega)] at h1
  simpa using h1

theorem Knuth.lt {ys U : List Nat} {m j : Nat} (h : Knuth ys U m j) : val B32 (U.drop j) < B32 ^ (m + 3) := by
  have h1 := h.win
  have h2 := val_lt B32 ys h.dy
  rw [h.ly] at h2
  have h3 : B32 * val B32 ys ≤ B32 * B32 ^ (m + 2) := Nat.mul_le_mul_left _ (Nat.le_of_lt h2)
  rw [Nat.pow_succ, Nat.mul_comm]
  omega

theorem drop_zero_of_lt {B : Nat} {xs : List Nat} {k : Nat} (h : val B xs < B ^ k) : val B (xs.drop k) = 0 := by
  have h1 := val_take_drop0 B xs k
  rcases Nat.eq_zero_or_pos (val B (xs.drop k)) with h2 | h2
  · exact h2
  · have := Nat.mul_le_mul_left (B ^ k) h2
    omega

theorem Knuth.z {ys U : List Nat} {m j : Nat} (h : Knuth ys U m j) : val B32 ((U.drop j).drop (m + 3)) = 0 := drop_zero_of_lt h.lt

theorem Knuth.w {ys U : List Nat} {m j : Nat} (h : Knuth ys U m j) :
    ((dg U (j + m + 2) * B32 + dg U (j + m + 1)) * B32 + dg U (j + m)) * B32 ^ m ≤ val B32 (U.drop j) ∧ val B32 (U.drop j) < ((dg U (j + m + 2) * B32 + dg U (j + m + 1)) * B32 + dg U (j + m) + 1) * B32 ^ m := by
  have h1 := top3 B32_pos (U.drop j) (fun x hx => h.dU x (List.mem_of_mem_drop hx)) m h.z
  simp only [dg_drop] at h1
  rw [show j + (m + 2) = j + m + 2 by omega, show j + (m + 1) = j + m + 1 by omega] at h1
  exact h1

theorem Knuth.pos {ys U : List Nat} {m j : Nat} (h : Knuth ys U m j) : 0 < val B32 ys := by have := h.win; rcases Nat.eq_zero_or_pos (val B32 ys) with h0 | h0; (rw [h0] at this; omega); exact h0

theorem Knuth.q_lt {ys U : List Nat} {m j : Nat} (h : Knuth ys U m j) : val B32 (U.drop j) / val B32 ys < B32 := by
  rw [Nat.div_lt_iff_lt_mul h.pos]; exact h.win

theorem Knuth.two_lt {ys U : List Nat} {m j : Nat} (h : Knuth ys U m j) : dg U (j + m + 2) * B32 + dg U (j + m + 1) < (dg ys (m + 1) + 1) * B32 := by
  have h1 := h.w.1
  have h2 := h.win
  have h3 := h.v.2
  have h4 := getD_lt B32_pos ys h.dy m
  generalize dg U (j + m + 2) * B32 + dg U (j + m + 1) = two at *
  generalize dg ys (m + 1) = top at *
  have h5 : (top * B32 + dg ys m + 1) * B32 ^ m ≤ ((top + 1) * B32) * B32 ^ m := Nat.mul_le_mul_right _ (by rw [Nat.add_mul]; omega)
  have h6 : B32 * val B32 ys < B32 * (((top + 1) * B32) * B32 ^ m) := Nat.mul_lt_mul_of_pos_left (by omega) B32_pos
  have h7 : (two * B32) * B32 ^ m ≤ (two * B32 + dg U (j + m)) * B32 ^ m := Nat.mul_le_mul_right _ (by omega)
  have h8 : two * (B32 * B32 ^ m) < ((top + 1) * B32) * (B32 * B32 ^ m) := by
    have e1 : (two * B32) * B32 ^ m = two * (B32 * B32 ^ m) := Nat.mul_assoc _ _ _
    have e2 : B32 * (((top + 1) * B32) * B32 ^ m) = ((top + 1) * B32) * (B32 * B32 ^ m) := by rw [Nat.mul_left_comm]
    omega
  exact Nat.lt_of_mul_lt_mul_right h8

/-- The trial digit and what is left. -/
structure Trial (ys U : List Nat) (m j t r : Nat) : Prop where
  eq : t * dg ys (m + 1) + r = dg U (j + m + 2) * B32 + dg U (j + m + 1)
  ge : val B32 (U.drop j) / val B32 ys ≤ t

theorem Knuth.start {ys U : List Nat} {m j : Nat} (h : Knuth ys U m j) (two : Nat) (h2 : two = dg U (j + m + 2) * B32 + dg U (j + m + 1)) :
    Trial ys U m j (two / dg ys (m + 1)) (two % dg ys (m + 1)) := by
  have hb := h.big
  refine ⟨by rw [← h2, Nat.mul_comm, Nat.div_add_mod], ?_⟩
  rw [Nat.le_div_iff_mul_le (by omega)]
  have h3 := h.v.1
  have h4 := h.w.2
  rw [← h2] at h4
  have h5 := getD_lt B32_pos U h.dU (j + m)
  have h6 : (dg ys (m + 1) * (B32 * B32 ^ m)) ≤ val B32 ys := by
    refine Nat.le_trans ?_ h3
    rw [← Nat.mul_assoc]
    exact Nat.mul_le_mul_right _ (by omega)
  have h7 : val B32 (U.drop j) < (two + 1) * (B32 * B32 ^ m) := by
    refine Nat.lt_of_lt_of_le h4 ?_
    rw [← Nat.mul_assoc]
    exact Nat.mul_le_mul_right _ (by rw [Nat.add_mul]; omega)
  exact trial_ge h6 h7 (Nat.div_mul_le_self _ _)

theorem Trial.down {ys U : List Nat} {m j t r : Nat} (h : Trial ys U m j t r) (k : Knuth ys U m j) (hc : B32 ≤ t ∨ r * B32 + dg U (j + m) < t * dg ys m) :
    0 < t ∧ Trial ys U m j (t - 1) (r + dg ys (m + 1)) := by
  have hq := k.q_lt
  have h0 : 0 < t := by
    rcases hc with hc | hc
    · have := B32_pos; omega
    · rcases Nat.eq_zero_or_pos t with h0 | h0
      · subst h0; simp at hc
      · exact h0
  have hne : val B32 (U.drop j) / val B32 ys ≠ t := by
    rcases hc with hc | hc
    · omega
    · exact trial_down k.v.1 k.w.2 (Nat.div_mul_le_self _ _) h.eq hc
  refine ⟨h0, ?_, by have := h.ge; omega⟩
  have e := h.eq
  obtain ⟨u, rfl⟩ : ∃ u, t = u + 1 := ⟨t - 1, by omega⟩
  rw [Nat.add_mul] at e
  simp only [Nat.add_sub_cancel]
  omega

theorem lt_succ_div (w v : Nat) (hv : 0 < v) : w < (w / v + 1) * v := by
  have h1 := Nat.div_add_mod w v
  have h2 := Nat.mod_lt w hv
  rw [Nat.add_mul, Nat.one_mul, Nat.mul_comm (w / v) v]
  omega

/-- Where the inner loop is left the trial digit is right, or one too great. -/
theorem Trial.exit {ys U : List Nat} {m j t r : Nat} (h : Trial ys U m j t r) (k : Knuth ys U m j) (h1 : t < B32) (hc : t * dg ys m ≤ r * B32 + dg U (j + m)) :
    t ≤ val B32 (U.drop j) / val B32 ys + 1 := by
  have hb := k.big
  refine trial_le (B := B32) k.v.2 k.w.1 (lt_succ_div _ _ k.pos) h.eq hc ?_
  refine Nat.le_trans ?_ k.v.1
  refine Nat.mul_le_mul_right _ ?_
  have : 1 * B32 ≤ dg ys (m + 1) * B32 := Nat.mul_le_mul_right _ (by omega)
  omega

theorem Trial.breaks {ys U : List Nat} {m j t r : Nat} (h : Trial ys U m j t r) (k : Knuth ys U m j) (hr : B32 ≤ r) : t < B32 ∧ t * dg ys m ≤ r * B32 + dg U (j + m) := by
  have h2 := k.two_lt
  have h1 : t < B32 := by
    rcases Nat.lt_or_ge t B32 with h3 | h3
    · exact h3
    · have h4 := Nat.mul_le_mul_right (dg ys (m + 1)) h3
      have := h.eq
      rw [Nat.add_mul, Nat.one_mul, Nat.mul_comm (dg ys (m + 1)) B32] at h2
      omega
  refine ⟨h1, ?_⟩
  have h3 := getD_lt B32_pos ys k.dy m
  have h4 : t * dg ys m ≤ B32 * B32 := Nat.mul_le_mul (by omega) (by omega)
  have h5 := Nat.mul_le_mul_right B32 hr
  omega

theorem Trial.bound {ys U : List Nat} {m j t r : Nat} (h : Trial ys U m j t r) (k : Knuth ys U m j) : t ≤ B32 + 2 := by
  have h1 := h.eq
  have h2 := k.two_lt
  have hb := k.big
  rcases Nat.lt_or_ge t (B32 + 3) with h3 | h3
  · omega
  · have h4 := Nat.mul_le_mul_right (dg ys (m + 1)) h3
    rw [Nat.add_mul, Nat.one_mul] at h2
    rw [Nat.add_mul] at h4
    rw [Nat.mul_comm (dg ys (m + 1)) B32] at h2
    have h5 : B32 = 4294967296 := rfl
    omega

/-- A row's upper part, where a window of it was changed. -/
theorem win_eq {L U : List Nat} {j n x br : Nat} (hw : WinOut L U j n) (hv : val B32 L + B32 ^ j * x = val B32 U + br * B32 ^ (j + n)) :
    val B32 (L.drop j) + x = val B32 (U.drop j) + br * B32 ^ n := by
  have h1 := val_take_drop0 B32 L j
  have h2 := val_take_drop0 B32 U j
  have h3 : L.take j = U.take j := take_eq_of hw.2.1 fun k hk => hw.2.2 k (.inl hk)
  rw [h3] at h1
  rw [Nat.pow_add] at hv
  have h4 : B32 ^ j * (val B32 (L.drop j) + x) = B32 ^ j * (val B32 (U.drop j) + br * B32 ^ n) := by
    rw [Nat.mul_add, Nat.mul_add]
    have : br * (B32 ^ j * B32 ^ n) = B32 ^ j * (br * B32 ^ n) := Nat.mul_left_comm _ _ _
    omega
  exact Nat.eq_of_mul_eq_mul_left (Nat.pow_pos B32_pos) h4

theorem drop_eq_win {L U : List Nat} {j n : Nat} (hw : WinOut L U j n) : L.drop (j + n) = U.drop (j + n) := by
  apply list_ext_dg
  · simp [hw.2.1]
  · intro k _
    rw [dg_drop, dg_drop]
    exact hw.2.2 _ (.inr (by omega))

theorem win_lt {L U : List Nat} {j n : Nat} (hw : WinOut L U j n) (hz : val B32 ((U.drop j).drop n) = 0) : val B32 (L.drop j) < B32 ^ n := by
  have h1 := val_take_drop0 B32 (L.drop j) n
  rw [List.drop_drop] at hz h1
  rw [drop_eq_win hw, hz] at h1
  have h2 := val_take_lt0 B32_pos (L.drop j) (fun x hx => hw.1 x (List.mem_of_mem_drop hx)) n
  omega

/-- The digit that is found is laid down. -/
theorem DivRel.next {A V n : Nat} {U Q L : List Nat} {j q : Nat} (h : DivRel A V n U Q (j + 1)) (hj : j < Q.length) (hw : WinOut L U j (n + 1)) (hq : q < B32)
    (hv : val B32 (L.drop j) + q * V = val B32 (U.drop j)) (hlt : val B32 (L.drop j) < V) : DivRel A V n L (Q.set j q) j := by
  refine ⟨hw.1, set_lt Q h.dQ j q hq, by rw [hw.2.1, List.length_set]; exact h.len, hlt, ?_, fun i hi => ?_⟩
  · have h1 := val_take_drop0 B32 L j
    have h2 := val_take_drop0 B32 U j
    have h3 : L.take j = U.take j := take_eq_of hw.2.1 fun k hk => hw.2.2 k (.inl hk)
    rw [h3] at h1
    have h4 := val_set B32 Q j q hj
    rw [h.zero j (by omega)] at h4
    have h5 : val B32 (Q.set j q) = val B32 Q + B32 ^ j * q := by omega
    have h6 := h.sum
    rw [h5, h1]
    rw [h2, ← hv] at h6
    rw [← h6]
    grind
  · rw [dg_set_ne (by omega)]
    exact h.zero i (by omega)

theorem DivRel.even {A m : Nat} {ys U Q L : List Nat} {j t r : Nat} (h : DivRel A (val B32 ys) (m + 2) U Q (j + 1)) (k : Knuth ys U m j) (ht : Trial ys U m j t r) (hj : j < Q.length) (hB : t < B32)
    (hw : WinOut L U j (m + 3)) (hv : val B32 L + B32 ^ j * (t * val B32 ys) = val B32 U + 0 * B32 ^ (j + (m + 3))) : DivRel A (val B32 ys) (m + 2) L (Q.set j t) j := by
  have h1 := win_eq hw hv
  rw [Nat.zero_mul, Nat.add_zero] at h1
  refine h.next hj hw hB h1 ?_
  have h2 := ht.ge
  have h3 := lt_succ_div (val B32 (U.drop j)) (val B32 ys) k.pos
  have h4 : (val B32 (U.drop j) / val B32 ys + 1) * val B32 ys ≤ (t + 1) * val B32 ys := Nat.mul_le_mul_right _ (by omega)
  rw [Nat.add_mul t, Nat.one_mul] at h4
  omega

theorem DivRel.owed {A m : Nat} {ys U Q L M : List Nat} {j t r co : Nat} (h : DivRel A (val B32 ys) (m + 2) U Q (j + 1)) (k : Knuth ys U m j) (_ : Trial ys U m j t r) (he : t ≤ val B32 (U.drop j) / val B32 ys + 1) (hj : j < Q.length) (hB : t < B32)
    (hw : WinOut L U j (m + 3)) (hv : val B32 L + B32 ^ j * (t * val B32 ys) = val B32 U + 1 * B32 ^ (j + (m + 3)))
    (hw2 : WinOut M L j (m + 3)) (hv2 : val B32 M + co * B32 ^ (j + (m + 3)) = val B32 L + B32 ^ j * val B32 ys) : 0 < t ∧ DivRel A (val B32 ys) (m + 2) M (Q.set j (t - 1)) j := by
  have h1 := win_eq hw hv
  have hwM : WinOut M U j (m + 3) := ⟨hw2.1, hw2.2.1.trans hw.2.1, fun i hi => (hw2.2.2 i hi).trans (hw.2.2 i hi)⟩
  have hl1 := win_lt hw k.z
  have hl2 := win_lt hwM k.z
  have h3 : val B32 (M.drop j) + co * B32 ^ (m + 3) = val B32 (L.drop j) + val B32 ys := by
    have e1 := val_take_drop0 B32 L j
    have e2 := val_take_drop0 B32 M j
    have e3 : M.take j = L.take j := take_eq_of hw2.2.1 fun k hk => hw2.2.2 k (.inl hk)
    rw [e3] at e2
    rw [Nat.pow_add] at hv2
    have e4 : B32 ^ j * (val B32 (M.drop j) + co * B32 ^ (m + 3)) = B32 ^ j * (val B32 (L.drop j) + val B32 ys) := by
      rw [Nat.mul_add, Nat.mul_add]
      have : co * (B32 ^ j * B32 ^ (m + 3)) = B32 ^ j * (co * B32 ^ (m + 3)) := Nat.mul_left_comm _ _ _
      omega
    exact Nat.eq_of_mul_eq_mul_left (Nat.pow_pos B32_pos) e4
  have hp := k.pos
  generalize hW : val B32 (U.drop j) = W at *
  generalize hV : val B32 ys = V at *
  generalize hP : B32 ^ (m + 3) = P at *
  have g1 : W < t * V := by omega
  have g2 : W / V < t := (Nat.div_lt_iff_lt_mul hp).2 g1
  have g4 := Nat.div_add_mod W V
  generalize W / V = wq at *
  obtain ⟨q, rfl⟩ : ∃ q, t = q + 1 := ⟨t - 1, by omega⟩
  have g3 : wq = q := by omega
  have g5 := Nat.mod_lt W hp
  rw [g3, Nat.mul_comm V q] at g4
  rw [Nat.add_mul, Nat.one_mul, Nat.one_mul] at h1
  have g6 : val B32 (M.drop j) + co * P = W % V + P := by omega
  have g7 : W < P := by rw [← hP, ← hW]; exact k.lt
  have g8 : W % V ≤ W := Nat.mod_le _ _
  have g9 : co = 1 := by
    rcases Nat.lt_trichotomy co 1 with c | c | c
    · have : co = 0 := by omega
      subst this; omega
    · exact c
    · have := Nat.mul_le_mul_right P c
      omega
  subst g9
  rw [Nat.one_mul] at g6
  have g10 : val B32 (M.drop j) = W % V := by omega
  refine ⟨by omega, ?_⟩
  simp only [Nat.add_sub_cancel]
  exact h.next hj hwM (by omega) (by omega) (by omega)

theorem MoreW.last {L X ys : List Nat} {j cr : Nat} (h : MoreW L X ys j ys.length cr) (hj : j + ys.length < X.length) :
    WinOut (L.set (j + ys.length) ((dg L (j + ys.length) + cr) % 4294967296)) X j (ys.length + 1) ∧
      val B32 (L.set (j + ys.length) ((dg L (j + ys.length) + cr) % 4294967296)) + ((dg L (j + ys.length) + cr) / 4294967296) * B32 ^ (j + (ys.length + 1)) = val B32 X + B32 ^ j * val B32 ys := by
  obtain ⟨h1, h2⟩ := h
  have hx : dg L (j + ys.length) = dg X (j + ys.length) := h1.2.2 _ (.inr (Nat.le_refl _))
  have hw := h1.step (v := (dg L (j + ys.length) + cr) % 4294967296) (Nat.mod_lt _ (by omega))
  refine ⟨hw, ?_⟩
  rw [List.take_length] at h2
  rw [hx] at hw ⊢
  have hd : (L.set (j + ys.length) ((dg X (j + ys.length) + cr) % 4294967296)).drop (j + ys.length + 1) = X.drop (j + ys.length + 1) := by
    apply list_ext_dg
    · simp [h1.2.1]
    · intro k hk
      rw [dg_drop, dg_drop]
      exact hw.2.2 _ (.inr (by omega))
  rw [val_take_drop B32 _ (j + ys.length + 1) (by rw [hw.2.1]; omega), val_take_drop B32 X (j + ys.length + 1) (by omega), hd]
  rw [val_take_succ, take_set_same, dg_set_same (by rw [h1.2.1]; exact hj), val_take_succ]
  have e2 := Nat.div_add_mod (dg X (j + ys.length) + cr) 4294967296
  rw [show (4294967296 : Nat) = B32 from rfl] at *
  generalize (dg X (j + ys.length) + cr) % B32 = pl at *
  generalize (dg X (j + ys.length) + cr) / B32 = ph at *
  generalize dg X (j + ys.length) = x at *
  generalize val B32 (X.drop (j + ys.length + 1)) = u at *
  generalize val B32 (L.take (j + ys.length)) = vl at *
  generalize val B32 (X.take (j + ys.length)) = vx at *
  rw [show j + (ys.length + 1) = j + ys.length + 1 by omega, Nat.pow_succ]
  generalize B32 ^ (j + ys.length) = P at *
  have e4 : P * (B32 * ph + pl) = P * (x + cr) := by rw [e2]
  grind

end Go.Slip

namespace Go.Slip

/-- The digit that is looked for lies between what the uppermost digits tell, and one more. -/
theorem into_trial {B P b rest : Nat} (hP : 0 < P) (hu : B ≤ b / P) (hr : rest < b * B) :
    rest / P / (b / P + 1) ≤ rest / b ∧ rest / b ≤ rest / P / (b / P + 1) + 1 := by
  have hb : 0 < b := by
    rcases Nat.eq_zero_or_pos b with h | h
    · subst h; omega
    · exact h
  have h1 := lt_succ_div rest b hb
  have h2 := lt_succ_div b P hP
  have h3 := Nat.div_mul_le_self rest P
  have h4 := lt_succ_div rest P hP
  have h5 := Nat.div_mul_le_self b P
  have h6 := Nat.div_mul_le_self rest b
  have hd : rest / b < B := by rw [Nat.div_lt_iff_lt_mul hb, Nat.mul_comm]; exact hr
  generalize rest / b = d at *
  generalize rest / P = top at *
  generalize b / P = under at *
  constructor
  · have h7 : (d + 1) * b ≤ (d + 1) * ((under + 1) * P) := Nat.mul_le_mul_left _ (Nat.le_of_lt h2)
    have h8 : top * P < ((d + 1) * (under + 1)) * P := by rw [Nat.mul_assoc]; omega
    have h9 := Nat.lt_of_mul_lt_mul_right h8
    have : top / (under + 1) < d + 1 := (Nat.div_lt_iff_lt_mul (by omega)).2 h9
    omega
  · have h7 : d * (under * P) ≤ d * b := Nat.mul_le_mul_left _ h5
    have h8 : (d * under) * P < (top + 1) * P := by rw [Nat.mul_assoc]; omega
    have h9 := Nat.lt_of_mul_lt_mul_right h8
    have h10 := lt_succ_div top (under + 1) (by omega)
    generalize top / (under + 1) = x at *
    rcases Nat.lt_or_ge d (x + 2) with h11 | h11
    · omega
    · exfalso
      obtain ⟨k, rfl⟩ : ∃ k, d = x + 2 + k := ⟨d - (x + 2), by omega⟩
      have h12 : (x + 2) * under ≤ (x + 2 + k) * under := Nat.mul_le_mul_right _ (by omega)
      have h13 : (x + 1) * (under + 1) = (x + 2) * under + (x + 1) - under := by grind
      omega

theorem set_same (L : List Nat) (k : Nat) (h : dg L k = 0) : L.set k 0 = L := by
  apply list_ext_dg
  · simp
  · intro t ht
    by_cases hk : k = t
    · subst hk
      rw [dg_set_same (by simpa using ht), h]
    · rw [dg_set_ne hk]

/-- The round of a division that begins with a digit more. -/
theorem SmallRel.push {B : Nat} {L xs : List Nat} {d k r : Nat} (h : SmallRel B L xs d (k + 1) r) (hx : dg xs k < B) : dg xs k + B * r < d * B := by
  have h1 : (r + 1) * B ≤ d * B := Nat.mul_le_mul_right _ h.2.1
  rw [Nat.add_mul, Nat.one_mul] at h1
  rw [Nat.mul_comm B r]; omega

/-! ### powers -/
theorem dig_len_pow_le {B : Nat} (hB : 2 ≤ B) (a k : Nat) : (dig B (a ^ k)).length ≤ k * (dig B a).length + 1 := by
  induction k with
  | zero =>
    rw [Nat.pow_zero, dig_len_le hB]; simp; omega
  | succ k ih =>
    rcases Nat.eq_zero_or_pos k with h0 | h0
    · subst h0; simp
    · rw [Nat.pow_succ]
      refine Nat.le_trans (dig_len_mul hB _ _) ?_
      rw [Nat.add_mul, Nat.one_mul]; omega

/-- One on the tangent is below the power. -/
theorem tangent (k t x : Nat) : ((k + 1) * t) * x ^ k ≤ t ^ (k + 1) + k * x ^ (k + 1) := by
  induction k with
  | zero => simp
  | succ k ih =>
    have h1 := Nat.mul_le_mul_right t ih
    have h2 : 2 * t * x ≤ t * t + x * x := by
      rcases Nat.le_total t x with h | h
      · obtain ⟨u, rfl⟩ : ∃ u, x = t + u := ⟨x - t, by omega⟩
        grind
      · obtain ⟨u, rfl⟩ : ∃ u, t = x + u := ⟨t - x, by omega⟩
        grind
    have h3 := Nat.mul_le_mul_left ((k + 1) * x ^ k) h2
    have e1 : t ^ (k + 1 + 1) = t ^ (k + 1) * t := Nat.pow_succ _ _
    have e2 : x ^ (k + 1 + 1) = x ^ k * x * x := by rw [Nat.pow_succ, Nat.pow_succ]
    have e3 : x ^ (k + 1) = x ^ k * x := Nat.pow_succ _ _
    rw [e1, e2]
    rw [e3] at h1 ⊢
    generalize t ^ (k + 1) = T at *
    generalize x ^ k = X at *
    grind

/-- A mean is not below the root. -/
theorem newton_above {a k x y : Nat} (hx : 0 < x) (hy : y = (x * k + a / x ^ k) / (k + 1)) : a < (y + 1) ^ (k + 1) := by
  have hP : 0 < x ^ k := Nat.pow_pos hx
  have h1 := lt_succ_div a (x ^ k) hP
  have h2 := lt_succ_div (x * k + a / x ^ k) (k + 1) (by omega)
  rw [← hy] at h2
  have h3 := tangent k (y + 1) x
  generalize a / x ^ k = q at *
  have e3 : x ^ (k + 1) = x ^ k * x := Nat.pow_succ _ _
  rw [e3] at h3
  generalize x ^ k = X at *
  have h4 : (q + 1 + x * k) * X ≤ ((k + 1) * (y + 1)) * X := Nat.mul_le_mul_right _ (by rw [Nat.mul_comm (k + 1)]; omega)
  have e4 : (q + 1 + x * k) * X = (q + 1) * X + k * (X * x) := by grind
  omega

/-- Where a mean is no less it is the root. -/
theorem newton_stop {a k x y : Nat} (hx : 0 < x) (hy : y = (x * k + a / x ^ k) / (k + 1)) (h : x ≤ y) : x ^ (k + 1) ≤ a := by
  have hP : 0 < x ^ k := Nat.pow_pos hx
  have h1 := Nat.div_mul_le_self a (x ^ k)
  have h2 := Nat.div_mul_le_self (x * k + a / x ^ k) (k + 1)
  rw [← hy] at h2
  generalize a / x ^ k = q at *
  rw [Nat.pow_succ]
  generalize x ^ k = X at *
  have h3 : x * (k + 1) ≤ y * (k + 1) := Nat.mul_le_mul_right _ h
  have h4 : x ≤ q := by rw [Nat.mul_add] at h3; omega
  have h5 := Nat.mul_le_mul_right X h4
  rw [Nat.mul_comm X x]; omega

theorem blen_shift {m : Nat} (h : 0 < m) (k : Nat) : blen (m * 2 ^ k) = blen m + k := by
  have h1 := blen_pow m h
  have h2 := (blen_le m (blen m)).1 (Nat.le_refl _)
  have h3 := (blen_pos m).2 h
  have e : blen m + k = (blen m - 1 + k) + 1 := by omega
  rw [e]
  refine blen_eq ?_ ?_
  · rw [Nat.pow_add]; exact Nat.mul_le_mul_right _ h1
  · rw [show blen m - 1 + k + 1 = blen m + k by omega, Nat.pow_add]
    exact Nat.mul_lt_mul_of_pos_right h2 (Nat.pow_pos (by omega))


/-- So many bits up, the uppermost digit has its uppermost bit set. -/
theorem norm_top {b s : Nat} (h : 0 < b) (hs : s + blen (dg (dig B32 b) ((dig B32 b).length - 1)) = 32) :
    (dig B32 (b * 2 ^ s)).length = (dig B32 b).length ∧ 2147483648 ≤ dg (dig B32 (b * 2 ^ s)) ((dig B32 b).length - 1) := by
  obtain ⟨h1, h2⟩ := blen_dig (B := B32) (s := 32) (by decide) B32_two b h
  have hl0 : 0 < (dig B32 b).length := List.length_pos_iff.2 ((dig_spec B32_two b).2.2.2 h)
  have h3 := blen_shift h s
  have hV : 0 < b * 2 ^ s := Nat.mul_pos h (Nat.pow_pos (by omega))
  obtain ⟨k1, k2⟩ := blen_dig (B := B32) (s := 32) (by decide) B32_two (b * 2 ^ s) hV
  have k0 : 0 < (dig B32 (b * 2 ^ s)).length := List.length_pos_iff.2 ((dig_spec B32_two _).2.2.2 hV)
  have k3 := getD_lt B32_pos _ (dig_lt B32_two (b * 2 ^ s)) ((dig B32 (b * 2 ^ s)).length - 1)
  have k3' : dg (dig B32 (b * 2 ^ s)) ((dig B32 (b * 2 ^ s)).length - 1) < 4294967296 := k3
  have k4 := (blen_le (dg (dig B32 (b * 2 ^ s)) ((dig B32 (b * 2 ^ s)).length - 1)) 32).2 (by omega)
  have k5 := (blen_pos _).2 k2
  have hl : (dig B32 (b * 2 ^ s)).length = (dig B32 b).length := by omega
  refine ⟨hl, ?_⟩
  rw [hl] at k1 k2 k4 k5
  have k6 : blen (dg (dig B32 (b * 2 ^ s)) ((dig B32 b).length - 1)) = 32 := by omega
  have := blen_pow _ k2
  rw [k6] at this
  omega

theorem root_start {a k : Nat} (n : Nat) (hn : blen a ≤ n * (k + 1)) : a < (2 ^ n + 1) ^ (k + 1) := by
  have h1 := (blen_le a _).1 hn
  rw [Nat.pow_mul] at h1
  exact Nat.lt_of_lt_of_le h1 (Nat.pow_le_pow_left (by omega) _)

end Go.Slip
