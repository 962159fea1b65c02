/- Plain arithmetic of digit lists: what a list of digits to a base stands for, and the one list without noughts behind that stands for a number. No program is in sight here. -/
import Init
namespace Go.Slip

/-- What a list of digits to the base B, the lowest first, stands for. -/
def val (B : Nat) : List Nat → Nat
  | [] => 0
  | x :: xs => x + B * val B xs

/-- Digit number i; 0 behind the end. -/
def dg (xs : List Nat) (i : Nat) : Nat := xs[i]?.getD 0

theorem dg_of_ge {xs : List Nat} {i : Nat} (h : xs.length ≤ i) : dg xs i = 0 := by unfold dg; rw [List.getElem?_eq_none h]; rfl
theorem dg_of_lt {xs : List Nat} {i : Nat} (h : i < xs.length) : dg xs i = xs[i] := by unfold dg; simp [h]
theorem dg_take {xs : List Nat} {i n : Nat} (h : i < n) : dg (xs.take n) i = dg xs i := by unfold dg; simp [h]
theorem dg_drop {xs : List Nat} {i n : Nat} : dg (xs.drop n) i = dg xs (n + i) := by unfold dg; simp
theorem dg_set_same {xs : List Nat} {i v : Nat} (h : i < xs.length) : dg (xs.set i v) i = v := by unfold dg; simp [h]
theorem dg_set_ne {xs : List Nat} {i j v : Nat} (h : i ≠ j) : dg (xs.set i v) j = dg xs j := by unfold dg; simp [h]
theorem dg_replicate (n i : Nat) : dg (List.replicate n 0) i = 0 := by unfold dg; by_cases h : i < n <;> simp [h]
theorem dg_append_lt {xs ys : List Nat} {i : Nat} (h : i < xs.length) : dg (xs ++ ys) i = dg xs i := by unfold dg; simp [List.getElem?_append, h]
theorem dg_append_ge {xs ys : List Nat} {i : Nat} (h : xs.length ≤ i) : dg (xs ++ ys) i = dg ys (i - xs.length) := by unfold dg; rw [List.getElem?_append_right h]

@[simp] theorem val_nil (B : Nat) : val B [] = 0 := rfl
@[simp] theorem val_cons (B x : Nat) (xs : List Nat) : val B (x :: xs) = x + B * val B xs := rfl

theorem val_append (B : Nat) (xs ys : List Nat) : val B (xs ++ ys) = val B xs + B ^ xs.length * val B ys := by
  induction xs with
  | nil => simp
  | cons x xs ih => simp only [List.cons_append, val_cons, ih, List.length_cons, Nat.pow_succ]; grind

theorem val_snoc (B : Nat) (xs : List Nat) (y : Nat) : val B (xs ++ [y]) = val B xs + B ^ xs.length * y := by
  rw [val_append]; simp

theorem val_lt (B : Nat) (xs : List Nat) (h : ∀ x ∈ xs, x < B) : val B xs < B ^ xs.length := by
  induction xs with
  | nil => simp
  | cons x xs ih =>
    have h1 := ih (fun y hy => h y (by simp [hy]))
    have h2 := h x (by simp)
    simp only [val_cons, List.length_cons, Nat.pow_succ]
    have h3 : B * val B xs + B ≤ B * B ^ xs.length := by
      have : B * (val B xs + 1) ≤ B * B ^ xs.length := Nat.mul_le_mul_left _ h1
      rw [Nat.mul_add, Nat.mul_one] at this; exact this
    rw [Nat.mul_comm (B ^ xs.length) B]; omega

theorem val_replicate (B n : Nat) : val B (List.replicate n 0) = 0 := by
  induction n with
  | zero => rfl
  | succ n ih => simp [List.replicate_succ, ih]

theorem val_take_drop (B : Nat) (xs : List Nat) (k : Nat) (hk : k ≤ xs.length) : val B xs = val B (xs.take k) + B ^ k * val B (xs.drop k) := by
  conv => lhs; rw [← List.take_append_drop k xs]
  rw [val_append, List.length_take, Nat.min_eq_left hk]

/-- The digits of a number to the base B, the lowest first, the last one not 0. -/
def dig (B : Nat) (n : Nat) : List Nat := if _h : 2 ≤ B ∧ 0 < n then n % B :: dig B (n / B) else []
termination_by n
decreasing_by exact Nat.div_lt_self _h.2 (by omega)

theorem dig_zero (B : Nat) : dig B 0 = [] := by rw [dig]; simp
theorem dig_pos {B n : Nat} (hB : 2 ≤ B) (h : 0 < n) : dig B n = n % B :: dig B (n / B) := by rw [dig, dif_pos ⟨hB, h⟩]

/-- No nought behind. -/
def Tight (xs : List Nat) : Prop := xs.getLast? ≠ some 0

theorem dig_spec {B : Nat} (hB : 2 ≤ B) (n : Nat) : val B (dig B n) = n ∧ (∀ x ∈ dig B n, x < B) ∧ Tight (dig B n) ∧ (0 < n → dig B n ≠ []) := by
  induction n using Nat.strongRecOn with
  | _ n ih =>
    by_cases h : 0 < n
    · obtain ⟨h1, h2, h3, h4⟩ := ih (n / B) (Nat.div_lt_self h (by omega))
      rw [dig_pos hB h]
      refine ⟨?_, ?_, ?_, by simp⟩
      · rw [val_cons, h1]; exact Nat.mod_add_div n B
      · intro x hx
        rcases List.mem_cons.1 hx with rfl | hx
        · exact Nat.mod_lt _ (by omega)
        · exact h2 x hx
      · unfold Tight at *
        by_cases h0 : 0 < n / B
        · have hne := h4 h0
          rw [List.getLast?_cons]
          cases hd : dig B (n / B) with
          | nil => exact absurd hd hne
          | cons y ys => rw [hd] at h3; simpa [List.getLast?_cons] using h3
        · have hz : n / B = 0 := by omega
          rw [hz, dig_zero]
          have : n % B = n := by
            have := Nat.mod_add_div n B; rw [hz] at this; simpa using this
          simp [this]; omega
    · have : n = 0 := by omega
      subst this
      rw [dig_zero]; exact ⟨rfl, by simp, by simp [Tight], by simp⟩

theorem val_dig {B : Nat} (hB : 2 ≤ B) (n : Nat) : val B (dig B n) = n := (dig_spec hB n).1
theorem dig_lt {B : Nat} (hB : 2 ≤ B) (n : Nat) : ∀ x ∈ dig B n, x < B := (dig_spec hB n).2.1
theorem dig_tight {B : Nat} (hB : 2 ≤ B) (n : Nat) : Tight (dig B n) := (dig_spec hB n).2.2.1

theorem val_pos {B : Nat} (hB : 2 ≤ B) : ∀ (xs : List Nat), Tight xs → xs ≠ [] → 0 < val B xs
  | [], _, h => absurd rfl h
  | [x], ht, _ => by
    have : x ≠ 0 := fun e => ht (by simp [e])
    simp; omega
  | x :: y :: ys, ht, _ => by
    have h1 : Tight (y :: ys) := by unfold Tight at *; simpa [List.getLast?_cons] using ht
    have h2 := val_pos hB (y :: ys) h1 (by simp)
    rw [val_cons]
    have := Nat.mul_le_mul hB h2
    omega

theorem Tight.tail {x : Nat} {xs : List Nat} (h : Tight (x :: xs)) : Tight xs := by
  cases xs with
  | nil => simp [Tight]
  | cons y ys => unfold Tight at *; simpa [List.getLast?_cons] using h

theorem dig_val {B : Nat} (hB : 2 ≤ B) : ∀ (xs : List Nat), (∀ x ∈ xs, x < B) → Tight xs → dig B (val B xs) = xs
  | [], _, _ => dig_zero B
  | x :: xs, hx, ht => by
    have h1 := dig_val hB xs (fun y hy => hx y (by simp [hy])) ht.tail
    have h2 := val_pos hB (x :: xs) ht (by simp)
    rw [dig_pos hB h2, val_cons]
    have h3 := hx x (by simp)
    rw [Nat.add_mul_mod_self_left, Nat.mod_eq_of_lt h3, Nat.add_mul_div_left _ _ (by omega), Nat.div_eq_of_lt h3, Nat.zero_add, h1]

theorem dig_eq {B : Nat} (hB : 2 ≤ B) (xs : List Nat) (n : Nat) (hx : ∀ x ∈ xs, x < B) (ht : Tight xs) (h : val B xs = n) : xs = dig B n := by
  rw [← h, dig_val hB xs hx ht]

theorem dig_inj {B : Nat} (hB : 2 ≤ B) {m n : Nat} (h : dig B m = dig B n) : m = n := by
  have := congrArg (val B) h
  rwa [val_dig hB, val_dig hB] at this

theorem dig_len_le {B : Nat} (hB : 2 ≤ B) (n k : Nat) : (dig B n).length ≤ k ↔ n < B ^ k := by
  constructor
  · intro h
    have h1 := val_lt B (dig B n) (dig_lt hB n)
    rw [val_dig hB] at h1
    exact Nat.lt_of_lt_of_le h1 (Nat.pow_le_pow_right (by omega) h)
  · induction k generalizing n with
    | zero => intro h; have : n = 0 := by simpa using h
              subst this; rw [dig_zero]; simp
    | succ k ih =>
      intro h
      by_cases h0 : 0 < n
      · rw [dig_pos hB h0, List.length_cons]
        have := ih (n / B) (by
          rw [Nat.div_lt_iff_lt_mul (by omega)]; rwa [Nat.pow_succ] at h)
        omega
      · have : n = 0 := by omega
        subst this; rw [dig_zero]; simp

theorem dig_len_pow {B : Nat} (hB : 2 ≤ B) (n : Nat) (h : 0 < n) : B ^ ((dig B n).length - 1) ≤ n := by
  rcases Nat.lt_or_ge n (B ^ ((dig B n).length - 1)) with h1 | h1
  · have h2 := (dig_len_le hB n _).2 h1
    have h3 := (dig_spec hB n).2.2.2 h
    have h4 : 0 < (dig B n).length := List.length_pos_iff.2 h3
    omega
  · exact h1

theorem dig_eq_nil {B : Nat} (hB : 2 ≤ B) (n : Nat) : dig B n = [] ↔ n = 0 := by
  constructor
  · intro h
    rcases Nat.eq_zero_or_pos n with h0 | h0
    · exact h0
    · exact absurd h ((dig_spec hB n).2.2.2 h0)
  · rintro rfl; exact dig_zero B

theorem dig_len_zero {B : Nat} (hB : 2 ≤ B) (n : Nat) : (dig B n).length = 0 ↔ n = 0 := by
  rw [List.length_eq_zero_iff, dig_eq_nil hB]

theorem dig_len_mono {B : Nat} (hB : 2 ≤ B) {m n : Nat} (h : m ≤ n) : (dig B m).length ≤ (dig B n).length := by
  rw [dig_len_le hB]
  exact Nat.lt_of_le_of_lt h ((dig_len_le hB n _).1 (Nat.le_refl _))

/-- Noughts behind do not count. -/
theorem val_take_zeros (B : Nat) (xs : List Nat) (m : Nat) (hm : m ≤ xs.length) (h : ∀ j, m ≤ j → dg xs j = 0) : val B (xs.take m) = val B xs := by
  rw [val_take_drop B xs m hm]
  have : val B (xs.drop m) = 0 := by
    have h2 : xs.drop m = List.replicate (xs.length - m) 0 := by
      apply List.ext_getElem?
      intro j
      rw [List.getElem?_drop]
      by_cases hj : m + j < xs.length
      · have := h (m + j) (by omega)
        rw [dg_of_lt hj] at this
        rw [List.getElem?_eq_getElem hj, this, List.getElem?_replicate, if_pos (by omega)]
      · rw [List.getElem?_eq_none (by omega), List.getElem?_eq_none (by simp; omega)]
    rw [h2, val_replicate]
  rw [this]; simp

/-- The digits of what a list stands for are its first ones, down to the last one that is not 0. -/
theorem take_dig {B : Nat} (hB : 2 ≤ B) (xs : List Nat) (m : Nat) (hx : ∀ x ∈ xs, x < B) (hm : m ≤ xs.length) (h : ∀ j, m ≤ j → dg xs j = 0) (ht : m = 0 ∨ dg xs (m - 1) ≠ 0) :
    xs.take m = dig B (val B xs) := by
  refine dig_eq hB _ _ (fun x hxm => hx x (List.mem_of_mem_take hxm)) ?_ (val_take_zeros B xs m hm h)
  unfold Tight
  rcases ht with rfl | ht
  · simp
  · by_cases h0 : m = 0
    · subst h0; simp
    · rw [List.getLast?_eq_getElem?, List.length_take, Nat.min_eq_left hm, List.getElem?_take, if_pos (by omega)]
      intro e; unfold dg at ht; rw [e] at ht; simp at ht

theorem dig_val_len {B : Nat} (hB : 2 ≤ B) (xs : List Nat) (m : Nat) (hx : ∀ x ∈ xs, x < B) (hm : m ≤ xs.length) (h : ∀ j, m ≤ j → dg xs j = 0) (ht : m = 0 ∨ dg xs (m - 1) ≠ 0) :
    (dig B (val B xs)).length = m := by
  rw [← take_dig hB xs m hx hm h ht, List.length_take, Nat.min_eq_left hm]

theorem dig_val_le {B : Nat} (hB : 2 ≤ B) (xs : List Nat) (hx : ∀ x ∈ xs, x < B) : (dig B (val B xs)).length ≤ xs.length := by
  rw [dig_len_le hB]; exact val_lt B xs hx

theorem take_dig_len {B : Nat} (hB : 2 ≤ B) (xs : List Nat) (hx : ∀ x ∈ xs, x < B) : xs.take (dig B (val B xs)).length = dig B (val B xs) := by
  have : ∃ m, m ≤ xs.length ∧ (∀ j, m ≤ j → dg xs j = 0) ∧ (m = 0 ∨ dg xs (m - 1) ≠ 0) := by
    have key : ∀ n, n ≤ xs.length → (∀ j, n ≤ j → dg xs j = 0) → ∃ m, m ≤ xs.length ∧ (∀ j, m ≤ j → dg xs j = 0) ∧ (m = 0 ∨ dg xs (m - 1) ≠ 0) := by
      intro n
      induction n with
      | zero => intro _ h; exact ⟨0, by omega, h, .inl rfl⟩
      | succ n ih =>
        intro hn h
        by_cases h0 : dg xs n = 0
        · refine ih (by omega) fun j hj => ?_
          by_cases hjn : j = n
          · subst hjn; exact h0
          · exact h j (by omega)
        · exact ⟨n + 1, hn, h, .inr h0⟩
    exact key xs.length (Nat.le_refl _) fun j hj => dg_of_ge hj
  obtain ⟨m, h1, h2, h3⟩ := this
  rw [dig_val_len hB xs m hx h1 h2 h3, take_dig hB xs m hx h1 h2 h3]

theorem val_set (B : Nat) : ∀ (xs : List Nat) (j v : Nat), j < xs.length → val B (xs.set j v) + B ^ j * (dg xs j) = val B xs + B ^ j * v
  | [], j, v, h => by simp at h
  | x :: xs, 0, v, _ => by simp [dg]; omega
  | x :: xs, j + 1, v, h => by
    have ih := val_set B xs j v (by simpa using h)
    have e0 : dg (x :: xs) (j + 1) = dg xs j := by simp [dg]
    simp only [List.set_cons_succ, val_cons, e0]
    rw [Nat.pow_succ]
    have e : ∀ t, B ^ j * B * t = B * (B ^ j * t) := fun t => by grind
    rw [e, e]
    have : B * (val B (xs.set j v) + B ^ j * (dg xs j)) = B * (val B xs + B ^ j * v) := by rw [ih]
    rw [Nat.mul_add, Nat.mul_add] at this
    omega

theorem val_take_succ (B : Nat) (xs : List Nat) (i : Nat) : val B (xs.take (i + 1)) = val B (xs.take i) + B ^ i * (dg xs i) := by
  by_cases h : i < xs.length
  · rw [List.take_succ_eq_append_getElem h, val_append, List.length_take, Nat.min_eq_left (by omega), dg_of_lt h]
    simp
  · rw [List.take_of_length_le (by omega), List.take_of_length_le (by omega), dg_of_ge (by omega)]
    simp

theorem val_take_all (B : Nat) (xs : List Nat) (i : Nat) (h : xs.length ≤ i) : val B (xs.take i) = val B xs := by rw [List.take_of_length_le h]

/-- A list is without noughts behind if what it stands for is not too small. -/
theorem tight_of_ge {B : Nat} (xs : List Nat) (hx : ∀ x ∈ xs, x < B) (h : xs = [] ∨ B ^ (xs.length - 1) ≤ val B xs) : Tight xs := by
  rcases h with rfl | h
  · simp [Tight]
  · unfold Tight
    intro h0
    have hne : xs ≠ [] := by rintro rfl; simp at h0
    have hl : 0 < xs.length := List.length_pos_iff.2 hne
    have h1 : dg xs (xs.length - 1) = 0 := by rw [List.getLast?_eq_getElem?] at h0; unfold dg; rw [h0]; rfl
    have h2 := val_take_succ B xs (xs.length - 1)
    rw [show xs.length - 1 + 1 = xs.length by omega, List.take_length, h1] at h2
    have h3 := val_lt B (xs.take (xs.length - 1)) (fun x hxm => hx x (List.mem_of_mem_take hxm))
    rw [List.length_take, Nat.min_eq_left (by omega)] at h3
    omega

theorem getD_lt {B : Nat} (hB : 0 < B) (xs : List Nat) (hx : ∀ x ∈ xs, x < B) (j : Nat) : dg xs j < B := by
  by_cases h : j < xs.length
  · rw [dg_of_lt h]; exact hx _ (List.getElem_mem h)
  · rw [dg_of_ge (by omega)]; exact hB

theorem set_lt {B : Nat} (xs : List Nat) (hx : ∀ x ∈ xs, x < B) (j v : Nat) (hv : v < B) : ∀ x ∈ xs.set j v, x < B := by
  intro x h
  rcases List.mem_or_eq_of_mem_set h with h | rfl
  · exact hx x h
  · exact hv

/-! ### Addition, digit by digit -/
theorem add_step (B : Nat) (L : List Nat) (i d c T : Nat) (hi : i < L.length) (h : val B L + c * B ^ i = T) :
    val B (L.set i ((dg L i + d + c) % B)) + ((dg L i + d + c) / B) * B ^ (i + 1) = T + B ^ i * d := by
  have h1 := val_set B L i ((dg L i + d + c) % B) hi
  have h2 := Nat.div_add_mod (dg L i + d + c) B
  generalize (dg L i + d + c) % B = r at *
  generalize (dg L i + d + c) / B = q at *
  generalize dg L i = x at *
  rw [Nat.pow_succ]
  have h3 : B ^ i * (B * q + r) = B ^ i * (x + d + c) := by rw [h2]
  grind

theorem add_end0 {B : Nat} (hB : 2 ≤ B) (L : List Nat) (a b : Nat) (hx : ∀ x ∈ L, x < B) (hl : L.length = (dig B a).length) (h : val B L = a + b) : L = dig B (a + b) := by
  refine dig_eq hB L _ hx (tight_of_ge L hx ?_) h
  by_cases ha : 0 < a
  · right; rw [h, hl]; have := dig_len_pow hB a ha; omega
  · left
    have : a = 0 := by omega
    subst this
    rw [dig_zero] at hl
    exact List.eq_nil_of_length_eq_zero hl

theorem add_end1 {B : Nat} (hB : 2 ≤ B) (L : List Nat) (c n : Nat) (hx : ∀ x ∈ L, x < B) (hc : 0 < c) (hcB : c < B) (h : val B L + c * B ^ L.length = n) : L ++ [c] = dig B n := by
  refine dig_eq hB _ _ (fun x hm => ?_) ?_ (by rw [val_snoc, Nat.mul_comm]; exact h)
  · rcases List.mem_append.1 hm with h1 | h1
    · exact hx x h1
    · simp at h1; omega
  · unfold Tight; simp; omega

/-! ### Products, digit by digit -/
/-- Within round i, when k digits of the second number have been taken. -/
def MulIn (B : Nat) (L xs ys : List Nat) (i k cr : Nat) : Prop :=
  (∀ x ∈ L, x < B) ∧ (∀ j, i + ys.length ≤ j → dg L j = 0) ∧ val B L + cr * B ^ (i + k) = val B (xs.take i) * val B ys + dg xs i * B ^ i * val B (ys.take k)

/-- Ahead of round i. -/
def MulOut (B : Nat) (L xs ys : List Nat) (i : Nat) : Prop :=
  (∀ x ∈ L, x < B) ∧ (∀ j, i + ys.length ≤ j → dg L j = 0) ∧ val B L = val B (xs.take i) * val B ys

theorem MulOut.start (B : Nat) (hB : 0 < B) (xs ys : List Nat) (n : Nat) : MulOut B (List.replicate n 0) xs ys 0 :=
  ⟨fun x hx => by rw [(List.mem_replicate.1 hx).2]; exact hB, fun j _ => dg_replicate n j, by simp [val_replicate]⟩

theorem MulOut.enter {B : Nat} {L xs ys : List Nat} {i : Nat} (h : MulOut B L xs ys i) : MulIn B L xs ys i 0 0 := ⟨h.1, h.2.1, by rw [h.2.2]; simp⟩

theorem MulIn.step {B : Nat} {L xs ys : List Nat} {i k cr t : Nat} (h : MulIn B L xs ys i k cr) (hB : 0 < B) (hk : k < ys.length) (hj : i + k < L.length) (ht : t = dg xs i * dg ys k + dg L (i + k) + cr) :
    MulIn B (L.set (i + k) (t % B)) xs ys i (k + 1) (t / B) := by
  have e : t = dg L (i + k) + dg xs i * dg ys k + cr := by omega
  refine ⟨set_lt L h.1 _ _ (Nat.mod_lt _ hB), fun j hj2 => ?_, ?_⟩
  · rw [dg_set_ne (by omega)]; exact h.2.1 j hj2
  · have h1 := add_step B L (i + k) (dg xs i * dg ys k) cr _ hj h.2.2
    rw [e, ← Nat.add_assoc i k 1, h1, val_take_succ]
    rw [Nat.pow_add]
    grind

theorem MulIn.carry {B : Nat} {L xs ys : List Nat} {i k cr : Nat} (h : MulIn B L xs ys i k cr) (hc : cr < B) (hx : dg xs i < B) (hy : dg ys k < B) : dg xs i * dg ys k + dg L (i + k) + cr < B * B := by
  have h1 := getD_lt (B := B) (by omega) L h.1 (i + k)
  have h2 : dg xs i * dg ys k ≤ (B - 1) * (B - 1) := Nat.mul_le_mul (by omega) (by omega)
  obtain ⟨b, rfl⟩ : ∃ b, B = b + 1 := ⟨B - 1, by omega⟩
  simp only [Nat.add_sub_cancel] at h2
  have h3 : (b + 1) * (b + 1) = b * b + 2 * b + 1 := by grind
  omega

theorem MulIn.leave {B : Nat} {L xs ys : List Nat} {i k cr : Nat} (h : MulIn B L xs ys i k cr) (hk : k = ys.length) (hj : i + k < L.length) (hc : cr < B) : MulOut B (L.set (i + k) cr) xs ys (i + 1) := by
  subst hk
  refine ⟨set_lt L h.1 _ _ hc, fun j hj2 => ?_, ?_⟩
  · rw [dg_set_ne (by omega)]; exact h.2.1 j (by omega)
  · have h1 := val_set B L (i + ys.length) cr hj
    have h2 := h.2.2
    rw [h.2.1 _ (Nat.le_refl _)] at h1
    rw [List.take_length] at h2
    rw [val_take_succ]
    grind

theorem MulOut.done {B : Nat} {L xs ys : List Nat} {i a b : Nat} (h : MulOut B L xs ys i) (hi : xs.length ≤ i) (ha : val B xs = a) (hb : val B ys = b) : val B L = a * b := by
  rw [h.2.2, val_take_all _ _ _ hi, ha, hb]

/-! ### The two bases of the texts: 2 to the power of 32, and of 16 -/
/-- The base of the program's numbers. -/
def B32 : Nat := 4294967296
/-- The base of the references' numbers. -/
def B16 : Nat := 65536
theorem B32_two : 2 ≤ B32 := by unfold B32; omega
theorem B16_two : 2 ≤ B16 := by unfold B16; omega
theorem B32_pos : 0 < B32 := by unfold B32; omega
theorem B16_pos : 0 < B16 := by unfold B16; omega
theorem B32_sq : B32 = B16 * B16 := by unfold B32 B16; omega
theorem B32_pow (k : Nat) : B32 ^ k = B16 ^ (2 * k) := by rw [B32_sq, Nat.pow_mul]; congr 1

/-- What is wrong with a number, as A1 says: 0, 1 (its last digit is 0), 2 (too many digits). -/
def errNat (xs : List Nat) : Int := if 0 < xs.length ∧ dg xs (xs.length - 1) = 0 then 1 else if 1200 < xs.length then 2 else 0

theorem tight_of_dg {xs : List Nat} (h : ¬ (0 < xs.length ∧ dg xs (xs.length - 1) = 0)) : Tight xs := by
  unfold Tight
  intro h0
  have hl : 0 < xs.length := by
    rcases Nat.eq_zero_or_pos xs.length with h1 | h1
    · rw [List.eq_nil_of_length_eq_zero h1] at h0; simp at h0
    · exact h1
  refine h ⟨hl, ?_⟩
  rw [List.getLast?_eq_getElem?] at h0; unfold dg; rw [h0]; rfl

theorem errNat_ok {xs : List Nat} (hx : ∀ x ∈ xs, x < B32) (h : errNat xs = 0) : xs = dig B32 (val B32 xs) ∧ xs.length ≤ 1200 := by
  unfold errNat at h
  split at h
  · omega
  · rename_i h1
    split at h
    · omega
    · exact ⟨(dig_val B32_two xs hx (tight_of_dg h1)).symm, by omega⟩

theorem dg_dig_ne {B : Nat} (hB : 2 ≤ B) (n : Nat) : ¬ (0 < (dig B n).length ∧ dg (dig B n) ((dig B n).length - 1) = 0) := by
  rintro ⟨h1, h2⟩
  have h3 := dig_tight hB n
  apply h3
  rw [List.getLast?_eq_getElem?]
  unfold dg at h2
  rw [List.getElem?_eq_getElem (by omega)] at h2 ⊢
  simp at h2
  rw [h2]

theorem errNat_dig (n : Nat) : errNat (dig B32 n) = if 1200 < (dig B32 n).length then 2 else 0 := by
  unfold errNat
  rw [if_neg (dg_dig_ne B32_two n)]

theorem errNat_range (xs : List Nat) : errNat xs = 0 ∨ errNat xs = 1 ∨ errNat xs = 2 := by
  unfold errNat; split
  · exact .inr (.inl rfl)
  · split
    · exact .inr (.inr rfl)
    · exact .inl rfl

/-- From digits to the base of 2 to the power of 32 to those of 16. -/
theorem of_step {O xs : List Nat} {i : Nat} (hO : ∀ x ∈ O, x < B16) (hl : O.length = 2 * i) (hv : val B16 O = val B32 (xs.take i)) (hx : dg xs i < B32) :
    (∀ x ∈ O ++ [dg xs i % 65536, dg xs i / 65536], x < B16) ∧ val B16 (O ++ [dg xs i % 65536, dg xs i / 65536]) = val B32 (xs.take (i + 1)) := by
  constructor
  · intro x hm
    rcases List.mem_append.1 hm with h | h
    · exact hO x h
    · simp at h
      unfold B16 B32 at *
      omega
  · rw [val_append, hv, val_take_succ, hl, ← B32_pow]
    simp only [val_cons, val_nil, Nat.mul_zero, Nat.add_zero]
    congr 2
    unfold B16
    omega

/-- And back. -/
theorem to_step {O ys : List Nat} {j : Nat} (hO : ∀ x ∈ O, x < B32) (hl : O.length = j) (hv : val B32 O = val B16 (ys.take (2 * j))) (hy : ∀ x ∈ ys, x < B16) (d : Nat) (hd : d = dg ys (2 * j) + 65536 * dg ys (2 * j + 1)) :
    (∀ x ∈ O ++ [d], x < B32) ∧ val B32 (O ++ [d]) = val B16 (ys.take (2 * (j + 1))) := by
  have h1 := getD_lt B16_pos ys hy (2 * j)
  have h2 := getD_lt B16_pos ys hy (2 * j + 1)
  constructor
  · intro x hm
    rcases List.mem_append.1 hm with h | h
    · exact hO x h
    · simp at h
      unfold B16 B32 at *
      omega
  · rw [val_snoc, hv, hl, show 2 * (j + 1) = 2 * j + 1 + 1 by omega, val_take_succ, val_take_succ, B32_pow, hd, Nat.pow_succ]
    unfold B16
    grind

theorem to_end {O : List Nat} {n : Nat} (hO : ∀ x ∈ O, x < B32) (hl : O.length = ((dig B16 n).length + 1) / 2) (hv : val B32 O = n) : O = dig B32 n := by
  refine dig_eq B32_two O n hO (tight_of_ge O hO ?_) hv
  by_cases h : 0 < n
  · right
    have h1 := dig_len_pow B16_two n h
    have h2 : 0 < (dig B16 n).length := List.length_pos_iff.2 fun e => by have := (dig_eq_nil B16_two n).1 e; omega
    rw [hv, B32_pow]
    exact Nat.le_trans (Nat.pow_le_pow_right (by unfold B16; omega) (by omega)) h1
  · left
    have : n = 0 := by omega
    subst this
    rw [dig_zero] at hl
    exact List.eq_nil_of_length_eq_zero (by simpa using hl)

theorem dig_len_halves (n : Nat) : (dig B32 n).length = ((dig B16 n).length + 1) / 2 := by
  apply Nat.le_antisymm
  · rw [dig_len_le B32_two, B32_pow]
    have h := (dig_len_le B16_two n _).1 (Nat.le_refl _)
    exact Nat.lt_of_lt_of_le h (Nat.pow_le_pow_right (by unfold B16; omega) (by omega))
  · by_cases h : 0 < n
    · have h1 := (dig_len_le B32_two n _).1 (Nat.le_refl _)
      rw [B32_pow] at h1
      have := (dig_len_le B16_two n _).2 h1
      omega
    · have : n = 0 := by omega
      subst this; rw [dig_zero, dig_zero]; simp

theorem MulIn.leave0 {B : Nat} {L xs ys : List Nat} {i : Nat} (h : MulIn B L xs ys i ys.length 0) : MulOut B L xs ys (i + 1) := by
  refine ⟨h.1, fun j hj2 => h.2.1 j (by omega), ?_⟩
  have h2 := h.2.2
  rw [List.take_length] at h2
  rw [val_take_succ]
  grind

/-- The references' inner round goes on while something is carried. -/
def TimesIn (L xs ys : List Nat) (i k cr : Nat) : Prop := (k ≤ ys.length ∧ MulIn B16 L xs ys i k cr) ∨ (k = ys.length + 1 ∧ cr = 0 ∧ MulOut B16 L xs ys (i + 1))

theorem TimesIn.digits {L xs ys : List Nat} {i k cr : Nat} (h : TimesIn L xs ys i k cr) : ∀ x ∈ L, x < B16 := by
  rcases h with h | h
  · exact h.2.1
  · exact h.2.2.1

theorem TimesIn.step {L xs ys : List Nat} {i k cr : Nat} (h : TimesIn L xs ys i k cr) (hk : k < ys.length) (hj : i + k < L.length) :
    TimesIn (L.set (i + k) ((dg L (i + k) + cr + dg xs i * dg ys k) % 65536)) xs ys i (k + 1) ((dg L (i + k) + cr + dg xs i * dg ys k) / 65536) := by
  rcases h with ⟨_, h⟩ | ⟨h0, _⟩
  · exact .inl ⟨hk, h.step B16_pos hk hj (by omega)⟩
  · omega

theorem TimesIn.carry {L xs ys : List Nat} {i k cr : Nat} (h : TimesIn L xs ys i k cr) (hc : cr < 65536) (hx : dg xs i < 65536) (hy : dg ys k < 65536) : (dg L (i + k) + cr + dg xs i * dg ys k) / 65536 < 65536 := by
  have h1 := getD_lt (B := 65536) (by omega) L h.digits (i + k)
  have h2 : dg xs i * dg ys k ≤ 65535 * 65535 := Nat.mul_le_mul (by omega) (by omega)
  omega

theorem TimesIn.over {L xs ys : List Nat} {i k cr : Nat} (h : TimesIn L xs ys i k cr) (hk : ¬ k < ys.length) (h0 : 0 < cr) (hc : cr < 65536) (hj : i + ys.length < L.length) :
    k = ys.length ∧ dg L (i + k) = 0 ∧ TimesIn (L.set (i + k) cr) xs ys i (k + 1) 0 := by
  rcases h with ⟨h1, h⟩ | ⟨_, h2, _⟩
  · obtain rfl : k = ys.length := by omega
    exact ⟨rfl, h.2.1 _ (Nat.le_refl _), .inr ⟨rfl, rfl, h.leave rfl hj (by unfold B16; omega)⟩⟩
  · omega

theorem TimesIn.done {L xs ys : List Nat} {i k : Nat} (h : TimesIn L xs ys i k 0) (hk : ¬ k < ys.length) : MulOut B16 L xs ys (i + 1) := by
  rcases h with ⟨h1, h⟩ | ⟨_, _, h⟩
  · obtain rfl : k = ys.length := by omega
    exact h.leave0
  · exact h

/-! ### Division by one digit, from above -/
theorem val_drop (B : Nat) (xs : List Nat) (j : Nat) (hj : j < xs.length) : val B (xs.drop j) = dg xs j + B * val B (xs.drop (j + 1)) := by
  rw [List.drop_eq_getElem_cons hj, val_cons, dg_of_lt hj]

theorem drop_set_self (L : List Nat) (j v : Nat) (hj : j < L.length) : (L.set j v).drop j = v :: L.drop (j + 1) := by
  rw [List.drop_eq_getElem_cons (by simpa using hj)]
  simp [List.drop_set_of_lt]

/-- When all from place k on are done. -/
def SmallRel (B : Nat) (L xs : List Nat) (d k r : Nat) : Prop := (∀ x ∈ L, x < B) ∧ r < d ∧ val B (L.drop k) * d + r = val B (xs.drop k)

theorem SmallRel.step {B : Nat} {L xs : List Nat} {d k r : Nat} (h : SmallRel B L xs d (k + 1) r) (hk : k < xs.length) (hL : k < L.length) (hx : dg xs k < B) :
    SmallRel B (L.set k ((r * B + dg xs k) / d)) xs d k ((r * B + dg xs k) % d) ∧ (r * B + dg xs k) / d < B := by
  have hq : (r * B + dg xs k) / d < B := by
    rw [Nat.div_lt_iff_lt_mul (by have := h.2.1; omega)]
    have h1 : (r + 1) * B ≤ d * B := Nat.mul_le_mul_right _ h.2.1
    rw [Nat.add_mul, Nat.one_mul] at h1
    rw [Nat.mul_comm B d]; omega
  refine ⟨⟨set_lt L h.1 _ _ hq, Nat.mod_lt _ (by have := h.2.1; omega), ?_⟩, hq⟩
  rw [drop_set_self L k _ hL, val_cons, val_drop B xs k hk, ← h.2.2]
  have h2 := Nat.div_add_mod (r * B + dg xs k) d
  generalize (r * B + dg xs k) / d = q at *
  generalize (r * B + dg xs k) % d = s at *
  generalize val B (L.drop (k + 1)) = v at *
  grind

theorem SmallRel.done {B : Nat} {L xs : List Nat} {d r a : Nat} (h : SmallRel B L xs d 0 r) (ha : val B xs = a) : val B L = a / d ∧ r = a % d := by
  have h1 := h.2.2
  simp only [List.drop_zero] at h1
  rw [ha] at h1
  have h2 := h.2.1
  rw [← h1, Nat.mul_comm]
  exact ⟨(by rw [Nat.mul_add_div (by omega), Nat.div_eq_of_lt h2, Nat.add_zero]), (by rw [Nat.mul_add_mod, Nat.mod_eq_of_lt h2])⟩

/-! ### Turned round -/
/-- In the midst of turning a list round: the ends are done, from i to j nothing is. -/
def RevRel (L xs : List Nat) (i j : Nat) : Prop := L.length = xs.length ∧ i + j + 1 = xs.length + 0 ∧ ∀ t, t < xs.length → dg L t = if t < i ∨ j < t then dg xs (xs.length - 1 - t) else dg xs t

theorem list_ext_dg {xs ys : List Nat} (hl : xs.length = ys.length) (h : ∀ t, t < xs.length → dg xs t = dg ys t) : xs = ys := by
  apply List.ext_getElem hl
  intro t h1 h2
  have := h t h1
  rwa [dg_of_lt h1, dg_of_lt h2] at this

theorem dg_reverse {xs : List Nat} {t : Nat} (h : t < xs.length) : dg xs.reverse t = dg xs (xs.length - 1 - t) := by
  rw [dg_of_lt (by simpa using h), dg_of_lt (by omega), List.getElem_reverse]

theorem RevRel.step {L xs : List Nat} {i j : Nat} (h : RevRel L xs i j) (hij : i < j) : RevRel ((L.set i (dg L j)).set j (dg L i)) xs (i + 1) (j - 1) := by
  obtain ⟨h1, h2, h3⟩ := h
  refine ⟨by simpa using h1, by omega, fun t ht => ?_⟩
  have hi := h3 i (by omega)
  have hj := h3 j (by omega)
  rw [if_neg (by omega)] at hi hj
  by_cases e1 : t = j
  · subst e1
    rw [dg_set_same (by simp; omega), if_pos (by omega), hi]
    congr 1; omega
  · rw [dg_set_ne (by omega)]
    by_cases e2 : t = i
    · subst e2
      rw [dg_set_same (by omega), if_pos (by omega), hj]
      congr 1; omega
    · rw [dg_set_ne (by omega), h3 t ht]
      by_cases e3 : t < i ∨ j < t
      · rw [if_pos e3, if_pos (by omega)]
      · rw [if_neg e3, if_neg (by omega)]

theorem RevRel.done {L xs : List Nat} {i j : Nat} (h : RevRel L xs i j) (hij : ¬ i < j) : L = xs.reverse := by
  obtain ⟨h1, h2, h3⟩ := h
  refine list_ext_dg (by simpa using h1) fun t ht => ?_
  rw [h3 t (by omega), dg_reverse (by omega)]
  by_cases e : t < i ∨ j < t
  · rw [if_pos e]
  · rw [if_neg e]; congr 1; omega

theorem RevRel.start (xs : List Nat) (h : 0 < xs.length) : RevRel xs xs 0 (xs.length - 1) :=
  ⟨rfl, by omega, fun t ht => by rw [if_neg (by omega)]⟩

/-! ### Decimal digits -/
/-- A number in decimal digits, as bytes: 0 is one nought. -/
def decOf (n : Nat) : List Nat := if n = 0 then [48] else (dig 10 n).reverse.map (· + 48)

/-- Within a piece of nine digits: D are the digits so far, the lowest first; r is what is left of the piece, a what is above it. -/
def DecIn (N : Nat) (D : List Nat) (i r a : Nat) : Prop :=
  (∀ x ∈ D, x < 10) ∧ r < 10 ^ (9 - i) ∧ N = val 10 D + 10 ^ D.length * (r + 10 ^ (9 - i) * a) ∧ (a = 0 → r = 0 → Tight D)

def DecOut (N : Nat) (D : List Nat) (a : Nat) : Prop := (∀ x ∈ D, x < 10) ∧ N = val 10 D + 10 ^ D.length * a ∧ (a = 0 → Tight D)

theorem DecOut.start (N : Nat) : DecOut N [] N := ⟨by simp, by simp, fun _ => by simp [Tight]⟩

theorem DecOut.enter {N : Nat} {D : List Nat} {a : Nat} (h : DecOut N D a) (ha : 0 < a) : DecIn N D 0 (a % 1000000000) (a / 1000000000) := by
  refine ⟨h.1, by have := Nat.mod_lt a (show 0 < 1000000000 by omega); simpa using this, ?_, fun h1 h2 => by omega⟩
  rw [h.2.1]
  congr 2
  have := Nat.mod_add_div a 1000000000
  omega

theorem DecIn.step {N : Nat} {D : List Nat} {i r a : Nat} (h : DecIn N D i r a) (hi : i < 9) (hc : 0 < r ∨ 0 < a) : DecIn N (D ++ [r % 10]) (i + 1) (r / 10) a := by
  obtain ⟨h1, h2, h3, h4⟩ := h
  have e : 9 - i = 9 - (i + 1) + 1 := by omega
  rw [e, Nat.pow_succ] at h2 h3
  refine ⟨fun x hx => ?_, by omega, ?_, fun ha hr => ?_⟩
  · rcases List.mem_append.1 hx with hx | hx
    · exact h1 x hx
    · simp at hx; omega
  · rw [h3, val_snoc, List.length_append, List.length_singleton, Nat.pow_succ]
    have := Nat.mod_add_div r 10
    generalize r % 10 = s at *
    generalize r / 10 = q at *
    subst this
    grind
  · unfold Tight; simp; omega

theorem DecIn.leave {N : Nat} {D : List Nat} {i r a : Nat} (h : DecIn N D i r a) (hi : i ≤ 9) (hc : ¬ (i < 9 ∧ (0 < r ∨ 0 < a))) : DecOut N D a := by
  obtain ⟨h1, h2, h3, h4⟩ := h
  have hr : r = 0 := by
    by_cases hi9 : i < 9
    · omega
    · have : i = 9 := by omega
      subst this; simp at h2; exact h2
  subst hr
  refine ⟨h1, ?_, fun ha => h4 ha rfl⟩
  rw [h3]
  by_cases hi9 : i < 9
  · have : a = 0 := by omega
    subst this; simp
  · have : i = 9 := by omega
    subst this; simp

theorem DecOut.done {N : Nat} {D : List Nat} (h : DecOut N D 0) : D = dig 10 N := dig_eq (by omega) D N h.1 (h.2.2 rfl) (by rw [h.2.1]; simp)

theorem DecIn.size {N : Nat} {D : List Nat} {i r a : Nat} (h : DecIn N D i r a) (hc : 0 < r ∨ 0 < a) : D.length ≤ 32 * (dig B32 N).length := by
  have h1 : 10 ^ D.length ≤ N := by
    rw [h.2.2.1]
    have : 0 < r + 10 ^ (9 - i) * a := by
      rcases hc with hc | hc
      · omega
      · have := Nat.mul_pos (show 0 < 10 ^ (9 - i) from Nat.pow_pos (by omega)) hc; omega
    have := Nat.le_mul_of_pos_right (10 ^ D.length) this
    omega
  have h2 := (dig_len_le B32_two N _).1 (Nat.le_refl _)
  have h3 : B32 ^ (dig B32 N).length = 2 ^ (32 * (dig B32 N).length) := by rw [Nat.pow_mul]; congr 1
  have h4 : 2 ^ D.length ≤ 10 ^ D.length := Nat.pow_le_pow_left (by omega) _
  have h5 : 2 ^ D.length < 2 ^ (32 * (dig B32 N).length) := by rw [← h3]; omega
  exact Nat.le_of_lt ((Nat.pow_lt_pow_iff_right (by omega)).1 h5)

theorem dec_size (N : Nat) : (dig 10 N).length ≤ 32 * (dig B32 N).length := by
  rw [dig_len_le (by omega)]
  have h2 := (dig_len_le B32_two N _).1 (Nat.le_refl _)
  have h3 : B32 ^ (dig B32 N).length = 2 ^ (32 * (dig B32 N).length) := by rw [Nat.pow_mul]; congr 1
  have h4 : 2 ^ (32 * (dig B32 N).length) ≤ 10 ^ (32 * (dig B32 N).length) := Nat.pow_le_pow_left (by omega) _
  omega

theorem dig_len_mul {B : Nat} (hB : 2 ≤ B) (a b : Nat) : (dig B (a * b)).length ≤ (dig B a).length + (dig B b).length := by
  rw [dig_len_le hB, Nat.pow_add]
  exact Nat.mul_lt_mul'' ((dig_len_le hB a _).1 (Nat.le_refl _)) ((dig_len_le hB b _).1 (Nat.le_refl _))

theorem dig_len_add {B : Nat} (hB : 2 ≤ B) (a b : Nat) : (dig B (a + b)).length ≤ (dig B a).length + (dig B b).length + 1 := by
  rw [dig_len_le hB]
  have h1 := (dig_len_le hB a _).1 (Nat.le_refl _)
  have h2 := (dig_len_le hB b _).1 (Nat.le_refl _)
  have h3 : B ^ (dig B a).length ≤ B ^ ((dig B a).length + (dig B b).length) := Nat.pow_le_pow_right (by omega) (by omega)
  have h4 : B ^ (dig B b).length ≤ B ^ ((dig B a).length + (dig B b).length) := Nat.pow_le_pow_right (by omega) (by omega)
  rw [Nat.pow_succ]
  have := Nat.mul_le_mul_left (B ^ ((dig B a).length + (dig B b).length)) hB
  omega

end Go.Slip
