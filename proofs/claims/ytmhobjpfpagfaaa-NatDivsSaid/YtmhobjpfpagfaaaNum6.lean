/- A product and a sum in place; the number that decimal digits make: plain arithmetic. No program is in sight here. -/
import Derived.Test.YtmhobjpfpagfaaaNum4
namespace Go.Slip

/-- In the midst of 'times ten and d more' in place. -/
def MaRel (L X : List Nat) (ten d0 i d : Nat) : Prop :=
  (∀ x ∈ L, x < B32) ∧ L.length = X.length ∧ (∀ j, i ≤ j → dg L j = dg X j) ∧ val B32 (L.take i) + d * B32 ^ i = val B32 (X.take i) * ten + d0

theorem MaRel.start {X : List Nat} (h : ∀ x ∈ X, x < B32) (ten d0 : Nat) : MaRel X X ten d0 0 d0 := ⟨h, rfl, fun _ _ => rfl, by simp⟩

theorem MaRel.step {L X : List Nat} {ten d0 i d : Nat} (h : MaRel L X ten d0 i d) (hi : i < X.length) (t : Nat) (ht : t = dg X i * ten + d) : MaRel (L.set i (t % B32)) X ten d0 (i + 1) (t / B32) := by
  obtain ⟨h1, h2, h3, h4⟩ := h
  refine ⟨set_lt L h1 i _ (Nat.mod_lt _ B32_pos), by simpa using h2, fun j hj => ?_, ?_⟩
  · rw [dg_set_ne (by omega)]; exact h3 j (by omega)
  · rw [val_take_succ, take_set_same, dg_set_same (by omega), val_take_succ, Nat.pow_succ]
    have h5 := Nat.div_add_mod t B32
    generalize t / B32 = q at *
    generalize t % B32 = r at *
    have e : B32 ^ i * (B32 * q + r) = B32 ^ i * (dg X i * ten + d) := by rw [h5, ht]
    grind

theorem MaRel.done0 {L : List Nat} {ten d0 a : Nat} (h : MaRel L (dig B32 a) ten d0 (dig B32 a).length 0) (h1 : 0 < ten) : L = dig B32 (a * ten + d0) := by
  have h4 := h.2.2.2
  rw [List.take_length, val_dig B32_two, ← h.2.1, List.take_length] at h4
  obtain ⟨m, rfl⟩ : ∃ m, ten = m + 1 := ⟨ten - 1, by omega⟩
  have e : a * (m + 1) + d0 = a + (a * m + d0) := by grind
  rw [e] at h4 ⊢
  exact add_end0 B32_two L a _ h.1 h.2.1 (by omega)

theorem MaRel.done1 {L : List Nat} {ten d0 a d : Nat} (h : MaRel L (dig B32 a) ten d0 (dig B32 a).length d) (h1 : 0 < d) (h2 : d < B32) : L ++ [d] = dig B32 (a * ten + d0) := by
  have h4 := h.2.2.2
  rw [List.take_length, val_dig B32_two, ← h.2.1, List.take_length] at h4
  exact add_end1 B32_two L d _ h.1 h1 h2 h4

/-- The number that digits make. -/
def numOf (l : List Nat) : Nat := l.foldl (fun a b => 10 * a + (b - 48)) 0

theorem numOf_snoc (l : List Nat) (b : Nat) : numOf (l ++ [b]) = 10 * numOf l + (b - 48) := by simp [numOf]
theorem numOf_take_succ (l : List Nat) (k : Nat) (h : k < l.length) : numOf (l.take (k + 1)) = 10 * numOf (l.take k) + (dg l k - 48) := by
  rw [List.take_succ_eq_append_getElem h, numOf_snoc, dg_of_lt h]

theorem numOf_lt (l : List Nat) (h : ∀ j, j < l.length → dg l j ≤ 57) : numOf l < 10 ^ l.length := by
  have key : ∀ n, n ≤ l.length → numOf (l.take n) < 10 ^ n := by
    intro n
    induction n with
    | zero => intro _; simp [numOf]
    | succ n ih =>
      intro hn
      rw [numOf_take_succ l n (by omega), Nat.pow_succ]
      have h1 := ih (by omega)
      have h2 := h n (by omega)
      omega
  have := key l.length (Nat.le_refl _)
  rwa [List.take_length] at this

theorem foldl_num (m : List Nat) : ∀ a, m.foldl (fun a b => 10 * a + (b - 48)) a = a * 10 ^ m.length + numOf m := by
  induction m with
  | nil => intro a; simp [numOf]
  | cons x m ih =>
    intro a
    rw [List.foldl_cons, ih]
    unfold numOf
    rw [List.foldl_cons, ih (10 * 0 + (x - 48)), List.length_cons, Nat.pow_succ]
    grind

theorem numOf_append (l m : List Nat) : numOf (l ++ m) = numOf l * 10 ^ m.length + numOf m := by
  unfold numOf
  rw [List.foldl_append, foldl_num]
  rfl

theorem numOf_chunk (l : List Nat) (k n : Nat) (h : k + n ≤ l.length) : numOf (l.take (k + n)) = numOf (l.take k) * 10 ^ n + numOf ((l.drop k).take n) := by
  have e : l.take (k + n) = l.take k ++ (l.drop k).take n := by rw [List.take_add]
  rw [e, numOf_append]
  congr 3
  simp; omega

end Go.Slip
