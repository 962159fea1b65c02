/- Comparisons, lengths in bits, differences: plain arithmetic of digit lists. No program is in sight here. -/
import Derived.Test.YtcbjidcpcompoaaDoorNum2
namespace Go.Slip

/-- What a comparison answers. -/
def cmpN (a b : Nat) : Int := if a < b then -1 else if b < a then 1 else 0

theorem cmpN_lt {a b : Nat} (h : a < b) : cmpN a b = -1 := by unfold cmpN; rw [if_pos h]
theorem cmpN_gt {a b : Nat} (h : b < a) : cmpN a b = 1 := by unfold cmpN; rw [if_neg (by omega), if_pos h]
theorem cmpN_eq (a : Nat) : cmpN a a = 0 := by unfold cmpN; rw [if_neg (by omega), if_neg (by omega)]

theorem dig_len_lt {B : Nat} (hB : 2 ≤ B) {a b : Nat} (h : (dig B a).length < (dig B b).length) : a < b := by
  rcases Nat.lt_or_ge a b with h1 | h1
  · exact h1
  · have := dig_len_mono hB h1; omega

theorem val_cut (B : Nat) (xs : List Nat) (k : Nat) (hk : k < xs.length) : val B xs = val B (xs.take k) + B ^ k * (dg xs k + B * val B (xs.drop (k + 1))) := by
  rw [val_take_drop B xs k (by omega), val_drop B xs k hk]

theorem val_take_lt {B : Nat} (xs : List Nat) (hx : ∀ x ∈ xs, x < B) (k : Nat) (hk : k ≤ xs.length) : val B (xs.take k) < B ^ k := by
  have h := val_lt B (xs.take k) (fun x h => hx x (List.mem_of_mem_take h))
  rwa [List.length_take, Nat.min_eq_left hk] at h

theorem val_cmp {B : Nat} (xs ys : List Nat) (hx : ∀ x ∈ xs, x < B) (k : Nat) (hk : k < xs.length) (hl : xs.length = ys.length) (hd : xs.drop (k + 1) = ys.drop (k + 1)) (h : dg xs k < dg ys k) : val B xs < val B ys := by
  rw [val_cut B xs k hk, val_cut B ys k (by omega), hd]
  have h1 := val_take_lt xs hx k (by omega)
  generalize val B (ys.drop (k + 1)) = v at *
  generalize val B (xs.take k) = t at *
  have h2 : B ^ k * (dg xs k + 1 + B * v) ≤ B ^ k * (dg ys k + B * v) := Nat.mul_le_mul_left _ (by omega)
  have e : B ^ k * (dg xs k + 1 + B * v) = B ^ k + B ^ k * (dg xs k + B * v) := by grind
  rw [e] at h2
  omega

theorem drop_eq_of {xs ys : List Nat} {k : Nat} (hk : k < xs.length) (hl : xs.length = ys.length) (hd : xs.drop (k + 1) = ys.drop (k + 1)) (h : dg xs k = dg ys k) : xs.drop k = ys.drop k := by
  rw [List.drop_eq_getElem_cons hk, List.drop_eq_getElem_cons (show k < ys.length by omega), hd]
  rw [dg_of_lt hk, dg_of_lt (show k < ys.length by omega)] at h
  rw [h]

/-! ### Lengths in bits -/
def blen (n : Nat) : Nat := (dig 2 n).length

theorem blen_zero : blen 0 = 0 := by unfold blen; rw [dig_zero]; rfl
theorem blen_le (n k : Nat) : blen n ≤ k ↔ n < 2 ^ k := dig_len_le (by omega) n k
theorem blen_pow (n : Nat) (h : 0 < n) : 2 ^ (blen n - 1) ≤ n := dig_len_pow (by omega) n h
theorem blen_pos (n : Nat) : 0 < blen n ↔ 0 < n := by
  have := dig_len_zero (B := 2) (by omega) n
  unfold blen; omega
theorem blen_half (n : Nat) (h : 0 < n) : blen n = blen (n / 2) + 1 := by unfold blen; rw [dig_pos (by omega) h, List.length_cons]

theorem blen_eq {n k : Nat} (h1 : 2 ^ k ≤ n) (h2 : n < 2 ^ (k + 1)) : blen n = k + 1 := by
  have a := (blen_le n (k + 1)).2 h2
  have b : ¬ blen n ≤ k := fun h => by have := (blen_le n k).1 h; omega
  omega

theorem blen_dig {B s : Nat} (hB : B = 2 ^ s) (h2 : 2 ≤ B) (n : Nat) (h : 0 < n) : blen n = s * ((dig B n).length - 1) + blen (dg (dig B n) ((dig B n).length - 1)) ∧ 0 < dg (dig B n) ((dig B n).length - 1) := by
  have hl : 0 < (dig B n).length := List.length_pos_iff.2 ((dig_spec h2 n).2.2.2 h)
  have hv := val_cut B (dig B n) ((dig B n).length - 1) (by omega)
  rw [val_dig h2, show (dig B n).length - 1 + 1 = (dig B n).length by omega, List.drop_length, val_nil, Nat.mul_zero, Nat.add_zero] at hv
  have ht := val_take_lt (dig B n) (dig_lt h2 n) ((dig B n).length - 1) (by omega)
  have hp := dig_len_pow h2 n h
  generalize dg (dig B n) ((dig B n).length - 1) = d at *
  generalize (dig B n).length - 1 = k at *
  generalize val B ((dig B n).take k) = t at *
  have hd : 0 < d := by
    rcases Nat.eq_zero_or_pos d with h0 | h0
    · subst h0; omega
    · exact h0
  refine ⟨?_, hd⟩
  have b1 := blen_pow d hd
  have b2 := (blen_le d (blen d)).1 (Nat.le_refl _)
  have b3 := (blen_pos d).2 hd
  obtain ⟨m, hm⟩ : ∃ m, blen d = m + 1 := ⟨blen d - 1, by omega⟩
  rw [hm] at b1 b2 ⊢
  have e : B ^ k = 2 ^ (s * k) := by rw [hB, Nat.pow_mul]
  rw [e] at hv ht
  rw [← Nat.add_assoc]
  refine blen_eq ?_ ?_
  · rw [Nat.pow_add]
    have := Nat.mul_le_mul_left (2 ^ (s * k)) b1
    simp at this
    omega
  · rw [Nat.add_assoc, Nat.pow_add]
    have := Nat.mul_le_mul_left (2 ^ (s * k)) (show d + 1 ≤ 2 ^ (m + 1) from b2)
    rw [Nat.mul_add, Nat.mul_one] at this
    omega

/-! ### Differences, digit by digit -/
theorem sub_step {B : Nat} (L : List Nat) (i y br T : Nat) (hi : i < L.length) (d : Nat) (hd : d + y + br = dg L i + B * (if dg L i < y + br then 1 else 0))
    (V : Nat) (h : val B L + V = T + br * B ^ i) :
    val B (L.set i d) + (V + B ^ i * y) = T + (if dg L i < y + br then 1 else 0) * B ^ (i + 1) := by
  have h1 := val_set B L i d hi
  rw [Nat.pow_succ]
  generalize (if dg L i < y + br then 1 else 0) = q at *
  generalize dg L i = x at *
  have h3 : B ^ i * (d + y + br) = B ^ i * (x + B * q) := by rw [hd]
  grind

def SubRel (L ys : List Nat) (i br a : Nat) : Prop := (∀ x ∈ L, x < B32) ∧ val B32 L + val B32 (ys.take i) = a + br * B32 ^ i

/-- One digit of a difference, and what is owed. -/
def subD (x y br : Nat) : Nat := (x + (4294967296 - y) + (4294967296 - br)) % 4294967296
def subB (x y br : Nat) : Nat := if x < y + br then 1 else 0

theorem SubRel.step {L ys : List Nat} {i br a : Nat} (h : SubRel L ys i br a) (hi : i < L.length) (hy : ∀ x ∈ ys, x < B32) (hb : br ≤ 1) :
    SubRel (L.set i (subD (dg L i) (dg ys i) br)) ys (i + 1) (subB (dg L i) (dg ys i) br) a := by
  have h1 := getD_lt (B := 4294967296) (by omega) L h.1 i
  have h2 := getD_lt (B := 4294967296) (by omega) ys hy i
  refine ⟨set_lt L h.1 i _ (Nat.mod_lt _ (by omega)), ?_⟩
  rw [val_take_succ]
  refine sub_step L i _ br a hi _ ?_ _ h.2
  unfold subD B32
  split <;> omega

theorem subB_le (x y br : Nat) : subB x y br ≤ 1 := by unfold subB; split <;> omega

theorem SubRel.start (a : Nat) (ys : List Nat) : SubRel (dig B32 a) ys 0 0 a := ⟨dig_lt B32_two a, by simp [val_dig B32_two]⟩

theorem SubRel.done {L ys : List Nat} {i br a b : Nat} (h : SubRel L ys i br a) (hi : ys.length ≤ i) (hy : val B32 ys = b) (hab : b ≤ a) (hl : L.length ≤ i ∨ br = 0) (hL : val B32 L < B32 ^ L.length) : val B32 L = a - b := by
  have h2 := h.2
  rw [val_take_all _ _ _ hi, hy] at h2
  rcases hl with hl | rfl
  · have hp : B32 ^ L.length ≤ B32 ^ i := Nat.pow_le_pow_right B32_pos hl
    have : br = 0 := by
      rcases Nat.eq_zero_or_pos br with h0 | h0
      · exact h0
      · have := Nat.le_mul_of_pos_left (B32 ^ i) h0; omega
    subst this; omega
  · omega

/-- The references' difference. -/
def LessRel (O xs ys : List Nat) (i br : Nat) : Prop := (∀ x ∈ O, x < B16) ∧ O.length = i ∧ br ≤ 1 ∧ val B16 O + val B16 (ys.take i) = val B16 (xs.take i) + br * B16 ^ i

theorem LessRel.start (xs ys : List Nat) : LessRel [] xs ys 0 0 := ⟨by simp, rfl, by omega, by simp⟩

theorem LessRel.step {O xs ys : List Nat} {i br : Nat} (h : LessRel O xs ys i br) (d br' : Nat) (hd : d < B16) (hb : br' ≤ 1) (he : d + dg ys i + br = dg xs i + B16 * br') : LessRel (O ++ [d]) xs ys (i + 1) br' := by
  obtain ⟨h1, h2, h3, h4⟩ := h
  refine ⟨fun x hm => ?_, by simp [h2], hb, ?_⟩
  · rcases List.mem_append.1 hm with hm | hm
    · exact h1 x hm
    · simp at hm; omega
  · rw [val_snoc, val_take_succ, val_take_succ, h2, Nat.pow_succ]
    have e : B16 ^ i * (d + dg ys i + br) = B16 ^ i * (dg xs i + B16 * br') := by rw [he]
    grind

theorem LessRel.done {O xs ys : List Nat} {br a b : Nat} (h : LessRel O xs ys xs.length br) (hx : val B16 xs = a) (hy : val B16 ys = b) (hl : ys.length ≤ xs.length) (hab : b ≤ a) : val B16 O = a - b := by
  obtain ⟨h1, h2, h3, h4⟩ := h
  rw [val_take_all _ _ _ hl, List.take_length, hx, hy] at h4
  have hO := val_lt B16 O h1
  rw [h2] at hO
  have : br = 0 := by
    rcases Nat.eq_zero_or_pos br with h0 | h0
    · exact h0
    · have := Nat.le_mul_of_pos_left (B16 ^ xs.length) h0; omega
  subst this; omega

end Go.Slip
