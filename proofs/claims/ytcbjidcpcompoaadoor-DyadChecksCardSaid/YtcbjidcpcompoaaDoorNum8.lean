/- Long division: what each round knows, and what comes of it. Plain arithmetic. No program is in sight here. -/
import Derived.Test.YtcbjidcpcompoaaDoorNum7
namespace Go.Slip

theorem val_drop0 (B : Nat) (xs : List Nat) (j : Nat) : val B (xs.drop j) = dg xs j + B * val B (xs.drop (j + 1)) := by
  by_cases h : j < xs.length
  · exact val_drop B xs j h
  · rw [List.drop_of_length_le (by omega), List.drop_of_length_le (by omega), dg_of_ge (by omega)]; simp

theorem val_take_drop0 (B : Nat) (xs : List Nat) (k : Nat) : val B xs = val B (xs.take k) + B ^ k * val B (xs.drop k) := by
  by_cases h : k ≤ xs.length
  · exact val_take_drop B xs k h
  · rw [List.take_of_length_le (by omega), List.drop_of_length_le (by omega)]; simp

theorem val_take_lt0 {B : Nat} (hB : 0 < B) (xs : List Nat) (hx : ∀ x ∈ xs, x < B) (k : Nat) : val B (xs.take k) < B ^ k := by
  refine Nat.lt_of_lt_of_le (val_lt B _ fun x h => hx x (List.mem_of_mem_take h)) (Nat.pow_le_pow_right hB ?_)
  simp; omega

/-- The uppermost three digits tell of a number. -/
theorem top3 {B : Nat} (hB : 0 < B) (xs : List Nat) (hx : ∀ x ∈ xs, x < B) (m : Nat) (h0 : val B (xs.drop (m + 3)) = 0) :
    ((dg xs (m + 2) * B + dg xs (m + 1)) * B + dg xs m) * B ^ m ≤ val B xs ∧ val B xs < ((dg xs (m + 2) * B + dg xs (m + 1)) * B + dg xs m + 1) * B ^ m := by
  have h1 := val_take_drop0 B xs m
  have h2 := val_take_lt0 hB xs hx m
  have e : val B (xs.drop m) = (dg xs (m + 2) * B + dg xs (m + 1)) * B + dg xs m := by
    rw [val_drop0 B xs m, val_drop0 B xs (m + 1), val_drop0 B xs (m + 2), h0]; grind
  rw [e] at h1
  generalize (dg xs (m + 2) * B + dg xs (m + 1)) * B + dg xs m = T at *
  rw [h1, Nat.mul_comm T, Nat.mul_comm (T + 1), Nat.mul_add]
  omega

structure DivRel (A V n : Nat) (U Q : List Nat) (k : Nat) : Prop where
  dU : ∀ x ∈ U, x < B32
  dQ : ∀ x ∈ Q, x < B32
  len : U.length = Q.length + n
  top : val B32 (U.drop k) < V
  sum : val B32 U + val B32 Q * V = A
  zero : ∀ i, i < k → dg Q i = 0

theorem DivRel.start {A V n : Nat} {U : List Nat} (hU : ∀ x ∈ U, x < B32) (hn : n ≤ U.length) (h1 : 1 ≤ n) (hA : val B32 U = A) (hlt : A < B32 ^ (U.length - 1)) (hV : B32 ^ (n - 1) ≤ V) :
    DivRel A V n U (List.replicate (U.length - n) 0) (U.length - n) := by
  refine ⟨hU, fun x hx => by rw [(List.mem_replicate.1 hx).2]; exact B32_pos, by simp; omega, ?_, by rw [val_replicate, hA]; simp, fun i _ => dg_replicate _ _⟩
  have h := val_take_drop B32 U (U.length - n) (by omega)
  have e : B32 ^ (U.length - 1) = B32 ^ (U.length - n) * B32 ^ (n - 1) := by rw [← Nat.pow_add]; congr 1; omega
  have h2 : B32 ^ (U.length - n) * val B32 (U.drop (U.length - n)) < B32 ^ (U.length - n) * B32 ^ (n - 1) := by omega
  have := Nat.lt_of_mul_lt_mul_left h2
  omega

theorem DivRel.win {A V n : Nat} {U Q : List Nat} {j : Nat} (h : DivRel A V n U Q (j + 1)) : val B32 (U.drop j) < B32 * V := by
  rw [val_drop0]
  have h1 := getD_lt B32_pos U h.dU j
  have h2 := h.top
  have h3 : B32 * (val B32 (U.drop (j + 1)) + 1) ≤ B32 * V := Nat.mul_le_mul_left _ h2
  rw [Nat.mul_add] at h3
  omega

theorem DivRel.done {A V n : Nat} {U Q : List Nat} (h : DivRel A V n U Q 0) : val B32 Q = A / V ∧ val B32 U = A % V := by
  have h1 := h.top
  have h2 := h.sum
  rw [List.drop_zero] at h1
  have hV : 0 < V := by omega
  have e1 : A = val B32 U + V * val B32 Q := by rw [← h2, Nat.mul_comm V]
  constructor
  · rw [e1, Nat.add_mul_div_left _ _ hV, Nat.div_eq_of_lt h1]; omega
  · rw [e1, Nat.add_mul_mod_self_left, Nat.mod_eq_of_lt h1]

/-- What stands fast in a round. -/
structure Knuth (ys U : List Nat) (m j : Nat) : Prop where
  dy : ∀ x ∈ ys, x < B32
  dU : ∀ x ∈ U, x < B32
  ly : ys.length = m + 2
  big : 2147483648 ≤ dg ys (m + 1)
  win : val B32 (U.drop j) < B32 * val B32 ys

theorem Knuth.v {ys U : List Nat} {m j : Nat} (h : Knuth ys U m j) : (dg ys (m + 1) * B32 + dg ys m) * B32 ^ m ≤ val B32 ys ∧ val B32 ys < (dg ys (m + 1) * B32 + dg ys m + 1) * B32 ^ m := by
  have h1 := top3 B32_pos ys h.dy m (by rw [List.drop_of_length_le (by have := h.ly; omega)]; rfl)
  rw [dg_of_ge (show ys.length ≤ m + 2 by have := h.ly; omega)] at h1
  simpa using h1

theorem Knuth.lt {ys U : List Nat} {m j : Nat} (h : Knuth ys U m j) : val B32 (U.drop j) < B32 ^ (m + 3) := by
  have h1 := h.win
  have h2 := val_lt B32 ys h.dy
  rw [h.ly] at h2
  have h3 : B32 * val B32 ys ≤ B32 * B32 ^ (m + 2) := Nat.mul_le_mul_left _ (Nat.le_of_lt h2)
  rw [Nat.pow_succ, Nat.mul_comm]
  omega

theorem drop_zero_of_lt {B : Nat} {xs : List Nat} {k : Nat} (h : val B xs < B ^ k) : val B (xs.drop k) = 0 := by
  have h1 := val_take_drop0 B xs k
  rcases Nat.eq_zero_or_pos (val B (xs.drop k)) with h2 | h2
  · exact h2
  · have := Nat.mul_le_mul_left (B ^ k) h2
    omega

theorem Knuth.z {ys U : List Nat} {m j : Nat} (h : Knuth ys U m j) : val B32 ((U.drop j).drop (m + 3)) = 0 := drop_zero_of_lt h.lt

theorem Knuth.w {ys U : List Nat} {m j : Nat} (h : Knuth ys U m j) :
    ((dg U (j + m + 2) * B32 + dg U (j + m + 1)) * B32 + dg U (j + m)) * B32 ^ m ≤ val B32 (U.drop j) ∧ val B32 (U.drop j) < ((dg U (j + m + 2) * B32 + dg U (j + m + 1)) * B32 + dg U (j + m) + 1) * B32 ^ m := by
  have h1 := top3 B32_pos (U.drop j) (fun x hx => h.dU x (List.mem_of_mem_drop hx)) m h.z
  simp only [dg_drop] at h1
  rw [show j + (m + 2) = j + m + 2 by omega, show j + (m + 1) = j + m + 1 by omega] at h1
  exact h1

theorem Knuth.pos {ys U : List Nat} {m j : Nat} (h : Knuth ys U m j) : 0 < val B32 ys := by have := h.win; rcases Nat.eq_zero_or_pos (val B32 ys) with h0 | h0; (rw [h0] at this; omega); exact h0

theorem Knuth.q_lt {ys U : List Nat} {m j : Nat} (h : Knuth ys U m j) : val B32 (U.drop j) / val B32 ys < B32 := by
  rw [Nat.div_lt_iff_lt_mul h.pos]; exact h.win

theorem Knuth.two_lt {ys U : List Nat} {m j : Nat} (h : Knuth ys U m j) : dg U (j + m + 2) * B32 + dg U (j + m + 1) < (dg ys (m + 1) + 1) * B32 := by
  have h1 := h.w.1
  have h2 := h.win
  have h3 := h.v.2
  have h4 := getD_lt B32_pos ys h.dy m
  generalize dg U (j + m + 2) * B32 + dg U (j + m + 1) = two at *
  generalize dg ys (m + 1) = top at *
  have h5 : (top * B32 + dg ys m + 1) * B32 ^ m ≤ ((top + 1) * B32) * B32 ^ m := Nat.mul_le_mul_right _ (by rw [Nat.add_mul]; omega)
  have h6 : B32 * val B32 ys < B32 * (((top + 1) * B32) * B32 ^ m) := Nat.mul_lt_mul_of_pos_left (by omega) B32_pos
  have h7 : (two * B32) * B32 ^ m ≤ (two * B32 + dg U (j + m)) * B32 ^ m := Nat.mul_le_mul_right _ (by omega)
  have h8 : two * (B32 * B32 ^ m) < ((top + 1) * B32) * (B32 * B32 ^ m) := by
    have e1 : (two * B32) * B32 ^ m = two * (B32 * B32 ^ m) := Nat.mul_assoc _ _ _
    have e2 : B32 * (((top + 1) * B32) * B32 ^ m) = ((top + 1) * B32) * (B32 * B32 ^ m) := by rw [Nat.mul_left_comm]
    omega
  exact Nat.lt_of_mul_lt_mul_right h8

/-- The trial digit and what is left. -/
structure Trial (ys U : List Nat) (m j t r : Nat) : Prop where
  eq : t * dg ys (m + 1) + r = dg U (j + m + 2) * B32 + dg U (j + m + 1)
  ge : val B32 (U.drop j) / val B32 ys ≤ t

theorem Knuth.start {ys U : List Nat} {m j : Nat} (h : Knuth ys U m j) (two : Nat) (h2 : two = dg U (j + m + 2) * B32 + dg U (j + m + 1)) :
    Trial ys U m j (two / dg ys (m + 1)) (two % dg ys (m + 1)) := by
  have hb := h.big
  refine ⟨by rw [← h2, Nat.mul_comm, Nat.div_add_mod], ?_⟩
  rw [Nat.le_div_iff_mul_le (by omega)]
  have h3 := h.v.1
  have h4 := h.w.2
  rw [← h2] at h4
  have h5 := getD_lt B32_pos U h.dU (j + m)
  have h6 : (dg ys (m + 1) * (B32 * B32 ^ m)) ≤ val B32 ys := by
    refine Nat.le_trans ?_ h3
    rw [← Nat.mul_assoc]
    exact Nat.mul_le_mul_right _ (by omega)
  have h7 : val B32 (U.drop j) < (two + 1) * (B32 * B32 ^ m) := by
    refine Nat.lt_of_lt_of_le h4 ?_
    rw [← Nat.mul_assoc]
    exact Nat.mul_le_mul_right _ (by rw [Nat.add_mul]; omega)
  exact trial_ge h6 h7 (Nat.div_mul_le_self _ _)

theorem Trial.down {ys U : List Nat} {m j t r : Nat} (h : Trial ys U m j t r) (k : Knuth ys U m j) (hc : B32 ≤ t ∨ r * B32 + dg U (j + m) < t * dg ys m) :
    0 < t ∧ Trial ys U m j (t - 1) (r + dg ys (m + 1)) := by
  have hq := k.q_lt
  have h0 : 0 < t := by
    rcases hc with hc | hc
    · have := B32_pos; omega
    · rcases Nat.eq_zero_or_pos t with h0 | h0
      · subst h0; simp at hc
      · exact h0
  have hne : val B32 (U.drop j) / val B32 ys ≠ t := by
    rcases hc with hc | hc
    · omega
    · exact trial_down k.v.1 k.w.2 (Nat.div_mul_le_self _ _) h.eq hc
  refine ⟨h0, ?_, by have := h.ge; omega⟩
  have e := h.eq
  obtain ⟨u, rfl⟩ : ∃ u, t = u + 1 := ⟨t - 1, by omega⟩
  rw [Nat.add_mul] at e
  simp only [Nat.add_sub_cancel]
  omega

theorem lt_succ_div (w v : Nat) (hv : 0 < v) : w < (w / v + 1) * v := by
  have h1 := Nat.div_add_mod w v
  have h2 := Nat.mod_lt w hv
  rw [Nat.add_mul, Nat.one_mul, Nat.mul_comm (w / v) v]
  omega

/-- Where the inner loop is left the trial digit is right, or one too great. -/
theorem Trial.exit {ys U : List Nat} {m j t r : Nat} (h : Trial ys U m j t r) (k : Knuth ys U m j) (h1 : t < B32) (hc : t * dg ys m ≤ r * B32 + dg U (j + m)) :
    t ≤ val B32 (U.drop j) / val B32 ys + 1 := by
  have hb := k.big
  refine trial_le (B := B32) k.v.2 k.w.1 (lt_succ_div _ _ k.pos) h.eq hc ?_
  refine Nat.le_trans ?_ k.v.1
  refine Nat.mul_le_mul_right _ ?_
  have : 1 * B32 ≤ dg ys (m + 1) * B32 := Nat.mul_le_mul_right _ (by omega)
  omega

theorem Trial.breaks {ys U : List Nat} {m j t r : Nat} (h : Trial ys U m j t r) (k : Knuth ys U m j) (hr : B32 ≤ r) : t < B32 ∧ t * dg ys m ≤ r * B32 + dg U (j + m) := by
  have h2 := k.two_lt
  have h1 : t < B32 := by
    rcases Nat.lt_or_ge t B32 with h3 | h3
    · exact h3
    · have h4 := Nat.mul_le_mul_right (dg ys (m + 1)) h3
      have := h.eq
      rw [Nat.add_mul, Nat.one_mul, Nat.mul_comm (dg ys (m + 1)) B32] at h2
      omega
  refine ⟨h1, ?_⟩
  have h3 := getD_lt B32_pos ys k.dy m
  have h4 : t * dg ys m ≤ B32 * B32 := Nat.mul_le_mul (by omega) (by omega)
  have h5 := Nat.mul_le_mul_right B32 hr
  omega

theorem Trial.bound {ys U : List Nat} {m j t r : Nat} (h : Trial ys U m j t r) (k : Knuth ys U m j) : t ≤ B32 + 2 := by
  have h1 := h.eq
  have h2 := k.two_lt
  have hb := k.big
  rcases Nat.lt_or_ge t (B32 + 3) with h3 | h3
  · omega
  · have h4 := Nat.mul_le_mul_right (dg ys (m + 1)) h3
    rw [Nat.add_mul, Nat.one_mul] at h2
    rw [Nat.add_mul] at h4
    rw [Nat.mul_comm (dg ys (m + 1)) B32] at h2
    have h5 : B32 = 4294967296 := rfl
    omega

/-- A row's upper part, where a window of it was changed. -/
theorem win_eq {L U : List Nat} {j n x br : Nat} (hw : WinOut L U j n) (hv : val B32 L + B32 ^ j * x = val B32 U + br * B32 ^ (j + n)) :
    val B32 (L.drop j) + x = val B32 (U.drop j) + br * B32 ^ n := by
  have h1 := val_take_drop0 B32 L j
  have h2 := val_take_drop0 B32 U j
  have h3 : L.take j = U.take j := take_eq_of hw.2.1 fun k hk => hw.2.2 k (.inl hk)
  rw [h3] at h1
  rw [Nat.pow_add] at hv
  have h4 : B32 ^ j * (val B32 (L.drop j) + x) = B32 ^ j * (val B32 (U.drop j) + br * B32 ^ n) := by
    rw [Nat.mul_add, Nat.mul_add]
    have : br * (B32 ^ j * B32 ^ n) = B32 ^ j * (br * B32 ^ n) := Nat.mul_left_comm _ _ _
    omega
  exact Nat.eq_of_mul_eq_mul_left (Nat.pow_pos B32_pos) h4

theorem drop_eq_win {L U : List Nat} {j n : Nat} (hw : WinOut L U j n) : L.drop (j + n) = U.drop (j + n) := by
  apply list_ext_dg
  · simp [hw.2.1]
  · intro k _
    rw [dg_drop, dg_drop]
    exact hw.2.2 _ (.inr (by omega))

theorem win_lt {L U : List Nat} {j n : Nat} (hw : WinOut L U j n) (hz : val B32 ((U.drop j).drop n) = 0) : val B32 (L.drop j) < B32 ^ n := by
  have h1 := val_take_drop0 B32 (L.drop j) n
  rw [List.drop_drop] at hz h1
  rw [drop_eq_win hw, hz] at h1
  have h2 := val_take_lt0 B32_pos (L.drop j) (fun x hx => hw.1 x (List.mem_of_mem_drop hx)) n
  omega

/-- The digit that is found is laid down. -/
theorem DivRel.next {A V n : Nat} {U Q L : List Nat} {j q : Nat} (h : DivRel A V n U Q (j + 1)) (hj : j < Q.length) (hw : WinOut L U j (n + 1)) (hq : q < B32)
    (hv : val B32 (L.drop j) + q * V = val B32 (U.drop j)) (hlt : val B32 (L.drop j) < V) : DivRel A V n L (Q.set j q) j := by
  refine ⟨hw.1, set_lt Q h.dQ j q hq, by rw [hw.2.1, List.length_set]; exact h.len, hlt, ?_, fun i hi => ?_⟩
  · have h1 := val_take_drop0 B32 L j
    have h2 := val_take_drop0 B32 U j
    have h3 : L.take j = U.take j := take_eq_of hw.2.1 fun k hk => hw.2.2 k (.inl hk)
    rw [h3] at h1
    have h4 := val_set B32 Q j q hj
    rw [h.zero j (by omega)] at h4
    have h5 : val B32 (Q.set j q) = val B32 Q + B32 ^ j * q := by omega
    have h6 := h.sum
    rw [h5, h1]
    rw [h2, ← hv] at h6
    rw [← h6]
    grind
  · rw [dg_set_ne (by omega)]
    exact h.zero i (by omega)

theorem DivRel.even {A m : Nat} {ys U Q L : List Nat} {j t r : Nat} (h : DivRel A (val B32 ys) (m + 2) U Q (j + 1)) (k : Knuth ys U m j) (ht : Trial ys U m j t r) (hj : j < Q.length) (hB : t < B32)
    (hw : WinOut L U j (m + 3)) (hv : val B32 L + B32 ^ j * (t * val B32 ys) = val B32 U + 0 * B32 ^ (j + (m + 3))) : DivRel A (val B32 ys) (m + 2) L (Q.set j t) j := by
  have h1 := win_eq hw hv
  rw [Nat.zero_mul, Nat.add_zero] at h1
  refine h.next hj hw hB h1 ?_
  have h2 := ht.ge
  have h3 := lt_succ_div (val B32 (U.drop j)) (val B32 ys) k.pos
  have h4 : (val B32 (U.drop j) / val B32 ys + 1) * val B32 ys ≤ (t + 1) * val B32 ys := Nat.mul_le_mul_right _ (by omega)
  rw [Nat.add_mul t, Nat.one_mul] at h4
  omega

theorem DivRel.owed {A m : Nat} {ys U Q L M : List Nat} {j t r co : Nat} (h : DivRel A (val B32 ys) (m + 2) U Q (j + 1)) (k : Knuth ys U m j) (_ : Trial ys U m j t r) (he : t ≤ val B32 (U.drop j) / val B32 ys + 1) (hj : j < Q.length) (hB : t < B32)
    (hw : WinOut L U j (m + 3)) (hv : val B32 L + B32 ^ j * (t * val B32 ys) = val B32 U + 1 * B32 ^ (j + (m + 3)))
    (hw2 : WinOut M L j (m + 3)) (hv2 : val B32 M + co * B32 ^ (j + (m + 3)) = val B32 L + B32 ^ j * val B32 ys) : 0 < t ∧ DivRel A (val B32 ys) (m + 2) M (Q.set j (t - 1)) j := by
  have h1 := win_eq hw hv
  have hwM : WinOut M U j (m + 3) := ⟨hw2.1, hw2.2.1.trans hw.2.1, fun i hi => (hw2.2.2 i hi).trans (hw.2.2 i hi)⟩
  have hl1 := win_lt hw k.z
  have hl2 := win_lt hwM k.z
  have h3 : val B32 (M.drop j) + co * B32 ^ (m + 3) = val B32 (L.drop j) + val B32 ys := by
    have e1 := val_take_drop0 B32 L j
    have e2 := val_take_drop0 B32 M j
    have e3 : M.take j = L.take j := take_eq_of hw2.2.1 fun k hk => hw2.2.2 k (.inl hk)
    rw [e3] at e2
    rw [Nat.pow_add] at hv2
    have e4 : B32 ^ j * (val B32 (M.drop j) + co * B32 ^ (m + 3)) = B32 ^ j * (val B32 (L.drop j) + val B32 ys) := by
      rw [Nat.mul_add, Nat.mul_add]
      have : co * (B32 ^ j * B32 ^ (m + 3)) = B32 ^ j * (co * B32 ^ (m + 3)) := Nat.mul_left_comm _ _ _
      omega
    exact Nat.eq_of_mul_eq_mul_left (Nat.pow_pos B32_pos) e4
  have hp := k.pos
  generalize hW : val B32 (U.drop j) = W at *
  generalize hV : val B32 ys = V at *
  generalize hP : B32 ^ (m + 3) = P at *
  have g1 : W < t * V := by omega
  have g2 : W / V < t := (Nat.div_lt_iff_lt_mul hp).2 g1
  have g4 := Nat.div_add_mod W V
  generalize W / V = wq at *
  obtain ⟨q, rfl⟩ : ∃ q, t = q + 1 := ⟨t - 1, by omega⟩
  have g3 : wq = q := by omega
  have g5 := Nat.mod_lt W hp
  rw [g3, Nat.mul_comm V q] at g4
  rw [Nat.add_mul, Nat.one_mul, Nat.one_mul] at h1
  have g6 : val B32 (M.drop j) + co * P = W % V + P := by omega
  have g7 : W < P := by rw [← hP, ← hW]; exact k.lt
  have g8 : W % V ≤ W := Nat.mod_le _ _
  have g9 : co = 1 := by
    rcases Nat.lt_trichotomy co 1 with c | c | c
    · have : co = 0 := by omega
      subst this; omega
    · exact c
    · have := Nat.mul_le_mul_right P c
      omega
  subst g9
  rw [Nat.one_mul] at g6
  have g10 : val B32 (M.drop j) = W % V := by omega
  refine ⟨by omega, ?_⟩
  simp only [Nat.add_sub_cancel]
  exact h.next hj hwM (by omega) (by omega) (by omega)

theorem MoreW.last {L X ys : List Nat} {j cr : Nat} (h : MoreW L X ys j ys.length cr) (hj : j + ys.length < X.length) :
    WinOut (L.set (j + ys.length) ((dg L (j + ys.length) + cr) % 4294967296)) X j (ys.length + 1) ∧
      val B32 (L.set (j + ys.length) ((dg L (j + ys.length) + cr) % 4294967296)) + ((dg L (j + ys.length) + cr) / 4294967296) * B32 ^ (j + (ys.length + 1)) = val B32 X + B32 ^ j * val B32 ys := by
  obtain ⟨h1, h2⟩ := h
  have hx : dg L (j + ys.length) = dg X (j + ys.length) := h1.2.2 _ (.inr (Nat.le_refl _))
  have hw := h1.step (v := (dg L (j + ys.length) + cr) % 4294967296) (Nat.mod_lt _ (by omega))
  refine ⟨hw, ?_⟩
  rw [List.take_length] at h2
  rw [hx] at hw ⊢
  have hd : (L.set (j + ys.length) ((dg X (j + ys.length) + cr) % 4294967296)).drop (j + ys.length + 1) = X.drop (j + ys.length + 1) := by
    apply list_ext_dg
    · simp [h1.2.1]
    · intro k hk
      rw [dg_drop, dg_drop]
      exact hw.2.2 _ (.inr (by omega))
  rw [val_take_drop B32 _ (j + ys.length + 1) (by rw [hw.2.1]; omega), val_take_drop B32 X (j + ys.length + 1) (by omega), hd]
  rw [val_take_succ, take_set_same, dg_set_same (by rw [h1.2.1]; exact hj), val_take_succ]
  have e2 := Nat.div_add_mod (dg X (j + ys.length) + cr) 4294967296
  rw [show (4294967296 : Nat) = B32 from rfl] at *
  generalize (dg X (j + ys.length) + cr) % B32 = pl at *
  generalize (dg X (j + ys.length) + cr) / B32 = ph at *
  generalize dg X (j + ys.length) = x at *
  generalize val B32 (X.drop (j + ys.length + 1)) = u at *
  generalize val B32 (L.take (j + ys.length)) = vl at *
  generalize val B32 (X.take (j + ys.length)) = vx at *
  rw [show j + (ys.length + 1) = j + ys.length + 1 by omega, Nat.pow_succ]
  generalize B32 ^ (j + ys.length) = P at *
  have e4 : P * (B32 * ph + pl) = P * (x + cr) := by rw [e2]
  grind

end Go.Slip
