/- Plain arithmetic of digit lists: what a list of digits to a base stands for, and the one list without noughts behind that stands for a number. No program is in sight here. -/
import Init
import Derived.WalkKit
import Derived.WalkSpells
import Derived.WalkLawsBesides
import Derived.Deep.QuietTactic
import Derived.BigQuiet
import Derived.StillTailTactics
import Derived.Lib.Hide
import Derived.Deep.DeepMust
import Derived.Maps.AppendAt
import Derived.Test.YtgbbhlginbmghaaGreatDoorProg
import Derived.KernelRfl
import Derived.ProofKit
import Derived.OpenShut
import Derived.ShutString
import Derived.ChangeOld
import Derived.Below
import Derived.Lib.TrailingZeros
import Derived.Laws.BitsAllLaws
import Derived.Test.YtgbbhlginbmghaaGreatDoorRows
import Derived.LaidMore
import Derived.Stop.Joined
import Derived.Deep.RegionHeld3
import Derived.IntWalk
import Derived.LoopN
import Derived.Deep.LoopGhost
import Derived.Test.YtgbbhlginbmghaaGreatDoorMCc1
set_option maxHeartbeats 8000000
set_option maxRecDepth 100000
namespace Go
theorem iwo {n : Int} (h : -9223372036854775808 ≤ n ∧ n ≤ 9223372036854775807 := by omega) : IntKind.i64.wrap n = n := IntWalk.i64_in n h
theorem lHd {p : Prop} (h : p) : RowKit.Hid p := Lib.hid h
end Go
namespace Go.Slip
def val (B : Nat) : List Nat → Nat
 | [] => 0
 | x :: xs => x + B * val B xs
def dg (xs : List Nat) (i : Nat) : Nat := xs[i]?.getD 0
theorem d0h {xs : List Nat} {i : Nat} (h : xs.length ≤ i) : dg xs i = 0 := by unfold dg; rw [List.getElem?_eq_none h]; rfl
theorem a0x {xs : List Nat} {i : Nat} (h : i < xs.length) : dg xs i = xs[i] := by unfold dg; simp [h]
theorem f0k {xs : List Nat} {i n : Nat} (h : i < n) : dg (xs.take n) i = dg xs i := by unfold dg; simp [h]
theorem f0l {xs : List Nat} {i n : Nat} : dg (xs.drop n) i = dg xs (n + i) := by unfold dg; simp
theorem b0k {xs : List Nat} {i v : Nat} (h : i < xs.length) : dg (xs.set i v) i = v := by unfold dg; simp [h]
theorem b0p {xs : List Nat} {i j v : Nat} (h : i ≠ j) : dg (xs.set i v) j = dg xs j := by unfold dg; simp [h]
theorem d0c (n i : Nat) : dg (List.replicate n 0) i = 0 := by unfold dg; by_cases h : i < n <;> simp [h]
theorem t0l {xs ys : List Nat} {i : Nat} (h : i < xs.length) : dg (xs ++ ys) i = dg xs i := by unfold dg; simp [List.getElem?_append, h]
theorem t0m {xs ys : List Nat} {i : Nat} (h : xs.length ≤ i) : dg (xs ++ ys) i = dg ys (i - xs.length) := by unfold dg; rw [List.getElem?_append_right h]
@[simp] theorem val_nil (B : Nat) : val B [] = 0 := rfl
@[simp] theorem val_cons (B x : Nat) (xs : List Nat) : val B (x :: xs) = x + B * val B xs := rfl
theorem l0m (B : Nat) (xs ys : List Nat) : val B (xs ++ ys) = val B xs + B ^ xs.length * val B ys := by
 induction xs with
 | nil => simp
 | cons x xs ih => simp only [List.cons_append, val_cons, ih, List.length_cons, Nat.pow_succ]; grind
theorem e0i (B : Nat) (xs : List Nat) (y : Nat) : val B (xs ++ [y]) = val B xs + B ^ xs.length * y := by
 rw [l0m]; simp
theorem j0a (B : Nat) (xs : List Nat) (h : ∀ x ∈ xs, x < B) : val B xs < B ^ xs.length := by
 induction xs with
 | nil => simp
 | cons x xs ih =>
  have h1 := ih (fun y hy => h y (by simp [hy]))
  have h2 := h x (by simp)
  simp only [val_cons, List.length_cons, Nat.pow_succ]
  have h3 : B * val B xs + B ≤ B * B ^ xs.length := by
   have : B * (val B xs + 1) ≤ B * B ^ xs.length := Nat.mul_le_mul_left _ h1
   rw [Nat.mul_add, Nat.mul_one] at this; exact this
  rw [Nat.mul_comm (B ^ xs.length) B]; omega
theorem c0b (B n : Nat) : val B (List.replicate n 0) = 0 := by
 induction n with
 | zero => rfl
 | succ n ih => simp [List.replicate_succ, ih]
theorem b0q (B : Nat) (xs : List Nat) (k : Nat) (hk : k ≤ xs.length) : val B xs = val B (xs.take k) + B ^ k * val B (xs.drop k) := by
 conv => lhs; rw [← List.take_append_drop k xs]
 rw [l0m, List.length_take, Nat.min_eq_left hk]
def dig (B : Nat) (n : Nat) : List Nat := if _h : 2 ≤ B ∧ 0 < n then n % B :: dig B (n / B) else []
termination_by n
decreasing_by exact Nat.div_lt_self _h.2 (by omega)
theorem a0e (B : Nat) : dig B 0 = [] := by rw [dig]; simp
theorem e0e {B n : Nat} (hB : 2 ≤ B) (h : 0 < n) : dig B n = n % B :: dig B (n / B) := by rw [dig, dif_pos ⟨hB, h⟩]
def e0q (xs : List Nat) : Prop := xs.getLast? ≠ some 0
theorem e0j {B : Nat} (hB : 2 ≤ B) (n : Nat) : val B (dig B n) = n ∧ (∀ x ∈ dig B n, x < B) ∧ e0q (dig B n) ∧ (0 < n → dig B n ≠ []) := by
 induction n using Nat.strongRecOn with
 | _ n ih =>
  by_cases h : 0 < n
  · obtain ⟨h1, h2, h3, h4⟩ := ih (n / B) (Nat.div_lt_self h (by omega))
    rw [e0e hB h]
    refine ⟨?_, ?_, ?_, by simp⟩
    · rw [val_cons, h1]; exact Nat.mod_add_div n B
    · intro x hx
      rcases List.mem_cons.1 hx with rfl | hx
      · exact Nat.mod_lt _ (by omega)
      · exact h2 x hx
    · unfold e0q at *
      by_cases h0 : 0 < n / B
      · have hne := h4 h0
        rw [List.getLast?_cons]
        cases hd : dig B (n / B) with
        | nil => exact absurd hd hne
        | cons y ys => rw [hd] at h3; simpa [List.getLast?_cons] using h3
      · have hz : n / B = 0 := by omega
        rw [hz, a0e]
        have : n % B = n := by
         have := Nat.mod_add_div n B; rw [hz] at this; simpa using this
        simp [this]; omega
  · have : n = 0 := by omega
    subst this
    rw [a0e]; exact ⟨rfl, by simp, by simp [e0q], by simp⟩
theorem b0o {B : Nat} (hB : 2 ≤ B) (n : Nat) : val B (dig B n) = n := (e0j hB n).1
theorem c0c {B : Nat} (hB : 2 ≤ B) (n : Nat) : ∀ x ∈ dig B n, x < B := (e0j hB n).2.1
theorem t0n {B : Nat} (hB : 2 ≤ B) (n : Nat) : e0q (dig B n) := (e0j hB n).2.2.1
theorem c1p {B : Nat} (hB : 2 ≤ B) : ∀ (xs : List Nat), e0q xs → xs ≠ [] → 0 < val B xs
 | [], _, h => absurd rfl h
 | [x], ht, _ => by
  have : x ≠ 0 := fun e => ht (by simp [e])
  simp; omega
 | x :: y :: ys, ht, _ => by
  have h1 : e0q (y :: ys) := by unfold e0q at *; simpa [List.getLast?_cons] using ht
  have h2 := c1p hB (y :: ys) h1 (by simp)
  rw [val_cons]
  have := Nat.mul_le_mul hB h2
  omega
theorem e0q.tail {x : Nat} {xs : List Nat} (h : e0q (x :: xs)) : e0q xs := by
 cases xs with
 | nil => simp [e0q]
 | cons y ys => unfold e0q at *; simpa [List.getLast?_cons] using h
theorem w0b {B : Nat} (hB : 2 ≤ B) : ∀ (xs : List Nat), (∀ x ∈ xs, x < B) → e0q xs → dig B (val B xs) = xs
 | [], _, _ => a0e B
 | x :: xs, hx, ht => by
  have h1 := w0b hB xs (fun y hy => hx y (by simp [hy])) ht.tail
  have h2 := c1p hB (x :: xs) ht (by simp)
  rw [e0e hB h2, val_cons]
  have h3 := hx x (by simp)
  rw [Nat.add_mul_mod_self_left, Nat.mod_eq_of_lt h3, Nat.add_mul_div_left _ _ (by omega), Nat.div_eq_of_lt h3, Nat.zero_add, h1]
theorem p0p {B : Nat} (hB : 2 ≤ B) (xs : List Nat) (n : Nat) (hx : ∀ x ∈ xs, x < B) (ht : e0q xs) (h : val B xs = n) : xs = dig B n := by
 rw [← h, w0b hB xs hx ht]
theorem a0g {B : Nat} (hB : 2 ≤ B) (n k : Nat) : (dig B n).length ≤ k ↔ n < B ^ k := by
 constructor
 · intro h
   have h1 := j0a B (dig B n) (c0c hB n)
   rw [b0o hB] at h1
   exact Nat.lt_of_lt_of_le h1 (Nat.pow_le_pow_right (by omega) h)
 · induction k generalizing n with
   | zero => intro h; have : n = 0 := by simpa using h
             subst this; rw [a0e]; simp
   | succ k ih =>
    intro h
    by_cases h0 : 0 < n
    · rw [e0e hB h0, List.length_cons]
      have := ih (n / B) (by
        rw [Nat.div_lt_iff_lt_mul (by omega)]; rwa [Nat.pow_succ] at h)
      omega
    · have : n = 0 := by omega
      subst this; rw [a0e]; simp
theorem e0f {B : Nat} (hB : 2 ≤ B) (n : Nat) (h : 0 < n) : B ^ ((dig B n).length - 1) ≤ n := by
 rcases Nat.lt_or_ge n (B ^ ((dig B n).length - 1)) with h1 | h1
 · have h2 := (a0g hB n _).2 h1
   have h3 := (e0j hB n).2.2.2 h
   have h4 : 0 < (dig B n).length := List.length_pos_iff.2 h3
   omega
 · exact h1
theorem p0q {B : Nat} (hB : 2 ≤ B) (n : Nat) : dig B n = [] ↔ n = 0 := by
 constructor
 · intro h
   rcases Nat.eq_zero_or_pos n with h0 | h0
   · exact h0
   · exact absurd h ((e0j hB n).2.2.2 h0)
 · rintro rfl; exact a0e B
theorem a0h {B : Nat} (hB : 2 ≤ B) (n : Nat) : (dig B n).length = 0 ↔ n = 0 := by
 rw [List.length_eq_zero_iff, p0q hB]
theorem a0l {B : Nat} (hB : 2 ≤ B) {m n : Nat} (h : m ≤ n) : (dig B m).length ≤ (dig B n).length := by
 rw [a0g hB]
 exact Nat.lt_of_le_of_lt h ((a0g hB n _).1 (Nat.le_refl _))
theorem p0i (B : Nat) (xs : List Nat) (m : Nat) (hm : m ≤ xs.length) (h : ∀ j, m ≤ j → dg xs j = 0) : val B (xs.take m) = val B xs := by
 rw [b0q B xs m hm]
 have : val B (xs.drop m) = 0 := by
  have h2 : xs.drop m = List.replicate (xs.length - m) 0 := by
   apply List.ext_getElem?
   intro j
   rw [List.getElem?_drop]
   by_cases hj : m + j < xs.length
   · have := h (m + j) (by omega)
     rw [a0x hj] at this
     rw [List.getElem?_eq_getElem hj, this, List.getElem?_replicate, if_pos (by omega)]
   · rw [List.getElem?_eq_none (by omega), List.getElem?_eq_none (by simp; omega)]
  rw [h2, c0b]
 rw [this]; simp
theorem y0c {B : Nat} (hB : 2 ≤ B) (xs : List Nat) (m : Nat) (hx : ∀ x ∈ xs, x < B) (hm : m ≤ xs.length) (h : ∀ j, m ≤ j → dg xs j = 0) (ht : m = 0 ∨ dg xs (m - 1) ≠ 0) :
 xs.take m = dig B (val B xs) := by
 refine p0p hB _ _ (fun x hxm => hx x (List.mem_of_mem_take hxm)) ?_ (p0i B xs m hm h)
 unfold e0q
 rcases ht with rfl | ht
 · simp
 · by_cases h0 : m = 0
   · subst h0; simp
   · rw [List.getLast?_eq_getElem?, List.length_take, Nat.min_eq_left hm, List.getElem?_take, if_pos (by omega)]
     intro e; unfold dg at ht; rw [e] at ht; simp at ht
theorem j0l {B : Nat} (hB : 2 ≤ B) (xs : List Nat) (m : Nat) (hx : ∀ x ∈ xs, x < B) (hm : m ≤ xs.length) (h : ∀ j, m ≤ j → dg xs j = 0) (ht : m = 0 ∨ dg xs (m - 1) ≠ 0) :
 (dig B (val B xs)).length = m := by
 rw [← y0c hB xs m hx hm h ht, List.length_take, Nat.min_eq_left hm]
theorem a1d {B : Nat} (hB : 2 ≤ B) (xs : List Nat) (hx : ∀ x ∈ xs, x < B) : (dig B (val B xs)).length ≤ xs.length := by
 rw [a0g hB]; exact j0a B xs hx
theorem c0d {B : Nat} (hB : 2 ≤ B) (xs : List Nat) (hx : ∀ x ∈ xs, x < B) : xs.take (dig B (val B xs)).length = dig B (val B xs) := by
 have : ∃ m, m ≤ xs.length ∧ (∀ j, m ≤ j → dg xs j = 0) ∧ (m = 0 ∨ dg xs (m - 1) ≠ 0) := by
  have key : ∀ n, n ≤ xs.length → (∀ j, n ≤ j → dg xs j = 0) → ∃ m, m ≤ xs.length ∧ (∀ j, m ≤ j → dg xs j = 0) ∧ (m = 0 ∨ dg xs (m - 1) ≠ 0) := by
   intro n
   induction n with
   | zero => intro _ h; exact ⟨0, by omega, h, .inl rfl⟩
   | succ n ih =>
    intro hn h
    by_cases h0 : dg xs n = 0
    · refine ih (by omega) fun j hj => ?_
      by_cases hjn : j = n
      · subst hjn; exact h0
      · exact h j (by omega)
    · exact ⟨n + 1, hn, h, .inr h0⟩
  exact key xs.length (Nat.le_refl _) fun j hj => d0h hj
 obtain ⟨m, h1, h2, h3⟩ := this
 rw [j0l hB xs m hx h1 h2 h3, y0c hB xs m hx h1 h2 h3]
theorem l0n (B : Nat) : ∀ (xs : List Nat) (j v : Nat), j < xs.length → val B (xs.set j v) + B ^ j * (dg xs j) = val B xs + B ^ j * v
 | [], j, v, h => by simp at h
 | x :: xs, 0, v, _ => by simp [dg]; omega
 | x :: xs, j + 1, v, h => by
  have ih := l0n B xs j v (by simpa using h)
  have e0 : dg (x :: xs) (j + 1) = dg xs j := by simp [dg]
  simp only [List.set_cons_succ, val_cons, e0]
  rw [Nat.pow_succ]
  have e : ∀ t, B ^ j * B * t = B * (B ^ j * t) := fun t => by grind
  rw [e, e]
  have : B * (val B (xs.set j v) + B ^ j * (dg xs j)) = B * (val B xs + B ^ j * v) := by rw [ih]
  rw [Nat.mul_add, Nat.mul_add] at this
  omega
theorem a0k (B : Nat) (xs : List Nat) (i : Nat) : val B (xs.take (i + 1)) = val B (xs.take i) + B ^ i * (dg xs i) := by
 by_cases h : i < xs.length
 · rw [List.take_succ_eq_append_getElem h, l0m, List.length_take, Nat.min_eq_left (by omega), a0x h]
   simp
 · rw [List.take_of_length_le (by omega), List.take_of_length_le (by omega), d0h (by omega)]
   simp
theorem d0d (B : Nat) (xs : List Nat) (i : Nat) (h : xs.length ≤ i) : val B (xs.take i) = val B xs := by rw [List.take_of_length_le h]
theorem j0m {B : Nat} (xs : List Nat) (hx : ∀ x ∈ xs, x < B) (h : xs = [] ∨ B ^ (xs.length - 1) ≤ val B xs) : e0q xs := by
 rcases h with rfl | h
 · simp [e0q]
 · unfold e0q
   intro h0
   have hne : xs ≠ [] := by rintro rfl; simp at h0
   have hl : 0 < xs.length := List.length_pos_iff.2 hne
   have h1 : dg xs (xs.length - 1) = 0 := by rw [List.getLast?_eq_getElem?] at h0; unfold dg; rw [h0]; rfl
   have h2 := a0k B xs (xs.length - 1)
   rw [show xs.length - 1 + 1 = xs.length by omega, List.take_length, h1] at h2
   have h3 := j0a B (xs.take (xs.length - 1)) (fun x hxm => hx x (List.mem_of_mem_take hxm))
   rw [List.length_take, Nat.min_eq_left (by omega)] at h3
   omega
theorem a0r {B : Nat} (hB : 0 < B) (xs : List Nat) (hx : ∀ x ∈ xs, x < B) (j : Nat) : dg xs j < B := by
 by_cases h : j < xs.length
 · rw [a0x h]; exact hx _ (List.getElem_mem h)
 · rw [d0h (by omega)]; exact hB
theorem j0b {B : Nat} (xs : List Nat) (hx : ∀ x ∈ xs, x < B) (j v : Nat) (hv : v < B) : ∀ x ∈ xs.set j v, x < B := by
 intro x h
 rcases List.mem_or_eq_of_mem_set h with h | rfl
 · exact hx x h
 · exact hv
/-! ### Addition, digit by digit -/
theorem y0d (B : Nat) (L : List Nat) (i d c T : Nat) (hi : i < L.length) (h : val B L + c * B ^ i = T) :
 val B (L.set i ((dg L i + d + c) % B)) + ((dg L i + d + c) / B) * B ^ (i + 1) = T + B ^ i * d := by
 have h1 := l0n B L i ((dg L i + d + c) % B) hi
 have h2 := Nat.div_add_mod (dg L i + d + c) B
 generalize (dg L i + d + c) % B = r at *
 generalize (dg L i + d + c) / B = q at *
 generalize dg L i = x at *
 rw [Nat.pow_succ]
 have h3 : B ^ i * (B * q + r) = B ^ i * (x + d + c) := by rw [h2]
 grind
theorem y0e {B : Nat} (hB : 2 ≤ B) (L : List Nat) (a b : Nat) (hx : ∀ x ∈ L, x < B) (hl : L.length = (dig B a).length) (h : val B L = a + b) : L = dig B (a + b) := by
 refine p0p hB L _ hx (j0m L hx ?_) h
 by_cases ha : 0 < a
 · right; rw [h, hl]; have := e0f hB a ha; omega
 · left
   have : a = 0 := by omega
   subst this
   rw [a0e] at hl
   exact List.eq_nil_of_length_eq_zero hl
theorem y0f {B : Nat} (hB : 2 ≤ B) (L : List Nat) (c n : Nat) (hx : ∀ x ∈ L, x < B) (hc : 0 < c) (hcB : c < B) (h : val B L + c * B ^ L.length = n) : L ++ [c] = dig B n := by
 refine p0p hB _ _ (fun x hm => ?_) ?_ (by rw [e0i, Nat.mul_comm]; exact h)
 · rcases List.mem_append.1 hm with h1 | h1
   · exact hx x h1
   · simp at h1; omega
 · unfold e0q; simp; omega
/-! ### Products, digit by digit -/
def l0o (B : Nat) (L xs ys : List Nat) (i k cr : Nat) : Prop :=
 (∀ x ∈ L, x < B) ∧ (∀ j, i + ys.length ≤ j → dg L j = 0) ∧ val B L + cr * B ^ (i + k) = val B (xs.take i) * val B ys + dg xs i * B ^ i * val B (ys.take k)
def h0j (B : Nat) (L xs ys : List Nat) (i : Nat) : Prop :=
 (∀ x ∈ L, x < B) ∧ (∀ j, i + ys.length ≤ j → dg L j = 0) ∧ val B L = val B (xs.take i) * val B ys
theorem h0j.start (B : Nat) (hB : 0 < B) (xs ys : List Nat) (n : Nat) : h0j B (List.replicate n 0) xs ys 0 :=
 ⟨fun x hx => by rw [(List.mem_replicate.1 hx).2]; exact hB, fun j _ => d0c n j, by simp [c0b]⟩
theorem h0j.enter {B : Nat} {L xs ys : List Nat} {i : Nat} (h : h0j B L xs ys i) : l0o B L xs ys i 0 0 := ⟨h.1, h.2.1, by rw [h.2.2]; simp⟩
theorem l0o.step {B : Nat} {L xs ys : List Nat} {i k cr t : Nat} (h : l0o B L xs ys i k cr) (hB : 0 < B) (hk : k < ys.length) (hj : i + k < L.length) (ht : t = dg xs i * dg ys k + dg L (i + k) + cr) :
 l0o B (L.set (i + k) (t % B)) xs ys i (k + 1) (t / B) := by
 have e : t = dg L (i + k) + dg xs i * dg ys k + cr := by omega
 refine ⟨j0b L h.1 _ _ (Nat.mod_lt _ hB), fun j hj2 => ?_, ?_⟩
 · rw [b0p (by omega)]; exact h.2.1 j hj2
 · have h1 := y0d B L (i + k) (dg xs i * dg ys k) cr _ hj h.2.2
   rw [e, ← Nat.add_assoc i k 1, h1, a0k]
   rw [Nat.pow_add]
   grind
theorem l0o.carry {B : Nat} {L xs ys : List Nat} {i k cr : Nat} (h : l0o B L xs ys i k cr) (hc : cr < B) (hx : dg xs i < B) (hy : dg ys k < B) : dg xs i * dg ys k + dg L (i + k) + cr < B * B := by
 have h1 := a0r (B := B) (by omega) L h.1 (i + k)
 have h2 : dg xs i * dg ys k ≤ (B - 1) * (B - 1) := Nat.mul_le_mul (by omega) (by omega)
 obtain ⟨b, rfl⟩ : ∃ b, B = b + 1 := ⟨B - 1, by omega⟩
 simp only [Nat.add_sub_cancel] at h2
 have h3 : (b + 1) * (b + 1) = b * b + 2 * b + 1 := by grind
 omega
theorem l0o.leave {B : Nat} {L xs ys : List Nat} {i k cr : Nat} (h : l0o B L xs ys i k cr) (hk : k = ys.length) (hj : i + k < L.length) (hc : cr < B) : h0j B (L.set (i + k) cr) xs ys (i + 1) := by
 subst hk
 refine ⟨j0b L h.1 _ _ hc, fun j hj2 => ?_, ?_⟩
 · rw [b0p (by omega)]; exact h.2.1 j (by omega)
 · have h1 := l0n B L (i + ys.length) cr hj
   have h2 := h.2.2
   rw [h.2.1 _ (Nat.le_refl _)] at h1
   rw [List.take_length] at h2
   rw [a0k]
   grind
theorem h0j.done {B : Nat} {L xs ys : List Nat} {i a b : Nat} (h : h0j B L xs ys i) (hi : xs.length ≤ i) (ha : val B xs = a) (hb : val B ys = b) : val B L = a * b := by
 rw [h.2.2, d0d _ _ _ hi, ha, hb]
/-! ### The two bases of the texts: 2 to the power of 32, and of 16 -/
def B32 : Nat := 4294967296
def B16 : Nat := 65536
theorem a0b : 2 ≤ B32 := by unfold B32; omega
theorem l0p : 2 ≤ B16 := by unfold B16; omega
theorem c0j : 0 < B32 := by unfold B32; omega
theorem c1q : 0 < B16 := by unfold B16; omega
def b0b (xs : List Nat) : Int := if 0 < xs.length ∧ dg xs (xs.length - 1) = 0 then 1 else if 1200 < xs.length then 2 else 0
theorem w0c {xs : List Nat} (h : ¬ (0 < xs.length ∧ dg xs (xs.length - 1) = 0)) : e0q xs := by
 unfold e0q
 intro h0
 have hl : 0 < xs.length := by
  rcases Nat.eq_zero_or_pos xs.length with h1 | h1
  · rw [List.eq_nil_of_length_eq_zero h1] at h0; simp at h0
  · exact h1
 refine h ⟨hl, ?_⟩
 rw [List.getLast?_eq_getElem?] at h0; unfold dg; rw [h0]; rfl
theorem e0r {xs : List Nat} (hx : ∀ x ∈ xs, x < B32) (h : b0b xs = 0) : xs = dig B32 (val B32 xs) ∧ xs.length ≤ 1200 := by
 unfold b0b at h
 split at h
 · omega
 · rename_i h1
   split at h
   · omega
   · exact ⟨(w0b a0b xs hx (w0c h1)).symm, by omega⟩
theorem c1r {B : Nat} (hB : 2 ≤ B) (n : Nat) : ¬ (0 < (dig B n).length ∧ dg (dig B n) ((dig B n).length - 1) = 0) := by
 rintro ⟨h1, h2⟩
 have h3 := t0n hB n
 apply h3
 rw [List.getLast?_eq_getElem?]
 unfold dg at h2
 rw [List.getElem?_eq_getElem (by omega)] at h2 ⊢
 simp at h2
 rw [h2]
theorem p0r (n : Nat) : b0b (dig B32 n) = if 1200 < (dig B32 n).length then 2 else 0 := by
 unfold b0b
 rw [if_neg (c1r a0b n)]
theorem l0o.leave0 {B : Nat} {L xs ys : List Nat} {i : Nat} (h : l0o B L xs ys i ys.length 0) : h0j B L xs ys (i + 1) := by
 refine ⟨h.1, fun j hj2 => h.2.1 j (by omega), ?_⟩
 have h2 := h.2.2
 rw [List.take_length] at h2
 rw [a0k]
 grind
def e0z (L xs ys : List Nat) (i k cr : Nat) : Prop := (k ≤ ys.length ∧ l0o B16 L xs ys i k cr) ∨ (k = ys.length + 1 ∧ cr = 0 ∧ h0j B16 L xs ys (i + 1))
theorem e0z.digits {L xs ys : List Nat} {i k cr : Nat} (h : e0z L xs ys i k cr) : ∀ x ∈ L, x < B16 := by
 rcases h with h | h
 · exact h.2.1
 · exact h.2.2.1
theorem e0z.step {L xs ys : List Nat} {i k cr : Nat} (h : e0z L xs ys i k cr) (hk : k < ys.length) (hj : i + k < L.length) :
 e0z (L.set (i + k) ((dg L (i + k) + cr + dg xs i * dg ys k) % 65536)) xs ys i (k + 1) ((dg L (i + k) + cr + dg xs i * dg ys k) / 65536) := by
 rcases h with ⟨_, h⟩ | ⟨h0, _⟩
 · exact .inl ⟨hk, h.step c1q hk hj (by omega)⟩
 · omega
theorem e0z.carry {L xs ys : List Nat} {i k cr : Nat} (h : e0z L xs ys i k cr) (hc : cr < 65536) (hx : dg xs i < 65536) (hy : dg ys k < 65536) : (dg L (i + k) + cr + dg xs i * dg ys k) / 65536 < 65536 := by
 have h1 := a0r (B := 65536) (by omega) L h.digits (i + k)
 have h2 : dg xs i * dg ys k ≤ 65535 * 65535 := Nat.mul_le_mul (by omega) (by omega)
 omega
theorem e0z.over {L xs ys : List Nat} {i k cr : Nat} (h : e0z L xs ys i k cr) (hk : ¬ k < ys.length) (h0 : 0 < cr) (hc : cr < 65536) (hj : i + ys.length < L.length) :
 k = ys.length ∧ dg L (i + k) = 0 ∧ e0z (L.set (i + k) cr) xs ys i (k + 1) 0 := by
 rcases h with ⟨h1, h⟩ | ⟨_, h2, _⟩
 · obtain rfl : k = ys.length := by omega
   exact ⟨rfl, h.2.1 _ (Nat.le_refl _), .inr ⟨rfl, rfl, h.leave rfl hj (by unfold B16; omega)⟩⟩
 · omega
theorem e0z.done {L xs ys : List Nat} {i k : Nat} (h : e0z L xs ys i k 0) (hk : ¬ k < ys.length) : h0j B16 L xs ys (i + 1) := by
 rcases h with ⟨h1, h⟩ | ⟨_, _, h⟩
 · obtain rfl : k = ys.length := by omega
   exact h.leave0
 · exact h
/-! ### Division by one digit, from above -/
theorem m0t (B : Nat) (xs : List Nat) (j : Nat) (hj : j < xs.length) : val B (xs.drop j) = dg xs j + B * val B (xs.drop (j + 1)) := by
 rw [List.drop_eq_getElem_cons hj, val_cons, a0x hj]
theorem q0y (L : List Nat) (j v : Nat) (hj : j < L.length) : (L.set j v).drop j = v :: L.drop (j + 1) := by
 rw [List.drop_eq_getElem_cons (by simpa using hj)]
 simp [List.drop_set_of_lt]
def SmallRel (B : Nat) (L xs : List Nat) (d k r : Nat) : Prop := (∀ x ∈ L, x < B) ∧ r < d ∧ val B (L.drop k) * d + r = val B (xs.drop k)
theorem SmallRel.step {B : Nat} {L xs : List Nat} {d k r : Nat} (h : SmallRel B L xs d (k + 1) r) (hk : k < xs.length) (hL : k < L.length) (hx : dg xs k < B) :
 SmallRel B (L.set k ((r * B + dg xs k) / d)) xs d k ((r * B + dg xs k) % d) ∧ (r * B + dg xs k) / d < B := by
 have hq : (r * B + dg xs k) / d < B := by
  rw [Nat.div_lt_iff_lt_mul (by have := h.2.1; omega)]
  have h1 : (r + 1) * B ≤ d * B := Nat.mul_le_mul_right _ h.2.1
  rw [Nat.add_mul, Nat.one_mul] at h1
  rw [Nat.mul_comm B d]; omega
 refine ⟨⟨j0b L h.1 _ _ hq, Nat.mod_lt _ (by have := h.2.1; omega), ?_⟩, hq⟩
 rw [q0y L k _ hL, val_cons, m0t B xs k hk, ← h.2.2]
 have h2 := Nat.div_add_mod (r * B + dg xs k) d
 generalize (r * B + dg xs k) / d = q at *
 generalize (r * B + dg xs k) % d = s at *
 generalize val B (L.drop (k + 1)) = v at *
 grind
theorem SmallRel.done {B : Nat} {L xs : List Nat} {d r a : Nat} (h : SmallRel B L xs d 0 r) (ha : val B xs = a) : val B L = a / d ∧ r = a % d := by
 have h1 := h.2.2
 simp only [List.drop_zero] at h1
 rw [ha] at h1
 have h2 := h.2.1
 rw [← h1, Nat.mul_comm]
 exact ⟨(by rw [Nat.mul_add_div (by omega), Nat.div_eq_of_lt h2, Nat.add_zero]), (by rw [Nat.mul_add_mod, Nat.mod_eq_of_lt h2])⟩
/-! ### Turned round -/
def h0q (L xs : List Nat) (i j : Nat) : Prop := L.length = xs.length ∧ i + j + 1 = xs.length + 0 ∧ ∀ t, t < xs.length → dg L t = if t < i ∨ j < t then dg xs (xs.length - 1 - t) else dg xs t
theorem c0p {xs ys : List Nat} (hl : xs.length = ys.length) (h : ∀ t, t < xs.length → dg xs t = dg ys t) : xs = ys := by
 apply List.ext_getElem hl
 intro t h1 h2
 have := h t h1
 rwa [a0x h1, a0x h2] at this
theorem p0s {xs : List Nat} {t : Nat} (h : t < xs.length) : dg xs.reverse t = dg xs (xs.length - 1 - t) := by
 rw [a0x (by simpa using h), a0x (by omega), List.getElem_reverse]
theorem h0q.step {L xs : List Nat} {i j : Nat} (h : h0q L xs i j) (hij : i < j) : h0q ((L.set i (dg L j)).set j (dg L i)) xs (i + 1) (j - 1) := by
 obtain ⟨h1, h2, h3⟩ := h
 refine ⟨by simpa using h1, by omega, fun t ht => ?_⟩
 have hi := h3 i (by omega)
 have hj := h3 j (by omega)
 rw [if_neg (by omega)] at hi hj
 by_cases e1 : t = j
 · subst e1
   rw [b0k (by simp; omega), if_pos (by omega), hi]
   congr 1; omega
 · rw [b0p (by omega)]
   by_cases e2 : t = i
   · subst e2
     rw [b0k (by omega), if_pos (by omega), hj]
     congr 1; omega
   · rw [b0p (by omega), h3 t ht]
     by_cases e3 : t < i ∨ j < t
     · rw [if_pos e3, if_pos (by omega)]
     · rw [if_neg e3, if_neg (by omega)]
theorem h0q.done {L xs : List Nat} {i j : Nat} (h : h0q L xs i j) (hij : ¬ i < j) : L = xs.reverse := by
 obtain ⟨h1, h2, h3⟩ := h
 refine c0p (by simpa using h1) fun t ht => ?_
 rw [h3 t (by omega), p0s (by omega)]
 by_cases e : t < i ∨ j < t
 · rw [if_pos e]
 · rw [if_neg e]; congr 1; omega
theorem h0q.start (xs : List Nat) (h : 0 < xs.length) : h0q xs xs 0 (xs.length - 1) :=
 ⟨rfl, by omega, fun t ht => by rw [if_neg (by omega)]⟩
/-! ### Decimal digits -/
def a0z (n : Nat) : List Nat := if n = 0 then [48] else (dig 10 n).reverse.map (· + 48)
def q0z (N : Nat) (D : List Nat) (i r a : Nat) : Prop :=
 (∀ x ∈ D, x < 10) ∧ r < 10 ^ (9 - i) ∧ N = val 10 D + 10 ^ D.length * (r + 10 ^ (9 - i) * a) ∧ (a = 0 → r = 0 → e0q D)
def k0c (N : Nat) (D : List Nat) (a : Nat) : Prop := (∀ x ∈ D, x < 10) ∧ N = val 10 D + 10 ^ D.length * a ∧ (a = 0 → e0q D)
theorem k0c.start (N : Nat) : k0c N [] N := ⟨by simp, by simp, fun _ => by simp [e0q]⟩
theorem k0c.enter {N : Nat} {D : List Nat} {a : Nat} (h : k0c N D a) (ha : 0 < a) : q0z N D 0 (a % 1000000000) (a / 1000000000) := by
 refine ⟨h.1, by have := Nat.mod_lt a (show 0 < 1000000000 by omega); simpa using this, ?_, fun h1 h2 => by omega⟩
 rw [h.2.1]
 congr 2
 have := Nat.mod_add_div a 1000000000
 omega
theorem q0z.step {N : Nat} {D : List Nat} {i r a : Nat} (h : q0z N D i r a) (hi : i < 9) (hc : 0 < r ∨ 0 < a) : q0z N (D ++ [r % 10]) (i + 1) (r / 10) a := by
 obtain ⟨h1, h2, h3, h4⟩ := h
 have e : 9 - i = 9 - (i + 1) + 1 := by omega
 rw [e, Nat.pow_succ] at h2 h3
 refine ⟨fun x hx => ?_, by omega, ?_, fun ha hr => ?_⟩
 · rcases List.mem_append.1 hx with hx | hx
   · exact h1 x hx
   · simp at hx; omega
 · rw [h3, e0i, List.length_append, List.length_singleton, Nat.pow_succ]
   have := Nat.mod_add_div r 10
   generalize r % 10 = s at *
   generalize r / 10 = q at *
   subst this
   grind
 · unfold e0q; simp; omega
theorem q0z.leave {N : Nat} {D : List Nat} {i r a : Nat} (h : q0z N D i r a) (hi : i ≤ 9) (hc : ¬ (i < 9 ∧ (0 < r ∨ 0 < a))) : k0c N D a := by
 obtain ⟨h1, h2, h3, h4⟩ := h
 have hr : r = 0 := by
  by_cases hi9 : i < 9
  · omega
  · have : i = 9 := by omega
    subst this; simp at h2; exact h2
 subst hr
 refine ⟨h1, ?_, fun ha => h4 ha rfl⟩
 rw [h3]
 by_cases hi9 : i < 9
 · have : a = 0 := by omega
   subst this; simp
 · have : i = 9 := by omega
   subst this; simp
theorem k0c.done {N : Nat} {D : List Nat} (h : k0c N D 0) : D = dig 10 N := p0p (by omega) D N h.1 (h.2.2 rfl) (by rw [h.2.1]; simp)
theorem q0z.size {N : Nat} {D : List Nat} {i r a : Nat} (h : q0z N D i r a) (hc : 0 < r ∨ 0 < a) : D.length ≤ 32 * (dig B32 N).length := by
 have h1 : 10 ^ D.length ≤ N := by
  rw [h.2.2.1]
  have : 0 < r + 10 ^ (9 - i) * a := by
   rcases hc with hc | hc
   · omega
   · have := Nat.mul_pos (show 0 < 10 ^ (9 - i) from Nat.pow_pos (by omega)) hc; omega
  have := Nat.le_mul_of_pos_right (10 ^ D.length) this
  omega
 have h2 := (a0g a0b N _).1 (Nat.le_refl _)
 have h3 : B32 ^ (dig B32 N).length = 2 ^ (32 * (dig B32 N).length) := by rw [Nat.pow_mul]; congr 1
 have h4 : 2 ^ D.length ≤ 10 ^ D.length := Nat.pow_le_pow_left (by omega) _
 have h5 : 2 ^ D.length < 2 ^ (32 * (dig B32 N).length) := by rw [← h3]; omega
 exact Nat.le_of_lt ((Nat.pow_lt_pow_iff_right (by omega)).1 h5)
theorem i1b (N : Nat) : (dig 10 N).length ≤ 32 * (dig B32 N).length := by
 rw [a0g (by omega)]
 have h2 := (a0g a0b N _).1 (Nat.le_refl _)
 have h3 : B32 ^ (dig B32 N).length = 2 ^ (32 * (dig B32 N).length) := by rw [Nat.pow_mul]; congr 1
 have h4 : 2 ^ (32 * (dig B32 N).length) ≤ 10 ^ (32 * (dig B32 N).length) := Nat.pow_le_pow_left (by omega) _
 omega
theorem b0l {B : Nat} (hB : 2 ≤ B) (a b : Nat) : (dig B (a * b)).length ≤ (dig B a).length + (dig B b).length := by
 rw [a0g hB, Nat.pow_add]
 exact Nat.mul_lt_mul'' ((a0g hB a _).1 (Nat.le_refl _)) ((a0g hB b _).1 (Nat.le_refl _))
theorem f0m {B : Nat} (hB : 2 ≤ B) (a b : Nat) : (dig B (a + b)).length ≤ (dig B a).length + (dig B b).length + 1 := by
 rw [a0g hB]
 have h1 := (a0g hB a _).1 (Nat.le_refl _)
 have h2 := (a0g hB b _).1 (Nat.le_refl _)
 have h3 : B ^ (dig B a).length ≤ B ^ ((dig B a).length + (dig B b).length) := Nat.pow_le_pow_right (by omega) (by omega)
 have h4 : B ^ (dig B b).length ≤ B ^ ((dig B a).length + (dig B b).length) := Nat.pow_le_pow_right (by omega) (by omega)
 rw [Nat.pow_succ]
 have := Nat.mul_le_mul_left (B ^ ((dig B a).length + (dig B b).length)) hB
 omega
end Go.Slip
namespace Go.Slip
open Go.RowKit
def r1i : Value → Nat | .slice _ n _ => n | _ => 0
theorem t0o {p : OA} {n m c : Nat} (h : n = m) : Ending.returned (.slice p n c) = .returned (.slice p m c) := by rw [h]
theorem j0n {k : IntKind} {m n : Int} (h : m = n) : Ending.returned (.int k m) = .returned (.int k n) := by rw [h]
theorem i1c {m n : Bool} (h : m = n) : Ending.returned (.bool m) = .returned (.bool n) := by rw [h]
theorem or32 (r x : Nat) (hr : r < 4294967296) (hx : x < 4294967296) : bits .or .u64 ((r : Int) * 4294967296) (x : Int) = (r : Int) * 4294967296 + (x : Int) := by
 have h := u64_or_nat (r * 4294967296) x (by omega) (by omega)
 rw [nat_join 32 (r * 4294967296) x (by omega) (by omega)] at h
 simp only [Int.natCast_add, Int.natCast_mul] at h
 exact h
def at_ (p : OA) (j : Nat) : Addr := ⟨(p.getD ⟨0, 0, none⟩).block, (p.getD ⟨0, 0, none⟩).off + j, none⟩
def blk (p : OA) : Nat := (p.getD ⟨0, 0, none⟩).block
@[simp] theorem at_block (p : OA) (j : Nat) : (at_ p j).block = blk p := rfl
def h0m (p : OA) (n : Nat) : Prop := 0 < n → p.isSome = true ∧ (p.getD ⟨0, 0, none⟩).spot = none
theorem h0m.mono {p : OA} {n m : Nat} (h : h0m p n) (hm : m ≤ n) : h0m p m := fun h0 => h (by omega)
theorem h0m.some {p : OA} {n : Nat} (h : h0m p n) (h0 : 0 < n) : p = some ⟨blk p, (p.getD ⟨0, 0, none⟩).off, none⟩ := by
 obtain ⟨h1, h2⟩ := h h0
 cases p with
 | none => simp at h1
 | some a => cases a; simp [blk] at *; exact h2
structure Rd (w : World) (k : IntKind) (p : OA) (xs : List Nat) : Prop where
 solid : h0m p xs.length
 cells : ∀ j, j < xs.length → w.cell? (at_ p j) = some (.int k ((dg xs j : Nat) : Int))
theorem Rd.nil (w : World) (k : IntKind) (p : OA) : Rd w k p [] := ⟨fun h => by simp at h, fun j hj => by simp at hj⟩
theorem Rd.lt {w : World} {k : IntKind} {p : OA} {xs : List Nat} (h : Rd w k p xs) (h0 : 0 < xs.length) : blk p < w.heap.size :=
 World.block_lt_of_cell? w (at_ p 0) (h.cells 0 h0)
theorem Rd.same {w w' : World} {k : IntKind} {p : OA} {xs : List Nat} (h : Rd w k p xs) (hb : 0 < xs.length → w'.heap[blk p]? = w.heap[blk p]?) : Rd w' k p xs :=
 ⟨h.solid, fun j hj => by rw [World.cell?_of_block (w := w) (a := at_ p j) (hb (by omega))]; exact h.cells j hj⟩
theorem Rd.below {w w' : World} {B : Nat} {k : IntKind} {p : OA} {xs : List Nat} (h : Rd w k p xs) (hb : Below B w w') (hp : 0 < xs.length → blk p < B) : Rd w' k p xs :=
 h.same fun h0 => hb.block _ (hp h0)
theorem Rd.past {w w' : World} {k : IntKind} {p : OA} {xs : List Nat} (h : Rd w k p xs) (hb : Below w.heap.size w w') : Rd w' k p xs :=
 h.below hb fun h0 => h.lt h0
theorem Rd.grown {w w' : World} {k : IntKind} {p : OA} {xs : List Nat} {row : Option Nat} (h : Rd w k p xs) (hg : w.grownBy w' row) (hne : some (blk p) ≠ row) : Rd w' k p xs :=
 h.same fun h0 => hg.block _ (h.lt h0) hne
theorem Rd.take {w : World} {k : IntKind} {p : OA} {xs : List Nat} (h : Rd w k p xs) (n : Nat) : Rd w k p (xs.take n) := by
 refine ⟨h.solid.mono (by simp; omega), fun j hj => ?_⟩
 rw [h.cells j (by simp at hj; omega)]
 simp only [List.length_take] at hj
 rw [f0k (by omega)]
theorem r0a (p : OA) (m : Nat) (hp : p.isSome = true) : ((p.map (·.add m)).getD ⟨0, 0, none⟩) = (p.getD ⟨0, 0, none⟩).add m := by
 cases p <;> simp at *
theorem c1s (p : OA) (m j : Nat) (hp : p.isSome = true) : at_ (p.map (·.add m)) j = at_ p (m + j) := by
 unfold at_
 rw [r0a p m hp]
 unfold Addr.add
 split <;> simp_all [Nat.add_assoc]
theorem Rd.drop {w : World} {k : IntKind} {p : OA} {xs : List Nat} (h : Rd w k p xs) (n : Nat) : Rd w k (p.map (·.add n)) (xs.drop n) := by
 refine ⟨fun h0 => ?_, fun j hj => ?_⟩
 · have h1 := h.solid (by simp at h0; omega)
   refine ⟨by simpa using h1.1, ?_⟩
   rw [r0a p n h1.1]
   unfold Addr.add
   split
   · exact h1.2
   · rfl
 · simp only [List.length_drop] at hj
   have h1 := h.solid (by omega)
   rw [c1s p n j h1.1, h.cells (n + j) (by omega), f0l]
def Own (w : World) (base : Nat) (k : IntKind) (e : TypeId) (p : OA) (c : Nat) (xs : List Nat) : Prop :=
 w.ownsRow base e 1 (.slice p xs.length c) xs.length (xs.map fun x : Nat => Value.int k (x : Int))
theorem Own.nil (w : World) (base : Nat) (k : IntKind) (e : TypeId) : Own w base k e none 0 [] := World.ownsRow_nil w base e 1
theorem Own.form {w : World} {base : Nat} {k : IntKind} {e : TypeId} {p : OA} {c : Nat} {xs : List Nat} (h : Own w base k e p c xs) :
 (p = none ∧ c = 0 ∧ xs = []) ∨ ∃ g, p = some ⟨g, 0, none⟩ ∧ base ≤ g ∧ g < w.heap.size ∧ xs.length ≤ c ∧ c ≤ maxLen := by
 rcases h.2 with ⟨h1, h2⟩ | ⟨g, cap, cur, hv, hb, hg, hn, hc, _, _⟩
 · left
   simp only [Value.slice.injEq] at h1
   exact ⟨h1.1, h1.2.2, List.eq_nil_of_length_eq_zero h2⟩
 · right
   simp only [Value.slice.injEq] at hv
   obtain ⟨rfl, _, rfl⟩ := hv
   exact ⟨g, rfl, hb, (Array.getElem?_eq_some_iff.1 hg).1, hn, hc⟩
theorem Own.mono {w : World} {base b' : Nat} {k : IntKind} {e : TypeId} {p : OA} {c : Nat} {xs : List Nat} (h : Own w base k e p c xs) (hb : b' ≤ base) : Own w b' k e p c xs := by
 refine ⟨h.1, ?_⟩
 rcases h.2 with h1 | ⟨g, cap, cur, hv, hbg, r⟩
 · exact .inl h1
 · exact .inr ⟨g, cap, cur, hv, by omega, r⟩
theorem Own.le_cap {w : World} {base : Nat} {k : IntKind} {e : TypeId} {p : OA} {c : Nat} {xs : List Nat} (h : Own w base k e p c xs) : xs.length ≤ c := by
 rcases h.form with ⟨_, rfl, rfl⟩ | ⟨g, _, _, _, h, _⟩
 · simp
 · exact h
theorem Own.rd {w : World} {base : Nat} {k : IntKind} {e : TypeId} {p : OA} {c : Nat} {xs : List Nat} (h : Own w base k e p c xs) : Rd w k p xs := by
 rcases h.form with ⟨rfl, _, rfl⟩ | ⟨g, rfl, _⟩
 · exact Rd.nil w k none
 · refine ⟨fun _ => ⟨rfl, rfl⟩, fun j hj => ?_⟩
   have h1 := World.ownsRow.cellAt (w := w) (base := base) (e := e) (size := 1) (g := g) (n := xs.length) (cap := c) h j (by omega)
   simp only [at_, Option.getD_some, Nat.zero_add]
   rw [h1]
   simp [hj, a0x]
theorem Own.solid {w : World} {base : Nat} {k : IntKind} {e : TypeId} {p : OA} {c : Nat} {xs : List Nat} (h : Own w base k e p c xs) : h0m p xs.length := h.rd.solid
theorem Own.blk_lt {w : World} {base : Nat} {k : IntKind} {e : TypeId} {p : OA} {c : Nat} {xs : List Nat} (h : Own w base k e p c xs) (hp : p.isSome = true) : base ≤ blk p ∧ blk p < w.heap.size := by
 rcases h.form with ⟨rfl, _, rfl⟩ | ⟨g, rfl, h1, h2, _⟩
 · simp at hp
 · exact ⟨h1, h2⟩
theorem Own.same {w w' : World} {base : Nat} {k : IntKind} {e : TypeId} {p : OA} {c : Nat} {xs : List Nat} (h : Own w base k e p c xs) (hb : p.isSome = true → w'.heap[blk p]? = w.heap[blk p]?) : Own w' base k e p c xs := by
 refine ⟨h.1, ?_⟩
 rcases h.2 with h1 | ⟨g, cap, cur, hv, hbg, hg, r⟩
 · exact .inl h1
 · simp only [Value.slice.injEq] at hv
   obtain ⟨rfl, h2, rfl⟩ := hv
   exact .inr ⟨g, c, cur, rfl, hbg, by rw [← hg]; exact hb rfl, r⟩
theorem Own.below {w w' : World} {base B : Nat} {k : IntKind} {e : TypeId} {p : OA} {c : Nat} {xs : List Nat} (h : Own w base k e p c xs) (hb : Below B w w') (hp : p.isSome = true → blk p < B) : Own w' base k e p c xs :=
 h.same fun h0 => hb.block _ (hp h0)
theorem Own.past {w w' : World} {base : Nat} {k : IntKind} {e : TypeId} {p : OA} {c : Nat} {xs : List Nat} (h : Own w base k e p c xs) (hb : Below w.heap.size w w') : Own w' base k e p c xs :=
 h.below hb fun h0 => (h.blk_lt h0).2
theorem Own.grown {w w' : World} {base : Nat} {k : IntKind} {e : TypeId} {p : OA} {c : Nat} {xs : List Nat} {row : Option Nat} (h : Own w base k e p c xs) (hg : w.grownBy w' row) (hne : p.isSome = true → some (blk p) ≠ row) : Own w' base k e p c xs :=
 h.same fun h0 => hg.block _ (h.blk_lt h0).2 (hne h0)
theorem Rd.drew {w : World} {k : IntKind} {p : OA} {xs : List Nat} (h : Rd w k p xs) : Rd w.drew k p xs := ⟨h.solid, h.cells⟩
theorem Own.drew {w : World} {base : Nat} {k : IntKind} {e : TypeId} {p : OA} {c : Nat} {xs : List Nat} (h : Own w base k e p c xs) : Own w.drew base k e p c xs := ⟨h.1, h.2⟩
theorem Rd.drewN {w : World} {k : IntKind} {p : OA} {xs : List Nat} (h : Rd w k p xs) (n : Nat) : Rd (w.drewN n) k p xs := h.past (below_drewN (Below.refl _ _) n)
theorem Own.drewN {w : World} {base : Nat} {k : IntKind} {e : TypeId} {p : OA} {c : Nat} {xs : List Nat} (h : Own w base k e p c xs) (n : Nat) : Own (w.drewN n) base k e p c xs := h.past (below_drewN (Below.refl _ _) n)
theorem Own.laid {w : World} {base : Nat} {k : IntKind} {e : TypeId} {p : OA} {c : Nat} {xs : List Nat} (h : Own w base k e p c xs) (o : Obj) : Own (w.alloc o) base k e p c xs :=
 h.past ((Below.refl _ _).alloc (Nat.le_refl _) o)
theorem Rd.laid {w : World} {k : IntKind} {p : OA} {xs : List Nat} (h : Rd w k p xs) (o : Obj) : Rd (w.alloc o) k p xs :=
 h.past ((Below.refl _ _).alloc (Nat.le_refl _) o)
theorem Own.take {w : World} {base : Nat} {k : IntKind} {e : TypeId} {p : OA} {c : Nat} {xs : List Nat} (h : Own w base k e p c xs) (n : Nat) : Own w base k e p c (xs.take n) := by
 by_cases hn : xs.length ≤ n
 · rw [List.take_of_length_le hn]; exact h
 · refine ⟨by simp, ?_⟩
   rcases h.2 with ⟨h1, h2⟩ | ⟨g, cap, cur, hv, hbg, hg, hnc, hc, hcs, htake⟩
   · omega
   · simp only [Value.slice.injEq] at hv
     obtain ⟨rfl, _, rfl⟩ := hv
     have hl : (xs.take n).length = n := by simp; omega
     refine .inr ⟨g, c, cur, by rw [hl], hbg, hg, by omega, hc, hcs, ?_⟩
     rw [hl, Nat.mul_one, List.map_take, ← htake, List.take_take]
     congr 1
     omega
theorem g0g {w : World} {base : Nat} {k : IntKind} {e : TypeId} {p : OA} {c : Nat} {xs : List Nat} (h : Own w base k e p c xs) (j : Nat) (hj : j < xs.length) (n : Nat) :
 Own (w.setCell (at_ p j) (.int k (n : Int))) base k e p c (xs.set j n) ∧ w.grownBy (w.setCell (at_ p j) (.int k (n : Int))) (some (blk p)) ∧ base ≤ blk p := by
 rcases h.form with ⟨rfl, _, rfl⟩ | ⟨g, rfl, hb, _⟩
 · simp at hj
 · have h1 := World.ownsRow.stored (w := w) (base := base) (e := e) (size := 1) (g := g) (n := xs.length) (cap := c) h j (.int k (n : Int))
   simp only [at_, Option.getD_some, Nat.zero_add]
   refine ⟨?_, h1.2, hb⟩
   unfold Own
   rw [List.length_set, List.map_set]
   exact h1.1
theorem f0g {w : World} {base : Nat} {k : IntKind} {e : TypeId} {p : OA} {c : Nat} {xs : List Nat} (h : Own w base k e p c xs) (j : Nat) (hj : j < xs.length) : w.frozen? (at_ p j) = false := by
 rcases h.form with ⟨rfl, _, rfl⟩ | ⟨g, rfl, hb, _⟩
 · simp at hj
 · simpa [at_] using World.ownsRow.frozenAt (w := w) (base := base) (e := e) (size := 1) (g := g) (n := xs.length) (cap := c) h j
def n0e (p q : OA) (ys : List Nat) : Prop := 0 < ys.length → p.isSome = true → blk p ≠ blk q
theorem n0e.none (q : OA) (ys : List Nat) : n0e none q ys := fun _ h => by simp at h
theorem Rd.appended {w w' : World} {k : IntKind} {p q : OA} {ys : List Nat} (h : Rd w k q ys) (hg : w.grownBy w' (p.map (·.block))) (ha : n0e p q ys) : Rd w' k q ys := by
 refine h.same fun h0 => hg.block _ (h.lt h0) fun e => ?_
 cases p with
 | none => simp at e
 | some a => simp at e; exact ha h0 rfl e.symm
theorem Rd.written {w w' : World} {k : IntKind} {p q : OA} {ys : List Nat} (h : Rd w k q ys) (hg : w.grownBy w' (some (blk p))) (ha : n0e p q ys) (hp : p.isSome = true) : Rd w' k q ys :=
 h.same fun h0 => hg.block _ (h.lt h0) fun e => ha h0 hp (by simpa using e.symm)
theorem n0e.next {w : World} {k : IntKind} {p p' q : OA} {ys : List Nat} (h : n0e p q ys) (hr : Rd w k q ys) (hat : p'.isSome = true → p.map (·.block) = some (blk p') ∨ blk p' = w.heap.size) : n0e p' q ys := by
 intro h0 hp
 rcases hat hp with e | e
 · cases p with
   | none => simp at e
   | some a => simp at e; rw [← e]; exact h h0 rfl
 · have := hr.lt h0; omega
section laws
variable {P : Program} (w : World)
theorem c1t (p : OA) (n j : Nat) (h : h0m p n) (h0 : 0 < n) : (p.getD ⟨0, 0, none⟩).add j = at_ p j := by
 have h1 := h h0
 unfold Addr.add at_
 split
 · rename_i hj; subst hj
   generalize p.getD ⟨0, 0, none⟩ = a at *
   cases a; simp at *; exact h1.2
 · rfl
@[go_sem] theorem run_indexAt_solid (t : TypeId) (p : OA) (n c : Nat) (k : IntKind) (i : Int) (h : P.underlying t = some (.slice (P.elem t))) (hp : h0m p n) :
 (Instr.indexAt t (.slice p n c) (.int k i)).run P w =
  if 0 ≤ i ∧ i < n then ((sizeOf (P.elem t)).run P w).andThen fun s w => .ok (.pointer (some (at_ p (i.toNat * s)))) w else (boundsPanic k i n .index).run P w := by
 cases p with
 | none =>
  have hn : n = 0 := by
   rcases Nat.eq_zero_or_pos n with h0 | h0
   · exact h0
   · have := (hp h0).1; simp at this
  subst hn
  rw [if_neg (by omega)]
  simp [Instr.indexAt, run_underlying h, asIntOf]
 | some a =>
  rw [run_indexAt_slice (h := h)]
  by_cases hi : 0 ≤ i ∧ i < n
  · rw [if_pos hi, if_pos hi]
    have ha := fun s => c1t (some a) n (i.toNat * s) hp (by omega)
    simp only [Option.getD_some] at ha
    simp only [ha]
  · rw [if_neg hi, if_neg hi]
@[go_sem] theorem run_eql_slice_none (t : TypeId) (p : OA) (n c : Nat) (h : P.underlying t = some (.slice (P.elem t))) :
 (binOp .eql t (.slice p n c) (.slice none 0 0)).run P w = .ok (.bool p.isNone) w := Lib.run_eql_slice_nil w t (P.elem t) p n c 0 0 h
end laws
structure SlTy (P : Program) (t e : TypeId) (k : IntKind) (bytes : Nat) : Prop where
 ht : P.underlying t = some (.slice e)
 hi : ∃ i, P.info? e = some i ∧ i.zero = some (.int k 0) ∧ i.size = 1 ∧ i.bytes = bytes
 le : bytes ≤ 8
section walk
variable {P : Program} {ops : Array Oper} {rest : List Oper} {o : Oper} {a : Act} {K : Act → World → Prop} {Q : Exit → Act → World → Prop} {w : World}
theorem c0w {w w' : World} {B : Nat} {row : Option Nat} (hg : w.grownBy w' row) (hB : B ≤ w.heap.size) (hr : ∀ k, row = some k → B ≤ k) : Below B w w' :=
 (Below.refl B w).grown hg hB hr
theorem i1d (x y : Operand) (t : TypeId) (ho : o.op = .store t x y) {ts k bytes} (e : TypeId) (hty : SlTy P ts t k bytes)
 (base : Nat) (p : OA) (c : Nat) (xs : List Nat) (hown : Own w base k e p c xs) (j : Nat) (hj : j < xs.length) (n : Int) (h0 : 0 ≤ n)
 (hx : a.eval x = .pointer (some (at_ p j))) (hy : a.eval y = .int k n)
 (h : ∀ w', Own w' base k e p c (xs.set j n.toNat) → w.grownBy w' (some (blk p)) → Below base w w' → K (a.put o.dst undef) w') : o.wp P a w K Q := by
 obtain ⟨i, hi, hz, hs, hb⟩ := hty.hi
 have h1 := g0g hown j hj n.toNat
 have h2 := f0g hown j hj
 have h3 := hown.rd.cells j hj
 have en : (n.toNat : Int) = n := Int.toNat_of_nonneg h0
 rw [en] at h1
 unfold Oper.wp execOp
 simp only [ho, hx, hy, Instr.storeAt, Instr.sureAddr]
 have e1 : (storeVar t (at_ p j) (.int k n)).run P w = .ok () (w.setCell (at_ p j) (.int k n)) := by
  have ha : (at_ p j).add 0 = at_ p j := by simp [Addr.add]
  simp [storeVar, sizeOf, typeInfo, hi, hs, Value.cells, storeCells, ha, store, Sem.run, h2, h3]
 simp [e1, Oper.upon]
 have hlt := hown.rd.lt (by omega)
 exact (h _ h1.1 h1.2.1 (c0w h1.2.1 (Nat.le_of_lt (Nat.lt_of_le_of_lt h1.2.2 hlt)) (fun k hk => by cases hk; exact h1.2.2)))
theorem b0a (hgd : o.guard = none) (x y : Operand) (t : TypeId) (ho : o.op = .store t x y) {ts k bytes} (e : TypeId) (hty : SlTy P ts t k bytes)
 (base : Nat) (p : OA) (c : Nat) (xs : List Nat) (hown : Own w base k e p c xs) (j : Nat) (hj : j < xs.length) (n : Int) (h0 : 0 ≤ n)
 (hx : a.eval x = .pointer (some (at_ p j))) (hy : a.eval y = .int k n)
 (h : ∀ w', Own w' base k e p c (xs.set j n.toNat) → w.grownBy w' (some (blk p)) → Below base w w' → wpList P ops Q rest (a.put o.dst undef) w') : wpList P ops Q (o :: rest) a w :=
 wpList_plain hgd fun _ hK => i1d x y t ho e hty base p c xs hown j hj n h0 hx hy fun w' h900 h901 h902 => hK _ _ (h w' h900 h901 h902)
theorem w0d {k : IntKind} {xs : List Nat} : ∀ u ∈ xs.map (fun x : Nat => Value.int k (x : Int)), u.oneCell' = true := by
 intro u hu
 obtain ⟨x, _, rfl⟩ := List.mem_map.1 hu
 rfl
theorem r0b (w : World) {t e : TypeId} {k : IntKind} {bytes : Nat} (hty : SlTy P t e k bytes) (ty : TypeId) (base : Nat) (p : OA) (c : Nat) (xs : List Nat) (hown : Own w base k e p c xs)
 (q : OA) (c2 : Nat) (ys : List Nat) (hrd : Rd w k q ys) (hb : (xs.length + ys.length) * bytes ≤ 140737488355328) (h63 : xs.length + ys.length ≤ maxLen) (hbase : base ≤ w.heap.size) :
 ∃ p' c' w', (Builtin.append_ #[t, t] ty #[.slice p xs.length c, .slice q ys.length c2]).run P w = .ok (.slice p' (xs.length + ys.length) c') w' ∧ Own w' base k e p' c' (xs ++ ys) ∧
  w.grownBy w' (p.map (·.block)) ∧ ((p' = none ↔ p = none ∧ ys.length = 0) ∧ (p'.isSome = true → p.map (·.block) = some (blk p') ∨ blk p' = w.heap.size)) := by
 obtain ⟨i, hi, hz, hs, hbt⟩ := hty.hi
 by_cases hq : q = none
 · have h0 : ys = [] := by
    rcases Nat.eq_zero_or_pos ys.length with h | h
    · exact List.eq_nil_of_length_eq_zero h
    · have := (hrd.solid h).1; simp [hq] at this
   subst h0 hq
   refine ⟨p, c, w, ?_, by simpa using hown, ⟨rfl, rfl, rfl, Nat.le_refl _, fun _ _ _ => rfl⟩, by simp, fun h => .inl (by cases p <;> simp_all [blk])⟩
   have hle := hown.le_cap
   rcases hown.form with ⟨rfl, rfl, rfl⟩ | ⟨g, rfl, _⟩
   · simp [Builtin.append_, run_underlying hty.ht, sizeOf, typeInfo, hi, Builtin.lenOf, Builtin.firstCells]
   · simp [Builtin.append_, run_underlying hty.ht, sizeOf, typeInfo, hi, Builtin.lenOf, Builtin.firstCells, hle, storeCells]
 · obtain ⟨b, rfl⟩ := Option.ne_none_iff_exists'.1 hq
   have hnews : ∀ j u, (ys.map fun x : Nat => Value.int k (x : Int))[j]? = some u → w.cell? (b.add j) = some u := by
    intro j u hu
    have hj : j < ys.length := by
     have := (List.getElem?_eq_some_iff.1 hu).1; simpa using this
    have h1 := hrd.cells j hj
    have h2 := c1t (some b) ys.length j hrd.solid (by omega)
    simp only [Option.getD_some] at h2
    rw [h2, h1]
    rw [← hu]
    simp [hj, a0x]
   obtain ⟨v', w', hr, ho, hg, hn, hat⟩ := run_append_own_at (P := P) w base t ty e i (.int k 0) 1 bytes hty.ht hi hz hs hbt rfl (by omega) _ _ _ hown b ys.length c2 (ys.map fun x : Nat => Value.int k (x : Int)) (by simp) hnews w0d h63 hb hbase
   have hv : ∃ p' c', v' = .slice p' (xs.length + ys.length) c' := by
    rcases ho.2 with ⟨h1, h2⟩ | ⟨g, cap, cur, h1, _⟩
    · exact ⟨none, 0, by rw [h1]; congr 1; omega⟩
    · exact ⟨_, _, h1⟩
   obtain ⟨p', c', rfl⟩ := hv
   refine ⟨p', c', w', hr, ?_, ?_, ?_⟩
   · unfold Own
     rw [List.length_append, List.map_append]
     exact ho
   · cases p with
     | none => exact hg
     | some a => exact hg
   · refine ⟨?_, fun hp' => ?_⟩
     rotate_left
     · obtain ⟨g, rfl⟩ := Option.isSome_iff_exists.1 hp'
       rcases hat with hat | hat
       · left
         simp only [Value.ownBlock] at hat
         cases p with
         | none => simp at hat
         | some a => simpa [blk] using hat.symm
       · right
         simpa [Value.ownBlock, blk] using hat
     constructor
     · rintro rfl
       rcases ho.2 with ⟨h1, h2⟩ | ⟨g, cap, cur, h1, _⟩
       · have h3 := hn.1 h1
         simp only [Value.slice.injEq] at h3
         exact ⟨h3.1.1, h3.2⟩
       · simp at h1
     · rintro ⟨rfl, h0⟩
       have hx0 : xs.length = 0 ∧ c = 0 := by
        rcases hown.form with ⟨_, h1, h2⟩ | ⟨g, h1, _⟩
        · exact ⟨by simp [h2], h1⟩
        · simp at h1
       have h3 := hn.2 ⟨by rw [hx0.1, hx0.2], h0⟩
       simp only [Value.slice.injEq] at h3
       exact h3.1
theorem c1u (s x : Operand) (t : TypeId) (ho : o.op = .call { callee := .builtin .append, args := #[s, x], argTypes := #[t, t] })
 {e : TypeId} {k : IntKind} {bytes : Nat} (hty : SlTy P t e k bytes) (base : Nat) (p : OA) (n c : Nat) (xs : List Nat) (hown : Own w base k e p c xs) (hn : n = xs.length)
 (q : OA) (m c2 : Nat) (ys : List Nat) (hrd : Rd w k q ys) (hm : m = ys.length) (hs : a.eval s = .slice p n c) (hx : a.eval x = .slice q m c2)
 (hb : xs.length + ys.length ≤ 4000000000) (hbase : base ≤ w.heap.size)
 (h : ∀ p' c' w', Own w' base k e p' c' (xs ++ ys) → w.grownBy w' (p.map (·.block)) → Below base w w' → ((p' = none ↔ p = none ∧ ys.length = 0) ∧ (p'.isSome = true → p.map (·.block) = some (blk p') ∨ blk p' = w.heap.size)) → K (a.put o.dst (.slice p' (xs ++ ys).length c')) w') : o.wp P a w K Q := by
 subst hn hm
 obtain ⟨p', c', w', hr, h1, h2, h3⟩ := r0b (P := P) w hty o.type base p c xs hown q c2 ys hrd (by have := Nat.mul_le_mul hb hty.le; omega) (by simp only [maxLen]; omega) hbase
 unfold Oper.wp execOp
 simp only [ho, resolve, invoke, builtin, Sem.run_bind, Sem.run_pure, Result.andThen_ok, List.map_toArray, List.map_cons, List.map_nil, hs, hx, hr]
 have h4 := h p' c' w' h1 h2 (c0w h2 hbase fun k hk => by
   cases p with
   | none => cases hk
   | some a => have := (hown.blk_lt rfl).1; cases hk; exact this) h3
 rw [List.length_append] at h4
 exact h4
theorem c0k (hgd : o.guard = none) (s x : Operand) (t : TypeId) (ho : o.op = .call { callee := .builtin .append, args := #[s, x], argTypes := #[t, t] })
 {e : TypeId} {k : IntKind} {bytes : Nat} (hty : SlTy P t e k bytes) (base : Nat) (p : OA) (n c : Nat) (xs : List Nat) (hown : Own w base k e p c xs) (hn : n = xs.length)
 (q : OA) (m c2 : Nat) (ys : List Nat) (hrd : Rd w k q ys) (hm : m = ys.length) (hs : a.eval s = .slice p n c) (hx : a.eval x = .slice q m c2)
 (hb : xs.length + ys.length ≤ 4000000000) (hbase : base ≤ w.heap.size)
 (h : ∀ p' c' w', Own w' base k e p' c' (xs ++ ys) → w.grownBy w' (p.map (·.block)) → Below base w w' → ((p' = none ↔ p = none ∧ ys.length = 0) ∧ (p'.isSome = true → p.map (·.block) = some (blk p') ∨ blk p' = w.heap.size)) → wpList P ops Q rest (a.put o.dst (.slice p' (xs ++ ys).length c')) w') : wpList P ops Q (o :: rest) a w :=
 wpList_plain hgd fun _ hK => c1u s x t ho hty base p n c xs hown hn q m c2 ys hrd hm hs hx hb hbase fun p' c' w' h900 h901 h902 h903 => hK _ _ (h p' c' w' h900 h901 h902 h903)
theorem o1b (x y : Operand) (t : TypeId) (ho : o.op = .makeSlice t x y) {e : TypeId} {k : IntKind} {bytes : Nat} (hty : SlTy P t e k bytes) (kl kc : IntKind) (n : Nat) (i1 i2 : Int)
 (hx : a.eval x = .int kl i1) (hy : a.eval y = .int kc i2) (h1 : i1 = n) (h2 : i2 = n) (hb : n ≤ 4000000000)
 (h : ∀ p' c' w', Own w' w.heap.size k e p' c' (List.replicate n 0) → Below w.heap.size w w' → w.heap.size < w'.heap.size → K (a.put o.dst (.slice p' n c')) w') : o.wp P a w K Q := by
 subst h1 h2
 obtain ⟨i, hi, hz, hs, hbt⟩ := hty.hi
 obtain ⟨w', hr, h1, h2⟩ := run_make_full (P := P) w w.heap.size t e i (.int k 0) 1 hty.ht hi hz hs kl kc n (by rw [hbt]; have := Nat.mul_le_mul hty.le hb; omega) (by simp only [maxLen]; omega) (Nat.le_refl _)
 unfold Oper.wp execOp
 simp only [ho, hx, hy]
 simp only [Sem.run_bind, hr, Result.andThen_ok, Sem.run_pure]
 refine (h _ _ w' ?_ (c0w h2 (Nat.le_refl _) (fun k hk => by cases hk)) ?_)
 · unfold Own
   rw [List.length_replicate, List.map_replicate]
   have : (madeCells (Value.cells (.int k 0)) (n * 1)).toList = List.replicate n (.int k ((0 : Nat) : Int)) := by
    rw [Nat.mul_one]; exact toList_madeCells_one _ _
   rw [← this]
   exact h1
 · exact (World.ownsRow.lt h1 w.heap.size rfl).2
theorem r0c (hgd : o.guard = none) (x y : Operand) (t : TypeId) (ho : o.op = .makeSlice t x y) {e : TypeId} {k : IntKind} {bytes : Nat} (hty : SlTy P t e k bytes) (kl kc : IntKind) (n : Nat) (i1 i2 : Int)
 (hx : a.eval x = .int kl i1) (hy : a.eval y = .int kc i2) (h1 : i1 = n) (h2 : i2 = n) (hb : n ≤ 4000000000)
 (h : ∀ p' c' w', Own w' w.heap.size k e p' c' (List.replicate n 0) → Below w.heap.size w w' → w.heap.size < w'.heap.size → wpList P ops Q rest (a.put o.dst (.slice p' n c')) w') : wpList P ops Q (o :: rest) a w :=
 wpList_plain hgd fun _ hK => o1b x y t ho hty kl kc n i1 i2 hx hy h1 h2 hb fun p' c' w' h900 h901 h902 => hK _ _ (h p' c' w' h900 h901 h902)
theorem r1j : Array.range 1 = #[0] := by decide
theorem c1v (t : TypeId) (ho : o.op = .buildSlice t 0 #[]) {e : TypeId} {k : IntKind} {bytes : Nat} (hty : SlTy P t e k bytes)
 (h : ∀ p' w', Own w' w.heap.size k e p' 0 [] → Below w.heap.size w w' → w.heap.size < w'.heap.size → p'.isSome = true → K (a.put o.dst (.slice p' 0 0)) w') : o.wp P a w K Q := by
 obtain ⟨i, hi, hz, hs, hbt⟩ := hty.hi
 unfold Oper.wp execOp
 simp only [ho]
 have hr : (Instr.buildSlice t 0 #[]).run P w = .ok (.slice (some ⟨w.heap.size, 0, none⟩) 0 0) (w.alloc (.cells #[] e)) := by
  simp [Instr.buildSlice, run_underlying hty.ht, sizeOf, typeInfo, hi, Instr.fill, newRow, Array.range_zero']
 simp [hr, Oper.upon]
 exact (h _ _ (World.ownsRow_lit w #[] 0 (Nat.le_refl _) (by simp [maxLen]) rfl) ((Below.refl _ _).alloc (Nat.le_refl _) _) (by simp) rfl)
theorem a1e (hgd : o.guard = none) (t : TypeId) (ho : o.op = .buildSlice t 0 #[]) {e : TypeId} {k : IntKind} {bytes : Nat} (hty : SlTy P t e k bytes)
 (h : ∀ p' w', Own w' w.heap.size k e p' 0 [] → Below w.heap.size w w' → w.heap.size < w'.heap.size → p'.isSome = true → wpList P ops Q rest (a.put o.dst (.slice p' 0 0)) w') : wpList P ops Q (o :: rest) a w :=
 wpList_plain hgd fun _ hK => c1v t ho hty fun p' w' h900 h901 h902 h903 => hK _ _ (h p' w' h900 h901 h902 h903)
theorem c1w (t : TypeId) (y : Operand) (ho : o.op = .buildSlice t 1 #[(0, y)]) {e : TypeId} {k : IntKind} {bytes : Nat} (hty : SlTy P t e k bytes) (n : Int) (h0 : 0 ≤ n) (hy : a.eval y = .int k n)
 (h : ∀ p' w', Own w' w.heap.size k e p' 1 [n.toNat] → Below w.heap.size w w' → w.heap.size < w'.heap.size → p'.isSome = true → K (a.put o.dst (.slice p' 1 1)) w') : o.wp P a w K Q := by
 obtain ⟨i, hi, hz, hs, hbt⟩ := hty.hi
 unfold Oper.wp execOp
 have en : (n.toNat : Int) = n := Int.toNat_of_nonneg h0
 simp only [ho]
 have hr : (Instr.buildSlice t 1 #[(0, .int k n)]).run P w = .ok (.slice (some ⟨w.heap.size, 0, none⟩) 1 1) (w.alloc (.cells #[.int k n] e)) := by
  simp [Instr.buildSlice, run_underlying hty.ht, sizeOf, typeInfo, hi, hs, Instr.fill, newRow, zeroValue, hz, Value.cells, List.zipIdx, r1j]
 simp [hr, hy, Oper.upon]
 refine (h _ _ ?_ ((Below.refl _ _).alloc (Nat.le_refl _) _) (by simp) rfl)
 unfold Own
 simp only [List.map_cons, List.map_nil, en, List.length_cons, List.length_nil]
 exact World.ownsRow_lit w #[.int k n] 1 (Nat.le_refl _) (by simp [maxLen]) rfl
theorem c0l (hgd : o.guard = none) (t : TypeId) (y : Operand) (ho : o.op = .buildSlice t 1 #[(0, y)]) {e : TypeId} {k : IntKind} {bytes : Nat} (hty : SlTy P t e k bytes) (n : Int) (h0 : 0 ≤ n) (hy : a.eval y = .int k n)
 (h : ∀ p' w', Own w' w.heap.size k e p' 1 [n.toNat] → Below w.heap.size w w' → w.heap.size < w'.heap.size → p'.isSome = true → wpList P ops Q rest (a.put o.dst (.slice p' 1 1)) w') : wpList P ops Q (o :: rest) a w :=
 wpList_plain hgd fun _ hK => c1w t y ho hty n h0 hy fun p' w' h900 h901 h902 h903 => hK _ _ (h p' w' h900 h901 h902 h903)
def a0d (xs : List Nat) : ByteArray := ⟨(xs.map UInt8.ofNat).toArray⟩
theorem a0t (xs : List Nat) : (a0d xs).size = xs.length := by simp [a0d, ByteArray.size]
theorem a1f (xs : List Nat) : strOfNums (xs.map fun x : Nat => (x : Int)) = a0d xs := by
 simp [strOfNums, a0d]
theorem f0n (w : World) (src dst e : TypeId) (hs : P.underlying src = some (.slice e)) (he : P.underlying e = some (.int .u8)) (hd : P.underlying dst = some .string) (p : OA) (n c : Nat) (xs : List Nat) (hr : Rd w .u8 p xs) (hn : n = xs.length) :
 (convert src dst (.slice p n c)).run P w = .ok (.string (a0d xs)) w := by
 subst hn
 by_cases h0 : 0 < xs.length
 · have hp := hr.solid.some h0
   rw [hp, run_convert_bytes_arg w src e hs he _ _ xs.length c (xs.map fun x : Nat => (x : Int)) (by simp) (fun i hi => ?_) dst hd, a1f]
   have h1 := hr.cells i hi
   unfold at_ at h1
   rw [show (blk p) = (p.getD ⟨0, 0, none⟩).block from rfl, h1]
   simp [List.getD, hi, a0x]
 · obtain rfl : xs = [] := List.eq_nil_of_length_eq_zero (by omega)
   cases p with
   | none => exact run_convert_bytes_nil w src e hs he 0 c dst hd
   | some a =>
    rw [run_convert_bytes_string w src dst e _ _ c hs he hd]
    show (Conv.bytesToString (.slice (some a) 0 c)).run P w = _
    rw [run_bytesToString w a 0 c [] (by simp [loadCells, loadCellsFrom, Sem.run_pure])]
    rfl
theorem r1k (x : Operand) (src dst : TypeId) (ho : o.op = .convert src dst x) {e : TypeId} (hs : P.underlying src = some (.slice e)) (he : P.underlying e = some (.int .u8)) (hd : P.underlying dst = some .string)
 (p : OA) (n c : Nat) (xs : List Nat) (hr : Rd w .u8 p xs) (hn : n = xs.length) (hx : a.eval x = .slice p n c) (h : K (a.put o.dst (.string (a0d xs))) w) : o.wp P a w K Q := by
 unfold Oper.wp execOp
 simp only [ho, hx]
 have hr := f0n (P := P) w src dst e hs he hd p n c xs hr hn
 simp [hr, Oper.upon]
 exact h
theorem o1c (hgd : o.guard = none) (x : Operand) (src dst : TypeId) (ho : o.op = .convert src dst x) {e : TypeId} (hs : P.underlying src = some (.slice e)) (he : P.underlying e = some (.int .u8)) (hd : P.underlying dst = some .string)
 (p : OA) (n c : Nat) (xs : List Nat) (hr : Rd w .u8 p xs) (hn : n = xs.length) (hx : a.eval x = .slice p n c) (h : wpList P ops Q rest (a.put o.dst (.string (a0d xs))) w) : wpList P ops Q (o :: rest) a w :=
 wpList_plain hgd fun _ hK => r1k x src dst ho hs he hd p n c xs hr hn hx (hK _ _ h)
end walk
end Go.Slip
namespace Go.Proofs.YtgbbhlginbmghaaGreatDoor
open Go.RowKit Go.Slip
theorem tyOf {P : Program} {t e : TypeId} {k : IntKind} {bytes : Nat} (h1 : P.underlying t = some (.slice e))
 (h2 : (P.info? e).map (fun i => (i.zero, i.size, i.bytes)) = some (some (.int k 0), 1, bytes)) (h3 : bytes ≤ 8) : SlTy P t e k bytes := by
 refine ⟨h1, ?_, h3⟩
 cases h : P.info? e with
 | none => rw [h] at h2; simp at h2
 | some i => rw [h] at h2; simp at h2; exact ⟨i, rfl, h2.1, h2.2.1, h2.2.2⟩
theorem b0y : SlTy Tryz.prog 51 139 .u32 4 := tyOf (by kernel_rfl) (by kernel_rfl) (by omega)
theorem r0d : SlTy Tryz.prog 44 5 .u8 1 := tyOf (by kernel_rfl) (by kernel_rfl) (by omega)
theorem a1g : ownKnob Tryz.prog.godebug = none := by kernel_rfl
theorem g0h : laidOutB Tryz.prog = true := by kernel_rfl
def f0w (w : World) (k : IntKind) (e : TypeId) (xs : List Nat) (en : Ending) (w' : World) : Prop :=
 ∃ p c, en = .returned (.slice p xs.length c) ∧ Own w' w.heap.size k e p c xs ∧ Below w.heap.size w w'
theorem h0r (p : OA) (n c : Nat) (xs : List Nat) (w : World) (hr : Rd w .u32 p xs) (hn : n = xs.length) (hl : xs.length ≤ 1000000000) :
 Calls Tryz.prog 112 #[.slice p n c] w (f0w w .u32 139 xs) := by
 cases p with
 | none =>
  obtain rfl : xs = [] := by
   rcases Nat.eq_zero_or_pos xs.length with h | h
   · exact List.eq_nil_of_length_eq_zero h
   · have := (hr.solid h).1; simp at this
  go_enter Tryz.func112, Tryz.ntmps112
  go_wp2
  go_ret
  exact ⟨none, 0, rfl, Own.nil _ _ _ _, Below.refl _ _⟩
 | some a =>
  subst hn
  go_enter Tryz.func112, Tryz.ntmps112
  go_wp2_with (first
    | (refine a1e rfl _ rfl b0y ?_; intro p1 w1 ho1 hb1 hz1 hp1)
    | (at_builtin; refine c0k rfl _ _ _ rfl b0y _ _ _ _ _ ho1 rfl _ _ _ _ (hr.past hb1) rfl rfl rfl ?_ ?_ ?_; (simp; omega); omega; intro p2 c2 w2 ho2 hg2 hb2 hn2))
  go_ret
  exact ⟨p2, c2, rfl, ho2, hb1.trans hb2⟩
theorem f0e (p : OA) (n c : Nat) (xs : List Nat) (w : World) (hr : Rd w .u32 p xs) (hn : n = xs.length) (hc : xs.length ≤ c) (hx : ∀ x ∈ xs, x < B32) (hl : xs.length ≤ 4000000000) :
 Calls Tryz.prog 111 #[.slice p n c] w fun e w' => e = .returned (.slice p (dig B32 (val B32 xs)).length c) ∧ w = w' := by
 subst hn
 go_enter Tryz.func111, Tryz.ntmps111
 go_wp2
 go_loop [0] (fun s => ∃ m : Nat, s = .slice p m c ∧ m ≤ xs.length ∧ Hid (∀ j, m ≤ j → dg xs j = 0)) (fun s => r1i s)
 case atStart => exact ⟨_, rfl, Nat.le_refl _, fun j hj => d0h hj⟩
 case round =>
  obtain ⟨m, rfl, hm, hz⟩ := hrel
  have hs := hr.solid.mono hm
  by_cases hm0 : m = 0
  · subst hm0
    go_wp2
    go_ret
    exact ⟨t0o (j0l a0b xs 0 hx hm hz.out (.inl rfl)).symm, rfl⟩
  · have hpos : 0 < m := by omega
    by_cases h0 : dg xs (m - 1) = 0
    · have hcell : w.cell? (at_ p (m - 1)) = some (.int .u32 0) := by rw [hr.cells (m - 1) (by omega), h0]; rfl
      have HZ : Hid (∀ j, m - 1 ≤ j → dg xs j = 0) := fun j hj => by
       by_cases hjm : j = m - 1
       · subst hjm; exact h0
       · exact hz.out j (by omega)
      clear h0 hm0
      go_wp2
      go_round
      case rel => exact ⟨m - 1, rfl, by omega, HZ⟩
      case measure => simp [r1i]; omega
    · have hcell := hr.cells (m - 1) (by omega)
      have h1 : 0 < dg xs (m - 1) := by omega
      have H0 := lHd h0
      clear h0 hm0
      go_wp2
      go_ret
      exact ⟨t0o (j0l a0b xs m hx hm hz.out (.inr H0.out)).symm, rfl⟩
theorem h0s (x y c : Nat) (w : World) (hx : x < 4294967296) (hy : y < 4294967296) (hc : c ≤ 1) :
 Calls Tryz.prog 137 #[.int .u32 x, .int .u32 y, .int .u32 c] w fun e w' =>
  e = .returned (.tuple #[.int .u32 (((x + y + c) % 4294967296 : Nat) : Int), .int .u32 (((x + y + c) / 4294967296 : Nat) : Int)]) ∧ w = w' := by
 go_enter Tryz.func137, Tryz.ntmps137
 go_wp2
 go_ret2
 exact ⟨rfl, rfl⟩
def f0o (L ys : List Nat) (i cr : Nat) (a : Nat) : Prop := (∀ x ∈ L, x < B32) ∧ val B32 L + cr * B32 ^ i = a + val B32 (ys.take i)
theorem f0o.step {L ys : List Nat} {i cr a : Nat} (h : f0o L ys i cr a) (hi : i < L.length) :
 f0o (L.set i ((dg L i + dg ys i + cr) % B32)) ys (i + 1) ((dg L i + dg ys i + cr) / B32) a := by
 refine ⟨j0b L h.1 i _ (Nat.mod_lt _ (by unfold B32; omega)), ?_⟩
 rw [y0d B32 L i _ cr _ hi h.2, a0k]; omega
theorem f0o.carry {L ys : List Nat} {i cr a : Nat} (h : f0o L ys i cr a) (hy : ∀ x ∈ ys, x < B32) (hc : cr ≤ 1) : (dg L i + dg ys i + cr) / B32 ≤ 1 := by
 have h1 := a0r (B := B32) (by unfold B32; omega) L h.1 i
 have h2 := a0r (B := B32) (by unfold B32; omega) ys hy i
 unfold B32 at *; omega
theorem f0o.done0 {L ys : List Nat} {i a b : Nat} (h : f0o L ys i 0 a) (hi : ys.length ≤ i) (hy : val B32 ys = b) (hl : L.length = (dig B32 a).length) : L = dig B32 (a + b) := by
 refine y0e a0b L a b h.1 hl ?_
 have := h.2
 rw [d0d _ _ _ hi, hy] at this
 omega
theorem f0o.done1 {L ys : List Nat} {n cr a b : Nat} (h : f0o L ys n cr a) (hn : L.length = n) (hi : ys.length ≤ n) (hy : val B32 ys = b) (h0 : 0 < cr) (hc : cr ≤ 1) : L ++ [cr] = dig B32 (a + b) := by
 subst hn
 refine y0f a0b L cr _ h.1 h0 (by unfold B32; omega) ?_
 have := h.2
 rw [d0d _ _ _ hi, hy] at this
 exact this
theorem f0o.start (a : Nat) (ys : List Nat) : f0o (dig B32 a) ys 0 0 a := ⟨c0c a0b a, by simp [b0o a0b]⟩
theorem g0v {w w' : World} {k : IntKind} {e : TypeId} {xs ys : List Nat} {p : OA} {n c : Nat} (h : xs = ys) (hn : n = xs.length) (ho : Own w' w.heap.size k e p c xs) (hb : Below w.heap.size w w') : f0w w k e ys (.returned (.slice p n c)) w' := by
 subst h hn; exact ⟨p, c, rfl, ho, hb⟩
theorem r1l (p q : OA) (n m c d : Nat) (a b : Nat) (w : World) (hp : Rd w .u32 p (dig B32 a)) (hq : Rd w .u32 q (dig B32 b)) (hn : n = (dig B32 a).length) (hm : m = (dig B32 b).length)
 (hl : (dig B32 a).length ≤ 1000000000) (hge : (dig B32 b).length ≤ (dig B32 a).length) :
 Calls Tryz.prog 68 #[.slice p n c, .slice q m d] w (f0w w .u32 139 (dig B32 (a + b))) := by
 subst hn hm
 have H0 := lHd (f0o.start a (dig B32 b))
 have HY := lHd (c0c a0b b)
 have HV := lHd (b0o a0b b)
 obtain ⟨xs, hxs⟩ : ∃ xs, xs = dig B32 a := ⟨_, rfl⟩
 have HX : Hid (xs.length = (dig B32 a).length) := by rw [hxs]; rfl
 rw [← hxs] at hp hl hge H0 ⊢
 clear hxs
 generalize dig B32 b = ys at *
 go_enter Tryz.func68, Tryz.ntmps68
 go_wp2_with (go_at_call 112; refine (h0r _ _ _ xs _ hp rfl hl).mono ?_; rintro e w1 ⟨p1, c1, rfl, ho1, hb1⟩)
 go_loopw [6, 20] (fun cv iv wr => ∃ (i cr : Nat) (L : List Nat), iv = .int .i64 i ∧ cv = .int .u32 cr ∧ i ≤ xs.length ∧ cr ≤ 1 ∧ L.length = xs.length ∧ Own wr w.heap.size .u32 139 p1 c1 L ∧ Below w.heap.size w wr ∧ Hid (f0o L ys i cr a))
  (fun _ iv _ => xs.length - (intOf iv).toNat)
 case atStart => exact ⟨0, 0, xs, rfl, rfl, Nat.zero_le _, by omega, rfl, ho1, hb1, H0⟩
 case round =>
  obtain ⟨i, cr, L, rfl, rfl, hi, hcr, hL, hoL, hbL, HR⟩ := hrel
  have hqL := hq.past hbL
  have HLX : Hid (L.length = (dig B32 a).length) := hL.trans HX.out
  by_cases hlt : i < xs.length
  · have hc1 := hoL.rd.cells i (by omega)
    have hsL := hoL.solid
    rw [hL] at hsL
    have hLd := a0r (B := 4294967296) (by omega) L HR.out.1 i
    have hyd := a0r (B := 4294967296) (by omega) ys HY.out i
    have HS := HR.out.step (i := i) (by omega)
    have HC := HR.out.carry HY.out hcr (i := i)
    unfold B32 at HS HC
    by_cases hd : i < ys.length
    · have hc2 := hqL.cells i hd
      have hsq := hqL.solid
      have HS' := lHd HS
      have HC' := lHd HC
      clear HS HC
      go_wp2_with (first
        | (go_at_call 137; refine (h0s _ _ cr _ hLd hyd hcr).mono ?_; rintro e w2 ⟨rfl, rfl⟩)
        | (refine b0a rfl _ _ _ rfl 139 b0y _ _ _ _ hoL i (by omega) _ ?_ rfl rfl ?_; omega; intro w3 ho3 hg3 hb3))
      have e3 : (((dg L i : Int) + dg ys i + cr) % 4294967296).toNat = (dg L i + dg ys i + cr) % 4294967296 := by omega
      rw [e3] at ho3
      go_roundw
      case rel => exact ⟨i + 1, (dg L i + dg ys i + cr) / 4294967296, _, by go_num, by go_num, hlt, HC'.out, by simp [hL], ho3, hbL.trans hb3, HS'⟩
      case measure => simp [intOf]; omega
    · by_cases hc0 : cr = 0
      · subst hc0
        go_wp2
        go_ret
        exact g0v (HR.out.done0 (by omega) HV.out HLX.out) hL.symm hoL hbL
      · have hcp : 1 ≤ cr := by omega
        have ez : dg ys i = 0 := d0h (by omega)
        rw [ez] at HS HC
        have HS' := lHd HS
        have HC' := lHd HC
        clear HS HC ez hyd hc0
        go_wp2_with (first
          | (go_at_call 137; refine (h0s _ 0 cr _ hLd (by omega) hcr).mono ?_; rintro e w2 ⟨rfl, rfl⟩)
          | (refine b0a rfl _ _ _ rfl 139 b0y _ _ _ _ hoL i (by omega) _ ?_ rfl rfl ?_; omega; intro w3 ho3 hg3 hb3))
        have e3 : (((dg L i : Int) + cr) % 4294967296).toNat = (dg L i + 0 + cr) % 4294967296 := by omega
        rw [e3] at ho3
        go_roundw
        case rel => exact ⟨i + 1, (dg L i + 0 + cr) / 4294967296, _, by go_num, by go_num, hlt, HC'.out, by simp [hL], ho3, hbL.trans hb3, HS'⟩
        case measure => simp [intOf]; omega
  · obtain rfl : i = xs.length := by omega
    by_cases hc0 : cr = 0
    · subst hc0
      go_wp2
      go_ret
      exact g0v (HR.out.done0 hge HV.out HLX.out) hL.symm hoL hbL
    · have hcp : 1 ≤ cr := by omega
      clear hc0
      have HD := lHd (HR.out.done1 hL hge HV.out hcp hcr)
      go_wp2_with (first
        | (refine c0l rfl _ _ rfl b0y _ ?_ rfl ?_; omega; intro p2 w2 ho2 hb2 hz2 hp2)
        | (at_builtin; refine c0k rfl _ _ _ rfl b0y _ _ _ _ _ (hoL.past hb2) hL.symm _ _ _ _ ho2.rd rfl rfl rfl ?_ ?_ ?_; (simp; omega); (have := hbL.size; omega); intro p3 c3 w3 ho3 hg3 hb3 hn3))
      go_ret
      exact g0v HD.out (by simp [hL]) ho3 ((hbL.trans (hb2.mono hbL.size)).trans hb3)
theorem r1m (p q : OA) (n m c d : Nat) (a b : Nat) (w : World) (hp : Rd w .u32 p (dig B32 a)) (hq : Rd w .u32 q (dig B32 b)) (hn : n = (dig B32 a).length) (hm : m = (dig B32 b).length)
 (hl : (dig B32 a).length ≤ 1000000000) (hgt : (dig B32 b).length < (dig B32 a).length) :
 Calls Tryz.prog 68 #[.slice q m d, .slice p n c] w (f0w w .u32 139 (dig B32 (a + b))) := by
 have hge := Nat.le_of_lt hgt
 subst hn hm
 have H0 := lHd (f0o.start a (dig B32 b))
 have HY := lHd (c0c a0b b)
 have HV := lHd (b0o a0b b)
 obtain ⟨xs, hxs⟩ : ∃ xs, xs = dig B32 a := ⟨_, rfl⟩
 have HX : Hid (xs.length = (dig B32 a).length) := by rw [hxs]; rfl
 rw [← hxs] at hp hl hgt hge H0 ⊢
 clear hxs
 generalize dig B32 b = ys at *
 go_enter Tryz.func68, Tryz.ntmps68
 go_wp2_with (go_at_call 112; refine (h0r _ _ _ xs _ hp rfl hl).mono ?_; rintro e w1 ⟨p1, c1, rfl, ho1, hb1⟩)
 go_loopw [6, 20] (fun cv iv wr => ∃ (i cr : Nat) (L : List Nat), iv = .int .i64 i ∧ cv = .int .u32 cr ∧ i ≤ xs.length ∧ cr ≤ 1 ∧ L.length = xs.length ∧ Own wr w.heap.size .u32 139 p1 c1 L ∧ Below w.heap.size w wr ∧ Hid (f0o L ys i cr a))
  (fun _ iv _ => xs.length - (intOf iv).toNat)
 case atStart => exact ⟨0, 0, xs, rfl, rfl, Nat.zero_le _, by omega, rfl, ho1, hb1, H0⟩
 case round =>
  obtain ⟨i, cr, L, rfl, rfl, hi, hcr, hL, hoL, hbL, HR⟩ := hrel
  have hqL := hq.past hbL
  have HLX : Hid (L.length = (dig B32 a).length) := hL.trans HX.out
  by_cases hlt : i < xs.length
  · have hc1 := hoL.rd.cells i (by omega)
    have hsL := hoL.solid
    rw [hL] at hsL
    have hLd := a0r (B := 4294967296) (by omega) L HR.out.1 i
    have hyd := a0r (B := 4294967296) (by omega) ys HY.out i
    have HS := HR.out.step (i := i) (by omega)
    have HC := HR.out.carry HY.out hcr (i := i)
    unfold B32 at HS HC
    by_cases hd : i < ys.length
    · have hc2 := hqL.cells i hd
      have hsq := hqL.solid
      have HS' := lHd HS
      have HC' := lHd HC
      clear HS HC
      go_wp2_with (first
        | (go_at_call 137; refine (h0s _ _ cr _ hLd hyd hcr).mono ?_; rintro e w2 ⟨rfl, rfl⟩)
        | (refine b0a rfl _ _ _ rfl 139 b0y _ _ _ _ hoL i (by omega) _ ?_ rfl rfl ?_; omega; intro w3 ho3 hg3 hb3))
      have e3 : (((dg L i : Int) + dg ys i + cr) % 4294967296).toNat = (dg L i + dg ys i + cr) % 4294967296 := by omega
      rw [e3] at ho3
      go_roundw
      case rel => exact ⟨i + 1, (dg L i + dg ys i + cr) / 4294967296, _, by go_num, by go_num, hlt, HC'.out, by simp [hL], ho3, hbL.trans hb3, HS'⟩
      case measure => simp [intOf]; omega
    · by_cases hc0 : cr = 0
      · subst hc0
        go_wp2
        go_ret
        exact g0v (HR.out.done0 (by omega) HV.out HLX.out) hL.symm hoL hbL
      · have hcp : 1 ≤ cr := by omega
        have ez : dg ys i = 0 := d0h (by omega)
        rw [ez] at HS HC
        have HS' := lHd HS
        have HC' := lHd HC
        clear HS HC ez hyd hc0
        go_wp2_with (first
          | (go_at_call 137; refine (h0s _ 0 cr _ hLd (by omega) hcr).mono ?_; rintro e w2 ⟨rfl, rfl⟩)
          | (refine b0a rfl _ _ _ rfl 139 b0y _ _ _ _ hoL i (by omega) _ ?_ rfl rfl ?_; omega; intro w3 ho3 hg3 hb3))
        have e3 : (((dg L i : Int) + cr) % 4294967296).toNat = (dg L i + 0 + cr) % 4294967296 := by omega
        rw [e3] at ho3
        go_roundw
        case rel => exact ⟨i + 1, (dg L i + 0 + cr) / 4294967296, _, by go_num, by go_num, hlt, HC'.out, by simp [hL], ho3, hbL.trans hb3, HS'⟩
        case measure => simp [intOf]; omega
  · obtain rfl : i = xs.length := by omega
    by_cases hc0 : cr = 0
    · subst hc0
      go_wp2
      go_ret
      exact g0v (HR.out.done0 hge HV.out HLX.out) hL.symm hoL hbL
    · have hcp : 1 ≤ cr := by omega
      clear hc0
      have HD := lHd (HR.out.done1 hL hge HV.out hcp hcr)
      go_wp2_with (first
        | (refine c0l rfl _ _ rfl b0y _ ?_ rfl ?_; omega; intro p2 w2 ho2 hb2 hz2 hp2)
        | (at_builtin; refine c0k rfl _ _ _ rfl b0y _ _ _ _ _ (hoL.past hb2) hL.symm _ _ _ _ ho2.rd rfl rfl rfl ?_ ?_ ?_; (simp; omega); (have := hbL.size; omega); intro p3 c3 w3 ho3 hg3 hb3 hn3))
      go_ret
      exact g0v HD.out (by simp [hL]) ho3 ((hbL.trans (hb2.mono hbL.size)).trans hb3)
theorem w0e (p q : OA) (n m c d : Nat) (a b : Nat) (w : World) (hp : Rd w .u32 p (dig B32 a)) (hq : Rd w .u32 q (dig B32 b)) (hn : n = (dig B32 a).length) (hm : m = (dig B32 b).length)
 (hl : (dig B32 a).length ≤ 1000000000) (hl2 : (dig B32 b).length ≤ 1000000000) :
 Calls Tryz.prog 68 #[.slice p n c, .slice q m d] w (f0w w .u32 139 (dig B32 (a + b))) := by
 by_cases h : (dig B32 a).length < (dig B32 b).length
 · rw [Nat.add_comm]
   exact r1m q p m n d c b a w hq hp hm hn hl2 h
 · exact r1l p q n m c d a b w hp hq hn hm hl (by omega)
end Go.Proofs.YtgbbhlginbmghaaGreatDoor
namespace Go.Slip
/-! ### The references' sum -/
def j0o (O xs ys : List Nat) (i cr : Nat) : Prop :=
 (∀ x ∈ O, x < B16) ∧ O.length = i ∧ cr ≤ 1 ∧ val B16 O + cr * B16 ^ i = val B16 (xs.take i) + val B16 (ys.take i) ∧
  (i ≤ xs.length ∨ i ≤ ys.length ∨ (cr = 0 ∧ B16 ^ (i - 1) ≤ val B16 O))
theorem j0o.start (xs ys : List Nat) : j0o [] xs ys 0 0 := ⟨by simp, rfl, by omega, by simp, .inl (Nat.zero_le _)⟩
theorem j0o.step {O xs ys : List Nat} {i cr : Nat} (h : j0o O xs ys i cr) (hx : dg xs i < B16) (hy : dg ys i < B16) (hc : i < xs.length ∨ i < ys.length ∨ 0 < cr) :
 j0o (O ++ [(cr + dg xs i + dg ys i) % B16]) xs ys (i + 1) ((cr + dg xs i + dg ys i) / B16) := by
 obtain ⟨h1, h2, h3, h4, h5⟩ := h
 have hv : val B16 (O ++ [(cr + dg xs i + dg ys i) % B16]) + (cr + dg xs i + dg ys i) / B16 * B16 ^ (i + 1) = val B16 (xs.take (i + 1)) + val B16 (ys.take (i + 1)) := by
  rw [e0i, a0k, a0k, h2, Nat.pow_succ]
  have := Nat.div_add_mod (cr + dg xs i + dg ys i) B16
  generalize (cr + dg xs i + dg ys i) / B16 = q at *
  generalize (cr + dg xs i + dg ys i) % B16 = r at *
  have e : B16 ^ i * (B16 * q + r) = B16 ^ i * (cr + dg xs i + dg ys i) := by rw [this]
  grind
 refine ⟨fun x hm => ?_, by simp [h2], ?_, hv, ?_⟩
 · rcases List.mem_append.1 hm with hm | hm
   · exact h1 x hm
   · simp at hm; rw [hm]; exact Nat.mod_lt _ c1q
 · unfold B16 at *; omega
 · by_cases hn : i < xs.length ∨ i < ys.length
   · omega
   · have e1 : dg xs i = 0 := d0h (by omega)
     have e2 : dg ys i = 0 := d0h (by omega)
     have e3 : cr = 1 := by omega
     subst e3
     rw [e1, e2]
     refine .inr (.inr ⟨by decide, ?_⟩)
     have : (1 + 0 + 0) % B16 = 1 := by decide
     rw [this, e0i, h2]
     simp
theorem j0o.done {O xs ys : List Nat} {i a b : Nat} (h : j0o O xs ys i 0) (hx : xs.length ≤ i) (hy : ys.length ≤ i) (ha : xs = dig B16 a) (hb : ys = dig B16 b) : O = dig B16 (a + b) := by
 obtain ⟨h1, h2, h3, h4, h5⟩ := h
 rw [d0d _ _ _ hx, d0d _ _ _ hy, ha, hb, b0o l0p, b0o l0p, Nat.zero_mul, Nat.add_zero] at h4
 refine p0p l0p O _ h1 (j0m O h1 ?_) h4
 rw [h2]
 by_cases hi : i = 0
 · left; exact List.eq_nil_of_length_eq_zero (by omega)
 · right
   rcases h5 with h5 | h5 | h5
   · have e : xs.length = i := by omega
     rw [h4, ← e, ha]
     have hp : 0 < a := by
      rcases Nat.eq_zero_or_pos a with h0 | h0
      · rw [h0, a0e] at ha; rw [ha] at e; simp at e; omega
      · exact h0
     have := e0f l0p a hp
     omega
   · have e : ys.length = i := by omega
     rw [h4, ← e, hb]
     have hp : 0 < b := by
      rcases Nat.eq_zero_or_pos b with h0 | h0
      · rw [h0, a0e] at hb; rw [hb] at e; simp at e; omega
      · exact h0
     have := e0f l0p b hp
     omega
   · exact h5.2
def cmpN (a b : Nat) : Int := if a < b then -1 else if b < a then 1 else 0
theorem n0f {a b : Nat} (h : a < b) : cmpN a b = -1 := by unfold cmpN; rw [if_pos h]
theorem c1x {a b : Nat} (h : b < a) : cmpN a b = 1 := by unfold cmpN; rw [if_neg (by omega), if_pos h]
theorem c1y (a : Nat) : cmpN a a = 0 := by unfold cmpN; rw [if_neg (by omega), if_neg (by omega)]
theorem p0t {B : Nat} (hB : 2 ≤ B) {a b : Nat} (h : (dig B a).length < (dig B b).length) : a < b := by
 rcases Nat.lt_or_ge a b with h1 | h1
 · exact h1
 · have := a0l hB h1; omega
theorem w0f (B : Nat) (xs : List Nat) (k : Nat) (hk : k < xs.length) : val B xs = val B (xs.take k) + B ^ k * (dg xs k + B * val B (xs.drop (k + 1))) := by
 rw [b0q B xs k (by omega), m0t B xs k hk]
theorem j0p {B : Nat} (xs : List Nat) (hx : ∀ x ∈ xs, x < B) (k : Nat) (hk : k ≤ xs.length) : val B (xs.take k) < B ^ k := by
 have h := j0a B (xs.take k) (fun x h => hx x (List.mem_of_mem_take h))
 rwa [List.length_take, Nat.min_eq_left hk] at h
theorem c1z {B : Nat} (xs ys : List Nat) (hx : ∀ x ∈ xs, x < B) (k : Nat) (hk : k < xs.length) (hl : xs.length = ys.length) (hd : xs.drop (k + 1) = ys.drop (k + 1)) (h : dg xs k < dg ys k) : val B xs < val B ys := by
 rw [w0f B xs k hk, w0f B ys k (by omega), hd]
 have h1 := j0p xs hx k (by omega)
 generalize val B (ys.drop (k + 1)) = v at *
 generalize val B (xs.take k) = t at *
 have h2 : B ^ k * (dg xs k + 1 + B * v) ≤ B ^ k * (dg ys k + B * v) := Nat.mul_le_mul_left _ (by omega)
 have e : B ^ k * (dg xs k + 1 + B * v) = B ^ k + B ^ k * (dg xs k + B * v) := by grind
 rw [e] at h2
 omega
theorem a1h {xs ys : List Nat} {k : Nat} (hk : k < xs.length) (hl : xs.length = ys.length) (hd : xs.drop (k + 1) = ys.drop (k + 1)) (h : dg xs k = dg ys k) : xs.drop k = ys.drop k := by
 rw [List.drop_eq_getElem_cons hk, List.drop_eq_getElem_cons (show k < ys.length by omega), hd]
 rw [a0x hk, a0x (show k < ys.length by omega)] at h
 rw [h]
/-! ### Lengths in bits -/
def blen (n : Nat) : Nat := (dig 2 n).length
theorem t0p : blen 0 = 0 := by unfold blen; rw [a0e]; rfl
theorem a0w (n k : Nat) : blen n ≤ k ↔ n < 2 ^ k := a0g (by omega) n k
theorem g0w (n : Nat) (h : 0 < n) : 2 ^ (blen n - 1) ≤ n := e0f (by omega) n h
theorem e0k (n : Nat) : 0 < blen n ↔ 0 < n := by
 have := a0h (B := 2) (by omega) n
 unfold blen; omega
theorem d1a (n : Nat) (h : 0 < n) : blen n = blen (n / 2) + 1 := by unfold blen; rw [e0e (by omega) h, List.length_cons]
theorem d1b {n k : Nat} (h1 : 2 ^ k ≤ n) (h2 : n < 2 ^ (k + 1)) : blen n = k + 1 := by
 have a := (a0w n (k + 1)).2 h2
 have b : ¬ blen n ≤ k := fun h => by have := (a0w n k).1 h; omega
 omega
theorem m0u {B s : Nat} (hB : B = 2 ^ s) (h2 : 2 ≤ B) (n : Nat) (h : 0 < n) : blen n = s * ((dig B n).length - 1) + blen (dg (dig B n) ((dig B n).length - 1)) ∧ 0 < dg (dig B n) ((dig B n).length - 1) := by
 have hl : 0 < (dig B n).length := List.length_pos_iff.2 ((e0j h2 n).2.2.2 h)
 have hv := w0f B (dig B n) ((dig B n).length - 1) (by omega)
 rw [b0o h2, show (dig B n).length - 1 + 1 = (dig B n).length by omega, List.drop_length, val_nil, Nat.mul_zero, Nat.add_zero] at hv
 have ht := j0p (dig B n) (c0c h2 n) ((dig B n).length - 1) (by omega)
 have hp := e0f h2 n h
 generalize dg (dig B n) ((dig B n).length - 1) = d at *
 generalize (dig B n).length - 1 = k at *
 generalize val B ((dig B n).take k) = t at *
 have hd : 0 < d := by
  rcases Nat.eq_zero_or_pos d with h0 | h0
  · subst h0; omega
  · exact h0
 refine ⟨?_, hd⟩
 have b1 := g0w d hd
 have b2 := (a0w d (blen d)).1 (Nat.le_refl _)
 have b3 := (e0k d).2 hd
 obtain ⟨m, hm⟩ : ∃ m, blen d = m + 1 := ⟨blen d - 1, by omega⟩
 rw [hm] at b1 b2 ⊢
 have e : B ^ k = 2 ^ (s * k) := by rw [hB, Nat.pow_mul]
 rw [e] at hv ht
 rw [← Nat.add_assoc]
 refine d1b ?_ ?_
 · rw [Nat.pow_add]
   have := Nat.mul_le_mul_left (2 ^ (s * k)) b1
   simp at this
   omega
 · rw [Nat.add_assoc, Nat.pow_add]
   have := Nat.mul_le_mul_left (2 ^ (s * k)) (show d + 1 ≤ 2 ^ (m + 1) from b2)
   rw [Nat.mul_add, Nat.mul_one] at this
   omega
/-! ### Differences, digit by digit -/
theorem i1e {B : Nat} (L : List Nat) (i y br T : Nat) (hi : i < L.length) (d : Nat) (hd : d + y + br = dg L i + B * (if dg L i < y + br then 1 else 0))
 (V : Nat) (h : val B L + V = T + br * B ^ i) :
 val B (L.set i d) + (V + B ^ i * y) = T + (if dg L i < y + br then 1 else 0) * B ^ (i + 1) := by
 have h1 := l0n B L i d hi
 rw [Nat.pow_succ]
 generalize (if dg L i < y + br then 1 else 0) = q at *
 generalize dg L i = x at *
 have h3 : B ^ i * (d + y + br) = B ^ i * (x + B * q) := by rw [hd]
 grind
def k0d (L ys : List Nat) (i br a : Nat) : Prop := (∀ x ∈ L, x < B32) ∧ val B32 L + val B32 (ys.take i) = a + br * B32 ^ i
def subD (x y br : Nat) : Nat := (x + (4294967296 - y) + (4294967296 - br)) % 4294967296
def subB (x y br : Nat) : Nat := if x < y + br then 1 else 0
theorem k0d.step {L ys : List Nat} {i br a : Nat} (h : k0d L ys i br a) (hi : i < L.length) (hy : ∀ x ∈ ys, x < B32) (hb : br ≤ 1) :
 k0d (L.set i (subD (dg L i) (dg ys i) br)) ys (i + 1) (subB (dg L i) (dg ys i) br) a := by
 have h1 := a0r (B := 4294967296) (by omega) L h.1 i
 have h2 := a0r (B := 4294967296) (by omega) ys hy i
 refine ⟨j0b L h.1 i _ (Nat.mod_lt _ (by omega)), ?_⟩
 rw [a0k]
 refine i1e L i _ br a hi _ ?_ _ h.2
 unfold subD B32
 split <;> omega
theorem r0e (x y br : Nat) : subB x y br ≤ 1 := by unfold subB; split <;> omega
theorem k0d.start (a : Nat) (ys : List Nat) : k0d (dig B32 a) ys 0 0 a := ⟨c0c a0b a, by simp [b0o a0b]⟩
theorem k0d.done {L ys : List Nat} {i br a b : Nat} (h : k0d L ys i br a) (hi : ys.length ≤ i) (hy : val B32 ys = b) (hab : b ≤ a) (hl : L.length ≤ i ∨ br = 0) (hL : val B32 L < B32 ^ L.length) : val B32 L = a - b := by
 have h2 := h.2
 rw [d0d _ _ _ hi, hy] at h2
 rcases hl with hl | rfl
 · have hp : B32 ^ L.length ≤ B32 ^ i := Nat.pow_le_pow_right c0j hl
   have : br = 0 := by
    rcases Nat.eq_zero_or_pos br with h0 | h0
    · exact h0
    · have := Nat.le_mul_of_pos_left (B32 ^ i) h0; omega
   subst this; omega
 · omega
def j0q (O xs ys : List Nat) (i br : Nat) : Prop := (∀ x ∈ O, x < B16) ∧ O.length = i ∧ br ≤ 1 ∧ val B16 O + val B16 (ys.take i) = val B16 (xs.take i) + br * B16 ^ i
theorem j0q.start (xs ys : List Nat) : j0q [] xs ys 0 0 := ⟨by simp, rfl, by omega, by simp⟩
theorem j0q.step {O xs ys : List Nat} {i br : Nat} (h : j0q O xs ys i br) (d br' : Nat) (hd : d < B16) (hb : br' ≤ 1) (he : d + dg ys i + br = dg xs i + B16 * br') : j0q (O ++ [d]) xs ys (i + 1) br' := by
 obtain ⟨h1, h2, h3, h4⟩ := h
 refine ⟨fun x hm => ?_, by simp [h2], hb, ?_⟩
 · rcases List.mem_append.1 hm with hm | hm
   · exact h1 x hm
   · simp at hm; omega
 · rw [e0i, a0k, a0k, h2, Nat.pow_succ]
   have e : B16 ^ i * (d + dg ys i + br) = B16 ^ i * (dg xs i + B16 * br') := by rw [he]
   grind
theorem j0q.done {O xs ys : List Nat} {br a b : Nat} (h : j0q O xs ys xs.length br) (hx : val B16 xs = a) (hy : val B16 ys = b) (hl : ys.length ≤ xs.length) (hab : b ≤ a) : val B16 O = a - b := by
 obtain ⟨h1, h2, h3, h4⟩ := h
 rw [d0d _ _ _ hl, List.take_length, hx, hy] at h4
 have hO := j0a B16 O h1
 rw [h2] at hO
 have : br = 0 := by
  rcases Nat.eq_zero_or_pos br with h0 | h0
  · exact h0
  · have := Nat.le_mul_of_pos_left (B16 ^ xs.length) h0; omega
 subst this; omega
theorem o1d {B p : Nat} (hp : B % p = 0) (xs : List Nat) : val B xs % p = dg xs 0 % p := by
 cases xs with
 | nil => simp [dg]
 | cons x xs =>
  have : dg (x :: xs) 0 = x := by simp [dg]
  rw [this, val_cons]
  obtain ⟨q, rfl⟩ := Nat.dvd_of_mod_eq_zero hp
  rw [Nat.mul_assoc, Nat.add_mul_mod_self_left]
theorem d1c (B p x V : Nat) (hp : 0 < p) (hB : B % p = 0) : (x + B * V) / p = x / p + V % p * (B / p) + B * (V / p) := by
 obtain ⟨q, rfl⟩ := Nat.dvd_of_mod_eq_zero hB
 rw [Nat.mul_div_cancel_left _ hp, Nat.mul_assoc, Nat.add_mul_div_left _ _ hp]
 have h := Nat.mod_add_div V p
 generalize V % p = r at *
 generalize V / p = s at *
 subst h
 grind
theorem y0g {B p : Nat} (hp : 0 < p) (hB : B % p = 0) (Y : List Nat) (i : Nat) (hi : i < Y.length) :
 val B (Y.drop i) / p = (dg Y i / p + dg Y (i + 1) % p * (B / p)) + B * (val B (Y.drop (i + 1)) / p) := by
 rw [m0t B Y i hi, d1c B p _ _ hp hB, o1d hB]
 have : dg (Y.drop (i + 1)) 0 = dg Y (i + 1) := by rw [f0l]
 rw [this]
theorem d1d {B p x y : Nat} (hp : 0 < p) (hB : B % p = 0) (hx : x < B) : x / p + y % p * (B / p) < B := by
 obtain ⟨q, rfl⟩ := Nat.dvd_of_mod_eq_zero hB
 rw [Nat.mul_div_cancel_left _ hp]
 have h1 : x / p < q := by rw [Nat.div_lt_iff_lt_mul hp, Nat.mul_comm]; exact hx
 have h2 : y % p + 1 ≤ p := Nat.mod_lt _ hp
 have h3 := Nat.mul_le_mul_right q h2
 rw [Nat.add_mul, Nat.one_mul] at h3
 omega
def j0c (B p : Nat) (L Y : List Nat) (i : Nat) : Prop :=
 (∀ x ∈ L, x < B) ∧ L.length = Y.length ∧ (∀ j, i ≤ j → dg L j = dg Y j) ∧ val B (L.take i) + B ^ i * (val B (Y.drop i) / p) = val B Y / p
theorem j0c.start {B p : Nat} {Y : List Nat} (h : ∀ x ∈ Y, x < B) : j0c B p Y Y 0 := ⟨h, rfl, fun _ _ => rfl, by simp⟩
theorem d0i (L : List Nat) (i v : Nat) : (L.set i v).take i = L.take i := by
 apply List.ext_getElem?
 intro j
 rw [List.getElem?_take, List.getElem?_take]
 by_cases h : j < i
 · rw [if_pos h, if_pos h, List.getElem?_set_ne (by omega)]
 · rw [if_neg h, if_neg h]
theorem j0c.step {B p : Nat} {L Y : List Nat} {i : Nat} (h : j0c B p L Y i) (hp : 0 < p) (hB : B % p = 0) (hY : ∀ x ∈ Y, x < B) (hi : i < Y.length) (v : Nat) (hv : v = dg Y i / p + dg Y (i + 1) % p * (B / p)) : j0c B p (L.set i v) Y (i + 1) := by
 obtain ⟨h1, h2, h3, h4⟩ := h
 have hx : dg Y i < B := by rw [a0x hi]; exact hY _ (List.getElem_mem hi)
 refine ⟨j0b L h1 i v (by rw [hv]; exact d1d hp hB hx), by simpa using h2, fun j hj => ?_, ?_⟩
 · rw [b0p (by omega)]; exact h3 j (by omega)
 · rw [a0k, d0i, b0k (by omega), ← h4, y0g hp hB Y i hi, ← hv, Nat.pow_succ]
   grind
theorem j0c.done {B p : Nat} {L Y : List Nat} (h : j0c B p L Y Y.length) : val B L = val B Y / p := by
 have h4 := h.2.2.2
 rw [← h.2.1] at h4
 rw [List.take_length, h.2.1, List.drop_length] at h4
 simpa using h4
def j0r (B p : Nat) (O Y : List Nat) (i : Nat) : Prop := (∀ x ∈ O, x < B) ∧ O.length = i ∧ val B O + B ^ i * (val B (Y.drop i) / p) = val B Y / p
theorem j0r.start (B p : Nat) (Y : List Nat) : j0r B p [] Y 0 := ⟨by simp, rfl, by simp⟩
theorem j0r.step {B p : Nat} {O Y : List Nat} {i : Nat} (h : j0r B p O Y i) (hp : 0 < p) (hB : B % p = 0) (hY : ∀ x ∈ Y, x < B) (hi : i < Y.length) (v : Nat) (hv : v = dg Y i / p + dg Y (i + 1) % p * (B / p)) : j0r B p (O ++ [v]) Y (i + 1) := by
 obtain ⟨h1, h2, h4⟩ := h
 have hx : dg Y i < B := by rw [a0x hi]; exact hY _ (List.getElem_mem hi)
 refine ⟨fun x hm => ?_, by simp [h2], ?_⟩
 · rcases List.mem_append.1 hm with hm | hm
   · exact h1 x hm
   · simp at hm; rw [hm, hv]; exact d1d hp hB hx
 · rw [e0i, h2, ← h4, y0g hp hB Y i hi, ← hv, Nat.pow_succ]
   grind
theorem j0r.done {B p : Nat} {O Y : List Nat} (h : j0r B p O Y Y.length) : val B O = val B Y / p := by
 have h4 := h.2.2
 rw [List.drop_length] at h4
 simpa using h4
theorem t0q {B : Nat} (hB : 0 < B) (xs : List Nat) (hx : ∀ x ∈ xs, x < B) (k : Nat) : val B (xs.drop k) = val B xs / B ^ k := by
 by_cases hk : k ≤ xs.length
 · rw [b0q B xs k hk]
   have := j0p xs hx k hk
   rw [Nat.add_mul_div_left _ _ (Nat.pow_pos hB), Nat.div_eq_of_lt this, Nat.zero_add]
 · rw [List.drop_of_length_le (by omega), val_nil]
   have h1 := j0a B xs hx
   have h2 : B ^ xs.length ≤ B ^ k := Nat.pow_le_pow_right hB (by omega)
   rw [Nat.div_eq_of_lt (by omega)]
theorem w0g {B w : Nat} (hB : B = 2 ^ w) (a N : Nat) : a / B ^ (N / w) / 2 ^ (N % w) = a / 2 ^ N := by
 rw [Nat.div_div_eq_div_mul, hB, ← Nat.pow_mul, ← Nat.pow_add, Nat.div_add_mod]
theorem t0r {w s : Nat} (h : s ≤ w) : 2 ^ w % 2 ^ s = 0 := Nat.mod_eq_zero_of_dvd (Nat.pow_dvd_pow 2 h)
theorem a1i {B w : Nat} (hB : B = 2 ^ w) (h2 : 2 ≤ B) (a N : Nat) (h : (dig B a).length ≤ N / w) : a / 2 ^ N = 0 := by
 have h1 := (a0g h2 a _).1 h
 rw [hB, ← Nat.pow_mul] at h1
 have h3 : 2 ^ (w * (N / w)) ≤ 2 ^ N := Nat.pow_le_pow_right (by omega) (Nat.mul_div_le N w)
 exact Nat.div_eq_of_lt (by omega)
/-! ### To the left -/
def k0e (B k p : Nat) (O xs : List Nat) (i cr : Nat) : Prop := (∀ x ∈ O, x < B) ∧ O.length = k + i ∧ cr < p ∧ val B O + cr * B ^ (k + i) = B ^ k * (val B (xs.take i) * p)
theorem k0e.start {B k p : Nat} (hB : 0 < B) (hp : 0 < p) (xs : List Nat) : k0e B k p (List.replicate k 0) xs 0 0 :=
 ⟨fun x h => by rw [(List.mem_replicate.1 h).2]; exact hB, by simp, hp, by simp [c0b]⟩
theorem k0e.step {B k p : Nat} {O xs : List Nat} {i cr : Nat} (h : k0e B k p O xs i cr) (hx : dg xs i < B) (t : Nat) (ht : t = dg xs i * p + cr) : k0e B k p (O ++ [t % B]) xs (i + 1) (t / B) := by
 obtain ⟨h1, h2, h3, h4⟩ := h
 have hB : 0 < B := by omega
 refine ⟨fun x hm => ?_, by simp [h2]; omega, ?_, ?_⟩
 · rcases List.mem_append.1 hm with hm | hm
   · exact h1 x hm
   · simp at hm; rw [hm]; exact Nat.mod_lt _ hB
 · rw [Nat.div_lt_iff_lt_mul hB, ht]
   have := Nat.mul_le_mul_right p (show dg xs i + 1 ≤ B from hx)
   rw [Nat.add_mul, Nat.one_mul] at this
   rw [Nat.mul_comm p B]; omega
 · rw [e0i, h2, a0k, ← Nat.add_assoc, Nat.pow_succ]
   have h5 := Nat.div_add_mod t B
   generalize t / B = q at *
   generalize t % B = r at *
   have e : B ^ (k + i) * (B * q + r) = B ^ (k + i) * (dg xs i * p + cr) := by rw [h5, ht]
   have e2 : B ^ (k + i) = B ^ k * B ^ i := Nat.pow_add _ _ _
   rw [e2] at *
   grind
theorem k0e.done {B k p : Nat} {O xs : List Nat} {cr a : Nat} (h : k0e B k p O xs xs.length cr) (hp : p ≤ B) (hx : val B xs = a) : (∀ x ∈ O ++ [cr], x < B) ∧ val B (O ++ [cr]) = a * (B ^ k * p) := by
 obtain ⟨h1, h2, h3, h4⟩ := h
 refine ⟨fun x hm => ?_, ?_⟩
 · rcases List.mem_append.1 hm with hm | hm
   · exact h1 x hm
   · simp at hm; omega
 · rw [e0i, h2, Nat.mul_comm (B ^ _) cr, h4, List.take_length, hx]
   grind
theorem n0g {B w : Nat} (hB : B = 2 ^ w) (N : Nat) : B ^ (N / w) * 2 ^ (N % w) = 2 ^ N := by
 rw [hB, ← Nat.pow_mul, ← Nat.pow_add, Nat.div_add_mod]
theorem y0h {B w : Nat} (hB : B = 2 ^ w) (hw : 0 < w) (N : Nat) : (List.replicate (N / w + 1) 0).set (N / w) (2 ^ (N % w)) = dig B (2 ^ N) := by
 have h2 : 2 ≤ B := by rw [hB]; calc 2 = 2 ^ 1 := rfl
  _ ≤ 2 ^ w := Nat.pow_le_pow_right (by omega) hw
 have hd : 2 ^ (N % w) < B := by rw [hB]; exact (Nat.pow_lt_pow_iff_right (by omega)).2 (Nat.mod_lt _ hw)
 have hv := l0n B (List.replicate (N / w + 1) 0) (N / w) (2 ^ (N % w)) (by simp)
 rw [d0c, c0b, n0g hB N] at hv
 have hx : ∀ x ∈ (List.replicate (N / w + 1) 0).set (N / w) (2 ^ (N % w)), x < B := j0b _ (fun x h => by rw [(List.mem_replicate.1 h).2]; omega) _ _ hd
 refine p0p h2 _ _ hx (j0m _ hx (.inr ?_)) (by omega)
 rw [List.length_set, List.length_replicate, Nat.add_sub_cancel]
 have := n0g hB N
 have h3 := Nat.le_mul_of_pos_right (B ^ (N / w)) (show 0 < 2 ^ (N % w) from Nat.pow_pos (by omega))
 omega
theorem i1f {B P V W top two q : Nat} (hV : top * (B * P) ≤ V) (hW : W < (two + 1) * (B * P)) (hq : q * V ≤ W) : q * top ≤ two := by
 have h1 : q * (top * (B * P)) ≤ q * V := Nat.mul_le_mul_left q hV
 have h2 : (q * top) * (B * P) < (two + 1) * (B * P) := by rw [Nat.mul_assoc]; omega
 have h3 := Nat.lt_of_mul_lt_mul_right h2
 omega
theorem a1j {B P V W top next two w0 r t q : Nat} (hV : (top * B + next) * P ≤ V) (hW : W < (two * B + w0 + 1) * P) (hq : q * V ≤ W) (ht : t * top + r = two) (hc : r * B + w0 < t * next) : q ≠ t := by
 rintro rfl
 have h1 : q * ((top * B + next) * P) ≤ q * V := Nat.mul_le_mul_left q hV
 have h2 : (q * (top * B + next)) * P < (two * B + w0 + 1) * P := by rw [Nat.mul_assoc]; omega
 have h3 := Nat.lt_of_mul_lt_mul_right h2
 subst ht
 grind
theorem i1g {B P V W top next two w0 r t q : Nat} (hV : V < (top * B + next + 1) * P) (hW : (two * B + w0) * P ≤ W) (hq : W < (q + 1) * V) (ht : t * top + r = two) (hc : t * next ≤ r * B + w0) (hp : t * P ≤ V) : t ≤ q + 1 := by
 have h1 : t * V ≤ t * ((top * B + next + 1) * P) := Nat.mul_le_mul_left t (Nat.le_of_lt hV)
 have h2 : t * (top * B + next) ≤ two * B + w0 := by subst ht; grind
 have h3 : (t * (top * B + next)) * P ≤ (two * B + w0) * P := Nat.mul_le_mul_right P h2
 have h4 : t * V ≤ W + V := by
  have e : t * ((top * B + next + 1) * P) = (t * (top * B + next)) * P + t * P := by grind
  omega
 have h5 : t * V < (q + 2) * V := by
  have e : (q + 2) * V = (q + 1) * V + V := by grind
  omega
 have := Nat.lt_of_mul_lt_mul_right h5
 omega
/-! ### t times a number is taken from a window of a row -/
def c0u (L X : List Nat) (j i : Nat) : Prop := (∀ x ∈ L, x < B32) ∧ L.length = X.length ∧ ∀ k, k < j ∨ j + i ≤ k → dg L k = dg X k
theorem c0u.refl {X : List Nat} (h : ∀ x ∈ X, x < B32) (j : Nat) : c0u X X j 0 := ⟨h, rfl, fun _ _ => rfl⟩
theorem c0u.step {L X : List Nat} {j i v : Nat} (h : c0u L X j i) (hv : v < B32) : c0u (L.set (j + i) v) X j (i + 1) := by
 obtain ⟨h1, h2, h3⟩ := h
 refine ⟨j0b L h1 _ _ hv, by simpa using h2, fun k hk => ?_⟩
 rw [b0p (by omega)]
 exact h3 k (by omega)
def r0f (L X ys : List Nat) (j t i cr br : Nat) : Prop :=
 c0u L X j i ∧ val B32 (L.take (j + i)) + B32 ^ j * (t * val B32 (ys.take i)) = val B32 (X.take (j + i)) + (cr + br) * B32 ^ (j + i)
theorem l0q {L X : List Nat} {j : Nat} (hl : L.length = X.length) (h : ∀ k, k < j → dg L k = dg X k) : L.take j = X.take j := by
 apply c0p
 · simp [hl]
 · intro k hk
   simp only [List.length_take] at hk
   rw [f0k (by omega), f0k (by omega)]
   exact h k (by omega)
theorem r0f.start {X : List Nat} (h : ∀ x ∈ X, x < B32) (ys : List Nat) (j t : Nat) : r0f X X ys j t 0 0 0 := ⟨c0u.refl h j, by simp⟩
theorem d1e (x y br : Nat) (hx : x < 4294967296) (hy : y < 4294967296) (hb : br ≤ 1) : subD x y br + y + br = x + B32 * subB x y br := by
 unfold subD subB B32; split <;> omega
theorem r0f.step {L X ys : List Nat} {j t i cr br : Nat} (h : r0f L X ys j t i cr br) (hj : j + i < X.length) (hX : dg X (j + i) < 4294967296) (hb : br ≤ 1) (p : Nat) (hp : p = dg ys i * t + cr) :
 r0f (L.set (j + i) (subD (dg L (j + i)) (p % 4294967296) br)) X ys j t (i + 1) (p / 4294967296) (subB (dg L (j + i)) (p % 4294967296) br) := by
 obtain ⟨h1, h2⟩ := h
 have hx : dg L (j + i) = dg X (j + i) := h1.2.2 _ (.inr (Nat.le_refl _))
 rw [hx]
 refine ⟨h1.step (Nat.mod_lt _ (by omega)), ?_⟩
 have e1 := d1e (dg X (j + i)) (p % 4294967296) br hX (Nat.mod_lt _ (by omega)) hb
 have e2 := Nat.div_add_mod p 4294967296
 rw [show j + (i + 1) = j + i + 1 by omega, a0k, d0i, b0k (by rw [h1.2.1]; exact hj), a0k, a0k, Nat.pow_succ]
 rw [show (4294967296 : Nat) = B32 from rfl] at *
 generalize subD (dg X (j + i)) (p % B32) br = d at *
 generalize subB (dg X (j + i)) (p % B32) br = b at *
 generalize p % B32 = pl at *
 generalize p / B32 = ph at *
 generalize dg X (j + i) = x at *
 generalize val B32 (L.take (j + i)) = vl at *
 generalize val B32 (X.take (j + i)) = vx at *
 generalize val B32 (ys.take i) = vy at *
 have e3 : B32 ^ (j + i) = B32 ^ j * B32 ^ i := Nat.pow_add _ _ _
 rw [e3] at h2 ⊢
 clear e3
 generalize B32 ^ j = P at *
 generalize B32 ^ i = Q at *
 subst hp
 have e4 : P * Q * (d + pl + br) = P * Q * (x + B32 * b) := by rw [e1]
 have e5 : P * Q * (B32 * ph + pl) = P * Q * (dg ys i * t + cr) := by rw [e2]
 grind
theorem r0f.last {L X ys : List Nat} {j t cr br : Nat} (h : r0f L X ys j t ys.length cr br) (hj : j + ys.length < X.length) (hX : dg X (j + ys.length) < 4294967296) (hb : br ≤ 1) (hc : cr < 4294967296) :
 c0u (L.set (j + ys.length) (subD (dg L (j + ys.length)) cr br)) X j (ys.length + 1) ∧
  val B32 (L.set (j + ys.length) (subD (dg L (j + ys.length)) cr br)) + B32 ^ j * (t * val B32 ys) = val B32 X + subB (dg L (j + ys.length)) cr br * B32 ^ (j + ys.length + 1) := by
 obtain ⟨h1, h2⟩ := h
 have hx : dg L (j + ys.length) = dg X (j + ys.length) := h1.2.2 _ (.inr (Nat.le_refl _))
 have hw := h1.step (v := subD (dg L (j + ys.length)) cr br) (Nat.mod_lt _ (by omega))
 refine ⟨hw, ?_⟩
 have e1 := d1e (dg X (j + ys.length)) cr br hX hc hb
 rw [List.take_length] at h2
 rw [hx] at hw ⊢
 have hd : (L.set (j + ys.length) (subD (dg X (j + ys.length)) cr br)).drop (j + ys.length + 1) = X.drop (j + ys.length + 1) := by
  apply c0p
  · simp [h1.2.1]
  · intro k hk
    rw [f0l, f0l]
    exact hw.2.2 _ (.inr (by omega))
 rw [b0q B32 _ (j + ys.length + 1) (by rw [hw.2.1]; omega), b0q B32 X (j + ys.length + 1) (by omega), hd]
 rw [a0k, d0i, b0k (by rw [h1.2.1]; exact hj), a0k]
 generalize subD (dg X (j + ys.length)) cr br = d at *
 generalize subB (dg X (j + ys.length)) cr br = b at *
 generalize dg X (j + ys.length) = x at *
 generalize val B32 (X.drop (j + ys.length + 1)) = u at *
 generalize val B32 (L.take (j + ys.length)) = vl at *
 generalize val B32 (X.take (j + ys.length)) = vx at *
 rw [Nat.pow_succ]
 generalize B32 ^ (j + ys.length) = P at *
 have e4 : P * (d + cr + br) = P * (x + B32 * b) := by rw [e1]
 grind
/-! ### a number is added to a window of a row -/
def r0g (L X ys : List Nat) (j i cr : Nat) : Prop :=
 c0u L X j i ∧ val B32 (L.take (j + i)) + cr * B32 ^ (j + i) = val B32 (X.take (j + i)) + B32 ^ j * val B32 (ys.take i)
theorem r0g.start {X : List Nat} (h : ∀ x ∈ X, x < B32) (ys : List Nat) (j : Nat) : r0g X X ys j 0 0 := ⟨c0u.refl h j, by simp⟩
theorem r0g.step {L X ys : List Nat} {j i cr : Nat} (h : r0g L X ys j i cr) (hj : j + i < X.length) (t : Nat) (ht : t = dg L (j + i) + dg ys i + cr) :
 r0g (L.set (j + i) (t % 4294967296)) X ys j (i + 1) (t / 4294967296) := by
 obtain ⟨h1, h2⟩ := h
 have hx : dg L (j + i) = dg X (j + i) := h1.2.2 _ (.inr (Nat.le_refl _))
 rw [hx] at ht
 refine ⟨h1.step (Nat.mod_lt _ (by omega)), ?_⟩
 have e2 := Nat.div_add_mod t 4294967296
 rw [show j + (i + 1) = j + i + 1 by omega, a0k, d0i, b0k (by rw [h1.2.1]; exact hj), a0k, a0k, Nat.pow_succ]
 rw [show (4294967296 : Nat) = B32 from rfl] at *
 generalize t % B32 = pl at *
 generalize t / B32 = ph at *
 generalize dg X (j + i) = x at *
 generalize val B32 (L.take (j + i)) = vl at *
 generalize val B32 (X.take (j + i)) = vx at *
 generalize val B32 (ys.take i) = vy at *
 have e3 : B32 ^ (j + i) = B32 ^ j * B32 ^ i := Nat.pow_add _ _ _
 rw [e3] at h2 ⊢
 clear e3
 generalize B32 ^ j = P at *
 generalize B32 ^ i = Q at *
 subst ht
 have e5 : P * Q * (B32 * ph + pl) = P * Q * (x + dg ys i + cr) := by rw [e2]
 grind
theorem g0i (B : Nat) (xs : List Nat) (j : Nat) : val B (xs.drop j) = dg xs j + B * val B (xs.drop (j + 1)) := by
 by_cases h : j < xs.length
 · exact m0t B xs j h
 · rw [List.drop_of_length_le (by omega), List.drop_of_length_le (by omega), d0h (by omega)]; simp
theorem b0c (B : Nat) (xs : List Nat) (k : Nat) : val B xs = val B (xs.take k) + B ^ k * val B (xs.drop k) := by
 by_cases h : k ≤ xs.length
 · exact b0q B xs k h
 · rw [List.take_of_length_le (by omega), List.drop_of_length_le (by omega)]; simp
theorem m0g {B : Nat} (hB : 0 < B) (xs : List Nat) (hx : ∀ x ∈ xs, x < B) (k : Nat) : val B (xs.take k) < B ^ k := by
 refine Nat.lt_of_lt_of_le (j0a B _ fun x h => hx x (List.mem_of_mem_take h)) (Nat.pow_le_pow_right hB ?_)
 simp; omega
theorem top3 {B : Nat} (hB : 0 < B) (xs : List Nat) (hx : ∀ x ∈ xs, x < B) (m : Nat) (h0 : val B (xs.drop (m + 3)) = 0) :
 ((dg xs (m + 2) * B + dg xs (m + 1)) * B + dg xs m) * B ^ m ≤ val B xs ∧ val B xs < ((dg xs (m + 2) * B + dg xs (m + 1)) * B + dg xs m + 1) * B ^ m := by
 have h1 := b0c B xs m
 have h2 := m0g hB xs hx m
 have e : val B (xs.drop m) = (dg xs (m + 2) * B + dg xs (m + 1)) * B + dg xs m := by
  rw [g0i B xs m, g0i B xs (m + 1), g0i B xs (m + 2), h0]; grind
 rw [e] at h1
 generalize (dg xs (m + 2) * B + dg xs (m + 1)) * B + dg xs m = T at *
 rw [h1, Nat.mul_comm T, Nat.mul_comm (T + 1), Nat.mul_add]
 omega
structure DivRel (A V n : Nat) (U Q : List Nat) (k : Nat) : Prop where
 dU : ∀ x ∈ U, x < B32
 dQ : ∀ x ∈ Q, x < B32
 len : U.length = Q.length + n
 top : val B32 (U.drop k) < V
 sum : val B32 U + val B32 Q * V = A
 zero : ∀ i, i < k → dg Q i = 0
theorem DivRel.start {A V n : Nat} {U : List Nat} (hU : ∀ x ∈ U, x < B32) (hn : n ≤ U.length) (h1 : 1 ≤ n) (hA : val B32 U = A) (hlt : A < B32 ^ (U.length - 1)) (hV : B32 ^ (n - 1) ≤ V) :
 DivRel A V n U (List.replicate (U.length - n) 0) (U.length - n) := by
 refine ⟨hU, fun x hx => by rw [(List.mem_replicate.1 hx).2]; exact c0j, by simp; omega, ?_, by rw [c0b, hA]; simp, fun i _ => d0c _ _⟩
 have h := b0q B32 U (U.length - n) (by omega)
 have e : B32 ^ (U.length - 1) = B32 ^ (U.length - n) * B32 ^ (n - 1) := by rw [← Nat.pow_add]; congr 1; omega
 have h2 : B32 ^ (U.length - n) * val B32 (U.drop (U.length - n)) < B32 ^ (U.length - n) * B32 ^ (n - 1) := by omega
 have := Nat.lt_of_mul_lt_mul_left h2
 omega
theorem DivRel.win {A V n : Nat} {U Q : List Nat} {j : Nat} (h : DivRel A V n U Q (j + 1)) : val B32 (U.drop j) < B32 * V := by
 rw [g0i]
 have h1 := a0r c0j U h.dU j
 have h2 := h.top
 have h3 : B32 * (val B32 (U.drop (j + 1)) + 1) ≤ B32 * V := Nat.mul_le_mul_left _ h2
 rw [Nat.mul_add] at h3
 omega
theorem DivRel.done {A V n : Nat} {U Q : List Nat} (h : DivRel A V n U Q 0) : val B32 Q = A / V ∧ val B32 U = A % V := by
 have h1 := h.top
 have h2 := h.sum
 rw [List.drop_zero] at h1
 have hV : 0 < V := by omega
 have e1 : A = val B32 U + V * val B32 Q := by rw [← h2, Nat.mul_comm V]
 constructor
 · rw [e1, Nat.add_mul_div_left _ _ hV, Nat.div_eq_of_lt h1]; omega
 · rw [e1, Nat.add_mul_mod_self_left, Nat.mod_eq_of_lt h1]
structure e0s (ys U : List Nat) (m j : Nat) : Prop where
 dy : ∀ x ∈ ys, x < B32
 dU : ∀ x ∈ U, x < B32
 ly : ys.length = m + 2
 big : 2147483648 ≤ dg ys (m + 1)
 win : val B32 (U.drop j) < B32 * val B32 ys
theorem e0s.v {ys U : List Nat} {m j : Nat} (h : e0s ys U m j) : (dg ys (m + 1) * B32 + dg ys m) * B32 ^ m ≤ val B32 ys ∧ val B32 ys < (dg ys (m + 1) * B32 + dg ys m + 1) * B32 ^ m := by
 have h1 := top3 c0j ys h.dy m (by rw [List.drop_of_length_le (by have := h.ly; omega)]; rfl)
 rw [d0h (show ys.length ≤ m + 2 by have := h.ly; omega)] at h1
 simpa using h1
theorem e0s.lt {ys U : List Nat} {m j : Nat} (h : e0s ys U m j) : val B32 (U.drop j) < B32 ^ (m + 3) := by
 have h1 := h.win
 have h2 := j0a B32 ys h.dy
 rw [h.ly] at h2
 have h3 : B32 * val B32 ys ≤ B32 * B32 ^ (m + 2) := Nat.mul_le_mul_left _ (Nat.le_of_lt h2)
 rw [Nat.pow_succ, Nat.mul_comm]
 omega
theorem n0h {B : Nat} {xs : List Nat} {k : Nat} (h : val B xs < B ^ k) : val B (xs.drop k) = 0 := by
 have h1 := b0c B xs k
 rcases Nat.eq_zero_or_pos (val B (xs.drop k)) with h2 | h2
 · exact h2
 · have := Nat.mul_le_mul_left (B ^ k) h2
   omega
theorem e0s.z {ys U : List Nat} {m j : Nat} (h : e0s ys U m j) : val B32 ((U.drop j).drop (m + 3)) = 0 := n0h h.lt
theorem e0s.w {ys U : List Nat} {m j : Nat} (h : e0s ys U m j) :
 ((dg U (j + m + 2) * B32 + dg U (j + m + 1)) * B32 + dg U (j + m)) * B32 ^ m ≤ val B32 (U.drop j) ∧ val B32 (U.drop j) < ((dg U (j + m + 2) * B32 + dg U (j + m + 1)) * B32 + dg U (j + m) + 1) * B32 ^ m := by
 have h1 := top3 c0j (U.drop j) (fun x hx => h.dU x (List.mem_of_mem_drop hx)) m h.z
 simp only [f0l] at h1
 rw [show j + (m + 2) = j + m + 2 by omega, show j + (m + 1) = j + m + 1 by omega] at h1
 exact h1
theorem e0s.pos {ys U : List Nat} {m j : Nat} (h : e0s ys U m j) : 0 < val B32 ys := by have := h.win; rcases Nat.eq_zero_or_pos (val B32 ys) with h0 | h0; (rw [h0] at this; omega); exact h0
theorem e0s.q_lt {ys U : List Nat} {m j : Nat} (h : e0s ys U m j) : val B32 (U.drop j) / val B32 ys < B32 := by
 rw [Nat.div_lt_iff_lt_mul h.pos]; exact h.win
theorem e0s.two_lt {ys U : List Nat} {m j : Nat} (h : e0s ys U m j) : dg U (j + m + 2) * B32 + dg U (j + m + 1) < (dg ys (m + 1) + 1) * B32 := by
 have h1 := h.w.1
 have h2 := h.win
 have h3 := h.v.2
 have h4 := a0r c0j ys h.dy m
 generalize dg U (j + m + 2) * B32 + dg U (j + m + 1) = two at *
 generalize dg ys (m + 1) = top at *
 have h5 : (top * B32 + dg ys m + 1) * B32 ^ m ≤ ((top + 1) * B32) * B32 ^ m := Nat.mul_le_mul_right _ (by rw [Nat.add_mul]; omega)
 have h6 : B32 * val B32 ys < B32 * (((top + 1) * B32) * B32 ^ m) := Nat.mul_lt_mul_of_pos_left (by omega) c0j
 have h7 : (two * B32) * B32 ^ m ≤ (two * B32 + dg U (j + m)) * B32 ^ m := Nat.mul_le_mul_right _ (by omega)
 have h8 : two * (B32 * B32 ^ m) < ((top + 1) * B32) * (B32 * B32 ^ m) := by
  have e1 : (two * B32) * B32 ^ m = two * (B32 * B32 ^ m) := Nat.mul_assoc _ _ _
  have e2 : B32 * (((top + 1) * B32) * B32 ^ m) = ((top + 1) * B32) * (B32 * B32 ^ m) := by rw [Nat.mul_left_comm]
  omega
 exact Nat.lt_of_mul_lt_mul_right h8
structure i0v (ys U : List Nat) (m j t r : Nat) : Prop where
 eq : t * dg ys (m + 1) + r = dg U (j + m + 2) * B32 + dg U (j + m + 1)
 ge : val B32 (U.drop j) / val B32 ys ≤ t
theorem e0s.start {ys U : List Nat} {m j : Nat} (h : e0s ys U m j) (two : Nat) (h2 : two = dg U (j + m + 2) * B32 + dg U (j + m + 1)) :
 i0v ys U m j (two / dg ys (m + 1)) (two % dg ys (m + 1)) := by
 have hb := h.big
 refine ⟨by rw [← h2, Nat.mul_comm, Nat.div_add_mod], ?_⟩
 rw [Nat.le_div_iff_mul_le (by omega)]
 have h3 := h.v.1
 have h4 := h.w.2
 rw [← h2] at h4
 have h5 := a0r c0j U h.dU (j + m)
 have h6 : (dg ys (m + 1) * (B32 * B32 ^ m)) ≤ val B32 ys := by
  refine Nat.le_trans ?_ h3
  rw [← Nat.mul_assoc]
  exact Nat.mul_le_mul_right _ (by omega)
 have h7 : val B32 (U.drop j) < (two + 1) * (B32 * B32 ^ m) := by
  refine Nat.lt_of_lt_of_le h4 ?_
  rw [← Nat.mul_assoc]
  exact Nat.mul_le_mul_right _ (by rw [Nat.add_mul]; omega)
 exact i1f h6 h7 (Nat.div_mul_le_self _ _)
theorem i0v.down {ys U : List Nat} {m j t r : Nat} (h : i0v ys U m j t r) (k : e0s ys U m j) (hc : B32 ≤ t ∨ r * B32 + dg U (j + m) < t * dg ys m) :
 0 < t ∧ i0v ys U m j (t - 1) (r + dg ys (m + 1)) := by
 have hq := k.q_lt
 have h0 : 0 < t := by
  rcases hc with hc | hc
  · have := c0j; omega
  · rcases Nat.eq_zero_or_pos t with h0 | h0
    · subst h0; simp at hc
    · exact h0
 have hne : val B32 (U.drop j) / val B32 ys ≠ t := by
  rcases hc with hc | hc
  · omega
  · exact a1j k.v.1 k.w.2 (Nat.div_mul_le_self _ _) h.eq hc
 refine ⟨h0, ?_, by have := h.ge; omega⟩
 have e := h.eq
 obtain ⟨u, rfl⟩ : ∃ u, t = u + 1 := ⟨t - 1, by omega⟩
 rw [Nat.add_mul] at e
 simp only [Nat.add_sub_cancel]
 omega
theorem n0i (w v : Nat) (hv : 0 < v) : w < (w / v + 1) * v := by
 have h1 := Nat.div_add_mod w v
 have h2 := Nat.mod_lt w hv
 rw [Nat.add_mul, Nat.one_mul, Nat.mul_comm (w / v) v]
 omega
theorem i0v.exit {ys U : List Nat} {m j t r : Nat} (h : i0v ys U m j t r) (k : e0s ys U m j) (h1 : t < B32) (hc : t * dg ys m ≤ r * B32 + dg U (j + m)) :
 t ≤ val B32 (U.drop j) / val B32 ys + 1 := by
 have hb := k.big
 refine i1g (B := B32) k.v.2 k.w.1 (n0i _ _ k.pos) h.eq hc ?_
 refine Nat.le_trans ?_ k.v.1
 refine Nat.mul_le_mul_right _ ?_
 have : 1 * B32 ≤ dg ys (m + 1) * B32 := Nat.mul_le_mul_right _ (by omega)
 omega
theorem i0v.breaks {ys U : List Nat} {m j t r : Nat} (h : i0v ys U m j t r) (k : e0s ys U m j) (hr : B32 ≤ r) : t < B32 ∧ t * dg ys m ≤ r * B32 + dg U (j + m) := by
 have h2 := k.two_lt
 have h1 : t < B32 := by
  rcases Nat.lt_or_ge t B32 with h3 | h3
  · exact h3
  · have h4 := Nat.mul_le_mul_right (dg ys (m + 1)) h3
    have := h.eq
    rw [Nat.add_mul, Nat.one_mul, Nat.mul_comm (dg ys (m + 1)) B32] at h2
    omega
 refine ⟨h1, ?_⟩
 have h3 := a0r c0j ys k.dy m
 have h4 : t * dg ys m ≤ B32 * B32 := Nat.mul_le_mul (by omega) (by omega)
 have h5 := Nat.mul_le_mul_right B32 hr
 omega
theorem i0v.bound {ys U : List Nat} {m j t r : Nat} (h : i0v ys U m j t r) (k : e0s ys U m j) : t ≤ B32 + 2 := by
 have h1 := h.eq
 have h2 := k.two_lt
 have hb := k.big
 rcases Nat.lt_or_ge t (B32 + 3) with h3 | h3
 · omega
 · have h4 := Nat.mul_le_mul_right (dg ys (m + 1)) h3
   rw [Nat.add_mul, Nat.one_mul] at h2
   rw [Nat.add_mul] at h4
   rw [Nat.mul_comm (dg ys (m + 1)) B32] at h2
   have h5 : B32 = 4294967296 := rfl
   omega
theorem d1f {L U : List Nat} {j n x br : Nat} (hw : c0u L U j n) (hv : val B32 L + B32 ^ j * x = val B32 U + br * B32 ^ (j + n)) :
 val B32 (L.drop j) + x = val B32 (U.drop j) + br * B32 ^ n := by
 have h1 := b0c B32 L j
 have h2 := b0c B32 U j
 have h3 : L.take j = U.take j := l0q hw.2.1 fun k hk => hw.2.2 k (.inl hk)
 rw [h3] at h1
 rw [Nat.pow_add] at hv
 have h4 : B32 ^ j * (val B32 (L.drop j) + x) = B32 ^ j * (val B32 (U.drop j) + br * B32 ^ n) := by
  rw [Nat.mul_add, Nat.mul_add]
  have : br * (B32 ^ j * B32 ^ n) = B32 ^ j * (br * B32 ^ n) := Nat.mul_left_comm _ _ _
  omega
 exact Nat.eq_of_mul_eq_mul_left (Nat.pow_pos c0j) h4
theorem w0h {L U : List Nat} {j n : Nat} (hw : c0u L U j n) : L.drop (j + n) = U.drop (j + n) := by
 apply c0p
 · simp [hw.2.1]
 · intro k _
   rw [f0l, f0l]
   exact hw.2.2 _ (.inr (by omega))
theorem d1g {L U : List Nat} {j n : Nat} (hw : c0u L U j n) (hz : val B32 ((U.drop j).drop n) = 0) : val B32 (L.drop j) < B32 ^ n := by
 have h1 := b0c B32 (L.drop j) n
 rw [List.drop_drop] at hz h1
 rw [w0h hw, hz] at h1
 have h2 := m0g c0j (L.drop j) (fun x hx => hw.1 x (List.mem_of_mem_drop hx)) n
 omega
theorem DivRel.next {A V n : Nat} {U Q L : List Nat} {j q : Nat} (h : DivRel A V n U Q (j + 1)) (hj : j < Q.length) (hw : c0u L U j (n + 1)) (hq : q < B32)
 (hv : val B32 (L.drop j) + q * V = val B32 (U.drop j)) (hlt : val B32 (L.drop j) < V) : DivRel A V n L (Q.set j q) j := by
 refine ⟨hw.1, j0b Q h.dQ j q hq, by rw [hw.2.1, List.length_set]; exact h.len, hlt, ?_, fun i hi => ?_⟩
 · have h1 := b0c B32 L j
   have h2 := b0c B32 U j
   have h3 : L.take j = U.take j := l0q hw.2.1 fun k hk => hw.2.2 k (.inl hk)
   rw [h3] at h1
   have h4 := l0n B32 Q j q hj
   rw [h.zero j (by omega)] at h4
   have h5 : val B32 (Q.set j q) = val B32 Q + B32 ^ j * q := by omega
   have h6 := h.sum
   rw [h5, h1]
   rw [h2, ← hv] at h6
   rw [← h6]
   grind
 · rw [b0p (by omega)]
   exact h.zero i (by omega)
theorem DivRel.even {A m : Nat} {ys U Q L : List Nat} {j t r : Nat} (h : DivRel A (val B32 ys) (m + 2) U Q (j + 1)) (k : e0s ys U m j) (ht : i0v ys U m j t r) (hj : j < Q.length) (hB : t < B32)
 (hw : c0u L U j (m + 3)) (hv : val B32 L + B32 ^ j * (t * val B32 ys) = val B32 U + 0 * B32 ^ (j + (m + 3))) : DivRel A (val B32 ys) (m + 2) L (Q.set j t) j := by
 have h1 := d1f hw hv
 rw [Nat.zero_mul, Nat.add_zero] at h1
 refine h.next hj hw hB h1 ?_
 have h2 := ht.ge
 have h3 := n0i (val B32 (U.drop j)) (val B32 ys) k.pos
 have h4 : (val B32 (U.drop j) / val B32 ys + 1) * val B32 ys ≤ (t + 1) * val B32 ys := Nat.mul_le_mul_right _ (by omega)
 rw [Nat.add_mul t, Nat.one_mul] at h4
 omega
theorem DivRel.owed {A m : Nat} {ys U Q L M : List Nat} {j t r co : Nat} (h : DivRel A (val B32 ys) (m + 2) U Q (j + 1)) (k : e0s ys U m j) (_ : i0v ys U m j t r) (he : t ≤ val B32 (U.drop j) / val B32 ys + 1) (hj : j < Q.length) (hB : t < B32)
 (hw : c0u L U j (m + 3)) (hv : val B32 L + B32 ^ j * (t * val B32 ys) = val B32 U + 1 * B32 ^ (j + (m + 3)))
 (hw2 : c0u M L j (m + 3)) (hv2 : val B32 M + co * B32 ^ (j + (m + 3)) = val B32 L + B32 ^ j * val B32 ys) : 0 < t ∧ DivRel A (val B32 ys) (m + 2) M (Q.set j (t - 1)) j := by
 have h1 := d1f hw hv
 have hwM : c0u M U j (m + 3) := ⟨hw2.1, hw2.2.1.trans hw.2.1, fun i hi => (hw2.2.2 i hi).trans (hw.2.2 i hi)⟩
 have hl1 := d1g hw k.z
 have hl2 := d1g hwM k.z
 have h3 : val B32 (M.drop j) + co * B32 ^ (m + 3) = val B32 (L.drop j) + val B32 ys := by
  have e1 := b0c B32 L j
  have e2 := b0c B32 M j
  have e3 : M.take j = L.take j := l0q hw2.2.1 fun k hk => hw2.2.2 k (.inl hk)
  rw [e3] at e2
  rw [Nat.pow_add] at hv2
  have e4 : B32 ^ j * (val B32 (M.drop j) + co * B32 ^ (m + 3)) = B32 ^ j * (val B32 (L.drop j) + val B32 ys) := by
   rw [Nat.mul_add, Nat.mul_add]
   have : co * (B32 ^ j * B32 ^ (m + 3)) = B32 ^ j * (co * B32 ^ (m + 3)) := Nat.mul_left_comm _ _ _
   omega
  exact Nat.eq_of_mul_eq_mul_left (Nat.pow_pos c0j) e4
 have hp := k.pos
 generalize hW : val B32 (U.drop j) = W at *
 generalize hV : val B32 ys = V at *
 generalize hP : B32 ^ (m + 3) = P at *
 have g1 : W < t * V := by omega
 have g2 : W / V < t := (Nat.div_lt_iff_lt_mul hp).2 g1
 have g4 := Nat.div_add_mod W V
 generalize W / V = wq at *
 obtain ⟨q, rfl⟩ : ∃ q, t = q + 1 := ⟨t - 1, by omega⟩
 have g3 : wq = q := by omega
 have g5 := Nat.mod_lt W hp
 rw [g3, Nat.mul_comm V q] at g4
 rw [Nat.add_mul, Nat.one_mul, Nat.one_mul] at h1
 have g6 : val B32 (M.drop j) + co * P = W % V + P := by omega
 have g7 : W < P := by rw [← hP, ← hW]; exact k.lt
 have g8 : W % V ≤ W := Nat.mod_le _ _
 have g9 : co = 1 := by
  rcases Nat.lt_trichotomy co 1 with c | c | c
  · have : co = 0 := by omega
    subst this; omega
  · exact c
  · have := Nat.mul_le_mul_right P c
    omega
 subst g9
 rw [Nat.one_mul] at g6
 have g10 : val B32 (M.drop j) = W % V := by omega
 refine ⟨by omega, ?_⟩
 simp only [Nat.add_sub_cancel]
 exact h.next hj hwM (by omega) (by omega) (by omega)
theorem r0g.last {L X ys : List Nat} {j cr : Nat} (h : r0g L X ys j ys.length cr) (hj : j + ys.length < X.length) :
 c0u (L.set (j + ys.length) ((dg L (j + ys.length) + cr) % 4294967296)) X j (ys.length + 1) ∧
  val B32 (L.set (j + ys.length) ((dg L (j + ys.length) + cr) % 4294967296)) + ((dg L (j + ys.length) + cr) / 4294967296) * B32 ^ (j + (ys.length + 1)) = val B32 X + B32 ^ j * val B32 ys := by
 obtain ⟨h1, h2⟩ := h
 have hx : dg L (j + ys.length) = dg X (j + ys.length) := h1.2.2 _ (.inr (Nat.le_refl _))
 have hw := h1.step (v := (dg L (j + ys.length) + cr) % 4294967296) (Nat.mod_lt _ (by omega))
 refine ⟨hw, ?_⟩
 rw [List.take_length] at h2
 rw [hx] at hw ⊢
 have hd : (L.set (j + ys.length) ((dg X (j + ys.length) + cr) % 4294967296)).drop (j + ys.length + 1) = X.drop (j + ys.length + 1) := by
  apply c0p
  · simp [h1.2.1]
  · intro k hk
    rw [f0l, f0l]
    exact hw.2.2 _ (.inr (by omega))
 rw [b0q B32 _ (j + ys.length + 1) (by rw [hw.2.1]; omega), b0q B32 X (j + ys.length + 1) (by omega), hd]
 rw [a0k, d0i, b0k (by rw [h1.2.1]; exact hj), a0k]
 have e2 := Nat.div_add_mod (dg X (j + ys.length) + cr) 4294967296
 rw [show (4294967296 : Nat) = B32 from rfl] at *
 generalize (dg X (j + ys.length) + cr) % B32 = pl at *
 generalize (dg X (j + ys.length) + cr) / B32 = ph at *
 generalize dg X (j + ys.length) = x at *
 generalize val B32 (X.drop (j + ys.length + 1)) = u at *
 generalize val B32 (L.take (j + ys.length)) = vl at *
 generalize val B32 (X.take (j + ys.length)) = vx at *
 rw [show j + (ys.length + 1) = j + ys.length + 1 by omega, Nat.pow_succ]
 generalize B32 ^ (j + ys.length) = P at *
 have e4 : P * (B32 * ph + pl) = P * (x + cr) := by rw [e2]
 grind
theorem i1h (L : List Nat) (k : Nat) (h : dg L k = 0) : L.set k 0 = L := by
 apply c0p
 · simp
 · intro t ht
   by_cases hk : k = t
   · subst hk
     rw [b0k (by simpa using ht), h]
   · rw [b0p hk]
theorem SmallRel.push {B : Nat} {L xs : List Nat} {d k r : Nat} (h : SmallRel B L xs d (k + 1) r) (hx : dg xs k < B) : dg xs k + B * r < d * B := by
 have h1 : (r + 1) * B ≤ d * B := Nat.mul_le_mul_right _ h.2.1
 rw [Nat.add_mul, Nat.one_mul] at h1
 rw [Nat.mul_comm B r]; omega
/-! ### powers -/
theorem g0j {m : Nat} (h : 0 < m) (k : Nat) : blen (m * 2 ^ k) = blen m + k := by
 have h1 := g0w m h
 have h2 := (a0w m (blen m)).1 (Nat.le_refl _)
 have h3 := (e0k m).2 h
 have e : blen m + k = (blen m - 1 + k) + 1 := by omega
 rw [e]
 refine d1b ?_ ?_
 · rw [Nat.pow_add]; exact Nat.mul_le_mul_right _ h1
 · rw [show blen m - 1 + k + 1 = blen m + k by omega, Nat.pow_add]
   exact Nat.mul_lt_mul_of_pos_right h2 (Nat.pow_pos (by omega))
theorem i1i {b s : Nat} (h : 0 < b) (hs : s + blen (dg (dig B32 b) ((dig B32 b).length - 1)) = 32) :
 (dig B32 (b * 2 ^ s)).length = (dig B32 b).length ∧ 2147483648 ≤ dg (dig B32 (b * 2 ^ s)) ((dig B32 b).length - 1) := by
 obtain ⟨h1, h2⟩ := m0u (B := B32) (s := 32) (by decide) a0b b h
 have hl0 : 0 < (dig B32 b).length := List.length_pos_iff.2 ((e0j a0b b).2.2.2 h)
 have h3 := g0j h s
 have hV : 0 < b * 2 ^ s := Nat.mul_pos h (Nat.pow_pos (by omega))
 obtain ⟨k1, k2⟩ := m0u (B := B32) (s := 32) (by decide) a0b (b * 2 ^ s) hV
 have k0 : 0 < (dig B32 (b * 2 ^ s)).length := List.length_pos_iff.2 ((e0j a0b _).2.2.2 hV)
 have k3 := a0r c0j _ (c0c a0b (b * 2 ^ s)) ((dig B32 (b * 2 ^ s)).length - 1)
 have k3' : dg (dig B32 (b * 2 ^ s)) ((dig B32 (b * 2 ^ s)).length - 1) < 4294967296 := k3
 have k4 := (a0w (dg (dig B32 (b * 2 ^ s)) ((dig B32 (b * 2 ^ s)).length - 1)) 32).2 (by omega)
 have k5 := (e0k _).2 k2
 have hl : (dig B32 (b * 2 ^ s)).length = (dig B32 b).length := by omega
 refine ⟨hl, ?_⟩
 rw [hl] at k1 k2 k4 k5
 have k6 : blen (dg (dig B32 (b * 2 ^ s)) ((dig B32 b).length - 1)) = 32 := by omega
 have := g0w _ k2
 rw [k6] at this
 omega
structure Dv where
 neg : Bool
 m : Nat
 e : Int
@[ext] theorem Dv.ext' {a b : Dv} (h1 : a.neg = b.neg) (h2 : a.m = b.m) (h3 : a.e = b.e) : a = b := by cases a; cases b; simp_all
def tz (m : Nat) : Nat := if _h : m = 0 then 0 else if m % 2 = 1 then 0 else tz (m / 2) + 1
termination_by m
decreasing_by omega
theorem w0i : tz 0 = 0 := by rw [tz]; simp
theorem t0s {m : Nat} (h : m % 2 = 1) : tz m = 0 := by rw [tz]; split; rfl; rfl
theorem r0h {m : Nat} (h0 : 0 < m) (h : m % 2 = 0) : tz m = tz (m / 2) + 1 := by
 rw [tz, dif_neg (by omega), if_neg (by omega)]
theorem b0v (m : Nat) (h : 0 < m) : 2 ^ tz m * (m / 2 ^ tz m) = m ∧ (m / 2 ^ tz m) % 2 = 1 := by
 induction m using Nat.strongRecOn with
 | _ m ih =>
  by_cases h1 : m % 2 = 1
  · rw [t0s h1]; simp [h1]
  · have h2 : m % 2 = 0 := by omega
    obtain ⟨i1, i2⟩ := ih (m / 2) (by omega) (by omega)
    rw [r0h h h2]
    have e : m / 2 ^ (tz (m / 2) + 1) = m / 2 / 2 ^ tz (m / 2) := by rw [Nat.pow_succ, Nat.mul_comm, Nat.div_div_eq_div_mul]
    rw [e]
    refine ⟨?_, i2⟩
    rw [Nat.pow_succ]
    have : m = 2 * (m / 2) := by omega
    rw [Nat.mul_comm (2 ^ _) 2, Nat.mul_assoc, i1]; omega
theorem n0j (m k : Nat) (h : m % 2 = 1) : tz (m * 2 ^ k) = k := by
 induction k with
 | zero => simp [t0s h]
 | succ k ih =>
  have h0 : 0 < m * 2 ^ k := Nat.mul_pos (by omega) (Nat.pow_pos (by omega))
  have e : m * 2 ^ (k + 1) = 2 * (m * 2 ^ k) := by rw [Nat.pow_succ]; grind
  rw [e, r0h (by omega) (by omega), Nat.mul_div_cancel_left _ (by omega), ih]
theorem d1h {m k u : Nat} (h : m = u * 2 ^ k) (hu : u % 2 = 1) : tz m = k ∧ m / 2 ^ k = u := by
 subst h
 exact ⟨n0j u k hu, Nat.mul_div_cancel _ (Nat.pow_pos (by omega))⟩
def bare (d : Dv) : Dv := if d.m = 0 then ⟨false, 0, 0⟩ else ⟨d.neg, d.m / 2 ^ tz d.m, d.e + tz d.m⟩
def Bare (d : Dv) : Prop := d.m % 2 = 1 ∨ d = ⟨false, 0, 0⟩
theorem k0f (d : Dv) : Bare (bare d) := by
 unfold bare Bare
 by_cases h : d.m = 0
 · rw [if_pos h]; exact .inr rfl
 · rw [if_neg h]; exact .inl (b0v d.m (by omega)).2
theorem n0k {d : Dv} (h : Bare d) : bare d = d := by
 unfold bare
 rcases h with h | rfl
 · rw [if_neg (by omega), t0s h]; cases d; simp
 · rfl
theorem t0t (g : Bool) (e : Int) : bare ⟨g, 0, e⟩ = ⟨false, 0, 0⟩ := rfl
theorem Bare.zero {d : Dv} (h : Bare d) (h0 : d.m = 0) : d = ⟨false, 0, 0⟩ := by
 rcases h with h | h
 · omega
 · exact h
theorem d0r (g : Bool) (m k : Nat) (e : Int) : bare ⟨g, m * 2 ^ k, e⟩ = bare ⟨g, m, e + k⟩ := by
 unfold bare
 by_cases h : m = 0
 · subst h; simp
 · have hm : 0 < m := by omega
   have hp : 0 < 2 ^ k := Nat.pow_pos (by omega)
   have hne : m * 2 ^ k ≠ 0 := by have := Nat.mul_pos hm hp; omega
   obtain ⟨s1, s2⟩ := b0v m hm
   have e1 : m * 2 ^ k = (m / 2 ^ tz m) * 2 ^ (tz m + k) := by
    conv => lhs; rw [← s1]
    rw [Nat.pow_add]; grind
   obtain ⟨t1, t2⟩ := d1h e1 s2
   simp only [if_neg hne, if_neg h, t1, t2]
   ext <;> simp
   omega
def sg (g : Bool) (m : Nat) : Int := if g then -(m : Int) else m
def i0w (g h : Bool) (x y : Nat) (e : Int) : Dv :=
 if g = h then ⟨g, x + y, e⟩ else if y ≤ x then ⟨g, x - y, e⟩ else ⟨h, y - x, e⟩
def ofZ (s : Int) (e : Int) : Dv := ⟨decide (s < 0), s.natAbs, e⟩
theorem n0l (g h : Bool) (x y : Nat) (e : Int) : bare (i0w g h x y e) = bare (ofZ (sg g x + sg h y) e) := by
 have key : ∀ (b : Bool) (m : Nat) (s : Int), s.natAbs = m → (m ≠ 0 → decide (s < 0) = b) → bare ⟨b, m, e⟩ = bare (ofZ s e) := by
  intro b m s h1 h2
  subst h1
  unfold ofZ bare
  by_cases h0 : s.natAbs = 0
  · simp [h0]
  · have := h2 h0
    simp only [if_neg h0, this]
 unfold i0w
 by_cases h1 : g = h
 · subst h1
   rw [if_pos rfl]
   refine key _ _ _ ?_ ?_
   · cases g <;> simp [sg] <;> omega
   · intro h0
     cases g <;> simp [sg] <;> omega
 · rw [if_neg h1]
   by_cases h2 : y ≤ x
   · rw [if_pos h2]
     refine key _ _ _ ?_ ?_
     · cases g <;> cases h <;> simp [sg] at * <;> omega
     · intro h0
       cases g <;> cases h <;> simp [sg] at * <;> omega
   · rw [if_neg h2]
     refine key _ _ _ ?_ ?_
     · cases g <;> cases h <;> simp [sg] at * <;> omega
     · intro h0
       cases g <;> cases h <;> simp [sg] at * <;> omega
def n0m (a b : Dv) : Int := if b.m = 0 then a.e else if a.m = 0 then b.e else min a.e b.e
def k0g (a b : Dv) : Dv := bare (i0w a.neg b.neg (a.m * 2 ^ (a.e - n0m a b).toNat) (b.m * 2 ^ (b.e - n0m a b).toNat) (n0m a b))
def k0h (a b : Dv) : Dv := if a.m = 0 then b else if b.m = 0 then a else
 bare (i0w a.neg b.neg (a.m * 2 ^ (a.e - min a.e b.e).toNat) (b.m * 2 ^ (b.e - min a.e b.e).toNat) (min a.e b.e))
theorem y0i {a b : Dv} (ha : Bare a) (hb : Bare b) : k0h a b = k0g a b := by
 unfold k0h k0g n0m
 by_cases h1 : a.m = 0
 · have := ha.zero h1
   subst this
   rw [if_pos rfl]
   by_cases h2 : b.m = 0
   · have := hb.zero h2
     subst this
     rfl
   · simp only [if_neg h2, if_true]
     rw [n0l]
     conv => lhs; rw [← n0k hb]
     have e1 : sg false (0 * 2 ^ ((0 : Int) - b.e).toNat) = 0 := by simp [sg]
     have e2 : (b.e - b.e).toNat = 0 := by omega
     rw [e1, e2, Nat.pow_zero, Nat.mul_one, Int.zero_add]
     unfold bare ofZ sg
     cases b with
     | mk g m e =>
      simp only at *
      cases g <;> simp [h2] <;> omega
 · rw [if_neg h1]
   by_cases h2 : b.m = 0
   · have := hb.zero h2
     subst this
     simp only [if_true]
     rw [n0l]
     conv => lhs; rw [← n0k ha]
     have e1 : sg false (0 * 2 ^ ((0 : Int) - a.e).toNat) = 0 := by simp [sg]
     have e2 : (a.e - a.e).toNat = 0 := by omega
     rw [e1, e2, Nat.pow_zero, Nat.mul_one, Int.add_zero]
     unfold bare ofZ sg
     cases a with
     | mk g m e =>
      simp only at *
      cases g <;> simp [h1] <;> omega
   · simp only [if_neg h2, if_neg h1]
def j0d (a b : Dv) : Dv := bare ⟨xor a.neg b.neg, a.m * b.m, a.e + b.e⟩
def f0z (a : Dv) : Dv := ⟨!a.neg && decide (0 < a.m), a.m, a.e⟩
def f0a (a : Dv) : Int := if a.m = 0 then 0 else if a.neg then -1 else 1
def rCmp (a b : Dv) : Int := f0a (k0g a (f0z b))
def zOf (a : Dv) (e : Int) : Int := sg a.neg (a.m * 2 ^ (a.e - e).toNat)
theorem y0j (g : Bool) (m k : Nat) : sg g (m * k) = sg g m * k := by unfold sg; cases g <;> simp [Int.neg_mul]
theorem a1k (s : Int) (e : Int) : f0a (bare (ofZ s e)) = Int.sign s := by
 unfold bare ofZ f0a
 by_cases h : s = 0
 · subst h; rfl
 · have h0 : s.natAbs ≠ 0 := by omega
   simp only [if_neg h0]
   have h1 := (b0v s.natAbs (by omega)).2
   rw [if_neg (by omega)]
   by_cases h2 : s < 0
   · simp [h2, Int.sign_eq_neg_one_of_neg h2]
   · simp [h2, Int.sign_eq_one_of_pos (show 0 < s by omega)]
def topD (a : Dv) : Int := a.e + blen a.m
/-! ### cut, floor -/
theorem o1e {m n : Nat} (h : m % 2 = 1) (hn : 0 < n) : m % 2 ^ n ≠ 0 := by
 intro h0
 obtain ⟨k, rfl⟩ : ∃ k, n = k + 1 := ⟨n - 1, by omega⟩
 have h1 := Nat.dvd_of_mod_eq_zero h0
 have h2 : 2 ∣ m := Nat.dvd_trans ⟨2 ^ k, by rw [Nat.pow_succ]; omega⟩ h1
 omega
def m1l (a : Dv) : Nat := if 0 ≤ a.e then a.m * 2 ^ a.e.toNat else a.m / 2 ^ (-a.e).toNat
theorem y0k {m : Nat} (h : 0 < m) (k : Nat) : tz (m * 2 ^ k) = tz m + k := by
 obtain ⟨h1, h2⟩ := b0v m h
 have e : m * 2 ^ k = (m / 2 ^ tz m) * 2 ^ (tz m + k) := by
  conv => lhs; rw [← h1]
  rw [Nat.pow_add]; grind
 rw [e]
 exact n0j _ _ h2
theorem r1n {d r : Nat} (h0 : 0 < d) (h : d < 4294967296) : tz (d + 4294967296 * r) = tz d := by
 obtain ⟨h1, h2⟩ := b0v d h0
 have hle : tz d < 32 := by
  rcases Nat.lt_or_ge (tz d) 32 with h3 | h3
  · exact h3
  · have h4 : 2 ^ 32 ≤ 2 ^ tz d := Nat.pow_le_pow_right (by omega) h3
    have h5 : 0 < d / 2 ^ tz d := by
     rcases Nat.eq_zero_or_pos (d / 2 ^ tz d) with h | h
     · rw [h] at h2; simp at h2
     · exact h
    have h6 := Nat.mul_le_mul_left (2 ^ tz d) h5
    simp only [Nat.succ_eq_add_one, Nat.zero_add, Nat.mul_one] at h6
    omega
 obtain ⟨t, ht⟩ : ∃ t, t = tz d := ⟨_, rfl⟩
 rw [← ht] at h1 h2 hle ⊢
 obtain ⟨s, hs⟩ : ∃ s, 32 = t + (s + 1) := ⟨31 - t, by omega⟩
 have e : d + 4294967296 * r = (d / 2 ^ t + 2 * (2 ^ s * r)) * 2 ^ t := by
  have e1 : (4294967296 : Nat) = 2 ^ t * (2 ^ s * 2) := by
   rw [show (4294967296 : Nat) = 2 ^ 32 by decide, hs, Nat.pow_add, Nat.pow_succ]
  rw [e1, Nat.add_mul]
  conv => lhs; rw [← h1]
  grind
 rw [e]
 exact n0j _ _ (by omega)
theorem g0k {m : Nat} (h : 0 < m) : tz m < blen m := by
 obtain ⟨h1, h2⟩ := b0v m h
 rcases Nat.lt_or_ge (tz m) (blen m) with h3 | h3
 · exact h3
 · have h4 := (a0w m (tz m)).1 h3
   have h5 : 0 < m / 2 ^ tz m := by
    rcases Nat.eq_zero_or_pos (m / 2 ^ tz m) with h | h
    · rw [h] at h2; simp at h2
    · exact h
   have h6 := Nat.mul_le_mul_left (2 ^ tz m) h5
   simp only [Nat.succ_eq_add_one, Nat.zero_add, Nat.mul_one] at h6
   omega
theorem c0x (a : Nat) : blen a ≤ 32 * (dig B32 a).length := by
 rw [a0w, Nat.pow_mul]
 exact (a0g a0b a _).1 (Nat.le_refl _)
theorem r0i {g : Bool} {m : Nat} {e : Int} (h : 0 < m) : bare ⟨g, m, e⟩ = ⟨g, m / 2 ^ tz m, e + tz m⟩ := by
 unfold bare
 rw [if_neg (show ¬ m = 0 by omega)]
theorem p0u : ∀ (f x : Nat), 0 < x → x < 2 ^ f → Lib.ctzFrom f x = tz x
 | 0, x, h0, h => by simp at h; omega
 | f + 1, x, h0, h => by
  unfold Lib.ctzFrom
  by_cases h1 : x % 2 = 1
  · rw [if_pos h1, t0s h1]
  · rw [if_neg h1, r0h h0 (by omega), p0u f (x / 2) (by omega) (by rw [Nat.pow_succ] at h; omega)]
    omega
theorem r1o {x : Nat} (h0 : 0 < x) (h : x < 4294967296) : Lib.ctz 32 x = tz x := by
 unfold Lib.ctz
 rw [if_neg (by omega)]
 exact p0u 32 x h0 (by omega)
theorem r1p {xs : List Nat} {a i : Nat} (ha : val B32 xs = a) (hz : ∀ j, j < i → dg xs j = 0) (hd : 0 < dg xs i) (hl : dg xs i < 4294967296) : tz a = 32 * i + tz (dg xs i) := by
 have h1 := b0c B32 xs i
 have h2 : val B32 (xs.take i) = 0 := by
  have : xs.take i = List.replicate (xs.take i).length 0 := by
   apply c0p
   · simp
   · intro t ht
     simp only [List.length_take] at ht
     rw [f0k (by omega), d0c, hz t (by omega)]
  rw [this, c0b]
 rw [h2, g0i, Nat.zero_add] at h1
 have e : a = (dg xs i + 4294967296 * val B32 (xs.drop (i + 1))) * 2 ^ (32 * i) := by
  rw [← ha, h1, Nat.pow_mul, show (2 : Nat) ^ 32 = B32 by decide, Nat.mul_comm]
  rfl
 rw [e, y0k (by omega), r1n hd hl]
 omega
theorem n0n {B : Nat} {xs : List Nat} (hz : ∀ j, j < xs.length → dg xs j = 0) : val B xs = 0 := by
 have : xs = List.replicate xs.length 0 := by
  apply c0p
  · simp
  · intro t ht
    rw [d0c, hz t ht]
 rw [this, c0b]
end Go.Slip
namespace Go.Proofs.YtgbbhlginbmghaaGreatDoor
open Go.RowKit Go.Slip
def TabW (w : World) : Prop := (∀ j, j < 32 → w.cell? ⟨0, j, none⟩ = some (.int .u8 ((Lib.deBruijn32tab.getD j 0 : Nat) : Int))) ∧ 0 < w.heap.size
theorem TabW.past {w w' : World} (h : TabW w) (hb : Below w.heap.size w w') : TabW w' :=
 ⟨fun j hj => by rw [Below.cell hb h.2]; exact h.1 j hj, Nat.lt_of_lt_of_le h.2 hb.size⟩
theorem TabW.laid {w : World} (h : TabW w) (o : Obj) : TabW (w.alloc o) := h.past ((Below.refl _ _).alloc (Nat.le_refl _) o)
theorem TabW.drew {w : World} (h : TabW w) : TabW w.drew := ⟨h.1, h.2⟩
theorem r1q (x a : Nat) (hx : x < 4294967296) (hlow : x &&& (4294967296 - x) = a) (h0 : 0 < x) :
 bits BinOp.and IntKind.u32 (x : Int) (-(x : Int) % 4294967296) * 125613361 % 4294967296 / 134217728 = ((a * 125613361 % 4294967296 / 134217728 : Nat) : Int) := by
 have e1 : -(x : Int) % 4294967296 = ((4294967296 - x : Nat) : Int) := by omega
 rw [e1, u32_and_nat x _ hx (by omega), hlow]
 omega
theorem d1i (x k idx : Nat) (w : World) (hx0 : ((x : Int) == 0) = false)
 (key : bits BinOp.and IntKind.u32 (x : Int) (-(x : Int) % 4294967296) * 125613361 % 4294967296 / 134217728 = (idx : Int))
 (hi : idx < 32) (hk : k < 32) (hcell : w.cell? ⟨0, idx, none⟩ = some (.int .u8 k)) :
 Calls Tryz.prog 164 #[.int .u32 x] w fun e w' => e = .returned (.int .i64 k) ∧ w = w' := by
 go_enter Tryz.func164, Tryz.ntmps164
 go_wp2_with (simp only [key])
 go_ret
 exact ⟨rfl, rfl⟩
theorem i1j (x : Nat) (w : World) (hx : x < 4294967296) (h0 : 0 < x) (hT : TabW w) :
 Calls Tryz.prog 164 #[.int .u32 x] w fun e w' => e = .returned (.int .i64 (tz x : Nat)) ∧ w = w' := by
 rw [← r1o h0 hx]
 obtain ⟨hlow, hk⟩ := Lib.lowest_bit 32 x (by omega) (by omega)
 obtain ⟨hi, htab⟩ := Lib.deBruijn32_at _ hk
 have hcell := hT.1 _ hi
 rw [htab] at hcell
 exact d1i x _ _ w (bFn (by omega)) (r1q x _ hx hlow h0) hi hk hcell
theorem k0i (p : OA) (n c : Nat) (a : Nat) (w : World) (hp : Rd w .u32 p (dig B32 a)) (hn : n = (dig B32 a).length) (hl : (dig B32 a).length ≤ 100000000) (hT : TabW w) :
 Calls Tryz.prog 109 #[.slice p n c] w fun e w' => e = .returned (.int .i64 (tz a : Nat)) ∧ w = w' := by
 subst hn
 have HA := lHd (b0o a0b a)
 have HXL := lHd (c0c a0b a)
 have HT := lHd hT
 generalize dig B32 a = xs at *
 have hsx := hp.solid
 clear hT
 go_enter Tryz.func109, Tryz.ntmps109
 go_wp2
 go_loop [7] (fun iv => ∃ (i : Nat), iv = .int .i64 i ∧ i ≤ xs.length ∧ Hid (∀ j, j < i → dg xs j = 0)) (fun iv => xs.length - (intOf iv).toNat)
 case atStart => exact ⟨0, rfl, Nat.zero_le _, (show ∀ j, j < 0 → dg xs j = 0 from fun j hj => by omega)⟩
 case round =>
  obtain ⟨i, rfl, hi, HZ⟩ := hrel
  by_cases hlt : i < xs.length
  · have hc := hp.cells i hlt
    have hd := a0r (B := 4294967296) (by omega) xs HXL.out i
    obtain ⟨x, hx⟩ : ∃ x, dg xs i = x := ⟨_, rfl⟩
    rw [hx] at hc hd
    by_cases h0 : x = 0
    · subst h0
      have HZ' : Hid (∀ j, j < i + 1 → dg xs j = 0) := fun j hj => by
       by_cases h : j = i
       · subst h; exact hx
       · exact HZ.out j (by omega)
      clear hx
      go_wp2
      go_round
      case rel => exact ⟨i + 1, by go_num, hlt, HZ'⟩
      case measure => simp [intOf]; omega
    · have hx0 : ((x : Int) == 0) = false := bFn (by omega)
      have hx1 : ((x : Int) != 0) = true := by simpa using h0
      have HE := lHd (r1p HA.out HZ.out (by rw [hx]; omega) (by rw [hx]; exact hd))
      rw [hx] at HE
      have h1 : 0 < x := by omega
      have htz : tz x ≤ 32 := by
       obtain ⟨h2, h3⟩ := b0v x h1
       rcases Nat.lt_or_ge 32 (tz x) with h4 | h4
       · have h5 : 2 ^ 32 ≤ 2 ^ tz x := Nat.pow_le_pow_right (by omega) (by omega)
         have h6 : 0 < x / 2 ^ tz x := by
          rcases Nat.eq_zero_or_pos (x / 2 ^ tz x) with h | h
          · rw [h] at h3; simp at h3
          · exact h
         have h7 := Nat.mul_le_mul_left (2 ^ tz x) h6
         simp only [Nat.succ_eq_add_one, Nat.zero_add, Nat.mul_one] at h7
         omega
       · exact h4
      clear hx h0
      go_wp2_with fail
      refine (i1j x _ hd h1 HT.out).mono ?_
      rintro e w2 ⟨rfl, rfl⟩
      generalize tz x = t at *
      go_wp2_with fail
      go_ret
      exact ⟨j0n (by rw [HE.out]; simp), rfl⟩
  · have HE : Hid (tz a = 0) := by
     have := n0n (B := B32) (xs := xs) (fun j hj => HZ.out j (by omega))
     rw [HA.out] at this
     show tz a = 0
     rw [this, w0i]
    go_wp2
    go_ret
    exact ⟨j0n (by rw [HE.out]; rfl), rfl⟩
end Go.Proofs.YtgbbhlginbmghaaGreatDoor
namespace Go.Proofs.YtgbbhlginbmghaaGreatDoor
open Go.ChangeShapes Go.WideShapes Go.ChangeAt Go.WideMaps Go.WideElems Go.RowKit Go.Slip
theorem gTab : Tryz.prog.globalNamed "math/bits.deBruijn32tab" = some 0 := by kernel_rfl
theorem tTab : (Tryz.prog.globals[0]?).map (·.type) = some 251 := by kernel_rfl
theorem i1k : (Rows.laid_math_bits_deBruijn32tab : DataW Unit) = .agg (Lib.deBruijn32tab.map fun n : Nat => .lit (.int .u8 (n : Int))) := rfl
theorem w0j {W : World} (h : laidMetH Tryz.prog [("math/bits.deBruijn32tab", Rows.laid_math_bits_deBruijn32tab)] W) : TabW W := by
 rw [MakeChecks.laidMetH_plain _ _ _ (by kernel_rfl)] at h
 obtain ⟨ps, ⟨g0, t0, cs0, f0, p0, q0, hg0, ht0, hv0, hd0, _, _⟩, _, _⟩ := h
 obtain rfl := Option.some.inj (gTab.symm.trans hg0)
 obtain rfl := Option.some.inj (tTab.symm.trans ht0)
 obtain ⟨xs, m1, rfl, hx1, hlen, hn, hel⟩ := DataW.trod_array Tryz.underlying251 hd0
 have c1 : Tryz.prog.cellsOf 5 = 1 := by kernel_rfl
 rw [c1] at hel
 have hcell : ∀ j, j < 32 → W.cell? ⟨0, j, none⟩ = some (.int .u8 ((Lib.deBruijn32tab.getD j 0 : Nat) : Int)) := by
  intro j hj
  have h1 := hel j hj
  have hxj : xs[j]? = some (xs[j]'(by omega)) := List.getElem?_eq_getElem (by omega)
  rw [hxj] at h1
  obtain ⟨k, e1, e2, _⟩ := DataW.trod_int Tryz.underlying5 h1
  have hlj : j < Lib.deBruijn32tab.length := hj
  have h2 : (xs.map (·.1))[j]? = some (.lit (.int .u8 ((Lib.deBruijn32tab.getD j 0 : Nat) : Int))) := by
   have h3 := (Prod.mk.inj hx1).1
   rw [i1k] at h3
   injection h3 with h4
   rw [← h4, List.getElem?_map, List.getElem?_eq_getElem hlj, List.getD, List.getElem?_eq_getElem hlj]
   rfl
  rw [List.getElem?_map, hxj, Option.map_some, e2] at h2
  have hk : k = ((Lib.deBruijn32tab.getD j 0 : Nat) : Int) := by
   simp only [Option.some.injEq, DataW.lit.injEq, Lit.int.injEq] at h2
   exact h2.2
  rw [← hk, World.var?_cell hg0 hv0 j]
  have h5 : cs0.toList[j]? = some (.int .u8 k) := by
   have := congrArg (·[0]?) e1
   simp only [Nat.mul_one] at this
   rw [List.getElem?_take_of_lt (by omega), List.getElem?_drop] at this
   simpa using this
  simpa using h5
 exact ⟨hcell, World.block_lt_of_cell? W _ (hcell 0 (by omega))⟩
end Go.Proofs.YtgbbhlginbmghaaGreatDoor
namespace Go.Slip
open Go.RowKit
def Bx (w : World) (b : Nat) (vs : Array Value) : Prop := ∃ t, w.heap[b]? = some (.cells vs t)
theorem Bx.lt {w : World} {b : Nat} {vs : Array Value} (h : Bx w b vs) : b < w.heap.size := by
 obtain ⟨t, h⟩ := h
 exact (Array.getElem?_eq_some_iff.1 h).1
theorem Bx.cell {w : World} {b : Nat} {vs : Array Value} (h : Bx w b vs) (i : Nat) : w.cell? ⟨b, i, none⟩ = vs[i]? := by
 obtain ⟨t, h⟩ := h
 simp [World.cell?, h]
theorem Bx.c {w : World} {b : Nat} {vs : Array Value} (h : Bx w b vs) (i : Nat) {v : Value} (hv : vs[i]? = some v) : w.cell? ⟨b, i, none⟩ = some v := (h.cell i).trans hv
theorem Bx.f {w : World} {b : Nat} {vs : Array Value} (h : Bx w b vs) (i : Nat) : w.frozen? ⟨b, i, none⟩ = false := by
 obtain ⟨t, h⟩ := h
 simp [World.frozen?, h]
theorem Bx.same {w w' : World} {b : Nat} {vs : Array Value} (h : Bx w b vs) (hb : w'.heap[b]? = w.heap[b]?) : Bx w' b vs := by
 obtain ⟨t, h⟩ := h
 exact ⟨t, hb.trans h⟩
theorem Bx.past {w w' : World} {b : Nat} {vs : Array Value} (h : Bx w b vs) (hb : Below w.heap.size w w') : Bx w' b vs := h.same (hb.block _ h.lt)
theorem Bx.below {w w' : World} {B b : Nat} {vs : Array Value} (h : Bx w b vs) (hb : Below B w w') (hB : b < B) : Bx w' b vs := h.same (hb.block _ hB)
theorem Bx.drew {w : World} {b : Nat} {vs : Array Value} (h : Bx w b vs) : Bx w.drew b vs := h
theorem Bx.drewN {w : World} {b : Nat} {vs : Array Value} (h : Bx w b vs) (n : Nat) : Bx (w.drewN n) b vs := h.past (below_drewN (Below.refl _ _) n)
theorem j0e (w : World) (vs : Array Value) (t : TypeId) : Bx (w.alloc (.cells vs t)) w.heap.size vs := ⟨t, by show (w.heap.push _)[_]? = _; simp⟩
theorem Bx.laid {w : World} {b : Nat} {vs : Array Value} (h : Bx w b vs) (o : Obj) : Bx (w.alloc o) b vs := h.past ((Below.refl _ _).alloc (Nat.le_refl _) _)
theorem Bx.set {w : World} {b : Nat} {vs : Array Value} (h : Bx w b vs) (i : Nat) (v : Value) : Bx (w.setCell ⟨b, i, none⟩ v) b (vs.setIfInBounds i v) := by
 obtain ⟨t, h⟩ := h
 refine ⟨t, ?_⟩
 show (w.heap.modify b _)[b]? = _
 rw [Array.getElem?_modify, if_pos rfl, h]
 rfl
theorem Bx.e1 {w : World} {b : Nat} {v0 : Value} (h : Bx w b #[v0]) : w.cell? ⟨b, 0, none⟩ = some v0 := h.c 0 rfl
theorem Bx.e2 {w : World} {b : Nat} {v0 v1 : Value} (h : Bx w b #[v0, v1]) : w.cell? ⟨b, 0, none⟩ = some v0 ∧ w.cell? ⟨b, 1, none⟩ = some v1 := ⟨h.c 0 rfl, h.c 1 rfl⟩
theorem Bx.e3 {w : World} {b : Nat} {v0 v1 v2 : Value} (h : Bx w b #[v0, v1, v2]) : w.cell? ⟨b, 0, none⟩ = some v0 ∧ w.cell? ⟨b, 1, none⟩ = some v1 ∧ w.cell? ⟨b, 2, none⟩ = some v2 := ⟨h.c 0 rfl, h.c 1 rfl, h.c 2 rfl⟩
theorem Bx.e4 {w : World} {b : Nat} {v0 v1 v2 v3 : Value} (h : Bx w b #[v0, v1, v2, v3]) : w.cell? ⟨b, 0, none⟩ = some v0 ∧ w.cell? ⟨b, 1, none⟩ = some v1 ∧ w.cell? ⟨b, 2, none⟩ = some v2 ∧ w.cell? ⟨b, 3, none⟩ = some v3 := ⟨h.c 0 rfl, h.c 1 rfl, h.c 2 rfl, h.c 3 rfl⟩
theorem Bx.e5 {w : World} {b : Nat} {v0 v1 v2 v3 v4 : Value} (h : Bx w b #[v0, v1, v2, v3, v4]) : w.cell? ⟨b, 0, none⟩ = some v0 ∧ w.cell? ⟨b, 1, none⟩ = some v1 ∧ w.cell? ⟨b, 2, none⟩ = some v2 ∧ w.cell? ⟨b, 3, none⟩ = some v3 ∧ w.cell? ⟨b, 4, none⟩ = some v4 := ⟨h.c 0 rfl, h.c 1 rfl, h.c 2 rfl, h.c 3 rfl, h.c 4 rfl⟩
theorem Bx.e6 {w : World} {b : Nat} {v0 v1 v2 v3 v4 v5 : Value} (h : Bx w b #[v0, v1, v2, v3, v4, v5]) : w.cell? ⟨b, 0, none⟩ = some v0 ∧ w.cell? ⟨b, 1, none⟩ = some v1 ∧ w.cell? ⟨b, 2, none⟩ = some v2 ∧ w.cell? ⟨b, 3, none⟩ = some v3 ∧ w.cell? ⟨b, 4, none⟩ = some v4 ∧ w.cell? ⟨b, 5, none⟩ = some v5 := ⟨h.c 0 rfl, h.c 1 rfl, h.c 2 rfl, h.c 3 rfl, h.c 4 rfl, h.c 5 rfl⟩
theorem Bx.e7 {w : World} {b : Nat} {v0 v1 v2 v3 v4 v5 v6 : Value} (h : Bx w b #[v0, v1, v2, v3, v4, v5, v6]) : w.cell? ⟨b, 0, none⟩ = some v0 ∧ w.cell? ⟨b, 1, none⟩ = some v1 ∧ w.cell? ⟨b, 2, none⟩ = some v2 ∧ w.cell? ⟨b, 3, none⟩ = some v3 ∧ w.cell? ⟨b, 4, none⟩ = some v4 ∧ w.cell? ⟨b, 5, none⟩ = some v5 ∧ w.cell? ⟨b, 6, none⟩ = some v6 := ⟨h.c 0 rfl, h.c 1 rfl, h.c 2 rfl, h.c 3 rfl, h.c 4 rfl, h.c 5 rfl, h.c 6 rfl⟩
theorem Bx.e8 {w : World} {b : Nat} {v0 v1 v2 v3 v4 v5 v6 v7 : Value} (h : Bx w b #[v0, v1, v2, v3, v4, v5, v6, v7]) : w.cell? ⟨b, 0, none⟩ = some v0 ∧ w.cell? ⟨b, 1, none⟩ = some v1 ∧ w.cell? ⟨b, 2, none⟩ = some v2 ∧ w.cell? ⟨b, 3, none⟩ = some v3 ∧ w.cell? ⟨b, 4, none⟩ = some v4 ∧ w.cell? ⟨b, 5, none⟩ = some v5 ∧ w.cell? ⟨b, 6, none⟩ = some v6 ∧ w.cell? ⟨b, 7, none⟩ = some v7 := ⟨h.c 0 rfl, h.c 1 rfl, h.c 2 rfl, h.c 3 rfl, h.c 4 rfl, h.c 5 rfl, h.c 6 rfl, h.c 7 rfl⟩
structure Only (b : Nat) (w w' : World) : Prop where
 os : w'.os = w.os
 tape : w'.tape = w.tape
 output : w'.output = w.output
 size : w'.heap.size = w.heap.size
 block : ∀ k, k ≠ b → w'.heap[k]? = w.heap[k]?
theorem Only.refl (b : Nat) (w : World) : Only b w w := ⟨rfl, rfl, rfl, rfl, fun _ _ => rfl⟩
theorem Only.trans {b : Nat} {w1 w2 w3 : World} (h : Only b w1 w2) (k : Only b w2 w3) : Only b w1 w3 :=
 ⟨k.os.trans h.os, k.tape.trans h.tape, k.output.trans h.output, k.size.trans h.size, fun i hi => (k.block i hi).trans (h.block i hi)⟩
theorem k0j (w : World) (b i : Nat) (v : Value) : Only b w (w.setCell ⟨b, i, none⟩ v) :=
 ⟨rfl, rfl, rfl, by simp [World.setCell], fun k hk => Below.heap_setCell _ _ _ _ hk⟩
theorem Only.set {b : Nat} {w w' : World} (h : Only b w w') (i : Nat) (v : Value) : Only b w (w'.setCell ⟨b, i, none⟩ v) := h.trans (k0j w' b i v)
theorem r1r (w : World) (b : Nat) (v0 v1 v2 v3 : Value) : Only b w ((((w.setCell ⟨b, 0, none⟩ v0).setCell ⟨b, 1, none⟩ v1).setCell ⟨b, 2, none⟩ v2).setCell ⟨b, 3, none⟩ v3) := (((k0j w b 0 v0).set 1 v1).set 2 v2).set 3 v3
theorem r0j (w : World) (b : Nat) (v0 v1 v2 v3 v4 v5 : Value) : Only b w ((((((w.setCell ⟨b, 0, none⟩ v0).setCell ⟨b, 1, none⟩ v1).setCell ⟨b, 2, none⟩ v2).setCell ⟨b, 3, none⟩ v3).setCell ⟨b, 4, none⟩ v4).setCell ⟨b, 5, none⟩ v5) := (((((k0j w b 0 v0).set 1 v1).set 2 v2).set 3 v3).set 4 v4).set 5 v5
theorem Bx.put6 {w : World} {b : Nat} {v0 v1 v2 v3 v4 v5 : Value} (h : Bx w b #[v0, v1, v2, v3, v4, v5]) (u0 u1 u2 u3 u4 u5 : Value) : Bx ((((((w.setCell ⟨b, 0, none⟩ u0).setCell ⟨b, 1, none⟩ u1).setCell ⟨b, 2, none⟩ u2).setCell ⟨b, 3, none⟩ u3).setCell ⟨b, 4, none⟩ u4).setCell ⟨b, 5, none⟩ u5) b #[u0, u1, u2, u3, u4, u5] := (((((h.set 0 u0).set 1 u1).set 2 u2).set 3 u3).set 4 u4).set 5 u5
theorem Only.below {b B : Nat} {w w' : World} (h : Only b w w') (hB : B ≤ b) : Below B w w' :=
 ⟨h.os, h.tape, h.output, by rw [h.size]; exact Nat.le_refl _, fun k hk => h.block k (by omega)⟩
theorem Bx.only {w w' : World} {b k : Nat} {vs : Array Value} (h : Bx w b vs) (hb : Only k w w') (hne : b ≠ k) : Bx w' b vs := h.same (hb.block _ hne)
theorem Own.only {w w' : World} {base k : Nat} {kd : IntKind} {e : TypeId} {p : OA} {c : Nat} {xs : List Nat} (h : Own w base kd e p c xs) (hb : Only k w w') (hne : p.isSome = true → blk p ≠ k) : Own w' base kd e p c xs :=
 h.same fun h0 => hb.block _ (hne h0)
theorem Rd.only {w w' : World} {k : Nat} {kd : IntKind} {p : OA} {xs : List Nat} (h : Rd w kd p xs) (hb : Only k w w') (hne : 0 < xs.length → blk p ≠ k) : Rd w' kd p xs :=
 h.same fun h0 => hb.block _ (hne h0)
structure Keep (b : Nat) (w w' : World) : Prop where
 os : w'.os = w.os
 tape : w'.tape = w.tape
 output : w'.output = w.output
 size : w.heap.size ≤ w'.heap.size
 block : ∀ k, k < w.heap.size → k ≠ b → w'.heap[k]? = w.heap[k]?
theorem Below.keep {w w' : World} (h : Below w.heap.size w w') (b : Nat) : Keep b w w' := ⟨h.os, h.tape, h.output, h.size, fun k hk _ => h.block k hk⟩
theorem Only.keep {b : Nat} {w w' : World} (h : Only b w w') : Keep b w w' := ⟨h.os, h.tape, h.output, by rw [h.size]; exact Nat.le_refl _, fun k _ hk => h.block k hk⟩
theorem Keep.trans {b : Nat} {w1 w2 w3 : World} (h : Keep b w1 w2) (k : Keep b w2 w3) : Keep b w1 w3 :=
 ⟨k.os.trans h.os, k.tape.trans h.tape, k.output.trans h.output, Nat.le_trans h.size k.size, fun i hi hn => (k.block i (Nat.lt_of_lt_of_le hi h.size) hn).trans (h.block i hi hn)⟩
theorem Keep.below {b B : Nat} {w w' : World} (h : Keep b w w') (hB : B ≤ b) (hs : B ≤ w.heap.size) : Below B w w' := ⟨h.os, h.tape, h.output, h.size, fun k hk => h.block k (by omega) (by omega)⟩
theorem Bx.keep {w w' : World} {b k : Nat} {vs : Array Value} (h : Bx w b vs) (hb : Keep k w w') (hne : b ≠ k) : Bx w' b vs := h.same (hb.block _ h.lt hne)
theorem Rd.keep {w w' : World} {k : Nat} {kd : IntKind} {p : OA} {xs : List Nat} (h : Rd w kd p xs) (hb : Keep k w w') (hne : 0 < xs.length → blk p ≠ k) : Rd w' kd p xs :=
 h.same fun h0 => hb.block _ (h.lt h0) (hne h0)
theorem Own.keep {w w' : World} {base k : Nat} {kd : IntKind} {e : TypeId} {p : OA} {c : Nat} {xs : List Nat} (h : Own w base kd e p c xs) (hb : Keep k w w') (hne : p.isSome = true → blk p ≠ k) : Own w' base kd e p c xs :=
 h.same fun h0 => hb.block _ (h.blk_lt h0).2 (hne h0)
theorem c0y (w : World) (o : Obj) : Below w.heap.size w (w.alloc o) := (Below.refl _ _).alloc (Nat.le_refl _) _
theorem g0l (w : World) (o1 o2 : Obj) : Below w.heap.size w ((w.alloc o1).alloc o2) := (c0y w o1).alloc (by simp) _
theorem p0v (w : World) (o1 o2 o3 : Obj) : Below w.heap.size w (((w.alloc o1).alloc o2).alloc o3) := (g0l w o1 o2).alloc (by simp; omega) _
theorem a1l (w : World) (o1 o2 o3 o4 : Obj) : Below w.heap.size w ((((w.alloc o1).alloc o2).alloc o3).alloc o4) := (p0v w o1 o2 o3).alloc (by simp; omega) _
theorem lay1 (w : World) (v1 : Array Value) (t1 : TypeId) : ∃ W, W = w.alloc (.cells v1 t1) ∧ Below w.heap.size w W ∧ w.heap.size < W.heap.size ∧ Bx W w.heap.size v1 :=
 ⟨_, rfl, c0y _ _, by simp, j0e _ _ _⟩
theorem lay2 (w : World) (v1 : Array Value) (t1 : TypeId) (v2 : Array Value) (t2 : TypeId) : ∃ W, W = (w.alloc (.cells v1 t1)).alloc (.cells v2 t2) ∧ Below w.heap.size w W ∧ w.heap.size + 1 < W.heap.size ∧ Bx W w.heap.size v1 ∧ Bx W (w.heap.size + 1) v2 :=
 ⟨_, rfl, g0l _ _ _, by simp, (j0e _ _ _).laid _, by simpa using j0e (w.alloc (.cells v1 t1)) v2 t2⟩
theorem lay3 (w : World) (v1 : Array Value) (t1 : TypeId) (v2 : Array Value) (t2 : TypeId) (v3 : Array Value) (t3 : TypeId) :
 ∃ W, W = ((w.alloc (.cells v1 t1)).alloc (.cells v2 t2)).alloc (.cells v3 t3) ∧ Below w.heap.size w W ∧ w.heap.size + 1 + 1 < W.heap.size ∧ Bx W w.heap.size v1 ∧ Bx W (w.heap.size + 1) v2 ∧ Bx W (w.heap.size + 1 + 1) v3 := by
 obtain ⟨W, rfl, _, _, h1, h2⟩ := lay2 w v1 t1 v2 t2
 exact ⟨_, rfl, p0v _ _ _ _, by simp, h1.laid _, h2.laid _, by simpa using j0e ((w.alloc (.cells v1 t1)).alloc (.cells v2 t2)) v3 t3⟩
theorem lay4 (w : World) (v1 : Array Value) (t1 : TypeId) (v2 : Array Value) (t2 : TypeId) (v3 : Array Value) (t3 : TypeId) (v4 : Array Value) (t4 : TypeId) :
 ∃ W, W = (((w.alloc (.cells v1 t1)).alloc (.cells v2 t2)).alloc (.cells v3 t3)).alloc (.cells v4 t4) ∧ Below w.heap.size w W ∧ w.heap.size + 1 + 1 + 1 < W.heap.size ∧ Bx W w.heap.size v1 ∧ Bx W (w.heap.size + 1) v2 ∧ Bx W (w.heap.size + 1 + 1) v3 ∧ Bx W (w.heap.size + 1 + 1 + 1) v4 := by
 obtain ⟨W, rfl, _, _, h1, h2, h3⟩ := lay3 w v1 t1 v2 t2 v3 t3
 exact ⟨_, rfl, a1l _ _ _ _ _, by simp, h1.laid _, h2.laid _, h3.laid _, by simpa using j0e (((w.alloc (.cells v1 t1)).alloc (.cells v2 t2)).alloc (.cells v3 t3)) v4 t4⟩
section
variable {P : Program} {f : FuncId} {args : Array Value} {R : Ending → World → Prop} {w : World} {v1 v2 v3 v4 v5 : Array Value} {t1 t2 t3 t4 t5 : TypeId}
theorem a1m (h : ∀ W, Below w.heap.size w W → w.heap.size < W.heap.size → Bx W w.heap.size v1 → Calls P f args W R) : Calls P f args (w.alloc (.cells v1 t1)) R := by
 obtain ⟨W, rfl, a, b, c⟩ := lay1 w v1 t1
 exact h _ a b c
theorem p0w (h : ∀ W, Below w.heap.size w W → w.heap.size + 1 < W.heap.size → Bx W w.heap.size v1 → Bx W (w.heap.size + 1) v2 → Calls P f args W R) : Calls P f args ((w.alloc (.cells v1 t1)).alloc (.cells v2 t2)) R := by
 obtain ⟨W, rfl, a, b, c, d⟩ := lay2 w v1 t1 v2 t2
 exact h _ a b c d
variable {c : Code} {Q : Exit → Act → World → Prop} {a : Act}
theorem o1f (h : ∀ W, Below w.heap.size w W → w.heap.size + 1 < W.heap.size → Bx W w.heap.size v1 → Bx W (w.heap.size + 1) v2 → c.wp P Q a W) : c.wp P Q a ((w.alloc (.cells v1 t1)).alloc (.cells v2 t2)) := by
 obtain ⟨W, rfl, a, b, c, d⟩ := lay2 w v1 t1 v2 t2
 exact h _ a b c d
theorem o1g (h : ∀ W, Below w.heap.size w W → w.heap.size + 1 + 1 + 1 < W.heap.size → Bx W w.heap.size v1 → Bx W (w.heap.size + 1) v2 → Bx W (w.heap.size + 1 + 1) v3 → Bx W (w.heap.size + 1 + 1 + 1) v4 → c.wp P Q a W) : c.wp P Q a ((((w.alloc (.cells v1 t1)).alloc (.cells v2 t2)).alloc (.cells v3 t3)).alloc (.cells v4 t4)) := by
 obtain ⟨W, rfl, a, b, c, d, e, g⟩ := lay4 w v1 t1 v2 t2 v3 t3 v4 t4
 exact h _ a b c d e g
end
def Bt (w : World) (b : Nat) (t : TypeId) (vs : Array Value) : Prop := w.heap[b]? = some (.cells vs t)
theorem Bt.bx {w : World} {b : Nat} {t : TypeId} {vs : Array Value} (h : Bt w b t vs) : Bx w b vs := ⟨t, h⟩
theorem Bt.lt {w : World} {b : Nat} {t : TypeId} {vs : Array Value} (h : Bt w b t vs) : b < w.heap.size := h.bx.lt
theorem Bt.same {w w' : World} {b : Nat} {t : TypeId} {vs : Array Value} (h : Bt w b t vs) (hb : w'.heap[b]? = w.heap[b]?) : Bt w' b t vs := hb.trans h
theorem Bt.past {w w' : World} {b : Nat} {t : TypeId} {vs : Array Value} (h : Bt w b t vs) (hb : Below w.heap.size w w') : Bt w' b t vs := h.same (hb.block _ h.lt)
theorem Bt.only {w w' : World} {b k : Nat} {t : TypeId} {vs : Array Value} (h : Bt w b t vs) (hb : Only k w w') (hne : b ≠ k) : Bt w' b t vs := h.same (hb.block _ hne)
theorem Bt.keep {w w' : World} {b k : Nat} {t : TypeId} {vs : Array Value} (h : Bt w b t vs) (hb : Keep k w w') (hne : b ≠ k) : Bt w' b t vs := h.same (hb.block _ h.lt hne)
theorem m1m (w : World) (vs : Array Value) (t : TypeId) : Bt (w.alloc (.cells vs t)) w.heap.size t vs := by show (w.heap.push _)[_]? = _; simp
theorem Bt.set {w : World} {b : Nat} {t : TypeId} {vs : Array Value} (h : Bt w b t vs) (i : Nat) (v : Value) : Bt (w.setCell ⟨b, i, none⟩ v) b t (vs.setIfInBounds i v) := by
 show (w.heap.modify b _)[b]? = _
 rw [Array.getElem?_modify, if_pos rfl, h]
 rfl
theorem Bt.e1 {w : World} {b : Nat} {t : TypeId} {v0 : Value} (h : Bt w b t #[v0]) : w.cell? ⟨b, 0, none⟩ = some v0 := h.bx.c 0 rfl
theorem Own.far {w : World} {base : Nat} {k : IntKind} {e : TypeId} {p : OA} {c : Nat} {xs : List Nat} (h : Own w base k e p c xs) {b : Nat} {t : TypeId} {vs : Array Value} (hX : Bt w b t vs) (hne : Nat.beq t e = false) (hp : p.isSome = true) : blk p ≠ b := by
 rcases h.2 with ⟨h1, h2⟩ | ⟨g, cap, cur, hv, hb, hg, _⟩
 · simp only [Value.slice.injEq] at h1
   rw [h1.1] at hp; cases hp
 · simp only [Value.slice.injEq] at hv
   intro hE
   rw [hv.1] at hE
   have hE2 : g = b := hE
   subst hE2
   have hE3 := hg.symm.trans hX
   simp only [Option.some.injEq, Obj.cells.injEq] at hE3
   rw [hE3.2.1] at hne
   simp at hne
theorem Own.put {w w' : World} {base : Nat} {k : IntKind} {e : TypeId} {p : OA} {c : Nat} {xs : List Nat} (h : Own w base k e p c xs) {b : Nat} {t : TypeId} {vs : Array Value} (hX : Bt w b t vs) (hO : Only b w w') (hne : Nat.beq t e = false) : Own w' base k e p c xs :=
 h.only hO (h.far hX hne)
def d1j (k : IntKind) (vs : Array Value) : Bool := vs.all fun v => match v with | .int k' _ => !(decide (k' = k)) | _ => true
theorem Rd.far {w : World} {k : IntKind} {p : OA} {xs : List Nat} (h : Rd w k p xs) {b : Nat} {t : TypeId} {vs : Array Value} (hX : Bt w b t vs) (hne : d1j k vs = true) (hp : 0 < xs.length) : blk p ≠ b := by
 intro hE
 have h1 := h.cells 0 hp
 have h2 : w.cell? (at_ p 0) = vs[(p.getD ⟨0, 0, none⟩).off + 0]? := by
  have := hX.bx.cell ((p.getD ⟨0, 0, none⟩).off + 0)
  rw [← this]
  unfold at_
  rw [show (p.getD ⟨0, 0, none⟩).block = b from hE]
 rw [h2] at h1
 unfold d1j at hne
 rw [Array.all_eq_true_iff_forall_mem] at hne
 have := hne _ (Array.mem_of_getElem? h1)
 simp at this
theorem Rd.put {w w' : World} {k : IntKind} {p : OA} {xs : List Nat} (h : Rd w k p xs) {b : Nat} {t : TypeId} {vs : Array Value} (hX : Bt w b t vs) (hO : Only b w w') (hne : d1j k vs = true) : Rd w' k p xs := h.only hO (h.far hX hne)
structure OpW (P : Program) (ops : Array Oper) (Q : Exit → Act → World → Prop) (o : Oper) (K : Act → World → Prop) (a : Act) (w : World) : Prop where
 out : if Region.wanted o (yielded ops a.tmps) = true then o.wp P a w K Q else K (a.put o.dst undef) w
structure WpL (P : Program) (ops : Array Oper) (Q : Exit → Act → World → Prop) (l : List Oper) (a : Act) (w : World) : Prop where
 out : wpList P ops Q l a w
structure WpH (P : Program) (ops : Array Oper) (Q : Exit → Act → World → Prop) (S : World → Prop) (fuel : Nat) (listed : Array Bool) (a : Act) (w : World) : Prop where
 out : wpAnyH P .any ops Q S fuel listed a w
section
variable {P : Program} {ops : Array Oper} {Q : Exit → Act → World → Prop} {a : Act} {w : World} {rest : List Oper} {o : Oper} {K : Act → World → Prop}
theorem d1k (h : ∀ K : Act → World → Prop, Shut (∀ a w, WpL P ops Q rest a w → K a w) → OpW P ops Q o K a w) : WpL P ops Q (o :: rest) a w :=
 ⟨wpList_step fun K hK => (h K (fun a w k => hK a w k.out)).out⟩
theorem n0o {id : Nat} {l : List Oper} (h : WpL P l.toArray Q l a w) : (Code.region id l.toArray false).wp P Q a w := wp_region_lit h.out
theorem r1s (h : Q .normal a w) : WpL P ops Q [] a w := ⟨h⟩
theorem OpW.mono {K' : Act → World → Prop} (h : ∀ a w, K a w → K' a w) (hh : OpW P ops Q o K a w) : OpW P ops Q o K' a w := by
 refine ⟨?_⟩
 replace hh := hh.out
 split
 · rename_i hw; rw [if_pos hw] at hh; exact Oper.wp_mono h hh
 · rename_i hw; rw [if_neg hw] at hh; exact h _ _ hh
theorem e0t (h : OpW P ops Q o (WpL P ops Q rest) a w) : WpL P ops Q (o :: rest) a w :=
 d1k fun _ hK => h.mono hK.out
theorem o1h (d : Option Tmp) (hd : o.dst = d) (hw : Region.wanted o (yielded ops a.tmps) = false) (h : K (a.put d undef) w) : OpW P ops Q o K a w := by
 subst hd
 refine ⟨?_⟩
 rw [if_neg (by simp [hw])]
 exact h
theorem n0p (d : Option Tmp) (hd : o.dst = d) (v : Value) (hw : Region.wanted o (yielded ops a.tmps) = true) (hr : (execOp a.eval o).run P w = .ok (.value v) w) (h : K (a.put d v) w) : OpW P ops Q o K a w := by
 subst hd
 refine ⟨?_⟩
 rw [if_pos hw]
 unfold Oper.wp
 rw [hr]
 exact h
theorem r0k (d : Option Tmp) (hd : o.dst = d) (v : Value) (vs : Array Value) (t : TypeId) (hw : Region.wanted o (yielded ops a.tmps) = true) (hr : (execOp a.eval o).run P w = .ok (.value v) (w.alloc (.cells vs t)))
 (h : ∀ W, Below w.heap.size w W → W.heap.size = w.heap.size + 1 → Bt W w.heap.size t vs → K (a.put d v) W) : OpW P ops Q o K a w := by
 subst hd
 refine ⟨?_⟩
 rw [if_pos hw]
 unfold Oper.wp
 rw [hr]
 exact h _ (c0y _ _) (by simp) (m1m _ _ _)
theorem h0t (d : Option Tmp) (hd : o.dst = d) (f : FuncId) (args : Array Value) (hw : Region.wanted o (yielded ops a.tmps) = true) (hr : (execOp a.eval o).run P w = .ok (.enter f args) w)
 (h : Calls P f args w fun e w' => ∃ v, e = .returned v ∧ K (a.put d v) w') : OpW P ops Q o K a w := by
 subst hd
 refine ⟨?_⟩
 rw [if_pos hw]
 unfold Oper.wp
 rw [hr]
 refine Calls.mono h ?_
 rintro e w' ⟨v, rfl, hk⟩
 exact hk
theorem i1l (d : Option Tmp) (hd : o.dst = d) {w' : World} (hw : Region.wanted o (yielded ops a.tmps) = true) (hr : (execOp a.eval o).run P w = .ok .skip w') (h : K (a.put d undef) w') : OpW P ops Q o K a w := by
 subst hd
 refine ⟨?_⟩
 rw [if_pos hw]
 unfold Oper.wp
 rw [hr]
 exact h
end
/-! ### Loads and stores -/
structure m0p (P : Program) (t : TypeId) (n : Nat) : Prop where
 row : ∃ d, P.underlying t = some d ∧ d.isRow = true
 size : (P.info? t).map (·.size) = some n
theorem y0l {P : Program} {t : TypeId} {n : Nat} (h : (match P.underlying t with | some d => d.isRow | none => false) = true) (k : (P.info? t).map (·.size) = some n) : m0p P t n := by
 refine ⟨?_, k⟩
 revert h
 cases P.underlying t with
 | none => intro h; cases h
 | some d => intro h; exact ⟨d, rfl, h⟩
structure k0k (P : Program) (t : TypeId) : Prop where
 row : ∃ d, P.underlying t = some d ∧ d.isRow = false
 size : (P.info? t).map (·.size) = some 1
theorem m0v {P : Program} {t : TypeId} (h : (match P.underlying t with | some d => d.isRow | none => true) = false) (k : (P.info? t).map (·.size) = some 1) : k0k P t := by
 refine ⟨?_, k⟩
 revert h
 cases P.underlying t with
 | none => intro h; cases h
 | some d => intro h; exact ⟨d, rfl, h⟩
def Part (vs : Array Value) (off : Nat) (cs : List Value) : Prop := ∀ j v, cs[j]? = some v → vs[off + j]? = some v
theorem o1i {vs : Array Value} {off : Nat} {cs : List Value} (h : (vs.toList.drop off).take cs.length = cs) : Part vs off cs := by
 intro j v hv
 have hj := (List.getElem?_eq_some_iff.1 hv).1
 rw [← h, List.getElem?_take, if_pos hj, List.getElem?_drop] at hv
 simpa using hv
theorem Bx.rangeAt {w : World} {b : Nat} {vs : Array Value} (h : Bx w b vs) {off : Nat} {cs : List Value} (hc : Part vs off cs) : w.rangeAt b off cs := fun j v hv => by
 rw [h.cell]
 exact hc j v hv
theorem m1n {P : Program} {w : World} {b : Nat} {t : TypeId} {vs : Array Value} (h : Bt w b t vs) {ty n : Nat} (hT : m0p P ty n) (off : Nat) (cs : List Value) (hc : (vs.toList.drop off).take cs.length = cs) (hn : cs.length = n) :
 (Instr.loadAt ty (.pointer (some ⟨b, off, none⟩))).run P w = .ok (.agg cs.toArray) w := by
 obtain ⟨⟨d, hu, hd⟩, hi⟩ := hT
 exact run_loadAt_mid w b off ty cs d (h.bx.rangeAt (o1i hc)) hu hd (by rw [hi, hn])
theorem g0x {P : Program} {w : World} {ty : Nat} (hT : k0k P ty) : (isAgg ty).run P w = .ok false w := by
 obtain ⟨⟨d, hu, hd⟩, -⟩ := hT
 unfold isAgg
 rw [Sem.run_bind, run_underlying hu w]
 cases d <;> simp_all [TypeDesc.isRow]
theorem d1l {P : Program} {w : World} {b : Nat} {t : TypeId} {vs : Array Value} (h : Bt w b t vs) {ty : Nat} (hT : k0k P ty) (off : Nat) (v : Value) (hc : vs[off]? = some v) :
 (Instr.loadAt ty (.pointer (some ⟨b, off, none⟩))).run P w = .ok v w := by
 have hl : (load ⟨b, off, none⟩).run P w = .ok v w := by
  have := h.bx.c off hc
  simp [go_sem, this]
 simp only [Instr.loadAt, Instr.sureAddr, Sem.run_bind, Sem.run_pure, Result.andThen_ok, loadVar, g0x hT]
 simpa using hl
section
variable {P : Program} {ops : Array Oper} {Q : Exit → Act → World → Prop} {a : Act} {w : World} {K : Act → World → Prop}
end
def putL (vs : Array Value) (off : Nat) : List Value → Array Value
 | [] => vs
 | v :: r => putL (vs.setIfInBounds off v) (off + 1) r
theorem Bt.setCells {b : Nat} {t : TypeId} : ∀ (cs : List Value) (off : Nat) (w : World) (vs : Array Value), Bt w b t vs → Bt (w.setCells b off cs) b t (putL vs off cs) ∧ Only b w (w.setCells b off cs)
 | [], _, w, _, h => ⟨h, Only.refl _ _⟩
 | v :: r, off, w, vs, h => by
  have := Bt.setCells r (off + 1) (w.setCell ⟨b, off, none⟩ v) (vs.setIfInBounds off v) (h.set off v)
  exact ⟨this.1, (k0j w b off v).trans this.2⟩
theorem Bx.there {w : World} {b : Nat} {vs : Array Value} (h : Bx w b vs) {off n : Nat} (hn : off + n ≤ vs.size) : w.there b off n := fun j hj => by
 refine ⟨?_, h.f _⟩
 rw [h.cell, Array.getElem?_eq_getElem (by omega)]
 rfl
section
variable {P : Program} {ops : Array Oper} {Q : Exit → Act → World → Prop} {a : Act} {w : World} {K : Act → World → Prop} {o : Oper}
theorem m1o (d : Option Tmp) (hd : o.dst = d) {ty : TypeId} {x y : Operand} {b : Nat} {t : TypeId} {vs : Array Value} (hX : Bt w b t vs) {n : Nat} (hT : m0p P ty n) (off : Nat) (cs vs' : Array Value)
 (hw : Region.wanted o (yielded ops a.tmps) = true) (ho : o.op = .store ty x y) (hx : a.eval x = .pointer (some ⟨b, off, none⟩)) (hy : a.eval y = .agg cs)
 (hn : cs.size = n) (hle' : Nat.ble (off + n) vs.size = true) (h1 : cs.all (·.oneCell') = true) (hv : putL vs off cs.toList = vs')
 (h : ∀ W, Only b w W → Bt W b t vs' → K (a.put d undef) W) : OpW P ops Q o K a w := by
 subst hd
 subst hn hv
 have hle := Nat.le_of_ble_eq_true hle'
 refine ⟨?_⟩
 rw [if_pos hw]
 have hB := Bt.setCells cs.toList off w vs hX
 exact wp_store_mid ty x y ho b off cs hx hy (hX.bx.there hle) hT.size h1 (h _ hB.2 hB.1)
theorem o1j (d : Option Tmp) (hd : o.dst = d) {ty : TypeId} {x y : Operand} {b : Nat} {t : TypeId} {vs : Array Value} (hX : Bt w b t vs) (hT : k0k P ty) (off : Nat) (v : Value) (vs' : Array Value)
 (hw : Region.wanted o (yielded ops a.tmps) = true) (ho : o.op = .store ty x y) (hx : a.eval x = .pointer (some ⟨b, off, none⟩)) (hy : a.eval y = v)
 (hle' : Nat.ble (off + 1) vs.size = true) (h1 : v.cells = #[v]) (h5 : v.oneCell' = true) (hv : vs.setIfInBounds off v = vs')
 (h : ∀ W, Only b w W → Bt W b t vs' → K (a.put d undef) W) : OpW P ops Q o K a w := by
 subst hd
 subst hv
 have hle : off < vs.size := Nat.le_of_ble_eq_true hle'
 refine ⟨?_⟩
 rw [if_pos hw]
 have h2 := hX.bx.c off (v := vs[off]) (by rw [Array.getElem?_eq_getElem hle])
 have h3 := hX.bx.f off
 have h4 : (storeCells ⟨b, off, none⟩ [v] 0).run P w = .ok () (w.setCell ⟨b, off, none⟩ v) := by
  have := run_storeCells_cells (P := P) b off [v] 0 w (fun j hj => by simp at hj; subst hj; simp [h2]) (fun j hj => by simp at hj; subst hj; simpa using h3) (fun u hu => by simp at hu; subst hu; exact h5)
  simpa [World.setCells] using this
 have hs : (storeVar ty ⟨b, off, none⟩ v).run P w = .ok () (w.setCell ⟨b, off, none⟩ v) := by
  have hz := hT.size
  cases hq : P.info? ty with
  | none => simp [hq] at hz
  | some i =>
   have hi : i.size = 1 := by simpa [hq] using hz
   unfold storeVar
   rw [h1]
   simpa [sizeOf, typeInfo, hq, hi] using h4
 unfold Oper.wp execOp
 simp only [ho, hx, hy, Instr.storeAt, Instr.sureAddr, Sem.run_bind, Sem.run_pure, Result.andThen_ok, hs]
 exact h _ (k0j _ _ _ _) (hX.set off v)
end
/-! ### Reads of the references -/
structure Rf (w : World) (base : Nat) (p : OA) (c : Nat) (xs : List Nat) : Prop where
 rd : Rd w .i64 p xs
 cap : xs.length ≤ c
 at_ : 0 < xs.length → base ≤ blk p
theorem Rf.past {w w' : World} {base : Nat} {p : OA} {c : Nat} {xs : List Nat} (h : Rf w base p c xs) (hb : Below w.heap.size w w') : Rf w' base p c xs := ⟨h.rd.past hb, h.cap, h.at_⟩
theorem Rf.only {w w' : World} {base k : Nat} {p : OA} {c : Nat} {xs : List Nat} (h : Rf w base p c xs) (hb : Only k w w') (hne : 0 < xs.length → blk p ≠ k) : Rf w' base p c xs := ⟨h.rd.only hb hne, h.cap, h.at_⟩
theorem Rf.keep {w w' : World} {base k : Nat} {p : OA} {c : Nat} {xs : List Nat} (h : Rf w base p c xs) (hb : Keep k w w') (hne : 0 < xs.length → blk p ≠ k) : Rf w' base p c xs := ⟨h.rd.keep hb hne, h.cap, h.at_⟩
theorem Rf.mono {w : World} {base b' : Nat} {p : OA} {c : Nat} {xs : List Nat} (h : Rf w base p c xs) (hb : b' ≤ base) : Rf w b' p c xs := ⟨h.rd, h.cap, fun h0 => Nat.le_trans hb (h.at_ h0)⟩
theorem Rf.lt {w : World} {base : Nat} {p : OA} {c : Nat} {xs : List Nat} (h : Rf w base p c xs) (h0 : 0 < xs.length) : base ≤ blk p ∧ blk p < w.heap.size := ⟨h.at_ h0, h.rd.lt h0⟩
/-! ### Quotients, shifts -/
section
variable {P : Program} {a : Act} {w : World} {dst : Option Tmp} {t2 xT yT : TypeId} {pos : String} {af : Array Edge} {g : Option (Nat × Bool)} {x y : Operand} {k : IntKind} {X Y : Int}
end
/-! ### The order -/
theorem i1m {P : Program} {ops : Array Oper} {Q : Exit → Act → World → Prop} (S : World → Prop) {id : Nat} {a : Act} {w V : World} (hV : V = w.drew) (hm : P.follows .mixedOrders = true) (hS : S V)
 (h : WpH P ops Q S ops.size (Array.replicate ops.size false) a V) : (Code.region id ops true).wp P Q a w := by
 subst hV
 exact wp_region_held_drew hm hS (fun _ => h.out)
theorem o1k {P : Program} {ops : Array Oper} {Q : Exit → Act → World → Prop} {S : World → Prop} {fuel : Nat} {listed : Array Bool} {a : Act} {w : World} (hr : Region.ready .any ops listed = []) (h : Q .normal a w) : WpH P ops Q S fuel listed a w := ⟨wpAnyH_done hr h _⟩
structure Rdy (P : Program) (ops : Array Oper) (Q : Exit → Act → World → Prop) (S : World → Prop) (fuel : Nat) (listed : Array Bool) (a : Act) (w : World) (rs : List Nat) : Prop where
 out : AllReadyH P .any ops Q S fuel listed a w rs
theorem i1n {P : Program} {ops : Array Oper} {Q : Exit → Act → World → Prop} {S : World → Prop} (rs : List Nat) {fuel : Nat} {listed : Array Bool} {a : Act} {w : World} (hr : Region.ready .any ops listed = rs) (hne : rs.isEmpty = false)
 (h : Rdy P ops Q S fuel listed a w rs) : WpH P ops Q S (fuel + 1) listed a w := ⟨wpAnyH_ready hr (by intro hn; rw [hn] at hne; cases hne) h.out⟩
theorem o1l {P : Program} {ops : Array Oper} {Q : Exit → Act → World → Prop} {S : World → Prop} {fuel : Nat} {listed : Array Bool} {a : Act} {w : World} : Rdy P ops Q S fuel listed a w [] := ⟨AllReadyH.nil⟩
theorem i1o {P : Program} {ops : Array Oper} {Q : Exit → Act → World → Prop} {S : World → Prop} {fuel : Nat} {listed : Array Bool} {a : Act} {w : World} {i : Nat} {o : Oper} {rs : List Nat} (listed' : Array Bool) (ho : ops[i]? = some o) (hl : listed.setIfInBounds i true = listed')
 (h : ∀ K' : Act → World → Prop, Shut (∀ a w, S w → WpH P ops Q S fuel listed' a w → K' a w) → OpW P ops Q o K' a w)
 (hs : Rdy P ops Q S fuel listed a w rs) : Rdy P ops Q S fuel listed a w (i :: rs) := by
 subst hl
 exact ⟨AllReadyH.cons ho (fun K' hK => (h K' (fun a w hS k => hK.out a w hS (fun _ => k.out))).out) hs.out⟩
theorem n0q {P : Program} {ops : Array Oper} {Q : Exit → Act → World → Prop} {S : World → Prop} {fuel : Nat} {listed : Array Bool} {a : Act} {w : World} (i : Nat) {oi : Oper} (d : Option Tmp) (v : Value) (listed' : Array Bool) (hi : ops[i]? = some oi) (hd : oi.dst = d) (hl : listed.setIfInBounds i true = listed')
 (hs : Region.noSelect ops = true) (hf : Region.free .any ops listed i = true) (hr : (Region.ready .any ops listed).contains i = true)
 (hQ : ∀ c a w, Q (.panic c) (a.put d v) w → Q (.panic c) a w) (hy : YieldsIf P ops S oi v a) (hS : S w)
 (h : WpH P ops Q S fuel listed' (a.put d v) w) : WpH P ops Q S (fuel + 1) listed a w := by
 subst hd hl
 exact ⟨wpAnyH_take hi hs hf hr hQ hy hS h.out⟩
theorem Keep.refl (b : Nat) (w : World) : Keep b w w := ⟨rfl, rfl, rfl, Nat.le_refl _, fun _ _ _ => rfl⟩
theorem Keep.step {b : Nat} {w w1 w2 : World} (h : Keep b w w1) (k : Below w1.heap.size w1 w2) : Keep b w w2 := h.trans (Below.keep k b)
theorem Keep.put {b x : Nat} {w w1 w2 : World} (h : Keep b w w1) (k : Only x w1 w2) (hx : w.heap.size ≤ x ∨ x = b) : Keep b w w2 :=
 ⟨k.os.trans h.os, k.tape.trans h.tape, k.output.trans h.output, by rw [k.size]; exact h.size, fun i hi hn => (k.block i (by omega)).trans (h.block i hi hn)⟩
theorem r1t {w w1 w2 : World} {B : Nat} (h : Below B w w1) (k : Below w1.heap.size w1 w2) (hB : B ≤ w1.heap.size := by omega) : Below B w w2 := h.trans (k.mono hB)
theorem i1p {P : Program} {c : Code} {Q : Exit → Act → World → Prop} {a a' : Act} {w : World} (h : a = a') (k : c.wp P Q a' w) : c.wp P Q a w := by rw [h]; exact k
theorem a1n {next : Act → World → Prop} {Q : Exit → Act → World → Prop} {a : Act} {w : World} (h : Q .ret a w) : Exit.then next Q .ret a w := h
theorem w0k {id : Nat} {Q : Exit → Act → World → Prop} {a : Act} {w : World} (h : Q .ret a w) : Exit.inBlock id Q .ret a w := h
section
variable {P : Program} {ops : Array Oper} {Q : Exit → Act → World → Prop} {a : Act} {w : World} {rest : List Oper} {o : Oper} {K : Act → World → Prop}
theorem sv (d : Nat) (v : Value) (h : WpL P ops Q rest (a.put (some d) v) w) (hr : (execOp a.eval o).run P w = .ok (.value v) w := by kernel_rfl) (hd : o.dst = some d := by kernel_rfl) (hw : Region.wanted o (yielded ops a.tmps) = true := by kernel_rfl) : WpL P ops Q (o :: rest) a w := e0t (n0p (some d) hd v hw hr h)
theorem snv (d : Nat) (v : Value) (vs : Array Value) (t : TypeId) (h : ∀ W, Below w.heap.size w W → W.heap.size = w.heap.size + 1 → Bt W w.heap.size t vs → WpL P ops Q rest (a.put (some d) v) W)
 (hd : o.dst = some d := by kernel_rfl) (hw : Region.wanted o (yielded ops a.tmps) = true := by kernel_rfl) (hr : (execOp a.eval o).run P w = .ok (.value v) (w.alloc (.cells vs t)) := by kernel_rfl) : WpL P ops Q (o :: rest) a w := e0t (r0k (some d) hd v vs t hw hr h)
theorem se (d : Nat) (f : FuncId) (args : Array Value) (h : ∀ G : Act → World → Prop, (∀ a w, WpL P ops Q rest a w → G a w) → Calls P f args w fun e w' => ∃ v, e = .returned v ∧ G (a.put (some d) v) w')
 (hd : o.dst = some d := by kernel_rfl) (hw : Region.wanted o (yielded ops a.tmps) = true := by kernel_rfl) (hr : (execOp a.eval o).run P w = .ok (.enter f args) w := by kernel_rfl) : WpL P ops Q (o :: rest) a w := e0t (h0t (some d) hd f args hw hr (h _ fun _ _ h => h))
theorem ss (d : Option Tmp) {ty : TypeId} {x y : Operand} {b : Nat} {t : TypeId} {vs : Array Value} (hX : Bt w b t vs) {n : Nat} (hT : m0p P ty n) (off : Nat) (cs vs' : Array Value) (h : ∀ W, Only b w W → Bt W b t vs' → WpL P ops Q rest (a.put d undef) W)
 (hd : o.dst = d := by kernel_rfl) (hw : Region.wanted o (yielded ops a.tmps) = true := by kernel_rfl) (ho : o.op = .store ty x y := by rfl) (hx : a.eval x = .pointer (some ⟨b, off, none⟩) := by kernel_rfl) (hy : a.eval y = .agg cs := by kernel_rfl)
 (hn : cs.size = n := by kernel_rfl) (hle' : Nat.ble (off + n) vs.size = true := by kernel_rfl) (h1 : cs.all (·.oneCell') = true := by kernel_rfl) (hv : putL vs off cs.toList = vs' := by kernel_rfl) : WpL P ops Q (o :: rest) a w :=
 e0t (m1o d hd hX hT off cs vs' hw ho hx hy hn hle' h1 hv h)
end
section
variable {P : Program} {ops : Array Oper} {Q : Exit → Act → World → Prop} {S : World → Prop} {fuel : Nat} {listed : Array Bool} {a : Act} {w : World}
end
theorem sxd (P : Program) {ops : Array Oper} {Q : Exit → Act → World → Prop} (S : World → Prop) {id : Nat} {a : Act} {w V : World} (hV : V = w.drew) (hS : S V)
 (h : WpH P ops Q S ops.size (Array.replicate ops.size false) a V) (hm : P.follows .mixedOrders = true := by kernel_rfl) : (Code.region id ops true).wp P Q a w := i1m S hV hm hS h
def us : Nat → List Value → List Value
 | 0, l => l
 | n + 1, l => undef :: us n l
def runN (P : Program) (ops : Array Oper) : Nat → List Oper → Act → World → Option (Act × World)
 | 0, _, a, w => some (a, w)
 | _ + 1, [], _, _ => none
 | n + 1, o :: l, a, w =>
  match Region.wanted o (yielded ops a.tmps) with
  | true => match (execOp a.eval o).run P w with
   | .ok (.value v) w' => runN P ops n l (a.put o.dst v) w'
   | _ => none
  | false => runN P ops n l (a.put o.dst undef) w
def actN (P : Program) (ops : Array Oper) (n : Nat) (l : List Oper) (a : Act) (w : World) : Act := match runN P ops n l a w with | some (a', _) => a' | none => a
section
variable {P : Program} {ops : Array Oper} {Q : Exit → Act → World → Prop}
theorem l0r : ∀ (n : Nat) (l : List Oper) (a : Act) (w : World) (a' : Act) (w' : World), runN P ops n l a w = some (a', w') → WpL P ops Q (l.drop n) a' w' → WpL P ops Q l a w
 | 0, l, a, w, a', w', h, k => by
  simp only [runN, Option.some.injEq, Prod.mk.injEq] at h
  obtain ⟨rfl, rfl⟩ := h
  exact k
 | n + 1, [], a, w, a', w', h, k => by simp [runN] at h
 | n + 1, o :: l, a, w, a', w', h, k => by
  unfold runN at h
  split at h
  · rename_i hw
    split at h
    · rename_i v w2 hr
      refine e0t ⟨?_⟩
      rw [if_pos hw]
      unfold Oper.wp
      rw [hr]
      exact l0r n l _ _ a' w' h k
    · cases h
  · rename_i hw
    refine e0t ⟨?_⟩
    rw [if_neg (by simp [hw])]
    exact l0r n l _ _ a' w' h k
variable {a : Act} {w : World} {l l' : List Oper} {o : Oper}
theorem yn (n : Nat) (hs : l.drop n = l') (h : WpL P ops Q l' (actN P ops n l a w) w) (hr : runN P ops n l a w = some (actN P ops n l a w, w) := by kernel_rfl) : WpL P ops Q l a w :=
 l0r n l a w _ _ hr (by rw [hs]; exact h)
theorem yv (n : Nat) (hs : l.drop n = o :: l') (d : Nat) (v : Value) (h : WpL P ops Q l' ((actN P ops n l a w).put (some d) v) w) (hv : (execOp (actN P ops n l a w).eval o).run P w = .ok (.value v) w := by kernel_rfl)
 (hd : o.dst = some d := by kernel_rfl) (hw : Region.wanted o (yielded ops (actN P ops n l a w).tmps) = true := by kernel_rfl) (hr : runN P ops n l a w = some (actN P ops n l a w, w) := by kernel_rfl) : WpL P ops Q l a w :=
 yn n hs (sv d v h hv hd hw) hr
theorem ywv (n : Nat) (hs : l.drop n = o :: l') (d : Nat) (v : Value) (vs : Array Value) (t : TypeId) (h : ∀ W, Below w.heap.size w W → W.heap.size = w.heap.size + 1 → Bt W w.heap.size t vs → WpL P ops Q l' ((actN P ops n l a w).put (some d) v) W)
 (hd : o.dst = some d := by kernel_rfl) (hw : Region.wanted o (yielded ops (actN P ops n l a w).tmps) = true := by kernel_rfl) (hv : (execOp (actN P ops n l a w).eval o).run P w = .ok (.value v) (w.alloc (.cells vs t)) := by kernel_rfl)
 (hr : runN P ops n l a w = some (actN P ops n l a w, w) := by kernel_rfl) : WpL P ops Q l a w := yn n hs (snv d v vs t h hd hw hv) hr
theorem yc (n : Nat) (hs : l.drop n = o :: l') (d : Nat) {f : FuncId} {args : Array Value} {post : Ending → World → Prop} (hc : Calls P f args w post)
 (h : ∀ G : Act → World → Prop, (∀ a w, WpL P ops Q l' a w → G a w) → ∀ e w', post e w' → ∃ v, e = .returned v ∧ G ((actN P ops n l a w).put (some d) v) w')
 (hv : (execOp (actN P ops n l a w).eval o).run P w = .ok (.enter f args) w := by kernel_rfl) (hd : o.dst = some d := by kernel_rfl) (hw : Region.wanted o (yielded ops (actN P ops n l a w).tmps) = true := by kernel_rfl)
 (hr : runN P ops n l a w = some (actN P ops n l a w, w) := by kernel_rfl) : WpL P ops Q l a w := yn n hs (se d f args (fun G hG => hc.mono (h G hG)) hd hw hv) hr
theorem ys (n : Nat) (hs : l.drop n = o :: l') {ty : TypeId} {x y : Operand} {b : Nat} {t : TypeId} {vs : Array Value} (hX : Bt w b t vs) {k : Nat} (hT : m0p P ty k) (off : Nat) (cs vs' : Array Value) (h : ∀ W, Only b w W → Bt W b t vs' → WpL P ops Q l' ((actN P ops n l a w).put none undef) W)
 (hd : o.dst = none := by kernel_rfl) (hw : Region.wanted o (yielded ops (actN P ops n l a w).tmps) = true := by kernel_rfl) (ho : o.op = .store ty x y := by rfl) (hx : (actN P ops n l a w).eval x = .pointer (some ⟨b, off, none⟩) := by kernel_rfl) (hy : (actN P ops n l a w).eval y = .agg cs := by kernel_rfl)
 (hn : cs.size = k := by kernel_rfl) (hle' : Nat.ble (off + k) vs.size = true := by kernel_rfl) (h1 : cs.all (·.oneCell') = true := by kernel_rfl) (hv : putL vs off cs.toList = vs' := by kernel_rfl)
 (hr : runN P ops n l a w = some (actN P ops n l a w, w) := by kernel_rfl) : WpL P ops Q l a w := yn n hs (ss none hX hT off cs vs' h hd hw ho hx hy hn hle' h1 hv) hr
theorem yzt {next : Act → World → Prop} (n : Nat) (h : next (actN P ops n l a w) w) (hs : l.drop n = [] := by rfl) (hr : runN P ops n l a w = some (actN P ops n l a w, w) := by kernel_rfl) : WpL P ops (Exit.then next Q) l a w := yn (Q := Exit.then next Q) n hs ⟨h⟩ hr
end
section
variable {P : Program} {Q : Exit → Act → World → Prop} {a : Act} {w : World} {l : List Oper} {c c1 c2 : Code} {id : Nat} {x : Operand}
theorem yq (h : c.wp P Q (actN P l.toArray l.length l a w) w) (hr : runN P l.toArray l.length l a w = some (actN P l.toArray l.length l a w, w) := by kernel_rfl) : (Code.seq (Code.region id l.toArray false) c).wp P Q a w :=
 wp_seq (n0o (yn (Q := Exit.then (c.wp P Q) Q) l.length List.drop_length ⟨h⟩ hr))
theorem ye (h : WpL P l.toArray (Exit.then (c.wp P Q) Q) l a w) : (Code.seq (Code.region id l.toArray false) c).wp P Q a w := wp_seq (n0o h)
theorem yT (h : c1.wp P Q a w) (hx : a.eval x = .bool true := by kernel_rfl) : (Code.cond x c1 c2).wp P Q a w := wp_cond_true hx h
end
section
variable {P : Program} {fn : Func} {R : Ending → World → Prop} {a : Act} {w : World}
def rvS (tmps : Array Value) : ResultVar → Sem Value
 | .tmp t => pure (tmps.getD t undef)
 | .cell a t => do loadVar t (← asAddr (tmps.getD a undef))
structure Rv (P : Program) (w : World) (tmps : Array Value) (r : ResultVar) (v : Value) : Prop where
 out : (rvS tmps r).run P w = .ok v w
theorem rvt {tmps : Array Value} {t : Tmp} : Rv P w tmps (.tmp t) (tmps.getD t undef) := ⟨by simp [rvS]⟩
theorem p0x (tmps : Array Value) : results fn tmps = (do
    let vs ← fn.results.mapM (rvS tmps)
    pure (if h : vs.size = 1 then vs[0] else .tuple vs)) := by
 unfold results
 congr 1
theorem res1 {r : ResultVar} {v : Value} (hf : fn.results = #[r]) (h : Rv P w a.tmps r v) : (results fn a.tmps).run P w = .ok v w := by
 rw [p0x, hf]
 simp [h.out]
theorem yret {u : Value} (v : Value) (r : (results fn a.tmps).run P w = .ok u w) (h : R (.returned v) w) (hv : u = v := by kernel_rfl) (hd : a.defers = [] := by kernel_rfl) : bodyPost P fn R .ret a w := bodyPost_ret (by rw [← hv]; exact r) hd h
end
/-! ### Drawn regions -/
section
variable {P : Program} {ops : Array Oper} {Q : Exit → Act → World → Prop} {S : World → Prop} {a : Act} {w V : World} {fuel fuel' : Nat} {listed : Array Bool}
end
inductive SV where
 | v (x : Value)
 | p (k off : Nat)
 | s (k off n c : Nat)
 | a (cs : List Value) (ks : List (Option Nat))
 | f (fn : Fn) (cs : List Value) (ks : List (Option Nat))
def lk {α : Type} (d : α) : List α → Nat → α
 | [], _ => d
 | a :: _, 0 => a
 | _ :: l, n + 1 => lk d l n
def setL {α : Type} : List α → Nat → α → List α
 | [], _, _ => []
 | _ :: l, 0, v => v :: l
 | a :: l, n + 1, v => a :: setL l n v
theorem d0e {α : Type} (d : α) : ∀ (l : List α) (n : Nat), lk d l n = (l[n]?).getD d
 | [], _ => by simp [lk]
 | a :: _, 0 => by simp [lk]
 | _ :: l, n + 1 => by simp [lk, d0e d l n]
theorem d0a {α : Type} : ∀ (l : List α) (n : Nat) (v : α), setL l n v = l.set n v
 | [], _, _ => by simp [setL]
 | _ :: _, 0, _ => rfl
 | _ :: l, n + 1, v => by simp [setL, d0a l n v]
def n0r (A : List Nat) : Option Nat → Value → Value
 | some k, .pointer (some ⟨_, off, _⟩) => .pointer (some ⟨lk 0 A k, off, none⟩)
 | some k, .slice (some ⟨_, off, _⟩) n c => .slice (some ⟨lk 0 A k, off, none⟩) n c
 | _, v => v
def e0u (A : List Nat) : List Value → List (Option Nat) → List Value
 | v :: vs, k :: ks => n0r A k v :: e0u A vs ks
 | vs, _ => vs
def SV.r (A : List Nat) : SV → Value
 | .v x => x
 | .p k off => .pointer (some ⟨lk 0 A k, off, none⟩)
 | .s k off n c => .slice (some ⟨lk 0 A k, off, none⟩) n c
 | .a cs ks => .agg (e0u A cs ks).toArray
 | .f fn cs ks => .func fn #[] (e0u A cs ks).toArray
def act (A : List Nat) (fr : List SV) : Act := ⟨(fr.map (SV.r A)).toArray, []⟩
def ev (fr : List SV) : Operand → SV
 | .tmp t => lk (.v undef) fr t
 | .const v => .v v
 | .global g => .v (.pointer (some ⟨g, 0, none⟩))
 | .func f => .v (.func (.func f) #[] #[])
def evr (A : List Nat) (fr : List SV) (x : Operand) : Value := (ev fr x).r A
theorem d1m (A : List Nat) (fr : List SV) (t : Nat) : (act A fr).tmps[t]? = (fr[t]?).map (SV.r A) := by simp [act]
theorem b0j (A : List Nat) (fr : List SV) : (act A fr).eval = evr A fr := by
 funext x
 cases x with
 | tmp t =>
  show (act A fr).tmps.getD t undef = SV.r A (lk _ fr t)
  rw [Array.getD_eq_getD_getElem?, d1m, d0e]
  cases fr[t]? <;> rfl
 | const v => rfl
 | global g => rfl
 | func f => rfl
def putO (fr : List SV) (d : Option Tmp) (x : SV) : List SV := match d with | some d => setL fr d x | none => fr
theorem c0a (A : List Nat) (fr : List SV) (d : Option Tmp) (x : SV) : (act A fr).put d (x.r A) = act A (putO fr d x) := by
 cases d with
 | none => rfl
 | some d =>
  show (⟨(fr.map (SV.r A)).toArray.setIfInBounds d (x.r A), []⟩ : Act) = ⟨((setL fr d x).map (SV.r A)).toArray, []⟩
  rw [d0a, List.map_set]
  simp
def wnt (ops : Array Oper) (fr : List SV) (o : Oper) : Bool :=
 match o.guard with
 | none => true
 | some (j, b) => match (ops[j]?).bind (·.dst) with
  | some d => match lk (.v undef) fr d with
   | .v (.bool c) => match b with | true => c | false => !c
   | _ => false
  | none => false
theorem d0k (A : List Nat) (ops : Array Oper) (fr : List SV) (o : Oper) : Region.wanted o (yielded ops (act A fr).tmps) = wnt ops fr o := by
 unfold Region.wanted wnt
 cases o.guard with
 | none => rfl
 | some jb =>
  obtain ⟨j, b⟩ := jb
  simp only
  unfold yielded
  cases (ops[j]?).bind (·.dst) with
  | none => rfl
  | some d =>
   simp only [Option.bind_some, d1m, d0e]
   cases h : fr[d]? with
   | none => rfl
   | some x =>
    simp only [Option.map_some, Option.getD_some]
    cases x with
    | v x => cases x with
     | bool c => cases b <;> cases c <;> rfl
     | _ => rfl
    | p k off => rfl
    | s k off n c => rfl
    | a cs ks => rfl
    | f fn cs ks => rfl
/-! ### Boxes, facts -/
structure Box where
 t : TypeId
 cs : List SV
 ro : Bool
def Box.row (A : List Nat) (b : Box) : Array Value := (b.cs.map (SV.r A)).toArray
def bx0 : Box := ⟨0, [], false⟩
structure PF where
 prop : World → Prop
 foot : Nat → Prop
 keep : ∀ W W', prop W → (∀ b, b < W.heap.size → foot b → W'.heap[b]? = W.heap[b]?) → W.heap.size ≤ W'.heap.size → prop W'
 lt : ∀ W b, prop W → foot b → b < W.heap.size
def PF.all (W : World) : List PF → Prop
 | [] => True
 | f :: l => f.prop W ∧ PF.all W l
def PF.far (a : Nat) : List PF → Prop
 | [] => True
 | f :: l => ¬ f.foot a ∧ PF.far a l
theorem PF.all_keep {W W' : World} (hs : W.heap.size ≤ W'.heap.size) : ∀ {l : List PF}, PF.all W l → (∀ b, b < W.heap.size → (∀ a, PF.far a l → a ≠ b) → W'.heap[b]? = W.heap[b]?) → PF.all W' l
 | [], _, _ => True.intro
 | f :: _, h, hb => ⟨f.keep W W' h.1 (fun b hl hf => hb b hl fun _ ha hab => ha.1 (hab ▸ hf)) hs, PF.all_keep hs h.2 fun b hl ha => hb b hl fun _ h1 => ha _ h1.2⟩
theorem PF.far_new {W : World} : ∀ {l : List PF}, PF.all W l → PF.far W.heap.size l
 | [], _ => True.intro
 | f :: _, h => ⟨fun hf => Nat.lt_irrefl _ (f.lt W _ h.1 hf), PF.far_new h.2⟩
structure Kp (E : List Nat) (w w' : World) : Prop where
 os : w'.os = w.os
 tape : w'.tape = w.tape
 output : w'.output = w.output
 size : w.heap.size ≤ w'.heap.size
 block : ∀ k, k < w.heap.size → k ∉ E → w'.heap[k]? = w.heap[k]?
theorem Kp.refl (E : List Nat) (w : World) : Kp E w w := ⟨rfl, rfl, rfl, Nat.le_refl _, fun _ _ _ => rfl⟩
theorem Kp.step {E : List Nat} {w w1 w2 : World} (h : Kp E w w1) (k : Below w1.heap.size w1 w2) : Kp E w w2 :=
 ⟨k.os.trans h.os, k.tape.trans h.tape, k.output.trans h.output, Nat.le_trans h.size k.size, fun i hi hn => (k.block i (Nat.lt_of_lt_of_le hi h.size)).trans (h.block i hi hn)⟩
theorem Kp.put {E : List Nat} {w w1 w2 : World} {a : Nat} (h : Kp E w w1) (k : Only a w1 w2) (ha : w.heap.size ≤ a ∨ a ∈ E) : Kp E w w2 :=
 ⟨k.os.trans h.os, k.tape.trans h.tape, k.output.trans h.output, by rw [k.size]; exact h.size, fun i hi hn => (k.block i (fun e => by subst e; rcases ha with ha | ha; omega; exact hn ha)).trans (h.block i hi hn)⟩
def Fa (A : List Nat) (bx : List Box) (a : Nat) : Prop := ∃ k, k < bx.length ∧ (lk bx0 bx k).ro = false ∧ a = lk 0 A k
structure Inv (E : List Nat) (w0 : World) (A : List Nat) (bx : List Box) (fs : List PF) (W : World) : Prop where
 bel : Kp E w0 W
 ge : ∀ a, Fa A bx a → w0.heap.size ≤ a ∨ a ∈ E
 nd : ∀ i j, i < bx.length → j < bx.length → (lk bx0 bx i).ro = false → i ≠ j → lk 0 A i ≠ lk 0 A j
 len : A.length = bx.length
 pre : E <+: A
 bt : ∀ k, k < bx.length → Bt W (lk 0 A k) (lk bx0 bx k).t ((lk bx0 bx k).row A)
 fa : PF.all W fs
 far : ∀ a, Fa A bx a → PF.far a fs
theorem Inv.below {w0 : World} {A : List Nat} {bx : List Box} {fs : List PF} {W : World} (I : Inv [] w0 A bx fs W) : Below w0.heap.size w0 W :=
 ⟨I.bel.os, I.bel.tape, I.bel.output, I.bel.size, fun k hk => I.bel.block k hk (by simp)⟩
theorem Fa.nil {a : Nat} (h : Fa [] [] a) : False := by
 obtain ⟨k, hk, _⟩ := h
 simp at hk
theorem Inv.start (w : World) (fs : List PF) (h : PF.all w fs) : Inv [] w [] [] fs w :=
 ⟨Kp.refl _ _, fun _ h => h.nil.elim, fun _ _ h => by simp at h, rfl, List.prefix_refl _, fun _ h => by simp at h, h, fun _ h => h.nil.elim⟩
section
variable {E : List Nat} {w0 : World} {A : List Nat} {bx : List Box} {fs : List PF} {W W' : World}
theorem Inv.lt (I : Inv E w0 A bx fs W) : ∀ a, Fa A bx a → a < W.heap.size := fun a ⟨k, hk, _, e⟩ => by
 subst e
 exact (I.bt k hk).lt
theorem Inv.past (I : Inv E w0 A bx fs W) (hb : Below W.heap.size W W') : Inv E w0 A bx fs W' :=
 ⟨I.bel.step hb, I.ge, I.nd, I.len, I.pre, fun k hk => (I.bt k hk).past hb, PF.all_keep hb.size I.fa fun b hl _ => hb.block b hl, I.far⟩
theorem Inv.add (I : Inv E w0 A bx fs W) (f : PF) (h : f.prop W) (hf : ∀ a, Fa A bx a → ¬ f.foot a) : Inv E w0 A bx (f :: fs) W :=
 ⟨I.bel, I.ge, I.nd, I.len, I.pre, I.bt, ⟨h, I.fa⟩, fun a ha => ⟨hf a ha, I.far a ha⟩⟩
end
def BtOk (A : List Nat) (bx : List Box) (W : World) : Prop := ∀ k, k < bx.length → 0 < (lk bx0 bx k).cs.length → Bt W (lk 0 A k) (lk bx0 bx k).t ((lk bx0 bx k).row A)
theorem Inv.ok {E : List Nat} {w0 : World} {A : List Nat} {bx : List Box} {fs : List PF} {W : World} (I : Inv E w0 A bx fs W) : BtOk A bx W := fun k hk _ => I.bt k hk
/-! ### What an operation does -/
inductive Eff where
 | val (x : SV)
 | new (t : TypeId) (cs : List SV) (n : Option Nat)
 | st (k : Nat) (cs : List SV)
 | stop
def mkS : Option Nat → Nat → SV
 | none, k => .p k 0
 | some n, k => .s k 0 n n
def rowT (P : Program) (ty : TypeId) : Option Bool := (P.underlying ty).map (·.isRow)
def szT (P : Program) (ty : TypeId) : Option Nat := (P.info? ty).map (·.size)
def d0j : List SV → Option (List Value)
 | [] => some []
 | .v x :: l => match d0j l with | some r => some (x :: r) | none => none
 | _ :: _ => none
theorem j0f (A : List Nat) : ∀ {l : List SV} {r : List Value}, d0j l = some r → l.map (SV.r A) = r
 | [], r, h => by simp [d0j] at h; simp [h]
 | .v x :: l, r, h => by
  unfold d0j at h
  split at h
  · rename_i r' hr
    simp only [Option.some.injEq] at h
    rw [← h, List.map_cons, j0f A hr]; rfl
  · cases h
 | .p _ _ :: _, r, h => by simp [d0j] at h
 | .s _ _ _ _ :: _, r, h => by simp [d0j] at h
 | .a _ _ :: _, r, h => by simp [d0j] at h
 | .f _ _ _ :: _, r, h => by simp [d0j] at h
def own1 : SV → Option Nat
 | .p k _ => some k
 | .s k _ _ _ => some k
 | _ => none
def i1q : List SV → Bool
 | [] => true
 | .a _ _ :: _ => false
 | .f _ _ _ :: _ => false
 | _ :: l => i1q l
def mkA (l : List SV) : SV := match d0j l with
 | some r => .v (.agg r.toArray)
 | none => .a (l.map (SV.r [])) (l.map own1)
theorem k0l (A : List Nat) : ∀ {l : List SV}, i1q l = true → e0u A (l.map (SV.r [])) (l.map own1) = l.map (SV.r A)
 | [], _ => rfl
 | .v x :: l, h => by
  show n0r A none x :: e0u A (l.map (SV.r [])) (l.map own1) = x :: l.map (SV.r A)
  rw [k0l A (l := l) h]
  rfl
 | .p k off :: l, h => by
  show n0r A (some k) (.pointer (some ⟨lk 0 [] k, off, none⟩)) :: e0u A (l.map (SV.r [])) (l.map own1) = .pointer (some ⟨lk 0 A k, off, none⟩) :: l.map (SV.r A)
  rw [k0l A (l := l) h]
  rfl
 | .s k off n c :: l, h => by
  show n0r A (some k) (.slice (some ⟨lk 0 [] k, off, none⟩) n c) :: e0u A (l.map (SV.r [])) (l.map own1) = .slice (some ⟨lk 0 A k, off, none⟩) n c :: l.map (SV.r A)
  rw [k0l A (l := l) h]
  rfl
 | .a _ _ :: _, h => by cases h
 | .f _ _ _ :: _, h => by cases h
theorem t1x (A : List Nat) {l : List SV} (h : i1q l = true) : (mkA l).r A = .agg (l.map (SV.r A)).toArray := by
 unfold mkA
 split
 · rename_i r hr
   rw [j0f A hr]
   rfl
 · show Value.agg (e0u A _ _).toArray = _
   rw [k0l A h]
def spl : Option Nat → Value → SV
 | some k, .pointer (some ⟨_, off, _⟩) => .p k off
 | some k, .slice (some ⟨_, off, _⟩) n c => .s k off n c
 | _, v => .v v
def splL : List Value → List (Option Nat) → List SV
 | v :: vs, k :: ks => spl k v :: splL vs ks
 | vs, _ => vs.map .v
theorem t1y (A : List Nat) (k : Option Nat) (v : Value) : (spl k v).r A = n0r A k v := by
 unfold spl n0r
 split <;> rfl
theorem m1p (A : List Nat) : ∀ (vs : List Value) (ks : List (Option Nat)), (splL vs ks).map (SV.r A) = e0u A vs ks
 | v :: vs, k :: ks => by
  show (spl k v).r A :: (splL vs ks).map (SV.r A) = n0r A k v :: e0u A vs ks
  rw [t1y, m1p A vs ks]
 | [], [] => rfl
 | [], _ :: _ => rfl
 | v :: vs, [] => by
  show ((v :: vs).map SV.v).map (SV.r A) = v :: vs
  rw [List.map_map]
  exact List.map_id _
def ldB (P : Program) (bx : List Box) (ty : TypeId) (k off : Nat) : Option SV :=
 match Nat.ble (k + 1) bx.length with
 | false => none
 | true => match rowT P ty with
  | some true => match szT P ty with
   | some n => match Nat.beq (((lk bx0 bx k).cs.drop off).take n).length n && (Nat.ble 1 (lk bx0 bx k).cs.length && i1q (((lk bx0 bx k).cs.drop off).take n)) with
    | true => some (mkA (((lk bx0 bx k).cs.drop off).take n))
    | false => none
   | none => none
  | some false => match szT P ty with
   | some 1 => match Nat.ble (off + 1) (lk bx0 bx k).cs.length with | true => some (lk (.v undef) (lk bx0 bx k).cs off) | false => none
   | _ => none
  | none => none
def r1u : SV → List SV
 | .v x => x.cells.toList.map .v
 | .a cs ks => splL cs ks
 | x => [x]
def d1n : SV → Option (List SV)
 | .v (.agg cs) => some (cs.toList.map .v)
 | .a cs ks => some (splL cs ks)
 | _ => none
theorem i1r (A : List Nat) {x : SV} {l : List SV} (h : d1n x = some l) : x.r A = .agg (l.map (SV.r A)).toArray := by
 unfold d1n at h
 split at h
 · rename_i cs
   simp only [Option.some.injEq] at h
   subst h
   rw [List.map_map]
   show Value.agg cs = .agg (cs.toList.map id).toArray
   rw [List.map_id]
 · rename_i cs ks
   simp only [Option.some.injEq] at h
   subst h
   rw [m1p]
   rfl
 · cases h
def r0l : SV → Bool
 | .v x => x.oneCell'
 | .a _ _ => false
 | _ => true
theorem p0y (A : List Nat) {x : SV} (h : r0l x = true) : (x.r A).oneCell' = true := by
 cases x with
 | v x => exact h
 | p k off => rfl
 | s k off n c => rfl
 | a cs ks => cases h
 | f fn cs ks => rfl
def putC (cs : List SV) (off : Nat) : List SV → List SV
 | [] => cs
 | v :: r => putC (setL cs off v) (off + 1) r
def stB (P : Program) (bx : List Box) (ty : TypeId) (k off : Nat) (x : SV) : Option (List SV) :=
 match Nat.ble (k + 1) bx.length with
 | false => none
 | true => match (lk bx0 bx k).ro with
  | true => none
  | false => match rowT P ty with
   | some true => match d1n x with
    | some l => match szT P ty with
     | some n => match Nat.beq l.length n && Nat.ble (off + n) (lk bx0 bx k).cs.length && l.all r0l with
      | true => some (putC (lk bx0 bx k).cs off l)
      | false => none
     | none => none
    | none => none
   | some false => match szT P ty with
    | some 1 => match x with
     | .v (.agg _) => none
     | .a _ _ => none
     | x => match Nat.ble (off + 1) (lk bx0 bx k).cs.length && r0l x with
      | true => some (setL (lk bx0 bx k).cs off x)
      | false => none
    | _ => none
   | none => none
def t1z (fr : List SV) : Op → Option Nat
 | .fieldAddr _ x _ | .indexAddr _ x _ | .slice _ x _ _ _ | .nilCheck x => match ev fr x with | .p k _ => some k | .s k _ _ _ => some k | _ => none
 | _ => none
def o1m : Option Nat → Value → SV
 | some k, .pointer (some ⟨_, off, _⟩) => .p k off
 | some k, .slice (some ⟨_, off, _⟩) n c => .s k off n c
 | _, v => .v v
def u1a : SV → Value
 | .v (.agg cs) => .agg (cs.map fun _ => .nilFunc)
 | .v _ => .nilFunc
 | .p k _ => .chan (some k)
 | .s k _ _ _ => .chan (some k)
 | .f _ _ _ => .nilFunc
 | .a _ ks => .agg (ks.map fun k => match k with | some k => Value.chan (some k) | none => .nilFunc).toArray
def m1q : Value → Option Nat
 | .chan (some k) => some k
 | _ => none
def m1r : List (Option Nat) → Bool
 | [] => false
 | some _ :: _ => true
 | none :: l => m1r l
def comb (v m : Value) : SV :=
 match m with
 | .chan (some k) => spl (some k) v
 | .agg ms => match m1r (ms.toList.map m1q) with
  | true => match v with
   | .agg cs => .a cs.toList (ms.toList.map m1q)
   | _ => .v v
  | false => .v v
 | _ => .v v
def d1o (fr : List SV) : List Operand → Bool
 | [] => false
 | x :: l => match ev fr x with
  | .v _ => d1o fr l
  | _ => true
def genA (P : Program) (o : Oper) (fr : List SV) : SV :=
 match (execOp (evr [] fr) o).run P default with
 | .ok (.value v) _ => match (execOp (fun x => u1a (ev fr x)) o).run P default with
  | .ok (.value m) _ => comb v m
  | _ => .v undef
 | _ => .v undef
def o1n (fr : List SV) : Op → Bool
 | .build _ ps => d1o fr (ps.toList.map (·.2))
 | .field _ x _ => d1o fr [x]
 | _ => false
def genV (P : Program) (o : Oper) (fr : List SV) : SV :=
 match o1n fr o.op with
 | true => genA P o fr
 | false => match (execOp (evr [] fr) o).run P default with
  | .ok (.value v) _ => o1m (t1z fr o.op) v
  | _ => .v undef
def newC (P : Program) (o : Oper) (fr : List SV) : Option (TypeId × List SV) :=
 match (execOp (evr [] fr) o).run P default with
 | .ok (.value _) w => match (w.heap[0]? : Option Obj) with
  | some (.cells vs t _) => some (t, vs.toList.map .v)
  | _ => none
 | _ => none
def u1b : Builtin → Bool
 | .len | .cap | .max | .min => true
 | _ => false
def eff (P : Program) (bx : List Box) (fr : List SV) (o : Oper) : Eff :=
 match o.op with
 | .move x | .assign x => .val (ev fr x)
 | .pick c a b => match ev fr c with
  | .v (.bool true) => .val (ev fr a)
  | .v (.bool false) => .val (ev fr b)
  | _ => .stop
 | .load ty x => match ev fr x with
  | .p k off => match ldB P bx ty k off with | some v => .val v | none => .stop
  | _ => .stop
 | .store ty x y => match ev fr x with
  | .p k off => match stB P bx ty k off (ev fr y) with | some cs => .st k cs | none => .stop
  | _ => .stop
 | .box t x => .new t (r1u (ev fr x)) none
 | .alloc _ => match newC P o fr with | some (t, cs) => .new t cs none | none => .stop
 | .buildSlice _ n _ => match newC P o fr with | some (t, cs) => .new t cs (some n) | none => .stop
 | .call c => match c.callee with
  | .builtin b => match u1b b with | true => .val (genV P o fr) | false => .stop
  | _ => .stop
 | .makeFunc fn _ cs => .val (.f fn (cs.toList.map (evr [] fr)) (cs.toList.map fun x => own1 (ev fr x)))
 | .makeMap _ _ | .makeChan _ _ | .makeSlice _ _ _ | .mapUpdate _ _ _ _ | .insert _ _ _ _ | .mapEntry _ _ _ | .entryStore _ _ _ _ | .go _ | .defer _ | .panic _ | .send _ _ | .recv _ _ _ | .select _ _ | .next _ _ | .ready _ | .waits _ => .stop
 | _ => .val (genV P o fr)
def n0s (P : Program) (bx : List Box) (fr : List SV) (o : Oper) (A : List Nat) (w : World) : List (Result Next × Result Next) :=
 match o.op with
 | .move _ | .assign _ | .pick _ _ _ | .load _ _ | .store _ _ _ => []
 | _ => match eff P bx fr o with
  | .val x => [((execOp (evr A fr) o).run P w, .ok (.value (x.r A)) w)]
  | .new t cs x => [((execOp (evr A fr) o).run P w, .ok (.value ((mkS x 0).r [w.heap.size])) (w.alloc (.cells (cs.map (SV.r A)).toArray t)))]
  | _ => []
def wfS (n : Nat) : SV → Bool
 | .v _ => true
 | .p k _ => Nat.ble (k + 1) n
 | .s k _ _ _ => Nat.ble (k + 1) n
 | .a _ ks => ks.all fun k => match k with | some k => Nat.ble (k + 1) n | none => true
 | .f _ _ ks => ks.all fun k => match k with | some k => Nat.ble (k + 1) n | none => true
def wfL (n : Nat) : List SV → Bool
 | [] => true
 | x :: l => match wfS n x with | true => wfL n l | false => false
def wfB (n : Nat) : List Box → Bool
 | [] => true
 | b :: l => match wfL n b.cs with | true => wfB n l | false => false
def aft (bx : List Box) (fr : List SV) (d : Option Tmp) : Eff → Option (List SV × List Box)
 | .val x => some (putO fr d x, bx)
 | .new t cs x => match wfL bx.length fr && wfL bx.length cs && wfB bx.length bx with
  | true => some (putO fr d (mkS x bx.length), bx ++ [⟨t, cs, false⟩])
  | false => none
 | .st k cs => some (putO fr d (.v undef), setL bx k ⟨(lk bx0 bx k).t, cs, false⟩)
 | .stop => none
def n0t {α : Type} : List (α × α) → Prop
 | [] => True
 | x :: l => x.1 = x.2 ∧ n0t l
theorem g0a {α : Type} : ∀ {l : List (α × α)}, l.map (·.1) = l.map (·.2) → n0t l
 | [], _ => True.intro
 | _ :: _, h => by
  simp only [List.map_cons, List.cons.injEq] at h
  exact ⟨h.1, g0a h.2⟩
theorem d0s {α : Type} : ∀ {l m : List (α × α)}, n0t (l ++ m) → n0t l ∧ n0t m
 | [], _, h => ⟨True.intro, h⟩
 | _ :: _, _, h => ⟨⟨h.1, (d0s h.2).1⟩, (d0s h.2).2⟩
section
variable {P : Program} {E : List Nat} {w0 : World} {A : List Nat} {bx : List Box} {fs : List PF} {W : World} {fr : List SV} {o : Oper}
theorem h0k {a b : Nat} (h : Nat.ble a b = true) : a ≤ b := Nat.le_of_ble_eq_true h
theorem m1s (I : BtOk A bx W) {ty : TypeId} {k off : Nat} {x : SV} (h : ldB P bx ty k off = some x) : (Instr.loadAt ty (.pointer (some ⟨lk 0 A k, off, none⟩))).run P W = .ok (x.r A) W := by
 unfold ldB at h
 split at h
 · cases h
 · rename_i hk
   have hb := I k (h0k hk)
   generalize lk bx0 bx k = b at *
   split at h
   · rename_i hr
     split at h
     · rename_i n hn
       split at h
       · rename_i hl
         simp only [Option.some.injEq] at h
         subst h
         simp only [Bool.and_eq_true] at hl
         obtain ⟨hl, h1, h2⟩ := hl
         have hb := hb (h0k h1)
         have hl := Nat.eq_of_beq_eq_true hl
         have hT : m0p P ty n := ⟨by
           unfold rowT at hr
           cases hu : P.underlying ty with
           | none => rw [hu] at hr; cases hr
           | some d => rw [hu] at hr; exact ⟨d, rfl, by simpa using hr⟩, hn⟩
         rw [t1x A h2]
         refine m1n hb hT off (((b.cs.drop off).take n).map (SV.r A)) ?_ (by rw [List.length_map, hl])
         rw [List.length_map, hl]
         show List.take n (List.drop off (b.cs.map (SV.r A))) = _
         rw [← List.map_drop, ← List.map_take]
       · cases h
     · cases h
   · rename_i hr
     split at h
     · rename_i hn
       split at h
       · rename_i ho
         simp only [Option.some.injEq] at h
         subst h
         have ho := h0k ho
         have hb := hb (by omega)
         have hT : k0k P ty := ⟨by
           unfold rowT at hr
           cases hu : P.underlying ty with
           | none => rw [hu] at hr; cases hr
           | some d => rw [hu] at hr; exact ⟨d, rfl, by simpa using hr⟩, hn⟩
         refine d1l hb hT off _ ?_
         unfold Box.row
         rw [d0e]
         simp only [List.getElem?_toArray, List.getElem?_map]
         rw [List.getElem?_eq_getElem (by omega)]
         rfl
       · cases h
     · cases h
   · cases h
theorem r0m (I : BtOk A bx W) {x : SV} (he : eff P bx fr o = .val x) (hc : n0t (n0s P bx fr o A W)) : (execOp (act A fr).eval o).run P W = .ok (.value (x.r A)) W := by
 rw [b0j]
 unfold n0s at hc
 rw [he] at hc
 unfold eff at he
 cases hop : o.op <;> simp only [hop] at he hc <;> first | exact hc.1 | skip
 · simp only [Eff.val.injEq] at he
   subst he
   unfold execOp
   simp only [hop]
   rfl
 · simp only [Eff.val.injEq] at he
   subst he
   unfold execOp
   simp only [hop]
   rfl
 · rename_i c a b
   have hpk : ∀ t, evr A fr c = .bool t → (execOp (evr A fr) o).run P W = .ok (.value (if t then evr A fr a else evr A fr b)) W := fun t ht => by
    unfold execOp
    simp only [hop, ht]
    cases t <;> rfl
   split at he
   · rename_i h
     simp only [Eff.val.injEq] at he
     subst he
     exact hpk true (by unfold evr; rw [h]; rfl)
   · rename_i h
     simp only [Eff.val.injEq] at he
     subst he
     exact hpk false (by unfold evr; rw [h]; rfl)
   · cases he
 · rename_i ty x
   split at he
   · rename_i k off h
     split at he
     · rename_i v hv
       simp only [Eff.val.injEq] at he
       subst he
       have := m1s I hv
       have hx : evr A fr x = .pointer (some ⟨lk 0 A k, off, none⟩) := by unfold evr; rw [h]; rfl
       unfold execOp
       simp only [hop, hx, Sem.run_bind, this, Result.andThen_ok, Sem.run_pure]
     · cases he
   · cases he
 · repeat' split at he
   all_goals cases he
theorem i1s {A B : List Nat} {k : Nat} (h : lk 0 A k = lk 0 B k) (v : Value) : n0r A (some k) v = n0r B (some k) v := by
 cases v with
 | pointer p => cases p with
  | none => rfl
  | some a => show Value.pointer (some ⟨lk 0 A k, a.off, none⟩) = .pointer (some ⟨lk 0 B k, a.off, none⟩); rw [h]
 | slice p n c => cases p with
  | none => rfl
  | some a => show Value.slice (some ⟨lk 0 A k, a.off, none⟩) n c = .slice (some ⟨lk 0 B k, a.off, none⟩) n c; rw [h]
 | _ => rfl
theorem u1c {n : Nat} {x : SV} (h : wfS n x = true) (B : List Nat) (hA : A.length = n) : x.r (A ++ B) = x.r A := by
 have hl : ∀ k, k < n → lk 0 (A ++ B) k = lk 0 A k := fun k hk => by
  rw [d0e, d0e, List.getElem?_append_left (by omega)]
 have : ∀ (ks : List (Option Nat)) (cs : List Value), (ks.all fun k => match k with | some k => Nat.ble (k + 1) n | none => true) = true → e0u (A ++ B) cs ks = e0u A cs ks := fun ks => by
  induction ks with
  | nil => intro cs _; cases cs <;> rfl
  | cons k ks ih =>
   intro cs h
   simp only [List.all_cons, Bool.and_eq_true] at h
   cases cs with
   | nil => rfl
   | cons v cs =>
    have hp : n0r (A ++ B) k v = n0r A k v := by
     cases k with
     | none => rfl
     | some k => exact i1s (hl k (h0k h.1)) v
    unfold e0u
    rw [hp, ih cs h.2]
 cases x with
 | v x => rfl
 | p k off => unfold SV.r; simp only [hl k (h0k h)]
 | s k off n c => unfold SV.r; simp only [hl k (h0k h)]
 | a cs ks =>
  show Value.agg (e0u (A ++ B) cs ks).toArray = .agg (e0u A cs ks).toArray
  rw [this ks cs h]
 | f fn cs ks =>
  show Value.func fn #[] (e0u (A ++ B) cs ks).toArray = .func fn #[] (e0u A cs ks).toArray
  rw [this ks cs h]
theorem p0j {n : Nat} (B : List Nat) (hA : A.length = n) : ∀ {l : List SV}, wfL n l = true → l.map (SV.r (A ++ B)) = l.map (SV.r A)
 | [], _ => rfl
 | x :: l, h => by
  unfold wfL at h
  split at h
  · rename_i hx
    rw [List.map_cons, List.map_cons, u1c hx B hA, p0j B hA h]
  · cases h
theorem n0u {n : Nat} : ∀ {l : List Box}, wfB n l = true → ∀ k, wfL n (lk bx0 l k).cs = true
 | [], _, _ => rfl
 | b :: l, h, k => by
  unfold wfB at h
  split at h
  · rename_i hb
    cases k with
    | zero => exact hb
    | succ k => exact n0u h k
  · cases h
theorem d0l {α : Type} (d : α) {l m : List α} {k : Nat} (h : k < l.length) : lk d (l ++ m) k = lk d l k := by
 rw [d0e, d0e, List.getElem?_append_left h]
theorem d0t {α : Type} (d : α) {l : List α} {a : α} : lk d (l ++ [a]) l.length = a := by
 rw [d0e]; simp
theorem Inv.lay (I : Inv E w0 A bx fs W) (t : TypeId) (cs : List SV) (h1 : wfL bx.length cs = true) (h2 : wfB bx.length bx = true) :
 Inv E w0 (A ++ [W.heap.size]) (bx ++ [⟨t, cs, false⟩]) fs (W.alloc (.cells (cs.map (SV.r A)).toArray t)) := by
 have hb : Below W.heap.size W (W.alloc (.cells (cs.map (SV.r A)).toArray t)) := c0y _ _
 have I' := I.past hb
 have hl : ∀ k, k < bx.length → lk 0 (A ++ [W.heap.size]) k = lk 0 A k ∧ lk bx0 (bx ++ [⟨t, cs, false⟩]) k = lk bx0 bx k := fun k h => ⟨d0l 0 (by rw [I.len]; exact h), d0l bx0 h⟩
 have hn : lk 0 (A ++ [W.heap.size]) bx.length = W.heap.size ∧ lk bx0 (bx ++ [⟨t, cs, false⟩]) bx.length = ⟨t, cs, false⟩ := ⟨by rw [← I.len, d0t], d0t _⟩
 have hF : ∀ a, Fa (A ++ [W.heap.size]) (bx ++ [⟨t, cs, false⟩]) a → Fa A bx a ∨ a = W.heap.size := fun a ⟨k, hk, hr, e⟩ => by
  rw [List.length_append, List.length_singleton] at hk
  by_cases h : k < bx.length
  · rw [(hl k h).2] at hr
    rw [(hl k h).1] at e
    exact .inl ⟨k, h, hr, e⟩
  · obtain rfl : k = bx.length := by omega
    exact .inr (e.trans hn.1)
 refine ⟨I'.bel, fun a ha => ?_, fun i j hi hj hr hne => ?_, by simp [I.len], I.pre.trans (List.prefix_append _ _), fun k hk => ?_, I'.fa, fun a ha => ?_⟩
 · rcases hF a ha with h | rfl
   · exact I.ge a h
   · exact .inl I.bel.size
 · rw [List.length_append, List.length_singleton] at hi hj
   by_cases h : i < bx.length
   · rw [(hl i h).2] at hr
     by_cases h' : j < bx.length
     · rw [(hl i h).1, (hl j h').1]
       exact I.nd i j h h' hr hne
     · obtain rfl : j = bx.length := by omega
       rw [(hl i h).1, hn.1]
       have := (I.bt i h).lt
       omega
   · obtain rfl : i = bx.length := by omega
     have h' : j < bx.length := by omega
     rw [(hl j h').1, hn.1]
     have := (I.bt j h').lt
     omega
 · rw [List.length_append, List.length_singleton] at hk
   by_cases h : k < bx.length
   · rw [(hl k h).1, (hl k h).2]
     have := I'.bt k h
     unfold Box.row at this ⊢
     rw [p0j _ I.len (n0u h2 k)]
     exact this
   · obtain rfl : k = bx.length := by omega
     rw [hn.1, hn.2]
     unfold Box.row
     simp only
     rw [p0j _ I.len h1]
     exact m1m _ _ _
 · rcases hF a ha with h | rfl
   · exact I.far a h
   · exact PF.far_new I.fa
theorem Inv.put (I : Inv E w0 A bx fs W) {k : Nat} (hk : k < bx.length) (hr : (lk bx0 bx k).ro = false) {cs : List SV} {W' : World} (hO : Kp [lk 0 A k] W W') (hB : Bt W' (lk 0 A k) (lk bx0 bx k).t (cs.map (SV.r A)).toArray) :
 Inv E w0 A (setL bx k ⟨(lk bx0 bx k).t, cs, false⟩) fs W' := by
 have hF : Fa A bx (lk 0 A k) := ⟨k, hk, hr, rfl⟩
 have hl : ∀ j, j < bx.length → (lk bx0 (setL bx k ⟨(lk bx0 bx k).t, cs, false⟩) j).ro = (lk bx0 bx j).ro := fun j hj => by
  by_cases h : j = k
  · subst h
    rw [d0e bx0 (setL _ _ _), d0a, List.getElem?_set_self hj, hr]
    rfl
  · rw [d0e bx0 (setL _ _ _), d0a, List.getElem?_set_ne (Ne.symm h), ← d0e]
 have hn : (setL bx k ⟨(lk bx0 bx k).t, cs, false⟩).length = bx.length := by rw [d0a, List.length_set]
 have hFa : ∀ a, Fa A (setL bx k ⟨(lk bx0 bx k).t, cs, false⟩) a → Fa A bx a := fun a ⟨j, hj, hr, e⟩ => by
  rw [hn] at hj
  rw [hl j hj] at hr
  exact ⟨j, hj, hr, e⟩
 refine ⟨⟨hO.os.trans I.bel.os, hO.tape.trans I.bel.tape, hO.output.trans I.bel.output, Nat.le_trans I.bel.size hO.size, fun b hb hE => ?_⟩, fun a ha => I.ge a (hFa a ha), fun i j hi hj hr hne => ?_, by rw [hn]; exact I.len, I.pre, fun j hj => ?_, PF.all_keep hO.size I.fa fun b hb ha => hO.block b hb (by
   rw [List.mem_singleton]
   exact Ne.symm (ha _ (I.far _ hF))), fun a ha => I.far a (hFa a ha)⟩
 · rw [hO.block b (Nat.lt_of_lt_of_le hb I.bel.size) (by
     rw [List.mem_singleton]
     intro e
     subst e
     rcases I.ge _ hF with h | h
     · omega
     · exact hE h)]
   exact I.bel.block b hb hE
 · rw [hn] at hi hj
   rw [hl i hi] at hr
   exact I.nd i j hi hj hr hne
 · rw [hn] at hj
   by_cases h : j = k
   · subst h
     rw [d0e bx0 (setL _ _ _), d0a, List.getElem?_set_self hj]
     exact hB
   · rw [d0e bx0 (setL _ _ _), d0a, List.getElem?_set_ne (Ne.symm h), ← d0e]
     have hb := I.bt j hj
     exact hb.same (hO.block _ hb.lt (by
       rw [List.mem_singleton]
       exact (I.nd k j hk hj hr (Ne.symm h)).symm))
theorem Only.kp {a : Nat} {w w' : World} (h : Only a w w') : Kp [a] w w' := ⟨h.os, h.tape, h.output, by rw [h.size]; exact Nat.le_refl _, fun k _ hk => h.block k (by simpa using hk)⟩
theorem y0m (A : List Nat) : ∀ (l : List SV) (cs : List SV) (off : Nat), ((putC cs off l).map (SV.r A)).toArray = putL (cs.map (SV.r A)).toArray off (l.map (SV.r A))
 | [], _, _ => rfl
 | x :: l, cs, off => by
  unfold putC
  rw [y0m A l, List.map_cons]
  show _ = putL ((cs.map (SV.r A)).toArray.setIfInBounds off (x.r A)) (off + 1) (l.map (SV.r A))
  congr 1
  rw [d0a, List.map_set]
  simp
variable {ops : Array Oper} {Q : Exit → Act → World → Prop} {K : Act → World → Prop}
theorem u1d (I : Inv E w0 A bx fs W) (hw : wnt ops fr o = true) {ty : TypeId} {x y : Operand} {k off : Nat} {cs : List SV} (ho : o.op = .store ty x y) (hx : ev fr x = .p k off) (h : stB P bx ty k off (ev fr y) = some cs)
 (hk : ∀ W', Inv E w0 A (setL bx k ⟨(lk bx0 bx k).t, cs, false⟩) fs W' → K (act A (putO fr o.dst (.v undef))) W') : OpW P ops Q o K (act A fr) W := by
 have hw' : Region.wanted o (yielded ops (act A fr).tmps) = true := by rw [d0k]; exact hw
 have hx' : (act A fr).eval x = .pointer (some ⟨lk 0 A k, off, none⟩) := by rw [b0j]; unfold evr; rw [hx]; rfl
 have hp : ∀ W', Inv E w0 A (setL bx k ⟨(lk bx0 bx k).t, cs, false⟩) fs W' → K ((act A fr).put o.dst undef) W' := fun W' h => by
  rw [show undef = (SV.v undef).r A from rfl, c0a]
  exact hk W' h
 unfold stB at h
 split at h
 · cases h
 · rename_i hkb
   have hkb := h0k hkb
   have hb := I.bt k hkb
   have put := fun hr {W' cs} (h : Only _ _ _) => I.put (k := k) hkb hr (cs := cs) (W' := W') h.kp
   generalize lk bx0 bx k = b at *
   split at h
   · cases h
   rename_i hro
   replace put := fun {W' cs} => put hro (W' := W') (cs := cs)
   split at h
   · rename_i hr
     split at h
     · rename_i l hy
       split at h
       · rename_i n hn
         split at h
         · rename_i hc
           simp only [Bool.and_eq_true] at hc
           obtain ⟨⟨c1, c2⟩, c3⟩ := hc
           simp only [Option.some.injEq] at h
           subst h
           have hT : m0p P ty n := ⟨by
             unfold rowT at hr
             cases hu : P.underlying ty with
             | none => rw [hu] at hr; cases hr
             | some d => rw [hu] at hr; exact ⟨d, rfl, by simpa using hr⟩, hn⟩
           refine m1o o.dst rfl hb hT off (l.map (SV.r A)).toArray _ hw' ho hx' (by rw [b0j]; exact i1r A hy) (by simpa using Nat.eq_of_beq_eq_true c1) (by unfold Box.row; simpa using c2) ?_ rfl fun W' hO hB => hp W' (put hO ?_)
           · rw [List.all_toArray, List.all_map]
             rw [List.all_eq_true] at c3 ⊢
             exact fun x hx => p0y A (c3 x hx)
           · rw [y0m]
             exact hB
         · cases h
       · cases h
     · cases h
   · rename_i hr
     split at h
     · rename_i hn
       split at h
       · cases h
       · cases h
       · rename_i x' hna hna2
         split at h
         · rename_i hc
           simp only [Bool.and_eq_true] at hc
           obtain ⟨c2, c3⟩ := hc
           simp only [Option.some.injEq] at h
           subst h
           have hT : k0k P ty := ⟨by
             unfold rowT at hr
             cases hu : P.underlying ty with
             | none => rw [hu] at hr; cases hr
             | some d => rw [hu] at hr; exact ⟨d, rfl, by simpa using hr⟩, hn⟩
           have h1 : ((ev fr y).r A).cells = #[(ev fr y).r A] := by
            cases hv : ev fr y with
            | v z => cases z with
             | agg cs => exact absurd hv (hna cs)
             | _ => rfl
            | p k off => rfl
            | s k off n c => rfl
            | a cs ks => exact absurd hv (hna2 cs ks)
            | f fn cs ks => rfl
           have h5 : ((ev fr y).r A).oneCell' = true := p0y A c3
           refine o1j o.dst rfl hb hT off ((ev fr y).r A) _ hw' ho hx' (by rw [b0j]; rfl) (by unfold Box.row; simpa using c2) h1 h5 rfl fun W' hO hB => hp W' (put hO ?_)
           have e : ((setL b.cs off (ev fr y)).map (SV.r A)).toArray = (b.row A).setIfInBounds off ((ev fr y).r A) := by
            unfold Box.row
            rw [d0a, List.map_set]
            simp
           rw [e]
           exact hB
         · cases h
     · cases h
   · cases h
theorem m1t (I : Inv E w0 A bx fs W) (hw : wnt ops fr o = true) (hc : n0t (n0s P bx fr o A W)) {fr' : List SV} {bx' : List Box} (ha : aft bx fr o.dst (eff P bx fr o) = some (fr', bx'))
 (hk : ∀ A' W', A <+: A' → Inv E w0 A' bx' fs W' → K (act A' fr') W') : OpW P ops Q o K (act A fr) W := by
 have hw' : Region.wanted o (yielded ops (act A fr).tmps) = true := by rw [d0k]; exact hw
 cases he : eff P bx fr o with
 | stop => rw [he] at ha; cases ha
 | val x =>
  rw [he] at ha
  simp only [aft, Option.some.injEq, Prod.mk.injEq] at ha
  obtain ⟨rfl, rfl⟩ := ha
  refine n0p o.dst rfl (x.r A) hw' (r0m I.ok he hc) ?_
  rw [c0a]
  exact hk A W (List.prefix_refl _) I
 | new t cs n =>
  rw [he] at ha
  unfold aft at ha
  simp only at ha
  split at ha
  · rename_i hc2
    simp only [Bool.and_eq_true] at hc2
    obtain ⟨⟨c1, c2⟩, c3⟩ := hc2
    simp only [Option.some.injEq, Prod.mk.injEq] at ha
    obtain ⟨rfl, rfl⟩ := ha
    have hr : (execOp (evr A fr) o).run P W = .ok (.value ((mkS n 0).r [W.heap.size])) (W.alloc (.cells (cs.map (SV.r A)).toArray t)) := by
     unfold n0s at hc
     rw [he] at hc
     unfold eff at he
     cases hop : o.op <;> simp only [hop] at he hc <;> first | exact hc.1 | skip
     all_goals (repeat' split at he) <;> cases he
    have L := I.lay t cs c2 c3
    have e1 : act (A ++ [W.heap.size]) (putO fr o.dst (mkS n bx.length)) = (act A fr).put o.dst ((mkS n 0).r [W.heap.size]) := by
     have e2 : (mkS n 0).r [W.heap.size] = (mkS n bx.length).r (A ++ [W.heap.size]) := by
      have : lk 0 (A ++ [W.heap.size]) bx.length = W.heap.size := by rw [← I.len, d0t]
      cases n with
      | none => show Value.pointer (some ⟨W.heap.size, 0, none⟩) = .pointer (some ⟨lk 0 (A ++ [W.heap.size]) bx.length, 0, none⟩); rw [this]
      | some n => show Value.slice (some ⟨W.heap.size, 0, none⟩) n n = .slice (some ⟨lk 0 (A ++ [W.heap.size]) bx.length, 0, none⟩) n n; rw [this]
     have e3 : act A fr = act (A ++ [W.heap.size]) fr := by unfold act; rw [p0j _ I.len c1]
     rw [e2, e3, c0a]
    refine ⟨?_⟩
    rw [if_pos hw']
    unfold Oper.wp
    rw [b0j, hr]
    show K ((act A fr).put o.dst ((mkS n 0).r [W.heap.size])) _
    rw [← e1]
    exact hk _ _ (List.prefix_append _ _) L
  · cases ha
 | st k cs =>
  have he0 := he
  rw [he] at ha
  simp only [aft, Option.some.injEq, Prod.mk.injEq] at ha
  obtain ⟨rfl, rfl⟩ := ha
  unfold eff at he
  cases hop : o.op <;> simp only [hop] at he
  case store ty x y =>
   split at he
   · rename_i k' off hx
     split at he
     · rename_i cs' hs
       simp only [Eff.st.injEq] at he
       obtain ⟨rfl, rfl⟩ := he
       exact u1d I hw hop hx hs fun W' I' => hk A W' (List.prefix_refl _) I'
     · cases he
   · cases he
  all_goals (repeat' split at he) <;> cases he
end
inductive Kt where
 | code (c : Code)
 | block (id : Nat)
 | stop (J : Act → World → Prop)
def post (P : Program) (Q : Exit → Act → World → Prop) : List Kt → Exit → Act → World → Prop
 | [] => Q
 | .code c :: ks => Exit.then (fun a w => c.wp P (post P Q ks) a w) (post P Q ks)
 | .block id :: ks => Exit.inBlock id (post P Q ks)
 | .stop J :: ks => Exit.then J (post P Q ks)
inductive Rg where
 | off
 | pl (ops : Array Oper) (l : List Oper)
 | dr (ops : Array Oper) (A0 : List Nat) (m : List (Option Box)) (fuel : Nat) (listed : Array Bool)
 | one (ops : Array Oper) (A0 : List Nat) (m : List (Option Box)) (fuel : Nat) (listed : Array Bool) (i : Nat)
 | ret
structure Cfg where
 fr : List SV
 bx : List Box
 rg : Rg
 ks : List Kt
def unm : Option Box → Box
 | some b => b
 | none => bx0
def SB (A0 : List Nat) (m : List (Option Box)) (w : World) : Prop := BtOk A0 (m.map unm) w
structure PreD (A0 : List Nat) (m : List (Option Box)) (A : List Nat) : Prop where
 pre : A0 <+: A
 le : m.length ≤ A0.length
 wf : wfB A0.length (m.map unm) = true
theorem PreD.on {A0 A A' : List Nat} {m : List (Option Box)} (h : PreD A0 m A) (k : A <+: A') : PreD A0 m A' := ⟨h.pre.trans k, h.le, h.wf⟩
def m1u (P : Program) (Q : Exit → Act → World → Prop) (A : List Nat) (c : Cfg) (W : World) : Prop :=
 match c.rg with
 | .off => post P Q c.ks .normal (act A c.fr) W
 | .pl ops l => WpL P ops (post P Q c.ks) l (act A c.fr) W
 | .dr ops A0 m fuel listed => PreD A0 m A → WpH P ops (post P Q c.ks) (SB A0 m) fuel listed (act A c.fr) W
 | .one ops A0 m fuel listed i => PreD A0 m A → ∃ o, ops[i]? = some o ∧ ∀ K : Act → World → Prop, Shut (∀ a w, SB A0 m w → WpH P ops (post P Q c.ks) (SB A0 m) fuel (listed.setIfInBounds i true) a w → K a w) → OpW P ops (post P Q c.ks) o K (act A c.fr) W
 | .ret => post P Q c.ks .ret (act A c.fr) W
structure G (P : Program) (Q : Exit → Act → World → Prop) (A : List Nat) (c : Cfg) (W : World) : Prop where
 out : m1u P Q A c W
def a1o (id : Nat) : List Kt → Option (List Kt)
 | [] => none
 | .code _ :: ks => a1o id ks
 | .block j :: ks => match Nat.beq id j with | true => some ks | false => a1o id ks
 | .stop _ :: ks => a1o id ks
theorem i0k {P : Program} {Q : Exit → Act → World → Prop} {id : Nat} {a : Act} {w : World} : ∀ {ks ks' : List Kt}, a1o id ks = some ks' → post P Q ks' .normal a w → post P Q ks (.exit id) a w
 | [], _, h, _ => by cases h
 | .code _ :: ks, _, h, k => i0k (ks := ks) h k
 | .stop _ :: ks, _, h, k => i0k (ks := ks) h k
 | .block j :: ks, ks', h, k => by
  unfold a1o at h
  show Exit.inBlock j (post P Q ks) (.exit id) a w
  unfold Exit.inBlock
  split at h
  · rename_i hj
    simp only [Option.some.injEq] at h
    subst h
    simp only
    rw [if_pos (Nat.eq_of_beq_eq_true hj)]
    exact k
  · rename_i hj
    simp only
    rw [if_neg (fun e => by subst e; simp at hj)]
    exact i0k h k
def u1e (d : Option Nat) (o : Oper) : Bool :=
 match d with
 | none => true
 | some d => match o.dst with
  | some x => match Nat.beq d x with | true => false | false => true
  | none => true
def noAt (d : Option Nat) (n : Nat) : Bool :=
 match d with
 | none => true
 | some d => match Nat.beq d n with | true => false | false => true
def u1f (d : Option Nat) : Operand → Bool
 | .tmp t => noAt d (2000000 + t)
 | _ => true
def t0u (P : Program) (d : Option Nat) (c : Cfg) : Option Cfg :=
 match c.rg with
 | .pl _ [] => some ⟨c.fr, c.bx, .off, c.ks⟩
 | .pl ops (o :: l) => match wnt ops c.fr o with
  | false => some ⟨putO c.fr o.dst (.v undef), c.bx, .pl ops l, c.ks⟩
  | true => match u1e d o with
   | true => match aft c.bx c.fr o.dst (eff P c.bx c.fr o) with
    | some (fr, bx) => some ⟨fr, bx, .pl ops l, c.ks⟩
    | none => none
   | false => none
 | .off => match c.ks with
  | .code x :: ks => match x with
   | .skip => some ⟨c.fr, c.bx, .off, ks⟩
   | .label _ => some ⟨c.fr, c.bx, .off, ks⟩
   | .seq a b => some ⟨c.fr, c.bx, .off, .code a :: .code b :: ks⟩
   | .cond x a b => match u1f d x with
    | true => match ev c.fr x with
     | .v (.bool true) => some ⟨c.fr, c.bx, .off, .code a :: ks⟩
     | .v (.bool false) => some ⟨c.fr, c.bx, .off, .code b :: ks⟩
     | _ => none
    | false => none
   | .block id b => match noAt d (1000000 + id) with
    | true => some ⟨c.fr, c.bx, .off, .code b :: .block id :: ks⟩
    | false => none
   | .region id ops false => match noAt d (3000000 + id) with
    | true => some ⟨c.fr, c.bx, .pl ops ops.toList, ks⟩
    | false => none
   | .exit id => match a1o id ks with | some ks => some ⟨c.fr, c.bx, .off, ks⟩ | none => none
   | .ret => some ⟨c.fr, c.bx, .ret, ks⟩
   | _ => none
  | .block _ :: ks => some ⟨c.fr, c.bx, .off, ks⟩
  | _ => none
 | .dr ops _ _ _ listed => match Region.ready .any ops listed with
  | [] => some ⟨c.fr, c.bx, .off, c.ks⟩
  | _ => none
 | _ => none
def o1o (P : Program) (c : Cfg) (A : List Nat) (w : World) : List (Result Next × Result Next) :=
 match c.rg with
 | .pl ops (o :: _) => match wnt ops c.fr o with
  | false => []
  | true => n0s P c.bx c.fr o A w
 | _ => []
section
variable {P : Program} {Q : Exit → Act → World → Prop} {E : List Nat} {w0 : World} {A : List Nat} {fs : List PF} {W : World} {c c' : Cfg} {d : Option Nat}
theorem a1p {id : Nat} {ops : Array Oper} {Q : Exit → Act → World → Prop} {a : Act} {w : World} (h : WpL P ops Q ops.toList a w) : (Code.region id ops false).wp P Q a w := by
 cases ops
 exact n0o h
theorem w0l (I : Inv E w0 A c.bx fs W) (hs : t0u P d c = some c') (hc : n0t (o1o P c A W))
 (h : ∀ A' W', A <+: A' → Inv E w0 A' c'.bx fs W' → G P Q A' c' W') : G P Q A c W := by
 refine ⟨?_⟩
 obtain ⟨fr, bx, rg, ks⟩ := c
 have h0 := fun I => (h A W (List.prefix_refl _) I).out
 cases rg with
 | one => cases hs
 | ret => cases hs
 | dr ops A0 m fuel listed =>
  unfold t0u at hs
  simp only at hs
  split at hs
  · rename_i hr
    simp only [Option.some.injEq] at hs
    subst hs
    intro _
    exact o1k hr (h0 I)
  · cases hs
 | pl ops l =>
  cases l with
  | nil =>
   simp only [t0u, Option.some.injEq] at hs
   subst hs
   exact r1s (h0 I)
  | cons o l =>
   unfold t0u at hs
   unfold o1o at hc
   simp only at hs hc
   split at hs
   · rename_i hw
     simp only [Option.some.injEq] at hs
     subst hs
     refine e0t (o1h o.dst rfl (by rw [d0k]; exact hw) ?_)
     rw [show undef = (SV.v undef).r A from rfl, c0a]
     exact h0 I
   · rename_i hw
     rw [hw] at hc
     split at hs
     · split at hs
       · rename_i fr' bx' ha
         simp only [Option.some.injEq] at hs
         subst hs
         exact e0t (m1t I hw hc ha fun A' W' hA I' => (h A' W' hA I').out)
       · cases hs
     · cases hs
 | off =>
  unfold t0u at hs
  simp only at hs
  split at hs
  · rename_i x ks
    split at hs
    · simp only [Option.some.injEq] at hs
      subst hs
      exact wp_skip (h0 I)
    · simp only [Option.some.injEq] at hs
      subst hs
      exact wp_label (h0 I)
    · simp only [Option.some.injEq] at hs
      subst hs
      exact wp_seq (h0 I)
    · rename_i x a b
      split at hs
      · split at hs
        · rename_i hx
          simp only [Option.some.injEq] at hs
          subst hs
          exact wp_cond_true (by rw [b0j]; unfold evr; rw [hx]; rfl) (h0 I)
        · rename_i hx
          simp only [Option.some.injEq] at hs
          subst hs
          exact wp_cond_false (by rw [b0j]; unfold evr; rw [hx]; rfl) (h0 I)
        · cases hs
      · cases hs
    · split at hs
      · simp only [Option.some.injEq] at hs
        subst hs
        exact wp_block (h0 I)
      · cases hs
    · split at hs
      · simp only [Option.some.injEq] at hs
        subst hs
        exact a1p (h0 I)
      · cases hs
    · split at hs
      · rename_i ks' hk
        simp only [Option.some.injEq] at hs
        subst hs
        exact wp_exit (i0k hk (h0 I))
      · cases hs
    · simp only [Option.some.injEq] at hs
      subst hs
      exact wp_ret (h0 I)
    · cases hs
  · simp only [Option.some.injEq] at hs
    subst hs
    exact h0 I
  · cases hs
def zrun (P : Program) (d : Option Nat) : Nat → Cfg → Cfg
 | 0, c => c
 | n + 1, c => match t0u P d c with
  | some c' => zrun P d n c'
  | none => c
def zms (P : Program) (d : Option Nat) : Nat → Cfg → List Nat → World → List (Result Next × Result Next)
 | 0, _, _, _ => []
 | n + 1, c, A, w => match t0u P d c with
  | some c' => o1o P c A w ++ zms P d n c' A w
  | none => []
theorem l0s : ∀ (n : Nat) {A : List Nat} {W : World} {c : Cfg}, Inv E w0 A c.bx fs W → (∀ A w, n0t (zms P d n c A w)) →
 (∀ A' W', A <+: A' → Inv E w0 A' (zrun P d n c).bx fs W' → G P Q A' (zrun P d n c) W') → G P Q A c W
 | 0, A, W, c, I, _, h => h A W (List.prefix_refl _) I
 | n + 1, A, W, c, I, hm, h => by
  unfold zms at hm
  unfold zrun at h
  cases hs : t0u P d c with
  | none => rw [hs] at h; exact h A W (List.prefix_refl _) I
  | some c' =>
   rw [hs] at h hm
   simp only at h hm
   exact w0l I hs (d0s (hm A W)).1 fun A' W' hA I' => l0s n I' (fun A w => (d0s (hm A w)).2) fun A'' W'' hA' I'' => h A'' W'' (hA.trans hA') I''
end
def rvK {α β : Type} : List α → List α → (List α → β) → β
 | [], r, k => k r
 | a :: l, r, k => rvK l (a :: r) k
def frc {α β : Type} : List α → List α → (List α → β) → β
 | [], r, k => rvK r [] k
 | a :: l, r, k => frc l (a :: r) k
theorem m1v {α β : Type} (k : List α → β) : ∀ (l r : List α), rvK l r k = k (l.reverse ++ r)
 | [], r => rfl
 | a :: l, r => by rw [rvK, m1v k l]; simp
theorem d1p {α β : Type} (k : List α → β) : ∀ (l r : List α), frc l r k = k (r.reverse ++ l)
 | [], r => by rw [frc, m1v]
 | a :: l, r => by rw [frc, d1p k l]; simp
def nrm (c : Cfg) : Cfg := frc c.fr [] fun fr => frc c.bx [] fun bx => ⟨fr, bx, c.rg, c.ks⟩
theorem d1q (c : Cfg) : nrm c = c := by unfold nrm; rw [d1p, d1p]; simp
def zr (P : Program) (d : Option Nat) (c : Cfg) : Cfg := nrm (zrun P d 5000 c)
theorem r1v (P : Program) (d : Option Nat) (c : Cfg) : zr P d c = zrun P d 5000 c := d1q _
def nxt : Rg → Option Oper
 | .pl _ (o :: _) => some o
 | .one ops _ _ _ _ i => ops[i]?
 | _ => none
def r0n : Rg → Array Oper
 | .pl ops _ => ops
 | .one ops _ _ _ _ _ => ops
 | _ => #[]
def rgN : Rg → Rg
 | .pl ops (_ :: l) => .pl ops l
 | .one ops A0 m fuel listed i => .dr ops A0 m fuel (listed.setIfInBounds i true)
 | r => r
def msk : List (Option Box) → List Box → List (Option Box)
 | some _ :: m, b :: bx => some b :: msk m bx
 | none :: m, _ :: bx => none :: msk m bx
 | _, _ => []
def ok1 : Rg → List Box → List (Option Box)
 | .one _ _ m _ _ _, bx => msk m bx
 | _, _ => []
def ok2 : Rg → List (Option Box)
 | .one _ _ m _ _ _ => m
 | _ => []
def putc (c : Cfg) (x : SV) : Cfg := ⟨match nxt c.rg with | some o => putO c.fr o.dst x | none => c.fr, c.bx, rgN c.rg, c.ks⟩
def h0n (P : Program) (c : Cfg) (A : List Nat) (w : World) : Option (Result Next) :=
 match nxt c.rg with
 | some o => match wnt (r0n c.rg) c.fr o with
  | true => some ((execOp (evr A c.fr) o).run P w)
  | false => none
 | none => none
def w0m (P : Program) (c : Cfg) : Option Eff :=
 match nxt c.rg with
 | some o => match wnt (r0n c.rg) c.fr o with
  | true => some (eff P c.bx c.fr o)
  | false => none
 | none => none
def f0p (P : Program) (c : Cfg) (A : List Nat) (w : World) : List (Result Next × Result Next) :=
 match nxt c.rg with
 | some o => n0s P c.bx c.fr o A w
 | none => []
def r1w (c : Cfg) (A : List Nat) : Option (BinOp × Value × Value) :=
 match nxt c.rg with
 | some o => match wnt (r0n c.rg) c.fr o with
  | true => match o.op with
   | .binOp b _ x y _ => some (b, evr A c.fr x, evr A c.fr y)
   | _ => none
  | false => none
 | none => none
section
variable {P : Program} {Q : Exit → Act → World → Prop} {E : List Nat} {w0 : World} {A : List Nat} {fs : List PF} {W : World} {c : Cfg} {o : Oper}
theorem w0n : ∀ {m : List (Option Box)} {bx : List Box}, msk m bx = m → ∀ k, k < m.length → 0 < (lk bx0 (m.map unm) k).cs.length → k < bx.length ∧ lk bx0 (m.map unm) k = lk bx0 bx k
 | [], _, _, _, h, _ => by simp at h
 | some b :: m, [], h, _, _, _ => by simp [msk] at h
 | none :: m, [], h, _, _, _ => by simp [msk] at h
 | some b :: m, b' :: bx, h, k, hk, hc => by
  simp only [msk, List.cons.injEq, Option.some.injEq] at h
  cases k with
  | zero => exact ⟨by simp, h.1.symm⟩
  | succ k =>
   have := w0n h.2 k (by simpa using hk) hc
   exact ⟨by simpa using this.1, this.2⟩
 | none :: m, b' :: bx, h, k, hk, hc => by
  simp only [msk, List.cons.injEq, true_and] at h
  cases k with
  | zero => simp [unm, lk, bx0] at hc
  | succ k =>
   have := w0n h k (by simpa using hk) hc
   exact ⟨by simpa using this.1, this.2⟩
theorem t0v {A A' : List Nat} (h : A <+: A') {k : Nat} (hk : k < A.length) : lk 0 A' k = lk 0 A k := by
 obtain ⟨B, rfl⟩ := h
 exact d0l 0 hk
theorem d1r {A A' : List Nat} (h : A <+: A') {l : List Box} (hw : wfB A.length l = true) (k : Nat) : (lk bx0 l k).row A' = (lk bx0 l k).row A := by
 obtain ⟨B, rfl⟩ := h
 unfold Box.row
 rw [p0j B rfl (n0u hw k)]
theorem a1q {bx : List Box} {A0 : List Nat} {m : List (Option Box)} (I : Inv E w0 A bx fs W) (h : PreD A0 m A) (hm : msk m bx = m) : SB A0 m W := fun k hk hc => by
 rw [List.length_map] at hk
 obtain ⟨k1, k2⟩ := w0n hm k hk hc
 have := I.bt k k1
 rw [← k2, t0v h.pre (by have := h.le; omega), d1r h.pre h.wf] at this
 exact this
theorem G_op (hn : nxt c.rg = some o)
 (h : ∀ K : Act → World → Prop, (∀ A' W' fr' bx', A <+: A' → Inv E w0 A' bx' fs W' → ok1 c.rg bx' = ok2 c.rg → G P Q A' ⟨fr', bx', rgN c.rg, c.ks⟩ W' → K (act A' fr') W') → OpW P (r0n c.rg) (post P Q c.ks) o K (act A c.fr) W) : G P Q A c W := by
 refine ⟨?_⟩
 obtain ⟨fr, bx, rg, ks⟩ := c
 cases rg with
 | off => cases hn
 | ret => cases hn
 | dr => cases hn
 | pl ops l =>
  cases l with
  | nil => cases hn
  | cons o' l =>
   simp only [nxt, Option.some.injEq] at hn
   subst hn
   exact d1k fun K hK => h K fun A' W' fr' bx' _ _ _ g => hK.out _ _ g.out
 | one ops A0 m fuel listed i =>
  intro pre
  exact ⟨o, hn, fun K hK => h K fun A' W' fr' bx' hA I' hm g => hK.out _ _ (a1q I' (pre.on hA) hm) (g.out (pre.on hA))⟩
theorem b0d {d : Option Nat} (I : Inv E w0 A c.bx fs W) (hr : ∀ A w, (zms P d 5000 c A w).map (·.1) = (zms P d 5000 c A w).map (·.2))
 (h : ∀ A W, Inv E w0 A (zr P d c).bx fs W → G P Q A (zr P d c) W) : G P Q A c W :=
 l0s 5000 I (fun A w => g0a (hr A w)) fun A' W' _ I' => by have := h A' W'; rw [r1v] at this; exact this I'
theorem m1w (I : Inv E w0 A c.bx fs W) {f : FuncId} {args : Array Value} {post : Ending → World → Prop} (hc : Calls P f args W post)
 (h : ∀ K : Value → World → Prop, (∀ v W', Below W.heap.size W W' → (Inv E w0 A (putc c (.v v)).bx fs W' → G P Q A (putc c (.v v)) W') → K v W') → ∀ e W', post e W' → ∃ v, e = .returned v ∧ K v W')
 (ho : h0n P c A W = some (.ok (.enter f args) W)) (hm : ok1 c.rg c.bx = ok2 c.rg) : G P Q A c W := by
 unfold h0n at ho
 split at ho
 · rename_i o hn
   split at ho
   · rename_i hw
     refine G_op (E := E) (w0 := w0) (fs := fs) hn fun K hK => h0t o.dst rfl f args (by rw [d0k]; exact hw) (by rw [b0j]; exact Option.some.inj ho) (hc.mono fun e W' hp => ?_)
     refine h (fun v W' => K ((act A c.fr).put o.dst v) W') (fun v W' hb hg => ?_) e W' hp
     have := hg (I.past hb)
     unfold putc at this
     rw [hn] at this
     have := hK A W' _ c.bx (List.prefix_refl _) (I.past hb) hm this
     rw [← c0a] at this
     exact this
   · cases ho
 · cases ho
theorem zg (I : Inv E w0 A c.bx fs W) {f : FuncId} {args : List Nat → World → Array Value} {post : List Nat → World → Ending → World → Prop}
 (hc : ∀ A W, Inv E w0 A (zr P none c).bx fs W → Calls P f (args A W) W (post A W))
 (h : ∀ A V, Inv E w0 A (zr P none c).bx fs V → w0.heap.size ≤ V.heap.size → (∀ v a, Fa A (putc (zr P none c) (.v v)).bx a → Fa A (zr P none c).bx a) → ∀ K : Value → World → Prop, (∀ v W, Below V.heap.size V W → (Inv E w0 A (putc (zr P none c) (.v v)).bx fs W → G P Q A (putc (zr P none c) (.v v)) W) → K v W) → ∀ e W, post A V e W → ∃ v, e = .returned v ∧ K v W)
 (ho : ∀ A w, h0n P (zr P none c) A w = some (.ok (.enter f (args A w)) w) := by intro _ _; kernel_rfl)
 (hr : ∀ A w, (zms P none 5000 c A w).map (·.1) = (zms P none 5000 c A w).map (·.2) := by intro _ _; kernel_rfl)
 (hm : ok1 (zr P none c).rg (zr P none c).bx = ok2 (zr P none c).rg := by kernel_rfl) : G P Q A c W :=
 b0d I hr fun A V I => m1w I (hc A V I) (h A V I I.bel.size fun _ _ h => h) (ho A V) hm
theorem zq (I : Inv E w0 A c.bx fs W) {f : FuncId} {args : List Nat → World → Array Value} {v : Value}
 (hc : ∀ A W, Inv E w0 A (zr P none c).bx fs W → Calls P f (args A W) W fun e w' => e = .returned v ∧ Below W.heap.size W w')
 (h : ∀ A W, Inv E w0 A (putc (zr P none c) (.v v)).bx fs W → G P Q A (putc (zr P none c) (.v v)) W)
 (ho : ∀ A w, h0n P (zr P none c) A w = some (.ok (.enter f (args A w)) w) := by intro _ _; kernel_rfl)
 (hr : ∀ A w, (zms P none 5000 c A w).map (·.1) = (zms P none 5000 c A w).map (·.2) := by intro _ _; kernel_rfl)
 (hm : ok1 (zr P none c).rg (zr P none c).bx = ok2 (zr P none c).rg := by kernel_rfl) : G P Q A c W :=
 zg I hc (fun A _ _ _ _ _ hK _ W hp => ⟨v, hp.1, hK v W hp.2 fun I => h A W I⟩) ho hr hm
theorem zqd (I : Inv E w0 A c.bx fs W) {f : FuncId} {args : List Nat → World → Array Value} {b d : Bool}
 (hc : ∀ A W, Inv E w0 A (zr P none c).bx fs W → Calls P f (args A W) W fun e w' => e = .returned (.bool b) ∧ Below W.heap.size W w') (e : b = d)
 (h : ∀ A W, Inv E w0 A (putc (zr P none c) (.v (.bool d))).bx fs W → G P Q A (putc (zr P none c) (.v (.bool d))) W)
 (ho : ∀ A w, h0n P (zr P none c) A w = some (.ok (.enter f (args A w)) w) := by intro _ _; kernel_rfl)
 (hr : ∀ A w, (zms P none 5000 c A w).map (·.1) = (zms P none 5000 c A w).map (·.2) := by intro _ _; kernel_rfl)
 (hm : ok1 (zr P none c).rg (zr P none c).bx = ok2 (zr P none c).rg := by kernel_rfl) : G P Q A c W :=
 by subst e; exact zq I hc h ho hr hm
def t0w (c : Cfg) (A : List Nat) : Option (Value × Array Value) :=
 match nxt c.rg with
 | some o => match wnt (r0n c.rg) c.fr o with
  | true => match o.op with
   | .call k => match k.callee with
    | .value x => some (evr A c.fr x, k.args.map (evr A c.fr))
    | _ => none
   | _ => none
  | false => none
 | none => none
theorem r0o {f : FuncId} {args : Array Value} (h : t0w c A = some (.func (.func f) #[] #[], args)) (hf : ∀ w, (callFunc f args).run P w = .ok (.enter f args) w) : h0n P c A W = some (.ok (.enter f args) W) := by
 unfold t0w at h
 unfold h0n
 split at h
 · rename_i o hn
   split at h
   · rename_i hw
     split at h
     · rename_i k hk
       split at h
       · rename_i x hx
         simp only [Option.some.injEq, Prod.mk.injEq] at h
         have := hf W
         unfold execOp
         simp only [hk]
         unfold resolve
         simp only [hx, h.1, h.2]
         simp [Deferred.ofValue, invoke, this]
       · cases h
     · cases h
   · cases h
 · cases h
theorem zgf (I : Inv E w0 A c.bx fs W) {f : FuncId} {args : List Nat → World → Array Value} {post : List Nat → World → Ending → World → Prop} (hf : ∀ args w, (callFunc f args).run P w = .ok (.enter f args) w)
 (hc : ∀ A W, Inv E w0 A (zr P none c).bx fs W → Calls P f (args A W) W (post A W))
 (h : ∀ A V, Inv E w0 A (zr P none c).bx fs V → w0.heap.size ≤ V.heap.size → (∀ v a, Fa A (putc (zr P none c) (.v v)).bx a → Fa A (zr P none c).bx a) → ∀ K : Value → World → Prop, (∀ v W, Below V.heap.size V W → (Inv E w0 A (putc (zr P none c) (.v v)).bx fs W → G P Q A (putc (zr P none c) (.v v)) W) → K v W) → ∀ e W, post A V e W → ∃ v, e = .returned v ∧ K v W)
 (ho : ∀ A w, t0w (zr P none c) A = some (.func (.func f) #[] #[], args A w) := by intro _ _; kernel_rfl)
 (hr : ∀ A w, (zms P none 5000 c A w).map (·.1) = (zms P none 5000 c A w).map (·.2) := by intro _ _; kernel_rfl)
 (hm : ok1 (zr P none c).rg (zr P none c).bx = ok2 (zr P none c).rg := by kernel_rfl) : G P Q A c W :=
 b0d I hr fun A V I => m1w I (hc A V I) (h A V I I.bel.size fun _ _ h => h) (r0o (ho A V) (hf _)) hm
def p0k (c : Cfg) (k : Nat) (cs : List SV) (x : SV) : Cfg := ⟨match nxt c.rg with | some o => putO c.fr o.dst x | none => c.fr, setL c.bx k ⟨(lk bx0 c.bx k).t, cs, false⟩, rgN c.rg, c.ks⟩
def wrOk (c : Cfg) (k : Nat) : Bool := Nat.ble (k + 1) c.bx.length && !(lk bx0 c.bx k).ro
theorem m1x (I : Inv E w0 A c.bx fs W) {f : FuncId} {args : Array Value} {post : Ending → World → Prop} (k : Nat) (hc : Calls P f args W post)
 (h : ∀ K : Value → World → Prop, (∀ v cs W', Kp [lk 0 A k] W W' → Bt W' (lk 0 A k) (lk bx0 c.bx k).t (cs.map (SV.r A)).toArray → (Inv E w0 A (p0k c k cs (.v v)).bx fs W' → G P Q A (p0k c k cs (.v v)) W') → K v W') → ∀ e W', post e W' → ∃ v, e = .returned v ∧ K v W')
 (ho : h0n P c A W = some (.ok (.enter f args) W)) (hm : ∀ cs, ok1 c.rg (setL c.bx k ⟨(lk bx0 c.bx k).t, cs, false⟩) = ok2 c.rg) (hk : wrOk c k = true) : G P Q A c W := by
 unfold wrOk at hk
 simp only [Bool.and_eq_true, Bool.not_eq_true'] at hk
 unfold h0n at ho
 split at ho
 · rename_i o hn
   split at ho
   · rename_i hw
     refine G_op (E := E) (w0 := w0) (fs := fs) hn fun K hK => h0t o.dst rfl f args (by rw [d0k]; exact hw) (by rw [b0j]; exact Option.some.inj ho) (hc.mono fun e W' hp => ?_)
     refine h (fun v W' => K ((act A c.fr).put o.dst v) W') (fun v cs W' hO hB hg => ?_) e W' hp
     have I2 := I.put (h0k hk.1) hk.2 hO hB
     have := hg I2
     unfold p0k at this
     rw [hn] at this
     have := hK A W' _ _ (List.prefix_refl _) I2 (hm cs) this
     rw [← c0a] at this
     exact this
   · cases ho
 · cases ho
theorem zge (I : Inv E w0 A c.bx fs W) (k : Nat) (t : TypeId) {f : FuncId} {args : List Nat → World → Array Value} {post : List Nat → World → Ending → World → Prop}
 (hc : ∀ A W, Inv E w0 A (zr P none c).bx fs W → Calls P f (args A W) W (post A W))
 (h : ∀ A V, Inv E w0 A (zr P none c).bx fs V → w0.heap.size ≤ V.heap.size → ∀ K : Value → World → Prop, (∀ v cs W, Kp [lk 0 A k] V W → Bt W (lk 0 A k) t (cs.map (SV.r A)).toArray → (Inv E w0 A (p0k (zr P none c) k cs (.v v)).bx fs W → G P Q A (p0k (zr P none c) k cs (.v v)) W) → K v W) → ∀ e W, post A V e W → ∃ v, e = .returned v ∧ K v W)
 (ho : ∀ A w, h0n P (zr P none c) A w = some (.ok (.enter f (args A w)) w) := by intro _ _; kernel_rfl)
 (hr : ∀ A w, (zms P none 5000 c A w).map (·.1) = (zms P none 5000 c A w).map (·.2) := by intro _ _; kernel_rfl)
 (hm : ∀ cs, ok1 (zr P none c).rg (setL (zr P none c).bx k ⟨(lk bx0 (zr P none c).bx k).t, cs, false⟩) = ok2 (zr P none c).rg := by intro _; kernel_rfl) (hk : wrOk (zr P none c) k = true := by kernel_rfl)
 (ht : (lk bx0 (zr P none c).bx k).t = t := by kernel_rfl) : G P Q A c W :=
 b0d I hr fun A V I => m1x I k (hc A V I) (by rw [ht]; exact h A V I I.bel.size) (ho A V) hm hk
def hdOp (c : Cfg) : Option Oper :=
 match nxt c.rg with
 | some o => match wnt (r0n c.rg) c.fr o with | true => some o | false => none
 | none => none
inductive VO where
 | ix (t : TypeId) (x i : Value)
 | ld (t : TypeId) (x : Value)
 | sl (t : TypeId) (x : Value) (lo hi mx : Option Value)
 | cv (s d : TypeId) (x : Value)
 | sx (t : TypeId) (x i : Value)
 | lk (t : TypeId) (x i : Value) (ok : Bool)
def VO.sem : VO → Sem Value
 | .ix t x i => Instr.indexAt t x i
 | .ld t x => Instr.loadAt t x
 | .sl t x lo hi mx => Instr.sliceAt t x lo hi mx
 | .cv s d x => convert s d x
 | .sx t x i => Instr.index t x i
 | .lk t x i ok => Instr.lookup t x i ok
def voOf (c : Cfg) (A : List Nat) : Option VO :=
 match hdOp c with
 | some o => match o.op with
  | .indexAddr t x i => some (.ix t (evr A c.fr x) (evr A c.fr i))
  | .load t x => some (.ld t (evr A c.fr x))
  | .slice t x lo hi mx => some (.sl t (evr A c.fr x) (lo.map (evr A c.fr)) (hi.map (evr A c.fr)) (mx.map (evr A c.fr)))
  | .convert s d x => some (.cv s d (evr A c.fr x))
  | .index t x i => some (.sx t (evr A c.fr x) (evr A c.fr i))
  | .lookup t x i ok => some (.lk t (evr A c.fr x) (evr A c.fr i) ok)
  | _ => none
 | none => none
theorem zx (I : Inv E w0 A c.bx fs W) (d : Nat) {vo : List Nat → VO} (v : List Nat → Value) (hx : ∀ A W, Inv E w0 A (zr P (some d) c).bx fs W → (vo A).sem.run P W = .ok (v A) W)
 (h : ∀ A W, Inv E w0 A (putc (zr P (some d) c) (.v (v A))).bx fs W → G P Q A (putc (zr P (some d) c) (.v (v A))) W)
 (hv : ∀ A, voOf (zr P (some d) c) A = some (vo A) := by intro _; kernel_rfl)
 (hr : ∀ A w, (zms P (some d) 5000 c A w).map (·.1) = (zms P (some d) 5000 c A w).map (·.2) := by intro _ _; kernel_rfl)
 (hm : ok1 (zr P (some d) c).rg (zr P (some d) c).bx = ok2 (zr P (some d) c).rg := by kernel_rfl) : G P Q A c W :=
 b0d I hr fun A W I => by
  have hv9 := hv A
  have h9 := h A W
  have hx9 := hx A W I
  clear hv h hx hr
  generalize zr P (some d) c = c at *
  unfold voOf hdOp at hv9
  split at hv9
  · rename_i o hn'
    split at hn'
    · rename_i o' hn
      split at hn'
      · rename_i hw
        simp only [Option.some.injEq] at hn'
        subst hn'
        refine G_op (E := E) (w0 := w0) (fs := fs) hn fun K hK => n0p o'.dst rfl (v A) (by rw [d0k]; exact hw) ?_ ?_
        · rw [b0j]
          unfold execOp
          cases hop : o'.op <;> simp only [hop] at hv9 ⊢ <;> first | (cases hv9; done) | (simp only [Option.some.injEq] at hv9; rw [← hv9] at hx9; unfold VO.sem at hx9; simp only [Sem.run_bind, hx9, Result.andThen_ok, Sem.run_pure])
        · have h := h9 I
          unfold putc at h
          rw [hn] at h
          have := hK A W _ c.bx (List.prefix_refl _) I hm h
          rw [show v A = (SV.v (v A)).r A from rfl, c0a]
          exact this
      · cases hn'
    · cases hn'
  · cases hv9
theorem r1x (I : Inv E w0 A c.bx fs W) (x y : SV) (hxy : x.r A = y.r A) (h : Inv E w0 A (putc c y).bx fs W → G P Q A (putc c y) W) (hv : w0m P c = some (.val x)) (hc : ∀ A w, n0t (f0p P c A w)) (hm : ok1 c.rg c.bx = ok2 c.rg) : G P Q A c W := by
 unfold w0m at hv
 split at hv
 · rename_i o hn
   split at hv
   · rename_i hw
     have hv := Option.some.inj hv
     have hc := hc A W
     unfold f0p at hc
     rw [hn] at hc
     replace h := h I
     refine G_op (E := E) (w0 := w0) (fs := fs) hn fun K hK => n0p o.dst rfl (x.r A) (by rw [d0k]; exact hw) (r0m I.ok hv hc) ?_
     unfold putc at h
     rw [hn] at h
     have := hK A W _ c.bx (List.prefix_refl _) I hm h
     rw [hxy, c0a]
     exact this
   · cases hv
 · cases hv
theorem zs (I : Inv E w0 A c.bx fs W) (d : Nat) (x y : SV) (hxy : ∀ A, x.r A = y.r A) (h : ∀ A W, Inv E w0 A (putc (zr P (some d) c) y).bx fs W → G P Q A (putc (zr P (some d) c) y) W)
 (hv : w0m P (zr P (some d) c) = some (.val x) := by kernel_rfl)
 (hc : ∀ A w, (f0p P (zr P (some d) c) A w).map (·.1) = (f0p P (zr P (some d) c) A w).map (·.2) := by intro _ _; kernel_rfl)
 (hr : ∀ A w, (zms P (some d) 5000 c A w).map (·.1) = (zms P (some d) 5000 c A w).map (·.2) := by intro _ _; kernel_rfl)
 (hm : ok1 (zr P (some d) c).rg (zr P (some d) c).bx = ok2 (zr P (some d) c).rg := by kernel_rfl) : G P Q A c W :=
 b0d I hr fun A W I => r1x I x y (hxy A) (h A W) hv (fun A w => g0a (hc A w)) hm
theorem zi (I : Inv E w0 A c.bx fs W) (d : Nat) (k : IntKind) (t e : Int) (hp : k.wrap t = e) (h : ∀ A W, Inv E w0 A (putc (zr P (some d) c) (.v (.int k e))).bx fs W → G P Q A (putc (zr P (some d) c) (.v (.int k e))) W)
 (hv : w0m P (zr P (some d) c) = some (.val (.v (.int k (k.wrap t)))) := by kernel_rfl)
 (hc : ∀ A w, (f0p P (zr P (some d) c) A w).map (·.1) = (f0p P (zr P (some d) c) A w).map (·.2) := by intro _ _; kernel_rfl)
 (hr : ∀ A w, (zms P (some d) 5000 c A w).map (·.1) = (zms P (some d) 5000 c A w).map (·.2) := by intro _ _; kernel_rfl)
 (hm : ok1 (zr P (some d) c).rg (zr P (some d) c).bx = ok2 (zr P (some d) c).rg := by kernel_rfl) : G P Q A c W :=
 zs I d (.v (.int k (k.wrap t))) (.v (.int k e)) (fun _ => by show Value.int k (k.wrap t) = .int k e; rw [hp]) h hv hc hr hm
theorem zb (I : Inv E w0 A c.bx fs W) (d : Nat) (e b : Bool) (hp : e = b) (h : ∀ A W, Inv E w0 A (putc (zr P (some d) c) (.v (.bool b))).bx fs W → G P Q A (putc (zr P (some d) c) (.v (.bool b))) W)
 (hv : w0m P (zr P (some d) c) = some (.val (.v (.bool e))) := by kernel_rfl)
 (hc : ∀ A w, (f0p P (zr P (some d) c) A w).map (·.1) = (f0p P (zr P (some d) c) A w).map (·.2) := by intro _ _; kernel_rfl)
 (hr : ∀ A w, (zms P (some d) 5000 c A w).map (·.1) = (zms P (some d) 5000 c A w).map (·.2) := by intro _ _; kernel_rfl)
 (hm : ok1 (zr P (some d) c).rg (zr P (some d) c).bx = ok2 (zr P (some d) c).rg := by kernel_rfl) : G P Q A c W :=
 zs I d (.v (.bool e)) (.v (.bool b)) (fun _ => by rw [hp]) h hv hc hr hm
theorem zm (I : Inv E w0 A c.bx fs W) (d : Nat) (k : IntKind) (t e : Int) (hp : t = e) (h : ∀ A W, Inv E w0 A (putc (zr P (some d) c) (.v (.int k e))).bx fs W → G P Q A (putc (zr P (some d) c) (.v (.int k e))) W)
 (hv : w0m P (zr P (some d) c) = some (.val (.v (.int k t))) := by kernel_rfl)
 (hc : ∀ A w, (f0p P (zr P (some d) c) A w).map (·.1) = (f0p P (zr P (some d) c) A w).map (·.2) := by intro _ _; kernel_rfl)
 (hr : ∀ A w, (zms P (some d) 5000 c A w).map (·.1) = (zms P (some d) 5000 c A w).map (·.2) := by intro _ _; kernel_rfl)
 (hm : ok1 (zr P (some d) c).rg (zr P (some d) c).bx = ok2 (zr P (some d) c).rg := by kernel_rfl) : G P Q A c W :=
 zs I d (.v (.int k t)) (.v (.int k e)) (fun _ => by rw [hp]) h hv hc hr hm
theorem zbin (I : Inv E w0 A c.bx fs W) (d : Nat) {b : BinOp} {X Y : List Nat → Value} (v : Value)
 (hx : ∀ A t x y W, (do eqGuard b t x y (X A) (Y A); binOp b t (X A) (Y A) : Sem Value).run P W = .ok v W) (h : ∀ A W, Inv E w0 A (putc (zr P (some d) c) (.v v)).bx fs W → G P Q A (putc (zr P (some d) c) (.v v)) W)
 (hv : ∀ A, r1w (zr P (some d) c) A = some (b, X A, Y A) := by intro _; kernel_rfl)
 (hr : ∀ A w, (zms P (some d) 5000 c A w).map (·.1) = (zms P (some d) 5000 c A w).map (·.2) := by intro _ _; kernel_rfl)
 (hm : ok1 (zr P (some d) c).rg (zr P (some d) c).bx = ok2 (zr P (some d) c).rg := by kernel_rfl) : G P Q A c W :=
 b0d I hr fun A W I => by
  have hv := hv A
  have h := h A W I
  generalize zr P (some d) c = c at *
  unfold r1w at hv
  split at hv
  · rename_i o hn
    split at hv
    · rename_i hw
      split at hv
      · rename_i b' t' x y t2 hop
        simp only [Option.some.injEq, Prod.mk.injEq] at hv
        obtain ⟨rfl, h1, h2⟩ := hv
        refine G_op (E := E) (w0 := w0) (fs := fs) hn fun K hK => n0p o.dst rfl v (by rw [d0k]; exact hw) ?_ ?_
        · rw [b0j]
          unfold execOp
          have := hx A t' x y W
          simp only [hop, h1, h2, Sem.run_bind] at this ⊢
          rw [this]
          rfl
        · unfold putc at h
          rw [hn] at h
          have := hK A W _ c.bx (List.prefix_refl _) I hm h
          rw [show v = (SV.v v).r A from rfl, c0a]
          exact this
      · cases hv
    · cases hv
  · cases hv
end
end Go.Slip
