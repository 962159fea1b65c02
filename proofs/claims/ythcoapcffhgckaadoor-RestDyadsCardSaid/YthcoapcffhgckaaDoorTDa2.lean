/- Plain arithmetic of digit lists: what a list of digits to a base stands for, and the one list without noughts behind that stands for a number. No program is in sight here. -/
import Init
import Derived.WalkKit
import Derived.WalkSpells
import Derived.WalkLawsBesides
import Derived.Deep.QuietTactic
import Derived.BigQuiet
import Derived.StillTailTactics
import Derived.Lib.Hide
import Derived.Deep.DeepMust
import Derived.Maps.AppendAt
import Derived.Test.YthcoapcffhgckaaDoorProg
import Derived.KernelRfl
import Derived.ProofKit
import Derived.OpenShut
import Derived.ShutString
import Derived.ChangeOld
import Derived.Below
import Derived.Lib.TrailingZeros
import Derived.Laws.BitsAllLaws
import Derived.Test.YthcoapcffhgckaaDoorRows
import Derived.LaidMore
import Derived.Stop.Joined
import Derived.Deep.LoopGhost
import Derived.Deep.RegionLaw
import Derived.Deep.RegionHeld3
import Derived.Deep.DeepCutAuto
import Derived.Outline
import Derived.Test.YthcoapcffhgckaaDoorTDa1
set_option maxHeartbeats 8000000
set_option maxRecDepth 100000
namespace Go
theorem iwo {n : Int} (h : -9223372036854775808 ≤ n ∧ n ≤ 9223372036854775807 := by omega) : IntKind.i64.wrap n = n := IntWalk.i64_in n h
theorem lHd {p : Prop} (h : p) : RowKit.Hid p := Lib.hid h
end Go
namespace Go.Slip
def val (B : Nat) : List Nat → Nat
 | [] => 0
 | x :: xs => x + B * val B xs
def dg (xs : List Nat) (i : Nat) : Nat := xs[i]?.getD 0
theorem b0c {xs : List Nat} {i : Nat} (h : xs.length ≤ i) : dg xs i = 0 := by unfold dg; rw [List.getElem?_eq_none h]; rfl
theorem b0k {xs : List Nat} {i : Nat} (h : i < xs.length) : dg xs i = xs[i] := by unfold dg; simp [h]
theorem i0z {xs : List Nat} {i n : Nat} (h : i < n) : dg (xs.take n) i = dg xs i := by unfold dg; simp [h]
theorem d0z {xs : List Nat} {i n : Nat} : dg (xs.drop n) i = dg xs (n + i) := by unfold dg; simp
theorem b0h {xs : List Nat} {i v : Nat} (h : i < xs.length) : dg (xs.set i v) i = v := by unfold dg; simp [h]
theorem c0d {xs : List Nat} {i j v : Nat} (h : i ≠ j) : dg (xs.set i v) j = dg xs j := by unfold dg; simp [h]
theorem c0i (n i : Nat) : dg (List.replicate n 0) i = 0 := by unfold dg; by_cases h : i < n <;> simp [h]
@[simp] theorem val_nil (B : Nat) : val B [] = 0 := rfl
@[simp] theorem val_cons (B x : Nat) (xs : List Nat) : val B (x :: xs) = x + B * val B xs := rfl
theorem f0n (B : Nat) (xs ys : List Nat) : val B (xs ++ ys) = val B xs + B ^ xs.length * val B ys := by
 induction xs with
 | nil => simp
 | cons x xs ih => simp only [List.cons_append, val_cons, ih, List.length_cons, Nat.pow_succ]; grind
theorem c0p (B : Nat) (xs : List Nat) (y : Nat) : val B (xs ++ [y]) = val B xs + B ^ xs.length * y := by
 rw [f0n]; simp
theorem g0a (B : Nat) (xs : List Nat) (h : ∀ x ∈ xs, x < B) : val B xs < B ^ xs.length := by
 induction xs with
 | nil => simp
 | cons x xs ih =>
  have h1 := ih (fun y hy => h y (by simp [hy]))
  have h2 := h x (by simp)
  simp only [val_cons, List.length_cons, Nat.pow_succ]
  have h3 : B * val B xs + B ≤ B * B ^ xs.length := by
   have : B * (val B xs + 1) ≤ B * B ^ xs.length := Nat.mul_le_mul_left _ h1
   rw [Nat.mul_add, Nat.mul_one] at this; exact this
  rw [Nat.mul_comm (B ^ xs.length) B]; omega
theorem b0f (B n : Nat) : val B (List.replicate n 0) = 0 := by
 induction n with
 | zero => rfl
 | succ n ih => simp [List.replicate_succ, ih]
theorem a0y (B : Nat) (xs : List Nat) (k : Nat) (hk : k ≤ xs.length) : val B xs = val B (xs.take k) + B ^ k * val B (xs.drop k) := by
 conv => lhs; rw [← List.take_append_drop k xs]
 rw [f0n, List.length_take, Nat.min_eq_left hk]
def dig (B : Nat) (n : Nat) : List Nat := if _h : 2 ≤ B ∧ 0 < n then n % B :: dig B (n / B) else []
termination_by n
decreasing_by exact Nat.div_lt_self _h.2 (by omega)
theorem a0b (B : Nat) : dig B 0 = [] := by rw [dig]; simp
theorem d0e {B n : Nat} (hB : 2 ≤ B) (h : 0 < n) : dig B n = n % B :: dig B (n / B) := by rw [dig, dif_pos ⟨hB, h⟩]
def c0w (xs : List Nat) : Prop := xs.getLast? ≠ some 0
theorem c0y {B : Nat} (hB : 2 ≤ B) (n : Nat) : val B (dig B n) = n ∧ (∀ x ∈ dig B n, x < B) ∧ c0w (dig B n) ∧ (0 < n → dig B n ≠ []) := by
 induction n using Nat.strongRecOn with
 | _ n ih =>
  by_cases h : 0 < n
  · obtain ⟨h1, h2, h3, h4⟩ := ih (n / B) (Nat.div_lt_self h (by omega))
    rw [d0e hB h]
    refine ⟨?_, ?_, ?_, by simp⟩
    · rw [val_cons, h1]; exact Nat.mod_add_div n B
    · intro x hx
      rcases List.mem_cons.1 hx with rfl | hx
      · exact Nat.mod_lt _ (by omega)
      · exact h2 x hx
    · unfold c0w at *
      by_cases h0 : 0 < n / B
      · have hne := h4 h0
        rw [List.getLast?_cons]
        cases hd : dig B (n / B) with
        | nil => exact absurd hd hne
        | cons y ys => rw [hd] at h3; simpa [List.getLast?_cons] using h3
      · have hz : n / B = 0 := by omega
        rw [hz, a0b]
        have : n % B = n := by
         have := Nat.mod_add_div n B; rw [hz] at this; simpa using this
        simp [this]; omega
  · have : n = 0 := by omega
    subst this
    rw [a0b]; exact ⟨rfl, by simp, by simp [c0w], by simp⟩
theorem a0q {B : Nat} (hB : 2 ≤ B) (n : Nat) : val B (dig B n) = n := (c0y hB n).1
theorem b0a {B : Nat} (hB : 2 ≤ B) (n : Nat) : ∀ x ∈ dig B n, x < B := (c0y hB n).2.1
theorem t0e {B : Nat} (hB : 2 ≤ B) (n : Nat) : c0w (dig B n) := (c0y hB n).2.2.1
theorem t0f {B : Nat} (hB : 2 ≤ B) : ∀ (xs : List Nat), c0w xs → xs ≠ [] → 0 < val B xs
 | [], _, h => absurd rfl h
 | [x], ht, _ => by
  have : x ≠ 0 := fun e => ht (by simp [e])
  simp; omega
 | x :: y :: ys, ht, _ => by
  have h1 : c0w (y :: ys) := by unfold c0w at *; simpa [List.getLast?_cons] using ht
  have h2 := t0f hB (y :: ys) h1 (by simp)
  rw [val_cons]
  have := Nat.mul_le_mul hB h2
  omega
theorem c0w.tail {x : Nat} {xs : List Nat} (h : c0w (x :: xs)) : c0w xs := by
 cases xs with
 | nil => simp [c0w]
 | cons y ys => unfold c0w at *; simpa [List.getLast?_cons] using h
theorem p0a {B : Nat} (hB : 2 ≤ B) : ∀ (xs : List Nat), (∀ x ∈ xs, x < B) → c0w xs → dig B (val B xs) = xs
 | [], _, _ => a0b B
 | x :: xs, hx, ht => by
  have h1 := p0a hB xs (fun y hy => hx y (by simp [hy])) ht.tail
  have h2 := t0f hB (x :: xs) ht (by simp)
  rw [d0e hB h2, val_cons]
  have h3 := hx x (by simp)
  rw [Nat.add_mul_mod_self_left, Nat.mod_eq_of_lt h3, Nat.add_mul_div_left _ _ (by omega), Nat.div_eq_of_lt h3, Nat.zero_add, h1]
theorem k0r {B : Nat} (hB : 2 ≤ B) (xs : List Nat) (n : Nat) (hx : ∀ x ∈ xs, x < B) (ht : c0w xs) (h : val B xs = n) : xs = dig B n := by
 rw [← h, p0a hB xs hx ht]
theorem z0w {B : Nat} (hB : 2 ≤ B) {m n : Nat} (h : dig B m = dig B n) : m = n := by
 have := congrArg (val B) h
 rwa [a0q hB, a0q hB] at this
theorem a0d {B : Nat} (hB : 2 ≤ B) (n k : Nat) : (dig B n).length ≤ k ↔ n < B ^ k := by
 constructor
 · intro h
   have h1 := g0a B (dig B n) (b0a hB n)
   rw [a0q hB] at h1
   exact Nat.lt_of_lt_of_le h1 (Nat.pow_le_pow_right (by omega) h)
 · induction k generalizing n with
   | zero => intro h; have : n = 0 := by simpa using h
             subst this; rw [a0b]; simp
   | succ k ih =>
    intro h
    by_cases h0 : 0 < n
    · rw [d0e hB h0, List.length_cons]
      have := ih (n / B) (by
        rw [Nat.div_lt_iff_lt_mul (by omega)]; rwa [Nat.pow_succ] at h)
      omega
    · have : n = 0 := by omega
      subst this; rw [a0b]; simp
theorem c0m {B : Nat} (hB : 2 ≤ B) (n : Nat) (h : 0 < n) : B ^ ((dig B n).length - 1) ≤ n := by
 rcases Nat.lt_or_ge n (B ^ ((dig B n).length - 1)) with h1 | h1
 · have h2 := (a0d hB n _).2 h1
   have h3 := (c0y hB n).2.2.2 h
   have h4 : 0 < (dig B n).length := List.length_pos_iff.2 h3
   omega
 · exact h1
theorem r0r {B : Nat} (hB : 2 ≤ B) (n : Nat) : dig B n = [] ↔ n = 0 := by
 constructor
 · intro h
   rcases Nat.eq_zero_or_pos n with h0 | h0
   · exact h0
   · exact absurd h ((c0y hB n).2.2.2 h0)
 · rintro rfl; exact a0b B
theorem a0h {B : Nat} (hB : 2 ≤ B) (n : Nat) : (dig B n).length = 0 ↔ n = 0 := by
 rw [List.length_eq_zero_iff, r0r hB]
theorem a0e {B : Nat} (hB : 2 ≤ B) {m n : Nat} (h : m ≤ n) : (dig B m).length ≤ (dig B n).length := by
 rw [a0d hB]
 exact Nat.lt_of_le_of_lt h ((a0d hB n _).1 (Nat.le_refl _))
theorem k0l (B : Nat) (xs : List Nat) (m : Nat) (hm : m ≤ xs.length) (h : ∀ j, m ≤ j → dg xs j = 0) : val B (xs.take m) = val B xs := by
 rw [a0y B xs m hm]
 have : val B (xs.drop m) = 0 := by
  have h2 : xs.drop m = List.replicate (xs.length - m) 0 := by
   apply List.ext_getElem?
   intro j
   rw [List.getElem?_drop]
   by_cases hj : m + j < xs.length
   · have := h (m + j) (by omega)
     rw [b0k hj] at this
     rw [List.getElem?_eq_getElem hj, this, List.getElem?_replicate, if_pos (by omega)]
   · rw [List.getElem?_eq_none (by omega), List.getElem?_eq_none (by simp; omega)]
  rw [h2, b0f]
 rw [this]; simp
theorem q0t {B : Nat} (hB : 2 ≤ B) (xs : List Nat) (m : Nat) (hx : ∀ x ∈ xs, x < B) (hm : m ≤ xs.length) (h : ∀ j, m ≤ j → dg xs j = 0) (ht : m = 0 ∨ dg xs (m - 1) ≠ 0) :
 xs.take m = dig B (val B xs) := by
 refine k0r hB _ _ (fun x hxm => hx x (List.mem_of_mem_take hxm)) ?_ (k0l B xs m hm h)
 unfold c0w
 rcases ht with rfl | ht
 · simp
 · by_cases h0 : m = 0
   · subst h0; simp
   · rw [List.getLast?_eq_getElem?, List.length_take, Nat.min_eq_left hm, List.getElem?_take, if_pos (by omega)]
     intro e; unfold dg at ht; rw [e] at ht; simp at ht
theorem d0f {B : Nat} (hB : 2 ≤ B) (xs : List Nat) (m : Nat) (hx : ∀ x ∈ xs, x < B) (hm : m ≤ xs.length) (h : ∀ j, m ≤ j → dg xs j = 0) (ht : m = 0 ∨ dg xs (m - 1) ≠ 0) :
 (dig B (val B xs)).length = m := by
 rw [← q0t hB xs m hx hm h ht, List.length_take, Nat.min_eq_left hm]
theorem r0s {B : Nat} (hB : 2 ≤ B) (xs : List Nat) (hx : ∀ x ∈ xs, x < B) : (dig B (val B xs)).length ≤ xs.length := by
 rw [a0d hB]; exact g0a B xs hx
theorem a0v {B : Nat} (hB : 2 ≤ B) (xs : List Nat) (hx : ∀ x ∈ xs, x < B) : xs.take (dig B (val B xs)).length = dig B (val B xs) := by
 have : ∃ m, m ≤ xs.length ∧ (∀ j, m ≤ j → dg xs j = 0) ∧ (m = 0 ∨ dg xs (m - 1) ≠ 0) := by
  have key : ∀ n, n ≤ xs.length → (∀ j, n ≤ j → dg xs j = 0) → ∃ m, m ≤ xs.length ∧ (∀ j, m ≤ j → dg xs j = 0) ∧ (m = 0 ∨ dg xs (m - 1) ≠ 0) := by
   intro n
   induction n with
   | zero => intro _ h; exact ⟨0, by omega, h, .inl rfl⟩
   | succ n ih =>
    intro hn h
    by_cases h0 : dg xs n = 0
    · refine ih (by omega) fun j hj => ?_
      by_cases hjn : j = n
      · subst hjn; exact h0
      · exact h j (by omega)
    · exact ⟨n + 1, hn, h, .inr h0⟩
  exact key xs.length (Nat.le_refl _) fun j hj => b0c hj
 obtain ⟨m, h1, h2, h3⟩ := this
 rw [d0f hB xs m hx h1 h2 h3, q0t hB xs m hx h1 h2 h3]
theorem h0m (B : Nat) : ∀ (xs : List Nat) (j v : Nat), j < xs.length → val B (xs.set j v) + B ^ j * (dg xs j) = val B xs + B ^ j * v
 | [], j, v, h => by simp at h
 | x :: xs, 0, v, _ => by simp [dg]; omega
 | x :: xs, j + 1, v, h => by
  have ih := h0m B xs j v (by simpa using h)
  have e0 : dg (x :: xs) (j + 1) = dg xs j := by simp [dg]
  simp only [List.set_cons_succ, val_cons, e0]
  rw [Nat.pow_succ]
  have e : ∀ t, B ^ j * B * t = B * (B ^ j * t) := fun t => by grind
  rw [e, e]
  have : B * (val B (xs.set j v) + B ^ j * (dg xs j)) = B * (val B xs + B ^ j * v) := by rw [ih]
  rw [Nat.mul_add, Nat.mul_add] at this
  omega
theorem a0c (B : Nat) (xs : List Nat) (i : Nat) : val B (xs.take (i + 1)) = val B (xs.take i) + B ^ i * (dg xs i) := by
 by_cases h : i < xs.length
 · rw [List.take_succ_eq_append_getElem h, f0n, List.length_take, Nat.min_eq_left (by omega), b0k h]
   simp
 · rw [List.take_of_length_le (by omega), List.take_of_length_le (by omega), b0c (by omega)]
   simp
theorem b0n (B : Nat) (xs : List Nat) (i : Nat) (h : xs.length ≤ i) : val B (xs.take i) = val B xs := by rw [List.take_of_length_le h]
theorem g0h {B : Nat} (xs : List Nat) (hx : ∀ x ∈ xs, x < B) (h : xs = [] ∨ B ^ (xs.length - 1) ≤ val B xs) : c0w xs := by
 rcases h with rfl | h
 · simp [c0w]
 · unfold c0w
   intro h0
   have hne : xs ≠ [] := by rintro rfl; simp at h0
   have hl : 0 < xs.length := List.length_pos_iff.2 hne
   have h1 : dg xs (xs.length - 1) = 0 := by rw [List.getLast?_eq_getElem?] at h0; unfold dg; rw [h0]; rfl
   have h2 := a0c B xs (xs.length - 1)
   rw [show xs.length - 1 + 1 = xs.length by omega, List.take_length, h1] at h2
   have h3 := g0a B (xs.take (xs.length - 1)) (fun x hxm => hx x (List.mem_of_mem_take hxm))
   rw [List.length_take, Nat.min_eq_left (by omega)] at h3
   omega
theorem a0f {B : Nat} (hB : 0 < B) (xs : List Nat) (hx : ∀ x ∈ xs, x < B) (j : Nat) : dg xs j < B := by
 by_cases h : j < xs.length
 · rw [b0k h]; exact hx _ (List.getElem_mem h)
 · rw [b0c (by omega)]; exact hB
theorem g0b {B : Nat} (xs : List Nat) (hx : ∀ x ∈ xs, x < B) (j v : Nat) (hv : v < B) : ∀ x ∈ xs.set j v, x < B := by
 intro x h
 rcases List.mem_or_eq_of_mem_set h with h | rfl
 · exact hx x h
 · exact hv
/-! ### Addition, digit by digit -/
theorem q0u (B : Nat) (L : List Nat) (i d c T : Nat) (hi : i < L.length) (h : val B L + c * B ^ i = T) :
 val B (L.set i ((dg L i + d + c) % B)) + ((dg L i + d + c) / B) * B ^ (i + 1) = T + B ^ i * d := by
 have h1 := h0m B L i ((dg L i + d + c) % B) hi
 have h2 := Nat.div_add_mod (dg L i + d + c) B
 generalize (dg L i + d + c) % B = r at *
 generalize (dg L i + d + c) / B = q at *
 generalize dg L i = x at *
 rw [Nat.pow_succ]
 have h3 : B ^ i * (B * q + r) = B ^ i * (x + d + c) := by rw [h2]
 grind
theorem q0v {B : Nat} (hB : 2 ≤ B) (L : List Nat) (a b : Nat) (hx : ∀ x ∈ L, x < B) (hl : L.length = (dig B a).length) (h : val B L = a + b) : L = dig B (a + b) := by
 refine k0r hB L _ hx (g0h L hx ?_) h
 by_cases ha : 0 < a
 · right; rw [h, hl]; have := c0m hB a ha; omega
 · left
   have : a = 0 := by omega
   subst this
   rw [a0b] at hl
   exact List.eq_nil_of_length_eq_zero hl
theorem q0w {B : Nat} (hB : 2 ≤ B) (L : List Nat) (c n : Nat) (hx : ∀ x ∈ L, x < B) (hc : 0 < c) (hcB : c < B) (h : val B L + c * B ^ L.length = n) : L ++ [c] = dig B n := by
 refine k0r hB _ _ (fun x hm => ?_) ?_ (by rw [c0p, Nat.mul_comm]; exact h)
 · rcases List.mem_append.1 hm with h1 | h1
   · exact hx x h1
   · simp at h1; omega
 · unfold c0w; simp; omega
/-! ### Products, digit by digit -/
def j0a (B : Nat) (L xs ys : List Nat) (i k cr : Nat) : Prop :=
 (∀ x ∈ L, x < B) ∧ (∀ j, i + ys.length ≤ j → dg L j = 0) ∧ val B L + cr * B ^ (i + k) = val B (xs.take i) * val B ys + dg xs i * B ^ i * val B (ys.take k)
def e0v (B : Nat) (L xs ys : List Nat) (i : Nat) : Prop :=
 (∀ x ∈ L, x < B) ∧ (∀ j, i + ys.length ≤ j → dg L j = 0) ∧ val B L = val B (xs.take i) * val B ys
theorem e0v.start (B : Nat) (hB : 0 < B) (xs ys : List Nat) (n : Nat) : e0v B (List.replicate n 0) xs ys 0 :=
 ⟨fun x hx => by rw [(List.mem_replicate.1 hx).2]; exact hB, fun j _ => c0i n j, by simp [b0f]⟩
theorem e0v.enter {B : Nat} {L xs ys : List Nat} {i : Nat} (h : e0v B L xs ys i) : j0a B L xs ys i 0 0 := ⟨h.1, h.2.1, by rw [h.2.2]; simp⟩
theorem j0a.step {B : Nat} {L xs ys : List Nat} {i k cr t : Nat} (h : j0a B L xs ys i k cr) (hB : 0 < B) (hk : k < ys.length) (hj : i + k < L.length) (ht : t = dg xs i * dg ys k + dg L (i + k) + cr) :
 j0a B (L.set (i + k) (t % B)) xs ys i (k + 1) (t / B) := by
 have e : t = dg L (i + k) + dg xs i * dg ys k + cr := by omega
 refine ⟨g0b L h.1 _ _ (Nat.mod_lt _ hB), fun j hj2 => ?_, ?_⟩
 · rw [c0d (by omega)]; exact h.2.1 j hj2
 · have h1 := q0u B L (i + k) (dg xs i * dg ys k) cr _ hj h.2.2
   rw [e, ← Nat.add_assoc i k 1, h1, a0c]
   rw [Nat.pow_add]
   grind
theorem j0a.carry {B : Nat} {L xs ys : List Nat} {i k cr : Nat} (h : j0a B L xs ys i k cr) (hc : cr < B) (hx : dg xs i < B) (hy : dg ys k < B) : dg xs i * dg ys k + dg L (i + k) + cr < B * B := by
 have h1 := a0f (B := B) (by omega) L h.1 (i + k)
 have h2 : dg xs i * dg ys k ≤ (B - 1) * (B - 1) := Nat.mul_le_mul (by omega) (by omega)
 obtain ⟨b, rfl⟩ : ∃ b, B = b + 1 := ⟨B - 1, by omega⟩
 simp only [Nat.add_sub_cancel] at h2
 have h3 : (b + 1) * (b + 1) = b * b + 2 * b + 1 := by grind
 omega
theorem j0a.leave {B : Nat} {L xs ys : List Nat} {i k cr : Nat} (h : j0a B L xs ys i k cr) (hk : k = ys.length) (hj : i + k < L.length) (hc : cr < B) : e0v B (L.set (i + k) cr) xs ys (i + 1) := by
 subst hk
 refine ⟨g0b L h.1 _ _ hc, fun j hj2 => ?_, ?_⟩
 · rw [c0d (by omega)]; exact h.2.1 j (by omega)
 · have h1 := h0m B L (i + ys.length) cr hj
   have h2 := h.2.2
   rw [h.2.1 _ (Nat.le_refl _)] at h1
   rw [List.take_length] at h2
   rw [a0c]
   grind
theorem e0v.done {B : Nat} {L xs ys : List Nat} {i a b : Nat} (h : e0v B L xs ys i) (hi : xs.length ≤ i) (ha : val B xs = a) (hb : val B ys = b) : val B L = a * b := by
 rw [h.2.2, b0n _ _ _ hi, ha, hb]
/-! ### The two bases of the texts: 2 to the power of 32, and of 16 -/
def B32 : Nat := 4294967296
def B16 : Nat := 65536
theorem a0a : 2 ≤ B32 := by unfold B32; omega
theorem a0g : 2 ≤ B16 := by unfold B16; omega
theorem b0i : 0 < B32 := by unfold B32; omega
theorem l0u : 0 < B16 := by unfold B16; omega
theorem b1m : B32 = B16 * B16 := by unfold B32 B16; omega
theorem p0b (k : Nat) : B32 ^ k = B16 ^ (2 * k) := by rw [b1m, Nat.pow_mul]; congr 1
def a0n (xs : List Nat) : Int := if 0 < xs.length ∧ dg xs (xs.length - 1) = 0 then 1 else if 1200 < xs.length then 2 else 0
theorem p0c {xs : List Nat} (h : ¬ (0 < xs.length ∧ dg xs (xs.length - 1) = 0)) : c0w xs := by
 unfold c0w
 intro h0
 have hl : 0 < xs.length := by
  rcases Nat.eq_zero_or_pos xs.length with h1 | h1
  · rw [List.eq_nil_of_length_eq_zero h1] at h0; simp at h0
  · exact h1
 refine h ⟨hl, ?_⟩
 rw [List.getLast?_eq_getElem?] at h0; unfold dg; rw [h0]; rfl
theorem g0o {xs : List Nat} (hx : ∀ x ∈ xs, x < B32) (h : a0n xs = 0) : xs = dig B32 (val B32 xs) ∧ xs.length ≤ 1200 := by
 unfold a0n at h
 split at h
 · omega
 · rename_i h1
   split at h
   · omega
   · exact ⟨(p0a a0a xs hx (p0c h1)).symm, by omega⟩
theorem t0g {B : Nat} (hB : 2 ≤ B) (n : Nat) : ¬ (0 < (dig B n).length ∧ dg (dig B n) ((dig B n).length - 1) = 0) := by
 rintro ⟨h1, h2⟩
 have h3 := t0e hB n
 apply h3
 rw [List.getLast?_eq_getElem?]
 unfold dg at h2
 rw [List.getElem?_eq_getElem (by omega)] at h2 ⊢
 simp at h2
 rw [h2]
theorem r0t (n : Nat) : a0n (dig B32 n) = if 1200 < (dig B32 n).length then 2 else 0 := by
 unfold a0n
 rw [if_neg (t0g a0a n)]
theorem z0x {O xs : List Nat} {i : Nat} (hO : ∀ x ∈ O, x < B16) (hl : O.length = 2 * i) (hv : val B16 O = val B32 (xs.take i)) (hx : dg xs i < B32) :
 (∀ x ∈ O ++ [dg xs i % 65536, dg xs i / 65536], x < B16) ∧ val B16 (O ++ [dg xs i % 65536, dg xs i / 65536]) = val B32 (xs.take (i + 1)) := by
 constructor
 · intro x hm
   rcases List.mem_append.1 hm with h | h
   · exact hO x h
   · simp at h
     unfold B16 B32 at *
     omega
 · rw [f0n, hv, a0c, hl, ← p0b]
   simp only [val_cons, val_nil, Nat.mul_zero, Nat.add_zero]
   congr 2
   unfold B16
   omega
theorem g0c (n : Nat) : (dig B32 n).length = ((dig B16 n).length + 1) / 2 := by
 apply Nat.le_antisymm
 · rw [a0d a0a, p0b]
   have h := (a0d a0g n _).1 (Nat.le_refl _)
   exact Nat.lt_of_lt_of_le h (Nat.pow_le_pow_right (by unfold B16; omega) (by omega))
 · by_cases h : 0 < n
   · have h1 := (a0d a0a n _).1 (Nat.le_refl _)
     rw [p0b] at h1
     have := (a0d a0g n _).2 h1
     omega
   · have : n = 0 := by omega
     subst this; rw [a0b, a0b]; simp
theorem j0a.leave0 {B : Nat} {L xs ys : List Nat} {i : Nat} (h : j0a B L xs ys i ys.length 0) : e0v B L xs ys (i + 1) := by
 refine ⟨h.1, fun j hj2 => h.2.1 j (by omega), ?_⟩
 have h2 := h.2.2
 rw [List.take_length] at h2
 rw [a0c]
 grind
def c0n (L xs ys : List Nat) (i k cr : Nat) : Prop := (k ≤ ys.length ∧ j0a B16 L xs ys i k cr) ∨ (k = ys.length + 1 ∧ cr = 0 ∧ e0v B16 L xs ys (i + 1))
theorem c0n.digits {L xs ys : List Nat} {i k cr : Nat} (h : c0n L xs ys i k cr) : ∀ x ∈ L, x < B16 := by
 rcases h with h | h
 · exact h.2.1
 · exact h.2.2.1
theorem c0n.step {L xs ys : List Nat} {i k cr : Nat} (h : c0n L xs ys i k cr) (hk : k < ys.length) (hj : i + k < L.length) :
 c0n (L.set (i + k) ((dg L (i + k) + cr + dg xs i * dg ys k) % 65536)) xs ys i (k + 1) ((dg L (i + k) + cr + dg xs i * dg ys k) / 65536) := by
 rcases h with ⟨_, h⟩ | ⟨h0, _⟩
 · exact .inl ⟨hk, h.step l0u hk hj (by omega)⟩
 · omega
theorem c0n.carry {L xs ys : List Nat} {i k cr : Nat} (h : c0n L xs ys i k cr) (hc : cr < 65536) (hx : dg xs i < 65536) (hy : dg ys k < 65536) : (dg L (i + k) + cr + dg xs i * dg ys k) / 65536 < 65536 := by
 have h1 := a0f (B := 65536) (by omega) L h.digits (i + k)
 have h2 : dg xs i * dg ys k ≤ 65535 * 65535 := Nat.mul_le_mul (by omega) (by omega)
 omega
theorem c0n.over {L xs ys : List Nat} {i k cr : Nat} (h : c0n L xs ys i k cr) (hk : ¬ k < ys.length) (h0 : 0 < cr) (hc : cr < 65536) (hj : i + ys.length < L.length) :
 k = ys.length ∧ dg L (i + k) = 0 ∧ c0n (L.set (i + k) cr) xs ys i (k + 1) 0 := by
 rcases h with ⟨h1, h⟩ | ⟨_, h2, _⟩
 · obtain rfl : k = ys.length := by omega
   exact ⟨rfl, h.2.1 _ (Nat.le_refl _), .inr ⟨rfl, rfl, h.leave rfl hj (by unfold B16; omega)⟩⟩
 · omega
theorem c0n.done {L xs ys : List Nat} {i k : Nat} (h : c0n L xs ys i k 0) (hk : ¬ k < ys.length) : e0v B16 L xs ys (i + 1) := by
 rcases h with ⟨h1, h⟩ | ⟨_, _, h⟩
 · obtain rfl : k = ys.length := by omega
   exact h.leave0
 · exact h
/-! ### Division by one digit, from above -/
theorem i0p (B : Nat) (xs : List Nat) (j : Nat) (hj : j < xs.length) : val B (xs.drop j) = dg xs j + B * val B (xs.drop (j + 1)) := by
 rw [List.drop_eq_getElem_cons hj, val_cons, b0k hj]
theorem l0v (L : List Nat) (j v : Nat) (hj : j < L.length) : (L.set j v).drop j = v :: L.drop (j + 1) := by
 rw [List.drop_eq_getElem_cons (by simpa using hj)]
 simp [List.drop_set_of_lt]
def SmallRel (B : Nat) (L xs : List Nat) (d k r : Nat) : Prop := (∀ x ∈ L, x < B) ∧ r < d ∧ val B (L.drop k) * d + r = val B (xs.drop k)
theorem SmallRel.step {B : Nat} {L xs : List Nat} {d k r : Nat} (h : SmallRel B L xs d (k + 1) r) (hk : k < xs.length) (hL : k < L.length) (hx : dg xs k < B) :
 SmallRel B (L.set k ((r * B + dg xs k) / d)) xs d k ((r * B + dg xs k) % d) ∧ (r * B + dg xs k) / d < B := by
 have hq : (r * B + dg xs k) / d < B := by
  rw [Nat.div_lt_iff_lt_mul (by have := h.2.1; omega)]
  have h1 : (r + 1) * B ≤ d * B := Nat.mul_le_mul_right _ h.2.1
  rw [Nat.add_mul, Nat.one_mul] at h1
  rw [Nat.mul_comm B d]; omega
 refine ⟨⟨g0b L h.1 _ _ hq, Nat.mod_lt _ (by have := h.2.1; omega), ?_⟩, hq⟩
 rw [l0v L k _ hL, val_cons, i0p B xs k hk, ← h.2.2]
 have h2 := Nat.div_add_mod (r * B + dg xs k) d
 generalize (r * B + dg xs k) / d = q at *
 generalize (r * B + dg xs k) % d = s at *
 generalize val B (L.drop (k + 1)) = v at *
 grind
theorem SmallRel.done {B : Nat} {L xs : List Nat} {d r a : Nat} (h : SmallRel B L xs d 0 r) (ha : val B xs = a) : val B L = a / d ∧ r = a % d := by
 have h1 := h.2.2
 simp only [List.drop_zero] at h1
 rw [ha] at h1
 have h2 := h.2.1
 rw [← h1, Nat.mul_comm]
 exact ⟨(by rw [Nat.mul_add_div (by omega), Nat.div_eq_of_lt h2, Nat.add_zero]), (by rw [Nat.mul_add_mod, Nat.mod_eq_of_lt h2])⟩
/-! ### Turned round -/
def j0b (L xs : List Nat) (i j : Nat) : Prop := L.length = xs.length ∧ i + j + 1 = xs.length + 0 ∧ ∀ t, t < xs.length → dg L t = if t < i ∨ j < t then dg xs (xs.length - 1 - t) else dg xs t
theorem b0j {xs ys : List Nat} (hl : xs.length = ys.length) (h : ∀ t, t < xs.length → dg xs t = dg ys t) : xs = ys := by
 apply List.ext_getElem hl
 intro t h1 h2
 have := h t h1
 rwa [b0k h1, b0k h2] at this
theorem r0u {xs : List Nat} {t : Nat} (h : t < xs.length) : dg xs.reverse t = dg xs (xs.length - 1 - t) := by
 rw [b0k (by simpa using h), b0k (by omega), List.getElem_reverse]
theorem j0b.step {L xs : List Nat} {i j : Nat} (h : j0b L xs i j) (hij : i < j) : j0b ((L.set i (dg L j)).set j (dg L i)) xs (i + 1) (j - 1) := by
 obtain ⟨h1, h2, h3⟩ := h
 refine ⟨by simpa using h1, by omega, fun t ht => ?_⟩
 have hi := h3 i (by omega)
 have hj := h3 j (by omega)
 rw [if_neg (by omega)] at hi hj
 by_cases e1 : t = j
 · subst e1
   rw [b0h (by simp; omega), if_pos (by omega), hi]
   congr 1; omega
 · rw [c0d (by omega)]
   by_cases e2 : t = i
   · subst e2
     rw [b0h (by omega), if_pos (by omega), hj]
     congr 1; omega
   · rw [c0d (by omega), h3 t ht]
     by_cases e3 : t < i ∨ j < t
     · rw [if_pos e3, if_pos (by omega)]
     · rw [if_neg e3, if_neg (by omega)]
theorem j0b.done {L xs : List Nat} {i j : Nat} (h : j0b L xs i j) (hij : ¬ i < j) : L = xs.reverse := by
 obtain ⟨h1, h2, h3⟩ := h
 refine b0j (by simpa using h1) fun t ht => ?_
 rw [h3 t (by omega), r0u (by omega)]
 by_cases e : t < i ∨ j < t
 · rw [if_pos e]
 · rw [if_neg e]; congr 1; omega
theorem j0b.start (xs : List Nat) (h : 0 < xs.length) : j0b xs xs 0 (xs.length - 1) :=
 ⟨rfl, by omega, fun t ht => by rw [if_neg (by omega)]⟩
/-! ### Decimal digits -/
def n0p (N : Nat) (D : List Nat) (i r a : Nat) : Prop :=
 (∀ x ∈ D, x < 10) ∧ r < 10 ^ (9 - i) ∧ N = val 10 D + 10 ^ D.length * (r + 10 ^ (9 - i) * a) ∧ (a = 0 → r = 0 → c0w D)
def j0c (N : Nat) (D : List Nat) (a : Nat) : Prop := (∀ x ∈ D, x < 10) ∧ N = val 10 D + 10 ^ D.length * a ∧ (a = 0 → c0w D)
theorem j0c.start (N : Nat) : j0c N [] N := ⟨by simp, by simp, fun _ => by simp [c0w]⟩
theorem j0c.enter {N : Nat} {D : List Nat} {a : Nat} (h : j0c N D a) (ha : 0 < a) : n0p N D 0 (a % 1000000000) (a / 1000000000) := by
 refine ⟨h.1, by have := Nat.mod_lt a (show 0 < 1000000000 by omega); simpa using this, ?_, fun h1 h2 => by omega⟩
 rw [h.2.1]
 congr 2
 have := Nat.mod_add_div a 1000000000
 omega
theorem n0p.step {N : Nat} {D : List Nat} {i r a : Nat} (h : n0p N D i r a) (hi : i < 9) (hc : 0 < r ∨ 0 < a) : n0p N (D ++ [r % 10]) (i + 1) (r / 10) a := by
 obtain ⟨h1, h2, h3, h4⟩ := h
 have e : 9 - i = 9 - (i + 1) + 1 := by omega
 rw [e, Nat.pow_succ] at h2 h3
 refine ⟨fun x hx => ?_, by omega, ?_, fun ha hr => ?_⟩
 · rcases List.mem_append.1 hx with hx | hx
   · exact h1 x hx
   · simp at hx; omega
 · rw [h3, c0p, List.length_append, List.length_singleton, Nat.pow_succ]
   have := Nat.mod_add_div r 10
   generalize r % 10 = s at *
   generalize r / 10 = q at *
   subst this
   grind
 · unfold c0w; simp; omega
theorem n0p.leave {N : Nat} {D : List Nat} {i r a : Nat} (h : n0p N D i r a) (hi : i ≤ 9) (hc : ¬ (i < 9 ∧ (0 < r ∨ 0 < a))) : j0c N D a := by
 obtain ⟨h1, h2, h3, h4⟩ := h
 have hr : r = 0 := by
  by_cases hi9 : i < 9
  · omega
  · have : i = 9 := by omega
    subst this; simp at h2; exact h2
 subst hr
 refine ⟨h1, ?_, fun ha => h4 ha rfl⟩
 rw [h3]
 by_cases hi9 : i < 9
 · have : a = 0 := by omega
   subst this; simp
 · have : i = 9 := by omega
   subst this; simp
theorem j0c.done {N : Nat} {D : List Nat} (h : j0c N D 0) : D = dig 10 N := k0r (by omega) D N h.1 (h.2.2 rfl) (by rw [h.2.1]; simp)
theorem n0p.size {N : Nat} {D : List Nat} {i r a : Nat} (h : n0p N D i r a) (hc : 0 < r ∨ 0 < a) : D.length ≤ 32 * (dig B32 N).length := by
 have h1 : 10 ^ D.length ≤ N := by
  rw [h.2.2.1]
  have : 0 < r + 10 ^ (9 - i) * a := by
   rcases hc with hc | hc
   · omega
   · have := Nat.mul_pos (show 0 < 10 ^ (9 - i) from Nat.pow_pos (by omega)) hc; omega
  have := Nat.le_mul_of_pos_right (10 ^ D.length) this
  omega
 have h2 := (a0d a0a N _).1 (Nat.le_refl _)
 have h3 : B32 ^ (dig B32 N).length = 2 ^ (32 * (dig B32 N).length) := by rw [Nat.pow_mul]; congr 1
 have h4 : 2 ^ D.length ≤ 10 ^ D.length := Nat.pow_le_pow_left (by omega) _
 have h5 : 2 ^ D.length < 2 ^ (32 * (dig B32 N).length) := by rw [← h3]; omega
 exact Nat.le_of_lt ((Nat.pow_lt_pow_iff_right (by omega)).1 h5)
theorem e0l {B : Nat} (hB : 2 ≤ B) (a b : Nat) : (dig B (a * b)).length ≤ (dig B a).length + (dig B b).length := by
 rw [a0d hB, Nat.pow_add]
 exact Nat.mul_lt_mul'' ((a0d hB a _).1 (Nat.le_refl _)) ((a0d hB b _).1 (Nat.le_refl _))
theorem b0b {B : Nat} (hB : 2 ≤ B) (a b : Nat) : (dig B (a + b)).length ≤ (dig B a).length + (dig B b).length + 1 := by
 rw [a0d hB]
 have h1 := (a0d hB a _).1 (Nat.le_refl _)
 have h2 := (a0d hB b _).1 (Nat.le_refl _)
 have h3 : B ^ (dig B a).length ≤ B ^ ((dig B a).length + (dig B b).length) := Nat.pow_le_pow_right (by omega) (by omega)
 have h4 : B ^ (dig B b).length ≤ B ^ ((dig B a).length + (dig B b).length) := Nat.pow_le_pow_right (by omega) (by omega)
 rw [Nat.pow_succ]
 have := Nat.mul_le_mul_left (B ^ ((dig B a).length + (dig B b).length)) hB
 omega
end Go.Slip
namespace Go.Slip
open Go.RowKit
def b1n : Value → Nat | .slice _ n _ => n | _ => 0
theorem n0q {p : OA} {n m c : Nat} (h : n = m) : Ending.returned (.slice p n c) = .returned (.slice p m c) := by rw [h]
theorem a0s {k : IntKind} {m n : Int} (h : m = n) : Ending.returned (.int k m) = .returned (.int k n) := by rw [h]
theorem w0z {m n : Bool} (h : m = n) : Ending.returned (.bool m) = .returned (.bool n) := by rw [h]
theorem or32 (r x : Nat) (hr : r < 4294967296) (hx : x < 4294967296) : bits .or .u64 ((r : Int) * 4294967296) (x : Int) = (r : Int) * 4294967296 + (x : Int) := by
 have h := u64_or_nat (r * 4294967296) x (by omega) (by omega)
 rw [nat_join 32 (r * 4294967296) x (by omega) (by omega)] at h
 simp only [Int.natCast_add, Int.natCast_mul] at h
 exact h
def at_ (p : OA) (j : Nat) : Addr := ⟨(p.getD ⟨0, 0, none⟩).block, (p.getD ⟨0, 0, none⟩).off + j, none⟩
def blk (p : OA) : Nat := (p.getD ⟨0, 0, none⟩).block
@[simp] theorem at_block (p : OA) (j : Nat) : (at_ p j).block = blk p := rfl
def h0n (p : OA) (n : Nat) : Prop := 0 < n → p.isSome = true ∧ (p.getD ⟨0, 0, none⟩).spot = none
theorem h0n.mono {p : OA} {n m : Nat} (h : h0n p n) (hm : m ≤ n) : h0n p m := fun h0 => h (by omega)
theorem h0n.some {p : OA} {n : Nat} (h : h0n p n) (h0 : 0 < n) : p = some ⟨blk p, (p.getD ⟨0, 0, none⟩).off, none⟩ := by
 obtain ⟨h1, h2⟩ := h h0
 cases p with
 | none => simp at h1
 | some a => cases a; simp [blk] at *; exact h2
structure Rd (w : World) (k : IntKind) (p : OA) (xs : List Nat) : Prop where
 solid : h0n p xs.length
 cells : ∀ j, j < xs.length → w.cell? (at_ p j) = some (.int k ((dg xs j : Nat) : Int))
theorem Rd.nil (w : World) (k : IntKind) (p : OA) : Rd w k p [] := ⟨fun h => by simp at h, fun j hj => by simp at hj⟩
theorem Rd.lt {w : World} {k : IntKind} {p : OA} {xs : List Nat} (h : Rd w k p xs) (h0 : 0 < xs.length) : blk p < w.heap.size :=
 World.block_lt_of_cell? w (at_ p 0) (h.cells 0 h0)
theorem Rd.same {w w' : World} {k : IntKind} {p : OA} {xs : List Nat} (h : Rd w k p xs) (hb : 0 < xs.length → w'.heap[blk p]? = w.heap[blk p]?) : Rd w' k p xs :=
 ⟨h.solid, fun j hj => by rw [World.cell?_of_block (w := w) (a := at_ p j) (hb (by omega))]; exact h.cells j hj⟩
theorem Rd.below {w w' : World} {B : Nat} {k : IntKind} {p : OA} {xs : List Nat} (h : Rd w k p xs) (hb : Below B w w') (hp : 0 < xs.length → blk p < B) : Rd w' k p xs :=
 h.same fun h0 => hb.block _ (hp h0)
theorem Rd.past {w w' : World} {k : IntKind} {p : OA} {xs : List Nat} (h : Rd w k p xs) (hb : Below w.heap.size w w') : Rd w' k p xs :=
 h.below hb fun h0 => h.lt h0
theorem Rd.grown {w w' : World} {k : IntKind} {p : OA} {xs : List Nat} {row : Option Nat} (h : Rd w k p xs) (hg : w.grownBy w' row) (hne : some (blk p) ≠ row) : Rd w' k p xs :=
 h.same fun h0 => hg.block _ (h.lt h0) hne
theorem Rd.take {w : World} {k : IntKind} {p : OA} {xs : List Nat} (h : Rd w k p xs) (n : Nat) : Rd w k p (xs.take n) := by
 refine ⟨h.solid.mono (by simp; omega), fun j hj => ?_⟩
 rw [h.cells j (by simp at hj; omega)]
 simp only [List.length_take] at hj
 rw [i0z (by omega)]
theorem l0w (p : OA) (m : Nat) (hp : p.isSome = true) : ((p.map (·.add m)).getD ⟨0, 0, none⟩) = (p.getD ⟨0, 0, none⟩).add m := by
 cases p <;> simp at *
theorem t0h (p : OA) (m j : Nat) (hp : p.isSome = true) : at_ (p.map (·.add m)) j = at_ p (m + j) := by
 unfold at_
 rw [l0w p m hp]
 unfold Addr.add
 split <;> simp_all [Nat.add_assoc]
theorem Rd.drop {w : World} {k : IntKind} {p : OA} {xs : List Nat} (h : Rd w k p xs) (n : Nat) : Rd w k (p.map (·.add n)) (xs.drop n) := by
 refine ⟨fun h0 => ?_, fun j hj => ?_⟩
 · have h1 := h.solid (by simp at h0; omega)
   refine ⟨by simpa using h1.1, ?_⟩
   rw [l0w p n h1.1]
   unfold Addr.add
   split
   · exact h1.2
   · rfl
 · simp only [List.length_drop] at hj
   have h1 := h.solid (by omega)
   rw [t0h p n j h1.1, h.cells (n + j) (by omega), d0z]
def Own (w : World) (base : Nat) (k : IntKind) (e : TypeId) (p : OA) (c : Nat) (xs : List Nat) : Prop :=
 w.ownsRow base e 1 (.slice p xs.length c) xs.length (xs.map fun x : Nat => Value.int k (x : Int))
theorem Own.nil (w : World) (base : Nat) (k : IntKind) (e : TypeId) : Own w base k e none 0 [] := World.ownsRow_nil w base e 1
theorem Own.form {w : World} {base : Nat} {k : IntKind} {e : TypeId} {p : OA} {c : Nat} {xs : List Nat} (h : Own w base k e p c xs) :
 (p = none ∧ c = 0 ∧ xs = []) ∨ ∃ g, p = some ⟨g, 0, none⟩ ∧ base ≤ g ∧ g < w.heap.size ∧ xs.length ≤ c ∧ c ≤ maxLen := by
 rcases h.2 with ⟨h1, h2⟩ | ⟨g, cap, cur, hv, hb, hg, hn, hc, _, _⟩
 · left
   simp only [Value.slice.injEq] at h1
   exact ⟨h1.1, h1.2.2, List.eq_nil_of_length_eq_zero h2⟩
 · right
   simp only [Value.slice.injEq] at hv
   obtain ⟨rfl, _, rfl⟩ := hv
   exact ⟨g, rfl, hb, (Array.getElem?_eq_some_iff.1 hg).1, hn, hc⟩
theorem Own.mono {w : World} {base b' : Nat} {k : IntKind} {e : TypeId} {p : OA} {c : Nat} {xs : List Nat} (h : Own w base k e p c xs) (hb : b' ≤ base) : Own w b' k e p c xs := by
 refine ⟨h.1, ?_⟩
 rcases h.2 with h1 | ⟨g, cap, cur, hv, hbg, r⟩
 · exact .inl h1
 · exact .inr ⟨g, cap, cur, hv, by omega, r⟩
theorem Own.le_cap {w : World} {base : Nat} {k : IntKind} {e : TypeId} {p : OA} {c : Nat} {xs : List Nat} (h : Own w base k e p c xs) : xs.length ≤ c := by
 rcases h.form with ⟨_, rfl, rfl⟩ | ⟨g, _, _, _, h, _⟩
 · simp
 · exact h
theorem Own.rd {w : World} {base : Nat} {k : IntKind} {e : TypeId} {p : OA} {c : Nat} {xs : List Nat} (h : Own w base k e p c xs) : Rd w k p xs := by
 rcases h.form with ⟨rfl, _, rfl⟩ | ⟨g, rfl, _⟩
 · exact Rd.nil w k none
 · refine ⟨fun _ => ⟨rfl, rfl⟩, fun j hj => ?_⟩
   have h1 := World.ownsRow.cellAt (w := w) (base := base) (e := e) (size := 1) (g := g) (n := xs.length) (cap := c) h j (by omega)
   simp only [at_, Option.getD_some, Nat.zero_add]
   rw [h1]
   simp [hj, b0k]
theorem Own.solid {w : World} {base : Nat} {k : IntKind} {e : TypeId} {p : OA} {c : Nat} {xs : List Nat} (h : Own w base k e p c xs) : h0n p xs.length := h.rd.solid
theorem Own.blk_lt {w : World} {base : Nat} {k : IntKind} {e : TypeId} {p : OA} {c : Nat} {xs : List Nat} (h : Own w base k e p c xs) (hp : p.isSome = true) : base ≤ blk p ∧ blk p < w.heap.size := by
 rcases h.form with ⟨rfl, _, rfl⟩ | ⟨g, rfl, h1, h2, _⟩
 · simp at hp
 · exact ⟨h1, h2⟩
theorem Own.same {w w' : World} {base : Nat} {k : IntKind} {e : TypeId} {p : OA} {c : Nat} {xs : List Nat} (h : Own w base k e p c xs) (hb : p.isSome = true → w'.heap[blk p]? = w.heap[blk p]?) : Own w' base k e p c xs := by
 refine ⟨h.1, ?_⟩
 rcases h.2 with h1 | ⟨g, cap, cur, hv, hbg, hg, r⟩
 · exact .inl h1
 · simp only [Value.slice.injEq] at hv
   obtain ⟨rfl, h2, rfl⟩ := hv
   exact .inr ⟨g, c, cur, rfl, hbg, by rw [← hg]; exact hb rfl, r⟩
theorem Own.below {w w' : World} {base B : Nat} {k : IntKind} {e : TypeId} {p : OA} {c : Nat} {xs : List Nat} (h : Own w base k e p c xs) (hb : Below B w w') (hp : p.isSome = true → blk p < B) : Own w' base k e p c xs :=
 h.same fun h0 => hb.block _ (hp h0)
theorem Own.past {w w' : World} {base : Nat} {k : IntKind} {e : TypeId} {p : OA} {c : Nat} {xs : List Nat} (h : Own w base k e p c xs) (hb : Below w.heap.size w w') : Own w' base k e p c xs :=
 h.below hb fun h0 => (h.blk_lt h0).2
theorem Own.grown {w w' : World} {base : Nat} {k : IntKind} {e : TypeId} {p : OA} {c : Nat} {xs : List Nat} {row : Option Nat} (h : Own w base k e p c xs) (hg : w.grownBy w' row) (hne : p.isSome = true → some (blk p) ≠ row) : Own w' base k e p c xs :=
 h.same fun h0 => hg.block _ (h.blk_lt h0).2 (hne h0)
theorem Rd.drew {w : World} {k : IntKind} {p : OA} {xs : List Nat} (h : Rd w k p xs) : Rd w.drew k p xs := ⟨h.solid, h.cells⟩
theorem Own.drew {w : World} {base : Nat} {k : IntKind} {e : TypeId} {p : OA} {c : Nat} {xs : List Nat} (h : Own w base k e p c xs) : Own w.drew base k e p c xs := ⟨h.1, h.2⟩
theorem Rd.drewN {w : World} {k : IntKind} {p : OA} {xs : List Nat} (h : Rd w k p xs) (n : Nat) : Rd (w.drewN n) k p xs := h.past (below_drewN (Below.refl _ _) n)
theorem Own.drewN {w : World} {base : Nat} {k : IntKind} {e : TypeId} {p : OA} {c : Nat} {xs : List Nat} (h : Own w base k e p c xs) (n : Nat) : Own (w.drewN n) base k e p c xs := h.past (below_drewN (Below.refl _ _) n)
theorem Own.laid {w : World} {base : Nat} {k : IntKind} {e : TypeId} {p : OA} {c : Nat} {xs : List Nat} (h : Own w base k e p c xs) (o : Obj) : Own (w.alloc o) base k e p c xs :=
 h.past ((Below.refl _ _).alloc (Nat.le_refl _) o)
theorem Rd.laid {w : World} {k : IntKind} {p : OA} {xs : List Nat} (h : Rd w k p xs) (o : Obj) : Rd (w.alloc o) k p xs :=
 h.past ((Below.refl _ _).alloc (Nat.le_refl _) o)
theorem z0y (w : World) (k : IntKind) (e : TypeId) (m n : Int) (h0 : 0 ≤ m) (h1 : 0 ≤ n) : Own (w.alloc (.cells #[.int k m, .int k n] e)) w.heap.size k e (some ⟨w.heap.size, 0, none⟩) 2 [m.toNat, n.toNat] := by
 unfold Own
 simp only [List.map_cons, List.map_nil, Int.toNat_of_nonneg h0, Int.toNat_of_nonneg h1, List.length_cons, List.length_nil]
 exact World.ownsRow_lit w #[.int k m, .int k n] 2 (Nat.le_refl _) (by simp [maxLen]) rfl
theorem t0i (w : World) (k : IntKind) (e : TypeId) (m : Int) (h0 : 0 ≤ m) : Own (w.alloc (.cells #[.int k m] e)) w.heap.size k e (some ⟨w.heap.size, 0, none⟩) 1 [m.toNat] := by
 unfold Own
 simp only [List.map_cons, List.map_nil, Int.toNat_of_nonneg h0, List.length_cons, List.length_nil]
 exact World.ownsRow_lit w #[.int k m] 1 (Nat.le_refl _) (by simp [maxLen]) rfl
theorem Own.take {w : World} {base : Nat} {k : IntKind} {e : TypeId} {p : OA} {c : Nat} {xs : List Nat} (h : Own w base k e p c xs) (n : Nat) : Own w base k e p c (xs.take n) := by
 by_cases hn : xs.length ≤ n
 · rw [List.take_of_length_le hn]; exact h
 · refine ⟨by simp, ?_⟩
   rcases h.2 with ⟨h1, h2⟩ | ⟨g, cap, cur, hv, hbg, hg, hnc, hc, hcs, htake⟩
   · omega
   · simp only [Value.slice.injEq] at hv
     obtain ⟨rfl, _, rfl⟩ := hv
     have hl : (xs.take n).length = n := by simp; omega
     refine .inr ⟨g, c, cur, by rw [hl], hbg, hg, by omega, hc, hcs, ?_⟩
     rw [hl, Nat.mul_one, List.map_take, ← htake, List.take_take]
     congr 1
     omega
theorem h0o {w : World} {base : Nat} {k : IntKind} {e : TypeId} {p : OA} {c : Nat} {xs : List Nat} (h : Own w base k e p c xs) (j : Nat) (hj : j < xs.length) (n : Nat) :
 Own (w.setCell (at_ p j) (.int k (n : Int))) base k e p c (xs.set j n) ∧ w.grownBy (w.setCell (at_ p j) (.int k (n : Int))) (some (blk p)) ∧ base ≤ blk p := by
 rcases h.form with ⟨rfl, _, rfl⟩ | ⟨g, rfl, hb, _⟩
 · simp at hj
 · have h1 := World.ownsRow.stored (w := w) (base := base) (e := e) (size := 1) (g := g) (n := xs.length) (cap := c) h j (.int k (n : Int))
   simp only [at_, Option.getD_some, Nat.zero_add]
   refine ⟨?_, h1.2, hb⟩
   unfold Own
   rw [List.length_set, List.map_set]
   exact h1.1
theorem f0o {w : World} {base : Nat} {k : IntKind} {e : TypeId} {p : OA} {c : Nat} {xs : List Nat} (h : Own w base k e p c xs) (j : Nat) (hj : j < xs.length) : w.frozen? (at_ p j) = false := by
 rcases h.form with ⟨rfl, _, rfl⟩ | ⟨g, rfl, hb, _⟩
 · simp at hj
 · simpa [at_] using World.ownsRow.frozenAt (w := w) (base := base) (e := e) (size := 1) (g := g) (n := xs.length) (cap := c) h j
def n0r (p q : OA) (ys : List Nat) : Prop := 0 < ys.length → p.isSome = true → blk p ≠ blk q
theorem n0r.none (q : OA) (ys : List Nat) : n0r none q ys := fun _ h => by simp at h
theorem Rd.written {w w' : World} {k : IntKind} {p q : OA} {ys : List Nat} (h : Rd w k q ys) (hg : w.grownBy w' (some (blk p))) (ha : n0r p q ys) (hp : p.isSome = true) : Rd w' k q ys :=
 h.same fun h0 => hg.block _ (h.lt h0) fun e => ha h0 hp (by simpa using e.symm)
theorem n0r.next {w : World} {k : IntKind} {p p' q : OA} {ys : List Nat} (h : n0r p q ys) (hr : Rd w k q ys) (hat : p'.isSome = true → p.map (·.block) = some (blk p') ∨ blk p' = w.heap.size) : n0r p' q ys := by
 intro h0 hp
 rcases hat hp with e | e
 · cases p with
   | none => simp at e
   | some a => simp at e; rw [← e]; exact h h0 rfl
 · have := hr.lt h0; omega
section laws
variable {P : Program} (w : World)
theorem z0d (p : OA) (n j : Nat) (h : h0n p n) (h0 : 0 < n) : (p.getD ⟨0, 0, none⟩).add j = at_ p j := by
 have h1 := h h0
 unfold Addr.add at_
 split
 · rename_i hj; subst hj
   generalize p.getD ⟨0, 0, none⟩ = a at *
   cases a; simp at *; exact h1.2
 · rfl
@[go_sem] theorem run_indexAt_solid (t : TypeId) (p : OA) (n c : Nat) (k : IntKind) (i : Int) (h : P.underlying t = some (.slice (P.elem t))) (hp : h0n p n) :
 (Instr.indexAt t (.slice p n c) (.int k i)).run P w =
  if 0 ≤ i ∧ i < n then ((sizeOf (P.elem t)).run P w).andThen fun s w => .ok (.pointer (some (at_ p (i.toNat * s)))) w else (boundsPanic k i n .index).run P w := by
 cases p with
 | none =>
  have hn : n = 0 := by
   rcases Nat.eq_zero_or_pos n with h0 | h0
   · exact h0
   · have := (hp h0).1; simp at this
  subst hn
  rw [if_neg (by omega)]
  simp [Instr.indexAt, run_underlying h, asIntOf]
 | some a =>
  rw [run_indexAt_slice (h := h)]
  by_cases hi : 0 ≤ i ∧ i < n
  · rw [if_pos hi, if_pos hi]
    have ha := fun s => z0d (some a) n (i.toNat * s) hp (by omega)
    simp only [Option.getD_some] at ha
    simp only [ha]
  · rw [if_neg hi, if_neg hi]
@[go_sem] theorem run_eql_slice_none (t : TypeId) (p : OA) (n c : Nat) (h : P.underlying t = some (.slice (P.elem t))) :
 (binOp .eql t (.slice p n c) (.slice none 0 0)).run P w = .ok (.bool p.isNone) w := Lib.run_eql_slice_nil w t (P.elem t) p n c 0 0 h
end laws
structure SlTy (P : Program) (t e : TypeId) (k : IntKind) (bytes : Nat) : Prop where
 ht : P.underlying t = some (.slice e)
 hi : ∃ i, P.info? e = some i ∧ i.zero = some (.int k 0) ∧ i.size = 1 ∧ i.bytes = bytes
 le : bytes ≤ 8
section walk
variable {P : Program} {ops : Array Oper} {rest : List Oper} {o : Oper} {a : Act} {K : Act → World → Prop} {Q : Exit → Act → World → Prop} {w : World}
theorem a0z {w w' : World} {B : Nat} {row : Option Nat} (hg : w.grownBy w' row) (hB : B ≤ w.heap.size) (hr : ∀ k, row = some k → B ≤ k) : Below B w w' :=
 (Below.refl B w).grown hg hB hr
theorem x0a (x y : Operand) (t : TypeId) (ho : o.op = .store t x y) {ts k bytes} (e : TypeId) (hty : SlTy P ts t k bytes)
 (base : Nat) (p : OA) (c : Nat) (xs : List Nat) (hown : Own w base k e p c xs) (j : Nat) (hj : j < xs.length) (n : Int) (h0 : 0 ≤ n)
 (hx : a.eval x = .pointer (some (at_ p j))) (hy : a.eval y = .int k n)
 (h : ∀ w', Own w' base k e p c (xs.set j n.toNat) → w.grownBy w' (some (blk p)) → Below base w w' → K (a.put o.dst undef) w') : o.wp P a w K Q := by
 obtain ⟨i, hi, hz, hs, hb⟩ := hty.hi
 have h1 := h0o hown j hj n.toNat
 have h2 := f0o hown j hj
 have h3 := hown.rd.cells j hj
 have en : (n.toNat : Int) = n := Int.toNat_of_nonneg h0
 rw [en] at h1
 unfold Oper.wp execOp
 simp only [ho, hx, hy, Instr.storeAt, Instr.sureAddr]
 have e1 : (storeVar t (at_ p j) (.int k n)).run P w = .ok () (w.setCell (at_ p j) (.int k n)) := by
  have ha : (at_ p j).add 0 = at_ p j := by simp [Addr.add]
  simp [storeVar, sizeOf, typeInfo, hi, hs, Value.cells, storeCells, ha, store, Sem.run, h2, h3]
 simp [e1, Oper.upon]
 have hlt := hown.rd.lt (by omega)
 exact (h _ h1.1 h1.2.1 (a0z h1.2.1 (Nat.le_of_lt (Nat.lt_of_le_of_lt h1.2.2 hlt)) (fun k hk => by cases hk; exact h1.2.2)))
theorem a0j (hgd : o.guard = none) (x y : Operand) (t : TypeId) (ho : o.op = .store t x y) {ts k bytes} (e : TypeId) (hty : SlTy P ts t k bytes)
 (base : Nat) (p : OA) (c : Nat) (xs : List Nat) (hown : Own w base k e p c xs) (j : Nat) (hj : j < xs.length) (n : Int) (h0 : 0 ≤ n)
 (hx : a.eval x = .pointer (some (at_ p j))) (hy : a.eval y = .int k n)
 (h : ∀ w', Own w' base k e p c (xs.set j n.toNat) → w.grownBy w' (some (blk p)) → Below base w w' → wpList P ops Q rest (a.put o.dst undef) w') : wpList P ops Q (o :: rest) a w :=
 wpList_plain hgd fun _ hK => x0a x y t ho e hty base p c xs hown j hj n h0 hx hy fun w' h900 h901 h902 => hK _ _ (h w' h900 h901 h902)
theorem p0d {k : IntKind} {xs : List Nat} : ∀ u ∈ xs.map (fun x : Nat => Value.int k (x : Int)), u.oneCell' = true := by
 intro u hu
 obtain ⟨x, _, rfl⟩ := List.mem_map.1 hu
 rfl
theorem g0p (w : World) {t e : TypeId} {k : IntKind} {bytes : Nat} (hty : SlTy P t e k bytes) (ty : TypeId) (base : Nat) (p : OA) (c : Nat) (xs : List Nat) (hown : Own w base k e p c xs)
 (q : OA) (c2 : Nat) (ys : List Nat) (hrd : Rd w k q ys) (hb : (xs.length + ys.length) * bytes ≤ 140737488355328) (h63 : xs.length + ys.length ≤ maxLen) (hbase : base ≤ w.heap.size) :
 ∃ p' c' w', (Builtin.append_ #[t, t] ty #[.slice p xs.length c, .slice q ys.length c2]).run P w = .ok (.slice p' (xs.length + ys.length) c') w' ∧ Own w' base k e p' c' (xs ++ ys) ∧
  w.grownBy w' (p.map (·.block)) ∧ ((p' = none ↔ p = none ∧ ys.length = 0) ∧ (p'.isSome = true → p.map (·.block) = some (blk p') ∨ blk p' = w.heap.size)) := by
 obtain ⟨i, hi, hz, hs, hbt⟩ := hty.hi
 by_cases hq : q = none
 · have h0 : ys = [] := by
    rcases Nat.eq_zero_or_pos ys.length with h | h
    · exact List.eq_nil_of_length_eq_zero h
    · have := (hrd.solid h).1; simp [hq] at this
   subst h0 hq
   refine ⟨p, c, w, ?_, by simpa using hown, ⟨rfl, rfl, rfl, Nat.le_refl _, fun _ _ _ => rfl⟩, by simp, fun h => .inl (by cases p <;> simp_all [blk])⟩
   have hle := hown.le_cap
   rcases hown.form with ⟨rfl, rfl, rfl⟩ | ⟨g, rfl, _⟩
   · simp [Builtin.append_, run_underlying hty.ht, sizeOf, typeInfo, hi, Builtin.lenOf, Builtin.firstCells]
   · simp [Builtin.append_, run_underlying hty.ht, sizeOf, typeInfo, hi, Builtin.lenOf, Builtin.firstCells, hle, storeCells]
 · obtain ⟨b, rfl⟩ := Option.ne_none_iff_exists'.1 hq
   have hnews : ∀ j u, (ys.map fun x : Nat => Value.int k (x : Int))[j]? = some u → w.cell? (b.add j) = some u := by
    intro j u hu
    have hj : j < ys.length := by
     have := (List.getElem?_eq_some_iff.1 hu).1; simpa using this
    have h1 := hrd.cells j hj
    have h2 := z0d (some b) ys.length j hrd.solid (by omega)
    simp only [Option.getD_some] at h2
    rw [h2, h1]
    rw [← hu]
    simp [hj, b0k]
   obtain ⟨v', w', hr, ho, hg, hn, hat⟩ := run_append_own_at (P := P) w base t ty e i (.int k 0) 1 bytes hty.ht hi hz hs hbt rfl (by omega) _ _ _ hown b ys.length c2 (ys.map fun x : Nat => Value.int k (x : Int)) (by simp) hnews p0d h63 hb hbase
   have hv : ∃ p' c', v' = .slice p' (xs.length + ys.length) c' := by
    rcases ho.2 with ⟨h1, h2⟩ | ⟨g, cap, cur, h1, _⟩
    · exact ⟨none, 0, by rw [h1]; congr 1; omega⟩
    · exact ⟨_, _, h1⟩
   obtain ⟨p', c', rfl⟩ := hv
   refine ⟨p', c', w', hr, ?_, ?_, ?_⟩
   · unfold Own
     rw [List.length_append, List.map_append]
     exact ho
   · cases p with
     | none => exact hg
     | some a => exact hg
   · refine ⟨?_, fun hp' => ?_⟩
     rotate_left
     · obtain ⟨g, rfl⟩ := Option.isSome_iff_exists.1 hp'
       rcases hat with hat | hat
       · left
         simp only [Value.ownBlock] at hat
         cases p with
         | none => simp at hat
         | some a => simpa [blk] using hat.symm
       · right
         simpa [Value.ownBlock, blk] using hat
     constructor
     · rintro rfl
       rcases ho.2 with ⟨h1, h2⟩ | ⟨g, cap, cur, h1, _⟩
       · have h3 := hn.1 h1
         simp only [Value.slice.injEq] at h3
         exact ⟨h3.1.1, h3.2⟩
       · simp at h1
     · rintro ⟨rfl, h0⟩
       have hx0 : xs.length = 0 ∧ c = 0 := by
        rcases hown.form with ⟨_, h1, h2⟩ | ⟨g, h1, _⟩
        · exact ⟨by simp [h2], h1⟩
        · simp at h1
       have h3 := hn.2 ⟨by rw [hx0.1, hx0.2], h0⟩
       simp only [Value.slice.injEq] at h3
       exact h3.1
theorem n0s (s x : Operand) (t : TypeId) (ho : o.op = .call { callee := .builtin .append, args := #[s, x], argTypes := #[t, t] })
 {e : TypeId} {k : IntKind} {bytes : Nat} (hty : SlTy P t e k bytes) (base : Nat) (p : OA) (n c : Nat) (xs : List Nat) (hown : Own w base k e p c xs) (hn : n = xs.length)
 (q : OA) (m c2 : Nat) (ys : List Nat) (hrd : Rd w k q ys) (hm : m = ys.length) (hs : a.eval s = .slice p n c) (hx : a.eval x = .slice q m c2)
 (hb : xs.length + ys.length ≤ 4000000000) (hbase : base ≤ w.heap.size)
 (h : ∀ p' c' w', Own w' base k e p' c' (xs ++ ys) → w.grownBy w' (p.map (·.block)) → Below base w w' → ((p' = none ↔ p = none ∧ ys.length = 0) ∧ (p'.isSome = true → p.map (·.block) = some (blk p') ∨ blk p' = w.heap.size)) → K (a.put o.dst (.slice p' (xs ++ ys).length c')) w') : o.wp P a w K Q := by
 subst hn hm
 obtain ⟨p', c', w', hr, h1, h2, h3⟩ := g0p (P := P) w hty o.type base p c xs hown q c2 ys hrd (by have := Nat.mul_le_mul hb hty.le; omega) (by simp only [maxLen]; omega) hbase
 unfold Oper.wp execOp
 simp only [ho, resolve, invoke, builtin, Sem.run_bind, Sem.run_pure, Result.andThen_ok, List.map_toArray, List.map_cons, List.map_nil, hs, hx, hr]
 have h4 := h p' c' w' h1 h2 (a0z h2 hbase fun k hk => by
   cases p with
   | none => cases hk
   | some a => have := (hown.blk_lt rfl).1; cases hk; exact this) h3
 rw [List.length_append] at h4
 exact h4
theorem a0o (hgd : o.guard = none) (s x : Operand) (t : TypeId) (ho : o.op = .call { callee := .builtin .append, args := #[s, x], argTypes := #[t, t] })
 {e : TypeId} {k : IntKind} {bytes : Nat} (hty : SlTy P t e k bytes) (base : Nat) (p : OA) (n c : Nat) (xs : List Nat) (hown : Own w base k e p c xs) (hn : n = xs.length)
 (q : OA) (m c2 : Nat) (ys : List Nat) (hrd : Rd w k q ys) (hm : m = ys.length) (hs : a.eval s = .slice p n c) (hx : a.eval x = .slice q m c2)
 (hb : xs.length + ys.length ≤ 4000000000) (hbase : base ≤ w.heap.size)
 (h : ∀ p' c' w', Own w' base k e p' c' (xs ++ ys) → w.grownBy w' (p.map (·.block)) → Below base w w' → ((p' = none ↔ p = none ∧ ys.length = 0) ∧ (p'.isSome = true → p.map (·.block) = some (blk p') ∨ blk p' = w.heap.size)) → wpList P ops Q rest (a.put o.dst (.slice p' (xs ++ ys).length c')) w') : wpList P ops Q (o :: rest) a w :=
 wpList_plain hgd fun _ hK => n0s s x t ho hty base p n c xs hown hn q m c2 ys hrd hm hs hx hb hbase fun p' c' w' h900 h901 h902 h903 => hK _ _ (h p' c' w' h900 h901 h902 h903)
theorem p0e {E : Prop} (hgd : o.guard = none) (s x : Operand) (t : TypeId) (ho : o.op = .call { callee := .builtin .append, args := #[s, x], argTypes := #[t, t] })
 {e : TypeId} {k : IntKind} {bytes : Nat} (hty : SlTy P t e k bytes) (base : Nat) (p : OA) (n c : Nat) (xs : List Nat) (hown : Own w base k e p c xs) (hn : n = xs.length)
 (q : OA) (m c2 : Nat) (ys : List Nat) (hrd : Rd w k q ys) (hm : m = ys.length) (hs : a.eval s = .slice p n c) (hx : a.eval x = .slice q m c2)
 (hb : xs.length + ys.length ≤ 4000000000) (hbase : base ≤ w.heap.size)
 (h : ∀ p' c' w', Own w' base k e p' c' (xs ++ ys) → w.grownBy w' (p.map (·.block)) → Below base w w' → ((p' = none ↔ p = none ∧ ys.length = 0) ∧ (p'.isSome = true → p.map (·.block) = some (blk p') ∨ blk p' = w.heap.size)) → K (a.put o.dst (.slice p' (xs ++ ys).length c')) w') : if Region.wanted o (yielded ops a.tmps) = true then o.wp P a w K Q else E := by
 rw [if_pos (by simp [Region.wanted, hgd])]
 exact n0s s x t ho hty base p n c xs hown hn q m c2 ys hrd hm hs hx hb hbase h
theorem z0z (x y : Operand) (t : TypeId) (ho : o.op = .makeSlice t x y) {e : TypeId} {k : IntKind} {bytes : Nat} (hty : SlTy P t e k bytes) (kl kc : IntKind) (n : Nat) (i1 i2 : Int)
 (hx : a.eval x = .int kl i1) (hy : a.eval y = .int kc i2) (h1 : i1 = n) (h2 : i2 = n) (hb : n ≤ 4000000000)
 (h : ∀ p' c' w', Own w' w.heap.size k e p' c' (List.replicate n 0) → Below w.heap.size w w' → w.heap.size < w'.heap.size → K (a.put o.dst (.slice p' n c')) w') : o.wp P a w K Q := by
 subst h1 h2
 obtain ⟨i, hi, hz, hs, hbt⟩ := hty.hi
 obtain ⟨w', hr, h1, h2⟩ := run_make_full (P := P) w w.heap.size t e i (.int k 0) 1 hty.ht hi hz hs kl kc n (by rw [hbt]; have := Nat.mul_le_mul hty.le hb; omega) (by simp only [maxLen]; omega) (Nat.le_refl _)
 unfold Oper.wp execOp
 simp only [ho, hx, hy]
 simp only [Sem.run_bind, hr, Result.andThen_ok, Sem.run_pure]
 refine (h _ _ w' ?_ (a0z h2 (Nat.le_refl _) (fun k hk => by cases hk)) ?_)
 · unfold Own
   rw [List.length_replicate, List.map_replicate]
   have : (madeCells (Value.cells (.int k 0)) (n * 1)).toList = List.replicate n (.int k ((0 : Nat) : Int)) := by
    rw [Nat.mul_one]; exact toList_madeCells_one _ _
   rw [← this]
   exact h1
 · exact (World.ownsRow.lt h1 w.heap.size rfl).2
theorem i0q (hgd : o.guard = none) (x y : Operand) (t : TypeId) (ho : o.op = .makeSlice t x y) {e : TypeId} {k : IntKind} {bytes : Nat} (hty : SlTy P t e k bytes) (kl kc : IntKind) (n : Nat) (i1 i2 : Int)
 (hx : a.eval x = .int kl i1) (hy : a.eval y = .int kc i2) (h1 : i1 = n) (h2 : i2 = n) (hb : n ≤ 4000000000)
 (h : ∀ p' c' w', Own w' w.heap.size k e p' c' (List.replicate n 0) → Below w.heap.size w w' → w.heap.size < w'.heap.size → wpList P ops Q rest (a.put o.dst (.slice p' n c')) w') : wpList P ops Q (o :: rest) a w :=
 wpList_plain hgd fun _ hK => z0z x y t ho hty kl kc n i1 i2 hx hy h1 h2 hb fun p' c' w' h900 h901 h902 => hK _ _ (h p' c' w' h900 h901 h902)
theorem b1o : Array.range 1 = #[0] := by decide
theorem t0j (t : TypeId) (ho : o.op = .buildSlice t 0 #[]) {e : TypeId} {k : IntKind} {bytes : Nat} (hty : SlTy P t e k bytes)
 (h : ∀ p' w', Own w' w.heap.size k e p' 0 [] → Below w.heap.size w w' → w.heap.size < w'.heap.size → p'.isSome = true → K (a.put o.dst (.slice p' 0 0)) w') : o.wp P a w K Q := by
 obtain ⟨i, hi, hz, hs, hbt⟩ := hty.hi
 unfold Oper.wp execOp
 simp only [ho]
 have hr : (Instr.buildSlice t 0 #[]).run P w = .ok (.slice (some ⟨w.heap.size, 0, none⟩) 0 0) (w.alloc (.cells #[] e)) := by
  simp [Instr.buildSlice, run_underlying hty.ht, sizeOf, typeInfo, hi, Instr.fill, newRow, Array.range_zero']
 simp [hr, Oper.upon]
 exact (h _ _ (World.ownsRow_lit w #[] 0 (Nat.le_refl _) (by simp [maxLen]) rfl) ((Below.refl _ _).alloc (Nat.le_refl _) _) (by simp) rfl)
theorem k0s (hgd : o.guard = none) (t : TypeId) (ho : o.op = .buildSlice t 0 #[]) {e : TypeId} {k : IntKind} {bytes : Nat} (hty : SlTy P t e k bytes)
 (h : ∀ p' w', Own w' w.heap.size k e p' 0 [] → Below w.heap.size w w' → w.heap.size < w'.heap.size → p'.isSome = true → wpList P ops Q rest (a.put o.dst (.slice p' 0 0)) w') : wpList P ops Q (o :: rest) a w :=
 wpList_plain hgd fun _ hK => t0j t ho hty fun p' w' h900 h901 h902 h903 => hK _ _ (h p' w' h900 h901 h902 h903)
theorem t0k (t : TypeId) (y : Operand) (ho : o.op = .buildSlice t 1 #[(0, y)]) {e : TypeId} {k : IntKind} {bytes : Nat} (hty : SlTy P t e k bytes) (n : Int) (h0 : 0 ≤ n) (hy : a.eval y = .int k n)
 (h : ∀ p' w', Own w' w.heap.size k e p' 1 [n.toNat] → Below w.heap.size w w' → w.heap.size < w'.heap.size → p'.isSome = true → K (a.put o.dst (.slice p' 1 1)) w') : o.wp P a w K Q := by
 obtain ⟨i, hi, hz, hs, hbt⟩ := hty.hi
 unfold Oper.wp execOp
 have en : (n.toNat : Int) = n := Int.toNat_of_nonneg h0
 simp only [ho]
 have hr : (Instr.buildSlice t 1 #[(0, .int k n)]).run P w = .ok (.slice (some ⟨w.heap.size, 0, none⟩) 1 1) (w.alloc (.cells #[.int k n] e)) := by
  simp [Instr.buildSlice, run_underlying hty.ht, sizeOf, typeInfo, hi, hs, Instr.fill, newRow, zeroValue, hz, Value.cells, List.zipIdx, b1o]
 simp [hr, hy, Oper.upon]
 refine (h _ _ ?_ ((Below.refl _ _).alloc (Nat.le_refl _) _) (by simp) rfl)
 unfold Own
 simp only [List.map_cons, List.map_nil, en, List.length_cons, List.length_nil]
 exact World.ownsRow_lit w #[.int k n] 1 (Nat.le_refl _) (by simp [maxLen]) rfl
theorem a0p (hgd : o.guard = none) (t : TypeId) (y : Operand) (ho : o.op = .buildSlice t 1 #[(0, y)]) {e : TypeId} {k : IntKind} {bytes : Nat} (hty : SlTy P t e k bytes) (n : Int) (h0 : 0 ≤ n) (hy : a.eval y = .int k n)
 (h : ∀ p' w', Own w' w.heap.size k e p' 1 [n.toNat] → Below w.heap.size w w' → w.heap.size < w'.heap.size → p'.isSome = true → wpList P ops Q rest (a.put o.dst (.slice p' 1 1)) w') : wpList P ops Q (o :: rest) a w :=
 wpList_plain hgd fun _ hK => t0k t y ho hty n h0 hy fun p' w' h900 h901 h902 h903 => hK _ _ (h p' w' h900 h901 h902 h903)
end walk
end Go.Slip
namespace Go.Proofs.YthcoapcffhgckaaDoor
open Go.RowKit Go.Slip
theorem tyOf {P : Program} {t e : TypeId} {k : IntKind} {bytes : Nat} (h1 : P.underlying t = some (.slice e))
 (h2 : (P.info? e).map (fun i => (i.zero, i.size, i.bytes)) = some (some (.int k 0), 1, bytes)) (h3 : bytes ≤ 8) : SlTy P t e k bytes := by
 refine ⟨h1, ?_, h3⟩
 cases h : P.info? e with
 | none => rw [h] at h2; simp at h2
 | some i => rw [h] at h2; simp at h2; exact ⟨i, rfl, h2.1, h2.2.1, h2.2.2⟩
theorem b0l : SlTy Tryd.prog 23 55 .u32 4 := tyOf (by kernel_rfl) (by kernel_rfl) (by omega)
theorem tyN : SlTy Tryd.prog 32 3 .i64 8 := tyOf (by kernel_rfl) (by kernel_rfl) (by omega)
theorem n0t {w : World} {a : Addr} {v : Value} (h : w.cell? a = some v) : a.spot = none := by
 unfold World.cell? at h
 split at h
 · split at h
   · cases h
   · rename_i hs; simpa using hs
 · cases h
theorem j0d {w : World} {x : Addr} {len : Nat} {zs : List Int} (hl : len ≤ zs.length) (hc : ∀ i, i < zs.length → w.cell? (x.add i) = some (.int .u32 (zs.getD i 0))) (hw : ∀ n ∈ zs, (Lit.int .u32 n).wf = true) :
 ∃ xs : List Nat, Rd w .u32 (some x) xs ∧ len = xs.length ∧ ∀ d ∈ xs, d < B32 := by
 have hb : ∀ n ∈ zs, 0 ≤ n ∧ n < 4294967296 := by
  intro n hn
  have h := hw n hn
  simp [Lit.wf, IntKind.min, IntKind.max, IntKind.signed, IntKind.bits] at h
  omega
 refine ⟨(zs.take len).map Int.toNat, ⟨fun h0 => ?_, fun j hj => ?_⟩, by simp; omega, fun d hd => ?_⟩
 · simp at h0
   have h1 := hc 0 (by omega)
   refine ⟨rfl, ?_⟩
   have h2 := n0t h1
   simpa [Addr.add] using h2
 · simp only [List.length_map, List.length_take] at hj
   have hjz : j < zs.length := by omega
   have hspot : x.spot = none := by
    have h2 := n0t (hc 0 (by omega))
    simpa [Addr.add] using h2
   have hat : at_ (some x) j = x.add j := by
    unfold at_ Addr.add
    split
    · rename_i h0; subst h0; cases x; simp_all
    · rfl
   rw [hat, hc j hjz]
   have h1 : dg ((zs.take len).map Int.toNat) j = (zs.getD j 0).toNat := by
    rw [b0k (by simp; omega)]
    simp [List.getD, hjz]
   rw [h1]
   have h2 := hb (zs.getD j 0) (by rw [List.getD, List.getElem?_eq_getElem hjz]; exact List.getElem_mem hjz)
   rw [Int.toNat_of_nonneg h2.1]
 · obtain ⟨n, hn, rfl⟩ := List.mem_map.1 hd
   have := hb n (List.mem_of_mem_take hn)
   unfold B32; omega
theorem r0v : ownKnob Tryd.prog.godebug = none := by kernel_rfl
theorem d0c : laidOutB Tryd.prog = true := by kernel_rfl
def g0i (w : World) (k : IntKind) (e : TypeId) (xs : List Nat) (en : Ending) (w' : World) : Prop :=
 ∃ p c, en = .returned (.slice p xs.length c) ∧ Own w' w.heap.size k e p c xs ∧ Below w.heap.size w w'
theorem f0b (p : OA) (n c : Nat) (xs : List Nat) (w : World) (hr : Rd w .u32 p xs) (hn : n = xs.length) (hl : xs.length ≤ 1000000000) :
 Calls Tryd.prog 64 #[.slice p n c] w (g0i w .u32 55 xs) := by
 cases p with
 | none =>
  obtain rfl : xs = [] := by
   rcases Nat.eq_zero_or_pos xs.length with h | h
   · exact List.eq_nil_of_length_eq_zero h
   · have := (hr.solid h).1; simp at this
  go_enter Tryd.func64, Tryd.ntmps64
  go_wp2
  go_ret
  exact ⟨none, 0, rfl, Own.nil _ _ _ _, Below.refl _ _⟩
 | some a =>
  subst hn
  go_enter Tryd.func64, Tryd.ntmps64
  go_wp2_with (first
    | (refine k0s rfl _ rfl b0l ?_; intro p1 w1 ho1 hb1 hz1 hp1)
    | (at_builtin; refine a0o rfl _ _ _ rfl b0l _ _ _ _ _ ho1 rfl _ _ _ _ (hr.past hb1) rfl rfl rfl ?_ ?_ ?_; (simp; omega); omega; intro p2 c2 w2 ho2 hg2 hb2 hn2))
  go_ret
  exact ⟨p2, c2, rfl, ho2, hb1.trans hb2⟩
theorem d0q (p : OA) (n c : Nat) (xs : List Nat) (w : World) (hr : Rd w .u32 p xs) (hn : n = xs.length) (hc : xs.length ≤ c) (hx : ∀ x ∈ xs, x < B32) (hl : xs.length ≤ 4000000000) :
 Calls Tryd.prog 63 #[.slice p n c] w fun e w' => e = .returned (.slice p (dig B32 (val B32 xs)).length c) ∧ w = w' := by
 subst hn
 go_enter Tryd.func63, Tryd.ntmps63
 go_wp2
 go_loop [0] (fun s => ∃ m : Nat, s = .slice p m c ∧ m ≤ xs.length ∧ Hid (∀ j, m ≤ j → dg xs j = 0)) (fun s => b1n s)
 case atStart => exact ⟨_, rfl, Nat.le_refl _, fun j hj => b0c hj⟩
 case round =>
  obtain ⟨m, rfl, hm, hz⟩ := hrel
  have hs := hr.solid.mono hm
  by_cases hm0 : m = 0
  · subst hm0
    go_wp2
    go_ret
    exact ⟨n0q (d0f a0a xs 0 hx hm hz.out (.inl rfl)).symm, rfl⟩
  · have hpos : 0 < m := by omega
    by_cases h0 : dg xs (m - 1) = 0
    · have hcell : w.cell? (at_ p (m - 1)) = some (.int .u32 0) := by rw [hr.cells (m - 1) (by omega), h0]; rfl
      have HZ : Hid (∀ j, m - 1 ≤ j → dg xs j = 0) := fun j hj => by
       by_cases hjm : j = m - 1
       · subst hjm; exact h0
       · exact hz.out j (by omega)
      clear h0 hm0
      go_wp2
      go_round
      case rel => exact ⟨m - 1, rfl, by omega, HZ⟩
      case measure => simp [b1n]; omega
    · have hcell := hr.cells (m - 1) (by omega)
      have h1 : 0 < dg xs (m - 1) := by omega
      have H0 := lHd h0
      clear h0 hm0
      go_wp2
      go_ret
      exact ⟨n0q (d0f a0a xs m hx hm hz.out (.inr H0.out)).symm, rfl⟩
theorem f0c (x y c : Nat) (w : World) (hx : x < 4294967296) (hy : y < 4294967296) (hc : c ≤ 1) :
 Calls Tryd.prog 65 #[.int .u32 x, .int .u32 y, .int .u32 c] w fun e w' =>
  e = .returned (.tuple #[.int .u32 (((x + y + c) % 4294967296 : Nat) : Int), .int .u32 (((x + y + c) / 4294967296 : Nat) : Int)]) ∧ w = w' := by
 go_enter Tryd.func65, Tryd.ntmps65
 go_wp2
 go_ret2
 exact ⟨rfl, rfl⟩
def d0g (L ys : List Nat) (i cr : Nat) (a : Nat) : Prop := (∀ x ∈ L, x < B32) ∧ val B32 L + cr * B32 ^ i = a + val B32 (ys.take i)
theorem d0g.step {L ys : List Nat} {i cr a : Nat} (h : d0g L ys i cr a) (hi : i < L.length) :
 d0g (L.set i ((dg L i + dg ys i + cr) % B32)) ys (i + 1) ((dg L i + dg ys i + cr) / B32) a := by
 refine ⟨g0b L h.1 i _ (Nat.mod_lt _ (by unfold B32; omega)), ?_⟩
 rw [q0u B32 L i _ cr _ hi h.2, a0c]; omega
theorem d0g.carry {L ys : List Nat} {i cr a : Nat} (h : d0g L ys i cr a) (hy : ∀ x ∈ ys, x < B32) (hc : cr ≤ 1) : (dg L i + dg ys i + cr) / B32 ≤ 1 := by
 have h1 := a0f (B := B32) (by unfold B32; omega) L h.1 i
 have h2 := a0f (B := B32) (by unfold B32; omega) ys hy i
 unfold B32 at *; omega
theorem d0g.done0 {L ys : List Nat} {i a b : Nat} (h : d0g L ys i 0 a) (hi : ys.length ≤ i) (hy : val B32 ys = b) (hl : L.length = (dig B32 a).length) : L = dig B32 (a + b) := by
 refine q0v a0a L a b h.1 hl ?_
 have := h.2
 rw [b0n _ _ _ hi, hy] at this
 omega
theorem d0g.done1 {L ys : List Nat} {n cr a b : Nat} (h : d0g L ys n cr a) (hn : L.length = n) (hi : ys.length ≤ n) (hy : val B32 ys = b) (h0 : 0 < cr) (hc : cr ≤ 1) : L ++ [cr] = dig B32 (a + b) := by
 subst hn
 refine q0w a0a L cr _ h.1 h0 (by unfold B32; omega) ?_
 have := h.2
 rw [b0n _ _ _ hi, hy] at this
 exact this
theorem d0g.start (a : Nat) (ys : List Nat) : d0g (dig B32 a) ys 0 0 a := ⟨b0a a0a a, by simp [a0q a0a]⟩
theorem f0p {w w' : World} {k : IntKind} {e : TypeId} {xs ys : List Nat} {p : OA} {n c : Nat} (h : xs = ys) (hn : n = xs.length) (ho : Own w' w.heap.size k e p c xs) (hb : Below w.heap.size w w') : g0i w k e ys (.returned (.slice p n c)) w' := by
 subst h hn; exact ⟨p, c, rfl, ho, hb⟩
theorem b1p (p q : OA) (n m c d : Nat) (a b : Nat) (w : World) (hp : Rd w .u32 p (dig B32 a)) (hq : Rd w .u32 q (dig B32 b)) (hn : n = (dig B32 a).length) (hm : m = (dig B32 b).length)
 (hl : (dig B32 a).length ≤ 1000000000) (hge : (dig B32 b).length ≤ (dig B32 a).length) :
 Calls Tryd.prog 42 #[.slice p n c, .slice q m d] w (g0i w .u32 55 (dig B32 (a + b))) := by
 subst hn hm
 have H0 := lHd (d0g.start a (dig B32 b))
 have HY := lHd (b0a a0a b)
 have HV := lHd (a0q a0a b)
 obtain ⟨xs, hxs⟩ : ∃ xs, xs = dig B32 a := ⟨_, rfl⟩
 have HX : Hid (xs.length = (dig B32 a).length) := by rw [hxs]; rfl
 rw [← hxs] at hp hl hge H0 ⊢
 clear hxs
 generalize dig B32 b = ys at *
 go_enter Tryd.func42, Tryd.ntmps42
 go_wp2_with (go_at_call 64; refine (f0b _ _ _ xs _ hp rfl hl).mono ?_; rintro e w1 ⟨p1, c1, rfl, ho1, hb1⟩)
 go_loopw [6, 20] (fun cv iv wr => ∃ (i cr : Nat) (L : List Nat), iv = .int .i64 i ∧ cv = .int .u32 cr ∧ i ≤ xs.length ∧ cr ≤ 1 ∧ L.length = xs.length ∧ Own wr w.heap.size .u32 55 p1 c1 L ∧ Below w.heap.size w wr ∧ Hid (d0g L ys i cr a))
  (fun _ iv _ => xs.length - (intOf iv).toNat)
 case atStart => exact ⟨0, 0, xs, rfl, rfl, Nat.zero_le _, by omega, rfl, ho1, hb1, H0⟩
 case round =>
  obtain ⟨i, cr, L, rfl, rfl, hi, hcr, hL, hoL, hbL, HR⟩ := hrel
  have hqL := hq.past hbL
  have HLX : Hid (L.length = (dig B32 a).length) := hL.trans HX.out
  by_cases hlt : i < xs.length
  · have hc1 := hoL.rd.cells i (by omega)
    have hsL := hoL.solid
    rw [hL] at hsL
    have hLd := a0f (B := 4294967296) (by omega) L HR.out.1 i
    have hyd := a0f (B := 4294967296) (by omega) ys HY.out i
    have HS := HR.out.step (i := i) (by omega)
    have HC := HR.out.carry HY.out hcr (i := i)
    unfold B32 at HS HC
    by_cases hd : i < ys.length
    · have hc2 := hqL.cells i hd
      have hsq := hqL.solid
      have HS' := lHd HS
      have HC' := lHd HC
      clear HS HC
      go_wp2_with (first
        | (go_at_call 65; refine (f0c _ _ cr _ hLd hyd hcr).mono ?_; rintro e w2 ⟨rfl, rfl⟩)
        | (refine a0j rfl _ _ _ rfl 55 b0l _ _ _ _ hoL i (by omega) _ ?_ rfl rfl ?_; omega; intro w3 ho3 hg3 hb3))
      have e3 : (((dg L i : Int) + dg ys i + cr) % 4294967296).toNat = (dg L i + dg ys i + cr) % 4294967296 := by omega
      rw [e3] at ho3
      go_roundw
      case rel => exact ⟨i + 1, (dg L i + dg ys i + cr) / 4294967296, _, by go_num, by go_num, hlt, HC'.out, by simp [hL], ho3, hbL.trans hb3, HS'⟩
      case measure => simp [intOf]; omega
    · by_cases hc0 : cr = 0
      · subst hc0
        go_wp2
        go_ret
        exact f0p (HR.out.done0 (by omega) HV.out HLX.out) hL.symm hoL hbL
      · have hcp : 1 ≤ cr := by omega
        have ez : dg ys i = 0 := b0c (by omega)
        rw [ez] at HS HC
        have HS' := lHd HS
        have HC' := lHd HC
        clear HS HC ez hyd hc0
        go_wp2_with (first
          | (go_at_call 65; refine (f0c _ 0 cr _ hLd (by omega) hcr).mono ?_; rintro e w2 ⟨rfl, rfl⟩)
          | (refine a0j rfl _ _ _ rfl 55 b0l _ _ _ _ hoL i (by omega) _ ?_ rfl rfl ?_; omega; intro w3 ho3 hg3 hb3))
        have e3 : (((dg L i : Int) + cr) % 4294967296).toNat = (dg L i + 0 + cr) % 4294967296 := by omega
        rw [e3] at ho3
        go_roundw
        case rel => exact ⟨i + 1, (dg L i + 0 + cr) / 4294967296, _, by go_num, by go_num, hlt, HC'.out, by simp [hL], ho3, hbL.trans hb3, HS'⟩
        case measure => simp [intOf]; omega
  · obtain rfl : i = xs.length := by omega
    by_cases hc0 : cr = 0
    · subst hc0
      go_wp2
      go_ret
      exact f0p (HR.out.done0 hge HV.out HLX.out) hL.symm hoL hbL
    · have hcp : 1 ≤ cr := by omega
      clear hc0
      have HD := lHd (HR.out.done1 hL hge HV.out hcp hcr)
      go_wp2_with (first
        | (refine a0p rfl _ _ rfl b0l _ ?_ rfl ?_; omega; intro p2 w2 ho2 hb2 hz2 hp2)
        | (at_builtin; refine a0o rfl _ _ _ rfl b0l _ _ _ _ _ (hoL.past hb2) hL.symm _ _ _ _ ho2.rd rfl rfl rfl ?_ ?_ ?_; (simp; omega); (have := hbL.size; omega); intro p3 c3 w3 ho3 hg3 hb3 hn3))
      go_ret
      exact f0p HD.out (by simp [hL]) ho3 ((hbL.trans (hb2.mono hbL.size)).trans hb3)
theorem b1q (p q : OA) (n m c d : Nat) (a b : Nat) (w : World) (hp : Rd w .u32 p (dig B32 a)) (hq : Rd w .u32 q (dig B32 b)) (hn : n = (dig B32 a).length) (hm : m = (dig B32 b).length)
 (hl : (dig B32 a).length ≤ 1000000000) (hgt : (dig B32 b).length < (dig B32 a).length) :
 Calls Tryd.prog 42 #[.slice q m d, .slice p n c] w (g0i w .u32 55 (dig B32 (a + b))) := by
 have hge := Nat.le_of_lt hgt
 subst hn hm
 have H0 := lHd (d0g.start a (dig B32 b))
 have HY := lHd (b0a a0a b)
 have HV := lHd (a0q a0a b)
 obtain ⟨xs, hxs⟩ : ∃ xs, xs = dig B32 a := ⟨_, rfl⟩
 have HX : Hid (xs.length = (dig B32 a).length) := by rw [hxs]; rfl
 rw [← hxs] at hp hl hgt hge H0 ⊢
 clear hxs
 generalize dig B32 b = ys at *
 go_enter Tryd.func42, Tryd.ntmps42
 go_wp2_with (go_at_call 64; refine (f0b _ _ _ xs _ hp rfl hl).mono ?_; rintro e w1 ⟨p1, c1, rfl, ho1, hb1⟩)
 go_loopw [6, 20] (fun cv iv wr => ∃ (i cr : Nat) (L : List Nat), iv = .int .i64 i ∧ cv = .int .u32 cr ∧ i ≤ xs.length ∧ cr ≤ 1 ∧ L.length = xs.length ∧ Own wr w.heap.size .u32 55 p1 c1 L ∧ Below w.heap.size w wr ∧ Hid (d0g L ys i cr a))
  (fun _ iv _ => xs.length - (intOf iv).toNat)
 case atStart => exact ⟨0, 0, xs, rfl, rfl, Nat.zero_le _, by omega, rfl, ho1, hb1, H0⟩
 case round =>
  obtain ⟨i, cr, L, rfl, rfl, hi, hcr, hL, hoL, hbL, HR⟩ := hrel
  have hqL := hq.past hbL
  have HLX : Hid (L.length = (dig B32 a).length) := hL.trans HX.out
  by_cases hlt : i < xs.length
  · have hc1 := hoL.rd.cells i (by omega)
    have hsL := hoL.solid
    rw [hL] at hsL
    have hLd := a0f (B := 4294967296) (by omega) L HR.out.1 i
    have hyd := a0f (B := 4294967296) (by omega) ys HY.out i
    have HS := HR.out.step (i := i) (by omega)
    have HC := HR.out.carry HY.out hcr (i := i)
    unfold B32 at HS HC
    by_cases hd : i < ys.length
    · have hc2 := hqL.cells i hd
      have hsq := hqL.solid
      have HS' := lHd HS
      have HC' := lHd HC
      clear HS HC
      go_wp2_with (first
        | (go_at_call 65; refine (f0c _ _ cr _ hLd hyd hcr).mono ?_; rintro e w2 ⟨rfl, rfl⟩)
        | (refine a0j rfl _ _ _ rfl 55 b0l _ _ _ _ hoL i (by omega) _ ?_ rfl rfl ?_; omega; intro w3 ho3 hg3 hb3))
      have e3 : (((dg L i : Int) + dg ys i + cr) % 4294967296).toNat = (dg L i + dg ys i + cr) % 4294967296 := by omega
      rw [e3] at ho3
      go_roundw
      case rel => exact ⟨i + 1, (dg L i + dg ys i + cr) / 4294967296, _, by go_num, by go_num, hlt, HC'.out, by simp [hL], ho3, hbL.trans hb3, HS'⟩
      case measure => simp [intOf]; omega
    · by_cases hc0 : cr = 0
      · subst hc0
        go_wp2
        go_ret
        exact f0p (HR.out.done0 (by omega) HV.out HLX.out) hL.symm hoL hbL
      · have hcp : 1 ≤ cr := by omega
        have ez : dg ys i = 0 := b0c (by omega)
        rw [ez] at HS HC
        have HS' := lHd HS
        have HC' := lHd HC
        clear HS HC ez hyd hc0
        go_wp2_with (first
          | (go_at_call 65; refine (f0c _ 0 cr _ hLd (by omega) hcr).mono ?_; rintro e w2 ⟨rfl, rfl⟩)
          | (refine a0j rfl _ _ _ rfl 55 b0l _ _ _ _ hoL i (by omega) _ ?_ rfl rfl ?_; omega; intro w3 ho3 hg3 hb3))
        have e3 : (((dg L i : Int) + cr) % 4294967296).toNat = (dg L i + 0 + cr) % 4294967296 := by omega
        rw [e3] at ho3
        go_roundw
        case rel => exact ⟨i + 1, (dg L i + 0 + cr) / 4294967296, _, by go_num, by go_num, hlt, HC'.out, by simp [hL], ho3, hbL.trans hb3, HS'⟩
        case measure => simp [intOf]; omega
  · obtain rfl : i = xs.length := by omega
    by_cases hc0 : cr = 0
    · subst hc0
      go_wp2
      go_ret
      exact f0p (HR.out.done0 hge HV.out HLX.out) hL.symm hoL hbL
    · have hcp : 1 ≤ cr := by omega
      clear hc0
      have HD := lHd (HR.out.done1 hL hge HV.out hcp hcr)
      go_wp2_with (first
        | (refine a0p rfl _ _ rfl b0l _ ?_ rfl ?_; omega; intro p2 w2 ho2 hb2 hz2 hp2)
        | (at_builtin; refine a0o rfl _ _ _ rfl b0l _ _ _ _ _ (hoL.past hb2) hL.symm _ _ _ _ ho2.rd rfl rfl rfl ?_ ?_ ?_; (simp; omega); (have := hbL.size; omega); intro p3 c3 w3 ho3 hg3 hb3 hn3))
      go_ret
      exact f0p HD.out (by simp [hL]) ho3 ((hbL.trans (hb2.mono hbL.size)).trans hb3)
theorem l0x (p q : OA) (n m c d : Nat) (a b : Nat) (w : World) (hp : Rd w .u32 p (dig B32 a)) (hq : Rd w .u32 q (dig B32 b)) (hn : n = (dig B32 a).length) (hm : m = (dig B32 b).length)
 (hl : (dig B32 a).length ≤ 1000000000) (hl2 : (dig B32 b).length ≤ 1000000000) :
 Calls Tryd.prog 42 #[.slice p n c, .slice q m d] w (g0i w .u32 55 (dig B32 (a + b))) := by
 by_cases h : (dig B32 a).length < (dig B32 b).length
 · rw [Nat.add_comm]
   exact b1q q p m n d c b a w hq hp hm hn hl2 h
 · exact b1p p q n m c d a b w hp hq hn hm hl (by omega)
end Go.Proofs.YthcoapcffhgckaaDoor
namespace Go.Slip
/-! ### The references' sum -/
def e0m (O xs ys : List Nat) (i cr : Nat) : Prop :=
 (∀ x ∈ O, x < B16) ∧ O.length = i ∧ cr ≤ 1 ∧ val B16 O + cr * B16 ^ i = val B16 (xs.take i) + val B16 (ys.take i) ∧
  (i ≤ xs.length ∨ i ≤ ys.length ∨ (cr = 0 ∧ B16 ^ (i - 1) ≤ val B16 O))
theorem e0m.start (xs ys : List Nat) : e0m [] xs ys 0 0 := ⟨by simp, rfl, by omega, by simp, .inl (Nat.zero_le _)⟩
theorem e0m.step {O xs ys : List Nat} {i cr : Nat} (h : e0m O xs ys i cr) (hx : dg xs i < B16) (hy : dg ys i < B16) (hc : i < xs.length ∨ i < ys.length ∨ 0 < cr) :
 e0m (O ++ [(cr + dg xs i + dg ys i) % B16]) xs ys (i + 1) ((cr + dg xs i + dg ys i) / B16) := by
 obtain ⟨h1, h2, h3, h4, h5⟩ := h
 have hv : val B16 (O ++ [(cr + dg xs i + dg ys i) % B16]) + (cr + dg xs i + dg ys i) / B16 * B16 ^ (i + 1) = val B16 (xs.take (i + 1)) + val B16 (ys.take (i + 1)) := by
  rw [c0p, a0c, a0c, h2, Nat.pow_succ]
  have := Nat.div_add_mod (cr + dg xs i + dg ys i) B16
  generalize (cr + dg xs i + dg ys i) / B16 = q at *
  generalize (cr + dg xs i + dg ys i) % B16 = r at *
  have e : B16 ^ i * (B16 * q + r) = B16 ^ i * (cr + dg xs i + dg ys i) := by rw [this]
  grind
 refine ⟨fun x hm => ?_, by simp [h2], ?_, hv, ?_⟩
 · rcases List.mem_append.1 hm with hm | hm
   · exact h1 x hm
   · simp at hm; rw [hm]; exact Nat.mod_lt _ l0u
 · unfold B16 at *; omega
 · by_cases hn : i < xs.length ∨ i < ys.length
   · omega
   · have e1 : dg xs i = 0 := b0c (by omega)
     have e2 : dg ys i = 0 := b0c (by omega)
     have e3 : cr = 1 := by omega
     subst e3
     rw [e1, e2]
     refine .inr (.inr ⟨by decide, ?_⟩)
     have : (1 + 0 + 0) % B16 = 1 := by decide
     rw [this, c0p, h2]
     simp
theorem e0m.done {O xs ys : List Nat} {i a b : Nat} (h : e0m O xs ys i 0) (hx : xs.length ≤ i) (hy : ys.length ≤ i) (ha : xs = dig B16 a) (hb : ys = dig B16 b) : O = dig B16 (a + b) := by
 obtain ⟨h1, h2, h3, h4, h5⟩ := h
 rw [b0n _ _ _ hx, b0n _ _ _ hy, ha, hb, a0q a0g, a0q a0g, Nat.zero_mul, Nat.add_zero] at h4
 refine k0r a0g O _ h1 (g0h O h1 ?_) h4
 rw [h2]
 by_cases hi : i = 0
 · left; exact List.eq_nil_of_length_eq_zero (by omega)
 · right
   rcases h5 with h5 | h5 | h5
   · have e : xs.length = i := by omega
     rw [h4, ← e, ha]
     have hp : 0 < a := by
      rcases Nat.eq_zero_or_pos a with h0 | h0
      · rw [h0, a0b] at ha; rw [ha] at e; simp at e; omega
      · exact h0
     have := c0m a0g a hp
     omega
   · have e : ys.length = i := by omega
     rw [h4, ← e, hb]
     have hp : 0 < b := by
      rcases Nat.eq_zero_or_pos b with h0 | h0
      · rw [h0, a0b] at hb; rw [hb] at e; simp at e; omega
      · exact h0
     have := c0m a0g b hp
     omega
   · exact h5.2
def cmpN (a b : Nat) : Int := if a < b then -1 else if b < a then 1 else 0
theorem f0d {a b : Nat} (h : a < b) : cmpN a b = -1 := by unfold cmpN; rw [if_pos h]
theorem l0y {a b : Nat} (h : b < a) : cmpN a b = 1 := by unfold cmpN; rw [if_neg (by omega), if_pos h]
theorem t0l (a : Nat) : cmpN a a = 0 := by unfold cmpN; rw [if_neg (by omega), if_neg (by omega)]
theorem f0q {B : Nat} (hB : 2 ≤ B) {a b : Nat} (h : (dig B a).length < (dig B b).length) : a < b := by
 rcases Nat.lt_or_ge a b with h1 | h1
 · exact h1
 · have := a0e hB h1; omega
theorem p0f (B : Nat) (xs : List Nat) (k : Nat) (hk : k < xs.length) : val B xs = val B (xs.take k) + B ^ k * (dg xs k + B * val B (xs.drop (k + 1))) := by
 rw [a0y B xs k (by omega), i0p B xs k hk]
theorem g0j {B : Nat} (xs : List Nat) (hx : ∀ x ∈ xs, x < B) (k : Nat) (hk : k ≤ xs.length) : val B (xs.take k) < B ^ k := by
 have h := g0a B (xs.take k) (fun x h => hx x (List.mem_of_mem_take h))
 rwa [List.length_take, Nat.min_eq_left hk] at h
theorem l0z {B : Nat} (xs ys : List Nat) (hx : ∀ x ∈ xs, x < B) (k : Nat) (hk : k < xs.length) (hl : xs.length = ys.length) (hd : xs.drop (k + 1) = ys.drop (k + 1)) (h : dg xs k < dg ys k) : val B xs < val B ys := by
 rw [p0f B xs k hk, p0f B ys k (by omega), hd]
 have h1 := g0j xs hx k (by omega)
 generalize val B (ys.drop (k + 1)) = v at *
 generalize val B (xs.take k) = t at *
 have h2 : B ^ k * (dg xs k + 1 + B * v) ≤ B ^ k * (dg ys k + B * v) := Nat.mul_le_mul_left _ (by omega)
 have e : B ^ k * (dg xs k + 1 + B * v) = B ^ k + B ^ k * (dg xs k + B * v) := by grind
 rw [e] at h2
 omega
theorem k0t {xs ys : List Nat} {k : Nat} (hk : k < xs.length) (hl : xs.length = ys.length) (hd : xs.drop (k + 1) = ys.drop (k + 1)) (h : dg xs k = dg ys k) : xs.drop k = ys.drop k := by
 rw [List.drop_eq_getElem_cons hk, List.drop_eq_getElem_cons (show k < ys.length by omega), hd]
 rw [b0k hk, b0k (show k < ys.length by omega)] at h
 rw [h]
/-! ### Lengths in bits -/
def blen (n : Nat) : Nat := (dig 2 n).length
theorem n0u : blen 0 = 0 := by unfold blen; rw [a0b]; rfl
theorem b0s (n k : Nat) : blen n ≤ k ↔ n < 2 ^ k := a0d (by omega) n k
theorem f0r (n : Nat) (h : 0 < n) : 2 ^ (blen n - 1) ≤ n := c0m (by omega) n h
theorem d0r (n : Nat) : 0 < blen n ↔ 0 < n := by
 have := a0h (B := 2) (by omega) n
 unfold blen; omega
theorem t0m (n : Nat) (h : 0 < n) : blen n = blen (n / 2) + 1 := by unfold blen; rw [d0e (by omega) h, List.length_cons]
theorem t0n {n k : Nat} (h1 : 2 ^ k ≤ n) (h2 : n < 2 ^ (k + 1)) : blen n = k + 1 := by
 have a := (b0s n (k + 1)).2 h2
 have b : ¬ blen n ≤ k := fun h => by have := (b0s n k).1 h; omega
 omega
theorem i0r {B s : Nat} (hB : B = 2 ^ s) (h2 : 2 ≤ B) (n : Nat) (h : 0 < n) : blen n = s * ((dig B n).length - 1) + blen (dg (dig B n) ((dig B n).length - 1)) ∧ 0 < dg (dig B n) ((dig B n).length - 1) := by
 have hl : 0 < (dig B n).length := List.length_pos_iff.2 ((c0y h2 n).2.2.2 h)
 have hv := p0f B (dig B n) ((dig B n).length - 1) (by omega)
 rw [a0q h2, show (dig B n).length - 1 + 1 = (dig B n).length by omega, List.drop_length, val_nil, Nat.mul_zero, Nat.add_zero] at hv
 have ht := g0j (dig B n) (b0a h2 n) ((dig B n).length - 1) (by omega)
 have hp := c0m h2 n h
 generalize dg (dig B n) ((dig B n).length - 1) = d at *
 generalize (dig B n).length - 1 = k at *
 generalize val B ((dig B n).take k) = t at *
 have hd : 0 < d := by
  rcases Nat.eq_zero_or_pos d with h0 | h0
  · subst h0; omega
  · exact h0
 refine ⟨?_, hd⟩
 have b1 := f0r d hd
 have b2 := (b0s d (blen d)).1 (Nat.le_refl _)
 have b3 := (d0r d).2 hd
 obtain ⟨m, hm⟩ : ∃ m, blen d = m + 1 := ⟨blen d - 1, by omega⟩
 rw [hm] at b1 b2 ⊢
 have e : B ^ k = 2 ^ (s * k) := by rw [hB, Nat.pow_mul]
 rw [e] at hv ht
 rw [← Nat.add_assoc]
 refine t0n ?_ ?_
 · rw [Nat.pow_add]
   have := Nat.mul_le_mul_left (2 ^ (s * k)) b1
   simp at this
   omega
 · rw [Nat.add_assoc, Nat.pow_add]
   have := Nat.mul_le_mul_left (2 ^ (s * k)) (show d + 1 ≤ 2 ^ (m + 1) from b2)
   rw [Nat.mul_add, Nat.mul_one] at this
   omega
/-! ### Differences, digit by digit -/
theorem x0b {B : Nat} (L : List Nat) (i y br T : Nat) (hi : i < L.length) (d : Nat) (hd : d + y + br = dg L i + B * (if dg L i < y + br then 1 else 0))
 (V : Nat) (h : val B L + V = T + br * B ^ i) :
 val B (L.set i d) + (V + B ^ i * y) = T + (if dg L i < y + br then 1 else 0) * B ^ (i + 1) := by
 have h1 := h0m B L i d hi
 rw [Nat.pow_succ]
 generalize (if dg L i < y + br then 1 else 0) = q at *
 generalize dg L i = x at *
 have h3 : B ^ i * (d + y + br) = B ^ i * (x + B * q) := by rw [hd]
 grind
def g0q (L ys : List Nat) (i br a : Nat) : Prop := (∀ x ∈ L, x < B32) ∧ val B32 L + val B32 (ys.take i) = a + br * B32 ^ i
def subD (x y br : Nat) : Nat := (x + (4294967296 - y) + (4294967296 - br)) % 4294967296
def subB (x y br : Nat) : Nat := if x < y + br then 1 else 0
theorem g0q.step {L ys : List Nat} {i br a : Nat} (h : g0q L ys i br a) (hi : i < L.length) (hy : ∀ x ∈ ys, x < B32) (hb : br ≤ 1) :
 g0q (L.set i (subD (dg L i) (dg ys i) br)) ys (i + 1) (subB (dg L i) (dg ys i) br) a := by
 have h1 := a0f (B := 4294967296) (by omega) L h.1 i
 have h2 := a0f (B := 4294967296) (by omega) ys hy i
 refine ⟨g0b L h.1 i _ (Nat.mod_lt _ (by omega)), ?_⟩
 rw [a0c]
 refine x0b L i _ br a hi _ ?_ _ h.2
 unfold subD B32
 split <;> omega
theorem m0a (x y br : Nat) : subB x y br ≤ 1 := by unfold subB; split <;> omega
theorem g0q.start (a : Nat) (ys : List Nat) : g0q (dig B32 a) ys 0 0 a := ⟨b0a a0a a, by simp [a0q a0a]⟩
theorem g0q.done {L ys : List Nat} {i br a b : Nat} (h : g0q L ys i br a) (hi : ys.length ≤ i) (hy : val B32 ys = b) (hab : b ≤ a) (hl : L.length ≤ i ∨ br = 0) (hL : val B32 L < B32 ^ L.length) : val B32 L = a - b := by
 have h2 := h.2
 rw [b0n _ _ _ hi, hy] at h2
 rcases hl with hl | rfl
 · have hp : B32 ^ L.length ≤ B32 ^ i := Nat.pow_le_pow_right b0i hl
   have : br = 0 := by
    rcases Nat.eq_zero_or_pos br with h0 | h0
    · exact h0
    · have := Nat.le_mul_of_pos_left (B32 ^ i) h0; omega
   subst this; omega
 · omega
def e0n (O xs ys : List Nat) (i br : Nat) : Prop := (∀ x ∈ O, x < B16) ∧ O.length = i ∧ br ≤ 1 ∧ val B16 O + val B16 (ys.take i) = val B16 (xs.take i) + br * B16 ^ i
theorem e0n.start (xs ys : List Nat) : e0n [] xs ys 0 0 := ⟨by simp, rfl, by omega, by simp⟩
theorem e0n.step {O xs ys : List Nat} {i br : Nat} (h : e0n O xs ys i br) (d br' : Nat) (hd : d < B16) (hb : br' ≤ 1) (he : d + dg ys i + br = dg xs i + B16 * br') : e0n (O ++ [d]) xs ys (i + 1) br' := by
 obtain ⟨h1, h2, h3, h4⟩ := h
 refine ⟨fun x hm => ?_, by simp [h2], hb, ?_⟩
 · rcases List.mem_append.1 hm with hm | hm
   · exact h1 x hm
   · simp at hm; omega
 · rw [c0p, a0c, a0c, h2, Nat.pow_succ]
   have e : B16 ^ i * (d + dg ys i + br) = B16 ^ i * (dg xs i + B16 * br') := by rw [he]
   grind
theorem e0n.done {O xs ys : List Nat} {br a b : Nat} (h : e0n O xs ys xs.length br) (hx : val B16 xs = a) (hy : val B16 ys = b) (hl : ys.length ≤ xs.length) (hab : b ≤ a) : val B16 O = a - b := by
 obtain ⟨h1, h2, h3, h4⟩ := h
 rw [b0n _ _ _ hl, List.take_length, hx, hy] at h4
 have hO := g0a B16 O h1
 rw [h2] at hO
 have : br = 0 := by
  rcases Nat.eq_zero_or_pos br with h0 | h0
  · exact h0
  · have := Nat.le_mul_of_pos_left (B16 ^ xs.length) h0; omega
 subst this; omega
theorem a1a {B p : Nat} (hp : B % p = 0) (xs : List Nat) : val B xs % p = dg xs 0 % p := by
 cases xs with
 | nil => simp [dg]
 | cons x xs =>
  have : dg (x :: xs) 0 = x := by simp [dg]
  rw [this, val_cons]
  obtain ⟨q, rfl⟩ := Nat.dvd_of_mod_eq_zero hp
  rw [Nat.mul_assoc, Nat.add_mul_mod_self_left]
theorem t0o (B p x V : Nat) (hp : 0 < p) (hB : B % p = 0) : (x + B * V) / p = x / p + V % p * (B / p) + B * (V / p) := by
 obtain ⟨q, rfl⟩ := Nat.dvd_of_mod_eq_zero hB
 rw [Nat.mul_div_cancel_left _ hp, Nat.mul_assoc, Nat.add_mul_div_left _ _ hp]
 have h := Nat.mod_add_div V p
 generalize V % p = r at *
 generalize V / p = s at *
 subst h
 grind
theorem q0x {B p : Nat} (hp : 0 < p) (hB : B % p = 0) (Y : List Nat) (i : Nat) (hi : i < Y.length) :
 val B (Y.drop i) / p = (dg Y i / p + dg Y (i + 1) % p * (B / p)) + B * (val B (Y.drop (i + 1)) / p) := by
 rw [i0p B Y i hi, t0o B p _ _ hp hB, a1a hB]
 have : dg (Y.drop (i + 1)) 0 = dg Y (i + 1) := by rw [d0z]
 rw [this]
theorem q0y {B p x y : Nat} (hp : 0 < p) (hB : B % p = 0) (hx : x < B) : x / p + y % p * (B / p) < B := by
 obtain ⟨q, rfl⟩ := Nat.dvd_of_mod_eq_zero hB
 rw [Nat.mul_div_cancel_left _ hp]
 have h1 : x / p < q := by rw [Nat.div_lt_iff_lt_mul hp, Nat.mul_comm]; exact hx
 have h2 : y % p + 1 ≤ p := Nat.mod_lt _ hp
 have h3 := Nat.mul_le_mul_right q h2
 rw [Nat.add_mul, Nat.one_mul] at h3
 omega
def g0d (B p : Nat) (L Y : List Nat) (i : Nat) : Prop :=
 (∀ x ∈ L, x < B) ∧ L.length = Y.length ∧ (∀ j, i ≤ j → dg L j = dg Y j) ∧ val B (L.take i) + B ^ i * (val B (Y.drop i) / p) = val B Y / p
theorem g0d.start {B p : Nat} {Y : List Nat} (h : ∀ x ∈ Y, x < B) : g0d B p Y Y 0 := ⟨h, rfl, fun _ _ => rfl, by simp⟩
theorem b0y (L : List Nat) (i v : Nat) : (L.set i v).take i = L.take i := by
 apply List.ext_getElem?
 intro j
 rw [List.getElem?_take, List.getElem?_take]
 by_cases h : j < i
 · rw [if_pos h, if_pos h, List.getElem?_set_ne (by omega)]
 · rw [if_neg h, if_neg h]
theorem g0d.step {B p : Nat} {L Y : List Nat} {i : Nat} (h : g0d B p L Y i) (hp : 0 < p) (hB : B % p = 0) (hY : ∀ x ∈ Y, x < B) (hi : i < Y.length) (v : Nat) (hv : v = dg Y i / p + dg Y (i + 1) % p * (B / p)) : g0d B p (L.set i v) Y (i + 1) := by
 obtain ⟨h1, h2, h3, h4⟩ := h
 have hx : dg Y i < B := by rw [b0k hi]; exact hY _ (List.getElem_mem hi)
 refine ⟨g0b L h1 i v (by rw [hv]; exact q0y hp hB hx), by simpa using h2, fun j hj => ?_, ?_⟩
 · rw [c0d (by omega)]; exact h3 j (by omega)
 · rw [a0c, b0y, b0h (by omega), ← h4, q0x hp hB Y i hi, ← hv, Nat.pow_succ]
   grind
theorem g0d.done {B p : Nat} {L Y : List Nat} (h : g0d B p L Y Y.length) : val B L = val B Y / p := by
 have h4 := h.2.2.2
 rw [← h.2.1] at h4
 rw [List.take_length, h.2.1, List.drop_length] at h4
 simpa using h4
def e0a (B p : Nat) (O Y : List Nat) (i : Nat) : Prop := (∀ x ∈ O, x < B) ∧ O.length = i ∧ val B O + B ^ i * (val B (Y.drop i) / p) = val B Y / p
theorem e0a.start (B p : Nat) (Y : List Nat) : e0a B p [] Y 0 := ⟨by simp, rfl, by simp⟩
theorem e0a.step {B p : Nat} {O Y : List Nat} {i : Nat} (h : e0a B p O Y i) (hp : 0 < p) (hB : B % p = 0) (hY : ∀ x ∈ Y, x < B) (hi : i < Y.length) (v : Nat) (hv : v = dg Y i / p + dg Y (i + 1) % p * (B / p)) : e0a B p (O ++ [v]) Y (i + 1) := by
 obtain ⟨h1, h2, h4⟩ := h
 have hx : dg Y i < B := by rw [b0k hi]; exact hY _ (List.getElem_mem hi)
 refine ⟨fun x hm => ?_, by simp [h2], ?_⟩
 · rcases List.mem_append.1 hm with hm | hm
   · exact h1 x hm
   · simp at hm; rw [hm, hv]; exact q0y hp hB hx
 · rw [c0p, h2, ← h4, q0x hp hB Y i hi, ← hv, Nat.pow_succ]
   grind
theorem e0a.done {B p : Nat} {O Y : List Nat} (h : e0a B p O Y Y.length) : val B O = val B Y / p := by
 have h4 := h.2.2
 rw [List.drop_length] at h4
 simpa using h4
theorem i0a {B : Nat} (hB : 0 < B) (xs : List Nat) (hx : ∀ x ∈ xs, x < B) (k : Nat) : val B (xs.drop k) = val B xs / B ^ k := by
 by_cases hk : k ≤ xs.length
 · rw [a0y B xs k hk]
   have := g0j xs hx k hk
   rw [Nat.add_mul_div_left _ _ (Nat.pow_pos hB), Nat.div_eq_of_lt this, Nat.zero_add]
 · rw [List.drop_of_length_le (by omega), val_nil]
   have h1 := g0a B xs hx
   have h2 : B ^ xs.length ≤ B ^ k := Nat.pow_le_pow_right hB (by omega)
   rw [Nat.div_eq_of_lt (by omega)]
theorem j0e {B w : Nat} (hB : B = 2 ^ w) (a N : Nat) : a / B ^ (N / w) / 2 ^ (N % w) = a / 2 ^ N := by
 rw [Nat.div_div_eq_div_mul, hB, ← Nat.pow_mul, ← Nat.pow_add, Nat.div_add_mod]
theorem i0b {w s : Nat} (h : s ≤ w) : 2 ^ w % 2 ^ s = 0 := Nat.mod_eq_zero_of_dvd (Nat.pow_dvd_pow 2 h)
theorem k0u {B w : Nat} (hB : B = 2 ^ w) (h2 : 2 ≤ B) (a N : Nat) (h : (dig B a).length ≤ N / w) : a / 2 ^ N = 0 := by
 have h1 := (a0d h2 a _).1 h
 rw [hB, ← Nat.pow_mul] at h1
 have h3 : 2 ^ (w * (N / w)) ≤ 2 ^ N := Nat.pow_le_pow_right (by omega) (Nat.mul_div_le N w)
 exact Nat.div_eq_of_lt (by omega)
/-! ### To the left -/
def g0r (B k p : Nat) (O xs : List Nat) (i cr : Nat) : Prop := (∀ x ∈ O, x < B) ∧ O.length = k + i ∧ cr < p ∧ val B O + cr * B ^ (k + i) = B ^ k * (val B (xs.take i) * p)
theorem g0r.start {B k p : Nat} (hB : 0 < B) (hp : 0 < p) (xs : List Nat) : g0r B k p (List.replicate k 0) xs 0 0 :=
 ⟨fun x h => by rw [(List.mem_replicate.1 h).2]; exact hB, by simp, hp, by simp [b0f]⟩
theorem g0r.step {B k p : Nat} {O xs : List Nat} {i cr : Nat} (h : g0r B k p O xs i cr) (hx : dg xs i < B) (t : Nat) (ht : t = dg xs i * p + cr) : g0r B k p (O ++ [t % B]) xs (i + 1) (t / B) := by
 obtain ⟨h1, h2, h3, h4⟩ := h
 have hB : 0 < B := by omega
 refine ⟨fun x hm => ?_, by simp [h2]; omega, ?_, ?_⟩
 · rcases List.mem_append.1 hm with hm | hm
   · exact h1 x hm
   · simp at hm; rw [hm]; exact Nat.mod_lt _ hB
 · rw [Nat.div_lt_iff_lt_mul hB, ht]
   have := Nat.mul_le_mul_right p (show dg xs i + 1 ≤ B from hx)
   rw [Nat.add_mul, Nat.one_mul] at this
   rw [Nat.mul_comm p B]; omega
 · rw [c0p, h2, a0c, ← Nat.add_assoc, Nat.pow_succ]
   have h5 := Nat.div_add_mod t B
   generalize t / B = q at *
   generalize t % B = r at *
   have e : B ^ (k + i) * (B * q + r) = B ^ (k + i) * (dg xs i * p + cr) := by rw [h5, ht]
   have e2 : B ^ (k + i) = B ^ k * B ^ i := Nat.pow_add _ _ _
   rw [e2] at *
   grind
theorem g0r.done {B k p : Nat} {O xs : List Nat} {cr a : Nat} (h : g0r B k p O xs xs.length cr) (hp : p ≤ B) (hx : val B xs = a) : (∀ x ∈ O ++ [cr], x < B) ∧ val B (O ++ [cr]) = a * (B ^ k * p) := by
 obtain ⟨h1, h2, h3, h4⟩ := h
 refine ⟨fun x hm => ?_, ?_⟩
 · rcases List.mem_append.1 hm with hm | hm
   · exact h1 x hm
   · simp at hm; omega
 · rw [c0p, h2, Nat.mul_comm (B ^ _) cr, h4, List.take_length, hx]
   grind
theorem j0f {B w : Nat} (hB : B = 2 ^ w) (N : Nat) : B ^ (N / w) * 2 ^ (N % w) = 2 ^ N := by
 rw [hB, ← Nat.pow_mul, ← Nat.pow_add, Nat.div_add_mod]
theorem g0s {B w : Nat} (hB : B = 2 ^ w) (hw : 0 < w) (N : Nat) : (List.replicate (N / w + 1) 0).set (N / w) (2 ^ (N % w)) = dig B (2 ^ N) := by
 have h2 : 2 ≤ B := by rw [hB]; calc 2 = 2 ^ 1 := rfl
  _ ≤ 2 ^ w := Nat.pow_le_pow_right (by omega) hw
 have hd : 2 ^ (N % w) < B := by rw [hB]; exact (Nat.pow_lt_pow_iff_right (by omega)).2 (Nat.mod_lt _ hw)
 have hv := h0m B (List.replicate (N / w + 1) 0) (N / w) (2 ^ (N % w)) (by simp)
 rw [c0i, b0f, j0f hB N] at hv
 have hx : ∀ x ∈ (List.replicate (N / w + 1) 0).set (N / w) (2 ^ (N % w)), x < B := g0b _ (fun x h => by rw [(List.mem_replicate.1 h).2]; omega) _ _ hd
 refine k0r h2 _ _ hx (g0h _ hx (.inr ?_)) (by omega)
 rw [List.length_set, List.length_replicate, Nat.add_sub_cancel]
 have := j0f hB N
 have h3 := Nat.le_mul_of_pos_right (B ^ (N / w)) (show 0 < 2 ^ (N % w) from Nat.pow_pos (by omega))
 omega
theorem x0c {B P V W top two q : Nat} (hV : top * (B * P) ≤ V) (hW : W < (two + 1) * (B * P)) (hq : q * V ≤ W) : q * top ≤ two := by
 have h1 : q * (top * (B * P)) ≤ q * V := Nat.mul_le_mul_left q hV
 have h2 : (q * top) * (B * P) < (two + 1) * (B * P) := by rw [Nat.mul_assoc]; omega
 have h3 := Nat.lt_of_mul_lt_mul_right h2
 omega
theorem r0w {B P V W top next two w0 r t q : Nat} (hV : (top * B + next) * P ≤ V) (hW : W < (two * B + w0 + 1) * P) (hq : q * V ≤ W) (ht : t * top + r = two) (hc : r * B + w0 < t * next) : q ≠ t := by
 rintro rfl
 have h1 : q * ((top * B + next) * P) ≤ q * V := Nat.mul_le_mul_left q hV
 have h2 : (q * (top * B + next)) * P < (two * B + w0 + 1) * P := by rw [Nat.mul_assoc]; omega
 have h3 := Nat.lt_of_mul_lt_mul_right h2
 subst ht
 grind
theorem x0d {B P V W top next two w0 r t q : Nat} (hV : V < (top * B + next + 1) * P) (hW : (two * B + w0) * P ≤ W) (hq : W < (q + 1) * V) (ht : t * top + r = two) (hc : t * next ≤ r * B + w0) (hp : t * P ≤ V) : t ≤ q + 1 := by
 have h1 : t * V ≤ t * ((top * B + next + 1) * P) := Nat.mul_le_mul_left t (Nat.le_of_lt hV)
 have h2 : t * (top * B + next) ≤ two * B + w0 := by subst ht; grind
 have h3 : (t * (top * B + next)) * P ≤ (two * B + w0) * P := Nat.mul_le_mul_right P h2
 have h4 : t * V ≤ W + V := by
  have e : t * ((top * B + next + 1) * P) = (t * (top * B + next)) * P + t * P := by grind
  omega
 have h5 : t * V < (q + 2) * V := by
  have e : (q + 2) * V = (q + 1) * V + V := by grind
  omega
 have := Nat.lt_of_mul_lt_mul_right h5
 omega
/-! ### t times a number is taken from a window of a row -/
def b0p (L X : List Nat) (j i : Nat) : Prop := (∀ x ∈ L, x < B32) ∧ L.length = X.length ∧ ∀ k, k < j ∨ j + i ≤ k → dg L k = dg X k
theorem b0p.refl {X : List Nat} (h : ∀ x ∈ X, x < B32) (j : Nat) : b0p X X j 0 := ⟨h, rfl, fun _ _ => rfl⟩
theorem b0p.step {L X : List Nat} {j i v : Nat} (h : b0p L X j i) (hv : v < B32) : b0p (L.set (j + i) v) X j (i + 1) := by
 obtain ⟨h1, h2, h3⟩ := h
 refine ⟨g0b L h1 _ _ hv, by simpa using h2, fun k hk => ?_⟩
 rw [c0d (by omega)]
 exact h3 k (by omega)
def m0b (L X ys : List Nat) (j t i cr br : Nat) : Prop :=
 b0p L X j i ∧ val B32 (L.take (j + i)) + B32 ^ j * (t * val B32 (ys.take i)) = val B32 (X.take (j + i)) + (cr + br) * B32 ^ (j + i)
theorem h0p {L X : List Nat} {j : Nat} (hl : L.length = X.length) (h : ∀ k, k < j → dg L k = dg X k) : L.take j = X.take j := by
 apply b0j
 · simp [hl]
 · intro k hk
   simp only [List.length_take] at hk
   rw [i0z (by omega), i0z (by omega)]
   exact h k (by omega)
theorem m0b.start {X : List Nat} (h : ∀ x ∈ X, x < B32) (ys : List Nat) (j t : Nat) : m0b X X ys j t 0 0 0 := ⟨b0p.refl h j, by simp⟩
theorem t0p (x y br : Nat) (hx : x < 4294967296) (hy : y < 4294967296) (hb : br ≤ 1) : subD x y br + y + br = x + B32 * subB x y br := by
 unfold subD subB B32; split <;> omega
theorem m0b.step {L X ys : List Nat} {j t i cr br : Nat} (h : m0b L X ys j t i cr br) (hj : j + i < X.length) (hX : dg X (j + i) < 4294967296) (hb : br ≤ 1) (p : Nat) (hp : p = dg ys i * t + cr) :
 m0b (L.set (j + i) (subD (dg L (j + i)) (p % 4294967296) br)) X ys j t (i + 1) (p / 4294967296) (subB (dg L (j + i)) (p % 4294967296) br) := by
 obtain ⟨h1, h2⟩ := h
 have hx : dg L (j + i) = dg X (j + i) := h1.2.2 _ (.inr (Nat.le_refl _))
 rw [hx]
 refine ⟨h1.step (Nat.mod_lt _ (by omega)), ?_⟩
 have e1 := t0p (dg X (j + i)) (p % 4294967296) br hX (Nat.mod_lt _ (by omega)) hb
 have e2 := Nat.div_add_mod p 4294967296
 rw [show j + (i + 1) = j + i + 1 by omega, a0c, b0y, b0h (by rw [h1.2.1]; exact hj), a0c, a0c, Nat.pow_succ]
 rw [show (4294967296 : Nat) = B32 from rfl] at *
 generalize subD (dg X (j + i)) (p % B32) br = d at *
 generalize subB (dg X (j + i)) (p % B32) br = b at *
 generalize p % B32 = pl at *
 generalize p / B32 = ph at *
 generalize dg X (j + i) = x at *
 generalize val B32 (L.take (j + i)) = vl at *
 generalize val B32 (X.take (j + i)) = vx at *
 generalize val B32 (ys.take i) = vy at *
 have e3 : B32 ^ (j + i) = B32 ^ j * B32 ^ i := Nat.pow_add _ _ _
 rw [e3] at h2 ⊢
 clear e3
 generalize B32 ^ j = P at *
 generalize B32 ^ i = Q at *
 subst hp
 have e4 : P * Q * (d + pl + br) = P * Q * (x + B32 * b) := by rw [e1]
 have e5 : P * Q * (B32 * ph + pl) = P * Q * (dg ys i * t + cr) := by rw [e2]
 grind
theorem m0b.last {L X ys : List Nat} {j t cr br : Nat} (h : m0b L X ys j t ys.length cr br) (hj : j + ys.length < X.length) (hX : dg X (j + ys.length) < 4294967296) (hb : br ≤ 1) (hc : cr < 4294967296) :
 b0p (L.set (j + ys.length) (subD (dg L (j + ys.length)) cr br)) X j (ys.length + 1) ∧
  val B32 (L.set (j + ys.length) (subD (dg L (j + ys.length)) cr br)) + B32 ^ j * (t * val B32 ys) = val B32 X + subB (dg L (j + ys.length)) cr br * B32 ^ (j + ys.length + 1) := by
 obtain ⟨h1, h2⟩ := h
 have hx : dg L (j + ys.length) = dg X (j + ys.length) := h1.2.2 _ (.inr (Nat.le_refl _))
 have hw := h1.step (v := subD (dg L (j + ys.length)) cr br) (Nat.mod_lt _ (by omega))
 refine ⟨hw, ?_⟩
 have e1 := t0p (dg X (j + ys.length)) cr br hX hc hb
 rw [List.take_length] at h2
 rw [hx] at hw ⊢
 have hd : (L.set (j + ys.length) (subD (dg X (j + ys.length)) cr br)).drop (j + ys.length + 1) = X.drop (j + ys.length + 1) := by
  apply b0j
  · simp [h1.2.1]
  · intro k hk
    rw [d0z, d0z]
    exact hw.2.2 _ (.inr (by omega))
 rw [a0y B32 _ (j + ys.length + 1) (by rw [hw.2.1]; omega), a0y B32 X (j + ys.length + 1) (by omega), hd]
 rw [a0c, b0y, b0h (by rw [h1.2.1]; exact hj), a0c]
 generalize subD (dg X (j + ys.length)) cr br = d at *
 generalize subB (dg X (j + ys.length)) cr br = b at *
 generalize dg X (j + ys.length) = x at *
 generalize val B32 (X.drop (j + ys.length + 1)) = u at *
 generalize val B32 (L.take (j + ys.length)) = vl at *
 generalize val B32 (X.take (j + ys.length)) = vx at *
 rw [Nat.pow_succ]
 generalize B32 ^ (j + ys.length) = P at *
 have e4 : P * (d + cr + br) = P * (x + B32 * b) := by rw [e1]
 grind
/-! ### a number is added to a window of a row -/
def m0c (L X ys : List Nat) (j i cr : Nat) : Prop :=
 b0p L X j i ∧ val B32 (L.take (j + i)) + cr * B32 ^ (j + i) = val B32 (X.take (j + i)) + B32 ^ j * val B32 (ys.take i)
theorem m0c.start {X : List Nat} (h : ∀ x ∈ X, x < B32) (ys : List Nat) (j : Nat) : m0c X X ys j 0 0 := ⟨b0p.refl h j, by simp⟩
theorem m0c.step {L X ys : List Nat} {j i cr : Nat} (h : m0c L X ys j i cr) (hj : j + i < X.length) (t : Nat) (ht : t = dg L (j + i) + dg ys i + cr) :
 m0c (L.set (j + i) (t % 4294967296)) X ys j (i + 1) (t / 4294967296) := by
 obtain ⟨h1, h2⟩ := h
 have hx : dg L (j + i) = dg X (j + i) := h1.2.2 _ (.inr (Nat.le_refl _))
 rw [hx] at ht
 refine ⟨h1.step (Nat.mod_lt _ (by omega)), ?_⟩
 have e2 := Nat.div_add_mod t 4294967296
 rw [show j + (i + 1) = j + i + 1 by omega, a0c, b0y, b0h (by rw [h1.2.1]; exact hj), a0c, a0c, Nat.pow_succ]
 rw [show (4294967296 : Nat) = B32 from rfl] at *
 generalize t % B32 = pl at *
 generalize t / B32 = ph at *
 generalize dg X (j + i) = x at *
 generalize val B32 (L.take (j + i)) = vl at *
 generalize val B32 (X.take (j + i)) = vx at *
 generalize val B32 (ys.take i) = vy at *
 have e3 : B32 ^ (j + i) = B32 ^ j * B32 ^ i := Nat.pow_add _ _ _
 rw [e3] at h2 ⊢
 clear e3
 generalize B32 ^ j = P at *
 generalize B32 ^ i = Q at *
 subst ht
 have e5 : P * Q * (B32 * ph + pl) = P * Q * (x + dg ys i + cr) := by rw [e2]
 grind
theorem e0i (B : Nat) (xs : List Nat) (j : Nat) : val B (xs.drop j) = dg xs j + B * val B (xs.drop (j + 1)) := by
 by_cases h : j < xs.length
 · exact i0p B xs j h
 · rw [List.drop_of_length_le (by omega), List.drop_of_length_le (by omega), b0c (by omega)]; simp
theorem a0m (B : Nat) (xs : List Nat) (k : Nat) : val B xs = val B (xs.take k) + B ^ k * val B (xs.drop k) := by
 by_cases h : k ≤ xs.length
 · exact a0y B xs k h
 · rw [List.take_of_length_le (by omega), List.drop_of_length_le (by omega)]; simp
theorem i0c {B : Nat} (hB : 0 < B) (xs : List Nat) (hx : ∀ x ∈ xs, x < B) (k : Nat) : val B (xs.take k) < B ^ k := by
 refine Nat.lt_of_lt_of_le (g0a B _ fun x h => hx x (List.mem_of_mem_take h)) (Nat.pow_le_pow_right hB ?_)
 simp; omega
theorem top3 {B : Nat} (hB : 0 < B) (xs : List Nat) (hx : ∀ x ∈ xs, x < B) (m : Nat) (h0 : val B (xs.drop (m + 3)) = 0) :
 ((dg xs (m + 2) * B + dg xs (m + 1)) * B + dg xs m) * B ^ m ≤ val B xs ∧ val B xs < ((dg xs (m + 2) * B + dg xs (m + 1)) * B + dg xs m + 1) * B ^ m := by
 have h1 := a0m B xs m
 have h2 := i0c hB xs hx m
 have e : val B (xs.drop m) = (dg xs (m + 2) * B + dg xs (m + 1)) * B + dg xs m := by
  rw [e0i B xs m, e0i B xs (m + 1), e0i B xs (m + 2), h0]; grind
 rw [e] at h1
 generalize (dg xs (m + 2) * B + dg xs (m + 1)) * B + dg xs m = T at *
 rw [h1, Nat.mul_comm T, Nat.mul_comm (T + 1), Nat.mul_add]
 omega
structure DivRel (A V n : Nat) (U Q : List Nat) (k : Nat) : Prop where
 dU : ∀ x ∈ U, x < B32
 dQ : ∀ x ∈ Q, x < B32
 len : U.length = Q.length + n
 top : val B32 (U.drop k) < V
 sum : val B32 U + val B32 Q * V = A
 zero : ∀ i, i < k → dg Q i = 0
theorem DivRel.start {A V n : Nat} {U : List Nat} (hU : ∀ x ∈ U, x < B32) (hn : n ≤ U.length) (h1 : 1 ≤ n) (hA : val B32 U = A) (hlt : A < B32 ^ (U.length - 1)) (hV : B32 ^ (n - 1) ≤ V) :
 DivRel A V n U (List.replicate (U.length - n) 0) (U.length - n) := by
 refine ⟨hU, fun x hx => by rw [(List.mem_replicate.1 hx).2]; exact b0i, by simp; omega, ?_, by rw [b0f, hA]; simp, fun i _ => c0i _ _⟩
 have h := a0y B32 U (U.length - n) (by omega)
 have e : B32 ^ (U.length - 1) = B32 ^ (U.length - n) * B32 ^ (n - 1) := by rw [← Nat.pow_add]; congr 1; omega
 have h2 : B32 ^ (U.length - n) * val B32 (U.drop (U.length - n)) < B32 ^ (U.length - n) * B32 ^ (n - 1) := by omega
 have := Nat.lt_of_mul_lt_mul_left h2
 omega
theorem DivRel.win {A V n : Nat} {U Q : List Nat} {j : Nat} (h : DivRel A V n U Q (j + 1)) : val B32 (U.drop j) < B32 * V := by
 rw [e0i]
 have h1 := a0f b0i U h.dU j
 have h2 := h.top
 have h3 : B32 * (val B32 (U.drop (j + 1)) + 1) ≤ B32 * V := Nat.mul_le_mul_left _ h2
 rw [Nat.mul_add] at h3
 omega
theorem DivRel.done {A V n : Nat} {U Q : List Nat} (h : DivRel A V n U Q 0) : val B32 Q = A / V ∧ val B32 U = A % V := by
 have h1 := h.top
 have h2 := h.sum
 rw [List.drop_zero] at h1
 have hV : 0 < V := by omega
 have e1 : A = val B32 U + V * val B32 Q := by rw [← h2, Nat.mul_comm V]
 constructor
 · rw [e1, Nat.add_mul_div_left _ _ hV, Nat.div_eq_of_lt h1]; omega
 · rw [e1, Nat.add_mul_mod_self_left, Nat.mod_eq_of_lt h1]
structure c0r (ys U : List Nat) (m j : Nat) : Prop where
 dy : ∀ x ∈ ys, x < B32
 dU : ∀ x ∈ U, x < B32
 ly : ys.length = m + 2
 big : 2147483648 ≤ dg ys (m + 1)
 win : val B32 (U.drop j) < B32 * val B32 ys
theorem c0r.v {ys U : List Nat} {m j : Nat} (h : c0r ys U m j) : (dg ys (m + 1) * B32 + dg ys m) * B32 ^ m ≤ val B32 ys ∧ val B32 ys < (dg ys (m + 1) * B32 + dg ys m + 1) * B32 ^ m := by
 have h1 := top3 b0i ys h.dy m (by rw [List.drop_of_length_le (by have := h.ly; omega)]; rfl)
 rw [b0c (show ys.length ≤ m + 2 by have := h.ly; omega)] at h1
 simpa using h1
theorem c0r.lt {ys U : List Nat} {m j : Nat} (h : c0r ys U m j) : val B32 (U.drop j) < B32 ^ (m + 3) := by
 have h1 := h.win
 have h2 := g0a B32 ys h.dy
 rw [h.ly] at h2
 have h3 : B32 * val B32 ys ≤ B32 * B32 ^ (m + 2) := Nat.mul_le_mul_left _ (Nat.le_of_lt h2)
 rw [Nat.pow_succ, Nat.mul_comm]
 omega
theorem j0g {B : Nat} {xs : List Nat} {k : Nat} (h : val B xs < B ^ k) : val B (xs.drop k) = 0 := by
 have h1 := a0m B xs k
 rcases Nat.eq_zero_or_pos (val B (xs.drop k)) with h2 | h2
 · exact h2
 · have := Nat.mul_le_mul_left (B ^ k) h2
   omega
theorem c0r.z {ys U : List Nat} {m j : Nat} (h : c0r ys U m j) : val B32 ((U.drop j).drop (m + 3)) = 0 := j0g h.lt
theorem c0r.w {ys U : List Nat} {m j : Nat} (h : c0r ys U m j) :
 ((dg U (j + m + 2) * B32 + dg U (j + m + 1)) * B32 + dg U (j + m)) * B32 ^ m ≤ val B32 (U.drop j) ∧ val B32 (U.drop j) < ((dg U (j + m + 2) * B32 + dg U (j + m + 1)) * B32 + dg U (j + m) + 1) * B32 ^ m := by
 have h1 := top3 b0i (U.drop j) (fun x hx => h.dU x (List.mem_of_mem_drop hx)) m h.z
 simp only [d0z] at h1
 rw [show j + (m + 2) = j + m + 2 by omega, show j + (m + 1) = j + m + 1 by omega] at h1
 exact h1
theorem c0r.pos {ys U : List Nat} {m j : Nat} (h : c0r ys U m j) : 0 < val B32 ys := by have := h.win; rcases Nat.eq_zero_or_pos (val B32 ys) with h0 | h0; (rw [h0] at this; omega); exact h0
theorem c0r.q_lt {ys U : List Nat} {m j : Nat} (h : c0r ys U m j) : val B32 (U.drop j) / val B32 ys < B32 := by
 rw [Nat.div_lt_iff_lt_mul h.pos]; exact h.win
theorem c0r.two_lt {ys U : List Nat} {m j : Nat} (h : c0r ys U m j) : dg U (j + m + 2) * B32 + dg U (j + m + 1) < (dg ys (m + 1) + 1) * B32 := by
 have h1 := h.w.1
 have h2 := h.win
 have h3 := h.v.2
 have h4 := a0f b0i ys h.dy m
 generalize dg U (j + m + 2) * B32 + dg U (j + m + 1) = two at *
 generalize dg ys (m + 1) = top at *
 have h5 : (top * B32 + dg ys m + 1) * B32 ^ m ≤ ((top + 1) * B32) * B32 ^ m := Nat.mul_le_mul_right _ (by rw [Nat.add_mul]; omega)
 have h6 : B32 * val B32 ys < B32 * (((top + 1) * B32) * B32 ^ m) := Nat.mul_lt_mul_of_pos_left (by omega) b0i
 have h7 : (two * B32) * B32 ^ m ≤ (two * B32 + dg U (j + m)) * B32 ^ m := Nat.mul_le_mul_right _ (by omega)
 have h8 : two * (B32 * B32 ^ m) < ((top + 1) * B32) * (B32 * B32 ^ m) := by
  have e1 : (two * B32) * B32 ^ m = two * (B32 * B32 ^ m) := Nat.mul_assoc _ _ _
  have e2 : B32 * (((top + 1) * B32) * B32 ^ m) = ((top + 1) * B32) * (B32 * B32 ^ m) := by rw [Nat.mul_left_comm]
  omega
 exact Nat.lt_of_mul_lt_mul_right h8
structure f0z (ys U : List Nat) (m j t r : Nat) : Prop where
 eq : t * dg ys (m + 1) + r = dg U (j + m + 2) * B32 + dg U (j + m + 1)
 ge : val B32 (U.drop j) / val B32 ys ≤ t
theorem c0r.start {ys U : List Nat} {m j : Nat} (h : c0r ys U m j) (two : Nat) (h2 : two = dg U (j + m + 2) * B32 + dg U (j + m + 1)) :
 f0z ys U m j (two / dg ys (m + 1)) (two % dg ys (m + 1)) := by
 have hb := h.big
 refine ⟨by rw [← h2, Nat.mul_comm, Nat.div_add_mod], ?_⟩
 rw [Nat.le_div_iff_mul_le (by omega)]
 have h3 := h.v.1
 have h4 := h.w.2
 rw [← h2] at h4
 have h5 := a0f b0i U h.dU (j + m)
 have h6 : (dg ys (m + 1) * (B32 * B32 ^ m)) ≤ val B32 ys := by
  refine Nat.le_trans ?_ h3
  rw [← Nat.mul_assoc]
  exact Nat.mul_le_mul_right _ (by omega)
 have h7 : val B32 (U.drop j) < (two + 1) * (B32 * B32 ^ m) := by
  refine Nat.lt_of_lt_of_le h4 ?_
  rw [← Nat.mul_assoc]
  exact Nat.mul_le_mul_right _ (by rw [Nat.add_mul]; omega)
 exact x0c h6 h7 (Nat.div_mul_le_self _ _)
theorem f0z.down {ys U : List Nat} {m j t r : Nat} (h : f0z ys U m j t r) (k : c0r ys U m j) (hc : B32 ≤ t ∨ r * B32 + dg U (j + m) < t * dg ys m) :
 0 < t ∧ f0z ys U m j (t - 1) (r + dg ys (m + 1)) := by
 have hq := k.q_lt
 have h0 : 0 < t := by
  rcases hc with hc | hc
  · have := b0i; omega
  · rcases Nat.eq_zero_or_pos t with h0 | h0
    · subst h0; simp at hc
    · exact h0
 have hne : val B32 (U.drop j) / val B32 ys ≠ t := by
  rcases hc with hc | hc
  · omega
  · exact r0w k.v.1 k.w.2 (Nat.div_mul_le_self _ _) h.eq hc
 refine ⟨h0, ?_, by have := h.ge; omega⟩
 have e := h.eq
 obtain ⟨u, rfl⟩ : ∃ u, t = u + 1 := ⟨t - 1, by omega⟩
 rw [Nat.add_mul] at e
 simp only [Nat.add_sub_cancel]
 omega
theorem j0h (w v : Nat) (hv : 0 < v) : w < (w / v + 1) * v := by
 have h1 := Nat.div_add_mod w v
 have h2 := Nat.mod_lt w hv
 rw [Nat.add_mul, Nat.one_mul, Nat.mul_comm (w / v) v]
 omega
theorem f0z.exit {ys U : List Nat} {m j t r : Nat} (h : f0z ys U m j t r) (k : c0r ys U m j) (h1 : t < B32) (hc : t * dg ys m ≤ r * B32 + dg U (j + m)) :
 t ≤ val B32 (U.drop j) / val B32 ys + 1 := by
 have hb := k.big
 refine x0d (B := B32) k.v.2 k.w.1 (j0h _ _ k.pos) h.eq hc ?_
 refine Nat.le_trans ?_ k.v.1
 refine Nat.mul_le_mul_right _ ?_
 have : 1 * B32 ≤ dg ys (m + 1) * B32 := Nat.mul_le_mul_right _ (by omega)
 omega
theorem f0z.breaks {ys U : List Nat} {m j t r : Nat} (h : f0z ys U m j t r) (k : c0r ys U m j) (hr : B32 ≤ r) : t < B32 ∧ t * dg ys m ≤ r * B32 + dg U (j + m) := by
 have h2 := k.two_lt
 have h1 : t < B32 := by
  rcases Nat.lt_or_ge t B32 with h3 | h3
  · exact h3
  · have h4 := Nat.mul_le_mul_right (dg ys (m + 1)) h3
    have := h.eq
    rw [Nat.add_mul, Nat.one_mul, Nat.mul_comm (dg ys (m + 1)) B32] at h2
    omega
 refine ⟨h1, ?_⟩
 have h3 := a0f b0i ys k.dy m
 have h4 : t * dg ys m ≤ B32 * B32 := Nat.mul_le_mul (by omega) (by omega)
 have h5 := Nat.mul_le_mul_right B32 hr
 omega
theorem f0z.bound {ys U : List Nat} {m j t r : Nat} (h : f0z ys U m j t r) (k : c0r ys U m j) : t ≤ B32 + 2 := by
 have h1 := h.eq
 have h2 := k.two_lt
 have hb := k.big
 rcases Nat.lt_or_ge t (B32 + 3) with h3 | h3
 · omega
 · have h4 := Nat.mul_le_mul_right (dg ys (m + 1)) h3
   rw [Nat.add_mul, Nat.one_mul] at h2
   rw [Nat.add_mul] at h4
   rw [Nat.mul_comm (dg ys (m + 1)) B32] at h2
   have h5 : B32 = 4294967296 := rfl
   omega
theorem t0q {L U : List Nat} {j n x br : Nat} (hw : b0p L U j n) (hv : val B32 L + B32 ^ j * x = val B32 U + br * B32 ^ (j + n)) :
 val B32 (L.drop j) + x = val B32 (U.drop j) + br * B32 ^ n := by
 have h1 := a0m B32 L j
 have h2 := a0m B32 U j
 have h3 : L.take j = U.take j := h0p hw.2.1 fun k hk => hw.2.2 k (.inl hk)
 rw [h3] at h1
 rw [Nat.pow_add] at hv
 have h4 : B32 ^ j * (val B32 (L.drop j) + x) = B32 ^ j * (val B32 (U.drop j) + br * B32 ^ n) := by
  rw [Nat.mul_add, Nat.mul_add]
  have : br * (B32 ^ j * B32 ^ n) = B32 ^ j * (br * B32 ^ n) := Nat.mul_left_comm _ _ _
  omega
 exact Nat.eq_of_mul_eq_mul_left (Nat.pow_pos b0i) h4
theorem p0g {L U : List Nat} {j n : Nat} (hw : b0p L U j n) : L.drop (j + n) = U.drop (j + n) := by
 apply b0j
 · simp [hw.2.1]
 · intro k _
   rw [d0z, d0z]
   exact hw.2.2 _ (.inr (by omega))
theorem t0r {L U : List Nat} {j n : Nat} (hw : b0p L U j n) (hz : val B32 ((U.drop j).drop n) = 0) : val B32 (L.drop j) < B32 ^ n := by
 have h1 := a0m B32 (L.drop j) n
 rw [List.drop_drop] at hz h1
 rw [p0g hw, hz] at h1
 have h2 := i0c b0i (L.drop j) (fun x hx => hw.1 x (List.mem_of_mem_drop hx)) n
 omega
theorem DivRel.next {A V n : Nat} {U Q L : List Nat} {j q : Nat} (h : DivRel A V n U Q (j + 1)) (hj : j < Q.length) (hw : b0p L U j (n + 1)) (hq : q < B32)
 (hv : val B32 (L.drop j) + q * V = val B32 (U.drop j)) (hlt : val B32 (L.drop j) < V) : DivRel A V n L (Q.set j q) j := by
 refine ⟨hw.1, g0b Q h.dQ j q hq, by rw [hw.2.1, List.length_set]; exact h.len, hlt, ?_, fun i hi => ?_⟩
 · have h1 := a0m B32 L j
   have h2 := a0m B32 U j
   have h3 : L.take j = U.take j := h0p hw.2.1 fun k hk => hw.2.2 k (.inl hk)
   rw [h3] at h1
   have h4 := h0m B32 Q j q hj
   rw [h.zero j (by omega)] at h4
   have h5 : val B32 (Q.set j q) = val B32 Q + B32 ^ j * q := by omega
   have h6 := h.sum
   rw [h5, h1]
   rw [h2, ← hv] at h6
   rw [← h6]
   grind
 · rw [c0d (by omega)]
   exact h.zero i (by omega)
theorem DivRel.even {A m : Nat} {ys U Q L : List Nat} {j t r : Nat} (h : DivRel A (val B32 ys) (m + 2) U Q (j + 1)) (k : c0r ys U m j) (ht : f0z ys U m j t r) (hj : j < Q.length) (hB : t < B32)
 (hw : b0p L U j (m + 3)) (hv : val B32 L + B32 ^ j * (t * val B32 ys) = val B32 U + 0 * B32 ^ (j + (m + 3))) : DivRel A (val B32 ys) (m + 2) L (Q.set j t) j := by
 have h1 := t0q hw hv
 rw [Nat.zero_mul, Nat.add_zero] at h1
 refine h.next hj hw hB h1 ?_
 have h2 := ht.ge
 have h3 := j0h (val B32 (U.drop j)) (val B32 ys) k.pos
 have h4 : (val B32 (U.drop j) / val B32 ys + 1) * val B32 ys ≤ (t + 1) * val B32 ys := Nat.mul_le_mul_right _ (by omega)
 rw [Nat.add_mul t, Nat.one_mul] at h4
 omega
theorem DivRel.owed {A m : Nat} {ys U Q L M : List Nat} {j t r co : Nat} (h : DivRel A (val B32 ys) (m + 2) U Q (j + 1)) (k : c0r ys U m j) (_ : f0z ys U m j t r) (he : t ≤ val B32 (U.drop j) / val B32 ys + 1) (hj : j < Q.length) (hB : t < B32)
 (hw : b0p L U j (m + 3)) (hv : val B32 L + B32 ^ j * (t * val B32 ys) = val B32 U + 1 * B32 ^ (j + (m + 3)))
 (hw2 : b0p M L j (m + 3)) (hv2 : val B32 M + co * B32 ^ (j + (m + 3)) = val B32 L + B32 ^ j * val B32 ys) : 0 < t ∧ DivRel A (val B32 ys) (m + 2) M (Q.set j (t - 1)) j := by
 have h1 := t0q hw hv
 have hwM : b0p M U j (m + 3) := ⟨hw2.1, hw2.2.1.trans hw.2.1, fun i hi => (hw2.2.2 i hi).trans (hw.2.2 i hi)⟩
 have hl1 := t0r hw k.z
 have hl2 := t0r hwM k.z
 have h3 : val B32 (M.drop j) + co * B32 ^ (m + 3) = val B32 (L.drop j) + val B32 ys := by
  have e1 := a0m B32 L j
  have e2 := a0m B32 M j
  have e3 : M.take j = L.take j := h0p hw2.2.1 fun k hk => hw2.2.2 k (.inl hk)
  rw [e3] at e2
  rw [Nat.pow_add] at hv2
  have e4 : B32 ^ j * (val B32 (M.drop j) + co * B32 ^ (m + 3)) = B32 ^ j * (val B32 (L.drop j) + val B32 ys) := by
   rw [Nat.mul_add, Nat.mul_add]
   have : co * (B32 ^ j * B32 ^ (m + 3)) = B32 ^ j * (co * B32 ^ (m + 3)) := Nat.mul_left_comm _ _ _
   omega
  exact Nat.eq_of_mul_eq_mul_left (Nat.pow_pos b0i) e4
 have hp := k.pos
 generalize hW : val B32 (U.drop j) = W at *
 generalize hV : val B32 ys = V at *
 generalize hP : B32 ^ (m + 3) = P at *
 have g1 : W < t * V := by omega
 have g2 : W / V < t := (Nat.div_lt_iff_lt_mul hp).2 g1
 have g4 := Nat.div_add_mod W V
 generalize W / V = wq at *
 obtain ⟨q, rfl⟩ : ∃ q, t = q + 1 := ⟨t - 1, by omega⟩
 have g3 : wq = q := by omega
 have g5 := Nat.mod_lt W hp
 rw [g3, Nat.mul_comm V q] at g4
 rw [Nat.add_mul, Nat.one_mul, Nat.one_mul] at h1
 have g6 : val B32 (M.drop j) + co * P = W % V + P := by omega
 have g7 : W < P := by rw [← hP, ← hW]; exact k.lt
 have g8 : W % V ≤ W := Nat.mod_le _ _
 have g9 : co = 1 := by
  rcases Nat.lt_trichotomy co 1 with c | c | c
  · have : co = 0 := by omega
    subst this; omega
  · exact c
  · have := Nat.mul_le_mul_right P c
    omega
 subst g9
 rw [Nat.one_mul] at g6
 have g10 : val B32 (M.drop j) = W % V := by omega
 refine ⟨by omega, ?_⟩
 simp only [Nat.add_sub_cancel]
 exact h.next hj hwM (by omega) (by omega) (by omega)
theorem m0c.last {L X ys : List Nat} {j cr : Nat} (h : m0c L X ys j ys.length cr) (hj : j + ys.length < X.length) :
 b0p (L.set (j + ys.length) ((dg L (j + ys.length) + cr) % 4294967296)) X j (ys.length + 1) ∧
  val B32 (L.set (j + ys.length) ((dg L (j + ys.length) + cr) % 4294967296)) + ((dg L (j + ys.length) + cr) / 4294967296) * B32 ^ (j + (ys.length + 1)) = val B32 X + B32 ^ j * val B32 ys := by
 obtain ⟨h1, h2⟩ := h
 have hx : dg L (j + ys.length) = dg X (j + ys.length) := h1.2.2 _ (.inr (Nat.le_refl _))
 have hw := h1.step (v := (dg L (j + ys.length) + cr) % 4294967296) (Nat.mod_lt _ (by omega))
 refine ⟨hw, ?_⟩
 rw [List.take_length] at h2
 rw [hx] at hw ⊢
 have hd : (L.set (j + ys.length) ((dg X (j + ys.length) + cr) % 4294967296)).drop (j + ys.length + 1) = X.drop (j + ys.length + 1) := by
  apply b0j
  · simp [h1.2.1]
  · intro k hk
    rw [d0z, d0z]
    exact hw.2.2 _ (.inr (by omega))
 rw [a0y B32 _ (j + ys.length + 1) (by rw [hw.2.1]; omega), a0y B32 X (j + ys.length + 1) (by omega), hd]
 rw [a0c, b0y, b0h (by rw [h1.2.1]; exact hj), a0c]
 have e2 := Nat.div_add_mod (dg X (j + ys.length) + cr) 4294967296
 rw [show (4294967296 : Nat) = B32 from rfl] at *
 generalize (dg X (j + ys.length) + cr) % B32 = pl at *
 generalize (dg X (j + ys.length) + cr) / B32 = ph at *
 generalize dg X (j + ys.length) = x at *
 generalize val B32 (X.drop (j + ys.length + 1)) = u at *
 generalize val B32 (L.take (j + ys.length)) = vl at *
 generalize val B32 (X.take (j + ys.length)) = vx at *
 rw [show j + (ys.length + 1) = j + ys.length + 1 by omega, Nat.pow_succ]
 generalize B32 ^ (j + ys.length) = P at *
 have e4 : P * (B32 * ph + pl) = P * (x + cr) := by rw [e2]
 grind
theorem x0e (L : List Nat) (k : Nat) (h : dg L k = 0) : L.set k 0 = L := by
 apply b0j
 · simp
 · intro t ht
   by_cases hk : k = t
   · subst hk
     rw [b0h (by simpa using ht), h]
   · rw [c0d hk]
theorem SmallRel.push {B : Nat} {L xs : List Nat} {d k r : Nat} (h : SmallRel B L xs d (k + 1) r) (hx : dg xs k < B) : dg xs k + B * r < d * B := by
 have h1 : (r + 1) * B ≤ d * B := Nat.mul_le_mul_right _ h.2.1
 rw [Nat.add_mul, Nat.one_mul] at h1
 rw [Nat.mul_comm B r]; omega
/-! ### powers -/
theorem h0q {m : Nat} (h : 0 < m) (k : Nat) : blen (m * 2 ^ k) = blen m + k := by
 have h1 := f0r m h
 have h2 := (b0s m (blen m)).1 (Nat.le_refl _)
 have h3 := (d0r m).2 h
 have e : blen m + k = (blen m - 1 + k) + 1 := by omega
 rw [e]
 refine t0n ?_ ?_
 · rw [Nat.pow_add]; exact Nat.mul_le_mul_right _ h1
 · rw [show blen m - 1 + k + 1 = blen m + k by omega, Nat.pow_add]
   exact Nat.mul_lt_mul_of_pos_right h2 (Nat.pow_pos (by omega))
theorem x0f {b s : Nat} (h : 0 < b) (hs : s + blen (dg (dig B32 b) ((dig B32 b).length - 1)) = 32) :
 (dig B32 (b * 2 ^ s)).length = (dig B32 b).length ∧ 2147483648 ≤ dg (dig B32 (b * 2 ^ s)) ((dig B32 b).length - 1) := by
 obtain ⟨h1, h2⟩ := i0r (B := B32) (s := 32) (by decide) a0a b h
 have hl0 : 0 < (dig B32 b).length := List.length_pos_iff.2 ((c0y a0a b).2.2.2 h)
 have h3 := h0q h s
 have hV : 0 < b * 2 ^ s := Nat.mul_pos h (Nat.pow_pos (by omega))
 obtain ⟨k1, k2⟩ := i0r (B := B32) (s := 32) (by decide) a0a (b * 2 ^ s) hV
 have k0 : 0 < (dig B32 (b * 2 ^ s)).length := List.length_pos_iff.2 ((c0y a0a _).2.2.2 hV)
 have k3 := a0f b0i _ (b0a a0a (b * 2 ^ s)) ((dig B32 (b * 2 ^ s)).length - 1)
 have k3' : dg (dig B32 (b * 2 ^ s)) ((dig B32 (b * 2 ^ s)).length - 1) < 4294967296 := k3
 have k4 := (b0s (dg (dig B32 (b * 2 ^ s)) ((dig B32 (b * 2 ^ s)).length - 1)) 32).2 (by omega)
 have k5 := (d0r _).2 k2
 have hl : (dig B32 (b * 2 ^ s)).length = (dig B32 b).length := by omega
 refine ⟨hl, ?_⟩
 rw [hl] at k1 k2 k4 k5
 have k6 : blen (dg (dig B32 (b * 2 ^ s)) ((dig B32 b).length - 1)) = 32 := by omega
 have := f0r _ k2
 rw [k6] at this
 omega
structure Dv where
 neg : Bool
 m : Nat
 e : Int
@[ext] theorem Dv.ext' {a b : Dv} (h1 : a.neg = b.neg) (h2 : a.m = b.m) (h3 : a.e = b.e) : a = b := by cases a; cases b; simp_all
def tz (m : Nat) : Nat := if _h : m = 0 then 0 else if m % 2 = 1 then 0 else tz (m / 2) + 1
termination_by m
decreasing_by omega
theorem a1b : tz 0 = 0 := by rw [tz]; simp
theorem n0v {m : Nat} (h : m % 2 = 1) : tz m = 0 := by rw [tz]; split; rfl; rfl
theorem m0d {m : Nat} (h0 : 0 < m) (h : m % 2 = 0) : tz m = tz (m / 2) + 1 := by
 rw [tz, dif_neg (by omega), if_neg (by omega)]
theorem f0e (m : Nat) (h : 0 < m) : 2 ^ tz m * (m / 2 ^ tz m) = m ∧ (m / 2 ^ tz m) % 2 = 1 := by
 induction m using Nat.strongRecOn with
 | _ m ih =>
  by_cases h1 : m % 2 = 1
  · rw [n0v h1]; simp [h1]
  · have h2 : m % 2 = 0 := by omega
    obtain ⟨i1, i2⟩ := ih (m / 2) (by omega) (by omega)
    rw [m0d h h2]
    have e : m / 2 ^ (tz (m / 2) + 1) = m / 2 / 2 ^ tz (m / 2) := by rw [Nat.pow_succ, Nat.mul_comm, Nat.div_div_eq_div_mul]
    rw [e]
    refine ⟨?_, i2⟩
    rw [Nat.pow_succ]
    have : m = 2 * (m / 2) := by omega
    rw [Nat.mul_comm (2 ^ _) 2, Nat.mul_assoc, i1]; omega
theorem q0z (m k : Nat) (h : m % 2 = 1) : tz (m * 2 ^ k) = k := by
 induction k with
 | zero => simp [n0v h]
 | succ k ih =>
  have h0 : 0 < m * 2 ^ k := Nat.mul_pos (by omega) (Nat.pow_pos (by omega))
  have e : m * 2 ^ (k + 1) = 2 * (m * 2 ^ k) := by rw [Nat.pow_succ]; grind
  rw [e, m0d (by omega) (by omega), Nat.mul_div_cancel_left _ (by omega), ih]
theorem t0s {m k u : Nat} (h : m = u * 2 ^ k) (hu : u % 2 = 1) : tz m = k ∧ m / 2 ^ k = u := by
 subst h
 exact ⟨q0z u k hu, Nat.mul_div_cancel _ (Nat.pow_pos (by omega))⟩
def bare (d : Dv) : Dv := if d.m = 0 then ⟨false, 0, 0⟩ else ⟨d.neg, d.m / 2 ^ tz d.m, d.e + tz d.m⟩
def Bare (d : Dv) : Prop := d.m % 2 = 1 ∨ d = ⟨false, 0, 0⟩
theorem t0t (d : Dv) : Bare (bare d) := by
 unfold bare Bare
 by_cases h : d.m = 0
 · rw [if_pos h]; exact .inr rfl
 · rw [if_neg h]; exact .inl (f0e d.m (by omega)).2
theorem g0k {d : Dv} (h : Bare d) : bare d = d := by
 unfold bare
 rcases h with h | rfl
 · rw [if_neg (by omega), n0v h]; cases d; simp
 · rfl
theorem Bare.zero {d : Dv} (h : Bare d) (h0 : d.m = 0) : d = ⟨false, 0, 0⟩ := by
 rcases h with h | h
 · omega
 · exact h
theorem h0r (g : Bool) (m k : Nat) (e : Int) : bare ⟨g, m * 2 ^ k, e⟩ = bare ⟨g, m, e + k⟩ := by
 unfold bare
 by_cases h : m = 0
 · subst h; simp
 · have hm : 0 < m := by omega
   have hp : 0 < 2 ^ k := Nat.pow_pos (by omega)
   have hne : m * 2 ^ k ≠ 0 := by have := Nat.mul_pos hm hp; omega
   obtain ⟨s1, s2⟩ := f0e m hm
   have e1 : m * 2 ^ k = (m / 2 ^ tz m) * 2 ^ (tz m + k) := by
    conv => lhs; rw [← s1]
    rw [Nat.pow_add]; grind
   obtain ⟨t1, t2⟩ := t0s e1 s2
   simp only [if_neg hne, if_neg h, t1, t2]
   ext <;> simp
   omega
def sg (g : Bool) (m : Nat) : Int := if g then -(m : Int) else m
def e0b (g h : Bool) (x y : Nat) (e : Int) : Dv :=
 if g = h then ⟨g, x + y, e⟩ else if y ≤ x then ⟨g, x - y, e⟩ else ⟨h, y - x, e⟩
def ofZ (s : Int) (e : Int) : Dv := ⟨decide (s < 0), s.natAbs, e⟩
theorem g0t (g h : Bool) (x y : Nat) (e : Int) : bare (e0b g h x y e) = bare (ofZ (sg g x + sg h y) e) := by
 have key : ∀ (b : Bool) (m : Nat) (s : Int), s.natAbs = m → (m ≠ 0 → decide (s < 0) = b) → bare ⟨b, m, e⟩ = bare (ofZ s e) := by
  intro b m s h1 h2
  subst h1
  unfold ofZ bare
  by_cases h0 : s.natAbs = 0
  · simp [h0]
  · have := h2 h0
    simp only [if_neg h0, this]
 unfold e0b
 by_cases h1 : g = h
 · subst h1
   rw [if_pos rfl]
   refine key _ _ _ ?_ ?_
   · cases g <;> simp [sg] <;> omega
   · intro h0
     cases g <;> simp [sg] <;> omega
 · rw [if_neg h1]
   by_cases h2 : y ≤ x
   · rw [if_pos h2]
     refine key _ _ _ ?_ ?_
     · cases g <;> cases h <;> simp [sg] at * <;> omega
     · intro h0
       cases g <;> cases h <;> simp [sg] at * <;> omega
   · rw [if_neg h2]
     refine key _ _ _ ?_ ?_
     · cases g <;> cases h <;> simp [sg] at * <;> omega
     · intro h0
       cases g <;> cases h <;> simp [sg] at * <;> omega
def e0j (a b : Dv) : Int := if b.m = 0 then a.e else if a.m = 0 then b.e else min a.e b.e
def k0m (a b : Dv) : Dv := bare (e0b a.neg b.neg (a.m * 2 ^ (a.e - e0j a b).toNat) (b.m * 2 ^ (b.e - e0j a b).toNat) (e0j a b))
def c0x (a b : Dv) : Dv := if a.m = 0 then b else if b.m = 0 then a else
 bare (e0b a.neg b.neg (a.m * 2 ^ (a.e - min a.e b.e).toNat) (b.m * 2 ^ (b.e - min a.e b.e).toNat) (min a.e b.e))
theorem x0g {a b : Dv} (ha : Bare a) (hb : Bare b) : c0x a b = k0m a b := by
 unfold c0x k0m e0j
 by_cases h1 : a.m = 0
 · have := ha.zero h1
   subst this
   rw [if_pos rfl]
   by_cases h2 : b.m = 0
   · have := hb.zero h2
     subst this
     rfl
   · simp only [if_neg h2, if_true]
     rw [g0t]
     conv => lhs; rw [← g0k hb]
     have e1 : sg false (0 * 2 ^ ((0 : Int) - b.e).toNat) = 0 := by simp [sg]
     have e2 : (b.e - b.e).toNat = 0 := by omega
     rw [e1, e2, Nat.pow_zero, Nat.mul_one, Int.zero_add]
     unfold bare ofZ sg
     cases b with
     | mk g m e =>
      simp only at *
      cases g <;> simp [h2] <;> omega
 · rw [if_neg h1]
   by_cases h2 : b.m = 0
   · have := hb.zero h2
     subst this
     simp only [if_true]
     rw [g0t]
     conv => lhs; rw [← g0k ha]
     have e1 : sg false (0 * 2 ^ ((0 : Int) - a.e).toNat) = 0 := by simp [sg]
     have e2 : (a.e - a.e).toNat = 0 := by omega
     rw [e1, e2, Nat.pow_zero, Nat.mul_one, Int.add_zero]
     unfold bare ofZ sg
     cases a with
     | mk g m e =>
      simp only at *
      cases g <;> simp [h1] <;> omega
   · simp only [if_neg h2, if_neg h1]
def c0a (a : Dv) : Dv := ⟨!a.neg && decide (0 < a.m), a.m, a.e⟩
theorem p0h {a : Dv} (h : Bare a) : Bare (c0a a) := by
 rcases h with h | rfl
 · exact .inl h
 · exact .inr rfl
def a0k (a : Dv) : Int := if a.m = 0 then 0 else if a.neg then -1 else 1
def rCmp (a b : Dv) : Int := a0k (k0m a (c0a b))
def zOf (a : Dv) (e : Int) : Int := sg a.neg (a.m * 2 ^ (a.e - e).toNat)
theorem z0e (g : Bool) (m k : Nat) : sg g (m * k) = sg g m * k := by unfold sg; cases g <;> simp [Int.neg_mul]
theorem k0v (s : Int) (e : Int) : a0k (bare (ofZ s e)) = Int.sign s := by
 unfold bare ofZ a0k
 by_cases h : s = 0
 · subst h; rfl
 · have h0 : s.natAbs ≠ 0 := by omega
   simp only [if_neg h0]
   have h1 := (f0e s.natAbs (by omega)).2
   rw [if_neg (by omega)]
   by_cases h2 : s < 0
   · simp [h2, Int.sign_eq_neg_one_of_neg h2]
   · simp [h2, Int.sign_eq_one_of_pos (show 0 < s by omega)]
theorem k0w {x y : Nat} (h : blen x < blen y) : x < y := by
 rcases Nat.lt_or_ge x y with h1 | h1
 · exact h1
 · have := a0e (B := 2) (by omega) h1
   unfold blen at h; omega
theorem t0u (x y : Nat) : cmpN x y = Int.sign ((x : Int) - y) := by
 unfold cmpN
 by_cases h1 : x < y
 · rw [if_pos h1, Int.sign_eq_neg_one_of_neg (by omega)]
 · rw [if_neg h1]
   by_cases h2 : y < x
   · rw [if_pos h2, Int.sign_eq_one_of_pos (by omega)]
   · rw [if_neg h2, show (x : Int) - y = 0 by omega]; rfl
def clip (n : Int) : Int := max (-1) (min 1 n)
def topD (a : Dv) : Int := a.e + blen a.m
def pCmp (a b : Dv) : Int :=
 if a0k a ≠ a0k b ∨ a0k a = 0 then clip (a0k a - a0k b)
 else (if topD a ≠ topD b then clip (topD a - topD b) else cmpN (a.m * 2 ^ (a.e - min a.e b.e).toNat) (b.m * 2 ^ (b.e - min a.e b.e).toNat)) * a0k a
theorem p0i (a : Dv) : a0k (c0a a) = - a0k a := by
 unfold a0k c0a
 by_cases h : a.m = 0
 · simp [h]
 · have : 0 < a.m := by omega
   cases hn : a.neg <;> simp [h, this]
theorem t0v {a b : Dv} (ha : Bare a) (hb : Bare b) : pCmp a b = rCmp a b := by
 unfold rCmp
 rw [← x0g ha (p0h hb)]
 have hm : (c0a b).m = b.m := rfl
 have he : (c0a b).e = b.e := rfl
 unfold pCmp c0x
 rw [hm, he]
 by_cases h1 : a.m = 0
 · have s1 : a0k a = 0 := by unfold a0k; rw [if_pos h1]
   rw [if_pos (.inr s1), if_pos h1, p0i, s1]
   unfold clip a0k
   split
   · rfl
   · split <;> decide
 · rw [if_neg h1]
   by_cases h2 : b.m = 0
   · have s2 : a0k b = 0 := by unfold a0k; rw [if_pos h2]
     have s1 : a0k a ≠ 0 := by unfold a0k; rw [if_neg h1]; split <;> decide
     rw [if_pos (.inl (by rw [s2]; exact s1)), if_pos h2, s2]
     unfold clip a0k
     rw [if_neg h1]
     split <;> decide
   · rw [if_neg h2, g0t, k0v]
     have hb2 : (c0a b).neg = !b.neg := by unfold c0a; simp; omega
     rw [hb2]
     have pa : 0 < a.m := by omega
     have pb : 0 < b.m := by omega
     generalize hx : a.m * 2 ^ (a.e - min a.e b.e).toNat = x
     generalize hy : b.m * 2 ^ (b.e - min a.e b.e).toNat = y
     have px : 0 < x := by rw [← hx]; exact Nat.mul_pos pa (Nat.pow_pos (by omega))
     have py : 0 < y := by rw [← hy]; exact Nat.mul_pos pb (Nat.pow_pos (by omega))
     have lx : blen x = blen a.m + (a.e - min a.e b.e).toNat := by rw [← hx]; exact h0q pa _
     have ly : blen y = blen b.m + (b.e - min a.e b.e).toNat := by rw [← hy]; exact h0q pb _
     have sa : a0k a = if a.neg then -1 else 1 := by unfold a0k; rw [if_neg h1]
     have sb : a0k b = if b.neg then -1 else 1 := by unfold a0k; rw [if_neg h2]
     rw [sa, sb]
     have hc : (if topD a ≠ topD b then clip (topD a - topD b) else cmpN x y) = Int.sign ((x : Int) - y) := by
      by_cases ht : topD a = topD b
      · rw [if_neg (by simpa using ht), t0u]
      · rw [if_pos ht]
        unfold topD clip at *
        by_cases hlt : blen x < blen y
        · have := k0w hlt
          rw [Int.sign_eq_neg_one_of_neg (by omega)]; omega
        · by_cases hgt : blen y < blen x
          · have := k0w hgt
            rw [Int.sign_eq_one_of_pos (by omega)]; omega
          · omega
     rw [hc]
     cases ga : a.neg <;> cases gb : b.neg <;> simp [sg]
     · rw [← Int.sub_eq_add_neg]
     · rw [show (x : Int) + y = ((x + y : Nat) : Int) by simp, Int.sign_eq_one_of_pos (by omega)]; decide
     · rw [show -(x : Int) + -(y : Int) = -((x + y : Nat) : Int) by simp; omega, Int.sign_eq_neg_one_of_neg (by omega)]; decide
     · rw [← Int.sign_neg]; congr 1; omega
/-! ### cut, floor -/
def pCut (a : Dv) (bits : Nat) (up : Bool) : Dv :=
 if blen a.m ≤ bits then a
 else bare ⟨a.neg, a.m / 2 ^ (blen a.m - bits) + (if up ≠ a.neg then 1 else 0), a.e + ((blen a.m - bits : Nat) : Int)⟩
def errD (a : Dv) : Int := if 1200 < (dig B32 a.m).length then 2 else if a.e < -20000 ∨ 20000 < a.e then 3 else 0
def e0y : Dv := ⟨false, 0, 0⟩
def c0k (a : Dv) : Dv := if errD a = 0 then a else e0y
theorem r0a {m : Nat} (h : 0 < m) (k : Nat) : tz (m * 2 ^ k) = tz m + k := by
 obtain ⟨h1, h2⟩ := f0e m h
 have e : m * 2 ^ k = (m / 2 ^ tz m) * 2 ^ (tz m + k) := by
  conv => lhs; rw [← h1]
  rw [Nat.pow_add]; grind
 rw [e]
 exact q0z _ _ h2
theorem b1r {d r : Nat} (h0 : 0 < d) (h : d < 4294967296) : tz (d + 4294967296 * r) = tz d := by
 obtain ⟨h1, h2⟩ := f0e d h0
 have hle : tz d < 32 := by
  rcases Nat.lt_or_ge (tz d) 32 with h3 | h3
  · exact h3
  · have h4 : 2 ^ 32 ≤ 2 ^ tz d := Nat.pow_le_pow_right (by omega) h3
    have h5 : 0 < d / 2 ^ tz d := by
     rcases Nat.eq_zero_or_pos (d / 2 ^ tz d) with h | h
     · rw [h] at h2; simp at h2
     · exact h
    have h6 := Nat.mul_le_mul_left (2 ^ tz d) h5
    simp only [Nat.succ_eq_add_one, Nat.zero_add, Nat.mul_one] at h6
    omega
 obtain ⟨t, ht⟩ : ∃ t, t = tz d := ⟨_, rfl⟩
 rw [← ht] at h1 h2 hle ⊢
 obtain ⟨s, hs⟩ : ∃ s, 32 = t + (s + 1) := ⟨31 - t, by omega⟩
 have e : d + 4294967296 * r = (d / 2 ^ t + 2 * (2 ^ s * r)) * 2 ^ t := by
  have e1 : (4294967296 : Nat) = 2 ^ t * (2 ^ s * 2) := by
   rw [show (4294967296 : Nat) = 2 ^ 32 by decide, hs, Nat.pow_add, Nat.pow_succ]
  rw [e1, Nat.add_mul]
  conv => lhs; rw [← h1]
  grind
 rw [e]
 exact q0z _ _ (by omega)
theorem h0s {m : Nat} (h : 0 < m) : tz m < blen m := by
 obtain ⟨h1, h2⟩ := f0e m h
 rcases Nat.lt_or_ge (tz m) (blen m) with h3 | h3
 · exact h3
 · have h4 := (b0s m (tz m)).1 h3
   have h5 : 0 < m / 2 ^ tz m := by
    rcases Nat.eq_zero_or_pos (m / 2 ^ tz m) with h | h
    · rw [h] at h2; simp at h2
    · exact h
   have h6 := Nat.mul_le_mul_left (2 ^ tz m) h5
   simp only [Nat.succ_eq_add_one, Nat.zero_add, Nat.mul_one] at h6
   omega
theorem b0e (a : Nat) : blen a ≤ 32 * (dig B32 a).length := by
 rw [b0s, Nat.pow_mul]
 exact (a0d a0a a _).1 (Nat.le_refl _)
theorem i0s {g : Bool} {m : Nat} {e : Int} (h : 0 < m) : bare ⟨g, m, e⟩ = ⟨g, m / 2 ^ tz m, e + tz m⟩ := by
 unfold bare
 rw [if_neg (show ¬ m = 0 by omega)]
theorem k0x : ∀ (f x : Nat), 0 < x → x < 2 ^ f → Lib.ctzFrom f x = tz x
 | 0, x, h0, h => by simp at h; omega
 | f + 1, x, h0, h => by
  unfold Lib.ctzFrom
  by_cases h1 : x % 2 = 1
  · rw [if_pos h1, n0v h1]
  · rw [if_neg h1, m0d h0 (by omega), k0x f (x / 2) (by omega) (by rw [Nat.pow_succ] at h; omega)]
    omega
theorem b1s {x : Nat} (h0 : 0 < x) (h : x < 4294967296) : Lib.ctz 32 x = tz x := by
 unfold Lib.ctz
 rw [if_neg (by omega)]
 exact k0x 32 x h0 (by omega)
theorem b1t {xs : List Nat} {a i : Nat} (ha : val B32 xs = a) (hz : ∀ j, j < i → dg xs j = 0) (hd : 0 < dg xs i) (hl : dg xs i < 4294967296) : tz a = 32 * i + tz (dg xs i) := by
 have h1 := a0m B32 xs i
 have h2 : val B32 (xs.take i) = 0 := by
  have : xs.take i = List.replicate (xs.take i).length 0 := by
   apply b0j
   · simp
   · intro t ht
     simp only [List.length_take] at ht
     rw [i0z (by omega), c0i, hz t (by omega)]
  rw [this, b0f]
 rw [h2, e0i, Nat.zero_add] at h1
 have e : a = (dg xs i + 4294967296 * val B32 (xs.drop (i + 1))) * 2 ^ (32 * i) := by
  rw [← ha, h1, Nat.pow_mul, show (2 : Nat) ^ 32 = B32 by decide, Nat.mul_comm]
  rfl
 rw [e, r0a (by omega), b1r hd hl]
 omega
theorem j0i {B : Nat} {xs : List Nat} (hz : ∀ j, j < xs.length → dg xs j = 0) : val B xs = 0 := by
 have : xs = List.replicate xs.length 0 := by
  apply b0j
  · simp
  · intro t ht
    rw [c0i, hz t ht]
 rw [this, b0f]
end Go.Slip
namespace Go.Proofs.YthcoapcffhgckaaDoor
open Go.RowKit Go.Slip
def TabW (w : World) : Prop := (∀ j, j < 32 → w.cell? ⟨0, j, none⟩ = some (.int .u8 ((Lib.deBruijn32tab.getD j 0 : Nat) : Int))) ∧ 0 < w.heap.size
theorem TabW.past {w w' : World} (h : TabW w) (hb : Below w.heap.size w w') : TabW w' :=
 ⟨fun j hj => by rw [Below.cell hb h.2]; exact h.1 j hj, Nat.lt_of_lt_of_le h.2 hb.size⟩
theorem TabW.laid {w : World} (h : TabW w) (o : Obj) : TabW (w.alloc o) := h.past ((Below.refl _ _).alloc (Nat.le_refl _) o)
theorem TabW.drew {w : World} (h : TabW w) : TabW w.drew := ⟨h.1, h.2⟩
theorem b1u (x a : Nat) (hx : x < 4294967296) (hlow : x &&& (4294967296 - x) = a) (h0 : 0 < x) :
 bits BinOp.and IntKind.u32 (x : Int) (-(x : Int) % 4294967296) * 125613361 % 4294967296 / 134217728 = ((a * 125613361 % 4294967296 / 134217728 : Nat) : Int) := by
 have e1 : -(x : Int) % 4294967296 = ((4294967296 - x : Nat) : Int) := by omega
 rw [e1, u32_and_nat x _ hx (by omega), hlow]
 omega
theorem t0w (x k idx : Nat) (w : World) (hx0 : ((x : Int) == 0) = false)
 (key : bits BinOp.and IntKind.u32 (x : Int) (-(x : Int) % 4294967296) * 125613361 % 4294967296 / 134217728 = (idx : Int))
 (hi : idx < 32) (hk : k < 32) (hcell : w.cell? ⟨0, idx, none⟩ = some (.int .u8 k)) :
 Calls Tryd.prog 80 #[.int .u32 x] w fun e w' => e = .returned (.int .i64 k) ∧ w = w' := by
 go_enter Tryd.func80, Tryd.ntmps80
 go_wp2_with (simp only [key])
 go_ret
 exact ⟨rfl, rfl⟩
theorem x0h (x : Nat) (w : World) (hx : x < 4294967296) (h0 : 0 < x) (hT : TabW w) :
 Calls Tryd.prog 80 #[.int .u32 x] w fun e w' => e = .returned (.int .i64 (tz x : Nat)) ∧ w = w' := by
 rw [← b1s h0 hx]
 obtain ⟨hlow, hk⟩ := Lib.lowest_bit 32 x (by omega) (by omega)
 obtain ⟨hi, htab⟩ := Lib.deBruijn32_at _ hk
 have hcell := hT.1 _ hi
 rw [htab] at hcell
 exact t0w x _ _ w (bFn (by omega)) (b1u x _ hx hlow h0) hi hk hcell
theorem t0x (p : OA) (n c : Nat) (a : Nat) (w : World) (hp : Rd w .u32 p (dig B32 a)) (hn : n = (dig B32 a).length) (hl : (dig B32 a).length ≤ 100000000) (hT : TabW w) :
 Calls Tryd.prog 67 #[.slice p n c] w fun e w' => e = .returned (.int .i64 (tz a : Nat)) ∧ w = w' := by
 subst hn
 have HA := lHd (a0q a0a a)
 have HXL := lHd (b0a a0a a)
 have HT := lHd hT
 generalize dig B32 a = xs at *
 have hsx := hp.solid
 clear hT
 go_enter Tryd.func67, Tryd.ntmps67
 go_wp2
 go_loop [7] (fun iv => ∃ (i : Nat), iv = .int .i64 i ∧ i ≤ xs.length ∧ Hid (∀ j, j < i → dg xs j = 0)) (fun iv => xs.length - (intOf iv).toNat)
 case atStart => exact ⟨0, rfl, Nat.zero_le _, (show ∀ j, j < 0 → dg xs j = 0 from fun j hj => by omega)⟩
 case round =>
  obtain ⟨i, rfl, hi, HZ⟩ := hrel
  by_cases hlt : i < xs.length
  · have hc := hp.cells i hlt
    have hd := a0f (B := 4294967296) (by omega) xs HXL.out i
    obtain ⟨x, hx⟩ : ∃ x, dg xs i = x := ⟨_, rfl⟩
    rw [hx] at hc hd
    by_cases h0 : x = 0
    · subst h0
      have HZ' : Hid (∀ j, j < i + 1 → dg xs j = 0) := fun j hj => by
       by_cases h : j = i
       · subst h; exact hx
       · exact HZ.out j (by omega)
      clear hx
      go_wp2
      go_round
      case rel => exact ⟨i + 1, by go_num, hlt, HZ'⟩
      case measure => simp [intOf]; omega
    · have hx0 : ((x : Int) == 0) = false := bFn (by omega)
      have hx1 : ((x : Int) != 0) = true := by simpa using h0
      have HE := lHd (b1t HA.out HZ.out (by rw [hx]; omega) (by rw [hx]; exact hd))
      rw [hx] at HE
      have h1 : 0 < x := by omega
      have htz : tz x ≤ 32 := by
       obtain ⟨h2, h3⟩ := f0e x h1
       rcases Nat.lt_or_ge 32 (tz x) with h4 | h4
       · have h5 : 2 ^ 32 ≤ 2 ^ tz x := Nat.pow_le_pow_right (by omega) (by omega)
         have h6 : 0 < x / 2 ^ tz x := by
          rcases Nat.eq_zero_or_pos (x / 2 ^ tz x) with h | h
          · rw [h] at h3; simp at h3
          · exact h
         have h7 := Nat.mul_le_mul_left (2 ^ tz x) h6
         simp only [Nat.succ_eq_add_one, Nat.zero_add, Nat.mul_one] at h7
         omega
       · exact h4
      clear hx h0
      go_wp2_with fail
      refine (x0h x _ hd h1 HT.out).mono ?_
      rintro e w2 ⟨rfl, rfl⟩
      generalize tz x = t at *
      go_wp2_with fail
      go_ret
      exact ⟨a0s (by rw [HE.out]; simp), rfl⟩
  · have HE : Hid (tz a = 0) := by
     have := j0i (B := B32) (xs := xs) (fun j hj => HZ.out j (by omega))
     rw [HA.out] at this
     show tz a = 0
     rw [this, a1b]
    go_wp2
    go_ret
    exact ⟨a0s (by rw [HE.out]; rfl), rfl⟩
end Go.Proofs.YthcoapcffhgckaaDoor
namespace Go.Proofs.YthcoapcffhgckaaDoor
open Go.ChangeShapes Go.WideShapes Go.ChangeAt Go.WideMaps Go.WideElems Go.RowKit Go.Slip
theorem gTab : Tryd.prog.globalNamed "math/bits.deBruijn32tab" = some 0 := by kernel_rfl
theorem tTab : (Tryd.prog.globals[0]?).map (·.type) = some 123 := by kernel_rfl
theorem x0i : (Rows.laid_math_bits_deBruijn32tab : DataW Unit) = .agg (Lib.deBruijn32tab.map fun n : Nat => .lit (.int .u8 (n : Int))) := rfl
theorem p0j {W : World} (h : laidMetH Tryd.prog [("math/bits.deBruijn32tab", Rows.laid_math_bits_deBruijn32tab)] W) : TabW W := by
 rw [MakeChecks.laidMetH_plain _ _ _ (by kernel_rfl)] at h
 obtain ⟨ps, ⟨g0, t0, cs0, f0, p0, q0, hg0, ht0, hv0, hd0, _, _⟩, _, _⟩ := h
 obtain rfl := Option.some.inj (gTab.symm.trans hg0)
 obtain rfl := Option.some.inj (tTab.symm.trans ht0)
 obtain ⟨xs, m1, rfl, hx1, hlen, hn, hel⟩ := DataW.trod_array Tryd.underlying123 hd0
 have c1 : Tryd.prog.cellsOf 5 = 1 := by kernel_rfl
 rw [c1] at hel
 have hcell : ∀ j, j < 32 → W.cell? ⟨0, j, none⟩ = some (.int .u8 ((Lib.deBruijn32tab.getD j 0 : Nat) : Int)) := by
  intro j hj
  have h1 := hel j hj
  have hxj : xs[j]? = some (xs[j]'(by omega)) := List.getElem?_eq_getElem (by omega)
  rw [hxj] at h1
  obtain ⟨k, e1, e2, _⟩ := DataW.trod_int Tryd.underlying5 h1
  have hlj : j < Lib.deBruijn32tab.length := hj
  have h2 : (xs.map (·.1))[j]? = some (.lit (.int .u8 ((Lib.deBruijn32tab.getD j 0 : Nat) : Int))) := by
   have h3 := (Prod.mk.inj hx1).1
   rw [x0i] at h3
   injection h3 with h4
   rw [← h4, List.getElem?_map, List.getElem?_eq_getElem hlj, List.getD, List.getElem?_eq_getElem hlj]
   rfl
  rw [List.getElem?_map, hxj, Option.map_some, e2] at h2
  have hk : k = ((Lib.deBruijn32tab.getD j 0 : Nat) : Int) := by
   simp only [Option.some.injEq, DataW.lit.injEq, Lit.int.injEq] at h2
   exact h2.2
  rw [← hk, World.var?_cell hg0 hv0 j]
  have h5 : cs0.toList[j]? = some (.int .u8 k) := by
   have := congrArg (·[0]?) e1
   simp only [Nat.mul_one] at this
   rw [List.getElem?_take_of_lt (by omega), List.getElem?_drop] at this
   simpa using this
  simpa using h5
 exact ⟨hcell, World.block_lt_of_cell? W _ (hcell 0 (by omega))⟩
end Go.Proofs.YthcoapcffhgckaaDoor
namespace Go.Slip
open Go.RowKit
section walk
variable {P : Program} {ops : Array Oper} {rest : List Oper} {o : Oper} {a : Act} {K : Act → World → Prop} {Q : Exit → Act → World → Prop} {w : World}
theorem x0j (x y : Operand) (t : TypeId) (ho : o.op = .makeSlice t x y) {e : TypeId} {k : IntKind} {bytes : Nat} (hty : SlTy P t e k bytes) (kl kc : IntKind) (n m : Nat) (i1 i2 : Int)
 (hx : a.eval x = .int kl i1) (hy : a.eval y = .int kc i2) (h1 : i1 = n) (h2 : i2 = m) (hnm : n ≤ m) (hb : m ≤ 4000000000)
 (h : ∀ p' c' w', Own w' w.heap.size k e p' c' (List.replicate n 0) → Below w.heap.size w w' → w.heap.size < w'.heap.size → K (a.put o.dst (.slice p' n c')) w') : o.wp P a w K Q := by
 subst h1 h2
 obtain ⟨i, hi, hz, hs, hbt⟩ := hty.hi
 have hbb : (i.bytes : Int) * (m : Int) ≤ 281474976710656 := by
  have h1 : m * i.bytes ≤ 4000000000 * 8 := Nat.mul_le_mul hb (by rw [hbt]; exact hty.le)
  have h2 : ((i.bytes * m : Nat) : Int) ≤ 281474976710656 := by rw [Nat.mul_comm]; omega
  rwa [Int.natCast_mul] at h2
 have hr := run_make (P := P) w t e i (.int k 0) hty.ht hi hz kl kc n m (by omega) (by omega) hbb (by omega)
 simp only [Int.toNat_natCast, hs, Nat.mul_one] at hr
 unfold Oper.wp execOp
 simp only [ho, hx, hy]
 simp only [Sem.run_bind, hr, Result.andThen_ok, Sem.run_pure]
 have hO : Own (w.alloc (.cells (madeCells (Value.cells (.int k 0)) m) e)) w.heap.size k e (some ⟨w.heap.size, 0, none⟩) m (List.replicate m 0) := by
  unfold Own
  rw [List.length_replicate, List.map_replicate]
  have : (madeCells (Value.cells (.int k 0)) m).toList = List.replicate m (.int k ((0 : Nat) : Int)) := toList_madeCells_one _ _
  rw [← this]
  exact World.ownsRow_lit w _ m (Nat.le_refl _) (by simp only [maxLen]; omega) (by simp [madeCells])
 have hO2 := hO.take n
 rw [List.take_replicate, Nat.min_eq_left hnm] at hO2
 exact h _ _ _ hO2 ((Below.refl _ _).alloc (Nat.le_refl _) _) (by simp)
theorem t0y (hgd : o.guard = none) (x y : Operand) (t : TypeId) (ho : o.op = .makeSlice t x y) {e : TypeId} {k : IntKind} {bytes : Nat} (hty : SlTy P t e k bytes) (kl kc : IntKind) (n m : Nat) (i1 i2 : Int)
 (hx : a.eval x = .int kl i1) (hy : a.eval y = .int kc i2) (h1 : i1 = n) (h2 : i2 = m) (hnm : n ≤ m) (hb : m ≤ 4000000000)
 (h : ∀ p' c' w', Own w' w.heap.size k e p' c' (List.replicate n 0) → Below w.heap.size w w' → w.heap.size < w'.heap.size → wpList P ops Q rest (a.put o.dst (.slice p' n c')) w') : wpList P ops Q (o :: rest) a w :=
 wpList_plain hgd fun _ hK => x0j x y t ho hty kl kc n m i1 i2 hx hy h1 h2 hnm hb fun p' c' w' h900 h901 h902 => hK _ _ (h p' c' w' h900 h901 h902)
end walk
end Go.Slip
namespace Go.Proofs.YthcoapcffhgckaaDoor
open Go.RowKit Go.Slip
theorem n0w (x cr s : Nat) (hx : x < 4294967296) (hs : s < 32) (hc : cr < 2 ^ s) : x * 2 ^ s + cr < 18446744073709551616 := by
 have h1 : 2 ^ s ≤ 2 ^ 31 := Nat.pow_le_pow_right (by omega) (by omega)
 have h2 := Nat.mul_le_mul_right (2 ^ s) (show x + 1 ≤ 4294967296 from hx)
 rw [Nat.add_mul, Nat.one_mul] at h2
 omega
theorem b1v (x cr s : Nat) (hx : x < 4294967296) (hs : s < 32) (hc : cr < 2 ^ s) :
 bits .or .u64 (IntKind.u64.wrap ((x : Int) * 2 ^ s)) (cr : Int) = ((x * 2 ^ s + cr : Nat) : Int) := by
 have hlt := n0w x cr s hx hs hc
 have e : (x : Int) * 2 ^ s = ((x * 2 ^ s : Nat) : Int) := by simp
 rw [e, IntWalk.u64_in _ (by omega), u64_or_nat _ _ (by omega) (by omega), nat_join s _ _ (Nat.mul_mod_left _ _) hc]
theorem d0h (p : OA) (n c : Nat) (a N : Nat) (w : World) (hp : Rd w .u32 p (dig B32 a)) (hn : n = (dig B32 a).length) (hl : (dig B32 a).length ≤ 1000000000) (hN : N ≤ 1000000000) :
 Calls Tryd.prog 41 #[.slice p n c, .int .i64 N] w (g0i w .u32 55 (dig B32 (a * 2 ^ N))) := by
 subst hn
 by_cases h0 : (dig B32 a).length = 0
 · have : a = 0 := (a0h a0a a).1 h0
   subst this
   rw [Nat.zero_mul]
   rw [a0b] at *
   go_enter Tryd.func41, Tryd.ntmps41
   go_wp2
   go_ret
   exact ⟨none, 0, rfl, Own.nil _ _ _ _, Below.refl _ _⟩
 · have HXL := lHd (b0a a0a a)
   have HA := lHd (a0q a0a a)
   generalize dig B32 a = xs at *
   have hsx := hp.solid
   have hlen : 1 ≤ xs.length := by omega
   clear h0
   have hs : N % 32 < 32 := Nat.mod_lt _ (by omega)
   have H0 := lHd (g0r.start (k := N / 32) (p := 2 ^ (N % 32)) b0i (Nat.pow_pos (by omega)) xs)
   go_enter Tryd.func41, Tryd.ntmps41
   go_wp2_with (refine t0y rfl _ _ _ rfl b0l .i64 .i64 (N / 32) (N / 32 + xs.length + 1) _ _ rfl rfl ?_ ?_ ?_ ?_ ?_; omega; omega; omega; omega; intro p1 c1 w1 ho1 hb1 hz1)
   go_loopg [5, 7, 27] (xs.length) (fun g ov cv iv wr => ∃ (i cr : Nat) (t : OA) (e : Nat) (O : List Nat), iv = .int .i64 i ∧ cv = .int .u32 cr ∧ ov = .slice t O.length e ∧ g + i = xs.length ∧ cr < 4294967296 ∧ i ≤ xs.length ∧ Hid (O.length = N / 32 + i) ∧
     Own wr w.heap.size .u32 55 t e O ∧ Below w.heap.size w wr ∧ Hid (g0r B32 (N / 32) (2 ^ (N % 32)) O xs i cr))
   case atStart => exact ⟨0, 0, p1, c1, _, rfl, rfl, by simp, by omega, by omega, by omega, List.length_replicate, ho1, hb1, H0⟩
   case round =>
    obtain ⟨i, cr, t, e, O, rfl, rfl, rfl, hg, hcr, hi, hO, hoq, hb, HR⟩ := hrel
    have hpL := hp.past hb
    have hxd := a0f (B := 4294967296) (by omega) xs HXL.out i
    by_cases h1 : i < xs.length
    · have hc1 := hpL.cells i h1
      obtain ⟨t, ht⟩ : ∃ t, t = dg xs i * 2 ^ (N % 32) + cr := ⟨_, rfl⟩
      have HS := lHd (HR.out.step (by unfold B32; exact hxd) t ht)
      have hor := b1v (dg xs i) cr (N % 32) hxd hs HR.out.2.2.1
      have htb := n0w (dg xs i) cr (N % 32) hxd hs HR.out.2.2.1
      rw [← ht] at hor htb
      have hq : t / 4294967296 < 4294967296 := by omega
      clear ht hs H0
      go_wp2_with (first
        | (refine a0p rfl _ _ rfl b0l _ ?_ rfl ?_; omega; intro p2 w2 ho2 hb2 hz2 hp2)
        | (at_builtin; refine a0o rfl _ _ _ rfl b0l _ _ _ _ _ (hoq.past hb2) rfl _ _ _ _ ho2.rd rfl rfl rfl ?_ ?_ ?_; (have := hO.out; simp; omega); (have := hb2.size; have := hb.size; omega); intro p3 c3 w3 ho3 hg3 hb3 hn3))
      have hb4 := hb.trans ((hb2.mono hb.size).trans hb3)
      have e4 : ((t : Int) % 4294967296).toNat = t % B32 := by unfold B32; omega
      rw [e4] at ho3
      go_roundg (xs.length - 1 - i)
      case measure => omega
      case rel => exact ⟨i + 1, t / B32, p3, c3, _, by go_num, (by unfold B32; go_num), by simp, by omega, (by unfold B32; exact hq), by omega, (by show (O ++ _).length = _; have := hO.out; rw [List.length_append, List.length_singleton]; omega), ho3, hb4, HS⟩
    · obtain rfl : i = xs.length := by omega
      obtain ⟨hd1, hd2⟩ := HR.out.done (by have := Nat.pow_le_pow_right (show 0 < 2 by omega) (Nat.le_of_lt hs); exact this) HA.out
      rw [j0f (B := B32) (w := 32) (by decide) N] at hd2
      have HD := lHd hd1
      have HV := lHd hd2
      clear hd1 hd2 hs H0
      go_wp2_with (first
        | (refine a0p rfl _ _ rfl b0l _ ?_ rfl ?_; omega; intro p2 w2 ho2 hb2 hz2 hp2)
        | (at_builtin; refine a0o rfl _ _ _ rfl b0l _ _ _ _ _ (hoq.past hb2) rfl _ _ _ _ ho2.rd rfl rfl rfl ?_ ?_ ?_; (have := hO.out; simp; omega); (have := hb2.size; have := hb.size; omega); intro p3 c3 w3 ho3 hg3 hb3 hn3)
        | (go_at_call 63; rw [Int.toNat_natCast] at ho3; refine (d0q _ _ _ (O ++ [cr]) _ ho3.rd (by simp) ho3.le_cap HD.out (by have := hO.out; rw [List.length_append, List.length_singleton]; omega)).mono ?_; rintro e w4 ⟨rfl, rfl⟩))
      go_ret
      have ht := a0v a0a _ HD.out
      have ho4 := ho3.take (dig B32 (val B32 (O ++ [cr]))).length
      rw [ht, HV.out] at ho4
      rw [HV.out]
      exact ⟨p3, _, rfl, ho4, hb.trans ((hb2.mono hb.size).trans hb3)⟩
theorem b1w (x y s : Nat) (hx : x < 4294967296) (hs : s < 32) (h0 : 0 < s) :
 bits .or .u32 ((x / 2 ^ s : Nat) : Int) ((y : Int) * 2 ^ (32 - s) % 4294967296) = ((x / 2 ^ s + y % 2 ^ s * (4294967296 / 2 ^ s) : Nat) : Int) := by
 have e0 : 4294967296 = 2 ^ s * 2 ^ (32 - s) := by rw [← Nat.pow_add, show s + (32 - s) = 32 by omega]
 have e1 : 4294967296 / 2 ^ s = 2 ^ (32 - s) := by rw [e0, Nat.mul_div_cancel_left _ (Nat.pow_pos (by omega))]
 have e2 : (y : Int) * 2 ^ (32 - s) % 4294967296 = ((y % 2 ^ s * 2 ^ (32 - s) : Nat) : Int) := by
  have : y * 2 ^ (32 - s) % 4294967296 = y % 2 ^ s * 2 ^ (32 - s) := by rw [e0, Nat.mul_mod_mul_right]
  rw [← this]; simp
 have hp : 0 < 2 ^ s := Nat.pow_pos (by omega)
 have h1 : x / 2 ^ s < 2 ^ (32 - s) := by rw [Nat.div_lt_iff_lt_mul hp, Nat.mul_comm, ← e0]; exact hx
 have h2 : y % 2 ^ s * 2 ^ (32 - s) < 4294967296 := by
  rw [e0]; exact Nat.mul_lt_mul_of_pos_right (Nat.mod_lt _ hp) (Nat.pow_pos (by omega))
 have h3 : x / 2 ^ s < 4294967296 := Nat.lt_of_le_of_lt (Nat.div_le_self _ _) hx
 rw [e1, e2, u32_or_nat _ _ h3 h2, Nat.or_comm, nat_join (32 - s) _ _ (Nat.mul_mod_left _ _) h1, Nat.add_comm]
theorem x0k {L Y : List Nat} {N a : Nat} (h : g0d B32 (2 ^ (N % 32)) L Y Y.length) (hY : val B32 Y = a / B32 ^ (N / 32)) : val B32 L = a / 2 ^ N := by
 rw [h.done, hY, j0e (B := B32) (w := 32) (by decide)]
theorem m0e (p : OA) (n c : Nat) (a N : Nat) (w : World) (hp : Rd w .u32 p (dig B32 a)) (hn : n = (dig B32 a).length) (hc : (dig B32 a).length ≤ c) (hl : (dig B32 a).length ≤ 1000000000) (hN : N ≤ 1000000000) :
 Calls Tryd.prog 47 #[.slice p n c, .int .i64 N] w (g0i w .u32 55 (dig B32 (a / 2 ^ N))) := by
 subst hn
 by_cases h0 : (dig B32 a).length ≤ N / 32
 · rw [k0u (w := 32) (by decide) a0a a N h0]
   rw [a0b]
   go_enter Tryd.func47, Tryd.ntmps47
   go_wp2
   go_ret
   exact ⟨none, 0, rfl, Own.nil _ _ _ _, Below.refl _ _⟩
 · have HXL := lHd (b0a a0a a)
   have HV := lHd (i0a (B := B32) b0i _ (b0a a0a a) (N / 32))
   rw [a0q a0a] at HV
   generalize dig B32 a = xs at *
   have hsx := hp.solid
   have hk : N / 32 < xs.length := by omega
   have hq := hp.drop (N / 32)
   have HY := lHd (show ∀ x ∈ xs.drop (N / 32), x < B32 from fun x h => HXL.out x (List.mem_of_mem_drop h))
   have hyl : (xs.drop (N / 32)).length = xs.length - N / 32 := List.length_drop
   have hylp : 0 < (xs.drop (N / 32)).length := by omega
   have hyl1 : (xs.drop (N / 32)).length ≤ 1000000000 := by omega
   have eN : ((N : Int) / 32).toNat = N / 32 := by omega
   clear h0
   have hs : N % 32 < 32 := Nat.mod_lt _ (by omega)
   generalize hY : xs.drop (N / 32) = ys at *
   clear hY
   have HL := lHd hyl
   clear hyl
   have hpm : B32 % 2 ^ (N % 32) = 0 := i0b (w := 32) (by omega)
   have hpm := lHd hpm
   have H0 := lHd (g0d.start (p := 2 ^ (N % 32)) HY.out)
   go_enter Tryd.func47, Tryd.ntmps47
   go_wp2_with (go_at_call 64; refine (f0b _ _ _ ys _ hq HL.out.symm hyl1).mono ?_; rintro e w1 ⟨p1, c1, rfl, ho1, hb1⟩)
   go_loopw [22] (fun iv wr => ∃ (i : Nat) (L : List Nat), iv = .int .i64 i ∧ i ≤ ys.length ∧ L.length = ys.length ∧ Own wr w.heap.size .u32 55 p1 c1 L ∧ Below w.heap.size w wr ∧ Hid (g0d B32 (2 ^ (N % 32)) L ys i))
    (fun iv _ => ys.length - (intOf iv).toNat)
   case atStart => exact ⟨0, ys, rfl, Nat.zero_le _, rfl, ho1, hb1, H0⟩
   case round =>
    obtain ⟨i, L, rfl, hi, hL, hoL, hb, HR⟩ := hrel
    by_cases hlt : i < ys.length
    · have hc1 := hoL.rd.cells i (by omega)
      have hsL := hoL.solid
      rw [hL] at hsL
      rw [HR.out.2.2.1 i (Nat.le_refl _)] at hc1
      have hyd := a0f (B := 4294967296) (by omega) ys HY.out i
      have hyd2 := a0f (B := 4294967296) (by omega) ys HY.out (i + 1)
      obtain ⟨v, hv⟩ : ∃ v, v = dg ys i / 2 ^ (N % 32) := ⟨_, rfl⟩
      have ev : ((dg ys i : Nat) : Int) / 2 ^ (N % 32) = (v : Nat) := by rw [hv]; simp
      have hvd : v < 4294967296 := by rw [hv]; exact Nat.lt_of_le_of_lt (Nat.div_le_self _ _) hyd
      by_cases h2 : i + 1 < ys.length ∧ 0 < N % 32
      · obtain ⟨h2, h3⟩ := h2
        obtain ⟨u, hu⟩ : ∃ u, u = dg ys i / 2 ^ (N % 32) + dg ys (i + 1) % 2 ^ (N % 32) * (B32 / 2 ^ (N % 32)) := ⟨_, rfl⟩
        have HS := lHd (HR.out.step (Nat.pow_pos (by omega)) hpm.out HY.out hlt u hu)
        have hor := b1w (dg ys i) (dg ys (i + 1)) (N % 32) hyd hs h3
        rw [show B32 = 4294967296 from rfl] at hu
        rw [← hu, ← hv] at hor
        have huB : u < 4294967296 := by rw [hu]; exact q0y (Nat.pow_pos (by omega)) hpm.out hyd
        clear hu hv
        go_wp2_with (refine a0j rfl _ _ _ rfl 55 b0l _ _ _ _ hoL i (by omega) _ ?_ rfl rfl ?_; omega; intro w3 ho3 hg3 hb3)
        rw [ev, Int.toNat_natCast] at ho3
        have hlv : (L.set i v).length = ys.length := by simp [hL]
        have hcA := ho3.rd.cells i (by omega)
        have hcB := ho3.rd.cells (i + 1) (by omega)
        rw [b0h (by omega)] at hcA
        rw [c0d (by omega), HR.out.2.2.1 (i + 1) (by omega)] at hcB
        have hfr := f0o ho3 i (by omega)
        go_region
        obtain ⟨ho4, hg4, hb4⟩ := h0o ho3 i (by omega) u
        rw [List.set_set] at ho4
        have hs3 := hb.trans hb3
        have hb5 := hs3.trans (a0z hg4 hs3.size (fun j hj => by cases hj; exact hb4))
        have ho4 := ho4.drew
        have hb5 := hb5.drew
        clear hcA hcB hfr hor hg4 hb4
        generalize (w3.setCell (at_ p1 i) (.int .u32 (u : Int))).drew = w4 at ho4 hb5 ⊢
        go_wp2
        go_roundw
        case rel => exact ⟨i + 1, _, by go_num, by omega, by simp [hL], ho4, hb5, HS⟩
        case measure => simp [intOf]; omega
      · have HS := lHd (HR.out.step (Nat.pow_pos (by omega)) hpm.out HY.out hlt v (by
          rw [hv]
          by_cases h3 : N % 32 = 0
          · rw [h3, Nat.pow_zero, Nat.mod_one, Nat.zero_mul]; rfl
          · rw [b0c (show ys.length ≤ i + 1 by omega), Nat.zero_mod, Nat.zero_mul]; rfl))
        clear hv
        by_cases h3 : i + 1 < ys.length
        · have h4 : N % 32 ≤ 0 := by omega
          clear h2
          go_wp2_with (refine a0j rfl _ _ _ rfl 55 b0l _ _ _ _ hoL i (by omega) _ ?_ rfl rfl ?_; omega; intro w3 ho3 hg3 hb3)
          rw [ev, Int.toNat_natCast] at ho3
          go_roundw
          case rel => exact ⟨i + 1, _, by go_num, by omega, by simp [hL], ho3, hb.trans hb3, HS⟩
          case measure => simp [intOf]; omega
        · clear h2
          go_wp2_with (refine a0j rfl _ _ _ rfl 55 b0l _ _ _ _ hoL i (by omega) _ ?_ rfl rfl ?_; omega; intro w3 ho3 hg3 hb3)
          rw [ev, Int.toNat_natCast] at ho3
          go_roundw
          case rel => exact ⟨i + 1, _, by go_num, by omega, by simp [hL], ho3, hb.trans hb3, HS⟩
          case measure => simp [intOf]; omega
    · obtain rfl : i = ys.length := by omega
      have HD := lHd (x0k HR.out HV.out)
      have HX := lHd HR.out.1
      go_wp2_with (go_at_call 63; refine (d0q _ _ _ L _ hoL.rd hL.symm hoL.le_cap HX.out (by omega)).mono ?_; rintro e w3 ⟨rfl, rfl⟩)
      go_ret
      have ht := a0v a0a L HX.out
      have ho2 := hoL.take (dig B32 (val B32 L)).length
      rw [ht, HD.out] at ho2
      rw [HD.out]
      exact ⟨p1, c1, rfl, ho2, hb⟩
structure Box3 (w : World) (b : Nat) (v0 v1 v2 : Value) : Prop where
 c0 : w.cell? ⟨b, 0, none⟩ = some v0
 c1 : w.cell? ⟨b, 1, none⟩ = some v1
 c2 : w.cell? ⟨b, 2, none⟩ = some v2
 f0 : w.frozen? ⟨b, 0, none⟩ = false
 f1 : w.frozen? ⟨b, 1, none⟩ = false
 f2 : w.frozen? ⟨b, 2, none⟩ = false
 lt : b < w.heap.size
theorem Box3.past {w w' : World} {b : Nat} {v0 v1 v2 : Value} (h : Box3 w b v0 v1 v2) (hb : Below w.heap.size w w') : Box3 w' b v0 v1 v2 :=
 ⟨by rw [Below.cell hb h.lt]; exact h.c0, by rw [Below.cell hb h.lt]; exact h.c1, by rw [Below.cell hb h.lt]; exact h.c2,
  by rw [Below.frozen hb h.lt]; exact h.f0, by rw [Below.frozen hb h.lt]; exact h.f1, by rw [Below.frozen hb h.lt]; exact h.f2, Nat.lt_of_lt_of_le h.lt hb.size⟩
theorem Box3.drew {w : World} {b : Nat} {v0 v1 v2 : Value} (h : Box3 w b v0 v1 v2) : Box3 w.drew b v0 v1 v2 := ⟨h.c0, h.c1, h.c2, h.f0, h.f1, h.f2, h.lt⟩
theorem a0i (w : World) (v0 v1 v2 : Value) (t : TypeId) : Box3 (w.alloc (.cells #[v0, v1, v2] t)) w.heap.size v0 v1 v2 :=
 ⟨by simp [go_sem], by simp [go_sem], by simp [go_sem], by simp [go_sem], by simp [go_sem], by simp [go_sem], by simp⟩
def d0i (w : World) (base : Nat) (d : Dv) (en : Ending) (w' : World) : Prop :=
 ∃ p c, en = .returned (.agg #[.bool d.neg, .slice p (dig B32 d.m).length c, .int .i64 d.e]) ∧ Own w' base .u32 55 p c (dig B32 d.m) ∧ Below w.heap.size w w'
theorem m0f (g : Bool) (p : OA) (c : Nat) (e : Int) (w : World) :
 Calls Tryd.prog 45 #[.agg #[.bool g, .slice p 0 c, .int .i64 e]] w (d0i w w.heap.size ⟨false, 0, 0⟩) := by
 go_enter Tryd.func45, Tryd.ntmps45
 go_wp2
 refine bodyPost_ret (v := .agg #[.bool false, .slice none 0 0, .int .i64 0]) (by simp [results, Tryd.results45, go_sem]) rfl ?_
 exact ⟨none, 0, by rw [a0b]; rfl, by rw [a0b]; exact Own.nil _ _ _ _, ((Below.refl _ _).alloc (Nat.le_refl _) _).alloc (by simp) _⟩
theorem n0x (g : Bool) (p : OA) (n c : Nat) (e : Int) (m : Nat) (w : World) (hp : Rd w .u32 p (dig B32 m)) (hn : n = (dig B32 m).length) (hc : n ≤ c) (hl : (dig B32 m).length ≤ 10000000) (h0 : 0 < m)
 (he : -1000000000 ≤ e ∧ e ≤ 1000000000) (hT : TabW w) :
 Calls Tryd.prog 45 #[.agg #[.bool g, .slice p n c, .int .i64 e]] w (d0i w w.heap.size (bare ⟨g, m, e⟩)) := by
 subst hn
 have hl0 : 0 < (dig B32 m).length := by
  have := a0h a0a m
  omega
 have t1 : (((dig B32 m).length : Int) == 0) = false := bFn (by omega)
 go_enter Tryd.func45, Tryd.ntmps45
 go_wp2_with fail
 refine (t0x p _ c m _ ((hp.laid _).laid _) rfl (by omega) ((hT.laid _).laid _)).mono ?_
 rintro e1 w1 ⟨rfl, rfl⟩
 have htz : tz m ≤ 1000000000 := by have := h0s h0; have := b0e m; omega
 have HB := lHd (i0s (g := g) (e := e) h0)
 obtain ⟨t, ht⟩ : ∃ t, tz m = t := ⟨_, rfl⟩
 have HT := lHd ht
 rw [ht] at htz HB ⊢
 clear ht
 go_wp2_with fail
 have B1 := (a0i w (.bool g) (.slice p (dig B32 m).length c) (.int .i64 e) 61).past ((Below.refl _ _).alloc (Nat.le_refl _) (.cells #[.bool false, .slice none 0 0, .int .i64 0] 61))
 have B2 := a0i (w.alloc (.cells #[.bool g, .slice p (dig B32 m).length c, .int .i64 e] 61)) (.bool false) (.slice none 0 0) (.int .i64 0) 61
 have hp1 := (hp.laid (.cells #[.bool g, .slice p (dig B32 m).length c, .int .i64 e] 61)).laid (.cells #[.bool false, .slice none 0 0, .int .i64 0] 61)
 have hs1 : Below w.heap.size w ((w.alloc (.cells #[.bool g, .slice p (dig B32 m).length c, .int .i64 e] 61)).alloc (.cells #[.bool false, .slice none 0 0, .int .i64 0] 61)) := ((Below.refl _ _).alloc (Nat.le_refl _) _).alloc (by simp) _
 have ez : (w.alloc (.cells #[.bool g, .slice p (dig B32 m).length c, .int .i64 e] 61)).heap.size = w.heap.size + 1 := by simp
 rw [ez] at B2
 clear ez
 generalize (w.alloc (.cells #[.bool g, .slice p (dig B32 m).length c, .int .i64 e] 61)).alloc (.cells #[.bool false, .slice none 0 0, .int .i64 0] 61) = W1 at *
 have e1 : IntKind.i64.wrap (e + (t : Int)) = e + (t : Int) := iwo
 go_region_held3 (fun w' => w'.cell? ⟨w.heap.size, 0, none⟩ = some (.bool g) ∧ w'.cell? ⟨w.heap.size, 1, none⟩ = some (.slice p (dig B32 m).length c) ∧ w'.cell? ⟨w.heap.size, 2, none⟩ = some (.int .i64 e))
  (first | exact ⟨B1.c0, B1.c1, B1.c2⟩
         | (have D1 := B1.drew; exact ⟨D1.c0, D1.c1, D1.c2⟩)
         | (have D1 := B1.drew.past hb2; exact ⟨D1.c0, D1.c1, D1.c2⟩)
         | go_keep)
  (first | (go_at_call 47; refine (m0e p _ c m t _ hp1.drew rfl hc (by clear e1; omega) (by clear e1; omega)).mono ?_; rintro e2 w2 ⟨p2, c2, rfl, ho2, hb2⟩; obtain ⟨d0, d1, d2, f0, f1, f2, dlt⟩ := B2.drew.past hb2))
 all_goals (go_wp2_with fail)
 refine bodyPost_ret (v := .agg #[.bool g, .slice p2 (dig B32 (m / 2 ^ t)).length c2, .int .i64 (e + (t : Int))]) (by simp [results, Tryd.results45, go_sem, d0, d1, d2]) rfl ?_
 rw [HB.out]
 clear e1
 have hs2 := hs1.drew.trans (hb2.mono hs1.size)
 have hz := B2.lt
 refine ⟨p2, c2, rfl, (ho2.mono hs1.size).same (fun h => ?_), ((hs2.setCell (by simp) _).setCell (by simp) _).setCell (by simp) _⟩
 have hk := (ho2.blk_lt h).1
 have hne : blk p2 ≠ w.heap.size + 1 := by
  have : W1.drew.heap.size = W1.heap.size := rfl
  omega
 rw [Below.heap_setCell _ _ _ _ hne, Below.heap_setCell _ _ _ _ hne, Below.heap_setCell _ _ _ _ hne]
theorem c0h (g : Bool) (p : OA) (n c : Nat) (e : Int) (m : Nat) (w : World) (hp : Rd w .u32 p (dig B32 m)) (hn : n = (dig B32 m).length) (hc : n ≤ c) (hl : (dig B32 m).length ≤ 10000000)
 (he : -1000000000 ≤ e ∧ e ≤ 1000000000) (hT : TabW w) :
 Calls Tryd.prog 45 #[.agg #[.bool g, .slice p n c, .int .i64 e]] w (d0i w w.heap.size (bare ⟨g, m, e⟩)) := by
 by_cases h0 : m = 0
 · subst h0
   rw [a0b] at hn
   subst hn
   exact m0f g p c e w
 · exact n0x g p n c e m w hp hn hc hl (by omega) he hT
theorem j0j (g : Bool) (p : OA) (n c : Nat) (e : Int) (m : Nat) (w : World) (hp : Rd w .u32 p (dig B32 m)) (hn : n = (dig B32 m).length) (hc : n ≤ c) (hl : (dig B32 m).length ≤ 10000000)
 (he : -1000000000 ≤ e ∧ e ≤ 1000000000) (hT : TabW w) :
 Calls Tryd.prog 22 #[.agg #[.bool g, .slice p n c, .int .i64 e]] w (d0i w w.heap.size (bare ⟨g, m, e⟩)) := by
 subst hn
 have hs1 : Below w.heap.size w ((w.alloc (.cells #[.bool g, .slice p (dig B32 m).length c, .int .i64 e] 25)).alloc (.cells #[.bool false, .slice none 0 0, .int .i64 0] 61)) := ((Below.refl _ _).alloc (Nat.le_refl _) _).alloc (by simp) _
 have B2 := a0i (w.alloc (.cells #[.bool g, .slice p (dig B32 m).length c, .int .i64 e] 25)) (.bool false) (.slice none 0 0) (.int .i64 0) 61
 have ez : (w.alloc (.cells #[.bool g, .slice p (dig B32 m).length c, .int .i64 e] 25)).heap.size = w.heap.size + 1 := by simp
 rw [ez] at B2
 clear ez
 go_enter Tryd.func22, Tryd.ntmps22
 go_wp2_with fail
 ((with_reducible refine (c0h g p _ c e m _ ((hp.laid _).laid _) rfl hc hl he ((hT.laid _).laid _)).mono ?_))
 generalize bare ⟨g, m, e⟩ = r at *
 generalize (w.alloc (.cells #[.bool g, .slice p (dig B32 m).length c, .int .i64 e] 25)).alloc (.cells #[.bool false, .slice none 0 0, .int .i64 0] 61) = W1 at *
 rintro e2 w2 ⟨p2, c2, rfl, ho2, hb2⟩
 obtain ⟨d0, d1, d2, f0, f1, f2, dlt⟩ := B2.past hb2
 go_wp2_with fail
 refine bodyPost_ret (v := .agg #[.bool r.neg, .slice p2 (dig B32 r.m).length c2, .int .i64 r.e]) (by simp [results, Tryd.results22, go_sem, d0, d1, d2]) rfl ?_
 have hs2 := hs1.trans (hb2.mono hs1.size)
 have hz := B2.lt
 refine ⟨p2, c2, rfl, (ho2.mono hs1.size).same (fun h => ?_), ((hs2.setCell (by simp) _).setCell (by simp) _).setCell (by simp) _⟩
 have hk := (ho2.blk_lt h).1
 have hne : blk p2 ≠ w.heap.size + 1 := by omega
 rw [Below.heap_setCell _ _ _ _ hne, Below.heap_setCell _ _ _ _ hne, Below.heap_setCell _ _ _ _ hne]
theorem c0e (g : Bool) (p : OA) (n c : Nat) (e : Int) (m : Nat) (w : World) (hn : n = (dig B32 m).length) :
 Calls Tryd.prog 38 #[.agg #[.bool g, .slice p n c, .int .i64 e]] w fun en w' => en = .returned (.int .i64 (a0k ⟨g, m, e⟩)) ∧ Below w.heap.size w w' := by
 have hb : Below w.heap.size w (w.alloc (.cells #[.bool g, .slice p n c, .int .i64 e] 61)) := (Below.refl _ _).alloc (Nat.le_refl _) _
 by_cases h0 : m = 0
 · subst h0
   rw [a0b] at hn
   subst hn
   go_enter Tryd.func38, Tryd.ntmps38
   go_wp2
   go_ret
   exact ⟨rfl, hb⟩
 · have hl0 : 0 < n := by
    have := a0h a0a m
    omega
   have t1 : ((n : Int) == 0) = false := bFn (by omega)
   have hs : a0k ⟨g, m, e⟩ = if g then -1 else 1 := by unfold a0k; rw [if_neg h0]
   rw [hs]
   clear hn h0 hs
   cases g
   · go_enter Tryd.func38, Tryd.ntmps38
     go_wp2
     go_ret
     exact ⟨rfl, hb⟩
   · go_enter Tryd.func38, Tryd.ntmps38
     go_wp2
     go_ret
     exact ⟨rfl, hb⟩
theorem t0z {x y : Nat} (hx : x < 4294967296) (hy : y < 4294967296) : (x : Int) * y ≤ 18446744065119617025 ∧ 0 ≤ (x : Int) * y := by
 have h : x * y ≤ 4294967295 * 4294967295 := Nat.mul_le_mul (by omega) (by omega)
 have e : (x : Int) * y = ((x * y : Nat) : Int) := by simp
 rw [e]; omega
def c0b (w : World) (base : Nat) (d : Dv) (er : Int) (en : Ending) (w' : World) : Prop :=
 ∃ p c, en = .returned (.tuple #[.agg #[.bool d.neg, .slice p (dig B32 d.m).length c, .int .i64 d.e], .int .i64 er]) ∧ Own w' base .u32 55 p c (dig B32 d.m) ∧ Below w.heap.size w w'
theorem b0d (w : World) (o1 o2 : Obj) : Below w.heap.size w ((w.alloc o1).alloc o2) := ((Below.refl _ _).alloc (Nat.le_refl _) _).alloc (by simp) _
theorem g0u (g : Bool) (p : OA) (n c base : Nat) (e : Int) (m : Nat) (w : World) (ho : Own w base .u32 55 p c (dig B32 m)) (hn : n = (dig B32 m).length) (hl : (dig B32 m).length ≤ 1000000000) :
 Calls Tryd.prog 24 #[.agg #[.bool g, .slice p n c, .int .i64 e]] w (c0b w base (c0k ⟨g, m, e⟩) (errD ⟨g, m, e⟩)) := by
 subst hn
 by_cases h1 : 1200 < (dig B32 m).length
 · have he : errD ⟨g, m, e⟩ = 2 := by unfold errD; rw [if_pos h1]
   have hd : c0k ⟨g, m, e⟩ = ⟨false, 0, 0⟩ := by unfold c0k; rw [he, if_neg (by omega)]; rfl
   rw [he, hd]
   clear he hd
   go_enter Tryd.func24, Tryd.ntmps24
   go_wp2
   refine bodyPost_ret (v := .tuple #[.agg #[.bool false, .slice none 0 0, .int .i64 0], .int .i64 2]) (by simp [results, Tryd.results24, go_sem]) rfl ?_
   exact ⟨none, 0, by rw [a0b]; rfl, by rw [a0b]; exact Own.nil _ _ _ _, b0d _ _ _⟩
 · by_cases h2 : e < -20000 ∨ 20000 < e
   · have he : errD ⟨g, m, e⟩ = 3 := by unfold errD; rw [if_neg h1, if_pos h2]
     have hd : c0k ⟨g, m, e⟩ = ⟨false, 0, 0⟩ := by unfold c0k; rw [he, if_neg (by omega)]; rfl
     rw [he, hd]
     clear he hd
     rcases h2 with h2 | h2
     · go_enter Tryd.func24, Tryd.ntmps24
       go_wp2
       refine bodyPost_ret (v := .tuple #[.agg #[.bool false, .slice none 0 0, .int .i64 0], .int .i64 3]) (by simp [results, Tryd.results24, go_sem]) rfl ?_
       exact ⟨none, 0, by rw [a0b]; rfl, by rw [a0b]; exact Own.nil _ _ _ _, b0d _ _ _⟩
     · have h3 : ¬ e < -20000 := by omega
       go_enter Tryd.func24, Tryd.ntmps24
       go_wp2
       refine bodyPost_ret (v := .tuple #[.agg #[.bool false, .slice none 0 0, .int .i64 0], .int .i64 3]) (by simp [results, Tryd.results24, go_sem]) rfl ?_
       exact ⟨none, 0, by rw [a0b]; rfl, by rw [a0b]; exact Own.nil _ _ _ _, b0d _ _ _⟩
   · have he : errD ⟨g, m, e⟩ = 0 := by unfold errD; rw [if_neg h1, if_neg h2]
     have hd : c0k ⟨g, m, e⟩ = ⟨g, m, e⟩ := by unfold c0k; rw [he, if_pos rfl]
     rw [he, hd]
     have h3 : ¬ e < -20000 := by omega
     have h4 : ¬ 20000 < e := by omega
     clear he hd h2
     go_enter Tryd.func24, Tryd.ntmps24
     go_wp2
     refine bodyPost_ret (v := .tuple #[.agg #[.bool g, .slice p (dig B32 m).length c, .int .i64 e], .int .i64 0]) (by simp [results, Tryd.results24, go_sem]) rfl ?_
     exact ⟨p, c, rfl, (ho.laid _).laid _, b0d _ _ _⟩
theorem u0b (x : Nat) (h : x < 4294967296) : x / 2147483648 = (x.testBit 31).toNat := by
 rw [Nat.toNat_testBit]; omega
theorem m0g (x : Nat) (h : x < 4294967296) : x.testBit 31 = decide (2147483648 ≤ x) := by
 have := u0b x h
 cases hb : x.testBit 31 <;> rw [hb] at this <;> simp at this <;> simp <;> omega
theorem x0l (x y c : Nat) (hx : x < 4294967296) (hy : y < 4294967296) (hc : c ≤ 1) :
 (((4294967295 ^^^ x) &&& y) ||| ((4294967295 ^^^ (x ^^^ y)) &&& subD x y c)) / 2147483648 = subB x y c := by
 have hd : subD x y c < 4294967296 := Nat.mod_lt _ (by omega)
 have h1 : ((4294967295 ^^^ x) &&& y) ||| ((4294967295 ^^^ (x ^^^ y)) &&& subD x y c) < 2 ^ 32 :=
  Nat.or_lt_two_pow (Nat.and_lt_two_pow _ (by omega)) (Nat.and_lt_two_pow _ (by omega))
 rw [u0b _ (by omega)]
 simp only [Nat.testBit_or, Nat.testBit_and, Nat.testBit_xor]
 rw [m0g x hx, m0g y hy, m0g _ hd, show Nat.testBit 4294967295 31 = true by decide]
 by_cases b1 : 2147483648 ≤ x <;> by_cases b2 : 2147483648 ≤ y <;> by_cases b3 : 2147483648 ≤ subD x y c <;> simp [b1, b2, b3, subB] <;> unfold subD at b3 <;> first | omega | (split <;> omega)
theorem owed (x y c : Nat) (hx : x < 4294967296) (hy : y < 4294967296) (hc : c ≤ 1) (d : Int) (hd : d = (subD x y c : Nat)) :
 bits .or .u32 (bits .and .u32 (bits .xor .u32 IntKind.u32.max x) y) (bits .and .u32 (bits .xor .u32 IntKind.u32.max (bits .xor .u32 x y)) d) / 2147483648 = (subB x y c : Nat) := by
 subst hd
 have hdl : subD x y c < 4294967296 := Nat.mod_lt _ (by omega)
 have e : IntKind.u32.max = ((4294967295 : Nat) : Int) := by decide
 have l1 : 4294967295 ^^^ x < 2 ^ 32 := Nat.xor_lt_two_pow (by omega) (by omega)
 have l2 : x ^^^ y < 2 ^ 32 := Nat.xor_lt_two_pow (by omega) (by omega)
 have l3 : 4294967295 ^^^ (x ^^^ y) < 2 ^ 32 := Nat.xor_lt_two_pow (by omega) (by omega)
 rw [e, u32_xor_nat _ _ (by omega) (by omega), u32_xor_nat _ _ (by omega) (by omega), u32_xor_nat _ _ (by omega) (by omega), u32_and_nat _ _ (by omega) (by omega), u32_and_nat _ _ (by omega) (by omega)]
 have l4 : (4294967295 ^^^ x) &&& y < 2 ^ 32 := Nat.and_lt_two_pow _ (by omega)
 have l5 : (4294967295 ^^^ (x ^^^ y)) &&& subD x y c < 2 ^ 32 := Nat.and_lt_two_pow _ (by omega)
 rw [u32_or_nat _ _ (by omega) (by omega), ← x0l x y c hx hy hc]
 rfl
theorem g0v (x y c : Nat) (w : World) (hx : x < 4294967296) (hy : y < 4294967296) (hc : c ≤ 1) :
 Calls Tryd.prog 66 #[.int .u32 x, .int .u32 y, .int .u32 c] w fun e w' =>
  e = .returned (.tuple #[.int .u32 (subD x y c : Nat), .int .u32 (subB x y c : Nat)]) ∧ w = w' := by
 have hd : ((x : Int) - y - c) % 4294967296 = (subD x y c : Nat) := by unfold subD; omega
 have ho := lHd (owed x y c hx hy hc _ hd)
 have hd := lHd hd
 go_enter Tryd.func66, Tryd.ntmps66
 go_wp2
 go_ret2
 refine ⟨?_, rfl⟩
 rw [← ho.out, ← hd.out]
 rfl
theorem e0c {a b : Nat} {c : Int} (h : cmpN a b = c) : Ending.returned (.int .i64 c) = .returned (.int .i64 (cmpN a b)) := by rw [h]
theorem d0j (p q : OA) (n m c d : Nat) (a b : Nat) (w : World) (hp : Rd w .u32 p (dig B32 a)) (hq : Rd w .u32 q (dig B32 b)) (hn : n = (dig B32 a).length) (hm : m = (dig B32 b).length)
 (hl : (dig B32 a).length ≤ 1000000000) (hl2 : (dig B32 b).length ≤ 1000000000) :
 Calls Tryd.prog 43 #[.slice p n c, .slice q m d] w fun e w' => e = .returned (.int .i64 (cmpN a b)) ∧ Below w.heap.size w w' := by
 subst hn hm
 by_cases hlt : (dig B32 a).length < (dig B32 b).length
 · have H := lHd (f0d (f0q a0a hlt))
   go_enter Tryd.func43, Tryd.ntmps43
   go_wp2
   go_ret
   exact ⟨e0c H.out, Below.refl _ _⟩
 · by_cases hgt : (dig B32 b).length < (dig B32 a).length
   · have H := lHd (l0y (f0q a0a hgt))
     go_enter Tryd.func43, Tryd.ntmps43
     go_wp2
     go_ret
     exact ⟨e0c H.out, Below.refl _ _⟩
   · have hle : (dig B32 b).length = (dig B32 a).length := by omega
     have HXL := lHd (b0a a0a a)
     have HYL := lHd (b0a a0a b)
     have HA := lHd (a0q a0a a)
     have HB := lHd (a0q a0a b)
     rw [hle]
     have HL := lHd hle
     have hly := Nat.le_of_eq hle.symm
     clear hlt hgt hle
     generalize dig B32 a = xs at *
     generalize dig B32 b = ys at *
     have hsx := hp.solid
     have hsy := hq.solid
     rw [HL.out] at hsy
     go_enter Tryd.func43, Tryd.ntmps43
     go_wp2
     go_loopw [5] (fun iv wr => ∃ (k : Nat), iv = .int .i64 ((k : Int) - 1) ∧ k ≤ xs.length ∧ Below w.heap.size w wr ∧ Hid (xs.drop k = ys.drop k)) (fun iv _ => (intOf iv + 1).toNat)
     case atStart => exact ⟨xs.length, rfl, Nat.le_refl _, Below.refl _ _, (show xs.drop _ = ys.drop _ by rw [List.drop_length, List.drop_of_length_le (by have := HL.out; omega)])⟩
     case round =>
      obtain ⟨k, rfl, hk, hb, HD⟩ := hrel
      by_cases h0 : 0 < k
      · obtain ⟨k, rfl⟩ : ∃ j, k = j + 1 := ⟨k - 1, by omega⟩
        have ej : ((k + 1 : Nat) : Int) - 1 = k := by omega
        rw [ej]
        have hxd := a0f (B := 4294967296) (by omega) xs HXL.out k
        have hyd := a0f (B := 4294967296) (by omega) ys HYL.out k
        have hc1 := (hp.past hb).cells k (by omega)
        have hc2 := (hq.past hb).cells k (by omega)
        have i1 : (k : Int) < (xs.length : Int) := by omega
        have i0 : (0 : Int) ≤ (k : Int) := by omega
        clear ej
        by_cases h1 : dg xs k < dg ys k
        · have H := lHd (f0d (by have := l0z xs ys HXL.out k (by omega) HL.out.symm HD.out h1; rwa [HA.out, HB.out] at this))
          go_wp2_with fail
          go_quiet (fail)
          go_wp2_with fail
          go_quiet (fail)
          go_wp2
          go_ret
          exact ⟨e0c H.out, hb.trans (below_drewN (below_drewN (Below.refl _ _) _) _)⟩
        · by_cases h2 : dg ys k < dg xs k
          · have H := lHd (l0y (by have := l0z ys xs HYL.out k (by have := HL.out; omega) HL.out HD.out.symm h2; rwa [HA.out, HB.out] at this))
            go_wp2_with fail
            go_quiet (fail)
            go_wp2_with fail
            go_quiet (fail)
            go_wp2
            go_ret
            exact ⟨e0c H.out, hb.trans (below_drewN (below_drewN (Below.refl _ _) _) _)⟩
          · have h3 : dg xs k = dg ys k := by omega
            have HE := lHd (k0t (by omega) HL.out.symm HD.out h3)
            rw [← h3] at hc2
            clear h3 h1 h2
            go_wp2_with fail
            go_quiet (fail)
            go_wp2
            go_roundw
            case rel => exact ⟨k, rfl, by omega, hb.trans (below_drewN (Below.refl _ _) _), HE⟩
            case measure => first | (simp [intOf]; done) | (simp [intOf]; omega)
      · obtain rfl : k = 0 := by omega
        have H : cmpN a b = 0 := by
         have := HD.out
         simp only [List.drop_zero] at this
         rw [← HA.out, ← HB.out, this]; exact t0l _
        have H := lHd H
        go_wp2
        go_ret
        exact ⟨e0c H.out, hb⟩
theorem p0k (x : Nat) (h : x < 2 ^ 64) : Lib.bitLen x = blen x := by
 induction x using Nat.strongRecOn with
 | _ x ih =>
  by_cases h0 : x = 0
  · subst h0; rw [n0u]; decide
  · rw [Lib.bitLen_half x h0 h, t0m x (by omega), ih (x / 2) (by omega) (by omega)]; omega
theorem n0y (x : Nat) (w : World) (h1 : x < 4294967296) :
 Calls Tryd.prog 68 #[.int .u32 x] w fun e w' => e = .returned (.int .i64 (blen x : Nat)) ∧ w = w' := by
 have h := u0a x w (by omega) (by omega)
 rw [Int.toNat_natCast, p0k x (by omega)] at h
 exact h
theorem e0d (p : OA) (n c : Nat) (a : Nat) (w : World) (hp : Rd w .u32 p (dig B32 a)) (hn : n = (dig B32 a).length) (hl : (dig B32 a).length ≤ 1000000000) :
 Calls Tryd.prog 46 #[.slice p n c] w fun e w' => e = .returned (.int .i64 (blen a : Nat)) ∧ w = w' := by
 subst hn
 by_cases h0 : 0 < a
 · obtain ⟨hb, ht⟩ := i0r (B := B32) (s := 32) (by decide) a0a a h0
   have hl0 : 0 < (dig B32 a).length := List.length_pos_iff.2 ((c0y a0a a).2.2.2 h0)
   have HB := lHd hb
   have hd := a0f (B := 4294967296) (by omega) _ (b0a a0a a) ((dig B32 a).length - 1)
   clear hb
   generalize dig B32 a = xs at *
   have hs := hp.solid
   have hc := hp.cells (xs.length - 1) (by omega)
   have hbd : blen (dg xs (xs.length - 1)) ≤ 32 := (b0s _ 32).2 (by omega)
   generalize dg xs (xs.length - 1) = d at *
   go_enter Tryd.func46, Tryd.ntmps46
   go_wp2_with (go_at_call 68; refine (n0y d _ hd).mono ?_; rintro e w1 ⟨rfl, rfl⟩)
   go_ret
   rw [HB.out]
   exact ⟨a0s (by omega), rfl⟩
 · obtain rfl : a = 0 := by omega
   rw [n0u]
   rw [a0b] at *
   go_enter Tryd.func46, Tryd.ntmps46
   go_wp2
   go_ret
   exact ⟨rfl, rfl⟩
theorem u0c (p q : OA) (n m c d : Nat) (a b : Nat) (w : World) (hp : Rd w .u32 p (dig B32 a)) (hq : Rd w .u32 q (dig B32 b)) (hn : n = (dig B32 a).length) (hm : m = (dig B32 b).length)
 (hl : (dig B32 a).length ≤ 1000000000) (hab : b ≤ a) :
 Calls Tryd.prog 44 #[.slice p n c, .slice q m d] w (g0i w .u32 55 (dig B32 (a - b))) := by
 subst hn hm
 have hge := a0e a0a hab
 have H0 := lHd (g0q.start a (dig B32 b))
 have HY := lHd (b0a a0a b)
 have HV := lHd (a0q a0a b)
 obtain ⟨xs, hxs⟩ : ∃ xs, xs = dig B32 a := ⟨_, rfl⟩
 rw [← hxs] at hp hl hge H0 ⊢
 clear hxs
 generalize dig B32 b = ys at *
 go_enter Tryd.func44, Tryd.ntmps44
 go_wp2_with (go_at_call 64; refine (f0b _ _ _ xs _ hp rfl hl).mono ?_; rintro e w1 ⟨p1, c1, rfl, ho1, hb1⟩)
 go_loopw [6, 13] (fun cv iv wr => ∃ (i cr : Nat) (L : List Nat), iv = .int .i64 i ∧ cv = .int .u32 cr ∧ i ≤ xs.length ∧ cr ≤ 1 ∧ L.length = xs.length ∧ Own wr w.heap.size .u32 55 p1 c1 L ∧ Below w.heap.size w wr ∧ Hid (g0q L ys i cr a))
  (fun _ iv _ => xs.length - (intOf iv).toNat)
 case atStart => exact ⟨0, 0, xs, rfl, rfl, Nat.zero_le _, by omega, rfl, ho1, hb1, H0⟩
 case round =>
  obtain ⟨i, cr, L, rfl, rfl, hi, hcr, hL, hoL, hbL, HR⟩ := hrel
  have hqL := hq.past hbL
  by_cases hlt : i < xs.length
  · have hc1 := hoL.rd.cells i (by omega)
    have hsL := hoL.solid
    rw [hL] at hsL
    have hLd := a0f (B := 4294967296) (by omega) L HR.out.1 i
    have hyd := a0f (B := 4294967296) (by omega) ys HY.out i
    have HS := lHd (HR.out.step (i := i) (by omega) HY.out hcr)
    by_cases hd : i < ys.length
    · have hc2 := hqL.cells i hd
      have hsq := hqL.solid
      have HC' := m0a (dg L i) (dg ys i) cr
      go_wp2_with (first
        | (go_at_call 66; refine (g0v _ _ cr _ hLd hyd hcr).mono ?_; rintro e w2 ⟨rfl, rfl⟩)
        | (refine a0j rfl _ _ _ rfl 55 b0l _ _ _ _ hoL i (by omega) _ ?_ rfl rfl ?_; omega; intro w3 ho3 hg3 hb3))
      rw [Int.toNat_natCast] at ho3
      go_roundw
      case rel => exact ⟨i + 1, subB (dg L i) (dg ys i) cr, _, by go_num, rfl, hlt, HC', by simp [hL], ho3, hbL.trans hb3, HS⟩
      case measure => simp [intOf]; omega
    · by_cases hc0 : cr = 0
      · subst hc0
        have HD := lHd (HR.out.done (by omega) HV.out hab (.inr rfl) (g0a B32 L HR.out.1))
        go_wp2_with (go_at_call 63; refine (d0q _ _ _ L _ hoL.rd hL.symm hoL.le_cap HR.out.1 (by omega)).mono ?_; rintro e w3 ⟨rfl, rfl⟩)
        go_ret
        have ht := a0v a0a L HR.out.1
        have ho2 := hoL.take (dig B32 (val B32 L)).length
        rw [ht, HD.out] at ho2
        rw [HD.out]
        exact ⟨p1, c1, rfl, ho2, hbL⟩
      · have hcp : 1 ≤ cr := by omega
        have ez : dg ys i = 0 := b0c (by omega)
        rw [ez] at HS
        have HC' := m0a (dg L i) 0 cr
        clear ez hyd hc0
        go_wp2_with (first
          | (go_at_call 66; refine (g0v _ 0 cr _ hLd (by omega) hcr).mono ?_; rintro e w2 ⟨rfl, rfl⟩)
          | (refine a0j rfl _ _ _ rfl 55 b0l _ _ _ _ hoL i (by omega) _ ?_ rfl rfl ?_; omega; intro w3 ho3 hg3 hb3))
        rw [Int.toNat_natCast] at ho3
        go_roundw
        case rel => exact ⟨i + 1, subB (dg L i) 0 cr, _, by go_num, rfl, hlt, HC', by simp [hL], ho3, hbL.trans hb3, HS⟩
        case measure => simp [intOf]; omega
  · obtain rfl : i = xs.length := by omega
    have HD := lHd (HR.out.done hge HV.out hab (.inl (by omega)) (g0a B32 L HR.out.1))
    go_wp2_with (go_at_call 63; refine (d0q _ _ _ L _ hoL.rd hL.symm hoL.le_cap HR.out.1 (by omega)).mono ?_; rintro e w3 ⟨rfl, rfl⟩)
    go_ret
    have ht := a0v a0a L HR.out.1
    have ho2 := hoL.take (dig B32 (val B32 L)).length
    rw [ht, HD.out] at ho2
    rw [HD.out]
    exact ⟨p1, c1, rfl, ho2, hbL⟩
end Go.Proofs.YthcoapcffhgckaaDoor
namespace Go.Slip
theorem u0d (d : Dv) : (bare d).m ≤ d.m := by
 unfold bare
 by_cases h : d.m = 0
 · rw [if_pos h]; exact Nat.zero_le _
 · rw [if_neg h]; exact Nat.div_le_self _ _
theorem c0z {B : Nat} (hB : 2 ≤ B) (d : Dv) : (dig B (bare d).m).length ≤ (dig B d.m).length := a0e hB (u0d d)
theorem k0y (d : Dv) {n : Nat} (hl : (dig B32 d.m).length ≤ n) {lo hi : Int} (h1 : lo ≤ d.e) (h2 : d.e ≤ hi) (h3 : lo ≤ 0) (h4 : 0 ≤ hi) : lo ≤ (bare d).e ∧ (bare d).e ≤ hi + 32 * n := by
 unfold bare
 by_cases h : d.m = 0
 · rw [if_pos h]; simp only; omega
 · rw [if_neg h]
   have h5 := h0s (m := d.m) (by omega)
   have h6 := b0e d.m
   simp only
   omega
theorem r0x (g h : Bool) (x y : Nat) (e : Int) : (e0b g h x y e).m ≤ x + y ∧ (e0b g h x y e).e = e := by
 unfold e0b
 split
 · simp
 · split
   · simp; omega
   · simp; omega
theorem e0e (a N : Nat) : (dig B32 (a * 2 ^ N)).length ≤ (dig B32 a).length + (N / 32 + 1) := by
 refine Nat.le_trans (e0l a0a _ _) ?_
 have : (dig B32 (2 ^ N)).length = N / 32 + 1 := by rw [← g0s (B := B32) (w := 32) (by decide) (by omega) N]; simp
 omega
theorem u0e {a b : Dv} {n : Nat} {lo hi : Int} (hla : (dig B32 a.m).length ≤ n) (hlb : (dig B32 b.m).length ≤ n) (ha1 : lo ≤ a.e) (ha2 : a.e ≤ hi) (hb1 : lo ≤ b.e) (hb2 : b.e ≤ hi) :
 (dig B32 (c0x a b).m).length ≤ 2 * n + 2 * (hi - lo).toNat + 10 := by
 unfold c0x
 split
 · omega
 · split
   · omega
   · refine Nat.le_trans (c0z a0a _) ?_
     refine Nat.le_trans (a0e a0a (r0x _ _ _ _ _).1) ?_
     refine Nat.le_trans (b0b a0a _ _) ?_
     have h1 := e0e a.m (a.e - min a.e b.e).toNat
     have h2 := e0e b.m (b.e - min a.e b.e).toNat
     omega
theorem u0f (m : Nat) : (dig B16 m).length ≤ 2 * (dig B32 m).length := by
 have := g0c m
 omega
end Go.Slip
namespace Go.Proofs.YthcoapcffhgckaaDoor
open Go.RowKit Go.Slip
theorem TabW.below {w w' : World} {B : Nat} (h : TabW w) (hb : Below B w w') (hB : 0 < B) : TabW w' :=
 ⟨fun j hj => by rw [Below.cell hb hB]; exact h.1 j hj, Nat.lt_of_lt_of_le h.2 hb.size⟩
theorem Box3.below {w w' : World} {B b : Nat} {v0 v1 v2 : Value} (h : Box3 w b v0 v1 v2) (hb : Below B w w') (hB : b < B) : Box3 w' b v0 v1 v2 :=
 ⟨by rw [Below.cell hb hB]; exact h.c0, by rw [Below.cell hb hB]; exact h.c1, by rw [Below.cell hb hB]; exact h.c2,
  by rw [Below.frozen hb hB]; exact h.f0, by rw [Below.frozen hb hB]; exact h.f1, by rw [Below.frozen hb hB]; exact h.f2, Nat.lt_of_lt_of_le h.lt hb.size⟩
theorem Box3.set {w : World} {b k o : Nat} {v0 v1 v2 u : Value} (h : Box3 w b v0 v1 v2) (hne : b < k) : Box3 (w.setCell ⟨k, o, none⟩ u) b v0 v1 v2 := by
 have hb : Below k w (w.setCell ⟨k, o, none⟩ u) := (Below.refl k w).setCell (p := ⟨k, o, none⟩) (Nat.le_refl _) u
 exact ⟨by rw [Below.cell hb hne]; exact h.c0, by rw [Below.cell hb hne]; exact h.c1, by rw [Below.cell hb hne]; exact h.c2,
  by rw [Below.frozen hb hne]; exact h.f0, by rw [Below.frozen hb hne]; exact h.f1, by rw [Below.frozen hb hne]; exact h.f2, Nat.lt_of_lt_of_le h.lt hb.size⟩
theorem Box3.laid {w : World} {b : Nat} {v0 v1 v2 : Value} (h : Box3 w b v0 v1 v2) (o : Obj) : Box3 (w.alloc o) b v0 v1 v2 := h.past ((Below.refl _ _).alloc (Nat.le_refl _) _)
theorem u0g (w : World) (a0 a1 a2 r0 r1 r2 : Value) (tA tR : TypeId) : ∃ W1, W1 = (w.alloc (.cells #[a0, a1, a2] tA)).alloc (.cells #[r0, r1, r2] tR) ∧
 Below w.heap.size w W1 ∧ Box3 W1 w.heap.size a0 a1 a2 ∧ Box3 W1 (w.heap.size + 1) r0 r1 r2 ∧ W1.heap.size = w.heap.size + 1 + 1 := by
 refine ⟨_, rfl, b0d _ _ _, (a0i w _ _ _ _).laid _, ?_, by simp⟩
 have := a0i (w.alloc (.cells #[a0, a1, a2] tA)) r0 r1 r2 tR
 simpa using this
theorem a1c (w : World) (a0 a1 a2 b0 b1 b2 r0 r1 r2 : Value) (tA tB tR : TypeId) : ∃ W1, W1 = ((w.alloc (.cells #[a0, a1, a2] tA)).alloc (.cells #[b0, b1, b2] tB)).alloc (.cells #[r0, r1, r2] tR) ∧
 Below w.heap.size w W1 ∧ Box3 W1 w.heap.size a0 a1 a2 ∧ Box3 W1 (w.heap.size + 1) b0 b1 b2 ∧ Box3 W1 (w.heap.size + 1 + 1) r0 r1 r2 ∧ W1.heap.size = w.heap.size + 1 + 1 + 1 := by
 refine ⟨_, rfl, (b0d _ _ _).alloc (by simp; omega) _, ((a0i w _ _ _ _).laid _).laid _, ?_, ?_, by simp⟩
 · have := (a0i (w.alloc (.cells #[a0, a1, a2] tA)) b0 b1 b2 tB).laid (.cells #[r0, r1, r2] tR)
   simpa using this
 · have := a0i ((w.alloc (.cells #[a0, a1, a2] tA)).alloc (.cells #[b0, b1, b2] tB)) r0 r1 r2 tR
   simpa using this
theorem d0s {w wk : World} {base base' b : Nat} {d : Dv} {p : OA} {c : Nat} {v0 v1 v2 : Value} (hs : Below w.heap.size w wk) (ho : Own wk base' .u32 55 p c (dig B32 d.m)) (hb : base ≤ base') (hB : w.heap.size ≤ b)
 (hne : p.isSome = true → blk p ≠ b) :
 d0i w base d (.returned (.agg #[.bool d.neg, .slice p (dig B32 d.m).length c, .int .i64 d.e])) (((wk.setCell ⟨b, 0, none⟩ v0).setCell ⟨b, 1, none⟩ v1).setCell ⟨b, 2, none⟩ v2) :=
 ⟨p, c, rfl, (ho.mono hb).same (fun h => by rw [Below.heap_setCell _ _ _ _ (hne h), Below.heap_setCell _ _ _ _ (hne h), Below.heap_setCell _ _ _ _ (hne h)]), ((hs.setCell (by simp; omega) _).setCell (by simp; omega) _).setCell (by simp; omega) _⟩
theorem d0a {w wk : World} {base base' b : Nat} {d : Dv} {er : Int} {p : OA} {c : Nat} {v0 v1 v2 : Value} (hs : Below w.heap.size w wk) (ho : Own wk base' .u32 55 p c (dig B32 d.m)) (hb : base ≤ base') (hB : w.heap.size ≤ b)
 (hne : p.isSome = true → blk p ≠ b) :
 c0b w base d er (.returned (.tuple #[.agg #[.bool d.neg, .slice p (dig B32 d.m).length c, .int .i64 d.e], .int .i64 er])) (((wk.setCell ⟨b, 0, none⟩ v0).setCell ⟨b, 1, none⟩ v1).setCell ⟨b, 2, none⟩ v2) :=
 ⟨p, c, rfl, (ho.mono hb).same (fun h => by rw [Below.heap_setCell _ _ _ _ (hne h), Below.heap_setCell _ _ _ _ (hne h), Below.heap_setCell _ _ _ _ (hne h)]), ((hs.setCell (by simp; omega) _).setCell (by simp; omega) _).setCell (by simp; omega) _⟩
def j0k (w : World) (fit : Nat → Prop) (d : Dv) (en : Ending) (w' : World) : Prop :=
 ∃ p c, en = .returned (.agg #[.bool d.neg, .slice p (dig B16 d.m).length c, .int .i64 d.e]) ∧ Rd w' .i64 p (dig B16 d.m) ∧ (dig B16 d.m).length ≤ c ∧ (0 < (dig B16 d.m).length → fit (blk p) ∨ w.heap.size ≤ blk p) ∧ Below w.heap.size w w'
theorem c0s {w wk : World} {fit : Nat → Prop} {b : Nat} {d : Dv} {p : OA} {c : Nat} {v0 v1 v2 : Value} (hs : Below w.heap.size w wk) (hr : Rd wk .i64 p (dig B16 d.m)) (hc : (dig B16 d.m).length ≤ c)
 (hf : 0 < (dig B16 d.m).length → fit (blk p) ∨ w.heap.size ≤ blk p) (hB : w.heap.size ≤ b) (hne : 0 < (dig B16 d.m).length → blk p ≠ b) :
 j0k w fit d (.returned (.agg #[.bool d.neg, .slice p (dig B16 d.m).length c, .int .i64 d.e])) (((wk.setCell ⟨b, 0, none⟩ v0).setCell ⟨b, 1, none⟩ v1).setCell ⟨b, 2, none⟩ v2) :=
 ⟨p, c, rfl, hr.same (fun h => by rw [Below.heap_setCell _ _ _ _ (hne h), Below.heap_setCell _ _ _ _ (hne h), Below.heap_setCell _ _ _ _ (hne h)]), hc, hf, ((hs.setCell (by simp; omega) _).setCell (by simp; omega) _).setCell (by simp; omega) _⟩
theorem j0l {g : Bool} {a : Nat} {e : Int} (ha : 0 < a) : (a0k ⟨g, a, e⟩ == 0) = false := by
 unfold a0k
 rw [if_neg (by simp; omega)]
 cases g
 · rfl
 · rfl
theorem n0z (g h : Bool) (p q : OA) (c d base : Nat) (e f : Int) (a b : Nat) (w : World) (hp : Own w base .u32 55 p c (dig B32 a)) (hq : Own w base .u32 55 q d (dig B32 b))
 (hl : (dig B32 a).length ≤ 1000000) (hl2 : (dig B32 b).length ≤ 1000000) (he : -1000000 ≤ e ∧ e ≤ 1000000) (hf : -1000000 ≤ f ∧ f ≤ 1000000) (ha : 0 < a) (hb : 0 < b) (hT : TabW w) :
 Calls Tryd.prog 20 #[.agg #[.bool g, .slice p (dig B32 a).length c, .int .i64 e], .agg #[.bool h, .slice q (dig B32 b).length d, .int .i64 f]] w (d0i w w.heap.size (c0x ⟨g, a, e⟩ ⟨h, b, f⟩)) := by
 obtain ⟨W1, hW1⟩ : ∃ W1, W1 = ((w.alloc (.cells #[.bool g, .slice p (dig B32 a).length c, .int .i64 e] 61)).alloc (.cells #[.bool h, .slice q (dig B32 b).length d, .int .i64 f] 61)).alloc (.cells #[.bool false, .slice none 0 0, .int .i64 0] 61) := ⟨_, rfl⟩
 have hs1 : Below w.heap.size w W1 := by rw [hW1]; exact (b0d _ _ _).alloc (by simp; omega) _
 have A1 : Box3 W1 w.heap.size (.bool g) (.slice p (dig B32 a).length c) (.int .i64 e) := by
  rw [hW1]; exact ((a0i w _ _ _ _).past ((Below.refl _ _).alloc (Nat.le_refl _) _)).past ((Below.refl _ _).alloc (Nat.le_refl _) _)
 have B1 : Box3 W1 (w.heap.size + 1) (.bool h) (.slice q (dig B32 b).length d) (.int .i64 f) := by
  have := (a0i (w.alloc (.cells #[.bool g, .slice p (dig B32 a).length c, .int .i64 e] 61)) (.bool h) (.slice q (dig B32 b).length d) (.int .i64 f) 61).past ((Below.refl _ _).alloc (Nat.le_refl _) (.cells #[.bool false, .slice none 0 0, .int .i64 0] 61))
  rw [hW1]; simpa using this
 have R1 : Box3 W1 (w.heap.size + 1 + 1) (.bool false) (.slice none 0 0) (.int .i64 0) := by
  have := a0i ((w.alloc (.cells #[.bool g, .slice p (dig B32 a).length c, .int .i64 e] 61)).alloc (.cells #[.bool h, .slice q (dig B32 b).length d, .int .i64 f] 61)) (.bool false) (.slice none 0 0) (.int .i64 0) 61
  rw [hW1]; simpa using this
 have hpW := hp.rd.past hs1
 have hqW := hq.rd.past hs1
 have hTW := hT.past hs1
 have hsa := j0l (g := g) (e := e) ha
 have hsb := j0l (g := h) (e := f) hb
 have HW1 := lHd hW1
 clear hW1
 go_enter Tryd.func20, Tryd.ntmps20
 go_wp2_with fail
 rw [← HW1.out]
 ((with_reducible refine (c0e g p _ c e a _ rfl).mono ?_))
 rintro e2 w2 ⟨rfl, hb2⟩
 generalize a0k ⟨g, a, e⟩ = sa at *
 have hs2 := hs1.trans (hb2.mono hs1.size)
 have A2 := A1.past hb2
 have B2 := B1.past hb2
 have R2 := R1.past hb2
 have hpW := hpW.past hb2
 have hqW := hqW.past hb2
 have hTW := hTW.past hb2
 clear hb2 A1 B1 R1 hs1
 have b0 := B2.c0
 have b1 := B2.c1
 have b2 := B2.c2
 go_wp2_with fail
 ((with_reducible refine (c0e h q _ d f b _ rfl).mono ?_))
 rintro e3 w3 ⟨rfl, hb3⟩
 generalize a0k ⟨h, b, f⟩ = sb at *
 have hs3 := hs2.trans (hb3.mono hs2.size)
 have A3 := A2.past hb3
 have B3 := B2.past hb3
 have R3 := R2.past hb3
 have hpW := hpW.past hb3
 have hqW := hqW.past hb3
 have hTW := hTW.past hb3
 clear hb3 A2 B2 R2 hs2 b0 b1 b2 HW1
 have a2 := A3.c2
 have b2 := B3.c2
 go_wp2_with fail
 clear a2 b2
 have hk1 : min e f ≤ e := by omega
 have hk2 : min e f ≤ f := by omega
 have hk3 : -1000000 ≤ min e f := by omega
 have HP := lHd (show c0x ⟨g, a, e⟩ ⟨h, b, f⟩ = bare (e0b g h (a * 2 ^ (e - min e f).toNat) (b * 2 ^ (f - min e f).toNat) (min e f)) by
   unfold c0x; rw [if_neg (by simp; omega), if_neg (by simp; omega)])
 generalize min e f = k at *
 obtain ⟨N1, hN1⟩ : ∃ N1, N1 = (e - k).toNat := ⟨_, rfl⟩
 obtain ⟨N2, hN2⟩ : ∃ N2, N2 = (f - k).toNat := ⟨_, rfl⟩
 rw [← hN1, ← hN2] at HP
 have n1 : N1 ≤ 2000000 := by omega
 have n2 : N2 ≤ 2000000 := by omega
 have e1 : IntKind.i64.wrap (e - k) = (N1 : Int) := by rw [iwo]; omega
 have e2 : IntKind.i64.wrap (f - k) = (N2 : Int) := by rw [iwo]; omega
 clear hN1 hN2
 go_cut [6, 7] (fun s6 s7 wx => ∃ (px : OA) (cx : Nat) (py : OA) (cy : Nat), s6 = .slice px (dig B32 (a * 2 ^ N1)).length cx ∧ s7 = .slice py (dig B32 (b * 2 ^ N2)).length cy ∧
   Own wx w3.heap.size .u32 55 px cx (dig B32 (a * 2 ^ N1)) ∧ Own wx w3.heap.size .u32 55 py cy (dig B32 (b * 2 ^ N2)) ∧ Below w3.heap.size w3 wx)
 case first =>
  go_region_held3 (fun w' => (w'.cell? ⟨w.heap.size, 1, none⟩ = some (.slice p (dig B32 a).length c) ∧ w'.cell? ⟨w.heap.size, 2, none⟩ = some (.int .i64 e)) ∧
      (w'.cell? ⟨w.heap.size + 1, 1, none⟩ = some (.slice q (dig B32 b).length d) ∧ w'.cell? ⟨w.heap.size + 1, 2, none⟩ = some (.int .i64 f)))
   (first | exact ⟨⟨A3.c1, A3.c2⟩, B3.c1, B3.c2⟩
          | (have D1 := A3.drew; have D2 := B3.drew; exact ⟨⟨D1.c1, D1.c2⟩, D2.c1, D2.c2⟩)
          | (have D1 := (A3.drew.past hbx).past hby; have D2 := (B3.drew.past hbx).past hby; exact ⟨⟨D1.c1, D1.c2⟩, D2.c1, D2.c2⟩)
          | (have D1 := (A3.drew.past hby).past hbx; have D2 := (B3.drew.past hby).past hbx; exact ⟨⟨D1.c1, D1.c2⟩, D2.c1, D2.c2⟩)
          | (have D1 := A3.drew.past hbx; have D2 := B3.drew.past hbx; exact ⟨⟨D1.c1, D1.c2⟩, D2.c1, D2.c2⟩)
          | (have D1 := A3.drew.past hby; have D2 := B3.drew.past hby; exact ⟨⟨D1.c1, D1.c2⟩, D2.c1, D2.c2⟩))
   (first
     | (go_at_call_of 41 (Value.slice p (dig B32 a).length c); refine (d0h p _ c a N1 _ ?_ rfl (by clear e1 e2; omega) (by clear e1 e2; omega)).mono ?_; (first | exact hpW.drew | exact hpW.drew.past hby); rintro ex wx ⟨px, cx, rfl, hox, hbx⟩)
     | (go_at_call_of 41 (Value.slice q (dig B32 b).length d); refine (d0h q _ d b N2 _ ?_ rfl (by clear e1 e2; omega) (by clear e1 e2; omega)).mono ?_; (first | exact hqW.drew | exact hqW.drew.past hbx); rintro ey wy ⟨py, cy, rfl, hoy, hby⟩))
  all_goals (clear e1 e2)
  all_goals (go_wp2_with fail)
  all_goals go_meet
  all_goals (first
    | exact ⟨px, cx, py, cy, rfl, rfl, hox.past hby, hoy.mono hbx.size, ((Below.refl _ _).drew.trans hbx).trans (hby.mono hbx.size)⟩
    | exact ⟨px, cx, py, cy, rfl, rfl, hox.mono hby.size, hoy.past hbx, ((Below.refl _ _).drew.trans hby).trans (hbx.mono hby.size)⟩)
 case rest =>
  obtain ⟨px, cx, py, cy, rfl, rfl, hox, hoy, hb4⟩ := hcut
  clear e1 e2
  have lX : (dig B32 (a * 2 ^ N1)).length ≤ 2000000 := by have := e0e a N1; omega
  have lY : (dig B32 (b * 2 ^ N2)).length ≤ 2000000 := by have := e0e b N2; omega
  generalize a * 2 ^ N1 = x at *
  generalize b * 2 ^ N2 = y at *
  have hs4 := hs3.trans (hb4.mono hs3.size)
  have A4 := A3.past hb4
  have B4 := B3.past hb4
  have R4 := R3.past hb4
  have hTW := hTW.past hb4
  have O5 := a0i wc (.bool g) (.slice none 0 0) (.int .i64 k) 25
  have hb5 : Below wc.heap.size wc (wc.alloc (.cells #[.bool g, .slice none 0 0, .int .i64 k] 25)) := (Below.refl _ _).alloc (Nat.le_refl _) _
  have A5 := A4.past hb5
  have B5 := B4.past hb5
  have R5 := R4.past hb5
  have hTW := hTW.past hb5
  have hox := hox.past hb5
  have hoy := hoy.past hb5
  have hs5 := hs4.trans (hb5.mono hs4.size)
  have a0 := A4.c0
  have a0' := A5.c0
  have b0' := B5.c0
  by_cases hgh : g = h
  · subst hgh
    have HJ := lHd (HP.out.trans (congrArg bare (show e0b g g x y k = ⟨g, x + y, k⟩ by unfold e0b; rw [if_pos rfl])))
    have hgg : (g == g) = true := by simp
    go_wp2_with fail
    ((with_reducible refine (l0x px py _ _ cx cy x y _ hox.rd hoy.rd rfl rfl (by omega) (by omega)).mono ?_))
    have lm : (dig B32 (x + y)).length ≤ 5000000 := by have := b0b a0a x y; omega
    generalize x + y = m at *
    rintro e6 w6 ⟨p6, c6, rfl, ho6, hb6⟩
    have O6 := O5.past hb6
    have R6 := R5.past hb6
    have hTW6 := hTW.past hb6
    have hs6 := hs5.trans (hb6.mono hs5.size)
    have hzc := R4.lt
    have hol := O5.lt
    obtain ⟨o0, o1, o2, f0, f1, f2, olt⟩ := O6
    have hne6 : 0 < (dig B32 m).length → blk p6 ≠ wc.heap.size := fun h0 => by
     have := (ho6.blk_lt (ho6.rd.solid h0).1).1
     omega
    clear a0 a0' b0'
    go_wp2_with fail
    have hbS : Below wc.heap.size w6 (w6.setCell ⟨wc.heap.size, 1, none⟩ (.slice p6 (dig B32 m).length c6)) := (Below.refl _ _).setCell (by simp) _
    have hr7 : Rd (w6.setCell ⟨wc.heap.size, 1, none⟩ (.slice p6 (dig B32 m).length c6)) .u32 p6 (dig B32 m) := ho6.rd.same fun h0 => Below.heap_setCell _ _ _ _ (hne6 h0)
    have hT7 := hTW6.below hbS (by omega)
    have R7 := R6.below hbS (by omega)
    have hs7 := hs6.trans (hbS.mono (by omega))
    ((with_reducible refine (c0h g p6 _ c6 k m _ hr7 rfl ho6.le_cap (by omega) ⟨by omega, by omega⟩ hT7).mono ?_))
    generalize bare ⟨g, m, k⟩ = rr at *
    rintro e8 w8 ⟨p8, c8, rfl, ho8, hb8⟩
    obtain ⟨d0, d1, d2, f0', f1', f2', dlt⟩ := R7.past hb8
    have hsz7 : w.heap.size + 1 + 1 < (w6.setCell ⟨wc.heap.size, 1, none⟩ (.slice p6 (dig B32 m).length c6)).heap.size := R7.lt
    go_wp2_with fail
    refine bodyPost_ret (v := .agg #[.bool rr.neg, .slice p8 (dig B32 rr.m).length c8, .int .i64 rr.e]) (by simp [results, Tryd.results20, go_sem, d0, d1, d2]) rfl ?_
    rw [HJ.out]
    have hs8 := hs7.trans (hb8.mono hs7.size)
    refine ⟨p8, c8, rfl, (ho8.mono hs7.size).same (fun h => ?_), ((hs8.setCell (by simp; omega) _).setCell (by simp; omega) _).setCell (by simp; omega) _⟩
    have hk := (ho8.blk_lt h).1
    have hne : blk p8 ≠ w.heap.size + 1 + 1 := by omega
    rw [Below.heap_setCell _ _ _ _ hne, Below.heap_setCell _ _ _ _ hne, Below.heap_setCell _ _ _ _ hne]
  · by_cases hxy : y ≤ x
    · have HJ := lHd (HP.out.trans (congrArg bare (show e0b g h x y k = ⟨g, x - y, k⟩ by unfold e0b; rw [if_neg hgh, if_pos hxy])))
      have hgg : (g == h) = false := by simpa using hgh
      have hC : 0 ≤ cmpN x y := by unfold cmpN; rw [if_neg (by omega)]; split <;> omega
      have HXY := lHd hxy
      clear hxy
      go_wp2_with fail
      ((with_reducible refine (d0j px py _ _ cx cy x y _ hox.rd hoy.rd rfl rfl (by omega) (by omega)).mono ?_))
      rintro e9 w9 ⟨rfl, hb9⟩
      have O5 := O5.past hb9
      have A5 := A5.past hb9
      have B5 := B5.past hb9
      have R5 := R5.past hb9
      have hTW := hTW.past hb9
      have hox := hox.past hb9
      have hoy := hoy.past hb9
      have hs5 := hs5.trans (hb9.mono hs5.size)
      have hz9 := hb9.size
      clear hb9
      go_wp2_with fail
      ((with_reducible refine (u0c px py _ _ cx cy x y _ hox.rd hoy.rd rfl rfl (by omega) HXY.out).mono ?_))
      have lm : (dig B32 (x - y)).length ≤ 5000000 := by have := a0e a0a (Nat.sub_le x y); omega
      generalize x - y = m at *
      rintro e6 w6 ⟨p6, c6, rfl, ho6, hb6⟩
      have O6 := O5.past hb6
      have R6 := R5.past hb6
      have hTW6 := hTW.past hb6
      have hs6 := hs5.trans (hb6.mono hs5.size)
      have hzc := R4.lt
      have hol := O5.lt
      obtain ⟨o0, o1, o2, f0, f1, f2, olt⟩ := O6
      have hne6 : 0 < (dig B32 m).length → blk p6 ≠ wc.heap.size := fun h0 => by
       have := (ho6.blk_lt (ho6.rd.solid h0).1).1
       omega
      clear a0 a0' b0'
      go_wp2_with fail
      have hbS : Below wc.heap.size w6 (w6.setCell ⟨wc.heap.size, 1, none⟩ (.slice p6 (dig B32 m).length c6)) := (Below.refl _ _).setCell (by simp) _
      have hr7 : Rd (w6.setCell ⟨wc.heap.size, 1, none⟩ (.slice p6 (dig B32 m).length c6)) .u32 p6 (dig B32 m) := ho6.rd.same fun h0 => Below.heap_setCell _ _ _ _ (hne6 h0)
      have hT7 := hTW6.below hbS (by omega)
      have R7 := R6.below hbS (by omega)
      have hs7 := hs6.trans (hbS.mono (by omega))
      ((with_reducible refine (c0h g p6 _ c6 k m _ hr7 rfl ho6.le_cap (by omega) ⟨by omega, by omega⟩ hT7).mono ?_))
      generalize bare ⟨g, m, k⟩ = rr at *
      rintro e8 w8 ⟨p8, c8, rfl, ho8, hb8⟩
      obtain ⟨d0, d1, d2, f0', f1', f2', dlt⟩ := R7.past hb8
      have hsz7 : w.heap.size + 1 + 1 < (w6.setCell ⟨wc.heap.size, 1, none⟩ (.slice p6 (dig B32 m).length c6)).heap.size := R7.lt
      go_wp2_with fail
      refine bodyPost_ret (v := .agg #[.bool rr.neg, .slice p8 (dig B32 rr.m).length c8, .int .i64 rr.e]) (by simp [results, Tryd.results20, go_sem, d0, d1, d2]) rfl ?_
      rw [HJ.out]
      have hs8 := hs7.trans (hb8.mono hs7.size)
      refine ⟨p8, c8, rfl, (ho8.mono hs7.size).same (fun h => ?_), ((hs8.setCell (by simp; omega) _).setCell (by simp; omega) _).setCell (by simp; omega) _⟩
      have hk := (ho8.blk_lt h).1
      have hne : blk p8 ≠ w.heap.size + 1 + 1 := by omega
      rw [Below.heap_setCell _ _ _ _ hne, Below.heap_setCell _ _ _ _ hne, Below.heap_setCell _ _ _ _ hne]
    · obtain ⟨m, hm⟩ : ∃ m, y - x = m := ⟨_, rfl⟩
      have HJ := lHd (HP.out.trans (congrArg bare (show e0b g h x y k = ⟨h, m, k⟩ by unfold e0b; rw [if_neg hgh, if_neg hxy, hm])))
      have hgg : (g == h) = false := by simpa using hgh
      have hC : cmpN x y ≤ -1 := by rw [f0d (by omega)]; omega
      have HXY := lHd (show x ≤ y by omega)
      have HM := lHd hm
      have lm : (dig B32 m).length ≤ 5000000 := by rw [← hm]; have := a0e a0a (Nat.sub_le y x); omega
      clear hxy hm
      go_wp2_with fail
      ((with_reducible refine (d0j px py _ _ cx cy x y _ hox.rd hoy.rd rfl rfl (by omega) (by omega)).mono ?_))
      rintro e9 w9 ⟨rfl, hb9⟩
      have O5 := O5.past hb9
      have A5 := A5.past hb9
      have B5 := B5.past hb9
      have R5 := R5.past hb9
      have hTW := hTW.past hb9
      have hox := hox.past hb9
      have hoy := hoy.past hb9
      have hs5 := hs5.trans (hb9.mono hs5.size)
      have hz9 := hb9.size
      clear hb9 a0 a0' b0'
      have hzB := B4.lt
      go_wp2_with fail
      go_region_held3 (fun w' => w'.cell? ⟨w.heap.size + 1, 0, none⟩ = some (.bool h))
       (first | exact B5.c0 | exact B5.drew.c0 | exact (B5.drew.past hb6).c0 | exact ((B5.drew.past hb6).set hzB).c0 | exact (((B5.drew.past hb6).set hzB).set hzB).c0)
       (first | (go_at_call 44; refine (u0c py px _ _ cy cx y x _ hoy.rd.drew hox.rd.drew rfl rfl (by omega) HXY.out).mono ?_; rw [HM.out]; rintro e6 w6 ⟨p6, c6, rfl, ho6, hb6⟩; obtain ⟨o0, o1, o2, f0, f1, f2, olt⟩ := O5.drew.past hb6))
      all_goals (go_wp2_with fail)
      have R6 := R5.drew.past hb6
      have hTW6 := hTW.drew.past hb6
      have hs6 := hs5.drew.trans (hb6.mono hs5.size)
      have hzc := R4.lt
      have hol := O5.lt
      have hne6 : 0 < (dig B32 m).length → blk p6 ≠ wc.heap.size := fun h0 => by
       have := (ho6.blk_lt (ho6.rd.solid h0).1).1
       have : w9.drew.heap.size = w9.heap.size := rfl
       omega
      have hbS : Below wc.heap.size w6 ((w6.setCell ⟨wc.heap.size, 0, none⟩ (.bool h)).setCell ⟨wc.heap.size, 1, none⟩ (.slice p6 (dig B32 m).length c6)) := ((Below.refl _ _).setCell (by simp) _).setCell (by simp) _
      have hr7 : Rd ((w6.setCell ⟨wc.heap.size, 0, none⟩ (.bool h)).setCell ⟨wc.heap.size, 1, none⟩ (.slice p6 (dig B32 m).length c6)) .u32 p6 (dig B32 m) := ho6.rd.same fun h0 => by rw [Below.heap_setCell _ _ _ _ (hne6 h0), Below.heap_setCell _ _ _ _ (hne6 h0)]
      have hT7 := hTW6.below hbS (by omega)
      have R7 := R6.below hbS (by omega)
      have hs7 := hs6.trans (hbS.mono (by omega))
      ((with_reducible refine (c0h h p6 _ c6 k m _ hr7 rfl ho6.le_cap (by omega) ⟨by omega, by omega⟩ hT7).mono ?_))
      generalize bare ⟨h, m, k⟩ = rr at *
      rintro e8 w8 ⟨p8, c8, rfl, ho8, hb8⟩
      obtain ⟨d0, d1, d2, f0', f1', f2', dlt⟩ := R7.past hb8
      have hsz7 : w.heap.size + 1 + 1 < ((w6.setCell ⟨wc.heap.size, 0, none⟩ (.bool h)).setCell ⟨wc.heap.size, 1, none⟩ (.slice p6 (dig B32 m).length c6)).heap.size := R7.lt
      go_wp2_with fail
      refine bodyPost_ret (v := .agg #[.bool rr.neg, .slice p8 (dig B32 rr.m).length c8, .int .i64 rr.e]) (by simp [results, Tryd.results20, go_sem, d0, d1, d2]) rfl ?_
      rw [HJ.out]
      have hs8 := hs7.trans (hb8.mono hs7.size)
      refine ⟨p8, c8, rfl, (ho8.mono hs7.size).same (fun h => ?_), ((hs8.setCell (by simp; omega) _).setCell (by simp; omega) _).setCell (by simp; omega) _⟩
      have hk := (ho8.blk_lt h).1
      have hne : blk p8 ≠ w.heap.size + 1 + 1 := by omega
      rw [Below.heap_setCell _ _ _ _ hne, Below.heap_setCell _ _ _ _ hne, Below.heap_setCell _ _ _ _ hne]
theorem u0h (g h : Bool) (p q : OA) (c d base : Nat) (e f : Int) (b : Nat) (w : World) (hq : Own w base .u32 55 q d (dig B32 b)) (_hbase : base ≤ w.heap.size) :
 Calls Tryd.prog 20 #[.agg #[.bool g, .slice p 0 c, .int .i64 e], .agg #[.bool h, .slice q (dig B32 b).length d, .int .i64 f]] w (d0i w base ⟨h, b, f⟩) := by
 obtain ⟨W1, hW1⟩ : ∃ W1, W1 = ((w.alloc (.cells #[.bool g, .slice p 0 c, .int .i64 e] 61)).alloc (.cells #[.bool h, .slice q (dig B32 b).length d, .int .i64 f] 61)).alloc (.cells #[.bool false, .slice none 0 0, .int .i64 0] 61) := ⟨_, rfl⟩
 have hs1 : Below w.heap.size w W1 := by rw [hW1]; exact (b0d _ _ _).alloc (by simp; omega) _
 have A1 : Box3 W1 w.heap.size (.bool g) (.slice p 0 c) (.int .i64 e) := by
  rw [hW1]; exact ((a0i w _ _ _ _).past ((Below.refl _ _).alloc (Nat.le_refl _) _)).past ((Below.refl _ _).alloc (Nat.le_refl _) _)
 have B1 : Box3 W1 (w.heap.size + 1) (.bool h) (.slice q (dig B32 b).length d) (.int .i64 f) := by
  have := (a0i (w.alloc (.cells #[.bool g, .slice p 0 c, .int .i64 e] 61)) (.bool h) (.slice q (dig B32 b).length d) (.int .i64 f) 61).past ((Below.refl _ _).alloc (Nat.le_refl _) (.cells #[.bool false, .slice none 0 0, .int .i64 0] 61))
  rw [hW1]; simpa using this
 have R1 : Box3 W1 (w.heap.size + 1 + 1) (.bool false) (.slice none 0 0) (.int .i64 0) := by
  have := a0i ((w.alloc (.cells #[.bool g, .slice p 0 c, .int .i64 e] 61)).alloc (.cells #[.bool h, .slice q (dig B32 b).length d, .int .i64 f] 61)) (.bool false) (.slice none 0 0) (.int .i64 0) 61
  rw [hW1]; simpa using this
 have HW1 := lHd hW1
 clear hW1
 have hqW := hq.past hs1
 have hsa : a0k ⟨g, 0, e⟩ = 0 := rfl
 have HS := lHd hsa
 clear hsa
 go_enter Tryd.func20, Tryd.ntmps20
 go_wp2_with fail
 rw [← HW1.out]
 ((with_reducible refine (c0e g p _ c e 0 _ (by simp [a0b])).mono ?_))
 rintro e2 w2 ⟨rfl, hb2⟩
 rw [HS.out]
 have hs2 := hs1.trans (hb2.mono hs1.size)
 obtain ⟨b0, b1, b2, _, _, _, _⟩ := B1.past hb2
 obtain ⟨d0, d1, d2, f0, f1, f2, dlt⟩ := R1.past hb2
 have hqW := hqW.past hb2
 clear hb2 HW1
 go_wp2_with fail
 refine bodyPost_ret (v := .agg #[.bool h, .slice q (dig B32 b).length d, .int .i64 f]) (by simp [results, Tryd.results20, go_sem, d0, d1, d2]) rfl ?_
 refine ⟨q, d, rfl, hqW.same (fun hh => ?_), ((hs2.setCell (by simp; omega) _).setCell (by simp; omega) _).setCell (by simp; omega) _⟩
 have hk := (hq.blk_lt hh).2
 have hne : blk q ≠ w.heap.size + 1 + 1 := by omega
 rw [Below.heap_setCell _ _ _ _ hne, Below.heap_setCell _ _ _ _ hne, Below.heap_setCell _ _ _ _ hne]
theorem r0y (g h : Bool) (p q : OA) (c d base : Nat) (e f : Int) (a : Nat) (w : World) (hp : Own w base .u32 55 p c (dig B32 a)) (ha : 0 < a) (_hbase : base ≤ w.heap.size) :
 Calls Tryd.prog 20 #[.agg #[.bool g, .slice p (dig B32 a).length c, .int .i64 e], .agg #[.bool h, .slice q 0 d, .int .i64 f]] w (d0i w base ⟨g, a, e⟩) := by
 obtain ⟨W1, hW1⟩ : ∃ W1, W1 = ((w.alloc (.cells #[.bool g, .slice p (dig B32 a).length c, .int .i64 e] 61)).alloc (.cells #[.bool h, .slice q 0 d, .int .i64 f] 61)).alloc (.cells #[.bool false, .slice none 0 0, .int .i64 0] 61) := ⟨_, rfl⟩
 have hs1 : Below w.heap.size w W1 := by rw [hW1]; exact (b0d _ _ _).alloc (by simp; omega) _
 have A1 : Box3 W1 w.heap.size (.bool g) (.slice p (dig B32 a).length c) (.int .i64 e) := by
  rw [hW1]; exact ((a0i w _ _ _ _).past ((Below.refl _ _).alloc (Nat.le_refl _) _)).past ((Below.refl _ _).alloc (Nat.le_refl _) _)
 have B1 : Box3 W1 (w.heap.size + 1) (.bool h) (.slice q 0 d) (.int .i64 f) := by
  have := (a0i (w.alloc (.cells #[.bool g, .slice p (dig B32 a).length c, .int .i64 e] 61)) (.bool h) (.slice q 0 d) (.int .i64 f) 61).past ((Below.refl _ _).alloc (Nat.le_refl _) (.cells #[.bool false, .slice none 0 0, .int .i64 0] 61))
  rw [hW1]; simpa using this
 have R1 : Box3 W1 (w.heap.size + 1 + 1) (.bool false) (.slice none 0 0) (.int .i64 0) := by
  have := a0i ((w.alloc (.cells #[.bool g, .slice p (dig B32 a).length c, .int .i64 e] 61)).alloc (.cells #[.bool h, .slice q 0 d, .int .i64 f] 61)) (.bool false) (.slice none 0 0) (.int .i64 0) 61
  rw [hW1]; simpa using this
 have HW1 := lHd hW1
 clear hW1
 have hpW := hp.past hs1
 have hsa := j0l (g := g) (e := e) ha
 have HS := lHd (show a0k ⟨h, 0, f⟩ = 0 from rfl)
 go_enter Tryd.func20, Tryd.ntmps20
 go_wp2_with fail
 rw [← HW1.out]
 ((with_reducible refine (c0e g p _ c e a _ rfl).mono ?_))
 rintro e2 w2 ⟨rfl, hb2⟩
 generalize a0k ⟨g, a, e⟩ = sa at *
 have hs2 := hs1.trans (hb2.mono hs1.size)
 have A2 := A1.past hb2
 have B2 := B1.past hb2
 have R2 := R1.past hb2
 have hpW := hpW.past hb2
 obtain ⟨b0, b1, b2, _, _, _, _⟩ := B2
 clear hb2 HW1
 go_wp2_with fail
 ((with_reducible refine (c0e h q _ d f 0 _ (by simp [a0b])).mono ?_))
 rintro e3 w3 ⟨rfl, hb3⟩
 rw [HS.out]
 have hs3 := hs2.trans (hb3.mono hs2.size)
 obtain ⟨a0, a1, a2, _, _, _, _⟩ := A2.past hb3
 obtain ⟨d0, d1, d2, f0, f1, f2, dlt⟩ := R2.past hb3
 have hpW := hpW.past hb3
 clear hb3 b0 b1 b2
 go_wp2_with fail
 refine bodyPost_ret (v := .agg #[.bool g, .slice p (dig B32 a).length c, .int .i64 e]) (by simp [results, Tryd.results20, go_sem, d0, d1, d2]) rfl ?_
 refine ⟨p, c, rfl, hpW.same (fun hh => ?_), ((hs3.setCell (by simp; omega) _).setCell (by simp; omega) _).setCell (by simp; omega) _⟩
 have hk := (hp.blk_lt hh).2
 have hne : blk p ≠ w.heap.size + 1 + 1 := by omega
 rw [Below.heap_setCell _ _ _ _ hne, Below.heap_setCell _ _ _ _ hne, Below.heap_setCell _ _ _ _ hne]
theorem u0i (g h : Bool) (p q : OA) (n c m d base : Nat) (e f : Int) (a b : Nat) (w : World) (hp : Own w base .u32 55 p c (dig B32 a)) (hq : Own w base .u32 55 q d (dig B32 b)) (hn : n = (dig B32 a).length) (hm : m = (dig B32 b).length)
 (hl : (dig B32 a).length ≤ 1000000) (hl2 : (dig B32 b).length ≤ 1000000) (he : -1000000 ≤ e ∧ e ≤ 1000000) (hf : -1000000 ≤ f ∧ f ≤ 1000000) (hT : TabW w) (hbase : base ≤ w.heap.size) :
 Calls Tryd.prog 20 #[.agg #[.bool g, .slice p n c, .int .i64 e], .agg #[.bool h, .slice q m d, .int .i64 f]] w (d0i w base (c0x ⟨g, a, e⟩ ⟨h, b, f⟩)) := by
 subst hn hm
 by_cases ha : a = 0
 · subst ha
   have hE : c0x ⟨g, 0, e⟩ ⟨h, b, f⟩ = ⟨h, b, f⟩ := by unfold c0x; rw [if_pos rfl]
   rw [hE, a0b]
   exact u0h g h p q c d base e f b w hq hbase
 · by_cases hb : b = 0
   · subst hb
     have hE : c0x ⟨g, a, e⟩ ⟨h, 0, f⟩ = ⟨g, a, e⟩ := by unfold c0x; rw [if_neg ha, if_pos rfl]
     rw [hE, a0b]
     exact r0y g h p q c d base e f a w hp (by omega) hbase
   · refine (n0z g h p q c d base e f a b w hp hq hl hl2 he hf (by omega) (by omega) hT).mono ?_
     rintro en w' ⟨p', c', h1, h2, h3⟩
     exact ⟨p', c', h1, h2.mono hbase, h3⟩
def i0d (w : World) (k : IntKind) (xs : List Nat) (en : Ending) (w' : World) : Prop :=
 ∃ p c, en = .returned (.slice p xs.length c) ∧ Rd w' k p xs ∧ xs.length ≤ c ∧ (0 < xs.length → w.heap.size ≤ blk p) ∧ Below w.heap.size w w'
theorem h0t {w : World} {base : Nat} {k : IntKind} {e : TypeId} {p : OA} {c : Nat} {xs : List Nat} (h : Own w base k e p c xs) (h0 : 0 < xs.length) : base ≤ blk p :=
 (h.blk_lt (h.rd.solid h0).1).1
theorem u0j {w w' : World} {k : IntKind} {e : TypeId} {xs ys : List Nat} {p : OA} {n c : Nat} (h : xs = ys) (hn : n = xs.length) (ho : Own w' w.heap.size k e p c xs) (hb : Below w.heap.size w w') : i0d w k ys (.returned (.slice p n c)) w' := by
 subst h hn; exact ⟨p, c, rfl, ho.rd, ho.le_cap, h0t ho, hb⟩
theorem Rd.kept {w w' : World} {k : IntKind} {p : OA} {xs : List Nat} (h : Rd w k p xs) (hb : Below w.heap.size w w') : Rd w' k p xs := h.past hb
theorem e0o (p : OA) (n c : Nat) (xs : List Nat) (w : World) (hr : Rd w .i64 p xs) (hn : n = xs.length) (hc : xs.length ≤ c) (hx : ∀ x ∈ xs, x < B16) (hl : xs.length ≤ 4000000000) :
 Calls Tryd.prog 50 #[.slice p n c] w fun e w' => e = .returned (.slice p (dig B16 (val B16 xs)).length (dig B16 (val B16 xs)).length) ∧ w = w' := by
 subst hn
 go_enter Tryd.func50, Tryd.ntmps50
 go_wp2
 go_loop [3] (fun s => ∃ m : Nat, s = .int .i64 m ∧ m ≤ xs.length ∧ Hid (∀ j, m ≤ j → dg xs j = 0)) (fun s => (intOf s).toNat)
 case atStart => exact ⟨_, rfl, Nat.le_refl _, fun j hj => b0c hj⟩
 case round =>
  obtain ⟨m, rfl, hm, hz⟩ := hrel
  have hs := hr.solid
  by_cases hm0 : m = 0
  · subst hm0
    have e := lHd (d0f a0g xs 0 hx hm hz.out (.inl rfl))
    go_wp2
    go_ret
    rw [e.out]
    exact ⟨rfl, rfl⟩
  · have hpos : 0 < m := by omega
    by_cases h0 : dg xs (m - 1) = 0
    · have hcell : w.cell? (at_ p (m - 1)) = some (.int .i64 0) := by rw [hr.cells (m - 1) (by omega), h0]; rfl
      have HZ : Hid (∀ j, m - 1 ≤ j → dg xs j = 0) := fun j hj => by
       by_cases hjm : j = m - 1
       · subst hjm; exact h0
       · exact hz.out j (by omega)
      clear h0 hm0
      go_wp2
      go_round
      case rel => exact ⟨m - 1, by go_num, by omega, HZ⟩
      case measure => simp [intOf]; omega
    · have hcell := hr.cells (m - 1) (by omega)
      have h1 : 0 < dg xs (m - 1) := by omega
      have e := lHd (d0f a0g xs m hx hm hz.out (.inr h0))
      clear h0 hm0
      go_wp2
      go_ret
      rw [e.out]
      exact ⟨rfl, rfl⟩
def b1x (O xs : List Nat) (i : Nat) : Prop := (∀ x ∈ O, x < B16) ∧ val B16 O = val B32 (xs.take i)
theorem u0k (p : OA) (n c : Nat) (xs : List Nat) (w : World) (hr : Rd w .u32 p xs) (hn : n = xs.length) (hx : ∀ x ∈ xs, x < B32) (hl : xs.length ≤ 1000000000) :
 Calls Tryd.prog 26 #[.slice p n c] w (i0d w .i64 (dig B16 (val B32 xs))) := by
 subst hn
 have HX := lHd hx
 clear hx
 go_enter Tryd.func26, Tryd.ntmps26
 go_wp2
 go_loopw [3, 4] (fun ov iv wr => ∃ (i : Nat) (q : OA) (d : Nat) (O : List Nat), iv = .int .i64 i ∧ ov = .slice q O.length d ∧ i ≤ xs.length ∧ Hid (O.length = 2 * i) ∧ Own wr w.heap.size .i64 3 q d O ∧ Below w.heap.size w wr ∧ Hid (b1x O xs i))
  (fun _ iv _ => xs.length - (intOf iv).toNat)
 case atStart => exact ⟨0, none, 0, [], rfl, rfl, Nat.zero_le _, rfl, Own.nil _ _ _ _, Below.refl _ _, (show b1x [] xs 0 from ⟨by simp, by simp⟩)⟩
 case round =>
  obtain ⟨i, q, d, O, rfl, rfl, hi, hO, ho, hb, HR⟩ := hrel
  have hr2 := hr.past hb
  have hsz := hb.size
  by_cases hlt : i < xs.length
  · have hcell := hr2.cells i hlt
    have hs := hr2.solid
    have hd := a0f (B := 4294967296) (by omega) xs HX.out i
    have HS := lHd (z0x HR.out.1 hO.out HR.out.2 (a0f b0i xs HX.out i))
    have i0 : (0 : Int) ≤ (i : Int) := by omega
    have i1 : (i : Int) < (xs.length : Int) := by omega
    have e1 : IntKind.i64.wrap ((dg xs i : Nat) : Int) = (dg xs i : Nat) := iwo
    have e2 : ((dg xs i : Nat) : Int).tmod 65536 = ((dg xs i : Nat) : Int) % 65536 := Int.tmod_eq_emod_of_nonneg (by omega)
    have e3 : IntKind.i64.wrap (((dg xs i : Nat) : Int) / 65536) = ((dg xs i : Nat) : Int) / 65536 := iwo
    go_wp2_with fail
    go_region_held3 (fun w' => w'.cell? (at_ p i) = some (.int .u32 (dg xs i : Nat)))
     (first | go_keep | exact (hr2.drew.laid _).cells i hlt | exact (hr2.laid _).drew.cells i hlt | exact ((hr2.laid _).drew.below hb3 (fun h => hr.lt h)).cells i hlt)
     (first
       | (refine p0e rfl _ _ _ (by rfl) tyN _ _ _ _ _ (ho.laid _).drew rfl _ _ _ _ (z0y wr .i64 3 _ _ (by clear e1 e2 e3; omega) (by clear e1 e2 e3; omega)).drew.rd (by rfl) (by rfl) (by rfl) ?_ ?_ ?_; (have := hO.out; clear e1 e2 e3; simp; omega); (clear e1 e2 e3; simp; omega); intro p3 c3 w3 ho3 hg3 hb3 hn3))
    clear e1 e2 e3
    have e4 : [((dg xs i : Int) % 65536).toNat, ((dg xs i : Int) / 65536).toNat] = [dg xs i % 65536, dg xs i / 65536] := by
     rw [show ((dg xs i : Int) % 65536).toNat = dg xs i % 65536 by omega, show ((dg xs i : Int) / 65536).toNat = dg xs i / 65536 by omega]
    rw [e4] at ho3
    have hb4 := (hb.trans ((((Below.refl _ _).alloc hsz _).drew).trans hb3))
    clear hg3 hn3 hb3 e4 hcell hr2
    go_wp2
    go_roundw
    case rel => exact ⟨i + 1, p3, c3, _, by go_num, by simp, hlt, (by show (O ++ _).length = 2 * (i + 1); have := hO.out; simp; omega), ho3, hb4, HS⟩
    case measure => simp [intOf]; omega
  · obtain rfl : i = xs.length := by omega
    go_wp2_with (go_at_call 50; refine (e0o _ _ _ O _ ho.rd rfl ho.le_cap HR.out.1 (by rw [hO.out]; omega)).mono ?_; rintro e w3 ⟨rfl, rfl⟩)
    go_ret
    have hv : val B16 O = val B32 xs := by rw [HR.out.2, b0n _ _ _ (Nat.le_refl _)]
    rw [← hv]
    have ht := a0v a0g O HR.out.1
    have ho2 := ho.take (dig B16 (val B16 O)).length
    rw [ht] at ho2
    exact ⟨q, _, rfl, ho2.rd, Nat.le_refl _, h0t ho2, hb⟩
theorem a0r (p q : OA) (n c m d : Nat) (xs ys : List Nat) (w : World) (hp : Rd w .u32 p xs) (hq : Rd w .u32 q ys) (hn : n = xs.length) (hm : m = ys.length) (he : xs = ys) (hl : xs.length ≤ 9223372036854775807) :
 Calls Tryd.prog 16 #[.slice p n c, .slice q m d] w fun e w' => e = .returned (.bool true) ∧ Below w.heap.size w w' := by
 subst hn hm he
 have hs1 := hp.solid
 have hs2 := hq.solid
 go_enter Tryd.func16, Tryd.ntmps16
 go_wp2
 go_loopw [5] (fun iv wr => ∃ (i : Nat), iv = .int .i64 i ∧ i ≤ xs.length ∧ Below w.heap.size w wr) (fun iv _ => xs.length - (intOf iv).toNat)
 case atStart => exact ⟨0, rfl, Nat.zero_le _, Below.refl _ _⟩
 case round =>
  obtain ⟨i, rfl, hi, hb⟩ := hrel
  by_cases hlt : i < xs.length
  · have hc1 := (hp.past hb).cells i hlt
    have hc2 := (hq.past hb).cells i hlt
    have i1 : (i : Int) < (xs.length : Int) := by omega
    have i0 : (0 : Int) ≤ (i : Int) := by omega
    go_wp2_with fail
    go_quiet (fail)
    go_wp2
    go_roundw
    case rel => exact ⟨i + 1, by go_num, hlt, hb.trans (below_drewN (Below.refl _ _) _)⟩
    case measure => simp [intOf]; omega
  · go_wp2
    go_ret
    exact ⟨rfl, hb⟩
def c0q : List (List Nat) → Int
 | [] => 0
 | x :: xs => if a0n x = 0 then c0q xs else a0n x
theorem o0a (g c : Nat) (L : List (OA × Nat × List Nat)) (w : World) (hc : ∀ j (h : j < L.length), w.cell? ⟨g, j, none⟩ = some (.slice L[j].1 L[j].2.2.length L[j].2.1))
 (hr : ∀ j (h : j < L.length), Rd w .u32 L[j].1 L[j].2.2 ∧ L[j].2.2.length ≤ 9223372036854775807) (n : Nat) (hn : n = L.length) (hl : L.length ≤ 1000000) :
 Calls Tryd.prog 56 #[.slice (some ⟨g, 0, none⟩) n c] w fun e w' => e = .returned (.int .i64 (c0q (L.map (·.2.2)))) ∧ w = w' := by
 subst hn
 have HC := lHd hc
 have HR := lHd hr
 clear hc hr
 go_enter Tryd.func56, Tryd.ntmps56
 go_wp2
 go_loopg [7] L.length (fun gk iv wr => ∃ (i : Nat), iv = .int .i64 i ∧ gk + i = L.length ∧ wr = w ∧ Hid (c0q (L.map (·.2.2)) = c0q ((L.drop i).map (·.2.2))))
 case atStart => exact ⟨0, rfl, rfl, rfl, rfl⟩
 case round =>
  obtain ⟨i, rfl, hg, rfl, HF⟩ := hrel
  by_cases hlt : i < L.length
  · obtain ⟨p, cc, xs, hL⟩ : ∃ p cc xs, L[i] = (p, cc, xs) := ⟨_, _, _, rfl⟩
    have hcell := HC.out i hlt
    obtain ⟨hx, hxl⟩ := HR.out i hlt
    have hF := HF.out
    rw [List.drop_eq_getElem_cons hlt, List.map_cons, hL] at hF
    rw [hL] at hcell hx hxl
    simp only [c0q] at hcell hx hxl hF
    clear hL
    have hs := hx.solid
    have hgi : 0 < gk := by omega
    by_cases h1 : 0 < xs.length
    · have hcx := hx.cells (xs.length - 1) (by omega)
      have t1 : (0 : Int) < (xs.length : Int) := by omega
      by_cases h2 : dg xs (xs.length - 1) = 0
      · rw [h2] at hcx
        have he : a0n xs = 1 := by unfold a0n; rw [if_pos ⟨h1, h2⟩]
        rw [he] at hF
        have H := lHd hF
        clear h2 he hF
        go_wp2
        go_ret
        exact ⟨a0s (by rw [H.out]; simp), rfl⟩
      · have h3 : 0 < dg xs (xs.length - 1) := by omega
        have he : a0n xs = if 1200 < xs.length then 2 else 0 := by unfold a0n; rw [if_neg (fun h => h2 h.2)]
        clear h2
        by_cases h4 : 1200 < xs.length
        · rw [he, if_pos h4] at hF
          have H := lHd hF
          clear hF he
          go_wp2
          go_ret
          exact ⟨a0s (by rw [H.out]; simp), rfl⟩
        · rw [he, if_neg h4] at hF
          have H := lHd hF
          clear hF he
          go_wp2
          go_roundg (gk - 1)
          case measure => omega
          case rel => exact ⟨i + 1, by go_num, by omega, rfl, by show c0q _ = _; rw [H.out]; simp⟩
    · obtain rfl : xs = [] := List.eq_nil_of_length_eq_zero (by omega)
      have he : a0n [] = 0 := by simp [a0n]
      rw [he] at hF
      have H := lHd hF
      clear hF he
      go_wp2
      go_roundg (gk - 1)
      case measure => omega
      case rel => exact ⟨i + 1, by go_num, by omega, rfl, by show c0q _ = _; rw [H.out]; simp⟩
  · have H : Hid (c0q (L.map (·.2.2)) = 0) := by
     have := HF.out
     rw [List.drop_of_length_le (by omega)] at this
     exact this
    go_wp2
    go_ret
    exact ⟨a0s H.out.symm, rfl⟩
theorem o0b (xs : List Nat) : c0q [xs] = a0n xs := by
 simp only [c0q]; split <;> simp_all
theorem r0z (p : OA) (c n : Nat) (xs : List Nat) (w : World) (hx : Rd w .u32 p xs) (hn : n = xs.length) (hl : xs.length ≤ 9223372036854775807) :
 Calls Tryd.prog 56 #[.slice (some ⟨w.heap.size, 0, none⟩) 1 1] (w.alloc (.cells #[.slice p n c] 23)) fun e w' => e = .returned (.int .i64 (a0n xs)) ∧ w.alloc (.cells #[.slice p n c] 23) = w' := by
 subst hn
 rw [← o0b]
 refine o0a w.heap.size 1 [(p, c, xs)] _ ?_ ?_ 1 rfl (by simp)
 · intro j h
   obtain rfl : j = 0 := by simp at h; omega
   simp
 · intro j h
   obtain rfl : j = 0 := by simp at h; omega
   exact ⟨hx.laid _, hl⟩
theorem e0p (p : OA) (n c : Nat) (xs : List Nat) (w : World) (hp : Rd w .u32 p xs) (hn : n = xs.length) (hl : xs.length ≤ 9223372036854775807) :
 Calls Tryd.prog 31 #[.slice p n c] w fun e w' => e = .returned (.int .i64 (a0n xs)) ∧ Below w.heap.size w w' := by
 subst hn
 go_enter Tryd.func31, Tryd.ntmps31
 go_wp2_with fail
 refine (r0z p c _ xs _ hp rfl hl).mono ?_
 rintro e w1 ⟨rfl, rfl⟩
 go_wp2_with fail
 go_ret
 exact ⟨rfl, (Below.refl _ _).alloc (Nat.le_refl _) _⟩
structure Din where
 g : Bool
 p : OA
 c : Nat
 xs : List Nat
 e : Int
def a0w (d : Din) : Int := if a0n d.xs = 0 then (if d.e < -20000 ∨ 20000 < d.e then 3 else 0) else a0n d.xs
def a0x : List Din → Int
 | [] => 0
 | x :: xs => if a0w x = 0 then a0x xs else a0w x
theorem j0m (g c : Nat) (L : List Din) (w : World)
 (hc : ∀ j (h : j < L.length), w.cell? ⟨g, j * 3, none⟩ = some (.bool L[j].g) ∧ w.cell? ⟨g, j * 3 + 1, none⟩ = some (.slice L[j].p L[j].xs.length L[j].c) ∧ w.cell? ⟨g, j * 3 + 2, none⟩ = some (.int .i64 L[j].e))
 (hr : ∀ j (h : j < L.length), Rd w .u32 L[j].p L[j].xs ∧ L[j].xs.length ≤ 9223372036854775807) (hg : g < w.heap.size) (n : Nat) (hn : n = L.length) (hl : L.length ≤ 1000000) :
 Calls Tryd.prog 21 #[.slice (some ⟨g, 0, none⟩) n c] w fun e w' => e = .returned (.int .i64 (a0x L)) ∧ Below w.heap.size w w' := by
 subst hn
 have HC := lHd hc
 have HR := lHd hr
 clear hc hr
 go_enter Tryd.func21, Tryd.ntmps21
 go_wp2
 go_loopg [8] L.length (fun gk iv wr => ∃ (i : Nat), iv = .int .i64 i ∧ gk + i = L.length ∧ Below w.heap.size w wr ∧ Hid (a0x L = a0x (L.drop i)))
 case atStart => exact ⟨0, rfl, rfl, Below.refl _ _, rfl⟩
 case round =>
  obtain ⟨i, rfl, hgk, hb, HF⟩ := hrel
  by_cases hlt : i < L.length
  · obtain ⟨gs, p, cc, xs, ex, hL⟩ : ∃ gs p cc xs ex, L[i] = ⟨gs, p, cc, xs, ex⟩ := ⟨_, _, _, _, _, rfl⟩
    obtain ⟨k0, k1, k2⟩ := HC.out i hlt
    obtain ⟨hx, hxl⟩ := HR.out i hlt
    have hF := HF.out
    rw [List.drop_eq_getElem_cons hlt, hL] at hF
    rw [hL] at k0 k1 k2 hx hxl
    simp only at k0 k1 k2 hx hxl
    rw [← Below.cell hb hg] at k0 k1 k2
    have hx1 := hx.past hb
    have HFF := lHd hF
    have hgi : 0 < gk := by omega
    clear hL hF
    go_wp2_with fail
    ((with_reducible refine (e0p p _ cc xs _ (hx1.laid _) rfl hxl).mono ?_))
    rintro e2 w2 ⟨rfl, hb2⟩
    have B2 := (a0i wr (.bool gs) (.slice p xs.length cc) (.int .i64 ex) 25).past hb2
    have hs2 := (hb.alloc hb.size (.cells #[.bool gs, .slice p xs.length cc, .int .i64 ex] 25)).trans (hb2.mono (by have := hb.size; simp; omega))
    have d2 := B2.c2
    clear hb2 k0 k1 k2
    by_cases he : a0n xs = 0
    · have hz : (a0n xs == 0) = true := by simpa using he
      have hz2 : (a0n xs != 0) = false := by simpa using he
      by_cases hr : ex < -20000 ∨ 20000 < ex
      · have HE : Hid (a0x L = 3) := by
         have := HFF.out
         simp only [a0x, a0w, he, if_true, if_pos hr] at this
         show a0x L = 3
         simpa using this
        rw [he]
        clear he hz hz2
        rcases hr with hr | hr
        · go_wp2
          go_ret
          exact ⟨a0s HE.out.symm, hs2⟩
        · have h3 : ¬ ex < -20000 := by omega
          go_wp2
          go_ret
          exact ⟨a0s HE.out.symm, hs2⟩
      · have HE : Hid (a0x L = a0x (L.drop (i + 1))) := by
         have := HFF.out
         simp only [a0x, a0w, he, if_true, if_neg hr] at this
         exact this
        have h3 : ¬ ex < -20000 := by omega
        have h4 : ¬ 20000 < ex := by omega
        rw [he]
        clear he hz hz2 hr
        go_wp2
        go_roundg (gk - 1)
        case measure => omega
        case rel => exact ⟨i + 1, by go_num, by omega, hs2, HE⟩
    · have hz : (a0n xs == 0) = false := by simpa using he
      have hz2 : (a0n xs != 0) = true := by simpa using he
      have HE : Hid (a0x L = a0n xs) := by
       have := HFF.out
       simp only [a0x, a0w, if_neg he] at this
       exact this
      clear he
      go_wp2
      go_ret
      exact ⟨a0s HE.out.symm, hs2⟩
  · have H : Hid (a0x L = 0) := by
     have := HF.out
     rw [List.drop_of_length_le (by omega)] at this
     exact this
    go_wp2
    go_ret
    exact ⟨a0s H.out.symm, hb⟩
theorem m0h (d : Din) : a0x [d] = a0w d := by simp only [a0x]; split <;> simp_all
def b0t (a b : Din) : Int := if a0w a = 0 then a0w b else a0w a
theorem m0i (a b : Din) : a0x [a, b] = b0t a b := by simp only [a0x, b0t]; split <;> (try split) <;> simp_all
theorem b0w (d : Din) (w : World) (bk : Nat) (hbk : bk = w.heap.size) (hx : Rd w .u32 d.p d.xs) (hl : d.xs.length ≤ 9223372036854775807) :
 Calls Tryd.prog 21 #[.slice (some ⟨bk, 0, none⟩) 1 1] (w.alloc (.cells #[.bool d.g, .slice d.p d.xs.length d.c, .int .i64 d.e] 25)) fun e w' =>
  e = .returned (.int .i64 (a0w d)) ∧ Below (w.heap.size + 1) (w.alloc (.cells #[.bool d.g, .slice d.p d.xs.length d.c, .int .i64 d.e] 25)) w' := by
 subst hbk
 rw [← m0h]
 have h := j0m w.heap.size 1 [d] (w.alloc (.cells #[.bool d.g, .slice d.p d.xs.length d.c, .int .i64 d.e] 25)) (fun j h => by
   obtain rfl : j = 0 := by simp at h; omega
   simp [go_sem]) (fun j h => by
   obtain rfl : j = 0 := by simp at h; omega
   exact ⟨hx.laid _, hl⟩) (by simp) 1 rfl (by simp)
 simpa using h
theorem i0e (a b : Din) (w : World) (bk : Nat) (hbk : bk = w.heap.size) (hx : Rd w .u32 a.p a.xs) (hl : a.xs.length ≤ 9223372036854775807) (hy : Rd w .u32 b.p b.xs) (hl2 : b.xs.length ≤ 9223372036854775807) :
 Calls Tryd.prog 21 #[.slice (some ⟨bk, 0, none⟩) 2 2] (w.alloc (.cells #[.bool a.g, .slice a.p a.xs.length a.c, .int .i64 a.e, .bool b.g, .slice b.p b.xs.length b.c, .int .i64 b.e] 25)) fun e w' =>
  e = .returned (.int .i64 (b0t a b)) ∧ Below (w.heap.size + 1) (w.alloc (.cells #[.bool a.g, .slice a.p a.xs.length a.c, .int .i64 a.e, .bool b.g, .slice b.p b.xs.length b.c, .int .i64 b.e] 25)) w' := by
 subst hbk
 rw [← m0i]
 have h := j0m w.heap.size 2 [a, b] (w.alloc (.cells #[.bool a.g, .slice a.p a.xs.length a.c, .int .i64 a.e, .bool b.g, .slice b.p b.xs.length b.c, .int .i64 b.e] 25)) (fun j h => by
   match j, h with
   | 0, _ => simp [go_sem]
   | 1, _ => simp [go_sem]) (fun j h => by
   match j, h with
   | 0, _ => exact ⟨hx.laid _, hl⟩
   | 1, _ => exact ⟨hy.laid _, hl2⟩) (by simp) 2 rfl (by simp)
 simpa using h
theorem g0e (d : Din) (w : World) (hx : Rd w .u32 d.p d.xs) (hl : d.xs.length ≤ 9223372036854775807) :
 Calls Tryd.prog 78 #[.agg #[.bool d.g, .slice d.p d.xs.length d.c, .int .i64 d.e]] w fun e w' => e = .returned (.int .i64 (a0w d)) ∧ Below w.heap.size w w' := by
 have hs1 : Below w.heap.size w (w.alloc (.cells #[.bool d.g, .slice d.p d.xs.length d.c, .int .i64 d.e] 25)) := (Below.refl _ _).alloc (Nat.le_refl _) _
 go_enter Tryd.func78, Tryd.ntmps78
 go_wp2_with fail
 ((with_reducible refine (b0w d _ _ (by simp) (hx.laid _) hl).mono ?_))
 rintro e2 w2 ⟨rfl, hb2⟩
 go_wp2_with fail
 go_ret
 exact ⟨rfl, (hs1.trans (((Below.refl _ _).alloc (Nat.le_refl _) _).mono (by simp))).trans (hb2.mono (by simp; omega))⟩
theorem s0a (w : World) (o1 o2 o3 : Obj) : Below w.heap.size w (((w.alloc o1).alloc o2).alloc o3) := (b0d _ _ _).alloc (by simp; omega) _
theorem s0b (fv : Value) (a b : Din) (w : World) (hx : Rd w .u32 a.p a.xs) (hl : a.xs.length ≤ 9223372036854775807) (hy : Rd w .u32 b.p b.xs) (hl2 : b.xs.length ≤ 9223372036854775807) (he : b0t a b ≠ 0) :
 Calls Tryd.prog 19 #[.agg #[.bool a.g, .slice a.p a.xs.length a.c, .int .i64 a.e], .agg #[.bool b.g, .slice b.p b.xs.length b.c, .int .i64 b.e], fv] w (c0b w w.heap.size ⟨false, 0, 0⟩ (b0t a b)) := by
 have hz2 : (b0t a b != 0) = true := by simpa using he
 have hs1 := s0a w (.cells #[.bool a.g, .slice a.p a.xs.length a.c, .int .i64 a.e] 25) (.cells #[.bool b.g, .slice b.p b.xs.length b.c, .int .i64 b.e] 25) (.cells #[.bool false, .slice none 0 0, .int .i64 0] 25)
 have R1 := a0i ((w.alloc (.cells #[.bool a.g, .slice a.p a.xs.length a.c, .int .i64 a.e] 25)).alloc (.cells #[.bool b.g, .slice b.p b.xs.length b.c, .int .i64 b.e] 25)) (.bool false) (.slice none 0 0) (.int .i64 0) 25
 go_enter Tryd.func19, Tryd.ntmps19
 go_wp2_with fail
 ((with_reducible refine (i0e a b _ _ (by simp) (((hx.laid _).laid _).laid _) hl (((hy.laid _).laid _).laid _) hl2).mono ?_))
 rintro e2 w2 ⟨rfl, hb2⟩
 have R2 := (R1.past ((Below.refl _ _).alloc (Nat.le_refl _) (.cells #[.bool a.g, .slice a.p a.xs.length a.c, .int .i64 a.e, .bool b.g, .slice b.p b.xs.length b.c, .int .i64 b.e] 25))).below hb2 (by simp)
 simp only [World.size_alloc] at R2
 obtain ⟨d0, d1, d2, f0, f1, f2, dlt⟩ := R2
 go_wp2_with fail
 refine bodyPost_ret (v := .tuple #[.agg #[.bool false, .slice none 0 0, .int .i64 0], .int .i64 (b0t a b)]) (by simp [results, Tryd.results19, go_sem, d0, d1, d2]) rfl ?_
 have hs2 := (hs1.alloc hs1.size (.cells #[.bool a.g, .slice a.p a.xs.length a.c, .int .i64 a.e, .bool b.g, .slice b.p b.xs.length b.c, .int .i64 b.e] 25)).trans (hb2.mono (by simp; omega))
 exact ⟨none, 0, by rw [a0b]; rfl, by rw [a0b]; exact Own.nil _ _ _ _, ((hs2.setCell (by simp; omega) _).setCell (by simp; omega) _).setCell (by simp; omega) _⟩
end Go.Proofs.YthcoapcffhgckaaDoor
namespace Go.Slip
def norm (z e : Int) : Dv := bare (ofZ z e)
theorem u0l (g : Bool) (m : Nat) (e : Int) : norm (sg g m) e = bare ⟨g, m, e⟩ := by
 unfold norm ofZ
 by_cases h : m = 0
 · subst h
   have : sg g 0 = 0 := by unfold sg; cases g <;> rfl
   rw [this]; rfl
 · have h1 : (sg g m).natAbs = m := by unfold sg; cases g <;> simp
   have h2 : decide (sg g m < 0) = g := by unfold sg; cases g <;> simp <;> omega
   rw [h1, h2]
theorem u0m (z : Int) : sg (decide (z < 0)) z.natAbs = z := by
 unfold sg
 by_cases h : z < 0
 · simp [h]; omega
 · simp [h]; omega
theorem s0c (z : Int) (k : Nat) (e : Int) : norm (z * 2 ^ k) e = norm z (e + k) := by
 have h : z * 2 ^ k = sg (decide (z < 0)) (z.natAbs * 2 ^ k) := by
  rw [z0e, u0m]; simp
 rw [h, u0l, h0r]
 conv => rhs; rw [← u0m z]
 rw [u0l]
theorem r0b (g : Bool) (m : Nat) {x E e : Int} (h : m = 0 ∨ E ≤ x) (he : e ≤ E) : sg g (m * 2 ^ (x - E).toNat) * 2 ^ (E - e).toNat = sg g (m * 2 ^ (x - e).toNat) := by
 rcases h with h | h
 · subst h; simp [sg]
 · have : (x - e).toNat = (x - E).toNat + (E - e).toNat := by omega
   rw [this, Nat.pow_add, ← Nat.mul_assoc, z0e g (m * 2 ^ (x - E).toNat)]
   simp
theorem s0d (a b : Dv) {e : Int} (h1 : e ≤ a.e) (h2 : e ≤ b.e) : k0m a b = norm (zOf a e + zOf b e) e := by
 unfold k0m
 rw [g0t]
 have hE : e ≤ e0j a b := by unfold e0j; split; exact h1; split; exact h2; omega
 have ha : a.m = 0 ∨ e0j a b ≤ a.e := by
  unfold e0j
  by_cases hb0 : b.m = 0
  · rw [if_pos hb0]; exact .inr (by omega)
  · rw [if_neg hb0]
    by_cases ha0 : a.m = 0
    · exact .inl ha0
    · rw [if_neg ha0]; exact .inr (by omega)
 have hb : b.m = 0 ∨ e0j a b ≤ b.e := by
  unfold e0j
  by_cases hb0 : b.m = 0
  · exact .inl hb0
  · rw [if_neg hb0]
    by_cases ha0 : a.m = 0
    · rw [if_pos ha0]; exact .inr (by omega)
    · rw [if_neg ha0]; exact .inr (by omega)
 show norm _ _ = _
 generalize e0j a b = E at *
 have e1 : E = e + ((E - e).toNat : Int) := by omega
 have := s0c (sg a.neg (a.m * 2 ^ (a.e - E).toNat) + sg b.neg (b.m * 2 ^ (b.e - E).toNat)) (E - e).toNat e
 rw [← e1] at this
 rw [← this, Int.add_mul, r0b _ _ ha hE, r0b _ _ hb hE]
 rfl
theorem s0e (a : Dv) (e : Int) : zOf (c0a a) e = - zOf a e := by
 unfold zOf c0a sg
 by_cases h : a.m = 0
 · simp [h]
 · have : 0 < a.m := by omega
   cases hn : a.neg <;> simp [this]
theorem i0t (a b : Dv) {e : Int} (h1 : e ≤ a.e) (h2 : e ≤ b.e) : rCmp a b = Int.sign (zOf a e - zOf b e) := by
 unfold rCmp
 rw [s0d a (c0a b) h1 (show e ≤ (c0a b).e from h2), s0e]
 unfold norm
 rw [k0v, ← Int.sub_eq_add_neg]
end Go.Slip
namespace Go.Proofs.YthcoapcffhgckaaDoor
open Go.RowKit Go.Slip
def dyV (a : Din) : Dv := bare ⟨a.g, val B32 a.xs, a.e⟩
theorem r0c (a : Din) : Bare (dyV a) := t0t _
structure InD (w : World) (a : Din) : Prop where
 rd : Rd w .u32 a.p a.xs
 cap : a.xs.length ≤ a.c
 len : a.xs.length ≤ 9223372036854775807
 lt : ∀ x ∈ a.xs, x < B32
theorem InD.past {w w' : World} {a : Din} (h : InD w a) (hb : Below w.heap.size w w') : InD w' a := ⟨h.rd.past hb, h.cap, h.len, h.lt⟩
theorem InD.laid {w : World} {a : Din} (h : InD w a) (o : Obj) : InD (w.alloc o) a := ⟨h.rd.laid o, h.cap, h.len, h.lt⟩
theorem InD.drew {w : World} {a : Din} (h : InD w a) : InD w.drew a := ⟨h.rd.drew, h.cap, h.len, h.lt⟩
theorem InD.ok {w : World} {a : Din} (h : InD w a) (he : a0w a = 0) : ∃ m, a.xs = dig B32 m ∧ val B32 a.xs = m ∧ (dig B32 m).length ≤ 1200 ∧ -20000 ≤ a.e ∧ a.e ≤ 20000 := by
 unfold a0w at he
 by_cases h1 : a0n a.xs = 0
 · rw [if_pos h1] at he
   obtain ⟨h2, h3⟩ := g0o h.lt h1
   refine ⟨_, h2, rfl, by rw [← h2]; exact h3, ?_⟩
   by_cases h4 : a.e < -20000 ∨ 20000 < a.e
   · rw [if_pos h4] at he; simp at he
   · omega
 · rw [if_neg h1] at he; exact absurd he h1
theorem f0f {a b : Din} (h : b0t a b = 0) : a0w a = 0 ∧ a0w b = 0 := by
 unfold b0t at h
 by_cases h1 : a0w a = 0
 · rw [if_pos h1] at h; exact ⟨h1, h⟩
 · rw [if_neg h1] at h; exact absurd h h1
theorem i0f {w : World} {a : Din} (h : InD w a) (he : a0w a = 0) : (dig B32 (dyV a).m).length ≤ 1200 ∧ -20000 ≤ (dyV a).e ∧ (dyV a).e ≤ 58400 := by
 obtain ⟨m, _, hv, hl, h1, h2⟩ := h.ok he
 unfold dyV
 rw [hv]
 refine ⟨Nat.le_trans (c0z a0a _) hl, ?_⟩
 have := k0y ⟨a.g, m, a.e⟩ (n := 1200) hl h1 h2 (by omega) (by omega)
 omega
def j0n (a b : Din) (r : Dv) : Int := if b0t a b = 0 then errD r else b0t a b
def e0q (a b : Din) (r : Dv) : Dv := if b0t a b = 0 then c0k r else ⟨false, 0, 0⟩
theorem c0b.mono {w w' : World} {base base' : Nat} {d : Dv} {er : Int} {en : Ending} (h : c0b w base d er en w') (hb : base' ≤ base) : c0b w base' d er en w' := by
 obtain ⟨p, c, h1, h2, h3⟩ := h
 exact ⟨p, c, h1, h2.mono hb, h3⟩
theorem o0c (a b : Din) (w : World) (ha : InD w a) (hb : InD w b) (he : b0t a b = 0) (hT : TabW w) :
 Calls Tryd.prog 19 #[.agg #[.bool a.g, .slice a.p a.xs.length a.c, .int .i64 a.e], .agg #[.bool b.g, .slice b.p b.xs.length b.c, .int .i64 b.e], .func (.func 20) #[] #[]] w (c0b w w.heap.size (c0k (c0x (dyV a) (dyV b))) (errD (c0x (dyV a) (dyV b)))) := by
 obtain ⟨W1, hW1, hs1, A1, B1, R1, hz1⟩ := a1c w (.bool a.g) (.slice a.p a.xs.length a.c) (.int .i64 a.e) (.bool b.g) (.slice b.p b.xs.length b.c) (.int .i64 b.e) (.bool false) (.slice none 0 0) (.int .i64 0) 25 25 25
 obtain ⟨hla, hea, hea2⟩ := i0f ha (f0f he).1
 obtain ⟨hlb, heb, heb2⟩ := i0f hb (f0f he).2
 obtain ⟨ma, exa, eva, la, e1a, e2a⟩ := ha.ok (f0f he).1
 obtain ⟨mb, exb, evb, lb, e1b, e2b⟩ := hb.ok (f0f he).2
 have ha1 := ha.past hs1
 have hb1 := hb.past hs1
 have hT1 := hT.past hs1
 have HE := lHd he
 have HVA := lHd (show bare ⟨a.g, ma, a.e⟩ = dyV a by unfold dyV; rw [eva])
 have HVB := lHd (show bare ⟨b.g, mb, b.e⟩ = dyV b by unfold dyV; rw [evb])
 have HXA := lHd exa
 have HXB := lHd exb
 have hca := ha.cap
 have hcb := hb.cap
 have HLen := lHd (show (dig B32 (c0x (dyV a) (dyV b)).m).length ≤ 1000000 by have := u0e (a := dyV a) (b := dyV b) hla hlb hea hea2 heb heb2; omega)
 clear he exa eva exb evb
 generalize dyV a = va at *
 generalize dyV b = vb at *
 obtain ⟨ga, na, fa⟩ := va
 obtain ⟨gb, nb, fb⟩ := vb
 obtain ⟨⟨gr, nr, fr⟩, hr⟩ : ∃ r, c0x ⟨ga, na, fa⟩ ⟨gb, nb, fb⟩ = r := ⟨_, rfl⟩
 rw [hr] at HLen ⊢
 have HR := lHd hr
 have lr := HLen.out
 clear hr
 simp only at hla hea hea2 hlb heb heb2 lr
 have HW1 := lHd hW1
 clear hW1
 go_enter Tryd.func19, Tryd.ntmps19
 go_wp2_with fail
 rw [← HW1.out]
 ((with_reducible refine (i0e a b _ _ hz1.symm ha1.rd ha1.len hb1.rd hb1.len).mono ?_))
 rintro e2 w2 ⟨rfl, hb2⟩
 rw [HE.out]
 have hb3 : Below W1.heap.size W1 w2 := ((Below.refl _ _).alloc (Nat.le_refl _) _).trans (hb2.mono (by simp))
 have hs2 := hs1.trans (hb3.mono hs1.size)
 replace A1 := A1.past hb3
 replace B1 := B1.past hb3
 replace R1 := R1.past hb3
 replace ha1 := ha1.past hb3
 replace hb1 := hb1.past hb3
 replace hT1 := hT1.past hb3
 clear hb2 HW1 hs1 hb3
 have ra1 : Rd w2 .u32 a.p (dig B32 ma) := by rw [← HXA.out]; exact ha1.rd
 have rb1 : Rd w2 .u32 b.p (dig B32 mb) := by rw [← HXB.out]; exact hb1.rd
 go_wp2_with fail
 go_region_held3 (fun w' => (w'.cell? ⟨w.heap.size, 0, none⟩ = some (.bool a.g) ∧ w'.cell? ⟨w.heap.size, 1, none⟩ = some (.slice a.p a.xs.length a.c) ∧ w'.cell? ⟨w.heap.size, 2, none⟩ = some (.int .i64 a.e)) ∧
     (w'.cell? ⟨w.heap.size + 1, 0, none⟩ = some (.bool b.g) ∧ w'.cell? ⟨w.heap.size + 1, 1, none⟩ = some (.slice b.p b.xs.length b.c) ∧ w'.cell? ⟨w.heap.size + 1, 2, none⟩ = some (.int .i64 b.e)))
  (first | exact ⟨⟨A1.c0, A1.c1, A1.c2⟩, B1.c0, B1.c1, B1.c2⟩
         | (have D1 := A1.drew; have D2 := B1.drew; exact ⟨⟨D1.c0, D1.c1, D1.c2⟩, D2.c0, D2.c1, D2.c2⟩)
         | (have D1 := (A1.drew.past hbx).past hby; have D2 := (B1.drew.past hbx).past hby; exact ⟨⟨D1.c0, D1.c1, D1.c2⟩, D2.c0, D2.c1, D2.c2⟩)
         | (have D1 := (A1.drew.past hby).past hbx; have D2 := (B1.drew.past hby).past hbx; exact ⟨⟨D1.c0, D1.c1, D1.c2⟩, D2.c0, D2.c1, D2.c2⟩)
         | (have D1 := A1.drew.past hbx; have D2 := B1.drew.past hbx; exact ⟨⟨D1.c0, D1.c1, D1.c2⟩, D2.c0, D2.c1, D2.c2⟩)
         | (have D1 := A1.drew.past hby; have D2 := B1.drew.past hby; exact ⟨⟨D1.c0, D1.c1, D1.c2⟩, D2.c0, D2.c1, D2.c2⟩)
         | exact ⟨⟨A5.c0, A5.c1, A5.c2⟩, B5.c0, B5.c1, B5.c2⟩
         | exact ⟨⟨A6.c0, A6.c1, A6.c2⟩, B6.c0, B6.c1, B6.c2⟩
         | exact ⟨⟨(((A6.set (by omega)).set (by omega)).set (by omega)).c0, (((A6.set (by omega)).set (by omega)).set (by omega)).c1, (((A6.set (by omega)).set (by omega)).set (by omega)).c2⟩, (((B6.set (by omega)).set (by omega)).set (by omega)).c0, (((B6.set (by omega)).set (by omega)).set (by omega)).c1, (((B6.set (by omega)).set (by omega)).set (by omega)).c2⟩)
  (first
    | (go_at_call_of 22 (Value.agg #[.bool a.g, .slice a.p a.xs.length a.c, .int .i64 a.e]); refine (j0j a.g a.p _ a.c a.e ma _ ?_ (by rw [HXA.out]) hca (by omega) (by omega) ?_).mono ?_; (first | exact ra1.drew | exact ra1.drew.past hby); (first | exact hT1.drew | exact hT1.drew.past hby); rw [HVA.out]; rintro ex wx ⟨px, cx, rfl, hox, hbx⟩)
    | (go_at_call_of 22 (Value.agg #[.bool b.g, .slice b.p b.xs.length b.c, .int .i64 b.e]); refine (j0j b.g b.p _ b.c b.e mb _ ?_ (by rw [HXB.out]) hcb (by omega) (by omega) ?_).mono ?_; (first | exact rb1.drew | exact rb1.drew.past hbx); (first | exact hT1.drew | exact hT1.drew.past hbx); rw [HVB.out]; rintro ey wy ⟨py, cy, rfl, hoy, hby⟩)
    | (go_at_call 20; (have hzx := hbx.size); (have hzy := hby.size); ((refine (u0i ga gb px py _ cx _ cy w2.drew.heap.size fa fb na nb _ ?_ ?_ rfl rfl (by omega) (by omega) (by omega) (by omega) ?_ (by omega)).mono ?_; (first | exact hox.past hby | exact hox.mono hby.size); (first | exact hoy.mono hbx.size | exact hoy.past hbx); (first | exact (hT1.drew.past hbx).past hby | exact (hT1.drew.past hby).past hbx)); rw [HR.out]; rintro e5 w5 ⟨p5, c5, rfl, ho5, hb5⟩); (first
        | (have hs5 := ((hs2.drew.trans (hbx.mono hs2.size)).trans (hby.mono (Nat.le_trans hs2.size hbx.size))).trans (hb5.mono (Nat.le_trans (Nat.le_trans hs2.size hbx.size) hby.size)); have A5 := ((A1.drew.past hbx).past hby).past hb5; have B5 := ((B1.drew.past hbx).past hby).past hb5; have R5 := ((R1.drew.past hbx).past hby).past hb5)
        | (have hs5 := ((hs2.drew.trans (hby.mono hs2.size)).trans (hbx.mono (Nat.le_trans hs2.size hby.size))).trans (hb5.mono (Nat.le_trans (Nat.le_trans hs2.size hby.size) hbx.size)); have A5 := ((A1.drew.past hby).past hbx).past hb5; have B5 := ((B1.drew.past hby).past hbx).past hb5; have R5 := ((R1.drew.past hby).past hbx).past hb5)))
    | (go_at_call 24; refine (g0u gr p5 _ c5 _ fr nr _ ho5 rfl (by omega)).mono ?_; rintro e6 w6 ⟨p6, c6, rfl, ho6, hb6⟩; (have A6 := A5.past hb6); (have B6 := B5.past hb6); (have R6 := R5.past hb6); (have hs6 := hs5.trans (hb6.mono hs5.size)); obtain ⟨d0, d1, d2, f0, f1, f2, dlt⟩ := R6))
 all_goals (go_wp2_with fail)
 all_goals (refine bodyPost_ret (v := .tuple #[.agg #[.bool (c0k ⟨gr, nr, fr⟩).neg, .slice p6 (dig B32 (c0k ⟨gr, nr, fr⟩).m).length c6, .int .i64 (c0k ⟨gr, nr, fr⟩).e], .int .i64 (errD ⟨gr, nr, fr⟩)]) (by simp [results, Tryd.results19, go_sem, d0, d1, d2]) rfl ?_)
 all_goals (have hzR := R1.lt; have hzd : w2.drew.heap.size = w2.heap.size := rfl; have hzs := hs2.size)
 all_goals (exact d0a hs6 ho6 (by omega) (by omega) (fun h => by have := (ho6.blk_lt h).1; omega))
theorem o0d (a b : Din) (w : World) (ha : InD w a) (hb : InD w b) (hT : TabW w) :
 Calls Tryd.prog 8 #[.agg #[.bool a.g, .slice a.p a.xs.length a.c, .int .i64 a.e], .agg #[.bool b.g, .slice b.p b.xs.length b.c, .int .i64 b.e]] w (c0b w w.heap.size (e0q a b (c0x (dyV a) (dyV b))) (j0n a b (c0x (dyV a) (dyV b)))) := by
 obtain ⟨W1, hW1, hs1, A1, B1, R1, hz1⟩ := a1c w (.bool a.g) (.slice a.p a.xs.length a.c) (.int .i64 a.e) (.bool b.g) (.slice b.p b.xs.length b.c) (.int .i64 b.e) (.bool false) (.slice none 0 0) (.int .i64 0) 25 25 25
 have HC : Calls Tryd.prog 19 #[.agg #[.bool a.g, .slice a.p a.xs.length a.c, .int .i64 a.e], .agg #[.bool b.g, .slice b.p b.xs.length b.c, .int .i64 b.e], .func (.func 20) #[] #[]] W1 (c0b W1 W1.heap.size (e0q a b (c0x (dyV a) (dyV b))) (j0n a b (c0x (dyV a) (dyV b)))) := by
  unfold e0q j0n
  by_cases he : b0t a b = 0
  · rw [if_pos he, if_pos he]
    exact o0c a b W1 (ha.past hs1) (hb.past hs1) he (hT.past hs1)
  · rw [if_neg he, if_neg he]
    exact s0b _ a b W1 (ha.past hs1).rd ha.len (hb.past hs1).rd hb.len he
 have HCC := lHd HC
 have HW1 := lHd hW1
 generalize e0q a b (c0x (dyV a) (dyV b)) = dv at *
 generalize j0n a b (c0x (dyV a) (dyV b)) = er at *
 clear hW1 HC
 go_enter Tryd.func8, Tryd.ntmps8
 go_wp2_with fail
 rw [← HW1.out]
 ((with_reducible refine HCC.out.mono ?_))
 rintro e2 w2 ⟨p2, c2, rfl, ho2, hb2⟩
 obtain ⟨d0, d1, d2, f0, f1, f2, dlt⟩ := R1.past hb2
 go_wp2_with fail
 refine bodyPost_ret (v := .tuple #[.agg #[.bool dv.neg, .slice p2 (dig B32 dv.m).length c2, .int .i64 dv.e], .int .i64 er]) (by simp [results, Tryd.results8, go_sem, d0, d1, d2]) rfl ?_
 have hzR := R1.lt
 exact d0a (hs1.trans (hb2.mono hs1.size)) ho2 (by omega) (by omega) (fun h => by have := (ho2.blk_lt h).1; omega)
end Go.Proofs.YthcoapcffhgckaaDoor
