/- What the calls of RestNats answer, in the form that sx.py's rows want. -/
import Derived.Test.YtlegnbigddhmlaaZX
import Derived.Test.YtlegnbigddhmlaaZChs
import Derived.Test.YtlegnbigddhmlaaZNat10
import Derived.Test.YtlegnbigddhmlaaZNat8
import Derived.Test.YtlegnbigddhmlaaZNat6
import Derived.Test.YtlegnbigddhmlaaZNat4
import Derived.Test.YtlegnbigddhmlaaZRef10
import Derived.Test.YtlegnbigddhmlaaZRef6
import Derived.Test.YtlegnbigddhmlaaZRef3
import Derived.Test.YtlegnbigddhmlaaZRef2
namespace Go.Slip
open Go.RowKit

theorem rd_two {w : World} {b : Nat} {t : TypeId} {k : IntKind} {x y : Nat} (h : Bt w b t #[.int k (x : Int), .int k (y : Int)]) : Rd w k (some ⟨b, 0, none⟩) [x, y] := by
  refine ⟨fun _ => ⟨rfl, rfl⟩, fun j hj => ?_⟩
  have hj2 : j < 2 := hj
  have h0 := h.bx.c 0 rfl
  have h1 := h.bx.c 1 rfl
  rcases j with _ | _ | j
  · exact h0
  · exact h1
  · omega

theorem dg_snoc0 (xs : List Nat) (x y : Nat) : ((dg (xs ++ [x, y]) xs.length : Nat) : Int) = x := by
  unfold dg; simp
theorem dg_snoc1 (xs : List Nat) (x y : Nat) : ((dg (xs ++ [x, y]) (xs.length + 1) : Nat) : Int) = y := by
  unfold dg; rw [List.getElem?_append_right (by omega)]; simp

/-- A quotient, its rest, its errno, as nat.Div tells them of numbers in bounds. -/
def dQ (a b : Nat) : List Nat := if b = 0 then [] else dig B32 (a / b)
def dR (a b : Nat) : List Nat := if b = 0 then [] else dig B32 (a % b)
def dE (b : Nat) : Int := if b = 0 then 3 else 0
theorem dE_ok {b : Nat} (h : (dE b == 0) = true) : 0 < b := by
  unfold dE at h
  split at h
  · simp at h
  · omega
theorem dQ_ok {a b : Nat} (h : 0 < b) : dQ a b = dig B32 (a / b) := by unfold dQ; rw [if_neg (by omega)]
theorem dR_ok {a b : Nat} (h : 0 < b) : dR a b = dig B32 (a % b) := by unfold dR; rw [if_neg (by omega)]
theorem dQ_len {a b : Nat} (h : (dig B32 a).length ≤ 1200) : (dQ a b).length ≤ 1200 := by
  unfold dQ
  split
  · simp
  · exact Nat.le_trans (dig_len_mono B32_two (Nat.div_le_self _ _)) h
theorem dR_len {a b : Nat} (h : (dig B32 a).length ≤ 1200) : (dR a b).length ≤ 1200 := by
  unfold dR
  split
  · simp
  · exact Nat.le_trans (dig_len_mono B32_two (Nat.mod_le _ _)) h
theorem root_small {r k a : Nat} (hk : 1 ≤ k) (h : r ^ k ≤ a) : r ≤ a := by
  rcases Nat.eq_zero_or_pos r with rfl | h0
  · omega
  · have h1 : r ^ 1 ≤ r ^ k := Nat.pow_le_pow_right h0 hk
    rw [Nat.pow_one] at h1
    omega

end Go.Slip
namespace Go.Proofs.Ytlegnbigddhmlaa
open Go.RowKit Go.Slip

section
variable (p q : Option Addr) (n c m d : Nat) (w : World)

theorem choose_b (i : Int) (N : Nat) (h : chs i 100 = N) (hi : -9223372036854775808 ≤ i ∧ i ≤ 9223372036854775807) :
    Calls Try.prog 6 #[.int .i64 i, .int .i64 100] w fun e w' => e = .returned (.int .i64 ((N : Nat) : Int)) ∧ Below w.heap.size w w' := by
  subst h
  exact (choose_any i 100 w hi (by omega) (by omega)).mono fun e w' ⟨h1, h2⟩ => ⟨h1, h2 ▸ Below.refl _ _⟩

theorem twoNats_b (xs ys : List Nat) (hp : Rd w .u32 p xs) (hq : Rd w .u32 q ys) (hn : n = xs.length) (hm : m = ys.length) (hl : xs.length ≤ 9223372036854775807) (hl2 : ys.length ≤ 9223372036854775807) (r : Int) (hr : err2 xs ys = r) :
    Calls Try.prog 13 #[.slice p n c, .slice q m d] w fun e w' => e = .returned (.int .i64 r) ∧ Below w.heap.size w w' := by
  subst hr
  exact (refTwoNats_any p q n c m d xs ys w hp hq hn hm hl hl2).mono fun e w' ⟨h1, h2⟩ => ⟨h1, h2 ▸ Below.refl _ _⟩

section
variable (a b : Nat) (hp : Rd w .u32 p (dig B32 a)) (hq : Rd w .u32 q (dig B32 b)) (hn : n = (dig B32 a).length) (hm : m = (dig B32 b).length) (hl : (dig B32 a).length ≤ 1200) (hl2 : (dig B32 b).length ≤ 1200)
include hp hn hl

theorem rOf_g : Calls Try.prog 16 #[.slice p n c] w (GivesR w .i64 (dig B16 a)) := by
  have h := refOf_any p n c (dig B32 a) w hp hn (dig_lt B32_two a) (by omega)
  rw [val_dig B32_two] at h
  exact h

theorem chk_g : Calls Try.prog 20 #[.slice p n c] w fun e w' => e = .returned (.int .i64 0) ∧ Below w.heap.size w w' := by
  have h := natCheck1_any p n c (dig B32 a) w hp hn (by omega)
  rw [errNat_dig hl] at h
  exact h

include hq hm hl2
theorem add_g : Calls Try.prog 7 #[.slice p n c, .slice q m d] w (GivesE w (natL 0 (a + b)) (natE 0 (a + b))) := by
  have h := natAdd_any p q n c m d _ _ w hp hq hn hm (by omega) (by omega) (dig_lt B32_two a) (dig_lt B32_two b)
  rw [err2_good (errNat_dig hl) (errNat_dig hl2), val_dig B32_two, val_dig B32_two] at h
  exact h
theorem mul_g : Calls Try.prog 8 #[.slice p n c, .slice q m d] w (GivesE w (natL 0 (a * b)) (natE 0 (a * b))) := by
  have h := natMul_any p q n c m d _ _ w hp hq hn hm (by omega) (by omega) (dig_lt B32_two a) (dig_lt B32_two b)
  rw [err2_good (errNat_dig hl) (errNat_dig hl2), val_dig B32_two, val_dig B32_two] at h
  exact h
theorem div_g : Calls Try.prog 9 #[.slice p n c, .slice q m d] w (GivesE2 w (dQ a b) (dR a b) (dE b)) := by
  rcases Nat.eq_zero_or_pos b with rfl | h0
  · have h := natDiv_range p q n c m d (dig B32 a) w hp hn (by rw [hm, dig_zero]; rfl) (by omega) (errNat_dig hl)
    exact h
  · rw [dQ_ok h0, dR_ok h0, show dE b = 0 by unfold dE; rw [if_neg (by omega)]]
    exact natDiv_good p q n c m d a b w hp hq hn hm hl hl2 h0
end
end

/-- A list of the reference's; two. -/
def GRr (w : World) (xs : List Nat) (en : Ending) (w' : World) : Prop :=
  ∃ p c, en = .returned (.slice p xs.length c) ∧ Rf w' w.heap.size p c xs ∧ Below w.heap.size w w'
theorem GivesR.grr {w w' : World} {xs : List Nat} {en : Ending} (h : GivesR w .i64 xs en w') : GRr w xs en w' := by
  obtain ⟨p, c, h1, h2, h3, h4, h5⟩ := h
  exact ⟨p, c, h1, rf_ofR h2 h3 h4, h5⟩
def GRr2 (w : World) (xs ys : List Nat) (en : Ending) (w' : World) : Prop :=
  ∃ p c q d, en = .returned (.tuple #[.slice p xs.length c, .slice q ys.length d]) ∧ Rf w' w.heap.size p c xs ∧ Rf w' w.heap.size q d ys ∧ Below w.heap.size w w'
theorem GivesR2.grr {w w' : World} {xs ys : List Nat} {en : Ending} (h : GivesR2 w .i64 xs ys en w') : GRr2 w xs ys en w' := by
  obtain ⟨p, c, q, d, h1, h2, h3, h4, h5, h6, h7, h8⟩ := h
  exact ⟨p, c, q, d, h1, rf_ofR h2 h3 h4, rf_ofR h5 h6 h7, h8⟩

/-! ### What need not be known of an answer -/
def GivesA (w : World) (en : Ending) (w' : World) : Prop :=
  ∃ xs : List Nat, ∃ er p c, en = .returned (.tuple #[.slice p xs.length c, .int .i64 er]) ∧ Own w' w.heap.size .u32 26 p c xs ∧ Below w.heap.size w w' ∧ xs.length ≤ 1200
theorem givesA_of {w w' : World} {xs : List Nat} {er : Int} {en : Ending} (h : GivesE w xs er en w') (hl : xs.length ≤ 1200) : GivesA w en w' := by
  obtain ⟨p, c, h1, h2, h3⟩ := h
  exact ⟨xs, er, p, c, h1, h2, h3, hl⟩

section
variable (p q : Option Addr) (n c m d : Nat) (xs ys : List Nat) (w : World) (hp : Rd w .u32 p xs) (hq : Rd w .u32 q ys) (hn : n = xs.length) (hm : m = ys.length) (hl : xs.length ≤ 9223372036854775807) (hl2 : ys.length ≤ 9223372036854775807)
  (hx : ∀ x ∈ xs, x < B32) (hy : ∀ x ∈ ys, x < B32)
include hp hn hl hx

theorem shift_a (N : Nat) (hN : N < 100) : Calls Try.prog 10 #[.slice p n c, .int .i64 N] w (GivesA w) := by
  by_cases he : errNat xs = 0
  · obtain ⟨ex, lx⟩ := errNat_ok hx he
    rw [ex] at hp hn lx
    exact (natShift_up p n c _ N w hp hn lx (by omega)).mono fun e w' h => givesA_of h natL_len
  · exact (natShift_err p n c xs N w hp hn hl he).mono fun e w' h => givesA_of h (by simp)

theorem root_a (k : Nat) (hk : 1 ≤ k) (hk2 : k ≤ 10) : Calls Try.prog 11 #[.slice p n c, .int .i64 k] w (GivesA w) := by
  by_cases he : errNat xs = 0
  · obtain ⟨ex, lx⟩ := errNat_ok hx he
    rw [ex] at hp hn lx
    refine (natRoot_good p n c _ k w hp hn lx hk hk2).mono ?_
    rintro e w' ⟨r, h1, h2, p', c', h3, h4, h5⟩
    exact ⟨_, 0, p', c', h3, h4, h5, Nat.le_trans (dig_len_mono B32_two (root_small hk h1)) lx⟩
  · exact (natRoot_err p n c xs k w hp hn hl he).mono fun e w' h => givesA_of h (by simp)

include hq hm hl2 hy
theorem add_a : Calls Try.prog 7 #[.slice p n c, .slice q m d] w (GivesA w) :=
  (natAdd_any p q n c m d xs ys w hp hq hn hm hl hl2 hx hy).mono fun e w' h => givesA_of h natL_len
theorem mul_a : Calls Try.prog 8 #[.slice p n c, .slice q m d] w (GivesA w) :=
  (natMul_any p q n c m d xs ys w hp hq hn hm hl hl2 hx hy).mono fun e w' h => givesA_of h natL_len
end

end Go.Proofs.Ytlegnbigddhmlaa
