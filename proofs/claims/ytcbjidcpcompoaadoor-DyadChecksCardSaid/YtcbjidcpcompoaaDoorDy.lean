/- Numbers with a point: what each call on them comes to, as plain arithmetic. No program is in sight here. -/
import Derived.Test.YtcbjidcpcompoaaDoorNum9
namespace Go.Slip

/-- A number: its sign, its digits, its exponent. -/
structure Dv where
  neg : Bool
  m : Nat
  e : Int

@[ext] theorem Dv.ext' {a b : Dv} (h1 : a.neg = b.neg) (h2 : a.m = b.m) (h3 : a.e = b.e) : a = b := by cases a; cases b; simp_all

/-- How many bits 0 there are behind; of 0: 0. -/
def tz (m : Nat) : Nat := if _h : m = 0 then 0 else if m % 2 = 1 then 0 else tz (m / 2) + 1
termination_by m
decreasing_by omega

theorem tz_zero : tz 0 = 0 := by rw [tz]; simp
theorem tz_odd {m : Nat} (h : m % 2 = 1) : tz m = 0 := by rw [tz]; split; rfl; rfl
theorem tz_even {m : Nat} (h0 : 0 < m) (h : m % 2 = 0) : tz m = tz (m / 2) + 1 := by
  rw [tz, dif_neg (by omega), if_neg (by omega)]

theorem tz_spec (m : Nat) (h : 0 < m) : 2 ^ tz m * (m / 2 ^ tz m) = m ∧ (m / 2 ^ tz m) % 2 = 1 := by
  induction m using Nat.strongRecOn with
  | _ m ih =>
    by_cases h1 : m % 2 = 1
    · rw [tz_odd h1]; simp [h1]
    · have h2 : m % 2 = 0 := by omega
      obtain ⟨i1, i2⟩ := ih (m / 2) (by omega) (by omega)
      rw [tz_even h h2]
      have e : m / 2 ^ (tz (m / 2) + 1) = m / 2 / 2 ^ tz (m / 2) := by rw [Nat.pow_succ, Nat.mul_comm, Nat.div_div_eq_div_mul]
      rw [e]
      refine ⟨?_, i2⟩
      rw [Nat.pow_succ]
      have : m = 2 * (m / 2) := by omega
      rw [Nat.mul_comm (2 ^ _) 2, Nat.mul_assoc, i1]; omega

theorem tz_mul (m k : Nat) (h : m % 2 = 1) : tz (m * 2 ^ k) = k := by
  induction k with
  | zero => simp [tz_odd h]
  | succ k ih =>
    have h0 : 0 < m * 2 ^ k := Nat.mul_pos (by omega) (Nat.pow_pos (by omega))
    have e : m * 2 ^ (k + 1) = 2 * (m * 2 ^ k) := by rw [Nat.pow_succ]; grind
    rw [e, tz_even (by omega) (by omega), Nat.mul_div_cancel_left _ (by omega), ih]

theorem tz_unique {m k u : Nat} (h : m = u * 2 ^ k) (hu : u % 2 = 1) : tz m = k ∧ m / 2 ^ k = u := by
  subst h
  exact ⟨tz_mul u k hu, Nat.mul_div_cancel _ (Nat.pow_pos (by omega))⟩

/-- Without noughts behind. -/
def bare (d : Dv) : Dv := if d.m = 0 then ⟨false, 0, 0⟩ else ⟨d.neg, d.m / 2 ^ tz d.m, d.e + tz d.m⟩

def Bare (d : Dv) : Prop := d.m % 2 = 1 ∨ d = ⟨false, 0, 0⟩

theorem bare_bare (d : Dv) : Bare (bare d) := by
  unfold bare Bare
  by_cases h : d.m = 0
  · rw [if_pos h]; exact .inr rfl
  · rw [if_neg h]; exact .inl (tz_spec d.m (by omega)).2

theorem bare_of {d : Dv} (h : Bare d) : bare d = d := by
  unfold bare
  rcases h with h | rfl
  · rw [if_neg (by omega), tz_odd h]; cases d; simp
  · rfl

theorem bare_zero (g : Bool) (e : Int) : bare ⟨g, 0, e⟩ = ⟨false, 0, 0⟩ := rfl

theorem Bare.zero {d : Dv} (h : Bare d) (h0 : d.m = 0) : d = ⟨false, 0, 0⟩ := by
  rcases h with h | h
  · omega
  · exact h

/-- A power of 2 more in the digits, and less in the exponent: the same. -/
theorem bare_shift (g : Bool) (m k : Nat) (e : Int) : bare ⟨g, m * 2 ^ k, e⟩ = bare ⟨g, m, e + k⟩ := by
  unfold bare
  by_cases h : m = 0
  · subst h; simp
  · have hm : 0 < m := by omega
    have hp : 0 < 2 ^ k := Nat.pow_pos (by omega)
    have hne : m * 2 ^ k ≠ 0 := by have := Nat.mul_pos hm hp; omega
    obtain ⟨s1, s2⟩ := tz_spec m hm
    have e1 : m * 2 ^ k = (m / 2 ^ tz m) * 2 ^ (tz m + k) := by
      conv => lhs; rw [← s1]
      rw [Nat.pow_add]; grind
    obtain ⟨t1, t2⟩ := tz_unique e1 s2
    simp only [if_neg hne, if_neg h, t1, t2]
    ext <;> simp
    omega

/-- The sign as a factor. -/
def sg (g : Bool) (m : Nat) : Int := if g then -(m : Int) else m

/-- Both together, at one exponent. -/
def joinD (g h : Bool) (x y : Nat) (e : Int) : Dv :=
  if g = h then ⟨g, x + y, e⟩ else if y ≤ x then ⟨g, x - y, e⟩ else ⟨h, y - x, e⟩

def ofZ (s : Int) (e : Int) : Dv := ⟨decide (s < 0), s.natAbs, e⟩

theorem bare_join (g h : Bool) (x y : Nat) (e : Int) : bare (joinD g h x y e) = bare (ofZ (sg g x + sg h y) e) := by
  have key : ∀ (b : Bool) (m : Nat) (s : Int), s.natAbs = m → (m ≠ 0 → decide (s < 0) = b) → bare ⟨b, m, e⟩ = bare (ofZ s e) := by
    intro b m s h1 h2
    subst h1
    unfold ofZ bare
    by_cases h0 : s.natAbs = 0
    · simp [h0]
    · have := h2 h0
      simp only [if_neg h0, this]
  unfold joinD
  by_cases h1 : g = h
  · subst h1
    rw [if_pos rfl]
    refine key _ _ _ ?_ ?_
    · cases g <;> simp [sg] <;> omega
    · intro h0
      cases g <;> simp [sg] <;> omega
  · rw [if_neg h1]
    by_cases h2 : y ≤ x
    · rw [if_pos h2]
      refine key _ _ _ ?_ ?_
      · cases g <;> cases h <;> simp [sg] at * <;> omega
      · intro h0
        cases g <;> cases h <;> simp [sg] at * <;> omega
    · rw [if_neg h2]
      refine key _ _ _ ?_ ?_
      · cases g <;> cases h <;> simp [sg] at * <;> omega
      · intro h0
        cases g <;> cases h <;> simp [sg] at * <;> omega

/-- The references' sum. -/
def plusE (a b : Dv) : Int := if b.m = 0 then a.e else if a.m = 0 then b.e else min a.e b.e

def rPlus (a b : Dv) : Dv := bare (joinD a.neg b.neg (a.m * 2 ^ (a.e - plusE a b).toNat) (b.m * 2 ^ (b.e - plusE a b).toNat) (plusE a b))

/-- The program's. -/
def pPlus (a b : Dv) : Dv := if a.m = 0 then b else if b.m = 0 then a else
  bare (joinD a.neg b.neg (a.m * 2 ^ (a.e - min a.e b.e).toNat) (b.m * 2 ^ (b.e - min a.e b.e).toNat) (min a.e b.e))

theorem pPlus_eq {a b : Dv} (ha : Bare a) (hb : Bare b) : pPlus a b = rPlus a b := by
  unfold pPlus rPlus plusE
  by_cases h1 : a.m = 0
  · have := ha.zero h1
    subst this
    rw [if_pos rfl]
    by_cases h2 : b.m = 0
    · have := hb.zero h2
      subst this
      rfl
    · simp only [if_neg h2, if_true]
      rw [bare_join]
      conv => lhs; rw [← bare_of hb]
      have e1 : sg false (0 * 2 ^ ((0 : Int) - b.e).toNat) = 0 := by simp [sg]
      have e2 : (b.e - b.e).toNat = 0 := by omega
      rw [e1, e2, Nat.pow_zero, Nat.mul_one, Int.zero_add]
      unfold bare ofZ sg
      cases b with
      | mk g m e =>
        simp only at *
        cases g <;> simp [h2] <;> omega
  · rw [if_neg h1]
    by_cases h2 : b.m = 0
    · have := hb.zero h2
      subst this
      simp only [if_true]
      rw [bare_join]
      conv => lhs; rw [← bare_of ha]
      have e1 : sg false (0 * 2 ^ ((0 : Int) - a.e).toNat) = 0 := by simp [sg]
      have e2 : (a.e - a.e).toNat = 0 := by omega
      rw [e1, e2, Nat.pow_zero, Nat.mul_one, Int.add_zero]
      unfold bare ofZ sg
      cases a with
      | mk g m e =>
        simp only at *
        cases g <;> simp [h1] <;> omega
    · simp only [if_neg h2, if_neg h1]

theorem rPlus_bare (a b : Dv) : Bare (rPlus a b) := bare_bare _

def dTimes (a b : Dv) : Dv := bare ⟨xor a.neg b.neg, a.m * b.m, a.e + b.e⟩
theorem dTimes_bare (a b : Dv) : Bare (dTimes a b) := bare_bare _

def dMinus (a : Dv) : Dv := ⟨!a.neg && decide (0 < a.m), a.m, a.e⟩

theorem dMinus_bare {a : Dv} (h : Bare a) : Bare (dMinus a) := by
  rcases h with h | rfl
  · exact .inl h
  · exact .inr rfl

def dSign (a : Dv) : Int := if a.m = 0 then 0 else if a.neg then -1 else 1

/-- The references' comparison: by the sign of a difference. -/
def rCmp (a b : Dv) : Int := dSign (rPlus a (dMinus b))

/-- The value over a power of 2 that both have. -/
def zOf (a : Dv) (e : Int) : Int := sg a.neg (a.m * 2 ^ (a.e - e).toNat)

theorem sg_mul (g : Bool) (m k : Nat) : sg g (m * k) = sg g m * k := by unfold sg; cases g <;> simp [Int.neg_mul]

theorem dSign_bare (s : Int) (e : Int) : dSign (bare (ofZ s e)) = Int.sign s := by
  unfold bare ofZ dSign
  by_cases h : s = 0
  · subst h; rfl
  · have h0 : s.natAbs ≠ 0 := by omega
    simp only [if_neg h0]
    have h1 := (tz_spec s.natAbs (by omega)).2
    rw [if_neg (by omega)]
    by_cases h2 : s < 0
    · simp [h2, Int.sign_eq_neg_one_of_neg h2]
    · simp [h2, Int.sign_eq_one_of_pos (show 0 < s by omega)]

theorem lt_of_blen {x y : Nat} (h : blen x < blen y) : x < y := by
  rcases Nat.lt_or_ge x y with h1 | h1
  · exact h1
  · have := dig_len_mono (B := 2) (by omega) h1
    unfold blen at h; omega

theorem cmpN_sign (x y : Nat) : cmpN x y = Int.sign ((x : Int) - y) := by
  unfold cmpN
  by_cases h1 : x < y
  · rw [if_pos h1, Int.sign_eq_neg_one_of_neg (by omega)]
  · rw [if_neg h1]
    by_cases h2 : y < x
    · rw [if_pos h2, Int.sign_eq_one_of_pos (by omega)]
    · rw [if_neg h2, show (x : Int) - y = 0 by omega]; rfl

/-- -1, 0 or 1. -/
def clip (n : Int) : Int := max (-1) (min 1 n)

/-- Where the uppermost bit is. -/
def topD (a : Dv) : Int := a.e + blen a.m

/-- The program's comparison. -/
def pCmp (a b : Dv) : Int :=
  if dSign a ≠ dSign b ∨ dSign a = 0 then clip (dSign a - dSign b)
  else (if topD a ≠ topD b then clip (topD a - topD b) else cmpN (a.m * 2 ^ (a.e - min a.e b.e).toNat) (b.m * 2 ^ (b.e - min a.e b.e).toNat)) * dSign a

theorem dSign_minus (a : Dv) : dSign (dMinus a) = - dSign a := by
  unfold dSign dMinus
  by_cases h : a.m = 0
  · simp [h]
  · have : 0 < a.m := by omega
    cases hn : a.neg <;> simp [h, this]

theorem rCmp_eq {a b : Dv} (ha : Bare a) (hb : Bare b) : pCmp a b = rCmp a b := by
  unfold rCmp
  rw [← pPlus_eq ha (dMinus_bare hb)]
  have hm : (dMinus b).m = b.m := rfl
  have he : (dMinus b).e = b.e := rfl
  unfold pCmp pPlus
  rw [hm, he]
  by_cases h1 : a.m = 0
  · have s1 : dSign a = 0 := by unfold dSign; rw [if_pos h1]
    rw [if_pos (.inr s1), if_pos h1, dSign_minus, s1]
    unfold clip dSign
    split
    · rfl
    · split <;> decide
  · rw [if_neg h1]
    by_cases h2 : b.m = 0
    · have s2 : dSign b = 0 := by unfold dSign; rw [if_pos h2]
      have s1 : dSign a ≠ 0 := by unfold dSign; rw [if_neg h1]; split <;> decide
      rw [if_pos (.inl (by rw [s2]; exact s1)), if_pos h2, s2]
      unfold clip dSign
      rw [if_neg h1]
      split <;> decide
    · rw [if_neg h2, bare_join, dSign_bare]
      have hb2 : (dMinus b).neg = !b.neg := by unfold dMinus; simp; omega
      rw [hb2]
      have pa : 0 < a.m := by omega
      have pb : 0 < b.m := by omega
      generalize hx : a.m * 2 ^ (a.e - min a.e b.e).toNat = x
      generalize hy : b.m * 2 ^ (b.e - min a.e b.e).toNat = y
      have px : 0 < x := by rw [← hx]; exact Nat.mul_pos pa (Nat.pow_pos (by omega))
      have py : 0 < y := by rw [← hy]; exact Nat.mul_pos pb (Nat.pow_pos (by omega))
      have lx : blen x = blen a.m + (a.e - min a.e b.e).toNat := by rw [← hx]; exact blen_shift pa _
      have ly : blen y = blen b.m + (b.e - min a.e b.e).toNat := by rw [← hy]; exact blen_shift pb _
      have sa : dSign a = if a.neg then -1 else 1 := by unfold dSign; rw [if_neg h1]
      have sb : dSign b = if b.neg then -1 else 1 := by unfold dSign; rw [if_neg h2]
      rw [sa, sb]
      have hc : (if topD a ≠ topD b then clip (topD a - topD b) else cmpN x y) = Int.sign ((x : Int) - y) := by
        by_cases ht : topD a = topD b
        · rw [if_neg (by simpa using ht), cmpN_sign]
        · rw [if_pos ht]
          unfold topD clip at *
          by_cases hlt : blen x < blen y
          · have := lt_of_blen hlt
            rw [Int.sign_eq_neg_one_of_neg (by omega)]; omega
          · by_cases hgt : blen y < blen x
            · have := lt_of_blen hgt
              rw [Int.sign_eq_one_of_pos (by omega)]; omega
            · omega
      rw [hc]
      cases ga : a.neg <;> cases gb : b.neg <;> simp [sg]
      · rw [← Int.sub_eq_add_neg]
      · rw [show (x : Int) + y = ((x + y : Nat) : Int) by simp, Int.sign_eq_one_of_pos (by omega)]; decide
      · rw [show -(x : Int) + -(y : Int) = -((x + y : Nat) : Int) by simp; omega, Int.sign_eq_neg_one_of_neg (by omega)]; decide
      · rw [← Int.sign_neg]; congr 1; omega

/-! ### cut, floor -/
def rCut (a : Dv) (bits : Nat) (up : Bool) : Dv :=
  if blen a.m ≤ bits then a
  else bare ⟨a.neg, a.m / 2 ^ (blen a.m - bits) + (if a.m % 2 ^ (blen a.m - bits) ≠ 0 ∧ up ≠ a.neg then 1 else 0), a.e + ((blen a.m - bits : Nat) : Int)⟩

def pCut (a : Dv) (bits : Nat) (up : Bool) : Dv :=
  if blen a.m ≤ bits then a
  else bare ⟨a.neg, a.m / 2 ^ (blen a.m - bits) + (if up ≠ a.neg then 1 else 0), a.e + ((blen a.m - bits : Nat) : Int)⟩

theorem odd_mod {m n : Nat} (h : m % 2 = 1) (hn : 0 < n) : m % 2 ^ n ≠ 0 := by
  intro h0
  obtain ⟨k, rfl⟩ : ∃ k, n = k + 1 := ⟨n - 1, by omega⟩
  have h1 := Nat.dvd_of_mod_eq_zero h0
  have h2 : 2 ∣ m := Nat.dvd_trans ⟨2 ^ k, by rw [Nat.pow_succ]; omega⟩ h1
  omega

theorem pCut_eq {a : Dv} (ha : Bare a) (bits : Nat) (up : Bool) : pCut a bits up = rCut a bits up := by
  unfold pCut rCut
  by_cases h : blen a.m ≤ bits
  · rw [if_pos h, if_pos h]
  · rw [if_neg h, if_neg h]
    have h1 : a.m % 2 = 1 := by
      rcases ha with h1 | rfl
      · exact h1
      · rw [blen_zero] at h; omega
    have h2 := odd_mod (n := blen a.m - bits) h1 (by omega)
    simp [h2]

theorem rCut_bare {a : Dv} (ha : Bare a) (bits : Nat) (up : Bool) : Bare (rCut a bits up) := by
  unfold rCut
  split
  · exact ha
  · exact bare_bare _

def dFloor (a : Dv) : Nat := if 0 ≤ a.e then a.m * 2 ^ a.e.toNat else a.m / 2 ^ (-a.e).toNat

/-- What is wrong with an answer. -/
def errD (a : Dv) : Int := if 1200 < (dig B32 a.m).length then 2 else if a.e < -20000 ∨ 20000 < a.e then 3 else 0

def zeroD : Dv := ⟨false, 0, 0⟩
/-- What is told. -/
def doneD (a : Dv) : Dv := if errD a = 0 then a else zeroD

end Go.Slip
