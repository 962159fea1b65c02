/- What the references call, said of whole numbers over one power of 2.
   The references' series: ZPlus, atanOf, PiOf, Ln2Of; the laws' sumOf. -/
import Derived.Test.YtehodhanojgkgaaDoorZA
import Derived.Test.YtehodhanojgkgaaDoorZX
import Derived.Test.YtehodhanojgkgaaDoorZRBa2
import Derived.Test.YtehodhanojgkgaaDoorZRDy5
import Derived.Test.YtehodhanojgkgaaDoorZRDy7
import Derived.Test.YtehodhanojgkgaaDoorZR
import Derived.Test.YtehodhanojgkgaaDoorZRef10
import Derived.Test.YtehodhanojgkgaaDoorZK
namespace Go.Proofs.YtehodhanojgkgaaDoor
open Go.RowKit Go.Slip

/-- A list of the reference's. -/
def GRf (w : World) (xs : List Nat) (en : Ending) (w' : World) : Prop :=
  ∃ p c, en = .returned (.slice p xs.length c) ∧ Rf w' w.heap.size p c xs ∧ Below w.heap.size w w'
theorem GivesR.grf {w w' : World} {xs : List Nat} {en : Ending} (h : GivesR w .i64 xs en w') : GRf w xs en w' := by
  obtain ⟨p, c, h1, h2, h3, h4, h5⟩ := h
  exact ⟨p, c, h1, rf_ofR h2 h3 h4, h5⟩
/-- A number of the reference's. -/
def GNf (w : World) (base : Nat) (d : Dv) (en : Ending) (w' : World) : Prop :=
  ∃ p c, en = .returned (.agg #[.bool d.neg, .slice p (dig B16 d.m).length c, .int .i64 d.e]) ∧ Rf w' base p c (dig B16 d.m) ∧ Below w.heap.size w w'

theorem rfrom (N : Int) (n : Nat) (h : N = n) (hn : n ≤ 9223372036854775807) (w : World) : Calls Tryd.prog 42 #[.int .i64 N] w (GRf w (dig B16 n)) := by
  subst h; exact (refFrom_any n w hn).mono fun _ _ => GivesR.grf
theorem rpow2 (N : Int) (n : Nat) (h : N = n) (hn : n ≤ 1000000000) (w : World) : Calls Tryd.prog 47 #[.int .i64 N] w (GRf w (dig B16 (2 ^ n))) := by
  subst h; exact (refPow2_any n w hn).mono fun _ _ => GivesR.grf

/-- A quotient alone. -/
def GRq (w : World) (x : Nat) (en : Ending) (w' : World) : Prop :=
  ∃ p c r e f, en = .returned (.tuple #[.slice p (dig B16 x).length c, .slice r e f]) ∧ Rf w' w.heap.size p c (dig B16 x) ∧ Below w.heap.size w w'
theorem rinto (p q : Option Addr) (n m c e0 : Nat) (a b x : Nat) (w : World) (hp : Rd w .i64 p (dig B16 a)) (hq : Rd w .i64 q (dig B16 b)) (hn : n = (dig B16 a).length) (hm : m = (dig B16 b).length)
    (hl : (dig B16 a).length ≤ 100000000) (hl2 : (dig B16 b).length ≤ 100000000) (hb : 0 < b) (h : a / b = x) :
    Calls Tryd.prog 46 #[.slice p n c, .slice q m e0] w (GRq w x) := by
  subst h
  exact (refInto_all p q n m c e0 a b w hp hq hn hm hl hl2 hb).mono fun e w' ⟨p, c, q, d, h1, h2, h3, h4, _, _, _, h8⟩ => ⟨p, c, q, _, d, h1, rf_ofR h2 h3 h4, h8⟩
theorem rplus (p q : Option Addr) (n m c d : Nat) (a b x : Nat) (w : World) (hp : Rd w .i64 p (dig B16 a)) (hq : Rd w .i64 q (dig B16 b)) (hn : n = (dig B16 a).length) (hm : m = (dig B16 b).length)
    (hl : (dig B16 a).length ≤ 100000000) (hl2 : (dig B16 b).length ≤ 100000000) (h : a + b = x) :
    Calls Tryd.prog 44 #[.slice p n c, .slice q m d] w (GRf w (dig B16 x)) := by
  subst h; exact (refPlus_any p q n m c d a b w hp hq hn hm (by omega)).mono fun _ _ => GivesR.grf
theorem rtimes (p q : Option Addr) (n m c d : Nat) (a b x : Nat) (w : World) (hp : Rd w .i64 p (dig B16 a)) (hq : Rd w .i64 q (dig B16 b)) (hn : n = (dig B16 a).length) (hm : m = (dig B16 b).length)
    (hl : (dig B16 a).length ≤ 100000000) (hl2 : (dig B16 b).length ≤ 100000000) (h : a * b = x) :
    Calls Tryd.prog 40 #[.slice p n c, .slice q m d] w (GRf w (dig B16 x)) := by
  subst h; exact (refTimes_any p q n m c d a b w hp hq hn hm (by omega)).mono fun _ _ => GivesR.grf
theorem rless (p q : Option Addr) (n m c d : Nat) (a b x : Nat) (w : World) (hp : Rd w .i64 p (dig B16 a)) (hq : Rd w .i64 q (dig B16 b)) (hn : n = (dig B16 a).length) (hm : m = (dig B16 b).length)
    (hl : (dig B16 a).length ≤ 100000000) (hab : b ≤ a) (h : a - b = x) :
    Calls Tryd.prog 43 #[.slice p n c, .slice q m d] w (GRf w (dig B16 x)) := by
  subst h; exact (refLess_any p q n m c d a b w hp hq hn hm (by omega) hab).mono fun _ _ => GivesR.grf
theorem rup (p : Option Addr) (n c : Nat) (a N x : Nat) (M : Int) (w : World) (hp : Rd w .i64 p (dig B16 a)) (hn : n = (dig B16 a).length) (hl : (dig B16 a).length ≤ 100000000) (hN : N ≤ 1000000000) (hM : M = N) (h : a * 2 ^ N = x) :
    Calls Tryd.prog 65 #[.slice p n c, .int .i64 M] w (GRf w (dig B16 x)) := by
  subst h hM; exact (refUp_any p n c a N w hp hn hl hN).mono fun _ _ => GivesR.grf

theorem gnf_of {w w' : World} {d : Dv} {en : Ending} (h : GivesF w (fun _ => False) d en w') : GNf w w.heap.size d en w' := by
  obtain ⟨p, c, h1, h2, h3, h4, h5⟩ := h
  exact ⟨p, c, h1, rf_of h2 h3 h4, h5⟩
/-- Bounds of a number of the reference's. -/
structure FitR (d : Dv) : Prop where
  len : (dig B16 d.m).length ≤ 1000000
  lo : -1000000 ≤ d.e
  hi : d.e ≤ 1000000
theorem fit_nn {z : Int} {w : Nat} (hw : w ≤ 15000) (hz : Small z) : FitR (norm z (-w)) := by
  obtain ⟨h1, h2, h3⟩ := len_nn z w hw hz
  have := B16_len32 (norm z (-w)).m
  exact ⟨by omega, by omega, by omega⟩

theorem rdplus (a b d : Dv) (p q : Option Addr) (c c' : Nat) (w : World) (hp : Rd w .i64 p (dig B16 a.m)) (hq : Rd w .i64 q (dig B16 b.m)) (fa : FitR a) (fb : FitR b) (h : rPlus a b = d) :
    Calls Tryd.prog 38 #[.agg #[.bool a.neg, .slice p (dig B16 a.m).length c, .int .i64 a.e], .agg #[.bool b.neg, .slice q (dig B16 b.m).length c', .int .i64 b.e]] w (GNf w w.heap.size d) := by
  subst h
  exact (refDPlus_any a.neg b.neg p q _ c _ c' a.e b.e a.m b.m w hp hq rfl rfl fa.len fb.len ⟨fa.lo, fa.hi⟩ ⟨fb.lo, fb.hi⟩).mono fun _ _ => gnf_of
theorem rdcmp (a b : Dv) (p q : Option Addr) (c c' : Nat) (w : World) (hp : Rd w .i64 p (dig B16 a.m)) (hq : Rd w .i64 q (dig B16 b.m)) (hc : (dig B16 b.m).length ≤ c') (fa : FitR a) (fb : FitR b) :
    Calls Tryd.prog 26 #[.agg #[.bool a.neg, .slice p (dig B16 a.m).length c, .int .i64 a.e], .agg #[.bool b.neg, .slice q (dig B16 b.m).length c', .int .i64 b.e]] w fun en w' => en = .returned (.int .i64 (rCmp a b)) ∧ Below w.heap.size w w' :=
  refDCmp_any a.neg b.neg p q _ c _ c' a.e b.e a.m b.m w hp hq rfl rfl hc fa.len fb.len ⟨fa.lo, fa.hi⟩ ⟨fb.lo, fb.hi⟩
theorem rbared (g : Bool) (p : Option Addr) (n c : Nat) (e : Int) (m : Nat) (d : Dv) (w : World) (hp : Rd w .i64 p (dig B16 m)) (hn : n = (dig B16 m).length) (hl : (dig B16 m).length ≤ 1000000) (he : -1000000 ≤ e ∧ e ≤ 1000000) (h : bare ⟨g, m, e⟩ = d) :
    Calls Tryd.prog 39 #[.agg #[.bool g, .slice p n c, .int .i64 e]] w (GNf w w.heap.size d) := by
  subst h
  exact (refBared_any g p n c e m w hp hn (by omega) (by omega)).mono fun _ _ => gnf_of
theorem rminus (a d : Dv) (p : Option Addr) (c base : Nat) (w : World) (hp : Rf w base p c (dig B16 a.m)) (hb : base ≤ w.heap.size) (h : dMinus a = d) :
    Calls Tryd.prog 24 #[.agg #[.bool a.neg, .slice p (dig B16 a.m).length c, .int .i64 a.e]] w (GNf w base d) := by
  subst h
  refine (refMinus_any (fun k => base ≤ k) a.neg p _ c a.e a.m w hp.rd rfl hp.cap hp.at_).mono fun en w' hh => ?_
  obtain ⟨p, c, h1, h2, h3, h4, h5⟩ := hh
  exact ⟨p, c, h1, rf_ofP h2 h3 h4 hb, h5⟩

/-- A dyad that came from a call, as one that is handed in. -/
theorem din_of {w : World} {base t : Nat} {d : Dv} {p : Option Addr} {c : Nat} (h : Own w base .u32 t p c (dig B32 d.m)) (hB : Bare d) (h0 : errD d = 0) :
    InD w ⟨d.neg, p, c, dig B32 d.m, d.e⟩ ∧ errDy ⟨d.neg, p, c, dig B32 d.m, d.e⟩ = 0 ∧ dyV ⟨d.neg, p, c, dig B32 d.m, d.e⟩ = d := by
  have hl : (dig B32 d.m).length ≤ 1200 ∧ -20000 ≤ d.e ∧ d.e ≤ 20000 := by
    unfold errD at h0
    split at h0
    · omega
    · split at h0
      · omega
      · omega
  have hv : dyV ⟨d.neg, p, c, dig B32 d.m, d.e⟩ = d := by
    unfold dyV
    rw [val_dig B32_two]
    exact bare_of hB
  refine ⟨⟨h.rd, h.le_cap, by show (dig B32 d.m).length ≤ _; omega, dig_lt B32_two d.m⟩, ?_, hv⟩
  unfold errDy
  simp only
  have e : errNat (dig B32 d.m) = 0 := by rw [errNat_dig, if_neg (by omega)]
  rw [e, if_pos rfl, if_neg (by omega)]

/-- A ball that came from a call. -/
theorem rofball (l h : Dv) (p q : Option Addr) (c d b1 b2 : Nat) (w : World) (hp : Own w b1 .u32 58 p c (dig B32 l.m)) (hq : Own w b2 .u32 58 q d (dig B32 h.m)) (bl : Bare l) (bh : Bare h) (el : errD l = 0) (eh : errD h = 0) :
    Calls Tryd.prog 23 #[.agg #[.bool l.neg, .slice p (dig B32 l.m).length c, .int .i64 l.e, .bool h.neg, .slice q (dig B32 h.m).length d, .int .i64 h.e]] w
      fun en w' => ∃ p c q d, en = .returned (.agg #[.bool l.neg, .slice p (dig B16 l.m).length c, .int .i64 l.e, .bool h.neg, .slice q (dig B16 h.m).length d, .int .i64 h.e]) ∧ Rf w' w.heap.size p c (dig B16 l.m) ∧ Rf w' w.heap.size q d (dig B16 h.m) ∧ Below w.heap.size w w' := by
  obtain ⟨i1, e1, v1⟩ := din_of hp bl el
  obtain ⟨i2, e2, v2⟩ := din_of hq bh eh
  have := refOfBall_any _ _ w i1 i2 e1 e2
  rw [v1, v2] at this
  refine this.mono fun en w' hh => ?_
  obtain ⟨⟨g, p, c, m, e⟩, ⟨g', p', c', m', e'⟩, r1, r2, r3, r4, r5, r6⟩ := hh
  subst r1 r2
  exact ⟨p, c, p', c', r3, rf_ofR r4.rd r4.cap r4.at_, rf_ofR r5.rd r5.cap r5.at_, r6⟩

theorem rcheckball (l h : Dv) (p q : Option Addr) (c d b1 b2 : Nat) (w : World) (hp : Own w b1 .u32 58 p c (dig B32 l.m)) (hq : Own w b2 .u32 58 q d (dig B32 h.m)) (bl : Bare l) (bh : Bare h) (el : errD l = 0) (eh : errD h = 0) (hle : leD l h) :
    Calls Tryd.prog 22 #[.agg #[.bool l.neg, .slice p (dig B32 l.m).length c, .int .i64 l.e, .bool h.neg, .slice q (dig B32 h.m).length d, .int .i64 h.e]] w fun en w' => en = .returned (.int .i64 0) ∧ Below w.heap.size w w' := by
  obtain ⟨i1, e1, v1⟩ := din_of hp bl el
  obtain ⟨i2, e2, v2⟩ := din_of hq bh eh
  have := refCheckBall_any _ _ w i1 i2
  have eb : errBall ⟨l.neg, p, c, dig B32 l.m, l.e⟩ ⟨h.neg, q, d, dig B32 h.m, h.e⟩ = 0 := by
    unfold errBall
    rw [if_pos (by unfold errDy2; rw [if_pos e1, e2]), v1, v2, rCmp_eq bl bh, if_neg (by unfold leD at hle; omega)]
  rw [eb] at this
  exact this

theorem rsameball (l h l' h' : Dv) (p q p' q' : Option Addr) (c d c' d' : Nat) (w : World) (r1 : Rd w .u32 p (dig B32 l.m)) (r2 : Rd w .u32 q (dig B32 h.m)) (r3 : Rd w .u32 p' (dig B32 l'.m)) (r4 : Rd w .u32 q' (dig B32 h'.m))
    (l1 : (dig B32 l.m).length ≤ 1000000000) (l2 : (dig B32 h.m).length ≤ 1000000000) (l3 : (dig B32 l'.m).length ≤ 1000000000) (l4 : (dig B32 h'.m).length ≤ 1000000000) :
    Calls Tryd.prog 11 #[.agg #[.bool l.neg, .slice p (dig B32 l.m).length c, .int .i64 l.e, .bool h.neg, .slice q (dig B32 h.m).length d, .int .i64 h.e], .agg #[.bool l'.neg, .slice p' (dig B32 l'.m).length c', .int .i64 l'.e, .bool h'.neg, .slice q' (dig B32 h'.m).length d', .int .i64 h'.e]] w
      fun en w' => en = .returned (.bool (decide (l = l' ∧ h = h'))) ∧ Below w.heap.size w w' := refSameBall_dec l h l' h' p q p' q' c d c' d' w r1 r2 r3 r4 l1 l2 l3 l4
/-- Two balls of nothing. -/
theorem rsamezero (w : World) :
    Calls Tryd.prog 11 #[.agg #[.bool false, .slice none 0 0, .int .i64 0, .bool false, .slice none 0 0, .int .i64 0], .agg #[.bool false, .slice none 0 0, .int .i64 0, .bool false, .slice none 0 0, .int .i64 0]] w
      fun en w' => en = .returned (.bool true) ∧ Below w.heap.size w w' := by
  have hz : ∀ W : World, Rd W .u32 none (dig B32 (⟨false, 0, 0⟩ : Dv).m) := fun W => by simp only [dig_zero]; exact Rd.nil _ _ _
  have h := refSameBall_dec ⟨false, 0, 0⟩ ⟨false, 0, 0⟩ ⟨false, 0, 0⟩ ⟨false, 0, 0⟩ none none none none 0 0 0 0 w (hz w) (hz w) (hz w) (hz w) (by simp [dig_zero]) (by simp [dig_zero]) (by simp [dig_zero]) (by simp [dig_zero])
  simp only [dig_zero, List.length_nil] at h
  simpa using h

end Go.Proofs.YtehodhanojgkgaaDoor

namespace Go.Slip

/-- Half of the terms of a sum by turns are never more. -/
theorem tj_less {n P j : Nat} (hn : 2 ≤ n) : tj n P (j + 1) ≤ tj n P j := by
  unfold tj
  refine Nat.div_le_div_left ?_ (Nat.mul_pos (Nat.pow_pos (by omega)) (by omega))
  exact Nat.mul_le_mul (Nat.pow_le_pow_right (by omega) (by omega)) (by omega)
theorem sI_succ (t : Bool) (n P j : Nat) : sI t n P (j + 1) = sI t n P j + (if t = true ∧ j % 2 = 1 then -(tj n P j : Int) else (tj n P j : Int)) := by
  unfold sI
  simp only [sC, cP, cM]
  by_cases h : t = true ∧ j % 2 = 1
  · simp only [if_pos h]; omega
  · simp only [if_neg h]; omega
theorem sI_even {n P : Nat} (hn : 2 ≤ n) (i : Nat) : 0 ≤ sI true n P (2 * i) ∧ (tj n P (2 * i) : Int) ≤ sI true n P (2 * i + 1) := by
  induction i with
  | zero =>
    have h := sI_succ true n P 0
    rw [if_neg (by simp)] at h
    have h0 : sI true n P 0 = 0 := rfl
    rw [show 2 * 0 + 1 = 0 + 1 from rfl, h, h0]
    exact ⟨by simp [h0], by simp⟩
  | succ i ih =>
    have h1 := sI_succ true n P (2 * i + 1)
    rw [if_pos ⟨rfl, by omega⟩] at h1
    have h2 := sI_succ true n P (2 * (i + 1))
    rw [if_neg (fun h => by omega)] at h2
    rw [show 2 * i + 1 + 1 = 2 * (i + 1) by omega] at h1
    have h3 := tj_less (P := P) (j := 2 * i) hn
    exact ⟨by omega, by omega⟩
theorem sI_nonneg {n P : Nat} (hn : 2 ≤ n) (j : Nat) : 0 ≤ sI true n P j := by
  rcases (show j % 2 = 0 ∨ j % 2 = 1 by omega) with h | h
  · have := (sI_even (P := P) hn (j / 2)).1
    rwa [show 2 * (j / 2) = j by omega] at this
  · have := (sI_even (P := P) hn (j / 2)).2
    rw [show 2 * (j / 2) + 1 = j by omega] at this
    omega
/-- The sum as a natural number. -/
def sN (n P j : Nat) : Nat := (sI true n P j).toNat
theorem sN_z {n P : Nat} (hn : 2 ≤ n) (j : Nat) : (sN n P j : Int) = sI true n P j := Int.toNat_of_nonneg (sI_nonneg hn j)
theorem sN_odd {n P : Nat} (hn : 2 ≤ n) {j : Nat} (h : j % 2 = 1) : tj n P j ≤ sN n P j ∧ sN n P j - tj n P j = sN n P (j + 1) := by
  have h1 := sI_succ true n P j
  rw [if_pos ⟨rfl, h⟩] at h1
  have h2 := sN_z (P := P) hn j
  have h3 := sN_z (P := P) hn (j + 1)
  have h4 := sI_nonneg (P := P) hn (j + 1)
  omega
theorem sN_even {n P : Nat} (hn : 2 ≤ n) {j : Nat} (h : ¬ j % 2 = 1) : sN n P j + tj n P j = sN n P (j + 1) := by
  have h1 := sI_succ true n P j
  rw [if_neg (fun k => h k.2)] at h1
  have h2 := sN_z (P := P) hn j
  have h3 := sN_z (P := P) hn (j + 1)
  omega
theorem sN_le {n P : Nat} (hn : 2 ≤ n) (j : Nat) : sN n P j ≤ 2 * 2 ^ P := by
  have := (sI_bd true (P := P) hn j).2
  have h2 := sN_z (P := P) hn j
  have e := pow_z P
  omega
theorem term_len16 {P x : Nat} (h : x ≤ 2 * 2 ^ P) (hP : P ≤ 15000) : (dig B16 x).length ≤ 942 := by
  have := term_len h hP
  have := B16_len32 x
  omega
theorem norm_pos (X : Nat) : (norm (X : Int) 0).neg = false ∧ (norm (X : Int) 0).m * 2 ^ (norm (X : Int) 0).e.toNat = X ∧ 0 ≤ (norm (X : Int) 0).e := by
  have h := norm_sg false X 0
  rw [show sg false X = (X : Int) from rfl] at h
  rw [h]
  by_cases h0 : X = 0
  · subst h0; simp [bare]
  · obtain ⟨s1, _⟩ := tz_spec X (by omega)
    unfold bare
    simp only [if_neg h0]
    refine ⟨trivial, ?_, by omega⟩
    rw [Int.zero_add, Int.toNat_natCast, Nat.mul_comm]
    exact s1

theorem pos_of_len16 {x : Nat} (h : 0 < (dig B16 x).length) : 0 < x := by
  rcases Nat.eq_zero_or_pos x with h1 | h1
  · rw [h1, dig_zero] at h; simp at h
  · exact h1
theorem sg_len (x : Nat) : sg (decide ((((dig B16 x).length : Nat) : Int) > 0)) x = -(x : Int) := by
  by_cases h : (((dig B16 x).length : Nat) : Int) > 0
  · rw [decide_eq_true h]; rfl
  · rw [decide_eq_false h]
    have : x = 0 := (dig_len_zero B16_two x).1 (by omega)
    subst this; rfl

end Go.Slip
namespace Go.Proofs.YtehodhanojgkgaaDoor
open Go.RowKit Go.Slip

/-- A whole number with a sign that is not there. -/
def GivesZ (w : World) (x : Nat) (en : Ending) (w' : World) : Prop :=
  ∃ p c, en = .returned (.agg #[.bool false, .slice p (dig B16 x).length c]) ∧ Rf w' w.heap.size p c (dig B16 x) ∧ Below w.heap.size w w'

set_option maxHeartbeats 2000000 in
set_option maxRecDepth 100000 in
theorem zplus_any (M x X : Nat) (g : Bool) (p q : Option Addr) (m c d : Nat) (w : World) (hp : Rd w .i64 p (dig B16 M)) (hm : m = (dig B16 M).length) (hq : Rd w .i64 q (dig B16 x)) (l1 : (dig B16 M).length ≤ 1000) (l2 : (dig B16 x).length ≤ 1000) (lX : (dig B16 X).length ≤ 1000)
    (h : (X : Int) = M + sg g x) :
    Calls Tryd.prog 69 #[.agg #[.bool false, .slice p m c], .agg #[.bool g, .slice q (dig B16 x).length d]] w (GivesZ w X) := by
  subst hm
  have HD := fun W (h1 : Rd W .i64 p (dig B16 M)) (h2 : Rd W .i64 q (dig B16 x)) => Lib.hid ((refDPlus_any false g p q _ c _ d 0 0 M x W h1 h2 rfl rfl (by omega) (by omega) (by omega) (by omega)).mono fun _ _ => gnf_of)
  have hr : rPlus ⟨false, M, 0⟩ ⟨g, x, 0⟩ = norm (X : Int) 0 := by
    rw [rPlus_norm _ _ (e := 0) (Int.le_refl _) (Int.le_refl _), h]
    congr 1
    unfold zOf
    simp [sg]
  rw [hr] at HD
  obtain ⟨n1, n2, n3⟩ := norm_pos X
  have lm : (dig B16 (norm (X : Int) 0).m).length ≤ 1000 := by
    refine Nat.le_trans (dig_len_mono B16_two (show (norm (X : Int) 0).m ≤ X from ?_)) lX
    have hpp : 1 ≤ 2 ^ (norm (X : Int) 0).e.toNat := Nat.pow_pos (by omega)
    have h5 := Nat.mul_le_mul_left (norm (X : Int) 0).m hpp
    rw [n2, Nat.mul_one] at h5
    exact h5
  have le : (norm (X : Int) 0).e.toNat ≤ 1000000000 := by
    have h1 := bare_e (ofZ (X : Int) 0) (n := 1000) (by show (dig B32 (X : Int).natAbs).length ≤ 1000; rw [Int.natAbs_natCast]; have := dig_len_halves X; omega) (lo := 0) (hi := 0) (Int.le_refl _) (Int.le_refl _) (by omega) (by omega)
    have : (norm (X : Int) 0).e = (bare (ofZ (X : Int) 0)).e := rfl
    omega
  have eM : (norm (X : Int) 0).e = (((norm (X : Int) 0).e.toNat : Nat) : Int) := by omega
  generalize norm (X : Int) 0 = D at *
  obtain ⟨dn, dm, de⟩ := D
  simp only at n1 n2 n3 lm le eM HD
  subst n1
  have hT3 : SxOne Tryd.prog 3 := sxOne_of (by kernel_rfl) (by kernel_rfl)
  have hT4 : SxOne Tryd.prog 4 := sxOne_of (by kernel_rfl) (by kernel_rfl)
  have hT34 : SxOne Tryd.prog 34 := sxOne_of (by kernel_rfl) (by kernel_rfl)
  have hT36 : SxAgg Tryd.prog 36 3 := sxAgg_of (by kernel_rfl) (by kernel_rfl)
  have hT41 : SxAgg Tryd.prog 41 2 := sxAgg_of (by kernel_rfl) (by kernel_rfl)
  refine calls_of_wp Tryd.func69 rfl ?_
  refine sx_frame (a' := ⟨((.agg #[.bool false, .slice p (dig B16 M).length c]) :: (.agg #[.bool g, .slice q (dig B16 x).length d]) :: undef :: undef :: undef :: undef :: undef :: undef :: undef :: undef :: undef :: undef :: undef :: undef :: undef :: undef :: undef :: undef :: undef :: undef :: undef :: undef :: undef :: undef :: undef :: []).toArray, []⟩) (by kernel_rfl) ?_
  refine wp_seq ?_
  refine sx_region ?_
  refine sn 2 #[.bool false, .slice p (dig B16 M).length c] 41 (fun V1 hbV1 hzV1 b2 => ?_)
  refine sn 3 #[.bool g, .slice q (dig B16 x).length d] 41 (fun V2 hbV2 hzV2 b3 => ?_)
  refine sn 4 #[.bool false, .slice none 0 0] 41 (fun V3 hbV3 hzV3 b4 => ?_)
  refine sx_nil ?_
  refine sx_then ?_
  refine wp_seq ?_
  refine sx_region ?_
  refine sv 6 (.pointer (some ⟨w.heap.size, 0, none⟩)) ?_
  replace b2 := (b2.past (bthru hbV2 hbV3))
  refine sv 7 (.bool false) ?_ (hr := (exec_ld (by kernel_rfl) (run_ld1 b2 hT4 0 (.bool false) (by kernel_rfl))))
  refine sv 8 (.pointer (some ⟨w.heap.size, 1, none⟩)) ?_
  refine sv 9 (.slice p (dig B16 M).length c) ?_ (hr := (exec_ld (by kernel_rfl) (run_ld1 b2 hT34 1 (.slice p (dig B16 M).length c) (by kernel_rfl))))
  refine sv 10 (.agg #[.bool false, .slice p (dig B16 M).length c, .int .i64 0]) ?_
  refine sv 11 (.pointer (some ⟨V1.heap.size, 0, none⟩)) ?_
  replace b3 := (b3.past hbV3)
  refine sv 12 (.bool g) ?_ (hr := (exec_ld (by kernel_rfl) (run_ld1 b3 hT4 0 (.bool g) (by kernel_rfl))))
  refine sv 13 (.pointer (some ⟨V1.heap.size, 1, none⟩)) ?_
  refine sv 14 (.slice q (dig B16 x).length d) ?_ (hr := (exec_ld (by kernel_rfl) (run_ld1 b3 hT34 1 (.slice q (dig B16 x).length d) (by kernel_rfl))))
  refine sv 15 (.agg #[.bool g, .slice q (dig B16 x).length d, .int .i64 0]) ?_
  replace hp := (hp.past (bthru (bthru hbV1 hbV2) hbV3))
  replace hq := (hq.past (bthru (bthru hbV1 hbV2) hbV3))
  refine se 16 38 #[.agg #[.bool false, .slice p (dig B16 M).length c, .int .i64 0], .agg #[.bool g, .slice q (dig B16 x).length d, .int .i64 0]] (fun Gx hGx => ?_)
  ((with_reducible refine ((HD _ hp hq).out).mono ?_))
  rintro eV4 V4 ⟨p16, c16, rfl, x16, hbV4⟩
  have hzV4 := hbV4.size
  have lx16 := fun h => x16.lt h
  refine ⟨.agg #[.bool false, .slice p16 (dig B16 dm).length c16, .int .i64 de], rfl, hGx _ _ ?_⟩
  clear hGx Gx
  refine sn 5 #[.bool false, .slice none 0 0, .int .i64 0] 36 (fun V5 hbV5 hzV5 b5 => ?_)
  refine ss none b5 hT36 0 #[.bool false, .slice p16 (dig B16 dm).length c16, .int .i64 de] #[.bool false, .slice p16 (dig B16 dm).length c16, .int .i64 de] ?_
  have boV6 := b5
  clear b5
  intro V6 hOV6 b5
  have hzV6 := hOV6.size
  refine sx_nil ?_
  refine sx_then ?_
  refine wp_seq ?_
  obtain ⟨V7, hVV7⟩ : ∃ V, V = (V6).drew := ⟨_, rfl⟩
  have hbV7 : Below (V6).heap.size (V6) V7 := by rw [hVV7]; exact (Below.refl _ _).drew
  have hzV7 : V7.heap.size = (V6).heap.size := by rw [hVV7]; rfl
  replace b5 := (b5.past hbV7)
  refine sxd _ (fun w' => Bt w' V4.heap.size 36 #[.bool false, .slice p16 (dig B16 dm).length c16, .int .i64 de]) hVV7 b5 ?_
  clear hVV7
  refine tk 0 17 (.pointer (some ⟨V4.heap.size, 0, none⟩)) b5 ?_
  refine tk 1 18 (.bool false) b5 ?_ (hy := fun w' hS => (exec_ld (by kernel_rfl) (run_ld1 hS hT4 0 (.bool false) (by kernel_rfl))))
  refine tk 2 19 (.pointer (some ⟨V4.heap.size, 1, none⟩)) b5 ?_
  refine tk 3 20 (.slice p16 (dig B16 dm).length c16) b5 ?_ (hy := fun w' hS => (exec_ld (by kernel_rfl) (run_ld1 hS hT34 1 (.slice p16 (dig B16 dm).length c16) (by kernel_rfl))))
  refine tk 4 21 (.pointer (some ⟨V4.heap.size, 2, none⟩)) b5 ?_
  refine tk 5 22 (.int .i64 de) b5 ?_ (hy := fun w' hS => (exec_ld (by kernel_rfl) (run_ld1 hS hT3 2 (.int .i64 de) (by kernel_rfl))))
  refine sxr [6] ?_
  refine rd1 (fun Kx hKx => ?_)
  replace x16 := (x16.past (bthru (hbV5.trans (hOV6.below (by omega))) hbV7))
  refine sek 23 65 #[.slice p16 (dig B16 dm).length c16, .int .i64 de] ?_
  ((with_reducible refine (rup p16 _ c16 dm de.toNat X de _ x16.rd rfl (by omega) le eM n2).mono ?_))
  rintro eV8 V8 ⟨p23, c23, rfl, x23, hbV8⟩
  have hzV8 := hbV8.size
  have lx23 := fun h => x23.lt h
  refine ⟨.slice p23 (dig B16 X).length c23, rfl, ?_⟩
  replace b5 := (b5.past hbV8)
  refine hKx.out _ _ b5 ?_
  clear hKx Kx
  refine tk 7 24 (.agg #[.bool false, .slice p23 (dig B16 X).length c23]) b5 ?_
  refine sxr [8] ?_
  refine rd1 (fun Kx hKx => ?_)
  replace b4 := (b4.past (bthru (bthru ((bthru hbV4 hbV5).trans (hOV6.below (by omega))) hbV7) hbV8))
  refine ssk none b4 hT41 0 #[.bool false, .slice p23 (dig B16 X).length c23] #[.bool false, .slice p23 (dig B16 X).length c23] ?_
  have boV9 := b4
  clear b4
  intro V9 hOV9 b4
  have hzV9 := hOV9.size
  replace b5 := (b5.only hOV9 (by omega))
  refine hKx.out _ _ b5 ?_
  clear hKx Kx
  refine sx_done (by kernel_rfl) ?_
  refine sx_then ?_
  refine wp_ret ?_
  have ⟨b4_0, b4_1⟩ := b4.bx.e2
  repeat (first | with_reducible refine sx_thenret ?_ | with_reducible refine sx_blockret ?_)
  refine bodyPost_ret (v := .agg #[.bool false, .slice p23 (dig B16 X).length c23]) (by simp [results, Tryd.results69, go_sem, b4_0, b4_1]) rfl ?_
  replace x23 := (x23.only hOV9 (fun h => by have := lx23 h; omega))
  exact ⟨p23, c23, rfl, x23.mono (by omega), ((bthru (bthru ((bthru (bthru (bthru (bthru hbV1 hbV2) hbV3) hbV4) hbV5).trans (hOV6.below (by omega))) hbV7) hbV8).trans (hOV9.below (by omega)))⟩

set_option maxHeartbeats 4000000 in
set_option maxRecDepth 100000 in
theorem atanOf_any (N W0 : Int) (n w0 : Nat) (w : World) (hN : N = n) (hW : W0 = w0) (hn : 2 ≤ n) (hn2 : n ≤ 10000) (hw : w0 ≤ 1500) :
    Calls Tryd.prog 41 #[.int .i64 N, .int .i64 W0] w (GivesZ w (sN n w0 (w0 + 1))) := by
  subst hN hW
  have hnn : n * n ≤ 10000 * 10000 := Nat.mul_le_mul hn2 hn2
  have hnp : 0 < n * n := Nat.mul_pos (by omega) (by omega)
  have ln : (dig B16 n).length ≤ 942 := term_len16 (P := 14) (by omega) (by omega)
  have lnn : (dig B16 (n * n)).length ≤ 942 := term_len16 (P := 27) (by omega) (by omega)
  have lp : (dig B16 (2 ^ w0)).length ≤ 942 := term_len16 (P := w0) (by omega) (by omega)
  have z0 : sN n w0 0 = 0 := rfl
  have hT41 : SxAgg Tryd.prog 41 2 := sxAgg_of (by kernel_rfl) (by kernel_rfl)
  refine calls_of_wp Tryd.func41 rfl ?_
  refine sx_frame (a' := ⟨((.int .i64 ((n : Nat) : Int)) :: (.int .i64 ((w0 : Nat) : Int)) :: undef :: undef :: undef :: undef :: undef :: undef :: undef :: undef :: undef :: undef :: undef :: undef :: undef :: undef :: undef :: undef :: undef :: undef :: undef :: undef :: undef :: undef :: undef :: undef :: undef :: undef :: undef :: undef :: undef :: undef :: undef :: undef :: undef :: undef :: undef :: undef :: undef :: undef :: undef :: undef :: undef :: undef :: undef :: undef :: undef :: undef :: undef :: undef :: undef :: undef :: undef :: []).toArray, []⟩) (by kernel_rfl) ?_
  refine wp_seq ?_
  refine sx_region ?_
  refine sn 4 #[.bool false, .slice none 0 0] 41 (fun V1 hbV1 hzV1 b4 => ?_)
  refine sx_nil ?_
  refine sx_then ?_
  refine wp_seq ?_
  refine sx_region ?_
  refine sv 12 (.int .i64 ((w0 : Nat) : Int)) ?_
  refine se 13 47 #[.int .i64 ((w0 : Nat) : Int)] (fun Gx hGx => ?_)
  ((with_reducible refine (rpow2 _ w0 rfl (by omega) _).mono ?_))
  rintro eV2 V2 ⟨p13, c13, rfl, x13, hbV2⟩
  have hzV2 := hbV2.size
  have lx13 := fun h => x13.lt h
  refine ⟨.slice p13 (dig B16 (2 ^ w0)).length c13, rfl, hGx _ _ ?_⟩
  clear hGx Gx
  refine sv 14 (.int .i64 ((n : Nat) : Int)) ?_
  refine se 15 42 #[.int .i64 ((n : Nat) : Int)] (fun Gx hGx => ?_)
  ((with_reducible refine (rfrom _ n rfl (by omega) _).mono ?_))
  rintro eV3 V3 ⟨p15, c15, rfl, x15, hbV3⟩
  have hzV3 := hbV3.size
  have lx15 := fun h => x15.lt h
  refine ⟨.slice p15 (dig B16 n).length c15, rfl, hGx _ _ ?_⟩
  clear hGx Gx
  replace x13 := (x13.past hbV3)
  refine se 16 46 #[.slice p13 (dig B16 (2 ^ w0)).length c13, .slice p15 (dig B16 n).length c15] (fun Gx hGx => ?_)
  ((with_reducible refine (rinto p13 p15 _ _ c13 c15 (2 ^ w0) n (2 ^ w0 / n ^ (2 * 0 + 1)) _ x13.rd x15.rd rfl rfl (by omega) (by omega) (by omega) (by rw [Nat.pow_one])).mono ?_))
  rintro eV4 V4 ⟨p16, c16, r16, e16, f16, rfl, x16, hbV4⟩
  have hzV4 := hbV4.size
  have lx16 := fun h => x16.lt h
  refine ⟨.tuple #[.slice p16 (dig B16 (2 ^ w0 / n ^ (2 * 0 + 1))).length c16, .slice r16 e16 f16], rfl, hGx _ _ ?_⟩
  clear hGx Gx
  refine sv 11 (.tuple #[.slice p16 (dig B16 (2 ^ w0 / n ^ (2 * 0 + 1))).length c16, .slice r16 e16 f16]) ?_
  refine sv 17 (.slice p16 (dig B16 (2 ^ w0 / n ^ (2 * 0 + 1))).length c16) ?_
  refine sv 18 (.slice r16 e16 f16) ?_
  refine sv 5 (.slice p16 (dig B16 (2 ^ w0 / n ^ (2 * 0 + 1))).length c16) ?_
  refine sv 6 (.slice r16 e16 f16) ?_
  refine sx_nil ?_
  refine sx_then ?_
  refine wp_seq ?_
  refine sx_region ?_
  refine sn 7 #[.bool false, .slice none 0 0] 41 (fun V5 hbV5 hzV5 b7 => ?_)
  refine sx_nil ?_
  refine sx_then ?_
  refine wp_seq ?_
  refine wp_seq ?_
  refine sx_region ?_
  refine sv 8 (.int .i64 1) ?_
  refine sx_nil ?_
  refine sx_then ?_
  refine wp_block ?_
  refine sx_frame (a' := ⟨((.int .i64 ((n : Nat) : Int)) :: (.int .i64 ((w0 : Nat) : Int)) :: undef :: undef :: (.pointer (some ⟨w.heap.size, 0, none⟩)) :: (.slice p16 (dig B16 (2 ^ w0 / n ^ (2 * 0 + 1))).length c16) :: (.slice r16 e16 f16) :: (.pointer (some ⟨V4.heap.size, 0, none⟩)) :: (.int .i64 1) :: undef :: undef :: (.tuple #[.slice p16 (dig B16 (2 ^ w0 / n ^ (2 * 0 + 1))).length c16, .slice r16 e16 f16]) :: (.int .i64 ((w0 : Nat) : Int)) :: (.slice p13 (dig B16 (2 ^ w0)).length c13) :: (.int .i64 ((n : Nat) : Int)) :: (.slice p15 (dig B16 n).length c15) :: (.tuple #[.slice p16 (dig B16 (2 ^ w0 / n ^ (2 * 0 + 1))).length c16, .slice r16 e16 f16]) :: (.slice p16 (dig B16 (2 ^ w0 / n ^ (2 * 0 + 1))).length c16) :: (.slice r16 e16 f16) :: undef :: undef :: undef :: undef :: undef :: undef :: undef :: undef :: undef :: undef :: undef :: undef :: undef :: undef :: undef :: undef :: undef :: undef :: undef :: undef :: undef :: undef :: undef :: undef :: undef :: undef :: undef :: undef :: undef :: undef :: undef :: undef :: undef :: undef :: []).toArray, []⟩) (by kernel_rfl) ?_
  have boV6 := b7
  refine sx_loop2 (fun (gk : Nat) U0 a' w' => ∃ (j : Nat) (p5 : Option Addr) (c5 : Nat) (p7 : Option Addr) (m7 : Nat) (c7 : Nat), a' = ⟨((.int .i64 ((n : Nat) : Int)) :: (.int .i64 ((w0 : Nat) : Int)) :: undef :: undef :: (.pointer (some ⟨w.heap.size, 0, none⟩)) :: (.slice p5 (dig B16 (2 ^ w0 / n ^ (2 * j + 1))).length c5) :: (.slice r16 e16 f16) :: (.pointer (some ⟨V4.heap.size, 0, none⟩)) :: (.int .i64 ((2 * j + 1 : Nat) : Int)) :: (U0 9) :: (U0 10) :: (.tuple #[.slice p16 (dig B16 (2 ^ w0 / n ^ (2 * 0 + 1))).length c16, .slice r16 e16 f16]) :: (.int .i64 ((w0 : Nat) : Int)) :: (.slice p13 (dig B16 (2 ^ w0)).length c13) :: (.int .i64 ((n : Nat) : Int)) :: (.slice p15 (dig B16 n).length c15) :: (.tuple #[.slice p16 (dig B16 (2 ^ w0 / n ^ (2 * 0 + 1))).length c16, .slice r16 e16 f16]) :: (.slice p16 (dig B16 (2 ^ w0 / n ^ (2 * 0 + 1))).length c16) :: (.slice r16 e16 f16) :: (U0 19) :: (U0 20) :: (U0 21) :: (U0 22) :: (U0 23) :: (U0 24) :: (U0 25) :: (U0 26) :: (U0 27) :: (U0 28) :: (U0 29) :: (U0 30) :: (U0 31) :: (U0 32) :: (U0 33) :: (U0 34) :: (U0 35) :: (U0 36) :: (U0 37) :: (U0 38) :: (U0 39) :: (U0 40) :: (U0 41) :: (U0 42) :: (U0 43) :: (U0 44) :: (U0 45) :: (U0 46) :: (U0 47) :: (U0 48) :: (U0 49) :: (U0 50) :: (U0 51) :: undef :: []).toArray, []⟩ ∧ Bt w' V4.heap.size 41 #[.bool false, .slice p7 m7 c7] ∧ (Rf w' w.heap.size p5 c5 (dig B16 (2 ^ w0 / n ^ (2 * j + 1)))) ∧ (Rf w' w.heap.size p7 c7 (dig B16 (sN n w0 j))) ∧ Keep V4.heap.size V5 w' ∧ (gk + j = w0 + 2) ∧ (∀ i, i < j → n ^ (2 * i + 1) ≤ 2 ^ w0) ∧ (m7 = (dig B16 (sN n w0 j)).length) ∧ (0 < (dig B16 (2 ^ w0 / n ^ (2 * j + 1))).length → blk p5 ≠ V4.heap.size ∧ blk p5 ≠ w.heap.size) ∧ (0 < (dig B16 (sN n w0 j)).length → blk p7 ≠ V4.heap.size ∧ blk p7 ≠ w.heap.size)) (w0 + 2) ?_ (fun Gx hGx => ?_)
  · skip
    replace x16 := (x16.past hbV5)
    exact ⟨0, p16, c16, none, 0, 0, by kernel_rfl, b7, x16.mono (by omega), (by rw [z0, dig_zero]; exact rf_nil _ _ _), Keep.refl _ _, (by omega), (fun i h => absurd h (by omega)), (by rw [z0, dig_zero]; rfl), (fun h => by have := lx16 h; omega), (fun h => by rw [z0, dig_zero] at h; simp at h)⟩
  clear b7
  rintro gk0 U0 _ V6 ⟨j, p5, c5, p7, m7, c7, rfl, b7, x5, x7, hOV6, hj, hne, hm7, hf5, hf7⟩
  refine hGx _ _ _ ?_
  clear hGx Gx
  have hzV6 := hOV6.size
  have lx5 := fun h => x5.lt h
  have lx7 := fun h => x7.lt h
  have lx5 := fun h => (hf5 h)
  have lx7 := fun h => (hf7 h)
  have lX : (dig B16 (2 ^ w0 / n ^ (2 * j + 1))).length ≤ 942 := term_len16 (P := w0) (Nat.le_trans (Nat.div_le_self _ _) (by omega)) (by omega)
  have lS : (dig B16 (sN n w0 j)).length ≤ 942 := term_len16 (P := w0) (sN_le hn _) (by omega)
  have lS1 : (dig B16 (sN n w0 (j + 1))).length ≤ 942 := term_len16 (P := w0) (sN_le hn _) (by omega)
  have lT : (dig B16 (tj n w0 j)).length ≤ 942 := term_len16 (P := w0) (Nat.le_trans (Nat.div_le_self _ _) (by omega)) (by omega)
  refine wp_seq ?_
  refine wp_seq ?_
  refine sx_region ?_
  refine sv 19 (.slice p5 (dig B16 (2 ^ w0 / n ^ (2 * j + 1))).length c5) ?_
  refine sv 20 (.int .i64 (((dig B16 (2 ^ w0 / n ^ (2 * j + 1))).length : Nat) : Int)) ?_
  rcases Bool.eq_false_or_eq_true (decide ((((dig B16 (2 ^ w0 / n ^ (2 * j + 1))).length : Nat) : Int) > 0)) with f21 | f21
  · skip
    refine sv 21 (.bool true) ?_ (hr := ((show _ = Result.ok (Next.value (.bool (decide ((((dig B16 (2 ^ w0 / n ^ (2 * j + 1))).length : Nat) : Int) > 0)))) _ from (by kernel_rfl)).trans (congrArg (fun z => Result.ok (Next.value (.bool z)) _) (show (decide ((((dig B16 (2 ^ w0 / n ^ (2 * j + 1))).length : Nat) : Int) > 0)) = true from f21))))
    refine sx_nil ?_
    refine sx_then ?_
    refine wp_cond_true (by kernel_rfl) ?_
    refine wp_skip ?_
    refine sx_then ?_
    refine wp_seq ?_
    refine wp_block ?_
    refine wp_seq ?_
    refine sx_region ?_
    have hx := le_of_quot (n := n) (P := w0) (j := j) (pos_of_len16 (by have := of_decide_eq_true f21; omega))
    have hj2 := j_le hn hx
    have hx2 : ∀ i, i < j + 1 → n ^ (2 * i + 1) ≤ 2 ^ w0 := fun i hi => by rcases Nat.lt_or_ge i j with h | h; exact hne i h; rw [show i = j by omega]; exact hx
    have lJ : (dig B16 (2 * j + 1)).length ≤ 942 := term_len16 (P := w0) (Nat.le_trans hj2 (Nat.le_trans (Nat.le_of_lt Nat.lt_two_pow_self) (by omega))) (by omega)
    refine sv 25 (.slice p5 (dig B16 (2 ^ w0 / n ^ (2 * j + 1))).length c5) ?_
    refine sv 26 (.int .i64 ((2 * j + 1 : Nat) : Int)) ?_
    refine se 27 42 #[.int .i64 ((2 * j + 1 : Nat) : Int)] (fun Gx hGx => ?_)
    ((with_reducible refine (rfrom _ (2 * j + 1) rfl (by omega) _).mono ?_))
    rintro eV7 V7 ⟨p27, c27, rfl, x27, hbV7⟩
    have hzV7 := hbV7.size
    have lx27 := fun h => x27.lt h
    refine ⟨.slice p27 (dig B16 (2 * j + 1)).length c27, rfl, hGx _ _ ?_⟩
    clear hGx Gx
    replace x5 := (x5.past hbV7)
    refine se 28 46 #[.slice p5 (dig B16 (2 ^ w0 / n ^ (2 * j + 1))).length c5, .slice p27 (dig B16 (2 * j + 1)).length c27] (fun Gx hGx => ?_)
    ((with_reducible refine (rinto p5 p27 _ _ c5 c27 _ (2 * j + 1) (tj n w0 j) _ x5.rd x27.rd rfl rfl (by omega) (by omega) (by omega) (quot_term n w0 j)).mono ?_))
    rintro eV8 V8 ⟨p28, c28, r28, e28, f28, rfl, x28, hbV8⟩
    have hzV8 := hbV8.size
    have lx28 := fun h => x28.lt h
    refine ⟨.tuple #[.slice p28 (dig B16 (tj n w0 j)).length c28, .slice r28 e28 f28], rfl, hGx _ _ ?_⟩
    clear hGx Gx
    refine sv 24 (.tuple #[.slice p28 (dig B16 (tj n w0 j)).length c28, .slice r28 e28 f28]) ?_
    refine sv 29 (.slice p28 (dig B16 (tj n w0 j)).length c28) ?_
    refine sv 30 (.slice r28 e28 f28) ?_
    refine sv 9 (.slice p28 (dig B16 (tj n w0 j)).length c28) ?_
    refine sv 10 (.slice r28 e28 f28) ?_
    refine sx_nil ?_
    refine sx_then ?_
    refine wp_seq ?_
    refine sx_region ?_
    replace b7 := (b7.past (bthru hbV7 hbV8))
    refine sv 31 (.agg #[.bool false, .slice p7 m7 c7]) ?_ (hr := (exec_ld (by kernel_rfl) (run_ld b7 hT41 0 [.bool false, .slice p7 m7 c7] (by kernel_rfl) (by kernel_rfl))))
    refine sv 32 (.int .i64 ((2 * j + 1 : Nat) : Int)) ?_
    refine sv 33 (.int .i64 (((2 * j + 1) % 4 : Nat) : Int)) ?_ (hr := (exec_rem (((2 * j + 1) % 4 : Nat) : Int) (by kernel_rfl) (by kernel_rfl) ((show (4 : Int) ≠ 0 by omega)) ((by exact (Int.ofNat_tmod (2 * j + 1) 4).symm))))
    rcases Bool.eq_false_or_eq_true ((((2 * j + 1) % 4 : Nat) : Int) == 3) with f34 | f34
    · skip
      refine sv 34 (.bool true) ?_ (hr := ((show _ = Result.ok (Next.value (.bool ((((2 * j + 1) % 4 : Nat) : Int) == 3))) _ from (by kernel_rfl)).trans (congrArg (fun z => Result.ok (Next.value (.bool z)) _) (show ((((2 * j + 1) % 4 : Nat) : Int) == 3) = true from f34))))
      refine sv 35 (.bool true) ?_
      refine sv 36 (.slice p28 (dig B16 (tj n w0 j)).length c28) ?_
      refine sv 37 (.int .i64 (((dig B16 (tj n w0 j)).length : Nat) : Int)) ?_
      refine sv 38 (.bool (decide ((((dig B16 (tj n w0 j)).length : Nat) : Int) > 0))) ?_
      refine sv 39 (.bool (decide ((((dig B16 (tj n w0 j)).length : Nat) : Int) > 0))) ?_
      refine sv 40 (.slice p28 (dig B16 (tj n w0 j)).length c28) ?_
      refine sv 41 (.agg #[.bool (decide ((((dig B16 (tj n w0 j)).length : Nat) : Int) > 0)), .slice p28 (dig B16 (tj n w0 j)).length c28]) ?_
      replace x7 := (x7.past (bthru hbV7 hbV8))
      refine se 42 69 #[.agg #[.bool false, .slice p7 m7 c7], .agg #[.bool (decide ((((dig B16 (tj n w0 j)).length : Nat) : Int) > 0)), .slice p28 (dig B16 (tj n w0 j)).length c28]] (fun Gx hGx => ?_)
      ((with_reducible refine (zplus_any (sN n w0 j) (tj n w0 j) (sN n w0 (j + 1)) _ p7 p28 m7 c7 c28 _ x7.rd hm7 x28.rd (by omega) (by omega) (by omega) (by have h1 := sN_odd (P := w0) hn (j := j) (by have := beq_iff_eq.1 f34; omega); rw [sg_len]; omega)).mono ?_))
      rintro eV9 V9 ⟨p42, c42, rfl, x42, hbV9⟩
      have hzV9 := hbV9.size
      have lx42 := fun h => x42.lt h
      refine ⟨.agg #[.bool false, .slice p42 (dig B16 (sN n w0 (j + 1))).length c42], rfl, hGx _ _ ?_⟩
      clear hGx Gx
      replace b7 := (b7.past hbV9)
      refine ss none b7 hT41 0 #[.bool false, .slice p42 (dig B16 (sN n w0 (j + 1))).length c42] #[.bool false, .slice p42 (dig B16 (sN n w0 (j + 1))).length c42] ?_
      have boV10 := b7
      clear b7
      intro V10 hOV10 b7
      have hzV10 := hOV10.size
      refine sx_nil ?_
      refine sx_then ?_
      refine sx_region ?_
      refine sv 44 (.slice p5 (dig B16 (2 ^ w0 / n ^ (2 * j + 1))).length c5) ?_
      refine sv 45 (.int .i64 ((n : Nat) : Int)) ?_
      refine sv 46 (.int .i64 ((n : Nat) : Int)) ?_
      refine sv 47 (.int .i64 ((n * n : Nat) : Int)) ?_ (hr := ((show _ = Result.ok (Next.value (.int .i64 (IntKind.wrap .i64 (((n : Nat) : Int) * ((n : Nat) : Int))))) _ by kernel_rfl).trans (congrArg (fun z => Result.ok (Next.value (.int .i64 z)) _) ((by rw [← Int.natCast_mul]; exact IntWalk.i64_in _ (by omega))))))
      refine se 48 42 #[.int .i64 ((n * n : Nat) : Int)] (fun Gx hGx => ?_)
      ((with_reducible refine (rfrom _ (n * n) rfl (by omega) _).mono ?_))
      rintro eV11 V11 ⟨p48, c48, rfl, x48, hbV11⟩
      have hzV11 := hbV11.size
      have lx48 := fun h => x48.lt h
      refine ⟨.slice p48 (dig B16 (n * n)).length c48, rfl, hGx _ _ ?_⟩
      clear hGx Gx
      replace x5 := (((x5.past (bthru hbV8 hbV9)).only hOV10 (fun h => by have := lx5 h; omega)).past hbV11)
      refine se 49 46 #[.slice p5 (dig B16 (2 ^ w0 / n ^ (2 * j + 1))).length c5, .slice p48 (dig B16 (n * n)).length c48] (fun Gx hGx => ?_)
      ((with_reducible refine (rinto p5 p48 _ _ c5 c48 _ (n * n) _ _ x5.rd x48.rd rfl rfl (by omega) (by omega) (by omega) (quot_next n w0 j)).mono ?_))
      rintro eV12 V12 ⟨p49, c49, r49, e49, f49, rfl, x49, hbV12⟩
      have hzV12 := hbV12.size
      have lx49 := fun h => x49.lt h
      refine ⟨.tuple #[.slice p49 (dig B16 (2 ^ w0 / n ^ (2 * (j + 1) + 1))).length c49, .slice r49 e49 f49], rfl, hGx _ _ ?_⟩
      clear hGx Gx
      refine sv 43 (.tuple #[.slice p49 (dig B16 (2 ^ w0 / n ^ (2 * (j + 1) + 1))).length c49, .slice r49 e49 f49]) ?_
      refine sv 50 (.slice p49 (dig B16 (2 ^ w0 / n ^ (2 * (j + 1) + 1))).length c49) ?_
      refine sv 51 (.slice r49 e49 f49) ?_
      refine sv 5 (.slice p49 (dig B16 (2 ^ w0 / n ^ (2 * (j + 1) + 1))).length c49) ?_
      refine sx_nil ?_
      refine sx_inblock ?_
      refine sx_then ?_
      refine sx_region ?_
      refine sv 22 (.int .i64 ((2 * j + 1 : Nat) : Int)) ?_
      refine sv 23 (.int .i64 ((2 * (j + 1) + 1 : Nat) : Int)) ?_ (hr := ((show _ = Result.ok (Next.value (.int .i64 (IntKind.wrap .i64 (((2 * j + 1 : Nat) : Int) + 2)))) _ by kernel_rfl).trans (congrArg (fun z => Result.ok (Next.value (.int .i64 z)) _) ((by rw [show (((2 * j + 1 : Nat) : Int) + 2) = ((2 * (j + 1) + 1 : Nat) : Int) by omega]; exact IntWalk.i64_in _ (by omega))))))
      refine sv 8 (.int .i64 ((2 * (j + 1) + 1 : Nat) : Int)) ?_
      refine sx_nil ?_
      refine sx_then ?_
      replace b7 := (b7.past (bthru hbV11 hbV12))
      refine ⟨gk0 - 1, (by omega), ?_⟩
      replace x42 := ((x42.only hOV10 (fun h => by have := lx42 h; omega)).past (bthru hbV11 hbV12))
      exact ⟨j + 1, p49, c49, p42, (dig B16 (sN n w0 (j + 1))).length, c42, by kernel_rfl, b7, x49.mono (by omega), x42.mono (by omega), ((((((((Keep.refl V4.heap.size V5).trans hOV6).step hbV7).step hbV8).step hbV9).put hOV10 (by omega)).step hbV11).step hbV12), (by omega), hx2, rfl, (fun h => by have := lx49 h; omega), (fun h => by have := lx42 h; omega)⟩
    refine sv 34 (.bool false) ?_ (hr := ((show _ = Result.ok (Next.value (.bool ((((2 * j + 1) % 4 : Nat) : Int) == 3))) _ from (by kernel_rfl)).trans (congrArg (fun z => Result.ok (Next.value (.bool z)) _) (show ((((2 * j + 1) % 4 : Nat) : Int) == 3) = false from f34))))
    refine sv 35 (.bool false) ?_
    refine so (some 36) ?_
    refine so (some 37) ?_
    refine so (some 38) ?_
    refine sv 39 (.bool false) ?_
    refine sv 40 (.slice p28 (dig B16 (tj n w0 j)).length c28) ?_
    refine sv 41 (.agg #[.bool false, .slice p28 (dig B16 (tj n w0 j)).length c28]) ?_
    replace x7 := (x7.past (bthru hbV7 hbV8))
    refine se 42 69 #[.agg #[.bool false, .slice p7 m7 c7], .agg #[.bool false, .slice p28 (dig B16 (tj n w0 j)).length c28]] (fun Gx hGx => ?_)
    ((with_reducible refine (zplus_any (sN n w0 j) (tj n w0 j) (sN n w0 (j + 1)) false p7 p28 m7 c7 c28 _ x7.rd hm7 x28.rd (by omega) (by omega) (by omega) (by have h1 := sN_even (P := w0) hn (j := j) (by have := beq_eq_false_iff_ne.1 f34; omega); unfold sg; simp only [Bool.false_eq_true, if_false]; omega)).mono ?_))
    rintro eV9 V9 ⟨p42, c42, rfl, x42, hbV9⟩
    have hzV9 := hbV9.size
    have lx42 := fun h => x42.lt h
    refine ⟨.agg #[.bool false, .slice p42 (dig B16 (sN n w0 (j + 1))).length c42], rfl, hGx _ _ ?_⟩
    clear hGx Gx
    replace b7 := (b7.past hbV9)
    refine ss none b7 hT41 0 #[.bool false, .slice p42 (dig B16 (sN n w0 (j + 1))).length c42] #[.bool false, .slice p42 (dig B16 (sN n w0 (j + 1))).length c42] ?_
    have boV10 := b7
    clear b7
    intro V10 hOV10 b7
    have hzV10 := hOV10.size
    refine sx_nil ?_
    refine sx_then ?_
    refine sx_region ?_
    refine sv 44 (.slice p5 (dig B16 (2 ^ w0 / n ^ (2 * j + 1))).length c5) ?_
    refine sv 45 (.int .i64 ((n : Nat) : Int)) ?_
    refine sv 46 (.int .i64 ((n : Nat) : Int)) ?_
    refine sv 47 (.int .i64 ((n * n : Nat) : Int)) ?_ (hr := ((show _ = Result.ok (Next.value (.int .i64 (IntKind.wrap .i64 (((n : Nat) : Int) * ((n : Nat) : Int))))) _ by kernel_rfl).trans (congrArg (fun z => Result.ok (Next.value (.int .i64 z)) _) ((by rw [← Int.natCast_mul]; exact IntWalk.i64_in _ (by omega))))))
    refine se 48 42 #[.int .i64 ((n * n : Nat) : Int)] (fun Gx hGx => ?_)
    ((with_reducible refine (rfrom _ (n * n) rfl (by omega) _).mono ?_))
    rintro eV11 V11 ⟨p48, c48, rfl, x48, hbV11⟩
    have hzV11 := hbV11.size
    have lx48 := fun h => x48.lt h
    refine ⟨.slice p48 (dig B16 (n * n)).length c48, rfl, hGx _ _ ?_⟩
    clear hGx Gx
    replace x5 := (((x5.past (bthru hbV8 hbV9)).only hOV10 (fun h => by have := lx5 h; omega)).past hbV11)
    refine se 49 46 #[.slice p5 (dig B16 (2 ^ w0 / n ^ (2 * j + 1))).length c5, .slice p48 (dig B16 (n * n)).length c48] (fun Gx hGx => ?_)
    ((with_reducible refine (rinto p5 p48 _ _ c5 c48 _ (n * n) _ _ x5.rd x48.rd rfl rfl (by omega) (by omega) (by omega) (quot_next n w0 j)).mono ?_))
    rintro eV12 V12 ⟨p49, c49, r49, e49, f49, rfl, x49, hbV12⟩
    have hzV12 := hbV12.size
    have lx49 := fun h => x49.lt h
    refine ⟨.tuple #[.slice p49 (dig B16 (2 ^ w0 / n ^ (2 * (j + 1) + 1))).length c49, .slice r49 e49 f49], rfl, hGx _ _ ?_⟩
    clear hGx Gx
    refine sv 43 (.tuple #[.slice p49 (dig B16 (2 ^ w0 / n ^ (2 * (j + 1) + 1))).length c49, .slice r49 e49 f49]) ?_
    refine sv 50 (.slice p49 (dig B16 (2 ^ w0 / n ^ (2 * (j + 1) + 1))).length c49) ?_
    refine sv 51 (.slice r49 e49 f49) ?_
    refine sv 5 (.slice p49 (dig B16 (2 ^ w0 / n ^ (2 * (j + 1) + 1))).length c49) ?_
    refine sx_nil ?_
    refine sx_inblock ?_
    refine sx_then ?_
    refine sx_region ?_
    refine sv 22 (.int .i64 ((2 * j + 1 : Nat) : Int)) ?_
    refine sv 23 (.int .i64 ((2 * (j + 1) + 1 : Nat) : Int)) ?_ (hr := ((show _ = Result.ok (Next.value (.int .i64 (IntKind.wrap .i64 (((2 * j + 1 : Nat) : Int) + 2)))) _ by kernel_rfl).trans (congrArg (fun z => Result.ok (Next.value (.int .i64 z)) _) ((by rw [show (((2 * j + 1 : Nat) : Int) + 2) = ((2 * (j + 1) + 1 : Nat) : Int) by omega]; exact IntWalk.i64_in _ (by omega))))))
    refine sv 8 (.int .i64 ((2 * (j + 1) + 1 : Nat) : Int)) ?_
    refine sx_nil ?_
    refine sx_then ?_
    replace b7 := (b7.past (bthru hbV11 hbV12))
    refine ⟨gk0 - 1, (by omega), ?_⟩
    replace x42 := ((x42.only hOV10 (fun h => by have := lx42 h; omega)).past (bthru hbV11 hbV12))
    exact ⟨j + 1, p49, c49, p42, (dig B16 (sN n w0 (j + 1))).length, c42, by kernel_rfl, b7, x49.mono (by omega), x42.mono (by omega), ((((((((Keep.refl V4.heap.size V5).trans hOV6).step hbV7).step hbV8).step hbV9).put hOV10 (by omega)).step hbV11).step hbV12), (by omega), hx2, rfl, (fun h => by have := lx49 h; omega), (fun h => by have := lx42 h; omega)⟩
  refine sv 21 (.bool false) ?_ (hr := ((show _ = Result.ok (Next.value (.bool (decide ((((dig B16 (2 ^ w0 / n ^ (2 * j + 1))).length : Nat) : Int) > 0)))) _ from (by kernel_rfl)).trans (congrArg (fun z => Result.ok (Next.value (.bool z)) _) (show (decide ((((dig B16 (2 ^ w0 / n ^ (2 * j + 1))).length : Nat) : Int) > 0)) = false from f21))))
  refine sx_nil ?_
  refine sx_then ?_
  refine wp_cond_false (by kernel_rfl) ?_
  refine wp_exit ?_
  repeat (with_reducible refine sx_thenexit ?_)
  refine sx_exit (id := 0) ?_
  refine sx_then ?_
  refine wp_seq ?_
  refine sx_region ?_
  refine sv 52 (.agg #[.bool false, .slice p7 m7 c7]) ?_ (hr := (exec_ld (by kernel_rfl) (run_ld b7 hT41 0 [.bool false, .slice p7 m7 c7] (by kernel_rfl) (by kernel_rfl))))
  replace b4 := (b4.past ((bthru (bthru (bthru hbV2 hbV3) hbV4) hbV5).trans (hOV6.below (by omega) (by omega))))
  refine ss none b4 hT41 0 #[.bool false, .slice p7 m7 c7] #[.bool false, .slice p7 m7 c7] ?_
  have boV7 := b4
  clear b4
  intro V7 hOV7 b4
  have hzV7 := hOV7.size
  refine sx_nil ?_
  refine sx_then ?_
  refine wp_ret ?_
  have ⟨b4_0, b4_1⟩ := b4.bx.e2
  repeat (first | with_reducible refine sx_thenret ?_ | with_reducible refine sx_blockret ?_)
  refine bodyPost_ret (v := .agg #[.bool false, .slice p7 m7 c7]) (by simp [results, Tryd.results41, go_sem, b4_0, b4_1]) rfl ?_
  have hIJ : IsJ n w0 j := isJ_of ((dig_len_zero B16_two _).1 (by have := of_decide_eq_false f21; omega)) hne (by omega)
  have hIJ2 := isJ_le hn hIJ
  have he : sN n w0 (w0 + 1) = sN n w0 j := by unfold sN; rw [sI_stop true hn hIJ (by omega)]
  rw [he]
  replace x7 := (x7.only hOV7 (fun h => by have := lx7 h; omega))
  exact ⟨p7, c7, by rw [hm7], x7, (((bthru (bthru (bthru (bthru hbV1 hbV2) hbV3) hbV4) hbV5).trans (hOV6.below (by omega) (by omega))).trans (hOV7.below (by omega)))⟩

/-- The reference's number of the circle. -/
def piN (P : Nat) : Nat := sN 18 P (P + 1) * 48 + sN 57 P (P + 1) * 32 - sN 239 P (P + 1) * 20

set_option maxHeartbeats 4000000 in
set_option maxRecDepth 100000 in
theorem piOf_any (P0 : Int) (P : Nat) (w : World) (hP0 : P0 = P) (hP : P ≤ 1500) (hle : sN 239 P (P + 1) * 20 ≤ sN 18 P (P + 1) * 48 + sN 57 P (P + 1) * 32) :
    Calls Tryd.prog 14 #[.int .i64 P0] w (GivesZ w (piN P)) := by
  subst hP0
  have g1 := sN_le (n := 18) (P := P) (by omega) (P + 1)
  have g2 := sN_le (n := 57) (P := P) (by omega) (P + 1)
  have g3 := sN_le (n := 239) (P := P) (by omega) (P + 1)
  have l1 : (dig B16 (sN 18 P (P + 1))).length ≤ 942 := term_len16 (P := P) g1 (by omega)
  have l2 : (dig B16 (sN 57 P (P + 1))).length ≤ 942 := term_len16 (P := P) g2 (by omega)
  have l3 : (dig B16 (sN 239 P (P + 1))).length ≤ 942 := term_len16 (P := P) g3 (by omega)
  have k : ∀ x : Nat, x ≤ 1000 * 2 ^ P → (dig B16 x).length ≤ 942 := fun x hx => term_len16 (P := P + 10) (by rw [Nat.pow_add]; omega) (by omega)
  have m1 := k (sN 18 P (P + 1) * 48) (by omega)
  have m2 := k (sN 57 P (P + 1) * 32) (by omega)
  have m3 := k (sN 239 P (P + 1) * 20) (by omega)
  have m4 := k (sN 18 P (P + 1) * 48 + sN 57 P (P + 1) * 32) (by omega)
  have lq : ∀ x : Nat, x ≤ 1000 → (dig B16 x).length ≤ 942 := fun x hx => term_len16 (P := 10) (by omega) (by omega)
  have q1 := lq 48 (by omega)
  have q2 := lq 32 (by omega)
  have q3 := lq 20 (by omega)
  clear g1 g2 g3 k lq
  have hT41 : SxAgg Tryd.prog 41 2 := sxAgg_of (by kernel_rfl) (by kernel_rfl)
  refine calls_of_wp Tryd.func14 rfl ?_
  refine sx_frame (a' := ⟨((.int .i64 ((P : Nat) : Int)) :: undef :: undef :: undef :: undef :: undef :: undef :: undef :: undef :: undef :: undef :: undef :: undef :: undef :: undef :: undef :: undef :: undef :: undef :: undef :: undef :: undef :: undef :: undef :: undef :: undef :: undef :: []).toArray, []⟩) (by kernel_rfl) ?_
  refine wp_seq ?_
  refine sx_region ?_
  refine sn 2 #[.bool false, .slice none 0 0] 41 (fun V1 hbV1 hzV1 b2 => ?_)
  refine sx_nil ?_
  refine sx_then ?_
  refine wp_seq ?_
  refine sx_region ?_
  refine sv 6 (.int .i64 ((P : Nat) : Int)) ?_
  refine se 7 41 #[.int .i64 18, .int .i64 ((P : Nat) : Int)] (fun Gx hGx => ?_)
  ((with_reducible refine (atanOf_any 18 _ 18 P _ rfl rfl (by omega) (by omega) (by omega)).mono ?_))
  rintro eV2 V2 ⟨p7, c7, rfl, x7, hbV2⟩
  have hzV2 := hbV2.size
  have lx7 := fun h => x7.lt h
  refine ⟨.agg #[.bool false, .slice p7 (dig B16 (sN 18 P (P + 1))).length c7], rfl, hGx _ _ ?_⟩
  clear hGx Gx
  refine sv 8 (.slice p7 (dig B16 (sN 18 P (P + 1))).length c7) ?_
  refine se 9 42 #[.int .i64 48] (fun Gx hGx => ?_)
  ((with_reducible refine (rfrom 48 48 rfl (by omega) _).mono ?_))
  rintro eV3 V3 ⟨p9, c9, rfl, x9, hbV3⟩
  have hzV3 := hbV3.size
  have lx9 := fun h => x9.lt h
  refine ⟨.slice p9 (dig B16 48).length c9, rfl, hGx _ _ ?_⟩
  clear hGx Gx
  replace x7 := (x7.past hbV3)
  refine se 10 40 #[.slice p7 (dig B16 (sN 18 P (P + 1))).length c7, .slice p9 (dig B16 48).length c9] (fun Gx hGx => ?_)
  ((with_reducible refine (rtimes p7 p9 _ _ c7 c9 _ 48 (sN 18 P (P + 1) * 48) _ x7.rd x9.rd rfl rfl (by omega) (by omega) rfl).mono ?_))
  rintro eV4 V4 ⟨p10, c10, rfl, x10, hbV4⟩
  have hzV4 := hbV4.size
  have lx10 := fun h => x10.lt h
  refine ⟨.slice p10 (dig B16 (sN 18 P (P + 1) * 48)).length c10, rfl, hGx _ _ ?_⟩
  clear hGx Gx
  refine sv 3 (.slice p10 (dig B16 (sN 18 P (P + 1) * 48)).length c10) ?_
  refine sx_nil ?_
  refine sx_then ?_
  refine wp_seq ?_
  refine sx_region ?_
  refine sv 11 (.int .i64 ((P : Nat) : Int)) ?_
  refine se 12 41 #[.int .i64 57, .int .i64 ((P : Nat) : Int)] (fun Gx hGx => ?_)
  ((with_reducible refine (atanOf_any 57 _ 57 P _ rfl rfl (by omega) (by omega) (by omega)).mono ?_))
  rintro eV5 V5 ⟨p12, c12, rfl, x12, hbV5⟩
  have hzV5 := hbV5.size
  have lx12 := fun h => x12.lt h
  refine ⟨.agg #[.bool false, .slice p12 (dig B16 (sN 57 P (P + 1))).length c12], rfl, hGx _ _ ?_⟩
  clear hGx Gx
  refine sv 13 (.slice p12 (dig B16 (sN 57 P (P + 1))).length c12) ?_
  refine se 14 42 #[.int .i64 32] (fun Gx hGx => ?_)
  ((with_reducible refine (rfrom 32 32 rfl (by omega) _).mono ?_))
  rintro eV6 V6 ⟨p14, c14, rfl, x14, hbV6⟩
  have hzV6 := hbV6.size
  have lx14 := fun h => x14.lt h
  refine ⟨.slice p14 (dig B16 32).length c14, rfl, hGx _ _ ?_⟩
  clear hGx Gx
  replace x12 := (x12.past hbV6)
  refine se 15 40 #[.slice p12 (dig B16 (sN 57 P (P + 1))).length c12, .slice p14 (dig B16 32).length c14] (fun Gx hGx => ?_)
  ((with_reducible refine (rtimes p12 p14 _ _ c12 c14 _ 32 (sN 57 P (P + 1) * 32) _ x12.rd x14.rd rfl rfl (by omega) (by omega) rfl).mono ?_))
  rintro eV7 V7 ⟨p15, c15, rfl, x15, hbV7⟩
  have hzV7 := hbV7.size
  have lx15 := fun h => x15.lt h
  refine ⟨.slice p15 (dig B16 (sN 57 P (P + 1) * 32)).length c15, rfl, hGx _ _ ?_⟩
  clear hGx Gx
  refine sv 4 (.slice p15 (dig B16 (sN 57 P (P + 1) * 32)).length c15) ?_
  refine sx_nil ?_
  refine sx_then ?_
  refine wp_seq ?_
  refine sx_region ?_
  refine sv 16 (.int .i64 ((P : Nat) : Int)) ?_
  refine se 17 41 #[.int .i64 239, .int .i64 ((P : Nat) : Int)] (fun Gx hGx => ?_)
  ((with_reducible refine (atanOf_any 239 _ 239 P _ rfl rfl (by omega) (by omega) (by omega)).mono ?_))
  rintro eV8 V8 ⟨p17, c17, rfl, x17, hbV8⟩
  have hzV8 := hbV8.size
  have lx17 := fun h => x17.lt h
  refine ⟨.agg #[.bool false, .slice p17 (dig B16 (sN 239 P (P + 1))).length c17], rfl, hGx _ _ ?_⟩
  clear hGx Gx
  refine sv 18 (.slice p17 (dig B16 (sN 239 P (P + 1))).length c17) ?_
  refine se 19 42 #[.int .i64 20] (fun Gx hGx => ?_)
  ((with_reducible refine (rfrom 20 20 rfl (by omega) _).mono ?_))
  rintro eV9 V9 ⟨p19, c19, rfl, x19, hbV9⟩
  have hzV9 := hbV9.size
  have lx19 := fun h => x19.lt h
  refine ⟨.slice p19 (dig B16 20).length c19, rfl, hGx _ _ ?_⟩
  clear hGx Gx
  replace x17 := (x17.past hbV9)
  refine se 20 40 #[.slice p17 (dig B16 (sN 239 P (P + 1))).length c17, .slice p19 (dig B16 20).length c19] (fun Gx hGx => ?_)
  ((with_reducible refine (rtimes p17 p19 _ _ c17 c19 _ 20 (sN 239 P (P + 1) * 20) _ x17.rd x19.rd rfl rfl (by omega) (by omega) rfl).mono ?_))
  rintro eV10 V10 ⟨p20, c20, rfl, x20, hbV10⟩
  have hzV10 := hbV10.size
  have lx20 := fun h => x20.lt h
  refine ⟨.slice p20 (dig B16 (sN 239 P (P + 1) * 20)).length c20, rfl, hGx _ _ ?_⟩
  clear hGx Gx
  refine sv 5 (.slice p20 (dig B16 (sN 239 P (P + 1) * 20)).length c20) ?_
  refine sx_nil ?_
  refine sx_then ?_
  refine wp_seq ?_
  refine sx_region ?_
  refine sv 21 (.slice p10 (dig B16 (sN 18 P (P + 1) * 48)).length c10) ?_
  refine sv 22 (.slice p15 (dig B16 (sN 57 P (P + 1) * 32)).length c15) ?_
  replace x10 := (x10.past (bthru (bthru (bthru (bthru (bthru hbV5 hbV6) hbV7) hbV8) hbV9) hbV10))
  replace x15 := (x15.past (bthru (bthru hbV8 hbV9) hbV10))
  refine se 23 44 #[.slice p10 (dig B16 (sN 18 P (P + 1) * 48)).length c10, .slice p15 (dig B16 (sN 57 P (P + 1) * 32)).length c15] (fun Gx hGx => ?_)
  ((with_reducible refine (rplus p10 p15 _ _ c10 c15 _ _ (sN 18 P (P + 1) * 48 + sN 57 P (P + 1) * 32) _ x10.rd x15.rd rfl rfl (by omega) (by omega) rfl).mono ?_))
  rintro eV11 V11 ⟨p23, c23, rfl, x23, hbV11⟩
  have hzV11 := hbV11.size
  have lx23 := fun h => x23.lt h
  refine ⟨.slice p23 (dig B16 (sN 18 P (P + 1) * 48 + sN 57 P (P + 1) * 32)).length c23, rfl, hGx _ _ ?_⟩
  clear hGx Gx
  refine sv 24 (.slice p20 (dig B16 (sN 239 P (P + 1) * 20)).length c20) ?_
  replace x20 := (x20.past hbV11)
  refine se 25 43 #[.slice p23 (dig B16 (sN 18 P (P + 1) * 48 + sN 57 P (P + 1) * 32)).length c23, .slice p20 (dig B16 (sN 239 P (P + 1) * 20)).length c20] (fun Gx hGx => ?_)
  ((with_reducible refine (rless p23 p20 _ _ c23 c20 _ _ (piN P) _ x23.rd x20.rd rfl rfl (by omega) hle rfl).mono ?_))
  rintro eV12 V12 ⟨p25, c25, rfl, x25, hbV12⟩
  have hzV12 := hbV12.size
  have lx25 := fun h => x25.lt h
  refine ⟨.slice p25 (dig B16 (piN P)).length c25, rfl, hGx _ _ ?_⟩
  clear hGx Gx
  refine sv 26 (.agg #[.bool false, .slice p25 (dig B16 (piN P)).length c25]) ?_
  replace b2 := (b2.past (bthru (bthru (bthru (bthru (bthru (bthru (bthru (bthru (bthru (bthru hbV2 hbV3) hbV4) hbV5) hbV6) hbV7) hbV8) hbV9) hbV10) hbV11) hbV12))
  refine ss none b2 hT41 0 #[.bool false, .slice p25 (dig B16 (piN P)).length c25] #[.bool false, .slice p25 (dig B16 (piN P)).length c25] ?_
  have boV13 := b2
  clear b2
  intro V13 hOV13 b2
  have hzV13 := hOV13.size
  refine sx_nil ?_
  refine sx_then ?_
  refine wp_ret ?_
  have ⟨b2_0, b2_1⟩ := b2.bx.e2
  repeat (first | with_reducible refine sx_thenret ?_ | with_reducible refine sx_blockret ?_)
  refine bodyPost_ret (v := .agg #[.bool false, .slice p25 (dig B16 (piN P)).length c25]) (by simp [results, Tryd.results14, go_sem, b2_0, b2_1]) rfl ?_
  replace x25 := (x25.only hOV13 (fun h => by have := lx25 h; omega))
  exact ⟨p25, c25, rfl, x25.mono (by omega), ((bthru (bthru (bthru (bthru (bthru (bthru (bthru (bthru (bthru (bthru (bthru hbV1 hbV2) hbV3) hbV4) hbV5) hbV6) hbV7) hbV8) hbV9) hbV10) hbV11) hbV12).trans (hOV13.below (by omega)))⟩

end Go.Proofs.YtehodhanojgkgaaDoor
