/- What is rounded, as a number: it is in the grid; who is more is rounded to no less. Plain arithmetic. No program is in sight here. -/
import Derived.Lib.Strings
import Derived.Lib.Slices
import Derived.Lib.Small
import Derived.Lib.Walk
import Derived.Lib.BitFns
import Derived.Deep.LoopGhost
import Derived.Deep.RegionHeld3
import Derived.Carry
import Derived.Test.YtmacohmclpnphaaGreatDoorZd1
import Derived.Test.YtmacohmclpnphaaGreatDoorZd2
import Derived.Test.YtmacohmclpnphaaGreatDoorZd3
import Derived.Test.YtmacohmclpnphaaGreatDoorZd4
import Derived.Test.YtmacohmclpnphaaGreatDoorZd5
import Derived.Test.YtmacohmclpnphaaGreatDoorZd6
set_option maxHeartbeats 8000000
set_option maxRecDepth 100000
namespace Go.Slip
theorem u0u (g : Bool) (x : Int) : bare ⟨g, 0, x⟩ = ⟨false, 0, 0⟩ := by unfold bare; simp
def rv (neg : Bool) (num den : Nat) (e : Int) (g : Gd) (way : Int) : Dv := bare ⟨(a0s neg num den e g way).neg, (a0s neg num den e g way).d, wid g * (a0s neg num den e g way).pow⟩
theorem a1x (neg : Bool) (den : Nat) (e : Int) (g : Gd) (way : Int) : rv neg 0 den e g way = ⟨false, 0, 0⟩ := by
 unfold rv a0s
 rw [if_pos rfl]
 exact u0u _ _
def okP (p : Pl) (g : Gd) : Bool := !p.over && (!p.under || g.grad)
theorem m1a {neg : Bool} {num den : Nat} {e : Int} {g : Gd} {way : Int} (hd : 0 < den) (G : k0c g) (hok : okP (a0s neg num den e g way) g = true) : b0u (rv neg num den e g way) g = true := by
 by_cases h0 : num = 0
 · subst h0; rw [a1x]; rfl
 · have hK := l0y (num := num) (by omega) hd e (w := wid g) (D := g.digs.toNat) (b0l g).1 (by have := G.d1; omega)
   have hD : 1 ≤ g.digs.toNat := by have := G.d1; omega
   unfold rv a0s at *
   rw [if_neg h0] at *
   generalize theK num den e (wid g) g.digs.toNat = K at *
   have hq := q_lt hd hD (z0p hd hK (z0o g K))
   have hover : powP neg num den e (wid g) g.digs.toNat way (powK g K) ≤ g.hi := by
    unfold okP at hok
    have : (fitK neg num den e g way K).over = decide (g.hi < powP neg num den e (wid g) g.digs.toNat way (powK g K)) := rfl
    rw [this] at hok
    simp only [Bool.and_eq_true, Bool.not_eq_true', decide_eq_false_iff_not] at hok
    omega
   have hunder : g.lo ≤ K ∨ g.grad = true := by
    unfold okP at hok
    have : (fitK neg num den e g way K).under = decide (K < g.lo) := rfl
    rw [this] at hok
    simp only [Bool.and_eq_true, Bool.or_eq_true, Bool.not_eq_true', decide_eq_false_iff_not] at hok
    rcases hok.2 with h | h
    · left; omega
    · right; exact h
   show b0u (bare ⟨neg, digP neg num den e (wid g) g.digs.toNat way (powK g K), wid g * (if digP neg num den e (wid g) g.digs.toNat way (powK g K) = 0 then 0 else powP neg num den e (wid g) g.digs.toNat way (powK g K))⟩) g = true
   by_cases hd0 : digP neg num den e (wid g) g.digs.toNat way (powK g K) = 0
   · rw [hd0, u0u]; rfl
   · rw [if_neg hd0, ← l0j]
     have hDD : g.digs = (g.digs.toNat : Int) := by have := G.d1; omega
     have habs : (sg neg (digP neg num den e (wid g) g.digs.toNat way (powK g K))).natAbs = digP neg num den e (wid g) g.digs.toNat way (powK g K) := by unfold sg; cases neg <;> simp
     have hlow : g.lo ≤ powK g K ∧ (2 ^ (wid g * (g.digs.toNat - 1)) ≤ qP num den (e - wid g * powK g K) ∨ (g.grad = true ∧ powK g K = g.lo)) := by
      by_cases hu : K < g.lo
      · have hg : g.grad = true := by rcases hunder with h | h; omega; exact h
        have : powK g K = g.lo := by unfold powK; rw [if_pos ⟨hu, hg⟩]
        exact ⟨by omega, .inr ⟨hg, this⟩⟩
      · have : powK g K = K := by unfold powK; rw [if_neg (fun h => hu h.1)]
        rw [this]
        exact ⟨by omega, .inl hK.yes⟩
     have hww : wid g * (g.digs.toNat - 1) < wid g * g.digs.toNat := Nat.mul_lt_mul_of_pos_left (by omega) (b0l g).1
     refine i0u G hDD ?_ ?_ ?_ hover
     · rw [habs]
       unfold digP
       by_cases hl : j0i neg num den e (wid g) g.digs.toNat way (powK g K)
       · rw [if_pos hl]; exact Nat.pow_lt_pow_right (by omega) hww
       · rw [if_neg hl]
         unfold j0i at hl
         by_cases hu : upP neg num den e (wid g) way (powK g K) = true
         · exact (b0e _ _).1 (by have : ¬ wid g * g.digs.toNat < blen (dUp neg num den e (wid g) way (powK g K)) := fun h => hl ⟨hu, h⟩; omega)
         · have : upP neg num den e (wid g) way (powK g K) = false := by simpa using hu
           unfold dUp; rw [this]; simpa using hq
     · rw [habs]
       unfold digP powP
       by_cases hl : j0i neg num den e (wid g) g.digs.toNat way (powK g K)
       · rw [if_pos hl, if_pos hl]; exact .inr (.inl (Nat.le_refl _))
       · rw [if_neg hl, if_neg hl]
         rcases hlow.2 with h | h
         · exact .inr (.inl (by unfold dUp; omega))
         · exact .inr (.inr h)
     · unfold powP; split <;> omega
theorem a1y {neg : Bool} {num den : Nat} {e : Int} {g : Gd} {way : Int} (hd : 0 < den) (G : k0c g) : (dig B32 (a0s neg num den e g way).d).length ≤ 16 := by
 unfold a0s
 by_cases h0 : num = 0
 · rw [if_pos h0]; simp [a0f]
 · rw [if_neg h0]
   have hK := l0y (num := num) (by omega) hd e (w := wid g) (D := g.digs.toNat) (b0l g).1 (by have := G.d1; omega)
   have h1 := c1s (neg := neg) (way := way) hd G hK
   have h2 : wid g * g.digs.toNat ≤ 480 := by
    have := Nat.mul_le_mul (b0l g).2 (show g.digs.toNat ≤ 120 by have := G.d2; omega)
    omega
   exact Nat.le_trans (a0o a0b (Nat.le_of_lt h1)) (g0l h2)
theorem k1s {neg : Bool} {num den : Nat} {e : Int} {g : Gd} {way : Int} (_ : 0 < den) (G : k0c g) (hok : okP (a0s neg num den e g way) g = true) : -17000 ≤ (a0s neg num den e g way).pow ∧ (a0s neg num den e g way).pow ≤ 17000 := by
 unfold a0s at *
 by_cases h0 : num = 0
 · rw [if_pos h0]; simp
 · rw [if_neg h0] at *
   generalize theK num den e (wid g) g.digs.toNat = K at *
   have hover : powP neg num den e (wid g) g.digs.toNat way (powK g K) ≤ g.hi := by
    unfold okP at hok
    have : (fitK neg num den e g way K).over = decide (g.hi < powP neg num den e (wid g) g.digs.toNat way (powK g K)) := rfl
    rw [this] at hok
    simp only [Bool.and_eq_true, Bool.not_eq_true', decide_eq_false_iff_not] at hok
    omega
   have hlow : g.lo ≤ powK g K := by
    unfold okP at hok
    have : (fitK neg num den e g way K).under = decide (K < g.lo) := rfl
    rw [this] at hok
    simp only [Bool.and_eq_true, Bool.or_eq_true, Bool.not_eq_true', decide_eq_false_iff_not] at hok
    unfold powK
    rcases hok.2 with h | h
    · rw [if_neg (fun k => h k.1)]; omega
    · by_cases hu : K < g.lo
      · rw [if_pos ⟨hu, h⟩]; omega
      · rw [if_neg (fun k => hu k.1)]; omega
   have h1 := G.l1
   have h2 := G.h2
   have hp : (fitK neg num den e g way K).pow = if digP neg num den e (wid g) g.digs.toNat way (powK g K) = 0 then 0 else powP neg num den e (wid g) g.digs.toNat way (powK g K) := rfl
   rw [hp]
   have h3 : powK g K ≤ powP neg num den e (wid g) g.digs.toNat way (powK g K) := by unfold powP; split <;> omega
   split
   · omega
   · omega
end Go.Slip
namespace Go.Proofs.YtmacohmclpnphaaGreatDoor
open Go.RowKit Go.Slip
structure ResF (f : Fm) (r : Vr) : Prop where
 c : 1 ≤ r.cls ∧ r.cls ≤ 5
 c1 : r.cls = 1 → r.neg = true → f.fam ≠ 3
 c2 : r.cls = 2 → b0u r.x f.g = true ∧ Bare r.x ∧ r.x.m ≠ 0 ∧ r.x.neg = r.neg
 c3 : r.cls = 3 → f.fam = 1
 c4 : r.cls = 4 → f.fam = 1 ∧ r.neg = false
 c5 : r.cls = 5 → f.fam = 3 ∧ r.neg = false
 x0 : r.cls ≠ 2 → r.x = vz
structure VRep (f : Fm) (v : Vl) (r : Vr) : Prop where
 cls : v.cls = r.cls
 neg : v.neg = r.neg
 num : r.cls = 2 → bare ⟨v.neg, v.d, wid f.g * v.pow⟩ = r.x
 oth : r.cls ≠ 2 → v.d = 0 ∧ v.pow = 0
 len : (dig B32 v.d).length ≤ 1000
 lo : -20000 ≤ v.pow
 hi : v.pow ≤ 20000
theorem f1s {f : Fm} {v : Vl} {r : Vr} (R : ResF f r) (V : VRep f v r) (p : Option Addr) (c : Nat) :
 a0n f (v.cls : Int) (dinV v p c) = 0 ∧ k0q f (v.cls : Int) (dinV v p c) = b0a (f.strP (f.encP r.cls r.neg r.x)) := by
 have hinf : f.inf = false ↔ f.fam ≠ 1 := by unfold Fm.inf; simp
 have hres : f.res = false ↔ f.fam ≠ 3 := by unfold Fm.res; simp
 have hres1 : f.res = true ↔ f.fam = 3 := by unfold Fm.res; simp
 have hc := R.c
 have hcl := V.cls
 have hlo := V.lo
 have hhi := V.hi
 have hE : a0u (dinV v p c).xs = 0 := g0q (by have := V.len; omega)
 have hN : r.cls = 2 → numD f (dinV v p c) = r.x := fun h => by
  rw [← V.num h]
  unfold numD dinV
  simp only [b0k a0b]
 refine ⟨?_, ?_⟩
 · unfold a0n
   rw [if_neg (by omega), if_neg (by omega), if_neg]
   · by_cases h2 : r.cls = 2
     · obtain ⟨i1, i2, i3, i4⟩ := R.c2 h2
       rw [if_pos (by omega), if_neg (by show ¬ (v.pow < _ ∨ _ < v.pow); omega), hN h2, i1, if_neg]
       rintro (h | h)
       · have h0 : v.d = 0 := (a0k a0b _).1 h
         have := V.num h2
         rw [h0] at this
         exact i3 (by rw [← this]; rfl)
       · cases h
     · obtain ⟨o1, o2⟩ := V.oth h2
       rw [if_neg (by omega), if_neg]
       rintro (h | h | ⟨h, k⟩)
       · have : (dig B32 v.d).length = 0 := by rw [o1, a0f]; rfl
         have h : 0 < (dig B32 v.d).length := h
         omega
       · exact h o2
       · have hg : r.neg = true := by rw [← V.neg]; exact h
         have k4 := R.c4
         have k5 := R.c5
         rw [hg] at k4 k5
         rcases k with k | k
         · rcases (show r.cls = 4 ∨ r.cls = 5 by omega) with q | q
           · exact absurd (k4 q).2 (by decide)
           · exact absurd (k5 q).2 (by decide)
         · rcases (show r.cls = 1 ∨ r.cls = 3 ∨ r.cls = 4 ∨ r.cls = 5 by omega) with q | q | q | q
           · exact R.c1 q hg (hres1.1 k)
           · have := R.c3 q; have := hres1.1 k; omega
           · exact absurd (k4 q).2 (by decide)
           · exact absurd (k5 q).2 (by decide)
   · rintro (⟨h | h, k⟩ | ⟨h, k⟩)
     · exact hinf.1 k (R.c3 (by omega))
     · exact hinf.1 k (R.c4 (by omega)).1
     · exact hres.1 k (R.c5 (by omega)).1
 · unfold k0q
   rw [show ((v.cls : Int)).toNat = r.cls by omega, show (dinV v p c).g = r.neg from V.neg]
   by_cases h2 : r.cls = 2
   · rw [hN h2]
   · rw [w0p f h2 r.neg _ r.x]
theorem k1t {neg : Bool} {num den : Nat} {e : Int} {g : Gd} {way : Int} (hd : 0 < den) (G : k0c g) (ho : (a0s neg num den e g way).over = false)
 (hu : (a0s neg num den e g way).under = true → g.grad = false → g.lo ≤ (a0s neg num den e g way).pow ∧ (a0s neg num den e g way).d ≠ 0) :
 b0u (rv neg num den e g way) g = true := by
 by_cases hok : okP (a0s neg num den e g way) g = true
 · exact m1a hd G hok
 · unfold okP at hok
   rw [ho] at hok
   simp only [Bool.not_false, Bool.true_and, Bool.or_eq_true, Bool.not_eq_true', not_or, Bool.not_eq_false, Bool.not_eq_true] at hok
   obtain ⟨h1, h2⟩ := hok
   obtain ⟨h3, h4⟩ := hu h1 h2
   by_cases h0 : num = 0
   · subst h0; rw [a1x]; rfl
   · unfold rv
     unfold a0s at *
     rw [if_neg h0] at *
     generalize theK num den e (wid g) g.digs.toNat = K at *
     have hk : K < g.lo := oTr h1
     have hp : powK g K = K := by unfold powK; rw [if_neg (fun h => by rw [h2] at h; cases h.2)]
     have e1 : (fitK neg num den e g way K).pow = if digP neg num den e (wid g) g.digs.toNat way (powK g K) = 0 then 0 else powP neg num den e (wid g) g.digs.toNat way (powK g K) := rfl
     have e2 : (fitK neg num den e g way K).d = digP neg num den e (wid g) g.digs.toNat way (powK g K) := rfl
     have e3 : (fitK neg num den e g way K).neg = neg := rfl
     rw [e2] at h4
     rw [e1, if_neg h4] at h3
     rw [e1, e2, e3, if_neg h4]
     rw [hp] at h3 h4 ⊢
     have hl : j0i neg num den e (wid g) g.digs.toNat way K := by
      by_cases h : j0i neg num den e (wid g) g.digs.toNat way K
      · exact h
      · unfold powP at h3; rw [if_neg h] at h3; omega
     unfold digP powP at *
     rw [if_pos hl] at h3
     rw [if_pos hl, if_pos hl]
     have hd1 := G.d1
     have hgl := G.le
     have hww : wid g * (g.digs.toNat - 1) < wid g * g.digs.toNat := Nat.mul_lt_mul_of_pos_left (by omega) (b0l g).1
     have habs : (sg neg (2 ^ (wid g * (g.digs.toNat - 1)))).natAbs = 2 ^ (wid g * (g.digs.toNat - 1)) := by unfold sg; cases neg <;> simp [Int.natAbs_pow]
     rw [← l0j]
     refine i0u G (show g.digs = (g.digs.toNat : Int) by omega) ?_ ?_ h3 (by omega)
     · rw [habs]; exact Nat.pow_lt_pow_right (by omega) hww
     · rw [habs]; exact .inr (.inl (Nat.le_refl _))
theorem m0p {g : Bool} {m : Nat} {e : Int} (h : m ≠ 0) : (bare ⟨g, m, e⟩).neg = g ∧ (bare ⟨g, m, e⟩).m ≠ 0 := by
 unfold bare
 rw [if_neg h]
 refine ⟨rfl, fun h2 => ?_⟩
 have := (c0t m (by omega)).2
 simp only at h2
 rw [h2] at this
 simp at this
/-! ### What comes -/
theorem i0w {f : Fm} (G : b0g f) (g : Bool) : ResF f (f.zeroM g) := by
 have := G.fam
 refine ⟨by show 1 ≤ 1 ∧ 1 ≤ 5; omega, fun _ h h3 => ?_, fun h => (by cases h), fun h => (by cases h), fun h => (by cases h), fun h => (by cases h), fun _ => rfl⟩
 have h : (g && decide (f.fam = 1)) = true := h
 simp [h3] at h
theorem b0w {f : Fm} (G : b0g f) : ResF f f.nothM := by
 have hf := G.fam
 unfold Fm.nothM
 rcases hf with h | h | h <;> rw [h] <;> refine ⟨?_, ?_, ?_, ?_, ?_, ?_, fun _ => rfl⟩ <;> simp [h]
theorem u0v {f : Fm} (h : f.fam = 1) (g : Bool) : ResF f (infM g) :=
 ⟨by show 1 ≤ 3 ∧ 3 ≤ 5; omega, fun h => (by cases h), fun h => (by cases h), fun _ => h, fun h => (by cases h), fun h => (by cases h), fun _ => rfl⟩
theorem e1f {f : Fm} (G : b0g f) (g : Bool) : 2 ^ (wid f.g * f.g.digs.toNat) - 1 ≠ 0 ∧ b0u (f.greatM g).x f.g = true := by
 have GG := b0s G.g
 have hd1 := GG.d1
 have hgl := GG.le
 have wp := b0l f.g
 have hww : wid f.g * (f.g.digs.toNat - 1) < wid f.g * f.g.digs.toNat := Nat.mul_lt_mul_of_pos_left (by omega) wp.1
 have h1 : 2 ^ (wid f.g * (f.g.digs.toNat - 1)) < 2 ^ (wid f.g * f.g.digs.toNat) := Nat.pow_lt_pow_right (by omega) hww
 have h2 : 0 < 2 ^ (wid f.g * (f.g.digs.toNat - 1)) := Nat.pow_pos (by omega)
 refine ⟨by omega, ?_⟩
 show b0u (bare ⟨g, 2 ^ (wid f.g * f.g.digs.toNat) - 1, wid f.g * f.g.hi⟩) f.g = true
 have habs : (sg g (2 ^ (wid f.g * f.g.digs.toNat) - 1)).natAbs = 2 ^ (wid f.g * f.g.digs.toNat) - 1 := by unfold sg; cases g <;> simp only [if_true, Bool.false_eq_true, if_false, Int.natAbs_neg, Int.natAbs_natCast]
 rw [← l0j]
 refine i0u GG (show f.g.digs = (f.g.digs.toNat : Int) by omega) ?_ ?_ hgl (Int.le_refl _)
 · rw [habs]; omega
 · rw [habs]; exact .inr (.inl (by omega))
theorem p0o {f : Fm} (G : b0g f) (g : Bool) : ResF f (f.greatM g) := by
 obtain ⟨h1, h2⟩ := e1f G g
 exact ⟨by show 1 ≤ 2 ∧ 2 ≤ 5; omega, fun h => (by cases h), fun _ => ⟨h2, g0w _, (m0p h1).2, (m0p h1).1⟩, fun h => (by cases h), fun h => (by cases h), fun h => (by cases h), fun h => absurd rfl h⟩
theorem m0q {f : Fm} (G : b0g f) (g : Bool) : VRep f ⟨2, g, 2 ^ (wid f.g * f.g.digs.toNat) - 1, f.g.hi⟩ (f.greatM g) := by
 have GG := b0s G.g
 have h1 := GG.h1
 have h2 := GG.h2
 have hd2 := GG.d2
 have wp := b0l f.g
 have hm : wid f.g * f.g.digs.toNat ≤ 4 * 120 := Nat.mul_le_mul wp.2 (by omega)
 refine ⟨rfl, rfl, fun _ => rfl, fun h => absurd rfl h, ?_, by show _ ≤ f.g.hi; omega, by show f.g.hi ≤ _; omega⟩
 exact Nat.le_trans (a0o a0b (Nat.sub_le _ _)) (Nat.le_trans (g0l hm) (by omega))
theorem f0b {f : Fm} {k : Nat} {g : Bool} {x : Dv} (h : k ≠ 2) : VRep f ⟨k, g, 0, 0⟩ ⟨k, g, x⟩ :=
 ⟨rfl, rfl, fun e => absurd e h, fun _ => ⟨rfl, rfl⟩, by show (dig B32 0).length ≤ _; rw [a0f]; decide, by show (-20000 : Int) ≤ 0; decide, by show (0 : Int) ≤ 20000; decide⟩
def _root_.Go.Slip.Fm.placedV (f : Fm) (p : Pl) (way : Int) : Vl :=
 if p.over then (if f.fam = 2 then ⟨2, p.neg, 2 ^ (wid f.g * f.g.digs.toNat) - 1, f.g.hi⟩ else if f.fam = 3 then ⟨f.nothM.cls, false, 0, 0⟩ else if way ≤ 2 ∨ (way = 4 ∧ p.neg = false) ∨ (way = 5 ∧ p.neg = true) then ⟨3, p.neg, 0, 0⟩ else ⟨2, p.neg, 2 ^ (wid f.g * f.g.digs.toNat) - 1, f.g.hi⟩)
 else if p.under = true ∧ f.fam ≠ 1 ∧ p.pow < f.g.lo then ⟨1, false, 0, 0⟩
 else if p.d = 0 then ⟨1, p.neg && decide (f.fam = 1), 0, 0⟩
 else ⟨2, p.neg, p.d, p.pow⟩
theorem f0n {f : Fm} (_G : b0g f) : f.nothM.cls ≠ 2 := by unfold Fm.nothM; simp only; split <;> (try split) <;> omega
theorem h0s {f : Fm} (G : b0g f) {neg : Bool} {num den : Nat} {e way : Int} (hd : 0 < den) :
 ResF f (f.placedM (a0s neg num den e f.g way) way).1 ∧ VRep f (f.placedV (a0s neg num den e f.g way) way) (f.placedM (a0s neg num den e f.g way) way).1 := by
 have GG := b0s G.g
 have hin := fun h1 h2 => k1t (neg := neg) (num := num) (e := e) (way := way) hd GG h1 h2
 have hlen := a1y (neg := neg) (num := num) (e := e) (way := way) hd GG
 have hpw := fun h => k1s (neg := neg) (num := num) (e := e) (way := way) hd GG h
 have hpw2 : (a0s neg num den e f.g way).over = false → (a0s neg num den e f.g way).pow ≤ 17000 := by
  intro h
  have hh := GG.h2
  unfold a0s at *
  by_cases h0 : num = 0
  · rw [if_pos h0]; simp
  · rw [if_neg h0] at *
    generalize theK num den e (wid f.g) f.g.digs.toNat = K at *
    have h1 : powP neg num den e (wid f.g) f.g.digs.toNat way (powK f.g K) ≤ f.g.hi := by
     have h : decide (f.g.hi < powP neg num den e (wid f.g) f.g.digs.toNat way (powK f.g K)) = false := h
     have := oFa h
     omega
    show (if digP neg num den e (wid f.g) f.g.digs.toNat way (powK f.g K) = 0 then 0 else powP neg num den e (wid f.g) f.g.digs.toNat way (powK f.g K)) ≤ 17000
    split <;> omega
 unfold rv at hin
 have hgr := G.grad
 have l1 := GG.l1
 generalize a0s neg num den e f.g way = p at *
 unfold Fm.placedM Fm.placedV
 cases ho : p.over with
 | true =>
  simp only [if_true]
  by_cases h2 : f.fam = 2
  · rw [if_pos h2, if_pos h2]; exact ⟨p0o G _, m0q G _⟩
  · rw [if_neg h2, if_neg h2]
    by_cases h3 : f.fam = 3
    · rw [if_pos h3, if_pos h3]; exact ⟨b0w G, f0b (f0n G)⟩
    · have hf : f.fam = 1 := by have := G.fam; omega
      rw [if_neg h3, if_neg h3]
      split
      · exact ⟨u0v hf _, f0b (by decide)⟩
      · exact ⟨p0o G _, m0q G _⟩
 | false =>
  simp only [Bool.false_eq_true, if_false]
  by_cases hz : p.under = true ∧ f.fam ≠ 1 ∧ p.pow < f.g.lo
  · rw [if_pos hz, if_pos hz]
    exact ⟨i0w G _, f0b (by decide)⟩
  · rw [if_neg hz, if_neg hz]
    by_cases hd0 : p.d = 0
    · rw [if_pos hd0, if_pos hd0]
      exact ⟨i0w G _, f0b (by decide)⟩
    · rw [if_neg hd0, if_neg hd0]
      have hu : p.under = true → f.g.grad = false → f.g.lo ≤ p.pow ∧ p.d ≠ 0 := fun h1 h2 => by
       rw [hgr] at h2
       have := oFa h2
       refine ⟨?_, hd0⟩
       rcases Int.lt_or_le p.pow f.g.lo with h | h
       · exact absurd ⟨h1, this, h⟩ hz
       · exact h
      obtain ⟨b1, b2⟩ := m0p (g := p.neg) (e := wid f.g * p.pow) hd0
      have hlo : -17000 ≤ p.pow := by
       by_cases hok : okP p f.g = true
       · exact (hpw hok).1
       · unfold okP at hok
         rw [ho] at hok
         simp only [Bool.not_false, Bool.true_and, Bool.or_eq_true, Bool.not_eq_true', not_or, Bool.not_eq_false, Bool.not_eq_true] at hok
         have := (hu hok.1 hok.2).1
         omega
      have hhi := hpw2 ho
      refine ⟨⟨by show 1 ≤ 2 ∧ 2 ≤ 5; omega, fun h => (by cases h), fun _ => ⟨hin ho hu, g0w _, b2, b1⟩, fun h => (by cases h), fun h => (by cases h), fun h => (by cases h), fun h => absurd rfl h⟩, ?_⟩
      exact ⟨rfl, rfl, fun _ => rfl, fun h => absurd rfl h, by show (dig B32 p.d).length ≤ _; omega, by show _ ≤ p.pow; omega, by show p.pow ≤ _; omega⟩
theorem e1g (f : Fm) (n way a c : Int) (g : Bool) (u : Nat) (w : World) (U : Bt w u 182 #[.int .i64 n, .int .i64 way, .int .i64 f.g.rad, .int .i64 f.g.digs, .int .i64 f.g.lo, .int .i64 f.g.hi, .bool f.g.grad, .int .u8 (famB f), .int .i64 a]) (hd : 0 ≤ f.g.digs ∧ f.g.digs ≤ 1000) (hc : bits .or .i64 a 5 = c) (h1 : f.fam = 1) (hw : 1 ≤ way ∧ way ≤ 5) :
 Calls Tryz.prog 180 #[.pointer (some ⟨u, 0, none⟩), .bool g] w (k0p f n way c u w (if way ≤ 2 ∨ (way = 4 ∧ g = false) ∨ (way = 5 ∧ g = true) then ⟨3, g, 0, 0⟩ else ⟨2, g, 2 ^ (wid f.g * f.g.digs.toNat) - 1, f.g.hi⟩)) := by
 have hF : famB f = 65 := by unfold famB; rw [if_pos h1]
 rcases (show way = 1 ∨ way = 2 ∨ way = 3 ∨ way = 4 ∨ way = 5 by omega) with rfl | rfl | rfl | rfl | rfl <;> cases g
 · rw [if_pos (by decide)]
   have HR := fun W u hU => hi0 (c0i f n 1 a 5 c u W hU hc)
   have I := Inv.startW w u 182 (uS f n 1 a) [] U True.intro True.intro
   refine a0g [.p 0 0, .v (.bool false)] I Tryz.func180 ?_
   refine zge I 0 182 (fun Al W I => (HR W _ (I.box 0 182 _)).out) fun Al V Iv _ _ kz => ?_
   rintro _ W ⟨rfl, hO, hB⟩
   refine ⟨_, rfl, kz _ (uS f n 1 c) _ hO hB fun I => ?_⟩
   refine zb I 13 ((famB f) == 66) (false) (bFn (by rw [hF]; decide)) fun Al W I => ?_
   refine zb I 18 ((famB f) == 67) (false) (bFn (by rw [hF]; decide)) fun Al W I => ?_
   refine zq I (fun Al W I => e0q false W) fun Al W I => ?_
   exact zret I fun Al W I => d0m (k := 3) rfl I.bel (I.boxE 182 _)
 · rw [if_pos (by decide)]
   have HR := fun W u hU => hi0 (c0i f n 1 a 5 c u W hU hc)
   have I := Inv.startW w u 182 (uS f n 1 a) [] U True.intro True.intro
   refine a0g [.p 0 0, .v (.bool true)] I Tryz.func180 ?_
   refine zge I 0 182 (fun Al W I => (HR W _ (I.box 0 182 _)).out) fun Al V Iv _ _ kz => ?_
   rintro _ W ⟨rfl, hO, hB⟩
   refine ⟨_, rfl, kz _ (uS f n 1 c) _ hO hB fun I => ?_⟩
   refine zb I 13 ((famB f) == 66) (false) (bFn (by rw [hF]; decide)) fun Al W I => ?_
   refine zb I 18 ((famB f) == 67) (false) (bFn (by rw [hF]; decide)) fun Al W I => ?_
   refine zq I (fun Al W I => e0q true W) fun Al W I => ?_
   exact zret I fun Al W I => d0m (k := 3) rfl I.bel (I.boxE 182 _)
 · rw [if_pos (by decide)]
   have HR := fun W u hU => hi0 (c0i f n 2 a 5 c u W hU hc)
   have I := Inv.startW w u 182 (uS f n 2 a) [] U True.intro True.intro
   refine a0g [.p 0 0, .v (.bool false)] I Tryz.func180 ?_
   refine zge I 0 182 (fun Al W I => (HR W _ (I.box 0 182 _)).out) fun Al V Iv _ _ kz => ?_
   rintro _ W ⟨rfl, hO, hB⟩
   refine ⟨_, rfl, kz _ (uS f n 2 c) _ hO hB fun I => ?_⟩
   refine zb I 13 ((famB f) == 66) (false) (bFn (by rw [hF]; decide)) fun Al W I => ?_
   refine zb I 18 ((famB f) == 67) (false) (bFn (by rw [hF]; decide)) fun Al W I => ?_
   refine zq I (fun Al W I => e0q false W) fun Al W I => ?_
   exact zret I fun Al W I => d0m (k := 3) rfl I.bel (I.boxE 182 _)
 · rw [if_pos (by decide)]
   have HR := fun W u hU => hi0 (c0i f n 2 a 5 c u W hU hc)
   have I := Inv.startW w u 182 (uS f n 2 a) [] U True.intro True.intro
   refine a0g [.p 0 0, .v (.bool true)] I Tryz.func180 ?_
   refine zge I 0 182 (fun Al W I => (HR W _ (I.box 0 182 _)).out) fun Al V Iv _ _ kz => ?_
   rintro _ W ⟨rfl, hO, hB⟩
   refine ⟨_, rfl, kz _ (uS f n 2 c) _ hO hB fun I => ?_⟩
   refine zb I 13 ((famB f) == 66) (false) (bFn (by rw [hF]; decide)) fun Al W I => ?_
   refine zb I 18 ((famB f) == 67) (false) (bFn (by rw [hF]; decide)) fun Al W I => ?_
   refine zq I (fun Al W I => e0q true W) fun Al W I => ?_
   exact zret I fun Al W I => d0m (k := 3) rfl I.bel (I.boxE 182 _)
 · rw [if_neg (by decide)]
   have HR := fun W u hU => hi0 (c0i f n 3 a 5 c u W hU hc)
   have HG := fun W u hU => hi0 (f0a f n 3 c false u W hU hd)
   generalize 2 ^ (wid f.g * f.g.digs.toNat) - 1 = m at *
   have I := Inv.startW w u 182 (uS f n 3 a) [] U True.intro True.intro
   refine a0g [.p 0 0, .v (.bool false)] I Tryz.func180 ?_
   refine zge I 0 182 (fun Al W I => (HR W _ (I.box 0 182 _)).out) fun Al V Iv _ _ kz => ?_
   rintro _ W ⟨rfl, hO, hB⟩
   refine ⟨_, rfl, kz _ (uS f n 3 c) _ hO hB fun I => ?_⟩
   refine zb I 13 ((famB f) == 66) (false) (bFn (by rw [hF]; decide)) fun Al W I => ?_
   refine zb I 18 ((famB f) == 67) (false) (bFn (by rw [hF]; decide)) fun Al W I => ?_
   refine zqo I (fun Al W I => (HG W _ (I.box 0 182 _)).out) fun Al W p59 c59 I => ?_
   exact zret I fun Al W I => ⟨p59, c59, rfl, I.fa.1.mono (by omega), I.bel, I.boxE 182 _⟩
 · rw [if_neg (by decide)]
   have HR := fun W u hU => hi0 (c0i f n 3 a 5 c u W hU hc)
   have HG := fun W u hU => hi0 (f0a f n 3 c true u W hU hd)
   generalize 2 ^ (wid f.g * f.g.digs.toNat) - 1 = m at *
   have I := Inv.startW w u 182 (uS f n 3 a) [] U True.intro True.intro
   refine a0g [.p 0 0, .v (.bool true)] I Tryz.func180 ?_
   refine zge I 0 182 (fun Al W I => (HR W _ (I.box 0 182 _)).out) fun Al V Iv _ _ kz => ?_
   rintro _ W ⟨rfl, hO, hB⟩
   refine ⟨_, rfl, kz _ (uS f n 3 c) _ hO hB fun I => ?_⟩
   refine zb I 13 ((famB f) == 66) (false) (bFn (by rw [hF]; decide)) fun Al W I => ?_
   refine zb I 18 ((famB f) == 67) (false) (bFn (by rw [hF]; decide)) fun Al W I => ?_
   refine zqo I (fun Al W I => (HG W _ (I.box 0 182 _)).out) fun Al W p59 c59 I => ?_
   exact zret I fun Al W I => ⟨p59, c59, rfl, I.fa.1.mono (by omega), I.bel, I.boxE 182 _⟩
 · rw [if_pos (by decide)]
   have HR := fun W u hU => hi0 (c0i f n 4 a 5 c u W hU hc)
   have I := Inv.startW w u 182 (uS f n 4 a) [] U True.intro True.intro
   refine a0g [.p 0 0, .v (.bool false)] I Tryz.func180 ?_
   refine zge I 0 182 (fun Al W I => (HR W _ (I.box 0 182 _)).out) fun Al V Iv _ _ kz => ?_
   rintro _ W ⟨rfl, hO, hB⟩
   refine ⟨_, rfl, kz _ (uS f n 4 c) _ hO hB fun I => ?_⟩
   refine zb I 13 ((famB f) == 66) (false) (bFn (by rw [hF]; decide)) fun Al W I => ?_
   refine zb I 18 ((famB f) == 67) (false) (bFn (by rw [hF]; decide)) fun Al W I => ?_
   refine zq I (fun Al W I => e0q false W) fun Al W I => ?_
   exact zret I fun Al W I => d0m (k := 3) rfl I.bel (I.boxE 182 _)
 · rw [if_neg (by decide)]
   have HR := fun W u hU => hi0 (c0i f n 4 a 5 c u W hU hc)
   have HG := fun W u hU => hi0 (f0a f n 4 c true u W hU hd)
   generalize 2 ^ (wid f.g * f.g.digs.toNat) - 1 = m at *
   have I := Inv.startW w u 182 (uS f n 4 a) [] U True.intro True.intro
   refine a0g [.p 0 0, .v (.bool true)] I Tryz.func180 ?_
   refine zge I 0 182 (fun Al W I => (HR W _ (I.box 0 182 _)).out) fun Al V Iv _ _ kz => ?_
   rintro _ W ⟨rfl, hO, hB⟩
   refine ⟨_, rfl, kz _ (uS f n 4 c) _ hO hB fun I => ?_⟩
   refine zb I 13 ((famB f) == 66) (false) (bFn (by rw [hF]; decide)) fun Al W I => ?_
   refine zb I 18 ((famB f) == 67) (false) (bFn (by rw [hF]; decide)) fun Al W I => ?_
   refine zqo I (fun Al W I => (HG W _ (I.box 0 182 _)).out) fun Al W p59 c59 I => ?_
   exact zret I fun Al W I => ⟨p59, c59, rfl, I.fa.1.mono (by omega), I.bel, I.boxE 182 _⟩
 · rw [if_neg (by decide)]
   have HR := fun W u hU => hi0 (c0i f n 5 a 5 c u W hU hc)
   have HG := fun W u hU => hi0 (f0a f n 5 c false u W hU hd)
   generalize 2 ^ (wid f.g * f.g.digs.toNat) - 1 = m at *
   have I := Inv.startW w u 182 (uS f n 5 a) [] U True.intro True.intro
   refine a0g [.p 0 0, .v (.bool false)] I Tryz.func180 ?_
   refine zge I 0 182 (fun Al W I => (HR W _ (I.box 0 182 _)).out) fun Al V Iv _ _ kz => ?_
   rintro _ W ⟨rfl, hO, hB⟩
   refine ⟨_, rfl, kz _ (uS f n 5 c) _ hO hB fun I => ?_⟩
   refine zb I 13 ((famB f) == 66) (false) (bFn (by rw [hF]; decide)) fun Al W I => ?_
   refine zb I 18 ((famB f) == 67) (false) (bFn (by rw [hF]; decide)) fun Al W I => ?_
   refine zqo I (fun Al W I => (HG W _ (I.box 0 182 _)).out) fun Al W p59 c59 I => ?_
   exact zret I fun Al W I => ⟨p59, c59, rfl, I.fa.1.mono (by omega), I.bel, I.boxE 182 _⟩
 · rw [if_pos (by decide)]
   have HR := fun W u hU => hi0 (c0i f n 5 a 5 c u W hU hc)
   have I := Inv.startW w u 182 (uS f n 5 a) [] U True.intro True.intro
   refine a0g [.p 0 0, .v (.bool true)] I Tryz.func180 ?_
   refine zge I 0 182 (fun Al W I => (HR W _ (I.box 0 182 _)).out) fun Al V Iv _ _ kz => ?_
   rintro _ W ⟨rfl, hO, hB⟩
   refine ⟨_, rfl, kz _ (uS f n 5 c) _ hO hB fun I => ?_⟩
   refine zb I 13 ((famB f) == 66) (false) (bFn (by rw [hF]; decide)) fun Al W I => ?_
   refine zb I 18 ((famB f) == 67) (false) (bFn (by rw [hF]; decide)) fun Al W I => ?_
   refine zq I (fun Al W I => e0q true W) fun Al W I => ?_
   exact zret I fun Al W I => d0m (k := 3) rfl I.bel (I.boxE 182 _)
theorem f1t (f : Fm) (n way a c : Int) (p : Pl) (u : Nat) (w : World) (U : Bt w u 182 #[.int .i64 n, .int .i64 way, .int .i64 f.g.rad, .int .i64 f.g.digs, .int .i64 f.g.lo, .int .i64 f.g.hi, .bool f.g.grad, .int .u8 (famB f), .int .i64 a]) (G : b0g f) (hc : bits .or .i64 a 5 = c) (hw : 1 ≤ way ∧ way ≤ 5) (ho : p.over = true) :
 Calls Tryz.prog 180 #[.pointer (some ⟨u, 0, none⟩), .bool p.neg] w (k0p f n way c u w (f.placedV p way)) := by
 have GG := b0s G.g
 have h1 := GG.d1
 have h2 := GG.d2
 have hf := G.fam
 unfold Fm.placedV
 rw [if_pos ho]
 by_cases f2 : f.fam = 2
 · rw [if_pos f2]; exact d1z f n way a c p.neg u w U (by omega) hc f2
 · rw [if_neg f2]
   by_cases f3 : f.fam = 3
   · rw [if_pos f3]; exact e1b f n way a c p.neg u w U hc (by omega) f2
   · rw [if_neg f3]; exact e1g f n way a c p.neg u w U (by omega) hc (by omega) hw
def i0x (f : Fm) (n way c : Int) (u : Nat) (w : World) (base : Nat) (v : Vl) (en : Ending) (w' : World) : Prop :=
 ∃ p k, en = .returned (.agg #[.int .i64 (v.cls : Int), .bool v.neg, .slice p (dig B32 v.d).length k, .int .i64 v.pow]) ∧ Own w' base .u32 141 p k (dig B32 v.d) ∧ Kp [u] w w' ∧ Bt w' u 182 #[.int .i64 n, .int .i64 way, .int .i64 f.g.rad, .int .i64 f.g.digs, .int .i64 f.g.lo, .int .i64 f.g.hi, .bool f.g.grad, .int .u8 (famB f), .int .i64 c]
theorem k0p.ub {f : Fm} {n way c : Int} {u base : Nat} {w w' : World} {v : Vl} {en : Ending} (h : k0p f n way c u w v en w') (hb : base ≤ w.heap.size) : i0x f n way c u w base v en w' := by
 obtain ⟨p, k, h1, h2, h3, h4⟩ := h
 exact ⟨p, k, h1, h2.mono hb, h3, h4⟩
theorem f0u {f : Fm} {n way c : Int} {u k base : Nat} {g : Bool} {w w' : World} {en : Ending} (h : en = .returned (.agg #[.int .i64 (k : Int), .bool g, .slice none 0 0, .int .i64 0])) (hk : Kp [u] w w') (hb : Bt w' u 182 #[.int .i64 n, .int .i64 way, .int .i64 f.g.rad, .int .i64 f.g.digs, .int .i64 f.g.lo, .int .i64 f.g.hi, .bool f.g.grad, .int .u8 (famB f), .int .i64 c]) : i0x f n way c u w base ⟨k, g, 0, 0⟩ en w' := by
 refine ⟨none, 0, ?_, ?_, hk, hb⟩
 · rw [h, a0f]; rfl
 · show Own _ _ _ _ _ _ (dig B32 0); rw [a0f]; exact Own.nil _ _ _ _
theorem pl_n (f : Fm) (n way : Int) (ng : Bool) (d : Nat) (pw : Int) (pp : Option Addr) (cc base u : Nat) (w : World) (U : Bt w u 182 #[.int .i64 n, .int .i64 way, .int .i64 f.g.rad, .int .i64 f.g.digs, .int .i64 f.g.lo, .int .i64 f.g.hi, .bool f.g.grad, .int .u8 (famB f), .int .i64 0]) (hp : Own w base .u32 141 pp cc (dig B32 d)) (ex un : Bool) :
 Calls Tryz.prog 166 #[.pointer (some ⟨u, 0, none⟩), .agg #[.bool ng, .slice pp (dig B32 d).length cc, .int .i64 pw, .bool ex, .bool false, .bool un]] w (i0x f n way (((f.placedM ⟨ng, d, pw, ex, false, un⟩ way).2 : Nat) : Int) u w base (f.placedV ⟨ng, d, pw, ex, false, un⟩ way)) := by
 have hV : f.placedV ⟨ng, d, pw, ex, false, un⟩ way = if un = true ∧ f.fam ≠ 1 ∧ pw < f.g.lo then ⟨1, false, 0, 0⟩ else if d = 0 then ⟨1, ng && decide (f.fam = 1), 0, 0⟩ else ⟨2, ng, d, pw⟩ := by unfold Fm.placedV; simp only [Bool.false_eq_true, if_false]
 have hM : (f.placedM ⟨ng, d, pw, ex, false, un⟩ way).2 = if un = true ∧ f.fam ≠ 1 ∧ pw < f.g.lo then 3 else f.flP ⟨ng, d, pw, ex, false, un⟩ := by
  unfold Fm.placedM; simp only [Bool.false_eq_true, if_false]
  split
  · rfl
  · split <;> rfl
 have hFL : f.flP ⟨ng, d, pw, ex, false, un⟩ = if un then (if f.fam = 1 then (if ex then 0 else 3) else 3) else if ex then 0 else 1 := rfl
 have hF1 : f.fam = 1 → (famB f != 65) = false := fun h => by unfold famB; rw [if_pos h]; rfl
 have hF2 : f.fam ≠ 1 → (famB f != 65) = true := fun h => by unfold famB; rw [if_neg h]; split <;> rfl
 have hB1 : (famB f != 65) = true → f.fam ≠ 1 := fun h k => by rw [hF1 k] at h; cases h
 have hB2 : (famB f != 65) = false → f.fam = 1 := fun h => Classical.byContradiction fun k => by rw [hF2 k] at h; cases h
 have hz := a0k a0b d
 have HR9 := fun W u hU => hi0 (c0i f n way 0 1 1 u W hU (by decide +kernel))
 have HR3 := fun k (hk : k = 0 ∨ k = 1) W u hU => hi0 (c0i f n way k 3 3 u W hU (by rcases hk with rfl | rfl <;> decide +kernel))
 have HR2 := fun k (hk : k = 1) W u hU => hi0 (c0i f n way k 2 3 u W hU (by subst hk; decide +kernel))
 have HZ := fun k W u hU => hi0 (n0u f n way k ng u W hU)
 rw [hFL] at hM
 generalize (f.placedM ⟨ng, d, pw, ex, false, un⟩ way).2 = FL at *
 generalize f.placedV ⟨ng, d, pw, ex, false, un⟩ way = v at *
 clear hFL
 generalize (ng && decide (f.fam = 1)) = q at *
 have I := Inv.startW w u 182 (uS f n way 0) [ownF base .u32 141 pp cc (dig B32 d)] U ⟨hp, True.intro⟩ ⟨fun hf => hp.far U (by kernel_rfl) hf.1 hf.2, True.intro⟩
 refine a0g [.p 0 0, .v (.agg #[.bool ng, .slice pp (dig B32 d).length cc, .int .i64 pw, .bool ex, .bool false, .bool un])] I Tryz.func166 ?_
 obtain ⟨ne, hne⟩ : ∃ ne, (!ex) = ne := ⟨_, rfl⟩
 refine zb I 7 (!ex) (ne) (hne) fun Al W I => ?_
 refine zcut I (some 2000007) (fun fr bx gs => ∃ (U1 : Nat → Value) (k1 : Int), fr = (.p 0 0 :: .v (.agg #[.bool ng, .slice pp (dig B32 d).length cc, .int .i64 pw, .bool ex, .bool false, .bool un]) :: .v undef :: .p 1 0 :: .p 2 0 :: sw U1 5 2 (.v (.bool ne) :: sw U1 8 2 (.v undef :: sw U1 11 6 (.v undef :: sw U1 18 18 (.v undef :: .v (U1 37) :: .v undef :: sw U1 39 12 (.v undef :: sw U1 52 11 []))))) : List SV) ∧ bx = [⟨182, (uS f n way k1), false⟩, ⟨87, [.v (.bool ng), .v (.slice pp (dig B32 d).length cc), .v (.int .i64 pw), .v (.bool ex), .v (.bool false), .v (.bool un)], false⟩, ⟨75, [.v (.int .i64 0), .v (.bool false), .v (.slice none 0 0), .v (.int .i64 0)], false⟩] ∧ gs = [ownF base .u32 141 pp cc (dig B32 d)] ∧ (k1 = if ex then 0 else 1)) ?_ ?_
 · intro J hJ Al W I
   rcases Bool.eq_false_or_eq_true ne with rfl | rfl
   · refine zge I 0 182 (fun Al W I => (HR9 W _ (I.box 0 182 _)).out) fun Al V Iv _ _ kz => ?_
     rintro _ W ⟨rfl, hO, hB⟩
     refine ⟨_, rfl, kz _ (uS f n way 1) _ hO hB fun I => ?_⟩
     exact a0m I J fun Al W U I => hJ _ _ _ _ _ ⟨U, 1, rfl, rfl, rfl, (by revert hne; cases ex <;> simp)⟩ (I.pick [0])
   exact a0m I J fun Al W U I => hJ _ _ _ _ _ ⟨U, 0, rfl, rfl, rfl, (by revert hne; cases ex <;> simp)⟩ (I.pick [0])
 rintro _ _ _ ⟨U1, k1, rfl, rfl, rfl, hk1⟩ Al W I
 refine zcut I (some 1000000) (fun fr bx gs => ∃ (U2 : Nat → Value) (k2 : Int), fr = (.p 0 0 :: .v (.agg #[.bool ng, .slice pp (dig B32 d).length cc, .int .i64 pw, .bool ex, .bool false, .bool un]) :: .v undef :: .p 1 0 :: .p 2 0 :: sw U2 5 2 (.v (.bool ne) :: sw U2 8 43 (.v undef :: sw U2 52 11 [])) : List SV) ∧ bx = [⟨182, (uS f n way k2), false⟩, ⟨87, [.v (.bool ng), .v (.slice pp (dig B32 d).length cc), .v (.int .i64 pw), .v (.bool ex), .v (.bool false), .v (.bool un)], false⟩, ⟨75, [.v (.int .i64 0), .v (.bool false), .v (.slice none 0 0), .v (.int .i64 0)], false⟩] ∧ gs = [ownF base .u32 141 pp cc (dig B32 d)] ∧ ((FL : Int) = k2) ∧ (¬ (un = true ∧ f.fam ≠ 1 ∧ pw < f.g.lo))) ?_ ?_
 · intro J hJ Al W I
   rcases Bool.eq_false_or_eq_true (un) with f19 | f19
   · refine zb I 19 (un) (true) (f19) fun Al W I => ?_
     rcases Bool.eq_false_or_eq_true ((famB f) != 65) with f25 | f25
     · refine zb I 25 ((famB f) != 65) (true) (f25) fun Al W I => ?_
       refine zge I 0 182 (fun Al W I => (HR3 k1 (by rw [hk1]; split <;> simp) W _ (I.box 0 182 _)).out) fun Al V Iv _ _ kz => ?_
       rintro _ W ⟨rfl, hO, hB⟩
       refine ⟨_, rfl, kz _ (uS f n way 3) _ hO hB fun I => ?_⟩
       by_cases f36 : pw < f.g.lo
       · refine zd [] I fun Al W I => ?_
         refine zk [0, 1, 2, 3, 4, 5, 6] I fun I => ?_
         refine zkb 7 I (decide (pw < f.g.lo)) (true) (dTr f36) fun I => ?_
         refine zret I (v := fun Al => .agg #[.int .i64 1, .bool false, .slice none 0 0, .int .i64 0]) fun Al W I => ?_
         first | (rw [hV, hM, if_pos ⟨f19, hB1 f25, f36⟩, if_pos ⟨f19, hB1 f25, f36⟩]; exact f0u (k := 1) rfl I.bel (I.boxE 182 _)) | (rw [hV, hk2, if_neg hlo, if_neg (fun h => by have := hz.2 h; have := bnF f51; omega)]; exact ⟨pp, cc, rfl, I.fa.1, I.bel, I.boxE 182 _⟩)
       refine zd [] I fun Al W I => ?_
       refine zk [0, 1, 2, 3, 4, 5, 6] I fun I => ?_
       refine zkb 7 I (decide (pw < f.g.lo)) (false) (dFa f36) fun I => ?_
       exact a0m I J fun Al W U I => hJ _ _ _ _ _ ⟨U, 3, rfl, rfl, rfl, (by have h1 := hB1 f25; rw [hM, if_neg (fun h => f36 h.2.2), if_pos f19, if_neg h1]; rfl), (fun h => f36 h.2.2)⟩ (I.pick [0])
     refine zb I 25 ((famB f) != 65) (false) (f25) fun Al W I => ?_
     refine zb I 40 (un) (true) (f19) fun Al W I => ?_
     rcases Bool.eq_false_or_eq_true (!ex) with f44 | f44
     · refine zb I 44 (!ex) (true) (f44) fun Al W I => ?_
       refine zge I 0 182 (fun Al W I => (HR2 k1 (by rw [hk1]; revert f44; cases ex <;> simp) W _ (I.box 0 182 _)).out) fun Al V Iv _ _ kz => ?_
       rintro _ W ⟨rfl, hO, hB⟩
       refine ⟨_, rfl, kz _ (uS f n way 3) _ hO hB fun I => ?_⟩
       exact a0m I J fun Al W U I => hJ _ _ _ _ _ ⟨U, 3, rfl, rfl, rfl, (by have h1 := hB2 f25; rw [hM, if_neg (fun h => h.2.1 h1), if_pos f19, if_pos h1]; revert f44; cases ex <;> simp), (fun h => by have h1 := hB2 f25; exact h.2.1 h1)⟩ (I.pick [0])
     refine zb I 44 (!ex) (false) (f44) fun Al W I => ?_
     exact a0m I J fun Al W U I => hJ _ _ _ _ _ ⟨U, k1, rfl, rfl, rfl, (by have h1 := hB2 f25; rw [hM, if_neg (fun h => h.2.1 h1), if_pos f19, if_pos h1, hk1]; revert f44; cases ex <;> simp), (fun h => by have h1 := hB2 f25; exact h.2.1 h1)⟩ (I.pick [0])
   refine zb I 19 (un) (false) (f19) fun Al W I => ?_
   refine zb I 40 (un) (false) (f19) fun Al W I => ?_
   exact a0m I J fun Al W U I => hJ _ _ _ _ _ ⟨U, k1, rfl, rfl, rfl, (by rw [hM, if_neg (fun h => by rw [f19] at h; cases h.1), if_neg (by rw [f19]; simp), hk1]; split <;> rfl), (fun h => by rw [f19] at h; cases h.1)⟩ (I.pick [0])
 rintro _ _ _ ⟨U2, k2, rfl, rfl, rfl, hk2, hlo⟩ Al W I
 rcases Bool.eq_false_or_eq_true ((((dig B32 d).length : Nat) : Int) == 0) with f51 | f51
 · refine zb I 51 ((((dig B32 d).length : Nat) : Int) == 0) (true) (f51) fun Al W I => ?_
   refine zq I (fun Al W I => (HZ k2 W _ (I.box 0 182 _)).out) fun Al W I => ?_
   rw [hV, hk2, if_neg hlo, if_pos (hz.1 (by have := beq_iff_eq.1 f51; omega))]
   exact zret I fun Al W I => f0u (k := 1) rfl I.bel (I.boxE 182 _)
 refine zb I 51 ((((dig B32 d).length : Nat) : Int) == 0) (false) (f51) fun Al W I => ?_
 refine zret I (v := fun Al => .agg #[.int .i64 2, .bool ng, .slice pp (dig B32 d).length cc, .int .i64 pw]) fun Al W I => ?_
 first | (rw [hV, hM, if_pos ⟨f19, hB1 f25, f36⟩, if_pos ⟨f19, hB1 f25, f36⟩]; exact f0u (k := 1) rfl I.bel (I.boxE 182 _)) | (rw [hV, hk2, if_neg hlo, if_neg (fun h => by have := hz.2 h; have := bnF f51; omega)]; exact ⟨pp, cc, rfl, I.fa.1, I.bel, I.boxE 182 _⟩)
theorem m1b (f : Fm) (n way : Int) (p : Pl) (pp : Option Addr) (cc base u : Nat) (w : World) (U : Bt w u 182 #[.int .i64 n, .int .i64 way, .int .i64 f.g.rad, .int .i64 f.g.digs, .int .i64 f.g.lo, .int .i64 f.g.hi, .bool f.g.grad, .int .u8 (famB f), .int .i64 0]) (hb : base ≤ w.heap.size) (G : b0g f) (hw : 1 ≤ way ∧ way ≤ 5) (ho : p.over = true) :
 Calls Tryz.prog 166 #[.pointer (some ⟨u, 0, none⟩), .agg #[.bool p.neg, .slice pp (dig B32 p.d).length cc, .int .i64 p.pow, .bool true, .bool true, .bool p.under]] w (i0x f n way 5 u w base (f.placedV p way)) := by
 have HO := fun W u hU => hi0 (f1t f n way 0 5 p u W hU G (by decide +kernel) hw ho)
 generalize f.placedV p way = v at *
 have I := Inv.startW w u 182 (uS f n way 0) [] U True.intro True.intro
 refine a0g [.p 0 0, .v (.agg #[.bool p.neg, .slice pp (dig B32 p.d).length cc, .int .i64 p.pow, .bool true, .bool true, .bool p.under])] I Tryz.func166 ?_
 refine zge I 0 182 (fun Al W I => (HO W _ (I.box 0 182 _)).out) fun Al V Iv _ _ kz => ?_
 rintro _ W ⟨p16, c16, rfl, o16, hO, hB⟩
 refine ⟨_, rfl, kz _ (uS f n way 5) _ hO hB fun I => ?_⟩
 have I := I.ownB base o16
 exact zret I fun Al W I => ⟨p16, c16, rfl, I.fa.1, I.bel, I.boxE 182 _⟩
theorem m1c (f : Fm) (n way : Int) (p : Pl) (pp : Option Addr) (cc base u : Nat) (w : World) (U : Bt w u 182 #[.int .i64 n, .int .i64 way, .int .i64 f.g.rad, .int .i64 f.g.digs, .int .i64 f.g.lo, .int .i64 f.g.hi, .bool f.g.grad, .int .u8 (famB f), .int .i64 0]) (hb : base ≤ w.heap.size) (G : b0g f) (hw : 1 ≤ way ∧ way ≤ 5) (ho : p.over = true) :
 Calls Tryz.prog 166 #[.pointer (some ⟨u, 0, none⟩), .agg #[.bool p.neg, .slice pp (dig B32 p.d).length cc, .int .i64 p.pow, .bool false, .bool true, .bool p.under]] w (i0x f n way 5 u w base (f.placedV p way)) := by
 have HO := fun W u hU => hi0 (f1t f n way 1 5 p u W hU G (by decide +kernel) hw ho)
 have HR := fun W u hU => hi0 (c0i f n way 0 1 1 u W hU (by decide +kernel))
 generalize f.placedV p way = v at *
 have I := Inv.startW w u 182 (uS f n way 0) [] U True.intro True.intro
 refine a0g [.p 0 0, .v (.agg #[.bool p.neg, .slice pp (dig B32 p.d).length cc, .int .i64 p.pow, .bool false, .bool true, .bool p.under])] I Tryz.func166 ?_
 refine zge I 0 182 (fun Al W I => (HR W _ (I.box 0 182 _)).out) fun Al V Iv _ _ kz => ?_
 rintro _ W ⟨rfl, hO, hB⟩
 refine ⟨_, rfl, kz _ (uS f n way 1) _ hO hB fun I => ?_⟩
 refine zge I 0 182 (fun Al W I => (HO W _ (I.box 0 182 _)).out) fun Al V Iv _ _ kz => ?_
 rintro _ W ⟨p16, c16, rfl, o16, hO, hB⟩
 refine ⟨_, rfl, kz _ (uS f n way 5) _ hO hB fun I => ?_⟩
 have I := I.ownB base o16
 exact zret I fun Al W I => ⟨p16, c16, rfl, I.fa.1, I.bel, I.boxE 182 _⟩
theorem i1e (f : Fm) (n way : Int) (p : Pl) (pp : Option Addr) (cc base u : Nat) (w : World) (U : Bt w u 182 #[.int .i64 n, .int .i64 way, .int .i64 f.g.rad, .int .i64 f.g.digs, .int .i64 f.g.lo, .int .i64 f.g.hi, .bool f.g.grad, .int .u8 (famB f), .int .i64 0]) (hp : Own w base .u32 141 pp cc (dig B32 p.d)) (hb : base ≤ w.heap.size) (G : b0g f) (hw : 1 ≤ way ∧ way ≤ 5) :
 Calls Tryz.prog 166 #[.pointer (some ⟨u, 0, none⟩), .agg #[.bool p.neg, .slice pp (dig B32 p.d).length cc, .int .i64 p.pow, .bool p.exact, .bool p.over, .bool p.under]] w (i0x f n way (((f.placedM p way).2 : Nat) : Int) u w base (f.placedV p way)) := by
 obtain ⟨ng, d, pw, ex, ov, un⟩ := p
 cases ov with
 | true =>
  have e : (f.placedM ⟨ng, d, pw, ex, true, un⟩ way).2 = 5 := by unfold Fm.placedM; rw [if_pos rfl]
  rw [e]
  cases ex
  · exact m1c f n way ⟨ng, d, pw, false, true, un⟩ pp cc base u w U hb G hw rfl
  · exact m1b f n way ⟨ng, d, pw, true, true, un⟩ pp cc base u w U hb G hw rfl
 | false =>
  exact pl_n f n way ng d pw pp cc base u w U hp ex un
theorem a1z (ng : Bool) (p q : Option Addr) (c d : Nat) (num den : Nat) (e : Int) (g : Gd) (way : Int) (w : World) (hp : Rd w .u32 p (dig B32 num)) (hq : Rd w .u32 q (dig B32 den))
 (hl : (dig B32 num).length ≤ 100000) (hl2 : (dig B32 den).length ≤ 100000) (hn : 0 < num) (hd : 0 < den) (he : -1000000 ≤ e ∧ e ≤ 1000000) (G : k0c g) (hw1 : 1 ≤ way) (hw2 : way ≤ 5) :
 Calls Tryz.prog 72 #[.agg #[.bool ng, .slice p (dig B32 num).length c, .slice q (dig B32 den).length d, .int .i64 e], .agg #[.int .i64 g.rad, .int .i64 g.digs, .int .i64 g.lo, .int .i64 g.hi, .bool g.grad], .int .i64 way] w (u0q w (a0s ng num den e g way)) := by
 have h := p0h ng p q c d num den e g way (theK num den e (wid g) g.digs.toNat) w hp hq hl hl2 hn hd he G hw1 hw2 (l0y hn hd e (b0l g).1 (by have := G.d1; omega))
 unfold a0s
 rw [if_neg (by omega)]
 exact h
theorem k1u (f : Fm) (n way : Int) (ng : Bool) (p q : Option Addr) (c d : Nat) (num den : Nat) (e : Int) (u : Nat) (w : World) (U : Bt w u 182 #[.int .i64 n, .int .i64 way, .int .i64 f.g.rad, .int .i64 f.g.digs, .int .i64 f.g.lo, .int .i64 f.g.hi, .bool f.g.grad, .int .u8 (famB f), .int .i64 0]) (hp : Rd w .u32 p (dig B32 num)) (hq : Rd w .u32 q (dig B32 den))
 (hl : (dig B32 num).length ≤ 100000) (hl2 : (dig B32 den).length ≤ 100000) (hn : 0 < num) (hd : 0 < den) (he : -1000000 ≤ e ∧ e ≤ 1000000) (G : b0g f) (hw : 1 ≤ way ∧ way ≤ 5) :
 Calls Tryz.prog 122 #[.pointer (some ⟨u, 0, none⟩), .agg #[.bool ng, .slice p (dig B32 num).length c, .slice q (dig B32 den).length d, .int .i64 e]] w
  (k0p f n way (((f.placedM (a0s ng num den e f.g way) way).2 : Nat) : Int) u w (f.placedV (a0s ng num den e f.g way) way)) := by
 have GG := b0s G.g
 have HF := fun W h1 h2 => hi0 (a1z ng p q c d num den e f.g way W h1 h2 hl hl2 hn hd he GG hw.1 hw.2)
 have HP := fun pp cc base u W U h1 h2 => hi0 (i1e f n way (a0s ng num den e f.g way) pp cc base u W U h1 h2 G hw)
 have hR := a1y (neg := ng) (num := num) (e := e) (way := way) hd GG
 generalize (f.placedM (a0s ng num den e f.g way) way).2 = fl at *
 generalize f.placedV (a0s ng num den e f.g way) way = v at *
 generalize a0s ng num den e f.g way = P at *
 have I := Inv.startW w u 182 (uS f n way 0) [rdF .u32 p (dig B32 num), rdF .u32 q (dig B32 den)] U ⟨hp, hq, True.intro⟩ ⟨fun hf => hp.far U (by kernel_rfl) hf.1 hf.2, fun hf => hq.far U (by kernel_rfl) hf.1 hf.2, True.intro⟩
 refine a0g [.p 0 0, .v (.agg #[.bool ng, .slice p (dig B32 num).length c, .slice q (dig B32 den).length d, .int .i64 e])] I Tryz.func122 ?_
 refine zcut I none (fun fr bx gs => ∃ (U1 : Nat → Value) (p16 : Option Addr) (c16 : Nat), fr = (.p 0 0 :: .v (.agg #[.bool ng, .slice p (dig B32 num).length c, .slice q (dig B32 den).length d, .int .i64 e]) :: .v undef :: .p 1 0 :: .p 2 0 :: sw U1 5 12 [] : List SV) ∧ bx = [⟨182, (uS f n way (fl : Int)), false⟩, ⟨122, [.v (.bool ng), .v (.slice p (dig B32 num).length c), .v (.slice q (dig B32 den).length d), .v (.int .i64 e)], false⟩, ⟨75, [.v (.int .i64 (v.cls : Int)), .v (.bool v.neg), .v (.slice p16 (dig B32 v.d).length c16), .v (.int .i64 v.pow)], false⟩] ∧ gs = [ownF w.heap.size .u32 141 p16 c16 (dig B32 v.d), rdF .u32 p (dig B32 num), rdF .u32 q (dig B32 den)]) ?_ ?_
 · intro J hJ Al W I
   refine zd [0, 2] I fun Al W I => ?_
   refine zk [0, 1, 2, 3, 4, 6, 7, 8] I fun I => ?_
   refine zo2 5 9 I (fun I => ?_) (fun I => ?_)
   · refine zn I fun Al W I => ?_
     refine zo 9 I fun I => ?_
     refine zn I fun Al W I => ?_
     refine zo 10 I fun I => ?_
     refine zqo I (fun Al W I => (HF W I.fa.1 I.fa.2.1).out) fun Al W p15 c15 I => ?_
     refine zo 11 I fun I => ?_
     refine zge I 0 182 (fun Al W I => have hzW := I.bel.size; (HP p15 c15 _ _ W (I.box 0 182 _) I.fa.1 (by omega)).out) fun Al V Iv _ _ kz => ?_
     rintro _ W ⟨p16, c16, rfl, o16, hO, hB⟩
     refine ⟨_, rfl, kz _ (uS f n way (fl : Int)) _ hO hB fun I => ?_⟩
     have I := I.own o16
     refine zo 12 I fun I => ?_
     refine zn I fun Al W I => ?_
     exact a0m I J fun Al W U I => hJ _ _ _ _ _ ⟨U, p16, c16, rfl, rfl, rfl⟩ (I.pick [0, 2, 3])
   refine zn I fun Al W I => ?_
   refine zo 5 I fun I => ?_
   refine zn I fun Al W I => ?_
   refine zo 10 I fun I => ?_
   refine zqo I (fun Al W I => (HF W I.fa.1 I.fa.2.1).out) fun Al W p15 c15 I => ?_
   refine zo 11 I fun I => ?_
   refine zge I 0 182 (fun Al W I => have hzW := I.bel.size; (HP p15 c15 _ _ W (I.box 0 182 _) I.fa.1 (by omega)).out) fun Al V Iv _ _ kz => ?_
   rintro _ W ⟨p16, c16, rfl, o16, hO, hB⟩
   refine ⟨_, rfl, kz _ (uS f n way (fl : Int)) _ hO hB fun I => ?_⟩
   have I := I.own o16
   refine zo 12 I fun I => ?_
   refine zn I fun Al W I => ?_
   exact a0m I J fun Al W U I => hJ _ _ _ _ _ ⟨U, p16, c16, rfl, rfl, rfl⟩ (I.pick [0, 2, 3])
 rintro _ _ _ ⟨U1, p16, c16, rfl, rfl, rfl⟩ Al W I
 exact zret I fun Al W I => ⟨p16, c16, rfl, I.fa.1, I.bel, I.boxE 182 _⟩
structure VrOk (r : Vr) : Prop where
 c : 1 ≤ r.cls ∧ r.cls ≤ 5
 x0 : r.cls ≠ 2 → r.x = vz
 x2 : r.cls = 2 → r.x.m ≠ 0 ∧ r.x.neg = r.neg
 bare : Bare r.x
 len : (dig B32 r.x.m).length ≤ 20
 lo : -18000 ≤ r.x.e
 hi : r.x.e ≤ 18000
def d0c (f : Fm) (n way : Int) (u : Nat) (w : World) (base : Nat) (r : Vr × Nat) (en : Ending) (w' : World) : Prop :=
 ∃ v, VRep f v r.1 ∧ i0x f n way ((r.2 : Nat) : Int) u w base v en w'
theorem a0e {f : Fm} {n way : Int} {u k fl base : Nat} {g : Bool} {x : Dv} {w w' : World} {en : Ending} (hk2 : k ≠ 2) (h : en = .returned (.agg #[.int .i64 (k : Int), .bool g, .slice none 0 0, .int .i64 0])) (hk : Kp [u] w w') (hb : Bt w' u 182 #[.int .i64 n, .int .i64 way, .int .i64 f.g.rad, .int .i64 f.g.digs, .int .i64 f.g.lo, .int .i64 f.g.hi, .bool f.g.grad, .int .u8 (famB f), .int .i64 (fl : Int)]) : d0c f n way u w base (⟨k, g, x⟩, fl) en w' :=
 ⟨⟨k, g, 0, 0⟩, f0b hk2, f0u h hk hb⟩
theorem d0c.mono {f : Fm} {n way : Int} {u base b' : Nat} {w w' : World} {r : Vr × Nat} {en : Ending} (h : d0c f n way u w base r en w') (hb : b' ≤ base) : d0c f n way u w b' r en w' := by
 obtain ⟨v, h1, p, k, h2, h3, h4, h5⟩ := h
 exact ⟨v, h1, p, k, h2, h3.mono hb, h4, h5⟩
theorem m0y (f : Fm) (n way fl : Int) (v : Vl) (r : Vr) (p : Option Addr) (c b0 u : Nat) (w : World) (U : Bt w u 182 #[.int .i64 n, .int .i64 way, .int .i64 f.g.rad, .int .i64 f.g.digs, .int .i64 f.g.lo, .int .i64 f.g.hi, .bool f.g.grad, .int .u8 (famB f), .int .i64 fl]) (hp : Own w b0 .u32 141 p c (dig B32 v.d)) (V : VRep f v r) (R : VrOk r) (hT : TabW w) :
 Calls Tryz.prog 121 #[.pointer (some ⟨u, 0, none⟩), .agg #[.int .i64 (v.cls : Int), .bool v.neg, .slice p (dig B32 v.d).length c, .int .i64 v.pow]] w (e0h w w.heap.size r.x) := by
 have hx : bare ⟨v.neg, v.d, wid f.g * v.pow⟩ = r.x := by
  by_cases h2 : r.cls = 2
  · exact V.num h2
  · rw [R.x0 h2, (V.oth h2).1]; rfl
 have hl := V.len
 have hlo := V.lo
 have hhi := V.hi
 have wp := b0l f.g
 have hmu := r0c (wd := wid f.g) (k := v.pow) (B := 20000) wp.2 ⟨hlo, hhi⟩
 rw [← hx, ← r0d]
 clear hx R V
 obtain ⟨cls, g, d0, pw⟩ := v
 simp only at *
 generalize hmw : (wid f.g : Int) * pw = mw at *
 have HMW := hi0 hmw
 have HW := fun W u hU => hi0 (a1p f n way fl u W hU)
 have HH := fun W (c : Nat) h1 h0 h2 => hi0 (m0c p _ c mw d0 W h1 rfl h0 (by omega) (by omega) h2)
 clear hmw
 generalize hd : bare ⟨false, d0, mw⟩ = d at *
 clear hd
 cases g with
 | false =>
  rw [if_neg (by simp)]
  have I := Inv.startR w [u] [⟨182, (uS f n way fl), true⟩] [ownF b0 .u32 141 p c (dig B32 d0), tabF] ⟨U, True.intro⟩ ⟨hp, hT, True.intro⟩
  refine a0g [.p 0 0, .v (.agg #[.int .i64 (cls : Int), .bool false, .slice p (dig B32 d0).length c, .int .i64 pw])] I Tryz.func121 ?_
  refine zcut I none (fun fr bx gs => ∃ (U1 : Nat → Value) (p13 : Option Addr) (c13 : Nat), fr = (.p 0 0 :: .v (.agg #[.int .i64 (cls : Int), .bool false, .slice p (dig B32 d0).length c, .int .i64 pw]) :: .v undef :: .p 1 0 :: .p 2 0 :: .p 3 0 :: sw U1 6 9 (.v undef :: sw U1 16 3 []) : List SV) ∧ bx = [⟨182, (uS f n way fl), true⟩, ⟨75, [.v (.int .i64 (cls : Int)), .v (.bool false), .v (.slice p (dig B32 d0).length c), .v (.int .i64 pw)], false⟩, ⟨112, [.v (.bool false), .v (.slice none 0 0), .v (.int .i64 0)], false⟩, ⟨112, [.v (.bool d.neg), .v (.slice p13 (dig B32 d.m).length c13), .v (.int .i64 d.e)], false⟩] ∧ gs = [ownF w.heap.size .u32 141 p13 c13 (dig B32 d.m), ownF b0 .u32 141 p c (dig B32 d0), tabF]) ?_ ?_
  · intro J hJ Al W I
    refine zd [] I fun Al W I => ?_
    refine zk [0, 1, 2, 4, 5] I fun I => ?_
    refine zo2 3 8 I (fun I => ?_) (fun I => ?_)
    · refine zq I (fun Al W I => (HW W _ (I.box 0 182 _)).out) fun Al W I => ?_
      refine zki 6 I .i64 (((wid f.g : Nat) : Int) * pw) (mw) ((by rw [HMW.out]; exact iwo)) fun I => ?_
      refine zo2 7 8 I (fun I => ?_) (fun I => ?_)
      · refine zqo I (fun Al W I => (HH W c I.fa.1.rd I.fa.1.le_cap I.fa.2.1).out) fun Al W p13 c13 I => ?_
        refine zo 8 I fun I => ?_
        refine zn I fun Al W I => ?_
        refine zo 9 I fun I => ?_
        refine zn I fun Al W I => ?_
        exact a0m I J fun Al W U I => hJ _ _ _ _ _ ⟨U, p13, c13, rfl, rfl, rfl⟩ (I.pick [0, 1, 2])
      refine zn I fun Al W I => ?_
      refine zo 7 I fun I => ?_
      refine zqo I (fun Al W I => (HH W c I.fa.1.rd I.fa.1.le_cap I.fa.2.1).out) fun Al W p13 c13 I => ?_
      refine zo 9 I fun I => ?_
      refine zn I fun Al W I => ?_
      exact a0m I J fun Al W U I => hJ _ _ _ _ _ ⟨U, p13, c13, rfl, rfl, rfl⟩ (I.pick [0, 1, 2])
    refine zn I fun Al W I => ?_
    refine zo 3 I fun I => ?_
    refine zq I (fun Al W I => (HW W _ (I.box 0 182 _)).out) fun Al W I => ?_
    refine zki 6 I .i64 (((wid f.g : Nat) : Int) * pw) (mw) ((by rw [HMW.out]; exact iwo)) fun I => ?_
    refine zo 7 I fun I => ?_
    refine zqo I (fun Al W I => (HH W c I.fa.1.rd I.fa.1.le_cap I.fa.2.1).out) fun Al W p13 c13 I => ?_
    refine zo 9 I fun I => ?_
    refine zn I fun Al W I => ?_
    exact a0m I J fun Al W U I => hJ _ _ _ _ _ ⟨U, p13, c13, rfl, rfl, rfl⟩ (I.pick [0, 1, 2])
  rintro _ _ _ ⟨U1, p13, c13, rfl, rfl, rfl⟩ Al W I
  exact zret I fun Al W I => ⟨p13, c13, rfl, I.fa.1.mono (by omega), I.below⟩
 | true =>
  rw [if_pos rfl]
  have I := Inv.startR w [u] [⟨182, (uS f n way fl), true⟩] [ownF b0 .u32 141 p c (dig B32 d0), tabF] ⟨U, True.intro⟩ ⟨hp, hT, True.intro⟩
  refine a0g [.p 0 0, .v (.agg #[.int .i64 (cls : Int), .bool true, .slice p (dig B32 d0).length c, .int .i64 pw])] I Tryz.func121 ?_
  refine zcut I none (fun fr bx gs => ∃ (U1 : Nat → Value) (p13 : Option Addr) (c13 : Nat), fr = (.p 0 0 :: .v (.agg #[.int .i64 (cls : Int), .bool true, .slice p (dig B32 d0).length c, .int .i64 pw]) :: .v undef :: .p 1 0 :: .p 2 0 :: .p 3 0 :: sw U1 6 9 (.v undef :: sw U1 16 3 []) : List SV) ∧ bx = [⟨182, (uS f n way fl), true⟩, ⟨75, [.v (.int .i64 (cls : Int)), .v (.bool true), .v (.slice p (dig B32 d0).length c), .v (.int .i64 pw)], false⟩, ⟨112, [.v (.bool false), .v (.slice none 0 0), .v (.int .i64 0)], false⟩, ⟨112, [.v (.bool d.neg), .v (.slice p13 (dig B32 d.m).length c13), .v (.int .i64 d.e)], false⟩] ∧ gs = [ownF w.heap.size .u32 141 p13 c13 (dig B32 d.m), ownF b0 .u32 141 p c (dig B32 d0), tabF]) ?_ ?_
  · intro J hJ Al W I
    refine zd [] I fun Al W I => ?_
    refine zk [0, 1, 2, 4, 5] I fun I => ?_
    refine zo2 3 8 I (fun I => ?_) (fun I => ?_)
    · refine zq I (fun Al W I => (HW W _ (I.box 0 182 _)).out) fun Al W I => ?_
      refine zki 6 I .i64 (((wid f.g : Nat) : Int) * pw) (mw) ((by rw [HMW.out]; exact iwo)) fun I => ?_
      refine zo2 7 8 I (fun I => ?_) (fun I => ?_)
      · refine zqo I (fun Al W I => (HH W c I.fa.1.rd I.fa.1.le_cap I.fa.2.1).out) fun Al W p13 c13 I => ?_
        refine zo 8 I fun I => ?_
        refine zn I fun Al W I => ?_
        refine zo 9 I fun I => ?_
        refine zn I fun Al W I => ?_
        exact a0m I J fun Al W U I => hJ _ _ _ _ _ ⟨U, p13, c13, rfl, rfl, rfl⟩ (I.pick [0, 1, 2])
      refine zn I fun Al W I => ?_
      refine zo 7 I fun I => ?_
      refine zqo I (fun Al W I => (HH W c I.fa.1.rd I.fa.1.le_cap I.fa.2.1).out) fun Al W p13 c13 I => ?_
      refine zo 9 I fun I => ?_
      refine zn I fun Al W I => ?_
      exact a0m I J fun Al W U I => hJ _ _ _ _ _ ⟨U, p13, c13, rfl, rfl, rfl⟩ (I.pick [0, 1, 2])
    refine zn I fun Al W I => ?_
    refine zo 3 I fun I => ?_
    refine zq I (fun Al W I => (HW W _ (I.box 0 182 _)).out) fun Al W I => ?_
    refine zki 6 I .i64 (((wid f.g : Nat) : Int) * pw) (mw) ((by rw [HMW.out]; exact iwo)) fun I => ?_
    refine zo 7 I fun I => ?_
    refine zqo I (fun Al W I => (HH W c I.fa.1.rd I.fa.1.le_cap I.fa.2.1).out) fun Al W p13 c13 I => ?_
    refine zo 9 I fun I => ?_
    refine zn I fun Al W I => ?_
    exact a0m I J fun Al W U I => hJ _ _ _ _ _ ⟨U, p13, c13, rfl, rfl, rfl⟩ (I.pick [0, 1, 2])
  rintro _ _ _ ⟨U1, p13, c13, rfl, rfl, rfl⟩ Al W I
  refine zq I (fun Al W I => z0y d.neg p13 _ c13 d.e d.m W rfl) fun Al W I => ?_
  exact zret I fun Al W I => ⟨p13, c13, rfl, I.fa.1.mono (by omega), I.below⟩
theorem k1v (f : Fm) (n way : Int) (u : Nat) (w : World) (U : Bt w u 182 #[.int .i64 n, .int .i64 way, .int .i64 f.g.rad, .int .i64 f.g.digs, .int .i64 f.g.lo, .int .i64 f.g.hi, .bool f.g.grad, .int .u8 (famB f), .int .i64 0]) (fl : Nat) (b : Int) (hc : bits .or .i64 0 b = (fl : Nat)) :
 Calls Tryz.prog 117 #[.pointer (some ⟨u, 0, none⟩), .int .i64 b] w (d0c f n way u w w.heap.size (f.nothM, fl)) := by
 have HR := fun W u hU => hi0 (c0i f n way 0 b (fl : Nat) u W hU hc)
 have HN := fun W u hU => hi0 (h0h f n way (fl : Nat) u W hU)
 have hk : f.nothM.cls ≠ 2 := by unfold Fm.nothM; simp only; split <;> (try split) <;> omega
 have e : f.nothM = ⟨f.nothM.cls, false, vz⟩ := rfl
 rw [e]
 generalize f.nothM.cls = k at *
 have I := Inv.startW w u 182 (uS f n way 0) [] U True.intro True.intro
 refine a0g [.p 0 0, .v (.int .i64 b)] I Tryz.func117 ?_
 refine zge I 0 182 (fun Al W I => (HR W _ (I.box 0 182 _)).out) fun Al V Iv _ _ kz => ?_
 rintro _ W ⟨rfl, hO, hB⟩
 refine ⟨_, rfl, kz _ (uS f n way (fl : Int)) _ hO hB fun I => ?_⟩
 refine zq I (fun Al W I => (HN W _ (I.box 0 182 _)).out) fun Al W I => ?_
 exact zret I fun Al W I => a0e hk rfl I.bel (I.boxE 182 _)
theorem p0p (f : Fm) (n way : Int) (x : Dv) (p : Option Addr) (c u : Nat) (w : World) (U : Bt w u 182 #[.int .i64 n, .int .i64 way, .int .i64 f.g.rad, .int .i64 f.g.digs, .int .i64 f.g.lo, .int .i64 f.g.hi, .bool f.g.grad, .int .u8 (famB f), .int .i64 0]) (hp : Rd w .u32 p (dig B32 x.m))
 (hl : (dig B32 x.m).length ≤ 100000) (he : -1000000 ≤ x.e ∧ x.e ≤ 1000000) (G : b0g f) (hw : 1 ≤ way ∧ way ≤ 5) :
 Calls Tryz.prog 69 #[.pointer (some ⟨u, 0, none⟩), .agg #[.bool x.neg, .slice p (dig B32 x.m).length c, .int .i64 x.e]] w (d0c f n way u w w.heap.size (f.numM x way)) := by
 have hs : f0p ⟨x.neg, x.m, x.e⟩ = f0p x := rfl
 have HS := fun W => hi0 (d0d x.neg p _ c x.e x.m W rfl)
 rw [hs] at HS
 have h0 := m0k x
 by_cases hx : x.m = 0
 · have hn : f.numM x way = (⟨1, false, vz⟩, 0) := by unfold Fm.numM Fm.zeroM; rw [if_pos hx]; simp
   rw [hn]
   have HZ := fun W u hU => hi0 (n0u f n way 0 false u W hU)
   rw [Bool.false_and] at HZ
   have hd := h0.2 hx
   generalize f0p x = sx at *
   have I := Inv.startW w u 182 (uS f n way 0) [rdF .u32 p (dig B32 x.m)] U ⟨hp, True.intro⟩ ⟨fun hf => hp.far U (by kernel_rfl) hf.1 hf.2, True.intro⟩
   refine a0g [.p 0 0, .v (.agg #[.bool x.neg, .slice p (dig B32 x.m).length c, .int .i64 x.e])] I Tryz.func69 ?_
   refine zq I (fun Al W I => (HS W).out) fun Al W I => ?_
   refine zb I 7 (sx == 0) (true) (beq_iff_eq.2 hd) fun Al W I => ?_
   refine zq I (fun Al W I => (HZ W _ (I.box 0 182 _)).out) fun Al W I => ?_
   exact zret I fun Al W I => a0e (k := 1) (by decide) rfl I.bel (I.boxE 182 _)
 · have hn : f.numM x way = f.placedM (a0s x.neg x.m 1 x.e f.g way) way := by unfold Fm.numM; rw [if_neg hx]
   rw [hn]
   have hd : f0p x ≠ 0 := fun h => hx (h0.1 h)
   have l1 : (dig B32 1).length ≤ 1 := by rw [a0l a0b]; unfold B32; omega
   have HF := fun p q c d u W U h1 h2 => hi0 (k1u f n way x.neg p q c d x.m 1 x.e u W U h1 h2 hl (by omega) (by omega) (by omega) he G hw)
   have HV := (h0s G (neg := x.neg) (num := x.m) (den := 1) (e := x.e) (way := way) (by omega)).2
   have hm : f.placedM (a0s x.neg x.m 1 x.e f.g way) way = ((f.placedM (a0s x.neg x.m 1 x.e f.g way) way).1, (f.placedM (a0s x.neg x.m 1 x.e f.g way) way).2) := rfl
   rw [hm]
   generalize (f.placedM (a0s x.neg x.m 1 x.e f.g way) way).1 = r at *
   generalize (f.placedM (a0s x.neg x.m 1 x.e f.g way) way).2 = fl at *
   generalize f.placedV (a0s x.neg x.m 1 x.e f.g way) way = v at *
   generalize f0p x = sx at *
   have I := Inv.startW w u 182 (uS f n way 0) [rdF .u32 p (dig B32 x.m)] U ⟨hp, True.intro⟩ ⟨fun hf => hp.far U (by kernel_rfl) hf.1 hf.2, True.intro⟩
   refine a0g [.p 0 0, .v (.agg #[.bool x.neg, .slice p (dig B32 x.m).length c, .int .i64 x.e])] I Tryz.func69 ?_
   refine zq I (fun Al W I => (HS W).out) fun Al W I => ?_
   refine zb I 7 (sx == 0) (false) (bFn hd) fun Al W I => ?_
   refine zd [0, 2] I fun Al W I => ?_
   refine zk [0, 1, 2, 3, 4, 5, 6, 8, 9, 10] I fun I => ?_
   refine zo 7 I fun I => ?_
   refine zqo I (fun Al W I => have hzW := I.bel.size; sof 1 1 rfl (by omega) W) fun Al W p17 c17 I => ?_
   refine zk [11] I fun I => ?_
   refine zo 12 I fun I => ?_
   refine zge I 0 182 (fun Al W I => (HF p p17 c c17 _ W (I.box 0 182 _) I.fa.2.1 I.fa.1.rd).out) fun Al V Iv _ _ kz => ?_
   rintro _ W ⟨p22, c22, rfl, o22, hO, hB⟩
   refine ⟨_, rfl, kz _ (uS f n way (fl : Int)) _ hO hB fun I => ?_⟩
   have I := I.own o22
   refine zo 13 I fun I => ?_
   refine zn I fun Al W I => ?_
   exact zret I fun Al W I => ⟨v, HV, p22, c22, rfl, I.fa.1.mono (by omega), I.bel, I.boxE 182 _⟩
structure Vp where
 v : Vl
 p : Option Addr
 c : Nat
def Vp.cells (x : Vp) : List Value := [.int .i64 (x.v.cls : Int), .bool x.v.neg, .slice x.p (dig B32 x.v.d).length x.c, .int .i64 x.v.pow]
theorem Vp.len (x : Vp) : x.cells.length = 4 := rfl
theorem h0w : z0c Tryz.prog 93 75 4 48 := c1o (z := .agg #[.int .i64 0, .bool false, .slice none 0 0, .int .i64 0]) (by kernel_rfl) (by kernel_rfl) (by kernel_rfl) (by kernel_rfl) (by kernel_rfl)
theorem d0i : d0z Tryz.prog 75 4 := c0k (by kernel_rfl) (by kernel_rfl)
theorem r0e (f : Fm) (n way fl : Int) (xs : List Vp) (b m u : Nat) (w : World) (U : Bt w u 182 #[.int .i64 n, .int .i64 way, .int .i64 f.g.rad, .int .i64 f.g.digs, .int .i64 f.g.lo, .int .i64 f.g.hi, .bool f.g.grad, .int .u8 (famB f), .int .i64 fl]) (hB : Bt w b 75 (xs.flatMap Vp.cells).toArray) (hm : m = xs.length) (hl : xs.length ≤ 1000) (hno : ∀ x ∈ xs, x.v.cls < 4) :
 Calls Tryz.prog 114 #[.pointer (some ⟨u, 0, none⟩), .slice (some ⟨b, 0, none⟩) m m] w fun en w' => en = .returned (.tuple #[.agg #[.int .i64 0, .bool false, .slice none 0 0, .int .i64 0], .bool false]) ∧ Below w.heap.size w w' := by
 subst hm
 have HX : ∀ i, i < xs.length → ∃ x : Vp, xs[i]? = some x ∧ x.v.cls < 4 := fun i h => ⟨xs[i], List.getElem?_eq_getElem h, hno _ (List.getElem_mem h)⟩
 have I := Inv.startR w [u] [⟨182, (uS f n way fl), true⟩] [btF b 75 (xs.flatMap Vp.cells).toArray] ⟨U, True.intro⟩ ⟨hB, True.intro⟩
 refine a0g [.p 0 0, .v (.slice (some ⟨b, 0, none⟩) xs.length xs.length)] I Tryz.func114 ?_
 refine y0u I (fun gk fr bx gs => ∃ (U900 : Nat → Value) (i : Nat), fr = (.p 0 0 :: .v (.slice (some ⟨b, 0, none⟩) xs.length xs.length) :: su 2 (.p 1 0 :: .v (U900 5) :: .v undef :: .v (U900 7) :: .v (.slice (some ⟨b, 0, none⟩) xs.length xs.length) :: .v (.int .i64 (xs.length : Int)) :: .v (.int .i64 (i : Int)) :: sw U900 11 16 []) : List SV) ∧ bx = [⟨182, (uS f n way fl), true⟩, ⟨75, [.v (.int .i64 0), .v (.bool false), .v (.slice none 0 0), .v (.int .i64 0)], false⟩] ∧ gs = [btF b 75 (xs.flatMap Vp.cells).toArray] ∧ (gk + i = xs.length)) xs.length (fun Al W U I => ⟨_, ⟨U, 0, rfl, rfl, rfl, (by omega)⟩, I.pick [0]⟩) ?_
 rintro J gk0 _ _ _ ⟨U900, i, rfl, rfl, rfl, hgk⟩ hJ Al W I
 rcases Bool.eq_false_or_eq_true (decide ((i : Int) < (xs.length : Int))) with f11 | f11
 · refine zb I 11 (decide ((i : Int) < (xs.length : Int))) (true) (f11) fun Al W I => ?_
   obtain ⟨x, hx, hx4⟩ := HX i (by have := oTr f11; omega)
   refine zx I 12 (fun _ => .pointer (some (at_ (some ⟨b, 0, none⟩) (i * 4)))) (fun Al W I => (f0t (m := i) (n := xs.length) (c := xs.length) h0w (fun _ => ⟨rfl, rfl⟩) (by have := oTr f11; omega))) fun Al W I => ?_
   refine zx I 13 (fun _ => .agg #[.int .i64 (x.v.cls : Int), .bool x.v.neg, .slice x.p (dig B32 x.v.d).length x.c, .int .i64 x.v.pow]) (fun Al W I => (f1m I.fa.1 d0i x.cells (s0p Vp.len hx) rfl)) fun Al W I => ?_
   refine zqd I (fun Al W I => h0i x.v.cls x.v.neg x.p (dig B32 x.v.d).length x.c x.v.pow W) (show (decide (x.v.cls = 4) || decide (x.v.cls = 5)) = false from (by rw [decide_eq_false (by omega), decide_eq_false (by omega)]; rfl)) fun Al W I => ?_
   refine zi I 25 .i64 ((i : Int) + 1) (((i + 1 : Nat) : Int)) ((by rw [show ((i : Int) + 1) = ((i + 1 : Nat) : Int) by omega]; exact IntWalk.i64_in _ (by have := oTr f11; omega))) fun Al W I => ?_
   exact u0j 2 I J fun Al W U I => hJ (gk0 - 1) _ _ _ _ _ ((by have := oTr f11; omega)) ⟨U, i + 1, rfl, rfl, rfl, (by have := oTr f11; omega)⟩ (I.pick [0])
 refine zb I 11 (decide ((i : Int) < (xs.length : Int))) (false) (f11) fun Al W I => ?_
 exact zrb I
theorem m0r (f : Fm) (n way : Int) (xs : List Vp) (b m u : Nat) (w : World) (U : Bt w u 182 #[.int .i64 n, .int .i64 way, .int .i64 f.g.rad, .int .i64 f.g.digs, .int .i64 f.g.lo, .int .i64 f.g.hi, .bool f.g.grad, .int .u8 (famB f), .int .i64 0]) (hB : Bt w b 75 (xs.flatMap Vp.cells).toArray) (hm : m = xs.length) (hl : xs.length ≤ 1000) (hc : ∀ x ∈ xs, x.v.cls ≤ 5) (G : b0g f) (hyes : ∃ x ∈ xs, 4 ≤ x.v.cls) :
 Calls Tryz.prog 114 #[.pointer (some ⟨u, 0, none⟩), .slice (some ⟨b, 0, none⟩) m m] w fun en w' => en = .returned (.tuple #[.agg #[.int .i64 (f.nothM.cls : Int), .bool false, .slice none 0 0, .int .i64 0], .bool true]) ∧ Kp [u] w w' ∧ Bt w' u 182 #[.int .i64 n, .int .i64 way, .int .i64 f.g.rad, .int .i64 f.g.digs, .int .i64 f.g.lo, .int .i64 f.g.hi, .bool f.g.grad, .int .u8 (famB f), .int .i64 ((f.offM.2 : Nat) : Int)] := by
 subst hm
 have HX : ∀ i, i < xs.length → ∃ x : Vp, xs[i]? = some x ∧ x.v.cls ≤ 5 := fun i h => ⟨xs[i], List.getElem?_eq_getElem h, hc _ (List.getElem_mem h)⟩
 obtain ⟨y, hy, hy4⟩ := hyes
 obtain ⟨j, hj, hjy⟩ := List.getElem_of_mem hy
 have hYJ : xs[j]? = some y := by rw [List.getElem?_eq_getElem hj, hjy]
 clear hjy hy hc
 have HN := fun fl W u hU => hi0 (h0h f n way fl u W hU)
 have HR := fun W u hU => hi0 (c0i f n way 0 16 16 u W hU (by decide +kernel))
 have e2 : f.fam = 3 → ((f.offM.2 : Nat) : Int) = 16 ∧ famB f = 67 := fun h => ⟨by unfold Fm.offM; rw [if_pos h]; rfl, by unfold famB; rw [if_neg (by omega), if_neg (by omega)]⟩
 have e3 : f.fam ≠ 3 → ((f.offM.2 : Nat) : Int) = 0 := fun h => by unfold Fm.offM; rw [if_neg h]; rfl
 have e4 : f.fam ≠ 3 → famB f ≠ 67 := fun h => by have := G.fam; unfold famB; split; decide; rw [if_pos (by omega)]; decide
 generalize ((f.offM.2 : Nat) : Int) = fl at *
 generalize f.nothM.cls = kN at *
 have I := Inv.startW w u 182 (uS f n way 0) [btF b 75 (xs.flatMap Vp.cells).toArray] U ⟨hB, True.intro⟩ ⟨fun hf => hB.far U (by kernel_rfl) hf, True.intro⟩
 refine a0g [.p 0 0, .v (.slice (some ⟨b, 0, none⟩) xs.length xs.length)] I Tryz.func114 ?_
 refine y0u I (fun gk fr bx gs => ∃ (U900 : Nat → Value) (i : Nat), fr = (.p 0 0 :: .v (.slice (some ⟨b, 0, none⟩) xs.length xs.length) :: su 2 (.p 1 0 :: .v (U900 5) :: .v undef :: .v (U900 7) :: .v (.slice (some ⟨b, 0, none⟩) xs.length xs.length) :: .v (.int .i64 (xs.length : Int)) :: .v (.int .i64 (i : Int)) :: sw U900 11 16 []) : List SV) ∧ bx = [⟨182, (uS f n way 0), false⟩, ⟨75, [.v (.int .i64 0), .v (.bool false), .v (.slice none 0 0), .v (.int .i64 0)], false⟩] ∧ gs = [btF b 75 (xs.flatMap Vp.cells).toArray] ∧ (gk + i = xs.length) ∧ (∀ (j : Nat) (x : Vp), j < i → xs[j]? = some x → x.v.cls < 4)) xs.length (fun Al W U I => ⟨_, ⟨U, 0, rfl, rfl, rfl, (by omega), (fun _ _ h => absurd h (by omega))⟩, I.pick [0]⟩) ?_
 rintro J gk0 _ _ _ ⟨U900, i, rfl, rfl, rfl, hgk, hlt⟩ hJ Al W I
 rcases Bool.eq_false_or_eq_true (decide ((i : Int) < (xs.length : Int))) with f11 | f11
 · refine zb I 11 (decide ((i : Int) < (xs.length : Int))) (true) (f11) fun Al W I => ?_
   obtain ⟨x, hx, hx5⟩ := HX i (by have := oTr f11; omega)
   refine zx I 12 (fun _ => .pointer (some (at_ (some ⟨b, 0, none⟩) (i * 4)))) (fun Al W I => (f0t (m := i) (n := xs.length) (c := xs.length) h0w (fun _ => ⟨rfl, rfl⟩) (by have := oTr f11; omega))) fun Al W I => ?_
   refine zx I 13 (fun _ => .agg #[.int .i64 (x.v.cls : Int), .bool x.v.neg, .slice x.p (dig B32 x.v.d).length x.c, .int .i64 x.v.pow]) (fun Al W I => (f1m I.fa.1 d0i x.cells (s0p Vp.len hx) rfl)) fun Al W I => ?_
   by_cases hof : 4 ≤ x.v.cls
   · refine zqd I (fun Al W I => h0i x.v.cls x.v.neg x.p (dig B32 x.v.d).length x.c x.v.pow W) (show (decide (x.v.cls = 4) || decide (x.v.cls = 5)) = true from (by rcases (show x.v.cls = 4 ∨ x.v.cls = 5 by omega) with h | h <;> rw [h] <;> rfl)) fun Al W I => ?_
     by_cases hf3 : f.fam = 3
     · refine zb I 20 ((famB f) == 67) (true) (beq_iff_eq.2 (e2 hf3).2) fun Al W I => ?_
       refine zge I 0 182 (fun Al W I => (HR W _ (I.box 0 182 _)).out) fun Al V Iv _ _ kz => ?_
       rintro _ W ⟨rfl, hO, hB⟩
       refine ⟨_, rfl, kz _ (uS f n way 16) _ hO hB fun I => ?_⟩
       refine zq I (fun Al W I => (HN 16 W _ (I.box 0 182 _)).out) fun Al W I => ?_
       refine zret I (v := fun Al => .tuple #[.agg #[.int .i64 (kN : Int), .bool false, .slice none 0 0, .int .i64 0], .bool true]) fun Al W I => ?_
       first | exact ⟨rfl, I.bel, by rw [(e2 hf3).1]; exact I.boxE 182 _⟩ | exact ⟨rfl, I.bel, by rw [e3 hf3]; exact I.boxE 182 _⟩
     refine zb I 20 ((famB f) == 67) (false) (bFn (e4 hf3)) fun Al W I => ?_
     refine zq I (fun Al W I => (HN 0 W _ (I.box 0 182 _)).out) fun Al W I => ?_
     refine zret I (v := fun Al => .tuple #[.agg #[.int .i64 (kN : Int), .bool false, .slice none 0 0, .int .i64 0], .bool true]) fun Al W I => ?_
     first | exact ⟨rfl, I.bel, by rw [(e2 hf3).1]; exact I.boxE 182 _⟩ | exact ⟨rfl, I.bel, by rw [e3 hf3]; exact I.boxE 182 _⟩
   refine zqd I (fun Al W I => h0i x.v.cls x.v.neg x.p (dig B32 x.v.d).length x.c x.v.pow W) (show (decide (x.v.cls = 4) || decide (x.v.cls = 5)) = false from (by rw [decide_eq_false (by omega), decide_eq_false (by omega)]; rfl)) fun Al W I => ?_
   refine zi I 25 .i64 ((i : Int) + 1) (((i + 1 : Nat) : Int)) ((by rw [show ((i : Int) + 1) = ((i + 1 : Nat) : Int) by omega]; exact IntWalk.i64_in _ (by have := oTr f11; omega))) fun Al W I => ?_
   exact u0j 2 I J fun Al W U I => hJ (gk0 - 1) _ _ _ _ _ ((by have := oTr f11; omega)) ⟨U, i + 1, rfl, rfl, rfl, (by have := oTr f11; omega), (fun j' x' h h' => by rcases (show j' < i ∨ j' = i by omega) with q | rfl; exact hlt j' x' q h'; rw [hx] at h'; cases h'; omega)⟩ (I.pick [0])
 refine zb I 11 (decide ((i : Int) < (xs.length : Int))) (false) (f11) fun Al W I => ?_
 exact zret I (v := fun Al => .tuple #[.agg #[.int .i64 0, .bool false, .slice none 0 0, .int .i64 0], .bool false]) fun Al W I => absurd (hlt j y (by have := oFa f11; omega) hYJ) (by rw [Nat.not_lt]; omega)
theorem b1a (x y : Dv) (p q : Option Addr) (c d base : Nat) (w : World) (hx : Bare x) (hy : Bare y) (sx : SmD x) (sy : SmD y) (hp : Own w base .u32 141 p c (dig B32 x.m)) (hq : Own w base .u32 141 q d (dig B32 y.m)) (hT : TabW w) (hb : base ≤ w.heap.size) :
 Calls Tryz.prog 66 #[.agg #[.bool x.neg, .slice p (dig B32 x.m).length c, .int .i64 x.e], .agg #[.bool y.neg, .slice q (dig B32 y.m).length d, .int .i64 y.e]] w (e0h w base (i0k x y)) := by
 have h1 := sx.len
 have h2 := sy.len
 have h3 := sx.lo
 have h4 := sx.hi
 have h5 := sy.lo
 have h6 := sy.hi
 have := x0z x.neg y.neg p q _ c _ d base x.e y.e x.m y.m w hp hq rfl rfl (by omega) (by omega) (by omega) (by omega) hT hb
 rw [show (⟨x.neg, x.m, x.e⟩ : Dv) = x from rfl, show (⟨y.neg, y.m, y.e⟩ : Dv) = y from rfl, t0t hx hy] at this
 exact this
theorem k1w (f : Fm) (n way : Int) (x y : Dv) (g h : Bool) (p q : Option Addr) (c d base u : Nat) (w : World) (U : Bt w u 182 #[.int .i64 n, .int .i64 way, .int .i64 f.g.rad, .int .i64 f.g.digs, .int .i64 f.g.lo, .int .i64 f.g.hi, .bool f.g.grad, .int .u8 (famB f), .int .i64 0]) (hp : Own w base .u32 141 p c (dig B32 x.m)) (hq : Own w base .u32 141 q d (dig B32 y.m)) (hb : base ≤ w.heap.size)
 (hx : Bare x) (hy : Bare y) (sx : SmD x) (sy : SmD y) (G : b0g f) (hw : 1 ≤ way ∧ way ≤ 5) (hT : TabW w) :
 Calls Tryz.prog 144 #[.pointer (some ⟨u, 0, none⟩), .agg #[.bool x.neg, .slice p (dig B32 x.m).length c, .int .i64 x.e], .agg #[.bool y.neg, .slice q (dig B32 y.m).length d, .int .i64 y.e], .bool g, .bool h] w (d0c f n way u w w.heap.size (f.sumM x y g h way)) := by
 have HP := fun W h1 h2 h3 h4 => hi0 (b1a x y p q c d base W hx hy sx sy h1 h2 h3 h4)
 have hbd := d1f sx.len sy.len sx.lo sx.hi sy.lo sy.hi
 rw [t0t hx hy] at hbd
 have hS1 : (i0k x y).m ≠ 0 → f.sumM x y g h way = f.numM (i0k x y) way := fun k => by unfold Fm.sumM; rw [if_pos k]
 have hS2 : (i0k x y).m = 0 → x.m = 0 ∧ g = h → f.sumM x y g h way = (f.zeroM g, 0) := fun k k' => by unfold Fm.sumM; rw [if_neg (fun h => h k), if_pos k']
 have hS3 : (i0k x y).m = 0 → ¬ (x.m = 0 ∧ g = h) → f.sumM x y g h way = (f.zeroM (decide (way = 5)), 0) := fun k k' => by unfold Fm.sumM; rw [if_neg (fun h => h k), if_neg k']
 generalize i0k x y = s at *
 generalize f.sumM x y g h way = R at *
 have HN := fun W u (p : Option Addr) (c : Nat) hU h1 => hi0 (p0p f n way s p c u W hU h1 (by omega) (by omega) G hw)
 have HS := fun (W : World) (p : Option Addr) (c : Nat) => hi0 (d0d s.neg p _ c s.e s.m W rfl)
 have HX := fun (W : World) => hi0 (d0d x.neg p _ c x.e x.m W rfl)
 have HZ := fun g W u hU => hi0 (n0u f n way 0 g u W hU)
 rw [show (⟨s.neg, s.m, s.e⟩ : Dv) = s from rfl] at HS
 rw [show (⟨x.neg, x.m, x.e⟩ : Dv) = x from rfl] at HX
 have hs0 := m0k s
 have hx0 := m0k x
 generalize f0p s = ss at *
 generalize f0p x = xs at *
 obtain ⟨rN, flN, hN⟩ : ∃ rN flN, f.numM s way = (rN, flN) := ⟨_, _, rfl⟩
 rw [hN] at HN hS1
 clear hN
 have I := Inv.startW w u 182 (uS f n way 0) [ownF base .u32 141 p c (dig B32 x.m), ownF base .u32 141 q d (dig B32 y.m), tabF] U ⟨hp, hq, hT, True.intro⟩ ⟨fun hf => hp.far U (by kernel_rfl) hf.1 hf.2, fun hf => hq.far U (by kernel_rfl) hf.1 hf.2, fun hf => hT.far U (by kernel_rfl) hf, True.intro⟩
 refine a0g [.p 0 0, .v (.agg #[.bool x.neg, .slice p (dig B32 x.m).length c, .int .i64 x.e]), .v (.agg #[.bool y.neg, .slice q (dig B32 y.m).length d, .int .i64 y.e]), .v (.bool g), .v (.bool h)] I Tryz.func144 ?_
 refine zg I (fun Al W I => have hzW := I.bel.size; (HP W I.fa.1 I.fa.2.1 I.fa.2.2.1 (by omega)).out) fun Al V Iv _ hB _ kz => ?_
 rintro _ W ⟨p14, c14, rfl, o14, hb⟩
 refine ⟨_, rfl, kz _ _ hb fun I => ?_⟩
 have I := I.ownB base o14
 by_cases hs : s.m = 0
 · refine zq I (fun Al W I => (HS W p14 c14).out) fun Al W I => ?_
   refine zb I 17 (ss != 0) (false) (bne_eq_false_iff_eq.2 (hs0.2 hs)) fun Al W I => ?_
   by_cases hx1 : x.m = 0
   · by_cases hgh : g = h
     · refine zq I (fun Al W I => (HX W).out) fun Al W I => ?_
       refine zb I 23 (xs == 0) (true) (beq_iff_eq.2 (hx0.2 hx1)) fun Al W I => ?_
       refine zb I 27 (g == h) (true) ((by rw [hgh]; exact beq_self_eq_true h)) fun Al W I => ?_
       refine zq I (fun Al W I => (HZ g W _ (I.box 0 182 _)).out) fun Al W I => ?_
       rw [hS2 hs ⟨hx1, hgh⟩]
       exact zret I fun Al W I => a0e (k := 1) (by decide) rfl I.bel (I.boxE 182 _)
     refine zq I (fun Al W I => (HX W).out) fun Al W I => ?_
     refine zb I 23 (xs == 0) (true) (beq_iff_eq.2 (hx0.2 hx1)) fun Al W I => ?_
     refine zb I 27 (g == h) (false) (bFn hgh) fun Al W I => ?_
     refine zb I 37 (way == 5) ((decide (way = 5))) (rfl) fun Al W I => ?_
     refine zq I (fun Al W I => (HZ (decide (way = 5)) W _ (I.box 0 182 _)).out) fun Al W I => ?_
     rw [hS3 hs (fun k => by first | exact hx1 k.1 | exact hgh k.2)]
     exact zret I fun Al W I => a0e (k := 1) (by decide) rfl I.bel (I.boxE 182 _)
   by_cases hgh : g = h
   · refine zq I (fun Al W I => (HX W).out) fun Al W I => ?_
     refine zb I 23 (xs == 0) (false) (bFn (fun k => hx1 (hx0.1 k))) fun Al W I => ?_
     refine zb I 37 (way == 5) ((decide (way = 5))) (rfl) fun Al W I => ?_
     refine zq I (fun Al W I => (HZ (decide (way = 5)) W _ (I.box 0 182 _)).out) fun Al W I => ?_
     rw [hS3 hs (fun k => by first | exact hx1 k.1 | exact hgh k.2)]
     exact zret I fun Al W I => a0e (k := 1) (by decide) rfl I.bel (I.boxE 182 _)
   refine zq I (fun Al W I => (HX W).out) fun Al W I => ?_
   refine zb I 23 (xs == 0) (false) (bFn (fun k => hx1 (hx0.1 k))) fun Al W I => ?_
   refine zb I 37 (way == 5) ((decide (way = 5))) (rfl) fun Al W I => ?_
   refine zq I (fun Al W I => (HZ (decide (way = 5)) W _ (I.box 0 182 _)).out) fun Al W I => ?_
   rw [hS3 hs (fun k => by first | exact hx1 k.1 | exact hgh k.2)]
   exact zret I fun Al W I => a0e (k := 1) (by decide) rfl I.bel (I.boxE 182 _)
 refine zq I (fun Al W I => (HS W p14 c14).out) fun Al W I => ?_
 refine zb I 17 (ss != 0) (true) (bne_iff_ne.2 (fun k => hs (hs0.1 k))) fun Al W I => ?_
 refine zge I 0 182 (fun Al W I => (HN W _ p14 c14 (I.box 0 182 _) I.fa.1.rd).out) fun Al V Iv _ _ kz => ?_
 rintro _ W ⟨v20, hR20, p20, c20, rfl, o20, hO, hB⟩
 refine ⟨_, rfl, kz _ (uS f n way (flN : Int)) _ hO hB fun I => ?_⟩
 have I := I.own o20
 rw [hS1 hs]
 exact zret I fun Al W I => ⟨v20, hR20, p20, c20, rfl, I.fa.1, I.bel, I.boxE 182 _⟩
structure AtV (f : Fm) (a : Vp) (r : Vr) : Prop where
 rep : VRep f a.v r
 ok : VrOk r
 inf : r.cls = 3 → f.fam = 1
theorem VrOk.sm {r : Vr} (R : VrOk r) : SmD r.x := ⟨by have := R.len; omega, by have := R.lo; omega, by have := R.hi; omega⟩
theorem u0w {r s : Vr} (R : VrOk r) (S : VrOk s) : SmD (f0q r.x s.x) := by
 have h1 := R.len
 have h2 := S.len
 have h3 := R.lo
 have h4 := R.hi
 have h5 := S.lo
 have h6 := S.hi
 have h7 := v0q r.x s.x
 have h8 : (dig B32 (r.x.m * s.x.m)).length ≤ 1200 := Nat.le_trans (c0s a0b _ _) (by omega)
 have h9 := n0f ⟨xor r.x.neg s.x.neg, r.x.m * s.x.m, r.x.e + s.x.e⟩ (n := 1200) h8 (lo := -60000) (hi := 60000) (by simp only; omega) (by simp only; omega) (by omega) (by omega)
 have e : f0q r.x s.x = bare ⟨xor r.x.neg s.x.neg, r.x.m * s.x.m, r.x.e + s.x.e⟩ := rfl
 rw [← e] at h9
 exact ⟨by omega, by omega, by omega⟩
theorem t0e (f : Fm) (n way : Int) (u : Nat) (w : World) (U : Bt w u 182 #[.int .i64 n, .int .i64 way, .int .i64 f.g.rad, .int .i64 f.g.digs, .int .i64 f.g.lo, .int .i64 f.g.hi, .bool f.g.grad, .int .u8 (famB f), .int .i64 0]) :
 Calls Tryz.prog 117 #[.pointer (some ⟨u, 0, none⟩), .int .i64 16] w fun en w' => en = .returned (.agg #[.int .i64 (f.nothM.cls : Int), .bool false, .slice none 0 0, .int .i64 0]) ∧ Kp [u] w w' ∧ Bt w' u 182 #[.int .i64 n, .int .i64 way, .int .i64 f.g.rad, .int .i64 f.g.digs, .int .i64 f.g.lo, .int .i64 f.g.hi, .bool f.g.grad, .int .u8 (famB f), .int .i64 16] := by
 have HR := fun W u hU => hi0 (c0i f n way 0 16 16 u W hU (by decide +kernel))
 have HN := fun W u hU => hi0 (h0h f n way 16 u W hU)
 generalize f.nothM.cls = k at *
 have I := Inv.startW w u 182 (uS f n way 0) [] U True.intro True.intro
 refine a0g [.p 0 0, .v (.int .i64 16)] I Tryz.func117 ?_
 refine zge I 0 182 (fun Al W I => (HR W _ (I.box 0 182 _)).out) fun Al V Iv _ _ kz => ?_
 rintro _ W ⟨rfl, hO, hB⟩
 refine ⟨_, rfl, kz _ (uS f n way 16) _ hO hB fun I => ?_⟩
 refine zq I (fun Al W I => (HN W _ (I.box 0 182 _)).out) fun Al W I => ?_
 exact zret I fun Al W I => ⟨rfl, I.bel, I.boxE 182 _⟩
theorem n0w (x y : Dv) (p q : Option Addr) (c d base : Nat) (w : World) (sx : SmD x) (sy : SmD y) (hp : Own w base .u32 141 p c (dig B32 x.m)) (hq : Own w base .u32 141 q d (dig B32 y.m)) (hT : TabW w) :
 Calls Tryz.prog 146 #[.agg #[.bool x.neg, .slice p (dig B32 x.m).length c, .int .i64 x.e], .agg #[.bool y.neg, .slice q (dig B32 y.m).length d, .int .i64 y.e]] w (e0h w w.heap.size (f0q x y)) := by
 have h1 := sx.len
 have h2 := sy.len
 have h3 := sx.lo
 have h4 := sx.hi
 have h5 := sy.lo
 have h6 := sy.hi
 exact v0s x.neg y.neg p q _ c _ d base x.e y.e x.m y.m w hp hq rfl rfl (by omega) (by omega) (by omega) (by omega) hT
def two (a b : Vp) : List Vp := [a, b]
theorem i1f (f : Fm) (n way : Int) (a b : Vp) (ra rb : Vr) (base u : Nat) (w : World) (U : Bt w u 182 #[.int .i64 n, .int .i64 way, .int .i64 f.g.rad, .int .i64 f.g.digs, .int .i64 f.g.lo, .int .i64 f.g.hi, .bool f.g.grad, .int .u8 (famB f), .int .i64 0]) (oa : Own w base .u32 141 a.p a.c (dig B32 a.v.d)) (ob : Own w base .u32 141 b.p b.c (dig B32 b.v.d)) (hb : base ≤ w.heap.size)
 (A1 : AtV f a ra) (B1 : AtV f b rb) (G : b0g f) (hw : 1 ≤ way ∧ way ≤ 5) (hT : TabW w) :
 Calls Tryz.prog 90 #[.pointer (some ⟨u, 0, none⟩), .agg #[.int .i64 (a.v.cls : Int), .bool a.v.neg, .slice a.p (dig B32 a.v.d).length a.c, .int .i64 a.v.pow], .agg #[.int .i64 (b.v.cls : Int), .bool b.v.neg, .slice b.p (dig B32 b.v.d).length b.c, .int .i64 b.v.pow]] w (d0c f n way u w base (f.addM ra rb way)) := by
 have hM : f.addM ra rb way = if 4 ≤ a.v.cls ∨ 4 ≤ b.v.cls then f.offM else if a.v.cls = 3 ∨ b.v.cls = 3 then (if a.v.cls = b.v.cls ∧ a.v.neg ≠ b.v.neg then f.lostM else if a.v.cls = 3 then (ra, 0) else (rb, 0)) else f.sumM ra.x rb.x a.v.neg b.v.neg way := by
  unfold Fm.addM; rw [A1.rep.cls, B1.rep.cls, A1.rep.neg, B1.rep.neg]
 have hca : a.v.cls ≤ 5 := by rw [A1.rep.cls]; exact A1.ok.c.2
 have hcb : b.v.cls ≤ 5 := by rw [B1.rep.cls]; exact B1.ok.c.2
 have HY := fun W b0 u h1 h2 h3 => hi0 (m0r f n way [a, b] b0 2 u W h1 h2 rfl (by simp) (by simp [hca, hcb]) G h3)
 have HN := fun W b0 u h1 h2 h3 => hi0 (r0e f n way 0 [a, b] b0 2 u W h1 h2 rfl (by simp) h3)
 have HL := fun W u h1 => hi0 (k1v f n way u W h1 16 16 (by decide +kernel))
 have HA := fun W u h1 h2 h3 => hi0 (m0y f n way 0 a.v ra a.p a.c base u W h1 h2 A1.rep A1.ok h3)
 have HB := fun W u h1 h2 h3 => hi0 (m0y f n way 0 b.v rb b.p b.c base u W h1 h2 B1.rep B1.ok h3)
 have HS := fun W p q c d base u h1 h2 h3 h4 h5 => hi0 (k1w f n way ra.x rb.x a.v.neg b.v.neg p q c d base u W h1 h2 h3 h4 A1.ok.bare B1.ok.bare A1.ok.sm B1.ok.sm G hw h5)
 have hoffm : f.offM = (⟨f.nothM.cls, false, vz⟩, f.offM.2) := rfl
 have hk2 := f0n G
 have hlostm : f.lostM = (f.nothM, 16) := rfl
 have VA := A1.rep
 have VB := B1.rep
 obtain ⟨rS, flS, hS⟩ : ∃ rS flS, f.sumM ra.x rb.x a.v.neg b.v.neg way = (rS, flS) := ⟨_, _, rfl⟩
 rw [hS] at HS hM
 generalize f.addM ra rb way = R at *
 generalize f.offM.2 = flo at *
 generalize f.nothM.cls = kN at *
 generalize f.nothM = rN at *
 have I := Inv.startW w u 182 (uS f n way 0) [ownF base .u32 141 a.p a.c (dig B32 a.v.d), ownF base .u32 141 b.p b.c (dig B32 b.v.d), tabF] U ⟨oa, ob, hT, True.intro⟩ ⟨fun hf => oa.far U (by kernel_rfl) hf.1 hf.2, fun hf => ob.far U (by kernel_rfl) hf.1 hf.2, fun hf => hT.far U (by kernel_rfl) hf, True.intro⟩
 refine a0g [.p 0 0, .v (.agg #[.int .i64 (a.v.cls : Int), .bool a.v.neg, .slice a.p (dig B32 a.v.d).length a.c, .int .i64 a.v.pow]), .v (.agg #[.int .i64 (b.v.cls : Int), .bool b.v.neg, .slice b.p (dig B32 b.v.d).length b.c, .int .i64 b.v.pow])] I Tryz.func90 ?_
 by_cases hof : 4 ≤ a.v.cls ∨ 4 ≤ b.v.cls
 · refine zge I 0 182 (fun Al W I => (HY W _ _ (I.box 0 182 _) (I.box 4 75 _) (by simpa using hof)).out) fun Al V Iv _ _ kz => ?_
   rintro _ W ⟨rfl, hO, hB⟩
   refine ⟨_, rfl, kz _ (uS f n way (flo : Int)) _ hO hB fun I => ?_⟩
   rw [hM]
   refine zret I (v := fun Al => .agg #[.int .i64 (kN : Int), .bool false, .slice none 0 0, .int .i64 0]) fun Al W I => ?_
   first | (rw [if_pos hof, hoffm]; exact a0e hk2 rfl I.bel (I.boxE 182 _)) | (rw [if_neg hof, if_pos (.inl h3a), if_neg (fun h => by first | exact h.2 hng | (have := h.1; omega)), if_pos h3a]; exact ⟨a.v, VA, a.p, a.c, rfl, I.fa.1, I.bel, I.boxE 182 _⟩) | (rw [if_neg hof, if_pos (.inr h3b), if_neg (fun h => h3a (by omega)), if_neg h3a]; exact ⟨b.v, VB, b.p, b.c, rfl, I.fa.2.1, I.bel, I.boxE 182 _⟩)
 refine zq I (fun Al W I => have hzW := I.bel.size; (HN W _ _ (I.box 0 182 _) (I.box 4 75 _) (by simp only [List.mem_cons, List.mem_nil_iff, or_false]; rintro x (rfl | rfl) <;> omega)).out) fun Al W I => ?_
 by_cases h3a : a.v.cls = 3
 · by_cases h3b : b.v.cls = 3
   · by_cases hng : a.v.neg = b.v.neg
     · refine zqd I (fun Al W I => a0a a.v.cls a.v.neg a.p (dig B32 a.v.d).length a.c a.v.pow W) (dTr h3a) fun Al W I => ?_
       refine zqd I (fun Al W I => a0a b.v.cls b.v.neg b.p (dig B32 b.v.d).length b.c b.v.pow W) (dTr h3b) fun Al W I => ?_
       refine zb I 31 (a.v.neg != b.v.neg) (false) (bne_eq_false_iff_eq.2 hng) fun Al W I => ?_
       refine zqd I (fun Al W I => a0a a.v.cls a.v.neg a.p (dig B32 a.v.d).length a.c a.v.pow W) (dTr h3a) fun Al W I => ?_
       rw [hM]
       refine zret I (v := fun Al => .agg #[.int .i64 (a.v.cls : Int), .bool a.v.neg, .slice a.p (dig B32 a.v.d).length a.c, .int .i64 a.v.pow]) fun Al W I => ?_
       first | (rw [if_pos hof, hoffm]; exact a0e hk2 rfl I.bel (I.boxE 182 _)) | (rw [if_neg hof, if_pos (.inl h3a), if_neg (fun h => by first | exact h.2 hng | (have := h.1; omega)), if_pos h3a]; exact ⟨a.v, VA, a.p, a.c, rfl, I.fa.1, I.bel, I.boxE 182 _⟩) | (rw [if_neg hof, if_pos (.inr h3b), if_neg (fun h => h3a (by omega)), if_neg h3a]; exact ⟨b.v, VB, b.p, b.c, rfl, I.fa.2.1, I.bel, I.boxE 182 _⟩)
     refine zqd I (fun Al W I => a0a a.v.cls a.v.neg a.p (dig B32 a.v.d).length a.c a.v.pow W) (dTr h3a) fun Al W I => ?_
     refine zqd I (fun Al W I => a0a b.v.cls b.v.neg b.p (dig B32 b.v.d).length b.c b.v.pow W) (dTr h3b) fun Al W I => ?_
     refine zb I 31 (a.v.neg != b.v.neg) (true) (bne_iff_ne.2 hng) fun Al W I => ?_
     refine zge I 0 182 (fun Al W I => (HL W _ (I.box 0 182 _)).out) fun Al V Iv _ _ kz => ?_
     rintro _ W ⟨v34, hR34, p34, c34, rfl, o34, hO, hB⟩
     refine ⟨_, rfl, kz _ (uS f n way 16) _ hO hB fun I => ?_⟩
     have I := I.ownB base o34
     rw [hM, if_neg hof, if_pos (.inl h3a), if_pos ⟨by omega, hng⟩, hlostm]
     exact zret I fun Al W I => ⟨v34, hR34, p34, c34, rfl, I.fa.1, I.bel, I.boxE 182 _⟩
   by_cases hng : a.v.neg = b.v.neg
   · refine zqd I (fun Al W I => a0a a.v.cls a.v.neg a.p (dig B32 a.v.d).length a.c a.v.pow W) (dTr h3a) fun Al W I => ?_
     refine zqd I (fun Al W I => a0a b.v.cls b.v.neg b.p (dig B32 b.v.d).length b.c b.v.pow W) (dFa h3b) fun Al W I => ?_
     refine zqd I (fun Al W I => a0a a.v.cls a.v.neg a.p (dig B32 a.v.d).length a.c a.v.pow W) (dTr h3a) fun Al W I => ?_
     rw [hM]
     refine zret I (v := fun Al => .agg #[.int .i64 (a.v.cls : Int), .bool a.v.neg, .slice a.p (dig B32 a.v.d).length a.c, .int .i64 a.v.pow]) fun Al W I => ?_
     first | (rw [if_pos hof, hoffm]; exact a0e hk2 rfl I.bel (I.boxE 182 _)) | (rw [if_neg hof, if_pos (.inl h3a), if_neg (fun h => by first | exact h.2 hng | (have := h.1; omega)), if_pos h3a]; exact ⟨a.v, VA, a.p, a.c, rfl, I.fa.1, I.bel, I.boxE 182 _⟩) | (rw [if_neg hof, if_pos (.inr h3b), if_neg (fun h => h3a (by omega)), if_neg h3a]; exact ⟨b.v, VB, b.p, b.c, rfl, I.fa.2.1, I.bel, I.boxE 182 _⟩)
   refine zqd I (fun Al W I => a0a a.v.cls a.v.neg a.p (dig B32 a.v.d).length a.c a.v.pow W) (dTr h3a) fun Al W I => ?_
   refine zqd I (fun Al W I => a0a b.v.cls b.v.neg b.p (dig B32 b.v.d).length b.c b.v.pow W) (dFa h3b) fun Al W I => ?_
   refine zqd I (fun Al W I => a0a a.v.cls a.v.neg a.p (dig B32 a.v.d).length a.c a.v.pow W) (dTr h3a) fun Al W I => ?_
   rw [hM]
   refine zret I (v := fun Al => .agg #[.int .i64 (a.v.cls : Int), .bool a.v.neg, .slice a.p (dig B32 a.v.d).length a.c, .int .i64 a.v.pow]) fun Al W I => ?_
   first | (rw [if_pos hof, hoffm]; exact a0e hk2 rfl I.bel (I.boxE 182 _)) | (rw [if_neg hof, if_pos (.inl h3a), if_neg (fun h => by first | exact h.2 hng | (have := h.1; omega)), if_pos h3a]; exact ⟨a.v, VA, a.p, a.c, rfl, I.fa.1, I.bel, I.boxE 182 _⟩) | (rw [if_neg hof, if_pos (.inr h3b), if_neg (fun h => h3a (by omega)), if_neg h3a]; exact ⟨b.v, VB, b.p, b.c, rfl, I.fa.2.1, I.bel, I.boxE 182 _⟩)
 by_cases h3b : b.v.cls = 3
 · by_cases hng : a.v.neg = b.v.neg
   · refine zqd I (fun Al W I => a0a a.v.cls a.v.neg a.p (dig B32 a.v.d).length a.c a.v.pow W) (dFa h3a) fun Al W I => ?_
     refine zqd I (fun Al W I => a0a a.v.cls a.v.neg a.p (dig B32 a.v.d).length a.c a.v.pow W) (dFa h3a) fun Al W I => ?_
     refine zqd I (fun Al W I => a0a b.v.cls b.v.neg b.p (dig B32 b.v.d).length b.c b.v.pow W) (dTr h3b) fun Al W I => ?_
     rw [hM]
     refine zret I (v := fun Al => .agg #[.int .i64 (b.v.cls : Int), .bool b.v.neg, .slice b.p (dig B32 b.v.d).length b.c, .int .i64 b.v.pow]) fun Al W I => ?_
     first | (rw [if_pos hof, hoffm]; exact a0e hk2 rfl I.bel (I.boxE 182 _)) | (rw [if_neg hof, if_pos (.inl h3a), if_neg (fun h => by first | exact h.2 hng | (have := h.1; omega)), if_pos h3a]; exact ⟨a.v, VA, a.p, a.c, rfl, I.fa.1, I.bel, I.boxE 182 _⟩) | (rw [if_neg hof, if_pos (.inr h3b), if_neg (fun h => h3a (by omega)), if_neg h3a]; exact ⟨b.v, VB, b.p, b.c, rfl, I.fa.2.1, I.bel, I.boxE 182 _⟩)
   refine zqd I (fun Al W I => a0a a.v.cls a.v.neg a.p (dig B32 a.v.d).length a.c a.v.pow W) (dFa h3a) fun Al W I => ?_
   refine zqd I (fun Al W I => a0a a.v.cls a.v.neg a.p (dig B32 a.v.d).length a.c a.v.pow W) (dFa h3a) fun Al W I => ?_
   refine zqd I (fun Al W I => a0a b.v.cls b.v.neg b.p (dig B32 b.v.d).length b.c b.v.pow W) (dTr h3b) fun Al W I => ?_
   rw [hM]
   refine zret I (v := fun Al => .agg #[.int .i64 (b.v.cls : Int), .bool b.v.neg, .slice b.p (dig B32 b.v.d).length b.c, .int .i64 b.v.pow]) fun Al W I => ?_
   first | (rw [if_pos hof, hoffm]; exact a0e hk2 rfl I.bel (I.boxE 182 _)) | (rw [if_neg hof, if_pos (.inl h3a), if_neg (fun h => by first | exact h.2 hng | (have := h.1; omega)), if_pos h3a]; exact ⟨a.v, VA, a.p, a.c, rfl, I.fa.1, I.bel, I.boxE 182 _⟩) | (rw [if_neg hof, if_pos (.inr h3b), if_neg (fun h => h3a (by omega)), if_neg h3a]; exact ⟨b.v, VB, b.p, b.c, rfl, I.fa.2.1, I.bel, I.boxE 182 _⟩)
 by_cases hng : a.v.neg = b.v.neg
 · refine zqd I (fun Al W I => a0a a.v.cls a.v.neg a.p (dig B32 a.v.d).length a.c a.v.pow W) (dFa h3a) fun Al W I => ?_
   refine zqd I (fun Al W I => a0a a.v.cls a.v.neg a.p (dig B32 a.v.d).length a.c a.v.pow W) (dFa h3a) fun Al W I => ?_
   refine zqd I (fun Al W I => a0a b.v.cls b.v.neg b.p (dig B32 b.v.d).length b.c b.v.pow W) (dFa h3b) fun Al W I => ?_
   refine zd [0, 3] I fun Al W I => ?_
   refine zk [0, 1, 2, 4, 5, 7, 8, 9, 10] I fun I => ?_
   refine zo 3 I fun I => ?_
   refine zg I (fun Al W I => (HA W _ (I.box 0 182 _) I.fa.1 I.fa.2.2.1).out) fun Al V Iv _ hB _ kz => ?_
   rintro _ W ⟨p46, c46, rfl, o46, hb⟩
   refine ⟨_, rfl, kz _ _ hb fun I => ?_⟩
   have I := I.ownB base o46
   refine zo 6 I fun I => ?_
   refine zg I (fun Al W I => (HB W _ (I.box 0 182 _) I.fa.2.2.1 I.fa.2.2.2.1).out) fun Al V Iv _ hB _ kz => ?_
   rintro _ W ⟨p49, c49, rfl, o49, hb⟩
   refine ⟨_, rfl, kz _ _ hb fun I => ?_⟩
   have I := I.ownB base o49
   refine zo 11 I fun I => ?_
   refine zge I 0 182 (fun Al W I => have hzW := I.bel.size; (HS W p46 p49 c46 c49 _ _ (I.box 0 182 _) I.fa.2.1 I.fa.1 (by omega) I.fa.2.2.2.2.1).out) fun Al V Iv _ _ kz => ?_
   rintro _ W ⟨v54, hR54, p54, c54, rfl, o54, hO, hB⟩
   refine ⟨_, rfl, kz _ (uS f n way (flS : Int)) _ hO hB fun I => ?_⟩
   have I := I.ownB base o54
   refine zo 12 I fun I => ?_
   refine zn I fun Al W I => ?_
   rw [hM, if_neg hof, if_neg (by rintro (h | h); exact h3a h; exact h3b h)]
   exact zret I fun Al W I => ⟨v54, hR54, p54, c54, rfl, I.fa.1, I.bel, I.boxE 182 _⟩
 refine zqd I (fun Al W I => a0a a.v.cls a.v.neg a.p (dig B32 a.v.d).length a.c a.v.pow W) (dFa h3a) fun Al W I => ?_
 refine zqd I (fun Al W I => a0a a.v.cls a.v.neg a.p (dig B32 a.v.d).length a.c a.v.pow W) (dFa h3a) fun Al W I => ?_
 refine zqd I (fun Al W I => a0a b.v.cls b.v.neg b.p (dig B32 b.v.d).length b.c b.v.pow W) (dFa h3b) fun Al W I => ?_
 refine zd [0, 3] I fun Al W I => ?_
 refine zk [0, 1, 2, 4, 5, 7, 8, 9, 10] I fun I => ?_
 refine zo 3 I fun I => ?_
 refine zg I (fun Al W I => (HA W _ (I.box 0 182 _) I.fa.1 I.fa.2.2.1).out) fun Al V Iv _ hB _ kz => ?_
 rintro _ W ⟨p46, c46, rfl, o46, hb⟩
 refine ⟨_, rfl, kz _ _ hb fun I => ?_⟩
 have I := I.ownB base o46
 refine zo 6 I fun I => ?_
 refine zg I (fun Al W I => (HB W _ (I.box 0 182 _) I.fa.2.2.1 I.fa.2.2.2.1).out) fun Al V Iv _ hB _ kz => ?_
 rintro _ W ⟨p49, c49, rfl, o49, hb⟩
 refine ⟨_, rfl, kz _ _ hb fun I => ?_⟩
 have I := I.ownB base o49
 refine zo 11 I fun I => ?_
 refine zge I 0 182 (fun Al W I => have hzW := I.bel.size; (HS W p46 p49 c46 c49 _ _ (I.box 0 182 _) I.fa.2.1 I.fa.1 (by omega) I.fa.2.2.2.2.1).out) fun Al V Iv _ _ kz => ?_
 rintro _ W ⟨v54, hR54, p54, c54, rfl, o54, hO, hB⟩
 refine ⟨_, rfl, kz _ (uS f n way (flS : Int)) _ hO hB fun I => ?_⟩
 have I := I.ownB base o54
 refine zo 12 I fun I => ?_
 refine zn I fun Al W I => ?_
 rw [hM, if_neg hof, if_neg (by rintro (h | h); exact h3a h; exact h3b h)]
 exact zret I fun Al W I => ⟨v54, hR54, p54, c54, rfl, I.fa.1, I.bel, I.boxE 182 _⟩
theorem b1b (f : Fm) (n way fl : Int) (a b : Vp) (u : Nat) (w : World) (U : Bt w u 182 #[.int .i64 n, .int .i64 way, .int .i64 f.g.rad, .int .i64 f.g.digs, .int .i64 f.g.lo, .int .i64 f.g.hi, .bool f.g.grad, .int .u8 (famB f), .int .i64 fl]) (h3a : a.v.cls ≠ 3) (h3b : b.v.cls ≠ 3) :
 Calls Tryz.prog 145 #[.pointer (some ⟨u, 0, none⟩), .agg #[.int .i64 (a.v.cls : Int), .bool a.v.neg, .slice a.p (dig B32 a.v.d).length a.c, .int .i64 a.v.pow], .agg #[.int .i64 (b.v.cls : Int), .bool b.v.neg, .slice b.p (dig B32 b.v.d).length b.c, .int .i64 b.v.pow]] w fun en w' => en = .returned (.tuple #[.agg #[.int .i64 0, .bool false, .slice none 0 0, .int .i64 0], .bool false]) ∧ Below w.heap.size w w' := by
 have I := Inv.startR w [u] [⟨182, (uS f n way fl), true⟩] [] ⟨U, True.intro⟩ True.intro
 refine a0g [.p 0 0, .v (.agg #[.int .i64 (a.v.cls : Int), .bool a.v.neg, .slice a.p (dig B32 a.v.d).length a.c, .int .i64 a.v.pow]), .v (.agg #[.int .i64 (b.v.cls : Int), .bool b.v.neg, .slice b.p (dig B32 b.v.d).length b.c, .int .i64 b.v.pow])] I Tryz.func145 ?_
 refine zqd I (fun Al W I => a0a a.v.cls a.v.neg a.p (dig B32 a.v.d).length a.c a.v.pow W) (dFa h3a) fun Al W I => ?_
 refine zqd I (fun Al W I => a0a b.v.cls b.v.neg b.p (dig B32 b.v.d).length b.c b.v.pow W) (dFa h3b) fun Al W I => ?_
 exact zrb I
theorem u0x (f : Fm) (n way fl : Int) (a b : Vp) (u : Nat) (w : World) (U : Bt w u 182 #[.int .i64 n, .int .i64 way, .int .i64 f.g.rad, .int .i64 f.g.digs, .int .i64 f.g.lo, .int .i64 f.g.hi, .bool f.g.grad, .int .u8 (famB f), .int .i64 fl]) (h3 : a.v.cls = 3 ∨ b.v.cls = 3) (h1 : ¬ (a.v.cls = 1 ∨ b.v.cls = 1)) :
 Calls Tryz.prog 145 #[.pointer (some ⟨u, 0, none⟩), .agg #[.int .i64 (a.v.cls : Int), .bool a.v.neg, .slice a.p (dig B32 a.v.d).length a.c, .int .i64 a.v.pow], .agg #[.int .i64 (b.v.cls : Int), .bool b.v.neg, .slice b.p (dig B32 b.v.d).length b.c, .int .i64 b.v.pow]] w fun en w' => en = .returned (.tuple #[.agg #[.int .i64 3, .bool (a.v.neg != b.v.neg), .slice none 0 0, .int .i64 0], .bool true]) ∧ Below w.heap.size w w' := by
 have I := Inv.startR w [u] [⟨182, (uS f n way fl), true⟩] [] ⟨U, True.intro⟩ True.intro
 refine a0g [.p 0 0, .v (.agg #[.int .i64 (a.v.cls : Int), .bool a.v.neg, .slice a.p (dig B32 a.v.d).length a.c, .int .i64 a.v.pow]), .v (.agg #[.int .i64 (b.v.cls : Int), .bool b.v.neg, .slice b.p (dig B32 b.v.d).length b.c, .int .i64 b.v.pow])] I Tryz.func145 ?_
 by_cases ha : a.v.cls = 3
 · refine zqd I (fun Al W I => a0a a.v.cls a.v.neg a.p (dig B32 a.v.d).length a.c a.v.pow W) (dTr ha) fun Al W I => ?_
   refine zqd I (fun Al W I => a0i a.v.cls a.v.neg a.p (dig B32 a.v.d).length a.c a.v.pow W) (dFa (by omega)) fun Al W I => ?_
   refine zqd I (fun Al W I => a0i b.v.cls b.v.neg b.p (dig B32 b.v.d).length b.c b.v.pow W) (dFa (by omega)) fun Al W I => ?_
   refine zb I 31 (a.v.neg != b.v.neg) ((a.v.neg != b.v.neg)) (rfl) fun Al W I => ?_
   refine zq I (fun Al W I => e0q (a.v.neg != b.v.neg) W) fun Al W I => ?_
   exact zrb I
 refine zqd I (fun Al W I => a0a a.v.cls a.v.neg a.p (dig B32 a.v.d).length a.c a.v.pow W) (dFa ha) fun Al W I => ?_
 refine zqd I (fun Al W I => a0a b.v.cls b.v.neg b.p (dig B32 b.v.d).length b.c b.v.pow W) (dTr (by omega)) fun Al W I => ?_
 refine zqd I (fun Al W I => a0i a.v.cls a.v.neg a.p (dig B32 a.v.d).length a.c a.v.pow W) (dFa (by omega)) fun Al W I => ?_
 refine zqd I (fun Al W I => a0i b.v.cls b.v.neg b.p (dig B32 b.v.d).length b.c b.v.pow W) (dFa (by omega)) fun Al W I => ?_
 refine zb I 31 (a.v.neg != b.v.neg) ((a.v.neg != b.v.neg)) (rfl) fun Al W I => ?_
 refine zq I (fun Al W I => e0q (a.v.neg != b.v.neg) W) fun Al W I => ?_
 exact zrb I
theorem r0f (f : Fm) (n way : Int) (a b : Vp) (u : Nat) (w : World) (U : Bt w u 182 #[.int .i64 n, .int .i64 way, .int .i64 f.g.rad, .int .i64 f.g.digs, .int .i64 f.g.lo, .int .i64 f.g.hi, .bool f.g.grad, .int .u8 (famB f), .int .i64 0]) (h3 : a.v.cls = 3 ∨ b.v.cls = 3) (h1 : a.v.cls = 1 ∨ b.v.cls = 1) :
 Calls Tryz.prog 145 #[.pointer (some ⟨u, 0, none⟩), .agg #[.int .i64 (a.v.cls : Int), .bool a.v.neg, .slice a.p (dig B32 a.v.d).length a.c, .int .i64 a.v.pow], .agg #[.int .i64 (b.v.cls : Int), .bool b.v.neg, .slice b.p (dig B32 b.v.d).length b.c, .int .i64 b.v.pow]] w fun en w' => en = .returned (.tuple #[.agg #[.int .i64 (f.nothM.cls : Int), .bool false, .slice none 0 0, .int .i64 0], .bool true]) ∧ Kp [u] w w' ∧ Bt w' u 182 #[.int .i64 n, .int .i64 way, .int .i64 f.g.rad, .int .i64 f.g.digs, .int .i64 f.g.lo, .int .i64 f.g.hi, .bool f.g.grad, .int .u8 (famB f), .int .i64 16] := by
 have HL := fun W u h1 => hi0 (t0e f n way u W h1)
 generalize f.nothM.cls = kN at *
 have I := Inv.startW w u 182 (uS f n way 0) [] U True.intro True.intro
 refine a0g [.p 0 0, .v (.agg #[.int .i64 (a.v.cls : Int), .bool a.v.neg, .slice a.p (dig B32 a.v.d).length a.c, .int .i64 a.v.pow]), .v (.agg #[.int .i64 (b.v.cls : Int), .bool b.v.neg, .slice b.p (dig B32 b.v.d).length b.c, .int .i64 b.v.pow])] I Tryz.func145 ?_
 by_cases ha : a.v.cls = 3
 · refine zqd I (fun Al W I => a0a a.v.cls a.v.neg a.p (dig B32 a.v.d).length a.c a.v.pow W) (dTr ha) fun Al W I => ?_
   refine zqd I (fun Al W I => a0i a.v.cls a.v.neg a.p (dig B32 a.v.d).length a.c a.v.pow W) (dFa (by omega)) fun Al W I => ?_
   refine zqd I (fun Al W I => a0i b.v.cls b.v.neg b.p (dig B32 b.v.d).length b.c b.v.pow W) (dTr (by omega)) fun Al W I => ?_
   refine zge I 0 182 (fun Al W I => (HL W _ (I.box 0 182 _)).out) fun Al V Iv _ _ kz => ?_
   rintro _ W ⟨rfl, hO, hB⟩
   refine ⟨_, rfl, kz _ (uS f n way 16) _ hO hB fun I => ?_⟩
   exact zret I fun Al W I => ⟨rfl, I.bel, I.boxE 182 _⟩
 refine zqd I (fun Al W I => a0a a.v.cls a.v.neg a.p (dig B32 a.v.d).length a.c a.v.pow W) (dFa ha) fun Al W I => ?_
 refine zqd I (fun Al W I => a0a b.v.cls b.v.neg b.p (dig B32 b.v.d).length b.c b.v.pow W) (dTr (by omega)) fun Al W I => ?_
 refine zqd I (fun Al W I => a0i a.v.cls a.v.neg a.p (dig B32 a.v.d).length a.c a.v.pow W) (dTr (by omega)) fun Al W I => ?_
 refine zge I 0 182 (fun Al W I => (HL W _ (I.box 0 182 _)).out) fun Al V Iv _ _ kz => ?_
 rintro _ W ⟨rfl, hO, hB⟩
 refine ⟨_, rfl, kz _ (uS f n way 16) _ hO hB fun I => ?_⟩
 exact zret I fun Al W I => ⟨rfl, I.bel, I.boxE 182 _⟩
def _root_.Go.Slip.Fm.mulM (f : Fm) (a b : Vr) (way : Int) : Vr × Nat :=
 if 4 ≤ a.cls ∨ 4 ≤ b.cls then f.offM
 else if a.cls = 3 ∨ b.cls = 3 then (if a.cls = 1 ∨ b.cls = 1 then f.lostM else (infM (a.neg != b.neg), 0))
 else if a.cls = 1 ∨ b.cls = 1 then (f.zeroM (a.neg != b.neg), 0)
 else f.numM (f0q a.x b.x) way
theorem m1d (f : Fm) (n way : Int) (a b : Vp) (ra rb : Vr) (base u : Nat) (w : World) (U : Bt w u 182 #[.int .i64 n, .int .i64 way, .int .i64 f.g.rad, .int .i64 f.g.digs, .int .i64 f.g.lo, .int .i64 f.g.hi, .bool f.g.grad, .int .u8 (famB f), .int .i64 0]) (oa : Own w base .u32 141 a.p a.c (dig B32 a.v.d)) (ob : Own w base .u32 141 b.p b.c (dig B32 b.v.d)) (hb : base ≤ w.heap.size)
 (A1 : AtV f a ra) (B1 : AtV f b rb) (G : b0g f) (hw : 1 ≤ way ∧ way ≤ 5) (hT : TabW w) :
 Calls Tryz.prog 94 #[.pointer (some ⟨u, 0, none⟩), .agg #[.int .i64 (a.v.cls : Int), .bool a.v.neg, .slice a.p (dig B32 a.v.d).length a.c, .int .i64 a.v.pow], .agg #[.int .i64 (b.v.cls : Int), .bool b.v.neg, .slice b.p (dig B32 b.v.d).length b.c, .int .i64 b.v.pow]] w (d0c f n way u w base (f.mulM ra rb way)) := by
 have hM : f.mulM ra rb way = if 4 ≤ a.v.cls ∨ 4 ≤ b.v.cls then f.offM else if a.v.cls = 3 ∨ b.v.cls = 3 then (if a.v.cls = 1 ∨ b.v.cls = 1 then f.lostM else (infM (a.v.neg != b.v.neg), 0)) else if a.v.cls = 1 ∨ b.v.cls = 1 then (f.zeroM (a.v.neg != b.v.neg), 0) else f.numM (f0q ra.x rb.x) way := by
  unfold Fm.mulM; rw [A1.rep.cls, B1.rep.cls, A1.rep.neg, B1.rep.neg]
 have hca : a.v.cls ≤ 5 := by rw [A1.rep.cls]; exact A1.ok.c.2
 have hcb : b.v.cls ≤ 5 := by rw [B1.rep.cls]; exact B1.ok.c.2
 have HY := fun W b0 u h1 h2 h3 => hi0 (m0r f n way [a, b] b0 2 u W h1 h2 rfl (by simp) (by simp [hca, hcb]) G h3)
 have HN := fun W b0 u h1 h2 h3 => hi0 (r0e f n way 0 [a, b] b0 2 u W h1 h2 rfl (by simp) h3)
 have HPN := fun W u h1 h2 h3 => hi0 (b1b f n way 0 a b u W h1 h2 h3)
 have HPI := fun W u h1 h2 h3 => hi0 (u0x f n way 0 a b u W h1 h2 h3)
 have HPL := fun W u h1 h2 h3 => hi0 (r0f f n way a b u W h1 h2 h3)
 have HZ := fun W u h1 => hi0 (n0u f n way 0 (a.v.neg != b.v.neg) u W h1)
 have HA := fun W u h1 h2 h3 => hi0 (m0y f n way 0 a.v ra a.p a.c base u W h1 h2 A1.rep A1.ok h3)
 have HB := fun W u h1 h2 h3 => hi0 (m0y f n way 0 b.v rb b.p b.c base u W h1 h2 B1.rep B1.ok h3)
 have sa := A1.ok.sm
 have sb := B1.ok.sm
 have st := u0w A1.ok B1.ok
 have HT := fun W p q c d base h1 h2 h3 => hi0 (n0w ra.x rb.x p q c d base W sa sb h1 h2 h3)
 generalize f0q ra.x rb.x = t at *
 have hl3 := st.len
 have hl4 := st.lo
 have hl5 := st.hi
 have HNU := fun W p c u h1 h2 => hi0 (p0p f n way t p c u W h1 h2 (by omega) (by omega) G hw)
 have hoffm : f.offM = (⟨f.nothM.cls, false, vz⟩, f.offM.2) := rfl
 have hk2 := f0n G
 have hlostm : f.lostM = (⟨f.nothM.cls, false, vz⟩, 16) := rfl
 obtain ⟨rS, flS, hS⟩ : ∃ rS flS, f.numM t way = (rS, flS) := ⟨_, _, rfl⟩
 rw [hS] at HNU hM
 generalize f.mulM ra rb way = R at *
 generalize f.offM.2 = flo at *
 generalize f.nothM.cls = kN at *
 clear hS st
 have I := Inv.startW w u 182 (uS f n way 0) [ownF base .u32 141 a.p a.c (dig B32 a.v.d), ownF base .u32 141 b.p b.c (dig B32 b.v.d), tabF] U ⟨oa, ob, hT, True.intro⟩ ⟨fun hf => oa.far U (by kernel_rfl) hf.1 hf.2, fun hf => ob.far U (by kernel_rfl) hf.1 hf.2, fun hf => hT.far U (by kernel_rfl) hf, True.intro⟩
 refine a0g [.p 0 0, .v (.agg #[.int .i64 (a.v.cls : Int), .bool a.v.neg, .slice a.p (dig B32 a.v.d).length a.c, .int .i64 a.v.pow]), .v (.agg #[.int .i64 (b.v.cls : Int), .bool b.v.neg, .slice b.p (dig B32 b.v.d).length b.c, .int .i64 b.v.pow])] I Tryz.func94 ?_
 by_cases hof : 4 ≤ a.v.cls ∨ 4 ≤ b.v.cls
 · refine zge I 0 182 (fun Al W I => (HY W _ _ (I.box 0 182 _) (I.box 4 75 _) (by simpa using hof)).out) fun Al V Iv _ _ kz => ?_
   rintro _ W ⟨rfl, hO, hB⟩
   refine ⟨_, rfl, kz _ (uS f n way (flo : Int)) _ hO hB fun I => ?_⟩
   rw [hM]
   refine zret I (v := fun Al => .agg #[.int .i64 (kN : Int), .bool false, .slice none 0 0, .int .i64 0]) fun Al W I => ?_
   first | (rw [if_pos hof, hoffm]; exact a0e hk2 rfl I.bel (I.boxE 182 _)) | (rw [if_neg hof, if_pos h3, if_pos h1, hlostm]; exact a0e hk2 rfl I.bel (I.boxE 182 _)) | (rw [if_neg hof, if_pos h3, if_neg h1]; exact a0e (k := 3) (by decide) rfl I.bel (I.boxE 182 _))
 refine zq I (fun Al W I => have hzW := I.bel.size; (HN W _ _ (I.box 0 182 _) (I.box 4 75 _) (by simp only [List.mem_cons, List.mem_nil_iff, or_false]; rintro x (rfl | rfl) <;> omega)).out) fun Al W I => ?_
 by_cases h3 : a.v.cls = 3 ∨ b.v.cls = 3
 · by_cases h1 : a.v.cls = 1 ∨ b.v.cls = 1
   · refine zge I 0 182 (fun Al W I => (HPL W _ (I.box 0 182 _) h3 h1).out) fun Al V Iv _ _ kz => ?_
     rintro _ W ⟨rfl, hO, hB⟩
     refine ⟨_, rfl, kz _ (uS f n way 16) _ hO hB fun I => ?_⟩
     rw [hM]
     refine zret I (v := fun Al => .agg #[.int .i64 (kN : Int), .bool false, .slice none 0 0, .int .i64 0]) fun Al W I => ?_
     first | (rw [if_pos hof, hoffm]; exact a0e hk2 rfl I.bel (I.boxE 182 _)) | (rw [if_neg hof, if_pos h3, if_pos h1, hlostm]; exact a0e hk2 rfl I.bel (I.boxE 182 _)) | (rw [if_neg hof, if_pos h3, if_neg h1]; exact a0e (k := 3) (by decide) rfl I.bel (I.boxE 182 _))
   refine zq I (fun Al W I => (HPI W _ (I.box 0 182 _) h3 h1).out) fun Al W I => ?_
   rw [hM]
   refine zret I (v := fun Al => .agg #[.int .i64 3, .bool (a.v.neg != b.v.neg), .slice none 0 0, .int .i64 0]) fun Al W I => ?_
   first | (rw [if_pos hof, hoffm]; exact a0e hk2 rfl I.bel (I.boxE 182 _)) | (rw [if_neg hof, if_pos h3, if_pos h1, hlostm]; exact a0e hk2 rfl I.bel (I.boxE 182 _)) | (rw [if_neg hof, if_pos h3, if_neg h1]; exact a0e (k := 3) (by decide) rfl I.bel (I.boxE 182 _))
 refine zq I (fun Al W I => have hzW := I.bel.size; (HPN W _ (I.box 0 182 _) (by omega) (by omega)).out) fun Al W I => ?_
 by_cases hza : a.v.cls = 1
 · by_cases hzb : b.v.cls = 1
   · refine zqd I (fun Al W I => a0i a.v.cls a.v.neg a.p (dig B32 a.v.d).length a.c a.v.pow W) (dTr hza) fun Al W I => ?_
     refine zb I 41 (a.v.neg != b.v.neg) ((a.v.neg != b.v.neg)) (rfl) fun Al W I => ?_
     refine zq I (fun Al W I => (HZ W _ (I.box 0 182 _)).out) fun Al W I => ?_
     rw [hM, if_neg hof, if_neg h3, if_pos (by omega)]
     exact zret I fun Al W I => a0e (k := 1) (by decide) rfl I.bel (I.boxE 182 _)
   refine zqd I (fun Al W I => a0i a.v.cls a.v.neg a.p (dig B32 a.v.d).length a.c a.v.pow W) (dTr hza) fun Al W I => ?_
   refine zb I 41 (a.v.neg != b.v.neg) ((a.v.neg != b.v.neg)) (rfl) fun Al W I => ?_
   refine zq I (fun Al W I => (HZ W _ (I.box 0 182 _)).out) fun Al W I => ?_
   rw [hM, if_neg hof, if_neg h3, if_pos (by omega)]
   exact zret I fun Al W I => a0e (k := 1) (by decide) rfl I.bel (I.boxE 182 _)
 by_cases hzb : b.v.cls = 1
 · refine zqd I (fun Al W I => a0i a.v.cls a.v.neg a.p (dig B32 a.v.d).length a.c a.v.pow W) (dFa hza) fun Al W I => ?_
   refine zqd I (fun Al W I => a0i b.v.cls b.v.neg b.p (dig B32 b.v.d).length b.c b.v.pow W) (dTr hzb) fun Al W I => ?_
   refine zb I 41 (a.v.neg != b.v.neg) ((a.v.neg != b.v.neg)) (rfl) fun Al W I => ?_
   refine zq I (fun Al W I => (HZ W _ (I.box 0 182 _)).out) fun Al W I => ?_
   rw [hM, if_neg hof, if_neg h3, if_pos (by omega)]
   exact zret I fun Al W I => a0e (k := 1) (by decide) rfl I.bel (I.boxE 182 _)
 refine zqd I (fun Al W I => a0i a.v.cls a.v.neg a.p (dig B32 a.v.d).length a.c a.v.pow W) (dFa hza) fun Al W I => ?_
 refine zqd I (fun Al W I => a0i b.v.cls b.v.neg b.p (dig B32 b.v.d).length b.c b.v.pow W) (dFa hzb) fun Al W I => ?_
 refine zd [0, 3] I fun Al W I => ?_
 refine zk [0, 1, 2, 4, 5] I fun I => ?_
 refine zo 3 I fun I => ?_
 refine zg I (fun Al W I => (HA W _ (I.box 0 182 _) I.fa.1 I.fa.2.2.1).out) fun Al V Iv _ hB _ kz => ?_
 rintro _ W ⟨p46, c46, rfl, o46, hb⟩
 refine ⟨_, rfl, kz _ _ hb fun I => ?_⟩
 have I := I.ownB base o46
 refine zo 6 I fun I => ?_
 refine zg I (fun Al W I => (HB W _ (I.box 0 182 _) I.fa.2.2.1 I.fa.2.2.2.1).out) fun Al V Iv _ hB _ kz => ?_
 rintro _ W ⟨p49, c49, rfl, o49, hb⟩
 refine ⟨_, rfl, kz _ _ hb fun I => ?_⟩
 have I := I.ownB base o49
 refine zo 7 I fun I => ?_
 refine zg I (fun Al W I => (HT W p46 p49 c46 c49 _ I.fa.2.1 I.fa.1 I.fa.2.2.2.2.1).out) fun Al V Iv _ hB _ kz => ?_
 rintro _ W ⟨p50, c50, rfl, o50, hb⟩
 refine ⟨_, rfl, kz _ _ hb fun I => ?_⟩
 have I := I.ownB base o50
 refine zo 8 I fun I => ?_
 refine zge I 0 182 (fun Al W I => (HNU W p50 c50 _ (I.box 0 182 _) I.fa.1.rd).out) fun Al V Iv _ _ kz => ?_
 rintro _ W ⟨v51, hR51, p51, c51, rfl, o51, hO, hB⟩
 refine ⟨_, rfl, kz _ (uS f n way (flS : Int)) _ hO hB fun I => ?_⟩
 have I := I.ownB base o51
 refine zo 9 I fun I => ?_
 refine zn I fun Al W I => ?_
 rw [hM, if_neg hof, if_neg h3, if_neg (by omega)]
 exact zret I fun Al W I => ⟨v51, hR51, p51, c51, rfl, I.fa.1, I.bel, I.boxE 182 _⟩
end Go.Proofs.YtmacohmclpnphaaGreatDoor
namespace Go.Slip
open Go.RowKit Go.MapKept
def mapF (b : Nat) (es : Array MapEntry) (clock : Nat) : PF :=
 ⟨fun w => w.heap[b]? = some (.map es clock), fun a => b = a, fun _ _ h hb _ => (hb b (Array.getElem?_eq_some_iff.1 h).1 rfl).trans h, fun _ _ h hf => hf ▸ (Array.getElem?_eq_some_iff.1 h).1⟩
theorem a0d {w : World} {b base : Nat} {es : Array MapEntry} {clock : Nat} {k : IntKind} {e : TypeId} {q : Option Addr} {c : Nat} {xs : List Nat} (h : w.heap[b]? = some (.map es clock)) (o : Own w base k e q c xs) : ¬ (q.isSome = true ∧ blk q = b) := by
 rintro ⟨hq, he⟩
 rcases o.2 with ⟨h1, h2⟩ | ⟨g', cap', cur', hv', hb', hg', _⟩
 · simp only [Value.slice.injEq] at h1
   rw [h1.1] at hq; cases hq
 · simp only [Value.slice.injEq] at hv'
   rw [hv'.1] at he
   have hE : g' = b := he
   subst hE
   have := h.symm.trans hg'
   simp at this
section
variable {P : Program} {ops : Array Oper} {o : Oper} {a : Act} {Q : Exit → Act → World → Prop} {w w' : World} {K : Act → World → Prop}
theorem k1x (d : Option Tmp) (hd : o.dst = d) (v : Value) (hw : Region.wanted o (yielded ops a.tmps) = true) (hr : (execOp a.eval o).run P w = .ok (.value v) w') (h : K (a.put d v) w') : OpW P ops Q o K a w := by
 subst hd
 refine ⟨?_⟩
 rw [if_pos hw]
 unfold Oper.wp
 rw [hr]
 exact h
theorem b1c (d : Option Tmp) (hd : o.dst = d) (hw : Region.wanted o (yielded ops a.tmps) = true) (hr : (execOp a.eval o).run P w = .ok .skip w') (h : K (a.put d undef) w') : OpW P ops Q o K a w := by
 subst hd
 refine ⟨?_⟩
 rw [if_pos hw]
 unfold Oper.wp
 rw [hr]
 exact h
theorem p0q {ik : IntKind} {mt kt vt : TypeId} (hm : P.underlying mt = some (.map kt vt)) (hk : P.underlying kt = some (.int ik)) {b : Nat} {es : Array MapEntry} {clock : Nat} (hb : w.heap[b]? = some (.map es clock)) (k : Int) (v : Value)
 (hf : Instr.findNow (.int ik) (.int ik k) es.toList 0 = some none) :
 (Instr.mapUpdate mt (.map (some b)) (.int ik k) v).run P w = .ok () { w with heap := w.heap.setIfInBounds b (.map (es.push ⟨.int ik k, v, clock⟩) (clock + 1)) } := by
 simp [Instr.mapUpdate, run_underlying hm, MapKept.run_getObj_map hb, run_checkKey hk (j0m ik k), run_findKey hk hf, run_setObj_map _ hb, Result.andThen]
end
section
variable {P : Program} {Q : Exit → Act → World → Prop} {E : List Nat} {w0 : World} {A : List Nat} {fs : List PF} {W V : World} {c : Cfg}
def mkOf (c : Cfg) : Option TypeId :=
 match hdOp c with
 | some ⟨_, .makeMap t none, _, _, _, _⟩ => some t
 | _ => none
theorem zmkm (I : Inv E w0 A c.bx fs W) (t : TypeId) (h : ∀ A W b, w0.heap.size ≤ b → Inv E w0 A (putc (zr P none c) (.v (.map (some b)))).bx (mapF b #[] 0 :: fs) W → G P Q A (putc (zr P none c) (.v (.map (some b)))) W)
 (ho : mkOf (zr P none c) = some t := by kernel_rfl)
 (hr : ∀ A w, (zms P none 5000 c A w).map (·.1) = (zms P none 5000 c A w).map (·.2) := by intro _ _; kernel_rfl)
 (hm : ok1 (zr P none c).rg (zr P none c).bx = ok2 (zr P none c).rg := by kernel_rfl) : G P Q A c W :=
 b0n I hr fun A W I => by
  have h2 := h A
  clear hr h
  generalize zr P none c = c at *
  unfold mkOf hdOp at ho
  split at ho
  · rename_i hn'
    split at hn'
    · rename_i o' hn
      split at hn'
      · rename_i hw
        simp only [Option.some.injEq] at hn' ho
        subst hn' ho
        have hbl : Below W.heap.size W (W.alloc (.map #[] 0)) := (Below.refl _ _).alloc (Nat.le_refl _) _
        have hb : (W.alloc (.map #[] 0)).heap[W.heap.size]? = some (.map #[] 0) := by show (W.heap.push _)[_]? = _; simp
        have I2 := (I.past hbl).add (mapF W.heap.size #[] 0) hb (fun a ha hf => by have := I.lt a ha; have hf : W.heap.size = a := hf; omega)
        refine G_op (E := E) (w0 := w0) (fs := []) hn fun K hK => k1x _ rfl (.map (some W.heap.size)) (by rw [f0k]; exact hw) (w' := W.alloc (.map #[] 0)) ?_ ?_
        · unfold execOp
          simp only [Option.map_none, run_makeMap, Sem.run_bind, Result.andThen_ok, Sem.run_pure]
        · have h := h2 _ _ I.bel.size I2
          unfold putc at h
          rw [hn] at h
          have := hK A _ _ c.bx (List.prefix_refl _) (I2.pick []) hm h
          rw [show Value.map (some W.heap.size) = (SV.v (.map (some W.heap.size))).r A from rfl, d0a]
          exact this
      · cases hn'
    · cases hn'
  · cases ho
def k1y (c : Cfg) (A : List Nat) : Option (TypeId × Value × Value × Value) :=
 match hdOp c with
 | some ⟨_, .insert t m k x, _, _, _, _⟩ => some (t, evr A c.fr m, evr A c.fr k, evr A c.fr x)
 | _ => none
theorem zins {b : Nat} {es : Array MapEntry} {clock : Nat} (I : Inv E w0 A c.bx (mapF b es clock :: fs) W) {t : TypeId} {ik : IntKind} {kt vt : TypeId} (hmt : P.underlying t = some (.map kt vt)) (hk : P.underlying kt = some (.int ik)) (k : Int) (v : Value) (hge : w0.heap.size ≤ b)
 (hfar : ∀ A W, Inv E w0 A (zr P none c).bx (mapF b es clock :: fs) W → PF.far b fs)
 (h : ∀ A W, Inv E w0 A (putc (zr P none c) (.v undef)).bx (mapF b (es.push ⟨.int ik k, v, clock⟩) (clock + 1) :: fs) W → G P Q A (putc (zr P none c) (.v undef)) W)
 (hf : Instr.findNow (.int ik) (.int ik k) es.toList 0 = some none := by kernel_rfl)
 (ho : ∀ A, k1y (zr P none c) A = some (t, .map (some b), .int ik k, v) := by intro _; kernel_rfl)
 (hr : ∀ A w, (zms P none 5000 c A w).map (·.1) = (zms P none 5000 c A w).map (·.2) := by intro _ _; kernel_rfl)
 (hrw : w0b (zr P none c).bx = true := by kernel_rfl)
 (hm : ok1 (zr P none c).rg (zr P none c).bx = ok2 (zr P none c).rg := by kernel_rfl) : G P Q A c W :=
 b0n I hr fun A W I => by
  have ho2 := ho A
  have h2 := h A
  have hfar2 := hfar A W I
  clear hr h ho hfar
  generalize zr P none c = c at *
  unfold k1y hdOp at ho2
  split at ho2
  · rename_i hn'
    simp only [Option.some.injEq, Prod.mk.injEq] at ho2
    obtain ⟨rfl, o1, o2, o3⟩ := ho2
    split at hn'
    · rename_i o' hn
      split at hn'
      · rename_i hw
        simp only [Option.some.injEq] at hn'
        subst hn'
        have hb : W.heap[b]? = some (.map es clock) := I.fa.1
        have hbl := (Array.getElem?_eq_some_iff.1 hb).1
        have keep : ∀ j, j ≠ b → (W.heap.setIfInBounds b (.map (es.push ⟨.int ik k, v, clock⟩) (clock + 1)))[j]? = W.heap[j]? := fun j hj => Array.getElem?_setIfInBounds_ne (Ne.symm hj)
        have I2 : Inv E w0 A c.bx (mapF b (es.push ⟨.int ik k, v, clock⟩) (clock + 1) :: fs) { W with heap := W.heap.setIfInBounds b (.map (es.push ⟨.int ik k, v, clock⟩) (clock + 1)) } := by
         refine ⟨⟨I.bel.os, I.bel.tape, I.bel.output, by simp only [Array.size_setIfInBounds]; exact I.bel.size, fun j hj hjE => ?_⟩, I.ge, I.nd, I.len, I.pre, fun j hj => ?_, ⟨?_, ?_⟩, fun a ha => ⟨(I.far a ha).1, (I.far a ha).2⟩⟩
         · rw [keep j (by omega)]
           exact I.bel.block j hj hjE
         · have hF : Fa A c.bx (lk 0 A j) := ⟨j, hj, l0v hrw j hj, rfl⟩
           have h1 := I.bt j hj
           unfold Bt at h1 ⊢
           rw [keep _ (fun e => (I.far _ hF).1 e.symm)]
           exact h1
         · show (W.heap.setIfInBounds b _)[b]? = _
           simp [hbl]
         · refine PF.all_keep (by simp) I.fa.2 fun j hj ha => keep j fun e => ha _ hfar2 e.symm
        refine G_op (E := E) (w0 := w0) (fs := []) hn fun K hK => b1c _ rfl (by rw [f0k]; exact hw) (w' := { W with heap := W.heap.setIfInBounds b (.map (es.push ⟨.int ik k, v, clock⟩) (clock + 1)) }) ?_ ?_
        · rw [c0a]
          unfold execOp
          simp only [o1, o2, o3, Sem.run_bind, p0q hmt hk hb k v hf, Result.andThen_ok, Sem.run_pure]
        · have h := h2 _ I2
          unfold putc at h
          rw [hn] at h
          have := hK A _ _ c.bx (List.prefix_refl _) (I2.pick []) hm h
          rw [show undef = (SV.v undef).r A from rfl, d0a]
          exact this
      · cases hn'
    · cases hn'
  · cases ho2
theorem a0v {ik : IntKind} {t kt vt : TypeId} (hm : P.underlying t = some (.map kt vt)) (hk : P.underlying kt = some (.int ik)) {b : Nat} {es : Array MapEntry} {clock : Nat} (hb : W.heap[b]? = some (.map es clock)) (k : Int) {v : Value} (hf : ∃ i, Instr.findNow (.int ik) (.int ik k) es.toList 0 = some (some (i, v))) :
 (VO.lk t (.map (some b)) (.int ik k) false).sem.run P W = .ok v W := by
 obtain ⟨i, hf⟩ := hf
 exact f0x hm hk hb k hf
end
end Go.Slip
namespace Go.Proofs.YtmacohmclpnphaaGreatDoor
open Go.RowKit Go.Slip
def pkF (f : Fm) : Int := if f.fam = 1 then 3 else if f.fam = 2 then 2 else (f.nothM.cls : Nat)
def pgF (f : Fm) (g : Bool) : Bool := if f.fam = 1 then g else if f.fam = 2 then g else false
def ppF (f : Fm) (p : Option Addr) : Option Addr := if f.fam = 1 then none else if f.fam = 2 then p else none
def plF (f : Fm) (l : Nat) : Nat := if f.fam = 1 then 0 else if f.fam = 2 then l else 0
def peF (f : Fm) : Int := if f.fam = 1 then 0 else if f.fam = 2 then f.g.hi else 0
theorem b1d (f : Fm) (g : Bool) (p : Option Addr) (l c : Nat) (es : Array MapEntry) (h1 : ∃ i, Instr.findNow (.int .u8) (.int .u8 65) es.toList 0 = some (some (i, .agg #[.int .i64 3, .bool g, .slice none 0 0, .int .i64 0])))
 (h2 : ∃ i, Instr.findNow (.int .u8) (.int .u8 66) es.toList 0 = some (some (i, .agg #[.int .i64 2, .bool g, .slice p l c, .int .i64 f.g.hi])))
 (h3 : ∃ i, Instr.findNow (.int .u8) (.int .u8 67) es.toList 0 = some (some (i, .agg #[.int .i64 (f.nothM.cls : Int), .bool false, .slice none 0 0, .int .i64 0]))) :
 ∃ i, Instr.findNow (.int .u8) (.int .u8 (famB f)) es.toList 0 = some (some (i, .agg #[.int .i64 (pkF f), .bool (pgF f g), .slice (ppF f p) (plF f l) (plF f c), .int .i64 (peF f)])) := by
 unfold famB pkF pgF ppF plF peF
 by_cases f1 : f.fam = 1
 · simp only [if_pos f1]; exact h1
 · by_cases f2 : f.fam = 2
   · simp only [if_neg f1, if_pos f2]; exact h2
   · simp only [if_neg f1, if_neg f2]; exact h3
theorem e1h {f : Fm} {n way : Int} {u : Nat} {w w' : World} {g : Bool} {p : Option Addr} {c : Nat} (G : b0g f) (ho : Own w' w.heap.size .u32 141 p c (dig B32 (2 ^ (wid f.g * f.g.digs.toNat) - 1))) (hk : Kp [u] w w') (hb : Bt w' u 182 #[.int .i64 n, .int .i64 way, .int .i64 f.g.rad, .int .i64 f.g.digs, .int .i64 f.g.lo, .int .i64 f.g.hi, .bool f.g.grad, .int .u8 (famB f), .int .i64 8]) :
 d0c f n way u w w.heap.size (f.poleM g) (.returned (.agg #[.int .i64 (pkF f), .bool (pgF f g), .slice (ppF f p) (plF f (dig B32 (2 ^ (wid f.g * f.g.digs.toNat) - 1)).length) (plF f c), .int .i64 (peF f)])) w' := by
 unfold pkF pgF ppF plF peF Fm.poleM
 by_cases f1 : f.fam = 1
 · simp only [if_pos f1]
   exact a0e (k := 3) (by decide) rfl hk hb
 · by_cases f2 : f.fam = 2
   · simp only [if_neg f1, if_pos f2]
     exact ⟨_, m0q G g, p, c, rfl, ho, hk, hb⟩
   · simp only [if_neg f1, if_neg f2]
     exact a0e (k := f.nothM.cls) (f0n G) rfl hk hb
theorem a0c : Tryz.prog.underlying 209 = some (.map 5 75) := by kernel_rfl
theorem k1z (f : Fm) (n way : Int) (g : Bool) (u : Nat) (w : World) (U : Bt w u 182 #[.int .i64 n, .int .i64 way, .int .i64 f.g.rad, .int .i64 f.g.digs, .int .i64 f.g.lo, .int .i64 f.g.hi, .bool f.g.grad, .int .u8 (famB f), .int .i64 0]) (G : b0g f) :
 Calls Tryz.prog 120 #[.pointer (some ⟨u, 0, none⟩), .bool g] w (d0c f n way u w w.heap.size (f.poleM g)) := by
 have GG := b0s G.g
 have d1 := GG.d1
 have d2 := GG.d2
 have HR := fun W u hU => hi0 (c0i f n way 0 8 8 u W hU (by decide +kernel))
 have HG := fun W u hU => hi0 (f0a f n way 8 g u W hU (by omega))
 have HN := fun W u hU => hi0 (h0h f n way 8 u W hU)
 have HI := fun W => hi0 (e0q g W)
 have HF := b1d f g
 have HE := fun (w' : World) p c => e1h (n := n) (way := way) (u := u) (w := w) (w' := w') (g := g) (p := p) (c := c) G
 generalize 2 ^ (wid f.g * f.g.digs.toNat) - 1 = m at *
 generalize f.nothM.cls = kN at *
 have I := Inv.startW w u 182 (uS f n way 0) [] U True.intro True.intro
 refine a0g [.p 0 0, .v (.bool g)] I Tryz.func120 ?_
 refine zge I 0 182 (fun Al W I => (HR W _ (I.box 0 182 _)).out) fun Al V Iv _ _ kz => ?_
 rintro _ W ⟨rfl, hO, hB⟩
 refine ⟨_, rfl, kz _ (uS f n way 8) _ hO hB fun I => ?_⟩
 refine zcut I none (fun fr bx gs => ∃ (U1 : Nat → Value) (p12 : Option Addr) (c12 : Nat), fr = (.p 0 0 :: .v (.bool g) :: su 2 (.p 1 0 :: sw U1 5 16 []) : List SV) ∧ bx = [⟨182, (uS f n way 8), false⟩, ⟨75, [.v (.int .i64 (pkF f)), .v (.bool (pgF f g)), .v (.slice (ppF f p12) (plF f (dig B32 m).length) (plF f c12)), .v (.int .i64 (peF f))], false⟩] ∧ gs = [ownF w.heap.size .u32 141 p12 c12 (dig B32 m)]) ?_ ?_
 · intro J hJ Al W I
   refine zd [1] I fun Al W I => ?_
   refine zk [1, 4, 5, 8, 12, 13, 14, 15] I fun I => ?_
   refine zo2 0 2 I (fun I => ?_) (fun I => ?_)
   · refine zmkm I 209 fun Al W m7_b m7_ge I => ?_
     refine zo 2 I fun I => ?_
     refine zq I (fun Al W I => (HI W).out) fun Al W I => ?_
     refine zo2 3 6 I (fun I => ?_) (fun I => ?_)
     · refine zins I a0c Tryz.underlying5 65 (.agg #[.int .i64 3, .bool g, .slice none 0 0, .int .i64 0]) m7_ge (fun Al W I => True.intro) fun Al W I => ?_
       refine zo 6 I fun I => ?_
       refine zqo I (fun Al W I => (HG W _ (I.box 0 182 _)).out) fun Al W p12 c12 I => ?_
       refine zo2 7 9 I (fun I => ?_) (fun I => ?_)
       · have I := I.pick [1, 0]
         refine zins I a0c Tryz.underlying5 66 (.agg #[.int .i64 2, .bool g, .slice p12 (dig B32 m).length c12, .int .i64 f.g.hi]) m7_ge (fun Al W I => ⟨a0d I.fa.1 I.fa.2.1, True.intro⟩) fun Al W I => ?_
         refine zo 9 I fun I => ?_
         refine zq I (fun Al W I => (HN W _ (I.box 0 182 _)).out) fun Al W I => ?_
         refine zo 10 I fun I => ?_
         refine zins I a0c Tryz.underlying5 67 (.agg #[.int .i64 (kN : Int), .bool false, .slice none 0 0, .int .i64 0]) m7_ge (fun Al W I => ⟨a0d I.fa.1 I.fa.2.1, True.intro⟩) fun Al W I => ?_
         refine zk [11] I fun I => ?_
         refine zo 16 I fun I => ?_
         refine zx I 20 (fun _ => .agg #[.int .i64 (pkF f), .bool (pgF f g), .slice (ppF f p12) (plF f (dig B32 m).length) (plF f c12), .int .i64 (peF f)]) (fun Al W I => (a0v a0c Tryz.underlying5 I.fa.1 _ (HF p12 _ c12 _ ⟨_, rfl⟩ ⟨_, rfl⟩ ⟨_, rfl⟩))) fun Al W I => ?_
         refine zo 17 I fun I => ?_
         refine zn I fun Al W I => ?_
         exact a0m I J fun Al W U I => hJ _ _ _ _ _ ⟨U, p12, c12, rfl, rfl, rfl⟩ (I.pick [1])
       refine zq I (fun Al W I => (HN W _ (I.box 0 182 _)).out) fun Al W I => ?_
       refine zo2 7 10 I (fun I => ?_) (fun I => ?_)
       · have I := I.pick [1, 0]
         refine zins I a0c Tryz.underlying5 66 (.agg #[.int .i64 2, .bool g, .slice p12 (dig B32 m).length c12, .int .i64 f.g.hi]) m7_ge (fun Al W I => ⟨a0d I.fa.1 I.fa.2.1, True.intro⟩) fun Al W I => ?_
         refine zo 10 I fun I => ?_
         refine zins I a0c Tryz.underlying5 67 (.agg #[.int .i64 (kN : Int), .bool false, .slice none 0 0, .int .i64 0]) m7_ge (fun Al W I => ⟨a0d I.fa.1 I.fa.2.1, True.intro⟩) fun Al W I => ?_
         refine zk [11] I fun I => ?_
         refine zo 16 I fun I => ?_
         refine zx I 20 (fun _ => .agg #[.int .i64 (pkF f), .bool (pgF f g), .slice (ppF f p12) (plF f (dig B32 m).length) (plF f c12), .int .i64 (peF f)]) (fun Al W I => (a0v a0c Tryz.underlying5 I.fa.1 _ (HF p12 _ c12 _ ⟨_, rfl⟩ ⟨_, rfl⟩ ⟨_, rfl⟩))) fun Al W I => ?_
         refine zo 17 I fun I => ?_
         refine zn I fun Al W I => ?_
         exact a0m I J fun Al W U I => hJ _ _ _ _ _ ⟨U, p12, c12, rfl, rfl, rfl⟩ (I.pick [1])
       have I := I.pick [1, 0]
       refine zins I a0c Tryz.underlying5 67 (.agg #[.int .i64 (kN : Int), .bool false, .slice none 0 0, .int .i64 0]) m7_ge (fun Al W I => ⟨a0d I.fa.1 I.fa.2.1, True.intro⟩) fun Al W I => ?_
       refine zo 7 I fun I => ?_
       refine zins I a0c Tryz.underlying5 66 (.agg #[.int .i64 2, .bool g, .slice p12 (dig B32 m).length c12, .int .i64 f.g.hi]) m7_ge (fun Al W I => ⟨a0d I.fa.1 I.fa.2.1, True.intro⟩) fun Al W I => ?_
       refine zk [11] I fun I => ?_
       refine zo 16 I fun I => ?_
       refine zx I 20 (fun _ => .agg #[.int .i64 (pkF f), .bool (pgF f g), .slice (ppF f p12) (plF f (dig B32 m).length) (plF f c12), .int .i64 (peF f)]) (fun Al W I => (a0v a0c Tryz.underlying5 I.fa.1 _ (HF p12 _ c12 _ ⟨_, rfl⟩ ⟨_, rfl⟩ ⟨_, rfl⟩))) fun Al W I => ?_
       refine zo 17 I fun I => ?_
       refine zn I fun Al W I => ?_
       exact a0m I J fun Al W U I => hJ _ _ _ _ _ ⟨U, p12, c12, rfl, rfl, rfl⟩ (I.pick [1])
     refine zqo I (fun Al W I => (HG W _ (I.box 0 182 _)).out) fun Al W p12 c12 I => ?_
     refine zo3 3 7 9 I (fun I => ?_) (fun I => ?_) (fun I => ?_)
     · have I := I.pick [1, 0]
       refine zins I a0c Tryz.underlying5 65 (.agg #[.int .i64 3, .bool g, .slice none 0 0, .int .i64 0]) m7_ge (fun Al W I => ⟨a0d I.fa.1 I.fa.2.1, True.intro⟩) fun Al W I => ?_
       refine zo2 7 9 I (fun I => ?_) (fun I => ?_)
       · refine zins I a0c Tryz.underlying5 66 (.agg #[.int .i64 2, .bool g, .slice p12 (dig B32 m).length c12, .int .i64 f.g.hi]) m7_ge (fun Al W I => ⟨a0d I.fa.1 I.fa.2.1, True.intro⟩) fun Al W I => ?_
         refine zo 9 I fun I => ?_
         refine zq I (fun Al W I => (HN W _ (I.box 0 182 _)).out) fun Al W I => ?_
         refine zo 10 I fun I => ?_
         refine zins I a0c Tryz.underlying5 67 (.agg #[.int .i64 (kN : Int), .bool false, .slice none 0 0, .int .i64 0]) m7_ge (fun Al W I => ⟨a0d I.fa.1 I.fa.2.1, True.intro⟩) fun Al W I => ?_
         refine zk [11] I fun I => ?_
         refine zo 16 I fun I => ?_
         refine zx I 20 (fun _ => .agg #[.int .i64 (pkF f), .bool (pgF f g), .slice (ppF f p12) (plF f (dig B32 m).length) (plF f c12), .int .i64 (peF f)]) (fun Al W I => (a0v a0c Tryz.underlying5 I.fa.1 _ (HF p12 _ c12 _ ⟨_, rfl⟩ ⟨_, rfl⟩ ⟨_, rfl⟩))) fun Al W I => ?_
         refine zo 17 I fun I => ?_
         refine zn I fun Al W I => ?_
         exact a0m I J fun Al W U I => hJ _ _ _ _ _ ⟨U, p12, c12, rfl, rfl, rfl⟩ (I.pick [1])
       refine zq I (fun Al W I => (HN W _ (I.box 0 182 _)).out) fun Al W I => ?_
       refine zo2 7 10 I (fun I => ?_) (fun I => ?_)
       · refine zins I a0c Tryz.underlying5 66 (.agg #[.int .i64 2, .bool g, .slice p12 (dig B32 m).length c12, .int .i64 f.g.hi]) m7_ge (fun Al W I => ⟨a0d I.fa.1 I.fa.2.1, True.intro⟩) fun Al W I => ?_
         refine zo 10 I fun I => ?_
         refine zins I a0c Tryz.underlying5 67 (.agg #[.int .i64 (kN : Int), .bool false, .slice none 0 0, .int .i64 0]) m7_ge (fun Al W I => ⟨a0d I.fa.1 I.fa.2.1, True.intro⟩) fun Al W I => ?_
         refine zk [11] I fun I => ?_
         refine zo 16 I fun I => ?_
         refine zx I 20 (fun _ => .agg #[.int .i64 (pkF f), .bool (pgF f g), .slice (ppF f p12) (plF f (dig B32 m).length) (plF f c12), .int .i64 (peF f)]) (fun Al W I => (a0v a0c Tryz.underlying5 I.fa.1 _ (HF p12 _ c12 _ ⟨_, rfl⟩ ⟨_, rfl⟩ ⟨_, rfl⟩))) fun Al W I => ?_
         refine zo 17 I fun I => ?_
         refine zn I fun Al W I => ?_
         exact a0m I J fun Al W U I => hJ _ _ _ _ _ ⟨U, p12, c12, rfl, rfl, rfl⟩ (I.pick [1])
       refine zins I a0c Tryz.underlying5 67 (.agg #[.int .i64 (kN : Int), .bool false, .slice none 0 0, .int .i64 0]) m7_ge (fun Al W I => ⟨a0d I.fa.1 I.fa.2.1, True.intro⟩) fun Al W I => ?_
       refine zo 7 I fun I => ?_
       refine zins I a0c Tryz.underlying5 66 (.agg #[.int .i64 2, .bool g, .slice p12 (dig B32 m).length c12, .int .i64 f.g.hi]) m7_ge (fun Al W I => ⟨a0d I.fa.1 I.fa.2.1, True.intro⟩) fun Al W I => ?_
       refine zk [11] I fun I => ?_
       refine zo 16 I fun I => ?_
       refine zx I 20 (fun _ => .agg #[.int .i64 (pkF f), .bool (pgF f g), .slice (ppF f p12) (plF f (dig B32 m).length) (plF f c12), .int .i64 (peF f)]) (fun Al W I => (a0v a0c Tryz.underlying5 I.fa.1 _ (HF p12 _ c12 _ ⟨_, rfl⟩ ⟨_, rfl⟩ ⟨_, rfl⟩))) fun Al W I => ?_
       refine zo 17 I fun I => ?_
       refine zn I fun Al W I => ?_
       exact a0m I J fun Al W U I => hJ _ _ _ _ _ ⟨U, p12, c12, rfl, rfl, rfl⟩ (I.pick [1])
     · have I := I.pick [1, 0]
       refine zins I a0c Tryz.underlying5 66 (.agg #[.int .i64 2, .bool g, .slice p12 (dig B32 m).length c12, .int .i64 f.g.hi]) m7_ge (fun Al W I => ⟨a0d I.fa.1 I.fa.2.1, True.intro⟩) fun Al W I => ?_
       refine zo2 3 9 I (fun I => ?_) (fun I => ?_)
       · refine zins I a0c Tryz.underlying5 65 (.agg #[.int .i64 3, .bool g, .slice none 0 0, .int .i64 0]) m7_ge (fun Al W I => ⟨a0d I.fa.1 I.fa.2.1, True.intro⟩) fun Al W I => ?_
         refine zo 9 I fun I => ?_
         refine zq I (fun Al W I => (HN W _ (I.box 0 182 _)).out) fun Al W I => ?_
         refine zo 10 I fun I => ?_
         refine zins I a0c Tryz.underlying5 67 (.agg #[.int .i64 (kN : Int), .bool false, .slice none 0 0, .int .i64 0]) m7_ge (fun Al W I => ⟨a0d I.fa.1 I.fa.2.1, True.intro⟩) fun Al W I => ?_
         refine zk [11] I fun I => ?_
         refine zo 16 I fun I => ?_
         refine zx I 20 (fun _ => .agg #[.int .i64 (pkF f), .bool (pgF f g), .slice (ppF f p12) (plF f (dig B32 m).length) (plF f c12), .int .i64 (peF f)]) (fun Al W I => (a0v a0c Tryz.underlying5 I.fa.1 _ (HF p12 _ c12 _ ⟨_, rfl⟩ ⟨_, rfl⟩ ⟨_, rfl⟩))) fun Al W I => ?_
         refine zo 17 I fun I => ?_
         refine zn I fun Al W I => ?_
         exact a0m I J fun Al W U I => hJ _ _ _ _ _ ⟨U, p12, c12, rfl, rfl, rfl⟩ (I.pick [1])
       refine zq I (fun Al W I => (HN W _ (I.box 0 182 _)).out) fun Al W I => ?_
       refine zo2 3 10 I (fun I => ?_) (fun I => ?_)
       · refine zins I a0c Tryz.underlying5 65 (.agg #[.int .i64 3, .bool g, .slice none 0 0, .int .i64 0]) m7_ge (fun Al W I => ⟨a0d I.fa.1 I.fa.2.1, True.intro⟩) fun Al W I => ?_
         refine zo 10 I fun I => ?_
         refine zins I a0c Tryz.underlying5 67 (.agg #[.int .i64 (kN : Int), .bool false, .slice none 0 0, .int .i64 0]) m7_ge (fun Al W I => ⟨a0d I.fa.1 I.fa.2.1, True.intro⟩) fun Al W I => ?_
         refine zk [11] I fun I => ?_
         refine zo 16 I fun I => ?_
         refine zx I 20 (fun _ => .agg #[.int .i64 (pkF f), .bool (pgF f g), .slice (ppF f p12) (plF f (dig B32 m).length) (plF f c12), .int .i64 (peF f)]) (fun Al W I => (a0v a0c Tryz.underlying5 I.fa.1 _ (HF p12 _ c12 _ ⟨_, rfl⟩ ⟨_, rfl⟩ ⟨_, rfl⟩))) fun Al W I => ?_
         refine zo 17 I fun I => ?_
         refine zn I fun Al W I => ?_
         exact a0m I J fun Al W U I => hJ _ _ _ _ _ ⟨U, p12, c12, rfl, rfl, rfl⟩ (I.pick [1])
       refine zins I a0c Tryz.underlying5 67 (.agg #[.int .i64 (kN : Int), .bool false, .slice none 0 0, .int .i64 0]) m7_ge (fun Al W I => ⟨a0d I.fa.1 I.fa.2.1, True.intro⟩) fun Al W I => ?_
       refine zo 3 I fun I => ?_
       refine zins I a0c Tryz.underlying5 65 (.agg #[.int .i64 3, .bool g, .slice none 0 0, .int .i64 0]) m7_ge (fun Al W I => ⟨a0d I.fa.1 I.fa.2.1, True.intro⟩) fun Al W I => ?_
       refine zk [11] I fun I => ?_
       refine zo 16 I fun I => ?_
       refine zx I 20 (fun _ => .agg #[.int .i64 (pkF f), .bool (pgF f g), .slice (ppF f p12) (plF f (dig B32 m).length) (plF f c12), .int .i64 (peF f)]) (fun Al W I => (a0v a0c Tryz.underlying5 I.fa.1 _ (HF p12 _ c12 _ ⟨_, rfl⟩ ⟨_, rfl⟩ ⟨_, rfl⟩))) fun Al W I => ?_
       refine zo 17 I fun I => ?_
       refine zn I fun Al W I => ?_
       exact a0m I J fun Al W U I => hJ _ _ _ _ _ ⟨U, p12, c12, rfl, rfl, rfl⟩ (I.pick [1])
     refine zq I (fun Al W I => (HN W _ (I.box 0 182 _)).out) fun Al W I => ?_
     refine zo3 3 7 10 I (fun I => ?_) (fun I => ?_) (fun I => ?_)
     · have I := I.pick [1, 0]
       refine zins I a0c Tryz.underlying5 65 (.agg #[.int .i64 3, .bool g, .slice none 0 0, .int .i64 0]) m7_ge (fun Al W I => ⟨a0d I.fa.1 I.fa.2.1, True.intro⟩) fun Al W I => ?_
       refine zo2 7 10 I (fun I => ?_) (fun I => ?_)
       · refine zins I a0c Tryz.underlying5 66 (.agg #[.int .i64 2, .bool g, .slice p12 (dig B32 m).length c12, .int .i64 f.g.hi]) m7_ge (fun Al W I => ⟨a0d I.fa.1 I.fa.2.1, True.intro⟩) fun Al W I => ?_
         refine zo 10 I fun I => ?_
         refine zins I a0c Tryz.underlying5 67 (.agg #[.int .i64 (kN : Int), .bool false, .slice none 0 0, .int .i64 0]) m7_ge (fun Al W I => ⟨a0d I.fa.1 I.fa.2.1, True.intro⟩) fun Al W I => ?_
         refine zk [11] I fun I => ?_
         refine zo 16 I fun I => ?_
         refine zx I 20 (fun _ => .agg #[.int .i64 (pkF f), .bool (pgF f g), .slice (ppF f p12) (plF f (dig B32 m).length) (plF f c12), .int .i64 (peF f)]) (fun Al W I => (a0v a0c Tryz.underlying5 I.fa.1 _ (HF p12 _ c12 _ ⟨_, rfl⟩ ⟨_, rfl⟩ ⟨_, rfl⟩))) fun Al W I => ?_
         refine zo 17 I fun I => ?_
         refine zn I fun Al W I => ?_
         exact a0m I J fun Al W U I => hJ _ _ _ _ _ ⟨U, p12, c12, rfl, rfl, rfl⟩ (I.pick [1])
       refine zins I a0c Tryz.underlying5 67 (.agg #[.int .i64 (kN : Int), .bool false, .slice none 0 0, .int .i64 0]) m7_ge (fun Al W I => ⟨a0d I.fa.1 I.fa.2.1, True.intro⟩) fun Al W I => ?_
       refine zo 7 I fun I => ?_
       refine zins I a0c Tryz.underlying5 66 (.agg #[.int .i64 2, .bool g, .slice p12 (dig B32 m).length c12, .int .i64 f.g.hi]) m7_ge (fun Al W I => ⟨a0d I.fa.1 I.fa.2.1, True.intro⟩) fun Al W I => ?_
       refine zk [11] I fun I => ?_
       refine zo 16 I fun I => ?_
       refine zx I 20 (fun _ => .agg #[.int .i64 (pkF f), .bool (pgF f g), .slice (ppF f p12) (plF f (dig B32 m).length) (plF f c12), .int .i64 (peF f)]) (fun Al W I => (a0v a0c Tryz.underlying5 I.fa.1 _ (HF p12 _ c12 _ ⟨_, rfl⟩ ⟨_, rfl⟩ ⟨_, rfl⟩))) fun Al W I => ?_
       refine zo 17 I fun I => ?_
       refine zn I fun Al W I => ?_
       exact a0m I J fun Al W U I => hJ _ _ _ _ _ ⟨U, p12, c12, rfl, rfl, rfl⟩ (I.pick [1])
     · have I := I.pick [1, 0]
       refine zins I a0c Tryz.underlying5 66 (.agg #[.int .i64 2, .bool g, .slice p12 (dig B32 m).length c12, .int .i64 f.g.hi]) m7_ge (fun Al W I => ⟨a0d I.fa.1 I.fa.2.1, True.intro⟩) fun Al W I => ?_
       refine zo2 3 10 I (fun I => ?_) (fun I => ?_)
       · refine zins I a0c Tryz.underlying5 65 (.agg #[.int .i64 3, .bool g, .slice none 0 0, .int .i64 0]) m7_ge (fun Al W I => ⟨a0d I.fa.1 I.fa.2.1, True.intro⟩) fun Al W I => ?_
         refine zo 10 I fun I => ?_
         refine zins I a0c Tryz.underlying5 67 (.agg #[.int .i64 (kN : Int), .bool false, .slice none 0 0, .int .i64 0]) m7_ge (fun Al W I => ⟨a0d I.fa.1 I.fa.2.1, True.intro⟩) fun Al W I => ?_
         refine zk [11] I fun I => ?_
         refine zo 16 I fun I => ?_
         refine zx I 20 (fun _ => .agg #[.int .i64 (pkF f), .bool (pgF f g), .slice (ppF f p12) (plF f (dig B32 m).length) (plF f c12), .int .i64 (peF f)]) (fun Al W I => (a0v a0c Tryz.underlying5 I.fa.1 _ (HF p12 _ c12 _ ⟨_, rfl⟩ ⟨_, rfl⟩ ⟨_, rfl⟩))) fun Al W I => ?_
         refine zo 17 I fun I => ?_
         refine zn I fun Al W I => ?_
         exact a0m I J fun Al W U I => hJ _ _ _ _ _ ⟨U, p12, c12, rfl, rfl, rfl⟩ (I.pick [1])
       refine zins I a0c Tryz.underlying5 67 (.agg #[.int .i64 (kN : Int), .bool false, .slice none 0 0, .int .i64 0]) m7_ge (fun Al W I => ⟨a0d I.fa.1 I.fa.2.1, True.intro⟩) fun Al W I => ?_
       refine zo 3 I fun I => ?_
       refine zins I a0c Tryz.underlying5 65 (.agg #[.int .i64 3, .bool g, .slice none 0 0, .int .i64 0]) m7_ge (fun Al W I => ⟨a0d I.fa.1 I.fa.2.1, True.intro⟩) fun Al W I => ?_
       refine zk [11] I fun I => ?_
       refine zo 16 I fun I => ?_
       refine zx I 20 (fun _ => .agg #[.int .i64 (pkF f), .bool (pgF f g), .slice (ppF f p12) (plF f (dig B32 m).length) (plF f c12), .int .i64 (peF f)]) (fun Al W I => (a0v a0c Tryz.underlying5 I.fa.1 _ (HF p12 _ c12 _ ⟨_, rfl⟩ ⟨_, rfl⟩ ⟨_, rfl⟩))) fun Al W I => ?_
       refine zo 17 I fun I => ?_
       refine zn I fun Al W I => ?_
       exact a0m I J fun Al W U I => hJ _ _ _ _ _ ⟨U, p12, c12, rfl, rfl, rfl⟩ (I.pick [1])
     have I := I.pick [1, 0]
     refine zins I a0c Tryz.underlying5 67 (.agg #[.int .i64 (kN : Int), .bool false, .slice none 0 0, .int .i64 0]) m7_ge (fun Al W I => ⟨a0d I.fa.1 I.fa.2.1, True.intro⟩) fun Al W I => ?_
     refine zo2 3 7 I (fun I => ?_) (fun I => ?_)
     · refine zins I a0c Tryz.underlying5 65 (.agg #[.int .i64 3, .bool g, .slice none 0 0, .int .i64 0]) m7_ge (fun Al W I => ⟨a0d I.fa.1 I.fa.2.1, True.intro⟩) fun Al W I => ?_
       refine zo 7 I fun I => ?_
       refine zins I a0c Tryz.underlying5 66 (.agg #[.int .i64 2, .bool g, .slice p12 (dig B32 m).length c12, .int .i64 f.g.hi]) m7_ge (fun Al W I => ⟨a0d I.fa.1 I.fa.2.1, True.intro⟩) fun Al W I => ?_
       refine zk [11] I fun I => ?_
       refine zo 16 I fun I => ?_
       refine zx I 20 (fun _ => .agg #[.int .i64 (pkF f), .bool (pgF f g), .slice (ppF f p12) (plF f (dig B32 m).length) (plF f c12), .int .i64 (peF f)]) (fun Al W I => (a0v a0c Tryz.underlying5 I.fa.1 _ (HF p12 _ c12 _ ⟨_, rfl⟩ ⟨_, rfl⟩ ⟨_, rfl⟩))) fun Al W I => ?_
       refine zo 17 I fun I => ?_
       refine zn I fun Al W I => ?_
       exact a0m I J fun Al W U I => hJ _ _ _ _ _ ⟨U, p12, c12, rfl, rfl, rfl⟩ (I.pick [1])
     refine zins I a0c Tryz.underlying5 66 (.agg #[.int .i64 2, .bool g, .slice p12 (dig B32 m).length c12, .int .i64 f.g.hi]) m7_ge (fun Al W I => ⟨a0d I.fa.1 I.fa.2.1, True.intro⟩) fun Al W I => ?_
     refine zo 3 I fun I => ?_
     refine zins I a0c Tryz.underlying5 65 (.agg #[.int .i64 3, .bool g, .slice none 0 0, .int .i64 0]) m7_ge (fun Al W I => ⟨a0d I.fa.1 I.fa.2.1, True.intro⟩) fun Al W I => ?_
     refine zk [11] I fun I => ?_
     refine zo 16 I fun I => ?_
     refine zx I 20 (fun _ => .agg #[.int .i64 (pkF f), .bool (pgF f g), .slice (ppF f p12) (plF f (dig B32 m).length) (plF f c12), .int .i64 (peF f)]) (fun Al W I => (a0v a0c Tryz.underlying5 I.fa.1 _ (HF p12 _ c12 _ ⟨_, rfl⟩ ⟨_, rfl⟩ ⟨_, rfl⟩))) fun Al W I => ?_
     refine zo 17 I fun I => ?_
     refine zn I fun Al W I => ?_
     exact a0m I J fun Al W U I => hJ _ _ _ _ _ ⟨U, p12, c12, rfl, rfl, rfl⟩ (I.pick [1])
   refine zq I (fun Al W I => (HI W).out) fun Al W I => ?_
   refine zo2 0 6 I (fun I => ?_) (fun I => ?_)
   · refine zmkm I 209 fun Al W m7_b m7_ge I => ?_
     refine zo2 3 6 I (fun I => ?_) (fun I => ?_)
     · refine zins I a0c Tryz.underlying5 65 (.agg #[.int .i64 3, .bool g, .slice none 0 0, .int .i64 0]) m7_ge (fun Al W I => True.intro) fun Al W I => ?_
       refine zo 6 I fun I => ?_
       refine zqo I (fun Al W I => (HG W _ (I.box 0 182 _)).out) fun Al W p12 c12 I => ?_
       refine zo2 7 9 I (fun I => ?_) (fun I => ?_)
       · have I := I.pick [1, 0]
         refine zins I a0c Tryz.underlying5 66 (.agg #[.int .i64 2, .bool g, .slice p12 (dig B32 m).length c12, .int .i64 f.g.hi]) m7_ge (fun Al W I => ⟨a0d I.fa.1 I.fa.2.1, True.intro⟩) fun Al W I => ?_
         refine zo 9 I fun I => ?_
         refine zq I (fun Al W I => (HN W _ (I.box 0 182 _)).out) fun Al W I => ?_
         refine zo 10 I fun I => ?_
         refine zins I a0c Tryz.underlying5 67 (.agg #[.int .i64 (kN : Int), .bool false, .slice none 0 0, .int .i64 0]) m7_ge (fun Al W I => ⟨a0d I.fa.1 I.fa.2.1, True.intro⟩) fun Al W I => ?_
         refine zk [11] I fun I => ?_
         refine zo 16 I fun I => ?_
         refine zx I 20 (fun _ => .agg #[.int .i64 (pkF f), .bool (pgF f g), .slice (ppF f p12) (plF f (dig B32 m).length) (plF f c12), .int .i64 (peF f)]) (fun Al W I => (a0v a0c Tryz.underlying5 I.fa.1 _ (HF p12 _ c12 _ ⟨_, rfl⟩ ⟨_, rfl⟩ ⟨_, rfl⟩))) fun Al W I => ?_
         refine zo 17 I fun I => ?_
         refine zn I fun Al W I => ?_
         exact a0m I J fun Al W U I => hJ _ _ _ _ _ ⟨U, p12, c12, rfl, rfl, rfl⟩ (I.pick [1])
       refine zq I (fun Al W I => (HN W _ (I.box 0 182 _)).out) fun Al W I => ?_
       refine zo2 7 10 I (fun I => ?_) (fun I => ?_)
       · have I := I.pick [1, 0]
         refine zins I a0c Tryz.underlying5 66 (.agg #[.int .i64 2, .bool g, .slice p12 (dig B32 m).length c12, .int .i64 f.g.hi]) m7_ge (fun Al W I => ⟨a0d I.fa.1 I.fa.2.1, True.intro⟩) fun Al W I => ?_
         refine zo 10 I fun I => ?_
         refine zins I a0c Tryz.underlying5 67 (.agg #[.int .i64 (kN : Int), .bool false, .slice none 0 0, .int .i64 0]) m7_ge (fun Al W I => ⟨a0d I.fa.1 I.fa.2.1, True.intro⟩) fun Al W I => ?_
         refine zk [11] I fun I => ?_
         refine zo 16 I fun I => ?_
         refine zx I 20 (fun _ => .agg #[.int .i64 (pkF f), .bool (pgF f g), .slice (ppF f p12) (plF f (dig B32 m).length) (plF f c12), .int .i64 (peF f)]) (fun Al W I => (a0v a0c Tryz.underlying5 I.fa.1 _ (HF p12 _ c12 _ ⟨_, rfl⟩ ⟨_, rfl⟩ ⟨_, rfl⟩))) fun Al W I => ?_
         refine zo 17 I fun I => ?_
         refine zn I fun Al W I => ?_
         exact a0m I J fun Al W U I => hJ _ _ _ _ _ ⟨U, p12, c12, rfl, rfl, rfl⟩ (I.pick [1])
       have I := I.pick [1, 0]
       refine zins I a0c Tryz.underlying5 67 (.agg #[.int .i64 (kN : Int), .bool false, .slice none 0 0, .int .i64 0]) m7_ge (fun Al W I => ⟨a0d I.fa.1 I.fa.2.1, True.intro⟩) fun Al W I => ?_
       refine zo 7 I fun I => ?_
       refine zins I a0c Tryz.underlying5 66 (.agg #[.int .i64 2, .bool g, .slice p12 (dig B32 m).length c12, .int .i64 f.g.hi]) m7_ge (fun Al W I => ⟨a0d I.fa.1 I.fa.2.1, True.intro⟩) fun Al W I => ?_
       refine zk [11] I fun I => ?_
       refine zo 16 I fun I => ?_
       refine zx I 20 (fun _ => .agg #[.int .i64 (pkF f), .bool (pgF f g), .slice (ppF f p12) (plF f (dig B32 m).length) (plF f c12), .int .i64 (peF f)]) (fun Al W I => (a0v a0c Tryz.underlying5 I.fa.1 _ (HF p12 _ c12 _ ⟨_, rfl⟩ ⟨_, rfl⟩ ⟨_, rfl⟩))) fun Al W I => ?_
       refine zo 17 I fun I => ?_
       refine zn I fun Al W I => ?_
       exact a0m I J fun Al W U I => hJ _ _ _ _ _ ⟨U, p12, c12, rfl, rfl, rfl⟩ (I.pick [1])
     refine zqo I (fun Al W I => (HG W _ (I.box 0 182 _)).out) fun Al W p12 c12 I => ?_
     refine zo3 3 7 9 I (fun I => ?_) (fun I => ?_) (fun I => ?_)
     · have I := I.pick [1, 0]
       refine zins I a0c Tryz.underlying5 65 (.agg #[.int .i64 3, .bool g, .slice none 0 0, .int .i64 0]) m7_ge (fun Al W I => ⟨a0d I.fa.1 I.fa.2.1, True.intro⟩) fun Al W I => ?_
       refine zo2 7 9 I (fun I => ?_) (fun I => ?_)
       · refine zins I a0c Tryz.underlying5 66 (.agg #[.int .i64 2, .bool g, .slice p12 (dig B32 m).length c12, .int .i64 f.g.hi]) m7_ge (fun Al W I => ⟨a0d I.fa.1 I.fa.2.1, True.intro⟩) fun Al W I => ?_
         refine zo 9 I fun I => ?_
         refine zq I (fun Al W I => (HN W _ (I.box 0 182 _)).out) fun Al W I => ?_
         refine zo 10 I fun I => ?_
         refine zins I a0c Tryz.underlying5 67 (.agg #[.int .i64 (kN : Int), .bool false, .slice none 0 0, .int .i64 0]) m7_ge (fun Al W I => ⟨a0d I.fa.1 I.fa.2.1, True.intro⟩) fun Al W I => ?_
         refine zk [11] I fun I => ?_
         refine zo 16 I fun I => ?_
         refine zx I 20 (fun _ => .agg #[.int .i64 (pkF f), .bool (pgF f g), .slice (ppF f p12) (plF f (dig B32 m).length) (plF f c12), .int .i64 (peF f)]) (fun Al W I => (a0v a0c Tryz.underlying5 I.fa.1 _ (HF p12 _ c12 _ ⟨_, rfl⟩ ⟨_, rfl⟩ ⟨_, rfl⟩))) fun Al W I => ?_
         refine zo 17 I fun I => ?_
         refine zn I fun Al W I => ?_
         exact a0m I J fun Al W U I => hJ _ _ _ _ _ ⟨U, p12, c12, rfl, rfl, rfl⟩ (I.pick [1])
       refine zq I (fun Al W I => (HN W _ (I.box 0 182 _)).out) fun Al W I => ?_
       refine zo2 7 10 I (fun I => ?_) (fun I => ?_)
       · refine zins I a0c Tryz.underlying5 66 (.agg #[.int .i64 2, .bool g, .slice p12 (dig B32 m).length c12, .int .i64 f.g.hi]) m7_ge (fun Al W I => ⟨a0d I.fa.1 I.fa.2.1, True.intro⟩) fun Al W I => ?_
         refine zo 10 I fun I => ?_
         refine zins I a0c Tryz.underlying5 67 (.agg #[.int .i64 (kN : Int), .bool false, .slice none 0 0, .int .i64 0]) m7_ge (fun Al W I => ⟨a0d I.fa.1 I.fa.2.1, True.intro⟩) fun Al W I => ?_
         refine zk [11] I fun I => ?_
         refine zo 16 I fun I => ?_
         refine zx I 20 (fun _ => .agg #[.int .i64 (pkF f), .bool (pgF f g), .slice (ppF f p12) (plF f (dig B32 m).length) (plF f c12), .int .i64 (peF f)]) (fun Al W I => (a0v a0c Tryz.underlying5 I.fa.1 _ (HF p12 _ c12 _ ⟨_, rfl⟩ ⟨_, rfl⟩ ⟨_, rfl⟩))) fun Al W I => ?_
         refine zo 17 I fun I => ?_
         refine zn I fun Al W I => ?_
         exact a0m I J fun Al W U I => hJ _ _ _ _ _ ⟨U, p12, c12, rfl, rfl, rfl⟩ (I.pick [1])
       refine zins I a0c Tryz.underlying5 67 (.agg #[.int .i64 (kN : Int), .bool false, .slice none 0 0, .int .i64 0]) m7_ge (fun Al W I => ⟨a0d I.fa.1 I.fa.2.1, True.intro⟩) fun Al W I => ?_
       refine zo 7 I fun I => ?_
       refine zins I a0c Tryz.underlying5 66 (.agg #[.int .i64 2, .bool g, .slice p12 (dig B32 m).length c12, .int .i64 f.g.hi]) m7_ge (fun Al W I => ⟨a0d I.fa.1 I.fa.2.1, True.intro⟩) fun Al W I => ?_
       refine zk [11] I fun I => ?_
       refine zo 16 I fun I => ?_
       refine zx I 20 (fun _ => .agg #[.int .i64 (pkF f), .bool (pgF f g), .slice (ppF f p12) (plF f (dig B32 m).length) (plF f c12), .int .i64 (peF f)]) (fun Al W I => (a0v a0c Tryz.underlying5 I.fa.1 _ (HF p12 _ c12 _ ⟨_, rfl⟩ ⟨_, rfl⟩ ⟨_, rfl⟩))) fun Al W I => ?_
       refine zo 17 I fun I => ?_
       refine zn I fun Al W I => ?_
       exact a0m I J fun Al W U I => hJ _ _ _ _ _ ⟨U, p12, c12, rfl, rfl, rfl⟩ (I.pick [1])
     · have I := I.pick [1, 0]
       refine zins I a0c Tryz.underlying5 66 (.agg #[.int .i64 2, .bool g, .slice p12 (dig B32 m).length c12, .int .i64 f.g.hi]) m7_ge (fun Al W I => ⟨a0d I.fa.1 I.fa.2.1, True.intro⟩) fun Al W I => ?_
       refine zo2 3 9 I (fun I => ?_) (fun I => ?_)
       · refine zins I a0c Tryz.underlying5 65 (.agg #[.int .i64 3, .bool g, .slice none 0 0, .int .i64 0]) m7_ge (fun Al W I => ⟨a0d I.fa.1 I.fa.2.1, True.intro⟩) fun Al W I => ?_
         refine zo 9 I fun I => ?_
         refine zq I (fun Al W I => (HN W _ (I.box 0 182 _)).out) fun Al W I => ?_
         refine zo 10 I fun I => ?_
         refine zins I a0c Tryz.underlying5 67 (.agg #[.int .i64 (kN : Int), .bool false, .slice none 0 0, .int .i64 0]) m7_ge (fun Al W I => ⟨a0d I.fa.1 I.fa.2.1, True.intro⟩) fun Al W I => ?_
         refine zk [11] I fun I => ?_
         refine zo 16 I fun I => ?_
         refine zx I 20 (fun _ => .agg #[.int .i64 (pkF f), .bool (pgF f g), .slice (ppF f p12) (plF f (dig B32 m).length) (plF f c12), .int .i64 (peF f)]) (fun Al W I => (a0v a0c Tryz.underlying5 I.fa.1 _ (HF p12 _ c12 _ ⟨_, rfl⟩ ⟨_, rfl⟩ ⟨_, rfl⟩))) fun Al W I => ?_
         refine zo 17 I fun I => ?_
         refine zn I fun Al W I => ?_
         exact a0m I J fun Al W U I => hJ _ _ _ _ _ ⟨U, p12, c12, rfl, rfl, rfl⟩ (I.pick [1])
       refine zq I (fun Al W I => (HN W _ (I.box 0 182 _)).out) fun Al W I => ?_
       refine zo2 3 10 I (fun I => ?_) (fun I => ?_)
       · refine zins I a0c Tryz.underlying5 65 (.agg #[.int .i64 3, .bool g, .slice none 0 0, .int .i64 0]) m7_ge (fun Al W I => ⟨a0d I.fa.1 I.fa.2.1, True.intro⟩) fun Al W I => ?_
         refine zo 10 I fun I => ?_
         refine zins I a0c Tryz.underlying5 67 (.agg #[.int .i64 (kN : Int), .bool false, .slice none 0 0, .int .i64 0]) m7_ge (fun Al W I => ⟨a0d I.fa.1 I.fa.2.1, True.intro⟩) fun Al W I => ?_
         refine zk [11] I fun I => ?_
         refine zo 16 I fun I => ?_
         refine zx I 20 (fun _ => .agg #[.int .i64 (pkF f), .bool (pgF f g), .slice (ppF f p12) (plF f (dig B32 m).length) (plF f c12), .int .i64 (peF f)]) (fun Al W I => (a0v a0c Tryz.underlying5 I.fa.1 _ (HF p12 _ c12 _ ⟨_, rfl⟩ ⟨_, rfl⟩ ⟨_, rfl⟩))) fun Al W I => ?_
         refine zo 17 I fun I => ?_
         refine zn I fun Al W I => ?_
         exact a0m I J fun Al W U I => hJ _ _ _ _ _ ⟨U, p12, c12, rfl, rfl, rfl⟩ (I.pick [1])
       refine zins I a0c Tryz.underlying5 67 (.agg #[.int .i64 (kN : Int), .bool false, .slice none 0 0, .int .i64 0]) m7_ge (fun Al W I => ⟨a0d I.fa.1 I.fa.2.1, True.intro⟩) fun Al W I => ?_
       refine zo 3 I fun I => ?_
       refine zins I a0c Tryz.underlying5 65 (.agg #[.int .i64 3, .bool g, .slice none 0 0, .int .i64 0]) m7_ge (fun Al W I => ⟨a0d I.fa.1 I.fa.2.1, True.intro⟩) fun Al W I => ?_
       refine zk [11] I fun I => ?_
       refine zo 16 I fun I => ?_
       refine zx I 20 (fun _ => .agg #[.int .i64 (pkF f), .bool (pgF f g), .slice (ppF f p12) (plF f (dig B32 m).length) (plF f c12), .int .i64 (peF f)]) (fun Al W I => (a0v a0c Tryz.underlying5 I.fa.1 _ (HF p12 _ c12 _ ⟨_, rfl⟩ ⟨_, rfl⟩ ⟨_, rfl⟩))) fun Al W I => ?_
       refine zo 17 I fun I => ?_
       refine zn I fun Al W I => ?_
       exact a0m I J fun Al W U I => hJ _ _ _ _ _ ⟨U, p12, c12, rfl, rfl, rfl⟩ (I.pick [1])
     refine zq I (fun Al W I => (HN W _ (I.box 0 182 _)).out) fun Al W I => ?_
     refine zo3 3 7 10 I (fun I => ?_) (fun I => ?_) (fun I => ?_)
     · have I := I.pick [1, 0]
       refine zins I a0c Tryz.underlying5 65 (.agg #[.int .i64 3, .bool g, .slice none 0 0, .int .i64 0]) m7_ge (fun Al W I => ⟨a0d I.fa.1 I.fa.2.1, True.intro⟩) fun Al W I => ?_
       refine zo2 7 10 I (fun I => ?_) (fun I => ?_)
       · refine zins I a0c Tryz.underlying5 66 (.agg #[.int .i64 2, .bool g, .slice p12 (dig B32 m).length c12, .int .i64 f.g.hi]) m7_ge (fun Al W I => ⟨a0d I.fa.1 I.fa.2.1, True.intro⟩) fun Al W I => ?_
         refine zo 10 I fun I => ?_
         refine zins I a0c Tryz.underlying5 67 (.agg #[.int .i64 (kN : Int), .bool false, .slice none 0 0, .int .i64 0]) m7_ge (fun Al W I => ⟨a0d I.fa.1 I.fa.2.1, True.intro⟩) fun Al W I => ?_
         refine zk [11] I fun I => ?_
         refine zo 16 I fun I => ?_
         refine zx I 20 (fun _ => .agg #[.int .i64 (pkF f), .bool (pgF f g), .slice (ppF f p12) (plF f (dig B32 m).length) (plF f c12), .int .i64 (peF f)]) (fun Al W I => (a0v a0c Tryz.underlying5 I.fa.1 _ (HF p12 _ c12 _ ⟨_, rfl⟩ ⟨_, rfl⟩ ⟨_, rfl⟩))) fun Al W I => ?_
         refine zo 17 I fun I => ?_
         refine zn I fun Al W I => ?_
         exact a0m I J fun Al W U I => hJ _ _ _ _ _ ⟨U, p12, c12, rfl, rfl, rfl⟩ (I.pick [1])
       refine zins I a0c Tryz.underlying5 67 (.agg #[.int .i64 (kN : Int), .bool false, .slice none 0 0, .int .i64 0]) m7_ge (fun Al W I => ⟨a0d I.fa.1 I.fa.2.1, True.intro⟩) fun Al W I => ?_
       refine zo 7 I fun I => ?_
       refine zins I a0c Tryz.underlying5 66 (.agg #[.int .i64 2, .bool g, .slice p12 (dig B32 m).length c12, .int .i64 f.g.hi]) m7_ge (fun Al W I => ⟨a0d I.fa.1 I.fa.2.1, True.intro⟩) fun Al W I => ?_
       refine zk [11] I fun I => ?_
       refine zo 16 I fun I => ?_
       refine zx I 20 (fun _ => .agg #[.int .i64 (pkF f), .bool (pgF f g), .slice (ppF f p12) (plF f (dig B32 m).length) (plF f c12), .int .i64 (peF f)]) (fun Al W I => (a0v a0c Tryz.underlying5 I.fa.1 _ (HF p12 _ c12 _ ⟨_, rfl⟩ ⟨_, rfl⟩ ⟨_, rfl⟩))) fun Al W I => ?_
       refine zo 17 I fun I => ?_
       refine zn I fun Al W I => ?_
       exact a0m I J fun Al W U I => hJ _ _ _ _ _ ⟨U, p12, c12, rfl, rfl, rfl⟩ (I.pick [1])
     · have I := I.pick [1, 0]
       refine zins I a0c Tryz.underlying5 66 (.agg #[.int .i64 2, .bool g, .slice p12 (dig B32 m).length c12, .int .i64 f.g.hi]) m7_ge (fun Al W I => ⟨a0d I.fa.1 I.fa.2.1, True.intro⟩) fun Al W I => ?_
       refine zo2 3 10 I (fun I => ?_) (fun I => ?_)
       · refine zins I a0c Tryz.underlying5 65 (.agg #[.int .i64 3, .bool g, .slice none 0 0, .int .i64 0]) m7_ge (fun Al W I => ⟨a0d I.fa.1 I.fa.2.1, True.intro⟩) fun Al W I => ?_
         refine zo 10 I fun I => ?_
         refine zins I a0c Tryz.underlying5 67 (.agg #[.int .i64 (kN : Int), .bool false, .slice none 0 0, .int .i64 0]) m7_ge (fun Al W I => ⟨a0d I.fa.1 I.fa.2.1, True.intro⟩) fun Al W I => ?_
         refine zk [11] I fun I => ?_
         refine zo 16 I fun I => ?_
         refine zx I 20 (fun _ => .agg #[.int .i64 (pkF f), .bool (pgF f g), .slice (ppF f p12) (plF f (dig B32 m).length) (plF f c12), .int .i64 (peF f)]) (fun Al W I => (a0v a0c Tryz.underlying5 I.fa.1 _ (HF p12 _ c12 _ ⟨_, rfl⟩ ⟨_, rfl⟩ ⟨_, rfl⟩))) fun Al W I => ?_
         refine zo 17 I fun I => ?_
         refine zn I fun Al W I => ?_
         exact a0m I J fun Al W U I => hJ _ _ _ _ _ ⟨U, p12, c12, rfl, rfl, rfl⟩ (I.pick [1])
       refine zins I a0c Tryz.underlying5 67 (.agg #[.int .i64 (kN : Int), .bool false, .slice none 0 0, .int .i64 0]) m7_ge (fun Al W I => ⟨a0d I.fa.1 I.fa.2.1, True.intro⟩) fun Al W I => ?_
       refine zo 3 I fun I => ?_
       refine zins I a0c Tryz.underlying5 65 (.agg #[.int .i64 3, .bool g, .slice none 0 0, .int .i64 0]) m7_ge (fun Al W I => ⟨a0d I.fa.1 I.fa.2.1, True.intro⟩) fun Al W I => ?_
       refine zk [11] I fun I => ?_
       refine zo 16 I fun I => ?_
       refine zx I 20 (fun _ => .agg #[.int .i64 (pkF f), .bool (pgF f g), .slice (ppF f p12) (plF f (dig B32 m).length) (plF f c12), .int .i64 (peF f)]) (fun Al W I => (a0v a0c Tryz.underlying5 I.fa.1 _ (HF p12 _ c12 _ ⟨_, rfl⟩ ⟨_, rfl⟩ ⟨_, rfl⟩))) fun Al W I => ?_
       refine zo 17 I fun I => ?_
       refine zn I fun Al W I => ?_
       exact a0m I J fun Al W U I => hJ _ _ _ _ _ ⟨U, p12, c12, rfl, rfl, rfl⟩ (I.pick [1])
     have I := I.pick [1, 0]
     refine zins I a0c Tryz.underlying5 67 (.agg #[.int .i64 (kN : Int), .bool false, .slice none 0 0, .int .i64 0]) m7_ge (fun Al W I => ⟨a0d I.fa.1 I.fa.2.1, True.intro⟩) fun Al W I => ?_
     refine zo2 3 7 I (fun I => ?_) (fun I => ?_)
     · refine zins I a0c Tryz.underlying5 65 (.agg #[.int .i64 3, .bool g, .slice none 0 0, .int .i64 0]) m7_ge (fun Al W I => ⟨a0d I.fa.1 I.fa.2.1, True.intro⟩) fun Al W I => ?_
       refine zo 7 I fun I => ?_
       refine zins I a0c Tryz.underlying5 66 (.agg #[.int .i64 2, .bool g, .slice p12 (dig B32 m).length c12, .int .i64 f.g.hi]) m7_ge (fun Al W I => ⟨a0d I.fa.1 I.fa.2.1, True.intro⟩) fun Al W I => ?_
       refine zk [11] I fun I => ?_
       refine zo 16 I fun I => ?_
       refine zx I 20 (fun _ => .agg #[.int .i64 (pkF f), .bool (pgF f g), .slice (ppF f p12) (plF f (dig B32 m).length) (plF f c12), .int .i64 (peF f)]) (fun Al W I => (a0v a0c Tryz.underlying5 I.fa.1 _ (HF p12 _ c12 _ ⟨_, rfl⟩ ⟨_, rfl⟩ ⟨_, rfl⟩))) fun Al W I => ?_
       refine zo 17 I fun I => ?_
       refine zn I fun Al W I => ?_
       exact a0m I J fun Al W U I => hJ _ _ _ _ _ ⟨U, p12, c12, rfl, rfl, rfl⟩ (I.pick [1])
     refine zins I a0c Tryz.underlying5 66 (.agg #[.int .i64 2, .bool g, .slice p12 (dig B32 m).length c12, .int .i64 f.g.hi]) m7_ge (fun Al W I => ⟨a0d I.fa.1 I.fa.2.1, True.intro⟩) fun Al W I => ?_
     refine zo 3 I fun I => ?_
     refine zins I a0c Tryz.underlying5 65 (.agg #[.int .i64 3, .bool g, .slice none 0 0, .int .i64 0]) m7_ge (fun Al W I => ⟨a0d I.fa.1 I.fa.2.1, True.intro⟩) fun Al W I => ?_
     refine zk [11] I fun I => ?_
     refine zo 16 I fun I => ?_
     refine zx I 20 (fun _ => .agg #[.int .i64 (pkF f), .bool (pgF f g), .slice (ppF f p12) (plF f (dig B32 m).length) (plF f c12), .int .i64 (peF f)]) (fun Al W I => (a0v a0c Tryz.underlying5 I.fa.1 _ (HF p12 _ c12 _ ⟨_, rfl⟩ ⟨_, rfl⟩ ⟨_, rfl⟩))) fun Al W I => ?_
     refine zo 17 I fun I => ?_
     refine zn I fun Al W I => ?_
     exact a0m I J fun Al W U I => hJ _ _ _ _ _ ⟨U, p12, c12, rfl, rfl, rfl⟩ (I.pick [1])
   refine zqo I (fun Al W I => (HG W _ (I.box 0 182 _)).out) fun Al W p12 c12 I => ?_
   refine zo2 0 9 I (fun I => ?_) (fun I => ?_)
   · refine zmkm I 209 fun Al W m7_b m7_ge I => ?_
     refine zo3 3 7 9 I (fun I => ?_) (fun I => ?_) (fun I => ?_)
     · refine zins I a0c Tryz.underlying5 65 (.agg #[.int .i64 3, .bool g, .slice none 0 0, .int .i64 0]) m7_ge (fun Al W I => ⟨a0d I.fa.1 I.fa.2.1, True.intro⟩) fun Al W I => ?_
       refine zo2 7 9 I (fun I => ?_) (fun I => ?_)
       · refine zins I a0c Tryz.underlying5 66 (.agg #[.int .i64 2, .bool g, .slice p12 (dig B32 m).length c12, .int .i64 f.g.hi]) m7_ge (fun Al W I => ⟨a0d I.fa.1 I.fa.2.1, True.intro⟩) fun Al W I => ?_
         refine zo 9 I fun I => ?_
         refine zq I (fun Al W I => (HN W _ (I.box 0 182 _)).out) fun Al W I => ?_
         refine zo 10 I fun I => ?_
         refine zins I a0c Tryz.underlying5 67 (.agg #[.int .i64 (kN : Int), .bool false, .slice none 0 0, .int .i64 0]) m7_ge (fun Al W I => ⟨a0d I.fa.1 I.fa.2.1, True.intro⟩) fun Al W I => ?_
         refine zk [11] I fun I => ?_
         refine zo 16 I fun I => ?_
         refine zx I 20 (fun _ => .agg #[.int .i64 (pkF f), .bool (pgF f g), .slice (ppF f p12) (plF f (dig B32 m).length) (plF f c12), .int .i64 (peF f)]) (fun Al W I => (a0v a0c Tryz.underlying5 I.fa.1 _ (HF p12 _ c12 _ ⟨_, rfl⟩ ⟨_, rfl⟩ ⟨_, rfl⟩))) fun Al W I => ?_
         refine zo 17 I fun I => ?_
         refine zn I fun Al W I => ?_
         exact a0m I J fun Al W U I => hJ _ _ _ _ _ ⟨U, p12, c12, rfl, rfl, rfl⟩ (I.pick [1])
       refine zq I (fun Al W I => (HN W _ (I.box 0 182 _)).out) fun Al W I => ?_
       refine zo2 7 10 I (fun I => ?_) (fun I => ?_)
       · refine zins I a0c Tryz.underlying5 66 (.agg #[.int .i64 2, .bool g, .slice p12 (dig B32 m).length c12, .int .i64 f.g.hi]) m7_ge (fun Al W I => ⟨a0d I.fa.1 I.fa.2.1, True.intro⟩) fun Al W I => ?_
         refine zo 10 I fun I => ?_
         refine zins I a0c Tryz.underlying5 67 (.agg #[.int .i64 (kN : Int), .bool false, .slice none 0 0, .int .i64 0]) m7_ge (fun Al W I => ⟨a0d I.fa.1 I.fa.2.1, True.intro⟩) fun Al W I => ?_
         refine zk [11] I fun I => ?_
         refine zo 16 I fun I => ?_
         refine zx I 20 (fun _ => .agg #[.int .i64 (pkF f), .bool (pgF f g), .slice (ppF f p12) (plF f (dig B32 m).length) (plF f c12), .int .i64 (peF f)]) (fun Al W I => (a0v a0c Tryz.underlying5 I.fa.1 _ (HF p12 _ c12 _ ⟨_, rfl⟩ ⟨_, rfl⟩ ⟨_, rfl⟩))) fun Al W I => ?_
         refine zo 17 I fun I => ?_
         refine zn I fun Al W I => ?_
         exact a0m I J fun Al W U I => hJ _ _ _ _ _ ⟨U, p12, c12, rfl, rfl, rfl⟩ (I.pick [1])
       refine zins I a0c Tryz.underlying5 67 (.agg #[.int .i64 (kN : Int), .bool false, .slice none 0 0, .int .i64 0]) m7_ge (fun Al W I => ⟨a0d I.fa.1 I.fa.2.1, True.intro⟩) fun Al W I => ?_
       refine zo 7 I fun I => ?_
       refine zins I a0c Tryz.underlying5 66 (.agg #[.int .i64 2, .bool g, .slice p12 (dig B32 m).length c12, .int .i64 f.g.hi]) m7_ge (fun Al W I => ⟨a0d I.fa.1 I.fa.2.1, True.intro⟩) fun Al W I => ?_
       refine zk [11] I fun I => ?_
       refine zo 16 I fun I => ?_
       refine zx I 20 (fun _ => .agg #[.int .i64 (pkF f), .bool (pgF f g), .slice (ppF f p12) (plF f (dig B32 m).length) (plF f c12), .int .i64 (peF f)]) (fun Al W I => (a0v a0c Tryz.underlying5 I.fa.1 _ (HF p12 _ c12 _ ⟨_, rfl⟩ ⟨_, rfl⟩ ⟨_, rfl⟩))) fun Al W I => ?_
       refine zo 17 I fun I => ?_
       refine zn I fun Al W I => ?_
       exact a0m I J fun Al W U I => hJ _ _ _ _ _ ⟨U, p12, c12, rfl, rfl, rfl⟩ (I.pick [1])
     · refine zins I a0c Tryz.underlying5 66 (.agg #[.int .i64 2, .bool g, .slice p12 (dig B32 m).length c12, .int .i64 f.g.hi]) m7_ge (fun Al W I => ⟨a0d I.fa.1 I.fa.2.1, True.intro⟩) fun Al W I => ?_
       refine zo2 3 9 I (fun I => ?_) (fun I => ?_)
       · refine zins I a0c Tryz.underlying5 65 (.agg #[.int .i64 3, .bool g, .slice none 0 0, .int .i64 0]) m7_ge (fun Al W I => ⟨a0d I.fa.1 I.fa.2.1, True.intro⟩) fun Al W I => ?_
         refine zo 9 I fun I => ?_
         refine zq I (fun Al W I => (HN W _ (I.box 0 182 _)).out) fun Al W I => ?_
         refine zo 10 I fun I => ?_
         refine zins I a0c Tryz.underlying5 67 (.agg #[.int .i64 (kN : Int), .bool false, .slice none 0 0, .int .i64 0]) m7_ge (fun Al W I => ⟨a0d I.fa.1 I.fa.2.1, True.intro⟩) fun Al W I => ?_
         refine zk [11] I fun I => ?_
         refine zo 16 I fun I => ?_
         refine zx I 20 (fun _ => .agg #[.int .i64 (pkF f), .bool (pgF f g), .slice (ppF f p12) (plF f (dig B32 m).length) (plF f c12), .int .i64 (peF f)]) (fun Al W I => (a0v a0c Tryz.underlying5 I.fa.1 _ (HF p12 _ c12 _ ⟨_, rfl⟩ ⟨_, rfl⟩ ⟨_, rfl⟩))) fun Al W I => ?_
         refine zo 17 I fun I => ?_
         refine zn I fun Al W I => ?_
         exact a0m I J fun Al W U I => hJ _ _ _ _ _ ⟨U, p12, c12, rfl, rfl, rfl⟩ (I.pick [1])
       refine zq I (fun Al W I => (HN W _ (I.box 0 182 _)).out) fun Al W I => ?_
       refine zo2 3 10 I (fun I => ?_) (fun I => ?_)
       · refine zins I a0c Tryz.underlying5 65 (.agg #[.int .i64 3, .bool g, .slice none 0 0, .int .i64 0]) m7_ge (fun Al W I => ⟨a0d I.fa.1 I.fa.2.1, True.intro⟩) fun Al W I => ?_
         refine zo 10 I fun I => ?_
         refine zins I a0c Tryz.underlying5 67 (.agg #[.int .i64 (kN : Int), .bool false, .slice none 0 0, .int .i64 0]) m7_ge (fun Al W I => ⟨a0d I.fa.1 I.fa.2.1, True.intro⟩) fun Al W I => ?_
         refine zk [11] I fun I => ?_
         refine zo 16 I fun I => ?_
         refine zx I 20 (fun _ => .agg #[.int .i64 (pkF f), .bool (pgF f g), .slice (ppF f p12) (plF f (dig B32 m).length) (plF f c12), .int .i64 (peF f)]) (fun Al W I => (a0v a0c Tryz.underlying5 I.fa.1 _ (HF p12 _ c12 _ ⟨_, rfl⟩ ⟨_, rfl⟩ ⟨_, rfl⟩))) fun Al W I => ?_
         refine zo 17 I fun I => ?_
         refine zn I fun Al W I => ?_
         exact a0m I J fun Al W U I => hJ _ _ _ _ _ ⟨U, p12, c12, rfl, rfl, rfl⟩ (I.pick [1])
       refine zins I a0c Tryz.underlying5 67 (.agg #[.int .i64 (kN : Int), .bool false, .slice none 0 0, .int .i64 0]) m7_ge (fun Al W I => ⟨a0d I.fa.1 I.fa.2.1, True.intro⟩) fun Al W I => ?_
       refine zo 3 I fun I => ?_
       refine zins I a0c Tryz.underlying5 65 (.agg #[.int .i64 3, .bool g, .slice none 0 0, .int .i64 0]) m7_ge (fun Al W I => ⟨a0d I.fa.1 I.fa.2.1, True.intro⟩) fun Al W I => ?_
       refine zk [11] I fun I => ?_
       refine zo 16 I fun I => ?_
       refine zx I 20 (fun _ => .agg #[.int .i64 (pkF f), .bool (pgF f g), .slice (ppF f p12) (plF f (dig B32 m).length) (plF f c12), .int .i64 (peF f)]) (fun Al W I => (a0v a0c Tryz.underlying5 I.fa.1 _ (HF p12 _ c12 _ ⟨_, rfl⟩ ⟨_, rfl⟩ ⟨_, rfl⟩))) fun Al W I => ?_
       refine zo 17 I fun I => ?_
       refine zn I fun Al W I => ?_
       exact a0m I J fun Al W U I => hJ _ _ _ _ _ ⟨U, p12, c12, rfl, rfl, rfl⟩ (I.pick [1])
     refine zq I (fun Al W I => (HN W _ (I.box 0 182 _)).out) fun Al W I => ?_
     refine zo3 3 7 10 I (fun I => ?_) (fun I => ?_) (fun I => ?_)
     · refine zins I a0c Tryz.underlying5 65 (.agg #[.int .i64 3, .bool g, .slice none 0 0, .int .i64 0]) m7_ge (fun Al W I => ⟨a0d I.fa.1 I.fa.2.1, True.intro⟩) fun Al W I => ?_
       refine zo2 7 10 I (fun I => ?_) (fun I => ?_)
       · refine zins I a0c Tryz.underlying5 66 (.agg #[.int .i64 2, .bool g, .slice p12 (dig B32 m).length c12, .int .i64 f.g.hi]) m7_ge (fun Al W I => ⟨a0d I.fa.1 I.fa.2.1, True.intro⟩) fun Al W I => ?_
         refine zo 10 I fun I => ?_
         refine zins I a0c Tryz.underlying5 67 (.agg #[.int .i64 (kN : Int), .bool false, .slice none 0 0, .int .i64 0]) m7_ge (fun Al W I => ⟨a0d I.fa.1 I.fa.2.1, True.intro⟩) fun Al W I => ?_
         refine zk [11] I fun I => ?_
         refine zo 16 I fun I => ?_
         refine zx I 20 (fun _ => .agg #[.int .i64 (pkF f), .bool (pgF f g), .slice (ppF f p12) (plF f (dig B32 m).length) (plF f c12), .int .i64 (peF f)]) (fun Al W I => (a0v a0c Tryz.underlying5 I.fa.1 _ (HF p12 _ c12 _ ⟨_, rfl⟩ ⟨_, rfl⟩ ⟨_, rfl⟩))) fun Al W I => ?_
         refine zo 17 I fun I => ?_
         refine zn I fun Al W I => ?_
         exact a0m I J fun Al W U I => hJ _ _ _ _ _ ⟨U, p12, c12, rfl, rfl, rfl⟩ (I.pick [1])
       refine zins I a0c Tryz.underlying5 67 (.agg #[.int .i64 (kN : Int), .bool false, .slice none 0 0, .int .i64 0]) m7_ge (fun Al W I => ⟨a0d I.fa.1 I.fa.2.1, True.intro⟩) fun Al W I => ?_
       refine zo 7 I fun I => ?_
       refine zins I a0c Tryz.underlying5 66 (.agg #[.int .i64 2, .bool g, .slice p12 (dig B32 m).length c12, .int .i64 f.g.hi]) m7_ge (fun Al W I => ⟨a0d I.fa.1 I.fa.2.1, True.intro⟩) fun Al W I => ?_
       refine zk [11] I fun I => ?_
       refine zo 16 I fun I => ?_
       refine zx I 20 (fun _ => .agg #[.int .i64 (pkF f), .bool (pgF f g), .slice (ppF f p12) (plF f (dig B32 m).length) (plF f c12), .int .i64 (peF f)]) (fun Al W I => (a0v a0c Tryz.underlying5 I.fa.1 _ (HF p12 _ c12 _ ⟨_, rfl⟩ ⟨_, rfl⟩ ⟨_, rfl⟩))) fun Al W I => ?_
       refine zo 17 I fun I => ?_
       refine zn I fun Al W I => ?_
       exact a0m I J fun Al W U I => hJ _ _ _ _ _ ⟨U, p12, c12, rfl, rfl, rfl⟩ (I.pick [1])
     · refine zins I a0c Tryz.underlying5 66 (.agg #[.int .i64 2, .bool g, .slice p12 (dig B32 m).length c12, .int .i64 f.g.hi]) m7_ge (fun Al W I => ⟨a0d I.fa.1 I.fa.2.1, True.intro⟩) fun Al W I => ?_
       refine zo2 3 10 I (fun I => ?_) (fun I => ?_)
       · refine zins I a0c Tryz.underlying5 65 (.agg #[.int .i64 3, .bool g, .slice none 0 0, .int .i64 0]) m7_ge (fun Al W I => ⟨a0d I.fa.1 I.fa.2.1, True.intro⟩) fun Al W I => ?_
         refine zo 10 I fun I => ?_
         refine zins I a0c Tryz.underlying5 67 (.agg #[.int .i64 (kN : Int), .bool false, .slice none 0 0, .int .i64 0]) m7_ge (fun Al W I => ⟨a0d I.fa.1 I.fa.2.1, True.intro⟩) fun Al W I => ?_
         refine zk [11] I fun I => ?_
         refine zo 16 I fun I => ?_
         refine zx I 20 (fun _ => .agg #[.int .i64 (pkF f), .bool (pgF f g), .slice (ppF f p12) (plF f (dig B32 m).length) (plF f c12), .int .i64 (peF f)]) (fun Al W I => (a0v a0c Tryz.underlying5 I.fa.1 _ (HF p12 _ c12 _ ⟨_, rfl⟩ ⟨_, rfl⟩ ⟨_, rfl⟩))) fun Al W I => ?_
         refine zo 17 I fun I => ?_
         refine zn I fun Al W I => ?_
         exact a0m I J fun Al W U I => hJ _ _ _ _ _ ⟨U, p12, c12, rfl, rfl, rfl⟩ (I.pick [1])
       refine zins I a0c Tryz.underlying5 67 (.agg #[.int .i64 (kN : Int), .bool false, .slice none 0 0, .int .i64 0]) m7_ge (fun Al W I => ⟨a0d I.fa.1 I.fa.2.1, True.intro⟩) fun Al W I => ?_
       refine zo 3 I fun I => ?_
       refine zins I a0c Tryz.underlying5 65 (.agg #[.int .i64 3, .bool g, .slice none 0 0, .int .i64 0]) m7_ge (fun Al W I => ⟨a0d I.fa.1 I.fa.2.1, True.intro⟩) fun Al W I => ?_
       refine zk [11] I fun I => ?_
       refine zo 16 I fun I => ?_
       refine zx I 20 (fun _ => .agg #[.int .i64 (pkF f), .bool (pgF f g), .slice (ppF f p12) (plF f (dig B32 m).length) (plF f c12), .int .i64 (peF f)]) (fun Al W I => (a0v a0c Tryz.underlying5 I.fa.1 _ (HF p12 _ c12 _ ⟨_, rfl⟩ ⟨_, rfl⟩ ⟨_, rfl⟩))) fun Al W I => ?_
       refine zo 17 I fun I => ?_
       refine zn I fun Al W I => ?_
       exact a0m I J fun Al W U I => hJ _ _ _ _ _ ⟨U, p12, c12, rfl, rfl, rfl⟩ (I.pick [1])
     refine zins I a0c Tryz.underlying5 67 (.agg #[.int .i64 (kN : Int), .bool false, .slice none 0 0, .int .i64 0]) m7_ge (fun Al W I => ⟨a0d I.fa.1 I.fa.2.1, True.intro⟩) fun Al W I => ?_
     refine zo2 3 7 I (fun I => ?_) (fun I => ?_)
     · refine zins I a0c Tryz.underlying5 65 (.agg #[.int .i64 3, .bool g, .slice none 0 0, .int .i64 0]) m7_ge (fun Al W I => ⟨a0d I.fa.1 I.fa.2.1, True.intro⟩) fun Al W I => ?_
       refine zo 7 I fun I => ?_
       refine zins I a0c Tryz.underlying5 66 (.agg #[.int .i64 2, .bool g, .slice p12 (dig B32 m).length c12, .int .i64 f.g.hi]) m7_ge (fun Al W I => ⟨a0d I.fa.1 I.fa.2.1, True.intro⟩) fun Al W I => ?_
       refine zk [11] I fun I => ?_
       refine zo 16 I fun I => ?_
       refine zx I 20 (fun _ => .agg #[.int .i64 (pkF f), .bool (pgF f g), .slice (ppF f p12) (plF f (dig B32 m).length) (plF f c12), .int .i64 (peF f)]) (fun Al W I => (a0v a0c Tryz.underlying5 I.fa.1 _ (HF p12 _ c12 _ ⟨_, rfl⟩ ⟨_, rfl⟩ ⟨_, rfl⟩))) fun Al W I => ?_
       refine zo 17 I fun I => ?_
       refine zn I fun Al W I => ?_
       exact a0m I J fun Al W U I => hJ _ _ _ _ _ ⟨U, p12, c12, rfl, rfl, rfl⟩ (I.pick [1])
     refine zins I a0c Tryz.underlying5 66 (.agg #[.int .i64 2, .bool g, .slice p12 (dig B32 m).length c12, .int .i64 f.g.hi]) m7_ge (fun Al W I => ⟨a0d I.fa.1 I.fa.2.1, True.intro⟩) fun Al W I => ?_
     refine zo 3 I fun I => ?_
     refine zins I a0c Tryz.underlying5 65 (.agg #[.int .i64 3, .bool g, .slice none 0 0, .int .i64 0]) m7_ge (fun Al W I => ⟨a0d I.fa.1 I.fa.2.1, True.intro⟩) fun Al W I => ?_
     refine zk [11] I fun I => ?_
     refine zo 16 I fun I => ?_
     refine zx I 20 (fun _ => .agg #[.int .i64 (pkF f), .bool (pgF f g), .slice (ppF f p12) (plF f (dig B32 m).length) (plF f c12), .int .i64 (peF f)]) (fun Al W I => (a0v a0c Tryz.underlying5 I.fa.1 _ (HF p12 _ c12 _ ⟨_, rfl⟩ ⟨_, rfl⟩ ⟨_, rfl⟩))) fun Al W I => ?_
     refine zo 17 I fun I => ?_
     refine zn I fun Al W I => ?_
     exact a0m I J fun Al W U I => hJ _ _ _ _ _ ⟨U, p12, c12, rfl, rfl, rfl⟩ (I.pick [1])
   refine zq I (fun Al W I => (HN W _ (I.box 0 182 _)).out) fun Al W I => ?_
   refine zo 0 I fun I => ?_
   refine zmkm I 209 fun Al W m7_b m7_ge I => ?_
   refine zo3 3 7 10 I (fun I => ?_) (fun I => ?_) (fun I => ?_)
   · refine zins I a0c Tryz.underlying5 65 (.agg #[.int .i64 3, .bool g, .slice none 0 0, .int .i64 0]) m7_ge (fun Al W I => ⟨a0d I.fa.1 I.fa.2.1, True.intro⟩) fun Al W I => ?_
     refine zo2 7 10 I (fun I => ?_) (fun I => ?_)
     · refine zins I a0c Tryz.underlying5 66 (.agg #[.int .i64 2, .bool g, .slice p12 (dig B32 m).length c12, .int .i64 f.g.hi]) m7_ge (fun Al W I => ⟨a0d I.fa.1 I.fa.2.1, True.intro⟩) fun Al W I => ?_
       refine zo 10 I fun I => ?_
       refine zins I a0c Tryz.underlying5 67 (.agg #[.int .i64 (kN : Int), .bool false, .slice none 0 0, .int .i64 0]) m7_ge (fun Al W I => ⟨a0d I.fa.1 I.fa.2.1, True.intro⟩) fun Al W I => ?_
       refine zk [11] I fun I => ?_
       refine zo 16 I fun I => ?_
       refine zx I 20 (fun _ => .agg #[.int .i64 (pkF f), .bool (pgF f g), .slice (ppF f p12) (plF f (dig B32 m).length) (plF f c12), .int .i64 (peF f)]) (fun Al W I => (a0v a0c Tryz.underlying5 I.fa.1 _ (HF p12 _ c12 _ ⟨_, rfl⟩ ⟨_, rfl⟩ ⟨_, rfl⟩))) fun Al W I => ?_
       refine zo 17 I fun I => ?_
       refine zn I fun Al W I => ?_
       exact a0m I J fun Al W U I => hJ _ _ _ _ _ ⟨U, p12, c12, rfl, rfl, rfl⟩ (I.pick [1])
     refine zins I a0c Tryz.underlying5 67 (.agg #[.int .i64 (kN : Int), .bool false, .slice none 0 0, .int .i64 0]) m7_ge (fun Al W I => ⟨a0d I.fa.1 I.fa.2.1, True.intro⟩) fun Al W I => ?_
     refine zo 7 I fun I => ?_
     refine zins I a0c Tryz.underlying5 66 (.agg #[.int .i64 2, .bool g, .slice p12 (dig B32 m).length c12, .int .i64 f.g.hi]) m7_ge (fun Al W I => ⟨a0d I.fa.1 I.fa.2.1, True.intro⟩) fun Al W I => ?_
     refine zk [11] I fun I => ?_
     refine zo 16 I fun I => ?_
     refine zx I 20 (fun _ => .agg #[.int .i64 (pkF f), .bool (pgF f g), .slice (ppF f p12) (plF f (dig B32 m).length) (plF f c12), .int .i64 (peF f)]) (fun Al W I => (a0v a0c Tryz.underlying5 I.fa.1 _ (HF p12 _ c12 _ ⟨_, rfl⟩ ⟨_, rfl⟩ ⟨_, rfl⟩))) fun Al W I => ?_
     refine zo 17 I fun I => ?_
     refine zn I fun Al W I => ?_
     exact a0m I J fun Al W U I => hJ _ _ _ _ _ ⟨U, p12, c12, rfl, rfl, rfl⟩ (I.pick [1])
   · refine zins I a0c Tryz.underlying5 66 (.agg #[.int .i64 2, .bool g, .slice p12 (dig B32 m).length c12, .int .i64 f.g.hi]) m7_ge (fun Al W I => ⟨a0d I.fa.1 I.fa.2.1, True.intro⟩) fun Al W I => ?_
     refine zo2 3 10 I (fun I => ?_) (fun I => ?_)
     · refine zins I a0c Tryz.underlying5 65 (.agg #[.int .i64 3, .bool g, .slice none 0 0, .int .i64 0]) m7_ge (fun Al W I => ⟨a0d I.fa.1 I.fa.2.1, True.intro⟩) fun Al W I => ?_
       refine zo 10 I fun I => ?_
       refine zins I a0c Tryz.underlying5 67 (.agg #[.int .i64 (kN : Int), .bool false, .slice none 0 0, .int .i64 0]) m7_ge (fun Al W I => ⟨a0d I.fa.1 I.fa.2.1, True.intro⟩) fun Al W I => ?_
       refine zk [11] I fun I => ?_
       refine zo 16 I fun I => ?_
       refine zx I 20 (fun _ => .agg #[.int .i64 (pkF f), .bool (pgF f g), .slice (ppF f p12) (plF f (dig B32 m).length) (plF f c12), .int .i64 (peF f)]) (fun Al W I => (a0v a0c Tryz.underlying5 I.fa.1 _ (HF p12 _ c12 _ ⟨_, rfl⟩ ⟨_, rfl⟩ ⟨_, rfl⟩))) fun Al W I => ?_
       refine zo 17 I fun I => ?_
       refine zn I fun Al W I => ?_
       exact a0m I J fun Al W U I => hJ _ _ _ _ _ ⟨U, p12, c12, rfl, rfl, rfl⟩ (I.pick [1])
     refine zins I a0c Tryz.underlying5 67 (.agg #[.int .i64 (kN : Int), .bool false, .slice none 0 0, .int .i64 0]) m7_ge (fun Al W I => ⟨a0d I.fa.1 I.fa.2.1, True.intro⟩) fun Al W I => ?_
     refine zo 3 I fun I => ?_
     refine zins I a0c Tryz.underlying5 65 (.agg #[.int .i64 3, .bool g, .slice none 0 0, .int .i64 0]) m7_ge (fun Al W I => ⟨a0d I.fa.1 I.fa.2.1, True.intro⟩) fun Al W I => ?_
     refine zk [11] I fun I => ?_
     refine zo 16 I fun I => ?_
     refine zx I 20 (fun _ => .agg #[.int .i64 (pkF f), .bool (pgF f g), .slice (ppF f p12) (plF f (dig B32 m).length) (plF f c12), .int .i64 (peF f)]) (fun Al W I => (a0v a0c Tryz.underlying5 I.fa.1 _ (HF p12 _ c12 _ ⟨_, rfl⟩ ⟨_, rfl⟩ ⟨_, rfl⟩))) fun Al W I => ?_
     refine zo 17 I fun I => ?_
     refine zn I fun Al W I => ?_
     exact a0m I J fun Al W U I => hJ _ _ _ _ _ ⟨U, p12, c12, rfl, rfl, rfl⟩ (I.pick [1])
   refine zins I a0c Tryz.underlying5 67 (.agg #[.int .i64 (kN : Int), .bool false, .slice none 0 0, .int .i64 0]) m7_ge (fun Al W I => ⟨a0d I.fa.1 I.fa.2.1, True.intro⟩) fun Al W I => ?_
   refine zo2 3 7 I (fun I => ?_) (fun I => ?_)
   · refine zins I a0c Tryz.underlying5 65 (.agg #[.int .i64 3, .bool g, .slice none 0 0, .int .i64 0]) m7_ge (fun Al W I => ⟨a0d I.fa.1 I.fa.2.1, True.intro⟩) fun Al W I => ?_
     refine zo 7 I fun I => ?_
     refine zins I a0c Tryz.underlying5 66 (.agg #[.int .i64 2, .bool g, .slice p12 (dig B32 m).length c12, .int .i64 f.g.hi]) m7_ge (fun Al W I => ⟨a0d I.fa.1 I.fa.2.1, True.intro⟩) fun Al W I => ?_
     refine zk [11] I fun I => ?_
     refine zo 16 I fun I => ?_
     refine zx I 20 (fun _ => .agg #[.int .i64 (pkF f), .bool (pgF f g), .slice (ppF f p12) (plF f (dig B32 m).length) (plF f c12), .int .i64 (peF f)]) (fun Al W I => (a0v a0c Tryz.underlying5 I.fa.1 _ (HF p12 _ c12 _ ⟨_, rfl⟩ ⟨_, rfl⟩ ⟨_, rfl⟩))) fun Al W I => ?_
     refine zo 17 I fun I => ?_
     refine zn I fun Al W I => ?_
     exact a0m I J fun Al W U I => hJ _ _ _ _ _ ⟨U, p12, c12, rfl, rfl, rfl⟩ (I.pick [1])
   refine zins I a0c Tryz.underlying5 66 (.agg #[.int .i64 2, .bool g, .slice p12 (dig B32 m).length c12, .int .i64 f.g.hi]) m7_ge (fun Al W I => ⟨a0d I.fa.1 I.fa.2.1, True.intro⟩) fun Al W I => ?_
   refine zo 3 I fun I => ?_
   refine zins I a0c Tryz.underlying5 65 (.agg #[.int .i64 3, .bool g, .slice none 0 0, .int .i64 0]) m7_ge (fun Al W I => ⟨a0d I.fa.1 I.fa.2.1, True.intro⟩) fun Al W I => ?_
   refine zk [11] I fun I => ?_
   refine zo 16 I fun I => ?_
   refine zx I 20 (fun _ => .agg #[.int .i64 (pkF f), .bool (pgF f g), .slice (ppF f p12) (plF f (dig B32 m).length) (plF f c12), .int .i64 (peF f)]) (fun Al W I => (a0v a0c Tryz.underlying5 I.fa.1 _ (HF p12 _ c12 _ ⟨_, rfl⟩ ⟨_, rfl⟩ ⟨_, rfl⟩))) fun Al W I => ?_
   refine zo 17 I fun I => ?_
   refine zn I fun Al W I => ?_
   exact a0m I J fun Al W U I => hJ _ _ _ _ _ ⟨U, p12, c12, rfl, rfl, rfl⟩ (I.pick [1])
 rintro _ _ _ ⟨U1, p12, c12, rfl, rfl, rfl⟩ Al W I
 exact zret I fun Al W I => HE _ p12 c12 I.fa.1 I.bel (I.boxE 182 _)
theorem m1e (f : Fm) (n way : Int) (a b : Vp) (ra rb : Vr) (base u : Nat) (w : World) (U : Bt w u 182 #[.int .i64 n, .int .i64 way, .int .i64 f.g.rad, .int .i64 f.g.digs, .int .i64 f.g.lo, .int .i64 f.g.hi, .bool f.g.grad, .int .u8 (famB f), .int .i64 0]) (oa : Own w base .u32 141 a.p a.c (dig B32 a.v.d)) (ob : Own w base .u32 141 b.p b.c (dig B32 b.v.d)) (hb : base ≤ w.heap.size)
 (A1 : AtV f a ra) (B1 : AtV f b rb) (G : b0g f) (hw : 1 ≤ way ∧ way ≤ 5) (hT : TabW w) :
 Calls Tryz.prog 48 #[.pointer (some ⟨u, 0, none⟩), .agg #[.int .i64 (a.v.cls : Int), .bool a.v.neg, .slice a.p (dig B32 a.v.d).length a.c, .int .i64 a.v.pow], .agg #[.int .i64 (b.v.cls : Int), .bool b.v.neg, .slice b.p (dig B32 b.v.d).length b.c, .int .i64 b.v.pow]] w (d0c f n way u w base (f.divM ra rb way)) := by
 have hM : f.divM ra rb way = if 4 ≤ a.v.cls ∨ 4 ≤ b.v.cls then f.offM else if (a.v.cls = 3 ∧ b.v.cls = 3) ∨ (a.v.cls = 1 ∧ b.v.cls = 1) then f.lostM else if a.v.cls = 3 then (infM (a.v.neg != b.v.neg), 0) else if b.v.cls = 3 ∨ a.v.cls = 1 then (f.zeroM (a.v.neg != b.v.neg), 0) else if b.v.cls = 1 then f.poleM (a.v.neg != b.v.neg) else f.placedM (a0s (a.v.neg != b.v.neg) ra.x.m rb.x.m (ra.x.e - rb.x.e) f.g way) way := by
  unfold Fm.divM; rw [A1.rep.cls, B1.rep.cls, A1.rep.neg, B1.rep.neg]
 have hca : a.v.cls ≤ 5 := by rw [A1.rep.cls]; exact A1.ok.c.2
 have hcb : b.v.cls ≤ 5 := by rw [B1.rep.cls]; exact B1.ok.c.2
 have hca1 : 1 ≤ a.v.cls := by rw [A1.rep.cls]; exact A1.ok.c.1
 have hcb1 : 1 ≤ b.v.cls := by rw [B1.rep.cls]; exact B1.ok.c.1
 have hpa : a.v.cls = 2 → 0 < ra.x.m := fun h => by have := (A1.ok.x2 (by rw [← A1.rep.cls]; exact h)).1; omega
 have hpb : b.v.cls = 2 → 0 < rb.x.m := fun h => by have := (B1.ok.x2 (by rw [← B1.rep.cls]; exact h)).1; omega
 have HY := fun W b0 u h1 h2 h3 => hi0 (m0r f n way [a, b] b0 2 u W h1 h2 rfl (by simp) (by simp [hca, hcb]) G h3)
 have HN := fun W b0 u h1 h2 h3 => hi0 (r0e f n way 0 [a, b] b0 2 u W h1 h2 rfl (by simp) h3)
 have HL := fun W u h1 => hi0 (t0e f n way u W h1)
 have HZ := fun W u h1 => hi0 (n0u f n way 0 (a.v.neg != b.v.neg) u W h1)
 have HPo := fun W u h1 => hi0 (k1z f n way (a.v.neg != b.v.neg) u W h1 G)
 have HA := fun W u h1 h2 h3 => hi0 (m0y f n way 0 a.v ra a.p a.c base u W h1 h2 A1.rep A1.ok h3)
 have HB := fun W u h1 h2 h3 => hi0 (m0y f n way 0 b.v rb b.p b.c base u W h1 h2 B1.rep B1.ok h3)
 have l1 := A1.ok.len
 have l2 := B1.ok.len
 have l3 := A1.ok.lo
 have l4 := A1.ok.hi
 have l5 := B1.ok.lo
 have l6 := B1.ok.hi
 have HF := fun W p q c d u h1 h2 h3 h4 h5 => hi0 (k1u f n way (a.v.neg != b.v.neg) p q c d ra.x.m rb.x.m (ra.x.e - rb.x.e) u W h1 h2 h3 (by omega) (by omega) h4 h5 (by omega) G hw)
 have HV := fun h => (h0s G (neg := a.v.neg != b.v.neg) (num := ra.x.m) (den := rb.x.m) (e := ra.x.e - rb.x.e) (way := way) h).2
 have hoffm : f.offM = (⟨f.nothM.cls, false, vz⟩, f.offM.2) := rfl
 have hk2 := f0n G
 have hlostm : f.lostM = (⟨f.nothM.cls, false, vz⟩, 16) := rfl
 obtain ⟨rS, flS, hS⟩ : ∃ rS flS, f.placedM (a0s (a.v.neg != b.v.neg) ra.x.m rb.x.m (ra.x.e - rb.x.e) f.g way) way = (rS, flS) := ⟨_, _, rfl⟩
 rw [hS] at HF HV hM
 simp only at HF HV
 generalize f.placedV (a0s (a.v.neg != b.v.neg) ra.x.m rb.x.m (ra.x.e - rb.x.e) f.g way) way = vS at *
 obtain ⟨rP, flP, hP⟩ : ∃ rP flP, f.poleM (a.v.neg != b.v.neg) = (rP, flP) := ⟨_, _, rfl⟩
 rw [hP] at HPo hM
 generalize f.divM ra rb way = R at *
 generalize f.offM.2 = flo at *
 generalize f.nothM.cls = kN at *
 generalize hng : (a.v.neg != b.v.neg) = ng at *
 have HNG := hi0 hng
 clear hng hS hP
 have I := Inv.startW w u 182 (uS f n way 0) [ownF base .u32 141 a.p a.c (dig B32 a.v.d), ownF base .u32 141 b.p b.c (dig B32 b.v.d), tabF] U ⟨oa, ob, hT, True.intro⟩ ⟨fun hf => oa.far U (by kernel_rfl) hf.1 hf.2, fun hf => ob.far U (by kernel_rfl) hf.1 hf.2, fun hf => hT.far U (by kernel_rfl) hf, True.intro⟩
 refine a0g [.p 0 0, .v (.agg #[.int .i64 (a.v.cls : Int), .bool a.v.neg, .slice a.p (dig B32 a.v.d).length a.c, .int .i64 a.v.pow]), .v (.agg #[.int .i64 (b.v.cls : Int), .bool b.v.neg, .slice b.p (dig B32 b.v.d).length b.c, .int .i64 b.v.pow])] I Tryz.func48 ?_
 by_cases hof : 4 ≤ a.v.cls ∨ 4 ≤ b.v.cls
 · refine zge I 0 182 (fun Al W I => (HY W _ _ (I.box 0 182 _) (I.box 4 75 _) (by simpa using hof)).out) fun Al V Iv _ _ kz => ?_
   rintro _ W ⟨rfl, hO, hB⟩
   refine ⟨_, rfl, kz _ (uS f n way (flo : Int)) _ hO hB fun I => ?_⟩
   rw [hM, if_pos hof, hoffm]
   exact zret I fun Al W I => a0e hk2 rfl I.bel (I.boxE 182 _)
 refine zq I (fun Al W I => have hzW := I.bel.size; (HN W _ _ (I.box 0 182 _) (I.box 4 75 _) (by simp only [List.mem_cons, List.mem_nil_iff, or_false]; rintro x (rfl | rfl) <;> omega)).out) fun Al W I => ?_
 refine zb I 26 (a.v.neg != b.v.neg) (ng) (HNG.out) fun Al W I => ?_
 by_cases ia : a.v.cls = 3
 · by_cases ib : b.v.cls = 3
   · by_cases za : a.v.cls = 1
     · by_cases zb : b.v.cls = 1
       · refine zqd I (fun Al W I => a0a a.v.cls a.v.neg a.p (dig B32 a.v.d).length a.c a.v.pow W) (dTr ia) fun Al W I => ?_
         refine zqd I (fun Al W I => a0a b.v.cls b.v.neg b.p (dig B32 b.v.d).length b.c b.v.pow W) (dTr ib) fun Al W I => ?_
         refine zge I 0 182 (fun Al W I => (HL W _ (I.box 0 182 _)).out) fun Al V Iv _ _ kz => ?_
         rintro _ W ⟨rfl, hO, hB⟩
         refine ⟨_, rfl, kz _ (uS f n way 16) _ hO hB fun I => ?_⟩
         rw [hM, if_neg hof, if_pos (by omega), hlostm]
         exact zret I fun Al W I => a0e hk2 rfl I.bel (I.boxE 182 _)
       refine zqd I (fun Al W I => a0a a.v.cls a.v.neg a.p (dig B32 a.v.d).length a.c a.v.pow W) (dTr ia) fun Al W I => ?_
       refine zqd I (fun Al W I => a0a b.v.cls b.v.neg b.p (dig B32 b.v.d).length b.c b.v.pow W) (dTr ib) fun Al W I => ?_
       refine zge I 0 182 (fun Al W I => (HL W _ (I.box 0 182 _)).out) fun Al V Iv _ _ kz => ?_
       rintro _ W ⟨rfl, hO, hB⟩
       refine ⟨_, rfl, kz _ (uS f n way 16) _ hO hB fun I => ?_⟩
       rw [hM, if_neg hof, if_pos (by omega), hlostm]
       exact zret I fun Al W I => a0e hk2 rfl I.bel (I.boxE 182 _)
     by_cases zb : b.v.cls = 1
     · refine zqd I (fun Al W I => a0a a.v.cls a.v.neg a.p (dig B32 a.v.d).length a.c a.v.pow W) (dTr ia) fun Al W I => ?_
       refine zqd I (fun Al W I => a0a b.v.cls b.v.neg b.p (dig B32 b.v.d).length b.c b.v.pow W) (dTr ib) fun Al W I => ?_
       refine zge I 0 182 (fun Al W I => (HL W _ (I.box 0 182 _)).out) fun Al V Iv _ _ kz => ?_
       rintro _ W ⟨rfl, hO, hB⟩
       refine ⟨_, rfl, kz _ (uS f n way 16) _ hO hB fun I => ?_⟩
       rw [hM, if_neg hof, if_pos (by omega), hlostm]
       exact zret I fun Al W I => a0e hk2 rfl I.bel (I.boxE 182 _)
     refine zqd I (fun Al W I => a0a a.v.cls a.v.neg a.p (dig B32 a.v.d).length a.c a.v.pow W) (dTr ia) fun Al W I => ?_
     refine zqd I (fun Al W I => a0a b.v.cls b.v.neg b.p (dig B32 b.v.d).length b.c b.v.pow W) (dTr ib) fun Al W I => ?_
     refine zge I 0 182 (fun Al W I => (HL W _ (I.box 0 182 _)).out) fun Al V Iv _ _ kz => ?_
     rintro _ W ⟨rfl, hO, hB⟩
     refine ⟨_, rfl, kz _ (uS f n way 16) _ hO hB fun I => ?_⟩
     rw [hM, if_neg hof, if_pos (by omega), hlostm]
     exact zret I fun Al W I => a0e hk2 rfl I.bel (I.boxE 182 _)
   by_cases za : a.v.cls = 1
   · by_cases zb : b.v.cls = 1
     · refine zqd I (fun Al W I => a0a a.v.cls a.v.neg a.p (dig B32 a.v.d).length a.c a.v.pow W) (dTr ia) fun Al W I => ?_
       refine zqd I (fun Al W I => a0a b.v.cls b.v.neg b.p (dig B32 b.v.d).length b.c b.v.pow W) (dFa ib) fun Al W I => ?_
       refine zqd I (fun Al W I => a0i a.v.cls a.v.neg a.p (dig B32 a.v.d).length a.c a.v.pow W) (dTr za) fun Al W I => ?_
       refine zqd I (fun Al W I => a0i b.v.cls b.v.neg b.p (dig B32 b.v.d).length b.c b.v.pow W) (dTr zb) fun Al W I => ?_
       refine zge I 0 182 (fun Al W I => (HL W _ (I.box 0 182 _)).out) fun Al V Iv _ _ kz => ?_
       rintro _ W ⟨rfl, hO, hB⟩
       refine ⟨_, rfl, kz _ (uS f n way 16) _ hO hB fun I => ?_⟩
       rw [hM, if_neg hof, if_pos (by omega), hlostm]
       exact zret I fun Al W I => a0e hk2 rfl I.bel (I.boxE 182 _)
     refine zqd I (fun Al W I => a0a a.v.cls a.v.neg a.p (dig B32 a.v.d).length a.c a.v.pow W) (dTr ia) fun Al W I => ?_
     refine zqd I (fun Al W I => a0a b.v.cls b.v.neg b.p (dig B32 b.v.d).length b.c b.v.pow W) (dFa ib) fun Al W I => ?_
     refine zqd I (fun Al W I => a0i a.v.cls a.v.neg a.p (dig B32 a.v.d).length a.c a.v.pow W) (dTr za) fun Al W I => ?_
     refine zqd I (fun Al W I => a0i b.v.cls b.v.neg b.p (dig B32 b.v.d).length b.c b.v.pow W) (dFa zb) fun Al W I => ?_
     refine zqd I (fun Al W I => a0a a.v.cls a.v.neg a.p (dig B32 a.v.d).length a.c a.v.pow W) (dTr ia) fun Al W I => ?_
     refine zq I (fun Al W I => e0q ng W) fun Al W I => ?_
     rw [hM, if_neg hof, if_neg (by omega), if_pos ia]
     exact zret I fun Al W I => a0e (k := 3) (by decide) rfl I.bel (I.boxE 182 _)
   by_cases zb : b.v.cls = 1
   · refine zqd I (fun Al W I => a0a a.v.cls a.v.neg a.p (dig B32 a.v.d).length a.c a.v.pow W) (dTr ia) fun Al W I => ?_
     refine zqd I (fun Al W I => a0a b.v.cls b.v.neg b.p (dig B32 b.v.d).length b.c b.v.pow W) (dFa ib) fun Al W I => ?_
     refine zqd I (fun Al W I => a0i a.v.cls a.v.neg a.p (dig B32 a.v.d).length a.c a.v.pow W) (dFa za) fun Al W I => ?_
     refine zqd I (fun Al W I => a0a a.v.cls a.v.neg a.p (dig B32 a.v.d).length a.c a.v.pow W) (dTr ia) fun Al W I => ?_
     refine zq I (fun Al W I => e0q ng W) fun Al W I => ?_
     rw [hM, if_neg hof, if_neg (by omega), if_pos ia]
     exact zret I fun Al W I => a0e (k := 3) (by decide) rfl I.bel (I.boxE 182 _)
   refine zqd I (fun Al W I => a0a a.v.cls a.v.neg a.p (dig B32 a.v.d).length a.c a.v.pow W) (dTr ia) fun Al W I => ?_
   refine zqd I (fun Al W I => a0a b.v.cls b.v.neg b.p (dig B32 b.v.d).length b.c b.v.pow W) (dFa ib) fun Al W I => ?_
   refine zqd I (fun Al W I => a0i a.v.cls a.v.neg a.p (dig B32 a.v.d).length a.c a.v.pow W) (dFa za) fun Al W I => ?_
   refine zqd I (fun Al W I => a0a a.v.cls a.v.neg a.p (dig B32 a.v.d).length a.c a.v.pow W) (dTr ia) fun Al W I => ?_
   refine zq I (fun Al W I => e0q ng W) fun Al W I => ?_
   rw [hM, if_neg hof, if_neg (by omega), if_pos ia]
   exact zret I fun Al W I => a0e (k := 3) (by decide) rfl I.bel (I.boxE 182 _)
 by_cases ib : b.v.cls = 3
 · by_cases za : a.v.cls = 1
   · by_cases zb : b.v.cls = 1
     · refine zqd I (fun Al W I => a0a a.v.cls a.v.neg a.p (dig B32 a.v.d).length a.c a.v.pow W) (dFa ia) fun Al W I => ?_
       refine zqd I (fun Al W I => a0i a.v.cls a.v.neg a.p (dig B32 a.v.d).length a.c a.v.pow W) (dTr za) fun Al W I => ?_
       refine zqd I (fun Al W I => a0i b.v.cls b.v.neg b.p (dig B32 b.v.d).length b.c b.v.pow W) (dTr zb) fun Al W I => ?_
       refine zge I 0 182 (fun Al W I => (HL W _ (I.box 0 182 _)).out) fun Al V Iv _ _ kz => ?_
       rintro _ W ⟨rfl, hO, hB⟩
       refine ⟨_, rfl, kz _ (uS f n way 16) _ hO hB fun I => ?_⟩
       rw [hM, if_neg hof, if_pos (by omega), hlostm]
       exact zret I fun Al W I => a0e hk2 rfl I.bel (I.boxE 182 _)
     refine zqd I (fun Al W I => a0a a.v.cls a.v.neg a.p (dig B32 a.v.d).length a.c a.v.pow W) (dFa ia) fun Al W I => ?_
     refine zqd I (fun Al W I => a0i a.v.cls a.v.neg a.p (dig B32 a.v.d).length a.c a.v.pow W) (dTr za) fun Al W I => ?_
     refine zqd I (fun Al W I => a0i b.v.cls b.v.neg b.p (dig B32 b.v.d).length b.c b.v.pow W) (dFa zb) fun Al W I => ?_
     refine zqd I (fun Al W I => a0a a.v.cls a.v.neg a.p (dig B32 a.v.d).length a.c a.v.pow W) (dFa ia) fun Al W I => ?_
     refine zqd I (fun Al W I => a0a b.v.cls b.v.neg b.p (dig B32 b.v.d).length b.c b.v.pow W) (dTr ib) fun Al W I => ?_
     refine zq I (fun Al W I => (HZ W _ (I.box 0 182 _)).out) fun Al W I => ?_
     rw [hM, if_neg hof, if_neg (by omega), if_neg (by omega), if_pos (by omega)]
     exact zret I fun Al W I => a0e (k := 1) (by decide) rfl I.bel (I.boxE 182 _)
   by_cases zb : b.v.cls = 1
   · refine zqd I (fun Al W I => a0a a.v.cls a.v.neg a.p (dig B32 a.v.d).length a.c a.v.pow W) (dFa ia) fun Al W I => ?_
     refine zqd I (fun Al W I => a0i a.v.cls a.v.neg a.p (dig B32 a.v.d).length a.c a.v.pow W) (dFa za) fun Al W I => ?_
     refine zqd I (fun Al W I => a0a a.v.cls a.v.neg a.p (dig B32 a.v.d).length a.c a.v.pow W) (dFa ia) fun Al W I => ?_
     refine zqd I (fun Al W I => a0a b.v.cls b.v.neg b.p (dig B32 b.v.d).length b.c b.v.pow W) (dTr ib) fun Al W I => ?_
     refine zq I (fun Al W I => (HZ W _ (I.box 0 182 _)).out) fun Al W I => ?_
     rw [hM, if_neg hof, if_neg (by omega), if_neg (by omega), if_pos (by omega)]
     exact zret I fun Al W I => a0e (k := 1) (by decide) rfl I.bel (I.boxE 182 _)
   refine zqd I (fun Al W I => a0a a.v.cls a.v.neg a.p (dig B32 a.v.d).length a.c a.v.pow W) (dFa ia) fun Al W I => ?_
   refine zqd I (fun Al W I => a0i a.v.cls a.v.neg a.p (dig B32 a.v.d).length a.c a.v.pow W) (dFa za) fun Al W I => ?_
   refine zqd I (fun Al W I => a0a a.v.cls a.v.neg a.p (dig B32 a.v.d).length a.c a.v.pow W) (dFa ia) fun Al W I => ?_
   refine zqd I (fun Al W I => a0a b.v.cls b.v.neg b.p (dig B32 b.v.d).length b.c b.v.pow W) (dTr ib) fun Al W I => ?_
   refine zq I (fun Al W I => (HZ W _ (I.box 0 182 _)).out) fun Al W I => ?_
   rw [hM, if_neg hof, if_neg (by omega), if_neg (by omega), if_pos (by omega)]
   exact zret I fun Al W I => a0e (k := 1) (by decide) rfl I.bel (I.boxE 182 _)
 by_cases za : a.v.cls = 1
 · by_cases zb : b.v.cls = 1
   · refine zqd I (fun Al W I => a0a a.v.cls a.v.neg a.p (dig B32 a.v.d).length a.c a.v.pow W) (dFa ia) fun Al W I => ?_
     refine zqd I (fun Al W I => a0i a.v.cls a.v.neg a.p (dig B32 a.v.d).length a.c a.v.pow W) (dTr za) fun Al W I => ?_
     refine zqd I (fun Al W I => a0i b.v.cls b.v.neg b.p (dig B32 b.v.d).length b.c b.v.pow W) (dTr zb) fun Al W I => ?_
     refine zge I 0 182 (fun Al W I => (HL W _ (I.box 0 182 _)).out) fun Al V Iv _ _ kz => ?_
     rintro _ W ⟨rfl, hO, hB⟩
     refine ⟨_, rfl, kz _ (uS f n way 16) _ hO hB fun I => ?_⟩
     rw [hM, if_neg hof, if_pos (by omega), hlostm]
     exact zret I fun Al W I => a0e hk2 rfl I.bel (I.boxE 182 _)
   refine zqd I (fun Al W I => a0a a.v.cls a.v.neg a.p (dig B32 a.v.d).length a.c a.v.pow W) (dFa ia) fun Al W I => ?_
   refine zqd I (fun Al W I => a0i a.v.cls a.v.neg a.p (dig B32 a.v.d).length a.c a.v.pow W) (dTr za) fun Al W I => ?_
   refine zqd I (fun Al W I => a0i b.v.cls b.v.neg b.p (dig B32 b.v.d).length b.c b.v.pow W) (dFa zb) fun Al W I => ?_
   refine zqd I (fun Al W I => a0a a.v.cls a.v.neg a.p (dig B32 a.v.d).length a.c a.v.pow W) (dFa ia) fun Al W I => ?_
   refine zqd I (fun Al W I => a0a b.v.cls b.v.neg b.p (dig B32 b.v.d).length b.c b.v.pow W) (dFa ib) fun Al W I => ?_
   refine zqd I (fun Al W I => a0i a.v.cls a.v.neg a.p (dig B32 a.v.d).length a.c a.v.pow W) (dTr za) fun Al W I => ?_
   refine zq I (fun Al W I => (HZ W _ (I.box 0 182 _)).out) fun Al W I => ?_
   rw [hM, if_neg hof, if_neg (by omega), if_neg (by omega), if_pos (by omega)]
   exact zret I fun Al W I => a0e (k := 1) (by decide) rfl I.bel (I.boxE 182 _)
 by_cases zb : b.v.cls = 1
 · refine zqd I (fun Al W I => a0a a.v.cls a.v.neg a.p (dig B32 a.v.d).length a.c a.v.pow W) (dFa ia) fun Al W I => ?_
   refine zqd I (fun Al W I => a0i a.v.cls a.v.neg a.p (dig B32 a.v.d).length a.c a.v.pow W) (dFa za) fun Al W I => ?_
   refine zqd I (fun Al W I => a0a a.v.cls a.v.neg a.p (dig B32 a.v.d).length a.c a.v.pow W) (dFa ia) fun Al W I => ?_
   refine zqd I (fun Al W I => a0a b.v.cls b.v.neg b.p (dig B32 b.v.d).length b.c b.v.pow W) (dFa ib) fun Al W I => ?_
   refine zqd I (fun Al W I => a0i a.v.cls a.v.neg a.p (dig B32 a.v.d).length a.c a.v.pow W) (dFa za) fun Al W I => ?_
   refine zqd I (fun Al W I => a0i b.v.cls b.v.neg b.p (dig B32 b.v.d).length b.c b.v.pow W) (dTr zb) fun Al W I => ?_
   refine zge I 0 182 (fun Al W I => (HPo W _ (I.box 0 182 _)).out) fun Al V Iv _ _ kz => ?_
   rintro _ W ⟨v60, hR60, p60, c60, rfl, o60, hO, hB⟩
   refine ⟨_, rfl, kz _ (uS f n way (flP : Int)) _ hO hB fun I => ?_⟩
   have I := I.ownB base o60
   rw [hM, if_neg hof, if_neg (by omega), if_neg (by omega), if_neg (by omega), if_pos zb]
   exact zret I fun Al W I => ⟨v60, hR60, p60, c60, rfl, I.fa.1, I.bel, I.boxE 182 _⟩
 refine zqd I (fun Al W I => a0a a.v.cls a.v.neg a.p (dig B32 a.v.d).length a.c a.v.pow W) (dFa ia) fun Al W I => ?_
 refine zqd I (fun Al W I => a0i a.v.cls a.v.neg a.p (dig B32 a.v.d).length a.c a.v.pow W) (dFa za) fun Al W I => ?_
 refine zqd I (fun Al W I => a0a a.v.cls a.v.neg a.p (dig B32 a.v.d).length a.c a.v.pow W) (dFa ia) fun Al W I => ?_
 refine zqd I (fun Al W I => a0a b.v.cls b.v.neg b.p (dig B32 b.v.d).length b.c b.v.pow W) (dFa ib) fun Al W I => ?_
 refine zqd I (fun Al W I => a0i a.v.cls a.v.neg a.p (dig B32 a.v.d).length a.c a.v.pow W) (dFa za) fun Al W I => ?_
 refine zqd I (fun Al W I => a0i b.v.cls b.v.neg b.p (dig B32 b.v.d).length b.c b.v.pow W) (dFa zb) fun Al W I => ?_
 refine zd [] I fun Al W I => ?_
 refine zk [0, 1, 3, 4] I fun I => ?_
 refine zo3 2 6 7 I (fun I => ?_) (fun I => ?_) (fun I => ?_)
 · refine zg I (fun Al W I => (HA W _ (I.box 0 182 _) I.fa.1 I.fa.2.2.1).out) fun Al V Iv _ hB _ kz => ?_
   rintro _ W ⟨p63, c63, rfl, o63, hb⟩
   refine ⟨_, rfl, kz _ _ hb fun I => ?_⟩
   have I := I.ownB base o63
   refine zo3 5 6 7 I (fun I => ?_) (fun I => ?_) (fun I => ?_)
   · refine zg I (fun Al W I => (HB W _ (I.box 0 182 _) I.fa.2.2.1 I.fa.2.2.2.1).out) fun Al V Iv _ hB _ kz => ?_
     rintro _ W ⟨p66, c66, rfl, o66, hb⟩
     refine ⟨_, rfl, kz _ _ hb fun I => ?_⟩
     have I := I.ownB base o66
     refine zo2 6 7 I (fun I => ?_) (fun I => ?_)
     · refine zn I fun Al W I => ?_
       refine zo 7 I fun I => ?_
       refine zn I fun Al W I => ?_
       refine zo 8 I fun I => ?_
       refine zn I fun Al W I => ?_
       refine zo 9 I fun I => ?_
       refine zn I fun Al W I => ?_
       refine zi I 81 .i64 (ra.x.e - rb.x.e) ((ra.x.e - rb.x.e)) ((by exact iwo)) fun Al W I => ?_
       refine zge I 0 182 (fun Al W I => have hzW := I.bel.size; (HF W p63 p66 c63 c66 _ (I.box 0 182 _) I.fa.2.1.rd I.fa.1.rd (hpa (by omega)) (hpb (by omega))).out) fun Al V Iv _ _ kz => ?_
       rintro _ W ⟨p83, c83, rfl, o83, hO, hB⟩
       refine ⟨_, rfl, kz _ (uS f n way (flS : Int)) _ hO hB fun I => ?_⟩
       have I := I.ownB base o83
       rw [hM, if_neg hof, if_neg (by omega), if_neg (by omega), if_neg (by omega), if_neg (by omega)]
       exact zret I fun Al W I => ⟨vS, HV (hpb (by omega)), p83, c83, rfl, I.fa.1, I.bel, I.boxE 182 _⟩
     refine zn I fun Al W I => ?_
     refine zo 6 I fun I => ?_
     refine zn I fun Al W I => ?_
     refine zo 8 I fun I => ?_
     refine zn I fun Al W I => ?_
     refine zo 9 I fun I => ?_
     refine zn I fun Al W I => ?_
     refine zi I 81 .i64 (ra.x.e - rb.x.e) ((ra.x.e - rb.x.e)) ((by exact iwo)) fun Al W I => ?_
     refine zge I 0 182 (fun Al W I => have hzW := I.bel.size; (HF W p63 p66 c63 c66 _ (I.box 0 182 _) I.fa.2.1.rd I.fa.1.rd (hpa (by omega)) (hpb (by omega))).out) fun Al V Iv _ _ kz => ?_
     rintro _ W ⟨p83, c83, rfl, o83, hO, hB⟩
     refine ⟨_, rfl, kz _ (uS f n way (flS : Int)) _ hO hB fun I => ?_⟩
     have I := I.ownB base o83
     rw [hM, if_neg hof, if_neg (by omega), if_neg (by omega), if_neg (by omega), if_neg (by omega)]
     exact zret I fun Al W I => ⟨vS, HV (hpb (by omega)), p83, c83, rfl, I.fa.1, I.bel, I.boxE 182 _⟩
   · refine zn I fun Al W I => ?_
     refine zo2 5 7 I (fun I => ?_) (fun I => ?_)
     · refine zg I (fun Al W I => (HB W _ (I.box 0 182 _) I.fa.2.2.1 I.fa.2.2.2.1).out) fun Al V Iv _ hB _ kz => ?_
       rintro _ W ⟨p66, c66, rfl, o66, hb⟩
       refine ⟨_, rfl, kz _ _ hb fun I => ?_⟩
       have I := I.ownB base o66
       refine zo 7 I fun I => ?_
       refine zn I fun Al W I => ?_
       refine zo 8 I fun I => ?_
       refine zn I fun Al W I => ?_
       refine zo 9 I fun I => ?_
       refine zn I fun Al W I => ?_
       refine zi I 81 .i64 (ra.x.e - rb.x.e) ((ra.x.e - rb.x.e)) ((by exact iwo)) fun Al W I => ?_
       refine zge I 0 182 (fun Al W I => have hzW := I.bel.size; (HF W p63 p66 c63 c66 _ (I.box 0 182 _) I.fa.2.1.rd I.fa.1.rd (hpa (by omega)) (hpb (by omega))).out) fun Al V Iv _ _ kz => ?_
       rintro _ W ⟨p83, c83, rfl, o83, hO, hB⟩
       refine ⟨_, rfl, kz _ (uS f n way (flS : Int)) _ hO hB fun I => ?_⟩
       have I := I.ownB base o83
       rw [hM, if_neg hof, if_neg (by omega), if_neg (by omega), if_neg (by omega), if_neg (by omega)]
       exact zret I fun Al W I => ⟨vS, HV (hpb (by omega)), p83, c83, rfl, I.fa.1, I.bel, I.boxE 182 _⟩
     refine zn I fun Al W I => ?_
     refine zo 5 I fun I => ?_
     refine zg I (fun Al W I => (HB W _ (I.box 0 182 _) I.fa.2.2.1 I.fa.2.2.2.1).out) fun Al V Iv _ hB _ kz => ?_
     rintro _ W ⟨p66, c66, rfl, o66, hb⟩
     refine ⟨_, rfl, kz _ _ hb fun I => ?_⟩
     have I := I.ownB base o66
     refine zo 8 I fun I => ?_
     refine zn I fun Al W I => ?_
     refine zo 9 I fun I => ?_
     refine zn I fun Al W I => ?_
     refine zi I 81 .i64 (ra.x.e - rb.x.e) ((ra.x.e - rb.x.e)) ((by exact iwo)) fun Al W I => ?_
     refine zge I 0 182 (fun Al W I => have hzW := I.bel.size; (HF W p63 p66 c63 c66 _ (I.box 0 182 _) I.fa.2.1.rd I.fa.1.rd (hpa (by omega)) (hpb (by omega))).out) fun Al V Iv _ _ kz => ?_
     rintro _ W ⟨p83, c83, rfl, o83, hO, hB⟩
     refine ⟨_, rfl, kz _ (uS f n way (flS : Int)) _ hO hB fun I => ?_⟩
     have I := I.ownB base o83
     rw [hM, if_neg hof, if_neg (by omega), if_neg (by omega), if_neg (by omega), if_neg (by omega)]
     exact zret I fun Al W I => ⟨vS, HV (hpb (by omega)), p83, c83, rfl, I.fa.1, I.bel, I.boxE 182 _⟩
   refine zn I fun Al W I => ?_
   refine zo2 5 6 I (fun I => ?_) (fun I => ?_)
   · refine zg I (fun Al W I => (HB W _ (I.box 0 182 _) I.fa.2.2.1 I.fa.2.2.2.1).out) fun Al V Iv _ hB _ kz => ?_
     rintro _ W ⟨p66, c66, rfl, o66, hb⟩
     refine ⟨_, rfl, kz _ _ hb fun I => ?_⟩
     have I := I.ownB base o66
     refine zo 6 I fun I => ?_
     refine zn I fun Al W I => ?_
     refine zo 8 I fun I => ?_
     refine zn I fun Al W I => ?_
     refine zo 9 I fun I => ?_
     refine zn I fun Al W I => ?_
     refine zi I 81 .i64 (ra.x.e - rb.x.e) ((ra.x.e - rb.x.e)) ((by exact iwo)) fun Al W I => ?_
     refine zge I 0 182 (fun Al W I => have hzW := I.bel.size; (HF W p63 p66 c63 c66 _ (I.box 0 182 _) I.fa.2.1.rd I.fa.1.rd (hpa (by omega)) (hpb (by omega))).out) fun Al V Iv _ _ kz => ?_
     rintro _ W ⟨p83, c83, rfl, o83, hO, hB⟩
     refine ⟨_, rfl, kz _ (uS f n way (flS : Int)) _ hO hB fun I => ?_⟩
     have I := I.ownB base o83
     rw [hM, if_neg hof, if_neg (by omega), if_neg (by omega), if_neg (by omega), if_neg (by omega)]
     exact zret I fun Al W I => ⟨vS, HV (hpb (by omega)), p83, c83, rfl, I.fa.1, I.bel, I.boxE 182 _⟩
   refine zn I fun Al W I => ?_
   refine zo 5 I fun I => ?_
   refine zg I (fun Al W I => (HB W _ (I.box 0 182 _) I.fa.2.2.1 I.fa.2.2.2.1).out) fun Al V Iv _ hB _ kz => ?_
   rintro _ W ⟨p66, c66, rfl, o66, hb⟩
   refine ⟨_, rfl, kz _ _ hb fun I => ?_⟩
   have I := I.ownB base o66
   refine zo 8 I fun I => ?_
   refine zn I fun Al W I => ?_
   refine zo 9 I fun I => ?_
   refine zn I fun Al W I => ?_
   refine zi I 81 .i64 (ra.x.e - rb.x.e) ((ra.x.e - rb.x.e)) ((by exact iwo)) fun Al W I => ?_
   refine zge I 0 182 (fun Al W I => have hzW := I.bel.size; (HF W p63 p66 c63 c66 _ (I.box 0 182 _) I.fa.2.1.rd I.fa.1.rd (hpa (by omega)) (hpb (by omega))).out) fun Al V Iv _ _ kz => ?_
   rintro _ W ⟨p83, c83, rfl, o83, hO, hB⟩
   refine ⟨_, rfl, kz _ (uS f n way (flS : Int)) _ hO hB fun I => ?_⟩
   have I := I.ownB base o83
   rw [hM, if_neg hof, if_neg (by omega), if_neg (by omega), if_neg (by omega), if_neg (by omega)]
   exact zret I fun Al W I => ⟨vS, HV (hpb (by omega)), p83, c83, rfl, I.fa.1, I.bel, I.boxE 182 _⟩
 · refine zn I fun Al W I => ?_
   refine zo2 2 7 I (fun I => ?_) (fun I => ?_)
   · refine zg I (fun Al W I => (HA W _ (I.box 0 182 _) I.fa.1 I.fa.2.2.1).out) fun Al V Iv _ hB _ kz => ?_
     rintro _ W ⟨p63, c63, rfl, o63, hb⟩
     refine ⟨_, rfl, kz _ _ hb fun I => ?_⟩
     have I := I.ownB base o63
     refine zo2 5 7 I (fun I => ?_) (fun I => ?_)
     · refine zg I (fun Al W I => (HB W _ (I.box 0 182 _) I.fa.2.2.1 I.fa.2.2.2.1).out) fun Al V Iv _ hB _ kz => ?_
       rintro _ W ⟨p66, c66, rfl, o66, hb⟩
       refine ⟨_, rfl, kz _ _ hb fun I => ?_⟩
       have I := I.ownB base o66
       refine zo 7 I fun I => ?_
       refine zn I fun Al W I => ?_
       refine zo 8 I fun I => ?_
       refine zn I fun Al W I => ?_
       refine zo 9 I fun I => ?_
       refine zn I fun Al W I => ?_
       refine zi I 81 .i64 (ra.x.e - rb.x.e) ((ra.x.e - rb.x.e)) ((by exact iwo)) fun Al W I => ?_
       refine zge I 0 182 (fun Al W I => have hzW := I.bel.size; (HF W p63 p66 c63 c66 _ (I.box 0 182 _) I.fa.2.1.rd I.fa.1.rd (hpa (by omega)) (hpb (by omega))).out) fun Al V Iv _ _ kz => ?_
       rintro _ W ⟨p83, c83, rfl, o83, hO, hB⟩
       refine ⟨_, rfl, kz _ (uS f n way (flS : Int)) _ hO hB fun I => ?_⟩
       have I := I.ownB base o83
       rw [hM, if_neg hof, if_neg (by omega), if_neg (by omega), if_neg (by omega), if_neg (by omega)]
       exact zret I fun Al W I => ⟨vS, HV (hpb (by omega)), p83, c83, rfl, I.fa.1, I.bel, I.boxE 182 _⟩
     refine zn I fun Al W I => ?_
     refine zo 5 I fun I => ?_
     refine zg I (fun Al W I => (HB W _ (I.box 0 182 _) I.fa.2.2.1 I.fa.2.2.2.1).out) fun Al V Iv _ hB _ kz => ?_
     rintro _ W ⟨p66, c66, rfl, o66, hb⟩
     refine ⟨_, rfl, kz _ _ hb fun I => ?_⟩
     have I := I.ownB base o66
     refine zo 8 I fun I => ?_
     refine zn I fun Al W I => ?_
     refine zo 9 I fun I => ?_
     refine zn I fun Al W I => ?_
     refine zi I 81 .i64 (ra.x.e - rb.x.e) ((ra.x.e - rb.x.e)) ((by exact iwo)) fun Al W I => ?_
     refine zge I 0 182 (fun Al W I => have hzW := I.bel.size; (HF W p63 p66 c63 c66 _ (I.box 0 182 _) I.fa.2.1.rd I.fa.1.rd (hpa (by omega)) (hpb (by omega))).out) fun Al V Iv _ _ kz => ?_
     rintro _ W ⟨p83, c83, rfl, o83, hO, hB⟩
     refine ⟨_, rfl, kz _ (uS f n way (flS : Int)) _ hO hB fun I => ?_⟩
     have I := I.ownB base o83
     rw [hM, if_neg hof, if_neg (by omega), if_neg (by omega), if_neg (by omega), if_neg (by omega)]
     exact zret I fun Al W I => ⟨vS, HV (hpb (by omega)), p83, c83, rfl, I.fa.1, I.bel, I.boxE 182 _⟩
   refine zn I fun Al W I => ?_
   refine zo 2 I fun I => ?_
   refine zg I (fun Al W I => (HA W _ (I.box 0 182 _) I.fa.1 I.fa.2.2.1).out) fun Al V Iv _ hB _ kz => ?_
   rintro _ W ⟨p63, c63, rfl, o63, hb⟩
   refine ⟨_, rfl, kz _ _ hb fun I => ?_⟩
   have I := I.ownB base o63
   refine zo 5 I fun I => ?_
   refine zg I (fun Al W I => (HB W _ (I.box 0 182 _) I.fa.2.2.1 I.fa.2.2.2.1).out) fun Al V Iv _ hB _ kz => ?_
   rintro _ W ⟨p66, c66, rfl, o66, hb⟩
   refine ⟨_, rfl, kz _ _ hb fun I => ?_⟩
   have I := I.ownB base o66
   refine zo 8 I fun I => ?_
   refine zn I fun Al W I => ?_
   refine zo 9 I fun I => ?_
   refine zn I fun Al W I => ?_
   refine zi I 81 .i64 (ra.x.e - rb.x.e) ((ra.x.e - rb.x.e)) ((by exact iwo)) fun Al W I => ?_
   refine zge I 0 182 (fun Al W I => have hzW := I.bel.size; (HF W p63 p66 c63 c66 _ (I.box 0 182 _) I.fa.2.1.rd I.fa.1.rd (hpa (by omega)) (hpb (by omega))).out) fun Al V Iv _ _ kz => ?_
   rintro _ W ⟨p83, c83, rfl, o83, hO, hB⟩
   refine ⟨_, rfl, kz _ (uS f n way (flS : Int)) _ hO hB fun I => ?_⟩
   have I := I.ownB base o83
   rw [hM, if_neg hof, if_neg (by omega), if_neg (by omega), if_neg (by omega), if_neg (by omega)]
   exact zret I fun Al W I => ⟨vS, HV (hpb (by omega)), p83, c83, rfl, I.fa.1, I.bel, I.boxE 182 _⟩
 refine zn I fun Al W I => ?_
 refine zo2 2 6 I (fun I => ?_) (fun I => ?_)
 · refine zg I (fun Al W I => (HA W _ (I.box 0 182 _) I.fa.1 I.fa.2.2.1).out) fun Al V Iv _ hB _ kz => ?_
   rintro _ W ⟨p63, c63, rfl, o63, hb⟩
   refine ⟨_, rfl, kz _ _ hb fun I => ?_⟩
   have I := I.ownB base o63
   refine zo2 5 6 I (fun I => ?_) (fun I => ?_)
   · refine zg I (fun Al W I => (HB W _ (I.box 0 182 _) I.fa.2.2.1 I.fa.2.2.2.1).out) fun Al V Iv _ hB _ kz => ?_
     rintro _ W ⟨p66, c66, rfl, o66, hb⟩
     refine ⟨_, rfl, kz _ _ hb fun I => ?_⟩
     have I := I.ownB base o66
     refine zo 6 I fun I => ?_
     refine zn I fun Al W I => ?_
     refine zo 8 I fun I => ?_
     refine zn I fun Al W I => ?_
     refine zo 9 I fun I => ?_
     refine zn I fun Al W I => ?_
     refine zi I 81 .i64 (ra.x.e - rb.x.e) ((ra.x.e - rb.x.e)) ((by exact iwo)) fun Al W I => ?_
     refine zge I 0 182 (fun Al W I => have hzW := I.bel.size; (HF W p63 p66 c63 c66 _ (I.box 0 182 _) I.fa.2.1.rd I.fa.1.rd (hpa (by omega)) (hpb (by omega))).out) fun Al V Iv _ _ kz => ?_
     rintro _ W ⟨p83, c83, rfl, o83, hO, hB⟩
     refine ⟨_, rfl, kz _ (uS f n way (flS : Int)) _ hO hB fun I => ?_⟩
     have I := I.ownB base o83
     rw [hM, if_neg hof, if_neg (by omega), if_neg (by omega), if_neg (by omega), if_neg (by omega)]
     exact zret I fun Al W I => ⟨vS, HV (hpb (by omega)), p83, c83, rfl, I.fa.1, I.bel, I.boxE 182 _⟩
   refine zn I fun Al W I => ?_
   refine zo 5 I fun I => ?_
   refine zg I (fun Al W I => (HB W _ (I.box 0 182 _) I.fa.2.2.1 I.fa.2.2.2.1).out) fun Al V Iv _ hB _ kz => ?_
   rintro _ W ⟨p66, c66, rfl, o66, hb⟩
   refine ⟨_, rfl, kz _ _ hb fun I => ?_⟩
   have I := I.ownB base o66
   refine zo 8 I fun I => ?_
   refine zn I fun Al W I => ?_
   refine zo 9 I fun I => ?_
   refine zn I fun Al W I => ?_
   refine zi I 81 .i64 (ra.x.e - rb.x.e) ((ra.x.e - rb.x.e)) ((by exact iwo)) fun Al W I => ?_
   refine zge I 0 182 (fun Al W I => have hzW := I.bel.size; (HF W p63 p66 c63 c66 _ (I.box 0 182 _) I.fa.2.1.rd I.fa.1.rd (hpa (by omega)) (hpb (by omega))).out) fun Al V Iv _ _ kz => ?_
   rintro _ W ⟨p83, c83, rfl, o83, hO, hB⟩
   refine ⟨_, rfl, kz _ (uS f n way (flS : Int)) _ hO hB fun I => ?_⟩
   have I := I.ownB base o83
   rw [hM, if_neg hof, if_neg (by omega), if_neg (by omega), if_neg (by omega), if_neg (by omega)]
   exact zret I fun Al W I => ⟨vS, HV (hpb (by omega)), p83, c83, rfl, I.fa.1, I.bel, I.boxE 182 _⟩
 refine zn I fun Al W I => ?_
 refine zo 2 I fun I => ?_
 refine zg I (fun Al W I => (HA W _ (I.box 0 182 _) I.fa.1 I.fa.2.2.1).out) fun Al V Iv _ hB _ kz => ?_
 rintro _ W ⟨p63, c63, rfl, o63, hb⟩
 refine ⟨_, rfl, kz _ _ hb fun I => ?_⟩
 have I := I.ownB base o63
 refine zo 5 I fun I => ?_
 refine zg I (fun Al W I => (HB W _ (I.box 0 182 _) I.fa.2.2.1 I.fa.2.2.2.1).out) fun Al V Iv _ hB _ kz => ?_
 rintro _ W ⟨p66, c66, rfl, o66, hb⟩
 refine ⟨_, rfl, kz _ _ hb fun I => ?_⟩
 have I := I.ownB base o66
 refine zo 8 I fun I => ?_
 refine zn I fun Al W I => ?_
 refine zo 9 I fun I => ?_
 refine zn I fun Al W I => ?_
 refine zi I 81 .i64 (ra.x.e - rb.x.e) ((ra.x.e - rb.x.e)) ((by exact iwo)) fun Al W I => ?_
 refine zge I 0 182 (fun Al W I => have hzW := I.bel.size; (HF W p63 p66 c63 c66 _ (I.box 0 182 _) I.fa.2.1.rd I.fa.1.rd (hpa (by omega)) (hpb (by omega))).out) fun Al V Iv _ _ kz => ?_
 rintro _ W ⟨p83, c83, rfl, o83, hO, hB⟩
 refine ⟨_, rfl, kz _ (uS f n way (flS : Int)) _ hO hB fun I => ?_⟩
 have I := I.ownB base o83
 rw [hM, if_neg hof, if_neg (by omega), if_neg (by omega), if_neg (by omega), if_neg (by omega)]
 exact zret I fun Al W I => ⟨vS, HV (hpb (by omega)), p83, c83, rfl, I.fa.1, I.bel, I.boxE 182 _⟩
def _root_.Go.Slip.Fm.fusedM (f : Fm) (a b c : Vr) (way : Int) : Vr × Nat :=
 if 4 ≤ a.cls ∨ 4 ≤ b.cls ∨ 4 ≤ c.cls then f.offM
 else if a.cls = 3 ∨ b.cls = 3 then (if a.cls = 1 ∨ b.cls = 1 then f.lostM else f.addM (infM (a.neg != b.neg)) c way)
 else if c.cls = 3 then (c, 0)
 else f.sumM (f0q a.x b.x) c.x (a.neg != b.neg) c.neg way
theorem l1a {f : Fm} (h : f.fam = 1) (g : Bool) : AtV f ⟨⟨3, g, 0, 0⟩, none, 0⟩ (infM g) :=
 ⟨f0b (by decide), ⟨by show 1 ≤ 3 ∧ 3 ≤ 5; omega, fun _ => rfl, fun h => (by cases h), .inr rfl, by show (dig B32 0).length ≤ _; rw [a0f]; decide, by show (-18000 : Int) ≤ 0; decide, by show (0 : Int) ≤ 18000; decide⟩, fun _ => h⟩
theorem l1b (f : Fm) (n way : Int) (g : Bool) (b : Vp) (rb : Vr) (base u : Nat) (w : World) (U : Bt w u 182 #[.int .i64 n, .int .i64 way, .int .i64 f.g.rad, .int .i64 f.g.digs, .int .i64 f.g.lo, .int .i64 f.g.hi, .bool f.g.grad, .int .u8 (famB f), .int .i64 0]) (ob : Own w base .u32 141 b.p b.c (dig B32 b.v.d)) (hb : base ≤ w.heap.size)
 (h1 : f.fam = 1) (B1 : AtV f b rb) (G : b0g f) (hw : 1 ≤ way ∧ way ≤ 5) (hT : TabW w) :
 Calls Tryz.prog 90 #[.pointer (some ⟨u, 0, none⟩), .agg #[.int .i64 3, .bool g, .slice none 0 0, .int .i64 0], .agg #[.int .i64 (b.v.cls : Int), .bool b.v.neg, .slice b.p (dig B32 b.v.d).length b.c, .int .i64 b.v.pow]] w (d0c f n way u w base (f.addM (infM g) rb way)) := by
 have := i1f f n way ⟨⟨3, g, 0, 0⟩, none, 0⟩ b (infM g) rb base u w U (by show Own _ _ _ _ _ _ (dig B32 0); rw [a0f]; exact Own.nil _ _ _ _) ob hb (l1a h1 g) B1 G hw hT
 simp only at this
 rw [a0f] at this
 exact this
theorem i1g (f : Fm) (n way : Int) (a b c : Vp) (ra rb rc : Vr) (base u : Nat) (w : World) (U : Bt w u 182 #[.int .i64 n, .int .i64 way, .int .i64 f.g.rad, .int .i64 f.g.digs, .int .i64 f.g.lo, .int .i64 f.g.hi, .bool f.g.grad, .int .u8 (famB f), .int .i64 0]) (oa : Own w base .u32 141 a.p a.c (dig B32 a.v.d)) (ob : Own w base .u32 141 b.p b.c (dig B32 b.v.d)) (oc : Own w base .u32 141 c.p c.c (dig B32 c.v.d)) (hb : base ≤ w.heap.size)
 (A1 : AtV f a ra) (B1 : AtV f b rb) (C1 : AtV f c rc) (G : b0g f) (hw : 1 ≤ way ∧ way ≤ 5) (hT : TabW w) :
 Calls Tryz.prog 96 #[.pointer (some ⟨u, 0, none⟩), .agg #[.int .i64 (a.v.cls : Int), .bool a.v.neg, .slice a.p (dig B32 a.v.d).length a.c, .int .i64 a.v.pow], .agg #[.int .i64 (b.v.cls : Int), .bool b.v.neg, .slice b.p (dig B32 b.v.d).length b.c, .int .i64 b.v.pow], .agg #[.int .i64 (c.v.cls : Int), .bool c.v.neg, .slice c.p (dig B32 c.v.d).length c.c, .int .i64 c.v.pow]] w (d0c f n way u w base (f.fusedM ra rb rc way)) := by
 have hM : f.fusedM ra rb rc way = if 4 ≤ a.v.cls ∨ 4 ≤ b.v.cls ∨ 4 ≤ c.v.cls then f.offM else if a.v.cls = 3 ∨ b.v.cls = 3 then (if a.v.cls = 1 ∨ b.v.cls = 1 then f.lostM else f.addM (infM (a.v.neg != b.v.neg)) rc way) else if c.v.cls = 3 then (rc, 0) else f.sumM (f0q ra.x rb.x) rc.x (a.v.neg != b.v.neg) c.v.neg way := by
  unfold Fm.fusedM; rw [A1.rep.cls, B1.rep.cls, C1.rep.cls, A1.rep.neg, B1.rep.neg, C1.rep.neg]
 have hca : a.v.cls ≤ 5 := by rw [A1.rep.cls]; exact A1.ok.c.2
 have hcb : b.v.cls ≤ 5 := by rw [B1.rep.cls]; exact B1.ok.c.2
 have hcc : c.v.cls ≤ 5 := by rw [C1.rep.cls]; exact C1.ok.c.2
 have hfi : a.v.cls = 3 ∨ b.v.cls = 3 → f.fam = 1 := fun h => h.elim (fun h => A1.inf (by rw [← A1.rep.cls]; exact h)) (fun h => B1.inf (by rw [← B1.rep.cls]; exact h))
 have hk4 : f.fam = 1 → f.nothM.cls = 4 := fun h => by unfold Fm.nothM; simp [h]
 have HY := fun W b0 u h1 h2 h3 => hi0 (m0r f n way [a, b, c] b0 3 u W h1 h2 rfl (by simp) (by simp [hca, hcb, hcc]) G h3)
 have HN := fun W b0 u h1 h2 h3 => hi0 (r0e f n way 0 [a, b, c] b0 3 u W h1 h2 rfl (by simp) h3)
 have HPN := fun W u h1 h2 h3 => hi0 (b1b f n way 0 a b u W h1 h2 h3)
 have HPI := fun W u h1 h2 h3 => hi0 (u0x f n way 0 a b u W h1 h2 h3)
 have HPL := fun W u h1 h2 h3 => hi0 (r0f f n way a b u W h1 h2 h3)
 have HAD := fun W u h1 h2 h3 h4 h5 => hi0 (l1b f n way (a.v.neg != b.v.neg) c rc base u W h1 h2 h3 h4 C1 G hw h5)
 have HA := fun W u h1 h2 h3 => hi0 (m0y f n way 0 a.v ra a.p a.c base u W h1 h2 A1.rep A1.ok h3)
 have HB := fun W u h1 h2 h3 => hi0 (m0y f n way 0 b.v rb b.p b.c base u W h1 h2 B1.rep B1.ok h3)
 have HC := fun W u h1 h2 h3 => hi0 (m0y f n way 0 c.v rc c.p c.c base u W h1 h2 C1.rep C1.ok h3)
 have sa := A1.ok.sm
 have sb := B1.ok.sm
 have st := u0w A1.ok B1.ok
 have bt := r0t ra.x rb.x
 have HT := fun W p q c d base h1 h2 h3 => hi0 (n0w ra.x rb.x p q c d base W sa sb h1 h2 h3)
 generalize f0q ra.x rb.x = t at *
 have HS := fun W p q cc d base u h1 h2 h3 h4 h5 => hi0 (k1w f n way t rc.x (a.v.neg != b.v.neg) c.v.neg p q cc d base u W h1 h2 h3 h4 bt C1.ok.bare st C1.ok.sm G hw h5)
 have VC := C1.rep
 have hoffm : f.offM = (⟨f.nothM.cls, false, vz⟩, f.offM.2) := rfl
 have hk2 := f0n G
 have hlostm : f.lostM = (⟨f.nothM.cls, false, vz⟩, 16) := rfl
 obtain ⟨rS, flS, hS⟩ : ∃ rS flS, f.sumM t rc.x (a.v.neg != b.v.neg) c.v.neg way = (rS, flS) := ⟨_, _, rfl⟩
 obtain ⟨rD, flD, hD⟩ : ∃ rD flD, f.addM (infM (a.v.neg != b.v.neg)) rc way = (rD, flD) := ⟨_, _, rfl⟩
 rw [hS] at HS hM
 rw [hD] at HAD hM
 generalize f.fusedM ra rb rc way = R at *
 generalize f.offM.2 = flo at *
 generalize f.nothM.cls = kN at *
 generalize hng : (a.v.neg != b.v.neg) = ng at *
 have HNG := hi0 hng
 clear hng hS hD st bt
 have I := Inv.startW w u 182 (uS f n way 0) [ownF base .u32 141 a.p a.c (dig B32 a.v.d), ownF base .u32 141 b.p b.c (dig B32 b.v.d), ownF base .u32 141 c.p c.c (dig B32 c.v.d), tabF] U ⟨oa, ob, oc, hT, True.intro⟩ ⟨fun hf => oa.far U (by kernel_rfl) hf.1 hf.2, fun hf => ob.far U (by kernel_rfl) hf.1 hf.2, fun hf => oc.far U (by kernel_rfl) hf.1 hf.2, fun hf => hT.far U (by kernel_rfl) hf, True.intro⟩
 refine a0g [.p 0 0, .v (.agg #[.int .i64 (a.v.cls : Int), .bool a.v.neg, .slice a.p (dig B32 a.v.d).length a.c, .int .i64 a.v.pow]), .v (.agg #[.int .i64 (b.v.cls : Int), .bool b.v.neg, .slice b.p (dig B32 b.v.d).length b.c, .int .i64 b.v.pow]), .v (.agg #[.int .i64 (c.v.cls : Int), .bool c.v.neg, .slice c.p (dig B32 c.v.d).length c.c, .int .i64 c.v.pow])] I Tryz.func96 ?_
 by_cases hof : 4 ≤ a.v.cls ∨ 4 ≤ b.v.cls ∨ 4 ≤ c.v.cls
 · refine zge I 0 182 (fun Al W I => (HY W _ _ (I.box 0 182 _) (I.box 5 75 _) (by simpa using hof)).out) fun Al V Iv _ _ kz => ?_
   rintro _ W ⟨rfl, hO, hB⟩
   refine ⟨_, rfl, kz _ (uS f n way (flo : Int)) _ hO hB fun I => ?_⟩
   rw [hM]
   refine zret I (v := fun Al => .agg #[.int .i64 (kN : Int), .bool false, .slice none 0 0, .int .i64 0]) fun Al W I => ?_
   first | (rw [if_pos hof, hoffm]; exact a0e hk2 rfl I.bel (I.boxE 182 _)) | (rw [if_neg hof, if_pos h3, if_pos h1, hlostm]; exact a0e hk2 rfl I.bel (I.boxE 182 _)) | (rw [if_neg hof, if_neg h3, if_pos hc3]; exact ⟨c.v, VC, c.p, c.c, rfl, I.fa.2.2.1, I.bel, I.boxE 182 _⟩)
 refine zq I (fun Al W I => have hzW := I.bel.size; (HN W _ _ (I.box 0 182 _) (I.box 5 75 _) (by simp only [List.mem_cons, List.mem_nil_iff, or_false]; rintro x (rfl | rfl | rfl) <;> omega)).out) fun Al W I => ?_
 by_cases h3 : a.v.cls = 3 ∨ b.v.cls = 3
 · by_cases h1 : a.v.cls = 1 ∨ b.v.cls = 1
   · refine zge I 0 182 (fun Al W I => (HPL W _ (I.box 0 182 _) h3 h1).out) fun Al V Iv _ _ kz => ?_
     rintro _ W ⟨rfl, hO, hB⟩
     refine ⟨_, rfl, kz _ (uS f n way 16) _ hO hB fun I => ?_⟩
     refine zqd I (fun Al W I => h0i kN false none 0 0 0 W) (show (decide (kN = 4) || decide (kN = 5)) = true from (by rw [hk4 (hfi h3)]; rfl)) fun Al W I => ?_
     rw [hM]
     refine zret I (v := fun Al => .agg #[.int .i64 (kN : Int), .bool false, .slice none 0 0, .int .i64 0]) fun Al W I => ?_
     first | (rw [if_pos hof, hoffm]; exact a0e hk2 rfl I.bel (I.boxE 182 _)) | (rw [if_neg hof, if_pos h3, if_pos h1, hlostm]; exact a0e hk2 rfl I.bel (I.boxE 182 _)) | (rw [if_neg hof, if_neg h3, if_pos hc3]; exact ⟨c.v, VC, c.p, c.c, rfl, I.fa.2.2.1, I.bel, I.boxE 182 _⟩)
   refine zq I (fun Al W I => (HPI W _ (I.box 0 182 _) h3 h1).out) fun Al W I => ?_
   refine zqd I (fun Al W I => h0i 3 ng none 0 0 0 W) (show (decide (3 = 4) || decide (3 = 5)) = false from rfl) fun Al W I => ?_
   refine zge I 0 182 (fun Al W I => have hzW := I.bel.size; (HAD W _ (I.box 0 182 _) I.fa.2.2.1 (by omega) (hfi h3) I.fa.2.2.2.1).out) fun Al V Iv _ _ kz => ?_
   rintro _ W ⟨v38, hR38, p38, c38, rfl, o38, hO, hB⟩
   refine ⟨_, rfl, kz _ (uS f n way (flD : Int)) _ hO hB fun I => ?_⟩
   have I := I.ownB base o38
   rw [hM, if_neg hof, if_pos h3, if_neg h1]
   exact zret I fun Al W I => ⟨v38, hR38, p38, c38, rfl, I.fa.1, I.bel, I.boxE 182 _⟩
 refine zq I (fun Al W I => have hzW := I.bel.size; (HPN W _ (I.box 0 182 _) (by omega) (by omega)).out) fun Al W I => ?_
 by_cases hc3 : c.v.cls = 3
 · refine zqd I (fun Al W I => a0a c.v.cls c.v.neg c.p (dig B32 c.v.d).length c.c c.v.pow W) (dTr hc3) fun Al W I => ?_
   rw [hM]
   refine zret I (v := fun Al => .agg #[.int .i64 (c.v.cls : Int), .bool c.v.neg, .slice c.p (dig B32 c.v.d).length c.c, .int .i64 c.v.pow]) fun Al W I => ?_
   first | (rw [if_pos hof, hoffm]; exact a0e hk2 rfl I.bel (I.boxE 182 _)) | (rw [if_neg hof, if_pos h3, if_pos h1, hlostm]; exact a0e hk2 rfl I.bel (I.boxE 182 _)) | (rw [if_neg hof, if_neg h3, if_pos hc3]; exact ⟨c.v, VC, c.p, c.c, rfl, I.fa.2.2.1, I.bel, I.boxE 182 _⟩)
 refine zqd I (fun Al W I => a0a c.v.cls c.v.neg c.p (dig B32 c.v.d).length c.c c.v.pow W) (dFa hc3) fun Al W I => ?_
 refine zd [0, 4] I fun Al W I => ?_
 refine zk [0, 1, 2, 4, 5, 8, 9, 11, 12, 13, 14] I fun I => ?_
 refine zkb 15 I (a.v.neg != b.v.neg) (ng) (HNG.out) fun I => ?_
 refine zk [16, 17] I fun I => ?_
 refine zo 3 I fun I => ?_
 refine zg I (fun Al W I => (HA W _ (I.box 0 182 _) I.fa.1 I.fa.2.2.2.1).out) fun Al V Iv _ hB _ kz => ?_
 rintro _ W ⟨p45, c45, rfl, o45, hb⟩
 refine ⟨_, rfl, kz _ _ hb fun I => ?_⟩
 have I := I.ownB base o45
 refine zo 6 I fun I => ?_
 refine zg I (fun Al W I => (HB W _ (I.box 0 182 _) I.fa.2.2.1 I.fa.2.2.2.2.1).out) fun Al V Iv _ hB _ kz => ?_
 rintro _ W ⟨p48, c48, rfl, o48, hb⟩
 refine ⟨_, rfl, kz _ _ hb fun I => ?_⟩
 have I := I.ownB base o48
 refine zo 7 I fun I => ?_
 refine zg I (fun Al W I => (HT W p45 p48 c45 c48 _ I.fa.2.1 I.fa.1 I.fa.2.2.2.2.2.1).out) fun Al V Iv _ hB _ kz => ?_
 rintro _ W ⟨p49, c49, rfl, o49, hb⟩
 refine ⟨_, rfl, kz _ _ hb fun I => ?_⟩
 have I := I.ownB base o49
 refine zo 10 I fun I => ?_
 refine zg I (fun Al W I => (HC W _ (I.box 0 182 _) I.fa.2.2.2.2.2.1 I.fa.2.2.2.2.2.2.1).out) fun Al V Iv _ hB _ kz => ?_
 rintro _ W ⟨p52, c52, rfl, o52, hb⟩
 refine ⟨_, rfl, kz _ _ hb fun I => ?_⟩
 have I := I.ownB base o52
 refine zo 18 I fun I => ?_
 refine zge I 0 182 (fun Al W I => have hzW := I.bel.size; (HS W p49 p52 c49 c52 _ _ (I.box 0 182 _) I.fa.2.1 I.fa.1 (by omega) I.fa.2.2.2.2.2.2.2.1).out) fun Al V Iv _ _ kz => ?_
 rintro _ W ⟨v60, hR60, p60, c60, rfl, o60, hO, hB⟩
 refine ⟨_, rfl, kz _ (uS f n way (flS : Int)) _ hO hB fun I => ?_⟩
 have I := I.ownB base o60
 refine zo 19 I fun I => ?_
 refine zn I fun Al W I => ?_
 rw [hM, if_neg hof, if_neg h3, if_neg hc3]
 exact zret I fun Al W I => ⟨v60, hR60, p60, c60, rfl, I.fa.1, I.bel, I.boxE 182 _⟩
theorem w0q (a : Vp) (w : World) : Calls Tryz.prog 92 #[.agg #[.int .i64 (a.v.cls : Int), .bool a.v.neg, .slice a.p (dig B32 a.v.d).length a.c, .int .i64 a.v.pow]] w fun en w' => en = .returned (.agg #[.int .i64 (((⟨⟨a.v.cls, if a.v.cls ≤ 3 then !a.v.neg else a.v.neg, a.v.d, a.v.pow⟩, a.p, a.c⟩ : Vp).v.cls : Nat) : Int), .bool (⟨⟨a.v.cls, if a.v.cls ≤ 3 then !a.v.neg else a.v.neg, a.v.d, a.v.pow⟩, a.p, a.c⟩ : Vp).v.neg, .slice (⟨⟨a.v.cls, if a.v.cls ≤ 3 then !a.v.neg else a.v.neg, a.v.d, a.v.pow⟩, a.p, a.c⟩ : Vp).p (dig B32 (⟨⟨a.v.cls, if a.v.cls ≤ 3 then !a.v.neg else a.v.neg, a.v.d, a.v.pow⟩, a.p, a.c⟩ : Vp).v.d).length (⟨⟨a.v.cls, if a.v.cls ≤ 3 then !a.v.neg else a.v.neg, a.v.d, a.v.pow⟩, a.p, a.c⟩ : Vp).c, .int .i64 (⟨⟨a.v.cls, if a.v.cls ≤ 3 then !a.v.neg else a.v.neg, a.v.d, a.v.pow⟩, a.p, a.c⟩ : Vp).v.pow]) ∧ Below w.heap.size w w' := by
 obtain ⟨⟨k, g, d, e⟩, p, c⟩ := a
 simp only
 by_cases h : k ≤ 3
 · rw [if_pos h]
   have I := Inv.start w [] True.intro
   refine a0g [.v (.agg #[.int .i64 (k : Int), .bool g, .slice p (dig B32 d).length c, .int .i64 e])] I Tryz.func92 ?_
   refine zb I 5 (decide ((k : Int) ≤ 3)) (true) (dTr (by omega)) fun Al W I => ?_
   exact zrb I
 · rw [if_neg h]
   have I := Inv.start w [] True.intro
   refine a0g [.v (.agg #[.int .i64 (k : Int), .bool g, .slice p (dig B32 d).length c, .int .i64 e])] I Tryz.func92 ?_
   refine zb I 5 (decide ((k : Int) ≤ 3)) (false) (dFa (by omega)) fun Al W I => ?_
   exact zrb I
theorem r0g (n : Int) (w : World) : Calls Tryz.prog 43 #[.int .i64 n] w fun en w' => en = .returned (.tuple #[.agg #[.int .i64 (fmt n).g.rad, .int .i64 (fmt n).g.digs, .int .i64 (fmt n).g.lo, .int .i64 (fmt n).g.hi, .bool (fmt n).g.grad], .int .i64 (g0u n)]) ∧ Below w.heap.size w w' := by
 by_cases hn : IsFm n
 · have h0 : g0u n = 0 := by unfold g0u; rw [if_pos hn]
   rw [h0]
   have HF := fun W => hi0 (h0c n hn W)
   generalize fmt n = f at *
   have I := Inv.start w [] True.intro
   refine a0g [.v (.int .i64 n)] I Tryz.func43 ?_
   refine zq I (fun Al W I => (HF W).out) fun Al W I => ?_
   exact zrb I
 · have h0 : g0u n = 6 := by unfold g0u; rw [if_neg hn]
   rw [h0, a1m hn]
   have HF := fun W => hi0 (j0k n hn W)
   have I := Inv.start w [] True.intro
   refine a0g [.v (.int .i64 n)] I Tryz.func43 ?_
   refine zq I (fun Al W I => (HF W).out) fun Al W I => ?_
   exact zrb I
theorem u0y (n way : Int) (w : World) (h : ¬ (IsFm n ∧ 1 ≤ way ∧ way ≤ 5)) : Calls Tryz.prog 63 #[.int .i64 n, .int .i64 way] w fun en w' => en = .returned (.tuple #[.pointer none, .int .i64 6]) ∧ Below w.heap.size w w' := by
 have HG := fun W => hi0 (r0g n W)
 by_cases hn : IsFm n
 · have he : g0u n = 0 := by unfold g0u; rw [if_pos hn]
   have h' : way < 1 ∨ 5 < way := by by_cases k : 1 ≤ way ∧ way ≤ 5; exact absurd ⟨hn, k⟩ h; omega
   rw [he] at HG
   generalize fmt n = f at *
   have I := Inv.start w [] True.intro
   refine a0g [.v (.int .i64 n), .v (.int .i64 way)] I Tryz.func63 ?_
   refine zq I (fun Al W I => (HG W).out) fun Al W I => ?_
   by_cases h1 : way < 1
   · refine zb I 18 (decide (way < 1)) (true) (dTr h1) fun Al W I => ?_
     exact zrb I
   refine zb I 18 (decide (way < 1)) (false) (dFa h1) fun Al W I => ?_
   refine zb I 21 (decide (way > 5)) (true) (dTr (by omega)) fun Al W I => ?_
   exact zrb I
 · have he : g0u n = 6 := by unfold g0u; rw [if_neg hn]
   rw [he] at HG
   generalize fmt n = f at *
   have I := Inv.start w [] True.intro
   refine a0g [.v (.int .i64 n), .v (.int .i64 way)] I Tryz.func63 ?_
   refine zq I (fun Al W I => (HG W).out) fun Al W I => ?_
   exact zrb I
def m0s (f : Fm) (n way : Int) (w : World) (en : Ending) (w' : World) : Prop :=
 ∃ u, en = .returned (.tuple #[.pointer (some ⟨u, 0, none⟩), .int .i64 0]) ∧ w.heap.size ≤ u ∧ Bt w' u 182 #[.int .i64 n, .int .i64 way, .int .i64 f.g.rad, .int .i64 f.g.digs, .int .i64 f.g.lo, .int .i64 f.g.hi, .bool f.g.grad, .int .u8 (famB f), .int .i64 0] ∧ Below w.heap.size w w'
theorem t0f (n way : Int) (w : World) (hn : IsFm n) (hw : 1 ≤ way ∧ way ≤ 5) : Calls Tryz.prog 63 #[.int .i64 n, .int .i64 way] w (m0s (fmt n) n way w) := by
 have HG := fun W => hi0 (r0g n W)
 have he : g0u n = 0 := by unfold g0u; rw [if_pos hn]
 rw [he] at HG
 have G := b0m hn
 generalize fmt n = f at *
 have hrad := G.rad
 have hgr := G.grad
 by_cases f2 : f.fam = 2
 · have hBf : famB f = 66 := by unfold famB; rw [if_neg (by omega), if_pos f2]
   rw [if_pos f2] at hrad
   have I := Inv.start w [] True.intro
   refine a0g [.v (.int .i64 n), .v (.int .i64 way)] I Tryz.func63 ?_
   refine zq I (fun Al W I => (HG W).out) fun Al W I => ?_
   refine zb I 18 (decide (way < 1)) (false) (dFa (by omega)) fun Al W I => ?_
   refine zb I 21 (decide (way > 5)) (false) (dFa (by omega)) fun Al W I => ?_
   refine zb I 31 (f.g.rad == 16) (true) (beq_iff_eq.2 hrad) fun Al W I => ?_
   exact zret I (v := fun Al => .tuple #[.pointer (some ⟨(lk 0 Al 1), 0, none⟩), .int .i64 0]) fun Al W I => ⟨_, rfl, (I.geB 1), by rw [hBf]; exact (I.box 1 182 _), I.below⟩
 · rw [if_neg f2] at hrad
   by_cases f1 : f.fam = 1
   · have hBf : famB f = 65 := by unfold famB; rw [if_pos f1]
     rw [decide_eq_true f1] at hgr
     unfold m0s
     rw [hBf, hgr]
     simp only [hgr] at HG
     have I := Inv.start w [] True.intro
     refine a0g [.v (.int .i64 n), .v (.int .i64 way)] I Tryz.func63 ?_
     refine zq I (fun Al W I => (HG W).out) fun Al W I => ?_
     refine zb I 18 (decide (way < 1)) (false) (dFa (by omega)) fun Al W I => ?_
     refine zb I 21 (decide (way > 5)) (false) (dFa (by omega)) fun Al W I => ?_
     refine zb I 31 (f.g.rad == 16) (false) (bFn (by omega)) fun Al W I => ?_
     exact zret I fun Al W I => ⟨_, rfl, (I.geB 1), (I.box 1 182 _), I.below⟩
   · have hBf : famB f = 67 := by unfold famB; rw [if_neg f1, if_neg f2]
     rw [decide_eq_false f1] at hgr
     unfold m0s
     rw [hBf, hgr]
     simp only [hgr] at HG
     have I := Inv.start w [] True.intro
     refine a0g [.v (.int .i64 n), .v (.int .i64 way)] I Tryz.func63 ?_
     refine zq I (fun Al W I => (HG W).out) fun Al W I => ?_
     refine zb I 18 (decide (way < 1)) (false) (dFa (by omega)) fun Al W I => ?_
     refine zb I 21 (decide (way > 5)) (false) (dFa (by omega)) fun Al W I => ?_
     refine zb I 31 (f.g.rad == 16) (false) (bFn (by omega)) fun Al W I => ?_
     exact zret I fun Al W I => ⟨_, rfl, (I.geB 1), (I.box 1 182 _), I.below⟩
theorem l1c (n way fl : Int) (a : Vp) (r : Vr) (base u : Nat) (w : World) (U : Bt w u 182 #[.int .i64 n, .int .i64 way, .int .i64 (fmt n).g.rad, .int .i64 (fmt n).g.digs, .int .i64 (fmt n).g.lo, .int .i64 (fmt n).g.hi, .bool (fmt n).g.grad, .int .u8 (famB (fmt n)), .int .i64 fl]) (oa : Own w base .u32 141 a.p a.c (dig B32 a.v.d)) (hn : IsFm n) (V : VRep (fmt n) a.v r) (R : ResF (fmt n) r) (hT : TabW w) :
 Calls Tryz.prog 68 #[.pointer (some ⟨u, 0, none⟩), .agg #[.int .i64 (a.v.cls : Int), .bool a.v.neg, .slice a.p (dig B32 a.v.d).length a.c, .int .i64 a.v.pow]] w fun en w' => en = .returned (.tuple #[.string (b0a ((fmt n).strP ((fmt n).encP r.cls r.neg r.x))), .int .i64 fl, .int .i64 0]) ∧ Below w.heap.size w w' := by
 have HE := fun W (h1 : Own W base .u32 141 a.p a.c (dig B32 a.v.d)) h2 => hi0 (k0j n (a.v.cls : Int) (dinV a.v a.p a.c) W (a1w h1 V.len) h2)
 obtain ⟨e1, e2⟩ := f1s R V a.p a.c
 unfold k0i m0n at HE
 rw [if_pos hn, e1, e2] at HE
 simp only [if_true] at HE
 have HE2 : ∀ W, Own W base .u32 141 a.p a.c (dig B32 a.v.d) → TabW W → Hid (Calls Tryz.prog 42 #[.int .i64 n, .agg #[.int .i64 (a.v.cls : Int), .bool a.v.neg, .slice a.p (dig B32 a.v.d).length a.c, .int .i64 a.v.pow]] W fun en w' => en = .returned (.tuple #[.string (b0a ((fmt n).strP ((fmt n).encP r.cls r.neg r.x))), .int .i64 0]) ∧ Below W.heap.size W w') := HE
 clear HE e1 e2 V R
 generalize b0a ((fmt n).strP ((fmt n).encP r.cls r.neg r.x)) = s at *
 generalize fmt n = f at *
 have I := Inv.startR w [u] [⟨182, (uS f n way fl), true⟩] [ownF base .u32 141 a.p a.c (dig B32 a.v.d), tabF] ⟨U, True.intro⟩ ⟨oa, hT, True.intro⟩
 refine a0g [.p 0 0, .v (.agg #[.int .i64 (a.v.cls : Int), .bool a.v.neg, .slice a.p (dig B32 a.v.d).length a.c, .int .i64 a.v.pow])] I Tryz.func68 ?_
 refine zd [] I fun Al W I => ?_
 refine zk [0, 1, 2, 3, 4] I fun I => ?_
 refine zo 5 I fun I => ?_
 refine zq I (fun Al W I => (HE2 W I.fa.1 I.fa.2.1).out) fun Al W I => ?_
 refine zk [6, 7, 8, 9, 10] I fun I => ?_
 refine zd [] I fun Al W I => ?_
 refine zk [0, 1, 2, 3, 4, 5, 6, 7] I fun I => ?_
 exact zrb I
end Go.Proofs.YtmacohmclpnphaaGreatDoor
namespace Go.Slip
open Go.RowKit
theorem b1e {P : Program} {w : World} {b : Nat} {t : TypeId} {vs : Array Value} (h : Bt w b t vs) {ty : TypeId} (hT : e0a P ty) {m : Nat} (v : Value) (hv : vs[m]? = some v) : (VO.ld ty (.pointer (some (at_ (some ⟨b, 0, none⟩) m)))).sem.run P w = .ok v w := by
 have := s0d h hT m v hv
 show (Instr.loadAt _ _).run P w = _
 unfold at_
 simpa using this
end Go.Slip
namespace Go.Proofs.YtmacohmclpnphaaGreatDoor
open Go.RowKit Go.Slip
def w0r (b : Nat) (xs : List Vp) : PF :=
 ⟨fun w => ∀ x, x ∈ xs → Own w b .u32 141 x.p x.c (dig B32 x.v.d), fun a => ∃ x, x ∈ xs ∧ x.p.isSome = true ∧ blk x.p = a, fun _ _ h hb _ x hx => (h x hx).same fun hp => hb _ ((h x hx).blk_lt hp).2 ⟨x, hx, hp, rfl⟩, fun _ _ h ⟨x, hx, hp, hf⟩ => hf ▸ ((h x hx).blk_lt hp).2⟩
theorem b1f {w : World} {b : Nat} {xs : List Vp} {v : Vl} {p : Option Addr} {c : Nat} (h : ∀ x, x ∈ xs → Own w b .u32 141 x.p x.c (dig B32 x.v.d)) (o : Own w b .u32 141 p c (dig B32 v.d)) : ∀ x, x ∈ xs ++ [⟨v, p, c⟩] → Own w b .u32 141 x.p x.c (dig B32 x.v.d) := fun x hx => by
 rw [List.mem_append, List.mem_singleton] at hx
 rcases hx with hx | rfl
 · exact h x hx
 · exact o
theorem e1i {b a : Nat} {xs : List Vp} {v : Vl} {p : Option Addr} {c : Nat} (h : (w0r b (xs ++ [⟨v, p, c⟩])).foot a) (h1 : ∀ x, (x ∈ xs ∧ x.p.isSome = true ∧ blk x.p = a) → False) (h2 : p.isSome = true → blk p = a → False) : False := by
 obtain ⟨x, hx, h3, h4⟩ := h
 rw [List.mem_append, List.mem_singleton] at hx
 rcases hx with hx | rfl
 · exact h1 x ⟨hx, h3, h4⟩
 · exact h2 h3 h4
theorem l1d : k0s Tryz.prog 96 9 (.string ByteArray.empty) 16 := tyV (by kernel_rfl) (by kernel_rfl) (by omega) rfl rfl
theorem l1e : e0a Tryz.prog 9 := c0p (by kernel_rfl) (by kernel_rfl)
def errL (n : Int) : List ByteArray → Int
 | [] => 0
 | s :: r => if b0c n s = 0 then errL n r else b0c n s
theorem b1g (n : Int) : ∀ (L : List ByteArray), errL n L ≠ 0 → ∃ (j : Nat) (s : ByteArray), L[j]? = some s ∧ errL n L = b0c n s ∧ b0c n s ≠ 0 ∧ ∀ i t, i < j → L[i]? = some t → b0c n t = 0
 | [], h => absurd rfl h
 | s :: r, h => by
  unfold errL at h ⊢
  by_cases hs : b0c n s = 0
  · rw [if_pos hs] at h ⊢
    obtain ⟨j, t, h1, h2, h3, h4⟩ := b1g n r h
    refine ⟨j + 1, t, by simpa using h1, h2, h3, fun i u hi hu => ?_⟩
    cases i with
    | zero => simp only [List.getElem?_cons_zero, Option.some.injEq] at hu; rw [← hu]; exact hs
    | succ i => exact h4 i u (by omega) (by simpa using hu)
  · rw [if_neg hs]
    exact ⟨0, s, rfl, rfl, hs, fun i t hi => by omega⟩
theorem e0n (n : Int) : ∀ {L : List ByteArray}, errL n L = 0 → ∀ s, s ∈ L → b0c n s = 0
 | [], _, s, h => by simp at h
 | t :: r, h, s, hs => by
  unfold errL at h
  by_cases ht : b0c n t = 0
  · rw [if_pos ht] at h
    rcases List.mem_cons.1 hs with rfl | hs
    · exact ht
    · exact e0n n h s hs
  · rw [if_neg ht] at h
    exact absurd h ht
def i1h (n : Int) (w : World) (L : List ByteArray) (en : Ending) (w' : World) : Prop :=
 ∃ (xs : List Vp) (vs : List Value) (p : Option Addr) (c : Nat), en = .returned (.tuple #[.slice p L.length c, .int .i64 0]) ∧ xs.map (·.v) = L.map (decP n) ∧ vs = xs.flatMap Vp.cells ∧ OwnS w' w.heap.size 75 4 p c L.length vs ∧ (∀ x, x ∈ xs → Own w' w.heap.size .u32 141 x.p x.c (dig B32 x.v.d)) ∧ Below w.heap.size w w'
theorem u0z (n way fl : Int) (L : List ByteArray) (b m u : Nat) (w : World) (U : Bt w u 182 #[.int .i64 n, .int .i64 way, .int .i64 (fmt n).g.rad, .int .i64 (fmt n).g.digs, .int .i64 (fmt n).g.lo, .int .i64 (fmt n).g.hi, .bool (fmt n).g.grad, .int .u8 (famB (fmt n)), .int .i64 fl]) (hB0 : Bt w b 9 (L.map Value.string).toArray) (hm : m = L.length) (hl : L.length ≤ 1000) (h0 : errL n L = 0) (hT : TabW w) :
 Calls Tryz.prog 113 #[.pointer (some ⟨u, 0, none⟩), .slice (some ⟨b, 0, none⟩) m m] w (i1h n w L) := by
 subst hm
 have HX : ∀ i, i < L.length → ∃ s : ByteArray, L[i]? = some s ∧ b0c n s = 0 ∧ (L.map Value.string).toArray[i]? = some (.string s) ∧ L.take (i + 1) = L.take i ++ [s] := fun i h => ⟨L[i], List.getElem?_eq_getElem h, e0n n h0 _ (List.getElem_mem h), by simp [h], by rw [List.take_add_one, List.getElem?_eq_getElem h]; rfl⟩
 have HD := fun s W h => hi0 (h0q n s W h)
 generalize fmt n = f at *
 have I := Inv.startW w u 182 (uS f n way fl) [btF b 9 (L.map Value.string).toArray, tabF] U ⟨hB0, hT, True.intro⟩ ⟨fun hf => hB0.far U (by kernel_rfl) hf, fun hf => hT.far U (by kernel_rfl) hf, True.intro⟩
 refine a0g [.p 0 0, .v (.slice (some ⟨b, 0, none⟩) L.length L.length)] I Tryz.func113 ?_
 have I := I.add (g0k w.heap.size 75 4 none 0 0 []) (OwnS.nil _ _ _ _) (fun _ _ h => by cases h.1)
 have I := I.add (w0r w.heap.size []) (fun _ h => by cases h) (fun _ _ ⟨_, h, _⟩ => by cases h)
 refine y0u I (fun gk fr bx gs => ∃ (U900 : Nat → Value) (i : Nat) (p6 : Option Addr) (c6 : Nat) (xs : List Vp) (vs : List Value), fr = (.p 0 0 :: .v (.slice (some ⟨b, 0, none⟩) L.length L.length) :: su 2 (sw U900 4 2 (.v (.slice p6 i c6) :: .v undef :: sw U900 8 3 (.v (.slice (some ⟨b, 0, none⟩) L.length L.length) :: .v (.int .i64 (L.length : Int)) :: .v (.int .i64 (i : Int)) :: sw U900 14 21 []))) : List SV) ∧ bx = [⟨182, (uS f n way fl), false⟩] ∧ gs = [w0r w.heap.size xs, g0k w.heap.size 75 4 p6 c6 i vs, btF b 9 (L.map Value.string).toArray, tabF] ∧ (gk + i = L.length) ∧ (vs = xs.flatMap Vp.cells) ∧ (xs.map (·.v) = (L.take i).map (decP n))) L.length (fun Al W U I => ⟨_, ⟨U, 0, none, 0, [], [], rfl, rfl, rfl, (by omega), rfl, rfl⟩, I.pick [0, 1, 2, 3]⟩) ?_
 rintro J gk0 _ _ _ ⟨U900, i, p6, c6, xs, vs, rfl, rfl, rfl, hgk, hvs, hxs⟩ hJ Al W I
 rcases Bool.eq_false_or_eq_true (decide ((i : Int) < (L.length : Int))) with f14 | f14
 · refine zb I 14 (decide ((i : Int) < (L.length : Int))) (true) (f14) fun Al W I => ?_
   obtain ⟨s, hs, hse, hsv, hst⟩ := HX i (by have := oTr f14; omega)
   refine zx I 15 (fun _ => .pointer (some (at_ (some ⟨b, 0, none⟩) i))) (fun Al W I => (z0b (m := i) (n := L.length) (c := L.length) l1d (fun _ => ⟨rfl, rfl⟩) (by have := oTr f14; omega))) fun Al W I => ?_
   refine zx I 16 (fun _ => .string s) (fun Al W I => (b1e I.fa.2.2.1 l1e _ hsv)) fun Al W I => ?_
   refine zqo I (fun Al W I => (HD s W I.fa.2.2.2.1).out) fun Al W p23 c23 I => ?_
   refine zb I 27 ((b0c n s) != 0) (false) (bne_eq_false_iff_eq.2 hse) fun Al W I => ?_
   have I := I.pick [2, 0, 1, 3, 4]
   refine zap I h0w 2 1 (fun Al => [.int .i64 (((decP n s).cls : Nat) : Int), .bool ((decP n s).neg), .slice p23 (dig B32 (decP n s).d).length c23, .int .i64 ((decP n s).pow)]) (fun Al W I => I.box 2 75 _) (by omega) (fun Al W I hp => ⟨I.fa.1.apart I.fa.2.1 (by kernel_rfl) hp, fun ⟨x, hx, h⟩ => I.fa.1.apart (I.fa.2.2.1 x hx) (by kernel_rfl) hp h, fun e => I.fa.1.far I.fa.2.2.2.1 (by kernel_rfl) hp (Eq.symm e), fun e => by have h1 := (I.fa.1.blk_lt hp).1; have h2 := hT.2; have e : 0 = _ := e; omega, True.intro⟩) fun Al W p32 c32 hq_32 I => ?_
   have I := I.add (w0r w.heap.size (xs ++ [(⟨decP n s, p23, c23⟩ : Vp)])) (b1f I.fa.2.2.1 I.fa.2.1) (fun a ha h => e1i h ((fun a ha h0 e => (I.far a ha).2.2.1 ⟨h0, e⟩) a ha) ((fun a ha h0 e => (I.far a ha).2.1 ⟨h0, e⟩) a ha))
   refine zi I 33 .i64 ((i : Int) + 1) (((i + 1 : Nat) : Int)) ((by rw [show ((i : Int) + 1) = ((i + 1 : Nat) : Int) by omega]; exact IntWalk.i64_in _ (by have := oTr f14; omega))) fun Al W I => ?_
   exact u0j 1 I J fun Al W U I => hJ (gk0 - 1) _ _ _ _ _ ((by have := oTr f14; omega)) ⟨U, i + 1, p32, c32, xs ++ [(⟨decP n s, p23, c23⟩ : Vp)], _, rfl, rfl, rfl, (by have := oTr f14; omega), (by rw [hvs, List.flatMap_append]; rfl), (by rw [hst, List.map_append, List.map_append, hxs]; rfl)⟩ (I.pick [0, 1, 4, 5])
 refine zb I 14 (decide ((i : Int) < (L.length : Int))) (false) (f14) fun Al W I => ?_
 have hi : i = L.length := by have := oFa f14; omega
 exact zret I (v := fun Al => .tuple #[.slice p6 i c6, .int .i64 0]) fun Al W I => ⟨xs, vs, p6, c6, by rw [hi], by rw [hxs, hi, List.take_length], hvs, hi ▸ I.fa.2.1, I.fa.1, I.bel.toBelow U (I.boxE 182 _)⟩
theorem _root_.Go.Slip.Inv.ownl {E : List Nat} {w0 : World} {A : List Nat} {bx : List Box} {fs : List PF} {W : World} (I : Inv E w0 A bx fs W) {b : Nat} {xs : List Vp} (o : ∀ x, x ∈ xs → Own W b .u32 141 x.p x.c (dig B32 x.v.d)) (hb : w0.heap.size ≤ b := by first | exact Nat.le_refl _ | assumption | omega) (hne : q0p 141 bx = true := by kernel_rfl) :
 Inv E w0 A bx (w0r w0.heap.size xs :: fs) W :=
 I.add (w0r w0.heap.size xs) (fun x hx => (o x hx).mono hb) fun a ha ⟨x, hx, hf1, hf2⟩ => by
  obtain ⟨j, hj, _, rfl⟩ := ha
  exact (o x hx).far (I.bt j hj) (g0z hne j hj) hf1 hf2
theorem r0h (n way fl : Int) (L : List ByteArray) (b m u : Nat) (w : World) (U : Bt w u 182 #[.int .i64 n, .int .i64 way, .int .i64 (fmt n).g.rad, .int .i64 (fmt n).g.digs, .int .i64 (fmt n).g.lo, .int .i64 (fmt n).g.hi, .bool (fmt n).g.grad, .int .u8 (famB (fmt n)), .int .i64 fl]) (hB0 : Bt w b 9 (L.map Value.string).toArray) (hm : m = L.length) (hl : L.length ≤ 1000) (h0 : errL n L ≠ 0) (hT : TabW w) :
 Calls Tryz.prog 113 #[.pointer (some ⟨u, 0, none⟩), .slice (some ⟨b, 0, none⟩) m m] w fun en w' => en = .returned (.tuple #[.slice none 0 0, .int .i64 (errL n L)]) ∧ Below w.heap.size w w' := by
 subst hm
 obtain ⟨j, sj, hj, he, hne, hlt⟩ := b1g n L h0
 have hjl : j < L.length := (List.getElem?_eq_some_iff.1 hj).1
 rw [he]
 have HX : ∀ i, i < L.length → ∃ s : ByteArray, (L.map Value.string).toArray[i]? = some (.string s) ∧ (i < j → b0c n s = 0) ∧ (i = j → b0c n s = b0c n sj) := fun i h => ⟨L[i], by simp [h], fun k => hlt i _ k (List.getElem?_eq_getElem h), fun k => by subst k; rw [List.getElem?_eq_getElem h] at hj; cases hj; rfl⟩
 have HD := fun s W h => hi0 (h0q n s W h)
 clear he h0 hlt hj
 generalize b0c n sj = er at *
 generalize fmt n = f at *
 have I := Inv.startW w u 182 (uS f n way fl) [btF b 9 (L.map Value.string).toArray, tabF] U ⟨hB0, hT, True.intro⟩ ⟨fun hf => hB0.far U (by kernel_rfl) hf, fun hf => hT.far U (by kernel_rfl) hf, True.intro⟩
 refine a0g [.p 0 0, .v (.slice (some ⟨b, 0, none⟩) L.length L.length)] I Tryz.func113 ?_
 have I := I.add (g0k w.heap.size 75 4 none 0 0 []) (OwnS.nil _ _ _ _) (fun _ _ h => by cases h.1)
 refine y0u I (fun gk fr bx gs => ∃ (U900 : Nat → Value) (i : Nat) (p6 : Option Addr) (c6 : Nat) (vs : List Value), fr = (.p 0 0 :: .v (.slice (some ⟨b, 0, none⟩) L.length L.length) :: su 2 (sw U900 4 2 (.v (.slice p6 i c6) :: .v undef :: sw U900 8 3 (.v (.slice (some ⟨b, 0, none⟩) L.length L.length) :: .v (.int .i64 (L.length : Int)) :: .v (.int .i64 (i : Int)) :: sw U900 14 21 []))) : List SV) ∧ bx = [⟨182, (uS f n way fl), false⟩] ∧ gs = [g0k w.heap.size 75 4 p6 c6 i vs, btF b 9 (L.map Value.string).toArray, tabF] ∧ (gk + i = L.length) ∧ (i ≤ j)) L.length (fun Al W U I => ⟨_, ⟨U, 0, none, 0, [], rfl, rfl, rfl, (by omega), (by omega)⟩, I.pick [0, 1, 2]⟩) ?_
 rintro J gk0 _ _ _ ⟨U900, i, p6, c6, vs, rfl, rfl, rfl, hgk, hij⟩ hJ Al W I
 rcases Bool.eq_false_or_eq_true (decide ((i : Int) < (L.length : Int))) with f14 | f14
 · refine zb I 14 (decide ((i : Int) < (L.length : Int))) (true) (f14) fun Al W I => ?_
   obtain ⟨s, hsv, hs0, hse⟩ := HX i (by have := oTr f14; omega)
   refine zx I 15 (fun _ => .pointer (some (at_ (some ⟨b, 0, none⟩) i))) (fun Al W I => (z0b (m := i) (n := L.length) (c := L.length) l1d (fun _ => ⟨rfl, rfl⟩) (by have := oTr f14; omega))) fun Al W I => ?_
   refine zx I 16 (fun _ => .string s) (fun Al W I => (b1e I.fa.2.1 l1e _ hsv)) fun Al W I => ?_
   refine zqo I (fun Al W I => (HD s W I.fa.2.2.1).out) fun Al W p23 c23 I => ?_
   by_cases hij2 : i = j
   · refine zb I 27 ((b0c n s) != 0) (true) (bne_iff_ne.2 (by rw [hse hij2]; exact hne)) fun Al W I => ?_
     exact zret I (v := fun Al => .tuple #[.slice none 0 0, .int .i64 (b0c n s)]) fun Al W I => ⟨by rw [hse hij2], I.bel.toBelow U (I.boxE 182 _)⟩
   refine zb I 27 ((b0c n s) != 0) (false) (bne_eq_false_iff_eq.2 (hs0 (by omega))) fun Al W I => ?_
   have I := I.pick [1, 0, 2, 3]
   refine zap I h0w 2 1 (fun Al => [.int .i64 (((decP n s).cls : Nat) : Int), .bool ((decP n s).neg), .slice p23 (dig B32 (decP n s).d).length c23, .int .i64 ((decP n s).pow)]) (fun Al W I => I.box 2 75 _) (by omega) (fun Al W I hp => ⟨I.fa.1.apart I.fa.2.1 (by kernel_rfl) hp, fun e => I.fa.1.far I.fa.2.2.1 (by kernel_rfl) hp (Eq.symm e), fun e => by have h1 := (I.fa.1.blk_lt hp).1; have h2 := hT.2; have e : 0 = _ := e; omega, True.intro⟩) fun Al W p32 c32 hq_32 I => ?_
   refine zi I 33 .i64 ((i : Int) + 1) (((i + 1 : Nat) : Int)) ((by rw [show ((i : Int) + 1) = ((i + 1 : Nat) : Int) by omega]; exact IntWalk.i64_in _ (by have := oTr f14; omega))) fun Al W I => ?_
   exact u0j 1 I J fun Al W U I => hJ (gk0 - 1) _ _ _ _ _ ((by have := oTr f14; omega)) ⟨U, i + 1, p32, c32, _, rfl, rfl, rfl, (by have := oTr f14; omega), (by omega)⟩ (I.pick [0, 2, 3])
 refine zb I 14 (decide ((i : Int) < (L.length : Int))) (false) (f14) fun Al W I => ?_
 exact zret I (v := fun Al => .tuple #[.slice p6 i c6, .int .i64 0]) fun Al W I => absurd (oFa f14) (by rw [Classical.not_not]; omega)
def errR (n way : Int) (L : List ByteArray) : Int := if IsFm n then (if errL n L = 0 then (if 1 ≤ way ∧ way ≤ 5 then 0 else 6) else errL n L) else 6
def t0g (n way : Int) (L : List ByteArray) (fn : FuncId) (R : Vr × Nat) : Prop :=
 ∀ (xs : List Vp) (vs : List Value) (p : Option Addr) (c base u : Nat) (W : World), xs.map (·.v) = L.map (decP n) → vs = xs.flatMap Vp.cells → OwnS W base 75 4 p c L.length vs → (∀ x, x ∈ xs → Own W base .u32 141 x.p x.c (dig B32 x.v.d)) →
  Bt W u 182 #[.int .i64 n, .int .i64 way, .int .i64 (fmt n).g.rad, .int .i64 (fmt n).g.digs, .int .i64 (fmt n).g.lo, .int .i64 (fmt n).g.hi, .bool (fmt n).g.grad, .int .u8 (famB (fmt n)), .int .i64 0] → TabW W → base ≤ W.heap.size →
  Calls Tryz.prog fn #[.pointer (some ⟨u, 0, none⟩), .slice p L.length c] W (d0c (fmt n) n way u W base R)
def strR (n : Int) (r : Vr) : ByteArray := b0a ((fmt n).strP ((fmt n).encP r.cls r.neg r.x))
theorem n0x (n way : Int) (L : List ByteArray) (fn : FuncId) (R : Vr × Nat) (b m : Nat) (w : World) (hB0 : Bt w b 9 (L.map Value.string).toArray) (hm : m = L.length) (hl : L.length ≤ 1000) (hT : TabW w)
 (hfn : ∀ args w, (callFunc fn args).run Tryz.prog w = .ok (.enter fn args) w) (h0 : errR n way L = 0) (HD : t0g n way L fn R) (HR : ResF (fmt n) R.1) :
 Calls Tryz.prog 46 #[.int .i64 n, .int .i64 way, .func (.func fn) #[] #[], .slice (some ⟨b, 0, none⟩) m m] w fun en w' => en = .returned (.tuple #[.string (strR n R.1), .int .i64 ((R.2 : Nat) : Int), .int .i64 0]) ∧ Below w.heap.size w w' := by
 subst hm
 have hn : IsFm n := by unfold errR at h0; split at h0; assumption; omega
 unfold errR at h0
 rw [if_pos hn] at h0
 have hL : errL n L = 0 := by split at h0; assumption; contradiction
 rw [if_pos hL] at h0
 have hw : 1 ≤ way ∧ way ≤ 5 := by split at h0; assumption; omega
 clear h0
 obtain ⟨r, fl⟩ := R
 simp only at HR ⊢
 have HO1 := fun W => hi0 (t0f n 1 W hn (by omega))
 have HO2 := fun W => hi0 (t0f n way W hn hw)
 have HDe := fun W u h1 h2 h3 => hi0 (u0z n 1 0 L b L.length u W h1 h2 rfl hl hL h3)
 have HDo := fun xs vs p c base u W h1 h2 h3 h4 h5 h6 h7 => hi0 (HD xs vs p c base u W h1 h2 h3 h4 h5 h6 h7)
 have HT := fun W (v : Vl) p c base u h1 h2 h3 h4 => hi0 (l1c n way (fl : Int) ⟨v, p, c⟩ r base u W h1 h2 hn h3 HR h4)
 have hs : strR n r = b0a ((fmt n).strP ((fmt n).encP r.cls r.neg r.x)) := rfl
 rw [← hs] at HT
 clear hs
 generalize strR n r = s at *
 generalize fmt n = f at *
 have I := Inv.start w [btF b 9 (L.map Value.string).toArray, tabF] ⟨hB0, hT, True.intro⟩
 refine a0g [.v (.int .i64 n), .v (.int .i64 way), .v (.func (.func fn) #[] #[]), .v (.slice (some ⟨b, 0, none⟩) L.length L.length)] I Tryz.func46 ?_
 refine zg I (fun Al W I => (HO1 W).out) fun Al V Iv _ hB _ kz => ?_
 rintro _ W ⟨u16, rfl, hge, hB, hb⟩
 refine ⟨_, rfl, kz _ _ hb fun I => ?_⟩
 refine c1p Iv hb 0 u16 182 [(.int .i64 n), (.int .i64 1), (.int .i64 f.g.rad), (.int .i64 f.g.digs), (.int .i64 f.g.lo), (.int .i64 f.g.hi), (.bool f.g.grad), (.int .u8 (famB f)), (.int .i64 0)] hge hB fun Al hAl_16 I => ?_
 refine c1q I 17 0 u16 hAl_16 fun Al W I => ?_
 refine zg I (fun Al W I => (HDe W _ (I.box 0 182 _) I.fa.1 I.fa.2.1).out) fun Al V Iv _ hB _ kz => ?_
 rintro _ W ⟨xs, vs, p25, c25, rfl, hxs, hvs, oS, oL, hb⟩
 refine ⟨_, rfl, kz _ _ hb fun I => ?_⟩
 have I := I.owns oS
 have I := I.ownl oL
 refine zg I (fun Al W I => (HO2 W).out) fun Al V Iv _ hB _ kz => ?_
 rintro _ W ⟨u34, rfl, hge, hB, hb⟩
 refine ⟨_, rfl, kz _ _ hb fun I => ?_⟩
 refine c1p Iv hb 1 u34 182 [(.int .i64 n), (.int .i64 way), (.int .i64 f.g.rad), (.int .i64 f.g.digs), (.int .i64 f.g.lo), (.int .i64 f.g.hi), (.bool f.g.grad), (.int .u8 (famB f)), (.int .i64 0)] hge hB fun Al hAl_34 I => ?_
 refine c1q I 35 1 u34 hAl_34 fun Al W I => ?_
 refine zgfe (hf := hfn) I 1 182 (fun Al W I => (HDo xs vs p25 c25 _ _ W hxs hvs I.fa.2.1 I.fa.1 (I.box 1 182 _) I.fa.2.2.2.1 I.bel.size).out) fun Al V Iv _ _ kz => ?_
 rintro _ W ⟨v44, hR44, p44, c44, rfl, o44, hO, hB⟩
 refine ⟨_, rfl, kz _ (uS f n way (fl : Int)) _ hO hB fun I => ?_⟩
 have I := I.own o44
 refine zq I (fun Al W I => (HT W v44 p44 c44 _ _ (I.box 1 182 _) I.fa.1 hR44 I.fa.2.2.2.2.1).out) fun Al W I => ?_
 exact zrb I
theorem k0k (n way : Int) (L : List ByteArray) (fn : FuncId) (b m : Nat) (w : World) (hB0 : Bt w b 9 (L.map Value.string).toArray) (hm : m = L.length) (hl : L.length ≤ 1000) (hT : TabW w) (h0 : errR n way L ≠ 0) :
 Calls Tryz.prog 46 #[.int .i64 n, .int .i64 way, .func (.func fn) #[] #[], .slice (some ⟨b, 0, none⟩) m m] w fun en w' => en = .returned (.tuple #[.string (b0a []), .int .i64 0, .int .i64 (errR n way L)]) ∧ Below w.heap.size w w' := by
 subst hm
 unfold errR at h0 ⊢
 by_cases hn : IsFm n
 · rw [if_pos hn] at h0 ⊢
   have HO1 := fun W => hi0 (t0f n 1 W hn (by omega))
   by_cases hL : errL n L = 0
   · rw [if_pos hL] at h0 ⊢
     have hw : ¬ (1 ≤ way ∧ way ≤ 5) := fun h => h0 (if_pos h)
     rw [if_neg hw]
     have HO2 := fun W => hi0 (u0y n way W (fun h => hw h.2))
     have HDe := fun W u h1 h2 h3 => hi0 (u0z n 1 0 L b L.length u W h1 h2 rfl hl hL h3)
     generalize fmt n = f at *
     have I := Inv.start w [btF b 9 (L.map Value.string).toArray, tabF] ⟨hB0, hT, True.intro⟩
     refine a0g [.v (.int .i64 n), .v (.int .i64 way), .v (.func (.func fn) #[] #[]), .v (.slice (some ⟨b, 0, none⟩) L.length L.length)] I Tryz.func46 ?_
     refine zg I (fun Al W I => (HO1 W).out) fun Al V Iv _ hB _ kz => ?_
     rintro _ W ⟨u16, rfl, hge, hB, hb⟩
     refine ⟨_, rfl, kz _ _ hb fun I => ?_⟩
     refine c1p Iv hb 0 u16 182 [(.int .i64 n), (.int .i64 1), (.int .i64 f.g.rad), (.int .i64 f.g.digs), (.int .i64 f.g.lo), (.int .i64 f.g.hi), (.bool f.g.grad), (.int .u8 (famB f)), (.int .i64 0)] hge hB fun Al hAl_16 I => ?_
     refine c1q I 17 0 u16 hAl_16 fun Al W I => ?_
     refine zg I (fun Al W I => (HDe W _ (I.box 0 182 _) I.fa.1 I.fa.2.1).out) fun Al V Iv _ hB _ kz => ?_
     rintro _ W ⟨xs, vs, p25, c25, rfl, hxs, hvs, oS, oL, hb⟩
     refine ⟨_, rfl, kz _ _ hb fun I => ?_⟩
     have I := I.owns oS
     have I := I.ownl oL
     refine zq I (fun Al W I => (HO2 W).out) fun Al W I => ?_
     exact zrb I
   · rw [if_neg hL] at h0 ⊢
     have HDe := fun W u h1 h2 h3 => hi0 (r0h n 1 0 L b L.length u W h1 h2 rfl hl hL h3)
     generalize errL n L = er at *
     generalize fmt n = f at *
     have I := Inv.start w [btF b 9 (L.map Value.string).toArray, tabF] ⟨hB0, hT, True.intro⟩
     refine a0g [.v (.int .i64 n), .v (.int .i64 way), .v (.func (.func fn) #[] #[]), .v (.slice (some ⟨b, 0, none⟩) L.length L.length)] I Tryz.func46 ?_
     refine zg I (fun Al W I => (HO1 W).out) fun Al V Iv _ hB _ kz => ?_
     rintro _ W ⟨u16, rfl, hge, hB, hb⟩
     refine ⟨_, rfl, kz _ _ hb fun I => ?_⟩
     refine c1p Iv hb 0 u16 182 [(.int .i64 n), (.int .i64 1), (.int .i64 f.g.rad), (.int .i64 f.g.digs), (.int .i64 f.g.lo), (.int .i64 f.g.hi), (.bool f.g.grad), (.int .u8 (famB f)), (.int .i64 0)] hge hB fun Al hAl_16 I => ?_
     refine c1q I 17 0 u16 hAl_16 fun Al W I => ?_
     refine zq I (fun Al W I => (HDe W _ (I.box 0 182 _) I.fa.1 I.fa.2.1).out) fun Al W I => ?_
     refine zb I 29 (er != 0) (true) (bne_iff_ne.2 hL) fun Al W I => ?_
     exact zrb I
 · rw [if_neg hn]
   have HO1 := fun W => hi0 (u0y n 1 W (fun h => hn h.1))
   have I := Inv.start w [] True.intro
   refine a0g [.v (.int .i64 n), .v (.int .i64 way), .v (.func (.func fn) #[] #[]), .v (.slice (some ⟨b, 0, none⟩) L.length L.length)] I Tryz.func46 ?_
   refine zq I (fun Al W I => (HO1 W).out) fun Al W I => ?_
   exact zrb I
end Go.Proofs.YtmacohmclpnphaaGreatDoor
