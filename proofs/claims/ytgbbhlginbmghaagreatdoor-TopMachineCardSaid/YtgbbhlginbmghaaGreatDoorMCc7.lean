/- Arithmetic in a format: which results a format can hold, and how they are encoded. -/
import Derived.Deep.LoopGhost
import Derived.Deep.RegionHeld3
import Derived.Lib.Strings
import Derived.Lib.Slices
import Derived.Lib.Small
import Derived.Lib.Walk
import Derived.Lib.BitFns
import Derived.Test.YtgbbhlginbmghaaGreatDoorMCc1
import Derived.Test.YtgbbhlginbmghaaGreatDoorMCc2
import Derived.Test.YtgbbhlginbmghaaGreatDoorMCc3
import Derived.Test.YtgbbhlginbmghaaGreatDoorMCc4
import Derived.Test.YtgbbhlginbmghaaGreatDoorMCc5
import Derived.Test.YtgbbhlginbmghaaGreatDoorMCc6
set_option maxHeartbeats 8000000
set_option maxRecDepth 100000
namespace Go.Proofs.YtgbbhlginbmghaaGreatDoor
open Go.RowKit Go.Slip
structure ResF (f : Fm) (r : Vr) : Prop where
 c : 1 ≤ r.cls ∧ r.cls ≤ 5
 c1 : r.cls = 1 → r.neg = true → f.fam ≠ 3
 c2 : r.cls = 2 → a0s r.x f.g = true ∧ Bare r.x ∧ r.x.m ≠ 0 ∧ r.x.neg = r.neg
 c3 : r.cls = 3 → f.fam = 1
 c4 : r.cls = 4 → f.fam = 1 ∧ r.neg = false
 c5 : r.cls = 5 → f.fam = 3 ∧ r.neg = false
 x0 : r.cls ≠ 2 → r.x = vz
structure VRep (f : Fm) (v : Vl) (r : Vr) : Prop where
 cls : v.cls = r.cls
 neg : v.neg = r.neg
 num : r.cls = 2 → bare ⟨v.neg, v.d, wid f.g * v.pow⟩ = r.x
 oth : r.cls ≠ 2 → v.d = 0 ∧ v.pow = 0
 len : (dig B32 v.d).length ≤ 1000
 lo : -20000 ≤ v.pow
 hi : v.pow ≤ 20000
theorem t1j {f : Fm} {v : Vl} {r : Vr} (R : ResF f r) (V : VRep f v r) (p : OA) (c : Nat) :
 c0h f (v.cls : Int) (dinV v p c) = 0 ∧ q0o f (v.cls : Int) (dinV v p c) = a0d (f.strP (f.encP r.cls r.neg r.x)) := by
 have hinf : f.inf = false ↔ f.fam ≠ 1 := by unfold Fm.inf; simp
 have hres : f.res = false ↔ f.fam ≠ 3 := by unfold Fm.res; simp
 have hres1 : f.res = true ↔ f.fam = 3 := by unfold Fm.res; simp
 have hc := R.c
 have hcl := V.cls
 have hlo := V.lo
 have hhi := V.hi
 have hE : b0b (dinV v p c).xs = 0 := s0z (by have := V.len; omega)
 have hN : r.cls = 2 → numD f (dinV v p c) = r.x := fun h => by
  rw [← V.num h]
  unfold numD dinV
  simp only [b0o a0b]
 refine ⟨?_, ?_⟩
 · unfold c0h
   rw [if_neg (by omega), if_neg (by omega), if_neg]
   · by_cases h2 : r.cls = 2
     · obtain ⟨i1, i2, i3, i4⟩ := R.c2 h2
       rw [if_pos (by omega), if_neg (by show ¬ (v.pow < _ ∨ _ < v.pow); omega), hN h2, i1, if_neg]
       rintro (h | h)
       · have h0 : v.d = 0 := (a0h a0b _).1 h
         have := V.num h2
         rw [h0] at this
         exact i3 (by rw [← this]; rfl)
       · cases h
     · obtain ⟨o1, o2⟩ := V.oth h2
       rw [if_neg (by omega), if_neg]
       rintro (h | h | ⟨h, k⟩)
       · have : (dig B32 v.d).length = 0 := by rw [o1, a0e]; rfl
         have h : 0 < (dig B32 v.d).length := h
         omega
       · exact h o2
       · have hg : r.neg = true := by rw [← V.neg]; exact h
         have k4 := R.c4
         have k5 := R.c5
         rw [hg] at k4 k5
         rcases k with k | k
         · rcases (show r.cls = 4 ∨ r.cls = 5 by omega) with q | q
           · exact absurd (k4 q).2 (by decide)
           · exact absurd (k5 q).2 (by decide)
         · rcases (show r.cls = 1 ∨ r.cls = 3 ∨ r.cls = 4 ∨ r.cls = 5 by omega) with q | q | q | q
           · exact R.c1 q hg (hres1.1 k)
           · have := R.c3 q; have := hres1.1 k; omega
           · exact absurd (k4 q).2 (by decide)
           · exact absurd (k5 q).2 (by decide)
   · rintro (⟨h | h, k⟩ | ⟨h, k⟩)
     · exact hinf.1 k (R.c3 (by omega))
     · exact hinf.1 k (R.c4 (by omega)).1
     · exact hres.1 k (R.c5 (by omega)).1
 · unfold q0o
   rw [show ((v.cls : Int)).toNat = r.cls by omega, show (dinV v p c).g = r.neg from V.neg]
   by_cases h2 : r.cls = 2
   · rw [hN h2]
   · rw [c1e f h2 r.neg _ r.x]
theorem t1k {neg : Bool} {num den : Nat} {e : Int} {g : Gd} {way : Int} (hd : 0 < den) (G : f0c g) (ho : (a0m neg num den e g way).over = false)
 (hu : (a0m neg num den e g way).under = true → g.grad = false → g.lo ≤ (a0m neg num den e g way).pow ∧ (a0m neg num den e g way).d ≠ 0) :
 a0s (rv neg num den e g way) g = true := by
 by_cases hok : okP (a0m neg num den e g way) g = true
 · exact s1g hd G hok
 · unfold okP at hok
   rw [ho] at hok
   simp only [Bool.not_false, Bool.true_and, Bool.or_eq_true, Bool.not_eq_true', not_or, Bool.not_eq_false, Bool.not_eq_true] at hok
   obtain ⟨h1, h2⟩ := hok
   obtain ⟨h3, h4⟩ := hu h1 h2
   by_cases h0 : num = 0
   · subst h0; rw [w0y]; rfl
   · unfold rv
     unfold a0m at *
     rw [if_neg h0] at *
     generalize theK num den e (wid g) g.digs.toNat = K at *
     have hk : K < g.lo := oTr h1
     have hp : powK g K = K := by unfold powK; rw [if_neg (fun h => by rw [h2] at h; cases h.2)]
     have e1 : (fitK neg num den e g way K).pow = if digP neg num den e (wid g) g.digs.toNat way (powK g K) = 0 then 0 else powP neg num den e (wid g) g.digs.toNat way (powK g K) := rfl
     have e2 : (fitK neg num den e g way K).d = digP neg num den e (wid g) g.digs.toNat way (powK g K) := rfl
     have e3 : (fitK neg num den e g way K).neg = neg := rfl
     rw [e2] at h4
     rw [e1, if_neg h4] at h3
     rw [e1, e2, e3, if_neg h4]
     rw [hp] at h3 h4 ⊢
     have hl : h0p neg num den e (wid g) g.digs.toNat way K := by
      by_cases h : h0p neg num den e (wid g) g.digs.toNat way K
      · exact h
      · unfold powP at h3; rw [if_neg h] at h3; omega
     unfold digP powP at *
     rw [if_pos hl] at h3
     rw [if_pos hl, if_pos hl]
     have hd1 := G.d1
     have hgl := G.le
     have hww : wid g * (g.digs.toNat - 1) < wid g * g.digs.toNat := Nat.mul_lt_mul_of_pos_left (by omega) (b0g g).1
     have habs : (sg neg (2 ^ (wid g * (g.digs.toNat - 1)))).natAbs = 2 ^ (wid g * (g.digs.toNat - 1)) := by unfold sg; cases neg <;> simp [Int.natAbs_pow]
     rw [← j0t]
     refine j0u G (show g.digs = (g.digs.toNat : Int) by omega) ?_ ?_ h3 (by omega)
     · rw [habs]; exact Nat.pow_lt_pow_right (by omega) hww
     · rw [habs]; exact .inr (.inl (Nat.le_refl _))
theorem t0a {g : Bool} {m : Nat} {e : Int} (h : m ≠ 0) : (bare ⟨g, m, e⟩).neg = g ∧ (bare ⟨g, m, e⟩).m ≠ 0 := by
 unfold bare
 rw [if_neg h]
 refine ⟨rfl, fun h2 => ?_⟩
 have := (b0v m (by omega)).2
 simp only at h2
 rw [h2] at this
 simp at this
/-! ### What comes -/
theorem m0c {f : Fm} (G : c0g f) (g : Bool) : ResF f (f.zeroM g) := by
 have := G.fam
 refine ⟨by show 1 ≤ 1 ∧ 1 ≤ 5; omega, fun _ h h3 => ?_, fun h => (by cases h), fun h => (by cases h), fun h => (by cases h), fun h => (by cases h), fun _ => rfl⟩
 have h : (g && decide (f.fam = 1)) = true := h
 simp [h3] at h
theorem g0t {f : Fm} (G : c0g f) : ResF f f.nothM := by
 have hf := G.fam
 unfold Fm.nothM
 rcases hf with h | h | h <;> rw [h] <;> refine ⟨?_, ?_, ?_, ?_, ?_, ?_, fun _ => rfl⟩ <;> simp [h]
theorem n1q {f : Fm} (h : f.fam = 1) (g : Bool) : ResF f (infM g) :=
 ⟨by show 1 ≤ 3 ∧ 3 ≤ 5; omega, fun h => (by cases h), fun h => (by cases h), fun _ => h, fun h => (by cases h), fun h => (by cases h), fun _ => rfl⟩
theorem l1h {f : Fm} (G : c0g f) (g : Bool) : 2 ^ (wid f.g * f.g.digs.toNat) - 1 ≠ 0 ∧ a0s (f.greatM g).x f.g = true := by
 have GG := c0e G.g
 have hd1 := GG.d1
 have hgl := GG.le
 have wp := b0g f.g
 have hww : wid f.g * (f.g.digs.toNat - 1) < wid f.g * f.g.digs.toNat := Nat.mul_lt_mul_of_pos_left (by omega) wp.1
 have h1 : 2 ^ (wid f.g * (f.g.digs.toNat - 1)) < 2 ^ (wid f.g * f.g.digs.toNat) := Nat.pow_lt_pow_right (by omega) hww
 have h2 : 0 < 2 ^ (wid f.g * (f.g.digs.toNat - 1)) := Nat.pow_pos (by omega)
 refine ⟨by omega, ?_⟩
 show a0s (bare ⟨g, 2 ^ (wid f.g * f.g.digs.toNat) - 1, wid f.g * f.g.hi⟩) f.g = true
 have habs : (sg g (2 ^ (wid f.g * f.g.digs.toNat) - 1)).natAbs = 2 ^ (wid f.g * f.g.digs.toNat) - 1 := by unfold sg; cases g <;> simp only [if_true, Bool.false_eq_true, if_false, Int.natAbs_neg, Int.natAbs_natCast]
 rw [← j0t]
 refine j0u GG (show f.g.digs = (f.g.digs.toNat : Int) by omega) ?_ ?_ hgl (Int.le_refl _)
 · rw [habs]; omega
 · rw [habs]; exact .inr (.inl (by omega))
theorem z0j {f : Fm} (G : c0g f) (g : Bool) : ResF f (f.greatM g) := by
 obtain ⟨h1, h2⟩ := l1h G g
 exact ⟨by show 1 ≤ 2 ∧ 2 ≤ 5; omega, fun h => (by cases h), fun _ => ⟨h2, k0f _, (t0a h1).2, (t0a h1).1⟩, fun h => (by cases h), fun h => (by cases h), fun h => (by cases h), fun h => absurd rfl h⟩
theorem v0i {f : Fm} (G : c0g f) (g : Bool) : VRep f ⟨2, g, 2 ^ (wid f.g * f.g.digs.toNat) - 1, f.g.hi⟩ (f.greatM g) := by
 have GG := c0e G.g
 have h1 := GG.h1
 have h2 := GG.h2
 have hd2 := GG.d2
 have wp := b0g f.g
 have hm : wid f.g * f.g.digs.toNat ≤ 4 * 120 := Nat.mul_le_mul wp.2 (by omega)
 refine ⟨rfl, rfl, fun _ => rfl, fun h => absurd rfl h, ?_, by show _ ≤ f.g.hi; omega, by show f.g.hi ≤ _; omega⟩
 exact Nat.le_trans (a0l a0b (Nat.sub_le _ _)) (Nat.le_trans (g0z hm) (by omega))
theorem f0i {f : Fm} {k : Nat} {g : Bool} {x : Dv} (h : k ≠ 2) : VRep f ⟨k, g, 0, 0⟩ ⟨k, g, x⟩ :=
 ⟨rfl, rfl, fun e => absurd e h, fun _ => ⟨rfl, rfl⟩, by show (dig B32 0).length ≤ _; rw [a0e]; decide, by show (-20000 : Int) ≤ 0; decide, by show (0 : Int) ≤ 20000; decide⟩
def _root_.Go.Slip.Fm.placedV (f : Fm) (p : Pl) (way : Int) : Vl :=
 if p.over then (if f.fam = 2 then ⟨2, p.neg, 2 ^ (wid f.g * f.g.digs.toNat) - 1, f.g.hi⟩ else if f.fam = 3 then ⟨f.nothM.cls, false, 0, 0⟩ else if way ≤ 2 ∨ (way = 4 ∧ p.neg = false) ∨ (way = 5 ∧ p.neg = true) then ⟨3, p.neg, 0, 0⟩ else ⟨2, p.neg, 2 ^ (wid f.g * f.g.digs.toNat) - 1, f.g.hi⟩)
 else if p.under = true ∧ f.fam ≠ 1 ∧ p.pow < f.g.lo then ⟨1, false, 0, 0⟩
 else if p.d = 0 then ⟨1, p.neg && decide (f.fam = 1), 0, 0⟩
 else ⟨2, p.neg, p.d, p.pow⟩
theorem p0a {f : Fm} (_G : c0g f) : f.nothM.cls ≠ 2 := by unfold Fm.nothM; simp only; split <;> (try split) <;> omega
theorem f0j {f : Fm} (G : c0g f) {neg : Bool} {num den : Nat} {e way : Int} (hd : 0 < den) :
 ResF f (f.placedM (a0m neg num den e f.g way) way).1 ∧ VRep f (f.placedV (a0m neg num den e f.g way) way) (f.placedM (a0m neg num den e f.g way) way).1 := by
 have GG := c0e G.g
 have hin := fun h1 h2 => t1k (neg := neg) (num := num) (e := e) (way := way) hd GG h1 h2
 have hlen := g1j (neg := neg) (num := num) (e := e) (way := way) hd GG
 have hpw := fun h => t1g (neg := neg) (num := num) (e := e) (way := way) hd GG h
 have hpw2 : (a0m neg num den e f.g way).over = false → (a0m neg num den e f.g way).pow ≤ 17000 := by
  intro h
  have hh := GG.h2
  unfold a0m at *
  by_cases h0 : num = 0
  · rw [if_pos h0]; simp
  · rw [if_neg h0] at *
    generalize theK num den e (wid f.g) f.g.digs.toNat = K at *
    have h1 : powP neg num den e (wid f.g) f.g.digs.toNat way (powK f.g K) ≤ f.g.hi := by
     have h : decide (f.g.hi < powP neg num den e (wid f.g) f.g.digs.toNat way (powK f.g K)) = false := h
     have := oFa h
     omega
    show (if digP neg num den e (wid f.g) f.g.digs.toNat way (powK f.g K) = 0 then 0 else powP neg num den e (wid f.g) f.g.digs.toNat way (powK f.g K)) ≤ 17000
    split <;> omega
 unfold rv at hin
 have hgr := G.grad
 have l1 := GG.l1
 generalize a0m neg num den e f.g way = p at *
 unfold Fm.placedM Fm.placedV
 cases ho : p.over with
 | true =>
  simp only [if_true]
  by_cases h2 : f.fam = 2
  · rw [if_pos h2, if_pos h2]; exact ⟨z0j G _, v0i G _⟩
  · rw [if_neg h2, if_neg h2]
    by_cases h3 : f.fam = 3
    · rw [if_pos h3, if_pos h3]; exact ⟨g0t G, f0i (p0a G)⟩
    · have hf : f.fam = 1 := by have := G.fam; omega
      rw [if_neg h3, if_neg h3]
      split
      · exact ⟨n1q hf _, f0i (by decide)⟩
      · exact ⟨z0j G _, v0i G _⟩
 | false =>
  simp only [Bool.false_eq_true, if_false]
  by_cases hz : p.under = true ∧ f.fam ≠ 1 ∧ p.pow < f.g.lo
  · rw [if_pos hz, if_pos hz]
    exact ⟨m0c G _, f0i (by decide)⟩
  · rw [if_neg hz, if_neg hz]
    by_cases hd0 : p.d = 0
    · rw [if_pos hd0, if_pos hd0]
      exact ⟨m0c G _, f0i (by decide)⟩
    · rw [if_neg hd0, if_neg hd0]
      have hu : p.under = true → f.g.grad = false → f.g.lo ≤ p.pow ∧ p.d ≠ 0 := fun h1 h2 => by
       rw [hgr] at h2
       have := oFa h2
       refine ⟨?_, hd0⟩
       rcases Int.lt_or_le p.pow f.g.lo with h | h
       · exact absurd ⟨h1, this, h⟩ hz
       · exact h
      obtain ⟨b1, b2⟩ := t0a (g := p.neg) (e := wid f.g * p.pow) hd0
      have hlo : -17000 ≤ p.pow := by
       by_cases hok : okP p f.g = true
       · exact (hpw hok).1
       · unfold okP at hok
         rw [ho] at hok
         simp only [Bool.not_false, Bool.true_and, Bool.or_eq_true, Bool.not_eq_true', not_or, Bool.not_eq_false, Bool.not_eq_true] at hok
         have := (hu hok.1 hok.2).1
         omega
      have hhi := hpw2 ho
      refine ⟨⟨by show 1 ≤ 2 ∧ 2 ≤ 5; omega, fun h => (by cases h), fun _ => ⟨hin ho hu, k0f _, b2, b1⟩, fun h => (by cases h), fun h => (by cases h), fun h => (by cases h), fun h => absurd rfl h⟩, ?_⟩
      exact ⟨rfl, rfl, fun _ => rfl, fun h => absurd rfl h, by show (dig B32 p.d).length ≤ _; omega, by show _ ≤ p.pow; omega, by show p.pow ≤ _; omega⟩
theorem l1i (f : Fm) (n way a c : Int) (g : Bool) (u : Nat) (w : World) (U : Bt w u 186 #[.int .i64 n, .int .i64 way, .int .i64 f.g.rad, .int .i64 f.g.digs, .int .i64 f.g.lo, .int .i64 f.g.hi, .bool f.g.grad, .int .u8 (famB f), .int .i64 a]) (hd : 0 ≤ f.g.digs ∧ f.g.digs ≤ 1000) (hc : bits .or .i64 a 5 = c) (h1 : f.fam = 1) (hw : 1 ≤ way ∧ way ≤ 5) :
 Calls Tryz.prog 172 #[.pointer (some ⟨u, 0, none⟩), .bool g] w (m0k f n way c u w (if way ≤ 2 ∨ (way = 4 ∧ g = false) ∨ (way = 5 ∧ g = true) then ⟨3, g, 0, 0⟩ else ⟨2, g, 2 ^ (wid f.g * f.g.digs.toNat) - 1, f.g.hi⟩)) := by
 have hF : famB f = 65 := by unfold famB; rw [if_pos h1]
 rcases (show way = 1 ∨ way = 2 ∨ way = 3 ∨ way = 4 ∨ way = 5 by omega) with rfl | rfl | rfl | rfl | rfl <;> cases g
 · rw [if_pos (by decide)]
   have HR := fun W u hU => lHd (c0s f n 1 a 5 c u W hU hc)
   have I := Inv.startW w u 186 (uS f n 1 a) [] U True.intro True.intro
   refine a0c [.p 0 0, .v (.bool false)] I Tryz.func172 ?_
   refine zge I 0 186 (fun Al W I => (HR W _ (I.box 0 186 _)).out) fun Al V Iv _ _ kz => ?_
   rintro _ W ⟨rfl, hO, hB⟩
   refine ⟨_, rfl, kz _ (uS f n 1 c) _ hO hB fun I => ?_⟩
   refine zb I 13 ((famB f) == 66) (false) (bFn (by rw [hF]; decide)) fun Al W I => zb I 18 ((famB f) == 67) (false) (bFn (by rw [hF]; decide)) fun Al W I => zq I (fun Al W I => i0h false W) fun Al W I => zret I fun Al W I => d0q (k := 3) rfl I.bel (I.boxE 186 _)
 · rw [if_pos (by decide)]
   have HR := fun W u hU => lHd (c0s f n 1 a 5 c u W hU hc)
   have I := Inv.startW w u 186 (uS f n 1 a) [] U True.intro True.intro
   refine a0c [.p 0 0, .v (.bool true)] I Tryz.func172 ?_
   refine zge I 0 186 (fun Al W I => (HR W _ (I.box 0 186 _)).out) fun Al V Iv _ _ kz => ?_
   rintro _ W ⟨rfl, hO, hB⟩
   refine ⟨_, rfl, kz _ (uS f n 1 c) _ hO hB fun I => ?_⟩
   refine zb I 13 ((famB f) == 66) (false) (bFn (by rw [hF]; decide)) fun Al W I => zb I 18 ((famB f) == 67) (false) (bFn (by rw [hF]; decide)) fun Al W I => zq I (fun Al W I => i0h true W) fun Al W I => zret I fun Al W I => d0q (k := 3) rfl I.bel (I.boxE 186 _)
 · rw [if_pos (by decide)]
   have HR := fun W u hU => lHd (c0s f n 2 a 5 c u W hU hc)
   have I := Inv.startW w u 186 (uS f n 2 a) [] U True.intro True.intro
   refine a0c [.p 0 0, .v (.bool false)] I Tryz.func172 ?_
   refine zge I 0 186 (fun Al W I => (HR W _ (I.box 0 186 _)).out) fun Al V Iv _ _ kz => ?_
   rintro _ W ⟨rfl, hO, hB⟩
   refine ⟨_, rfl, kz _ (uS f n 2 c) _ hO hB fun I => ?_⟩
   refine zb I 13 ((famB f) == 66) (false) (bFn (by rw [hF]; decide)) fun Al W I => zb I 18 ((famB f) == 67) (false) (bFn (by rw [hF]; decide)) fun Al W I => zq I (fun Al W I => i0h false W) fun Al W I => zret I fun Al W I => d0q (k := 3) rfl I.bel (I.boxE 186 _)
 · rw [if_pos (by decide)]
   have HR := fun W u hU => lHd (c0s f n 2 a 5 c u W hU hc)
   have I := Inv.startW w u 186 (uS f n 2 a) [] U True.intro True.intro
   refine a0c [.p 0 0, .v (.bool true)] I Tryz.func172 ?_
   refine zge I 0 186 (fun Al W I => (HR W _ (I.box 0 186 _)).out) fun Al V Iv _ _ kz => ?_
   rintro _ W ⟨rfl, hO, hB⟩
   refine ⟨_, rfl, kz _ (uS f n 2 c) _ hO hB fun I => ?_⟩
   refine zb I 13 ((famB f) == 66) (false) (bFn (by rw [hF]; decide)) fun Al W I => zb I 18 ((famB f) == 67) (false) (bFn (by rw [hF]; decide)) fun Al W I => zq I (fun Al W I => i0h true W) fun Al W I => zret I fun Al W I => d0q (k := 3) rfl I.bel (I.boxE 186 _)
 · rw [if_neg (by decide)]
   have HR := fun W u hU => lHd (c0s f n 3 a 5 c u W hU hc)
   have HG := fun W u hU => lHd (g0s f n 3 c false u W hU hd)
   generalize 2 ^ (wid f.g * f.g.digs.toNat) - 1 = m at *
   have I := Inv.startW w u 186 (uS f n 3 a) [] U True.intro True.intro
   refine a0c [.p 0 0, .v (.bool false)] I Tryz.func172 ?_
   refine zge I 0 186 (fun Al W I => (HR W _ (I.box 0 186 _)).out) fun Al V Iv _ _ kz => ?_
   rintro _ W ⟨rfl, hO, hB⟩
   refine ⟨_, rfl, kz _ (uS f n 3 c) _ hO hB fun I => ?_⟩
   refine zb I 13 ((famB f) == 66) (false) (bFn (by rw [hF]; decide)) fun Al W I => zb I 18 ((famB f) == 67) (false) (bFn (by rw [hF]; decide)) fun Al W I => zqo I (fun Al W I => (HG W _ (I.box 0 186 _)).out) fun Al W p59 c59 I => zret I fun Al W I => ⟨p59, c59, rfl, I.fa.1.mono (by omega), I.bel, I.boxE 186 _⟩
 · rw [if_neg (by decide)]
   have HR := fun W u hU => lHd (c0s f n 3 a 5 c u W hU hc)
   have HG := fun W u hU => lHd (g0s f n 3 c true u W hU hd)
   generalize 2 ^ (wid f.g * f.g.digs.toNat) - 1 = m at *
   have I := Inv.startW w u 186 (uS f n 3 a) [] U True.intro True.intro
   refine a0c [.p 0 0, .v (.bool true)] I Tryz.func172 ?_
   refine zge I 0 186 (fun Al W I => (HR W _ (I.box 0 186 _)).out) fun Al V Iv _ _ kz => ?_
   rintro _ W ⟨rfl, hO, hB⟩
   refine ⟨_, rfl, kz _ (uS f n 3 c) _ hO hB fun I => ?_⟩
   refine zb I 13 ((famB f) == 66) (false) (bFn (by rw [hF]; decide)) fun Al W I => zb I 18 ((famB f) == 67) (false) (bFn (by rw [hF]; decide)) fun Al W I => zqo I (fun Al W I => (HG W _ (I.box 0 186 _)).out) fun Al W p59 c59 I => zret I fun Al W I => ⟨p59, c59, rfl, I.fa.1.mono (by omega), I.bel, I.boxE 186 _⟩
 · rw [if_pos (by decide)]
   have HR := fun W u hU => lHd (c0s f n 4 a 5 c u W hU hc)
   have I := Inv.startW w u 186 (uS f n 4 a) [] U True.intro True.intro
   refine a0c [.p 0 0, .v (.bool false)] I Tryz.func172 ?_
   refine zge I 0 186 (fun Al W I => (HR W _ (I.box 0 186 _)).out) fun Al V Iv _ _ kz => ?_
   rintro _ W ⟨rfl, hO, hB⟩
   refine ⟨_, rfl, kz _ (uS f n 4 c) _ hO hB fun I => ?_⟩
   refine zb I 13 ((famB f) == 66) (false) (bFn (by rw [hF]; decide)) fun Al W I => zb I 18 ((famB f) == 67) (false) (bFn (by rw [hF]; decide)) fun Al W I => zq I (fun Al W I => i0h false W) fun Al W I => zret I fun Al W I => d0q (k := 3) rfl I.bel (I.boxE 186 _)
 · rw [if_neg (by decide)]
   have HR := fun W u hU => lHd (c0s f n 4 a 5 c u W hU hc)
   have HG := fun W u hU => lHd (g0s f n 4 c true u W hU hd)
   generalize 2 ^ (wid f.g * f.g.digs.toNat) - 1 = m at *
   have I := Inv.startW w u 186 (uS f n 4 a) [] U True.intro True.intro
   refine a0c [.p 0 0, .v (.bool true)] I Tryz.func172 ?_
   refine zge I 0 186 (fun Al W I => (HR W _ (I.box 0 186 _)).out) fun Al V Iv _ _ kz => ?_
   rintro _ W ⟨rfl, hO, hB⟩
   refine ⟨_, rfl, kz _ (uS f n 4 c) _ hO hB fun I => ?_⟩
   refine zb I 13 ((famB f) == 66) (false) (bFn (by rw [hF]; decide)) fun Al W I => zb I 18 ((famB f) == 67) (false) (bFn (by rw [hF]; decide)) fun Al W I => zqo I (fun Al W I => (HG W _ (I.box 0 186 _)).out) fun Al W p59 c59 I => zret I fun Al W I => ⟨p59, c59, rfl, I.fa.1.mono (by omega), I.bel, I.boxE 186 _⟩
 · rw [if_neg (by decide)]
   have HR := fun W u hU => lHd (c0s f n 5 a 5 c u W hU hc)
   have HG := fun W u hU => lHd (g0s f n 5 c false u W hU hd)
   generalize 2 ^ (wid f.g * f.g.digs.toNat) - 1 = m at *
   have I := Inv.startW w u 186 (uS f n 5 a) [] U True.intro True.intro
   refine a0c [.p 0 0, .v (.bool false)] I Tryz.func172 ?_
   refine zge I 0 186 (fun Al W I => (HR W _ (I.box 0 186 _)).out) fun Al V Iv _ _ kz => ?_
   rintro _ W ⟨rfl, hO, hB⟩
   refine ⟨_, rfl, kz _ (uS f n 5 c) _ hO hB fun I => ?_⟩
   refine zb I 13 ((famB f) == 66) (false) (bFn (by rw [hF]; decide)) fun Al W I => zb I 18 ((famB f) == 67) (false) (bFn (by rw [hF]; decide)) fun Al W I => zqo I (fun Al W I => (HG W _ (I.box 0 186 _)).out) fun Al W p59 c59 I => zret I fun Al W I => ⟨p59, c59, rfl, I.fa.1.mono (by omega), I.bel, I.boxE 186 _⟩
 · rw [if_pos (by decide)]
   have HR := fun W u hU => lHd (c0s f n 5 a 5 c u W hU hc)
   have I := Inv.startW w u 186 (uS f n 5 a) [] U True.intro True.intro
   refine a0c [.p 0 0, .v (.bool true)] I Tryz.func172 ?_
   refine zge I 0 186 (fun Al W I => (HR W _ (I.box 0 186 _)).out) fun Al V Iv _ _ kz => ?_
   rintro _ W ⟨rfl, hO, hB⟩
   refine ⟨_, rfl, kz _ (uS f n 5 c) _ hO hB fun I => ?_⟩
   refine zb I 13 ((famB f) == 66) (false) (bFn (by rw [hF]; decide)) fun Al W I => zb I 18 ((famB f) == 67) (false) (bFn (by rw [hF]; decide)) fun Al W I => zq I (fun Al W I => i0h true W) fun Al W I => zret I fun Al W I => d0q (k := 3) rfl I.bel (I.boxE 186 _)
theorem n1r (f : Fm) (n way a c : Int) (p : Pl) (u : Nat) (w : World) (U : Bt w u 186 #[.int .i64 n, .int .i64 way, .int .i64 f.g.rad, .int .i64 f.g.digs, .int .i64 f.g.lo, .int .i64 f.g.hi, .bool f.g.grad, .int .u8 (famB f), .int .i64 a]) (G : c0g f) (hc : bits .or .i64 a 5 = c) (hw : 1 ≤ way ∧ way ≤ 5) (ho : p.over = true) :
 Calls Tryz.prog 172 #[.pointer (some ⟨u, 0, none⟩), .bool p.neg] w (m0k f n way c u w (f.placedV p way)) := by
 have GG := c0e G.g
 have h1 := GG.d1
 have h2 := GG.d2
 have hf := G.fam
 unfold Fm.placedV
 rw [if_pos ho]
 by_cases f2 : f.fam = 2
 · rw [if_pos f2]; exact k1r f n way a c p.neg u w U (by omega) hc f2
 · rw [if_neg f2]
   by_cases f3 : f.fam = 3
   · rw [if_pos f3]; exact k1s f n way a c p.neg u w U hc (by omega) f2
   · rw [if_neg f3]; exact l1i f n way a c p.neg u w U (by omega) hc (by omega) hw
def j0z (f : Fm) (n way c : Int) (u : Nat) (w : World) (base : Nat) (v : Vl) (en : Ending) (w' : World) : Prop :=
 ∃ p k, en = .returned (.agg #[.int .i64 (v.cls : Int), .bool v.neg, .slice p (dig B32 v.d).length k, .int .i64 v.pow]) ∧ Own w' base .u32 139 p k (dig B32 v.d) ∧ Kp [u] w w' ∧ Bt w' u 186 #[.int .i64 n, .int .i64 way, .int .i64 f.g.rad, .int .i64 f.g.digs, .int .i64 f.g.lo, .int .i64 f.g.hi, .bool f.g.grad, .int .u8 (famB f), .int .i64 c]
theorem m0k.ub {f : Fm} {n way c : Int} {u base : Nat} {w w' : World} {v : Vl} {en : Ending} (h : m0k f n way c u w v en w') (hb : base ≤ w.heap.size) : j0z f n way c u w base v en w' := by
 obtain ⟨p, k, h1, h2, h3, h4⟩ := h
 exact ⟨p, k, h1, h2.mono hb, h3, h4⟩
theorem i0i {f : Fm} {n way c : Int} {u k base : Nat} {g : Bool} {w w' : World} {en : Ending} (h : en = .returned (.agg #[.int .i64 (k : Int), .bool g, .slice none 0 0, .int .i64 0])) (hk : Kp [u] w w') (hb : Bt w' u 186 #[.int .i64 n, .int .i64 way, .int .i64 f.g.rad, .int .i64 f.g.digs, .int .i64 f.g.lo, .int .i64 f.g.hi, .bool f.g.grad, .int .u8 (famB f), .int .i64 c]) : j0z f n way c u w base ⟨k, g, 0, 0⟩ en w' := by
 refine ⟨none, 0, ?_, ?_, hk, hb⟩
 · rw [h, a0e]; rfl
 · show Own _ _ _ _ _ _ (dig B32 0); rw [a0e]; exact Own.nil _ _ _ _
theorem pl_n (f : Fm) (n way : Int) (ng : Bool) (d : Nat) (pw : Int) (pp : OA) (cc base u : Nat) (w : World) (U : Bt w u 186 #[.int .i64 n, .int .i64 way, .int .i64 f.g.rad, .int .i64 f.g.digs, .int .i64 f.g.lo, .int .i64 f.g.hi, .bool f.g.grad, .int .u8 (famB f), .int .i64 0]) (hp : Own w base .u32 139 pp cc (dig B32 d)) (ex un : Bool) :
 Calls Tryz.prog 122 #[.pointer (some ⟨u, 0, none⟩), .agg #[.bool ng, .slice pp (dig B32 d).length cc, .int .i64 pw, .bool ex, .bool false, .bool un]] w (j0z f n way (((f.placedM ⟨ng, d, pw, ex, false, un⟩ way).2 : Nat) : Int) u w base (f.placedV ⟨ng, d, pw, ex, false, un⟩ way)) := by
 have hV : f.placedV ⟨ng, d, pw, ex, false, un⟩ way = if un = true ∧ f.fam ≠ 1 ∧ pw < f.g.lo then ⟨1, false, 0, 0⟩ else if d = 0 then ⟨1, ng && decide (f.fam = 1), 0, 0⟩ else ⟨2, ng, d, pw⟩ := by unfold Fm.placedV; simp only [Bool.false_eq_true, if_false]
 have hM : (f.placedM ⟨ng, d, pw, ex, false, un⟩ way).2 = if un = true ∧ f.fam ≠ 1 ∧ pw < f.g.lo then 3 else f.flP ⟨ng, d, pw, ex, false, un⟩ := by
  unfold Fm.placedM; simp only [Bool.false_eq_true, if_false]
  split
  · rfl
  · split <;> rfl
 have hFL : f.flP ⟨ng, d, pw, ex, false, un⟩ = if un then (if f.fam = 1 then (if ex then 0 else 3) else 3) else if ex then 0 else 1 := rfl
 have hF1 : f.fam = 1 → (famB f != 65) = false := fun h => by unfold famB; rw [if_pos h]; rfl
 have hF2 : f.fam ≠ 1 → (famB f != 65) = true := fun h => by unfold famB; rw [if_neg h]; split <;> rfl
 have hB1 : (famB f != 65) = true → f.fam ≠ 1 := fun h k => by rw [hF1 k] at h; cases h
 have hB2 : (famB f != 65) = false → f.fam = 1 := fun h => Classical.byContradiction fun k => by rw [hF2 k] at h; cases h
 have hz := a0h a0b d
 have HR9 := fun W u hU => lHd (c0s f n way 0 1 1 u W hU (by decide +kernel))
 have HR3 := fun k (hk : k = 0 ∨ k = 1) W u hU => lHd (c0s f n way k 3 3 u W hU (by rcases hk with rfl | rfl <;> decide +kernel))
 have HR2 := fun k (hk : k = 1) W u hU => lHd (c0s f n way k 2 3 u W hU (by subst hk; decide +kernel))
 have HZ := fun k W u hU => lHd (v0d f n way k ng u W hU)
 rw [hFL] at hM
 generalize (f.placedM ⟨ng, d, pw, ex, false, un⟩ way).2 = FL at *
 generalize f.placedV ⟨ng, d, pw, ex, false, un⟩ way = v at *
 clear hFL
 generalize (ng && decide (f.fam = 1)) = q at *
 let aA : Box := ⟨84, [.v (.bool ng), .v (.slice pp (dig B32 d).length cc), .v (.int .i64 pw), .v (.bool ex), .v (.bool false), .v (.bool un)], false⟩
 let aB : Box := ⟨61, [.v (.int .i64 0), .v (.bool false), .v (.slice none 0 0), .v (.int .i64 0)], false⟩
 let aC : SV := .v (.agg #[.bool ng, .slice pp (dig B32 d).length cc, .int .i64 pw, .bool ex, .bool false, .bool un])
 have I := Inv.startW w u 186 (uS f n way 0) [ownF base .u32 139 pp cc (dig B32 d)] U ⟨hp, True.intro⟩ ⟨fun hf => hp.far U (by kernel_rfl) hf.1 hf.2, True.intro⟩
 refine a0c [.p 0 0, .v (.agg #[.bool ng, .slice pp (dig B32 d).length cc, .int .i64 pw, .bool ex, .bool false, .bool un])] I Tryz.func122 ?_
 obtain ⟨ne, hne⟩ : ∃ ne, (!ex) = ne := ⟨_, rfl⟩
 refine zb I 7 (!ex) (ne) (hne) fun Al W I => zcut I (some 2000007) (fun fr bx gs => ∃ (U1 : Nat → Value) (k1 : Int), fr = (.p 0 0 :: aC :: vu :: .p 1 0 :: .p 2 0 :: sw U1 5 2 (.v (.bool ne) :: sw U1 8 2 (vu :: sw U1 11 6 (vu :: sw U1 18 18 (vu :: .v (U1 37) :: vu :: sw U1 39 12 (vu :: sw U1 52 11 []))))) : List SV) ∧ bx = [⟨186, (uS f n way k1), false⟩, aA, aB] ∧ gs = [ownF base .u32 139 pp cc (dig B32 d)] ∧ (k1 = if ex then 0 else 1)) ?_ ?_
 · intro J hJ Al W I
   rcases bTF ne with rfl | rfl
   · refine zge I 0 186 (fun Al W I => (HR9 W _ (I.box 0 186 _)).out) fun Al V Iv _ _ kz => ?_
     rintro _ W ⟨rfl, hO, hB⟩
     refine ⟨_, rfl, kz _ (uS f n way 1) _ hO hB fun I => ?_⟩
     exact a0i I J fun Al W U I => hJ _ _ _ _ _ ⟨U, 1, rfl, rfl, rfl, (by revert hne; cases ex <;> simp)⟩ (I.pick [0])
   exact a0i I J fun Al W U I => hJ _ _ _ _ _ ⟨U, 0, rfl, rfl, rfl, (by revert hne; cases ex <;> simp)⟩ (I.pick [0])
 rintro _ _ _ ⟨U1, k1, rfl, rfl, rfl, hk1⟩ Al W I
 refine zcut I (some 1000000) (fun fr bx gs => ∃ (U2 : Nat → Value) (k2 : Int), fr = (.p 0 0 :: aC :: vu :: .p 1 0 :: .p 2 0 :: sw U2 5 2 (.v (.bool ne) :: sw U2 8 43 (vu :: sw U2 52 11 [])) : List SV) ∧ bx = [⟨186, (uS f n way k2), false⟩, aA, aB] ∧ gs = [ownF base .u32 139 pp cc (dig B32 d)] ∧ ((FL : Int) = k2) ∧ (¬ (un = true ∧ f.fam ≠ 1 ∧ pw < f.g.lo))) ?_ ?_
 · intro J hJ Al W I
   rcases bTF (un) with f19 | f19
   · refine zb I 19 (un) (true) (f19) fun Al W I => ?_
     rcases bTF ((famB f) != 65) with f25 | f25
     · refine zb I 25 ((famB f) != 65) (true) (f25) fun Al W I => zge I 0 186 (fun Al W I => (HR3 k1 (by rw [hk1]; split <;> simp) W _ (I.box 0 186 _)).out) fun Al V Iv _ _ kz => ?_
       rintro _ W ⟨rfl, hO, hB⟩
       refine ⟨_, rfl, kz _ (uS f n way 3) _ hO hB fun I => ?_⟩
       by_cases f36 : pw < f.g.lo
       · refine zd [] I fun Al W I => zk [0, 1, 2, 3, 4, 5, 6] I fun I => zkb 7 I (decide (pw < f.g.lo)) (true) (dTr f36) fun I => zret I (v := fun Al => .agg #[vI 1, .bool false, .slice none 0 0, vI 0]) fun Al W I => ?_
         (rw [hV, hM, if_pos ⟨f19, hB1 f25, f36⟩, if_pos ⟨f19, hB1 f25, f36⟩]; exact i0i (k := 1) rfl I.bel (I.boxE 186 _))
       refine zd [] I fun Al W I => zk [0, 1, 2, 3, 4, 5, 6] I fun I => zkb 7 I (decide (pw < f.g.lo)) (false) (dFa f36) fun I => a0i I J fun Al W U I => hJ _ _ _ _ _ ⟨U, 3, rfl, rfl, rfl, (by have h1 := hB1 f25; rw [hM, if_neg (fun h => f36 h.2.2), if_pos f19, if_neg h1]; rfl), (fun h => f36 h.2.2)⟩ (I.pick [0])
     refine zb I 25 ((famB f) != 65) (false) (f25) fun Al W I => zb I 40 (un) (true) (f19) fun Al W I => ?_
     rcases bTF (!ex) with f44 | f44
     · refine zb I 44 (!ex) (true) (f44) fun Al W I => zge I 0 186 (fun Al W I => (HR2 k1 (by rw [hk1]; revert f44; cases ex <;> simp) W _ (I.box 0 186 _)).out) fun Al V Iv _ _ kz => ?_
       rintro _ W ⟨rfl, hO, hB⟩
       refine ⟨_, rfl, kz _ (uS f n way 3) _ hO hB fun I => ?_⟩
       exact a0i I J fun Al W U I => hJ _ _ _ _ _ ⟨U, 3, rfl, rfl, rfl, (by have h1 := hB2 f25; rw [hM, if_neg (fun h => h.2.1 h1), if_pos f19, if_pos h1]; revert f44; cases ex <;> simp), (fun h => by have h1 := hB2 f25; exact h.2.1 h1)⟩ (I.pick [0])
     refine zb I 44 (!ex) (false) (f44) fun Al W I => a0i I J fun Al W U I => hJ _ _ _ _ _ ⟨U, k1, rfl, rfl, rfl, (by have h1 := hB2 f25; rw [hM, if_neg (fun h => h.2.1 h1), if_pos f19, if_pos h1, hk1]; revert f44; cases ex <;> simp), (fun h => by have h1 := hB2 f25; exact h.2.1 h1)⟩ (I.pick [0])
   refine zb I 19 (un) (false) (f19) fun Al W I => zb I 40 (un) (false) (f19) fun Al W I => a0i I J fun Al W U I => hJ _ _ _ _ _ ⟨U, k1, rfl, rfl, rfl, (by rw [hM, if_neg (fun h => by rw [f19] at h; cases h.1), if_neg (by rw [f19]; simp), hk1]; split <;> rfl), (fun h => by rw [f19] at h; cases h.1)⟩ (I.pick [0])
 rintro _ _ _ ⟨U2, k2, rfl, rfl, rfl, hk2, hlo⟩ Al W I
 rcases bTF ((((dig B32 d).length : Nat) : Int) == 0) with f51 | f51
 · refine zb I 51 ((((dig B32 d).length : Nat) : Int) == 0) (true) (f51) fun Al W I => zq I (fun Al W I => (HZ k2 W _ (I.box 0 186 _)).out) fun Al W I => ?_
   rw [hV, hk2, if_neg hlo, if_pos (hz.1 (by have := beq_iff_eq.1 f51; omega))]
   exact zret I fun Al W I => i0i (k := 1) rfl I.bel (I.boxE 186 _)
 refine zb I 51 ((((dig B32 d).length : Nat) : Int) == 0) (false) (f51) fun Al W I => zret I (v := fun Al => .agg #[vI 2, .bool ng, .slice pp (dig B32 d).length cc, vI pw]) fun Al W I => ?_
 (rw [hV, hk2, if_neg hlo, if_neg (fun h => by have := hz.2 h; have := bnF f51; omega)]; exact ⟨pp, cc, rfl, I.fa.1, I.bel, I.boxE 186 _⟩)
theorem u1o (f : Fm) (n way : Int) (p : Pl) (pp : OA) (cc base u : Nat) (w : World) (U : Bt w u 186 #[.int .i64 n, .int .i64 way, .int .i64 f.g.rad, .int .i64 f.g.digs, .int .i64 f.g.lo, .int .i64 f.g.hi, .bool f.g.grad, .int .u8 (famB f), .int .i64 0]) (hb : base ≤ w.heap.size) (G : c0g f) (hw : 1 ≤ way ∧ way ≤ 5) (ho : p.over = true) :
 Calls Tryz.prog 122 #[.pointer (some ⟨u, 0, none⟩), .agg #[.bool p.neg, .slice pp (dig B32 p.d).length cc, .int .i64 p.pow, .bool true, .bool true, .bool p.under]] w (j0z f n way 5 u w base (f.placedV p way)) := by
 have HO := fun W u hU => lHd (n1r f n way 0 5 p u W hU G (by decide +kernel) hw ho)
 generalize f.placedV p way = v at *
 have I := Inv.startW w u 186 (uS f n way 0) [] U True.intro True.intro
 refine a0c [.p 0 0, .v (.agg #[.bool p.neg, .slice pp (dig B32 p.d).length cc, .int .i64 p.pow, .bool true, .bool true, .bool p.under])] I Tryz.func122 ?_
 refine zge I 0 186 (fun Al W I => (HO W _ (I.box 0 186 _)).out) fun Al V Iv _ _ kz => ?_
 rintro _ W ⟨p16, c16, rfl, o16, hO, hB⟩
 refine ⟨_, rfl, kz _ (uS f n way 5) _ hO hB fun I => ?_⟩
 have I := I.ownB base o16
 exact zret I fun Al W I => ⟨p16, c16, rfl, I.fa.1, I.bel, I.boxE 186 _⟩
theorem u1p (f : Fm) (n way : Int) (p : Pl) (pp : OA) (cc base u : Nat) (w : World) (U : Bt w u 186 #[.int .i64 n, .int .i64 way, .int .i64 f.g.rad, .int .i64 f.g.digs, .int .i64 f.g.lo, .int .i64 f.g.hi, .bool f.g.grad, .int .u8 (famB f), .int .i64 0]) (hb : base ≤ w.heap.size) (G : c0g f) (hw : 1 ≤ way ∧ way ≤ 5) (ho : p.over = true) :
 Calls Tryz.prog 122 #[.pointer (some ⟨u, 0, none⟩), .agg #[.bool p.neg, .slice pp (dig B32 p.d).length cc, .int .i64 p.pow, .bool false, .bool true, .bool p.under]] w (j0z f n way 5 u w base (f.placedV p way)) := by
 have HO := fun W u hU => lHd (n1r f n way 1 5 p u W hU G (by decide +kernel) hw ho)
 have HR := fun W u hU => lHd (c0s f n way 0 1 1 u W hU (by decide +kernel))
 generalize f.placedV p way = v at *
 have I := Inv.startW w u 186 (uS f n way 0) [] U True.intro True.intro
 refine a0c [.p 0 0, .v (.agg #[.bool p.neg, .slice pp (dig B32 p.d).length cc, .int .i64 p.pow, .bool false, .bool true, .bool p.under])] I Tryz.func122 ?_
 refine zge I 0 186 (fun Al W I => (HR W _ (I.box 0 186 _)).out) fun Al V Iv _ _ kz => ?_
 rintro _ W ⟨rfl, hO, hB⟩
 refine ⟨_, rfl, kz _ (uS f n way 1) _ hO hB fun I => ?_⟩
 refine zge I 0 186 (fun Al W I => (HO W _ (I.box 0 186 _)).out) fun Al V Iv _ _ kz => ?_
 rintro _ W ⟨p16, c16, rfl, o16, hO, hB⟩
 refine ⟨_, rfl, kz _ (uS f n way 5) _ hO hB fun I => ?_⟩
 have I := I.ownB base o16
 exact zret I fun Al W I => ⟨p16, c16, rfl, I.fa.1, I.bel, I.boxE 186 _⟩
theorem q1h (f : Fm) (n way : Int) (p : Pl) (pp : OA) (cc base u : Nat) (w : World) (U : Bt w u 186 #[.int .i64 n, .int .i64 way, .int .i64 f.g.rad, .int .i64 f.g.digs, .int .i64 f.g.lo, .int .i64 f.g.hi, .bool f.g.grad, .int .u8 (famB f), .int .i64 0]) (hp : Own w base .u32 139 pp cc (dig B32 p.d)) (hb : base ≤ w.heap.size) (G : c0g f) (hw : 1 ≤ way ∧ way ≤ 5) :
 Calls Tryz.prog 122 #[.pointer (some ⟨u, 0, none⟩), .agg #[.bool p.neg, .slice pp (dig B32 p.d).length cc, .int .i64 p.pow, .bool p.exact, .bool p.over, .bool p.under]] w (j0z f n way (((f.placedM p way).2 : Nat) : Int) u w base (f.placedV p way)) := by
 obtain ⟨ng, d, pw, ex, ov, un⟩ := p
 cases ov with
 | true =>
  have e : (f.placedM ⟨ng, d, pw, ex, true, un⟩ way).2 = 5 := by unfold Fm.placedM; rw [if_pos rfl]
  rw [e]
  cases ex
  · exact u1p f n way ⟨ng, d, pw, false, true, un⟩ pp cc base u w U hb G hw rfl
  · exact u1o f n way ⟨ng, d, pw, true, true, un⟩ pp cc base u w U hb G hw rfl
 | false =>
  exact pl_n f n way ng d pw pp cc base u w U hp ex un
theorem v0j (ng : Bool) (p q : OA) (c d : Nat) (num den : Nat) (e : Int) (g : Gd) (way : Int) (w : World) (hp : Rd w .u32 p (dig B32 num)) (hq : Rd w .u32 q (dig B32 den))
 (hl : (dig B32 num).length ≤ 100000) (hl2 : (dig B32 den).length ≤ 100000) (hn : 0 < num) (hd : 0 < den) (he : -1000000 ≤ e ∧ e ≤ 1000000) (G : f0c g) (hw1 : 1 ≤ way) (hw2 : way ≤ 5) :
 Calls Tryz.prog 37 #[.agg #[.bool ng, .slice p (dig B32 num).length c, .slice q (dig B32 den).length d, .int .i64 e], .agg #[.int .i64 g.rad, .int .i64 g.digs, .int .i64 g.lo, .int .i64 g.hi, .bool g.grad], .int .i64 way] w (z0b w (a0m ng num den e g way)) := by
 have h := s0u ng p q c d num den e g way (theK num den e (wid g) g.digs.toNat) w hp hq hl hl2 hn hd he G hw1 hw2 (j0s hn hd e (b0g g).1 (by have := G.d1; omega))
 unfold a0m
 rw [if_neg (by omega)]
 exact h
theorem t1l (f : Fm) (n way : Int) (ng : Bool) (p q : OA) (c d : Nat) (num den : Nat) (e : Int) (u : Nat) (w : World) (U : Bt w u 186 #[.int .i64 n, .int .i64 way, .int .i64 f.g.rad, .int .i64 f.g.digs, .int .i64 f.g.lo, .int .i64 f.g.hi, .bool f.g.grad, .int .u8 (famB f), .int .i64 0]) (hp : Rd w .u32 p (dig B32 num)) (hq : Rd w .u32 q (dig B32 den))
 (hl : (dig B32 num).length ≤ 100000) (hl2 : (dig B32 den).length ≤ 100000) (hn : 0 < num) (hd : 0 < den) (he : -1000000 ≤ e ∧ e ≤ 1000000) (G : c0g f) (hw : 1 ≤ way ∧ way ≤ 5) :
 Calls Tryz.prog 54 #[.pointer (some ⟨u, 0, none⟩), .agg #[.bool ng, .slice p (dig B32 num).length c, .slice q (dig B32 den).length d, .int .i64 e]] w
  (m0k f n way (((f.placedM (a0m ng num den e f.g way) way).2 : Nat) : Int) u w (f.placedV (a0m ng num den e f.g way) way)) := by
 have GG := c0e G.g
 have HF := fun W h1 h2 => lHd (v0j ng p q c d num den e f.g way W h1 h2 hl hl2 hn hd he GG hw.1 hw.2)
 have HP := fun pp cc base u W U h1 h2 => lHd (q1h f n way (a0m ng num den e f.g way) pp cc base u W U h1 h2 G hw)
 have hR := g1j (neg := ng) (num := num) (e := e) (way := way) hd GG
 generalize (f.placedM (a0m ng num den e f.g way) way).2 = fl at *
 generalize f.placedV (a0m ng num den e f.g way) way = v at *
 generalize a0m ng num den e f.g way = P at *
 have I := Inv.startW w u 186 (uS f n way 0) [rdF .u32 p (dig B32 num), rdF .u32 q (dig B32 den)] U ⟨hp, hq, True.intro⟩ ⟨fun hf => hp.far U (by kernel_rfl) hf.1 hf.2, fun hf => hq.far U (by kernel_rfl) hf.1 hf.2, True.intro⟩
 refine a0c [.p 0 0, .v (.agg #[.bool ng, .slice p (dig B32 num).length c, .slice q (dig B32 den).length d, .int .i64 e])] I Tryz.func54 ?_
 refine zcut I none (fun fr bx gs => ∃ (U1 : Nat → Value) (p16 : OA) (c16 : Nat), fr = (.p 0 0 :: .v (.agg #[.bool ng, vS (dig B32 num) p c, vS (dig B32 den) q d, vI e]) :: vu :: .p 1 0 :: .p 2 0 :: sw U1 5 12 [] : List SV) ∧ bx = [⟨186, (uS f n way (fl : Int)), false⟩, ⟨53, [.v (.bool ng), .v (vS (dig B32 num) p c), .v (vS (dig B32 den) q d), .v (vI e)], false⟩, ⟨61, [.v (vI (v.cls : Int)), .v (.bool v.neg), .v (vS (dig B32 v.d) p16 c16), .v (vI v.pow)], false⟩] ∧ gs = [ownF w.heap.size .u32 139 p16 c16 (dig B32 v.d), rdF .u32 p (dig B32 num), rdF .u32 q (dig B32 den)]) ?_ ?_
 · intro J hJ Al W I
   refine zd [0, 2] I fun Al W I => zk [0, 1, 2, 3, 4, 6, 7, 8] I fun I => zo2 5 9 I (fun I => ?_) (fun I => ?_)
   · refine zn I fun Al W I => zo 9 I fun I => zn I fun Al W I => zo 10 I fun I => zqo I (fun Al W I => (HF W I.fa.1 I.fa.2.1).out) fun Al W p15 c15 I => zo 11 I fun I => zge I 0 186 (fun Al W I => have hzW := I.bel.size; (HP p15 c15 _ _ W (I.box 0 186 _) I.fa.1 (by omega)).out) fun Al V Iv _ _ kz => ?_
     rintro _ W ⟨p16, c16, rfl, o16, hO, hB⟩
     refine ⟨_, rfl, kz _ (uS f n way (fl : Int)) _ hO hB fun I => ?_⟩
     have I := I.own o16
     refine zo 12 I fun I => zn I fun Al W I => a0i I J fun Al W U I => hJ _ _ _ _ _ ⟨U, p16, c16, rfl, rfl, rfl⟩ (I.pick [0, 2, 3])
   refine zn I fun Al W I => zo 5 I fun I => zn I fun Al W I => zo 10 I fun I => zqo I (fun Al W I => (HF W I.fa.1 I.fa.2.1).out) fun Al W p15 c15 I => zo 11 I fun I => zge I 0 186 (fun Al W I => have hzW := I.bel.size; (HP p15 c15 _ _ W (I.box 0 186 _) I.fa.1 (by omega)).out) fun Al V Iv _ _ kz => ?_
   rintro _ W ⟨p16, c16, rfl, o16, hO, hB⟩
   refine ⟨_, rfl, kz _ (uS f n way (fl : Int)) _ hO hB fun I => ?_⟩
   have I := I.own o16
   refine zo 12 I fun I => zn I fun Al W I => a0i I J fun Al W U I => hJ _ _ _ _ _ ⟨U, p16, c16, rfl, rfl, rfl⟩ (I.pick [0, 2, 3])
 rintro _ _ _ ⟨U1, p16, c16, rfl, rfl, rfl⟩ Al W I
 exact zret I fun Al W I => ⟨p16, c16, rfl, I.fa.1, I.bel, I.boxE 186 _⟩
structure VrOk (r : Vr) : Prop where
 c : 1 ≤ r.cls ∧ r.cls ≤ 5
 x0 : r.cls ≠ 2 → r.x = vz
 x2 : r.cls = 2 → r.x.m ≠ 0 ∧ r.x.neg = r.neg
 bare : Bare r.x
 len : (dig B32 r.x.m).length ≤ 20
 lo : -18000 ≤ r.x.e
 hi : r.x.e ≤ 18000
def g0f (f : Fm) (n way : Int) (u : Nat) (w : World) (base : Nat) (r : Vr × Nat) (en : Ending) (w' : World) : Prop :=
 ∃ v, VRep f v r.1 ∧ j0z f n way ((r.2 : Nat) : Int) u w base v en w'
theorem a0o {f : Fm} {n way : Int} {u k fl base : Nat} {g : Bool} {x : Dv} {w w' : World} {en : Ending} (hk2 : k ≠ 2) (h : en = .returned (.agg #[.int .i64 (k : Int), .bool g, .slice none 0 0, .int .i64 0])) (hk : Kp [u] w w') (hb : Bt w' u 186 #[.int .i64 n, .int .i64 way, .int .i64 f.g.rad, .int .i64 f.g.digs, .int .i64 f.g.lo, .int .i64 f.g.hi, .bool f.g.grad, .int .u8 (famB f), .int .i64 (fl : Int)]) : g0f f n way u w base (⟨k, g, x⟩, fl) en w' :=
 ⟨⟨k, g, 0, 0⟩, f0i hk2, i0i h hk hb⟩
theorem g0f.mono {f : Fm} {n way : Int} {u base b' : Nat} {w w' : World} {r : Vr × Nat} {en : Ending} (h : g0f f n way u w base r en w') (hb : b' ≤ base) : g0f f n way u w b' r en w' := by
 obtain ⟨v, h1, p, k, h2, h3, h4, h5⟩ := h
 exact ⟨v, h1, p, k, h2, h3.mono hb, h4, h5⟩
theorem l1j (f : Fm) (n way fl : Int) (v : Vl) (r : Vr) (p : OA) (c b0 u : Nat) (w : World) (U : Bt w u 186 #[.int .i64 n, .int .i64 way, .int .i64 f.g.rad, .int .i64 f.g.digs, .int .i64 f.g.lo, .int .i64 f.g.hi, .bool f.g.grad, .int .u8 (famB f), .int .i64 fl]) (hp : Own w b0 .u32 139 p c (dig B32 v.d)) (V : VRep f v r) (R : VrOk r) (hT : TabW w) :
 Calls Tryz.prog 60 #[.pointer (some ⟨u, 0, none⟩), .agg #[.int .i64 (v.cls : Int), .bool v.neg, .slice p (dig B32 v.d).length c, .int .i64 v.pow]] w (f0s w w.heap.size r.x) := by
 have hx : bare ⟨v.neg, v.d, wid f.g * v.pow⟩ = r.x := by
  by_cases h2 : r.cls = 2
  · exact V.num h2
  · rw [R.x0 h2, (V.oth h2).1]; rfl
 have hl := V.len
 have hlo := V.lo
 have hhi := V.hi
 have wp := b0g f.g
 have hmu := u0y (wd := wid f.g) (k := v.pow) (B := 20000) wp.2 ⟨hlo, hhi⟩
 rw [← hx, ← u0g]
 clear hx R V
 obtain ⟨cls, g, d0, pw⟩ := v
 simp only at *
 generalize hmw : (wid f.g : Int) * pw = mw at *
 have HMW := lHd hmw
 have HW := fun W u hU => lHd (g1e f n way fl u W hU)
 have HH := fun W (c : Nat) h1 h0 h2 => lHd (u0u p _ c mw d0 W h1 rfl h0 (by omega) (by omega) h2)
 clear hmw
 generalize hd : bare ⟨false, d0, mw⟩ = d at *
 clear hd
 cases g with
 | false =>
  rw [if_neg (by simp)]
  have I := Inv.startR w [u] [⟨186, (uS f n way fl), true⟩] [ownF b0 .u32 139 p c (dig B32 d0), tabF] ⟨U, True.intro⟩ ⟨hp, hT, True.intro⟩
  refine a0c [.p 0 0, .v (.agg #[.int .i64 (cls : Int), .bool false, .slice p (dig B32 d0).length c, .int .i64 pw])] I Tryz.func60 ?_
  refine zcut I none (fun fr bx gs => ∃ (U1 : Nat → Value) (p13 : OA) (c13 : Nat), fr = (.p 0 0 :: .v (.agg #[vI (cls : Int), .bool false, vS (dig B32 d0) p c, vI pw]) :: vu :: .p 1 0 :: .p 2 0 :: .p 3 0 :: sw U1 6 9 (vu :: sw U1 16 3 []) : List SV) ∧ bx = [⟨186, (uS f n way fl), true⟩, ⟨61, [.v (vI (cls : Int)), .v (.bool false), .v (vS (dig B32 d0) p c), .v (vI pw)], false⟩, ⟨129, [.v (.bool false), .v (.slice none 0 0), .v (vI 0)], false⟩, ⟨129, [.v (.bool d.neg), .v (vS (dig B32 d.m) p13 c13), .v (vI d.e)], false⟩] ∧ gs = [ownF w.heap.size .u32 139 p13 c13 (dig B32 d.m), ownF b0 .u32 139 p c (dig B32 d0), tabF]) ?_ ?_
  · intro J hJ Al W I
    refine zd [] I fun Al W I => zk [0, 1, 2, 4, 5] I fun I => zo2 3 8 I (fun I => ?_) (fun I => ?_)
    · refine zq I (fun Al W I => (HW W _ (I.box 0 186 _)).out) fun Al W I => zki 6 I .i64 (((wid f.g : Nat) : Int) * pw) (mw) ((by rw [HMW.out]; exact iwo)) fun I => zo2 7 8 I (fun I => ?_) (fun I => ?_)
      · refine zqo I (fun Al W I => (HH W c I.fa.1.rd I.fa.1.le_cap I.fa.2.1).out) fun Al W p13 c13 I => zo 8 I fun I => zn I fun Al W I => zo 9 I fun I => zn I fun Al W I => a0i I J fun Al W U I => hJ _ _ _ _ _ ⟨U, p13, c13, rfl, rfl, rfl⟩ (I.pick [0, 1, 2])
      refine zn I fun Al W I => zo 7 I fun I => zqo I (fun Al W I => (HH W c I.fa.1.rd I.fa.1.le_cap I.fa.2.1).out) fun Al W p13 c13 I => zo 9 I fun I => zn I fun Al W I => a0i I J fun Al W U I => hJ _ _ _ _ _ ⟨U, p13, c13, rfl, rfl, rfl⟩ (I.pick [0, 1, 2])
    refine zn I fun Al W I => zo 3 I fun I => zq I (fun Al W I => (HW W _ (I.box 0 186 _)).out) fun Al W I => zki 6 I .i64 (((wid f.g : Nat) : Int) * pw) (mw) ((by rw [HMW.out]; exact iwo)) fun I => zo 7 I fun I => zqo I (fun Al W I => (HH W c I.fa.1.rd I.fa.1.le_cap I.fa.2.1).out) fun Al W p13 c13 I => zo 9 I fun I => zn I fun Al W I => a0i I J fun Al W U I => hJ _ _ _ _ _ ⟨U, p13, c13, rfl, rfl, rfl⟩ (I.pick [0, 1, 2])
  rintro _ _ _ ⟨U1, p13, c13, rfl, rfl, rfl⟩ Al W I
  exact zret I fun Al W I => ⟨p13, c13, rfl, I.fa.1.mono (by omega), I.below⟩
 | true =>
  rw [if_pos rfl]
  have I := Inv.startR w [u] [⟨186, (uS f n way fl), true⟩] [ownF b0 .u32 139 p c (dig B32 d0), tabF] ⟨U, True.intro⟩ ⟨hp, hT, True.intro⟩
  refine a0c [.p 0 0, .v (.agg #[.int .i64 (cls : Int), .bool true, .slice p (dig B32 d0).length c, .int .i64 pw])] I Tryz.func60 ?_
  refine zcut I none (fun fr bx gs => ∃ (U1 : Nat → Value) (p13 : OA) (c13 : Nat), fr = (.p 0 0 :: .v (.agg #[vI (cls : Int), .bool true, vS (dig B32 d0) p c, vI pw]) :: vu :: .p 1 0 :: .p 2 0 :: .p 3 0 :: sw U1 6 9 (vu :: sw U1 16 3 []) : List SV) ∧ bx = [⟨186, (uS f n way fl), true⟩, ⟨61, [.v (vI (cls : Int)), .v (.bool true), .v (vS (dig B32 d0) p c), .v (vI pw)], false⟩, ⟨129, [.v (.bool false), .v (.slice none 0 0), .v (vI 0)], false⟩, ⟨129, [.v (.bool d.neg), .v (vS (dig B32 d.m) p13 c13), .v (vI d.e)], false⟩] ∧ gs = [ownF w.heap.size .u32 139 p13 c13 (dig B32 d.m), ownF b0 .u32 139 p c (dig B32 d0), tabF]) ?_ ?_
  · intro J hJ Al W I
    refine zd [] I fun Al W I => zk [0, 1, 2, 4, 5] I fun I => zo2 3 8 I (fun I => ?_) (fun I => ?_)
    · refine zq I (fun Al W I => (HW W _ (I.box 0 186 _)).out) fun Al W I => zki 6 I .i64 (((wid f.g : Nat) : Int) * pw) (mw) ((by rw [HMW.out]; exact iwo)) fun I => zo2 7 8 I (fun I => ?_) (fun I => ?_)
      · refine zqo I (fun Al W I => (HH W c I.fa.1.rd I.fa.1.le_cap I.fa.2.1).out) fun Al W p13 c13 I => zo 8 I fun I => zn I fun Al W I => zo 9 I fun I => zn I fun Al W I => a0i I J fun Al W U I => hJ _ _ _ _ _ ⟨U, p13, c13, rfl, rfl, rfl⟩ (I.pick [0, 1, 2])
      refine zn I fun Al W I => zo 7 I fun I => zqo I (fun Al W I => (HH W c I.fa.1.rd I.fa.1.le_cap I.fa.2.1).out) fun Al W p13 c13 I => zo 9 I fun I => zn I fun Al W I => a0i I J fun Al W U I => hJ _ _ _ _ _ ⟨U, p13, c13, rfl, rfl, rfl⟩ (I.pick [0, 1, 2])
    refine zn I fun Al W I => zo 3 I fun I => zq I (fun Al W I => (HW W _ (I.box 0 186 _)).out) fun Al W I => zki 6 I .i64 (((wid f.g : Nat) : Int) * pw) (mw) ((by rw [HMW.out]; exact iwo)) fun I => zo 7 I fun I => zqo I (fun Al W I => (HH W c I.fa.1.rd I.fa.1.le_cap I.fa.2.1).out) fun Al W p13 c13 I => zo 9 I fun I => zn I fun Al W I => a0i I J fun Al W U I => hJ _ _ _ _ _ ⟨U, p13, c13, rfl, rfl, rfl⟩ (I.pick [0, 1, 2])
  rintro _ _ _ ⟨U1, p13, c13, rfl, rfl, rfl⟩ Al W I
  refine zq I (fun Al W I => f1m d.neg p13 _ c13 d.e d.m W rfl) fun Al W I => zret I fun Al W I => ⟨p13, c13, rfl, I.fa.1.mono (by omega), I.below⟩
theorem t1m (f : Fm) (n way : Int) (u : Nat) (w : World) (U : Bt w u 186 #[.int .i64 n, .int .i64 way, .int .i64 f.g.rad, .int .i64 f.g.digs, .int .i64 f.g.lo, .int .i64 f.g.hi, .bool f.g.grad, .int .u8 (famB f), .int .i64 0]) (fl : Nat) (b : Int) (hc : bits .or .i64 0 b = (fl : Nat)) :
 Calls Tryz.prog 58 #[.pointer (some ⟨u, 0, none⟩), .int .i64 b] w (g0f f n way u w w.heap.size (f.nothM, fl)) := by
 have HR := fun W u hU => lHd (c0s f n way 0 b (fl : Nat) u W hU hc)
 have HN := fun W u hU => lHd (l0b f n way (fl : Nat) u W hU)
 have hk : f.nothM.cls ≠ 2 := by unfold Fm.nothM; simp only; split <;> (try split) <;> omega
 have e : f.nothM = ⟨f.nothM.cls, false, vz⟩ := rfl
 rw [e]
 generalize f.nothM.cls = k at *
 have I := Inv.startW w u 186 (uS f n way 0) [] U True.intro True.intro
 refine a0c [.p 0 0, .v (.int .i64 b)] I Tryz.func58 ?_
 refine zge I 0 186 (fun Al W I => (HR W _ (I.box 0 186 _)).out) fun Al V Iv _ _ kz => ?_
 rintro _ W ⟨rfl, hO, hB⟩
 refine ⟨_, rfl, kz _ (uS f n way (fl : Int)) _ hO hB fun I => ?_⟩
 refine zq I (fun Al W I => (HN W _ (I.box 0 186 _)).out) fun Al W I => zret I fun Al W I => a0o hk rfl I.bel (I.boxE 186 _)
theorem z0k (f : Fm) (n way : Int) (x : Dv) (p : OA) (c u : Nat) (w : World) (U : Bt w u 186 #[.int .i64 n, .int .i64 way, .int .i64 f.g.rad, .int .i64 f.g.digs, .int .i64 f.g.lo, .int .i64 f.g.hi, .bool f.g.grad, .int .u8 (famB f), .int .i64 0]) (hp : Rd w .u32 p (dig B32 x.m))
 (hl : (dig B32 x.m).length ≤ 100000) (he : -1000000 ≤ x.e ∧ x.e ≤ 1000000) (G : c0g f) (hw : 1 ≤ way ∧ way ≤ 5) :
 Calls Tryz.prog 128 #[.pointer (some ⟨u, 0, none⟩), .agg #[.bool x.neg, .slice p (dig B32 x.m).length c, .int .i64 x.e]] w (g0f f n way u w w.heap.size (f.numM x way)) := by
 have hs : f0a ⟨x.neg, x.m, x.e⟩ = f0a x := rfl
 have HS := fun W => lHd (d0o x.neg p _ c x.e x.m W rfl)
 rw [hs] at HS
 have h0 := o0k x
 by_cases hx : x.m = 0
 · have hn : f.numM x way = (⟨1, false, vz⟩, 0) := by unfold Fm.numM Fm.zeroM; rw [if_pos hx]; simp
   rw [hn]
   have HZ := fun W u hU => lHd (v0d f n way 0 false u W hU)
   rw [Bool.false_and] at HZ
   have hd := h0.2 hx
   generalize f0a x = sx at *
   have I := Inv.startW w u 186 (uS f n way 0) [rdF .u32 p (dig B32 x.m)] U ⟨hp, True.intro⟩ ⟨fun hf => hp.far U (by kernel_rfl) hf.1 hf.2, True.intro⟩
   refine a0c [.p 0 0, .v (.agg #[.bool x.neg, .slice p (dig B32 x.m).length c, .int .i64 x.e])] I Tryz.func128 ?_
   refine zq I (fun Al W I => (HS W).out) fun Al W I => zb I 7 (sx == 0) (true) (beq_iff_eq.2 hd) fun Al W I => zq I (fun Al W I => (HZ W _ (I.box 0 186 _)).out) fun Al W I => zret I fun Al W I => a0o (k := 1) (by decide) rfl I.bel (I.boxE 186 _)
 · have hn : f.numM x way = f.placedM (a0m x.neg x.m 1 x.e f.g way) way := by unfold Fm.numM; rw [if_neg hx]
   rw [hn]
   have hd : f0a x ≠ 0 := fun h => hx (h0.1 h)
   have l1 : (dig B32 1).length ≤ 1 := by rw [a0g a0b]; unfold B32; omega
   have HF := fun p q c d u W U h1 h2 => lHd (t1l f n way x.neg p q c d x.m 1 x.e u W U h1 h2 hl (by omega) (by omega) (by omega) he G hw)
   have HV := (f0j G (neg := x.neg) (num := x.m) (den := 1) (e := x.e) (way := way) (by omega)).2
   have hm : f.placedM (a0m x.neg x.m 1 x.e f.g way) way = ((f.placedM (a0m x.neg x.m 1 x.e f.g way) way).1, (f.placedM (a0m x.neg x.m 1 x.e f.g way) way).2) := rfl
   rw [hm]
   generalize (f.placedM (a0m x.neg x.m 1 x.e f.g way) way).1 = r at *
   generalize (f.placedM (a0m x.neg x.m 1 x.e f.g way) way).2 = fl at *
   generalize f.placedV (a0m x.neg x.m 1 x.e f.g way) way = v at *
   generalize f0a x = sx at *
   have I := Inv.startW w u 186 (uS f n way 0) [rdF .u32 p (dig B32 x.m)] U ⟨hp, True.intro⟩ ⟨fun hf => hp.far U (by kernel_rfl) hf.1 hf.2, True.intro⟩
   refine a0c [.p 0 0, .v (.agg #[.bool x.neg, .slice p (dig B32 x.m).length c, .int .i64 x.e])] I Tryz.func128 ?_
   refine zq I (fun Al W I => (HS W).out) fun Al W I => zb I 7 (sx == 0) (false) (bFn hd) fun Al W I => zd [0, 2] I fun Al W I => zk [0, 1, 2, 3, 4, 5, 6, 8, 9, 10] I fun I => zo 7 I fun I => zqo I (fun Al W I => have hzW := I.bel.size; sof 1 1 rfl (by omega) W) fun Al W p17 c17 I => zk [11] I fun I => zo 12 I fun I => zge I 0 186 (fun Al W I => (HF p p17 c c17 _ W (I.box 0 186 _) I.fa.2.1 I.fa.1.rd).out) fun Al V Iv _ _ kz => ?_
   rintro _ W ⟨p22, c22, rfl, o22, hO, hB⟩
   refine ⟨_, rfl, kz _ (uS f n way (fl : Int)) _ hO hB fun I => ?_⟩
   have I := I.own o22
   refine zo 13 I fun I => zn I fun Al W I => zret I fun Al W I => ⟨v, HV, p22, c22, rfl, I.fa.1.mono (by omega), I.bel, I.boxE 186 _⟩
structure Vp where
 v : Vl
 p : OA
 c : Nat
def Vp.cells (x : Vp) : List Value := [.int .i64 (x.v.cls : Int), .bool x.v.neg, .slice x.p (dig B32 x.v.d).length x.c, .int .i64 x.v.pow]
theorem Vp.len (x : Vp) : x.cells.length = 4 := rfl
theorem v0k : b1g Tryz.prog 59 61 4 48 := y0y (z := .agg #[.int .i64 0, .bool false, .slice none 0 0, .int .i64 0]) (by kernel_rfl) (by kernel_rfl) (by kernel_rfl) (by kernel_rfl) (by kernel_rfl)
theorem p0m : m0p Tryz.prog 61 4 := y0l (by kernel_rfl) (by kernel_rfl)
theorem n1s (f : Fm) (n way fl : Int) (xs : List Vp) (b m u : Nat) (w : World) (U : Bt w u 186 #[.int .i64 n, .int .i64 way, .int .i64 f.g.rad, .int .i64 f.g.digs, .int .i64 f.g.lo, .int .i64 f.g.hi, .bool f.g.grad, .int .u8 (famB f), .int .i64 fl]) (hB : Bt w b 61 (xs.flatMap Vp.cells).toArray) (hm : m = xs.length) (hl : xs.length ≤ 1000) (hno : ∀ x ∈ xs, x.v.cls < 4) :
 Calls Tryz.prog 56 #[.pointer (some ⟨u, 0, none⟩), .slice (some ⟨b, 0, none⟩) m m] w fun en w' => en = .returned (.tuple #[.agg #[.int .i64 0, .bool false, .slice none 0 0, .int .i64 0], .bool false]) ∧ Below w.heap.size w w' := by
 subst hm
 have HX : ∀ i, i < xs.length → ∃ x : Vp, xs[i]? = some x ∧ x.v.cls < 4 := fun i h => ⟨xs[i], List.getElem?_eq_getElem h, hno _ (List.getElem_mem h)⟩
 have I := Inv.startR w [u] [⟨186, (uS f n way fl), true⟩] [btF b 61 (xs.flatMap Vp.cells).toArray] ⟨U, True.intro⟩ ⟨hB, True.intro⟩
 refine a0c [.p 0 0, .v (.slice (some ⟨b, 0, none⟩) xs.length xs.length)] I Tryz.func56 ?_
 refine h0u I (fun gk fr bx gs => ∃ (U900 : Nat → Value) (i : Nat), fr = (.p 0 0 :: .v (.slice (some ⟨b, 0, none⟩) xs.length xs.length) :: su 2 (.p 1 0 :: .v (U900 5) :: .v undef :: .v (U900 7) :: .v (.slice (some ⟨b, 0, none⟩) xs.length xs.length) :: .v (.int .i64 (xs.length : Int)) :: .v (.int .i64 (i : Int)) :: sw U900 11 16 []) : List SV) ∧ bx = [⟨186, (uS f n way fl), true⟩, ⟨61, [.v (.int .i64 0), .v (.bool false), .v (.slice none 0 0), .v (.int .i64 0)], false⟩] ∧ gs = [btF b 61 (xs.flatMap Vp.cells).toArray] ∧ (gk + i = xs.length)) xs.length (fun Al W U I => ⟨_, ⟨U, 0, rfl, rfl, rfl, (by omega)⟩, I.pick [0]⟩) ?_
 rintro J0 gk0 _ _ _ ⟨U900, i, rfl, rfl, rfl, hgk⟩ hJ0 Al W I
 rcases bTF (decide ((i : Int) < (xs.length : Int))) with f11 | f11
 · refine zb I 11 (decide ((i : Int) < (xs.length : Int))) (true) (f11) fun Al W I => ?_
   obtain ⟨x, hx, hx4⟩ := HX i (by have := oTr f11; omega)
   refine zx I 12 (fun _ => .pointer (some (at_ (some ⟨b, 0, none⟩) (i * 4)))) (fun Al W I => (o0m (m := i) (n := xs.length) (c := xs.length) v0k (fun _ => ⟨rfl, rfl⟩) (by have := oTr f11; omega))) fun Al W I => zx I 13 (fun _ => .agg #[vI (x.v.cls : Int), .bool x.v.neg, .slice x.p (dig B32 x.v.d).length x.c, vI x.v.pow]) (fun Al W I => (n1h I.fa.1 p0m x.cells (x0b Vp.len hx) rfl)) fun Al W I => zqd I (fun Al W I => o0w x.v.cls x.v.neg x.p (dig B32 x.v.d).length x.c x.v.pow W) (show (decide (x.v.cls = 4) || decide (x.v.cls = 5)) = false from (by rw [decide_eq_false (by omega), decide_eq_false (by omega)]; rfl)) fun Al W I => zi I 25 .i64 ((i : Int) + 1) (((i + 1 : Nat) : Int)) ((by rw [show ((i : Int) + 1) = ((i + 1 : Nat) : Int) by omega]; exact IntWalk.i64_in _ (by have := oTr f11; omega))) fun Al W I => o0n 2 I J0 fun Al W U I => hJ0 (gk0 - 1) _ _ _ _ _ ((by have := oTr f11; omega)) ⟨U, i + 1, rfl, rfl, rfl, (by have := oTr f11; omega)⟩ (I.pick [0])
 refine zb I 11 (decide ((i : Int) < (xs.length : Int))) (false) (f11) fun Al W I => zrb I
theorem g1u (f : Fm) (n way : Int) (xs : List Vp) (b m u : Nat) (w : World) (U : Bt w u 186 #[.int .i64 n, .int .i64 way, .int .i64 f.g.rad, .int .i64 f.g.digs, .int .i64 f.g.lo, .int .i64 f.g.hi, .bool f.g.grad, .int .u8 (famB f), .int .i64 0]) (hB : Bt w b 61 (xs.flatMap Vp.cells).toArray) (hm : m = xs.length) (hl : xs.length ≤ 1000) (hc : ∀ x ∈ xs, x.v.cls ≤ 5) (G : c0g f) (hyes : ∃ x ∈ xs, 4 ≤ x.v.cls) :
 Calls Tryz.prog 56 #[.pointer (some ⟨u, 0, none⟩), .slice (some ⟨b, 0, none⟩) m m] w fun en w' => en = .returned (.tuple #[.agg #[.int .i64 (f.nothM.cls : Int), .bool false, .slice none 0 0, .int .i64 0], .bool true]) ∧ Kp [u] w w' ∧ Bt w' u 186 #[.int .i64 n, .int .i64 way, .int .i64 f.g.rad, .int .i64 f.g.digs, .int .i64 f.g.lo, .int .i64 f.g.hi, .bool f.g.grad, .int .u8 (famB f), .int .i64 ((f.offM.2 : Nat) : Int)] := by
 subst hm
 have HX : ∀ i, i < xs.length → ∃ x : Vp, xs[i]? = some x ∧ x.v.cls ≤ 5 := fun i h => ⟨xs[i], List.getElem?_eq_getElem h, hc _ (List.getElem_mem h)⟩
 obtain ⟨y, hy, hy4⟩ := hyes
 obtain ⟨j, hj, hjy⟩ := List.getElem_of_mem hy
 have hYJ : xs[j]? = some y := by rw [List.getElem?_eq_getElem hj, hjy]
 clear hjy hy hc
 have HN := fun fl W u hU => lHd (l0b f n way fl u W hU)
 have HR := fun W u hU => lHd (c0s f n way 0 16 16 u W hU (by decide +kernel))
 have e2 : f.fam = 3 → ((f.offM.2 : Nat) : Int) = 16 ∧ famB f = 67 := fun h => ⟨by unfold Fm.offM; rw [if_pos h]; rfl, by unfold famB; rw [if_neg (by omega), if_neg (by omega)]⟩
 have e3 : f.fam ≠ 3 → ((f.offM.2 : Nat) : Int) = 0 := fun h => by unfold Fm.offM; rw [if_neg h]; rfl
 have e4 : f.fam ≠ 3 → famB f ≠ 67 := fun h => by have := G.fam; unfold famB; split; decide; rw [if_pos (by omega)]; decide
 generalize ((f.offM.2 : Nat) : Int) = fl at *
 generalize f.nothM.cls = kN at *
 have I := Inv.startW w u 186 (uS f n way 0) [btF b 61 (xs.flatMap Vp.cells).toArray] U ⟨hB, True.intro⟩ ⟨fun hf => hB.far U (by kernel_rfl) hf, True.intro⟩
 refine a0c [.p 0 0, .v (.slice (some ⟨b, 0, none⟩) xs.length xs.length)] I Tryz.func56 ?_
 refine h0u I (fun gk fr bx gs => ∃ (U900 : Nat → Value) (i : Nat), fr = (.p 0 0 :: .v (.slice (some ⟨b, 0, none⟩) xs.length xs.length) :: su 2 (.p 1 0 :: .v (U900 5) :: .v undef :: .v (U900 7) :: .v (.slice (some ⟨b, 0, none⟩) xs.length xs.length) :: .v (.int .i64 (xs.length : Int)) :: .v (.int .i64 (i : Int)) :: sw U900 11 16 []) : List SV) ∧ bx = [⟨186, (uS f n way 0), false⟩, ⟨61, [.v (.int .i64 0), .v (.bool false), .v (.slice none 0 0), .v (.int .i64 0)], false⟩] ∧ gs = [btF b 61 (xs.flatMap Vp.cells).toArray] ∧ (gk + i = xs.length) ∧ (∀ (j : Nat) (x : Vp), j < i → xs[j]? = some x → x.v.cls < 4)) xs.length (fun Al W U I => ⟨_, ⟨U, 0, rfl, rfl, rfl, (by omega), (fun _ _ h => absurd h (by omega))⟩, I.pick [0]⟩) ?_
 rintro J0 gk0 _ _ _ ⟨U900, i, rfl, rfl, rfl, hgk, hlt⟩ hJ0 Al W I
 rcases bTF (decide ((i : Int) < (xs.length : Int))) with f11 | f11
 · refine zb I 11 (decide ((i : Int) < (xs.length : Int))) (true) (f11) fun Al W I => ?_
   obtain ⟨x, hx, hx5⟩ := HX i (by have := oTr f11; omega)
   refine zx I 12 (fun _ => .pointer (some (at_ (some ⟨b, 0, none⟩) (i * 4)))) (fun Al W I => (o0m (m := i) (n := xs.length) (c := xs.length) v0k (fun _ => ⟨rfl, rfl⟩) (by have := oTr f11; omega))) fun Al W I => zx I 13 (fun _ => .agg #[vI (x.v.cls : Int), .bool x.v.neg, .slice x.p (dig B32 x.v.d).length x.c, vI x.v.pow]) (fun Al W I => (n1h I.fa.1 p0m x.cells (x0b Vp.len hx) rfl)) fun Al W I => ?_
   by_cases hof : 4 ≤ x.v.cls
   · refine zqd I (fun Al W I => o0w x.v.cls x.v.neg x.p (dig B32 x.v.d).length x.c x.v.pow W) (show (decide (x.v.cls = 4) || decide (x.v.cls = 5)) = true from (by rcases (show x.v.cls = 4 ∨ x.v.cls = 5 by omega) with h | h <;> rw [h] <;> rfl)) fun Al W I => ?_
     by_cases hf3 : f.fam = 3
     · refine zb I 20 ((famB f) == 67) (true) (beq_iff_eq.2 (e2 hf3).2) fun Al W I => zge I 0 186 (fun Al W I => (HR W _ (I.box 0 186 _)).out) fun Al V Iv _ _ kz => ?_
       rintro _ W ⟨rfl, hO, hB⟩
       refine ⟨_, rfl, kz _ (uS f n way 16) _ hO hB fun I => ?_⟩
       refine zq I (fun Al W I => (HN 16 W _ (I.box 0 186 _)).out) fun Al W I => zret I (v := fun Al => .tuple #[.agg #[vI (kN : Int), .bool false, .slice none 0 0, vI 0], .bool true]) fun Al W I => ?_
       first | exact ⟨rfl, I.bel, by rw [(e2 hf3).1]; exact I.boxE 186 _⟩ | exact ⟨rfl, I.bel, by rw [e3 hf3]; exact I.boxE 186 _⟩
     refine zb I 20 ((famB f) == 67) (false) (bFn (e4 hf3)) fun Al W I => zq I (fun Al W I => (HN 0 W _ (I.box 0 186 _)).out) fun Al W I => zret I (v := fun Al => .tuple #[.agg #[vI (kN : Int), .bool false, .slice none 0 0, vI 0], .bool true]) fun Al W I => ?_
     first | exact ⟨rfl, I.bel, by rw [(e2 hf3).1]; exact I.boxE 186 _⟩ | exact ⟨rfl, I.bel, by rw [e3 hf3]; exact I.boxE 186 _⟩
   refine zqd I (fun Al W I => o0w x.v.cls x.v.neg x.p (dig B32 x.v.d).length x.c x.v.pow W) (show (decide (x.v.cls = 4) || decide (x.v.cls = 5)) = false from (by rw [decide_eq_false (by omega), decide_eq_false (by omega)]; rfl)) fun Al W I => zi I 25 .i64 ((i : Int) + 1) (((i + 1 : Nat) : Int)) ((by rw [show ((i : Int) + 1) = ((i + 1 : Nat) : Int) by omega]; exact IntWalk.i64_in _ (by have := oTr f11; omega))) fun Al W I => o0n 2 I J0 fun Al W U I => hJ0 (gk0 - 1) _ _ _ _ _ ((by have := oTr f11; omega)) ⟨U, i + 1, rfl, rfl, rfl, (by have := oTr f11; omega), (fun j' x' h h' => by rcases (show j' < i ∨ j' = i by omega) with q | rfl; exact hlt j' x' q h'; rw [hx] at h'; cases h'; omega)⟩ (I.pick [0])
 refine zb I 11 (decide ((i : Int) < (xs.length : Int))) (false) (f11) fun Al W I => zret I (v := fun Al => .tuple #[.agg #[vI 0, .bool false, .slice none 0 0, vI 0], .bool false]) fun Al W I => absurd (hlt j y (by have := oFa f11; omega) hYJ) (by rw [Nat.not_lt]; omega)
theorem g1v (x y : Dv) (p q : OA) (c d base : Nat) (w : World) (hx : Bare x) (hy : Bare y) (sx : SmD x) (sy : SmD y) (hp : Own w base .u32 139 p c (dig B32 x.m)) (hq : Own w base .u32 139 q d (dig B32 y.m)) (hT : TabW w) (hb : base ≤ w.heap.size) :
 Calls Tryz.prog 126 #[.agg #[.bool x.neg, .slice p (dig B32 x.m).length c, .int .i64 x.e], .agg #[.bool y.neg, .slice q (dig B32 y.m).length d, .int .i64 y.e]] w (f0s w base (k0g x y)) := by
 have h1 := sx.len
 have h2 := sy.len
 have h3 := sx.lo
 have h4 := sx.hi
 have h5 := sy.lo
 have h6 := sy.hi
 have := f1i x.neg y.neg p q _ c _ d base x.e y.e x.m y.m w hp hq rfl rfl (by omega) (by omega) (by omega) (by omega) hT hb
 rw [show (⟨x.neg, x.m, x.e⟩ : Dv) = x from rfl, show (⟨y.neg, y.m, y.e⟩ : Dv) = y from rfl, y0i hx hy] at this
 exact this
theorem u1q (f : Fm) (n way : Int) (x y : Dv) (g h : Bool) (p q : OA) (c d base u : Nat) (w : World) (U : Bt w u 186 #[.int .i64 n, .int .i64 way, .int .i64 f.g.rad, .int .i64 f.g.digs, .int .i64 f.g.lo, .int .i64 f.g.hi, .bool f.g.grad, .int .u8 (famB f), .int .i64 0]) (hp : Own w base .u32 139 p c (dig B32 x.m)) (hq : Own w base .u32 139 q d (dig B32 y.m)) (hb : base ≤ w.heap.size)
 (hx : Bare x) (hy : Bare y) (sx : SmD x) (sy : SmD y) (G : c0g f) (hw : 1 ≤ way ∧ way ≤ 5) (hT : TabW w) :
 Calls Tryz.prog 59 #[.pointer (some ⟨u, 0, none⟩), .agg #[.bool x.neg, .slice p (dig B32 x.m).length c, .int .i64 x.e], .agg #[.bool y.neg, .slice q (dig B32 y.m).length d, .int .i64 y.e], .bool g, .bool h] w (g0f f n way u w w.heap.size (f.sumM x y g h way)) := by
 have HP := fun W h1 h2 h3 h4 => lHd (g1v x y p q c d base W hx hy sx sy h1 h2 h3 h4)
 have hbd := k1a sx.len sy.len sx.lo sx.hi sy.lo sy.hi
 rw [y0i hx hy] at hbd
 have hS1 : (k0g x y).m ≠ 0 → f.sumM x y g h way = f.numM (k0g x y) way := fun k => by unfold Fm.sumM; rw [if_pos k]
 have hS2 : (k0g x y).m = 0 → x.m = 0 ∧ g = h → f.sumM x y g h way = (f.zeroM g, 0) := fun k k' => by unfold Fm.sumM; rw [if_neg (fun h => h k), if_pos k']
 have hS3 : (k0g x y).m = 0 → ¬ (x.m = 0 ∧ g = h) → f.sumM x y g h way = (f.zeroM (decide (way = 5)), 0) := fun k k' => by unfold Fm.sumM; rw [if_neg (fun h => h k), if_neg k']
 generalize k0g x y = s at *
 generalize f.sumM x y g h way = R at *
 have HN := fun W u (p : OA) (c : Nat) hU h1 => lHd (z0k f n way s p c u W hU h1 (by omega) (by omega) G hw)
 have HS := fun (W : World) (p : OA) (c : Nat) => lHd (d0o s.neg p _ c s.e s.m W rfl)
 have HX := fun (W : World) => lHd (d0o x.neg p _ c x.e x.m W rfl)
 have HZ := fun g W u hU => lHd (v0d f n way 0 g u W hU)
 rw [show (⟨s.neg, s.m, s.e⟩ : Dv) = s from rfl] at HS
 rw [show (⟨x.neg, x.m, x.e⟩ : Dv) = x from rfl] at HX
 have hs0 := o0k s
 have hx0 := o0k x
 generalize f0a s = ss at *
 generalize f0a x = xs at *
 obtain ⟨rN, flN, hN⟩ : ∃ rN flN, f.numM s way = (rN, flN) := ⟨_, _, rfl⟩
 rw [hN] at HN hS1
 clear hN
 have I := Inv.startW w u 186 (uS f n way 0) [ownF base .u32 139 p c (dig B32 x.m), ownF base .u32 139 q d (dig B32 y.m), tabF] U ⟨hp, hq, hT, True.intro⟩ ⟨fun hf => hp.far U (by kernel_rfl) hf.1 hf.2, fun hf => hq.far U (by kernel_rfl) hf.1 hf.2, fun hf => hT.far U (by kernel_rfl) hf, True.intro⟩
 refine a0c [.p 0 0, .v (.agg #[.bool x.neg, .slice p (dig B32 x.m).length c, .int .i64 x.e]), .v (.agg #[.bool y.neg, .slice q (dig B32 y.m).length d, .int .i64 y.e]), .v (.bool g), .v (.bool h)] I Tryz.func59 ?_
 refine zg I (fun Al W I => have hzW := I.bel.size; (HP W I.fa.1 I.fa.2.1 I.fa.2.2.1 (by omega)).out) fun Al V Iv _ hB _ kz => ?_
 rintro _ W ⟨p14, c14, rfl, o14, hb⟩
 refine ⟨_, rfl, kz _ _ hb fun I => ?_⟩
 have I := I.ownB base o14
 by_cases hs : s.m = 0
 · refine zq I (fun Al W I => (HS W p14 c14).out) fun Al W I => zb I 17 (ss != 0) (false) (bne_eq_false_iff_eq.2 (hs0.2 hs)) fun Al W I => ?_
   by_cases hx1 : x.m = 0
   · by_cases hgh : g = h
     · refine zq I (fun Al W I => (HX W).out) fun Al W I => zb I 23 (xs == 0) (true) (beq_iff_eq.2 (hx0.2 hx1)) fun Al W I => zb I 27 (g == h) (true) ((by rw [hgh]; exact beq_self_eq_true h)) fun Al W I => zq I (fun Al W I => (HZ g W _ (I.box 0 186 _)).out) fun Al W I => ?_
       rw [hS2 hs ⟨hx1, hgh⟩]
       exact zret I fun Al W I => a0o (k := 1) (by decide) rfl I.bel (I.boxE 186 _)
     refine zq I (fun Al W I => (HX W).out) fun Al W I => zb I 23 (xs == 0) (true) (beq_iff_eq.2 (hx0.2 hx1)) fun Al W I => zb I 27 (g == h) (false) (bFn hgh) fun Al W I => zb I 37 (way == 5) ((decide (way = 5))) (rfl) fun Al W I => zq I (fun Al W I => (HZ (decide (way = 5)) W _ (I.box 0 186 _)).out) fun Al W I => ?_
     rw [hS3 hs (fun k => by first | exact hx1 k.1 | exact hgh k.2)]
     exact zret I fun Al W I => a0o (k := 1) (by decide) rfl I.bel (I.boxE 186 _)
   by_cases hgh : g = h
   · refine zq I (fun Al W I => (HX W).out) fun Al W I => zb I 23 (xs == 0) (false) (bFn (fun k => hx1 (hx0.1 k))) fun Al W I => zb I 37 (way == 5) ((decide (way = 5))) (rfl) fun Al W I => zq I (fun Al W I => (HZ (decide (way = 5)) W _ (I.box 0 186 _)).out) fun Al W I => ?_
     rw [hS3 hs (fun k => by first | exact hx1 k.1 | exact hgh k.2)]
     exact zret I fun Al W I => a0o (k := 1) (by decide) rfl I.bel (I.boxE 186 _)
   refine zq I (fun Al W I => (HX W).out) fun Al W I => zb I 23 (xs == 0) (false) (bFn (fun k => hx1 (hx0.1 k))) fun Al W I => zb I 37 (way == 5) ((decide (way = 5))) (rfl) fun Al W I => zq I (fun Al W I => (HZ (decide (way = 5)) W _ (I.box 0 186 _)).out) fun Al W I => ?_
   rw [hS3 hs (fun k => by first | exact hx1 k.1 | exact hgh k.2)]
   exact zret I fun Al W I => a0o (k := 1) (by decide) rfl I.bel (I.boxE 186 _)
 refine zq I (fun Al W I => (HS W p14 c14).out) fun Al W I => zb I 17 (ss != 0) (true) (bne_iff_ne.2 (fun k => hs (hs0.1 k))) fun Al W I => zge I 0 186 (fun Al W I => (HN W _ p14 c14 (I.box 0 186 _) I.fa.1.rd).out) fun Al V Iv _ _ kz => ?_
 rintro _ W ⟨v20, hR20, p20, c20, rfl, o20, hO, hB⟩
 refine ⟨_, rfl, kz _ (uS f n way (flN : Int)) _ hO hB fun I => ?_⟩
 have I := I.own o20
 rw [hS1 hs]
 exact zret I fun Al W I => ⟨v20, hR20, p20, c20, rfl, I.fa.1, I.bel, I.boxE 186 _⟩
structure AtV (f : Fm) (a : Vp) (r : Vr) : Prop where
 rep : VRep f a.v r
 ok : VrOk r
 inf : r.cls = 3 → f.fam = 1
theorem VrOk.sm {r : Vr} (R : VrOk r) : SmD r.x := ⟨by have := R.len; omega, by have := R.lo; omega, by have := R.hi; omega⟩
theorem l1k {r s : Vr} (R : VrOk r) (S : VrOk s) : SmD (j0d r.x s.x) := by
 have h1 := R.len
 have h2 := S.len
 have h3 := R.lo
 have h4 := R.hi
 have h5 := S.lo
 have h6 := S.hi
 have h7 := a1w r.x s.x
 have h8 : (dig B32 (r.x.m * s.x.m)).length ≤ 1200 := Nat.le_trans (b0l a0b _ _) (by omega)
 have h9 := y0p ⟨xor r.x.neg s.x.neg, r.x.m * s.x.m, r.x.e + s.x.e⟩ (n := 1200) h8 (lo := -60000) (hi := 60000) (by simp only; omega) (by simp only; omega) (by omega) (by omega)
 have e : j0d r.x s.x = bare ⟨xor r.x.neg s.x.neg, r.x.m * s.x.m, r.x.e + s.x.e⟩ := rfl
 rw [← e] at h9
 exact ⟨by omega, by omega, by omega⟩
theorem q1i (f : Fm) (n way : Int) (u : Nat) (w : World) (U : Bt w u 186 #[.int .i64 n, .int .i64 way, .int .i64 f.g.rad, .int .i64 f.g.digs, .int .i64 f.g.lo, .int .i64 f.g.hi, .bool f.g.grad, .int .u8 (famB f), .int .i64 0]) :
 Calls Tryz.prog 58 #[.pointer (some ⟨u, 0, none⟩), .int .i64 16] w fun en w' => en = .returned (.agg #[.int .i64 (f.nothM.cls : Int), .bool false, .slice none 0 0, .int .i64 0]) ∧ Kp [u] w w' ∧ Bt w' u 186 #[.int .i64 n, .int .i64 way, .int .i64 f.g.rad, .int .i64 f.g.digs, .int .i64 f.g.lo, .int .i64 f.g.hi, .bool f.g.grad, .int .u8 (famB f), .int .i64 16] := by
 have HR := fun W u hU => lHd (c0s f n way 0 16 16 u W hU (by decide +kernel))
 have HN := fun W u hU => lHd (l0b f n way 16 u W hU)
 generalize f.nothM.cls = k at *
 have I := Inv.startW w u 186 (uS f n way 0) [] U True.intro True.intro
 refine a0c [.p 0 0, .v (.int .i64 16)] I Tryz.func58 ?_
 refine zge I 0 186 (fun Al W I => (HR W _ (I.box 0 186 _)).out) fun Al V Iv _ _ kz => ?_
 rintro _ W ⟨rfl, hO, hB⟩
 refine ⟨_, rfl, kz _ (uS f n way 16) _ hO hB fun I => ?_⟩
 refine zq I (fun Al W I => (HN W _ (I.box 0 186 _)).out) fun Al W I => zret I fun Al W I => ⟨rfl, I.bel, I.boxE 186 _⟩
theorem c1f (x y : Dv) (p q : OA) (c d base : Nat) (w : World) (sx : SmD x) (sy : SmD y) (hp : Own w base .u32 139 p c (dig B32 x.m)) (hq : Own w base .u32 139 q d (dig B32 y.m)) (hT : TabW w) :
 Calls Tryz.prog 178 #[.agg #[.bool x.neg, .slice p (dig B32 x.m).length c, .int .i64 x.e], .agg #[.bool y.neg, .slice q (dig B32 y.m).length d, .int .i64 y.e]] w (f0s w w.heap.size (j0d x y)) := by
 have h1 := sx.len
 have h2 := sy.len
 have h3 := sx.lo
 have h4 := sx.hi
 have h5 := sy.lo
 have h6 := sy.hi
 exact b1m x.neg y.neg p q _ c _ d base x.e y.e x.m y.m w hp hq rfl rfl (by omega) (by omega) (by omega) (by omega) hT
def two (a b : Vp) : List Vp := [a, b]
theorem u1r (f : Fm) (n way : Int) (a b : Vp) (ra rb : Vr) (base u : Nat) (w : World) (U : Bt w u 186 #[.int .i64 n, .int .i64 way, .int .i64 f.g.rad, .int .i64 f.g.digs, .int .i64 f.g.lo, .int .i64 f.g.hi, .bool f.g.grad, .int .u8 (famB f), .int .i64 0]) (oa : Own w base .u32 139 a.p a.c (dig B32 a.v.d)) (ob : Own w base .u32 139 b.p b.c (dig B32 b.v.d)) (hb : base ≤ w.heap.size)
 (A1 : AtV f a ra) (B1 : AtV f b rb) (G : c0g f) (hw : 1 ≤ way ∧ way ≤ 5) (hT : TabW w) :
 Calls Tryz.prog 24 #[.pointer (some ⟨u, 0, none⟩), .agg #[.int .i64 (a.v.cls : Int), .bool a.v.neg, .slice a.p (dig B32 a.v.d).length a.c, .int .i64 a.v.pow], .agg #[.int .i64 (b.v.cls : Int), .bool b.v.neg, .slice b.p (dig B32 b.v.d).length b.c, .int .i64 b.v.pow]] w (g0f f n way u w base (f.addM ra rb way)) := by
 have hM : f.addM ra rb way = if 4 ≤ a.v.cls ∨ 4 ≤ b.v.cls then f.offM else if a.v.cls = 3 ∨ b.v.cls = 3 then (if a.v.cls = b.v.cls ∧ a.v.neg ≠ b.v.neg then f.lostM else if a.v.cls = 3 then (ra, 0) else (rb, 0)) else f.sumM ra.x rb.x a.v.neg b.v.neg way := by
  unfold Fm.addM; rw [A1.rep.cls, B1.rep.cls, A1.rep.neg, B1.rep.neg]
 have hca : a.v.cls ≤ 5 := by rw [A1.rep.cls]; exact A1.ok.c.2
 have hcb : b.v.cls ≤ 5 := by rw [B1.rep.cls]; exact B1.ok.c.2
 have HY := fun W b0 u h1 h2 h3 => lHd (g1u f n way [a, b] b0 2 u W h1 h2 rfl (by simp) (by simp [hca, hcb]) G h3)
 have HN := fun W b0 u h1 h2 h3 => lHd (n1s f n way 0 [a, b] b0 2 u W h1 h2 rfl (by simp) h3)
 have HL := fun W u h1 => lHd (t1m f n way u W h1 16 16 (by decide +kernel))
 have HA := fun W u h1 h2 h3 => lHd (l1j f n way 0 a.v ra a.p a.c base u W h1 h2 A1.rep A1.ok h3)
 have HB := fun W u h1 h2 h3 => lHd (l1j f n way 0 b.v rb b.p b.c base u W h1 h2 B1.rep B1.ok h3)
 have HS := fun W p q c d base u h1 h2 h3 h4 h5 => lHd (u1q f n way ra.x rb.x a.v.neg b.v.neg p q c d base u W h1 h2 h3 h4 A1.ok.bare B1.ok.bare A1.ok.sm B1.ok.sm G hw h5)
 have hoffm : f.offM = (⟨f.nothM.cls, false, vz⟩, f.offM.2) := rfl
 have hk2 := p0a G
 have hlostm : f.lostM = (f.nothM, 16) := rfl
 have VA := A1.rep
 have VB := B1.rep
 obtain ⟨rS, flS, hS⟩ : ∃ rS flS, f.sumM ra.x rb.x a.v.neg b.v.neg way = (rS, flS) := ⟨_, _, rfl⟩
 rw [hS] at HS hM
 generalize f.addM ra rb way = R at *
 generalize f.offM.2 = flo at *
 generalize f.nothM.cls = kN at *
 generalize f.nothM = rN at *
 have I := Inv.startW w u 186 (uS f n way 0) [ownF base .u32 139 a.p a.c (dig B32 a.v.d), ownF base .u32 139 b.p b.c (dig B32 b.v.d), tabF] U ⟨oa, ob, hT, True.intro⟩ ⟨fun hf => oa.far U (by kernel_rfl) hf.1 hf.2, fun hf => ob.far U (by kernel_rfl) hf.1 hf.2, fun hf => hT.far U (by kernel_rfl) hf, True.intro⟩
 refine a0c [.p 0 0, .v (.agg #[.int .i64 (a.v.cls : Int), .bool a.v.neg, .slice a.p (dig B32 a.v.d).length a.c, .int .i64 a.v.pow]), .v (.agg #[.int .i64 (b.v.cls : Int), .bool b.v.neg, .slice b.p (dig B32 b.v.d).length b.c, .int .i64 b.v.pow])] I Tryz.func24 ?_
 by_cases hof : 4 ≤ a.v.cls ∨ 4 ≤ b.v.cls
 · refine zge I 0 186 (fun Al W I => (HY W _ _ (I.box 0 186 _) (I.box 4 61 _) (by simpa using hof)).out) fun Al V Iv _ _ kz => ?_
   rintro _ W ⟨rfl, hO, hB⟩
   refine ⟨_, rfl, kz _ (uS f n way (flo : Int)) _ hO hB fun I => ?_⟩
   rw [hM]
   refine zret I (v := fun Al => .agg #[vI (kN : Int), .bool false, .slice none 0 0, vI 0]) fun Al W I => ?_
   (rw [if_pos hof, hoffm]; exact a0o hk2 rfl I.bel (I.boxE 186 _))
 refine zq I (fun Al W I => have hzW := I.bel.size; (HN W _ _ (I.box 0 186 _) (I.box 4 61 _) (by simp only [List.mem_cons, List.mem_nil_iff, or_false]; rintro x (rfl | rfl) <;> omega)).out) fun Al W I => ?_
 by_cases h3a : a.v.cls = 3
 · by_cases h3b : b.v.cls = 3
   · by_cases hng : a.v.neg = b.v.neg
     · refine zqd I (fun Al W I => a0f a.v.cls a.v.neg a.p (dig B32 a.v.d).length a.c a.v.pow W) (dTr h3a) fun Al W I => zqd I (fun Al W I => a0f b.v.cls b.v.neg b.p (dig B32 b.v.d).length b.c b.v.pow W) (dTr h3b) fun Al W I => zb I 31 (a.v.neg != b.v.neg) (false) (bne_eq_false_iff_eq.2 hng) fun Al W I => zqd I (fun Al W I => a0f a.v.cls a.v.neg a.p (dig B32 a.v.d).length a.c a.v.pow W) (dTr h3a) fun Al W I => ?_
       rw [hM]
       refine zret I (v := fun Al => .agg #[vI (a.v.cls : Int), .bool a.v.neg, .slice a.p (dig B32 a.v.d).length a.c, vI a.v.pow]) fun Al W I => ?_
       first | (rw [if_pos hof, hoffm]; exact a0o hk2 rfl I.bel (I.boxE 186 _)) | (rw [if_neg hof, if_pos (.inl h3a), if_neg (fun h => by first | exact h.2 hng | (have := h.1; omega)), if_pos h3a]; exact ⟨a.v, VA, a.p, a.c, rfl, I.fa.1, I.bel, I.boxE 186 _⟩) | (rw [if_neg hof, if_pos (.inr h3b), if_neg (fun h => h3a (by omega)), if_neg h3a]; exact ⟨b.v, VB, b.p, b.c, rfl, I.fa.2.1, I.bel, I.boxE 186 _⟩)
     refine zqd I (fun Al W I => a0f a.v.cls a.v.neg a.p (dig B32 a.v.d).length a.c a.v.pow W) (dTr h3a) fun Al W I => zqd I (fun Al W I => a0f b.v.cls b.v.neg b.p (dig B32 b.v.d).length b.c b.v.pow W) (dTr h3b) fun Al W I => zb I 31 (a.v.neg != b.v.neg) (true) (bne_iff_ne.2 hng) fun Al W I => zge I 0 186 (fun Al W I => (HL W _ (I.box 0 186 _)).out) fun Al V Iv _ _ kz => ?_
     rintro _ W ⟨v34, hR34, p34, c34, rfl, o34, hO, hB⟩
     refine ⟨_, rfl, kz _ (uS f n way 16) _ hO hB fun I => ?_⟩
     have I := I.ownB base o34
     rw [hM, if_neg hof, if_pos (.inl h3a), if_pos ⟨by omega, hng⟩, hlostm]
     exact zret I fun Al W I => ⟨v34, hR34, p34, c34, rfl, I.fa.1, I.bel, I.boxE 186 _⟩
   by_cases hng : a.v.neg = b.v.neg
   · refine zqd I (fun Al W I => a0f a.v.cls a.v.neg a.p (dig B32 a.v.d).length a.c a.v.pow W) (dTr h3a) fun Al W I => zqd I (fun Al W I => a0f b.v.cls b.v.neg b.p (dig B32 b.v.d).length b.c b.v.pow W) (dFa h3b) fun Al W I => zqd I (fun Al W I => a0f a.v.cls a.v.neg a.p (dig B32 a.v.d).length a.c a.v.pow W) (dTr h3a) fun Al W I => ?_
     rw [hM]
     refine zret I (v := fun Al => .agg #[vI (a.v.cls : Int), .bool a.v.neg, .slice a.p (dig B32 a.v.d).length a.c, vI a.v.pow]) fun Al W I => ?_
     first | (rw [if_pos hof, hoffm]; exact a0o hk2 rfl I.bel (I.boxE 186 _)) | (rw [if_neg hof, if_pos (.inl h3a), if_neg (fun h => by first | exact h.2 hng | (have := h.1; omega)), if_pos h3a]; exact ⟨a.v, VA, a.p, a.c, rfl, I.fa.1, I.bel, I.boxE 186 _⟩) | (rw [if_neg hof, if_pos (.inr h3b), if_neg (fun h => h3a (by omega)), if_neg h3a]; exact ⟨b.v, VB, b.p, b.c, rfl, I.fa.2.1, I.bel, I.boxE 186 _⟩)
   refine zqd I (fun Al W I => a0f a.v.cls a.v.neg a.p (dig B32 a.v.d).length a.c a.v.pow W) (dTr h3a) fun Al W I => zqd I (fun Al W I => a0f b.v.cls b.v.neg b.p (dig B32 b.v.d).length b.c b.v.pow W) (dFa h3b) fun Al W I => zqd I (fun Al W I => a0f a.v.cls a.v.neg a.p (dig B32 a.v.d).length a.c a.v.pow W) (dTr h3a) fun Al W I => ?_
   rw [hM]
   refine zret I (v := fun Al => .agg #[vI (a.v.cls : Int), .bool a.v.neg, .slice a.p (dig B32 a.v.d).length a.c, vI a.v.pow]) fun Al W I => ?_
   first | (rw [if_pos hof, hoffm]; exact a0o hk2 rfl I.bel (I.boxE 186 _)) | (rw [if_neg hof, if_pos (.inl h3a), if_neg (fun h => by first | exact h.2 hng | (have := h.1; omega)), if_pos h3a]; exact ⟨a.v, VA, a.p, a.c, rfl, I.fa.1, I.bel, I.boxE 186 _⟩) | (rw [if_neg hof, if_pos (.inr h3b), if_neg (fun h => h3a (by omega)), if_neg h3a]; exact ⟨b.v, VB, b.p, b.c, rfl, I.fa.2.1, I.bel, I.boxE 186 _⟩)
 by_cases h3b : b.v.cls = 3
 · by_cases hng : a.v.neg = b.v.neg
   · refine zqd I (fun Al W I => a0f a.v.cls a.v.neg a.p (dig B32 a.v.d).length a.c a.v.pow W) (dFa h3a) fun Al W I => zqd I (fun Al W I => a0f a.v.cls a.v.neg a.p (dig B32 a.v.d).length a.c a.v.pow W) (dFa h3a) fun Al W I => zqd I (fun Al W I => a0f b.v.cls b.v.neg b.p (dig B32 b.v.d).length b.c b.v.pow W) (dTr h3b) fun Al W I => ?_
     rw [hM]
     refine zret I (v := fun Al => .agg #[vI (b.v.cls : Int), .bool b.v.neg, .slice b.p (dig B32 b.v.d).length b.c, vI b.v.pow]) fun Al W I => ?_
     first | (rw [if_pos hof, hoffm]; exact a0o hk2 rfl I.bel (I.boxE 186 _)) | (rw [if_neg hof, if_pos (.inl h3a), if_neg (fun h => by first | exact h.2 hng | (have := h.1; omega)), if_pos h3a]; exact ⟨a.v, VA, a.p, a.c, rfl, I.fa.1, I.bel, I.boxE 186 _⟩) | (rw [if_neg hof, if_pos (.inr h3b), if_neg (fun h => h3a (by omega)), if_neg h3a]; exact ⟨b.v, VB, b.p, b.c, rfl, I.fa.2.1, I.bel, I.boxE 186 _⟩)
   refine zqd I (fun Al W I => a0f a.v.cls a.v.neg a.p (dig B32 a.v.d).length a.c a.v.pow W) (dFa h3a) fun Al W I => zqd I (fun Al W I => a0f a.v.cls a.v.neg a.p (dig B32 a.v.d).length a.c a.v.pow W) (dFa h3a) fun Al W I => zqd I (fun Al W I => a0f b.v.cls b.v.neg b.p (dig B32 b.v.d).length b.c b.v.pow W) (dTr h3b) fun Al W I => ?_
   rw [hM]
   refine zret I (v := fun Al => .agg #[vI (b.v.cls : Int), .bool b.v.neg, .slice b.p (dig B32 b.v.d).length b.c, vI b.v.pow]) fun Al W I => ?_
   first | (rw [if_pos hof, hoffm]; exact a0o hk2 rfl I.bel (I.boxE 186 _)) | (rw [if_neg hof, if_pos (.inl h3a), if_neg (fun h => by first | exact h.2 hng | (have := h.1; omega)), if_pos h3a]; exact ⟨a.v, VA, a.p, a.c, rfl, I.fa.1, I.bel, I.boxE 186 _⟩) | (rw [if_neg hof, if_pos (.inr h3b), if_neg (fun h => h3a (by omega)), if_neg h3a]; exact ⟨b.v, VB, b.p, b.c, rfl, I.fa.2.1, I.bel, I.boxE 186 _⟩)
 by_cases hng : a.v.neg = b.v.neg
 · refine zqd I (fun Al W I => a0f a.v.cls a.v.neg a.p (dig B32 a.v.d).length a.c a.v.pow W) (dFa h3a) fun Al W I => zqd I (fun Al W I => a0f a.v.cls a.v.neg a.p (dig B32 a.v.d).length a.c a.v.pow W) (dFa h3a) fun Al W I => zqd I (fun Al W I => a0f b.v.cls b.v.neg b.p (dig B32 b.v.d).length b.c b.v.pow W) (dFa h3b) fun Al W I => zd [0, 3] I fun Al W I => zk [0, 1, 2, 4, 5, 7, 8, 9, 10] I fun I => zo 3 I fun I => zg I (fun Al W I => (HA W _ (I.box 0 186 _) I.fa.1 I.fa.2.2.1).out) fun Al V Iv _ hB _ kz => ?_
   rintro _ W ⟨p46, c46, rfl, o46, hb⟩
   refine ⟨_, rfl, kz _ _ hb fun I => ?_⟩
   have I := I.ownB base o46
   refine zo 6 I fun I => zg I (fun Al W I => (HB W _ (I.box 0 186 _) I.fa.2.2.1 I.fa.2.2.2.1).out) fun Al V Iv _ hB _ kz => ?_
   rintro _ W ⟨p49, c49, rfl, o49, hb⟩
   refine ⟨_, rfl, kz _ _ hb fun I => ?_⟩
   have I := I.ownB base o49
   refine zo 11 I fun I => zge I 0 186 (fun Al W I => have hzW := I.bel.size; (HS W p46 p49 c46 c49 _ _ (I.box 0 186 _) I.fa.2.1 I.fa.1 (by omega) I.fa.2.2.2.2.1).out) fun Al V Iv _ _ kz => ?_
   rintro _ W ⟨v54, hR54, p54, c54, rfl, o54, hO, hB⟩
   refine ⟨_, rfl, kz _ (uS f n way (flS : Int)) _ hO hB fun I => ?_⟩
   have I := I.ownB base o54
   refine zo 12 I fun I => zn I fun Al W I => ?_
   rw [hM, if_neg hof, if_neg (by rintro (h | h); exact h3a h; exact h3b h)]
   exact zret I fun Al W I => ⟨v54, hR54, p54, c54, rfl, I.fa.1, I.bel, I.boxE 186 _⟩
 refine zqd I (fun Al W I => a0f a.v.cls a.v.neg a.p (dig B32 a.v.d).length a.c a.v.pow W) (dFa h3a) fun Al W I => zqd I (fun Al W I => a0f a.v.cls a.v.neg a.p (dig B32 a.v.d).length a.c a.v.pow W) (dFa h3a) fun Al W I => zqd I (fun Al W I => a0f b.v.cls b.v.neg b.p (dig B32 b.v.d).length b.c b.v.pow W) (dFa h3b) fun Al W I => zd [0, 3] I fun Al W I => zk [0, 1, 2, 4, 5, 7, 8, 9, 10] I fun I => zo 3 I fun I => zg I (fun Al W I => (HA W _ (I.box 0 186 _) I.fa.1 I.fa.2.2.1).out) fun Al V Iv _ hB _ kz => ?_
 rintro _ W ⟨p46, c46, rfl, o46, hb⟩
 refine ⟨_, rfl, kz _ _ hb fun I => ?_⟩
 have I := I.ownB base o46
 refine zo 6 I fun I => zg I (fun Al W I => (HB W _ (I.box 0 186 _) I.fa.2.2.1 I.fa.2.2.2.1).out) fun Al V Iv _ hB _ kz => ?_
 rintro _ W ⟨p49, c49, rfl, o49, hb⟩
 refine ⟨_, rfl, kz _ _ hb fun I => ?_⟩
 have I := I.ownB base o49
 refine zo 11 I fun I => zge I 0 186 (fun Al W I => have hzW := I.bel.size; (HS W p46 p49 c46 c49 _ _ (I.box 0 186 _) I.fa.2.1 I.fa.1 (by omega) I.fa.2.2.2.2.1).out) fun Al V Iv _ _ kz => ?_
 rintro _ W ⟨v54, hR54, p54, c54, rfl, o54, hO, hB⟩
 refine ⟨_, rfl, kz _ (uS f n way (flS : Int)) _ hO hB fun I => ?_⟩
 have I := I.ownB base o54
 refine zo 12 I fun I => zn I fun Al W I => ?_
 rw [hM, if_neg hof, if_neg (by rintro (h | h); exact h3a h; exact h3b h)]
 exact zret I fun Al W I => ⟨v54, hR54, p54, c54, rfl, I.fa.1, I.bel, I.boxE 186 _⟩
theorem q1j (f : Fm) (n way fl : Int) (a b : Vp) (u : Nat) (w : World) (U : Bt w u 186 #[.int .i64 n, .int .i64 way, .int .i64 f.g.rad, .int .i64 f.g.digs, .int .i64 f.g.lo, .int .i64 f.g.hi, .bool f.g.grad, .int .u8 (famB f), .int .i64 fl]) (h3a : a.v.cls ≠ 3) (h3b : b.v.cls ≠ 3) :
 Calls Tryz.prog 176 #[.pointer (some ⟨u, 0, none⟩), .agg #[.int .i64 (a.v.cls : Int), .bool a.v.neg, .slice a.p (dig B32 a.v.d).length a.c, .int .i64 a.v.pow], .agg #[.int .i64 (b.v.cls : Int), .bool b.v.neg, .slice b.p (dig B32 b.v.d).length b.c, .int .i64 b.v.pow]] w fun en w' => en = .returned (.tuple #[.agg #[.int .i64 0, .bool false, .slice none 0 0, .int .i64 0], .bool false]) ∧ Below w.heap.size w w' := by
 have I := Inv.startR w [u] [⟨186, (uS f n way fl), true⟩] [] ⟨U, True.intro⟩ True.intro
 refine a0c [.p 0 0, .v (.agg #[.int .i64 (a.v.cls : Int), .bool a.v.neg, .slice a.p (dig B32 a.v.d).length a.c, .int .i64 a.v.pow]), .v (.agg #[.int .i64 (b.v.cls : Int), .bool b.v.neg, .slice b.p (dig B32 b.v.d).length b.c, .int .i64 b.v.pow])] I Tryz.func176 ?_
 refine zqd I (fun Al W I => a0f a.v.cls a.v.neg a.p (dig B32 a.v.d).length a.c a.v.pow W) (dFa h3a) fun Al W I => zqd I (fun Al W I => a0f b.v.cls b.v.neg b.p (dig B32 b.v.d).length b.c b.v.pow W) (dFa h3b) fun Al W I => zrb I
theorem l1l (f : Fm) (n way fl : Int) (a b : Vp) (u : Nat) (w : World) (U : Bt w u 186 #[.int .i64 n, .int .i64 way, .int .i64 f.g.rad, .int .i64 f.g.digs, .int .i64 f.g.lo, .int .i64 f.g.hi, .bool f.g.grad, .int .u8 (famB f), .int .i64 fl]) (h3 : a.v.cls = 3 ∨ b.v.cls = 3) (h1 : ¬ (a.v.cls = 1 ∨ b.v.cls = 1)) :
 Calls Tryz.prog 176 #[.pointer (some ⟨u, 0, none⟩), .agg #[.int .i64 (a.v.cls : Int), .bool a.v.neg, .slice a.p (dig B32 a.v.d).length a.c, .int .i64 a.v.pow], .agg #[.int .i64 (b.v.cls : Int), .bool b.v.neg, .slice b.p (dig B32 b.v.d).length b.c, .int .i64 b.v.pow]] w fun en w' => en = .returned (.tuple #[.agg #[.int .i64 3, .bool (a.v.neg != b.v.neg), .slice none 0 0, .int .i64 0], .bool true]) ∧ Below w.heap.size w w' := by
 have I := Inv.startR w [u] [⟨186, (uS f n way fl), true⟩] [] ⟨U, True.intro⟩ True.intro
 refine a0c [.p 0 0, .v (.agg #[.int .i64 (a.v.cls : Int), .bool a.v.neg, .slice a.p (dig B32 a.v.d).length a.c, .int .i64 a.v.pow]), .v (.agg #[.int .i64 (b.v.cls : Int), .bool b.v.neg, .slice b.p (dig B32 b.v.d).length b.c, .int .i64 b.v.pow])] I Tryz.func176 ?_
 by_cases ha : a.v.cls = 3
 · refine zqd I (fun Al W I => a0f a.v.cls a.v.neg a.p (dig B32 a.v.d).length a.c a.v.pow W) (dTr ha) fun Al W I => zqd I (fun Al W I => b0u a.v.cls a.v.neg a.p (dig B32 a.v.d).length a.c a.v.pow W) (dFa (by omega)) fun Al W I => zqd I (fun Al W I => b0u b.v.cls b.v.neg b.p (dig B32 b.v.d).length b.c b.v.pow W) (dFa (by omega)) fun Al W I => zb I 31 (a.v.neg != b.v.neg) ((a.v.neg != b.v.neg)) (rfl) fun Al W I => zq I (fun Al W I => i0h (a.v.neg != b.v.neg) W) fun Al W I => zrb I
 refine zqd I (fun Al W I => a0f a.v.cls a.v.neg a.p (dig B32 a.v.d).length a.c a.v.pow W) (dFa ha) fun Al W I => zqd I (fun Al W I => a0f b.v.cls b.v.neg b.p (dig B32 b.v.d).length b.c b.v.pow W) (dTr (by omega)) fun Al W I => zqd I (fun Al W I => b0u a.v.cls a.v.neg a.p (dig B32 a.v.d).length a.c a.v.pow W) (dFa (by omega)) fun Al W I => zqd I (fun Al W I => b0u b.v.cls b.v.neg b.p (dig B32 b.v.d).length b.c b.v.pow W) (dFa (by omega)) fun Al W I => zb I 31 (a.v.neg != b.v.neg) ((a.v.neg != b.v.neg)) (rfl) fun Al W I => zq I (fun Al W I => i0h (a.v.neg != b.v.neg) W) fun Al W I => zrb I
theorem g1w (f : Fm) (n way : Int) (a b : Vp) (u : Nat) (w : World) (U : Bt w u 186 #[.int .i64 n, .int .i64 way, .int .i64 f.g.rad, .int .i64 f.g.digs, .int .i64 f.g.lo, .int .i64 f.g.hi, .bool f.g.grad, .int .u8 (famB f), .int .i64 0]) (h3 : a.v.cls = 3 ∨ b.v.cls = 3) (h1 : a.v.cls = 1 ∨ b.v.cls = 1) :
 Calls Tryz.prog 176 #[.pointer (some ⟨u, 0, none⟩), .agg #[.int .i64 (a.v.cls : Int), .bool a.v.neg, .slice a.p (dig B32 a.v.d).length a.c, .int .i64 a.v.pow], .agg #[.int .i64 (b.v.cls : Int), .bool b.v.neg, .slice b.p (dig B32 b.v.d).length b.c, .int .i64 b.v.pow]] w fun en w' => en = .returned (.tuple #[.agg #[.int .i64 (f.nothM.cls : Int), .bool false, .slice none 0 0, .int .i64 0], .bool true]) ∧ Kp [u] w w' ∧ Bt w' u 186 #[.int .i64 n, .int .i64 way, .int .i64 f.g.rad, .int .i64 f.g.digs, .int .i64 f.g.lo, .int .i64 f.g.hi, .bool f.g.grad, .int .u8 (famB f), .int .i64 16] := by
 have HL := fun W u h1 => lHd (q1i f n way u W h1)
 generalize f.nothM.cls = kN at *
 have I := Inv.startW w u 186 (uS f n way 0) [] U True.intro True.intro
 refine a0c [.p 0 0, .v (.agg #[.int .i64 (a.v.cls : Int), .bool a.v.neg, .slice a.p (dig B32 a.v.d).length a.c, .int .i64 a.v.pow]), .v (.agg #[.int .i64 (b.v.cls : Int), .bool b.v.neg, .slice b.p (dig B32 b.v.d).length b.c, .int .i64 b.v.pow])] I Tryz.func176 ?_
 by_cases ha : a.v.cls = 3
 · refine zqd I (fun Al W I => a0f a.v.cls a.v.neg a.p (dig B32 a.v.d).length a.c a.v.pow W) (dTr ha) fun Al W I => zqd I (fun Al W I => b0u a.v.cls a.v.neg a.p (dig B32 a.v.d).length a.c a.v.pow W) (dFa (by omega)) fun Al W I => zqd I (fun Al W I => b0u b.v.cls b.v.neg b.p (dig B32 b.v.d).length b.c b.v.pow W) (dTr (by omega)) fun Al W I => zge I 0 186 (fun Al W I => (HL W _ (I.box 0 186 _)).out) fun Al V Iv _ _ kz => ?_
   rintro _ W ⟨rfl, hO, hB⟩
   refine ⟨_, rfl, kz _ (uS f n way 16) _ hO hB fun I => ?_⟩
   exact zret I fun Al W I => ⟨rfl, I.bel, I.boxE 186 _⟩
 refine zqd I (fun Al W I => a0f a.v.cls a.v.neg a.p (dig B32 a.v.d).length a.c a.v.pow W) (dFa ha) fun Al W I => zqd I (fun Al W I => a0f b.v.cls b.v.neg b.p (dig B32 b.v.d).length b.c b.v.pow W) (dTr (by omega)) fun Al W I => zqd I (fun Al W I => b0u a.v.cls a.v.neg a.p (dig B32 a.v.d).length a.c a.v.pow W) (dTr (by omega)) fun Al W I => zge I 0 186 (fun Al W I => (HL W _ (I.box 0 186 _)).out) fun Al V Iv _ _ kz => ?_
 rintro _ W ⟨rfl, hO, hB⟩
 refine ⟨_, rfl, kz _ (uS f n way 16) _ hO hB fun I => ?_⟩
 exact zret I fun Al W I => ⟨rfl, I.bel, I.boxE 186 _⟩
def _root_.Go.Slip.Fm.mulM (f : Fm) (a b : Vr) (way : Int) : Vr × Nat :=
 if 4 ≤ a.cls ∨ 4 ≤ b.cls then f.offM
 else if a.cls = 3 ∨ b.cls = 3 then (if a.cls = 1 ∨ b.cls = 1 then f.lostM else (infM (a.neg != b.neg), 0))
 else if a.cls = 1 ∨ b.cls = 1 then (f.zeroM (a.neg != b.neg), 0)
 else f.numM (j0d a.x b.x) way
theorem u1s (f : Fm) (n way : Int) (a b : Vp) (ra rb : Vr) (base u : Nat) (w : World) (U : Bt w u 186 #[.int .i64 n, .int .i64 way, .int .i64 f.g.rad, .int .i64 f.g.digs, .int .i64 f.g.lo, .int .i64 f.g.hi, .bool f.g.grad, .int .u8 (famB f), .int .i64 0]) (oa : Own w base .u32 139 a.p a.c (dig B32 a.v.d)) (ob : Own w base .u32 139 b.p b.c (dig B32 b.v.d)) (hb : base ≤ w.heap.size)
 (A1 : AtV f a ra) (B1 : AtV f b rb) (G : c0g f) (hw : 1 ≤ way ∧ way ≤ 5) (hT : TabW w) :
 Calls Tryz.prog 149 #[.pointer (some ⟨u, 0, none⟩), .agg #[.int .i64 (a.v.cls : Int), .bool a.v.neg, .slice a.p (dig B32 a.v.d).length a.c, .int .i64 a.v.pow], .agg #[.int .i64 (b.v.cls : Int), .bool b.v.neg, .slice b.p (dig B32 b.v.d).length b.c, .int .i64 b.v.pow]] w (g0f f n way u w base (f.mulM ra rb way)) := by
 have hM : f.mulM ra rb way = if 4 ≤ a.v.cls ∨ 4 ≤ b.v.cls then f.offM else if a.v.cls = 3 ∨ b.v.cls = 3 then (if a.v.cls = 1 ∨ b.v.cls = 1 then f.lostM else (infM (a.v.neg != b.v.neg), 0)) else if a.v.cls = 1 ∨ b.v.cls = 1 then (f.zeroM (a.v.neg != b.v.neg), 0) else f.numM (j0d ra.x rb.x) way := by
  unfold Fm.mulM; rw [A1.rep.cls, B1.rep.cls, A1.rep.neg, B1.rep.neg]
 have hca : a.v.cls ≤ 5 := by rw [A1.rep.cls]; exact A1.ok.c.2
 have hcb : b.v.cls ≤ 5 := by rw [B1.rep.cls]; exact B1.ok.c.2
 have HY := fun W b0 u h1 h2 h3 => lHd (g1u f n way [a, b] b0 2 u W h1 h2 rfl (by simp) (by simp [hca, hcb]) G h3)
 have HN := fun W b0 u h1 h2 h3 => lHd (n1s f n way 0 [a, b] b0 2 u W h1 h2 rfl (by simp) h3)
 have HPN := fun W u h1 h2 h3 => lHd (q1j f n way 0 a b u W h1 h2 h3)
 have HPI := fun W u h1 h2 h3 => lHd (l1l f n way 0 a b u W h1 h2 h3)
 have HPL := fun W u h1 h2 h3 => lHd (g1w f n way a b u W h1 h2 h3)
 have HZ := fun W u h1 => lHd (v0d f n way 0 (a.v.neg != b.v.neg) u W h1)
 have HA := fun W u h1 h2 h3 => lHd (l1j f n way 0 a.v ra a.p a.c base u W h1 h2 A1.rep A1.ok h3)
 have HB := fun W u h1 h2 h3 => lHd (l1j f n way 0 b.v rb b.p b.c base u W h1 h2 B1.rep B1.ok h3)
 have sa := A1.ok.sm
 have sb := B1.ok.sm
 have st := l1k A1.ok B1.ok
 have HT := fun W p q c d base h1 h2 h3 => lHd (c1f ra.x rb.x p q c d base W sa sb h1 h2 h3)
 generalize j0d ra.x rb.x = t at *
 have hl3 := st.len
 have hl4 := st.lo
 have hl5 := st.hi
 have HNU := fun W p c u h1 h2 => lHd (z0k f n way t p c u W h1 h2 (by omega) (by omega) G hw)
 have hoffm : f.offM = (⟨f.nothM.cls, false, vz⟩, f.offM.2) := rfl
 have hk2 := p0a G
 have hlostm : f.lostM = (⟨f.nothM.cls, false, vz⟩, 16) := rfl
 obtain ⟨rS, flS, hS⟩ : ∃ rS flS, f.numM t way = (rS, flS) := ⟨_, _, rfl⟩
 rw [hS] at HNU hM
 generalize f.mulM ra rb way = R at *
 generalize f.offM.2 = flo at *
 generalize f.nothM.cls = kN at *
 clear hS st
 have I := Inv.startW w u 186 (uS f n way 0) [ownF base .u32 139 a.p a.c (dig B32 a.v.d), ownF base .u32 139 b.p b.c (dig B32 b.v.d), tabF] U ⟨oa, ob, hT, True.intro⟩ ⟨fun hf => oa.far U (by kernel_rfl) hf.1 hf.2, fun hf => ob.far U (by kernel_rfl) hf.1 hf.2, fun hf => hT.far U (by kernel_rfl) hf, True.intro⟩
 refine a0c [.p 0 0, .v (.agg #[.int .i64 (a.v.cls : Int), .bool a.v.neg, .slice a.p (dig B32 a.v.d).length a.c, .int .i64 a.v.pow]), .v (.agg #[.int .i64 (b.v.cls : Int), .bool b.v.neg, .slice b.p (dig B32 b.v.d).length b.c, .int .i64 b.v.pow])] I Tryz.func149 ?_
 by_cases hof : 4 ≤ a.v.cls ∨ 4 ≤ b.v.cls
 · refine zge I 0 186 (fun Al W I => (HY W _ _ (I.box 0 186 _) (I.box 4 61 _) (by simpa using hof)).out) fun Al V Iv _ _ kz => ?_
   rintro _ W ⟨rfl, hO, hB⟩
   refine ⟨_, rfl, kz _ (uS f n way (flo : Int)) _ hO hB fun I => ?_⟩
   rw [hM]
   refine zret I (v := fun Al => .agg #[vI (kN : Int), .bool false, .slice none 0 0, vI 0]) fun Al W I => ?_
   (rw [if_pos hof, hoffm]; exact a0o hk2 rfl I.bel (I.boxE 186 _))
 refine zq I (fun Al W I => have hzW := I.bel.size; (HN W _ _ (I.box 0 186 _) (I.box 4 61 _) (by simp only [List.mem_cons, List.mem_nil_iff, or_false]; rintro x (rfl | rfl) <;> omega)).out) fun Al W I => ?_
 by_cases h3 : a.v.cls = 3 ∨ b.v.cls = 3
 · by_cases h1 : a.v.cls = 1 ∨ b.v.cls = 1
   · refine zge I 0 186 (fun Al W I => (HPL W _ (I.box 0 186 _) h3 h1).out) fun Al V Iv _ _ kz => ?_
     rintro _ W ⟨rfl, hO, hB⟩
     refine ⟨_, rfl, kz _ (uS f n way 16) _ hO hB fun I => ?_⟩
     rw [hM]
     refine zret I (v := fun Al => .agg #[vI (kN : Int), .bool false, .slice none 0 0, vI 0]) fun Al W I => ?_
     first | (rw [if_pos hof, hoffm]; exact a0o hk2 rfl I.bel (I.boxE 186 _)) | (rw [if_neg hof, if_pos h3, if_pos h1, hlostm]; exact a0o hk2 rfl I.bel (I.boxE 186 _)) | (rw [if_neg hof, if_pos h3, if_neg h1]; exact a0o (k := 3) (by decide) rfl I.bel (I.boxE 186 _))
   refine zq I (fun Al W I => (HPI W _ (I.box 0 186 _) h3 h1).out) fun Al W I => ?_
   rw [hM]
   refine zret I (v := fun Al => .agg #[vI 3, .bool (a.v.neg != b.v.neg), .slice none 0 0, vI 0]) fun Al W I => ?_
   first | (rw [if_pos hof, hoffm]; exact a0o hk2 rfl I.bel (I.boxE 186 _)) | (rw [if_neg hof, if_pos h3, if_pos h1, hlostm]; exact a0o hk2 rfl I.bel (I.boxE 186 _)) | (rw [if_neg hof, if_pos h3, if_neg h1]; exact a0o (k := 3) (by decide) rfl I.bel (I.boxE 186 _))
 refine zq I (fun Al W I => have hzW := I.bel.size; (HPN W _ (I.box 0 186 _) (by omega) (by omega)).out) fun Al W I => ?_
 by_cases hza : a.v.cls = 1
 · by_cases hzb : b.v.cls = 1
   · refine zqd I (fun Al W I => b0u a.v.cls a.v.neg a.p (dig B32 a.v.d).length a.c a.v.pow W) (dTr hza) fun Al W I => zb I 41 (a.v.neg != b.v.neg) ((a.v.neg != b.v.neg)) (rfl) fun Al W I => zq I (fun Al W I => (HZ W _ (I.box 0 186 _)).out) fun Al W I => ?_
     rw [hM, if_neg hof, if_neg h3, if_pos (by omega)]
     exact zret I fun Al W I => a0o (k := 1) (by decide) rfl I.bel (I.boxE 186 _)
   refine zqd I (fun Al W I => b0u a.v.cls a.v.neg a.p (dig B32 a.v.d).length a.c a.v.pow W) (dTr hza) fun Al W I => zb I 41 (a.v.neg != b.v.neg) ((a.v.neg != b.v.neg)) (rfl) fun Al W I => zq I (fun Al W I => (HZ W _ (I.box 0 186 _)).out) fun Al W I => ?_
   rw [hM, if_neg hof, if_neg h3, if_pos (by omega)]
   exact zret I fun Al W I => a0o (k := 1) (by decide) rfl I.bel (I.boxE 186 _)
 by_cases hzb : b.v.cls = 1
 · refine zqd I (fun Al W I => b0u a.v.cls a.v.neg a.p (dig B32 a.v.d).length a.c a.v.pow W) (dFa hza) fun Al W I => zqd I (fun Al W I => b0u b.v.cls b.v.neg b.p (dig B32 b.v.d).length b.c b.v.pow W) (dTr hzb) fun Al W I => zb I 41 (a.v.neg != b.v.neg) ((a.v.neg != b.v.neg)) (rfl) fun Al W I => zq I (fun Al W I => (HZ W _ (I.box 0 186 _)).out) fun Al W I => ?_
   rw [hM, if_neg hof, if_neg h3, if_pos (by omega)]
   exact zret I fun Al W I => a0o (k := 1) (by decide) rfl I.bel (I.boxE 186 _)
 refine zqd I (fun Al W I => b0u a.v.cls a.v.neg a.p (dig B32 a.v.d).length a.c a.v.pow W) (dFa hza) fun Al W I => zqd I (fun Al W I => b0u b.v.cls b.v.neg b.p (dig B32 b.v.d).length b.c b.v.pow W) (dFa hzb) fun Al W I => zd [0, 3] I fun Al W I => zk [0, 1, 2, 4, 5] I fun I => zo 3 I fun I => zg I (fun Al W I => (HA W _ (I.box 0 186 _) I.fa.1 I.fa.2.2.1).out) fun Al V Iv _ hB _ kz => ?_
 rintro _ W ⟨p46, c46, rfl, o46, hb⟩
 refine ⟨_, rfl, kz _ _ hb fun I => ?_⟩
 have I := I.ownB base o46
 refine zo 6 I fun I => zg I (fun Al W I => (HB W _ (I.box 0 186 _) I.fa.2.2.1 I.fa.2.2.2.1).out) fun Al V Iv _ hB _ kz => ?_
 rintro _ W ⟨p49, c49, rfl, o49, hb⟩
 refine ⟨_, rfl, kz _ _ hb fun I => ?_⟩
 have I := I.ownB base o49
 refine zo 7 I fun I => zg I (fun Al W I => (HT W p46 p49 c46 c49 _ I.fa.2.1 I.fa.1 I.fa.2.2.2.2.1).out) fun Al V Iv _ hB _ kz => ?_
 rintro _ W ⟨p50, c50, rfl, o50, hb⟩
 refine ⟨_, rfl, kz _ _ hb fun I => ?_⟩
 have I := I.ownB base o50
 refine zo 8 I fun I => zge I 0 186 (fun Al W I => (HNU W p50 c50 _ (I.box 0 186 _) I.fa.1.rd).out) fun Al V Iv _ _ kz => ?_
 rintro _ W ⟨v51, hR51, p51, c51, rfl, o51, hO, hB⟩
 refine ⟨_, rfl, kz _ (uS f n way (flS : Int)) _ hO hB fun I => ?_⟩
 have I := I.ownB base o51
 refine zo 9 I fun I => zn I fun Al W I => ?_
 rw [hM, if_neg hof, if_neg h3, if_neg (by omega)]
 exact zret I fun Al W I => ⟨v51, hR51, p51, c51, rfl, I.fa.1, I.bel, I.boxE 186 _⟩
theorem l0f (n : Int) (w : World) : Calls Tryz.prog 36 #[.int .i64 n] w fun en w' => en = .returned (.tuple #[.agg #[.int .i64 (fmt n).g.rad, .int .i64 (fmt n).g.digs, .int .i64 (fmt n).g.lo, .int .i64 (fmt n).g.hi, .bool (fmt n).g.grad], .int .i64 (c0o n)]) ∧ Below w.heap.size w w' := by
 by_cases hn : IsFm n
 · have h0 : c0o n = 0 := by unfold c0o; rw [if_pos hn]
   rw [h0]
   have HF := fun W => lHd (g0q n hn W)
   generalize fmt n = f at *
   have I := Inv.start w [] True.intro
   refine a0c [.v (.int .i64 n)] I Tryz.func36 ?_
   refine zq I (fun Al W I => (HF W).out) fun Al W I => zrb I
 · have h0 : c0o n = 6 := by unfold c0o; rw [if_neg hn]
   rw [h0, x0m hn]
   have HF := fun W => lHd (i0e n hn W)
   have I := Inv.start w [] True.intro
   refine a0c [.v (.int .i64 n)] I Tryz.func36 ?_
   refine zq I (fun Al W I => (HF W).out) fun Al W I => zrb I
theorem z0l (n way : Int) (w : World) (h : ¬ (IsFm n ∧ 1 ≤ way ∧ way ≤ 5)) : Calls Tryz.prog 51 #[.int .i64 n, .int .i64 way] w fun en w' => en = .returned (.tuple #[.pointer none, .int .i64 6]) ∧ Below w.heap.size w w' := by
 have HG := fun W => lHd (l0f n W)
 by_cases hn : IsFm n
 · have he : c0o n = 0 := by unfold c0o; rw [if_pos hn]
   have h' : way < 1 ∨ 5 < way := by by_cases k : 1 ≤ way ∧ way ≤ 5; exact absurd ⟨hn, k⟩ h; omega
   rw [he] at HG
   generalize fmt n = f at *
   have I := Inv.start w [] True.intro
   refine a0c [.v (.int .i64 n), .v (.int .i64 way)] I Tryz.func51 ?_
   refine zq I (fun Al W I => (HG W).out) fun Al W I => ?_
   by_cases h1 : way < 1
   · refine zb I 18 (decide (way < 1)) (true) (dTr h1) fun Al W I => zrb I
   refine zb I 18 (decide (way < 1)) (false) (dFa h1) fun Al W I => zb I 21 (decide (way > 5)) (true) (dTr (by omega)) fun Al W I => zrb I
 · have he : c0o n = 6 := by unfold c0o; rw [if_neg hn]
   rw [he] at HG
   generalize fmt n = f at *
   have I := Inv.start w [] True.intro
   refine a0c [.v (.int .i64 n), .v (.int .i64 way)] I Tryz.func51 ?_
   refine zq I (fun Al W I => (HG W).out) fun Al W I => zrb I
def p0b (f : Fm) (n way : Int) (w : World) (en : Ending) (w' : World) : Prop :=
 ∃ u, en = .returned (.tuple #[.pointer (some ⟨u, 0, none⟩), .int .i64 0]) ∧ w.heap.size ≤ u ∧ Bt w' u 186 #[.int .i64 n, .int .i64 way, .int .i64 f.g.rad, .int .i64 f.g.digs, .int .i64 f.g.lo, .int .i64 f.g.hi, .bool f.g.grad, .int .u8 (famB f), .int .i64 0] ∧ Below w.heap.size w w'
theorem t0b (n way : Int) (w : World) (hn : IsFm n) (hw : 1 ≤ way ∧ way ≤ 5) : Calls Tryz.prog 51 #[.int .i64 n, .int .i64 way] w (p0b (fmt n) n way w) := by
 have HG := fun W => lHd (l0f n W)
 have he : c0o n = 0 := by unfold c0o; rw [if_pos hn]
 rw [he] at HG
 have G := b0r hn
 generalize fmt n = f at *
 have hrad := G.rad
 have hgr := G.grad
 by_cases f2 : f.fam = 2
 · have hBf : famB f = 66 := by unfold famB; rw [if_neg (by omega), if_pos f2]
   rw [if_pos f2] at hrad
   have I := Inv.start w [] True.intro
   refine a0c [.v (.int .i64 n), .v (.int .i64 way)] I Tryz.func51 ?_
   refine zq I (fun Al W I => (HG W).out) fun Al W I => zb I 18 (decide (way < 1)) (false) (dFa (by omega)) fun Al W I => zb I 21 (decide (way > 5)) (false) (dFa (by omega)) fun Al W I => zb I 31 (f.g.rad == 16) (true) (beq_iff_eq.2 hrad) fun Al W I => zret I (v := fun Al => .tuple #[.pointer (some ⟨(lk 0 Al 1), 0, none⟩), vI 0]) fun Al W I => ⟨_, rfl, (I.geB 1), by rw [hBf]; exact (I.box 1 186 _), I.below⟩
 · rw [if_neg f2] at hrad
   by_cases f1 : f.fam = 1
   · have hBf : famB f = 65 := by unfold famB; rw [if_pos f1]
     rw [decide_eq_true f1] at hgr
     unfold p0b
     rw [hBf, hgr]
     simp only [hgr] at HG
     have I := Inv.start w [] True.intro
     refine a0c [.v (.int .i64 n), .v (.int .i64 way)] I Tryz.func51 ?_
     refine zq I (fun Al W I => (HG W).out) fun Al W I => zb I 18 (decide (way < 1)) (false) (dFa (by omega)) fun Al W I => zb I 21 (decide (way > 5)) (false) (dFa (by omega)) fun Al W I => zb I 31 (f.g.rad == 16) (false) (bFn (by omega)) fun Al W I => zret I fun Al W I => ⟨_, rfl, (I.geB 1), (I.box 1 186 _), I.below⟩
   · have hBf : famB f = 67 := by unfold famB; rw [if_neg f1, if_neg f2]
     rw [decide_eq_false f1] at hgr
     unfold p0b
     rw [hBf, hgr]
     simp only [hgr] at HG
     have I := Inv.start w [] True.intro
     refine a0c [.v (.int .i64 n), .v (.int .i64 way)] I Tryz.func51 ?_
     refine zq I (fun Al W I => (HG W).out) fun Al W I => zb I 18 (decide (way < 1)) (false) (dFa (by omega)) fun Al W I => zb I 21 (decide (way > 5)) (false) (dFa (by omega)) fun Al W I => zb I 31 (f.g.rad == 16) (false) (bFn (by omega)) fun Al W I => zret I fun Al W I => ⟨_, rfl, (I.geB 1), (I.box 1 186 _), I.below⟩
theorem g1x (n way fl : Int) (a : Vp) (r : Vr) (base u : Nat) (w : World) (U : Bt w u 186 #[.int .i64 n, .int .i64 way, .int .i64 (fmt n).g.rad, .int .i64 (fmt n).g.digs, .int .i64 (fmt n).g.lo, .int .i64 (fmt n).g.hi, .bool (fmt n).g.grad, .int .u8 (famB (fmt n)), .int .i64 fl]) (oa : Own w base .u32 139 a.p a.c (dig B32 a.v.d)) (hn : IsFm n) (V : VRep (fmt n) a.v r) (R : ResF (fmt n) r) (hT : TabW w) :
 Calls Tryz.prog 52 #[.pointer (some ⟨u, 0, none⟩), .agg #[.int .i64 (a.v.cls : Int), .bool a.v.neg, .slice a.p (dig B32 a.v.d).length a.c, .int .i64 a.v.pow]] w fun en w' => en = .returned (.tuple #[.string (a0d ((fmt n).strP ((fmt n).encP r.cls r.neg r.x))), .int .i64 fl, .int .i64 0]) ∧ Below w.heap.size w w' := by
 have HE := fun W (h1 : Own W base .u32 139 a.p a.c (dig B32 a.v.d)) h2 => lHd (c1d n (a.v.cls : Int) (dinV a.v a.p a.c) W (q1g h1 V.len) h2)
 obtain ⟨e1, e2⟩ := t1j R V a.p a.c
 unfold x0t v0e at HE
 rw [if_pos hn, e1, e2] at HE
 simp only [if_true] at HE
 have HE2 : ∀ W, Own W base .u32 139 a.p a.c (dig B32 a.v.d) → TabW W → Hid (Calls Tryz.prog 121 #[.int .i64 n, .agg #[.int .i64 (a.v.cls : Int), .bool a.v.neg, .slice a.p (dig B32 a.v.d).length a.c, .int .i64 a.v.pow]] W fun en w' => en = .returned (.tuple #[.string (a0d ((fmt n).strP ((fmt n).encP r.cls r.neg r.x))), .int .i64 0]) ∧ Below W.heap.size W w') := HE
 clear HE e1 e2 V R
 generalize a0d ((fmt n).strP ((fmt n).encP r.cls r.neg r.x)) = s at *
 generalize fmt n = f at *
 have I := Inv.startR w [u] [⟨186, (uS f n way fl), true⟩] [ownF base .u32 139 a.p a.c (dig B32 a.v.d), tabF] ⟨U, True.intro⟩ ⟨oa, hT, True.intro⟩
 refine a0c [.p 0 0, .v (.agg #[.int .i64 (a.v.cls : Int), .bool a.v.neg, .slice a.p (dig B32 a.v.d).length a.c, .int .i64 a.v.pow])] I Tryz.func52 ?_
 refine zd [] I fun Al W I => zk [0, 1, 2, 3, 4] I fun I => zo 5 I fun I => zq I (fun Al W I => (HE2 W I.fa.1 I.fa.2.1).out) fun Al W I => zk [6, 7, 8, 9, 10] I fun I => zd [] I fun Al W I => zk [0, 1, 2, 3, 4, 5, 6, 7] I fun I => zrb I
end Go.Proofs.YtgbbhlginbmghaaGreatDoor
namespace Go.Slip
open Go.RowKit
theorem g1y {P : Program} {w : World} {b : Nat} {t : TypeId} {vs : Array Value} (h : Bt w b t vs) {ty : TypeId} (hT : k0k P ty) {m : Nat} (v : Value) (hv : vs[m]? = some v) : (VO.ld ty (.pointer (some (at_ (some ⟨b, 0, none⟩) m)))).sem.run P w = .ok v w := by
 have := d1l h hT m v hv
 show (Instr.loadAt _ _).run P w = _
 unfold at_
 simpa using this
end Go.Slip
namespace Go.Proofs.YtgbbhlginbmghaaGreatDoor
open Go.RowKit Go.Slip
def c1g (b : Nat) (xs : List Vp) : PF :=
 ⟨fun w => ∀ x, x ∈ xs → Own w b .u32 139 x.p x.c (dig B32 x.v.d), fun a => ∃ x, x ∈ xs ∧ x.p.isSome = true ∧ blk x.p = a, fun _ _ h hb _ x hx => (h x hx).same fun hp => hb _ ((h x hx).blk_lt hp).2 ⟨x, hx, hp, rfl⟩, fun _ _ h ⟨x, hx, hp, hf⟩ => hf ▸ ((h x hx).blk_lt hp).2⟩
theorem g1z {w : World} {b : Nat} {xs : List Vp} {v : Vl} {p : OA} {c : Nat} (h : ∀ x, x ∈ xs → Own w b .u32 139 x.p x.c (dig B32 x.v.d)) (o : Own w b .u32 139 p c (dig B32 v.d)) : ∀ x, x ∈ xs ++ [⟨v, p, c⟩] → Own w b .u32 139 x.p x.c (dig B32 x.v.d) := fun x hx => by
 rw [List.mem_append, List.mem_singleton] at hx
 rcases hx with hx | rfl
 · exact h x hx
 · exact o
theorem l1m {b a : Nat} {xs : List Vp} {v : Vl} {p : OA} {c : Nat} (h : (c1g b (xs ++ [⟨v, p, c⟩])).foot a) (h1 : ∀ x, (x ∈ xs ∧ x.p.isSome = true ∧ blk x.p = a) → False) (h2 : p.isSome = true → blk p = a → False) : False := by
 obtain ⟨x, hx, h3, h4⟩ := h
 rw [List.mem_append, List.mem_singleton] at hx
 rcases hx with hx | rfl
 · exact h1 x ⟨hx, h3, h4⟩
 · exact h2 h3 h4
theorem i0y : k0n Tryz.prog 23 9 (.string ByteArray.empty) 16 := tyV (by kernel_rfl) (by kernel_rfl) (by omega) rfl rfl
theorem c0n : k0k Tryz.prog 9 := m0v (by kernel_rfl) (by kernel_rfl)
def errL (n : Int) : List ByteArray → Int
 | [] => 0
 | s :: r => if a0p n s = 0 then errL n r else a0p n s
theorem h1a (n : Int) : ∀ (L : List ByteArray), errL n L ≠ 0 → ∃ (j : Nat) (s : ByteArray), L[j]? = some s ∧ errL n L = a0p n s ∧ a0p n s ≠ 0 ∧ ∀ i t, i < j → L[i]? = some t → a0p n t = 0
 | [], h => absurd rfl h
 | s :: r, h => by
  unfold errL at h ⊢
  by_cases hs : a0p n s = 0
  · rw [if_pos hs] at h ⊢
    obtain ⟨j, t, h1, h2, h3, h4⟩ := h1a n r h
    refine ⟨j + 1, t, by simpa using h1, h2, h3, fun i u hi hu => ?_⟩
    cases i with
    | zero => simp only [List.getElem?_cons_zero, Option.some.injEq] at hu; rw [← hu]; exact hs
    | succ i => exact h4 i u (by omega) (by simpa using hu)
  · rw [if_neg hs]
    exact ⟨0, s, rfl, rfl, hs, fun i t hi => by omega⟩
theorem l0g (n : Int) : ∀ {L : List ByteArray}, errL n L = 0 → ∀ s, s ∈ L → a0p n s = 0
 | [], _, s, h => by simp at h
 | t :: r, h, s, hs => by
  unfold errL at h
  by_cases ht : a0p n t = 0
  · rw [if_pos ht] at h
    rcases List.mem_cons.1 hs with rfl | hs
    · exact ht
    · exact l0g n h s hs
  · rw [if_neg ht] at h
    exact absurd h ht
def q1k (n : Int) (w : World) (L : List ByteArray) (en : Ending) (w' : World) : Prop :=
 ∃ (xs : List Vp) (vs : List Value) (p : OA) (c : Nat), en = .returned (.tuple #[.slice p L.length c, .int .i64 0]) ∧ xs.map (·.v) = L.map (decP n) ∧ vs = xs.flatMap Vp.cells ∧ OwnS w' w.heap.size 61 4 p c L.length vs ∧ (∀ x, x ∈ xs → Own w' w.heap.size .u32 139 x.p x.c (dig B32 x.v.d)) ∧ Below w.heap.size w w'
theorem z0m (n way fl : Int) (L : List ByteArray) (b m u : Nat) (w : World) (U : Bt w u 186 #[.int .i64 n, .int .i64 way, .int .i64 (fmt n).g.rad, .int .i64 (fmt n).g.digs, .int .i64 (fmt n).g.lo, .int .i64 (fmt n).g.hi, .bool (fmt n).g.grad, .int .u8 (famB (fmt n)), .int .i64 fl]) (hB0 : Bt w b 9 (L.map Value.string).toArray) (hm : m = L.length) (hl : L.length ≤ 1000) (h0 : errL n L = 0) (hT : TabW w) :
 Calls Tryz.prog 55 #[.pointer (some ⟨u, 0, none⟩), .slice (some ⟨b, 0, none⟩) m m] w (q1k n w L) := by
 subst hm
 have HX : ∀ i, i < L.length → ∃ s : ByteArray, L[i]? = some s ∧ a0p n s = 0 ∧ (L.map Value.string).toArray[i]? = some (.string s) ∧ L.take (i + 1) = L.take i ++ [s] := fun i h => ⟨L[i], List.getElem?_eq_getElem h, l0g n h0 _ (List.getElem_mem h), by simp [h], by rw [List.take_add_one, List.getElem?_eq_getElem h]; rfl⟩
 have HD := fun s W h => lHd (g0r n s W h)
 generalize fmt n = f at *
 have I := Inv.startW w u 186 (uS f n way fl) [btF b 9 (L.map Value.string).toArray, tabF] U ⟨hB0, hT, True.intro⟩ ⟨fun hf => hB0.far U (by kernel_rfl) hf, fun hf => hT.far U (by kernel_rfl) hf, True.intro⟩
 refine a0c [.p 0 0, .v (.slice (some ⟨b, 0, none⟩) L.length L.length)] I Tryz.func55 ?_
 have I := I.add (k0w w.heap.size 61 4 none 0 0 []) (OwnS.nil _ _ _ _) (fun _ _ h => by cases h.1)
 have I := I.add (c1g w.heap.size []) (fun _ h => by cases h) (fun _ _ ⟨_, h, _⟩ => by cases h)
 refine h0u I (fun gk fr bx gs => ∃ (U900 : Nat → Value) (i : Nat) (p6 : OA) (c6 : Nat) (xs : List Vp) (vs : List Value), fr = (.p 0 0 :: .v (.slice (some ⟨b, 0, none⟩) L.length L.length) :: su 2 (sw U900 4 2 (.v (.slice p6 i c6) :: .v undef :: sw U900 8 3 (.v (.slice (some ⟨b, 0, none⟩) L.length L.length) :: .v (.int .i64 (L.length : Int)) :: .v (.int .i64 (i : Int)) :: sw U900 14 21 []))) : List SV) ∧ bx = [⟨186, (uS f n way fl), false⟩] ∧ gs = [c1g w.heap.size xs, k0w w.heap.size 61 4 p6 c6 i vs, btF b 9 (L.map Value.string).toArray, tabF] ∧ (gk + i = L.length) ∧ (vs = xs.flatMap Vp.cells) ∧ (xs.map (·.v) = (L.take i).map (decP n))) L.length (fun Al W U I => ⟨_, ⟨U, 0, none, 0, [], [], rfl, rfl, rfl, (by omega), rfl, rfl⟩, I.pick [0, 1, 2, 3]⟩) ?_
 rintro J0 gk0 _ _ _ ⟨U900, i, p6, c6, xs, vs, rfl, rfl, rfl, hgk, hvs, hxs⟩ hJ0 Al W I
 rcases bTF (decide ((i : Int) < (L.length : Int))) with f14 | f14
 · refine zb I 14 (decide ((i : Int) < (L.length : Int))) (true) (f14) fun Al W I => ?_
   obtain ⟨s, hs, hse, hsv, hst⟩ := HX i (by have := oTr f14; omega)
   refine zx I 15 (fun _ => .pointer (some (at_ (some ⟨b, 0, none⟩) i))) (fun Al W I => (d0x (m := i) (n := L.length) (c := L.length) i0y (fun _ => ⟨rfl, rfl⟩) (by have := oTr f14; omega))) fun Al W I => zx I 16 (fun _ => .string s) (fun Al W I => (g1y I.fa.2.2.1 c0n _ hsv)) fun Al W I => zqo I (fun Al W I => (HD s W I.fa.2.2.2.1).out) fun Al W p23 c23 I => zb I 27 ((a0p n s) != 0) (false) (bne_eq_false_iff_eq.2 hse) fun Al W I => ?_
   have I := I.pick [2, 0, 1, 3, 4]
   refine zap I v0k 2 1 (fun Al => [vI (((decP n s).cls : Nat) : Int), .bool ((decP n s).neg), vS (dig B32 (decP n s).d) p23 c23, vI ((decP n s).pow)]) (fun Al W I => I.box 2 61 _) (by omega) (fun Al W I hp => ⟨I.fa.1.apart I.fa.2.1 (by kernel_rfl) hp, fun ⟨x, hx, h⟩ => I.fa.1.apart (I.fa.2.2.1 x hx) (by kernel_rfl) hp h, fun e => I.fa.1.far I.fa.2.2.2.1 (by kernel_rfl) hp (Eq.symm e), fun e => by have h1 := (I.fa.1.blk_lt hp).1; have h2 := hT.2; have e : 0 = _ := e; omega, True.intro⟩) fun Al W p32 c32 hq_32 I => ?_
   have I := I.add (c1g w.heap.size (xs ++ [(⟨decP n s, p23, c23⟩ : Vp)])) (g1z I.fa.2.2.1 I.fa.2.1) (fun a ha h => l1m h ((fun a ha h0 e => (I.far a ha).2.2.1 ⟨h0, e⟩) a ha) ((fun a ha h0 e => (I.far a ha).2.1 ⟨h0, e⟩) a ha))
   refine zi I 33 .i64 ((i : Int) + 1) (((i + 1 : Nat) : Int)) ((by rw [show ((i : Int) + 1) = ((i + 1 : Nat) : Int) by omega]; exact IntWalk.i64_in _ (by have := oTr f14; omega))) fun Al W I => o0n 1 I J0 fun Al W U I => hJ0 (gk0 - 1) _ _ _ _ _ ((by have := oTr f14; omega)) ⟨U, i + 1, p32, c32, xs ++ [(⟨decP n s, p23, c23⟩ : Vp)], _, rfl, rfl, rfl, (by have := oTr f14; omega), (by rw [hvs, List.flatMap_append]; rfl), (by rw [hst, List.map_append, List.map_append, hxs]; rfl)⟩ (I.pick [0, 1, 4, 5])
 refine zb I 14 (decide ((i : Int) < (L.length : Int))) (false) (f14) fun Al W I => ?_
 have hi : i = L.length := by have := oFa f14; omega
 exact zret I (v := fun Al => .tuple #[.slice p6 i c6, vI 0]) fun Al W I => ⟨xs, vs, p6, c6, by rw [hi], by rw [hxs, hi, List.take_length], hvs, hi ▸ I.fa.2.1, I.fa.1, I.bel.toBelow U (I.boxE 186 _)⟩
theorem _root_.Go.Slip.Inv.ownl {E : List Nat} {w0 : World} {A : List Nat} {bx : List Box} {fs : List PF} {W : World} (I : Inv E w0 A bx fs W) {b : Nat} {xs : List Vp} (o : ∀ x, x ∈ xs → Own W b .u32 139 x.p x.c (dig B32 x.v.d)) (hb : w0.heap.size ≤ b := by first | exact Nat.le_refl _ | assumption | omega) (hne : r0w 139 bx = true := by kernel_rfl) :
 Inv E w0 A bx (c1g w0.heap.size xs :: fs) W :=
 I.add (c1g w0.heap.size xs) (fun x hx => (o x hx).mono hb) fun a ha ⟨x, hx, hf1, hf2⟩ => by
  obtain ⟨j, hj, _, rfl⟩ := ha
  exact (o x hx).far (I.bt j hj) (g0m hne j hj) hf1 hf2
theorem v0l (n way fl : Int) (L : List ByteArray) (b m u : Nat) (w : World) (U : Bt w u 186 #[.int .i64 n, .int .i64 way, .int .i64 (fmt n).g.rad, .int .i64 (fmt n).g.digs, .int .i64 (fmt n).g.lo, .int .i64 (fmt n).g.hi, .bool (fmt n).g.grad, .int .u8 (famB (fmt n)), .int .i64 fl]) (hB0 : Bt w b 9 (L.map Value.string).toArray) (hm : m = L.length) (hl : L.length ≤ 1000) (h0 : errL n L ≠ 0) (hT : TabW w) :
 Calls Tryz.prog 55 #[.pointer (some ⟨u, 0, none⟩), .slice (some ⟨b, 0, none⟩) m m] w fun en w' => en = .returned (.tuple #[.slice none 0 0, .int .i64 (errL n L)]) ∧ Below w.heap.size w w' := by
 subst hm
 obtain ⟨j, sj, hj, he, hne, hlt⟩ := h1a n L h0
 have hjl : j < L.length := (List.getElem?_eq_some_iff.1 hj).1
 rw [he]
 have HX : ∀ i, i < L.length → ∃ s : ByteArray, (L.map Value.string).toArray[i]? = some (.string s) ∧ (i < j → a0p n s = 0) ∧ (i = j → a0p n s = a0p n sj) := fun i h => ⟨L[i], by simp [h], fun k => hlt i _ k (List.getElem?_eq_getElem h), fun k => by subst k; rw [List.getElem?_eq_getElem h] at hj; cases hj; rfl⟩
 have HD := fun s W h => lHd (g0r n s W h)
 clear he h0 hlt hj
 generalize a0p n sj = er at *
 generalize fmt n = f at *
 have I := Inv.startW w u 186 (uS f n way fl) [btF b 9 (L.map Value.string).toArray, tabF] U ⟨hB0, hT, True.intro⟩ ⟨fun hf => hB0.far U (by kernel_rfl) hf, fun hf => hT.far U (by kernel_rfl) hf, True.intro⟩
 refine a0c [.p 0 0, .v (.slice (some ⟨b, 0, none⟩) L.length L.length)] I Tryz.func55 ?_
 have I := I.add (k0w w.heap.size 61 4 none 0 0 []) (OwnS.nil _ _ _ _) (fun _ _ h => by cases h.1)
 refine h0u I (fun gk fr bx gs => ∃ (U900 : Nat → Value) (i : Nat) (p6 : OA) (c6 : Nat) (vs : List Value), fr = (.p 0 0 :: .v (.slice (some ⟨b, 0, none⟩) L.length L.length) :: su 2 (sw U900 4 2 (.v (.slice p6 i c6) :: .v undef :: sw U900 8 3 (.v (.slice (some ⟨b, 0, none⟩) L.length L.length) :: .v (.int .i64 (L.length : Int)) :: .v (.int .i64 (i : Int)) :: sw U900 14 21 []))) : List SV) ∧ bx = [⟨186, (uS f n way fl), false⟩] ∧ gs = [k0w w.heap.size 61 4 p6 c6 i vs, btF b 9 (L.map Value.string).toArray, tabF] ∧ (gk + i = L.length) ∧ (i ≤ j)) L.length (fun Al W U I => ⟨_, ⟨U, 0, none, 0, [], rfl, rfl, rfl, (by omega), (by omega)⟩, I.pick [0, 1, 2]⟩) ?_
 rintro J0 gk0 _ _ _ ⟨U900, i, p6, c6, vs, rfl, rfl, rfl, hgk, hij⟩ hJ0 Al W I
 rcases bTF (decide ((i : Int) < (L.length : Int))) with f14 | f14
 · refine zb I 14 (decide ((i : Int) < (L.length : Int))) (true) (f14) fun Al W I => ?_
   obtain ⟨s, hsv, hs0, hse⟩ := HX i (by have := oTr f14; omega)
   refine zx I 15 (fun _ => .pointer (some (at_ (some ⟨b, 0, none⟩) i))) (fun Al W I => (d0x (m := i) (n := L.length) (c := L.length) i0y (fun _ => ⟨rfl, rfl⟩) (by have := oTr f14; omega))) fun Al W I => zx I 16 (fun _ => .string s) (fun Al W I => (g1y I.fa.2.1 c0n _ hsv)) fun Al W I => zqo I (fun Al W I => (HD s W I.fa.2.2.1).out) fun Al W p23 c23 I => ?_
   by_cases hij2 : i = j
   · refine zb I 27 ((a0p n s) != 0) (true) (bne_iff_ne.2 (by rw [hse hij2]; exact hne)) fun Al W I => zret I (v := fun Al => .tuple #[.slice none 0 0, vI (a0p n s)]) fun Al W I => ⟨by rw [hse hij2], I.bel.toBelow U (I.boxE 186 _)⟩
   refine zb I 27 ((a0p n s) != 0) (false) (bne_eq_false_iff_eq.2 (hs0 (by omega))) fun Al W I => ?_
   have I := I.pick [1, 0, 2, 3]
   refine zap I v0k 2 1 (fun Al => [vI (((decP n s).cls : Nat) : Int), .bool ((decP n s).neg), vS (dig B32 (decP n s).d) p23 c23, vI ((decP n s).pow)]) (fun Al W I => I.box 2 61 _) (by omega) (fun Al W I hp => ⟨I.fa.1.apart I.fa.2.1 (by kernel_rfl) hp, fun e => I.fa.1.far I.fa.2.2.1 (by kernel_rfl) hp (Eq.symm e), fun e => by have h1 := (I.fa.1.blk_lt hp).1; have h2 := hT.2; have e : 0 = _ := e; omega, True.intro⟩) fun Al W p32 c32 hq_32 I => zi I 33 .i64 ((i : Int) + 1) (((i + 1 : Nat) : Int)) ((by rw [show ((i : Int) + 1) = ((i + 1 : Nat) : Int) by omega]; exact IntWalk.i64_in _ (by have := oTr f14; omega))) fun Al W I => o0n 1 I J0 fun Al W U I => hJ0 (gk0 - 1) _ _ _ _ _ ((by have := oTr f14; omega)) ⟨U, i + 1, p32, c32, _, rfl, rfl, rfl, (by have := oTr f14; omega), (by omega)⟩ (I.pick [0, 2, 3])
 refine zb I 14 (decide ((i : Int) < (L.length : Int))) (false) (f14) fun Al W I => zret I (v := fun Al => .tuple #[.slice p6 i c6, vI 0]) fun Al W I => absurd (oFa f14) (by rw [Classical.not_not]; omega)
def errR (n way : Int) (L : List ByteArray) : Int := if IsFm n then (if errL n L = 0 then (if 1 ≤ way ∧ way ≤ 5 then 0 else 6) else errL n L) else 6
def q1l (n way : Int) (L : List ByteArray) (fn : FuncId) (R : Vr × Nat) : Prop :=
 ∀ (xs : List Vp) (vs : List Value) (p : OA) (c base u : Nat) (W : World), xs.map (·.v) = L.map (decP n) → vs = xs.flatMap Vp.cells → OwnS W base 61 4 p c L.length vs → (∀ x, x ∈ xs → Own W base .u32 139 x.p x.c (dig B32 x.v.d)) →
  Bt W u 186 #[.int .i64 n, .int .i64 way, .int .i64 (fmt n).g.rad, .int .i64 (fmt n).g.digs, .int .i64 (fmt n).g.lo, .int .i64 (fmt n).g.hi, .bool (fmt n).g.grad, .int .u8 (famB (fmt n)), .int .i64 0] → TabW W → base ≤ W.heap.size →
  Calls Tryz.prog fn #[.pointer (some ⟨u, 0, none⟩), .slice p L.length c] W (g0f (fmt n) n way u W base R)
def strR (n : Int) (r : Vr) : ByteArray := a0d ((fmt n).strP ((fmt n).encP r.cls r.neg r.x))
theorem n1t (n way : Int) (L : List ByteArray) (fn : FuncId) (R : Vr × Nat) (b m : Nat) (w : World) (hB0 : Bt w b 9 (L.map Value.string).toArray) (hm : m = L.length) (hl : L.length ≤ 1000) (hT : TabW w)
 (hfn : ∀ args w, (callFunc fn args).run Tryz.prog w = .ok (.enter fn args) w) (h0 : errR n way L = 0) (HD : q1l n way L fn R) (HR : ResF (fmt n) R.1) :
 Calls Tryz.prog 22 #[.int .i64 n, .int .i64 way, .func (.func fn) #[] #[], .slice (some ⟨b, 0, none⟩) m m] w fun en w' => en = .returned (.tuple #[.string (strR n R.1), .int .i64 ((R.2 : Nat) : Int), .int .i64 0]) ∧ Below w.heap.size w w' := by
 subst hm
 have hn : IsFm n := by unfold errR at h0; split at h0; assumption; omega
 unfold errR at h0
 rw [if_pos hn] at h0
 have hL : errL n L = 0 := by split at h0; assumption; contradiction
 rw [if_pos hL] at h0
 have hw : 1 ≤ way ∧ way ≤ 5 := by split at h0; assumption; omega
 clear h0
 obtain ⟨r, fl⟩ := R
 simp only at HR ⊢
 have HO1 := fun W => lHd (t0b n 1 W hn (by omega))
 have HO2 := fun W => lHd (t0b n way W hn hw)
 have HDe := fun W u h1 h2 h3 => lHd (z0m n 1 0 L b L.length u W h1 h2 rfl hl hL h3)
 have HDo := fun xs vs p c base u W h1 h2 h3 h4 h5 h6 h7 => lHd (HD xs vs p c base u W h1 h2 h3 h4 h5 h6 h7)
 have HT := fun W (v : Vl) p c base u h1 h2 h3 h4 => lHd (g1x n way (fl : Int) ⟨v, p, c⟩ r base u W h1 h2 hn h3 HR h4)
 have hs : strR n r = a0d ((fmt n).strP ((fmt n).encP r.cls r.neg r.x)) := rfl
 rw [← hs] at HT
 clear hs
 generalize strR n r = s at *
 generalize fmt n = f at *
 have I := Inv.start w [btF b 9 (L.map Value.string).toArray, tabF] ⟨hB0, hT, True.intro⟩
 refine a0c [.v (.int .i64 n), .v (.int .i64 way), .v (.func (.func fn) #[] #[]), .v (.slice (some ⟨b, 0, none⟩) L.length L.length)] I Tryz.func22 ?_
 refine zg I (fun Al W I => (HO1 W).out) fun Al V Iv _ hB _ kz => ?_
 rintro _ W ⟨u16, rfl, hge, hB, hb⟩
 refine ⟨_, rfl, kz _ _ hb fun I => ?_⟩
 refine b1h Iv hb 0 u16 186 [(.int .i64 n), (.int .i64 1), (.int .i64 f.g.rad), (.int .i64 f.g.digs), (.int .i64 f.g.lo), (.int .i64 f.g.hi), (.bool f.g.grad), (.int .u8 (famB f)), (.int .i64 0)] hge hB fun Al hAl_16 I => ?_
 refine b1i I 17 0 u16 hAl_16 fun Al W I => zg I (fun Al W I => (HDe W _ (I.box 0 186 _) I.fa.1 I.fa.2.1).out) fun Al V Iv _ hB _ kz => ?_
 rintro _ W ⟨xs, vs, p25, c25, rfl, hxs, hvs, oS, oL, hb⟩
 refine ⟨_, rfl, kz _ _ hb fun I => ?_⟩
 have I := I.owns oS
 have I := I.ownl oL
 refine zg I (fun Al W I => (HO2 W).out) fun Al V Iv _ hB _ kz => ?_
 rintro _ W ⟨u34, rfl, hge, hB, hb⟩
 refine ⟨_, rfl, kz _ _ hb fun I => ?_⟩
 refine b1h Iv hb 1 u34 186 [(.int .i64 n), (.int .i64 way), (.int .i64 f.g.rad), (.int .i64 f.g.digs), (.int .i64 f.g.lo), (.int .i64 f.g.hi), (.bool f.g.grad), (.int .u8 (famB f)), (.int .i64 0)] hge hB fun Al hAl_34 I => ?_
 refine b1i I 35 1 u34 hAl_34 fun Al W I => zgfe (hf := hfn) I 1 186 (fun Al W I => (HDo xs vs p25 c25 _ _ W hxs hvs I.fa.2.1 I.fa.1 (I.box 1 186 _) I.fa.2.2.2.1 I.bel.size).out) fun Al V Iv _ _ kz => ?_
 rintro _ W ⟨v44, hR44, p44, c44, rfl, o44, hO, hB⟩
 refine ⟨_, rfl, kz _ (uS f n way (fl : Int)) _ hO hB fun I => ?_⟩
 have I := I.own o44
 refine zq I (fun Al W I => (HT W v44 p44 c44 _ _ (I.box 1 186 _) I.fa.1 hR44 I.fa.2.2.2.2.1).out) fun Al W I => zrb I
theorem h1b (n way : Int) (L : List ByteArray) (fn : FuncId) (b m : Nat) (w : World) (hB0 : Bt w b 9 (L.map Value.string).toArray) (hm : m = L.length) (hl : L.length ≤ 1000) (hT : TabW w) (h0 : errR n way L ≠ 0) :
 Calls Tryz.prog 22 #[.int .i64 n, .int .i64 way, .func (.func fn) #[] #[], .slice (some ⟨b, 0, none⟩) m m] w fun en w' => en = .returned (.tuple #[.string (a0d []), .int .i64 0, .int .i64 (errR n way L)]) ∧ Below w.heap.size w w' := by
 subst hm
 unfold errR at h0 ⊢
 by_cases hn : IsFm n
 · rw [if_pos hn] at h0 ⊢
   have HO1 := fun W => lHd (t0b n 1 W hn (by omega))
   by_cases hL : errL n L = 0
   · rw [if_pos hL] at h0 ⊢
     have hw : ¬ (1 ≤ way ∧ way ≤ 5) := fun h => h0 (if_pos h)
     rw [if_neg hw]
     have HO2 := fun W => lHd (z0l n way W (fun h => hw h.2))
     have HDe := fun W u h1 h2 h3 => lHd (z0m n 1 0 L b L.length u W h1 h2 rfl hl hL h3)
     generalize fmt n = f at *
     have I := Inv.start w [btF b 9 (L.map Value.string).toArray, tabF] ⟨hB0, hT, True.intro⟩
     refine a0c [.v (.int .i64 n), .v (.int .i64 way), .v (.func (.func fn) #[] #[]), .v (.slice (some ⟨b, 0, none⟩) L.length L.length)] I Tryz.func22 ?_
     refine zg I (fun Al W I => (HO1 W).out) fun Al V Iv _ hB _ kz => ?_
     rintro _ W ⟨u16, rfl, hge, hB, hb⟩
     refine ⟨_, rfl, kz _ _ hb fun I => ?_⟩
     refine b1h Iv hb 0 u16 186 [(.int .i64 n), (.int .i64 1), (.int .i64 f.g.rad), (.int .i64 f.g.digs), (.int .i64 f.g.lo), (.int .i64 f.g.hi), (.bool f.g.grad), (.int .u8 (famB f)), (.int .i64 0)] hge hB fun Al hAl_16 I => ?_
     refine b1i I 17 0 u16 hAl_16 fun Al W I => zg I (fun Al W I => (HDe W _ (I.box 0 186 _) I.fa.1 I.fa.2.1).out) fun Al V Iv _ hB _ kz => ?_
     rintro _ W ⟨xs, vs, p25, c25, rfl, hxs, hvs, oS, oL, hb⟩
     refine ⟨_, rfl, kz _ _ hb fun I => ?_⟩
     have I := I.owns oS
     have I := I.ownl oL
     refine zq I (fun Al W I => (HO2 W).out) fun Al W I => zrb I
   · rw [if_neg hL] at h0 ⊢
     have HDe := fun W u h1 h2 h3 => lHd (v0l n 1 0 L b L.length u W h1 h2 rfl hl hL h3)
     generalize errL n L = er at *
     generalize fmt n = f at *
     have I := Inv.start w [btF b 9 (L.map Value.string).toArray, tabF] ⟨hB0, hT, True.intro⟩
     refine a0c [.v (.int .i64 n), .v (.int .i64 way), .v (.func (.func fn) #[] #[]), .v (.slice (some ⟨b, 0, none⟩) L.length L.length)] I Tryz.func22 ?_
     refine zg I (fun Al W I => (HO1 W).out) fun Al V Iv _ hB _ kz => ?_
     rintro _ W ⟨u16, rfl, hge, hB, hb⟩
     refine ⟨_, rfl, kz _ _ hb fun I => ?_⟩
     refine b1h Iv hb 0 u16 186 [(.int .i64 n), (.int .i64 1), (.int .i64 f.g.rad), (.int .i64 f.g.digs), (.int .i64 f.g.lo), (.int .i64 f.g.hi), (.bool f.g.grad), (.int .u8 (famB f)), (.int .i64 0)] hge hB fun Al hAl_16 I => ?_
     refine b1i I 17 0 u16 hAl_16 fun Al W I => zq I (fun Al W I => (HDe W _ (I.box 0 186 _) I.fa.1 I.fa.2.1).out) fun Al W I => zb I 29 (er != 0) (true) (bne_iff_ne.2 hL) fun Al W I => zrb I
 · rw [if_neg hn]
   have HO1 := fun W => lHd (z0l n 1 W (fun h => hn h.1))
   have I := Inv.start w [] True.intro
   refine a0c [.v (.int .i64 n), .v (.int .i64 way), .v (.func (.func fn) #[] #[]), .v (.slice (some ⟨b, 0, none⟩) L.length L.length)] I Tryz.func22 ?_
   refine zq I (fun Al W I => (HO1 W).out) fun Al W I => zrb I
structure VrF (f : Fm) (r : Vr) : Prop where
 ok : VrOk r
 inf : r.cls = 3 → f.fam = 1
def refD (n : Int) (s : ByteArray) : Vr := (fmt n).refN (a0q (fmt n) s)
theorem t1n {f : Fm} (G : c0g f) (neg : Bool) {e frac : Nat} (h : e < 2 ^ f.E) : (f.dec neg e frac).p = 0 ∨ (f.g.lo ≤ (f.dec neg e frac).p ∧ (f.dec neg e frac).p ≤ f.g.hi + 1) := by
 have h3 := G.hi1
 have h4 := G.hi2
 have h5 := G.hi3
 have h6 := G.fam
 have gg := (c0e G.g).le
 have e1 := G.e1
 have hE1 : (2 : Nat) ^ 7 ≤ 2 ^ f.E := Nat.pow_le_pow_right (by omega) e1
 unfold Fm.dec
 generalize 2 ^ f.E = T at *
 repeat' split
 all_goals first | exact .inl rfl | (right; simp only; omega)
theorem q1m {f : Fm} (neg : Bool) {e frac : Nat} (h : (f.dec neg e frac).c = 3) : f.fam = 1 := by
 have h : (f.dec neg e frac).cls = 3 := by
  unfold Dc.c at h
  split at h <;> omega
 unfold Fm.dec at h
 split at h
 · simp at h
 · split at h
   · rename_i k
     exact k.1
   · split at h
     · split at h <;> simp at h
     · split at h
       · simp at h
       · split at h
         · simp at h
         · split at h <;> simp at h
theorem f0d {n : Int} {s : ByteArray} (hn : IsFm n) : VrF (fmt n) (refD n s) := by
 have G := b0r hn
 have GG := c0e G.g
 obtain ⟨w1, w2, w3⟩ := l0y G.g
 have he : (fmt n).exp (a0q (fmt n) s) < 2 ^ (fmt n).E := Nat.mod_lt _ (Nat.pow_pos (by omega))
 have hx : (fmt n).frac (a0q (fmt n) s) < 2 ^ (fmt n).F := Nat.mod_lt _ (Nat.pow_pos (by omega))
 have hm := j1i (f := fmt n) ((fmt n).neg (a0q (fmt n) s)) (e := (fmt n).exp (a0q (fmt n) s)) hx
 have hp := t1n G ((fmt n).neg (a0q (fmt n) s)) (frac := (fmt n).frac (a0q (fmt n) s)) he
 have hi := fun h => q1m (f := fmt n) ((fmt n).neg (a0q (fmt n) s)) (e := (fmt n).exp (a0q (fmt n) s)) (frac := (fmt n).frac (a0q (fmt n) s)) h
 have hcls := e1w (fmt n) ((fmt n).neg (a0q (fmt n) s)) ((fmt n).exp (a0q (fmt n) s)) ((fmt n).frac (a0q (fmt n) s))
 have z2 := G.f2
 unfold refD Fm.refN Fm.decN
 generalize (fmt n).dec ((fmt n).neg (a0q (fmt n) s)) ((fmt n).exp (a0q (fmt n) s)) ((fmt n).frac (a0q (fmt n) s)) = D at *
 generalize (fmt n).neg (a0q (fmt n) s) = g at *
 generalize fmt n = f at *
 have hc : 1 ≤ D.c ∧ D.c ≤ 5 := by unfold Dc.c; split <;> omega
 have hml : (dig B32 D.m).length ≤ 3 := a0u hm (by omega)
 have wp := b0g f.g
 have hwp : -17010 ≤ (wid f.g : Int) * D.p ∧ (wid f.g : Int) * D.p ≤ 17010 := by
  rcases hp with h | ⟨h1, h2⟩
  · rw [h, Int.mul_zero]; omega
  · have a1 : (wid f.g : Int) * f.g.lo ≤ wid f.g * D.p := Int.mul_le_mul_of_nonneg_left h1 (by omega)
    have a2 : (wid f.g : Int) * D.p ≤ wid f.g * (f.g.hi + 1) := Int.mul_le_mul_of_nonneg_left h2 (by omega)
    rw [Int.mul_add, Int.mul_one] at a2
    omega
 refine ⟨⟨hc, fun h => ?_, fun h => ?_, ?_, ?_, ?_, ?_⟩, hi⟩
 · have h : ¬ D.c = 2 := h
   unfold Fm.vr
   simp only [if_neg h]
   rfl
 · have h : D.c = 2 := h
   have hm0 := n1g h
   unfold Fm.vr
   simp only [h, if_true]
   obtain ⟨b1, b2⟩ := t0a (g := g) (e := (wid f.g : Int) * D.p) hm0
   exact ⟨b2, by rw [b1]; rfl⟩
 · unfold Fm.vr
   simp only
   split
   · exact k0f _
   · exact .inr rfl
 · unfold Fm.vr
   simp only
   split
   · exact Nat.le_trans (m0w a0b _) (by show (dig B32 D.m).length ≤ _; omega)
   · show (dig B32 0).length ≤ _; rw [a0e]; decide
 · unfold Fm.vr
   simp only
   split
   · have := y0p (⟨g, D.m, wid f.g * D.p⟩ : Dv) (n := 3) hml (lo := -17100) (hi := 17100) (by simp only; omega) (by simp only; omega) (by omega) (by omega)
     omega
   · show (-18000 : Int) ≤ 0; decide
 · unfold Fm.vr
   simp only
   split
   · have := y0p (⟨g, D.m, wid f.g * D.p⟩ : Dv) (n := 3) hml (lo := -17100) (hi := 17100) (by simp only; omega) (by simp only; omega) (by omega) (by omega)
     omega
   · show (0 : Int) ≤ 18000; decide
theorem h0f {n : Int} {s : ByteArray} (h0 : a0p n s = 0) : VRep (fmt n) (decP n s) (refD n s) := by
 obtain ⟨hn, hs⟩ := b0h.1 h0
 have G := b0r hn
 have hd : decP n s = (fmt n).valN (a0q (fmt n) s) := by unfold decP; rw [if_pos h0]
 have he : (fmt n).exp (a0q (fmt n) s) < 2 ^ (fmt n).E := Nat.mod_lt _ (Nat.pow_pos (by omega))
 have hx : (fmt n).frac (a0q (fmt n) s) < 2 ^ (fmt n).F := Nat.mod_lt _ (Nat.pow_pos (by omega))
 have hb := u1h G ((fmt n).neg (a0q (fmt n) s)) he hx ((fmt n).neg (a0q (fmt n) s))
 have hk := y0w (fmt n) ((fmt n).neg (a0q (fmt n) s)) ((fmt n).decN (a0q (fmt n) s))
 have ho := j1p (fmt n) ((fmt n).neg (a0q (fmt n) s)) ((fmt n).decN (a0q (fmt n) s))
 rw [hd]
 exact ⟨rfl, rfl, fun _ => hk, fun h => ho h, hb.1, hb.2.1, hb.2.2⟩
theorem z0n {n : Int} {s : ByteArray} (h0 : a0p n s = 0) {x : Vp} (hx : x.v = decP n s) : AtV (fmt n) x (refD n s) := by
 have F := f0d (s := s) (b0h.1 h0).1
 exact ⟨by rw [hx]; exact h0f h0, F.ok, F.inf⟩
/-! ### Results -/
theorem n1u {f : Fm} (G : c0g f) (x : Dv) (way : Int) : ResF f (f.numM x way).1 := by
 unfold Fm.numM
 split
 · exact m0c G _
 · exact (f0j G (by omega)).1
theorem t1o {f : Fm} (G : c0g f) (x y : Dv) (g h : Bool) (way : Int) : ResF f (f.sumM x y g h way).1 := by
 unfold Fm.sumM
 split
 · exact n1u G _ _
 · split <;> exact m0c G _
theorem h1c {f : Fm} {r : Vr} (h : r.cls = 3) (R : VrF f r) : ResF f r :=
 ⟨by omega, fun k => by omega, fun k => by omega, fun _ => R.inf h, fun k => by omega, fun k => by omega, fun _ => R.ok.x0 (by omega)⟩
theorem n1v {f : Fm} (G : c0g f) {a b : Vr} (A : VrF f a) (B : VrF f b) (way : Int) : ResF f (f.addM a b way).1 := by
 unfold Fm.addM
 split
 · exact g0t G
 · split
   · rename_i h
     split
     · exact g0t G
     · split
       · rename_i h3; exact h1c h3 A
       · rename_i h3; exact h1c (show b.cls = 3 by omega) B
   · exact t1o G _ _ _ _ _
theorem t1p {f : Fm} (G : c0g f) {a b : Vr} (A : a.cls = 3 → f.fam = 1) (B : b.cls = 3 → f.fam = 1) (way : Int) : ResF f (f.mulM a b way).1 := by
 unfold Fm.mulM
 split
 · exact g0t G
 · split
   · rename_i h
     split
     · exact g0t G
     · exact n1q (h.elim A B) _
   · split
     · exact m0c G _
     · exact n1u G _ _
theorem h1d {n : Int} {s t : ByteArray} (h : errL n [s, t] = 0) : a0p n s = 0 ∧ a0p n t = 0 ∧ IsFm n := by
 have h1 := l0g n h s (by simp)
 exact ⟨h1, l0g n h t (by simp), (b0h.1 h1).1⟩
theorem z0o {n : Int} {xs : List Vp} {s t : ByteArray} (h : xs.map (·.v) = [s, t].map (decP n)) : ∃ x y, xs = [x, y] ∧ x.v = decP n s ∧ y.v = decP n t := by
 cases xs with
 | nil => simp at h
 | cons x l =>
  cases l with
  | nil => simp at h
  | cons y l =>
   cases l with
   | nil => simp only [List.map_cons, List.map_nil, List.cons.injEq, and_true] at h; exact ⟨x, y, rfl, h.1, h.2⟩
   | cons _ _ => simp at h
theorem l1n (n way : Int) (s t : ByteArray) (h0 : errL n [s, t] = 0) (hw : 1 ≤ way ∧ way ≤ 5) : q1l n way [s, t] 23 ((fmt n).addM (refD n s) (refD n t) way) := by
 intro xs vs p c base u w hxs hvs oS oL U hT hb
 obtain ⟨hs, ht, hn⟩ := h1d h0
 obtain ⟨x, y, rfl, hx, hy⟩ := z0o hxs
 have ox := oL x (by simp)
 have oy := oL y (by simp)
 have HA := fun W u h1 h2 h3 h4 h5 => lHd (u1r (fmt n) n way x y (refD n s) (refD n t) base u W h1 h2 h3 h4 (z0n hs hx) (z0n ht hy) (b0r hn) hw h5)
 generalize (fmt n).addM (refD n s) (refD n t) way = R at *
 generalize fmt n = f at *
 subst hvs
 clear oL hx hy hxs h0 hs ht hn
 obtain ⟨r, fl⟩ := R
 let aA : SV := .v (.agg #[.int .i64 (x.v.cls : Int), .bool x.v.neg, .slice x.p (dig B32 x.v.d).length x.c, .int .i64 x.v.pow])
 let aB : SV := .v (.agg #[.int .i64 (y.v.cls : Int), .bool y.v.neg, .slice y.p (dig B32 y.v.d).length y.c, .int .i64 y.v.pow])
 have I := Inv.startW w u 186 (uS f n way 0) [k0w base 61 4 p c [s, t].length ([x, y].flatMap Vp.cells), ownF base .u32 139 x.p x.c (dig B32 x.v.d), ownF base .u32 139 y.p y.c (dig B32 y.v.d), tabF] U ⟨oS, ox, oy, hT, True.intro⟩ ⟨fun hf => oS.far U (by kernel_rfl) hf.1 hf.2, fun hf => ox.far U (by kernel_rfl) hf.1 hf.2, fun hf => oy.far U (by kernel_rfl) hf.1 hf.2, fun hf => hT.far U (by kernel_rfl) hf, True.intro⟩
 refine a0c [.p 0 0, .v (.slice p [s, t].length c)] I Tryz.func23 ?_
 refine zd [0, 1] I fun Al W I => zk [0, 1] I fun I => zkx 2 I (.pointer (some (at_ p (0 * 4)))) (fun _ => (o0m (m := 0) (n := [s, t].length) (c := c) v0k I.fa.1.solid (by simp))) fun I => zk [4] I fun I => zkx 5 I (.pointer (some (at_ p (1 * 4)))) (fun _ => (o0m (m := 1) (n := [s, t].length) (c := c) v0k I.fa.1.solid (by simp))) fun I => m0r I [(3, aA), (6, aB)] (fun Al W I => ?_) (fun KL7 => ?_)
 · refine zo 7 I fun I => zge I 0 186 (fun Al W I => have hzW := I.bel.size; (HA W _ (I.box 0 186 _) I.fa.2.1 I.fa.2.2.1 (by omega) I.fa.2.2.2.1).out) fun Al V Iv _ _ kz => ?_
   rintro _ W ⟨v12, hR12, p12, c12, rfl, o12, hO, hB⟩
   refine ⟨_, rfl, kz _ (uS f n way (fl : Int)) _ hO hB fun I => ?_⟩
   have I := I.ownB base o12
   refine zo 8 I fun I => zn I fun Al W I => zret I fun Al W I => ⟨v12, hR12, p12, c12, rfl, I.fa.1, I.bel, I.boxE 186 _⟩
 refine m0r I [(3, aA)] (fun Al W I => ?_) (fun KL5 => ?_)
 · refine zo 6 I fun I => zx I 11 (fun _ => .agg #[vI (y.v.cls : Int), .bool y.v.neg, .slice y.p (dig B32 y.v.d).length y.c, vI y.v.pow]) (fun Al W I => (m0j (m := 1 * 4) I.fa.1 p0m y.cells rfl rfl)) fun Al W I => zuse KL7 I
 refine m0r I [(6, aB)] (fun Al W I => ?_) (fun KL6 => ?_)
 · refine zo 3 I fun I => zx I 8 (fun _ => .agg #[vI (x.v.cls : Int), .bool x.v.neg, .slice x.p (dig B32 x.v.d).length x.c, vI x.v.pow]) (fun Al W I => (m0j (m := 0 * 4) I.fa.1 p0m x.cells rfl rfl)) fun Al W I => zuse KL7 I
 refine zo2 3 6 I (fun I => ?_) (fun I => ?_)
 · refine zx I 8 (fun _ => .agg #[vI (x.v.cls : Int), .bool x.v.neg, .slice x.p (dig B32 x.v.d).length x.c, vI x.v.pow]) (fun Al W I => (m0j (m := 0 * 4) I.fa.1 p0m x.cells rfl rfl)) fun Al W I => zuse KL5 I
 refine zx I 11 (fun _ => .agg #[vI (y.v.cls : Int), .bool y.v.neg, .slice y.p (dig B32 y.v.d).length y.c, vI y.v.pow]) (fun Al W I => (m0j (m := 1 * 4) I.fa.1 p0m y.cells rfl rfl)) fun Al W I => zuse KL6 I
def i0q (n way : Int) (L : List ByteArray) (R : Vr × Nat) (w : World) (en : Ending) (w' : World) : Prop :=
 (if errR n way L = 0 then en = .returned (.tuple #[.string (strR n R.1), .int .i64 ((R.2 : Nat) : Int), .int .i64 (errR n way L)]) else en = .returned (.tuple #[.string (a0d []), .int .i64 0, .int .i64 (errR n way L)])) ∧ Below w.heap.size w w'
theorem v0m {n way : Int} {L : List ByteArray} (h0 : errR n way L = 0) : IsFm n ∧ errL n L = 0 ∧ 1 ≤ way ∧ way ≤ 5 := by
 have hn : IsFm n := by unfold errR at h0; split at h0; assumption; omega
 unfold errR at h0
 rw [if_pos hn] at h0
 have hL : errL n L = 0 := by split at h0; assumption; contradiction
 rw [if_pos hL] at h0
 exact ⟨hn, hL, by split at h0; assumption; omega⟩
theorem t0c (n way : Int) (s t : ByteArray) (w : World) (hT : TabW w) : Calls Tryz.prog 11 #[.int .i64 n, .string s, .string t, .int .i64 way] w (i0q n way [s, t] ((fmt n).addM (refD n s) (refD n t) way) w) := by
 unfold i0q
 by_cases h0 : errR n way [s, t] = 0
 · obtain ⟨hn, hL, hw⟩ := v0m h0
   have HR := fun b m W h1 h2 h3 => lHd (n1t n way [s, t] 23 _ b m W h1 h2 (by simp) h3 (fun _ _ => by kernel_rfl) h0 (l1n n way s t hL hw) (n1v (b0r hn) (f0d hn) (f0d hn) way))
   simp only [h0, if_true]
   generalize strR n ((fmt n).addM (refD n s) (refD n t) way).1 = str at *
   generalize ((fmt n).addM (refD n s) (refD n t) way).2 = fl at *
   have I := Inv.start w [tabF] ⟨hT, True.intro⟩
   refine a0c [.v (.int .i64 n), .v (.string s), .v (.string t), .v (.int .i64 way)] I Tryz.func11 ?_
   refine zq I (fun Al W I => (HR _ 2 W (I.box 0 9 _) rfl I.fa.1).out) fun Al W I => zrb I
 · have HR := fun b m W h1 h2 h3 => lHd (h1b n way [s, t] 23 b m W h1 h2 (by simp) h3 h0)
   simp only [if_neg h0]
   generalize errR n way [s, t] = er at *
   have I := Inv.start w [tabF] ⟨hT, True.intro⟩
   refine a0c [.v (.int .i64 n), .v (.string s), .v (.string t), .v (.int .i64 way)] I Tryz.func11 ?_
   refine zq I (fun Al W I => (HR _ 2 W (I.box 0 9 _) rfl I.fa.1).out) fun Al W I => zrb I
theorem l1o (n way : Int) (s t : ByteArray) (h0 : errL n [s, t] = 0) (hw : 1 ≤ way ∧ way ≤ 5) : q1l n way [s, t] 148 ((fmt n).mulM (refD n s) (refD n t) way) := by
 intro xs vs p c base u w hxs hvs oS oL U hT hb
 obtain ⟨hs, ht, hn⟩ := h1d h0
 obtain ⟨x, y, rfl, hx, hy⟩ := z0o hxs
 have ox := oL x (by simp)
 have oy := oL y (by simp)
 have HA := fun W u h1 h2 h3 h4 h5 => lHd (u1s (fmt n) n way x y (refD n s) (refD n t) base u W h1 h2 h3 h4 (z0n hs hx) (z0n ht hy) (b0r hn) hw h5)
 generalize (fmt n).mulM (refD n s) (refD n t) way = R at *
 generalize fmt n = f at *
 subst hvs
 clear oL hx hy hxs h0 hs ht hn
 obtain ⟨r, fl⟩ := R
 let aA : SV := .v (.agg #[.int .i64 (x.v.cls : Int), .bool x.v.neg, .slice x.p (dig B32 x.v.d).length x.c, .int .i64 x.v.pow])
 let aB : SV := .v (.agg #[.int .i64 (y.v.cls : Int), .bool y.v.neg, .slice y.p (dig B32 y.v.d).length y.c, .int .i64 y.v.pow])
 have I := Inv.startW w u 186 (uS f n way 0) [k0w base 61 4 p c [s, t].length ([x, y].flatMap Vp.cells), ownF base .u32 139 x.p x.c (dig B32 x.v.d), ownF base .u32 139 y.p y.c (dig B32 y.v.d), tabF] U ⟨oS, ox, oy, hT, True.intro⟩ ⟨fun hf => oS.far U (by kernel_rfl) hf.1 hf.2, fun hf => ox.far U (by kernel_rfl) hf.1 hf.2, fun hf => oy.far U (by kernel_rfl) hf.1 hf.2, fun hf => hT.far U (by kernel_rfl) hf, True.intro⟩
 refine a0c [.p 0 0, .v (.slice p [s, t].length c)] I Tryz.func148 ?_
 refine zd [0, 1] I fun Al W I => zk [0, 1] I fun I => zkx 2 I (.pointer (some (at_ p (0 * 4)))) (fun _ => (o0m (m := 0) (n := [s, t].length) (c := c) v0k I.fa.1.solid (by simp))) fun I => zk [4] I fun I => zkx 5 I (.pointer (some (at_ p (1 * 4)))) (fun _ => (o0m (m := 1) (n := [s, t].length) (c := c) v0k I.fa.1.solid (by simp))) fun I => m0r I [(3, aA), (6, aB)] (fun Al W I => ?_) (fun KL7 => ?_)
 · refine zo 7 I fun I => zge I 0 186 (fun Al W I => have hzW := I.bel.size; (HA W _ (I.box 0 186 _) I.fa.2.1 I.fa.2.2.1 (by omega) I.fa.2.2.2.1).out) fun Al V Iv _ _ kz => ?_
   rintro _ W ⟨v12, hR12, p12, c12, rfl, o12, hO, hB⟩
   refine ⟨_, rfl, kz _ (uS f n way (fl : Int)) _ hO hB fun I => ?_⟩
   have I := I.ownB base o12
   refine zo 8 I fun I => zn I fun Al W I => zret I fun Al W I => ⟨v12, hR12, p12, c12, rfl, I.fa.1, I.bel, I.boxE 186 _⟩
 refine m0r I [(3, aA)] (fun Al W I => ?_) (fun KL5 => ?_)
 · refine zo 6 I fun I => zx I 11 (fun _ => .agg #[vI (y.v.cls : Int), .bool y.v.neg, .slice y.p (dig B32 y.v.d).length y.c, vI y.v.pow]) (fun Al W I => (m0j (m := 1 * 4) I.fa.1 p0m y.cells rfl rfl)) fun Al W I => zuse KL7 I
 refine m0r I [(6, aB)] (fun Al W I => ?_) (fun KL6 => ?_)
 · refine zo 3 I fun I => zx I 8 (fun _ => .agg #[vI (x.v.cls : Int), .bool x.v.neg, .slice x.p (dig B32 x.v.d).length x.c, vI x.v.pow]) (fun Al W I => (m0j (m := 0 * 4) I.fa.1 p0m x.cells rfl rfl)) fun Al W I => zuse KL7 I
 refine zo2 3 6 I (fun I => ?_) (fun I => ?_)
 · refine zx I 8 (fun _ => .agg #[vI (x.v.cls : Int), .bool x.v.neg, .slice x.p (dig B32 x.v.d).length x.c, vI x.v.pow]) (fun Al W I => (m0j (m := 0 * 4) I.fa.1 p0m x.cells rfl rfl)) fun Al W I => zuse KL5 I
 refine zx I 11 (fun _ => .agg #[vI (y.v.cls : Int), .bool y.v.neg, .slice y.p (dig B32 y.v.d).length y.c, vI y.v.pow]) (fun Al W I => (m0j (m := 1 * 4) I.fa.1 p0m y.cells rfl rfl)) fun Al W I => zuse KL6 I
theorem l1p (n way : Int) (s t : ByteArray) (w : World) (hT : TabW w) : Calls Tryz.prog 80 #[.int .i64 n, .string s, .string t, .int .i64 way] w (i0q n way [s, t] ((fmt n).mulM (refD n s) (refD n t) way) w) := by
 unfold i0q
 by_cases h0 : errR n way [s, t] = 0
 · obtain ⟨hn, hL, hw⟩ := v0m h0
   have HR := fun b m W h1 h2 h3 => lHd (n1t n way [s, t] 148 _ b m W h1 h2 (by simp) h3 (fun _ _ => by kernel_rfl) h0 (l1o n way s t hL hw) (t1p (b0r hn) (f0d hn).inf (f0d hn).inf way))
   simp only [h0, if_true]
   generalize strR n ((fmt n).mulM (refD n s) (refD n t) way).1 = str at *
   generalize ((fmt n).mulM (refD n s) (refD n t) way).2 = fl at *
   have I := Inv.start w [tabF] ⟨hT, True.intro⟩
   refine a0c [.v (.int .i64 n), .v (.string s), .v (.string t), .v (.int .i64 way)] I Tryz.func80 ?_
   refine zq I (fun Al W I => (HR _ 2 W (I.box 0 9 _) rfl I.fa.1).out) fun Al W I => zrb I
 · have HR := fun b m W h1 h2 h3 => lHd (h1b n way [s, t] 148 b m W h1 h2 (by simp) h3 h0)
   simp only [if_neg h0]
   generalize errR n way [s, t] = er at *
   have I := Inv.start w [tabF] ⟨hT, True.intro⟩
   refine a0c [.v (.int .i64 n), .v (.string s), .v (.string t), .v (.int .i64 way)] I Tryz.func80 ?_
   refine zq I (fun Al W I => (HR _ 2 W (I.box 0 9 _) rfl I.fa.1).out) fun Al W I => zrb I
theorem q0r (p : OA) (n c : Nat) (vs : List Value) (w : World) (hr : RdV w p vs) (hn : n = vs.length) (hl : vs.length ≤ 4000000000) (h1 : vs.all (·.oneCell') = true) :
 Calls Tryz.prog 39 #[.slice p n c] w fun en w' => ∃ q d, en = .returned (.slice q n d) ∧ OwnV w' w.heap.size 9 q d vs ∧ Below w.heap.size w w' := by
 cases p with
 | none =>
  obtain rfl : vs = [] := by
   rcases Nat.eq_zero_or_pos vs.length with h | h
   · exact List.eq_nil_of_length_eq_zero h
   · have := (hr.solid h).1; simp at this
  subst hn
  have I := Inv.start w [] True.intro
  refine a0c [.v (.slice none 0 c)] I Tryz.func39 ?_
  exact zret I fun Al W I => ⟨none, 0, rfl, OwnV.nil _ _ _, I.below⟩
 | some a =>
  subst hn
  have I := Inv.start w [rdvF (some a) vs] ⟨hr, True.intro⟩
  refine a0c [.v (.slice (some a) vs.length c)] I Tryz.func39 ?_
  refine zlo I 5 0 9 [] fun Al W b hq_5 I => zapv I [0] i0y 23 0 vs.length vs.length (fun Al => some a) c vs rfl rfl (Nat.zero_add _) hl (List.nil_append _) (us := vs) (fun Al W I => I.fa.2.1) (fun Al W I h9 => ⟨(hq_5 h9).1, True.intro⟩) (fun Al W p7 c7 I => ?_) (hone := h1)
  exact zret I fun Al W I => ⟨p7, c7, rfl, I.fa.1, I.below⟩
theorem k0a (n a b : Int) (w : World) : Calls Tryz.prog 25 #[.int .i64 n, .int .i64 a, .int .i64 b] w fun en w' => en = .returned (.bool (decide (a ≤ n) && decide (n ≤ b))) ∧ Below w.heap.size w w' := by
 have I := Inv.start w [] True.intro
 refine a0c [.v (.int .i64 n), .v (.int .i64 a), .v (.int .i64 b)] I Tryz.func25 ?_
 rcases bTF (decide (n ≥ a)) with h9 | h9
 · refine zb I 9 (decide (n ≥ a)) (true) (h9) fun Al W I => ?_
   rcases bTF (decide (n ≤ b)) with h13 | h13
   · refine zb I 13 (decide (n ≤ b)) (true) (h13) fun Al W I => zret I fun Al W I => ⟨congrArg (fun b => Ending.returned (.bool b)) (by (rw [decide_eq_true (p := n ≤ b) (oTr h13), decide_eq_true (p := a ≤ n) (oTr h9)]; first | done | rfl)), I.below⟩
   refine zb I 13 (decide (n ≤ b)) (false) (h13) fun Al W I => zret I fun Al W I => ⟨congrArg (fun b => Ending.returned (.bool b)) (by (rw [decide_eq_false (p := n ≤ b) (oFa h13), Bool.and_false])), I.below⟩
 refine zb I 9 (decide (n ≥ a)) (false) (h9) fun Al W I => zret I fun Al W I => ⟨congrArg (fun b => Ending.returned (.bool b)) (by (rw [decide_eq_false (p := a ≤ n) (oFa h9)]; first | done | rfl)), I.below⟩
theorem c1h (k : Int) (w : World) : Calls Tryz.prog 31 #[.int .i64 k] w fun en w' => en = .returned (.bool (decide (1 ≤ k) && decide (k ≤ 5))) ∧ Below w.heap.size w w' := by
 have HW := fun W => lHd (k0a k 1 5 W)
 have I := Inv.start w [] True.intro
 refine a0c [.v (.int .i64 k)] I Tryz.func31 ?_
 refine zq I (fun Al W I => (HW W).out) fun Al W I => zrb I
abbrev Wkr (B bw : Nat) (f a g r : Int) (p : OA) (c : Nat) (vs : List Value) (w : World) : Prop := Wk 95 9 B bw f a g r p c vs w
theorem z0p (bw : Nat) (f a g r : Int) (p : OA) (n c : Nat) (w : World) (wk : Bt w bw 95 #[.int .i64 f, .int .i64 a, .int .i64 g, .int .i64 r, .slice p n c]) : Calls Tryz.prog 144 #[.pointer (some ⟨bw, 0, none⟩)] w fun en w' => en = .returned (.bool (decide ((n : Int) = 16))) ∧ Below w.heap.size w w' := by
 have I := Inv.startR w [bw] [⟨95, [.v (.int .i64 f), .v (.int .i64 a), .v (.int .i64 g), .v (.int .i64 r), .v (.slice p n c)], true⟩] [] ⟨wk, True.intro⟩ True.intro
 refine a0c [.p 0 0] I Tryz.func144 ?_
 exact zrb I
theorem t0d (bw B : Nat) (f a g r : Int) (p : OA) (c : Nat) (vs : List Value) (s : ByteArray) (fl er : Int) (v : World) (hl : vs.length ≤ 1000) (hw : Wkr B bw f a g r p c vs v) : Calls Tryz.prog 83 #[.pointer (some ⟨bw, 0, none⟩), .string s, .int .i64 fl, .int .i64 er] v
 fun en w' => ∃ p' c', en = .returned (.tuple #[.int .i64 fl, .int .i64 er]) ∧ Wkr B bw f a g r p' c' (if er = 0 then vs ++ [.string s] else vs) w' ∧ WkTo bw p p' v w' := by
 obtain ⟨w, rfl, h0w, I⟩ := Inv.startM hw [] True.intro True.intro
 have hpos := hw.pos
 have hge := hw.ge
 refine o0o [.p 0 0, .v (.string s), .v (.int .i64 fl), .v (.int .i64 er)] I Tryz.func83 ?_
 rcases bTF (er == 0) with h11 | h11
 · refine zb I 11 (er == 0) (true) (h11) fun Al W I => zapm I [0] i0y 23 vs.length 1 ((vs ++ [Value.string s]).length) (fun Al => some ⟨(lk 0 Al 1), 0, none⟩) 1 ([Value.string s]) rfl rfl (by rw [List.length_append]; rfl) (by rw [List.length_append, List.length_singleton]; omega) rfl (us := vs ++ ([Value.string s])) (fun Al W I => u0j (I.box 1 9 _)) (fun Al W I h9 => ⟨fun h => h.2.2 ⟨h9, rfl⟩, True.intro⟩) v.heap.size (fun Al W I => I.fa.2.1.1) (fun Al W p20 c20 hat_20 I => ?_)
   exact zret I (v := fun Al => .tuple #[vI fl, vI er]) fun Al W I => ⟨p20, c20, rfl, by rw [if_pos (oTr h11)]; exact I.wkE hge hpos rfl, WkTo.of I h0w I.fa.2.1 hat_20⟩
 refine zb I 11 (er == 0) (false) (h11) fun Al W I => zret I (v := fun Al => .tuple #[vI fl, vI er]) fun Al W I => ⟨p, c, rfl, by rw [if_neg (oFa h11)]; exact I.wkE hge hpos rfl, WkTo.of I h0w I.fa.2.1 fun hp => .inl ⟨hp, rfl⟩⟩
theorem q1n (bw B m k : Nat) (f a g r : Int) (p : OA) (c : Nat) (vs : List Value) (v : World) (hk : 1 ≤ k) (hm : vs.length = m + k) (hl : vs.length ≤ 1000) (h1 : vs.all (·.oneCell') = true) (hw : Wkr B bw f a g r p c vs v) : Calls Tryz.prog 85 #[.pointer (some ⟨bw, 0, none⟩), .int .i64 (k : Int)] v
 fun en w' => ∃ q d, en = .returned (.slice q k d) ∧ OwnV w' v.heap.size 9 q d (vs.drop m) ∧ Wkr B bw f a g r p c (vs.take m) w' ∧ WkTo bw p p v w' := by
 have hc := hw.own.le_cap
 have hdl : k = (vs.drop m).length := by rw [List.length_drop]; omega
 have h2 : (vs.drop m).all (·.oneCell') = true := List.all_eq_true.2 fun x hx => List.all_eq_true.1 h1 x (List.mem_of_mem_drop hx)
 have HC := fun p c W hr => lHd (q0r p k c (vs.drop m) W hr hdl (by omega) h2)
 obtain ⟨w, rfl, h0w, I⟩ := Inv.startM hw [] True.intro True.intro
 have hpos := hw.pos
 have hge := hw.ge
 refine o0o [.p 0 0, .v (.int .i64 (k : Int))] I Tryz.func85 ?_
 refine zi I 14 .i64 ((vs.length : Int) - (k : Int)) ((m : Int)) ((by rw [show (vs.length : Int) - (k : Int) = (m : Int) by omega]; exact iwo)) fun Al W I => zx I 21 (fun _ => .slice (p.map (·.add m)) k (c - m)) (fun Al W I => (by rw [show k = vs.length - m by omega]; exact s1e (m := m) i0y (by omega) (by omega) hc)) fun Al W I => zg I (fun Al W I => (HC (p.map (·.add m)) (c - m) W (I.fa.1.rd.drop m)).out) fun Al V Iv _ hB _ kz => ?_
 rintro _ W ⟨q22, d22, rfl, o22, hb⟩
 have hq22 := fun (h : q22.isSome = true) => Nat.le_trans Iv.fa.2.1.1 (o22.blk_lt h).1
 refine ⟨_, rfl, kz _ _ hb fun I => ?_⟩
 have I := I.ownv o22
 refine zx I 30 (fun _ => .slice p m c) (fun Al W I => (s1t (p := p) (n := vs.length) (c := c) (m := m) i0y (by omega))) fun Al W I => zret I (v := fun Al => .slice q22 k d22) fun Al W I => ⟨q22, d22, rfl, I.fa.1.up hq22, ((I.pick [1, 2]).takeV m).wkE (n := m) hge hpos (by rw [List.length_take]; omega), WkTo.of I h0w I.fa.2.2.1 fun hp => .inl ⟨hp, rfl⟩⟩
end Go.Proofs.YtgbbhlginbmghaaGreatDoor
namespace Go.Slip
open Go.RowKit
theorem v0n (l : List Nat) : m0q l = mayT 45 l := by
 cases l with
 | nil => rfl
 | cons b r =>
  rw [show mayT 45 (b :: r) = if b = 45 then (true, r) else (false, b :: r) from rfl]
  split
  · rename_i h; subst h; rfl
  · rename_i h; exact s0j r h
theorem v0o (l : List Nat) : r0x l = if (mayT 46 l).1 = true then (if (mayT 46 l).2.takeWhile isDg = [] then none else some ((mayT 46 l).2.takeWhile isDg, (mayT 46 l).2.dropWhile isDg)) else some ([], (mayT 46 l).2) := by
 cases l with
 | nil => rfl
 | cons b r =>
  rw [show mayT 46 (b :: r) = if b = 46 then (true, r) else (false, b :: r) from rfl]
  by_cases h : b = 46
  · subst h; rfl
  · rw [if_neg h, q0i r h]; rfl
theorem l1q (l : List Nat) : powT l = if (mayT 101 l).1 = true then (if (mayT 45 (mayT 101 l).2).2.takeWhile isDg = [] ∨ 5 < ((mayT 45 (mayT 101 l).2).2.takeWhile isDg).length then none else some (if (mayT 45 (mayT 101 l).2).1 then -(a0n ((mayT 45 (mayT 101 l).2).2.takeWhile isDg) : Int) else a0n ((mayT 45 (mayT 101 l).2).2.takeWhile isDg), (mayT 45 (mayT 101 l).2).2.dropWhile isDg)) else some (0, (mayT 101 l).2) := by
 cases l with
 | nil => rfl
 | cons b r =>
  rw [show mayT 101 (b :: r) = if b = 101 then (true, r) else (false, b :: r) from rfl]
  by_cases h : b = 101
  · subst h
    rw [if_pos rfl, if_pos rfl, ← v0n]
    rfl
  · rw [if_neg h, if_neg Bool.false_ne_true]
    unfold powT
    split
    · rename_i heq
      injection heq with h1 _
      exact absurd h1 h
    · rfl
theorem p0c (l : List Nat) : (∀ x ∈ l.takeWhile isDg, isDg x = true ∧ x ∈ l) ∧ (∀ x ∈ l.dropWhile isDg, x ∈ l) ∧ (l.takeWhile isDg).length ≤ l.length ∧ (l.dropWhile isDg).length ≤ l.length := by
 induction l with
 | nil => exact ⟨fun _ h => (nomatch h), fun x hx => hx, Nat.le_refl _, Nat.le_refl _⟩
 | cons b r ih =>
  obtain ⟨h1, h2, h3, h4⟩ := ih
  rw [List.takeWhile_cons, List.dropWhile_cons]
  cases hb : isDg b
  · exact ⟨fun _ h => (nomatch h), fun x hx => hx, Nat.zero_le _, Nat.le_refl _⟩
  · rw [if_pos rfl, if_pos rfl]
    refine ⟨fun x hx => ?_, fun x hx => List.mem_cons_of_mem _ (h2 x hx), by rw [List.length_cons, List.length_cons]; omega, by rw [List.length_cons]; omega⟩
    rcases List.mem_cons.1 hx with rfl | hx
    · exact ⟨hb, List.mem_cons_self⟩
    · exact ⟨(h1 x hx).1, List.mem_cons_of_mem _ (h1 x hx).2⟩
theorem h1e {l : List Nat} (h : Byt l) : Byt (l.takeWhile isDg) ∧ Byt (l.dropWhile isDg) := ⟨fun x hx => h x ((p0c l).1 x hx).2, fun x hx => h x ((p0c l).2.1 x hx)⟩
theorem i0r (c : Nat) (l : List Nat) : (mayT c l).2.length ≤ l.length := by
 cases l with
 | nil => exact Nat.le_refl _
 | cons b r =>
  rw [show mayT c (b :: r) = if b = c then (true, r) else (false, b :: r) from rfl]
  split
  · exact Nat.le_succ _
  · exact Nat.le_refl _
def numE (g : Bool) (d : List Nat) (pw : Int) (l : List Nat) : Option Numl :=
 if d = [] then none else match powT l with | none => none | some (e, r) => if r = [] then some ⟨g, d, e + pw⟩ else none
theorem h1f (l : List Nat) : numl l = match r0x ((mayT 45 l).2.dropWhile isDg) with | none => none | some (f, r) => numE (mayT 45 l).1 ((mayT 45 l).2.takeWhile isDg ++ f) (-(f.length : Int)) r := by
 unfold numl
 rw [v0n]
 rfl
theorem m0z {o : Option Numl} {g : Bool} {d : List Nat} {pw e q : Int} {l r : List Nat} (h : o = numE g d pw l) (hd : d.isEmpty = false) (hp : powT l = some (e, r)) (hq : q = e + pw) : o = if r.isEmpty = true then some ⟨g, d, q⟩ else none := by
 subst hq
 rw [h]
 unfold numE
 rw [if_neg (fun k => by rw [k] at hd; cases hd), hp]
 cases r <;> rfl
abbrev LN := List Nat
theorem h0g {P : Program} {W : World} (xs ys : List Nat) (h : xs.length + ys.length ≤ 9223372036854775807) {t : TypeId} {x y : Operand} : (do eqGuard .add t x y (.string (a0d xs)) (.string (a0d ys)); binOp .add t (.string (a0d xs)) (.string (a0d ys)) : Sem Value).run P W = .ok (.string (a0d (xs ++ ys))) W := by
 rw [← q1b]
 exact k1y (by rw [a0t, a0t]; exact h)
theorem h0h {P : Program} {W : World} {l : List Nat} (h : Byt l) {t : TypeId} {x y : Operand} : (do eqGuard .eql t x y (.string (a0d l)) (.string ⟨#[]⟩); binOp .eql t (.string (a0d l)) (.string ⟨#[]⟩) : Sem Value).run P W = .ok (.bool l.isEmpty) W :=
 l0e ((s0x h).trans List.isEmpty_iff.symm)
end Go.Slip
namespace Go.Proofs.YtgbbhlginbmghaaGreatDoor
open Go.RowKit Go.Slip
theorem x0v (t : ByteArray) (w : World) (ht : t.size ≤ 1000) :
 Calls Tryz.prog 42 #[.string t] w fun en w' => ∃ g ds pw ok, en = .returned (.tuple #[.bool g, .string (a0d ds), .int .i64 pw, .bool ok]) ∧ (numl (a0a t) = (if ok = true then some ⟨g, ds, pw⟩ else none) ∧ Byt ds) ∧ Below w.heap.size w w' := by
 have hb0 := Byt.of t
 have hl0 : (a0a t).length ≤ 1000 := by rw [b0e]; exact ht
 have hN := h1f (a0a t)
 have hst := h0e t
 generalize a0a t = l0 at *
 rw [← hst]
 clear hst
 have hM := fun c l hb u W U => lHd (q1c l hb c u W U)
 have hD := fun l hb hl u W U => lHd (b1z l hb hl u W U)
 have hA := fun x h1 h2 h3 W => lHd (l1c x h1 h2 h3 W)
 -- the parts, one behind the other
 have hb1 := m0y hb0 45
 have hl1 := i0r 45 l0
 obtain ⟨g, l1, e1⟩ : ∃ g l1, mayT 45 l0 = (g, l1) := ⟨_, _, rfl⟩
 have m1 := hM 45 l0 hb0
 rw [e1] at hb1 hl1 m1
 have hb2 := h1e hb1
 have hs2 := p0c l1
 have d2 := hD l1 hb1 (by simp only at hl1; omega)
 rw [e1] at hN
 simp only at hN hb1 hl1 hb2 hs2 m1
 generalize l1.takeWhile isDg = d at *
 generalize l1.dropWhile isDg = l2 at *
 rw [v0o] at hN
 have hb3 := m0y hb2.2 46
 have hl3 := i0r 46 l2
 have m3 := hM 46 l2 hb2.2
 obtain ⟨p, l3, e3⟩ : ∃ p l3, mayT 46 l2 = (p, l3) := ⟨_, _, rfl⟩
 rw [e3] at hb3 hl3 m3 hN
 have hb4 := h1e hb3
 have hs4 := p0c l3
 have d4 := hD l3 hb3 (by simp only at hl3; omega)
 simp only at hN hb3 hl3 hb4 hs4 m3
 generalize l3.takeWhile isDg = f at *
 generalize l3.dropWhile isDg = l4 at *
 have hN1 : numl l0 = (match (if p = true then if f = [] then none else some (f, l4) else some ([], l3) : Option (List Nat × List Nat)) with | none => none | some (f, r) => numE g (d ++ f) (-(f.length : Int)) r) := hN
 clear hN
 have I := Inv.start w [] True.intro
 refine a0c [.v (.string (a0d l0))] I Tryz.func42 ?_
 refine zge I 0 159 (fun Al W I => (m1 _ W (I.box 0 159 _)).out) fun Al V Iv _ _ kz => ?_
 rintro _ W ⟨rfl, hO, hB⟩
 refine ⟨_, rfl, kz _ [.v (.string (a0d l1))] _ hO hB fun I => ?_⟩
 refine zge I 0 159 (fun Al W I => (d2 _ W (I.box 0 159 _)).out) fun Al V Iv _ _ kz => ?_
 rintro _ W ⟨rfl, hO, hB⟩
 refine ⟨_, rfl, kz _ [.v (.string (a0d l2))] _ hO hB fun I => ?_⟩
 refine zge I 0 159 (fun Al W I => (m3 _ W (I.box 0 159 _)).out) fun Al V Iv _ _ kz => ?_
 rintro _ W ⟨rfl, hO, hB⟩
 refine ⟨_, rfl, kz _ [.v (.string (a0d l3))] _ hO hB fun I => ?_⟩
 refine zcut I (some 2000023) (fun fr bx gs => ∃ (U1 : Nat → Value) (D : LN) (pw : Int) (lr : LN), fr = (.v (.string (a0d l0)) :: vu :: sw U1 2 4 (.p 0 0 :: .v (.bool g) :: .v (.string (a0d D)) :: .v (vI pw) :: .v (U1 10) :: su 3 (sw U1 14 9 (.v (.bool p) :: sw U1 24 11 (vu :: .v (U1 36) :: vu :: sw U1 38 10 (vu :: sw U1 49 5 (vu :: sw U1 55 13 [])))))) : List SV) ∧ bx = [⟨159, [.v (.string (a0d lr))], false⟩] ∧ gs = [] ∧ (numl l0 = numE g D pw lr) ∧ (Byt D) ∧ (Byt lr) ∧ (lr.length ≤ 1000) ∧ (-1000 ≤ pw ∧ pw ≤ 0)) ?_ ?_
 · intro J hJ Al W I
   rcases bTF p with rfl | rfl
   · refine zge I 0 159 (fun Al W I => (d4 _ W (I.box 0 159 _)).out) fun Al V Iv _ _ kz => ?_
     rintro _ W ⟨rfl, hO, hB⟩
     refine ⟨_, rfl, kz _ [.v (.string (a0d l4))] _ hO hB fun I => ?_⟩
     rcases bTF (f.isEmpty) with f27 | f27
     · refine zbin I 27 (.bool true) (fun _ _ _ _ W => ((h0h hb4.1)).trans (congrArg (fun z => Result.ok (Value.bool z) W) (show (f.isEmpty) = true from f27))) fun Al W I => zret I (v := fun Al => .tuple #[.bool false, Go.Value.string (ByteArray.mk #[]), vI 0, .bool false]) fun Al W I => ⟨false, [], 0, false, rfl, ⟨by rw [hN1, if_pos rfl, if_pos (List.isEmpty_iff.1 f27)]; rfl, fun _ h => (nomatch h)⟩, I.below⟩
     refine zbin I 27 (.bool false) (fun _ _ _ _ W => ((h0h hb4.1)).trans (congrArg (fun z => Result.ok (Value.bool z) W) (show (f.isEmpty) = false from f27))) fun Al W I => zbin I 30 _ (fun _ _ _ _ _ => (h0g d f (by omega))) fun Al W I => zi I 33 .i64 (0 - (((a0d f).size : Nat) : Int)) ((-(f.length : Int))) ((by rw [a0t, Int.zero_sub]; exact iwo)) fun Al W I => a0i I J fun Al W U I => hJ _ _ _ _ _ ⟨U, (d ++ f), (-(f.length : Int)), l4, rfl, rfl, rfl, (by rw [hN1, if_pos rfl, if_neg (fun h => by rw [h] at f27; cases f27)]), (hb2.1.append hb4.1), hb4.2, (by omega), (by omega)⟩ (I.pick [])
   exact a0i I J fun Al W U I => hJ _ _ _ _ _ ⟨U, d, 0, l3, rfl, rfl, rfl, (by rw [hN1, if_neg Bool.false_ne_true]; simp), hb2.1, hb3, (by omega), (by omega)⟩ (I.pick [])
 rintro _ _ _ ⟨U1, D, pw, lr, rfl, rfl, rfl, hN2, hbD, hbl, hll, hpw⟩ Al W I
 rcases bTF (D.isEmpty) with f35 | f35
 · refine zbin I 35 (.bool true) (fun _ _ _ _ W => ((h0h hbD)).trans (congrArg (fun z => Result.ok (Value.bool z) W) (show (D.isEmpty) = true from f35))) fun Al W I => zret I (v := fun Al => .tuple #[.bool false, Go.Value.string (ByteArray.mk #[]), vI 0, .bool false]) fun Al W I => ?_
   first | exact ⟨false, [], 0, false, rfl, ⟨by rw [hN2]; unfold numE; rw [if_pos (List.isEmpty_iff.1 f35)]; rfl, fun _ h => (nomatch h)⟩, I.below⟩ | exact ⟨g, D, q, le.isEmpty, rfl, ⟨m0z hN2 f35 hQ (by omega), hbD⟩, I.below⟩
 refine zbin I 35 (.bool false) (fun _ _ _ _ W => ((h0h hbD)).trans (congrArg (fun z => Result.ok (Value.bool z) W) (show (D.isEmpty) = false from f35))) fun Al W I => ?_
 have hb5 := m0y hbl 101
 have hl5 := i0r 101 lr
 have m5 := hM 101 lr hbl
 have hP := l1q lr
 obtain ⟨pe, l5, e5⟩ : ∃ pe l5, mayT 101 lr = (pe, l5) := ⟨_, _, rfl⟩
 rw [e5] at hb5 hl5 m5 hP
 simp only at hb5 hl5 m5 hP
 refine zge I 0 159 (fun Al W I => (m5 _ W (I.box 0 159 _)).out) fun Al V Iv _ _ kz => ?_
 rintro _ W ⟨rfl, hO, hB⟩
 refine ⟨_, rfl, kz _ [.v (.string (a0d l5))] _ hO hB fun I => ?_⟩
 refine zcut I (some 2000037) (fun fr bx gs => ∃ (U2 : Nat → Value) (q : Int) (le : LN), fr = (.v (.string (a0d l0)) :: vu :: sw U2 2 4 (.p 0 0 :: .v (.bool g) :: .v (.string (a0d D)) :: .v (vI q) :: .v (U1 10) :: sw U2 11 12 (.v (.bool p) :: sw U2 24 3 (.v (U1 27) :: sw U2 28 7 (.v (.bool false) :: .v (U2 36) :: .v (.bool pe) :: sw U2 38 30 [])))) : List SV) ∧ bx = [⟨159, [.v (.string (a0d le))], false⟩] ∧ gs = [] ∧ (powT lr = some (q - pw, le)) ∧ (Byt le)) ?_ ?_
 · intro J hJ Al W I
   rcases bTF pe with rfl | rfl
   · rw [if_pos rfl] at hP
     have hb6 := m0y hb5 45
     have hl6 := i0r 45 l5
     have m6 := hM 45 l5 hb5
     obtain ⟨mi, l6, e6⟩ : ∃ mi l6, mayT 45 l5 = (mi, l6) := ⟨_, _, rfl⟩
     rw [e6] at hb6 hl6 m6 hP
     have d6 := hD l6 hb6 (by simp only at hl6; omega)
     simp only at hb6 hl6 m6 hP
     have hb7 := h1e hb6
     have hs7 := p0c l6
     generalize l6.takeWhile isDg = x at *
     generalize l6.dropWhile isDg = l7 at *
     have hx10 : x.length ≤ 5 → a0n x < 100000 := fun h => Nat.lt_of_lt_of_le (g0y x fun j hj => by rw [a0x hj]; exact (f0f.1 (hs7.1 _ (List.getElem_mem hj)).1).2) (Nat.pow_le_pow_right (n := 10) (by omega) h)
     refine zge I 0 159 (fun Al W I => (m6 _ W (I.box 0 159 _)).out) fun Al V Iv _ _ kz => ?_
     rintro _ W ⟨rfl, hO, hB⟩
     refine ⟨_, rfl, kz _ [.v (.string (a0d l6))] _ hO hB fun I => ?_⟩
     refine zge I 0 159 (fun Al W I => (d6 _ W (I.box 0 159 _)).out) fun Al V Iv _ _ kz => ?_
     rintro _ W ⟨rfl, hO, hB⟩
     refine ⟨_, rfl, kz _ [.v (.string (a0d l7))] _ hO hB fun I => ?_⟩
     rcases bTF (x.isEmpty) with f43 | f43
     · refine zbin I 43 (.bool true) (fun _ _ _ _ W => ((h0h hb7.1)).trans (congrArg (fun z => Result.ok (Value.bool z) W) (show (x.isEmpty) = true from f43))) fun Al W I => zret I (v := fun Al => .tuple #[.bool false, Go.Value.string (ByteArray.mk #[]), vI 0, .bool false]) fun Al W I => ?_
       first | exact ⟨false, [], 0, false, rfl, ⟨by rw [hN2]; unfold numE; rw [if_pos (List.isEmpty_iff.1 f35)]; rfl, fun _ h => (nomatch h)⟩, I.below⟩ | exact ⟨false, [], 0, false, rfl, ⟨by rw [hN2]; unfold numE; rw [if_neg (fun h => by rw [h] at f35; cases f35), hP, if_pos (by exact .inl (List.isEmpty_iff.1 f43))]; rfl, fun _ h => (nomatch h)⟩, I.below⟩ | exact ⟨g, D, q, le.isEmpty, rfl, ⟨m0z hN2 f35 hQ (by omega), hbD⟩, I.below⟩
     refine zbin I 43 (.bool false) (fun _ _ _ _ W => ((h0h hb7.1)).trans (congrArg (fun z => Result.ok (Value.bool z) W) (show (x.isEmpty) = false from f43))) fun Al W I => ?_
     rcases bTF (decide ((((a0d x).size : Nat) : Int) > 5)) with f47 | f47
     · refine zb I 47 (decide ((((a0d x).size : Nat) : Int) > 5)) (true) (f47) fun Al W I => zret I (v := fun Al => .tuple #[.bool false, Go.Value.string (ByteArray.mk #[]), vI 0, .bool false]) fun Al W I => ?_
       first | exact ⟨false, [], 0, false, rfl, ⟨by rw [hN2]; unfold numE; rw [if_pos (List.isEmpty_iff.1 f35)]; rfl, fun _ h => (nomatch h)⟩, I.below⟩ | exact ⟨false, [], 0, false, rfl, ⟨by rw [hN2]; unfold numE; rw [if_neg (fun h => by rw [h] at f35; cases f35), hP, if_pos (by first | exact .inl (List.isEmpty_iff.1 f43) | exact .inr (by have := oTr f47; rw [a0t] at this; omega))]; rfl, fun _ h => (nomatch h)⟩, I.below⟩ | exact ⟨g, D, q, le.isEmpty, rfl, ⟨m0z hN2 f35 hQ (by omega), hbD⟩, I.below⟩
     refine zb I 47 (decide ((((a0d x).size : Nat) : Int) > 5)) (false) (f47) fun Al W I => zq I (fun Al W I => have hzW := I.bel.size; (hA x (fun y hy => (hs7.1 y hy).1) (fun h => by rw [h] at f43; cases f43) (by have := oFa f47; rw [a0t] at this; omega) W).out) fun Al W I => ?_
     have hx5 : x.length ≤ 5 := by have := oFa f47; rw [a0t] at this; omega
     have hx6 := hx10 hx5
     rw [if_neg (fun h => h.elim (fun h => by rw [h] at f43; cases f43) (fun h => by omega))] at hP
     refine zcut I (some 2000054) (fun fr bx gs => ∃ (U3 : Nat → Value) (nn : Int), fr = (.v (.string (a0d l0)) :: vu :: sw U1 2 4 (.p 0 0 :: .v (.bool g) :: .v (.string (a0d D)) :: .v (vI pw) :: .v (U1 10) :: .v (.bool mi) :: .v (.string (a0d x)) :: .v (vI nn) :: sw U3 14 9 (.v (.bool p) :: sw U3 24 3 (.v (U1 27) :: sw U3 28 7 (.v (.bool false) :: .v (U3 36) :: .v (.bool true) :: sw U3 38 10 (.v (.bool false) :: sw U3 49 5 (.v (.bool mi) :: sw U3 55 13 [])))))) : List SV) ∧ bx = [⟨159, [.v (.string (a0d l7))], false⟩] ∧ gs = [] ∧ ((if mi then -((a0n x : Nat) : Int) else ((a0n x : Nat) : Int)) = nn)) ?_ ?_
     · intro J hJ Al W I
       rcases bTF mi with rfl | rfl
       · refine zi I 56 .i64 (0 - ((a0n x : Nat) : Int)) ((-((a0n x : Nat) : Int))) ((by rw [Int.zero_sub]; exact iwo)) fun Al W I => a0i I J fun Al W U I => hJ _ _ _ _ _ ⟨U, -((a0n x : Nat) : Int), rfl, rfl, rfl, rfl⟩ (I.pick [])
       exact a0i I J fun Al W U I => hJ _ _ _ _ _ ⟨U, ((a0n x : Nat) : Int), rfl, rfl, rfl, rfl⟩ (I.pick [])
     rintro _ _ _ ⟨U3, nn, rfl, rfl, rfl, hnn⟩ Al W I
     rw [hnn] at hP
     have hnb : -100000 ≤ nn ∧ nn ≤ 100000 := by rw [← hnn]; split <;> omega
     refine zi I 59 .i64 (pw + nn) ((nn + pw)) ((by rw [Int.add_comm]; exact iwo)) fun Al W I => a0i I J fun Al W U I => hJ _ _ _ _ _ ⟨U, nn + pw, l7, rfl, rfl, rfl, (by rw [hP]; congr 2; omega), hb7.2⟩ (I.pick [])
   exact a0i I J fun Al W U I => hJ _ _ _ _ _ ⟨U, pw, l5, rfl, rfl, rfl, (by rw [hP, if_neg Bool.false_ne_true]; congr 2; omega), hb5⟩ (I.pick [])
 rintro _ _ _ ⟨U2, q, le, rfl, rfl, rfl, hQ, hbe⟩ Al W I
 refine zd [] I fun Al W I => zk [0, 1, 2, 3, 4, 5, 6, 8, 9, 10] I fun I => zo 7 I fun I => zbin I 67 _ (fun _ _ _ _ _ => (h0h hbe)) fun Al W I => zk [11] I fun I => zret I (v := fun Al => .tuple #[.bool g, .string (a0d D), vI q, .bool le.isEmpty]) fun Al W I => ?_
 first | exact ⟨false, [], 0, false, rfl, ⟨by rw [hN2]; unfold numE; rw [if_pos (List.isEmpty_iff.1 f35)]; rfl, fun _ h => (nomatch h)⟩, I.below⟩ | exact ⟨g, D, q, le.isEmpty, rfl, ⟨m0z hN2 f35 hQ (by omega), hbD⟩, I.below⟩
end Go.Proofs.YtgbbhlginbmghaaGreatDoor
namespace Go.Slip
open Go.RowKit
def ratL (l : List Nat) : Bool × Nat × Nat × Int := if errT l.length (numl l) = 0 then (match numl l with | some q => f0r q | none => (false, 0, 0, 0)) else (false, 0, 0, 0)
theorem l1r {l : List Nat} (h : 400 < l.length) : errT l.length (numl l) = 2 ∧ ratL l = (false, 0, 0, 0) := by
 have h1 : errT l.length (numl l) = 2 := by unfold errT; rw [if_pos h]
 exact ⟨h1, by unfold ratL; rw [h1]; rfl⟩
theorem l1s {l : List Nat} (h : ¬ 400 < l.length) (hn : numl l = none) : errT l.length (numl l) = 1 ∧ ratL l = (false, 0, 0, 0) := by
 have h1 : errT l.length (numl l) = 1 := by unfold errT; rw [if_neg h, hn]
 exact ⟨h1, by unfold ratL; rw [h1]; rfl⟩
theorem h1g {l : List Nat} (h : ¬ 400 < l.length) {q : Numl} (hn : numl l = some q) (hp : q.pow < -6000 ∨ 6000 < q.pow) : errT l.length (numl l) = 3 ∧ ratL l = (false, 0, 0, 0) := by
 have h1 : errT l.length (numl l) = 3 := by unfold errT; rw [if_neg h, hn]; exact if_pos hp
 exact ⟨h1, by unfold ratL; rw [h1]; rfl⟩
theorem h1h {l : List Nat} (h : ¬ 400 < l.length) {q : Numl} (hn : numl l = some q) (hp : ¬ (q.pow < -6000 ∨ 6000 < q.pow)) : errT l.length (numl l) = 0 ∧ ratL l = f0r q := by
 have h1 : errT l.length (numl l) = 0 := by unfold errT; rw [if_neg h, hn]; exact if_neg hp
 exact ⟨h1, by unfold ratL; rw [h1, hn]; rfl⟩
theorem c1i {l f r : List Nat} (h : r0x l = some (f, r)) : (∀ x ∈ f, isDg x = true) ∧ f.length ≤ l.length := by
 rw [v0o] at h
 have hl := i0r 46 l
 have hs := p0c (mayT 46 l).2
 split at h
 · split at h
   · cases h
   · injection h with h; injection h with h1 h2; subst h1
     exact ⟨fun x hx => (hs.1 x hx).1, by omega⟩
 · injection h with h; injection h with h1 h2; subst h1
   exact ⟨fun _ hx => (nomatch hx), Nat.zero_le _⟩
theorem v0p {l : List Nat} {q : Numl} (h : numl l = some q) : (∀ x ∈ q.ds, isDg x = true) ∧ q.ds.length ≤ 2 * l.length := by
 rw [h1f] at h
 have hl := i0r 45 l
 have hs := p0c (mayT 45 l).2
 generalize (mayT 45 l).2 = m at *
 cases hf : r0x (m.dropWhile isDg) with
 | none => rw [hf] at h; cases h
 | some fr =>
  obtain ⟨f, r⟩ := fr
  rw [hf] at h
  simp only at h
  have hF := c1i hf
  unfold numE at h
  split at h
  · cases h
  · split at h
    · cases h
    · split at h
      · injection h with h
        subst h
        exact ⟨fun x hx => (List.mem_append.1 hx).elim (fun k => (hs.1 x k).1) (hF.1 x), by rw [List.length_append]; omega⟩
      · cases h
theorem c1j {q : Numl} (h : a0n q.ds = 0) : f0r q = (false, 0, 1, 0) := by unfold f0r; rw [if_pos h]
theorem l1t {q : Numl} (h : a0n q.ds ≠ 0) (hp : 0 ≤ q.pow) : f0r q = (q.neg, a0n q.ds / 2 ^ tz (a0n q.ds) * 5 ^ q.pow.toNat, 1, tz (a0n q.ds) + q.pow) := by unfold f0r; rw [if_neg h, if_pos hp]
theorem l1u {q : Numl} (h : a0n q.ds ≠ 0) (hp : ¬ 0 ≤ q.pow) {n f : Nat} (hc : b0n (a0n q.ds / 2 ^ tz (a0n q.ds)) (-q.pow).toNat = (n, f)) : f0r q = (q.neg, n, 5 ^ f, tz (a0n q.ds) + q.pow) := by unfold f0r; rw [if_neg h, if_neg hp, hc]
theorem q1o {B : Nat} (hB : 10 ≤ B) {l : List Nat} (h : ∀ x ∈ l, isDg x = true) : (dig B (a0n l)).length ≤ l.length := by
 rw [a0g (by omega)]
 exact Nat.lt_of_lt_of_le (g0y l fun j hj => by rw [a0x hj]; exact (f0f.1 (h _ (List.getElem_mem hj))).2) (Nat.pow_le_pow_left hB _)
theorem h1i {l : List Nat} (h : ∀ x ∈ l, isDg x = true) : n1c (a0d l) := fun j hj => by
 have hb : Byt l := fun x hx => by have := f0f.1 (h x hx); omega
 rw [a0t] at hj
 rw [a0y hb, a0x hj]
 exact f0f.1 (h _ (List.getElem_mem hj))
theorem m0m {n P : Nat} (h : P = 0 ∨ n % 5 ≠ 0) : b0n n P = (n, P) := by
 cases P with
 | zero => rfl
 | succ P => rw [b0n, if_neg (h.resolve_left (by omega))]
theorem v0q {n P : Nat} (h0 : 0 < P) (h : n % 5 = 0) : b0n n P = b0n (n / 5) (P - 1) := by
 cases P with
 | zero => omega
 | succ P => rw [b0n, if_pos h]; rfl
end Go.Slip
namespace Go.Proofs.YtgbbhlginbmghaaGreatDoor
open Go.RowKit Go.Slip
theorem q1p (p : OA) (c m : Nat) (w : World) (hp : Rd w .u32 p (dig B32 m)) (hc : (dig B32 m).length ≤ c) (hl : (dig B32 m).length ≤ 1000000) (hT : TabW w) :
 Calls Tryz.prog 46 #[.slice p (dig B32 m).length c] w fun en w' => ∃ q d, en = .returned (.tuple #[.slice q (dig B32 (m / 2 ^ tz m)).length d, .int .i64 ((tz m : Nat) : Int)]) ∧ Own w' w.heap.size .u32 139 q d (dig B32 (m / 2 ^ tz m)) ∧ Below w.heap.size w w' := by
 have htz := g1a m hl
 have HZ := fun W h hT => lHd ((k0i p _ c m W h rfl (by omega) hT).mono fun _ _ ⟨h1, h2⟩ => ⟨h1, h2 ▸ Below.refl _ _⟩ : Calls Tryz.prog 109 #[.slice p (dig B32 m).length c] W fun en W' => en = .returned (.int .i64 ((tz m : Nat) : Int)) ∧ Below W.heap.size W W')
 have HS := fun W h => lHd (sshr p _ c m (tz m) _ _ W h rfl hc (by omega) (by omega) rfl rfl)
 generalize tz m = z at *
 have I := Inv.start w [rdF .u32 p (dig B32 m), tabF] ⟨hp, hT, True.intro⟩
 refine a0c [.v (.slice p (dig B32 m).length c)] I Tryz.func46 ?_
 refine zq I (fun Al W I => (HZ W I.fa.1 I.fa.2.1).out) fun Al W I => zqo I (fun Al W I => (HS W I.fa.1).out) fun Al W p9 c9 I => zret I fun Al W I => ⟨p9, c9, rfl, I.fa.1, I.below⟩
def n0a (w : World) (er : Int) (R : Bool × Nat × Nat × Int) (en : Ending) (w' : World) : Prop :=
 ∃ p c q d, en = .returned (.tuple #[.agg #[.bool R.1, .slice p (dig B32 R.2.1).length c, .slice q (dig B32 R.2.2.1).length d, .int .i64 R.2.2.2], .int .i64 er]) ∧ Own w' w.heap.size .u32 139 p c (dig B32 R.2.1) ∧ Own w' w.heap.size .u32 139 q d (dig B32 R.2.2.1) ∧ Below w.heap.size w w'
theorem b0t {w w' : World} {er k : Int} {R : Bool × Nat × Nat × Int} {en : Ending} (h : er = k ∧ R = (false, 0, 0, 0)) (he : en = .returned (.tuple #[.agg #[.bool false, .slice none 0 0, .slice none 0 0, .int .i64 0], .int .i64 k])) (hb : Below w.heap.size w w') : n0a w er R en w' := by
 obtain ⟨rfl, rfl⟩ := h
 have e : dig B32 0 = [] := a0e _
 refine ⟨none, 0, none, 0, ?_, ?_, ?_, hb⟩
 · rw [he]; simp only [e]; rfl
 · show Own _ _ _ _ _ _ (dig B32 0); rw [e]; exact Own.nil _ _ _ _
 · show Own _ _ _ _ _ _ (dig B32 0); rw [e]; exact Own.nil _ _ _ _
theorem v0r {w w' : World} {p : OA} {c : Nat} {en : Ending} (he : en = .returned (.tuple #[.agg #[.bool false, .slice none 0 0, .slice p (dig B32 1).length c, .int .i64 0], .int .i64 0])) (h : Own w' w.heap.size .u32 139 p c (dig B32 1)) (hb : Below w.heap.size w w') : n0a w 0 (false, 0, 1, 0) en w' := by
 have e : dig B32 0 = [] := a0e _
 refine ⟨none, 0, p, c, ?_, ?_, h, hb⟩
 · rw [he]; simp only [e]; rfl
 · show Own _ _ _ _ _ _ (dig B32 0); rw [e]; exact Own.nil _ _ _ _
theorem v0s (t : ByteArray) (w : World) (hT : TabW w) : Calls Tryz.prog 20 #[.string t] w (n0a w (errT (a0a t).length (numl (a0a t))) (ratL (a0a t))) := by
 have hz : t.size = (a0a t).length := (b0e t).symm
 have HN := fun W h => lHd (x0v t W h)
 have h1 := @l1r (a0a t)
 have h2 := @l1s (a0a t)
 have h3 := @h1g (a0a t)
 have h4 := @h1h (a0a t)
 have h5 := @v0p (a0a t)
 generalize errT (a0a t).length (numl (a0a t)) = er at *
 generalize ratL (a0a t) = R at *
 generalize numl (a0a t) = N at *
 generalize (a0a t).length = L at *
 have HTr := fun l hb W => lHd (l1e l hb W)
 have HPa := fun s h1 h2 W => lHd (g1l s W h1 h2)
 have HO := fun (k : Nat) hk W => lHd (sof (k : Int) k rfl hk W)
 have HPw := fun p c K W base ho hb hK => lHd (z0h base p c 5 K W ho hb (by omega) hK)
 have HMu := fun p q c d a b W hp hq hl => lHd (o0p p q _ _ c d a b W hp hq rfl rfl hl)
 have HOd := fun p c m W hp hc hl hT => lHd (q1p p c m W hp hc hl hT)
 have HDv := fun p q c d a W hp hq hl => lHd (h0d p q _ _ c d a 5 W hp hq rfl rfl hl (Nat.le_trans ((a0g a0b 5 1).2 (by decide)) (by omega)) (by omega))
 have I := Inv.start w [tabF] ⟨hT, True.intro⟩
 refine a0c [.v (.string t)] I Tryz.func20 ?_
 rcases bTF (decide ((t.size : Int) > 400)) with f16 | f16
 · refine zb I 16 (decide ((t.size : Int) > 400)) (true) (f16) fun Al W I => zret I fun Al W I => b0t (h1 (by have := oTr f16; omega)) rfl I.below
 refine zb I 16 (decide ((t.size : Int) > 400)) (false) (f16) fun Al W I => zg I (fun Al W I => have hzW := I.bel.size; (HN W (by have := oFa f16; omega)).out) fun Al V Iv _ hB _ kz => ?_
 rintro _ W ⟨g, ds, pw, ok, rfl, hN, hb⟩
 refine ⟨_, rfl, kz _ _ hb fun I => ?_⟩
 rcases bTF (!ok) with f26 | f26
 · refine zb I 26 (!ok) (true) (f26) fun Al W I => zret I (v := fun Al => .tuple #[.agg #[.bool false, .slice none 0 0, .slice none 0 0, vI 0], vI 1]) fun Al W I => b0t (h2 (by have := oFa f16; omega) (by rw [hN.1, if_neg (by simpa using f26)])) rfl I.below
 refine zb I 26 (!ok) (false) (f26) fun Al W I => ?_
 rcases bTF (decide (pw < (-6000))) with f29 | f29
 · have hN2 : N = some ⟨g, ds, pw⟩ := by rw [hN.1, if_pos (by simpa using f26)]
   refine zb I 29 (decide (pw < (-6000))) (true) (f29) fun Al W I => zret I (v := fun Al => .tuple #[.agg #[.bool false, .slice none 0 0, .slice none 0 0, vI 0], vI 3]) fun Al W I => ?_
   first | exact b0t (h2 (by have := oFa f16; omega) (by rw [hN.1, if_neg (by simpa using f26)])) rfl I.below | exact b0t (h3 (by have := oFa f16; omega) hN2 (by exact .inl (oTr f29))) rfl I.below
 have hN2 : N = some ⟨g, ds, pw⟩ := by rw [hN.1, if_pos (by simpa using f26)]
 refine zb I 29 (decide (pw < (-6000))) (false) (f29) fun Al W I => ?_
 rcases bTF (decide (pw > 6000)) with f32 | f32
 · refine zb I 32 (decide (pw > 6000)) (true) (f32) fun Al W I => zret I (v := fun Al => .tuple #[.agg #[.bool false, .slice none 0 0, .slice none 0 0, vI 0], vI 3]) fun Al W I => ?_
   first | exact b0t (h2 (by have := oFa f16; omega) (by rw [hN.1, if_neg (by simpa using f26)])) rfl I.below | exact b0t (h3 (by have := oFa f16; omega) hN2 (by exact .inr (oTr f32))) rfl I.below
 refine zb I 32 (decide (pw > 6000)) (false) (f32) fun Al W I => ?_
 have hdg := (h5 hN2).1
 have hdl := (h5 hN2).2
 have hrk := h4 (by have := oFa f16; omega) hN2 (fun (h : pw < -6000 ∨ 6000 < pw) => by have := oFa f29; have := oFa f32; omega)
 have hpw : -6000 ≤ pw ∧ pw ≤ 6000 := by have := oFa f29; have := oFa f32; omega
 have tr := HTr ds hN.2
 have hzd : ∀ x ∈ ds.dropWhile (· == 48), isDg x = true := fun x hx => hdg x (g1q x hx)
 have hzl : (ds.dropWhile (· == 48)).length ≤ ds.length := (List.dropWhile_sublist _).length_le
 have hnm := c1c ds
 generalize ds.dropWhile (· == 48) = dz at *
 have pz := HPa (a0d dz) (by rw [a0t]; simp only at hdl; omega) (h1i hzd)
 have hSl : (dig B32 (a0n ds)).length ≤ 800 := by rw [← hnm]; exact Nat.le_trans (q1o (B := B32) (by decide) hzd) (by simp only at hdl; omega)
 rw [a0y (fun x hx => by have := f0f.1 (hzd x hx); omega), hnm] at pz
 have r0 := c1j (q := ⟨g, ds, pw⟩)
 have r1 := l1t (q := ⟨g, ds, pw⟩)
 have r2 := fun h hp n f => l1u (q := ⟨g, ds, pw⟩) h hp (n := n) (f := f)
 simp only at r0 r1 r2
 generalize a0n ds = S at *
 have hod := fun p c W hp hc hl hT => HOd p c S W hp hc hl hT
 have hol : (dig B32 (S / 2 ^ tz S)).length ≤ 800 := Nat.le_trans (a0l a0b (Nat.div_le_self _ _)) hSl
 have hzb := g1a S hSl
 have hS0 := a0h a0b S
 generalize S / 2 ^ tz S = o at *
 generalize tz S = z at *
 have h5l : ∀ k, k ≤ 6000 → (dig B32 (5 ^ k)).length ≤ 6001 := fun k hk => l0d (K := 6001) a0b (by decide) (by omega) (by omega)
 refine zq I (fun Al W I => (tr W).out) fun Al W I => zg I (fun Al W I => (pz W).out) fun Al V Iv _ hB _ kz => ?_
 rintro _ W ⟨p37, c37, rfl, o37, hb⟩
 refine ⟨_, rfl, kz _ _ hb fun I => ?_⟩
 have I := I.own o37
 rcases bTF ((((dig B32 S).length : Nat) : Int) == 0) with f40 | f40
 · refine zb I 40 ((((dig B32 S).length : Nat) : Int) == 0) (true) (f40) fun Al W I => zqo I (fun Al W I => have hzW := I.bel.size; (HO 1 (by omega) W).out) fun Al W p41 c41 I => zret I (v := fun Al => .tuple #[.agg #[.bool false, .slice none 0 0, .slice p41 (dig B32 1).length c41, vI 0], vI 0]) fun Al W I => ?_
   first | exact b0t (h2 (by have := oFa f16; omega) (by rw [hN.1, if_neg (by simpa using f26)])) rfl I.below | (rw [hrk.1, hrk.2, r0 (hS0.1 (by have := beq_iff_eq.1 f40; omega))]; exact v0r rfl I.fa.1 I.below)
 refine zb I 40 ((((dig B32 S).length : Nat) : Int) == 0) (false) (f40) fun Al W I => zg I (fun Al W I => have hzW := I.bel.size; (hod p37 c37 W I.fa.1.rd I.fa.1.le_cap (by omega) I.fa.2.1).out) fun Al V Iv _ hB _ kz => ?_
 rintro _ W ⟨p45, c45, rfl, o45, hb⟩
 refine ⟨_, rfl, kz _ _ hb fun I => ?_⟩
 have I := I.own o45
 refine zg I (fun Al W I => have hzW := I.bel.size; (HO 5 (by omega) W).out) fun Al V Iv _ hB _ kz => ?_
 rintro _ W ⟨p48, c48, rfl, o48, hb⟩
 refine ⟨_, rfl, kz _ _ hb fun I => ?_⟩
 have I := I.own o48
 refine zi I 51 .i64 (0 - pw) ((-pw)) ((by rw [Int.zero_sub]; exact iwo)) fun Al W I => zm I 52 .i64 (if ((-pw) : Int) > pw then (-pw) else pw) ((pw.natAbs : Int)) ((by omega)) fun Al W I => zg I (fun Al W I => have hzW := I.bel.size; (HPw p48 c48 pw.natAbs W _ I.fa.1 I.below.size (by omega)).out) fun Al V Iv _ hB _ kz => ?_
 rintro _ W ⟨p53, c53, rfl, o53, hb⟩
 refine ⟨_, rfl, kz _ _ hb fun I => ?_⟩
 have I := I.own o53
 refine zqo I (fun Al W I => have hzW := I.bel.size; (HO 1 (by omega) W).out) fun Al W p56 c56 I => zi I 59 .i64 ((z : Int) + pw) (((z : Int) + pw)) ((by exact iwo)) fun Al W I => ?_
 rcases bTF (decide (pw ≥ 0)) with f62 | f62
 · refine zb I 62 (decide (pw ≥ 0)) (true) (f62) fun Al W I => zqo I (fun Al W I => have hzW := I.bel.size; (HMu p45 p53 c45 c53 o (5 ^ pw.natAbs) W I.fa.2.2.2.1.rd I.fa.2.1.rd (by have := h5l pw.natAbs (by omega); omega)).out) fun Al W p65 c65 I => zret I (v := fun Al => .tuple #[.agg #[.bool g, .slice p65 (dig B32 (o * 5 ^ pw.natAbs)).length c65, .slice p56 (dig B32 1).length c56, vI ((z : Int) + pw)], vI 0]) fun Al W I => ?_
   first | exact b0t (h2 (by have := oFa f16; omega) (by rw [hN.1, if_neg (by simpa using f26)])) rfl I.below | (rw [hrk.1, hrk.2, r1 (fun h => by have := hS0.2 h; have := bnF f40; omega) (oTr f62)]; have e := oTr f62; rw [show pw.toNat = pw.natAbs by omega]; exact ⟨p65, c65, p56, c56, rfl, I.fa.1, I.fa.2.1, I.below⟩)
 refine zb I 62 (decide (pw ≥ 0)) (false) (f62) fun Al W I => h0u I (fun gk fr bx gs => ∃ (U900 : Nat → Value) (n : Nat) (P : Nat) (x : Int) (pn : OA) (cn : Nat), fr = (.v (.string t) :: .v undef :: .p 0 0 :: .v (vI 0) :: .v (.bool g) :: .v (.string (a0d ds)) :: .v (vI x) :: .v (.bool ok) :: .v (vS (dig B32 o) p45 c45) :: .v (vI (z : Int)) :: .v (vS (dig B32 (5 ^ pw.natAbs)) p53 c53) :: .p 1 0 :: sw U900 12 4 (.v (.bool false) :: sw U900 17 9 (.v (.bool false) :: sw U900 27 6 (.v (.bool false) :: sw U900 34 6 (.v (.bool false) :: sw U900 41 21 (.v (.bool false) :: sw U900 63 27 []))))) : List SV) ∧ bx = [⟨53, [.v (.bool false), .v (.slice none 0 0), .v (.slice none 0 0), .v (vI 0)], false⟩, ⟨53, [.v (.bool g), .v (vS (dig B32 n) pn cn), .v (vS (dig B32 1) p56 c56), .v (vI ((z : Int) + pw))], false⟩] ∧ gs = [ownF w.heap.size .u32 139 pn cn (dig B32 n), ownF w.heap.size .u32 139 p56 c56 (dig B32 1), tabF] ∧ (b0n n P = b0n o pw.natAbs) ∧ (P ≤ 6000) ∧ (x = -(P : Int)) ∧ ((dig B32 n).length ≤ 800) ∧ (gk = P)) pw.natAbs (fun Al W U I => ⟨_, ⟨U, o, pw.natAbs, pw, p45, c45, rfl, rfl, rfl, rfl, (by omega), (by have := oFa f62; omega), hol, rfl⟩, I.pick [3, 0, 5]⟩) ?_
 rintro J0 gk0 _ _ _ ⟨U900, n, P, x, pn, cn, rfl, rfl, rfl, hcf, hPl, hx, hnl, hgk⟩ hJ0 Al W I
 rcases bTF (decide (x < 0)) with f69 | f69
 · refine zb I 69 (decide (x < 0)) (true) (f69) fun Al W I => zd [] I fun Al W I => zk [0, 1] I fun I => zo 2 I fun I => zqo I (fun Al W I => have hzW := I.bel.size; (HO 5 (by omega) W).out) fun Al W p73 c73 I => zo 3 I fun I => zg I (fun Al W I => have hzW := I.bel.size; (HDv pn p73 cn c73 n W I.fa.2.1.rd I.fa.1.rd (by omega)).out) fun Al V Iv _ hB _ kz => ?_
   rintro _ W ⟨p74, c74, q74, d74, rfl, a74, b74, hb, -⟩
   refine ⟨_, rfl, kz _ _ hb fun I => ?_⟩
   have I := I.own a74
   have I := I.own b74
   refine zk [4, 5, 6, 7, 8] I fun I => ?_
   rcases bTF (decide ((((dig B32 (n % 5)).length : Nat) : Int) > 0)) with f79 | f79
   · refine zb I 79 (decide ((((dig B32 (n % 5)).length : Nat) : Int) > 0)) (true) (f79) fun Al W I => ?_
     have hfin := m0m (n := n) (P := P) (by exact .inr (by have := oTr f79; have := a0h a0b (n % 5); omega))
     rw [hcf] at hfin
     refine zqo I (fun Al W I => have hzW := I.bel.size; (HO 5 (by omega) W).out) fun Al W p84 c84 I => zi I 86 .i64 (0 - x) ((P : Int)) ((by rw [hx, show (0 : Int) - -(P : Int) = (P : Int) by omega]; exact iwo)) fun Al W I => zqo I (fun Al W I => have hzW := I.bel.size; (HPw p84 c84 P W _ I.fa.1 I.below.size (by omega)).out) fun Al W p87 c87 I => zret I (v := fun Al => .tuple #[.agg #[.bool g, .slice pn (dig B32 n).length cn, .slice p87 (dig B32 (5 ^ P)).length c87, vI ((z : Int) + pw)], vI 0]) fun Al W I => ?_
     first | exact b0t (h2 (by have := oFa f16; omega) (by rw [hN.1, if_neg (by simpa using f26)])) rfl I.below | (rw [hrk.1, hrk.2, r2 (fun h => by have := hS0.2 h; have := bnF f40; omega) (oFa f62) n P (by rw [← hfin]; have := oFa f62; congr 1; omega)]; exact ⟨pn, cn, p87, c87, rfl, I.fa.2.2.2.2.2.1, I.fa.1, I.below⟩)
   refine zb I 79 (decide ((((dig B32 (n % 5)).length : Nat) : Int) > 0)) (false) (f79) fun Al W I => zi I 82 .i64 (x + 1) ((x + 1)) ((by exact iwo)) fun Al W I => a0i I J0 fun Al W U I => hJ0 (P - 1) _ _ _ _ _ ((by have := oTr f69; omega)) ⟨U, n / 5, P - 1, x + 1, p74, c74, rfl, rfl, rfl, (by rw [← hcf]; exact (v0q (by have := oTr f69; omega) (by have := oFa f79; have := a0h a0b (n % 5); omega)).symm), (by omega), (by have := oTr f69; omega), (Nat.le_trans (a0l a0b (Nat.div_le_self _ _)) hnl), rfl⟩ (I.pick [1, 4, 5])
 refine zb I 69 (decide (x < 0)) (false) (f69) fun Al W I => ?_
 have hfin := m0m (n := n) (P := P) (by exact .inl (by have := oFa f69; omega))
 rw [hcf] at hfin
 refine zqo I (fun Al W I => have hzW := I.bel.size; (HO 5 (by omega) W).out) fun Al W p84 c84 I => zi I 86 .i64 (0 - x) ((P : Int)) ((by rw [hx, show (0 : Int) - -(P : Int) = (P : Int) by omega]; exact iwo)) fun Al W I => zqo I (fun Al W I => have hzW := I.bel.size; (HPw p84 c84 P W _ I.fa.1 I.below.size (by omega)).out) fun Al W p87 c87 I => zret I (v := fun Al => .tuple #[.agg #[.bool g, .slice pn (dig B32 n).length cn, .slice p87 (dig B32 (5 ^ P)).length c87, vI ((z : Int) + pw)], vI 0]) fun Al W I => ?_
 first | exact b0t (h2 (by have := oFa f16; omega) (by rw [hN.1, if_neg (by simpa using f26)])) rfl I.below | (rw [hrk.1, hrk.2, r2 (fun h => by have := hS0.2 h; have := bnF f40; omega) (oFa f62) n P (by rw [← hfin]; have := oFa f62; congr 1; omega)]; exact ⟨pn, cn, p87, c87, rfl, I.fa.2.2.1, I.fa.1, I.below⟩)
end Go.Proofs.YtgbbhlginbmghaaGreatDoor
namespace Go.Slip
open Go.RowKit
def i0j (c : Nat) (g : Bool) : List Nat := if c = 2 then [] else (if g then [45] else []) ++ (if c = 1 then [48] else if c = 3 then [105, 110, 102] else if c = 4 then [110, 111, 110, 101] else [114, 101, 115, 101, 114, 118, 101, 100])
def p0n (c : Nat) : List Nat := if c = 1 then [48] else if c = 3 then [105, 110, 102] else if c = 4 then [110, 111, 110, 101] else if c = 5 then [114, 101, 115, 101, 114, 118, 101, 100] else []
theorem l0h (c : Nat) (g : Bool) : Byt (i0j c g) := by
 unfold i0j
 intro x hx
 split at hx
 · exact (nomatch hx)
 · rcases List.mem_append.1 hx with h | h
   · split at h
     · simp at h; omega
     · exact (nomatch h)
   · repeat' split at h
     all_goals (simp at h; omega)
theorem e0b {c : Nat} {g : Bool} : i0j c g = [] ↔ c = 2 := by
 unfold i0j
 by_cases h : c = 2
 · rw [if_pos h]; exact iff_of_true rfl h
 · rw [if_neg h]
   refine iff_of_false (fun k => ?_) h
   have k2 := (List.append_eq_nil_iff.1 k).2
   repeat' split at k2
   all_goals cases k2
theorem t0e (n : Nat) : Byt (a0z n) := fun x hx => by have := g0n n x hx; omega
theorem h1j (p : Int) : Byt (f0x p) := by
 unfold f0x
 split
 · intro x hx
   rcases List.mem_cons.1 hx with rfl | hx
   · omega
   · exact t0e _ x hx
 · exact t0e _
end Go.Slip
namespace Go.Proofs.YtgbbhlginbmghaaGreatDoor
open Go.RowKit Go.Slip
theorem q1q (u : Int) (w : World) (hu : -100000 ≤ u ∧ u ≤ 100000) :
 Calls Tryz.prog 136 #[.int .i64 u] w fun en w' => ∃ p c q d, en = .returned (.tuple #[.slice p (dig B32 (10 ^ u.toNat)).length c, .slice q (dig B32 (10 ^ (-u).toNat)).length d]) ∧ Own w' w.heap.size .u32 139 p c (dig B32 (10 ^ u.toNat)) ∧ Own w' w.heap.size .u32 139 q d (dig B32 (10 ^ (-u).toNat)) ∧ Below w.heap.size w w' := by
 have HO := fun (k : Nat) hk W => lHd (sof (k : Int) k rfl hk W)
 have HPw := fun p c K W base ho hb hK => lHd (z0h base p c 10 K W ho hb (by omega) hK)
 have e1 : u < 0 → u.toNat = 0 ∧ (-u).toNat = u.natAbs := fun h => by omega
 have e2 : ¬ u < 0 → u.toNat = u.natAbs ∧ (-u).toNat = 0 := fun h => by omega
 have I := Inv.start w [] True.intro
 refine a0c [.v (.int .i64 u)] I Tryz.func136 ?_
 refine zqo I (fun Al W I => have hzW := I.bel.size; (HO 10 (by omega) W).out) fun Al W p5 c5 I => zi I 8 .i64 (0 - u) ((-u)) ((by rw [Int.zero_sub]; exact iwo)) fun Al W I => zm I 9 .i64 (if ((-u) : Int) > u then (-u) else u) ((u.natAbs : Int)) ((by omega)) fun Al W I => zqo I (fun Al W I => have hzW := I.bel.size; (HPw p5 c5 u.natAbs W _ I.fa.1 I.below.size (by omega)).out) fun Al W p10 c10 I => ?_
 rcases bTF (decide (u < 0)) with f12 | f12
 · refine zb I 12 (decide (u < 0)) (true) (f12) fun Al W I => zqo I (fun Al W I => have hzW := I.bel.size; (HO 1 (by omega) W).out) fun Al W p13 c13 I => zret I (v := fun Al => .tuple #[.slice p13 (dig B32 1).length c13, .slice p10 (dig B32 (10 ^ u.natAbs)).length c10]) fun Al W I => ?_
   (obtain ⟨h1, h2⟩ := e1 (oTr f12); rw [h1, h2, Nat.pow_zero]; exact ⟨p13, c13, p10, c10, rfl, I.fa.1, I.fa.2.1, I.below⟩)
 refine zb I 12 (decide (u < 0)) (false) (f12) fun Al W I => zqo I (fun Al W I => have hzW := I.bel.size; (HO 1 (by omega) W).out) fun Al W p16 c16 I => zret I (v := fun Al => .tuple #[.slice p10 (dig B32 (10 ^ u.natAbs)).length c10, .slice p16 (dig B32 1).length c16]) fun Al W I => ?_
 (obtain ⟨h1, h2⟩ := e2 (oFa f12); rw [h1, h2, Nat.pow_zero]; exact ⟨p10, c10, p16, c16, rfl, I.fa.2.1, I.fa.1, I.below⟩)
def q1r (w : World) (a b c : Nat) (en : Ending) (w' : World) : Prop :=
 ∃ p x q y r z, en = .returned (.tuple #[.slice p (dig B32 a).length x, .slice q (dig B32 b).length y, .slice r (dig B32 c).length z]) ∧ Own w' w.heap.size .u32 139 p x (dig B32 a) ∧ Own w' w.heap.size .u32 139 q y (dig B32 b) ∧ Own w' w.heap.size .u32 139 r z (dig B32 c) ∧ Below w.heap.size w w'
theorem x0w (g : Bool) (num : Nat) (E u : Int) (p q : OA) (a b : Nat) (w : World) (hp : Rd w .u32 p (dig B32 num)) (hq : Rd w .u32 q (dig B32 1)) (hl : (dig B32 num).length ≤ 1000) (hE : -100000 ≤ E ∧ E ≤ 100000) (hu : -100000 ≤ u ∧ u ≤ 100000) :
 Calls Tryz.prog 64 #[.agg #[.bool g, .slice p (dig B32 num).length a, .slice q (dig B32 1).length b, .int .i64 E], .int .i64 u] w (q1r w (q10 (numP num E) (denP 1 E) u) (r10 (numP num E) (denP 1 E) u) (d10 (denP 1 E) u)) := by
 have hN : num * 10 ^ u.toNat * 2 ^ E.toNat = n10 (numP num E) u := by unfold n10 numP; grind
 have hD : 1 * 10 ^ (-u).toNat * 2 ^ (-E).toNat = d10 (denP 1 E) u := by unfold d10 denP; grind
 have hd0 : 0 < d10 (denP 1 E) u := s0c (e0l (by omega) E) u
 have eq : q10 (numP num E) (denP 1 E) u = n10 (numP num E) u / d10 (denP 1 E) u := rfl
 have er : r10 (numP num E) (denP 1 E) u = n10 (numP num E) u % d10 (denP 1 E) u := rfl
 rw [eq, er, ← hN, ← hD]
 rw [← hD] at hd0
 clear eq er hN hD
 have l1 : (dig B32 1).length ≤ 1 := (a0g a0b 1 1).2 (by decide)
 have l10 : ∀ k : Nat, k ≤ 100000 → (dig B32 (10 ^ k)).length ≤ 100001 := fun k hk => l0d (K := 100001) a0b (by decide) (by omega) (by omega)
 have l2 : ∀ k : Nat, k ≤ 100000 → (dig B32 (2 ^ k)).length ≤ 100001 := fun k hk => l0d (K := 100001) a0b (by decide) (by omega) (by omega)
 have k1 := l10 u.toNat (by omega)
 have k2 := l10 (-u).toNat (by omega)
 have k3 := l2 E.toNat (by omega)
 have k4 := l2 (-E).toNat (by omega)
 have m1 := b0l a0b num (10 ^ u.toNat)
 have m2 := b0l a0b 1 (10 ^ (-u).toNat)
 have m3 := b0l a0b (num * 10 ^ u.toNat) (2 ^ E.toNat)
 have m4 := b0l a0b (1 * 10 ^ (-u).toNat) (2 ^ (-E).toNat)
 have HTn := fun W => lHd (q1q u W hu)
 have e1 : E.toNat = 0 ∨ (E : Int) = (E.toNat : Nat) := by omega
 have e2 : 0 ≤ E → (-E).toNat = 0 := by omega
 have e3 : ¬ 0 ≤ E → E.toNat = 0 := by omega
 generalize 10 ^ u.toNat = U at *
 generalize 10 ^ (-u).toNat = V2 at *
 have HM1 := fun W r c h h2 => lHd (o0p p r _ _ a c num U W h h2 rfl rfl (by omega))
 have HM2 := fun W r c h h2 => lHd (o0p q r _ _ b c 1 V2 W h h2 rfl rfl (by omega))
 generalize num * U = X at *
 generalize 1 * V2 = Y at *
 have HS := fun W r c x (n : Nat) (M : Int) h (h1 : (dig B32 x).length ≤ 102001) (h2 : n ≤ 100000) h3 => lHd (sshl r _ c x n (x * 2 ^ n) M W h rfl (by omega) (by omega) h3 rfl)
 have HDv := fun W r s c d x y h h2 (h3 : (dig B32 x).length ≤ 300000) (h4 : (dig B32 y).length ≤ 300000) h5 => lHd (h0d r s _ _ c d x y W h h2 rfl rfl (by omega) (by omega) h5)
 have I := Inv.start w [rdF .u32 p (dig B32 num), rdF .u32 q (dig B32 1)] ⟨hp, hq, True.intro⟩
 refine a0c [.v (.agg #[.bool g, .slice p (dig B32 num).length a, .slice q (dig B32 1).length b, .int .i64 E]), .v (.int .i64 u)] I Tryz.func64 ?_
 refine zg I (fun Al W I => (HTn W).out) fun Al V Iv _ hB _ kz => ?_
 rintro _ W ⟨p15, c15, q15, d15, rfl, o15, r15, hb⟩
 refine ⟨_, rfl, kz _ _ hb fun I => ?_⟩
 have I := I.own o15
 have I := I.own r15
 refine zd [] I fun Al W I => zk [0, 1, 2, 4, 5, 6] I fun I => zo 3 I fun I => zqo I (fun Al W I => (HM1 W p15 c15 I.fa.2.2.1 I.fa.2.1.rd).out) fun Al W p21 c21 I => zo 7 I fun I => zqo I (fun Al W I => (HM2 W q15 d15 I.fa.2.2.2.2.1 I.fa.2.1.rd).out) fun Al W p25 c25 I => zk [8, 9] I fun I => ?_
 rcases bTF (decide (E ≥ 0)) with f28 | f28
 · refine zb I 28 (decide (E ≥ 0)) (true) (f28) fun Al W I => zqo I (fun Al W I => have hzW := I.bel.size; (HS W p21 c21 X E.toNat E I.fa.2.1.rd (by omega) (by omega) (by have := oTr f28; omega)).out) fun Al W p32 c32 I => zg I (fun Al W I => have hzW := I.bel.size; (HDv W p32 p25 c32 c25 (X * 2 ^ E.toNat) Y I.fa.1.rd I.fa.2.1.rd (by omega) (by omega) (by have h := e2 (oTr f28); rw [h, Nat.pow_zero, Nat.mul_one] at hd0; exact hd0)).out) fun Al V Iv _ hB _ kz => ?_
   rintro _ W ⟨p41, c41, q41, d41, rfl, o41, r41, hb, -⟩
   refine ⟨_, rfl, kz _ _ hb fun I => ?_⟩
   have I := I.own o41
   have I := I.own r41
   refine zret I (v := fun Al => .tuple #[.slice p41 (dig B32 (X * 2 ^ E.toNat / Y)).length c41, .slice q41 (dig B32 (X * 2 ^ E.toNat % Y)).length d41, .slice p25 (dig B32 Y).length c25]) fun Al W I => ?_
   (have h := e2 (oTr f28); rw [h, Nat.pow_zero, Nat.mul_one]; exact ⟨p41, c41, q41, d41, p25, c25, rfl, I.fa.2.1, I.fa.1, I.fa.2.2.2.1, I.below⟩)
 refine zb I 28 (decide (E ≥ 0)) (false) (f28) fun Al W I => zi I 36 .i64 (0 - E) ((-E)) ((by rw [Int.zero_sub]; exact iwo)) fun Al W I => zqo I (fun Al W I => have hzW := I.bel.size; (HS W p25 c25 Y (-E).toNat (-E) I.fa.1.rd (by omega) (by omega) (by have := oFa f28; omega)).out) fun Al W p37 c37 I => zg I (fun Al W I => have hzW := I.bel.size; (HDv W p21 p37 c21 c37 X (Y * 2 ^ (-E).toNat) I.fa.2.2.1.rd I.fa.1.rd (by omega) (by omega) hd0).out) fun Al V Iv _ hB _ kz => ?_
 rintro _ W ⟨p41, c41, q41, d41, rfl, o41, r41, hb, -⟩
 refine ⟨_, rfl, kz _ _ hb fun I => ?_⟩
 have I := I.own o41
 have I := I.own r41
 refine zret I (v := fun Al => .tuple #[.slice p41 (dig B32 (X / (Y * 2 ^ (-E).toNat))).length c41, .slice q41 (dig B32 (X % (Y * 2 ^ (-E).toNat))).length d41, .slice p37 (dig B32 (Y * 2 ^ (-E).toNat)).length c37]) fun Al W I => ?_
 (have h := e3 (oFa f28); rw [h, Nat.pow_zero, Nat.mul_one]; exact ⟨p41, c41, q41, d41, p37, c37, rfl, I.fa.2.1, I.fa.1, I.fa.2.2.1, I.below⟩)
theorem q0s (n : Int) (v : Vl) (p : OA) (c base : Nat) (w : World) (hp : Own w base .u32 139 p c (dig B32 v.d)) (hpw : -100000 ≤ v.pow ∧ v.pow ≤ 100000) :
 Calls Tryz.prog 29 #[.int .i64 n, .agg #[.int .i64 (v.cls : Int), .bool v.neg, .slice p (dig B32 v.d).length c, .int .i64 v.pow]] w fun en w' => ∃ q d, en = .returned (.agg #[.bool v.neg, .slice p (dig B32 v.d).length c, .slice q (dig B32 1).length d, .int .i64 (wid (fmt n).g * v.pow)]) ∧ Own w' w.heap.size .u32 139 q d (dig B32 1) ∧ Below w.heap.size w w' := by
 have HG := fun W => lHd (z0e n W)
 have HO := fun (k : Nat) hk W => lHd (sof (k : Int) k rfl hk W)
 have wp := b0g (fmt n).g
 have hw : wid (fmt n).g = if (fmt n).g.rad = 16 then 4 else 1 := rfl
 have hm := u0y (wd := wid (fmt n).g) (k := v.pow) (B := 100000) wp.2 hpw
 generalize wid (fmt n).g = wd at *
 generalize (fmt n).g = gg at *
 generalize c0o n = er at *
 obtain ⟨bb, hbb⟩ : ∃ bb, (gg.rad == 16) = bb := ⟨_, rfl⟩
 have I := Inv.start w [ownF base .u32 139 p c (dig B32 v.d)] ⟨hp, True.intro⟩
 refine a0c [.v (.int .i64 n), .v (.agg #[.int .i64 (v.cls : Int), .bool v.neg, .slice p (dig B32 v.d).length c, .int .i64 v.pow])] I Tryz.func29 ?_
 refine zq I (fun Al W I => (HG W).out) fun Al W I => zb I 15 (gg.rad == 16) (bb) (hbb) fun Al W I => zcut I (some 2000015) (fun fr bx gs => ∃ (U1 : Nat → Value) (k : Int), fr = (.v (vI n) :: .v (.agg #[vI (v.cls : Int), .bool v.neg, vS (dig B32 v.d) p c, vI v.pow]) :: vu :: .p 0 0 :: .p 1 0 :: .p 2 0 :: .v (U1 6) :: .v (vI k) :: sw U1 8 7 (.v (.bool bb) :: sw U1 16 10 []) : List SV) ∧ bx = [⟨61, [.v (vI (v.cls : Int)), .v (.bool v.neg), .v (vS (dig B32 v.d) p c), .v (vI v.pow)], false⟩, ⟨53, [.v (.bool false), .v (.slice none 0 0), .v (.slice none 0 0), .v (vI 0)], false⟩, ⟨76, [.v (vI gg.rad), .v (vI gg.digs), .v (vI gg.lo), .v (vI gg.hi), .v (.bool gg.grad)], false⟩] ∧ gs = [ownF base .u32 139 p c (dig B32 v.d)] ∧ ((wd : Int) = k)) ?_ ?_
 · intro J hJ Al W I
   rcases bTF bb with rfl | rfl
   · exact a0i I J fun Al W U I => hJ _ _ _ _ _ ⟨U, 4, rfl, rfl, rfl, (by rw [hw, if_pos (beq_iff_eq.1 hbb)]; rfl)⟩ (I.pick [0])
   exact a0i I J fun Al W U I => hJ _ _ _ _ _ ⟨U, 1, rfl, rfl, rfl, (by rw [hw, if_neg (bnF hbb)]; rfl)⟩ (I.pick [0])
 rintro _ _ _ ⟨U1, k, rfl, rfl, rfl, hk⟩ Al W I
 refine zd [1] I fun Al W I => zk [0, 1, 2, 3, 5, 6, 7] I fun I => zki 8 I .i64 (k * v.pow) (((wd : Int) * v.pow)) ((by rw [← hk]; exact iwo)) fun I => zo 4 I fun I => zqo I (fun Al W I => have hzW := I.bel.size; (HO 1 (by omega) W).out) fun Al W p20 c20 I => zk [9] I fun I => zo 10 I fun I => zn I fun Al W I => zret I fun Al W I => ⟨p20, c20, rfl, I.fa.1, I.below⟩
theorem l0i (g : Bool) (s : List Nat) (p : Int) (w : World) (hs : Byt s) (h0 : s ≠ []) (hl : s.length ≤ 100) (hp : -100000 < p ∧ p < 100000) (hT : PowW w) :
 Calls Tryz.prog 30 #[.bool g, .string (a0d s), .int .i64 p] w fun en w' => en = .returned (.string (a0d (numT g s p))) ∧ Below w.heap.size w w' := by
 have hz := a0t s
 have h1 := m0b hs 0 1
 have h2 : (a0d s).extract 1 (a0d s).size = a0d (s.drop 1) := by rw [m0b hs, hz, List.take_length]
 have hI := fun W h => lHd (l1d p (by omega) W h)
 have hil : (f0x p).length ≤ 6 := by
  have h : (a0z p.natAbs).length ≤ 5 := (b0f _ 5 (by omega)).2 (by omega)
  unfold f0x
  split
  · rw [List.length_cons, show (-p).toNat = p.natAbs by omega]; omega
  · rw [show p.toNat = p.natAbs by omega]; omega
 have hl0 : 0 < s.length := List.length_pos_iff.2 h0
 have ha : (s.take 1).length = 1 := by rw [List.length_take]; omega
 have hb : (s.drop 1).length = s.length - 1 := by rw [List.length_drop]
 have eN : numT g s p = (if g then [45] else []) ++ (s.take 1 ++ ((if 1 < s.length then 46 :: s.drop 1 else []) ++ 101 :: f0x p)) := rfl
 rw [List.drop_zero] at h1
 generalize s.take 1 = a at *
 generalize s.drop 1 = b at *
 generalize f0x p = ip at *
 generalize a0d s = S at *
 obtain ⟨q, hq⟩ : ∃ q, decide ((S.size : Int) > 1) = q := ⟨_, rfl⟩
 have I := Inv.start w [powF] ⟨hT, True.intro⟩
 refine a0c [.v (.bool g), .v (.string S), .v (.int .i64 p)] I Tryz.func30 ?_
 refine zx I 9 (fun _ => .string (a0d a)) (fun Al W I => (by rw [← h1]; exact j0h uSt (.inl ⟨rfl, rfl⟩) (.inr rfl) (Nat.zero_le _) (by omega))) fun Al W I => zb I 12 (decide ((S.size : Int) > 1)) (q) (hq) fun Al W I => zcut I (some 2000012) (fun fr bx gs => ∃ (U1 : Nat → Value) (Y : LN), fr = (.v (.bool g) :: .v (.string S) :: .v (vI p) :: su 3 (.v (Go.Value.string (ByteArray.mk #[])) :: .v (.string (a0d Y)) :: sw U1 8 4 (.v (.bool q) :: sw U1 13 5 (vu :: sw U1 19 7 []))) : List SV) ∧ bx = [] ∧ gs = [powF] ∧ (Y = a ++ (if 1 < s.length then 46 :: b else [])) ∧ (Y.length ≤ 200)) ?_ ?_
 · intro J hJ Al W I
   rcases bTF q with rfl | rfl
   · refine zx I 15 (fun _ => .string (a0d b)) (fun Al W I => (by rw [← h2]; exact j0h uSt (.inr rfl) (.inl ⟨rfl, rfl⟩) (by omega) (Nat.le_refl _))) fun Al W I => zbin I 16 _ (fun _ _ _ _ _ => (h0g [46] b (by simp; omega))) fun Al W I => zbin I 17 _ (fun _ _ _ _ _ => (h0g a (46 :: b) (by simp; omega))) fun Al W I => a0i I J fun Al W U I => hJ _ _ _ _ _ ⟨U, (a ++ 46 :: b), rfl, rfl, rfl, (by rw [if_pos (by have := oTr hq; omega)]), (by rw [List.length_append, List.length_cons]; omega)⟩ (I.pick [0])
   exact a0i I J fun Al W U I => hJ _ _ _ _ _ ⟨U, a, rfl, rfl, rfl, (by rw [if_neg (by have := oFa hq; omega), List.append_nil]), (by omega)⟩ (I.pick [0])
 rintro _ _ _ ⟨U1, Y, rfl, rfl, rfl, hY, hYl⟩ Al W I
 refine zcut I (some 2000018) (fun fr bx gs => ∃ (U2 : Nat → Value) (X : LN), fr = (.v (.bool g) :: .v (.string S) :: .v (vI p) :: su 3 (.v (Go.Value.string (ByteArray.mk #[])) :: .v (.string (a0d X)) :: sw U2 8 4 (.v (.bool q) :: sw U2 13 5 (.v (.bool g) :: sw U2 19 7 []))) : List SV) ∧ bx = [] ∧ gs = [powF] ∧ (X ++ 101 :: ip = numT g s p) ∧ (X.length ≤ 300)) ?_ ?_
 · intro J hJ Al W I
   rcases bTF g with rfl | rfl
   · refine zbin I 20 _ (fun _ _ _ _ _ => (h0g [45] Y (by simp; omega))) fun Al W I => a0i I J fun Al W U I => hJ _ _ _ _ _ ⟨U, (45 :: Y), rfl, rfl, rfl, (by rw [eN, if_pos rfl, hY]; simp), (by rw [List.length_cons]; omega)⟩ (I.pick [0])
   exact a0i I J fun Al W U I => hJ _ _ _ _ _ ⟨U, Y, rfl, rfl, rfl, (by rw [eN, if_neg Bool.false_ne_true, hY]; simp), (by omega)⟩ (I.pick [0])
 rintro _ _ _ ⟨U2, X, rfl, rfl, rfl, hX, hXl⟩ Al W I
 refine zbin I 22 _ (fun _ _ _ _ _ => (h0g X [101] (by simp; omega))) fun Al W I => zq I (fun Al W I => (hI W I.fa.1).out) fun Al W I => zbin I 25 _ (fun _ _ _ _ _ => (h0g (X ++ [101]) ip (by simp; omega))) fun Al W I => zret I (v := fun Al => .string (a0d (X ++ [101] ++ ip))) fun Al W I => ⟨by rw [← hX]; simp, I.below⟩
theorem l1v (a b : Vl) (p q : OA) (c d b1 b2 : Nat) (w : World) (hp : Own w b1 .u32 139 p c (dig B32 a.d)) (hq : Own w b2 .u32 139 q d (dig B32 b.d)) (h1 : (dig B32 a.d).length ≤ 100000) (h2 : (dig B32 b.d).length ≤ 100000) :
 Calls Tryz.prog 38 #[.agg #[.int .i64 (a.cls : Int), .bool a.neg, .slice p (dig B32 a.d).length c, .int .i64 a.pow], .agg #[.int .i64 (b.cls : Int), .bool b.neg, .slice q (dig B32 b.d).length d, .int .i64 b.pow]] w fun en w' => en = .returned (.bool (decide (a.cls = b.cls ∧ a.neg = b.neg ∧ a.pow = b.pow ∧ a.d = b.d))) ∧ Below w.heap.size w w' := by
 have HC := fun W hp hq => lHd (e0a p q _ _ c d a.d b.d W hp hq rfl rfl (by omega) (by omega))
 have hc : cmpN a.d b.d = 0 ↔ a.d = b.d := ⟨v0c, fun h => by rw [h, c1y]⟩
 obtain ⟨ac, an, ad, ap⟩ := a
 obtain ⟨bc, bn, bd, bp⟩ := b
 simp only at HC hc hp hq h1 h2 ⊢
 generalize cmpN ad bd = k at *
 have I := Inv.start w [ownF b1 .u32 139 p c (dig B32 ad), ownF b2 .u32 139 q d (dig B32 bd)] ⟨hp, hq, True.intro⟩
 refine a0c [.v (.agg #[.int .i64 (ac : Int), .bool an, .slice p (dig B32 ad).length c, .int .i64 ap]), .v (.agg #[.int .i64 (bc : Int), .bool bn, .slice q (dig B32 bd).length d, .int .i64 bp])] I Tryz.func38 ?_
 refine zcut I (some 3000001) (fun fr bx gs => ∃ (U1 : Nat → Value) (r : Bool), fr = (.v (.agg #[vI (ac : Int), .bool an, vS (dig B32 ad) p c, vI ap]) :: .v (.agg #[vI (bc : Int), .bool bn, vS (dig B32 bd) q d, vI bp]) :: .p 0 0 :: .p 1 0 :: .v (.bool r) :: sw U1 5 27 [] : List SV) ∧ bx = [⟨61, [.v (vI (ac : Int)), .v (.bool an), .v (vS (dig B32 ad) p c), .v (vI ap)], false⟩, ⟨61, [.v (vI (bc : Int)), .v (.bool bn), .v (vS (dig B32 bd) q d), .v (vI bp)], false⟩] ∧ gs = [ownF b1 .u32 139 p c (dig B32 ad), ownF b2 .u32 139 q d (dig B32 bd)] ∧ (r = decide (ac = bc ∧ an = bn ∧ ap = bp ∧ ad = bd))) ?_ ?_
 · intro J hJ Al W I
   rcases bTF ((ac : Int) == (bc : Int)) with f9 | f9
   · refine zb I 9 ((ac : Int) == (bc : Int)) (true) (f9) fun Al W I => ?_
     rcases bTF (an == bn) with f15 | f15
     · refine zb I 15 (an == bn) (true) (f15) fun Al W I => ?_
       rcases bTF (ap == bp) with f22 | f22
       · refine zb I 22 (ap == bp) (true) (f22) fun Al W I => zq I (fun Al W I => (HC W I.fa.1.rd I.fa.2.1.rd).out) fun Al W I => ?_
         rcases bTF (k == 0) with f30 | f30
         · refine zb I 30 (k == 0) (true) (f30) fun Al W I => a0i I J fun Al W U I => hJ _ _ _ _ _ ⟨U, true, rfl, rfl, rfl, (by exact (decide_eq_true ⟨by have := beq_iff_eq.1 f9; omega, beq_iff_eq.1 f15, beq_iff_eq.1 f22, hc.1 (beq_iff_eq.1 f30)⟩).symm)⟩ (I.pick [0, 1])
         refine zb I 30 (k == 0) (false) (f30) fun Al W I => a0i I J fun Al W U I => hJ _ _ _ _ _ ⟨U, false, rfl, rfl, rfl, (by exact (dFa (fun h => bnF f30 (hc.2 h.2.2.2))).symm)⟩ (I.pick [0, 1])
       refine zb I 22 (ap == bp) (false) (f22) fun Al W I => a0i I J fun Al W U I => hJ _ _ _ _ _ ⟨U, false, rfl, rfl, rfl, (by exact (dFa (fun h => bnF f22 h.2.2.1)).symm)⟩ (I.pick [0, 1])
     refine zb I 15 (an == bn) (false) (f15) fun Al W I => a0i I J fun Al W U I => hJ _ _ _ _ _ ⟨U, false, rfl, rfl, rfl, (by exact (dFa (fun h => bnF f15 h.2.1)).symm)⟩ (I.pick [0, 1])
   refine zb I 9 ((ac : Int) == (bc : Int)) (false) (f9) fun Al W I => a0i I J fun Al W U I => hJ _ _ _ _ _ ⟨U, false, rfl, rfl, rfl, (by exact (dFa (fun h => by have := bnF f9; have := h.1; omega)).symm)⟩ (I.pick [0, 1])
 rintro _ _ _ ⟨U1, r, rfl, rfl, rfl, hr⟩ Al W I
 exact zret I (v := fun Al => .bool r) fun Al W I => ⟨by rw [hr], I.below⟩
theorem q0t : Tryz.prog.underlying 133 = some (.map 3 9) := by kernel_rfl
theorem h1k (c : Nat) : (∃ i, Instr.findNow (.int .i64) (.int .i64 (c : Int)) [⟨.int .i64 1, .string ⟨#[48]⟩, 0⟩, ⟨.int .i64 3, .string ⟨#[105, 110, 102]⟩, 1⟩, ⟨.int .i64 4, .string ⟨#[110, 111, 110, 101]⟩, 2⟩, ⟨.int .i64 5, .string ⟨#[114, 101, 115, 101, 114, 118, 101, 100]⟩, 3⟩] 0 = some (some (i, .string (a0d (p0n c))))) ∨ (p0n c = [] ∧ Instr.findNow (.int .i64) (.int .i64 (c : Int)) [⟨.int .i64 1, .string ⟨#[48]⟩, 0⟩, ⟨.int .i64 3, .string ⟨#[105, 110, 102]⟩, 1⟩, ⟨.int .i64 4, .string ⟨#[110, 111, 110, 101]⟩, 2⟩, ⟨.int .i64 5, .string ⟨#[114, 101, 115, 101, 114, 118, 101, 100]⟩, 3⟩] 0 = some none) := by
 by_cases h1 : c = 1
 · subst h1; exact .inl ⟨0, rfl⟩
 by_cases h3 : c = 3
 · subst h3; exact .inl ⟨1, rfl⟩
 by_cases h4 : c = 4
 · subst h4; exact .inl ⟨2, rfl⟩
 by_cases h5 : c = 5
 · subst h5; exact .inl ⟨3, rfl⟩
 refine .inr ⟨by unfold p0n; rw [if_neg h1, if_neg h3, if_neg h4, if_neg h5], ?_⟩
 have e1 : ((c : Int) == 1) = false := bFn (by omega)
 have e3 : ((c : Int) == 3) = false := bFn (by omega)
 have e4 : ((c : Int) == 4) = false := bFn (by omega)
 have e5 : ((c : Int) == 5) = false := bFn (by omega)
 simp only [Instr.findNow, Instr.sameNow, e1, e3, e4, e5, if_true]
theorem h1l {W : World} {b c : Nat} (hb : W.heap[b]? = some (.map #[⟨.int .i64 1, .string ⟨#[48]⟩, 0⟩, ⟨.int .i64 3, .string ⟨#[105, 110, 102]⟩, 1⟩, ⟨.int .i64 4, .string ⟨#[110, 111, 110, 101]⟩, 2⟩, ⟨.int .i64 5, .string ⟨#[114, 101, 115, 101, 114, 118, 101, 100]⟩, 3⟩] 4)) : (VO.lk 133 (.map (some b)) (.int .i64 (c : Int)) false).sem.run Tryz.prog W = .ok (.string (a0d (p0n c))) W := by
 rcases h1k c with h | ⟨h1, h2⟩
 · exact s1q q0t Tryz.underlying3 hb _ h
 · rw [h1]
   exact i0b q0t Tryz.underlying3 hb _ (by kernel_rfl) h2
theorem z0q (v : Vl) (p : OA) (c base : Nat) (w : World) (hp : Own w base .u32 139 p c (dig B32 v.d)) (hc : 1 ≤ v.cls ∧ v.cls ≤ 5) (hT : TabW w) :
 Calls Tryz.prog 27 #[.agg #[.int .i64 (v.cls : Int), .bool v.neg, .slice p (dig B32 v.d).length c, .int .i64 v.pow]] w fun en w' => en = .returned (.string (a0d (i0j v.cls v.neg))) ∧ Below w.heap.size w w' := by
 have HF := fun W b h => lHd (@h1l W b v.cls h)
 have hw : i0j v.cls v.neg = if v.cls = 2 then [] else (if v.neg then [45] else []) ++ p0n v.cls := by
  unfold i0j p0n
  by_cases h2 : v.cls = 2
  · rw [if_pos h2, if_pos h2]
  · rw [if_neg h2, if_neg h2]
    congr 1
    by_cases h1 : v.cls = 1
    · rw [if_pos h1, if_pos h1]
    · by_cases h3 : v.cls = 3
      · rw [if_neg h1, if_neg h1, if_pos h3, if_pos h3]
      · by_cases h4 : v.cls = 4
        · rw [if_neg h1, if_neg h1, if_neg h3, if_neg h3, if_pos h4, if_pos h4]
        · rw [if_neg h1, if_neg h1, if_neg h3, if_neg h3, if_neg h4, if_neg h4, if_pos (by omega)]
 have h2 : v.cls = 2 → p0n v.cls = [] := fun h => by rw [h]; rfl
 have hl : (p0n v.cls).length ≤ 8 := by
  unfold p0n
  repeat' split
  all_goals decide
 generalize p0n v.cls = S at *
 generalize i0j v.cls v.neg = R at *
 have I := Inv.start w [ownF base .u32 139 p c (dig B32 v.d), tabF] ⟨hp, hT, True.intro⟩
 refine a0c [.v (.agg #[.int .i64 (v.cls : Int), .bool v.neg, .slice p (dig B32 v.d).length c, .int .i64 v.pow])] I Tryz.func27 ?_
 refine zmkm I 133 fun Al W m4_b m4_ge I => zins I q0t Tryz.underlying3 1 (Go.Value.string (ByteArray.mk #[48])) m4_ge (fun Al W I => ⟨s0k I.fa.1 I.fa.2.1, fun e => by have h2 := hT.2; have e : 0 = m4_b := e; have h3 := m4_ge; omega, True.intro⟩) fun Al W I => zins I q0t Tryz.underlying3 3 (Go.Value.string (ByteArray.mk #[105, 110, 102])) m4_ge (fun Al W I => ⟨s0k I.fa.1 I.fa.2.1, fun e => by have h2 := hT.2; have e : 0 = m4_b := e; have h3 := m4_ge; omega, True.intro⟩) fun Al W I => zins I q0t Tryz.underlying3 4 (Go.Value.string (ByteArray.mk #[110, 111, 110, 101])) m4_ge (fun Al W I => ⟨s0k I.fa.1 I.fa.2.1, fun e => by have h2 := hT.2; have e : 0 = m4_b := e; have h3 := m4_ge; omega, True.intro⟩) fun Al W I => zins I q0t Tryz.underlying3 5 (Go.Value.string (ByteArray.mk #[114, 101, 115, 101, 114, 118, 101, 100])) m4_ge (fun Al W I => ⟨s0k I.fa.1 I.fa.2.1, fun e => by have h2 := hT.2; have e : 0 = m4_b := e; have h3 := m4_ge; omega, True.intro⟩) fun Al W I => zx I 8 (fun _ => .string (a0d S)) (fun Al W I => (HF _ _ I.fa.1).out) fun Al W I => ?_
 rcases bTF (v.neg) with f11 | f11
 · refine zb I 11 (v.neg) (true) (f11) fun Al W I => ?_
   rcases bTF ((v.cls : Int) != 2) with f14 | f14
   · refine zb I 14 ((v.cls : Int) != 2) (true) (f14) fun Al W I => zbin I 17 _ (fun _ _ _ _ _ => (h0g [45] S (by simp; omega))) fun Al W I => zret I (v := fun Al => .string (a0d (45 :: S))) fun Al W I => ?_
     first | (rw [hw, if_neg (fun h => by have := bne_iff_ne.1 f14; omega), f11]; exact ⟨rfl, I.below⟩) | (have h := h2 (by have : (v.cls : Int) = 2 := (by simpa using f14); omega); rw [hw, if_pos (by have : (v.cls : Int) = 2 := (by simpa using f14); omega), h]; exact ⟨rfl, I.below⟩) | (rw [hw, f11]; by_cases h : v.cls = 2; (rw [if_pos h, h2 h]; exact ⟨rfl, I.below⟩); rw [if_neg h]; exact ⟨rfl, I.below⟩)
   refine zb I 14 ((v.cls : Int) != 2) (false) (f14) fun Al W I => zret I (v := fun Al => .string (a0d S)) fun Al W I => ?_
   first | (have h := h2 (by have : (v.cls : Int) = 2 := (by simpa using f14); omega); rw [hw, if_pos (by have : (v.cls : Int) = 2 := (by simpa using f14); omega), h]; exact ⟨rfl, I.below⟩) | (rw [hw, f11]; by_cases h : v.cls = 2; (rw [if_pos h, h2 h]; exact ⟨rfl, I.below⟩); rw [if_neg h]; exact ⟨rfl, I.below⟩)
 refine zb I 11 (v.neg) (false) (f11) fun Al W I => zret I (v := fun Al => .string (a0d S)) fun Al W I => ?_
 (rw [hw, f11]; by_cases h : v.cls = 2; (rw [if_pos h, h2 h]; exact ⟨rfl, I.below⟩); rw [if_neg h]; exact ⟨rfl, I.below⟩)
end Go.Proofs.YtgbbhlginbmghaaGreatDoor
namespace Go.Slip
open Go.RowKit
theorem q1s {N D k : Nat} {P : Int} (h : theP N D = P) : decM N D k = if k < (a0z (dT N D (k - 1 - P))).length then ((a0z (dT N D (k - 1 - P))).take k, P + 1) else (a0z (dT N D (k - 1 - P)), P) := by subst h; rfl
theorem t1q {x : Int} (h : -40000 ≤ x ∧ x ≤ 40000) : -20000 ≤ (x * 30103).tdiv 100000 ∧ (x * 30103).tdiv 100000 ≤ 20000 := by
 rcases Int.le_total 0 x with h1 | h1
 · rw [Int.tdiv_eq_ediv_of_nonneg (by omega)]; omega
 · rw [show x * 30103 = -((-x) * 30103) by omega, Int.neg_tdiv, Int.tdiv_eq_ediv_of_nonneg (by omega)]; omega
end Go.Slip
namespace Go.Proofs.YtgbbhlginbmghaaGreatDoor
open Go.RowKit Go.Slip
theorem q1t (n : Nat) : bits .and .u32 ((dg (dig B32 n) 0 : Nat) : Int) 1 = ((n % 2 : Nat) : Int) := by
 have h0 : dg (dig B32 n) 0 = n % 4294967296 := by
  by_cases h : n = 0
  · subst h; rw [a0e]; rfl
  · rw [e0e a0b (by omega)]; rfl
 rw [h0]
 have h := u32_and_nat (n % 4294967296) 1 (by omega) (by omega)
 rw [show ((1 : Nat) : Int) = 1 from rfl] at h
 rw [h, Nat.and_one_is_mod]
 omega
theorem m0n (g : Bool) (num : Nat) (E : Int) (k : Nat) (p q : OA) (a b b1 b2 : Nat) (w : World) (hp : Own w b1 .u32 139 p a (dig B32 num)) (hq : Own w b2 .u32 139 q b (dig B32 1)) (h0 : 0 < num) (hl : (dig B32 num).length ≤ 100) (hE : -30000 ≤ E ∧ E ≤ 30000) (hk : 1 ≤ k ∧ k ≤ 100) :
 Calls Tryz.prog 28 #[.agg #[.bool g, .slice p (dig B32 num).length a, .slice q (dig B32 1).length b, .int .i64 E], .int .i64 (k : Int)] w fun en w' => en = .returned (.tuple #[.string (a0d (decM (numP num E) (denP 1 E) k).1), .int .i64 (decM (numP num E) (denP 1 E) k).2]) ∧ Below w.heap.size w w' := by
 have hN0 : 0 < numP num E := k0v h0 E
 have hD0 : 0 < denP 1 E := e0l (by omega) E
 have hP := l0x hN0 hD0
 have hbd := hP.bd hD0
 have hlong := fun x => hP.long hD0 hk.1 x
 have hshort := fun x => hP.short hD0 hk.1 x
 have hdec := q1s (k := k) (rfl : theP (numP num E) (denP 1 E) = _)
 have hlo : 0 < q10 (numP num E) (denP 1 E) (k - 1 - theP (numP num E) (denP 1 E)) := Nat.lt_of_lt_of_le (c0v (k - 1)) ((j0v hD0 _ _).2 ((hP.iff _).2 (by omega)))
 have HSc := fun u W hp hq hu => lHd (x0w g num E u p q a b W hp hq (by omega) (by omega) hu)
 have bn := c0x num
 have bN : blen (numP num E) ≤ 33300 := by
  refine Nat.le_trans ((a0w _ (blen num + E.toNat)).2 ?_) (by omega)
  unfold numP
  have h1 := (a0w num _).1 (Nat.le_refl _)
  calc num * 2 ^ E.toNat < 2 ^ blen num * 2 ^ E.toNat := Nat.mul_lt_mul_of_pos_right h1 (Nat.pow_pos (by omega))
   _ = 2 ^ (blen num + E.toNat) := (Nat.pow_add _ _ _).symm
 have bD : blen (denP 1 E) ≤ 30001 := by
  refine Nat.le_trans ((a0w _ ((-E).toNat + 1)).2 ?_) (by omega)
  unfold denP
  rw [Nat.one_mul]
  exact Nat.pow_lt_pow_right (by omega) (by omega)
 have hql : ∀ u : Int, -100000 ≤ u ∧ u ≤ 100000 → (dig B32 (q10 (numP num E) (denP 1 E) u)).length ≤ 200000 ∧ (dig B32 (d10 (denP 1 E) u)).length ≤ 200000 := fun u hu => by
  have l10 : ∀ j : Nat, j ≤ 100000 → (dig B32 (10 ^ j)).length ≤ 100001 := fun j hj => l0d (K := 100001) a0b (by decide) (by omega) (by omega)
  have k1 := l10 u.toNat (by omega)
  have k2 := l10 (-u).toNat (by omega)
  have m1 := b0l a0b (numP num E) (10 ^ u.toNat)
  have m2 := b0l a0b (denP 1 E) (10 ^ (-u).toNat)
  have c1 := y0t _ _ bN
  have c2 := y0t _ _ bD
  refine ⟨Nat.le_trans (a0l a0b (Nat.div_le_self _ _)) ?_, ?_⟩
  · unfold n10; omega
  · unfold d10; omega
 have hrl : ∀ u : Int, r10 (numP num E) (denP 1 E) u < d10 (denP 1 E) u := fun u => Nat.mod_lt _ (s0c hD0 u)
 have hdT : ∀ u, dT (numP num E) (denP 1 E) u = q10 (numP num E) (denP 1 E) u + if upT (numP num E) (denP 1 E) u then 1 else 0 := fun u => rfl
 have hup : ∀ u, upT (numP num E) (denP 1 E) u = decide (0 < cmpN (r10 (numP num E) (denP 1 E) u * 2) (d10 (denP 1 E) u) ∨ (cmpN (r10 (numP num E) (denP 1 E) u * 2) (d10 (denP 1 E) u) = 0 ∧ q10 (numP num E) (denP 1 E) u % 2 = 1)) := fun u => by unfold upT; rw [Bool.decide_or, Bool.decide_and]
 have hP2 : -12000 ≤ theP (numP num E) (denP 1 E) ∧ theP (numP num E) (denP 1 E) ≤ 12000 := by omega
 generalize decM (numP num E) (denP 1 E) k = R at *
 generalize theP (numP num E) (denP 1 E) = P at *
 clear hbd bN bD hN0 hD0 hP
 generalize numP num E = N at *
 generalize denP 1 E = D at *
 have HL := fun W p c x h hl => lHd ((i0d p _ c x W h rfl hl).mono fun _ _ ⟨h1, h2⟩ => ⟨h1, h2 ▸ Below.refl _ _⟩ : Calls Tryz.prog 63 #[.slice p (dig B32 x).length c] W fun en W' => en = .returned (.int .i64 ((blen x : Nat) : Int)) ∧ Below W.heap.size W W')
 have HDe := fun W p c x h hl => lHd (x0p p _ c x W h rfl hl)
 have HSh := fun W p c x h hl => lHd (sshl p _ c x 1 (x * 2) 1 W h rfl hl (by omega) rfl (by rw [Nat.pow_one]))
 have HCm := fun W p q c d x y h h2 hl hl2 => lHd (e0a p q _ _ c d x y W h h2 rfl rfl hl hl2)
 have HO := fun W => lHd (sof 1 1 rfl (by omega) W)
 have HAd := fun W p q c d x h h2 hl => lHd (sadd p q _ _ c d x 1 _ W h h2 rfl rfl hl (Nat.le_trans ((a0g a0b 1 1).2 (by decide)) (by omega)) rfl)
 have l1 := (a0w 1 1).2 (by decide)
 have d1 : (dig B32 1).length ≤ 1 := (a0g a0b 1 1).2 (by decide)
 have hes := fun x h => @t1q x h
 let aA : Box := ⟨53, [.v (.bool g), .v (.slice p (dig B32 num).length a), .v (.slice q (dig B32 1).length b), .v (.int .i64 E)], false⟩
 let aB : SV := .v (.agg #[.bool g, .slice p (dig B32 num).length a, .slice q (dig B32 1).length b, .int .i64 E])
 have I := Inv.start w [ownF b1 .u32 139 p a (dig B32 num), ownF b2 .u32 139 q b (dig B32 1)] ⟨hp, hq, True.intro⟩
 refine a0c [.v (.agg #[.bool g, .slice p (dig B32 num).length a, .slice q (dig B32 1).length b, .int .i64 E]), .v (.int .i64 (k : Int))] I Tryz.func28 ?_
 refine zd [] I fun Al W I => zk [0, 1, 3, 4, 7, 8] I fun I => zo 2 I fun I => zq I (fun Al W I => have hzW := I.bel.size; (HL W p a num I.fa.1.rd (by omega)).out) fun Al W I => zo 5 I fun I => zq I (fun Al W I => have hzW := I.bel.size; (HL W q b 1 I.fa.2.1.rd (by omega)).out) fun Al W I => zki 6 I .i64 (((blen num : Nat) : Int) - ((blen 1 : Nat) : Int)) (((blen num : Int) - blen 1)) (iwo) fun I => zki 9 I .i64 (((blen num : Int) - blen 1) + E) (((blen num : Int) - blen 1 + E)) (iwo) fun I => zk [10] I fun I => zi I 24 .i64 (((blen num : Int) - blen 1 + E) * 30103) ((((blen num : Int) - blen 1 + E) * 30103)) ((by exact iwo)) fun Al W I => zbin I 25 _ (fun _ _ _ _ _ => n0z .i64 ((((blen num : Int) - blen 1 + E) * 30103)) (100000) (((((blen num : Int) - blen 1 + E) * 30103).tdiv 100000)) (by omega) ((by have := hes ((blen num : Int) - blen 1 + E) (by omega); exact iwo))) fun Al W I => h0u I (fun gk fr bx gs => ∃ (U900 : Nat → Value) (pw : Int), fr = (aB :: .v (vI (k : Int)) :: .p 0 0 :: .v undef :: sw U900 4 2 (.v (vI ((blen num : Int) - blen 1 + E)) :: .v (vI pw) :: sw U900 8 81 []) : List SV) ∧ bx = [aA] ∧ gs = [ownF b1 .u32 139 p a (dig B32 num), ownF b2 .u32 139 q b (dig B32 1)] ∧ (-20000 ≤ pw ∧ pw ≤ 20000) ∧ (gk = (pw - P).natAbs)) (((((blen num : Int) - blen 1 + E) * 30103).tdiv 100000 - P).natAbs) (fun Al W U I => ⟨_, ⟨U, _, rfl, rfl, rfl, (by have := hes ((blen num : Int) - blen 1 + E) (by omega); omega), rfl⟩, I.pick [0, 1]⟩) ?_
 rintro J0 gk0 _ _ _ ⟨U900, pw, rfl, rfl, rfl, hpw, hgk⟩ hJ0 Al W I
 have hq2 := hql ((k : Int) - 1 - pw) (by omega)
 have hl2 := hlong pw
 have hs2 := hshort pw
 refine zi I 29 .i64 ((k : Int) - 1) (((k : Int) - 1)) ((by exact iwo)) fun Al W I => zi I 31 .i64 (((k : Int) - 1) - pw) (((k : Int) - 1 - pw)) ((by exact iwo)) fun Al W I => zg I (fun Al W I => have hzW := I.bel.size; (HSc ((k : Int) - 1 - pw) W I.fa.1.rd I.fa.2.1.rd (by omega)).out) fun Al V Iv _ hB _ kz => ?_
 rintro _ W ⟨p32, c32, q32, d32, r32, z32, rfl, o32, s32, v32, hb⟩
 refine ⟨_, rfl, kz _ _ hb fun I => ?_⟩
 have I := I.own o32
 have I := I.own s32
 have I := I.own v32
 refine zq I (fun Al W I => have hzW := I.bel.size; (HDe W p32 c32 (q10 N D ((k : Int) - 1 - pw)) I.fa.2.2.1.rd (by omega)).out) fun Al W I => ?_
 rcases bTF (decide ((((a0d (a0z (q10 N D ((k : Int) - 1 - pw)))).size : Nat) : Int) > (k : Int))) with f42 | f42
 · refine zb I 42 (decide ((((a0d (a0z (q10 N D ((k : Int) - 1 - pw)))).size : Nat) : Int) > (k : Int))) (true) (f42) fun Al W I => ?_
   have hlt : pw < P := hl2.1 (by have := oTr f42; rw [a0t] at this; omega)
   refine zi I 44 .i64 (pw + 1) ((pw + 1)) ((by exact iwo)) fun Al W I => a0i I J0 fun Al W U I => hJ0 ((pw + 1 - P).natAbs) _ _ _ _ _ ((by omega)) ⟨U, (pw + 1), rfl, rfl, rfl, (by omega), rfl⟩ (I.pick [3, 4])
 refine zb I 42 (decide ((((a0d (a0z (q10 N D ((k : Int) - 1 - pw)))).size : Nat) : Int) > (k : Int))) (false) (f42) fun Al W I => ?_
 rcases bTF (decide ((((a0d (a0z (q10 N D ((k : Int) - 1 - pw)))).size : Nat) : Int) < (k : Int))) with f49 | f49
 · refine zb I 49 (decide ((((a0d (a0z (q10 N D ((k : Int) - 1 - pw)))).size : Nat) : Int) < (k : Int))) (true) (f49) fun Al W I => ?_
   have hgt : P < pw := hs2.1 (by exact .inl (by have := oTr f49; rw [a0t] at this; omega))
   refine zi I 56 .i64 (pw - 1) ((pw - 1)) ((by exact iwo)) fun Al W I => a0i I J0 fun Al W U I => hJ0 ((pw - 1 - P).natAbs) _ _ _ _ _ ((by omega)) ⟨U, (pw - 1), rfl, rfl, rfl, (by omega), rfl⟩ (I.pick [3, 4])
 refine zb I 49 (decide ((((a0d (a0z (q10 N D ((k : Int) - 1 - pw)))).size : Nat) : Int) < (k : Int))) (false) (f49) fun Al W I => ?_
 rcases bTF ((((dig B32 (q10 N D ((k : Int) - 1 - pw))).length : Nat) : Int) == 0) with f53 | f53
 · refine zb I 53 ((((dig B32 (q10 N D ((k : Int) - 1 - pw))).length : Nat) : Int) == 0) (true) (f53) fun Al W I => ?_
   have hgt : P < pw := hs2.1 (by exact .inr (by have := beq_iff_eq.1 f53; have := a0h a0b (q10 N D ((k : Int) - 1 - pw)); omega))
   refine zi I 56 .i64 (pw - 1) ((pw - 1)) ((by exact iwo)) fun Al W I => a0i I J0 fun Al W U I => hJ0 ((pw - 1 - P).natAbs) _ _ _ _ _ ((by omega)) ⟨U, (pw - 1), rfl, rfl, rfl, (by omega), rfl⟩ (I.pick [3, 4])
 refine zb I 53 ((((dig B32 (q10 N D ((k : Int) - 1 - pw))).length : Nat) : Int) == 0) (false) (f53) fun Al W I => ?_
 have hpP : pw = P := by have h1 : ¬ pw < P := fun h => oFa f42 (by rw [a0t]; have := hl2.2 h; omega); have h2 : ¬ P < pw := fun h => (hs2.2 h).elim (fun h => oFa f49 (by rw [a0t]; omega)) (fun h => bnF f53 (by have := a0h a0b (q10 N D ((k : Int) - 1 - pw)); omega)); omega
 subst hpP
 refine zqo I (fun Al W I => have hzW := I.bel.size; (HSh W q32 d32 (r10 N D ((k : Int) - 1 - pw)) I.fa.2.1.rd (by have := a0l a0b (Nat.le_of_lt (hrl ((k : Int) - 1 - pw))); omega)).out) fun Al W p58 c58 I => zq I (fun Al W I => have hzW := I.bel.size; (HCm W p58 r32 c58 z32 (r10 N D ((k : Int) - 1 - pw) * 2) (d10 D ((k : Int) - 1 - pw)) I.fa.1.rd I.fa.2.1.rd (by have := a0l a0b (Nat.le_of_lt (hrl ((k : Int) - 1 - pw))); have := b0l a0b (r10 N D ((k : Int) - 1 - pw)) 2; have := (a0g a0b 2 1).2 (by decide); omega) (by omega)).out) fun Al W I => zcut I (some 3000010) (fun fr bx gs => ∃ (U1 : Nat → Value) (up : Bool), fr = (aB :: .v (vI (k : Int)) :: .p 0 0 :: vu :: sw U900 4 2 (.v (vI ((blen num : Int) - blen 1 + E)) :: .v (vI pw) :: .v (vS (dig B32 (q10 N D ((k : Int) - 1 - pw))) p32 c32) :: .v (vS (dig B32 (r10 N D ((k : Int) - 1 - pw))) q32 d32) :: .v (vS (dig B32 (d10 D ((k : Int) - 1 - pw))) r32 z32) :: .v (.string (a0d (a0z (q10 N D ((k : Int) - 1 - pw))))) :: .v (vI (cmpN (r10 N D ((k : Int) - 1 - pw) * 2) (d10 D ((k : Int) - 1 - pw)))) :: sw U1 13 25 (.v (.bool false) :: sw U1 39 6 (.v (.bool false) :: sw U1 46 27 (.v (.bool up) :: sw U1 74 7 (.v (U900 81) :: sw U1 82 7 []))))) : List SV) ∧ bx = [aA] ∧ gs = [ownF w.heap.size .u32 139 p58 c58 (dig B32 (r10 N D ((k : Int) - 1 - pw) * 2)), ownF w.heap.size .u32 139 r32 z32 (dig B32 (d10 D ((k : Int) - 1 - pw))), ownF w.heap.size .u32 139 q32 d32 (dig B32 (r10 N D ((k : Int) - 1 - pw))), ownF w.heap.size .u32 139 p32 c32 (dig B32 (q10 N D ((k : Int) - 1 - pw))), ownF b1 .u32 139 p a (dig B32 num), ownF b2 .u32 139 q b (dig B32 1)] ∧ (up = upT N D ((k : Int) - 1 - pw))) ?_ ?_
 · intro J hJ Al W I
   rcases bTF (decide ((cmpN (r10 N D ((k : Int) - 1 - pw) * 2) (d10 D ((k : Int) - 1 - pw))) > 0)) with f62 | f62
   · refine zb I 62 (decide ((cmpN (r10 N D ((k : Int) - 1 - pw) * 2) (d10 D ((k : Int) - 1 - pw))) > 0)) (true) (f62) fun Al W I => a0i I J fun Al W U I => hJ _ _ _ _ _ ⟨U, true, rfl, rfl, rfl, (by rw [hup]; symm; exact dTr (.inl (oTr f62)))⟩ (I.pick [0, 1, 2, 3, 4, 5])
   refine zb I 62 (decide ((cmpN (r10 N D ((k : Int) - 1 - pw) * 2) (d10 D ((k : Int) - 1 - pw))) > 0)) (false) (f62) fun Al W I => ?_
   rcases bTF ((cmpN (r10 N D ((k : Int) - 1 - pw) * 2) (d10 D ((k : Int) - 1 - pw))) == 0) with f65 | f65
   · refine zb I 65 ((cmpN (r10 N D ((k : Int) - 1 - pw) * 2) (d10 D ((k : Int) - 1 - pw))) == 0) (true) (f65) fun Al W I => zx I 68 (fun _ => .pointer (some (at_ p32 0))) (fun Al W I => (d0x (m := 0) (n := (dig B32 (q10 N D ((k : Int) - 1 - pw))).length) (c := c32) f1y I.fa.2.2.2.1.rd.solid (by have := a0h a0b (q10 N D ((k : Int) - 1 - pw)); omega))) fun Al W I => zx I 69 (fun _ => .int .u32 ((dg (dig B32 (q10 N D ((k : Int) - 1 - pw))) 0 : Nat) : Int)) (fun Al W I => (u0z I.fa.2.2.2.1.rd k1b (by have := a0h a0b (q10 N D ((k : Int) - 1 - pw)); omega))) fun Al W I => zbin I 70 _ (fun _ _ _ _ _ => h0v .u32 ((dg (dig B32 (q10 N D ((k : Int) - 1 - pw))) 0 : Nat) : Int) (1) (((q10 N D ((k : Int) - 1 - pw) % 2 : Nat) : Int)) ((by exact q1t _))) fun Al W I => ?_
     rcases bTF (((q10 N D ((k : Int) - 1 - pw) % 2 : Nat) : Int) == 1) with f71 | f71
     · refine zb I 71 (((q10 N D ((k : Int) - 1 - pw) % 2 : Nat) : Int) == 1) (true) (f71) fun Al W I => a0i I J fun Al W U I => hJ _ _ _ _ _ ⟨U, true, rfl, rfl, rfl, (by rw [hup]; symm; exact dTr (.inr ⟨beq_iff_eq.1 f65, by have := beq_iff_eq.1 f71; omega⟩))⟩ (I.pick [0, 1, 2, 3, 4, 5])
     refine zb I 71 (((q10 N D ((k : Int) - 1 - pw) % 2 : Nat) : Int) == 1) (false) (f71) fun Al W I => a0i I J fun Al W U I => hJ _ _ _ _ _ ⟨U, false, rfl, rfl, rfl, (by rw [hup]; symm; exact dFa (fun h => h.elim (oFa f62) (fun h => bnF f71 (by have := h.2; omega))))⟩ (I.pick [0, 1, 2, 3, 4, 5])
   refine zb I 65 ((cmpN (r10 N D ((k : Int) - 1 - pw) * 2) (d10 D ((k : Int) - 1 - pw))) == 0) (false) (f65) fun Al W I => a0i I J fun Al W U I => hJ _ _ _ _ _ ⟨U, false, rfl, rfl, rfl, (by rw [hup]; symm; exact dFa (fun h => h.elim (oFa f62) (fun h => bnF f65 h.1)))⟩ (I.pick [0, 1, 2, 3, 4, 5])
 rintro _ _ _ ⟨U1, up, rfl, rfl, rfl, hup2⟩ Al W I
 refine zcut I (some 2000073) (fun fr bx gs => ∃ (U2 : Nat → Value) (s : LN) (pf : Int), fr = (aB :: .v (vI (k : Int)) :: .p 0 0 :: vu :: sw U900 4 2 (.v (vI ((blen num : Int) - blen 1 + E)) :: .v (vI pf) :: .v (vS (dig B32 (q10 N D ((k : Int) - 1 - pw))) p32 c32) :: .v (vS (dig B32 (r10 N D ((k : Int) - 1 - pw))) q32 d32) :: .v (vS (dig B32 (d10 D ((k : Int) - 1 - pw))) r32 z32) :: .v (.string (a0d s)) :: .v (vI (cmpN (r10 N D ((k : Int) - 1 - pw) * 2) (d10 D ((k : Int) - 1 - pw)))) :: sw U2 13 25 (.v (.bool false) :: sw U2 39 6 (.v (.bool false) :: sw U2 46 27 (.v (.bool up) :: sw U2 74 15 [])))) : List SV) ∧ bx = [aA] ∧ gs = [ownF w.heap.size .u32 139 p58 c58 (dig B32 (r10 N D ((k : Int) - 1 - pw) * 2)), ownF w.heap.size .u32 139 r32 z32 (dig B32 (d10 D ((k : Int) - 1 - pw))), ownF w.heap.size .u32 139 q32 d32 (dig B32 (r10 N D ((k : Int) - 1 - pw))), ownF w.heap.size .u32 139 p32 c32 (dig B32 (q10 N D ((k : Int) - 1 - pw))), ownF b1 .u32 139 p a (dig B32 num), ownF b2 .u32 139 q b (dig B32 1)] ∧ (R = (s, pf))) ?_ ?_
 · intro J hJ Al W I
   rcases bTF up with rfl | rfl
   · refine zqo I (fun Al W I => (HO W).out) fun Al W p75 c75 I => zqo I (fun Al W I => have hzW := I.bel.size; (HAd W p32 p75 c32 c75 (q10 N D ((k : Int) - 1 - pw)) I.fa.2.2.2.2.1.rd I.fa.1.rd (by omega)).out) fun Al W p76 c76 I => zq I (fun Al W I => have hzW := I.bel.size; (HDe W p76 c76 (q10 N D ((k : Int) - 1 - pw) + 1) I.fa.1.rd (by have := f0m a0b (q10 N D ((k : Int) - 1 - pw)) 1; omega)).out) fun Al W I => ?_
     rcases bTF (decide ((((a0d (a0z (q10 N D ((k : Int) - 1 - pw) + 1))).size : Nat) : Int) > (k : Int))) with f81 | f81
     · refine zb I 81 (decide ((((a0d (a0z (q10 N D ((k : Int) - 1 - pw) + 1))).size : Nat) : Int) > (k : Int))) (true) (f81) fun Al W I => zx I 84 (fun _ => .string (a0d ((a0z (q10 N D ((k : Int) - 1 - pw) + 1)).take k))) (fun Al W I => (by rw [show (a0z (q10 N D ((k : Int) - 1 - pw) + 1)).take k = ((a0z (q10 N D ((k : Int) - 1 - pw) + 1)).take k).drop 0 from rfl, ← m0b (t0e _)]; exact j0h uSt (.inl ⟨rfl, rfl⟩) (.inr rfl) (Nat.zero_le _) (by have := oTr f81; omega))) fun Al W I => zi I 86 .i64 (pw + 1) ((pw + 1)) ((by exact iwo)) fun Al W I => a0i I J fun Al W U I => hJ _ _ _ _ _ ⟨U, ((a0z (q10 N D ((k : Int) - 1 - pw) + 1)).take k), (pw + 1), rfl, rfl, rfl, (by rw [hdec, hdT, ← hup2, if_pos rfl, if_pos (by have := oTr f81; rw [a0t] at this; omega)])⟩ (I.pick [2, 3, 4, 5, 6, 7])
     refine zb I 81 (decide ((((a0d (a0z (q10 N D ((k : Int) - 1 - pw) + 1))).size : Nat) : Int) > (k : Int))) (false) (f81) fun Al W I => a0i I J fun Al W U I => hJ _ _ _ _ _ ⟨U, (a0z (q10 N D ((k : Int) - 1 - pw) + 1)), pw, rfl, rfl, rfl, (by rw [hdec, hdT, ← hup2, if_pos rfl, if_neg (by have := oFa f81; rw [a0t] at this; omega)])⟩ (I.pick [2, 3, 4, 5, 6, 7])
   exact a0i I J fun Al W U I => hJ _ _ _ _ _ ⟨U, (a0z (q10 N D ((k : Int) - 1 - pw))), pw, rfl, rfl, rfl, (by rw [hdec, hdT, ← hup2, if_neg Bool.false_ne_true, Nat.add_zero, if_neg (by have h := fun h => Int.lt_irrefl _ (hl2.1 h); omega)])⟩ (I.pick [0, 1, 2, 3, 4, 5])
 rintro _ _ _ ⟨U2, s, pf, rfl, rfl, rfl, hs⟩ Al W I
 exact zret I (v := fun Al => .tuple #[.string (a0d s), vI pf]) fun Al W I => ⟨by rw [hs], I.below⟩
def fitE (n : Int) (a : Rin) (way : Int) : Int := if IsFm n then c0f a (fmt n).g way else 6
def fitR (n : Int) (a : Rin) (way : Int) : Vr × Nat := if a.xs.length = 0 then (⟨1, false, vz⟩, 0) else (fmt n).placedM (a0m a.g (val B32 a.xs) (val B32 a.ys) a.e (fmt n).g way) way
structure u1t (n : Int) (a : Rin) (num den : Nat) (way : Int) : Prop where
 fm : IsFm n
 wy : 1 ≤ way ∧ way ≤ 5
 r0 : c0f a (fmt n).g way = 0
 t0 : e0w a = 0
 xs : a.xs = dig B32 num
 ys : a.ys = dig B32 den
 d0 : 0 < den
 lx : (dig B32 num).length ≤ 1200
 ly : (dig B32 den).length ≤ 1200
 e : -20000 ≤ a.e ∧ a.e ≤ 20000
theorem t1r {n : Int} {a : Rin} {way : Int} (h1 : ∀ x ∈ a.xs, x < B32) (h2 : ∀ x ∈ a.ys, x < B32) (h : fitE n a way = 0) : u1t n a (val B32 a.xs) (val B32 a.ys) way := by
 unfold fitE at h
 split at h
 · rename_i hn
   have hr0 : e0w a = 0 := by
    unfold c0f at h
    by_cases h : e0w a = 0
    · exact h
    · rename_i h9; rw [if_pos h] at h9; exact absurd h9 h
   have hg0 : errG (fmt n).g = 0 := (b0r hn).g
   have hw : 1 ≤ way ∧ way ≤ 5 := by
    unfold c0f at h
    rw [hr0, hg0, if_neg (by simp), if_neg (by simp)] at h
    by_cases k : way < 1 ∨ 5 < way
    · rw [if_pos k] at h; omega
    · omega
   have hx0 : b0b a.xs = 0 ∧ b0b a.ys = 0 ∧ 0 < a.ys.length ∧ -20000 ≤ a.e ∧ a.e ≤ 20000 := by
    unfold e0w at hr0
    by_cases h1 : b0b a.xs = 0
    · rw [if_neg (by simpa using h1)] at hr0
      by_cases h2 : b0b a.ys = 0
      · rw [if_neg (by simpa using h2)] at hr0
        by_cases h3 : a.ys.length = 0 ∨ a.e < -20000 ∨ 20000 < a.e
        · rw [if_pos h3] at hr0; simp at hr0
        · exact ⟨h1, h2, by omega, by omega, by omega⟩
      · rw [if_pos h2] at hr0; exact absurd hr0 h2
    · rw [if_pos h1] at hr0; exact absurd hr0 h1
   obtain ⟨hx1, hx2, hx3, hx4⟩ := hx0
   obtain ⟨ex, lx⟩ := e0r h1 hx1
   obtain ⟨ey, ly⟩ := e0r h2 hx2
   refine ⟨hn, hw, h, hr0, ex, ey, ?_, by rw [← ex]; exact lx, by rw [← ey]; exact ly, hx4⟩
   rcases Nat.eq_zero_or_pos (val B32 a.ys) with h | h
   · rw [h, a0e] at ey; rw [ey] at hx3; simp at hx3
   · exact h
 · omega
theorem l1w (n : Int) (hn : IsFm n) : ResF (fmt n) ⟨1, false, vz⟩ := by
 have := m0c (b0r hn) false
 unfold Fm.zeroM at this
 exact this
theorem h1m (n way : Int) (u : Nat) (w : World) (U : Bt w u 186 #[.int .i64 n, .int .i64 way, .int .i64 (fmt n).g.rad, .int .i64 (fmt n).g.digs, .int .i64 (fmt n).g.lo, .int .i64 (fmt n).g.hi, .bool (fmt n).g.grad, .int .u8 (famB (fmt n)), .int .i64 0]) (hn : IsFm n) (hT : TabW w) :
 Calls Tryz.prog 52 #[.pointer (some ⟨u, 0, none⟩), .agg #[.int .i64 1, .bool false, .slice none 0 0, .int .i64 0]] w fun en w' => en = .returned (.tuple #[.string (strR n ⟨1, false, vz⟩), .int .i64 0, .int .i64 0]) ∧ Below w.heap.size w w' := by
 have := g1x n way 0 ⟨⟨1, false, 0, 0⟩, none, 0⟩ ⟨1, false, vz⟩ 0 u w U (by simp only [a0e]; exact Own.nil _ _ _ _) hn (f0i (by omega)) (l1w n hn) hT
 simp only [a0e, List.length_nil] at this
 exact this
theorem q1u (n : Int) (a : Rin) (way : Int) (w : World) (ha : InR w a) (hT : TabW w) (h0 : fitE n a way = 0) :
 Calls Tryz.prog 21 #[.int .i64 n, .agg #[.bool a.g, .slice a.p a.xs.length a.c, .slice a.q a.ys.length a.d, .int .i64 a.e], .int .i64 way] w fun en w' => en = .returned (.tuple #[.string (strR n (fitR n a way).1), .int .i64 (((fitR n a way).2 : Nat) : Int), .int .i64 0]) ∧ Below w.heap.size w w' := by
 have F := t1r ha.b1 ha.b2 h0
 have hn := F.fm
 have he : c0o n = 0 := by unfold c0o; rw [if_pos hn]
 have HG := fun W => lHd (l0f n W)
 rw [he] at HG
 have HR := fun W h1 h2 => lHd (v0b a (fmt n).g way W ⟨h1, ha.l1, ha.b1, h2, ha.l2, ha.b2⟩)
 rw [F.r0] at HR
 have HO := fun W => lHd (t0b n way W hn F.wy)
 have HZ := fun W u h => lHd (v0d (fmt n) n way 0 false u W h)
 rw [Bool.false_and] at HZ
 have HT0 := fun W u h1 h2 => lHd (h1m n way u W h1 hn h2)
 by_cases hz : a.xs.length = 0
 · have hR : fitR n a way = (⟨1, false, vz⟩, 0) := by unfold fitR; rw [if_pos hz]
   rw [hR]
   simp only
   have r1 := ha.r1
   have r2 := ha.r2
   generalize strR n ⟨1, false, vz⟩ = s at *
   generalize j0y a (fmt n).g way = P at *
   generalize fmt n = f at *
   clear F ha hR
   have I := Inv.start w [rdF .u32 a.p a.xs, rdF .u32 a.q a.ys, tabF] ⟨r1, r2, hT, True.intro⟩
   refine a0c [.v (.int .i64 n), .v (.agg #[.bool a.g, .slice a.p a.xs.length a.c, .slice a.q a.ys.length a.d, .int .i64 a.e]), .v (.int .i64 way)] I Tryz.func21 ?_
   refine zq I (fun Al W I => (HG W).out) fun Al W I => zg I (fun Al W I => (HR W I.fa.1 I.fa.2.1).out) fun Al V Iv _ hB _ kz => ?_
   rintro _ W ⟨p27, c27, rfl, -, hb⟩
   refine ⟨_, rfl, kz _ _ hb fun I => ?_⟩
   refine zg I (fun Al W I => (HO W).out) fun Al V Iv _ hB _ kz => ?_
   rintro _ W ⟨u36, rfl, hge, hB, hb⟩
   refine ⟨_, rfl, kz _ _ hb fun I => ?_⟩
   refine b1h Iv hb 3 u36 186 [(.int .i64 n), (.int .i64 way), (.int .i64 f.g.rad), (.int .i64 f.g.digs), (.int .i64 f.g.lo), (.int .i64 f.g.hi), (.bool f.g.grad), (.int .u8 (famB f)), (.int .i64 0)] hge hB fun Al hAl_36 I => ?_
   refine b1i I 37 3 u36 hAl_36 fun Al W I => zb I 42 ((a.xs.length : Int) == 0) (true) (beq_iff_eq.2 (by omega)) fun Al W I => zq I (fun Al W I => (HZ W _ (I.box 3 186 _)).out) fun Al W I => zq I (fun Al W I => (HT0 W _ (I.box 3 186 _) I.fa.2.2.1).out) fun Al W I => zrb I
 · have hxs : a.xs = dig B32 (val B32 a.xs) := F.xs
   have hn0 : 0 < val B32 a.xs := by
    rcases Nat.eq_zero_or_pos (val B32 a.xs) with h | h
    · rw [h, a0e] at hxs; rw [hxs] at hz; simp at hz
    · exact h
   have HF := fun W u h1 h2 h3 => lHd (t1l (fmt n) n way a.g a.p a.q a.c a.d (val B32 a.xs) (val B32 a.ys) a.e u W h1 h2 h3 (by have := F.lx; omega) (by have := F.ly; omega) hn0 F.d0 (by have := F.e; omega) (b0r hn) F.wy)
   have hR : fitR n a way = (fmt n).placedM (a0m a.g (val B32 a.xs) (val B32 a.ys) a.e (fmt n).g way) way := by unfold fitR; rw [if_neg hz]
   have PA := f0j (b0r hn) (neg := a.g) (num := val B32 a.xs) (den := val B32 a.ys) (e := a.e) (way := way) F.d0
   rw [← F.xs, ← F.ys, ← hR] at HF
   rw [← hR] at PA
   have HT := fun W v p c base fl u h1 h2 h3 h4 => lHd (g1x n way fl ⟨v, p, c⟩ (fitR n a way).1 base u W h1 h2 hn h3 PA.1 h4)
   have hV := PA.2
   have hs : strR n (fitR n a way).1 = a0d ((fmt n).strP ((fmt n).encP (fitR n a way).1.cls (fitR n a way).1.neg (fitR n a way).1.x)) := rfl
   rw [← hs] at HT
   have r1 := ha.r1
   have r2 := ha.r2
   clear hs PA hR F ha
   generalize strR n (fitR n a way).1 = s at *
   generalize (fitR n a way).2 = fl at *
   generalize (fitR n a way).1 = r at *
   generalize (fmt n).placedV (a0m a.g (val B32 a.xs) (val B32 a.ys) a.e (fmt n).g way) way = v at *
   generalize j0y a (fmt n).g way = P at *
   generalize fmt n = f at *
   have I := Inv.start w [rdF .u32 a.p a.xs, rdF .u32 a.q a.ys, tabF] ⟨r1, r2, hT, True.intro⟩
   refine a0c [.v (.int .i64 n), .v (.agg #[.bool a.g, .slice a.p a.xs.length a.c, .slice a.q a.ys.length a.d, .int .i64 a.e]), .v (.int .i64 way)] I Tryz.func21 ?_
   refine zq I (fun Al W I => (HG W).out) fun Al W I => zg I (fun Al W I => (HR W I.fa.1 I.fa.2.1).out) fun Al V Iv _ hB _ kz => ?_
   rintro _ W ⟨p27, c27, rfl, -, hb⟩
   refine ⟨_, rfl, kz _ _ hb fun I => ?_⟩
   refine zg I (fun Al W I => (HO W).out) fun Al V Iv _ hB _ kz => ?_
   rintro _ W ⟨u36, rfl, hge, hB, hb⟩
   refine ⟨_, rfl, kz _ _ hb fun I => ?_⟩
   refine b1h Iv hb 3 u36 186 [(.int .i64 n), (.int .i64 way), (.int .i64 f.g.rad), (.int .i64 f.g.digs), (.int .i64 f.g.lo), (.int .i64 f.g.hi), (.bool f.g.grad), (.int .u8 (famB f)), (.int .i64 0)] hge hB fun Al hAl_36 I => ?_
   refine b1i I 37 3 u36 hAl_36 fun Al W I => zb I 42 ((a.xs.length : Int) == 0) (false) (bFn (by omega)) fun Al W I => zge I 3 186 (fun Al W I => (HF W _ (I.box 3 186 _) I.fa.1 I.fa.2.1).out) fun Al V Iv _ _ kz => ?_
   rintro _ W ⟨p53, c53, rfl, o53, hO, hB⟩
   refine ⟨_, rfl, kz _ (uS f n way (fl : Int)) _ hO hB fun I => ?_⟩
   have I := I.own o53
   refine zq I (fun Al W I => (HT W v p53 c53 _ (fl : Int) _ (I.box 3 186 _) I.fa.1 hV I.fa.2.2.2.1).out) fun Al W I => zrb I
theorem l1x (n : Int) (a : Rin) (way : Int) (w : World) (ha : InR w a) (hT : TabW w) (h0 : fitE n a way ≠ 0) :
 Calls Tryz.prog 21 #[.int .i64 n, .agg #[.bool a.g, .slice a.p a.xs.length a.c, .slice a.q a.ys.length a.d, .int .i64 a.e], .int .i64 way] w fun en w' => en = .returned (.tuple #[.string (a0d []), .int .i64 0, .int .i64 (fitE n a way)]) ∧ Below w.heap.size w w' := by
 have HG := fun W => lHd (l0f n W)
 have r1 := ha.r1
 have r2 := ha.r2
 by_cases hn : IsFm n
 · have he : c0o n = 0 := by unfold c0o; rw [if_pos hn]
   rw [he] at HG
   have hE : fitE n a way = c0f a (fmt n).g way := by unfold fitE; rw [if_pos hn]
   rw [hE] at h0 ⊢
   have HR := fun W h1 h2 => lHd (v0b a (fmt n).g way W ⟨h1, ha.l1, ha.b1, h2, ha.l2, ha.b2⟩)
   generalize c0f a (fmt n).g way = er at *
   generalize j0y a (fmt n).g way = P at *
   generalize fmt n = f at *
   have I := Inv.start w [rdF .u32 a.p a.xs, rdF .u32 a.q a.ys, tabF] ⟨r1, r2, hT, True.intro⟩
   refine a0c [.v (.int .i64 n), .v (.agg #[.bool a.g, .slice a.p a.xs.length a.c, .slice a.q a.ys.length a.d, .int .i64 a.e]), .v (.int .i64 way)] I Tryz.func21 ?_
   refine zq I (fun Al W I => (HG W).out) fun Al W I => zg I (fun Al W I => (HR W I.fa.1 I.fa.2.1).out) fun Al V Iv _ hB _ kz => ?_
   rintro _ W ⟨p27, c27, rfl, -, hb⟩
   refine ⟨_, rfl, kz _ _ hb fun I => ?_⟩
   refine zb I 31 (er != 0) (true) (bne_iff_ne.2 h0) fun Al W I => zrb I
 · have he : c0o n = 6 := by unfold c0o; rw [if_neg hn]
   rw [he] at HG
   have hE : fitE n a way = 6 := by unfold fitE; rw [if_neg hn]
   rw [hE]
   generalize fmt n = f at *
   have I := Inv.start w [] True.intro
   refine a0c [.v (.int .i64 n), .v (.agg #[.bool a.g, .slice a.p a.xs.length a.c, .slice a.q a.ys.length a.d, .int .i64 a.e]), .v (.int .i64 way)] I Tryz.func21 ?_
   refine zq I (fun Al W I => (HG W).out) fun Al W I => zrb I
theorem q1v {f : Fm} (G : c0g f) {r : Vr} (R : ResF f r) : CanF f r.cls r.neg r.x :=
 ⟨R.c, R.c1, fun h => ⟨e1z G (R.c2 h).1 (R.c2 h).2.2.1, (R.c2 h).2.1, (R.c2 h).2.2.1, (R.c2 h).2.2.2⟩, R.c3, R.c4, R.c5⟩
theorem l0j {n : Int} (hn : IsFm n) {r : Vr} (R : ResF (fmt n) r) : a0p n (strR n r) = 0 ∧ refD n (strR n r) = r := by
 have G := b0r hn
 have C := q1v G R
 have hlt := p1i G (cls := r.cls) (g := r.neg) (d := r.x) (fun h => (C.c2 h).1)
 have hs : (strR n r).size = (fmt n).size := by unfold strR; rw [a0t]; exact p1h _ _ _ _
 refine ⟨b0h.2 ⟨hn, hs⟩, ?_⟩
 have hv := p1k G C
 obtain ⟨q1, q2, q3⟩ := e1y (f := fmt n) (neg := ((fmt n).encP r.cls r.neg r.x).neg) hlt.1 hlt.2
 unfold refD Fm.refN Fm.decN strR Fm.strP
 rw [x0u G hlt.1 hlt.2, q1, q2, q3, hv]
 by_cases h2 : r.cls = 2
 · rw [if_pos h2]
 · rw [if_neg h2, show (⟨false, 0, 0⟩ : Dv) = r.x from (R.x0 h2).symm]
theorem x0x {l : List Nat} (h : errT l.length (numl l) = 0) : b1x (ratL l) := by
 unfold errT at h
 by_cases h1 : 400 < l.length
 · rw [if_pos h1] at h; cases h
 · rw [if_neg h1] at h
   cases hn : numl l with
   | none => rw [hn] at h; cases h
   | some q =>
    rw [hn] at h
    by_cases h2 : q.pow < -6000 ∨ 6000 < q.pow
    · have h : (if q.pow < -6000 ∨ 6000 < q.pow then (3 : Int) else 0) = 0 := h
      rw [if_pos h2] at h; cases h
    · rw [(h1h h1 hn h2).2]
      have hd := v0p hn
      exact g1n hd.1 (by omega) (by omega)
def fitQ (n : Int) (R : Bool × Nat × Nat × Int) (way : Int) : Vr × Nat := if R.2.1 = 0 then (⟨1, false, vz⟩, 0) else (fmt n).placedM (a0m R.1 R.2.1 R.2.2.1 R.2.2.2 (fmt n).g way) way
def errQ (n way : Int) : Int := if IsFm n then (if 1 ≤ way ∧ way ≤ 5 then 0 else 6) else 6
def outQ (n way : Int) (R : Bool × Nat × Nat × Int) : ByteArray := if errQ n way = 0 then strR n (fitQ n R way).1 else a0d []
def flQ (n way : Int) (R : Bool × Nat × Nat × Int) : Nat := if errQ n way = 0 then (fitQ n R way).2 else 0
theorem z0r (n way : Int) (R : Bool × Nat × Nat × Int) (p q : OA) (c d b1 b2 : Nat) (w : World) (hp : Own w b1 .u32 139 p c (dig B32 R.2.1)) (hq : Own w b2 .u32 139 q d (dig B32 R.2.2.1)) (hR : b1x R) (hT : TabW w) :
 Calls Tryz.prog 21 #[.int .i64 n, .agg #[.bool R.1, .slice p (dig B32 R.2.1).length c, .slice q (dig B32 R.2.2.1).length d, .int .i64 R.2.2.2], .int .i64 way] w fun en w' => en = .returned (.tuple #[.string (outQ n way R), .int .i64 ((flQ n way R : Nat) : Int), .int .i64 (errQ n way)]) ∧ Below w.heap.size w w' := by
 obtain ⟨hd0, hln, hld, he⟩ := hR
 have ha : InR w ⟨R.1, p, c, dig B32 R.2.1, q, d, dig B32 R.2.2.1, R.2.2.2⟩ := ⟨hp.rd, by show (dig B32 R.2.1).length ≤ _; omega, c0c a0b _, hq.rd, by show (dig B32 R.2.2.1).length ≤ _; omega, c0c a0b _⟩
 have hzl := a0h a0b R.2.1
 have hyl := a0h a0b R.2.2.1
 have eF : fitR n ⟨R.1, p, c, dig B32 R.2.1, q, d, dig B32 R.2.2.1, R.2.2.2⟩ way = fitQ n R way := by
  unfold fitR fitQ
  simp only [b0o a0b]
  by_cases h : R.2.1 = 0
  · rw [if_pos h, if_pos (hzl.2 h)]
  · rw [if_neg h, if_neg (fun k => h (hzl.1 k))]
 have eE : fitE n ⟨R.1, p, c, dig B32 R.2.1, q, d, dig B32 R.2.2.1, R.2.2.2⟩ way = errQ n way := by
  unfold fitE errQ
  by_cases hn : IsFm n
  · rw [if_pos hn, if_pos hn]
    have h1 : e0w ⟨R.1, p, c, dig B32 R.2.1, q, d, dig B32 R.2.2.1, R.2.2.2⟩ = 0 := by
     unfold e0w
     simp only [Go.Slip.p0r, if_neg (show ¬ 1200 < (dig B32 R.2.1).length by omega), if_neg (show ¬ 1200 < (dig B32 R.2.2.1).length by omega)]
     rw [if_neg (by simp), if_neg (by simp), if_neg (by omega)]
    unfold c0f
    rw [h1, (b0r hn).g, if_neg (by simp), if_neg (by simp)]
    by_cases hw : 1 ≤ way ∧ way ≤ 5
    · rw [if_neg (by omega), if_pos hw]
    · rw [if_pos (by omega), if_neg hw]
  · rw [if_neg hn, if_neg hn]
 by_cases h0 : errQ n way = 0
 · have := q1u n _ way w ha hT (by rw [eE]; exact h0)
   rw [eF] at this
   unfold outQ flQ
   rw [if_pos h0, if_pos h0, h0]
   exact this
 · have := l1x n _ way w ha hT (by rw [eE]; exact h0)
   rw [eE] at this
   unfold outQ flQ
   rw [if_neg h0, if_neg h0]
   exact this
def a0j (n way : Int) (l : List Nat) : Int := if IsFm n then (if errT l.length (numl l) = 0 then errQ n way else errT l.length (numl l)) else 6
def outP (n way : Int) (l : List Nat) : ByteArray := if a0j n way l = 0 then strR n (fitQ n (ratL l) way).1 else a0d []
def flP' (n way : Int) (l : List Nat) : Nat := if a0j n way l = 0 then (fitQ n (ratL l) way).2 else 0
theorem g0u (n : Int) (t : ByteArray) (way : Int) (w : World) (hT : TabW w) : Calls Tryz.prog 10 #[.int .i64 n, .string t, .int .i64 way] w fun en w' => en = .returned (.tuple #[.string (outP n way (a0a t)), .int .i64 ((flP' n way (a0a t) : Nat) : Int), .int .i64 (a0j n way (a0a t))]) ∧ Below w.heap.size w w' := by
 have HS := fun W => lHd (z0d n W)
 have HR := fun W h => lHd (v0s t W h)
 have hok := @x0x (a0a t)
 have HF := fun p q c d b1 b2 W h1 h2 h3 h4 => lHd (z0r n way (ratL (a0a t)) p q c d b1 b2 W h1 h2 h3 h4)
 have e1 : c0o n ≠ 0 → a0j n way (a0a t) = c0o n ∧ outP n way (a0a t) = a0d [] ∧ flP' n way (a0a t) = 0 := fun h => by
  have hn : ¬ IsFm n := fun k => h (by unfold c0o; rw [if_pos k])
  have h1 : a0j n way (a0a t) = 6 := by unfold a0j; rw [if_neg hn]
  have h2 : c0o n = 6 := by unfold c0o; rw [if_neg hn]
  unfold outP flP'
  rw [h1, h2]
  exact ⟨rfl, rfl, rfl⟩
 have e2 : c0o n = 0 → errT (a0a t).length (numl (a0a t)) ≠ 0 → a0j n way (a0a t) = errT (a0a t).length (numl (a0a t)) ∧ outP n way (a0a t) = a0d [] ∧ flP' n way (a0a t) = 0 := fun h h' => by
  have hn : IsFm n := by unfold c0o at h; split at h; assumption; omega
  have h1 : a0j n way (a0a t) = errT (a0a t).length (numl (a0a t)) := by unfold a0j; rw [if_pos hn, if_neg h']
  unfold outP flP'
  rw [h1, if_neg h', if_neg h']
  exact ⟨rfl, rfl, rfl⟩
 have e3 : c0o n = 0 → errT (a0a t).length (numl (a0a t)) = 0 → a0j n way (a0a t) = errQ n way ∧ outP n way (a0a t) = outQ n way (ratL (a0a t)) ∧ flP' n way (a0a t) = flQ n way (ratL (a0a t)) := fun h h' => by
  have hn : IsFm n := by unfold c0o at h; split at h; assumption; omega
  have h1 : a0j n way (a0a t) = errQ n way := by unfold a0j; rw [if_pos hn, if_pos h']
  unfold outP flP' outQ flQ
  rw [h1]
  exact ⟨rfl, rfl, rfl⟩
 generalize a0j n way (a0a t) = ep at *
 generalize outP n way (a0a t) = op at *
 generalize flP' n way (a0a t) = fp at *
 generalize errT (a0a t).length (numl (a0a t)) = er at *
 generalize outQ n way (ratL (a0a t)) = oq at *
 generalize flQ n way (ratL (a0a t)) = fq at *
 generalize errQ n way = eq at *
 generalize ratL (a0a t) = R at *
 generalize (fmt n).size = sz at *
 generalize c0o n = ef at *
 have I := Inv.start w [tabF] ⟨hT, True.intro⟩
 refine a0c [.v (.int .i64 n), .v (.string t), .v (.int .i64 way)] I Tryz.func10 ?_
 refine zq I (fun Al W I => (HS W).out) fun Al W I => ?_
 rcases bTF (ef != 0) with f19 | f19
 · refine zb I 19 (ef != 0) (true) (f19) fun Al W I => zret I (v := fun Al => .tuple #[Go.Value.string (ByteArray.mk #[]), vI 0, vI ef]) fun Al W I => ?_
   (obtain ⟨h1, h2, h3⟩ := e1 (by simpa using f19); rw [h1, h2, h3]; exact ⟨rfl, I.below⟩)
 refine zb I 19 (ef != 0) (false) (f19) fun Al W I => zg I (fun Al W I => (HR W I.fa.1).out) fun Al V Iv _ hB _ kz => ?_
 rintro _ W ⟨p23, c23, q23, d23, rfl, o23, r23, hb⟩
 refine ⟨_, rfl, kz _ _ hb fun I => ?_⟩
 have I := I.own o23
 have I := I.own r23
 rcases bTF (er != 0) with f27 | f27
 · refine zb I 27 (er != 0) (true) (f27) fun Al W I => zret I (v := fun Al => .tuple #[Go.Value.string (ByteArray.mk #[]), vI 0, vI er]) fun Al W I => ?_
   first | (obtain ⟨h1, h2, h3⟩ := e1 (by simpa using f19); rw [h1, h2, h3]; exact ⟨rfl, I.below⟩) | (obtain ⟨h1, h2, h3⟩ := e2 (by simpa using f19) (by simpa using f27); rw [h1, h2, h3]; exact ⟨rfl, I.below⟩) | (obtain ⟨h1, h2, h3⟩ := e3 (by simpa using f19) (by simpa using f27); rw [h1, h2, h3]; exact ⟨rfl, I.below⟩)
 refine zb I 27 (er != 0) (false) (f27) fun Al W I => zq I (fun Al W I => (HF p23 q23 c23 d23 _ _ W I.fa.2.1 I.fa.1 (hok (by simpa using f27)) I.fa.2.2.1).out) fun Al W I => zret I (v := fun Al => .tuple #[.string oq, vI (fq : Int), vI eq]) fun Al W I => ?_
 first | (obtain ⟨h1, h2, h3⟩ := e1 (by simpa using f19); rw [h1, h2, h3]; exact ⟨rfl, I.below⟩) | (obtain ⟨h1, h2, h3⟩ := e2 (by simpa using f19) (by simpa using f27); rw [h1, h2, h3]; exact ⟨rfl, I.below⟩) | (obtain ⟨h1, h2, h3⟩ := e3 (by simpa using f19) (by simpa using f27); rw [h1, h2, h3]; exact ⟨rfl, I.below⟩)
end Go.Proofs.YtgbbhlginbmghaaGreatDoor
