/- Bounds of what is rounded. Plain arithmetic. No program is in sight here. -/
import Derived.Deep.RegionLaw
import Derived.Deep.LoopGhost
import Derived.Maps.AppendAt
import Derived.Maps.Own
import Derived.Outline
import Derived.Test.YtmacohmclpnphaaGreatDoorZe1
import Derived.Test.YtmacohmclpnphaaGreatDoorZe2
import Derived.Test.YtmacohmclpnphaaGreatDoorZe3
set_option maxHeartbeats 8000000
set_option maxRecDepth 100000
namespace Go.Slip
theorem q_lt {num den : Nat} (hd : 0 < den) {e : Int} {w D : Nat} (hD : 1 ≤ D) {k : Int} (h : ¬ e0i num den e w D (k + 1)) : qP num den (e - w * k) < 2 ^ (w * D) := by
 rcases Nat.lt_or_ge (qP num den (e - w * k)) (2 ^ (w * D)) with h1 | h1
 · exact h1
 · exfalso
   refine h ((z0y hd e w D (k + 1)).2 ?_)
   have h2 := (f1o hd e ((w : Int) * k) _).1 h1
   have e1 : w * D = w * (D - 1) + w := by
    obtain ⟨c, rfl⟩ : ∃ c, D = c + 1 := ⟨D - 1, by omega⟩
    simp only [Nat.add_sub_cancel]; grind
   have e2 : 2 ^ (w * D) * den = 2 ^ (w * (D - 1)) * den * 2 ^ w := by rw [e1, Nat.pow_add]; grind
   rw [e2] at h2
   have h3 := (h1h (a := 2 ^ (w * (D - 1)) * den) (x := (w : Int) * k) w).2
   rw [show (w : Int) * (k + 1) = w * k + w by rw [Int.mul_add]; simp]
   exact z0x h3 h2
theorem z0z (g : Gd) (K : Int) : K ≤ powK g K := by unfold powK; split <;> omega
theorem a1a {num den : Nat} (hd : 0 < den) {e : Int} {w D : Nat} {K : Int} (hK : IsK num den e w D K) {k : Int} (hk : K ≤ k) : ¬ e0i num den e w D (k + 1) := fun h => by
 have := hK.le hd h
 omega
theorem n0v {g : Gd} (h : errG g = 0) : -17000 ≤ wid g * g.lo ∧ wid g * g.hi ≤ 17000 ∧ (wid g : Int) * g.digs ≤ 480 := by
 have G := c0c h
 have d1 := G.d1
 have d2 := G.d2
 unfold errG at h
 by_cases h1 : g.rad ≠ 2 ∧ g.rad ≠ 16
 · rw [if_pos h1] at h; simp at h
 · rw [if_neg h1] at h
   by_cases h2 : g.digs < 1 ∨ 120 < g.digs ∨ farG g g.lo ∨ farG g g.hi ∨ g.hi < g.lo
   · rw [if_pos h2] at h; simp at h
   · unfold farG most at h2
     unfold wid
     by_cases h3 : g.rad = 16
     · simp only [if_pos h3] at *; omega
     · simp only [if_neg h3] at *; omega
theorem v0c {neg : Bool} {num den : Nat} {e : Int} {g : Gd} {way K : Int} (hd : 0 < den) (G : h0v g) (hK : IsK num den e (wid g) g.digs.toNat K) : (fitK neg num den e g way K).d < 2 ^ (wid g * g.digs.toNat) := by
 have hD : 1 ≤ g.digs.toNat := by have := G.d1; omega
 have hq := q_lt hd hD (a1a hd hK (z0z g K))
 have hww : wid g * (g.digs.toNat - 1) < wid g * g.digs.toNat := Nat.mul_lt_mul_of_pos_left (by omega) (b0f g).1
 show digP neg num den e (wid g) g.digs.toNat way (powK g K) < _
 unfold digP
 by_cases hl : g0m neg num den e (wid g) g.digs.toNat way (powK g K)
 · rw [if_pos hl]; exact Nat.pow_lt_pow_right (by omega) hww
 · rw [if_neg hl]
   unfold g0m at hl
   by_cases hu : upP neg num den e (wid g) way (powK g K) = true
   · exact (a0w _ _).1 (by have : ¬ wid g * g.digs.toNat < blen (dUp neg num den e (wid g) way (powK g K)) := fun h => hl ⟨hu, h⟩; omega)
   · have : upP neg num den e (wid g) way (powK g K) = false := by simpa using hu
     unfold dUp; rw [this]; simpa using hq
theorem d1a {a : Dv} {g : Gd} (hg : errG g = 0) (hB : Bare a) (hin : b0r a g = true) : -17000 ≤ a.e ∧ a.e ≤ 17480 := by
 have G := c0c hg
 obtain ⟨w1, w2, w3⟩ := n0v hg
 by_cases h0 : a.m = 0
 · rw [hB.zero h0]; simp
 · unfold b0r at hin
   rw [if_neg h0] at hin
   by_cases h1 : a.e < wid g * g.lo ∨ wid g * (g.hi + g.digs) < topD a
   · rw [if_pos h1] at hin; simp at hin
   · have ht : topD a = a.e + blen a.m := rfl
     rw [Int.mul_add] at h1
     omega
structure Fm where
 size : Nat
 E : Nat
 F : Nat
 g : Gd
 fam : Nat
 ext : Bool
def fmt (n : Int) : Fm :=
 if n = 1 then ⟨4, 8, 23, ⟨2, 24, -149, 104, true⟩, 1, false⟩
 else if n = 2 then ⟨8, 11, 52, ⟨2, 53, -1074, 971, true⟩, 1, false⟩
 else if n = 3 then ⟨10, 15, 64, ⟨2, 64, -16445, 16320, true⟩, 1, true⟩
 else if n = 4 then ⟨4, 7, 24, ⟨16, 6, -70, 57, false⟩, 2, false⟩
 else if n = 5 then ⟨8, 7, 56, ⟨16, 14, -78, 49, false⟩, 2, false⟩
 else if n = 6 then ⟨4, 8, 23, ⟨2, 24, -151, 103, false⟩, 3, false⟩
 else if n = 7 then ⟨8, 8, 55, ⟨2, 56, -183, 71, false⟩, 3, false⟩
 else if n = 8 then ⟨8, 11, 52, ⟨2, 53, -1076, 970, false⟩, 3, false⟩
 else ⟨0, 0, 0, ⟨0, 0, 0, 0, false⟩, 0, false⟩
def IsFm (n : Int) : Prop := 1 ≤ n ∧ n ≤ 8
instance (n : Int) : Decidable (IsFm n) := by unfold IsFm; exact inferInstance
def Fm.hid (f : Fm) : Bool := !(f.fam == 2) && !f.ext
def Fm.inf (f : Fm) : Bool := f.fam == 1
def Fm.res (f : Fm) : Bool := f.fam == 3
def Fm.ord (f : Fm) : Nat := if f.ext then 2 else if f.fam = 3 then 1 else 0
structure c0l (f : Fm) : Prop where
 bits : 1 + f.E + f.F = 8 * f.size
 sz : f.size = 4 ∨ f.size = 8 ∨ f.size = 10
 e1 : 7 ≤ f.E
 e2 : f.E ≤ 15
 f1 : 23 ≤ f.F
 f2 : f.F ≤ 64
 g : errG f.g = 0
 fam : f.fam = 1 ∨ f.fam = 2 ∨ f.fam = 3
 ext : f.ext = true → f.fam = 1 ∧ f.F = 64 ∧ f.g.digs = 64
 w : wid f.g = if f.fam = 2 then 4 else 1
 rad : f.g.rad = if f.fam = 2 then 16 else 2
 grad : f.g.grad = decide (f.fam = 1)
 lo : -16445 ≤ f.g.lo ∧ f.g.lo ≤ -70
 hi : f.g.hi ≤ 16320
 hi1 : f.fam = 1 → f.g.hi = f.g.lo + (2 ^ f.E : Nat) - 3
 hi2 : f.fam = 2 → f.g.hi = f.g.lo + (2 ^ f.E : Nat) - 1
 hi3 : f.fam = 3 → f.g.hi = f.g.lo + (2 ^ f.E : Nat) - 2
 d2 : f.fam = 2 → 4 * f.g.digs = f.F
 d1 : f.fam ≠ 2 → f.ext = false → f.g.digs = f.F + 1
theorem l0b {n : Int} (h : IsFm n) : n = 1 ∨ n = 2 ∨ n = 3 ∨ n = 4 ∨ n = 5 ∨ n = 6 ∨ n = 7 ∨ n = 8 := by unfold IsFm at h; omega
theorem e0k {n : Int} (h : IsFm n) : c0l (fmt n) := by
 rcases l0b h with rfl | rfl | rfl | rfl | rfl | rfl | rfl | rfl <;> exact ⟨by decide, by decide, by decide, by decide, by decide, by decide, by decide, by decide, by decide, by decide, by decide, by decide, by decide, by decide, by decide, by decide, by decide, by decide, by decide⟩
def plc (o n i : Nat) : Nat := if o = 2 then n - 1 - i else if o = 1 then i + 1 - 2 * (i % 2) else i
def ordL (o : Nat) (xs : List Nat) : List Nat := (List.range xs.length).map fun i => dg xs (plc o xs.length i)
theorem b0p (o : Nat) (xs : List Nat) : (ordL o xs).length = xs.length := by simp [ordL]
theorem k0g {o : Nat} {xs : List Nat} {i : Nat} (h : i < xs.length) : dg (ordL o xs) i = dg xs (plc o xs.length i) := by
 unfold ordL
 rw [dg, List.getElem?_map, List.getElem?_range h]
 rfl
theorem n0w {xs ys : List Nat} (hl : xs.length = ys.length) (h : ∀ i, i < xs.length → dg xs i = dg ys i) : xs = ys := by
 apply List.ext_getElem hl
 intro i h1 h2
 have := h i h1
 unfold dg at this
 rw [List.getElem?_eq_getElem h1, List.getElem?_eq_getElem h2] at this
 simpa using this
theorem a1b {o n i : Nat} (ho : o = 1 → n % 2 = 0) (h : i < n) : plc o n i < n := by
 unfold plc
 split
 · omega
 · split
   · rename_i k
     have := ho k
     omega
   · exact h
theorem h1i {o n i : Nat} (h : i < n) : plc o n (plc o n i) = i := by
 unfold plc
 split
 · omega
 · split
   · omega
   · rfl
theorem h0r {o : Nat} {xs : List Nat} (ho : o = 1 → xs.length % 2 = 0) (h : ∀ x ∈ xs, x < 256) : ∀ x ∈ ordL o xs, x < 256 := by
 intro x hx
 unfold ordL at hx
 rw [List.mem_map] at hx
 obtain ⟨i, hi, rfl⟩ := hx
 rw [List.mem_range] at hi
 have k := a1b ho hi
 unfold dg
 rw [List.getElem?_eq_getElem k]
 exact h _ (List.getElem_mem k)
theorem a1c {o : Nat} {xs : List Nat} (ho : o = 1 → xs.length % 2 = 0) : ordL o (ordL o xs) = xs := by
 apply n0w (by rw [b0p, b0p])
 intro i hi
 rw [b0p, b0p] at hi
 rw [k0g (by rw [b0p]; exact hi), k0g (by rw [b0p]; exact a1b ho hi), b0p, h1i hi]
theorem a1d (xs : List Nat) : ordL 0 xs = xs := n0w (b0p _ _) fun i hi => by rw [b0p] at hi; rw [k0g hi]; rfl
theorem d1b (xs : List Nat) : ordL 2 xs = xs.reverse := n0w (by rw [b0p, List.length_reverse]) fun i hi => by rw [b0p] at hi; rw [k0g hi, n0j hi]; rfl
/-! ### What a pattern's number is -/
def Fm.neg (f : Fm) (N : Nat) : Bool := N / 2 ^ f.F / 2 ^ f.E == 1
def Fm.exp (f : Fm) (N : Nat) : Nat := N / 2 ^ f.F % 2 ^ f.E
def Fm.frac (f : Fm) (N : Nat) : Nat := N % 2 ^ f.F
structure Dc where
 cls : Nat
 m : Nat
 p : Int
def Fm.dec (f : Fm) (neg : Bool) (e frac : Nat) : Dc :=
 if f.fam = 2 then ⟨2, frac, f.g.lo + e⟩
 else if f.fam = 1 ∧ e = 2 ^ f.E - 1 then (if (f.ext = false ∧ frac = 0) ∨ (f.ext = true ∧ frac = 2 ^ 63) then ⟨3, 0, 0⟩ else ⟨4, 0, 0⟩)
 else if f.fam = 3 ∧ e = 0 then (if neg then ⟨5, 0, 0⟩ else ⟨1, 0, 0⟩)
 else if e = 0 then ⟨2, frac, f.g.lo⟩
 else if f.ext = false then ⟨2, frac + 2 ^ f.F, f.g.lo + e - 1⟩
 else if frac < 2 ^ 63 then ⟨4, 0, 0⟩
 else ⟨2, frac, f.g.lo + e - 1⟩
def Dc.c (d : Dc) : Nat := if d.cls = 2 ∧ d.m = 0 then 1 else d.cls
theorem a1e (f : Fm) (neg : Bool) (e frac : Nat) : (f.dec neg e frac).cls = 1 ∨ (f.dec neg e frac).cls = 2 ∨ (f.dec neg e frac).cls = 3 ∨ (f.dec neg e frac).cls = 4 ∨ (f.dec neg e frac).cls = 5 := by
 unfold Fm.dec
 repeat' split
 all_goals simp
theorem h1j {f : Fm} (neg : Bool) {e frac : Nat} (h : frac < 2 ^ f.F) : (f.dec neg e frac).m < 2 ^ (f.F + 1) := by
 have h1 : 2 ^ (f.F + 1) = 2 * 2 ^ f.F := by rw [Nat.pow_succ]; omega
 have h2 : 0 < 2 ^ f.F := Nat.pow_pos (by omega)
 unfold Fm.dec
 repeat' split
 all_goals simp only
 all_goals omega
theorem j1y {f : Fm} (G : c0l f) (neg : Bool) {e frac : Nat} (h : e < 2 ^ f.E) : -16445 ≤ (f.dec neg e frac).p ∧ (f.dec neg e frac).p ≤ 16323 := by
 have h1 := G.lo
 have h2 := G.hi
 have h3 := G.hi1
 have h4 := G.hi2
 have h5 := G.hi3
 have h6 := G.fam
 unfold Fm.dec
 generalize 2 ^ f.E = T at *
 repeat' split
 all_goals simp only
 all_goals omega
structure Vl where
 cls : Nat
 neg : Bool
 d : Nat
 pow : Int
structure Vr where
 cls : Nat
 neg : Bool
 x : Dv
def Fm.vl (f : Fm) (neg : Bool) (d : Dc) : Vl := ⟨d.c, if d.c ≤ 3 then neg else false, if d.c = 2 then d.m / 2 ^ (tz d.m / wid f.g * wid f.g) else 0, if d.c = 2 then d.p + (tz d.m / wid f.g : Nat) else 0⟩
def Fm.vr (f : Fm) (neg : Bool) (d : Dc) : Vr := ⟨d.c, if d.c ≤ 3 then neg else false, if d.c = 2 then bare ⟨neg, d.m, wid f.g * d.p⟩ else ⟨false, 0, 0⟩⟩
def Fm.decN (f : Fm) (N : Nat) : Dc := f.dec (f.neg N) (f.exp N) (f.frac N)
def Fm.valN (f : Fm) (N : Nat) : Vl := f.vl (f.neg N) (f.decN N)
def Fm.refN (f : Fm) (N : Nat) : Vr := f.vr (f.neg N) (f.decN N)
theorem v0d {f : Fm} {x : Bool} {r : List Bool} (h : r.length = f.E + f.F) : f.neg (vb (x :: r)) = x := by
 unfold Fm.neg
 rw [Nat.div_div_eq_div_mul, ← Nat.pow_add, Nat.add_comm f.F, ← h]
 exact j1x x r
theorem d1c {f : Fm} {x : Bool} {r : List Bool} (h : r.length = f.E + f.F) : vb (x :: r) / 2 ^ f.F = vb (x :: r.take f.E) := by
 have := h1d (x :: r) (1 + f.E)
 rw [List.length_cons, h, show f.E + f.F + 1 - (1 + f.E) = f.F by omega, Nat.add_comm 1, List.take_succ_cons] at this
 exact this.symm
theorem v0e {f : Fm} {x : Bool} {r : List Bool} (h : r.length = f.E + f.F) : f.exp (vb (x :: r)) = vb (r.take f.E) := by
 unfold Fm.exp
 rw [d1c h]
 have h2 : (r.take f.E).length = f.E := by rw [List.length_take]; omega
 have := h1f x (r.take f.E)
 rw [h2] at this
 exact this
theorem r0a {f : Fm} {x : Bool} {r : List Bool} (h : r.length = f.E + f.F) : f.frac (vb (x :: r)) = vb (r.drop f.E) := by
 unfold Fm.frac
 have := h1e (x :: r) (f.E + 1)
 rw [List.length_cons, h, show f.E + f.F + 1 - (f.E + 1) = f.F by omega, List.drop_succ_cons] at this
 exact this.symm
theorem r0b (r : List Bool) (i : Nat) (h : i < r.length) : vb (r.take (i + 1)) = 2 * vb (r.take i) + r[i].toNat := by
 rw [← List.take_append_getElem h, z0p]
theorem p0h (r : List Bool) (i : Nat) (h : i < r.length) : (r.take (i + 1)).all id = ((r.take i).all id && r[i]) := by
 rw [← List.take_append_getElem h, List.all_append]
 simp
def n0d : Nat → Nat → List Bool
 | _, 0 => []
 | a, n + 1 => n0d (a / 2) n ++ [a % 2 == 1]
theorem c0v : ∀ (n a : Nat), (n0d a n).length = n
 | 0, _ => rfl
 | n + 1, a => by rw [n0d, List.length_append, c0v n]; rfl
theorem j0c : ∀ (n a : Nat), vb (n0d a n) = a % 2 ^ n
 | 0, a => by simp [n0d, vb, Nat.mod_one]
 | n + 1, a => by
  rw [n0d, z0p, j0c n]
  have h1 : a % 2 ^ (n + 1) = a % 2 + 2 * (a / 2 % 2 ^ n) := by
   rw [Nat.pow_succ, Nat.mul_comm (2 ^ n) 2, Nat.mod_mul]
  have h2 : (a % 2 == 1).toNat = a % 2 := by
   rcases Nat.mod_two_eq_zero_or_one a with h | h <;> rw [h] <;> rfl
  omega
def Fm.pat (f : Fm) (neg : Bool) (e frac : Nat) : Nat := (neg.toNat * 2 ^ f.E + e) * 2 ^ f.F + frac
def d0k : Nat → Nat → List Nat
 | _, 0 => []
 | a, n + 1 => d0k (a / 256) n ++ [a % 256]
theorem d0e : ∀ (n a : Nat), (d0k a n).length = n
 | 0, _ => rfl
 | n + 1, a => by rw [d0k, List.length_append, d0e n]; rfl
theorem r0c : ∀ (n a : Nat), ∀ x ∈ d0k a n, x < 256
 | 0, _, x, h => by simp [d0k] at h
 | n + 1, a, x, h => by
  rw [d0k, List.mem_append] at h
  rcases h with h | h
  · exact r0c n _ x h
  · rw [List.mem_singleton] at h
    omega
theorem r0d : ∀ (n a : Nat), be (d0k a n) = a % 2 ^ (8 * n)
 | 0, a => by simp [d0k, be, Nat.mod_one]
 | n + 1, a => by
  rw [d0k, z0q, r0d n]
  rw [show 8 * (n + 1) = 8 * n + 8 by omega, Nat.pow_add, Nat.mul_comm (2 ^ (8 * n)), Nat.mod_mul]
  rw [show (2 : Nat) ^ 8 = 256 from rfl]
  omega
theorem w0n (l : List Nat) (x i : Nat) (h : i < l.length) : dg (l ++ [x]) i = dg l i := by
 unfold dg
 rw [List.getElem?_append_left h]
theorem r0e : ∀ (n a i : Nat), i < n → dg (d0k a n) i = a / 2 ^ (8 * (n - 1 - i)) % 256
 | 0, _, _, h => by omega
 | n + 1, a, i, h => by
  rw [d0k]
  by_cases h2 : i < n
  · rw [w0n _ _ _ (by rw [d0e]; exact h2), r0e n _ i h2, Nat.div_div_eq_div_mul]
    congr 2
    rw [show (256 : Nat) = 2 ^ 8 from rfl, ← Nat.pow_add]
    congr 1
    omega
  · obtain rfl : i = n := by omega
    unfold dg
    rw [List.getElem?_append_right (by rw [d0e]; exact Nat.le_refl _), d0e]
    simp
def Fm.str (f : Fm) (neg : Bool) (e frac : Nat) : List Nat := ordL f.ord (d0k (f.pat neg e frac) f.size)
def Fm.bits (f : Fm) (neg : Bool) (e frac : Nat) : List Bool := neg :: (n0d e f.E ++ n0d frac f.F)
theorem d1d (f : Fm) (neg : Bool) (e frac : Nat) : (f.bits neg e frac).length = 1 + f.E + f.F := by
 unfold Fm.bits
 rw [List.length_cons, List.length_append, c0v, c0v]
 omega
theorem v0f {f : Fm} {neg : Bool} {e frac : Nat} (he : e < 2 ^ f.E) (hf : frac < 2 ^ f.F) : vb (f.bits neg e frac) = f.pat neg e frac := by
 unfold Fm.bits Fm.pat
 rw [k0d, h0b, j0c, j0c, c0v, List.length_append, c0v, c0v, Nat.mod_eq_of_lt he, Nat.mod_eq_of_lt hf, Nat.pow_add, Nat.add_mul, Nat.mul_assoc]
 omega
theorem h1k (f : Fm) (neg : Bool) (e frac : Nat) : (f.str neg e frac).length = f.size := by unfold Fm.str; rw [b0p, d0e]
theorem f1p {f : Fm} (G : c0l f) {neg : Bool} {e frac : Nat} (he : e < 2 ^ f.E) (hf : frac < 2 ^ f.F) : f.pat neg e frac < 2 ^ (8 * f.size) := by
 rw [← G.bits, ← v0f he hf, ← d1d f neg e frac]
 exact k0e _
theorem j1z {f : Fm} (G : c0l f) {neg : Bool} {e frac : Nat} (he : e < 2 ^ f.E) (hf : frac < 2 ^ f.F) : be (ordL f.ord (f.str neg e frac)) = f.pat neg e frac := by
 have ho : f.ord = 1 → f.size % 2 = 0 := fun _ => by have := G.sz; omega
 unfold Fm.str
 rw [a1c (by rw [d0e]; exact ho), r0d, Nat.mod_eq_of_lt (f1p G he hf)]
theorem a1f {f : Fm} {neg : Bool} {e frac : Nat} (he : e < 2 ^ f.E) (hf : frac < 2 ^ f.F) : f.neg (f.pat neg e frac) = neg ∧ f.exp (f.pat neg e frac) = e ∧ f.frac (f.pat neg e frac) = frac := by
 rw [← v0f he hf]
 unfold Fm.bits
 have hl : (n0d e f.E ++ n0d frac f.F).length = f.E + f.F := by rw [List.length_append, c0v, c0v]
 refine ⟨v0d hl, ?_, ?_⟩
 · rw [v0e hl, List.take_left' (c0v _ _), j0c, Nat.mod_eq_of_lt he]
 · rw [r0a hl, List.drop_left' (c0v _ _), j0c, Nat.mod_eq_of_lt hf]
end Go.Slip
namespace Go.Proofs.YtmacohmclpnphaaGreatDoor
open Go.RowKit Go.Slip
theorem a1g (p : Option Addr) (n c : Nat) (a d : Nat) (w : World) (hp : Rd w .u32 p (dig B32 a)) (hn : n = (dig B32 a).length) (hl : (dig B32 a).length ≤ 1000000000) (hd0 : 0 < d) (hd1 : d < 4294967296) :
 Calls Tryz.prog 171 #[.slice p n c, .int .u32 d] w fun e w' => ∃ p' c', e = .returned (.tuple #[.slice p' (dig B32 (a / d)).length c', .int .u32 (a % d : Nat)]) ∧
  Own w' w.heap.size .u32 141 p' c' (dig B32 (a / d)) ∧ Below w.heap.size w w' := by
 subst hn
 have HA := hi0 (a0u a0a a)
 have HXL := hi0 (b0a a0a a)
 generalize dig B32 a = xs at hp hl HA HXL ⊢
 have hsx := hp.solid
 go_enter Tryz.func171, Tryz.ntmps171
 go_wp2_with (refine g0e rfl _ _ _ rfl b0v .i64 .i64 xs.length _ _ rfl rfl ?_ ?_ ?_ ?_; omega; omega; omega; intro p1 c1 w1 ho1 hb1 hz1)
 go_loopw [7, 8] (fun rv iv wr => ∃ (k r : Nat) (L : List Nat), iv = .int .i64 ((k : Int) - 1) ∧ rv = .int .u64 r ∧ k ≤ xs.length ∧ r < d ∧ Hid (L.length = xs.length) ∧ Own wr w.heap.size .u32 141 p1 c1 L ∧ Below w.heap.size w wr ∧ Hid (SmallRel B32 L xs d k r))
  (fun _ iv _ => (intOf iv + 1).toNat)
 case atStart => exact ⟨xs.length, 0, _, rfl, rfl, Nat.le_refl _, hd0, List.length_replicate, ho1, hb1, (show SmallRel B32 _ xs d xs.length 0 from ⟨fun x hx => by rw [(List.mem_replicate.1 hx).2]; exact b0y, hd0, by simp⟩)⟩
 case round =>
  obtain ⟨k, r, L, rfl, rfl, hk, hrd, hL, hoL, hbL, HR⟩ := hrel
  have hpL := hp.past hbL
  have hsL := hoL.solid
  rw [hL.out] at hsL
  by_cases h0 : 0 < k
  · obtain ⟨k, rfl⟩ : ∃ j, k = j + 1 := ⟨k - 1, by omega⟩
    have hc1 := hpL.cells k (by omega)
    have hxd := a0i (B := 4294967296) (by omega) xs HXL.out k
    have hor := or32 r (dg xs k) (by omega) hxd
    obtain ⟨HS, HQ⟩ := HR.out.step (by omega) (by rw [hL.out]; omega) (by unfold B32; exact hxd)
    have HS := hi0 HS
    have ej : ((k + 1 : Nat) : Int) - 1 = k := by omega
    rw [ej]
    unfold B32 at HQ
    obtain ⟨t, ht⟩ : ∃ t, t = r * 4294967296 + dg xs k := ⟨_, rfl⟩
    have et : (r : Int) * 4294967296 + (dg xs k : Nat) = (t : Nat) := by omega
    have htb : t < 18446744073709551616 := by omega
    rw [et] at hor
    rw [← ht] at HQ
    have HT := hi0 ht
    have hq0 : (0 : Int) ≤ (t : Int) / (d : Int) := Int.ediv_nonneg (by omega) (by omega)
    have hq1 : (t : Int) / (d : Int) < 4294967296 := by have : ((t / d : Nat) : Int) = (t : Int) / (d : Int) := rfl; omega
    have hd2 : (1 : Int) ≤ (d : Int) := by omega
    have k0 : (0 : Int) ≤ (k : Int) := by omega
    have k1 : (k : Int) < (xs.length : Int) := by omega
    clear ht et hc1
    have hc1 := hpL.cells k (by omega)
    go_wp2_with fail
    clear hc1 hor ej
    have e1 : IntKind.u64.wrap (d : Int) = (d : Int) := IntWalk.u64_in _ (by omega)
    have e2 : ¬ d = 0 := by omega
    have e3 : IntKind.u64.wrap ((t : Int) / (d : Int)) = (t : Int) / (d : Int) := IntWalk.u64_in _ (by omega)
    have e4 : IntKind.u32.wrap ((t : Int) / (d : Int)) = (t : Int) / (d : Int) := IntWalk.u32_in _ (by omega)
    have e5 : (t : Int).tmod (d : Int) = (t : Int) % (d : Int) := Int.tmod_eq_emod_of_nonneg (by omega)
    have hcL := hoL.rd.cells k (by rw [hL.out]; omega)
    have hfL := f0q hoL k (by rw [hL.out]; omega)
    go_region
    obtain ⟨ho3, hg3, hb3⟩ := h0l hoL k (by rw [hL.out]; omega) (t / d)
    clear e1 e2 e3 e4 e5 hcL hfL
    have hb3 := hbL.trans (b0i hg3 hbL.size (fun j hj => by cases hj; exact hb3))
    have ho3 := ho3.drew
    have hb3 := hb3.drew
    have eq : ((t / d : Nat) : Int) = (t : Int) / (d : Int) := rfl
    rw [eq] at ho3 hb3 hg3
    generalize (wr.setCell (at_ p1 k) (.int .u32 ((t : Int) / (d : Int)))).drew = w3 at ho3 hb3 ⊢
    clear eq hg3
    go_wp2
    go_roundw
    case rel =>
     have e6 : r * B32 + dg xs k = t := by rw [HT.out]; rfl
     rw [e6] at HS
     exact ⟨k, t % d, _, rfl, rfl, by omega, Nat.mod_lt _ hd0, (by show (List.set _ _ _).length = _; rw [List.length_set]; exact hL.out), ho3, hb3, HS⟩
    case measure => first | (simp [intOf]; done) | (simp [intOf]; omega)
  · obtain rfl : k = 0 := by omega
    obtain ⟨hv, hm⟩ := HR.out.done HA.out
    have HM := hi0 hm
    have HV := hi0 hv
    clear hv hm
    go_wp2_with (go_at_call 168; refine (e0l _ _ _ L _ hoL.rd hL.out.symm hoL.le_cap HR.out.1 (by rw [hL.out]; omega)).mono ?_; rintro e w3 ⟨rfl, rfl⟩)
    go_ret2
    have ht := a0r a0a L HR.out.1
    have ho2 := hoL.take (dig B32 (val B32 L)).length
    rw [ht, HV.out] at ho2
    refine ⟨p1, c1, ?_, ho2, hbL⟩
    rw [HV.out, ← HM.out]
    rfl
end Go.Proofs.YtmacohmclpnphaaGreatDoor
namespace Go.Slip
def WRel (L xs : List Nat) (i : Nat) : Prop := L.length = xs.length ∧ i % 2 = 0 ∧ i ≤ xs.length ∧ ∀ t, t < xs.length → dg L t = if t < i then dg xs (plc 1 xs.length t) else dg xs t
theorem WRel.start (xs : List Nat) : WRel xs xs 0 := ⟨rfl, rfl, by omega, fun t _ => by simp⟩
theorem WRel.step {L xs : List Nat} {i : Nat} (h : WRel L xs i) (hi : i + 1 < xs.length) : WRel ((L.set i (dg L (i + 1))).set (i + 1) (dg L i)) xs (i + 2) := by
 obtain ⟨h1, h2, h3, h4⟩ := h
 refine ⟨by simp [h1], by omega, by omega, fun t ht => ?_⟩
 have e1 := h4 (i + 1) hi
 have e2 := h4 i (by omega)
 rw [if_neg (by omega)] at e1 e2
 by_cases a : t = i + 1
 · subst a
   rw [b0g (by simp; omega), if_pos (by omega), e2]
   unfold plc
   rw [if_neg (by omega), if_pos rfl]
   congr 1
   omega
 · rw [b0l (by omega)]
   by_cases b : t = i
   · subst b
     rw [b0g (by omega), if_pos (by omega), e1]
     unfold plc
     rw [if_neg (by omega), if_pos rfl]
     congr 1
     omega
   · rw [b0l (by omega), h4 t ht]
     by_cases c : t < i
     · rw [if_pos c, if_pos (by omega)]
     · rw [if_neg c, if_neg (by omega)]
theorem WRel.done {L xs : List Nat} {i : Nat} (h : WRel L xs i) (hi : ¬ i + 1 < xs.length) (h2 : xs.length % 2 = 0) : L = ordL 1 xs := by
 obtain ⟨k1, k2, k3, k4⟩ := h
 refine n0w (by rw [b0p, k1]) fun t ht => ?_
 rw [k1] at ht
 rw [k0g ht, k4 t ht, if_pos (by omega)]
end Go.Slip
namespace Go.Proofs.YtmacohmclpnphaaGreatDoor
open Go.RowKit Go.Slip
def ordF (f : Fm) : Nat := if f.ext then 153 else if f.fam = 3 then 155 else 152
theorem r0f (base : Nat) (p : Option Addr) (n c : Nat) (xs : List Nat) (w : World) (ho : Wr w base .u8 p xs) (hn : n = xs.length) (hl : xs.length ≤ 4000000000) (h0 : 0 < xs.length) :
 Calls Tryz.prog 153 #[.slice p n c] w fun e w' => e = .returned (.tuple #[]) ∧ Wr w' base .u8 p xs.reverse ∧ Below base w w' := by
 subst hn
 have HR0 := hi0 (i0q.start xs h0)
 have hsx := ho.rd.solid
 go_enter Tryz.func153, Tryz.ntmps153
 go_wp2
 go_loopw [2, 3] (fun iv jv wr => ∃ (i j : Nat) (L : List Nat), iv = .int .i64 i ∧ jv = .int .i64 j ∧ i ≤ xs.length ∧ j < xs.length ∧ Wr wr base .u8 p L ∧ Below base w wr ∧ Hid (i0q L xs i j))
  (fun iv _ _ => xs.length - (intOf iv).toNat)
 case atStart => exact ⟨0, xs.length - 1, xs, rfl, by go_num, Nat.zero_le _, by omega, ho, Below.refl _ _, HR0⟩
 case round =>
  obtain ⟨i, j, L, rfl, rfl, hi, hj, hoL, hbL, HR⟩ := hrel
  by_cases hij : i < j
  · have hLl := hi0 HR.out.1
    have ci := hoL.rd.cells i (by rw [hLl.out]; omega)
    have cj := hoL.rd.cells j (by rw [hLl.out]; omega)
    have fi := hoL.fr i (by rw [hLl.out]; omega)
    have s1 := hoL.set i (by rw [hLl.out]; omega) (dg L j)
    have fj := s1.1.fr j (by rw [List.length_set, hLl.out]; omega)
    have cj2 := s1.1.rd.cells j (by rw [List.length_set, hLl.out]; omega)
    rw [b0l (by omega)] at cj2
    have s2 := s1.1.set j (by rw [List.length_set, hLl.out]; omega) (dg L i)
    have HS := hi0 (HR.out.step hij)
    have i1 : (i : Int) < (xs.length : Int) := by omega
    have j1 : (j : Int) < (xs.length : Int) := by omega
    have i0 : (0 : Int) ≤ (i : Int) := by omega
    have j0 : (0 : Int) ≤ (j : Int) := by omega
    have hb3 : Below base w ((wr.setCell (at_ p i) (.int .u8 (dg L j : Nat))).setCell (at_ p j) (.int .u8 (dg L i : Nat))) :=
     (hbL.setCell (by exact s1.2.2) _).setCell (by exact s1.2.2) _
    have S2 := hi0 s2
    have HB := hi0 hb3
    clear s1 s2 hb3
    go_wp2_with fail
    go_region
    have ho3 := S2.out.1.drew
    have hb3 := HB.out.drew
    clear ci cj fi fj cj2 S2 HB
    generalize ((wr.setCell (at_ p i) (.int .u8 (dg L j : Nat))).setCell (at_ p j) (.int .u8 (dg L i : Nat))).drew = w3 at ho3 hb3 ⊢
    go_wp2
    go_roundw
    case rel => exact ⟨i + 1, j - 1, _, by go_num, by go_num, by omega, by omega, ho3, hb3, HS⟩
    case measure => first | (simp [intOf]; done) | (simp [intOf]; omega)
  · have HD := hi0 (HR.out.done hij)
    go_wp2
    go_end0
    exact ⟨rfl, HD.out ▸ hoL, hbL⟩
theorem a1h (base : Nat) (p : Option Addr) (n c : Nat) (xs : List Nat) (w : World) (ho : Wr w base .u8 p xs) (hn : n = xs.length) (hl : xs.length ≤ 4000000000) (h2 : xs.length % 2 = 0) :
 Calls Tryz.prog 155 #[.slice p n c] w fun e w' => e = .returned (.tuple #[]) ∧ Wr w' base .u8 p (ordL 1 xs) ∧ Below base w w' := by
 subst hn
 have HR0 := hi0 (WRel.start xs)
 have HE := hi0 h2
 clear h2
 have hsx := ho.rd.solid
 go_enter Tryz.func155, Tryz.ntmps155
 go_wp2
 go_loopw [2] (fun iv wr => ∃ (i : Nat) (L : List Nat), iv = .int .i64 i ∧ i ≤ xs.length ∧ Wr wr base .u8 p L ∧ Below base w wr ∧ Hid (WRel L xs i))
  (fun iv _ => xs.length - (intOf iv).toNat)
 case atStart => exact ⟨0, xs, rfl, Nat.zero_le _, ho, Below.refl _ _, HR0⟩
 case round =>
  obtain ⟨i, L, rfl, hi, hoL, hbL, HR⟩ := hrel
  by_cases hij : i + 1 < xs.length
  · have hLl := hi0 HR.out.1
    have ci := hoL.rd.cells i (by rw [hLl.out]; omega)
    have cj := hoL.rd.cells (i + 1) (by rw [hLl.out]; omega)
    have fi := hoL.fr i (by rw [hLl.out]; omega)
    have s1 := hoL.set i (by rw [hLl.out]; omega) (dg L (i + 1))
    have fj := s1.1.fr (i + 1) (by rw [List.length_set, hLl.out]; omega)
    have cj2 := s1.1.rd.cells (i + 1) (by rw [List.length_set, hLl.out]; omega)
    rw [b0l (by omega)] at cj2
    have s2 := s1.1.set (i + 1) (by rw [List.length_set, hLl.out]; omega) (dg L i)
    have HS := hi0 (HR.out.step hij)
    have i1 : (i : Int) < (xs.length : Int) := by omega
    have j1 : ((i + 1 : Nat) : Int) < (xs.length : Int) := by omega
    have i0 : (0 : Int) ≤ (i : Int) := by omega
    have j0 : (0 : Int) ≤ ((i + 1 : Nat) : Int) := by omega
    have e1 : IntKind.i64.wrap ((i : Int) + 1) = ((i + 1 : Nat) : Int) := (iwo).trans (by omega)
    have e2 : IntKind.i64.wrap ((i : Int) + 2) = ((i + 2 : Nat) : Int) := (iwo).trans (by omega)
    have hb3 : Below base w ((wr.setCell (at_ p i) (.int .u8 (dg L (i + 1) : Nat))).setCell (at_ p (i + 1)) (.int .u8 (dg L i : Nat))) :=
     (hbL.setCell (by exact s1.2.2) _).setCell (by exact s1.2.2) _
    have S2 := hi0 s2
    have HB := hi0 hb3
    clear s1 s2 hb3
    generalize hj : i + 1 = j at *
    go_wp2_with fail
    go_region
    have ho3 := S2.out.1.drew
    have hb3 := HB.out.drew
    clear ci cj fi fj cj2 S2 HB
    generalize ((wr.setCell (at_ p i) (.int .u8 (dg L j : Nat))).setCell (at_ p j) (.int .u8 (dg L i : Nat))).drew = w3 at ho3 hb3 ⊢
    go_wp2
    go_roundw
    case rel => exact ⟨i + 2, _, by go_num, by omega, ho3, hb3, HS⟩
    case measure => first | (simp [intOf]; done) | (simp [intOf]; omega)
  · have HD := hi0 (HR.out.done hij HE.out)
    go_wp2
    go_end0
    exact ⟨rfl, HD.out ▸ hoL, hbL⟩
theorem d1e (p : Option Addr) (n c : Nat) (w : World) :
 Calls Tryz.prog 152 #[.slice p n c] w fun e w' => e = .returned (.tuple #[]) ∧ Below w.heap.size w w' := by
 refine calls_of_wp Tryz.func152 rfl ?_
 refine b0c (a' := ⟨((.slice p n c) :: undef :: []).toArray, []⟩) (by kernel_rfl) ?_
 refine wp_skip ?_
 refine yend (.tuple #[]) (res0 Tryz.results152 ) ?_
 exact ⟨rfl, (Below.refl _ _)⟩
theorem m0a (k : Nat) (hk : k = 153 ∨ k = 155 ∨ k = 152) {a : Act} {w : World} {x y : Operand} {v : Value} {dst : Option Tmp} {t2 tt : TypeId} {pos : String} {af : Array Edge} {g : Option (Nat × Bool)} (hx : a.eval x = .func (.func k) #[] #[]) (hy : a.eval y = v) :
 (execOp a.eval ⟨dst, .call { callee := .value x, args := #[y], argTypes := #[tt] }, t2, pos, af, g⟩).run Tryz.prog w = .ok (.enter k #[v]) w := by
 unfold execOp
 simp only [resolve, hx, hy, List.map_toArray, List.map_cons, List.map_nil]
 rcases hk with hk | hk | hk
 · subst hk
   kernel_rfl
 · subst hk
   kernel_rfl
 · subst hk
   kernel_rfl
theorem t0i (f : Fm) : ordF f = 153 ∨ ordF f = 155 ∨ ordF f = 152 := by
 unfold ordF
 split
 · simp
 · split <;> simp
theorem a1i (f : Fm) (base : Nat) (p : Option Addr) (n c : Nat) (xs : List Nat) (w : World) (G : c0l f) (ho : Wr w base .u8 p xs) (hn : n = xs.length) (hs : xs.length = f.size) (hb : base ≤ w.heap.size) :
 Calls Tryz.prog (ordF f) #[.slice p n c] w fun e w' => e = .returned (.tuple #[]) ∧ Wr w' base .u8 p (ordL f.ord xs) ∧ Below base w w' := by
 have hz := G.sz
 unfold ordF Fm.ord
 cases f.ext with
 | true =>
  rw [if_pos rfl, if_pos rfl, d1b]
  exact r0f base p n c xs w ho hn (by omega) (by omega)
 | false =>
  rw [if_neg (show ¬ (false = true) by simp), if_neg (show ¬ (false = true) by simp)]
  by_cases h : f.fam = 3
  · rw [if_pos h, if_pos h]
    exact a1h base p n c xs w ho hn (by omega) (by omega)
  · rw [if_neg h, if_neg h, a1d]
    exact (d1e p n c w).mono fun e w' ⟨h1, h2⟩ => ⟨h1, ho.past h2, h2.mono hb⟩
theorem e0p (d l g : Int) (gr : Bool) (w : World) : Calls Tryz.prog 151 #[.int .i64 d, .int .i64 l, .int .i64 g, .bool gr] w
 fun e w' => e = .returned (.agg #[.int .i64 2, .int .i64 d, .int .i64 l, .int .i64 g, .bool gr]) ∧ Below w.heap.size w w' := by
 have hT54 : e0h Tryz.prog 54 5 := c0j (by kernel_rfl) (by kernel_rfl)
 refine calls_of_wp Tryz.func151 rfl ?_
 refine b0c (a' := ⟨((.int .i64 d) :: (.int .i64 l) :: (.int .i64 g) :: (.bool gr) :: us 10 []).toArray, []⟩) (by kernel_rfl) ?_
 refine ye ?_
 refine yw 0 rfl 8 #[.int .i64 0, .int .i64 0, .int .i64 0, .int .i64 0, .bool false] 54 (fun V1 hbV1 hzV1 b8 => ?_)
 refine yzt 0 ?_
 refine ye ?_
 have boV2 := b8
 refine ysw 5 rfl b8 hT54 #[.int .i64 2, .int .i64 d, .int .i64 l, .int .i64 g, .bool gr] ?_
 clear b8
 intro V2 hOV2 b8
 have hzV2 := hOV2.size
 refine yzt 0 ?_
 refine wp_ret ?_
 repeat (first | with_reducible refine a0x ?_ | with_reducible refine a0o ?_)
 refine yret (.agg #[.int .i64 2, .int .i64 d, .int .i64 l, .int .i64 g, .bool gr]) (res1 Tryz.results151 (rvr b8 hT54)) ?_
 exact ⟨rfl, (hbV1.trans (hOV2.below (by omega)))⟩
theorem r0g (d l g : Int) (w : World) : Calls Tryz.prog 154 #[.int .i64 d, .int .i64 l, .int .i64 g] w
 fun e w' => e = .returned (.agg #[.int .i64 16, .int .i64 d, .int .i64 l, .int .i64 g, .bool false]) ∧ Below w.heap.size w w' := by
 have hT54 : e0h Tryz.prog 54 5 := c0j (by kernel_rfl) (by kernel_rfl)
 refine calls_of_wp Tryz.func154 rfl ?_
 refine b0c (a' := ⟨((.int .i64 d) :: (.int .i64 l) :: (.int .i64 g) :: us 8 []).toArray, []⟩) (by kernel_rfl) ?_
 refine ye ?_
 refine yw 0 rfl 6 #[.int .i64 0, .int .i64 0, .int .i64 0, .int .i64 0, .bool false] 54 (fun V1 hbV1 hzV1 b6 => ?_)
 refine yzt 0 ?_
 refine ye ?_
 have boV2 := b6
 refine ysw 4 rfl b6 hT54 #[.int .i64 16, .int .i64 d, .int .i64 l, .int .i64 g, .bool false] ?_
 clear b6
 intro V2 hOV2 b6
 have hzV2 := hOV2.size
 refine yzt 0 ?_
 refine wp_ret ?_
 repeat (first | with_reducible refine a0x ?_ | with_reducible refine a0o ?_)
 refine yret (.agg #[.int .i64 16, .int .i64 d, .int .i64 l, .int .i64 g, .bool false]) (res1 Tryz.results154 (rvr b6 hT54)) ?_
 exact ⟨rfl, (hbV1.trans (hOV2.below (by omega)))⟩
def k1a : Value := .agg #[.int .i64 0, .int .i64 0, .int .i64 0, .int .i64 0, .int .i64 0, .int .i64 0, .int .i64 0, .bool false, .bool false, .bool false, .bool false, .nilFunc]
theorem h0g (n : Int) (hn : IsFm n) (w : World) : Calls Tryz.prog 99 #[.int .i64 n] w
 fun e w' => e = .returned (.tuple #[.agg #[.int .i64 (((fmt n).size : Nat) : Int), .int .i64 (((fmt n).E : Nat) : Int), .int .i64 (((fmt n).F : Nat) : Int), .int .i64 (fmt n).g.rad, .int .i64 (fmt n).g.digs, .int .i64 (fmt n).g.lo, .int .i64 (fmt n).g.hi, .bool (fmt n).g.grad, .bool (fmt n).hid, .bool (fmt n).inf, .bool (fmt n).res, .func (.func (ordF (fmt n))) #[] #[]], .int .i64 0]) ∧ Below w.heap.size w w' := by
 rcases l0b hn with rfl | rfl | rfl | rfl | rfl | rfl | rfl | rfl
 · have hT146 : e0h Tryz.prog 146 12 := c0j (by kernel_rfl) (by kernel_rfl)
   refine calls_of_wp Tryz.func99 rfl ?_
   refine b0c (a' := ⟨((.int .i64 1) :: us 37 []).toArray, []⟩) (by kernel_rfl) ?_
   refine ye ?_
   refine yw 0 rfl 2 #[.int .i64 0, .int .i64 0, .int .i64 0, .int .i64 0, .int .i64 0, .int .i64 0, .int .i64 0, .bool false, .bool false, .bool false, .bool false, .nilFunc] 146 (fun V1 hbV1 hzV1 b2 => ?_)
   refine yzt 1 ?_
   refine wp_seq ?_
   refine yq ?_
   refine wp_block ?_
   refine yq ?_
   refine yT ?_
   refine ye ?_
   refine yc 0 rfl 7 (e0p 24 (-149) 104 true V1) (fun Gx hGx => ?_)
   rintro eV2 V2 ⟨rfl, hbV2⟩
   have hzV2 := hbV2.size
   refine ⟨_, rfl, hGx _ _ ?_⟩
   clear hGx Gx
   replace b2 := (b2.past hbV2)
   have boV3 := b2
   refine ysw 1 rfl b2 hT146 #[.int .i64 4, .int .i64 8, .int .i64 23, .int .i64 2, .int .i64 24, .int .i64 (-149), .int .i64 104, .bool true, .bool true, .bool true, .bool false, .func (.func 152) #[] #[]] ?_
   clear b2
   intro V3 hOV3 b2
   have hzV3 := hOV3.size
   refine yzt 1 ?_
   refine wp_ret ?_
   repeat (first | with_reducible refine a0x ?_ | with_reducible refine a0o ?_)
   refine yret (.tuple #[.agg #[.int .i64 4, .int .i64 8, .int .i64 23, .int .i64 2, .int .i64 24, .int .i64 (-149), .int .i64 104, .bool true, .bool true, .bool true, .bool false, .func (.func 152) #[] #[]], .int .i64 0]) (res2 Tryz.results99 (rvr b2 hT146) rvt) ?_
   exact ⟨by kernel_rfl, ((a0g hbV1 hbV2).trans (hOV3.below (by omega)))⟩
 · have hT146 : e0h Tryz.prog 146 12 := c0j (by kernel_rfl) (by kernel_rfl)
   refine calls_of_wp Tryz.func99 rfl ?_
   refine b0c (a' := ⟨((.int .i64 2) :: us 37 []).toArray, []⟩) (by kernel_rfl) ?_
   refine ye ?_
   refine yw 0 rfl 2 #[.int .i64 0, .int .i64 0, .int .i64 0, .int .i64 0, .int .i64 0, .int .i64 0, .int .i64 0, .bool false, .bool false, .bool false, .bool false, .nilFunc] 146 (fun V1 hbV1 hzV1 b2 => ?_)
   refine yzt 1 ?_
   refine wp_seq ?_
   refine yq ?_
   refine wp_block ?_
   refine yq ?_
   refine yF ?_
   refine yq ?_
   refine yT ?_
   refine ye ?_
   refine yc 0 rfl 11 (e0p 53 (-1074) 971 true V1) (fun Gx hGx => ?_)
   rintro eV2 V2 ⟨rfl, hbV2⟩
   have hzV2 := hbV2.size
   refine ⟨_, rfl, hGx _ _ ?_⟩
   clear hGx Gx
   replace b2 := (b2.past hbV2)
   have boV3 := b2
   refine ysw 1 rfl b2 hT146 #[.int .i64 8, .int .i64 11, .int .i64 52, .int .i64 2, .int .i64 53, .int .i64 (-1074), .int .i64 971, .bool true, .bool true, .bool true, .bool false, .func (.func 152) #[] #[]] ?_
   clear b2
   intro V3 hOV3 b2
   have hzV3 := hOV3.size
   refine yzt 1 ?_
   refine wp_ret ?_
   repeat (first | with_reducible refine a0x ?_ | with_reducible refine a0o ?_)
   refine yret (.tuple #[.agg #[.int .i64 8, .int .i64 11, .int .i64 52, .int .i64 2, .int .i64 53, .int .i64 (-1074), .int .i64 971, .bool true, .bool true, .bool true, .bool false, .func (.func 152) #[] #[]], .int .i64 0]) (res2 Tryz.results99 (rvr b2 hT146) rvt) ?_
   exact ⟨by kernel_rfl, ((a0g hbV1 hbV2).trans (hOV3.below (by omega)))⟩
 · have hT146 : e0h Tryz.prog 146 12 := c0j (by kernel_rfl) (by kernel_rfl)
   refine calls_of_wp Tryz.func99 rfl ?_
   refine b0c (a' := ⟨((.int .i64 3) :: us 37 []).toArray, []⟩) (by kernel_rfl) ?_
   refine ye ?_
   refine yw 0 rfl 2 #[.int .i64 0, .int .i64 0, .int .i64 0, .int .i64 0, .int .i64 0, .int .i64 0, .int .i64 0, .bool false, .bool false, .bool false, .bool false, .nilFunc] 146 (fun V1 hbV1 hzV1 b2 => ?_)
   refine yzt 1 ?_
   refine wp_seq ?_
   refine yq ?_
   refine wp_block ?_
   refine yq ?_
   refine yF ?_
   refine yq ?_
   refine yF ?_
   refine yq ?_
   refine yT ?_
   refine ye ?_
   refine yc 0 rfl 15 (e0p 64 (-16445) 16320 true V1) (fun Gx hGx => ?_)
   rintro eV2 V2 ⟨rfl, hbV2⟩
   have hzV2 := hbV2.size
   refine ⟨_, rfl, hGx _ _ ?_⟩
   clear hGx Gx
   replace b2 := (b2.past hbV2)
   have boV3 := b2
   refine ysw 1 rfl b2 hT146 #[.int .i64 10, .int .i64 15, .int .i64 64, .int .i64 2, .int .i64 64, .int .i64 (-16445), .int .i64 16320, .bool true, .bool false, .bool true, .bool false, .func (.func 153) #[] #[]] ?_
   clear b2
   intro V3 hOV3 b2
   have hzV3 := hOV3.size
   refine yzt 1 ?_
   refine wp_ret ?_
   repeat (first | with_reducible refine a0x ?_ | with_reducible refine a0o ?_)
   refine yret (.tuple #[.agg #[.int .i64 10, .int .i64 15, .int .i64 64, .int .i64 2, .int .i64 64, .int .i64 (-16445), .int .i64 16320, .bool true, .bool false, .bool true, .bool false, .func (.func 153) #[] #[]], .int .i64 0]) (res2 Tryz.results99 (rvr b2 hT146) rvt) ?_
   exact ⟨by kernel_rfl, ((a0g hbV1 hbV2).trans (hOV3.below (by omega)))⟩
 · have hT146 : e0h Tryz.prog 146 12 := c0j (by kernel_rfl) (by kernel_rfl)
   refine calls_of_wp Tryz.func99 rfl ?_
   refine b0c (a' := ⟨((.int .i64 4) :: us 37 []).toArray, []⟩) (by kernel_rfl) ?_
   refine ye ?_
   refine yw 0 rfl 2 #[.int .i64 0, .int .i64 0, .int .i64 0, .int .i64 0, .int .i64 0, .int .i64 0, .int .i64 0, .bool false, .bool false, .bool false, .bool false, .nilFunc] 146 (fun V1 hbV1 hzV1 b2 => ?_)
   refine yzt 1 ?_
   refine wp_seq ?_
   refine yq ?_
   refine wp_block ?_
   refine yq ?_
   refine yF ?_
   refine yq ?_
   refine yF ?_
   refine yq ?_
   refine yF ?_
   refine yq ?_
   refine yT ?_
   refine ye ?_
   refine yc 0 rfl 19 (r0g 6 (-70) 57 V1) (fun Gx hGx => ?_)
   rintro eV2 V2 ⟨rfl, hbV2⟩
   have hzV2 := hbV2.size
   refine ⟨_, rfl, hGx _ _ ?_⟩
   clear hGx Gx
   replace b2 := (b2.past hbV2)
   have boV3 := b2
   refine ysw 1 rfl b2 hT146 #[.int .i64 4, .int .i64 7, .int .i64 24, .int .i64 16, .int .i64 6, .int .i64 (-70), .int .i64 57, .bool false, .bool false, .bool false, .bool false, .func (.func 152) #[] #[]] ?_
   clear b2
   intro V3 hOV3 b2
   have hzV3 := hOV3.size
   refine yzt 1 ?_
   refine wp_ret ?_
   repeat (first | with_reducible refine a0x ?_ | with_reducible refine a0o ?_)
   refine yret (.tuple #[.agg #[.int .i64 4, .int .i64 7, .int .i64 24, .int .i64 16, .int .i64 6, .int .i64 (-70), .int .i64 57, .bool false, .bool false, .bool false, .bool false, .func (.func 152) #[] #[]], .int .i64 0]) (res2 Tryz.results99 (rvr b2 hT146) rvt) ?_
   exact ⟨by kernel_rfl, ((a0g hbV1 hbV2).trans (hOV3.below (by omega)))⟩
 · have hT146 : e0h Tryz.prog 146 12 := c0j (by kernel_rfl) (by kernel_rfl)
   refine calls_of_wp Tryz.func99 rfl ?_
   refine b0c (a' := ⟨((.int .i64 5) :: us 37 []).toArray, []⟩) (by kernel_rfl) ?_
   refine ye ?_
   refine yw 0 rfl 2 #[.int .i64 0, .int .i64 0, .int .i64 0, .int .i64 0, .int .i64 0, .int .i64 0, .int .i64 0, .bool false, .bool false, .bool false, .bool false, .nilFunc] 146 (fun V1 hbV1 hzV1 b2 => ?_)
   refine yzt 1 ?_
   refine wp_seq ?_
   refine yq ?_
   refine wp_block ?_
   refine yq ?_
   refine yF ?_
   refine yq ?_
   refine yF ?_
   refine yq ?_
   refine yF ?_
   refine yq ?_
   refine yF ?_
   refine yq ?_
   refine yT ?_
   refine ye ?_
   refine yc 0 rfl 23 (r0g 14 (-78) 49 V1) (fun Gx hGx => ?_)
   rintro eV2 V2 ⟨rfl, hbV2⟩
   have hzV2 := hbV2.size
   refine ⟨_, rfl, hGx _ _ ?_⟩
   clear hGx Gx
   replace b2 := (b2.past hbV2)
   have boV3 := b2
   refine ysw 1 rfl b2 hT146 #[.int .i64 8, .int .i64 7, .int .i64 56, .int .i64 16, .int .i64 14, .int .i64 (-78), .int .i64 49, .bool false, .bool false, .bool false, .bool false, .func (.func 152) #[] #[]] ?_
   clear b2
   intro V3 hOV3 b2
   have hzV3 := hOV3.size
   refine yzt 1 ?_
   refine wp_ret ?_
   repeat (first | with_reducible refine a0x ?_ | with_reducible refine a0o ?_)
   refine yret (.tuple #[.agg #[.int .i64 8, .int .i64 7, .int .i64 56, .int .i64 16, .int .i64 14, .int .i64 (-78), .int .i64 49, .bool false, .bool false, .bool false, .bool false, .func (.func 152) #[] #[]], .int .i64 0]) (res2 Tryz.results99 (rvr b2 hT146) rvt) ?_
   exact ⟨by kernel_rfl, ((a0g hbV1 hbV2).trans (hOV3.below (by omega)))⟩
 · have hT146 : e0h Tryz.prog 146 12 := c0j (by kernel_rfl) (by kernel_rfl)
   refine calls_of_wp Tryz.func99 rfl ?_
   refine b0c (a' := ⟨((.int .i64 6) :: us 37 []).toArray, []⟩) (by kernel_rfl) ?_
   refine ye ?_
   refine yw 0 rfl 2 #[.int .i64 0, .int .i64 0, .int .i64 0, .int .i64 0, .int .i64 0, .int .i64 0, .int .i64 0, .bool false, .bool false, .bool false, .bool false, .nilFunc] 146 (fun V1 hbV1 hzV1 b2 => ?_)
   refine yzt 1 ?_
   refine wp_seq ?_
   refine yq ?_
   refine wp_block ?_
   refine yq ?_
   refine yF ?_
   refine yq ?_
   refine yF ?_
   refine yq ?_
   refine yF ?_
   refine yq ?_
   refine yF ?_
   refine yq ?_
   refine yF ?_
   refine yq ?_
   refine yT ?_
   refine ye ?_
   refine yc 0 rfl 27 (e0p 24 (-151) 103 false V1) (fun Gx hGx => ?_)
   rintro eV2 V2 ⟨rfl, hbV2⟩
   have hzV2 := hbV2.size
   refine ⟨_, rfl, hGx _ _ ?_⟩
   clear hGx Gx
   replace b2 := (b2.past hbV2)
   have boV3 := b2
   refine ysw 1 rfl b2 hT146 #[.int .i64 4, .int .i64 8, .int .i64 23, .int .i64 2, .int .i64 24, .int .i64 (-151), .int .i64 103, .bool false, .bool true, .bool false, .bool true, .func (.func 155) #[] #[]] ?_
   clear b2
   intro V3 hOV3 b2
   have hzV3 := hOV3.size
   refine yzt 1 ?_
   refine wp_ret ?_
   repeat (first | with_reducible refine a0x ?_ | with_reducible refine a0o ?_)
   refine yret (.tuple #[.agg #[.int .i64 4, .int .i64 8, .int .i64 23, .int .i64 2, .int .i64 24, .int .i64 (-151), .int .i64 103, .bool false, .bool true, .bool false, .bool true, .func (.func 155) #[] #[]], .int .i64 0]) (res2 Tryz.results99 (rvr b2 hT146) rvt) ?_
   exact ⟨by kernel_rfl, ((a0g hbV1 hbV2).trans (hOV3.below (by omega)))⟩
 · have hT146 : e0h Tryz.prog 146 12 := c0j (by kernel_rfl) (by kernel_rfl)
   refine calls_of_wp Tryz.func99 rfl ?_
   refine b0c (a' := ⟨((.int .i64 7) :: us 37 []).toArray, []⟩) (by kernel_rfl) ?_
   refine ye ?_
   refine yw 0 rfl 2 #[.int .i64 0, .int .i64 0, .int .i64 0, .int .i64 0, .int .i64 0, .int .i64 0, .int .i64 0, .bool false, .bool false, .bool false, .bool false, .nilFunc] 146 (fun V1 hbV1 hzV1 b2 => ?_)
   refine yzt 1 ?_
   refine wp_seq ?_
   refine yq ?_
   refine wp_block ?_
   refine yq ?_
   refine yF ?_
   refine yq ?_
   refine yF ?_
   refine yq ?_
   refine yF ?_
   refine yq ?_
   refine yF ?_
   refine yq ?_
   refine yF ?_
   refine yq ?_
   refine yF ?_
   refine yq ?_
   refine yT ?_
   refine ye ?_
   refine yc 0 rfl 31 (e0p 56 (-183) 71 false V1) (fun Gx hGx => ?_)
   rintro eV2 V2 ⟨rfl, hbV2⟩
   have hzV2 := hbV2.size
   refine ⟨_, rfl, hGx _ _ ?_⟩
   clear hGx Gx
   replace b2 := (b2.past hbV2)
   have boV3 := b2
   refine ysw 1 rfl b2 hT146 #[.int .i64 8, .int .i64 8, .int .i64 55, .int .i64 2, .int .i64 56, .int .i64 (-183), .int .i64 71, .bool false, .bool true, .bool false, .bool true, .func (.func 155) #[] #[]] ?_
   clear b2
   intro V3 hOV3 b2
   have hzV3 := hOV3.size
   refine yzt 1 ?_
   refine wp_ret ?_
   repeat (first | with_reducible refine a0x ?_ | with_reducible refine a0o ?_)
   refine yret (.tuple #[.agg #[.int .i64 8, .int .i64 8, .int .i64 55, .int .i64 2, .int .i64 56, .int .i64 (-183), .int .i64 71, .bool false, .bool true, .bool false, .bool true, .func (.func 155) #[] #[]], .int .i64 0]) (res2 Tryz.results99 (rvr b2 hT146) rvt) ?_
   exact ⟨by kernel_rfl, ((a0g hbV1 hbV2).trans (hOV3.below (by omega)))⟩
 · have hT146 : e0h Tryz.prog 146 12 := c0j (by kernel_rfl) (by kernel_rfl)
   refine calls_of_wp Tryz.func99 rfl ?_
   refine b0c (a' := ⟨((.int .i64 8) :: us 37 []).toArray, []⟩) (by kernel_rfl) ?_
   refine ye ?_
   refine yw 0 rfl 2 #[.int .i64 0, .int .i64 0, .int .i64 0, .int .i64 0, .int .i64 0, .int .i64 0, .int .i64 0, .bool false, .bool false, .bool false, .bool false, .nilFunc] 146 (fun V1 hbV1 hzV1 b2 => ?_)
   refine yzt 1 ?_
   refine wp_seq ?_
   refine yq ?_
   refine wp_block ?_
   refine yq ?_
   refine yF ?_
   refine yq ?_
   refine yF ?_
   refine yq ?_
   refine yF ?_
   refine yq ?_
   refine yF ?_
   refine yq ?_
   refine yF ?_
   refine yq ?_
   refine yF ?_
   refine yq ?_
   refine yF ?_
   refine yq ?_
   refine yT ?_
   refine ye ?_
   refine yc 0 rfl 35 (e0p 53 (-1076) 970 false V1) (fun Gx hGx => ?_)
   rintro eV2 V2 ⟨rfl, hbV2⟩
   have hzV2 := hbV2.size
   refine ⟨_, rfl, hGx _ _ ?_⟩
   clear hGx Gx
   replace b2 := (b2.past hbV2)
   have boV3 := b2
   refine ysw 1 rfl b2 hT146 #[.int .i64 8, .int .i64 11, .int .i64 52, .int .i64 2, .int .i64 53, .int .i64 (-1076), .int .i64 970, .bool false, .bool true, .bool false, .bool true, .func (.func 155) #[] #[]] ?_
   clear b2
   intro V3 hOV3 b2
   have hzV3 := hOV3.size
   refine yzt 1 ?_
   refine wp_ret ?_
   repeat (first | with_reducible refine a0x ?_ | with_reducible refine a0o ?_)
   refine yret (.tuple #[.agg #[.int .i64 8, .int .i64 11, .int .i64 52, .int .i64 2, .int .i64 53, .int .i64 (-1076), .int .i64 970, .bool false, .bool true, .bool false, .bool true, .func (.func 155) #[] #[]], .int .i64 0]) (res2 Tryz.results99 (rvr b2 hT146) rvt) ?_
   exact ⟨by kernel_rfl, ((a0g hbV1 hbV2).trans (hOV3.below (by omega)))⟩
theorem j0d (n : Int) (hn : ¬ IsFm n) (w : World) : Calls Tryz.prog 99 #[.int .i64 n] w
 fun e w' => e = .returned (.tuple #[k1a, .int .i64 6]) ∧ Below w.heap.size w w' := by
 unfold IsFm at hn
 have hT146 : e0h Tryz.prog 146 12 := c0j (by kernel_rfl) (by kernel_rfl)
 refine calls_of_wp Tryz.func99 rfl ?_
 refine b0c (a' := ⟨((.int .i64 n) :: us 37 []).toArray, []⟩) (by kernel_rfl) ?_
 refine ye ?_
 refine yw 0 rfl 2 #[.int .i64 0, .int .i64 0, .int .i64 0, .int .i64 0, .int .i64 0, .int .i64 0, .int .i64 0, .bool false, .bool false, .bool false, .bool false, .nilFunc] 146 (fun V1 hbV1 hzV1 b2 => ?_)
 refine yzt 1 ?_
 refine wp_seq ?_
 refine yq ?_
 refine wp_block ?_
 refine ye ?_
 refine yb 0 rfl 6 (n == 1) (false) (bFn (by omega)) ?_
 refine yzt 1 ?_
 refine yF ?_
 refine ye ?_
 refine yb 0 rfl 10 (n == 2) (false) (bFn (by omega)) ?_
 refine yzt 1 ?_
 refine yF ?_
 refine ye ?_
 refine yb 0 rfl 14 (n == 3) (false) (bFn (by omega)) ?_
 refine yzt 1 ?_
 refine yF ?_
 refine ye ?_
 refine yb 0 rfl 18 (n == 4) (false) (bFn (by omega)) ?_
 refine yzt 1 ?_
 refine yF ?_
 refine ye ?_
 refine yb 0 rfl 22 (n == 5) (false) (bFn (by omega)) ?_
 refine yzt 1 ?_
 refine yF ?_
 refine ye ?_
 refine yb 0 rfl 26 (n == 6) (false) (bFn (by omega)) ?_
 refine yzt 1 ?_
 refine yF ?_
 refine ye ?_
 refine yb 0 rfl 30 (n == 7) (false) (bFn (by omega)) ?_
 refine yzt 1 ?_
 refine yF ?_
 refine ye ?_
 refine yb 0 rfl 34 (n == 8) (false) (bFn (by omega)) ?_
 refine yzt 1 ?_
 refine yF ?_
 refine wp_skip ?_
 refine c0g ?_
 refine a0n ?_
 refine ye ?_
 have boV2 := b2
 refine ysw 1 rfl b2 hT146 #[.int .i64 0, .int .i64 0, .int .i64 0, .int .i64 0, .int .i64 0, .int .i64 0, .int .i64 0, .bool false, .bool false, .bool false, .bool false, .nilFunc] ?_
 clear b2
 intro V2 hOV2 b2
 have hzV2 := hOV2.size
 refine yzt 1 ?_
 refine wp_ret ?_
 repeat (first | with_reducible refine a0x ?_ | with_reducible refine a0o ?_)
 refine yret (.tuple #[.agg #[.int .i64 0, .int .i64 0, .int .i64 0, .int .i64 0, .int .i64 0, .int .i64 0, .int .i64 0, .bool false, .bool false, .bool false, .bool false, .nilFunc], .int .i64 6]) (res2 Tryz.results99 (rvr b2 hT146) rvt) ?_
 exact ⟨by kernel_rfl, (hbV1.trans (hOV2.below (by omega)))⟩
def g0o (O : List Nat) (u N : Nat) : Prop := O ++ dig B32 u = dig B32 N
theorem g0o.len {O : List Nat} {u N : Nat} (h : g0o O u N) : O.length ≤ (dig B32 N).length := by
 have := congrArg List.length h
 simp at this; omega
theorem g0o.step {O : List Nat} {u N : Nat} (h : g0o O u N) (h0 : 0 < u) : g0o (O ++ [u % 4294967296]) (u / 4294967296) N := by
 unfold g0o at *
 rw [d0i a0a h0] at h
 rw [← h]
 simp [B32]
theorem a1j (N : Nat) (w : World) (hN : N < 9223372036854775808) : Calls Tryz.prog 65 #[.int .i64 N] w (g0f w .u32 141 (dig B32 N)) := by
 have hl : (dig B32 N).length ≤ 2 := (a0e a0a N 2).2 (by unfold B32; omega)
 go_enter Tryz.func65, Tryz.ntmps65
 go_wp2
 go_loopw [3, 4] (fun av uv wr => ∃ (u : Nat) (t : Option Addr) (e : Nat) (O : List Nat), uv = .int .u64 u ∧ av = .slice t O.length e ∧ u ≤ N ∧ Own wr w.heap.size .u32 141 t e O ∧ Below w.heap.size w wr ∧ Hid (g0o O u N))
  (fun _ uv _ => (intOf uv).toNat)
 case atStart => exact ⟨N, none, 0, [], by go_num, rfl, Nat.le_refl _, Own.nil _ _ _ _, Below.refl _ _, (show g0o [] N N from rfl)⟩
 case round =>
  obtain ⟨u, t, e, O, rfl, rfl, hu, hoO, hb, HR⟩ := hrel
  have hOl : O.length ≤ 2 := Nat.le_trans HR.out.len hl
  by_cases h0 : 0 < u
  · have HS := hi0 (HR.out.step h0)
    go_wp2_with (first
      | (refine a0t rfl _ _ rfl b0v _ ?_ rfl ?_; omega; intro p2 w2 ho2 hb2 hz2 hp2)
      | (at_builtin; refine a0v rfl _ _ _ rfl b0v _ _ _ _ _ (hoO.past hb2) rfl _ _ _ _ ho2.rd rfl rfl rfl ?_ ?_ ?_; (simp; omega); (have := hb2.size; have := hb.size; omega); intro p3 c3 w3 ho3 hg3 hb3 hn3))
    have e4 : ((u : Int) % 4294967296).toNat = u % 4294967296 := by omega
    rw [e4] at ho3
    have hb4 := hb.trans ((hb2.mono hb.size).trans hb3)
    go_roundw
    case rel => exact ⟨u / 4294967296, p3, c3, _, by go_num, by simp, by omega, ho3, hb4, HS⟩
    case measure => simp [intOf]; omega
  · obtain rfl : u = 0 := by omega
    go_wp2
    go_ret
    have := HR.out
    unfold g0o at this
    rw [a0c, List.append_nil] at this
    rw [← this]
    exact ⟨t, e, rfl, hoO, hb⟩
end Go.Proofs.YtmacohmclpnphaaGreatDoor
namespace Go.Slip
/-! ### roots -/
def n0x (m R : Nat) : Prop := R * R ≤ m ∧ m < (R + 1) * (R + 1)
theorem n0x.half {m R : Nat} (h : n0x (m * 4) R) : n0x m (R / 2) := by
 obtain ⟨h1, h2⟩ := h
 have h3 : R = 2 * (R / 2) + R % 2 := by omega
 have h4 : R % 2 < 2 := Nat.mod_lt _ (by omega)
 generalize R / 2 = u at *
 generalize R % 2 = v at *
 subst h3
 constructor
 · have : (2 * u) * (2 * u) ≤ (2 * u + v) * (2 * u + v) := Nat.mul_le_mul (by omega) (by omega)
   have e : (2 * u) * (2 * u) = 4 * (u * u) := by grind
   omega
 · have : (2 * u + v + 1) * (2 * u + v + 1) ≤ (2 * (u + 1)) * (2 * (u + 1)) := Nat.mul_le_mul (by omega) (by omega)
   have e : (2 * (u + 1)) * (2 * (u + 1)) = 4 * ((u + 1) * (u + 1)) := by grind
   omega
theorem n0x.mono {m m' R R' : Nat} (h : n0x m R) (k : n0x m' R') (hm : m ≤ m') : R ≤ R' := by
 rcases Nat.lt_or_ge R' R with c | c
 · have := Nat.mul_le_mul c c
   have h1 := h.1; have h2 := k.2
   simp only [Nat.succ_eq_add_one] at this
   omega
 · exact c
end Go.Slip
namespace Go.Proofs.YtmacohmclpnphaaGreatDoor
open Go.RowKit Go.Slip
theorem Box3.put {w : World} {b : Nat} {v0 v1 v2 : Value} (h : Box3 w b v0 v1 v2) (u0 u1 u2 : Value) : Box3 (((w.setCell ⟨b, 0, none⟩ u0).setCell ⟨b, 1, none⟩ u1).setCell ⟨b, 2, none⟩ u2) b u0 u1 u2 := by
 have h1 : Box3 (w.setCell ⟨b, 0, none⟩ u0) b u0 v1 v2 :=
  ⟨World.cell?_setCell_same _ _ _ h.c0, (World.cell?_setCell_other _ _ _ _ (by simp)).trans h.c1, (World.cell?_setCell_other _ _ _ _ (by simp)).trans h.c2, by simpa using h.f0, by simpa using h.f1, by simpa using h.f2, by simpa using h.lt⟩
 have h2 : Box3 ((w.setCell ⟨b, 0, none⟩ u0).setCell ⟨b, 1, none⟩ u1) b u0 u1 v2 :=
  ⟨(World.cell?_setCell_other _ _ _ _ (by simp)).trans h1.c0, World.cell?_setCell_same _ _ _ h1.c1, (World.cell?_setCell_other _ _ _ _ (by simp)).trans h1.c2, by simpa using h.f0, by simpa using h.f1, by simpa using h.f2, by simpa using h.lt⟩
 exact ⟨(World.cell?_setCell_other _ _ _ _ (by simp)).trans h2.c0, (World.cell?_setCell_other _ _ _ _ (by simp)).trans h2.c1, World.cell?_setCell_same _ _ _ h2.c2, by simpa using h.f0, by simpa using h.f1, by simpa using h.f2, by simpa using h.lt⟩
theorem _root_.Go.Slip.Bx.bb3 {w : World} {b : Nat} {v0 v1 v2 : Value} (h : Bx w b #[v0, v1, v2]) : Box3 w b v0 v1 v2 :=
 ⟨h.e3.1, h.e3.2.1, h.e3.2.2, h.f 0, h.f 1, h.f 2, h.lt⟩
theorem m0b (p : Option Addr) (n c : Nat) (e : Int) (m : Nat) (w : World) (hp : Rd w .u32 p (dig B32 m)) (hn : n = (dig B32 m).length) (hc : n ≤ c) (hl : (dig B32 m).length ≤ 10000000)
 (he : -1000000000 ≤ e ∧ e ≤ 1000000000) (hT : TabW w) :
 Calls Tryz.prog 64 #[.slice p n c, .int .i64 e] w (f0u w w.heap.size (bare ⟨false, m, e⟩)) := by
 subst hn
 go_enter Tryz.func64, Tryz.ntmps64
 go_wp2_with fail
 refine n0q (fun W1 hb1 hz1 R => ?_)
 replace hp := hp.past hb1
 replace hT := hT.past hb1
 have hs1 := hb1
 ((with_reducible refine (g0j false p _ c e m _ hp rfl hc hl he hT).mono ?_))
 generalize bare ⟨false, m, e⟩ = r at *
 rintro e2 w2 ⟨p2, c2, rfl, ho2, hb2⟩
 replace R := R.past hb2
 obtain ⟨R_0, R_1, R_2⟩ := R.e3
 have R_f0 := R.f 0
 have R_f1 := R.f 1
 have R_f2 := R.f 2
 go_wp2_with fail
 clear R_0 R_1 R_2 R_f0 R_f1 R_f2
 obtain ⟨R_0, R_1, R_2⟩ := R.e3
 refine bodyPost_ret (v := .agg #[.bool r.neg, .slice p2 (dig B32 r.m).length c2, .int .i64 r.e]) (by simp [results, Tryz.results64, go_sem, R_0, R_1, R_2]) rfl ?_
 have hz := hs1.size
 exact q0o (hs1.trans (hb2.mono hs1.size)) ho2 hz (Nat.le_refl _) (fun h => by have := (ho2.blk_lt h).1; omega)
theorem t0j (g : Bool) (p : Option Addr) (n c : Nat) (e : Int) (m : Nat) (w : World) (hn : n = (dig B32 m).length) :
 Calls Tryz.prog 67 #[.agg #[.bool g, .slice p n c, .int .i64 e]] w fun en w' => en = .returned (.agg #[.bool (b0h ⟨g, m, e⟩).neg, .slice p (dig B32 m).length c, .int .i64 e]) ∧ Below w.heap.size w w' := by
 subst hn
 have hz := a0d a0a m
 have A := (i0z w #[.bool g, .slice p (dig B32 m).length c, .int .i64 e] 112).bb3
 cases g
 · by_cases h0 : 0 < (dig B32 m).length
   · have t1 : decide ((0 : Int) < ((dig B32 m).length : Int)) = true := dTr (by omega)
     have hd : (b0h ⟨false, m, e⟩).neg = true := by unfold b0h; simp; (try omega)
     rw [hd]
     clear hd hz
     obtain ⟨A_0, A_1, A_2, A_f0, A_f1, A_f2, A_lt⟩ := A
     go_enter Tryz.func67, Tryz.ntmps67
     go_wp2_with fail
     refine bodyPost_ret (v := .agg #[.bool true, .slice p (dig B32 m).length c, .int .i64 e]) (by simp [results, Tryz.results67, go_sem]) rfl ?_
     exact ⟨rfl, f0v _ _ _⟩
   · have t1 : decide ((0 : Int) < ((dig B32 m).length : Int)) = false := dFa (by omega)
     have hd : (b0h ⟨false, m, e⟩).neg = false := by unfold b0h; simp; (try omega)
     rw [hd]
     clear hd hz
     obtain ⟨A_0, A_1, A_2, A_f0, A_f1, A_f2, A_lt⟩ := A
     go_enter Tryz.func67, Tryz.ntmps67
     go_wp2_with fail
     refine bodyPost_ret (v := .agg #[.bool false, .slice p (dig B32 m).length c, .int .i64 e]) (by simp [results, Tryz.results67, go_sem]) rfl ?_
     exact ⟨rfl, f0v _ _ _⟩
 · have t1 := True.intro
   have hd : (b0h ⟨true, m, e⟩).neg = false := by unfold b0h; simp; (try omega)
   rw [hd]
   clear hd hz
   obtain ⟨A_0, A_1, A_2, A_f0, A_f1, A_f2, A_lt⟩ := A
   go_enter Tryz.func67, Tryz.ntmps67
   go_wp2_with fail
   refine bodyPost_ret (v := .agg #[.bool false, .slice p (dig B32 m).length c, .int .i64 e]) (by simp [results, Tryz.results67, go_sem]) rfl ?_
   exact ⟨rfl, f0v _ _ _⟩
structure Rw where
 g : Bool
 p : Option Addr
 c : Nat
 m : Nat
 e : Int
def Rw.v (a : Rw) : Dv := ⟨a.g, a.m, a.e⟩
structure InW (w : World) (base : Nat) (a : Rw) : Prop where
 ow : Own w base .u32 141 a.p a.c (dig B32 a.m)
 len : (dig B32 a.m).length ≤ 1000000
 lo : -1000000 ≤ a.e
 hi : a.e ≤ 1000000
theorem InW.past {w w' : World} {base : Nat} {a : Rw} (h : InW w base a) (hb : Below w.heap.size w w') : InW w' base a := ⟨h.ow.past hb, h.len, h.lo, h.hi⟩
theorem InW.drew {w : World} {base : Nat} {a : Rw} (h : InW w base a) : InW w.drew base a := ⟨h.ow.drew, h.len, h.lo, h.hi⟩
theorem InW.mono {w : World} {base base' : Nat} {a : Rw} (h : InW w base a) (hb : base' ≤ base) : InW w base' a := ⟨h.ow.mono hb, h.len, h.lo, h.hi⟩
theorem InW.only {w w' : World} {base k : Nat} {a : Rw} (h : InW w base a) (hb : Only k w w') (hne : a.p.isSome = true → blk a.p ≠ k) : InW w' base a := ⟨h.ow.only hb hne, h.len, h.lo, h.hi⟩
structure El (w : World) (g o : Nat) (a : Rw) : Prop where
 c0 : w.cell? ⟨g, o, none⟩ = some (.bool a.g)
 c1 : w.cell? ⟨g, o + 1, none⟩ = some (.slice a.p (dig B32 a.m).length a.c)
 c2 : w.cell? ⟨g, o + 2, none⟩ = some (.int .i64 a.e)
 lt : g < w.heap.size
theorem El.e3 {w : World} {g o : Nat} {a : Rw} (h : El w g o a) : w.cell? ⟨g, o, none⟩ = some (.bool a.g) ∧ w.cell? ⟨g, o + 1, none⟩ = some (.slice a.p (dig B32 a.m).length a.c) ∧ w.cell? ⟨g, o + 2, none⟩ = some (.int .i64 a.e) := ⟨h.c0, h.c1, h.c2⟩
theorem El.below {w w' : World} {B g o : Nat} {a : Rw} (h : El w g o a) (hb : Below B w w') (hB : g < B) : El w' g o a :=
 ⟨by rw [Below.cell hb hB]; exact h.c0, by rw [Below.cell hb hB]; exact h.c1, by rw [Below.cell hb hB]; exact h.c2, Nat.lt_of_lt_of_le h.lt hb.size⟩
theorem El.past {w w' : World} {g o : Nat} {a : Rw} (h : El w g o a) (hb : Below w.heap.size w w') : El w' g o a := h.below hb h.lt
theorem El.drew {w : World} {g o : Nat} {a : Rw} (h : El w g o a) : El w.drew g o a := ⟨h.c0, h.c1, h.c2, h.lt⟩
theorem El.laid {w : World} {g o : Nat} {a : Rw} (h : El w g o a) (ob : Obj) : El (w.alloc ob) g o a := h.past (b0n _ _)
theorem El.set {w : World} {g o k i : Nat} {a : Rw} {v : Value} (h : El w g o a) (hne : g < k) : El (w.setCell ⟨k, i, none⟩ v) g o a :=
 h.below ((Below.refl k w).setCell (p := ⟨k, i, none⟩) (Nat.le_refl _) v) hne
def Tb (w : World) (b : Nat) (t : TypeId) : Prop := ∃ vs fz, w.heap[b]? = some (.cells vs t fz)
theorem Tb.lt {w : World} {b : Nat} {t : TypeId} (h : Tb w b t) : b < w.heap.size := by
 obtain ⟨_, _, h⟩ := h
 exact (Array.getElem?_eq_some_iff.1 h).1
theorem Tb.past {w w' : World} {b : Nat} {t : TypeId} (h : Tb w b t) (hb : Below w.heap.size w w') : Tb w' b t := by
 have hl := h.lt
 obtain ⟨vs, fz, h⟩ := h
 exact ⟨vs, fz, (hb.block _ hl).trans h⟩
theorem Tb.drew {w : World} {b : Nat} {t : TypeId} (h : Tb w b t) : Tb w.drew b t := h
theorem Tb.only {w w' : World} {b k : Nat} {t : TypeId} (h : Tb w b t) (hb : Only k w w') (hne : b ≠ k) : Tb w' b t := by
 obtain ⟨vs, fz, h⟩ := h
 exact ⟨vs, fz, (hb.block _ hne).trans h⟩
theorem _root_.Go.Slip.Own.ne_tb {w : World} {base b : Nat} {k : IntKind} {e t : TypeId} {p : Option Addr} {c : Nat} {xs : List Nat} (h : Own w base k e p c xs) (hb : Tb w b t) (hne : e ≠ t) (hp : p.isSome = true) : blk p ≠ b := by
 obtain ⟨vs, fz, hb⟩ := hb
 rcases h.2 with ⟨h1, _⟩ | ⟨g, cap, cur, hv, _, hg, _⟩
 · simp only [Value.slice.injEq] at h1
   rw [h1.1] at hp; simp at hp
 · simp only [Value.slice.injEq] at hv
   obtain ⟨rfl, _, rfl⟩ := hv
   intro h2
   have h3 : g = b := h2
   rw [h3, hb] at hg
   simp only [Option.some.injEq, Obj.cells.injEq] at hg
   exact hne hg.2.1.symm
theorem n0y {w : World} {base : Nat} {k : IntKind} {e : TypeId} {p : Option Addr} {c : Nat} {X : List Nat} (h : Own w base k e p c X) (j : Nat) (hj : j < X.length) :
 (∀ i, at_ (p.map (·.add j)) i = at_ p (j + i)) ∧ g0r (p.map (·.add j)) (X.length - j) := by
 have h1 := h.rd.solid (by omega)
 refine ⟨fun i => x0n p j i h1.1, ?_⟩
 have := (h.rd.drop j).solid
 rwa [List.length_drop] at this
def a1k (w : World) (base : Nat) (e : TypeId) (p : Option Addr) (c : Nat) (X ys : List Nat) (j t : Nat) (en : Ending) (w' : World) : Prop :=
 ∃ L br, br ≤ 1 ∧ en = .returned (.bool (decide (0 < br))) ∧ Own w' base .u32 e p c L ∧ w.grownBy w' (some (blk p)) ∧ Below base w w' ∧
  c0e L X j (ys.length + 1) ∧ val B32 L + B32 ^ j * (t * val B32 ys) = val B32 X + br * B32 ^ (j + (ys.length + 1))
theorem p0i (p pw q : Option Addr) (c cw n m d : Nat) (X ys : List Nat) (j t base : Nat) (w : World) (hX : Own w base .u32 141 p c X) (hq : Rd w .u32 q ys) (hpw : pw = p.map (·.add j)) (hm : m = ys.length) (hn : n = ys.length + 1)
 (hj : j + ys.length < X.length) (hxl : ∀ x ∈ X, x < B32) (hyl : ∀ x ∈ ys, x < B32) (ht : t < 4294967296) (hap : q0h p q ys) (hps : p.isSome = true) (hl : X.length ≤ 1000000000) :
 Calls Tryz.prog 182 #[.slice pw n cw, .slice q m d, .int .u32 t] w (a1k w base 141 p c X ys j t) := by
 subst hm hn
 obtain ⟨hat, hsw⟩ := n0y hX j (by omega)
 have hsw := hsw.mono (show ys.length + 1 ≤ X.length - j by omega)
 rw [← hpw] at hat hsw
 clear hpw
 have hsy := hq.solid
 have HXL := hi0 hxl
 have HYL := hi0 hyl
 have HAT := hi0 hat
 have H0 := hi0 (o0o.start hxl ys j t)
 have HPS := hi0 hps
 clear hxl hyl hat hps
 go_enter Tryz.func182, Tryz.ntmps182
 go_wp2
 go_loopw [7, 8, 14] (fun cv bv iv wr => ∃ (i cr br : Nat) (L : List Nat), iv = .int .i64 i ∧ cv = .int .u64 cr ∧ bv = .int .u32 br ∧ i ≤ ys.length ∧ cr < 4294967296 ∧ br ≤ 1 ∧ Hid (L.length = X.length) ∧ Own wr base .u32 141 p c L ∧ w.grownBy wr (some (blk p)) ∧ Below base w wr ∧ Hid (o0o L X ys j t i cr br))
  (fun _ _ iv _ => ys.length - (intOf iv).toNat)
 case atStart => exact ⟨0, 0, 0, X, rfl, rfl, rfl, Nat.zero_le _, by omega, by omega, rfl, hX, World.grownBy.refl _ _, Below.refl _ _, H0⟩
 case round =>
  obtain ⟨i, cr, br, L, rfl, rfl, rfl, hi, hcr, hbr, hL, hoL, hgL, hbL, HR⟩ := hrel
  have hqL := hq.written hgL hap HPS.out
  have hLd := a0i (B := 4294967296) (by omega) L HR.out.1.1 (j + i)
  have hXd := a0i (B := 4294967296) (by omega) X HXL.out (j + i)
  have hc1 := hoL.rd.cells (j + i) (by rw [hL.out]; omega)
  rw [← HAT.out i] at hc1
  by_cases hlt : i < ys.length
  · have hc2 := hqL.cells i hlt
    have hyd := a0i (B := 4294967296) (by omega) ys HYL.out i
    obtain ⟨hpr, hpr0⟩ := s0o hyd ht
    obtain ⟨P, hP⟩ : ∃ P, P = dg ys i * t + cr := ⟨_, rfl⟩
    have HS := hi0 (HR.out.step (by omega) hXd hbr P hP)
    have et : (dg ys i : Int) * (t : Nat) + (cr : Nat) = (P : Nat) := by rw [hP]; simp
    have hP0 : P < 18446744073709551616 := by omega
    obtain ⟨pl, hpl⟩ : ∃ pl, pl = P % 4294967296 := ⟨_, rfl⟩
    obtain ⟨ph, hph⟩ : ∃ ph, ph = P / 4294967296 := ⟨_, rfl⟩
    have em : (P : Int) % 4294967296 = (pl : Nat) := by omega
    have ed : (P : Int) / 4294967296 = (ph : Nat) := by omega
    have hpl0 : pl < 4294967296 := by omega
    have hph0 : ph < 4294967296 := by omega
    rw [← hpl, ← hph] at HS
    have HC := o0n (dg L (j + i)) pl br
    clear hP hpl hph
    go_wp2_with (first
      | (go_at_call 173; refine (i0x _ _ br _ hLd hpl0 hbr).mono ?_; rintro e w2 ⟨rfl, rfl⟩)
      | (refine a0p rfl _ _ _ rfl 141 b0v _ _ _ _ hoL (j + i) (by rw [hL.out]; omega) _ ?_ (by rw [← HAT.out i]; rfl) rfl ?_; omega; intro w3 ho3 hg3 hb3))
    rw [Int.toNat_natCast] at ho3
    go_roundw
    case rel => exact ⟨i + 1, ph, subB (dg L (j + i)) pl br, _, by go_num, rfl, rfl, hlt, hph0, HC, (by show (List.set _ _ _).length = _; rw [List.length_set]; exact hL.out), ho3, hgL.trans hg3, hbL.trans hb3, HS⟩
    case measure => simp [intOf]; omega
  · obtain rfl : i = ys.length := by omega
    obtain ⟨HW, HV⟩ := HR.out.last (by omega) hXd hbr hcr
    have HW := hi0 HW
    have HV := hi0 HV
    have HC := o0n (dg L (j + ys.length)) cr br
    have ec : (cr : Int) % 4294967296 = (cr : Nat) := by omega
    go_wp2_with (first
      | (go_at_call 173; refine (i0x _ _ br _ hLd hcr hbr).mono ?_; rintro e w2 ⟨rfl, rfl⟩)
      | (refine a0p rfl _ _ _ rfl 141 b0v _ _ _ _ hoL (j + ys.length) (by rw [hL.out]; omega) _ ?_ (by rw [← HAT.out ys.length]; rfl) rfl ?_; omega; intro w3 ho3 hg3 hb3))
    rw [Int.toNat_natCast] at ho3
    go_ret
    exact ⟨_, subB (dg L (j + ys.length)) cr br, HC, b1x (by simp), ho3, hgL.trans hg3, hbL.trans hb3, HW.out, HV.out⟩
def a1l (w : World) (base : Nat) (e : TypeId) (p : Option Addr) (c : Nat) (X ys : List Nat) (j : Nat) (en : Ending) (w' : World) : Prop :=
 ∃ L co, en = .returned (.tuple #[]) ∧ Own w' base .u32 e p c L ∧ w.grownBy w' (some (blk p)) ∧ Below base w w' ∧
  c0e L X j (ys.length + 1) ∧ val B32 L + co * B32 ^ (j + (ys.length + 1)) = val B32 X + B32 ^ j * val B32 ys
theorem p0j (p pw q : Option Addr) (c cw n m d : Nat) (X ys : List Nat) (j base : Nat) (w : World) (hX : Own w base .u32 141 p c X) (hq : Rd w .u32 q ys) (hpw : pw = p.map (·.add j)) (hm : m = ys.length) (hn : n = ys.length + 1)
 (hj : j + ys.length < X.length) (hxl : ∀ x ∈ X, x < B32) (hyl : ∀ x ∈ ys, x < B32) (hap : q0h p q ys) (hps : p.isSome = true) (hl : X.length ≤ 1000000000) :
 Calls Tryz.prog 183 #[.slice pw n cw, .slice q m d] w (a1l w base 141 p c X ys j) := by
 subst hm hn
 obtain ⟨hat, hsw⟩ := n0y hX j (by omega)
 have hsw := hsw.mono (show ys.length + 1 ≤ X.length - j by omega)
 rw [← hpw] at hat hsw
 clear hpw
 have hsy := hq.solid
 have HXL := hi0 hxl
 have HYL := hi0 hyl
 have HAT := hi0 hat
 have H0 := hi0 (o0p.start hxl ys j)
 have HPS := hi0 hps
 clear hxl hyl hat hps
 go_enter Tryz.func183, Tryz.ntmps183
 go_wp2
 go_loopw [4, 9] (fun cv iv wr => ∃ (i cr : Nat) (L : List Nat), iv = .int .i64 i ∧ cv = .int .u32 cr ∧ i ≤ ys.length ∧ cr ≤ 1 ∧ Hid (L.length = X.length) ∧ Own wr base .u32 141 p c L ∧ w.grownBy wr (some (blk p)) ∧ Below base w wr ∧ Hid (o0p L X ys j i cr))
  (fun _ iv _ => ys.length - (intOf iv).toNat)
 case atStart => exact ⟨0, 0, X, rfl, rfl, Nat.zero_le _, by omega, rfl, hX, World.grownBy.refl _ _, Below.refl _ _, H0⟩
 case round =>
  obtain ⟨i, cr, L, rfl, rfl, hi, hcr, hL, hoL, hgL, hbL, HR⟩ := hrel
  have hqL := hq.written hgL hap HPS.out
  have hLd := a0i (B := 4294967296) (by omega) L HR.out.1.1 (j + i)
  have hc1 := hoL.rd.cells (j + i) (by rw [hL.out]; omega)
  rw [← HAT.out i] at hc1
  by_cases hlt : i < ys.length
  · have hc2 := hqL.cells i hlt
    have hyd := a0i (B := 4294967296) (by omega) ys HYL.out i
    have HS := hi0 (HR.out.step (by omega) _ rfl)
    have HC : (dg L (j + i) + dg ys i + cr) / 4294967296 ≤ 1 := by omega
    go_wp2_with (first
      | (go_at_call 160; refine (g0t _ _ cr _ hLd hyd hcr).mono ?_; rintro e w2 ⟨rfl, rfl⟩)
      | (refine a0p rfl _ _ _ rfl 141 b0v _ _ _ _ hoL (j + i) (by rw [hL.out]; omega) _ ?_ (by rw [← HAT.out i]; rfl) rfl ?_; omega; intro w3 ho3 hg3 hb3))
    have e3 : (((dg L (j + i) : Int) + dg ys i + cr) % 4294967296).toNat = (dg L (j + i) + dg ys i + cr) % 4294967296 := by omega
    rw [e3] at ho3
    go_roundw
    case rel => exact ⟨i + 1, (dg L (j + i) + dg ys i + cr) / 4294967296, _, by go_num, by go_num, hlt, HC, (by show (List.set _ _ _).length = _; rw [List.length_set]; exact hL.out), ho3, hgL.trans hg3, hbL.trans hb3, HS⟩
    case measure => simp [intOf]; omega
  · obtain rfl : i = ys.length := by omega
    obtain ⟨HW, HV⟩ := HR.out.last (by omega)
    have HW := hi0 HW
    have HV := hi0 HV
    go_wp2_with (refine a0p rfl _ _ _ rfl 141 b0v _ _ _ _ hoL (j + ys.length) (by rw [hL.out]; omega) _ ?_ (by rw [← HAT.out ys.length]; rfl) rfl ?_; omega; intro w3 ho3 hg3 hb3)
    have e3 : (((dg L (j + ys.length) : Int) + cr) % 4294967296).toNat = (dg L (j + ys.length) + cr) % 4294967296 := by omega
    rw [e3] at ho3
    go_end0
    exact ⟨_, _, rfl, ho3, hgL.trans hg3, hbL.trans hb3, HW.out, HV.out⟩
theorem d1f (x : Nat) (w : World) (h1 : x < 4294967296) :
 Calls Tryz.prog 181 #[.int .u32 x] w fun e w' => e = .returned (.int .i64 ((32 - blen x : Nat) : Int)) ∧ w = w' := by
 have hb : blen x ≤ 32 := (a0w x 32).2 (by omega)
 go_enter Tryz.func181, Tryz.ntmps181
 go_wp2_with (go_at_call 167; refine (q0n x _ h1).mono ?_; rintro e w1 ⟨rfl, rfl⟩)
 go_ret
 exact ⟨i0c (by omega), rfl⟩
theorem _root_.Go.Slip.DivRel.even' {A mm j t r : Nat} {ys U Q L : List Nat} (h : DivRel A (val B32 ys) ys.length U Q (j + 1)) (k : d0x ys U mm j) (ht : h0u ys U mm j t r) (hj : j < Q.length) (hB : t < 4294967296)
 (hw : c0e L U j (ys.length + 1)) (hv : val B32 L + B32 ^ j * (t * val B32 ys) = val B32 U + 0 * B32 ^ (j + (ys.length + 1))) : DivRel A (val B32 ys) ys.length L (Q.set j t) j := by
 have e := k.ly
 rw [e] at h hw hv ⊢
 exact h.even k ht hj hB hw hv
theorem _root_.Go.Slip.DivRel.owed' {A mm j t r co : Nat} {ys U Q L M : List Nat} (h : DivRel A (val B32 ys) ys.length U Q (j + 1)) (k : d0x ys U mm j) (ht : h0u ys U mm j t r) (he : t ≤ val B32 (U.drop j) / val B32 ys + 1) (hj : j < Q.length) (hB : t < 4294967296)
 (hw : c0e L U j (ys.length + 1)) (hv : val B32 L + B32 ^ j * (t * val B32 ys) = val B32 U + 1 * B32 ^ (j + (ys.length + 1)))
 (hw2 : c0e M L j (ys.length + 1)) (hv2 : val B32 M + co * B32 ^ (j + (ys.length + 1)) = val B32 L + B32 ^ j * val B32 ys) : 0 < t ∧ DivRel A (val B32 ys) ys.length M (Q.set j (t - 1)) j := by
 have e := k.ly
 rw [e] at h hw hv hw2 hv2 ⊢
 exact h.owed k ht he hj hB hw hv hw2 hv2
theorem p0k {mm j t : Nat} {ys U L : List Nat} (k : d0x ys U mm j) (hw : c0e L U j (ys.length + 1)) (hv : val B32 L + B32 ^ j * (t * val B32 ys) = val B32 U + 1 * B32 ^ (j + (ys.length + 1))) : 0 < t := by
 have e := k.ly
 rw [e] at hw hv
 have h1 := x0v hw hv
 have h2 := x0w hw k.z
 rcases Nat.eq_zero_or_pos t with h0 | h0
 · subst h0
   rw [Nat.zero_mul] at h1
   omega
 · exact h0
def v0g (w : World) (e : TypeId) (xs ys : List Nat) (en : Ending) (w' : World) : Prop :=
 ∃ p c q d, en = .returned (.tuple #[.slice p xs.length c, .slice q ys.length d]) ∧ Own w' w.heap.size .u32 e p c xs ∧ Own w' w.heap.size .u32 e q d ys ∧ Below w.heap.size w w' ∧ (p.isSome = true → q.isSome = true → blk p ≠ blk q)
theorem d1g (p q : Option Addr) (n m c d : Nat) (a b : Nat) (w : World) (hp : Rd w .u32 p (dig B32 a)) (hq : Rd w .u32 q (dig B32 b)) (hn : n = (dig B32 a).length) (hm : m = (dig B32 b).length)
 (hl : (dig B32 a).length ≤ 1000000000) (hl2 : (dig B32 b).length ≤ 1000000000) (hab : a < b) :
 Calls Tryz.prog 169 #[.slice p n c, .slice q m d] w (v0g w 141 [] (dig B32 a)) := by
 subst hn hm
 have hC : cmpN a b ≤ -1 := by rw [f0j hab]; omega
 go_enter Tryz.func169, Tryz.ntmps169
 go_wp2_with fail
 refine (e0g p q _ _ c d a b _ hp hq rfl rfl (by omega) (by omega)).mono ?_
 rintro e w1 ⟨rfl, hb1⟩
 go_wp2_with fail
 refine (g0s p _ c _ _ (hp.past hb1) rfl hl).mono ?_
 rintro e w2 ⟨p2, c2, rfl, ho2, hb2⟩
 go_wp2_with fail
 go_ret2
 exact ⟨none, 0, p2, c2, rfl, Own.nil _ _ _ _, ho2.mono hb1.size, hb1.trans (hb2.mono hb1.size), fun h => by simp at h⟩
theorem a1m (p q : Option Addr) (n m c d : Nat) (a b : Nat) (w : World) (hp : Rd w .u32 p (dig B32 a)) (hq : Rd w .u32 q [b]) (hn : n = (dig B32 a).length) (hm : m = 1)
 (hl : (dig B32 a).length ≤ 1000000000) (hb0 : 0 < b) (hb1 : b < 4294967296) (hab : b ≤ a) :
 Calls Tryz.prog 169 #[.slice p n c, .slice q m d] w (v0g w 141 (dig B32 (a / b)) (dig B32 (a % b))) := by
 subst hn hm
 have hC : 0 ≤ cmpN a b := by unfold cmpN; rw [if_neg (by omega)]; split <;> omega
 have eb : [b] = dig B32 b := by rw [d0i a0a hb0, Nat.div_eq_of_lt (by unfold B32; omega), a0c, Nat.mod_eq_of_lt (by unfold B32; omega)]
 have hr : a % b < 4294967296 := Nat.lt_trans (Nat.mod_lt a hb0) hb1
 obtain ⟨r, hrr⟩ : ∃ r, a % b = r := ⟨_, rfl⟩
 have HR := hi0 hrr
 rw [hrr] at hr ⊢
 clear hrr
 have hX := hi0 (show ∀ x ∈ [r], x < B32 by simp; unfold B32; omega)
 have hV := hi0 (show val B32 [r] = r by simp)
 have hq2 := hi0 (show Rd w .u32 q (dig B32 b) by rw [← eb]; exact hq)
 have hl1 := hi0 (show 1 = (dig B32 b).length by rw [← eb]; rfl)
 clear eb
 have hsq := hq.solid
 simp only [List.length_singleton] at hsq
 go_enter Tryz.func169, Tryz.ntmps169
 go_wp2_with fail
 refine (e0g p q _ 1 c d a b _ hp hq2.out rfl hl1.out (by omega) (by rw [← hl1.out]; omega)).mono ?_
 rintro e w1 ⟨rfl, hb1'⟩
 have hcd : w1.cell? (at_ q 0) = some (.int .u32 (b : Nat)) := (hq.past hb1').cells 0 (by simp)
 go_wp2_with fail
 refine (a1g p _ c a b _ (hp.past hb1') rfl hl hb0 hb1).mono ?_
 rw [HR.out]
 rintro e w2 ⟨p2, c2, rfl, ho2, hb2⟩
 go_wp2_with (refine a0t rfl _ _ rfl b0v _ ?_ rfl ?_; omega; intro p3 w3 ho3 hb3 hz3 hp3)
 rw [Int.toNat_natCast] at ho3
 refine (e0l p3 1 1 [r] _ ho3.rd rfl (by simp) hX.out (by simp)).mono ?_
 rintro e w4 ⟨rfl, rfl⟩
 rw [hV.out]
 go_wp2_with fail
 go_ret2
 have ht := a0r a0a [r] hX.out
 have ho4 := ho3.take (dig B32 (val B32 [r])).length
 rw [ht, hV.out] at ho4
 have hs2 := hb1'.trans (hb2.mono hb1'.size)
 exact ⟨p2, c2, p3, _, rfl, (ho2.past hb3).mono hb1'.size, ho4.mono hs2.size, hs2.trans (hb3.mono hs2.size), fun h1 h2 => by have := (ho2.blk_lt h1).2; have := (ho4.blk_lt h2).1; omega⟩
theorem d1h (p q : Option Addr) (n m c d : Nat) (a b : Nat) (w : World) (hp : Rd w .u32 p (dig B32 a)) (hq : Rd w .u32 q (dig B32 b)) (hn : n = (dig B32 a).length) (hm : m = (dig B32 b).length)
 (hl : (dig B32 a).length ≤ 100000000) (h2 : 2 ≤ (dig B32 b).length) (hab : b ≤ a) :
 Calls Tryz.prog 169 #[.slice p n c, .slice q m d] w (v0g w 141 (dig B32 (a / b)) (dig B32 (a % b))) := by
 subst hn hm
 have hC : 0 ≤ cmpN a b := by unfold cmpN; rw [if_neg (by omega)]; split <;> omega
 have hlb := a0j a0a hab
 have hb0 : 0 < b := by
  have := a0d a0a b
  omega
 obtain ⟨bt, hbt⟩ : ∃ bt, bt = dg (dig B32 b) ((dig B32 b).length - 1) := ⟨_, rfl⟩
 have hbt1 : bt < 4294967296 := by rw [hbt]; exact a0i (B := 4294967296) (by omega) _ (b0a a0a b) _
 have hbt2 : blen bt ≤ 32 := (a0w bt 32).2 (by omega)
 have hbt3 : 1 ≤ blen bt := (c0o bt).2 (by rw [hbt]; exact (i0s (B := B32) (s := 32) (by decide) a0a b hb0).2)
 obtain ⟨s, hs⟩ : ∃ s, s = 32 - blen bt := ⟨_, rfl⟩
 obtain ⟨nl, nt⟩ := c1d hb0 (s := s) (by rw [← hbt]; omega)
 have hs32 : s < 32 := by omega
 have HS := hi0 hs
 have hcb := hq.cells ((dig B32 b).length - 1) (by omega)
 rw [← hbt] at hcb
 have t1 : (((dig B32 b).length : Int) == 1) = false := bFn (by omega)
 have lu1 := a0j a0a (show a ≤ a * 2 ^ s from Nat.le_mul_of_pos_right _ (Nat.pow_pos (by omega)))
 have lu2 : (dig B32 (a * 2 ^ s)).length ≤ (dig B32 a).length + 2 := by
  refine Nat.le_trans (d0n a0a _ _) ?_
  have : (dig B32 (2 ^ s)).length ≤ 1 := (a0e a0a _ 1).2 (Nat.lt_of_lt_of_le (Nat.pow_lt_pow_right (by omega) hs32) (by decide))
  omega
 obtain ⟨ys, hys⟩ : ∃ ys, ys = dig B32 (b * 2 ^ s) := ⟨_, rfl⟩
 obtain ⟨us, hus⟩ : ∃ us, us = dig B32 (a * 2 ^ s) := ⟨_, rfl⟩
 obtain ⟨mm, hmm⟩ : ∃ mm, ys.length = mm + 2 := ⟨ys.length - 2, by rw [hys, nl]; omega⟩
 have HYD := hi0 (show ∀ x ∈ ys, x < B32 by rw [hys]; exact b0a a0a _)
 have HYV := hi0 (show val B32 ys = b * 2 ^ s by rw [hys]; exact a0u a0a _)
 have hbig : 2147483648 ≤ dg ys (mm + 1) := by
  rw [hys, show mm + 1 = (dig B32 b).length - 1 by rw [← nl, ← hys, hmm]; omega]; exact nt
 rw [← hys] at nl
 rw [← hus] at lu1 lu2
 have hyl1 := Nat.le_of_eq nl
 have hyl2 := Nat.le_of_eq nl.symm
 have hU0 : DivRel (a * 2 ^ s) (val B32 ys) ys.length (us ++ [0]) (List.replicate (us.length + 1 - ys.length) 0) (us.length + 1 - ys.length) := by
  have := DivRel.start (A := a * 2 ^ s) (V := val B32 ys) (n := ys.length) (U := us ++ [0]) (fun x hx => by
    rcases List.mem_append.1 hx with h | h
    · rw [hus] at h; exact b0a a0a _ x h
    · simp at h; rw [h]; exact b0y) (by simp; omega) (by omega) (by rw [d0s, hus, a0u a0a]; simp)
   (by simp; rw [hus]; exact (a0e a0a _ _).1 (Nat.le_refl _))
   (by rw [HYV.out, hys]; exact c0x a0a _ (Nat.mul_pos hb0 (Nat.pow_pos (by omega))))
  simpa using this
 have HU0 := hi0 hU0
 have HYS := hi0 hys
 have HUS := hi0 hus
 have HMM := hi0 hmm
 obtain ⟨QL, hQL⟩ : ∃ QL, QL = us.length + 1 - ys.length := ⟨_, rfl⟩
 rw [← hQL] at HU0
 have q1 : QL + ys.length ≤ us.length + 1 := by omega
 have q2 : us.length + 1 ≤ QL + ys.length := by omega
 have y2 : 2 ≤ ys.length := by omega
 have HB0 := hi0 hb0
 have HBT := hi0 hbt
 clear hbt hs nl nt hU0 hys hus hmm hQL hb0
 go_enter Tryz.func169, Tryz.ntmps169
 go_wp2_with fail
 refine (e0g p q _ _ c d a b _ hp hq rfl rfl (by omega) (by omega)).mono ?_
 rintro e w1 ⟨rfl, hb1⟩
 have hp1 := hp.past hb1
 have hq1 := hq.past hb1
 have hsq := hq1.solid
 have hcb1 : w1.cell? (at_ q ((dig B32 b).length - 1)) = some (.int .u32 (bt : Nat)) := by
  have h := hq1.cells ((dig B32 b).length - 1) (by omega)
  rw [← HBT.out] at h; exact h
 go_wp2_with fail
 refine (d1f bt _ hbt1).mono ?_
 rintro e w2 ⟨rfl, rfl⟩
 rw [← HS.out]
 go_wp2_with fail
 refine (g0v q _ d b s _ hq1 rfl (by omega) (by omega)).mono ?_
 rw [← HYS.out]
 rintro e w3 ⟨pv, cv, rfl, hov, hb3⟩
 have hs3 := hb1.trans (hb3.mono hb1.size)
 go_wp2_with fail
 refine (g0v p _ c a s _ (hp1.past hb3) rfl (by omega) (by omega)).mono ?_
 rw [← HUS.out]
 rintro e w4 ⟨pu0, cu0, rfl, hou0, hb4⟩
 have hs4 := hs3.trans (hb4.mono hs3.size)
 go_wp2_with (first
   | (refine a0t rfl _ _ rfl b0v 0 (by omega) rfl ?_; intro p5 w5 ho5 hb5 hz5 hp5)
   | (at_builtin; refine a0v rfl _ _ _ rfl b0v w3.heap.size _ _ _ _ (hou0.past hb5) rfl _ _ _ _ ho5.rd rfl rfl rfl ?_ ?_ ?_; (simp; omega); (have := hb5.size; have := hb4.size; omega); intro pu cu w6 hou hg6 hb6 hn6))
 have hs5 := hs4.trans (hb5.mono hs4.size)
 have hs6 := hs5.trans (hb6.mono hs3.size)
 have hvl := hov.rd.lt (by omega)
 have hsz3 := hs3.size
 have hvr6 := ((hov.rd.past hb4).past hb5).below hb6 (fun _ => hvl)
 have hus6 := hou.solid
 rw [List.length_append, List.length_singleton] at hus6
 clear hb1 hb3 hb4 hb5 hb6 hs3 hs4 hs5 hp1 hq1 hcb hcb1 hsq t1 hn6 hg6 hou0 ho5 hz5 hp5
 go_loopw [10] (fun uv wr => uv = .slice pu (us.length + 1) cu ∧ w6 = wr) (fun _ _ => 0)
 case atStart => exact ⟨rfl, rfl⟩
 case round =>
  obtain ⟨rfl, rfl⟩ := hrel
  go_wp2_with (refine g0e rfl _ _ _ rfl b0v .i64 .i64 QL _ _ rfl rfl ?_ ?_ ?_ ?_; omega; omega; omega; intro pq cq w7 hoq hb7 hz7)
  obtain ⟨top, htop⟩ : ∃ top, dg ys (ys.length - 1) = top := ⟨_, rfl⟩
  obtain ⟨nx, hnx⟩ : ∃ nx, dg ys (ys.length - 2) = nx := ⟨_, rfl⟩
  have hvr7 := hvr6.past hb7
  have hc1 := hvr7.cells (ys.length - 1) (by omega)
  have hc2 := hvr7.cells (ys.length - 2) (by omega)
  rw [htop] at hc1
  rw [hnx] at hc2
  have hvs := hvr7.solid
  have htop1 : top < 4294967296 := by rw [← htop]; exact a0i (B := 4294967296) (by omega) ys HYD.out _
  have hnx1 : nx < 4294967296 := by rw [← hnx]; exact a0i (B := 4294967296) (by omega) ys HYD.out _
  have htop2 : 2147483648 ≤ top := by rw [← htop, HMM.out]; exact hbig
  have HTOP := hi0 htop
  have HNX := hi0 hnx
  clear htop hnx hbig
  have b1 : (0 : Int) ≤ (ys.length : Int) - 1 := by omega
  have b2 : (ys.length : Int) - 1 < (ys.length : Int) := by omega
  have b3 : (0 : Int) ≤ (ys.length : Int) - 2 := by omega
  have b4 : (ys.length : Int) - 2 < (ys.length : Int) := by omega
  have e1 : IntKind.i64.wrap ((ys.length : Int) - 1) = (ys.length : Int) - 1 := iwo
  have e2 : IntKind.i64.wrap ((ys.length : Int) - 2) = (ys.length : Int) - 2 := iwo
  have e3 : ((ys.length : Int) - 1).toNat = ys.length - 1 := by omega
  have e4 : ((ys.length : Int) - 2).toNat = ys.length - 2 := by omega
  have e5 : IntKind.u64.wrap (top : Int) = (top : Int) := IntWalk.u64_in _ (by omega)
  have e6 : IntKind.u64.wrap (nx : Int) = (nx : Int) := IntWalk.u64_in _ (by omega)
  go_wp2_with fail
  go_quiet (fail)
  clear b1 b2 b3 b4 e1 e2 e3 e4 e5 e6 hc1 hc2
  have hsvu : w3.heap.size ≤ w6.heap.size := by
   have := hou.rd.lt (by simp)
   have := (hou.blk_lt (hou.rd.solid (by simp)).1).1
   omega
  have hou7 := hou.past hb7
  have hups := (hou.rd.solid (by simp)).1
  have hbu := hou.blk_lt hups
  have hvu : blk pv ≠ blk pu := by omega
  have hqu : pq.isSome = true → some (blk pq) ≠ some (blk pu) := fun h => by
   have := hoq.blk_lt h
   simp only [ne_eq, Option.some.injEq]; omega
  have hqv : pq.isSome = true → blk pq ≠ blk pv := fun h => by
   have := hoq.blk_lt h
   omega
  have HVU := hi0 hvu
  have HQU := hi0 hqu
  have HQV := hi0 hqv
  have HUPS := hi0 hups
  have hs7 := hs6.trans (hb7.mono hs6.size)
  have hsz6 := hs6.size
  clear hvu hqu hqv hups hbu hsvu
  have hcu := hou.le_cap
  rw [List.length_append, List.length_singleton] at hcu
  go_wp2_with fail
  go_loopw [15] (fun jv wr => ∃ (k : Nat) (U Q : List Nat), jv = .int .i64 ((k : Int) - 1) ∧ k ≤ QL ∧ Hid (U.length = us.length + 1) ∧ Hid (Q.length = QL) ∧ Own wr w3.heap.size .u32 141 pu cu U ∧
      Own wr w6.heap.size .u32 141 pq cq Q ∧ Below w.heap.size w wr ∧ Rd wr .u32 pv ys ∧ Hid (DivRel (a * 2 ^ s) (val B32 ys) ys.length U Q k))
   (fun jv _ => (intOf jv + 1).toNat)
  case atStart => exact ⟨QL, _, _, by go_num, Nat.le_refl _, (by show (us ++ [Int.toNat 0]).length = us.length + 1; simp), List.length_replicate, hou7.drewN _, hoq.drewN _, below_drewN hs7 _, hvr7.drewN _, HU0⟩
  case round =>
   obtain ⟨k, U, Q, rfl, hk, hUl, hQl, hoU, hoQ, hbL, hrv, HR⟩ := hrel
   by_cases h0 : 0 < k
   · obtain ⟨j, rfl⟩ : ∃ j, k = j + 1 := ⟨k - 1, by omega⟩
     have ej : ((j + 1 : Nat) : Int) - 1 = j := by omega
     rw [ej]
     have KN : d0x ys U mm j := ⟨HYD.out, HR.out.dU, HMM.out, by rw [show mm + 1 = ys.length - 1 by rw [HMM.out]; omega, HTOP.out]; exact htop2, HR.out.win⟩
     have KN := hi0 KN
     obtain ⟨u2, hu2⟩ : ∃ u2, dg U (j + ys.length) = u2 := ⟨_, rfl⟩
     obtain ⟨u1, hu1⟩ : ∃ u1, dg U (j + ys.length - 1) = u1 := ⟨_, rfl⟩
     obtain ⟨u0, hu0⟩ : ∃ u0, dg U (j + ys.length - 2) = u0 := ⟨_, rfl⟩
     have hc2 := hoU.rd.cells (j + ys.length) (by rw [hUl.out]; omega)
     have hc1 := hoU.rd.cells (j + ys.length - 1) (by rw [hUl.out]; omega)
     have hc0 := hoU.rd.cells (j + ys.length - 2) (by rw [hUl.out]; omega)
     have hsU := hoU.solid
     rw [hUl.out] at hsU
     rw [hu2] at hc2
     rw [hu1] at hc1
     rw [hu0] at hc0
     have hu2l : u2 < 4294967296 := by rw [← hu2]; exact a0i (B := 4294967296) (by omega) U HR.out.dU _
     have hu1l : u1 < 4294967296 := by rw [← hu1]; exact a0i (B := 4294967296) (by omega) U HR.out.dU _
     have hu0l : u0 < 4294967296 := by rw [← hu0]; exact a0i (B := 4294967296) (by omega) U HR.out.dU _
     have HU2 := hi0 hu2
     have HU1 := hi0 hu1
     have HUZ := hi0 hu0
     clear hu2 hu1 hu0
     obtain ⟨two, htwo⟩ : ∃ two, two = u2 * 4294967296 + u1 := ⟨_, rfl⟩
     have HT0 : Hid (h0u ys U mm j (two / top) (two % top)) := by
      have := KN.out.start two (by rw [htwo, ← HU2.out, ← HU1.out, HMM.out]; rfl)
      rw [show mm + 1 = ys.length - 1 by rw [HMM.out]; omega, HTOP.out] at this
      exact this
     have HT0 := hi0 HT0.out
     have hor := or32 u2 u1 hu2l hu1l
     have etw : (u2 : Int) * 4294967296 + (u1 : Nat) = (two : Nat) := by omega
     rw [etw] at hor
     have htwl : two < 18446744073709551616 := by omega
     have HTW := hi0 htwo
     clear etw htwo
     have b0 : (0 : Int) ≤ (j : Int) + ys.length := by omega
     have b1 : (0 : Int) ≤ (j : Int) + ys.length - 1 := by omega
     have b2 : (j : Int) + ys.length < (us.length : Int) + 1 := by omega
     have b3 : (j : Int) + ys.length - 1 < (us.length : Int) + 1 := by omega
     have e1 : IntKind.i64.wrap ((j : Int) + ys.length) = (j : Int) + ys.length := iwo
     have e2 : IntKind.i64.wrap ((j : Int) + ys.length - 1) = (j : Int) + ys.length - 1 := iwo
     have e3 : ((j : Int) + ys.length).toNat = j + ys.length := by omega
     have e4 : ((j : Int) + ys.length - 1).toNat = j + ys.length - 1 := by omega
     have e5 : IntKind.u64.wrap (u2 : Int) = (u2 : Int) := IntWalk.u64_in _ (by omega)
     have e6 : IntKind.u64.wrap (u1 : Int) = (u1 : Int) := IntWalk.u64_in _ (by omega)
     have e7 : IntKind.u64.wrap ((u2 : Int) * 4294967296) = (u2 : Int) * 4294967296 := IntWalk.u64_in _ (by omega)
     go_wp2_with fail
     go_quiet (fail)
     obtain ⟨n1, rfl⟩ : ∃ n1, n1 = nq := ⟨_, rfl⟩
     go_wp2_with fail
     clear b0 b1 b2 b3 e1 e2 e3 e4 e5 e6 e7 hor
     obtain ⟨t0, ht0⟩ : ∃ t0, t0 = two / top := ⟨_, rfl⟩
     obtain ⟨r0, hr0⟩ : ∃ r0, r0 = two % top := ⟨_, rfl⟩
     rw [← ht0, ← hr0] at HT0
     have hr0l : r0 < 4294967296 := by rw [hr0]; exact Nat.lt_trans (Nat.mod_lt _ (by omega)) htop1
     have ht0l : t0 < 18446744073709551616 := by rw [ht0]; exact Nat.lt_of_le_of_lt (Nat.div_le_self _ _) htwl
     have e1 : (two : Int) / (top : Int) = (t0 : Nat) := by rw [ht0]; rfl
     have e2 : (two : Int).tmod (top : Int) = (r0 : Nat) := by rw [hr0, Int.tmod_eq_emod_of_nonneg (by omega)]; rfl
     have e3 : IntKind.u64.wrap (t0 : Int) = (t0 : Int) := IntWalk.u64_in _ (by omega)
     have e4 : ¬ top = 0 := by omega
     have e5 : IntKind.u64.wrap (r0 : Int) = (r0 : Int) := IntWalk.u64_in _ (by omega)
     clear ht0 hr0
     go_quiet (fail)
     clear e1 e2 e3 e4 e5
     have hoU8 := (hoU.drewN n1).drewN nq
     have hoQ8 := (hoQ.drewN n1).drewN nq
     have hrv8 := (hrv.drewN n1).drewN nq
     have hbL8 := below_drewN (below_drewN hbL n1) nq
     have hc8 := hoU8.rd.cells (j + ys.length - 2) (by rw [hUl.out]; omega)
     rw [HUZ.out] at hc8
     generalize (wr.drewN n1).drewN nq = w8 at *
     clear hc0 hc1 hc2 hoU hoQ hrv hbL
     have hju : j + ys.length + 1 ≤ us.length + 1 := by omega
     have hsQ := hoQ8.solid
     rw [hQl.out] at hsQ
     have hjc : j + ys.length + 1 ≤ cu := by omega
     clear ej
     have HXT : Hid (dg ys (mm + 1) = top) := by show dg ys (mm + 1) = top; rw [show mm + 1 = ys.length - 1 by rw [HMM.out]; omega]; exact HTOP.out
     have HXN : Hid (dg ys mm = nx) := by show dg ys mm = nx; rw [show mm = ys.length - 2 by rw [HMM.out]; omega]; exact HNX.out
     have HXU : Hid (dg U (j + mm) = u0) := by show dg U (j + mm) = u0; rw [show j + mm = j + ys.length - 2 by rw [HMM.out]; omega]; exact HUZ.out
     go_wp2_with fail
     go_loop [17, 18] (fun tv rv => ∃ (t r : Nat), tv = .int .u64 t ∧ rv = .int .u64 r ∧ r < 4294967296 ∧ t ≤ 4294967298 ∧ Hid (h0u ys U mm j t r)) (fun tv _ => (intOf tv).toNat)
     case atStart => exact ⟨t0, r0, rfl, rfl, hr0l, HT0.out.bound KN.out, HT0⟩
     case round =>
      obtain ⟨t, r, rfl, rfl, hrl, htl, HT⟩ := hrel
      by_cases hA : 4294967296 ≤ t
      · obtain ⟨hd1, hd2⟩ := HT.out.down KN.out (.inl hA)
        obtain ⟨u, rfl⟩ : ∃ u, t = u + 1 := ⟨t - 1, by omega⟩
        rw [HXT.out, Nat.add_sub_cancel] at hd2
        have HT' := hi0 hd2
        have dA : decide ((4294967296 : Int) ≤ (u : Int) + 1) = true := dTr (by omega)
        clear hd2 hA
        by_cases hbk : 4294967296 ≤ r + top
        · obtain ⟨ht1, ht2⟩ := HT'.out.breaks KN.out hbk
          have HTE := hi0 (HT'.out.exit KN.out ht1 ht2)
          have ht1 : u < 4294967296 := ht1
          have dB : decide ((4294967296 : Int) ≤ (r : Int) + (top : Int)) = true := dTr (by omega)
          clear hbk
          go_wp2_with fail
          ((with_reducible refine (p0i pu _ pv cu _ _ _ _ U ys j u w3.heap.size _ hoU8 hrv8 rfl rfl ?_ ?_ ?_ ?_ ?_ ?_ ?_ ?_).mono ?_))
          · omega
          · rw [hUl.out]; omega
          · exact HR.out.dU
          · exact HYD.out
          · exact ht1
          · exact fun _ _ => HVU.out.symm
          · exact HUPS.out
          · rw [hUl.out]; omega
          rintro e w9 ⟨L, br, hbr, rfl, hoL, hgL, hbL9, HW, HV⟩
          have HW := hi0 HW
          have HV := hi0 HV
          have hoQ9 := hoQ8.grown hgL HQU.out
          have hrv9 := hrv8.written hgL (fun _ _ => HVU.out.symm) HUPS.out
          have hb9 := hbL8.trans (hbL9.mono hsz3)
          have hjQ : j < Q.length := by rw [hQl.out]; omega
          have hqs := hi0 (hoQ9.rd.solid (by omega)).1
          have hLl := hi0 (show L.length = us.length + 1 by rw [HW.out.2.1]; exact hUl.out)
          rcases (show br = 0 ∨ br = 1 by omega) with rfl | rfl
          · have HS := hi0 (HR.out.even' KN.out HT'.out hjQ ht1 HW.out HV.out)
            go_wp2_with (refine a0p rfl _ _ _ rfl 141 b0v _ _ _ _ hoQ9 j hjQ _ ?_ rfl rfl ?_; omega; intro w10 ho10 hg10 hb10)
            rw [Int.toNat_natCast] at ho10
            go_roundw
            case rel => exact ⟨j, L, _, rfl, by omega, hLl, (by show (List.set _ _ _).length = _; rw [List.length_set]; exact hQl.out), hoL.grown hg10 (fun _ => (HQU.out hqs.out).symm), ho10, hb9.trans (hb10.mono hsz6), hrv9.written hg10 (fun _ h => HQV.out h) hqs.out, HS⟩
            case measure => first | (simp [intOf]; done) | (simp [intOf]; omega)
          · have htp : 0 < u := p0k KN.out HW.out HV.out
            obtain ⟨v, rfl⟩ : ∃ v, u = v + 1 := ⟨u - 1, by omega⟩
            go_wp2_with fail
            ((with_reducible refine (p0j pu _ pv cu _ _ _ _ L ys j w3.heap.size _ hoL hrv9 rfl rfl ?_ ?_ ?_ ?_ ?_ ?_ ?_).mono ?_))
            · omega
            · rw [hLl.out]; omega
            · exact HW.out.1
            · exact HYD.out
            · exact fun _ _ => HVU.out.symm
            · exact HUPS.out
            · rw [hLl.out]; omega
            rintro e w10 ⟨M, co, rfl, hoM, hgM, hbM, HW2, HV2⟩
            obtain ⟨_, HS⟩ := HR.out.owed' KN.out HT'.out HTE.out hjQ ht1 HW.out HV.out HW2 HV2
            rw [Nat.add_sub_cancel] at HS
            have HS := hi0 HS
            have hMl := hi0 (show M.length = us.length + 1 by rw [HW2.2.1]; exact hLl.out)
            have hoQ10 := hoQ9.grown hgM HQU.out
            have hrv10 := hrv9.written hgM (fun _ _ => HVU.out.symm) HUPS.out
            have hb10 := hb9.trans (hbM.mono hsz3)
            clear HW2 HV2
            go_wp2_with (refine a0p rfl _ _ _ rfl 141 b0v _ _ _ _ hoQ10 j hjQ _ ?_ rfl rfl ?_; omega; intro w11 ho11 hg11 hb11)
            rw [Int.toNat_natCast] at ho11
            go_roundw
            case rel => exact ⟨j, M, _, rfl, by omega, hMl, (by show (List.set _ _ _).length = _; rw [List.length_set]; exact hQl.out), hoM.grown hg11 (fun _ => (HQU.out hqs.out).symm), ho11, hb10.trans (hb11.mono hsz6), hrv10.written hg11 (fun _ h => HQV.out h) hqs.out, HS⟩
            case measure => first | (simp [intOf]; done) | (simp [intOf]; omega)
        · have dB : decide ((4294967296 : Int) ≤ (r : Int) + (top : Int)) = false := dFa (by omega)
          have hbk' : r + top < 4294967296 := by omega
          clear hbk
          go_wp2_with fail
          go_round
          case rel => exact ⟨u, r + top, by go_num, by go_num, by omega, by omega, HT'⟩
          case measure => first | (simp [intOf]; done) | (simp [intOf]; omega)
      · have htlt : t < 4294967296 := by omega
        obtain ⟨tn, htn⟩ : ∃ tn, tn = t * nx := ⟨_, rfl⟩
        obtain ⟨rr, hrr⟩ : ∃ rr, rr = r * 4294967296 + u0 := ⟨_, rfl⟩
        have etn : (t : Int) * (nx : Int) = (tn : Nat) := by rw [htn]; simp
        obtain ⟨hpr, hpr0⟩ := s0o htlt hnx1
        rw [etn] at hpr hpr0
        have hor := or32 r u0 hrl hu0l
        have etw : (r : Int) * 4294967296 + (u0 : Nat) = (rr : Nat) := by omega
        rw [etw] at hor
        have dA : decide ((4294967296 : Int) ≤ (t : Int)) = false := dFa (by omega)
        have HTL := hi0 htlt
        clear etw hA htlt
        by_cases hB : rr < tn
        · obtain ⟨hd1, hd2⟩ := HT.out.down KN.out (.inr (by rw [HXN.out, HXU.out, ← htn]; show r * 4294967296 + u0 < tn; omega))
          rw [HXT.out] at hd2
          obtain ⟨u, hu⟩ : ∃ u, u = t - 1 := ⟨_, rfl⟩
          rw [← hu] at hd2
          have HT' := hi0 hd2
          have e6 : (t : Int) - 1 = (u : Int) := by omega
          have hut : u < t := by omega
          clear hd2 htn hrr hu
          by_cases hbk : 4294967296 ≤ r + top
          · obtain ⟨ht1, ht2⟩ := HT'.out.breaks KN.out hbk
            have HTE := hi0 (HT'.out.exit KN.out ht1 ht2)
            have ht1 : u < 4294967296 := ht1
            have dB : decide ((4294967296 : Int) ≤ (r : Int) + (top : Int)) = true := dTr (by omega)
            clear hbk
            go_wp2_with fail
            ((with_reducible refine (p0i pu _ pv cu _ _ _ _ U ys j u w3.heap.size _ hoU8 hrv8 rfl rfl ?_ ?_ ?_ ?_ ?_ ?_ ?_ ?_).mono ?_))
            · omega
            · rw [hUl.out]; omega
            · exact HR.out.dU
            · exact HYD.out
            · exact ht1
            · exact fun _ _ => HVU.out.symm
            · exact HUPS.out
            · rw [hUl.out]; omega
            rintro e w9 ⟨L, br, hbr, rfl, hoL, hgL, hbL9, HW, HV⟩
            have HW := hi0 HW
            have HV := hi0 HV
            have hoQ9 := hoQ8.grown hgL HQU.out
            have hrv9 := hrv8.written hgL (fun _ _ => HVU.out.symm) HUPS.out
            have hb9 := hbL8.trans (hbL9.mono hsz3)
            have hjQ : j < Q.length := by rw [hQl.out]; omega
            have hqs := hi0 (hoQ9.rd.solid (by omega)).1
            have hLl := hi0 (show L.length = us.length + 1 by rw [HW.out.2.1]; exact hUl.out)
            rcases (show br = 0 ∨ br = 1 by omega) with rfl | rfl
            · have HS := hi0 (HR.out.even' KN.out HT'.out hjQ ht1 HW.out HV.out)
              go_wp2_with (refine a0p rfl _ _ _ rfl 141 b0v _ _ _ _ hoQ9 j hjQ _ ?_ rfl rfl ?_; omega; intro w10 ho10 hg10 hb10)
              rw [Int.toNat_natCast] at ho10
              go_roundw
              case rel => exact ⟨j, L, _, rfl, by omega, hLl, (by show (List.set _ _ _).length = _; rw [List.length_set]; exact hQl.out), hoL.grown hg10 (fun _ => (HQU.out hqs.out).symm), ho10, hb9.trans (hb10.mono hsz6), hrv9.written hg10 (fun _ h => HQV.out h) hqs.out, HS⟩
              case measure => first | (simp [intOf]; done) | (simp [intOf]; omega)
            · have htp : 0 < u := p0k KN.out HW.out HV.out
              obtain ⟨v, rfl⟩ : ∃ v, u = v + 1 := ⟨u - 1, by omega⟩
              go_wp2_with fail
              ((with_reducible refine (p0j pu _ pv cu _ _ _ _ L ys j w3.heap.size _ hoL hrv9 rfl rfl ?_ ?_ ?_ ?_ ?_ ?_ ?_).mono ?_))
              · omega
              · rw [hLl.out]; omega
              · exact HW.out.1
              · exact HYD.out
              · exact fun _ _ => HVU.out.symm
              · exact HUPS.out
              · rw [hLl.out]; omega
              rintro e w10 ⟨M, co, rfl, hoM, hgM, hbM, HW2, HV2⟩
              obtain ⟨_, HS⟩ := HR.out.owed' KN.out HT'.out HTE.out hjQ ht1 HW.out HV.out HW2 HV2
              rw [Nat.add_sub_cancel] at HS
              have HS := hi0 HS
              have hMl := hi0 (show M.length = us.length + 1 by rw [HW2.2.1]; exact hLl.out)
              have hoQ10 := hoQ9.grown hgM HQU.out
              have hrv10 := hrv9.written hgM (fun _ _ => HVU.out.symm) HUPS.out
              have hb10 := hb9.trans (hbM.mono hsz3)
              clear HW2 HV2
              go_wp2_with (refine a0p rfl _ _ _ rfl 141 b0v _ _ _ _ hoQ10 j hjQ _ ?_ rfl rfl ?_; omega; intro w11 ho11 hg11 hb11)
              rw [Int.toNat_natCast] at ho11
              go_roundw
              case rel => exact ⟨j, M, _, rfl, by omega, hMl, (by show (List.set _ _ _).length = _; rw [List.length_set]; exact hQl.out), hoM.grown hg11 (fun _ => (HQU.out hqs.out).symm), ho11, hb10.trans (hb11.mono hsz6), hrv10.written hg11 (fun _ h => HQV.out h) hqs.out, HS⟩
              case measure => first | (simp [intOf]; done) | (simp [intOf]; omega)
          · have dB : decide ((4294967296 : Int) ≤ (r : Int) + (top : Int)) = false := dFa (by omega)
            have hbk' : r + top < 4294967296 := by omega
            clear hbk
            go_wp2_with fail
            go_round
            case rel => exact ⟨u, r + top, by go_num, by go_num, by omega, by omega, HT'⟩
            case measure => first | (simp [intOf]; done) | (simp [intOf]; omega)
        · have HTE := hi0 (HT.out.exit KN.out HTL.out (by rw [HXN.out, HXU.out, ← htn]; show tn ≤ r * 4294967296 + u0; omega))
          have em : (t : Int) % 4294967296 = (t : Int) := by have := HTL.out; omega
          clear htn hrr
          have ht1 := HTL.out
          have ht1 := hi0 ht1
          go_wp2_with fail
          have ht1 := ht1.out
          clear em dA hor etn
          ((with_reducible refine (p0i pu _ pv cu _ _ _ _ U ys j t w3.heap.size _ hoU8 hrv8 rfl rfl ?_ ?_ ?_ ?_ ?_ ?_ ?_ ?_).mono ?_))
          · omega
          · rw [hUl.out]; omega
          · exact HR.out.dU
          · exact HYD.out
          · exact ht1
          · exact fun _ _ => HVU.out.symm
          · exact HUPS.out
          · rw [hUl.out]; omega
          rintro e w9 ⟨L, br, hbr, rfl, hoL, hgL, hbL9, HW, HV⟩
          have HW := hi0 HW
          have HV := hi0 HV
          have hoQ9 := hoQ8.grown hgL HQU.out
          have hrv9 := hrv8.written hgL (fun _ _ => HVU.out.symm) HUPS.out
          have hb9 := hbL8.trans (hbL9.mono hsz3)
          have hjQ : j < Q.length := by rw [hQl.out]; omega
          have hqs := hi0 (hoQ9.rd.solid (by omega)).1
          have hLl := hi0 (show L.length = us.length + 1 by rw [HW.out.2.1]; exact hUl.out)
          rcases (show br = 0 ∨ br = 1 by omega) with rfl | rfl
          · have HS := hi0 (HR.out.even' KN.out HT.out hjQ ht1 HW.out HV.out)
            go_wp2_with (refine a0p rfl _ _ _ rfl 141 b0v _ _ _ _ hoQ9 j hjQ _ ?_ rfl rfl ?_; omega; intro w10 ho10 hg10 hb10)
            rw [Int.toNat_natCast] at ho10
            go_roundw
            case rel => exact ⟨j, L, _, rfl, by omega, hLl, (by show (List.set _ _ _).length = _; rw [List.length_set]; exact hQl.out), hoL.grown hg10 (fun _ => (HQU.out hqs.out).symm), ho10, hb9.trans (hb10.mono hsz6), hrv9.written hg10 (fun _ h => HQV.out h) hqs.out, HS⟩
            case measure => first | (simp [intOf]; done) | (simp [intOf]; omega)
          · have htp : 0 < t := p0k KN.out HW.out HV.out
            obtain ⟨v, rfl⟩ : ∃ v, t = v + 1 := ⟨t - 1, by omega⟩
            go_wp2_with fail
            ((with_reducible refine (p0j pu _ pv cu _ _ _ _ L ys j w3.heap.size _ hoL hrv9 rfl rfl ?_ ?_ ?_ ?_ ?_ ?_ ?_).mono ?_))
            · omega
            · rw [hLl.out]; omega
            · exact HW.out.1
            · exact HYD.out
            · exact fun _ _ => HVU.out.symm
            · exact HUPS.out
            · rw [hLl.out]; omega
            rintro e w10 ⟨M, co, rfl, hoM, hgM, hbM, HW2, HV2⟩
            obtain ⟨_, HS⟩ := HR.out.owed' KN.out HT.out HTE.out hjQ ht1 HW.out HV.out HW2 HV2
            rw [Nat.add_sub_cancel] at HS
            have HS := hi0 HS
            have hMl := hi0 (show M.length = us.length + 1 by rw [HW2.2.1]; exact hLl.out)
            have hoQ10 := hoQ9.grown hgM HQU.out
            have hrv10 := hrv9.written hgM (fun _ _ => HVU.out.symm) HUPS.out
            have hb10 := hb9.trans (hbM.mono hsz3)
            clear HW2 HV2
            go_wp2_with (refine a0p rfl _ _ _ rfl 141 b0v _ _ _ _ hoQ10 j hjQ _ ?_ rfl rfl ?_; omega; intro w11 ho11 hg11 hb11)
            rw [Int.toNat_natCast] at ho11
            go_roundw
            case rel => exact ⟨j, M, _, rfl, by omega, hMl, (by show (List.set _ _ _).length = _; rw [List.length_set]; exact hQl.out), hoM.grown hg11 (fun _ => (HQU.out hqs.out).symm), ho11, hb10.trans (hb11.mono hsz6), hrv10.written hg11 (fun _ h => HQV.out h) hqs.out, HS⟩
            case measure => first | (simp [intOf]; done) | (simp [intOf]; omega)
   · obtain rfl : k = 0 := by omega
     obtain ⟨hd1, hd2⟩ := HR.out.done
     rw [HYV.out, Nat.mul_div_mul_right _ _ (Nat.pow_pos (by omega))] at hd1
     rw [HYV.out, Nat.mul_mod_mul_right] at hd2
     have HD1 := hi0 hd1
     have HD2 := hi0 hd2
     have HM := hi0 (show a % b * 2 ^ s / 2 ^ s = a % b from Nat.mul_div_cancel _ (Nat.pow_pos (by omega)))
     have hTQ := hoQ.take (dig B32 (val B32 Q)).length
     rw [a0r a0a Q HR.out.dQ, hd1] at hTQ
     have hTU := hoU.take (dig B32 (val B32 U)).length
     rw [a0r a0a U HR.out.dU, hd2] at hTU
     have hlU := v0t a0a U HR.out.dU
     rw [hd2, hUl.out] at hlU
     clear hd1 hd2
     go_wp2_with fail
     refine (e0l pq QL cq Q _ hoQ.rd hQl.out.symm hoQ.le_cap HR.out.dQ (by rw [hQl.out]; omega)).mono ?_
     rintro e w9 ⟨rfl, rfl⟩
     rw [HD1.out]
     go_wp2_with fail
     refine (e0l pu (us.length + 1) cu U _ hoU.rd hUl.out.symm hoU.le_cap HR.out.dU (by rw [hUl.out]; omega)).mono ?_
     rintro e w10 ⟨rfl, rfl⟩
     rw [HD2.out]
     go_wp2_with fail
     refine (s0n pu _ cu (a % b * 2 ^ s) s _ hTU.rd rfl hTU.le_cap (by omega) (by omega)).mono ?_
     rw [HM.out]
     rintro e w11 ⟨p9, c9, rfl, ho9, hb9⟩
     go_wp2_with fail
     go_ret2
     exact ⟨pq, cq, p9, c9, rfl, (hTQ.past hb9).mono hsz6, ho9.mono hbL.size, hbL.trans (hb9.mono hbL.size), fun h1 h2 => by have := (hTQ.blk_lt h1).2; have := (ho9.blk_lt h2).1; omega⟩
theorem m0c (p q : Option Addr) (n m c d : Nat) (a b : Nat) (w : World) (hp : Rd w .u32 p (dig B32 a)) (hq : Rd w .u32 q (dig B32 b)) (hn : n = (dig B32 a).length) (hm : m = (dig B32 b).length)
 (hl : (dig B32 a).length ≤ 100000000) (hl2 : (dig B32 b).length ≤ 100000000) (hb : 0 < b) :
 Calls Tryz.prog 169 #[.slice p n c, .slice q m d] w (v0g w 141 (dig B32 (a / b)) (dig B32 (a % b))) := by
 by_cases hab : a < b
 · rw [Nat.div_eq_of_lt hab, Nat.mod_eq_of_lt hab, a0c]
   exact d1g p q n m c d a b w hp hq hn hm (by omega) (by omega) hab
 · by_cases h1 : (dig B32 b).length = 1
   · have h2 := (a0e a0a b 1).1 (by omega)
     rw [Nat.pow_one] at h2
     have eb : dig B32 b = [b] := by rw [d0i a0a hb, Nat.div_eq_of_lt h2, a0c, Nat.mod_eq_of_lt h2]
     rw [h1] at hm
     rw [eb] at hq
     exact a1m p q n m c d a b w hp hq hn hm (by omega) hb h2 (by omega)
   · have h0 : (dig B32 b).length ≠ 0 := by
      have := a0d a0a b
      omega
     exact d1h p q n m c d a b w hp hq hn hm hl (by omega) (by omega)
theorem p0l (w : World) : Calls Tryz.prog 65 #[.int .i64 1] w (g0f w .u32 141 (dig B32 1)) := a1j 1 w (by omega)
end Go.Proofs.YtmacohmclpnphaaGreatDoor
namespace Go.Slip
end Go.Slip
namespace Go.Proofs.YtmacohmclpnphaaGreatDoor
open Go.RowKit Go.Slip
def d1i (L : List Rw) : List Value := L.flatMap fun x => [.bool x.g, .slice x.p (dig B32 x.m).length x.c, .int .i64 x.e]
def RowW (w : World) (base : Nat) (v : Value) (L : List Rw) : Prop := w.ownsRow base 112 3 v L.length (d1i L)
def Ov (w : World) (base0 base : Nat) (v : Value) (D : List Dv) : Prop := ∃ L : List Rw, RowW w base0 v L ∧ L.map Rw.v = D ∧ ∀ x ∈ L, InW w base x
def Off (v : Value) (k : Nat) : Prop := v.ownBlock ≠ some k
theorem Ov.nil (w : World) (base0 base : Nat) : Ov w base0 base (.slice none 0 0) [] := ⟨[], World.ownsRow_nil _ _ _ _, rfl, by simp⟩
theorem Ov.lt {w : World} {base0 base : Nat} {v : Value} {D : List Dv} (h : Ov w base0 base v D) : ∀ k, v.ownBlock = some k → base0 ≤ k ∧ k < w.heap.size := by
 obtain ⟨L, h1, _⟩ := h
 exact World.ownsRow.lt h1
theorem Ov.off {w : World} {base0 base : Nat} {v : Value} {D : List Dv} (h : Ov w base0 base v D) {k : Nat} (hk : k < base0 ∨ w.heap.size ≤ k) : Off v k := fun h1 => by
 have := h.lt k h1
 omega
theorem RowW.past {w w' : World} {base : Nat} {v : Value} {L : List Rw} (h : RowW w base v L) (hb : Below w.heap.size w w') : RowW w' base v L := by
 refine ⟨h.1, ?_⟩
 rcases h.2 with hn | ⟨g, cap, cur, hv, hbg, hg, r⟩
 · exact .inl hn
 · exact .inr ⟨g, cap, cur, hv, hbg, (hb.block _ (Array.getElem?_eq_some_iff.1 hg).1).trans hg, r⟩
theorem Ov.past {w w' : World} {base0 base : Nat} {v : Value} {D : List Dv} (h : Ov w base0 base v D) (hb : Below w.heap.size w w') : Ov w' base0 base v D := by
 obtain ⟨L, h1, h2, h3⟩ := h
 exact ⟨L, h1.past hb, h2, fun x hx => (h3 x hx).past hb⟩
theorem InW.grown {w w' : World} {base base2 : Nat} {x : Rw} {v : Value} {n : Nat} {xs : List Value} (h : InW w base x) (hg : w.grownBy w' v.ownBlock) (h2 : w.ownsRow base2 112 3 v n xs) : InW w' base x :=
 ⟨h.ow.grown hg (fun hp he => by
   rcases h2.2 with ⟨h3, _⟩ | ⟨g, cap, cur, hv, _, hgg, _⟩
   · rw [h3] at he; simp [Value.ownBlock] at he
   · rw [hv] at he
     simp only [Value.ownBlock, Option.some.injEq] at he
     exact h.ow.ne_tb (b := g) ⟨cur, (0, 0), hgg⟩ (by decide) hp he), h.len, h.lo, h.hi⟩
theorem Ov.grown {w w' : World} {base0 base base2 base3 : Nat} {v v2 : Value} {D D2 : List Dv} (h : Ov w base0 base v D) (hg : w.grownBy w' v2.ownBlock) (h2 : Ov w base2 base3 v2 D2) (hne : v.ownBlock = none ∨ v.ownBlock ≠ v2.ownBlock) : Ov w' base0 base v D := by
 obtain ⟨L, h3, h4, h5⟩ := h
 obtain ⟨L2, h6, _⟩ := h2
 exact ⟨L, h3.kept hg hne, h4, fun x hx => (h5 x hx).grown hg h6⟩
theorem _root_.Go.Slip.Bx.grown {w w' : World} {b : Nat} {v : Value} {vs : Array Value} (h : Bx w b vs) (hg : w.grownBy w' v.ownBlock) (hne : Off v b) : Bx w' b vs :=
 h.same (hg.block _ h.lt fun he => hne he.symm)
end Go.Proofs.YtmacohmclpnphaaGreatDoor
namespace Go.Slip
end Go.Slip
namespace Go.Proofs.YtmacohmclpnphaaGreatDoor
open Go.RowKit Go.Slip
structure Sm (x : Rw) : Prop where
 len : (dig B32 x.m).length ≤ 1300
 lo : -100000 ≤ x.e
 hi : x.e ≤ 100000
theorem Tb.grown {w w' : World} {b : Nat} {t : TypeId} {v : Value} (h : Tb w b t) (hg : w.grownBy w' v.ownBlock) (hne : Off v b) : Tb w' b t := by
 have hl := h.lt
 obtain ⟨vs, fz, h⟩ := h
 exact ⟨vs, fz, (hg.block _ hl fun he => hne he.symm).trans h⟩
theorem El.new (w : World) (r : Rw) (t : TypeId) : El (w.alloc (.cells #[.bool r.g, .slice r.p (dig B32 r.m).length r.c, .int .i64 r.e] t)) w.heap.size 0 r :=
 have h := i0z w #[.bool r.g, .slice r.p (dig B32 r.m).length r.c, .int .i64 r.e] t
 ⟨h.c 0 rfl, h.c 1 rfl, h.c 2 rfl, h.lt⟩
structure In2 (w : World) (x : Din × Din) : Prop where
 a : InD w x.1
 b : InD w x.2
theorem In2.past {w w' : World} {x : Din × Din} (h : In2 w x) (hb : Below w.heap.size w w') : In2 w' x := ⟨h.a.past hb, h.b.past hb⟩
structure InL (w : World) (base : Nat) (a : Rw) : Prop where
 ow : Own w base .u32 141 a.p a.c (dig B32 a.m)
 len : (dig B32 a.m).length ≤ 1000000
theorem InL.past {w w' : World} {base : Nat} {a : Rw} (h : InL w base a) (hb : Below w.heap.size w w') : InL w' base a := ⟨h.ow.past hb, h.len⟩
def oppR (x : Rw) : Rw := ⟨(b0h x.v).neg, x.p, x.c, x.m, x.e⟩
theorem InW.opp {w : World} {base : Nat} {x : Rw} (h : InW w base x) : InW w base (oppR x) := ⟨h.ow, h.len, h.lo, h.hi⟩
theorem Sm.opp {x : Rw} (h : Sm x) : Sm (oppR x) := ⟨h.len, h.lo, h.hi⟩
end Go.Proofs.YtmacohmclpnphaaGreatDoor
namespace Go.Slip
structure SmD (a : Dv) : Prop where
 len : (dig B32 a.m).length ≤ 1300
 lo : -100000 ≤ a.e
 hi : a.e ≤ 100000
theorem SmD.opp {a : Dv} (h : SmD a) : SmD (b0h a) := ⟨h.len, h.lo, h.hi⟩
end Go.Slip
namespace Go.Proofs.YtmacohmclpnphaaGreatDoor
open Go.RowKit Go.Slip
theorem sof (N : Int) (n : Nat) (h : N = n) (hn : n < 9223372036854775808) (w : World) : Calls Tryz.prog 65 #[.int .i64 N] w (g0f w .u32 141 (dig B32 n)) := by
 subst h; exact a1j n w hn
theorem sadd (p q : Option Addr) (n m c d : Nat) (a b x : Nat) (w : World) (hp : Rd w .u32 p (dig B32 a)) (hq : Rd w .u32 q (dig B32 b)) (hn : n = (dig B32 a).length) (hm : m = (dig B32 b).length)
 (hl : (dig B32 a).length ≤ 1000000000) (hl2 : (dig B32 b).length ≤ 1000000000) (h : a + b = x) :
 Calls Tryz.prog 105 #[.slice p n c, .slice q m d] w (g0f w .u32 141 (dig B32 x)) := by
 subst h; exact s0h p q n m c d a b w hp hq hn hm hl hl2
theorem k0h : g0l Tryz.prog 103 5 (.int .u8 0) 1 := tyV (by kernel_rfl) (by kernel_rfl) (by omega) rfl rfl
theorem i0j : g0l Tryz.prog 134 4 (.bool false) 1 := tyV (by kernel_rfl) (by kernel_rfl) (by omega) rfl rfl
theorem k1b : d0h Tryz.prog 5 := c0k (by kernel_rfl) (by kernel_rfl)
theorem m0d : d0h Tryz.prog 4 := c0k (by kernel_rfl) (by kernel_rfl)
theorem h1l : d0h Tryz.prog 141 := c0k (by kernel_rfl) (by kernel_rfl)
theorem a1n : Tryz.prog.underlying 103 = some (.slice 5) := by kernel_rfl
theorem h1m : Tryz.prog.underlying 5 = some (.int .u8) := by kernel_rfl
theorem uStr : Tryz.prog.underlying 9 = some .string := by kernel_rfl
theorem sshl (p : Option Addr) (n c : Nat) (a N x : Nat) (M : Int) (w : World) (hp : Rd w .u32 p (dig B32 a)) (hn : n = (dig B32 a).length) (hl : (dig B32 a).length ≤ 100000000) (hN : N ≤ 1000000000) (hM : M = N) (h : a * 2 ^ N = x) :
 Calls Tryz.prog 128 #[.slice p n c, .int .i64 M] w (g0f w .u32 141 (dig B32 x)) := by
 subst h hM; exact g0v p n c a N w hp hn (by omega) hN
theorem sshr (p : Option Addr) (n c : Nat) (a N x : Nat) (M : Int) (w : World) (hp : Rd w .u32 p (dig B32 a)) (hn : n = (dig B32 a).length) (hc : (dig B32 a).length ≤ c) (hl : (dig B32 a).length ≤ 100000000) (hN : N ≤ 1000000000) (hM : M = N) (h : a / 2 ^ N = x) :
 Calls Tryz.prog 161 #[.slice p n c, .int .i64 M] w (g0f w .u32 141 (dig B32 x)) := by
 subst h hM; exact s0n p n c a N w hp hn hc (by omega) hN
theorem ssub (p q : Option Addr) (n m c d : Nat) (a b x : Nat) (w : World) (hp : Rd w .u32 p (dig B32 a)) (hq : Rd w .u32 q (dig B32 b)) (hn : n = (dig B32 a).length) (hm : m = (dig B32 b).length)
 (hl : (dig B32 a).length ≤ 1000000000) (hab : b ≤ a) (h : a - b = x) :
 Calls Tryz.prog 137 #[.slice p n c, .slice q m d] w (g0f w .u32 141 (dig B32 x)) := by
 subst h; exact s0r p q n m c d a b w hp hq hn hm hl hab
theorem f0o (N x : Nat) (M : Int) (w : World) (hN : N ≤ 1000000) (hM : M = N) (h : 2 ^ N = x) : Calls Tryz.prog 104 #[.int .i64 M] w (g0f w .u32 141 (dig B32 x)) := by
 subst hM
 have l1 : (dig B32 1).length ≤ 1 := by rw [a0e a0a]; unfold B32; omega
 have I := Inv.start w [] True.intro
 refine a0f [.v (.int .i64 (N : Int))] I Tryz.func104 ?_
 refine zqo I (fun Al W I => have hzW := I.bel.size; sof 1 1 rfl (by omega) W) fun Al W p3 c3 I => ?_
 refine zqo I (fun Al W I => have hzW := I.bel.size; sshl p3 _ c3 1 N x _ W I.fa.1.rd rfl (by omega) (by omega) rfl (by omega)) fun Al W p5 c5 I => ?_
 exact zret I fun Al W I => ⟨p5, c5, rfl, I.fa.1.mono (by omega), I.below⟩
theorem a0q {x n k : Nat} (h : x < 2 ^ n) (hk : n ≤ 32 * k) : (dig B32 x).length ≤ k := by
 rw [a0e a0a]
 unfold B32
 rw [show (4294967296 : Nat) = 2 ^ 32 from rfl, ← Nat.pow_mul]
 exact Nat.lt_of_lt_of_le h (Nat.pow_le_pow_right (by omega) hk)
theorem k1c {x y : Nat} (hx : x < 65536) (hy : y < 65536) : (x : Int) * y ≤ 4294836225 ∧ 0 ≤ (x : Int) * y := by
 have h : x * y ≤ 65535 * 65535 := Nat.mul_le_mul (by omega) (by omega)
 have e : (x : Int) * y = ((x * y : Nat) : Int) := by simp
 rw [e]; omega
theorem f0e (p q : Option Addr) (n m c d : Nat) (a b : Nat) (w : World) (hp : Rd w .i64 p (dig B16 a)) (hq : Rd w .i64 q (dig B16 b)) (hn : n = (dig B16 a).length) (hm : m = (dig B16 b).length)
 (hl : (dig B16 a).length + (dig B16 b).length ≤ 1000000000) :
 Calls Tryz.prog 59 #[.slice p n c, .slice q m d] w (f0b w .i64 (dig B16 (a * b))) := by
 subst hn hm
 have HA := hi0 (a0u a0b a)
 have HB := hi0 (a0u a0b b)
 have HXL := hi0 (b0a a0b a)
 have HYL := hi0 (b0a a0b b)
 generalize dig B16 a = xs at hp hl HA HXL ⊢
 generalize dig B16 b = ys at hq hl HB HYL ⊢
 have hsx := hp.solid
 have hsy := hq.solid
 go_enter Tryz.func59, Tryz.ntmps59
 go_wp2_with (refine g0e rfl _ _ _ rfl tyN .i64 .i64 (xs.length + ys.length) _ _ rfl rfl ?_ ?_ ?_ ?_; omega; omega; omega; intro p1 c1 w1 ho1 hb1 hz1)
 go_loopw [6] (fun iv wr => ∃ (i : Nat) (L : List Nat), iv = .int .i64 i ∧ i ≤ xs.length ∧ Hid (L.length = xs.length + ys.length) ∧ Own wr w.heap.size .i64 3 p1 c1 L ∧ Below w.heap.size w wr ∧ Hid (e0y B16 L xs ys i))
  (fun iv _ => xs.length - (intOf iv).toNat)
 case atStart => exact ⟨0, _, rfl, Nat.zero_le _, List.length_replicate, ho1, hb1, e0y.start B16 e0f xs ys _⟩
 case round =>
  obtain ⟨i, L, rfl, hi, hL, hoL, hbL, HR⟩ := hrel
  by_cases hlt : i < xs.length
  · have hxd := a0i (B := 65536) (by omega) xs HXL.out i
    go_wp2
    obtain ⟨wo, rfl⟩ : ∃ wo : World, wo = wr := ⟨_, rfl⟩
    go_loopw [7, 8, 9] (fun cv kv _ wr => ∃ (k cr : Nat) (L : List Nat), kv = .int .i64 k ∧ cv = .int .i64 cr ∧ k ≤ ys.length + 1 ∧ cr < 65536 ∧ Hid (L.length = xs.length + ys.length) ∧ Own wr w.heap.size .i64 3 p1 c1 L ∧ Below w.heap.size w wr ∧ Hid (d0m L xs ys i k cr))
     (fun _ kv _ _ => ys.length + 1 - (intOf kv).toNat)
    case atStart => exact ⟨0, 0, L, rfl, rfl, Nat.zero_le _, by omega, hL, hoL, hbL, .inl ⟨Nat.zero_le _, HR.out.enter⟩⟩
    case round =>
     obtain ⟨k, cr, L, rfl, rfl, hk, hcr, hL, hoL, hbL, HR⟩ := hrel
     have hpL := hp.past hbL
     have hqL := hq.past hbL
     have hsL := hoL.solid
     rw [hL.out] at hsL
     by_cases hkt : k < ys.length
     · have hc1 := hpL.cells i hlt
       have hc2 := hqL.cells k hkt
       have hc3 := hoL.rd.cells (i + k) (by rw [hL.out]; omega)
       have hyd := a0i (B := 65536) (by omega) ys HYL.out k
       have hLd := a0i (B := 65536) (by omega) L HR.out.digits (i + k)
       obtain ⟨hpr, hpr0⟩ := k1c hxd hyd
       have HS := hi0 (HR.out.step hkt (by rw [hL.out]; omega))
       have HC := hi0 (HR.out.carry hcr hxd hyd)
       have i0 : (0 : Int) ≤ (i : Int) := by omega
       have i1 : (i : Int) < (xs.length : Int) := by omega
       have k0 : (0 : Int) ≤ (k : Int) := by omega
       have k1 : (k : Int) < (ys.length : Int) := by omega
       go_wp2_with fail
       go_quiet (fail)
       have hoL := hoL.drewN nq
       have hbL := below_drewN hbL nq
       generalize wr.drewN nq = wq at hoL hbL ⊢
       clear hc1 hc2 hc3 hpL hqL
       go_wp2_with (refine a0p rfl _ _ _ rfl 3 tyN _ _ _ _ hoL (i + k) (by rw [hL.out]; omega) _ ?_ rfl rfl ?_; omega; intro w3 ho3 hg3 hb3)
       have e3 : (((dg L (i + k) : Int) + cr + dg xs i * dg ys k) % 65536).toNat = (dg L (i + k) + cr + dg xs i * dg ys k) % 65536 := by omega
       rw [e3] at ho3
       go_roundw
       case rel => exact ⟨k + 1, (dg L (i + k) + cr + dg xs i * dg ys k) / 65536, _, by go_num, by go_num, by omega, HC.out, (by show (List.set _ _ _).length = _; rw [List.length_set]; exact hL.out), ho3, hbL.trans hb3, HS⟩
       case measure => simp [intOf]; omega
     · by_cases h0 : 0 < cr
       · obtain ⟨hk2, hz, HS⟩ := HR.out.over hkt h0 hcr (by rw [hL.out]; omega)
         subst hk2
         have hc3 := hoL.rd.cells (i + ys.length) (by rw [hL.out]; omega)
         rw [hz] at hc3
         have HS := hi0 HS
         clear hz hkt
         go_wp2_with (refine a0p rfl _ _ _ rfl 3 tyN _ _ _ _ hoL (i + ys.length) (by rw [hL.out]; omega) _ ?_ rfl rfl ?_; omega; intro w3 ho3 hg3 hb3)
         have e3 : ((cr : Int) % 65536).toNat = cr := by omega
         rw [e3] at ho3
         go_roundw
         case rel => exact ⟨ys.length + 1, 0, _, by go_num, (by rw [show (cr : Int) / 65536 = ((0 : Nat) : Int) by omega]), by omega, by omega, (by show (List.set _ _ _).length = _; rw [List.length_set]; exact hL.out), ho3, hbL.trans hb3, HS⟩
         case measure => simp [intOf]
       · obtain rfl : cr = 0 := by omega
         have HS := hi0 (HR.out.done hkt)
         go_wp2
         go_roundw
         case rel => exact ⟨i + 1, L, by go_num, hlt, hL, hoL, hbL, HS⟩
         case measure => simp [intOf]; omega
  · obtain rfl : i = xs.length := by omega
    go_wp2_with (go_at_call 134; refine (c0y _ _ _ L _ hoL.rd hL.out.symm hoL.le_cap HR.out.1 (by rw [hL.out]; omega)).mono ?_; rintro e w3 ⟨rfl, rfl⟩)
    go_ret
    rw [← HR.out.done (Nat.le_refl _) HA.out HB.out]
    have ht := a0r a0b L HR.out.1
    have ho2 := hoL.take (dig B16 (val B16 L)).length
    rw [ht] at ho2
    exact ⟨p1, _, rfl, ho2.rd, Nat.le_refl _, g0w ho2, hbL⟩
def t0k (w : World) (k : IntKind) (xs ys : List Nat) (en : Ending) (w' : World) : Prop :=
 ∃ p c q d, en = .returned (.tuple #[.slice p xs.length c, .slice q ys.length d]) ∧ Rd w' k p xs ∧ xs.length ≤ c ∧ (0 < xs.length → w.heap.size ≤ blk p) ∧ Rd w' k q ys ∧ ys.length ≤ d ∧ (0 < ys.length → w.heap.size ≤ blk q) ∧ Below w.heap.size w w'
theorem e0w {B d : Nat} (hB : 2 ≤ B) (h0 : 0 < d) (h : d < B) : dig B d = [d] := by
 rw [d0i hB h0, Nat.div_eq_of_lt h, a0c, Nat.mod_eq_of_lt h]
theorem n0e {B d : Nat} (hB : 2 ≤ B) (h : (dig B d).length = 1) : 0 < d ∧ d < B := by
 have h1 := (a0e hB d 1).1 (by omega)
 rw [Nat.pow_one] at h1
 refine ⟨?_, h1⟩
 rcases Nat.eq_zero_or_pos d with h0 | h0
 · rw [h0, a0c] at h; simp at h
 · exact h0
theorem a1o (B r : Nat) : val B [r] = r := by simp
theorem t0l (p q : Option Addr) (n m c e0 : Nat) (a d : Nat) (w : World) (hp : Rd w .i64 p (dig B16 a)) (hq : Rd w .i64 q [d]) (hn : n = (dig B16 a).length) (hm : m = 1)
 (hl : (dig B16 a).length ≤ 1000000000) (hd0 : 0 < d) (hd1 : d < 65536) :
 Calls Tryz.prog 132 #[.slice p n c, .slice q m e0] w (t0k w .i64 (dig B16 (a / d)) (dig B16 (a % d))) := by
 subst hn hm
 have HA := hi0 (a0u a0b a)
 have HXL := hi0 (b0a a0b a)
 generalize dig B16 a = xs at *
 have hsx := hp.solid
 have hsq := hq.solid
 simp only [List.length_singleton] at hsq
 have hcd : w.cell? (at_ q 0) = some (.int .i64 (d : Nat)) := hq.cells 0 (by simp)
 go_enter Tryz.func132, Tryz.ntmps132
 go_wp2_with (refine g0e rfl _ _ _ rfl tyN .i64 .i64 xs.length _ _ rfl rfl ?_ ?_ ?_ ?_; omega; omega; omega; intro p1 c1 w1 ho1 hb1 hz1)
 go_loopw [7, 8] (fun rv iv wr => ∃ (k r : Nat) (L : List Nat), iv = .int .i64 ((k : Int) - 1) ∧ rv = .int .i64 r ∧ k ≤ xs.length ∧ r < d ∧ Hid (L.length = xs.length) ∧ Own wr w.heap.size .i64 3 p1 c1 L ∧ Below w.heap.size w wr ∧ Hid (SmallRel B16 L xs d k r))
  (fun _ iv _ => (intOf iv + 1).toNat)
 case atStart => exact ⟨xs.length, 0, _, rfl, rfl, Nat.le_refl _, hd0, List.length_replicate, ho1, hb1, (show SmallRel B16 _ xs d xs.length 0 from ⟨fun x hx => by rw [(List.mem_replicate.1 hx).2]; exact e0f, hd0, by simp⟩)⟩
 case round =>
  obtain ⟨k, r, L, rfl, rfl, hk, hrd, hL, hoL, hbL, HR⟩ := hrel
  have hpL := hp.past hbL
  have hsL := hoL.solid
  rw [hL.out] at hsL
  by_cases h0 : 0 < k
  · obtain ⟨k, rfl⟩ : ∃ j, k = j + 1 := ⟨k - 1, by omega⟩
    have hc1 := hpL.cells k (by omega)
    have hxd := a0i (B := 65536) (by omega) xs HXL.out k
    obtain ⟨HS, HQ⟩ := HR.out.step (by omega) (by rw [hL.out]; omega) (by unfold B16; exact hxd)
    have HS := hi0 HS
    have ej : ((k + 1 : Nat) : Int) - 1 = k := by omega
    rw [ej]
    unfold B16 at HQ
    obtain ⟨t, ht⟩ : ∃ t, t = r * 65536 + dg xs k := ⟨_, rfl⟩
    have et : 65536 * (r : Int) + (dg xs k : Nat) = (t : Nat) := by omega
    have htb : t < 4294967296 := by omega
    rw [← ht] at HQ
    have HT := hi0 ht
    have k0 : (0 : Int) ≤ (k : Int) := by omega
    have k1 : (k : Int) < (xs.length : Int) := by omega
    clear ht
    have hcd2 : wr.cell? (at_ q 0) = some (.int .i64 (d : Nat)) := (hq.past hbL).cells 0 (by simp)
    go_wp2_with fail
    clear hc1 ej et
    have e2 : ¬ d = 0 := by omega
    have hqe : ((t / d : Nat) : Int) = (t : Int) / (d : Int) := rfl
    have hql := Nat.div_le_self t d
    have hq0 : (0 : Int) ≤ (t : Int) / (d : Int) := Int.ediv_nonneg (by omega) (by omega)
    have hq1 : (t : Int) / (d : Int) < 4294967296 := by have : ((t / d : Nat) : Int) = (t : Int) / (d : Int) := rfl; omega
    clear hqe hql
    have e3 : IntKind.i64.wrap ((t : Int) / (d : Int)) = (t : Int) / (d : Int) := iwo
    have e5 : (t : Int).tmod (d : Int) = (t : Int) % (d : Int) := Int.tmod_eq_emod_of_nonneg (by omega)
    have hcL := hoL.rd.cells k (by rw [hL.out]; omega)
    have hfL := f0q hoL k (by rw [hL.out]; omega)
    go_region
    obtain ⟨ho3, hg3, hb3⟩ := h0l hoL k (by rw [hL.out]; omega) (t / d)
    clear e2 e3 e5 hcL hfL
    have hb3 := hbL.trans (b0i hg3 hbL.size (fun j hj => by cases hj; exact hb3))
    have ho3 := ho3.drew
    have hb3 := hb3.drew
    have eq : ((t / d : Nat) : Int) = (t : Int) / (d : Int) := rfl
    rw [eq] at ho3 hb3 hg3
    generalize (wr.setCell (at_ p1 k) (.int .i64 ((t : Int) / (d : Int)))).drew = w3 at ho3 hb3 ⊢
    clear eq hg3
    go_wp2
    go_roundw
    case rel =>
     have e6 : r * B16 + dg xs k = t := by rw [HT.out]; rfl
     rw [e6] at HS
     exact ⟨k, t % d, _, rfl, rfl, by omega, Nat.mod_lt _ hd0, (by show (List.set _ _ _).length = _; rw [List.length_set]; exact hL.out), ho3, hb3, HS⟩
    case measure => first | (simp [intOf]; done) | (simp [intOf]; omega)
  · obtain rfl : k = 0 := by omega
    obtain ⟨hv, hm⟩ := HR.out.done HA.out
    have HM := hi0 hm
    have HV := hi0 hv
    clear hv hm
    have hX1 := hi0 (show ∀ x ∈ [r], x < B16 by simp; unfold B16; omega)
    go_wp2_with fail
    refine (c0y p1 xs.length c1 L _ hoL.rd hL.out.symm (by rw [hL.out]; exact hL.out ▸ hoL.le_cap) HR.out.1 (by rw [hL.out]; omega)).mono ?_
    rintro e w3 ⟨rfl, rfl⟩
    go_wp2_with (refine a0t rfl _ _ rfl tyN r (by omega) rfl ?_; intro p2 w2 ho2 hb2 hz2 hp2)
    rw [Int.toNat_natCast] at ho2
    refine (c0y p2 1 1 [r] _ ho2.rd rfl (Nat.le_refl _) hX1.out (by simp)).mono ?_
    rintro e w3 ⟨rfl, rfl⟩
    rw [HV.out, a1o, HM.out]
    go_wp2_with fail
    go_ret2
    have ht := a0r a0b L HR.out.1
    have ho3 := (hoL.past hb2).take (dig B16 (val B16 L)).length
    rw [ht, HV.out] at ho3
    have ht2 := a0r a0b [r] hX1.out
    have ho4 := ho2.take (dig B16 (val B16 [r])).length
    rw [ht2, a1o, HM.out] at ho4
    exact ⟨p1, _, p2, _, rfl, ho3.rd, Nat.le_refl _, g0w ho3, ho4.rd, Nat.le_refl _, fun h => Nat.le_trans hbL.size (g0w ho4 h), hbL.trans (hb2.mono hbL.size)⟩
end Go.Proofs.YtmacohmclpnphaaGreatDoor
namespace Go.Slip
theorem r0h (L : List Nat) (i : Nat) (h : i < L.length) : be (L.take i) * 2 ^ 8 + dg L i = be (L.take (i + 1)) := by
 rw [← List.take_append_getElem h, z0q, b0k h]
theorem i0k (n : Nat) : ((n : Int) == 1) = (n == 1) := by
 rw [Bool.eq_iff_iff, beq_iff_eq, beq_iff_eq]; omega
theorem w0o (L : List Nat) (i : Nat) (h : ∀ c ∈ L, c < 256) (hl : L.length ≤ 10) : be (L.take i) < 2 ^ 80 := by
 have h1 := j1w (L.take i) (fun c hc => h c (List.mem_of_mem_take hc))
 refine Nat.lt_of_lt_of_le h1 (Nat.pow_le_pow_right (by omega) ?_)
 have : (L.take i).length ≤ L.length := by rw [List.length_take]; omega
 omega
theorem k1d {L : List Nat} (h : ∀ c ∈ L, c < 256) (i : Nat) : dg L i < 256 := by
 unfold dg
 cases e : L[i]? with
 | none => simp
 | some x => exact h x (List.mem_of_getElem? e)
theorem be0 (L : List Nat) : be (L.take 0) = 0 := by rw [List.take_zero]; rfl
end Go.Slip
namespace Go.Proofs.YtmacohmclpnphaaGreatDoor
open Go.RowKit Go.Slip
def a0s (f : Fm) (s : ByteArray) : Nat := be (ordL f.ord (b0b s))
def k1e (w : World) (g : Bool) (e x : Nat) (en : Ending) (w' : World) : Prop :=
 ∃ p c, en = .returned (.agg #[.bool g, .int .i64 (e : Int), .slice p (dig B32 x).length c]) ∧ Own w' w.heap.size .u32 141 p c (dig B32 x) ∧ Below w.heap.size w w'
theorem h1n (L : List Nat) (w : World) (b : Nat) : Own w b .u32 141 none 0 (dig B32 (be (L.take 0))) := by rw [be0, a0c]; exact Own.nil _ _ _ _
theorem a1p (f : Fm) (s : ByteArray) (w : World) (G : c0l f) (hs : s.size = f.size) :
 Calls Tryz.prog 148 #[.agg #[.int .i64 (f.size : Int), .int .i64 (f.E : Int), .int .i64 (f.F : Int), .int .i64 f.g.rad, .int .i64 f.g.digs, .int .i64 f.g.lo, .int .i64 f.g.hi, .bool f.g.grad, .bool f.hid, .bool f.inf, .bool f.res, .func (.func (ordF f)) #[] #[]], .string s] w (k1e w (f.neg (a0s f s)) (f.exp (a0s f s)) (f.frac (a0s f s))) := by
 have z1 := G.sz
 have z2 := G.e2
 have z3 := G.f2
 have z4 := G.bits
 have hl0 : (b0b s).length = f.size := by rw [b0w, hs]
 have hlL : (ordL f.ord (b0b s)).length = f.size := by rw [b0p, hl0]
 have hbL := h0r (o := f.ord) (xs := b0b s) (fun _ => by omega) (k0a s)
 have hord := fun (W : World) (base : Nat) (p : Option Addr) (c : Nat) h1 h2 => a1i f base p s.size c (b0b s) W G h1 (b0w s).symm hl0 h2
 unfold a0s
 generalize ordL f.ord (b0b s) = L at *
 have hNlt : be L < 2 ^ (8 * f.size) := by rw [← hlL]; exact j1w L hbL
 have hst := fun i h => r0h L i h
 have hlt := fun i => w0o L i hbL (by omega)
 have hdg := k1d hbL
 have hfin : be (L.take f.size) = be L := by rw [List.take_of_length_le (by omega)]
 have hTlt : be L / 2 ^ f.F < 2 ^ (f.E + 1) := by
  rw [Nat.div_lt_iff_lt_mul (Nat.pow_pos (by omega)), ← Nat.pow_add, show f.E + 1 + f.F = 8 * f.size by omega]
  exact hNlt
 have hT16 : be L / 2 ^ f.F < 65536 := Nat.lt_of_lt_of_le hTlt (by rw [show (65536 : Nat) = 2 ^ 16 from rfl]; exact Nat.pow_le_pow_right (by omega) (by omega))
 have hN80 : be L < 2 ^ 80 := Nat.lt_of_lt_of_le hNlt (Nat.pow_le_pow_right (by omega) (by omega))
 have ef : f.frac (be L) = be L - be L / 2 ^ f.F * 2 ^ f.F := by
  unfold Fm.frac
  have := Nat.div_add_mod (be L) (2 ^ f.F)
  rw [Nat.mul_comm] at this
  omega
 have hle : be L / 2 ^ f.F * 2 ^ f.F ≤ be L := Nat.div_mul_le_self _ _
 have hlfr : (dig B32 (be L / 2 ^ f.F * 2 ^ f.F)).length ≤ 3 := a0q (Nat.lt_of_le_of_lt hle hN80) (by omega)
 rw [ef]
 unfold Fm.neg Fm.exp
 obtain ⟨T, hT⟩ : ∃ T, be L / 2 ^ f.F = T := ⟨_, rfl⟩
 rw [hT] at hTlt hT16 hle hlfr ⊢
 have hTl : (dig B32 T).length ≤ 1 := a0q (n := 32) (by omega) (by omega)
 have hT0 : (dig B32 T).length = 0 ↔ T = 0 := a0d a0a T
 have hTd : 0 < (dig B32 T).length → dg (dig B32 T) 0 = T := fun h => by
  have h0 : 0 < T := by omega
  rw [e0w a0a h0 (by unfold B32; omega)]
  rfl
 have hla := fun i => a0q (hlt i) (k := 3) (by omega)
 have hlN := a0q hN80 (k := 3) (by omega)
 clear hNlt hlt hN80 ef hbL hl0
 have hsh := p0e (E := f.E) (by omega)
 have h0T : 0 < 2 ^ f.E := Nat.pow_pos (by omega)
 have h0T2 : 2 ^ f.E ≤ 2 ^ 15 := Nat.pow_le_pow_right (by omega) (by omega)
 have hand := fun h => l0w (x := T) (E := f.E) h (by omega)
 have hshr := z0e (x := T) (E := f.E) (by omega)
 have hand0 := fun h => l0w (x := 0) (E := f.E) h (by omega)
 have hshr0 := z0e (x := 0) (E := f.E) (by omega)
 generalize hP : 2 ^ f.E = P at *
 have HAND := hi0 hand
 have HSHR := hi0 hshr
 have HAND0 := hi0 hand0
 have HSHR0 := hi0 hshr0
 have HSH := hi0 hsh
 have HFIN := hi0 hfin
 have HTT := hi0 hT
 clear hand hshr hand0 hshr0 hsh hfin hT
 have hT3 : d0h Tryz.prog 3 := c0k (by kernel_rfl) (by kernel_rfl)
 have hT144 : d0h Tryz.prog 144 := c0k (by kernel_rfl) (by kernel_rfl)
 have hT157 : e0h Tryz.prog 157 3 := c0j (by kernel_rfl) (by kernel_rfl)
 refine calls_of_wp Tryz.func148 rfl ?_
 refine b0c (a' := ⟨((.agg #[.int .i64 (f.size : Int), .int .i64 (f.E : Int), .int .i64 (f.F : Int), .int .i64 f.g.rad, .int .i64 f.g.digs, .int .i64 f.g.lo, .int .i64 f.g.hi, .bool f.g.grad, .bool f.hid, .bool f.inf, .bool f.res, .func (.func (ordF f)) #[] #[]]) :: (.string s) :: us 57 []).toArray, []⟩) (by kernel_rfl) ?_
 refine ye ?_
 refine yw 0 rfl 2 #[.int .i64 (f.size : Int), .int .i64 (f.E : Int), .int .i64 (f.F : Int), .int .i64 f.g.rad, .int .i64 f.g.digs, .int .i64 f.g.lo, .int .i64 f.g.hi, .bool f.g.grad, .bool f.hid, .bool f.inf, .bool f.res, .func (.func (ordF f)) #[] #[]] 146 (fun V1 hbV1 hzV1 b2 => ?_)
 refine yw 0 rfl 4 #[.bool false, .int .i64 0, .slice none 0 0] 157 (fun V2 hbV2 hzV2 b4 => ?_)
 refine yzt 0 ?_
 refine ye ?_
 refine yn 1 rfl ?_
 refine sby 12 uStr a1n h1m s (fun p12 c12 V3 b12 hjV3 => ?_)
 have hbV3 : Below V2.heap.size V2 V3 := (Below.refl _ _).trans (hjV3.mono (by omega))
 have hzV3 := hbV3.size
 refine yzt 1 ?_
 refine ye ?_
 have b2_w3 := b2.past (a0g hbV2 hbV3)
 refine yl 1 rfl 14 b2_w3 hT144 11 ?_
 refine yn 1 rfl ?_
 refine se 16 (ordF f) #[.slice p12 s.size c12] (fun Gx hGx => ?_) (hr := m0a (ordF f) (t0i f) (by kernel_rfl) (by kernel_rfl))
 ((with_reducible refine (hord V3 V2.heap.size p12 c12 b12 (by omega)).mono ?_))
 rintro eV4 V4 ⟨rfl, x16, hjV4⟩
 have hbV4 : Below V2.heap.size V2 V4 := hbV3.trans (hjV4.mono (by omega))
 have hzV4 := hbV4.size
 refine ⟨.tuple #[], rfl, hGx _ _ ?_⟩
 clear hGx Gx
 refine yzt 0 ?_
 refine yq ?_
 refine wp_seq ?_
 refine ye ?_
 refine yv 1 rfl 18 (.int .i64 (f.size : Int)) ?_ (show _ = Result.ok (Next.value (.int .i64 (f.size : Int))) _ from by rw [← hs]; kernel_rfl)
 refine yzt 1 ?_
 refine wp_block ?_
 refine b0c (a' := ⟨((.agg #[.int .i64 (f.size : Int), .int .i64 (f.E : Int), .int .i64 (f.F : Int), .int .i64 f.g.rad, .int .i64 f.g.digs, .int .i64 f.g.lo, .int .i64 f.g.hi, .bool f.g.grad, .bool f.hid, .bool f.inf, .bool f.res, .func (.func (ordF f)) #[] #[]]) :: (.string s) :: (.pointer (some ⟨w.heap.size, 0, none⟩)) :: undef :: (.pointer (some ⟨V1.heap.size, 0, none⟩)) :: (.slice p12 s.size c12) :: (.slice none 0 0) :: us 4 ((.string s) :: (.slice p12 s.size c12) :: (.pointer (some ⟨w.heap.size, 11, none⟩)) :: (.func (.func (ordF f)) #[] #[]) :: (.slice p12 s.size c12) :: (.tuple #[]) :: (.slice p12 s.size c12) :: (.int .i64 (f.size : Int)) :: (.int .i64 0) :: us 39 [])).toArray, []⟩) (by kernel_rfl) ?_
 refine h0o (fun (gk : Nat) U0 a' w' => ∃ (i : Nat) (p6 : Option Addr) (c6 : Nat) (n6 : Nat), a' = ⟨((.agg #[.int .i64 (f.size : Int), .int .i64 (f.E : Int), .int .i64 (f.F : Int), .int .i64 f.g.rad, .int .i64 f.g.digs, .int .i64 f.g.lo, .int .i64 f.g.hi, .bool f.g.grad, .bool f.hid, .bool f.inf, .bool f.res, .func (.func (ordF f)) #[] #[]]) :: (.string s) :: (.pointer (some ⟨w.heap.size, 0, none⟩)) :: undef :: (.pointer (some ⟨V1.heap.size, 0, none⟩)) :: (.slice p12 s.size c12) :: (.slice p6 n6 c6) :: undef :: (U0 8) :: us 2 ((.string s) :: (.slice p12 s.size c12) :: (.pointer (some ⟨w.heap.size, 11, none⟩)) :: (.func (.func (ordF f)) #[] #[]) :: (.slice p12 s.size c12) :: (.tuple #[]) :: (.slice p12 s.size c12) :: (.int .i64 (f.size : Int)) :: (.int .i64 (i : Int)) :: uvs U0 20 10 (us 29 []))).toArray, []⟩ ∧ (Own w' V4.heap.size .u32 141 p6 c6 (dig B32 (be (L.take i)))) ∧ Below V4.heap.size V4 w' ∧ (n6 = (dig B32 (be (L.take i))).length) ∧ (gk + i = f.size)) f.size ?_ (fun Gx hGx => ?_)
 · exact ⟨0, none, 0, 0, by kernel_rfl, h1n L _ _, Below.refl _ _, by rw [be0, a0c]; rfl, (by omega)⟩
 rintro gk0 U0 _ V5 ⟨i, p6, c6, n6, rfl, o6, hbV5, hn6, hgk⟩
 refine hGx _ _ _ ?_
 clear hGx Gx
 have hzV5 := hbV5.size
 refine ye ?_
 rcases Bool.eq_false_or_eq_true (decide ((i : Int) < (f.size : Int))) with f20 | f20
 · refine yb 0 rfl 20 (decide ((i : Int) < (f.size : Int))) (true) (f20) ?_
   refine yzt 0 ?_
   refine yTs ?_
   refine wp_skip ?_
   refine a0n ?_
   refine wp_seq ?_
   refine wp_block ?_
   refine ye ?_
   replace x16 := (x16.past hbV5)
   refine yv 0 rfl 21 (.pointer (some (at_ p12 i))) ?_ (p0a (p := p12) (n := s.size) (c := c12) (m := i) g1c (by have h := x16.rd.solid; rw [hlL, ← hs] at h; exact h) (by kernel_rfl) (by kernel_rfl) (by have := oTr f20; omega))
   refine yv 0 rfl 22 (.int .u8 ((dg L i : Nat) : Int)) ?_ (k0z x16.rd k1b (m := i) (by kernel_rfl) (by have := oTr f20; omega) rfl)
   refine yzt 1 ?_
   refine b0e ?_
   refine yc 1 rfl 24 (sshl p6 _ c6 (be (L.take i)) 8 _ 8 V5 o6.rd hn6 (by have := hla i; omega) (by omega) rfl rfl) (fun Gx hGx => ?_)
   rintro eV6 V6 ⟨p24, c24, rfl, o24, hbV6⟩
   have hzV6 := hbV6.size
   refine ⟨_, rfl, hGx _ _ ?_⟩
   clear hGx Gx
   refine ya 1 rfl 26 .i64 ((dg L i : Nat) : Int) (((dg L i : Nat) : Int)) ((IntWalk.i64_in _ (by have := hdg i; omega))) ?_
   refine yc 0 rfl 27 (sof _ (dg L i) rfl (by have := hdg i; omega) V6) (fun Gx hGx => ?_)
   rintro eV7 V7 ⟨p27, c27, rfl, o27, hbV7⟩
   have hzV7 := hbV7.size
   refine ⟨_, rfl, hGx _ _ ?_⟩
   clear hGx Gx
   replace o24 := (o24.past hbV7)
   refine yc 0 rfl 28 (sadd p24 p27 _ _ c24 c27 (be (L.take i) * 2 ^ 8) (dg L i) (be (L.take (i + 1))) V7 o24.rd o27.rd rfl rfl (by have := a0j a0a (show be (L.take i) * 2 ^ 8 ≤ be (L.take (i + 1)) by have := hst i (by have := oTr f20; omega); omega); have := hla (i + 1); omega) (by have := a0j a0a (show dg L i ≤ be (L.take (i + 1)) by have := hst i (by have := oTr f20; omega); omega); have := hla (i + 1); omega) (hst i (by have := oTr f20; omega))) (fun Gx hGx => ?_)
   rintro eV8 V8 ⟨p28, c28, rfl, o28, hbV8⟩
   have hzV8 := hbV8.size
   refine ⟨_, rfl, hGx _ _ ?_⟩
   clear hGx Gx
   refine yz 1 ?_
   refine c0g ?_
   refine a0n ?_
   refine b0e ?_
   refine ya 0 rfl 29 .i64 ((i : Int) + 1) (((i + 1 : Nat) : Int)) ((by rw [show ((i : Int) + 1) = ((i + 1 : Nat) : Int) by omega]; exact IntWalk.i64_in _ (by have := oTr f20; omega))) ?_
   refine yz 1 ?_
   refine a0n ?_
   refine ⟨gk0 - 1, (by have := oTr f20; omega), ?_⟩
   exact ⟨i + 1, p28, c28, _, by kernel_rfl, o28.mono (by omega), (a0g (a0g (a0g hbV5 hbV6) hbV7) hbV8), rfl, (by have := oTr f20; omega)⟩
 refine yb 0 rfl 20 (decide ((i : Int) < (f.size : Int))) (false) (f20) ?_
 refine yzt 0 ?_
 refine yFs ?_
 refine wp_exit ?_
 repeat (with_reducible refine d0p ?_)
 refine j0w (id := 0) ?_
 refine a0n ?_
 have hi : i = f.size := by have := oFa f20; omega
 rw [hi, HFIN.out] at o6 hn6
 refine ye ?_
 have b2_w5 := b2.past (a0g (a0g hbV2 hbV4) hbV5)
 refine yl 2 rfl 32 b2_w5 hT3 2 ?_
 refine yc 0 rfl 33 (sshr p6 _ c6 (be L) f.F T _ V5 o6.rd hn6 (by have := o6.le_cap; omega) (by omega) (by omega) rfl HTT.out) (fun Gx hGx => ?_)
 rintro eV6 V6 ⟨p33, c33, rfl, o33, hbV6⟩
 have hzV6 := hbV6.size
 refine ⟨_, rfl, hGx _ _ ?_⟩
 clear hGx Gx
 refine yzt 1 ?_
 refine yq ?_
 refine wp_seq ?_
 refine ye ?_
 rcases Bool.eq_false_or_eq_true (decide ((((dig B32 T).length : Nat) : Int) > 0)) with f36 | f36
 · refine yb 2 rfl 36 (decide ((((dig B32 T).length : Nat) : Int) > 0)) (true) (f36) ?_
   refine yzt 0 ?_
   refine yT ?_
   refine b0e ?_
   refine yv 1 rfl 38 (.pointer (some (at_ p33 0))) ?_ (p0a (p := p33) (n := (dig B32 T).length) (c := c33) (m := 0) b0v o33.rd.solid (by kernel_rfl) (by kernel_rfl) (by have := oTr f36; omega))
   refine yv 0 rfl 39 (.int .u32 (T : Int)) ?_ (k0z o33.rd h1l (m := 0) (by kernel_rfl) (by have := oTr f36; omega) (by rw [hTd (by have := oTr f36; omega)]))
   refine yi 0 rfl 40 (T : Int) ?_
   refine yz 1 ?_
   refine a0n ?_
   refine wp_seq ?_
   have b2_w6 := b2.past (a0g (a0g (a0g hbV2 hbV4) hbV5) hbV6)
   obtain ⟨V7, hVV7, hbV7, hzV7⟩ := o0u V6
   have b2_w7 := b2.past (a0g (a0g (a0g (a0g hbV2 hbV4) hbV5) hbV6) hbV7)
   refine yd1 hVV7 b2_w7 ?_
   clear hVV7
   refine yt 17 [0, 1] rfl b2_w7 ?_
   refine ytl 2 rfl 43 (fun _ h => h) hT3 1 b2_w7 ?_
   refine tk 3 44 (.int .i64 ((T / P : Nat) : Int)) b2_w7 ?_ (hy := fun w' _ => (u0r (X := (T : Int)) (Y := (f.E : Int)) (k2 := .i64) ((T / P : Nat) : Int) (by kernel_rfl) (by kernel_rfl) (Int.natCast_nonneg f.E) ((by first | exact HSHR.out | (rw [hT0.1 (by have := oFa f36; omega)]; exact HSHR0.out)))))
   refine tk 4 45 (.bool (T / P == 1)) b2_w7 ?_ (hy := fun w' _ => ((show _ = Result.ok (Next.value (.bool (((T / P : Nat) : Int) == 1))) _ from (by kernel_rfl)).trans (congrArg (fun z => Result.ok (Next.value (.bool z)) _) (show (((T / P : Nat) : Int) == 1) = ((T / P == 1)) from (by exact i0k _)))))
   refine yt 12 [5, 6] rfl b2_w7 ?_
   refine ytl 7 rfl 48 (fun _ h => h) hT3 1 b2_w7 ?_
   refine tk 8 49 (.int .i64 (P : Int)) b2_w7 ?_ (hy := fun w' _ => (k0y (X := (1)) (Y := (f.E : Int)) (k2 := .i64) (P : Int) (by kernel_rfl) (by kernel_rfl) (Int.natCast_nonneg f.E) ((HSH.out))))
   refine tk 9 50 (.int .i64 ((P - 1 : Nat) : Int)) b2_w7 ?_ (hy := fun w' _ => ((show _ = Result.ok (Next.value (.int .i64 (IntKind.wrap .i64 ((P : Int) - 1)))) _ by kernel_rfl).trans (congrArg (fun z => Result.ok (Next.value (.int .i64 z)) _) ((by rw [show ((P : Int) - 1) = ((P - 1 : Nat) : Int) by omega]; exact iwo)))))
   refine tk 10 51 (.int .i64 ((T % P : Nat) : Int)) b2_w7 ?_ (hy := fun w' _ => (u0z (X := (T : Int)) (Y := (((P - 1 : Nat) : Int))) ((T % P : Nat) : Int) (by kernel_rfl) (by kernel_rfl) ((by first | exact HAND.out (by omega) | (rw [hT0.1 (by have := oFa f36; omega)]; exact HAND0.out (by omega))))))
   refine yt 5 [11, 12, 13] rfl b2_w7 ?_
   refine ytl 14 rfl 55 (fun _ h => h) hT3 2 b2_w7 ?_
   refine sxr [15] ?_
   refine rd1 (fun Kx hKx => ?_)
   replace o33 := (o33.past hbV7)
   refine yck 56 (sshl p33 _ c33 T f.F (T * 2 ^ f.F) _ V7 o33.rd rfl (by omega) (by omega) rfl rfl) ?_
   rintro eV8 V8 ⟨p56, c56, rfl, o56, hbV8⟩
   have hzV8 := hbV8.size
   refine ⟨_, rfl, ?_⟩
   have b2_w8 := b2.past (a0g (a0g (a0g (a0g (a0g hbV2 hbV4) hbV5) hbV6) hbV7) hbV8)
   refine hKx.out _ _ b2_w8 ?_
   clear hKx Kx
   refine sxr [16] ?_
   refine rd1 (fun Kx hKx => ?_)
   replace o6 := (o6.past (a0g (a0g hbV6 hbV7) hbV8))
   refine yck 57 (ssub p6 p56 _ _ c6 c56 (be L) (T * 2 ^ f.F) (be L - T * 2 ^ f.F) V8 o6.rd o56.rd hn6 rfl (by omega) hle rfl) ?_
   rintro eV9 V9 ⟨p57, c57, rfl, o57, hbV9⟩
   have hzV9 := hbV9.size
   refine ⟨_, rfl, ?_⟩
   have b2_w9 := b2.past (a0g (a0g (a0g (a0g (a0g (a0g hbV2 hbV4) hbV5) hbV6) hbV7) hbV8) hbV9)
   refine hKx.out _ _ b2_w9 ?_
   clear hKx Kx
   refine yt 1 [17] rfl b2_w9 ?_
   refine sxr [18] ?_
   refine rd1 (fun Kx hKx => ?_)
   replace b4 := (b4.past (a0g (a0g (a0g (a0g (a0g hbV4 hbV5) hbV6) hbV7) hbV8) hbV9))
   refine ssk none b4 hT157 0 #[.bool (T / P == 1), .int .i64 ((T % P : Nat) : Int), .slice p57 (dig B32 (be L - T * 2 ^ f.F)).length c57] #[.bool (T / P == 1), .int .i64 ((T % P : Nat) : Int), .slice p57 (dig B32 (be L - T * 2 ^ f.F)).length c57] ?_
   have boV10 := b4
   clear b4
   intro V10 hOV10 b4
   have hzV10 := hOV10.size
   have b2_w10 := b2.past ((a0g (a0g (a0g (a0g (a0g (a0g hbV2 hbV4) hbV5) hbV6) hbV7) hbV8) hbV9).trans (hOV10.below (by omega)))
   refine hKx.out _ _ b2_w10 ?_
   clear hKx Kx
   refine l0n (by kernel_rfl) ?_
   refine a0n ?_
   refine wp_ret ?_
   repeat (first | with_reducible refine a0x ?_ | with_reducible refine a0o ?_)
   refine yret (.agg #[.bool (T / P == 1), .int .i64 ((T % P : Nat) : Int), .slice p57 (dig B32 (be L - T * 2 ^ f.F)).length c57]) (res1 Tryz.results148 (rvr b4 hT157)) ?_
   replace o57 := (o57.put boV10 hOV10 (by kernel_rfl))
   exact ⟨p57, c57, rfl, o57.mono (by omega), ((a0g (a0g (a0g (a0g (a0g (a0g (a0g hbV1 hbV2) hbV4) hbV5) hbV6) hbV7) hbV8) hbV9).trans (hOV10.below (by omega)))⟩
 refine yb 2 rfl 36 (decide ((((dig B32 T).length : Nat) : Int) > 0)) (false) (f36) ?_
 refine yzt 0 ?_
 refine yF ?_
 refine wp_skip ?_
 refine a0n ?_
 refine wp_seq ?_
 have b2_w6 := b2.past (a0g (a0g (a0g hbV2 hbV4) hbV5) hbV6)
 obtain ⟨V7, hVV7, hbV7, hzV7⟩ := o0u V6
 have b2_w7 := b2.past (a0g (a0g (a0g (a0g hbV2 hbV4) hbV5) hbV6) hbV7)
 refine yd1 hVV7 b2_w7 ?_
 clear hVV7
 refine yt 17 [0, 1] rfl b2_w7 ?_
 refine ytl 2 rfl 43 (fun _ h => h) hT3 1 b2_w7 ?_
 refine tk 3 44 (.int .i64 ((T / P : Nat) : Int)) b2_w7 ?_ (hy := fun w' _ => (u0r (X := (0)) (Y := (f.E : Int)) (k2 := .i64) ((T / P : Nat) : Int) (by kernel_rfl) (by kernel_rfl) (Int.natCast_nonneg f.E) ((by first | exact HSHR.out | (rw [hT0.1 (by have := oFa f36; omega)]; exact HSHR0.out)))))
 refine tk 4 45 (.bool (T / P == 1)) b2_w7 ?_ (hy := fun w' _ => ((show _ = Result.ok (Next.value (.bool (((T / P : Nat) : Int) == 1))) _ from (by kernel_rfl)).trans (congrArg (fun z => Result.ok (Next.value (.bool z)) _) (show (((T / P : Nat) : Int) == 1) = ((T / P == 1)) from (by exact i0k _)))))
 refine yt 12 [5, 6] rfl b2_w7 ?_
 refine ytl 7 rfl 48 (fun _ h => h) hT3 1 b2_w7 ?_
 refine tk 8 49 (.int .i64 (P : Int)) b2_w7 ?_ (hy := fun w' _ => (k0y (X := (1)) (Y := (f.E : Int)) (k2 := .i64) (P : Int) (by kernel_rfl) (by kernel_rfl) (Int.natCast_nonneg f.E) ((HSH.out))))
 refine tk 9 50 (.int .i64 ((P - 1 : Nat) : Int)) b2_w7 ?_ (hy := fun w' _ => ((show _ = Result.ok (Next.value (.int .i64 (IntKind.wrap .i64 ((P : Int) - 1)))) _ by kernel_rfl).trans (congrArg (fun z => Result.ok (Next.value (.int .i64 z)) _) ((by rw [show ((P : Int) - 1) = ((P - 1 : Nat) : Int) by omega]; exact iwo)))))
 refine tk 10 51 (.int .i64 ((T % P : Nat) : Int)) b2_w7 ?_ (hy := fun w' _ => (u0z (X := (0)) (Y := (((P - 1 : Nat) : Int))) ((T % P : Nat) : Int) (by kernel_rfl) (by kernel_rfl) ((by first | exact HAND.out (by omega) | (rw [hT0.1 (by have := oFa f36; omega)]; exact HAND0.out (by omega))))))
 refine yt 5 [11, 12, 13] rfl b2_w7 ?_
 refine ytl 14 rfl 55 (fun _ h => h) hT3 2 b2_w7 ?_
 refine sxr [15] ?_
 refine rd1 (fun Kx hKx => ?_)
 replace o33 := (o33.past hbV7)
 refine yck 56 (sshl p33 _ c33 T f.F (T * 2 ^ f.F) _ V7 o33.rd rfl (by omega) (by omega) rfl rfl) ?_
 rintro eV8 V8 ⟨p56, c56, rfl, o56, hbV8⟩
 have hzV8 := hbV8.size
 refine ⟨_, rfl, ?_⟩
 have b2_w8 := b2.past (a0g (a0g (a0g (a0g (a0g hbV2 hbV4) hbV5) hbV6) hbV7) hbV8)
 refine hKx.out _ _ b2_w8 ?_
 clear hKx Kx
 refine sxr [16] ?_
 refine rd1 (fun Kx hKx => ?_)
 replace o6 := (o6.past (a0g (a0g hbV6 hbV7) hbV8))
 refine yck 57 (ssub p6 p56 _ _ c6 c56 (be L) (T * 2 ^ f.F) (be L - T * 2 ^ f.F) V8 o6.rd o56.rd hn6 rfl (by omega) hle rfl) ?_
 rintro eV9 V9 ⟨p57, c57, rfl, o57, hbV9⟩
 have hzV9 := hbV9.size
 refine ⟨_, rfl, ?_⟩
 have b2_w9 := b2.past (a0g (a0g (a0g (a0g (a0g (a0g hbV2 hbV4) hbV5) hbV6) hbV7) hbV8) hbV9)
 refine hKx.out _ _ b2_w9 ?_
 clear hKx Kx
 refine yt 1 [17] rfl b2_w9 ?_
 refine sxr [18] ?_
 refine rd1 (fun Kx hKx => ?_)
 replace b4 := (b4.past (a0g (a0g (a0g (a0g (a0g hbV4 hbV5) hbV6) hbV7) hbV8) hbV9))
 refine ssk none b4 hT157 0 #[.bool (T / P == 1), .int .i64 ((T % P : Nat) : Int), .slice p57 (dig B32 (be L - T * 2 ^ f.F)).length c57] #[.bool (T / P == 1), .int .i64 ((T % P : Nat) : Int), .slice p57 (dig B32 (be L - T * 2 ^ f.F)).length c57] ?_
 have boV10 := b4
 clear b4
 intro V10 hOV10 b4
 have hzV10 := hOV10.size
 have b2_w10 := b2.past ((a0g (a0g (a0g (a0g (a0g (a0g hbV2 hbV4) hbV5) hbV6) hbV7) hbV8) hbV9).trans (hOV10.below (by omega)))
 refine hKx.out _ _ b2_w10 ?_
 clear hKx Kx
 refine l0n (by kernel_rfl) ?_
 refine a0n ?_
 refine wp_ret ?_
 repeat (first | with_reducible refine a0x ?_ | with_reducible refine a0o ?_)
 refine yret (.agg #[.bool (T / P == 1), .int .i64 ((T % P : Nat) : Int), .slice p57 (dig B32 (be L - T * 2 ^ f.F)).length c57]) (res1 Tryz.results148 (rvr b4 hT157)) ?_
 replace o57 := (o57.put boV10 hOV10 (by kernel_rfl))
 exact ⟨p57, c57, rfl, o57.mono (by omega), ((a0g (a0g (a0g (a0g (a0g (a0g (a0g hbV1 hbV2) hbV4) hbV5) hbV6) hbV7) hbV8) hbV9).trans (hOV10.below (by omega)))⟩
theorem a1q (g : Gd) (w : World) :
 Calls Tryz.prog 109 #[.agg #[.int .i64 g.rad, .int .i64 g.digs, .int .i64 g.lo, .int .i64 g.hi, .bool g.grad]] w fun e w' => e = .returned (.int .i64 (wid g : Nat)) ∧ Below w.heap.size w w' := by
 obtain ⟨rad, digs, lo, hi, grad⟩ := g
 simp only
 unfold wid
 simp only
 have hb : Below w.heap.size w (w.alloc (.cells #[.int .i64 rad, .int .i64 digs, .int .i64 lo, .int .i64 hi, .bool grad] 54)) := b0n _ _
 by_cases h : rad = 16
 · subst h
   go_enter Tryz.func109, Tryz.ntmps109
   go_wp2
   go_ret
   exact ⟨by simp, hb⟩
 · have h1 : (rad == 16) = false := bFn h
   rw [if_neg h]
   clear h
   go_enter Tryz.func109, Tryz.ntmps109
   go_wp2
   go_ret
   exact ⟨rfl, hb⟩
theorem w0p {n : Int} {d : Nat} (hd : 1 ≤ d) (_h : n < 0) : -(((d : Int) - 1 - n) / d) = n / d := by
 have h1 := e0j n d hd
 have h2 := e0j ((d : Int) - 1 - n) d hd
 have hp : (0 : Int) < d := by omega
 generalize n / (d : Int) = x at *
 generalize ((d : Int) - 1 - n) / (d : Int) = y at *
 have h3 : (d : Int) * (x + y) < d := by rw [Int.mul_add]; omega
 have h4 : (d : Int) * (-1) < d * (x + y) := by rw [Int.mul_add]; omega
 have h5 := Int.lt_of_mul_lt_mul_left h4 (by omega)
 have h6 : (d : Int) * (x + y) < d * 1 := by omega
 have h7 := Int.lt_of_mul_lt_mul_left h6 (by omega)
 omega
theorem w0q (n : Int) (d : Nat) (w : World) (hn : -1000000000 ≤ n ∧ n ≤ 1000000000) (hd : 1 ≤ d) (hd2 : d ≤ 1000) :
 Calls Tryz.prog 138 #[.int .i64 n, .int .i64 d] w fun e w' => e = .returned (.int .i64 (n / (d : Int))) ∧ w = w' := by
 obtain ⟨hn1, hn2⟩ := hn
 have t1 : ((d : Int) == 0) = false := bFn (by omega)
 by_cases h : n < 0
 · have hq := Int.ediv_le_self (a := (d : Int) - 1 - n) (d : Int) (by omega)
   have hq0 := Int.ediv_nonneg (a := (d : Int) - 1 - n) (b := (d : Int)) (by omega) (by omega)
   rw [← w0p hd h]
   go_enter Tryz.func138, Tryz.ntmps138
   go_wp2
   go_ret
   exact ⟨rfl, rfl⟩
 · have hq := Int.ediv_le_self (a := n) (d : Int) (by omega)
   have hq0 := Int.ediv_nonneg (a := n) (b := (d : Int)) (by omega) (by omega)
   go_enter Tryz.func138, Tryz.ntmps138
   go_wp2
   go_ret
   exact ⟨rfl, rfl⟩
theorem j0e (a N n : Nat) (h : (dig B32 a).length ≤ n) : (dig B32 (a * 2 ^ N)).length ≤ n + (N / 32 + 1) := Nat.le_trans (s0s a N) (by omega)
theorem p0m {a : Nat} {n : Int} (h : (dig B32 a).length ≤ 1000000) (hn : -10000000 ≤ n ∧ n ≤ 10000000) : (dig B32 (numP a n)).length ≤ 1400000 := by
 have := j0e a n.toNat _ h; unfold numP; omega
theorem p0n {a : Nat} {n : Int} (h : (dig B32 a).length ≤ 1000000) (hn : -10000000 ≤ n ∧ n ≤ 10000000) : (dig B32 (denP a n)).length ≤ 1400000 := by
 have := j0e a (-n).toNat _ h; unfold denP; omega
theorem t0m (w : World) : Calls Tryz.prog 65 #[.int .i64 1] w (g0f w .u32 141 (dig B32 1)) := a1j 1 w (by omega)
def k1f (w : World) (q0 : Option Addr) (x y z : Nat) (en : Ending) (w' : World) : Prop :=
 ∃ p c q d r f, en = .returned (.tuple #[.slice p (dig B32 x).length c, .slice q (dig B32 y).length d, .slice r (dig B32 z).length f]) ∧ Own w' w.heap.size .u32 141 p c (dig B32 x) ∧ Own w' w.heap.size .u32 141 q d (dig B32 y) ∧ Rd w' .u32 r (dig B32 z) ∧ (r = q0 ∨ (0 < (dig B32 z).length → w.heap.size ≤ blk r)) ∧ Below w.heap.size w w'
theorem k0i (p q : Option Addr) (m k c d : Nat) (a b : Nat) (n : Int) (w : World) (hp : Rd w .u32 p (dig B32 a)) (hq : Rd w .u32 q (dig B32 b)) (hm : m = (dig B32 a).length) (hk : k = (dig B32 b).length)
 (hl : (dig B32 a).length ≤ 1000000) (hl2 : (dig B32 b).length ≤ 1000000) (hb : 0 < b) (hn : -10000000 ≤ n ∧ n ≤ 10000000) :
 Calls Tryz.prog 139 #[.slice p m c, .slice q k d, .int .i64 n] w (k1f w q (qP a b n) (rP a b n) (denP b n)) := by
 subst hm hk
 have l1 := p0m hl hn
 have l2 := p0n hl2 hn
 have h0 := h0q hb n
 unfold qP rP
 by_cases h : 0 ≤ n
 · obtain ⟨N, rfl⟩ : ∃ N : Nat, n = N := ⟨n.toNat, by omega⟩
   have e1 : denP b (N : Int) = b := by unfold denP; rw [show (-(N : Int)).toNat = 0 by omega, Nat.pow_zero, Nat.mul_one]
   have HN := hi0 (show numP a (N : Int) = a * 2 ^ N by unfold numP; rw [Int.toNat_natCast])
   rw [e1] at l2 h0 ⊢
   clear e1
   generalize numP a (N : Int) = x at *
   go_enter Tryz.func139, Tryz.ntmps139
   go_wp2_with fail
   ((with_reducible refine (g0v p _ c a N _ hp rfl (by omega) (by omega)).mono ?_))
   rintro e1 w1 ⟨p1, c1, rfl, ho1, hb1⟩
   replace hp := hp.past hb1
   replace hq := hq.past hb1
   have hs1 := hb1
   rw [← HN.out] at ho1 ⊢
   go_wp2_with fail
   ((with_reducible refine (m0c p1 q _ _ c1 d x b _ ho1.rd hq rfl rfl (by omega) (by omega) h0).mono ?_))
   rintro e2 w2 ⟨p2, c2, q2, d2, rfl, ho2, ho3, hb2, -⟩
   replace hp := hp.past hb2
   replace hq := hq.past hb2
   replace ho1 := ho1.past hb2
   have hs2 := hs1.trans (hb2.mono hs1.size)
   go_wp2_with fail
   refine bodyPost_ret (v := .tuple #[.slice p2 (dig B32 (x / b)).length c2, .slice q2 (dig B32 (x % b)).length d2, .slice q (dig B32 b).length d]) (by simp [results, Tryz.results139, go_sem]) rfl ?_
   exact ⟨p2, c2, q2, d2, q, d, rfl, ho2.mono hs1.size, ho3.mono hs1.size, hq, .inl rfl, hs2⟩
 · obtain ⟨N, rfl⟩ : ∃ N : Nat, n = -(N : Int) := ⟨(-n).toNat, by omega⟩
   have e1 : numP a (-(N : Int)) = a := by unfold numP; rw [show (-(N : Int)).toNat = 0 by omega, Nat.pow_zero, Nat.mul_one]
   have HN := hi0 (show denP b (-(N : Int)) = b * 2 ^ N by unfold denP; rw [show (-(-(N : Int))).toNat = N by omega])
   rw [e1] at l1 ⊢
   clear e1
   generalize denP b (-(N : Int)) = x at *
   go_enter Tryz.func139, Tryz.ntmps139
   go_wp2_with fail
   ((with_reducible refine (g0v q _ d b N _ hq rfl (by omega) (by omega)).mono ?_))
   rintro e1 w1 ⟨p1, c1, rfl, ho1, hb1⟩
   replace hp := hp.past hb1
   replace hq := hq.past hb1
   have hs1 := hb1
   rw [← HN.out] at ho1 ⊢
   go_wp2_with fail
   ((with_reducible refine (m0c p p1 _ _ c c1 a x _ hp ho1.rd rfl rfl (by omega) (by omega) h0).mono ?_))
   rintro e2 w2 ⟨p2, c2, q2, d2, rfl, ho2, ho3, hb2, -⟩
   replace hp := hp.past hb2
   replace hq := hq.past hb2
   replace ho1 := ho1.past hb2
   have hs2 := hs1.trans (hb2.mono hs1.size)
   go_wp2_with fail
   refine bodyPost_ret (v := .tuple #[.slice p2 (dig B32 (a / x)).length c2, .slice q2 (dig B32 (a % x)).length d2, .slice p1 (dig B32 x).length c1]) (by simp [results, Tryz.results139, go_sem]) rfl ?_
   exact ⟨p2, c2, q2, d2, p1, c1, rfl, ho2.mono hs1.size, ho3.mono hs1.size, ho1.rd, .inr fun h => (ho1.blk_lt (ho1.rd.solid h).1).1, hs2⟩
end Go.Proofs.YtmacohmclpnphaaGreatDoor
namespace Go.Slip
open Go.RowKit Go.MapKept
section
variable {P : Program} {w : World} {ik : IntKind}
theorem r0i (ik : IntKind) (k : Int) : IsKey (.int ik) (.int ik k) := by first | rfl | (simp [IsKey]) | (cases ik <;> rfl)
theorem d0w {mt kt vt : TypeId} (hm : P.underlying mt = some (.map kt vt)) (hk : P.underlying kt = some (.int ik)) (es : Array MapEntry) (clock : Nat) (k : Int) (v : Value)
 (hf : Instr.findNow (.int ik) (.int ik k) es.toList 0 = some none) :
 (Instr.mapUpdate mt (.map (some w.heap.size)) (.int ik k) v).run P (w.alloc (.map es clock)) = .ok () (w.alloc (.map (es.push ⟨.int ik k, v, clock⟩) (clock + 1))) := by
 have hb : (w.alloc (.map es clock)).heap[w.heap.size]? = some (.map es clock) := by show (w.heap.push _)[_]? = _; simp
 simp [Instr.mapUpdate, run_underlying hm, MapKept.run_getObj_map hb, run_checkKey hk (r0i ik k), run_findKey hk hf, run_setObj_map _ hb, Result.andThen]
 have e : (w.heap.push (.map es clock)).setIfInBounds w.heap.size (.map (es.push ⟨.int ik k, v, clock⟩) (clock + 1)) = w.heap.push (.map (es.push ⟨.int ik k, v, clock⟩) (clock + 1)) := by
  apply Array.ext'
  simp
 show World.mk _ _ _ _ _ = World.mk _ _ _ _ _
 congr 1
theorem i0a {mt kt vt : TypeId} {b : Nat} {es : Array MapEntry} {clock : Nat} (hm : P.underlying mt = some (.map kt vt)) (hk : P.underlying kt = some (.int ik)) (hb : w.heap[b]? = some (.map es clock)) (k : Int)
 {i : Nat} {v : Value} (hf : Instr.findNow (.int ik) (.int ik k) es.toList 0 = some (some (i, v))) :
 (Instr.lookup mt (.map (some b)) (.int ik k) false).run P w = .ok v w := by
 simp [Instr.lookup, run_underlying hm, MapKept.run_getObj_map hb, run_checkKey hk (r0i ik k), run_findKey hk hf, Result.andThen]
theorem w0r {ops : Array Oper} {rest : List Oper} {o : Oper} {a : Act} {Q : Exit → Act → World → Prop}
 (hg : o.guard = none) (m x v : Operand) (t : TypeId) (hop : o.op = Op.insert t m x v) {kt vt : TypeId} (hm : P.underlying t = some (.map kt vt)) (hk : P.underlying kt = some (.int ik)) {es : Array MapEntry} {clock : Nat} {k : Int} {val : Value}
 (h1 : a.eval m = .map (some w.heap.size)) (h2 : a.eval x = .int ik k) (h3 : a.eval v = val) (hf : Instr.findNow (.int ik) (.int ik k) es.toList 0 = some none)
 (h : wpList P ops Q rest (a.put o.dst undef) (w.alloc (.map (es.push ⟨.int ik k, val, clock⟩) (clock + 1)))) : wpList P ops Q (o :: rest) a (w.alloc (.map es clock)) := by
 refine wpList_plain hg fun K' hK' => ?_
 unfold Oper.wp
 simp [execOp, hop, h1, h2, h3, d0w hm hk es clock k val hf, Result.andThen]
 exact hK' _ _ h
end
end Go.Slip
namespace Go.Proofs.YtmacohmclpnphaaGreatDoor
open Go.RowKit Go.Slip
def t0n : Array MapEntry := #[⟨.int .i64 1, .func (.func 174) #[] #[], 0⟩, ⟨.int .i64 2, .func (.func 175) #[] #[], 1⟩, ⟨.int .i64 3, .func (.func 176) #[] #[], 2⟩, ⟨.int .i64 4, .func (.func 177) #[] #[], 3⟩, ⟨.int .i64 5, .func (.func 178) #[] #[], 4⟩]
theorem f1q : Tryz.prog.underlying 189 = some (.map 3 188) := by kernel_rfl
def Ways (w : World) (b : Nat) : Prop := w.heap[b]? = some (.map t0n 5)
theorem Ways.past {w w' : World} {b : Nat} (h : Ways w b) (hb : Below w.heap.size w w') : Ways w' b := (hb.block b (Array.getElem?_eq_some_iff.1 h).1).trans h
theorem h1o (w : World) :
 Calls Tryz.prog 140 #[] w fun e w' => e = .returned (.map (some w.heap.size)) ∧ Ways w' w.heap.size ∧ Below w.heap.size w w' := by
 have hmm := @run_makeMap Tryz.prog
 go_enter Tryz.func140, Tryz.ntmps140
 go_wp2_with (refine w0r rfl _ _ _ _ rfl f1q Tryz.underlying3 rfl rfl rfl rfl ?_)
 go_ret
 exact ⟨rfl, by show (w.heap.push _)[_]? = _; simp [t0n], (Below.refl _ _).alloc (Nat.le_refl _) _⟩
def wayF (k : Int) : Value := if k = 1 then .func (.func 174) #[] #[] else if k = 2 then .func (.func 175) #[] #[] else if k = 3 then .func (.func 176) #[] #[]
 else if k = 4 then .func (.func 177) #[] #[] else if k = 5 then .func (.func 178) #[] #[] else .nilFunc
theorem w0s {k : Int} (h1 : 1 ≤ k) (h2 : k ≤ 5) : ∃ i, Instr.findNow (.int .i64) (.int .i64 k) t0n.toList 0 = some (some (i, wayF k)) := by
 obtain rfl | rfl | rfl | rfl | rfl : k = 1 ∨ k = 2 ∨ k = 3 ∨ k = 4 ∨ k = 5 := by omega
 · exact ⟨0, rfl⟩
 · exact ⟨1, rfl⟩
 · exact ⟨2, rfl⟩
 · exact ⟨3, rfl⟩
 · exact ⟨4, rfl⟩
theorem h1p {w : World} {b : Nat} (h : Ways w b) {k : Int} (h1 : 1 ≤ k) (h2 : k ≤ 5) :
 (Instr.lookup 189 (.map (some b)) (.int .i64 k) false).run Tryz.prog w = .ok (wayF k) w := by
 obtain ⟨i, hi⟩ := w0s h1 h2
 exact i0a f1q Tryz.underlying3 h k hi
def wayB (k : Int) : Bool := decide (1 ≤ k) && decide (k ≤ 5)
theorem r0j {k : Int} (h1 : 1 ≤ k) (h2 : k ≤ 5) : wayB k = true := by unfold wayB; simp [h1, h2]
theorem k0j {k : Int} (h : k < 1 ∨ 5 < k) : wayB k = false := by
 unfold wayB
 rcases h with h | h
 · rw [decide_eq_false (by omega)]; rfl
 · rw [decide_eq_false (p := k ≤ 5) (by omega)]; simp
theorem d1j (neg odd : Bool) (half : Int) (w : World) :
 Calls Tryz.prog 174 #[.bool neg, .bool odd, .int .i64 half] w fun e w' => e = .returned (.bool (e0x 1 neg odd half)) ∧ w' = w := by
 unfold e0x
 simp only [if_true]
 by_cases h : 0 < half
 · go_enter Tryz.func174, Tryz.ntmps174
   go_wp2
   go_ret
   exact ⟨by simp [h], rfl⟩
 · by_cases h0 : half = 0
   · subst h0
     cases odd
     · go_enter Tryz.func174, Tryz.ntmps174
       go_wp2
       go_ret
       exact ⟨rfl, rfl⟩
     · go_enter Tryz.func174, Tryz.ntmps174
       go_wp2
       go_ret
       exact ⟨rfl, rfl⟩
   · have t0 : (half == 0) = false := bFn h0
     have H := hi0 h0
     clear h0
     go_enter Tryz.func174, Tryz.ntmps174
     go_wp2
     go_ret
     exact ⟨by simp [H.out, show ¬ 0 < half from by omega], rfl⟩
theorem d1k (neg odd : Bool) (half : Int) (w : World) :
 Calls Tryz.prog 175 #[.bool neg, .bool odd, .int .i64 half] w fun e w' => e = .returned (.bool (e0x 2 neg odd half)) ∧ w' = w := by
 have e : e0x 2 neg odd half = decide (0 ≤ half) := rfl
 rw [e]
 clear e
 by_cases h : 0 ≤ half
 · go_enter Tryz.func175, Tryz.ntmps175
   go_wp2
   go_ret
   exact ⟨by simp [h], rfl⟩
 · go_enter Tryz.func175, Tryz.ntmps175
   go_wp2
   go_ret
   exact ⟨by simp; omega, rfl⟩
theorem d1l (neg odd : Bool) (half : Int) (w : World) :
 Calls Tryz.prog 176 #[.bool neg, .bool odd, .int .i64 half] w fun e w' => e = .returned (.bool (e0x 3 neg odd half)) ∧ w' = w := by
 have e : e0x 3 neg odd half = false := rfl
 rw [e]
 clear e
 go_enter Tryz.func176, Tryz.ntmps176
 go_wp2
 go_ret
 exact ⟨rfl, rfl⟩
theorem d1m (neg odd : Bool) (half : Int) (w : World) :
 Calls Tryz.prog 177 #[.bool neg, .bool odd, .int .i64 half] w fun e w' => e = .returned (.bool (e0x 4 neg odd half)) ∧ w' = w := by
 have e : e0x 4 neg odd half = !neg := rfl
 rw [e]
 clear e
 go_enter Tryz.func177, Tryz.ntmps177
 go_wp2
 go_ret
 exact ⟨rfl, rfl⟩
theorem d1n (neg odd : Bool) (half : Int) (w : World) :
 Calls Tryz.prog 178 #[.bool neg, .bool odd, .int .i64 half] w fun e w' => e = .returned (.bool (e0x 5 neg odd half)) ∧ w' = w := by
 have e : e0x 5 neg odd half = neg := rfl
 rw [e]
 clear e
 go_enter Tryz.func178, Tryz.ntmps178
 go_wp2
 go_ret
 exact ⟨rfl, rfl⟩
theorem a1r {k : Int} (h1 : 1 ≤ k) (h2 : k ≤ 5) :
 ∃ f, wayF k = .func (.func f) #[] #[] ∧ (∀ (neg odd : Bool) (half : Int) (w : World), Calls Tryz.prog f #[.bool neg, .bool odd, .int .i64 half] w fun e w' => e = .returned (.bool (e0x k neg odd half)) ∧ w' = w) ∧ ∀ args w, (callFunc f args).run Tryz.prog w = .ok (.enter f args) w := by
 obtain rfl | rfl | rfl | rfl | rfl : k = 1 ∨ k = 2 ∨ k = 3 ∨ k = 4 ∨ k = 5 := by omega
 · exact ⟨_, rfl, d1j, fun _ _ => by kernel_rfl⟩
 · exact ⟨_, rfl, d1k, fun _ _ => by kernel_rfl⟩
 · exact ⟨_, rfl, d1l, fun _ _ => by kernel_rfl⟩
 · exact ⟨_, rfl, d1m, fun _ _ => by kernel_rfl⟩
 · exact ⟨_, rfl, d1n, fun _ _ => by kernel_rfl⟩
end Go.Proofs.YtmacohmclpnphaaGreatDoor
